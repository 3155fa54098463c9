/- What PutRec, PutOp, PutAns and Compare tell: the program's and the document's are the same. -/
import Derived.Test.YtiglmgmkablpkaaPointBase
import Derived.Test.YtiglmgmkablpkaaPointCmp
import Derived.Test.YtiglmgmkablpkaaPKx4
import Derived.Test.YtiglmgmkablpkaaPKx3
namespace Go.Proofs.Ytiglmgmkablpkaa.PK
open Go.RowKit Go.Proofs.YtiglmgmkablpkaaW.PrintWords Go.Proofs.YtiglmgmkablpkaaW.PrintLast Go.Proofs.YtiglmgmkablpkaaW.PrintMore
set_option linter.unusedVariables false
set_option linter.unusedSimpArgs false
/-- What wire.Num writes of any number. -/
def wB (n : Int) : List Int := if 0 ≤ n ∧ n ≤ 9007199254740992 then numB 8 n else []
def wE (n : Int) : Int := if 0 ≤ n ∧ n ≤ 9007199254740992 then 0 else 1
def wT (s : ByteArray) : List Int := numB 8 s.size ++ bytesOf s
theorem wB_f (n : Int) : wire_Num.f 100 n = some (wB n, wE n) := by
  unfold wB wE
  by_cases h : 0 ≤ n ∧ n ≤ 9007199254740992
  · rw [if_pos h, if_pos h]
    exact wnum_yes h.1 h.2 90
  · rw [if_neg h, if_neg h]
    exact wnum_no (by omega) 99
theorem wT_f (s : ByteArray) (h : s.size ≤ 500) : wire_Text.f 100 s = some (wT s, 0) := wtext_yes s (by omega) 90
theorem rT_f (s : ByteArray) (h : s.size ≤ 500) : gleberef01_Text.f 100 s = some (wT s) := rtext_yes s (by omega) 90
theorem rB_f {n : Int} (h0 : 0 ≤ n) (h1 : n ≤ 1099511627776) : gleberef01_Num.f 100 n = some (wB n) := by
  unfold wB
  rw [if_pos ⟨h0, by omega⟩]
  exact rnum_yes h0 (by omega) 90
theorem rT_g (k : Nat) (s : ByteArray) (h : s.size ≤ 500) : gleberef01_Text.f (k + 10) s = some (wT s) := rtext_yes s (by omega) k
theorem rB_g (k : Nat) {n : Int} (h0 : 0 ≤ n) (h1 : n ≤ 1099511627776) : gleberef01_Num.f (k + 10) n = some (wB n) := by
  unfold wB
  rw [if_pos ⟨h0, by omega⟩]
  exact rnum_yes h0 (by omega) k
theorem wB_len (n : Int) : (wB n).length ≤ 9 := by
  unfold wB
  split
  · exact numB_len 8 n
  · simp
theorem wT_len (s : ByteArray) (h : s.size ≤ 500) : (wT s).length ≤ 509 := by
  unfold wT
  have := numB_len 8 s.size
  have e : (bytesOf s).length = s.size := by simp [bytesOf]
  rw [List.length_append, e]
  omega
theorem join_go (ls : List (List Int)) (hlen : ls.length ≤ 20) : ∀ (m i k : Nat) (acc : List Int), i + m = ls.length → m < k → acc.length + ((ls.drop i).flatten).length ≤ 100000 → gleberef07_join.l0 k ls acc (i : Int) = some (acc ++ (ls.drop i).flatten) := by
  intro m
  induction m with
  | zero =>
    intro i k acc h hk hl
    obtain ⟨k, rfl⟩ : ∃ j, k = j + 1 := ⟨k - 1, by omega⟩
    rw [gleberef07_join.l0, if_neg (by omega), List.drop_eq_nil_of_le (by omega)]
    simp
  | succ m ih =>
    intro i k acc h hk hl
    obtain ⟨k, rfl⟩ : ∃ j, k = j + 1 := ⟨k - 1, by omega⟩
    have hi : i < ls.length := by omega
    have hd : ls.drop i = ls[i] :: ls.drop (i + 1) := List.drop_eq_getElem_cons hi
    have hr : rd_L4 ls (i : Int) = ls[i] := by
      unfold rd_L4
      simp [hi]
    have hw : wrap64 ((i : Int) + 1) = ((i + 1 : Nat) : Int) := by
      unfold wrap64
      omega
    rw [hd, List.flatten_cons, List.length_append] at hl
    rw [gleberef07_join.l0, if_pos (by omega), if_pos (by omega), hr, if_pos (by omega), hw, ih (i + 1) k (acc ++ ls[i]) (by omega) (by omega) (by rw [List.length_append]; omega), hd, List.flatten_cons, List.append_assoc]
theorem join_f (k : Nat) (ls : List (List Int)) (hlen : ls.length ≤ 20) (hk : 30 ≤ k) (h : ls.flatten.length ≤ 100000) : gleberef07_join.f k ls = some ls.flatten := by
  unfold gleberef07_join.f
  have := join_go ls hlen ls.length 0 k [] (by omega) (by omega) (by simpa using h)
  simpa using this
theorem put_rec (px py : Int) (key val : ByteArray) (ver : Int) (rr : Bool) (h : gleberef07_RightRec.f px py key val ver = some rr) (hr : rr = true → 0 ≤ px ∧ px ≤ 65535 ∧ 0 ≤ py ∧ py ≤ 65535 ∧ (key.size : Int) ≤ 16 ∧ (val.size : Int) ≤ 32 ∧ 1 ≤ ver ∧ ver ≤ 1099511627776) :
    gleberef07_PutRec.f 100 px py key val ver = some (if rr then ([px, py] : List Int).flatMap wB ++ ([key, val] : List ByteArray).flatMap wT ++ ([ver] : List Int).flatMap wB else []) := by
  unfold gleberef07_PutRec.f
  rw [h, Option.bind_some]
  cases rr
  · rfl
  · obtain ⟨h1, h2, h3, h4, h5, h6, h7, h8⟩ := hr rfl
    simp only [if_true, rB_f h1 (by omega : px ≤ 1099511627776), rB_f h3 (by omega : py ≤ 1099511627776), rT_f key (by omega), rT_f val (by omega), rB_f (by omega : 0 ≤ ver) h8, Option.bind_some]
    have l1 := wB_len px
    have l2 := wB_len py
    have l3 := wT_len key (by omega)
    have l4 := wT_len val (by omega)
    have l5 := wB_len ver
    rw [join_f 100 _ (by simp) (by decide) (by simp; omega)]
    simp
theorem put_op (kd px py : Int) (key val : ByteArray) (cli seq : Int) (rr : Bool) (h : gleberef07_RightOp.f kd px py key val cli seq = some rr) (hr : rr = true → 1 ≤ kd ∧ kd ≤ 3 ∧ 0 ≤ px ∧ px ≤ 65535 ∧ 0 ≤ py ∧ py ≤ 65535 ∧ (key.size : Int) ≤ 16 ∧ (val.size : Int) ≤ 32 ∧ 0 ≤ cli ∧ cli ≤ 7 ∧ 1 ≤ seq ∧ seq ≤ 1099511627776) :
    gleberef07_PutOp.f 100 kd px py key val cli seq = some (if rr then ([kd, px, py] : List Int).flatMap wB ++ ([key, val] : List ByteArray).flatMap wT ++ ([cli, seq] : List Int).flatMap wB else []) := by
  unfold gleberef07_PutOp.f
  rw [h, Option.bind_some]
  cases rr
  · rfl
  · obtain ⟨g1, g2, h1, h2, h3, h4, h5, h6, c1, c2, h7, h8⟩ := hr rfl
    simp only [if_true, rB_f (by omega : 0 ≤ kd) (by omega : kd ≤ 1099511627776), rB_f h1 (by omega : px ≤ 1099511627776), rB_f h3 (by omega : py ≤ 1099511627776), rT_f key (by omega), rT_f val (by omega), rB_f c1 (by omega : cli ≤ 1099511627776), rB_f (by omega : 0 ≤ seq) h8, Option.bind_some]
    have l0 := wB_len kd
    have l1 := wB_len px
    have l2 := wB_len py
    have l3 := wT_len key (by omega)
    have l4 := wT_len val (by omega)
    have l5 := wB_len cli
    have l6 := wB_len seq
    rw [join_f 100 _ (by simp) (by decide) (by simp; omega)]
    simp
theorem put_ans (e : Int) (f : Bool) (v : ByteArray) (n : Int) (rr : Bool) (h : gleberef07_RightAns.f e f v n = some rr) (hr : rr = true → 0 ≤ e ∧ e ≤ 255 ∧ (v.size : Int) ≤ 32 ∧ 0 ≤ n ∧ n ≤ 1099511627776) :
    gleberef07_PutAns.f 100 e f v n = some (if rr then ([e, pbit f] : List Int).flatMap wB ++ ([v] : List ByteArray).flatMap wT ++ ([n] : List Int).flatMap wB else []) := by
  unfold gleberef07_PutAns.f
  rw [h, Option.bind_some]
  cases rr
  · rfl
  · obtain ⟨h1, h2, h3, h7, h8⟩ := hr rfl
    have l1 := wB_len e
    have l2 := wB_len (pbit f)
    have l3 := wT_len v (by omega)
    have l5 := wB_len n
    cases f
    · have hb := rB_g 89 (n := 0) (by decide) (by decide)
      simp only [if_true, if_false, Bool.false_eq_true, gleberef07_PutAns.j0, rB_g 89 h1 (by omega : e ≤ 1099511627776), rT_g 89 v (by omega), rB_g 89 h7 h8, hb, Option.bind_some]
      have l2 : (wB 0).length ≤ 9 := l2
      rw [join_f 99 _ (by simp) (by decide) (by simp; omega)]
      simp [pbit]
    · have hb := rB_g 89 (n := 1) (by decide) (by decide)
      simp only [if_true, gleberef07_PutAns.j0, rB_g 89 h1 (by omega : e ≤ 1099511627776), rT_g 89 v (by omega), rB_g 89 h7 h8, hb, Option.bind_some]
      have l2 : (wB 1).length ≤ 9 := l2
      rw [join_f 99 _ (by simp) (by decide) (by simp; omega)]
      simp [pbit]
theorem bl_cb : ∀ a b : List UInt8, Op.bytesLess a b = true ↔ Lib.compareBytes a b = -1
  | [], [] => by simp [Op.bytesLess, Lib.compareBytes]
  | [], _ :: _ => by simp [Op.bytesLess, Lib.compareBytes]
  | _ :: _, [] => by simp [Op.bytesLess, Lib.compareBytes]
  | x :: a, y :: b => by
    have ih := bl_cb a b
    unfold Op.bytesLess Lib.compareBytes
    by_cases h1 : x < y
    · simp [h1]
    · by_cases h2 : y < x
      · have : x ≠ y := by rintro rfl; exact h1 h2
        simp [h1, h2, this]
      · have : x = y := by
          simp only [UInt8.lt_iff_toNat_lt] at h1 h2
          exact UInt8.toNat_inj.mp (by omega)
        subst this
        simp [h1, ih]
theorem ref_cmp (ax ay : Int) (ak : ByteArray) (bx bY : Int) (bk : ByteArray) : refCmp ax ay ak bx bY bk = cmpP ax ay ak bx bY bk := by
  unfold refCmp cmpP or3 cI
  have h1 := bl_cb ak.data.toList bk.data.toList
  have h2 := cb_zero ak.data.toList bk.data.toList
  have h3 := cb_range ak.data.toList bk.data.toList
  have e1 : (Op.bytesLess ak.toList bk.toList = true) = (cB ak bk = -1) := by
    rw [ByteArray.toList_eq, ByteArray.toList_eq]
    exact propext h1
  have e2 : ((ak.toList == bk.toList) = true) = (cB ak bk = 0) := by
    rw [beq_iff_eq, ByteArray.toList_eq, ByteArray.toList_eq]
    exact propext h2.symm
  have h3 : -1 ≤ cB ak bk ∧ cB ak bk ≤ 1 := h3
  simp only [e1, e2]
  clear h1 h2 e1 e2
  generalize cB ak bk = p at h3
  repeat' split
  all_goals omega
theorem long_go (l : List ByteArray) (hl : l.length ≤ 100) : ∀ (m i k : Nat), i + m = l.length → m < k → ∃ b, glebelaw07_long.l0 k l (i : Int) = some b ∧ (b = false → ∀ j, i ≤ j → ∀ h : j < l.length, (l[j]).size ≤ 500) := by
  intro m
  induction m with
  | zero =>
    intro i k h hk
    obtain ⟨k, rfl⟩ : ∃ j, k = j + 1 := ⟨k - 1, by omega⟩
    exact ⟨false, by rw [glebelaw07_long.l0, if_neg (by omega)], fun _ j h1 h2 => by omega⟩
  | succ m ih =>
    intro i k h hk
    obtain ⟨k, rfl⟩ : ∃ j, k = j + 1 := ⟨k - 1, by omega⟩
    have hi : i < l.length := by omega
    have hr : rdOf ByteArray.empty l (i : Int) = l[i] := by
      unfold rdOf
      simp [hi]
    have hw : wrap64 ((i : Int) + 1) = ((i + 1 : Nat) : Int) := by
      unfold wrap64
      omega
    by_cases c : ((l[i]).size : Int) > 500
    · exact ⟨true, by rw [glebelaw07_long.l0, if_pos (by omega), if_pos (by omega), hr, if_pos c], fun h => by cases h⟩
    · obtain ⟨b, h1, h2⟩ := ih (i + 1) k (by omega) (by omega)
      refine ⟨b, by rw [glebelaw07_long.l0, if_pos (by omega), if_pos (by omega), hr, if_neg c, hw, h1], fun hb j hij hj => ?_⟩
      rcases Nat.lt_or_ge i j with q | q
      · exact h2 hb j (by omega) hj
      · obtain rfl : j = i := by omega
        omega
theorem long_all (l : List ByteArray) (hl : l.length ≤ 100) : ∃ b, glebelaw07_long.f 200 l = some b ∧ (b = false → ∀ s ∈ l, s.size ≤ 500) := by
  obtain ⟨b, h1, h2⟩ := long_go l hl l.length 0 200 (by omega) (by omega)
  refine ⟨b, h1, fun hb s hs => ?_⟩
  obtain ⟨j, hj, rfl⟩ := List.mem_iff_getElem.mp hs
  exact h2 hb j (by omega) hj
end Go.Proofs.Ytiglmgmkablpkaa.PK
