/- Numbers as bytes: what wire.Num and the reference write. -/
import Derived.Test.YtlfnfgoocliecaaSessRight
import Derived.Test.YtlfnfgoocliecaaPNx1
import Derived.Test.YtlfnfgoocliecaaPNx3
namespace Go.Proofs.Ytlfnfgoocliecaa.PN
open Go.RowKit Go.Proofs.YtlfnfgoocliecaaW.PrintWords Go.Proofs.YtlfnfgoocliecaaW.PrintLast Go.Proofs.YtlfnfgoocliecaaW.PrintMore
set_option linter.unusedVariables false
set_option linter.unusedSimpArgs false
theorem w64_small {x : Int} (h1 : -9223372036854775808 ≤ x) (h2 : x ≤ 9223372036854775807) : wrap64 x = x := by
  unfold wrap64
  omega
/-- A number's bytes, in at most j + 1 of them. -/
def numB : Nat → Int → List Int
  | 0, x => [x]
  | j + 1, x => if x > 127 then (128 + x % 128) :: numB j (x / 128) else [x]
theorem or_128 (x : Int) : Go.bits .or .u8 (x % 256) 128 = 128 + x % 128 := by
  have h : ∀ y : Fin 256, Go.bits .or .u8 ((y.val : Nat) : Int) 128 = 128 + ((y.val : Nat) : Int) % 128 := by decide +kernel
  have h1 : 0 ≤ x % 256 ∧ x % 256 < 256 := by omega
  have h2 := h ⟨(x % 256).toNat, by omega⟩
  dsimp only at h2
  rw [Int.toNat_of_nonneg h1.1] at h2
  rw [h2]
  omega
theorem numB_len (j : Nat) (x : Int) : (numB j x).length ≤ j + 1 := by
  induction j generalizing x with
  | zero => simp [numB]
  | succ j ih =>
    unfold numB
    split
    · have := ih (x / 128)
      simp
      omega
    · simp
theorem wnum_loop (k j : Nat) : ∀ (x : Int) (out : List Int), 0 ≤ x → x < 128 * 128 ^ j → out.length + j ≤ 1000 → wire_Num.l0 (k + 1 + j) x out = some (out ++ numB j x, 0) := by
  induction j with
  | zero =>
    intro x out h0 h1 h2
    simp only [wire_Num.l0, numB]
    simp at h1
    rw [if_neg (by omega), if_pos (by omega), Int.emod_eq_of_lt h0 (by omega)]
  | succ j ih =>
    intro x out h0 h1 h2
    show wire_Num.l0 ((k + 1 + j) + 1) _ _ = _
    simp only [wire_Num.l0, numB]
    by_cases h : x > 127
    · rw [Int.pow_succ] at h1
      rw [if_pos h, if_pos h, if_pos (by omega), or_128, ih _ _ (by omega) (by omega) (by simp; omega)]
      simp
    · rw [if_neg h, if_neg h, if_pos (by omega), Int.emod_eq_of_lt h0 (by omega)]
theorem rnum_loop (k j : Nat) : ∀ (x : Int) (out : List Int), 0 ≤ x → x ≤ 9007199254740992 → x < 128 * 128 ^ j → out.length + j ≤ 1000 → gleberef01_Num.l0 (k + 1 + j) x out = some (out ++ numB j x) := by
  induction j with
  | zero =>
    intro x out h0 hx h1 h2
    simp only [gleberef01_Num.l0, numB]
    simp at h1
    rw [if_neg (by omega), if_pos (by omega), Int.emod_eq_of_lt h0 (by omega)]
  | succ j ih =>
    intro x out h0 hx h1 h2
    show gleberef01_Num.l0 ((k + 1 + j) + 1) _ _ = _
    simp only [gleberef01_Num.l0, numB]
    by_cases h : x > 127
    · rw [Int.pow_succ] at h1
      rw [if_pos (by omega), if_pos h, if_pos (by omega), Int.tdiv_eq_ediv_of_nonneg h0, Int.tmod_eq_emod_of_nonneg h0, w64_small (x := x / 128) (by omega) (by omega), w64_small (by omega) (by omega), Int.emod_eq_of_lt (by omega) (by omega), ih _ _ (by omega) (by omega) (by omega) (by simp; omega)]
      simp
    · rw [if_neg (by omega), if_neg h, if_pos (by omega), Int.emod_eq_of_lt h0 (by omega)]
theorem wnum_yes {n : Int} (h0 : 0 ≤ n) (h1 : n ≤ 9007199254740992) (k : Nat) : wire_Num.f (k + 10) n = some (numB 8 n, 0) := by
  unfold wire_Num.f
  rw [if_neg (by omega), decide_eq_false (by omega)]
  show wire_Num.j0 ((k + 9) + 1) _ _ = _
  simp only [wire_Num.j0]
  rw [if_neg (by decide)]
  have := wnum_loop k 8 n [] h0 (by omega) (by simp)
  simpa using this
theorem wnum_no {n : Int} (h : n < 0 ∨ n > 9007199254740992) (k : Nat) : wire_Num.f (k + 1) n = some ([], 1) := by
  unfold wire_Num.f
  by_cases h0 : n < 0
  · rw [if_pos h0]
    simp [wire_Num.j0]
  · rw [if_neg h0, decide_eq_true (by omega)]
    simp [wire_Num.j0]
theorem rnum_yes {n : Int} (h0 : 0 ≤ n) (h1 : n ≤ 9007199254740992) (k : Nat) : gleberef01_Num.f (k + 10) n = some (numB 8 n) := by
  unfold gleberef01_Num.f
  rw [if_neg (by omega), decide_eq_false (by omega)]
  show gleberef01_Num.j0 ((k + 9) + 1) _ _ = _
  simp only [gleberef01_Num.j0]
  rw [if_neg (by decide)]
  have := rnum_loop k 8 n [] h0 h1 (by omega) (by simp)
  simpa using this
theorem rnum_no {n : Int} (h : n < 0 ∨ n > 9007199254740992) (k : Nat) : gleberef01_Num.f (k + 1) n = some [] := by
  unfold gleberef01_Num.f
  by_cases h0 : n < 0
  · rw [if_pos h0]
    simp [gleberef01_Num.j0]
  · rw [if_neg h0, decide_eq_true (by omega)]
    simp [gleberef01_Num.j0]
theorem wtext_yes (s : ByteArray) (h : s.size ≤ 131072) (k : Nat) : wire_Text.f (k + 10) s = some (numB 8 s.size ++ bytesOf s, 0) := by
  unfold wire_Text.f
  rw [if_neg (by omega), wnum_yes (by omega) (by omega), Option.bind_some]
  have := numB_len 8 s.size
  dsimp only
  rw [if_pos (by omega)]
theorem rtext_yes (s : ByteArray) (h : s.size ≤ 131072) (k : Nat) : gleberef01_Text.f (k + 10) s = some (numB 8 s.size ++ bytesOf s) := by
  unfold gleberef01_Text.f
  rw [rnum_yes (by omega) (by omega), Option.bind_some]
  have := numB_len 8 s.size
  rw [if_pos (by omega)]

/-- What wire.Num writes of any number. -/
def wB (n : Int) : List Int := if 0 ≤ n ∧ n ≤ 9007199254740992 then numB 8 n else []
def wE (n : Int) : Int := if 0 ≤ n ∧ n ≤ 9007199254740992 then 0 else 1
def wT (s : ByteArray) : List Int := numB 8 s.size ++ bytesOf s
theorem wB_f (n : Int) : wire_Num.f 100 n = some (wB n, wE n) := by
  unfold wB wE
  by_cases h : 0 ≤ n ∧ n ≤ 9007199254740992
  · rw [if_pos h, if_pos h]
    exact wnum_yes h.1 h.2 90
  · rw [if_neg h, if_neg h]
    exact wnum_no (by omega) 99
theorem wT_f (s : ByteArray) (h : s.size ≤ 500) : wire_Text.f 100 s = some (wT s, 0) := wtext_yes s (by omega) 90
theorem rT_f (s : ByteArray) (h : s.size ≤ 500) : gleberef01_Text.f 100 s = some (wT s) := rtext_yes s (by omega) 90
theorem rB_f {n : Int} (h0 : 0 ≤ n) (h1 : n ≤ 1099511627776) : gleberef01_Num.f 100 n = some (wB n) := by
  unfold wB
  rw [if_pos ⟨h0, by omega⟩]
  exact rnum_yes h0 (by omega) 90
theorem rT_g (k : Nat) (s : ByteArray) (h : s.size ≤ 500) : gleberef01_Text.f (k + 10) s = some (wT s) := rtext_yes s (by omega) k
theorem rB_g (k : Nat) {n : Int} (h0 : 0 ≤ n) (h1 : n ≤ 1099511627776) : gleberef01_Num.f (k + 10) n = some (wB n) := by
  unfold wB
  rw [if_pos ⟨h0, by omega⟩]
  exact rnum_yes h0 (by omega) k
theorem wB_len (n : Int) : (wB n).length ≤ 9 := by
  unfold wB
  split
  · exact numB_len 8 n
  · simp
theorem wT_len (s : ByteArray) (h : s.size ≤ 500) : (wT s).length ≤ 509 := by
  unfold wT
  have := numB_len 8 s.size
  have e : (bytesOf s).length = s.size := by simp [bytesOf]
  rw [List.length_append, e]
  omega
theorem join_go (ls : List (List Int)) (hlen : ls.length ≤ 20) : ∀ (m i k : Nat) (acc : List Int), i + m = ls.length → m < k → acc.length + ((ls.drop i).flatten).length ≤ 100000 → gleberef07_join.l0 k ls acc (i : Int) = some (acc ++ (ls.drop i).flatten) := by
  intro m
  induction m with
  | zero =>
    intro i k acc h hk hl
    obtain ⟨k, rfl⟩ : ∃ j, k = j + 1 := ⟨k - 1, by omega⟩
    rw [gleberef07_join.l0, if_neg (by omega), List.drop_eq_nil_of_le (by omega)]
    simp
  | succ m ih =>
    intro i k acc h hk hl
    obtain ⟨k, rfl⟩ : ∃ j, k = j + 1 := ⟨k - 1, by omega⟩
    have hi : i < ls.length := by omega
    have hd : ls.drop i = ls[i] :: ls.drop (i + 1) := List.drop_eq_getElem_cons hi
    have hr : rd_L6 ls (i : Int) = ls[i] := by
      unfold rd_L6
      simp [hi]
    have hw : wrap64 ((i : Int) + 1) = ((i + 1 : Nat) : Int) := by
      unfold wrap64
      omega
    rw [hd, List.flatten_cons, List.length_append] at hl
    rw [gleberef07_join.l0, if_pos (by omega), if_pos (by omega), hr, if_pos (by omega), hw, ih (i + 1) k (acc ++ ls[i]) (by omega) (by omega) (by rw [List.length_append]; omega), hd, List.flatten_cons, List.append_assoc]
theorem join_f (k : Nat) (ls : List (List Int)) (hlen : ls.length ≤ 20) (hk : 30 ≤ k) (h : ls.flatten.length ≤ 100000) : gleberef07_join.f k ls = some ls.flatten := by
  unfold gleberef07_join.f
  have := join_go ls hlen ls.length 0 k [] (by omega) (by omega) (by simpa using h)
  simpa using this
theorem put_ans (e : Int) (f : Bool) (v : ByteArray) (n : Int) (rr : Bool) (h : gleberef07_RightAns.f e f v n = some rr) (hr : rr = true → 0 ≤ e ∧ e ≤ 255 ∧ (v.size : Int) ≤ 32 ∧ 0 ≤ n ∧ n ≤ 1099511627776) :
    gleberef07_PutAns.f 100 e f v n = some (if rr then ([e, pbit f] : List Int).flatMap wB ++ ([v] : List ByteArray).flatMap wT ++ ([n] : List Int).flatMap wB else []) := by
  unfold gleberef07_PutAns.f
  rw [h, Option.bind_some]
  cases rr
  · rfl
  · obtain ⟨h1, h2, h3, h7, h8⟩ := hr rfl
    have l1 := wB_len e
    have l2 := wB_len (pbit f)
    have l3 := wT_len v (by omega)
    have l5 := wB_len n
    cases f
    · have hb := rB_g 89 (n := 0) (by decide) (by decide)
      simp only [if_true, if_false, Bool.false_eq_true, gleberef07_PutAns.j0, rB_g 89 h1 (by omega : e ≤ 1099511627776), rT_g 89 v (by omega), rB_g 89 h7 h8, hb, Option.bind_some]
      have l2 : (wB 0).length ≤ 9 := l2
      rw [join_f 99 _ (by simp) (by decide) (by simp; omega)]
      simp [pbit]
    · have hb := rB_g 89 (n := 1) (by decide) (by decide)
      simp only [if_true, gleberef07_PutAns.j0, rB_g 89 h1 (by omega : e ≤ 1099511627776), rT_g 89 v (by omega), rB_g 89 h7 h8, hb, Option.bind_some]
      have l2 : (wB 1).length ≤ 9 := l2
      rw [join_f 99 _ (by simp) (by decide) (by simp; omega)]
      simp [pbit]
/-- An answer's bytes. -/
def wA (r : SRow) : List Int := ([r.e, pbit r.f] : List Int).flatMap wB ++ ([r.v] : List ByteArray).flatMap wT ++ ([r.n] : List Int).flatMap wB
def rowB (r : SRow) : List Int := wB r.q ++ (if 0 < r.q then wA r else [])
def tlB (R : Nat → SRow) : Nat → Nat → List Int
  | 0, _ => []
  | m + 1, i => rowB (R i) ++ tlB R m (i + 1)
/-- The bytes of a table. -/
def tabB (R : Nat → SRow) : List Int := putTo R (fun i => wB (R i).q) (fun i => wA (R i)) 8
theorem putTo_row (R : Nat → SRow) (j : Nat) : putTo R (fun i => wB (R i).q) (fun i => wA (R i)) (j + 1) = putTo R (fun i => wB (R i).q) (fun i => wA (R i)) j ++ rowB (R j) := by
  show putTo R (fun i => wB (R i).q) (fun i => wA (R i)) j ++ wB (R j).q ++ (if 0 < (R j).q then wA (R j) else []) = _
  unfold rowB
  rw [List.append_assoc]
theorem tabB_tl (R : Nat → SRow) : tabB R = tlB R 8 0 := by
  unfold tabB
  rw [putTo_row, putTo_row, putTo_row, putTo_row, putTo_row, putTo_row, putTo_row, putTo_row]
  simp only [putTo, tlB, List.nil_append, List.append_nil, List.append_assoc]
theorem wA_len {r : SRow} (h : RightP r.e r.f r.v r.n) : (wA r).length ≤ 1000 := by
  obtain ⟨_, _, h3, _⟩ := h
  have l1 := wB_len r.e
  have l2 := wB_len (pbit r.f)
  have l3 := wT_len r.v (by omega)
  have l4 := wB_len r.n
  unfold wA
  simp only [List.length_append, List.flatMap_cons, List.flatMap_nil, List.length_nil]
  omega
theorem row_len {r : SRow} (h : GoodRow r) : (rowB r).length ≤ 1009 := by
  have l1 := wB_len r.q
  unfold rowB
  rw [List.length_append]
  rcases h with rfl | h
  · rw [if_neg (by decide)]
    simp only [List.length_nil]
    omega
  · have := wA_len h.2.2
    split
    · omega
    · simp only [List.length_nil]; omega
theorem putTo_len {R : Nat → SRow} (h : ∀ i, i < 8 → GoodRow (R i)) : ∀ j, j ≤ 8 → (putTo R (fun i => wB (R i).q) (fun i => wA (R i)) j).length ≤ 1009 * j
  | 0, _ => by simp [putTo]
  | j + 1, hj => by
    have := putTo_len h j (by omega)
    have := row_len (h j (by omega))
    rw [putTo_row, List.length_append]
    omega
theorem tabB_len {R : Nat → SRow} (h : ∀ i, i < 8 → GoodRow (R i)) : (tabB R).length ≤ 8072 := putTo_len h 8 (by omega)
theorem numB_one (j : Nat) (x : Int) : numB (j + 1) x = if x > 127 then (128 + x % 128) :: numB j (x / 128) else [x] := rfl
theorem numB_inj : ∀ (j : Nat) (x y : Int) (a b : List Int), numB j x ++ a = numB j y ++ b → x = y ∧ a = b
  | 0, x, y, a, b, h => by
    simp only [numB, List.cons_append, List.nil_append, List.cons.injEq] at h
    exact h
  | j + 1, x, y, a, b, h => by
    rw [numB_one, numB_one] at h
    by_cases hx : x > 127
    · rw [if_pos hx] at h
      by_cases hy : y > 127
      · rw [if_pos hy] at h
        simp only [List.cons_append, List.cons.injEq] at h
        obtain ⟨h1, h2⟩ := numB_inj j _ _ a b h.2
        exact ⟨by omega, h2⟩
      · rw [if_neg hy] at h
        simp only [List.cons_append, List.nil_append, List.cons.injEq] at h
        omega
    · rw [if_neg hx] at h
      by_cases hy : y > 127
      · rw [if_pos hy] at h
        simp only [List.cons_append, List.nil_append, List.cons.injEq] at h
        omega
      · rw [if_neg hy] at h
        simp only [List.cons_append, List.nil_append, List.cons.injEq] at h
        exact h
theorem wB_inj {x y : Int} {a b : List Int} (hx : 0 ≤ x ∧ x ≤ 9007199254740992) (hy : 0 ≤ y ∧ y ≤ 9007199254740992) (h : wB x ++ a = wB y ++ b) : x = y ∧ a = b := by
  unfold wB at h
  rw [if_pos hx, if_pos hy] at h
  exact numB_inj 8 x y a b h
theorem str_of_bytes (s : ByteArray) : strOfNums (bytesOf s) = s := by
  obtain ⟨⟨d⟩⟩ := s
  simp [strOfNums, bytesOf]
  exact (List.map_congr_left (g := id) (fun b _ => by simp)).trans (List.map_id d)
theorem bytes_of_str {l : List Int} (h : ∀ z ∈ l, 0 ≤ z ∧ z < 256) : bytesOf (strOfNums l) = l := by
  unfold bytesOf strOfNums
  simp only [List.map_map]
  conv => rhs; rw [← List.map_id l]
  refine List.map_congr_left fun z hz => ?_
  obtain ⟨h0, h1⟩ := h z hz
  simp
  omega
theorem bytes_len (s : ByteArray) : (bytesOf s).length = s.size := by simp [bytesOf]
theorem wT_inj {s t : ByteArray} {a b : List Int} (h : wT s ++ a = wT t ++ b) : s = t ∧ a = b := by
  unfold wT at h
  rw [List.append_assoc, List.append_assoc] at h
  obtain ⟨h1, h2⟩ := numB_inj 8 _ _ _ _ h
  obtain ⟨h3, h4⟩ := List.append_inj h2 (by rw [bytes_len, bytes_len]; omega)
  exact ⟨by rw [← str_of_bytes s, h3, str_of_bytes], h4⟩
theorem row_inj {r x : SRow} (hr : GoodRow r) (hx : GoodRow x) {a b : List Int} (h : rowB r ++ a = rowB x ++ b) : r = x ∧ a = b := by
  have q1 : 0 ≤ r.q ∧ r.q ≤ 9007199254740992 := by
    rcases hr with rfl | ⟨h1, h2, _⟩
    · exact ⟨by decide, by decide⟩
    · omega
  have q2 : 0 ≤ x.q ∧ x.q ≤ 9007199254740992 := by
    rcases hx with rfl | ⟨h1, h2, _⟩
    · exact ⟨by decide, by decide⟩
    · omega
  unfold rowB at h
  rw [List.append_assoc, List.append_assoc] at h
  obtain ⟨e, h0⟩ := wB_inj q1 q2 h
  clear h
  by_cases c : 0 < r.q
  · rw [if_pos c, if_pos (by omega)] at h0
    rcases hr with rfl | ⟨_, _, pr⟩
    · exact absurd c (by decide)
    rcases hx with rfl | ⟨_, _, px⟩
    · exact absurd (e ▸ c) (by decide)
    unfold wA at h0
    simp only [List.flatMap_cons, List.flatMap_nil, List.append_nil, List.append_assoc] at h0
    obtain ⟨e1, h3⟩ := wB_inj ⟨pr.1, by have := pr.2.1; omega⟩ ⟨px.1, by have := px.2.1; omega⟩ h0
    obtain ⟨e2, h4⟩ := wB_inj (x := pbit r.f) (y := pbit x.f) (by cases r.f <;> decide) (by cases x.f <;> decide) h3
    obtain ⟨e3, h5⟩ := wT_inj h4
    obtain ⟨e4, h6⟩ := wB_inj ⟨pr.2.2.2.1, by have := pr.2.2.2.2.1; omega⟩ ⟨px.2.2.2.1, by have := px.2.2.2.2.1; omega⟩ h5
    obtain ⟨re, rf, rv, rn, rq⟩ := r
    obtain ⟨xe, xf, xv, xn, xq⟩ := x
    dsimp only at e e1 e2 e3 e4
    have e5 : rf = xf := by
      revert e2
      cases rf <;> cases xf <;> decide
    subst e e1 e3 e4 e5
    exact ⟨rfl, h6⟩
  · rw [if_neg c, if_neg (by omega), List.nil_append, List.nil_append] at h0
    rcases hr with rfl | ⟨h1, _, _⟩
    · rcases hx with rfl | ⟨h1, _, _⟩
      · exact ⟨rfl, h0⟩
      · exact absurd h1 (by rw [← e]; decide)
    · omega
theorem tl_inj {R R2 : Nat → SRow} : ∀ (m i : Nat), (∀ j, i ≤ j → j < i + m → GoodRow (R j)) → (∀ j, i ≤ j → j < i + m → GoodRow (R2 j)) → tlB R m i = tlB R2 m i → ∀ j, i ≤ j → j < i + m → R j = R2 j
  | 0, i, _, _, _, j, h1, h2 => by omega
  | m + 1, i, g1, g2, h, j, h1, h2 => by
    simp only [tlB] at h
    obtain ⟨e, h⟩ := row_inj (g1 i (by omega) (by omega)) (g2 i (by omega) (by omega)) h
    by_cases c : j = i
    · subst c; exact e
    · exact tl_inj m (i + 1) (fun j a b => g1 j (by omega) (by omega)) (fun j a b => g2 j (by omega) (by omega)) h j (by omega) (by omega)
theorem wB_byt (n : Int) : ∀ z ∈ wB n, 0 ≤ z ∧ z < 256 := by
  have go : ∀ (j : Nat) (x : Int), 0 ≤ x → x < 128 * 128 ^ j → ∀ z ∈ numB j x, 0 ≤ z ∧ z < 256 := by
    intro j
    induction j with
    | zero =>
      intro x h0 h1 z hz
      simp [numB] at hz
      omega
    | succ j ih =>
      intro x h0 h1
      rw [numB_one]
      by_cases q : x > 127
      · rw [if_pos q]
        intro z hz
        rcases List.mem_cons.mp hz with rfl | hz
        · omega
        · have e : (128 : Int) * 128 ^ (j + 1) = 128 * (128 * 128 ^ j) := by rw [Int.pow_succ, Int.mul_comm (128 ^ j) 128]
          rw [e] at h1
          generalize (128 : Int) * 128 ^ j = p at h1 ih
          exact ih (x / 128) (by omega) (by omega) z hz
      · rw [if_neg q]
        intro z hz
        rw [List.mem_singleton.mp hz]
        omega
  unfold wB
  split
  · rename_i h
    exact go 8 n h.1 (by omega)
  · intro z hz; cases hz
theorem wT_byt {s : ByteArray} (h : s.size ≤ 500) : ∀ z ∈ wT s, 0 ≤ z ∧ z < 256 := by
  intro z hz
  rcases List.mem_append.mp hz with q | q
  · refine wB_byt (s.size : Int) z ?_
    unfold wB
    rw [if_pos ⟨by omega, by omega⟩]
    exact q
  · unfold bytesOf at q
    obtain ⟨b, _, rfl⟩ := List.mem_map.mp q
    have := b.toNat_lt
    omega
theorem row_byt {r : SRow} (h : GoodRow r) : ∀ z ∈ rowB r, 0 ≤ z ∧ z < 256 := by
  intro z hz
  rcases List.mem_append.mp hz with q | q
  · exact wB_byt _ z q
  · rcases h with rfl | ⟨h1, _, hp⟩
    · rw [if_neg (by decide)] at q
      cases q
    · rw [if_pos (by omega)] at q
      unfold wA at q
      simp only [List.flatMap_cons, List.flatMap_nil, List.append_nil, List.mem_append] at q
      rcases q with ((q | q) | q) | q
      · exact wB_byt _ z q
      · exact wB_byt _ z q
      · exact wT_byt (by have := hp.2.2.1; omega) z q
      · exact wB_byt _ z q
theorem tl_byt {R : Nat → SRow} : ∀ (m i : Nat), (∀ j, i ≤ j → j < i + m → GoodRow (R j)) → ∀ z ∈ tlB R m i, 0 ≤ z ∧ z < 256
  | 0, _, _, z, hz => by cases hz
  | m + 1, i, g, z, hz => by
    rcases List.mem_append.mp hz with q | q
    · exact row_byt (g i (by omega) (by omega)) z q
    · exact tl_byt m (i + 1) (fun j a b => g j (by omega) (by omega)) z q
/-- Two tables' bytes are the same just when the rows are. -/
theorem tabs_same {R R2 : Nat → SRow} (h : ∀ i, i < 8 → GoodRow (R i)) (h2 : ∀ i, i < 8 → GoodRow (R2 i)) : ∃ b : Bool, (b = true ↔ ∀ i, i < 8 → R i = R2 i) ∧ ((strOfNums (tabB R)).toList == (strOfNums (tabB R2)).toList) = b := by
  refine ⟨_, ?_, rfl⟩
  rw [beq_iff_eq]
  constructor
  · intro e i hi
    have hB : ∀ z ∈ tabB R, 0 ≤ z ∧ z < 256 := by
      rw [tabB_tl]
      exact tl_byt 8 0 fun j _ b => h j (by omega)
    have hB2 : ∀ z ∈ tabB R2, 0 ≤ z ∧ z < 256 := by
      rw [tabB_tl]
      exact tl_byt 8 0 fun j _ b => h2 j (by omega)
    have e2 : tabB R = tabB R2 := by
      have e3 : strOfNums (tabB R) = strOfNums (tabB R2) := by
        rw [ByteArray.toList_eq, ByteArray.toList_eq] at e
        have e4 : (strOfNums (tabB R)).data = (strOfNums (tabB R2)).data := by rw [← Array.toArray_toList (xs := (strOfNums (tabB R)).data), e, Array.toArray_toList]
        generalize strOfNums (tabB R) = x at e4
        generalize strOfNums (tabB R2) = y at e4
        obtain ⟨x⟩ := x
        obtain ⟨y⟩ := y
        exact congrArg ByteArray.mk e4
      rw [← bytes_of_str hB, e3, bytes_of_str hB2]
    rw [tabB_tl, tabB_tl] at e2
    exact tl_inj 8 0 (fun j _ b => h j (by omega)) (fun j _ b => h2 j (by omega)) e2 i (by omega) (by omega)
  · intro e
    have e2 : tabB R = tabB R2 := by
      have go : ∀ j, j ≤ 8 → putTo R (fun i => wB (R i).q) (fun i => wA (R i)) j = putTo R2 (fun i => wB (R2 i).q) (fun i => wA (R2 i)) j := by
        intro j
        induction j with
        | zero => intro _; rfl
        | succ j ih =>
          intro hj
          rw [putTo_row, putTo_row, ih (by omega), e j (by omega)]
      exact go 8 (by omega)
    rw [e2]
/-- What the document's Num and PutAns give of a row that a table holds. -/
theorem ref_row {r : SRow} (h : GoodRow r) : gleberef01_Num.f 100 r.q = some (wB r.q) ∧ (0 < r.q → gleberef07_PutAns.f 100 r.e r.f r.v r.n = some (wA r)) := by
  rcases h with rfl | ⟨h1, h2, hp⟩
  · exact ⟨rB_f (by decide) (by decide), fun q => absurd q (by decide)⟩
  · refine ⟨rB_f (by omega) h2, fun _ => ?_⟩
    have := put_ans r.e r.f r.v r.n true (right_yes hp).2 (fun _ => ⟨hp.1, hp.2.1, hp.2.2.1, hp.2.2.2.1, hp.2.2.2.2.1⟩)
    rw [if_pos rfl] at this
    exact this
end Go.Proofs.Ytlfnfgoocliecaa.PN
