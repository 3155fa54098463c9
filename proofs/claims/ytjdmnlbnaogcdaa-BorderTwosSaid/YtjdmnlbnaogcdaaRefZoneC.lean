/- The same by the reference: sides, distances, paths and zones. -/
import Derived.Test.YtjdmnlbnaogcdaaZoneC
import Derived.Test.YtjdmnlbnaogcdaaPCx4
import Derived.Test.YtjdmnlbnaogcdaaPCx5
namespace Go.Proofs.Ytjdmnlbnaogcdaa.PC
open Go.RowKit Go.Proofs.YtjdmnlbnaogcdaaW.PrintWords Go.Proofs.YtjdmnlbnaogcdaaW.PrintLast Go.Proofs.YtjdmnlbnaogcdaaW.PrintMore
set_option linter.unusedVariables false
theorem rright_eq (K : Int) : gleberef02_Right.f K = some (decide (1 ≤ K ∧ K ≤ 16)) := by
  unfold gleberef02_Right.f
  by_cases h1 : K ≥ 1
  · rw [if_pos h1]
    congr 1
    exact decide_eq_decide.mpr (by omega)
  · rw [if_neg h1]
    congr 1
    exact (decide_eq_false (by omega)).symm
theorem rside_loop (K : Int) (hK : K ≤ 16) (j : Nat) : ∀ (k i : Nat), (i : Int) + j = K → gleberef02_Side.l0 (k + 1 + j) K (2 ^ i) (i : Int) = some (2 ^ (i + j)) := by
  induction j with
  | zero =>
    intro k i h
    simp only [gleberef02_Side.l0]
    rw [if_neg (by omega)]
    simp
  | succ j ih =>
    intro k i h
    show gleberef02_Side.l0 ((k + 1 + j) + 1) _ _ _ = _
    simp only [gleberef02_Side.l0]
    have := two_pow_bd i (by omega)
    rw [if_pos (by omega), wrap64_small (x := 2 ^ i * 2) (by omega) (by omega), wrap64_small (x := (i : Int) + 1) (by omega) (by omega)]
    have := ih k (i + 1) (by omega)
    rw [Int.pow_succ] at this
    rw [show ((i + 1 : Nat) : Int) = (i : Int) + 1 from rfl] at this
    rw [this, show i + 1 + j = i + (j + 1) by omega]
theorem rside_eq {K n : Int} (hk : OkT K n) (k : Nat) : gleberef02_Side.f (k + 17) K = some n := by
  unfold gleberef02_Side.f
  have hb := okT_bd hk
  rw [rright_eq, Option.bind_some, if_pos (by simpa using ⟨hb.1, hb.2.1⟩)]
  have h := rside_loop K hb.2.1 K.toNat (k + 16 - K.toNat) 0 (by omega)
  rw [show k + 16 - K.toNat + 1 + K.toNat = k + 17 by omega] at h
  simp only [Nat.zero_add] at h
  rw [hk.2.2]
  simpa using h
theorem rside_no {K : Int} (h : ¬ (1 ≤ K ∧ K ≤ 16)) (k : Nat) : gleberef02_Side.f k K = some 0 := by
  unfold gleberef02_Side.f
  rw [rright_eq, decide_eq_false h]
  rfl
theorem rnum_eq (a : Int) : gleberef04_num.f a = some (decide (0 ≤ a ∧ a ≤ 1073741824)) := by
  unfold gleberef04_num.f
  by_cases h : a ≥ 0
  · rw [if_pos h]
    congr 1
    exact decide_eq_decide.mpr (by omega)
  · rw [if_neg h]
    congr 1
    exact (decide_eq_false (by omega)).symm
theorem rrfine_eq (r : R4) : gleberef04_fine.f r.f0 r.f1 r.f2 r.f3 = some (decide (Fine r)) := by
  unfold gleberef04_fine.f
  simp only [rnum_eq, Option.bind_some, decide_eq_true_eq]
  by_cases h0 : 0 ≤ r.f0 ∧ r.f0 ≤ 1073741824
  · rw [if_pos h0]
    by_cases h1 : 0 ≤ r.f1 ∧ r.f1 ≤ 1073741824
    · rw [if_pos h1]
      by_cases h2 : 0 ≤ r.f2 ∧ r.f2 ≤ 1073741824
      · rw [if_pos h2]
        by_cases h3 : 0 ≤ r.f3 ∧ r.f3 ≤ 1073741824
        · rw [if_pos h3, wrap64_small (by omega) (by omega), wrap64_small (by omega) (by omega)]
          by_cases h4 : 0 ≤ r.f0 + r.f2 ∧ r.f0 + r.f2 ≤ 1073741824
          · rw [if_pos h4]
            congr 1
            exact decide_eq_decide.mpr (by unfold Fine; omega)
          · rw [if_neg h4]
            congr 1
            exact (decide_eq_false (by unfold Fine; omega)).symm
        · rw [if_neg h3]
          congr 1
          exact (decide_eq_false (by unfold Fine; omega)).symm
      · rw [if_neg h2]
        congr 1
        exact (decide_eq_false (by unfold Fine; omega)).symm
    · rw [if_neg h1]
      congr 1
      exact (decide_eq_false (by unfold Fine; omega)).symm
  · rw [if_neg h0]
    congr 1
    exact (decide_eq_false (by unfold Fine; omega)).symm
theorem rarea_eq (r : R4) : gleberef04_Area.f r.f0 r.f1 r.f2 r.f3 = some (ar r) := by
  unfold gleberef04_Area.f
  rw [rrfine_eq, Option.bind_some]
  simp only [decide_eq_true_eq]
  by_cases h : Fine r
  · rw [if_pos h]
    unfold Fine at h
    have := mul_bd (a := r.f2) (b := r.f3) (m := 1073741824) (n := 1073741824) (by omega) (by omega) (by omega) (by omega)
    rw [wrap64_small (by omega) (by omega)]
    unfold ar
    by_cases hp : Pos r
    · rw [if_pos hp]
    · rw [if_neg hp]
      unfold Pos at hp
      by_cases h2 : r.f2 = 0
      · rw [h2, Int.zero_mul]
      · rw [show r.f3 = 0 by omega, Int.mul_zero]
  · rw [if_neg h]
    unfold ar
    rw [if_neg (fun hp => h (fine_of_pos hp))]
theorem rrect_eq {K n : Int} (hk : OkT K n) (k : Nat) (r : R4) : gleberef04_Right.f (k + 17) K r.f0 r.f1 r.f2 r.f3 = some (decide (Rt n r)) := by
  have hb := okT_bd hk
  unfold gleberef04_Right.f Rt
  rw [rside_eq hk, Option.bind_some, if_pos (by omega)]
  by_cases h1 : r.f0 ≥ 0
  · rw [if_pos h1]
    by_cases h2 : r.f0 ≤ n
    · rw [if_pos h2, wrap64_small (x := n - r.f0) (by omega) (by omega)]
      by_cases h3 : r.f1 ≥ 0
      · rw [if_pos h3]
        by_cases h4 : r.f1 ≤ n
        · rw [if_pos h4, wrap64_small (x := n - r.f1) (by omega) (by omega)]
          by_cases h5 : r.f2 ≥ 0
          · rw [if_pos h5]
            by_cases h6 : r.f2 ≤ n - r.f0
            · rw [if_pos h6]
              by_cases h7 : r.f3 ≥ 0
              · rw [if_pos h7]
                congr 1
                exact decide_eq_decide.mpr (by omega)
              · rw [if_neg h7]
                congr 1
                exact (decide_eq_false (by omega)).symm
            · rw [if_neg h6]
              congr 1
              exact (decide_eq_false (by omega)).symm
          · rw [if_neg h5]
            congr 1
            exact (decide_eq_false (by omega)).symm
        · rw [if_neg h4]
          congr 1
          exact (decide_eq_false (by omega)).symm
      · rw [if_neg h3]
        congr 1
        exact (decide_eq_false (by omega)).symm
    · rw [if_neg h2]
      congr 1
      exact (decide_eq_false (by omega)).symm
  · rw [if_neg h1]
    congr 1
    exact (decide_eq_false (by omega)).symm
theorem rhas_eq {K n : Int} (hk : OkT K n) (k : Nat) (x y : Int) : gleberef02_Has.f (k + 17) K x y = some (decide (0 ≤ x ∧ x < n ∧ 0 ≤ y ∧ y < n)) := by
  unfold gleberef02_Has.f
  rw [rside_eq hk, Option.bind_some]
  by_cases h1 : x ≥ 0
  · rw [if_pos h1]
    by_cases h2 : x < n
    · rw [if_pos h2]
      by_cases h3 : y ≥ 0
      · rw [if_pos h3]
        congr 1
        exact decide_eq_decide.mpr (by omega)
      · rw [if_neg h3]
        congr 1
        exact (decide_eq_false (by omega)).symm
    · rw [if_neg h2]
      congr 1
      exact (decide_eq_false (by omega)).symm
  · rw [if_neg h1]
    congr 1
    exact (decide_eq_false (by omega)).symm
theorem down_eq {n : Int} (hn : 2 ≤ n ∧ n ≤ 65536) (a : Int) (ha : -n < a ∧ a < n) : gleberef02_down.f a n = some (a % n) := by
  unfold gleberef02_down.f
  rw [if_neg (by omega)]
  by_cases h : 0 ≤ a
  · rw [Int.tmod_eq_emod_of_nonneg h, if_neg (by have := mod_in hn.1 a; omega)]
  · have h1 : Int.tmod a n = a := by
      have h2 : Int.tmod (-a) n = -a := by
        rw [Int.tmod_eq_emod_of_nonneg (by omega)]
        exact Int.emod_eq_of_lt (by omega) (by omega)
      rw [Int.neg_tmod] at h2
      omega
    rw [h1, if_pos (by omega), wrap64_small (by omega) (by omega)]
    rcases mod_diff (n := n) (d := a) hn.1 (by omega) (by omega) with ⟨q1, q2⟩ | ⟨q1, q2⟩
    · omega
    · rw [q2]
theorem rapart_eq {K n a b : Int} (hk : OkT K n) (k : Nat) (ha : 0 ≤ a ∧ a < n) (hb : 0 ≤ b ∧ b < n) : gleberef02_Apart.f (k + 17) K a b = some (ap n a b) := by
  have hd := okT_bd hk
  unfold gleberef02_Apart.f
  rw [rside_eq hk, Option.bind_some, if_neg (by omega), if_neg (by omega), if_neg (by omega), decide_eq_false (by omega)]
  show gleberef02_Apart.j0 ((k + 16) + 1) _ _ _ _ = _
  simp only [gleberef02_Apart.j0]
  rw [if_neg (by decide), wrap64_small (x := b - a) (by omega) (by omega), wrap64_small (x := a - b) (by omega) (by omega), down_eq (by omega) _ (by omega), Option.bind_some, down_eq (by omega) _ (by omega), Option.bind_some]
  congr 1
  unfold ap mn
  rcases mod_diff (n := n) (d := b - a) hd.2.2.1 (by omega) (by omega) with ⟨q1, q2⟩ | ⟨q1, q2⟩ <;> rcases mod_diff (n := n) (d := a - b) hd.2.2.1 (by omega) (by omega) with ⟨p1, p2⟩ | ⟨p1, p2⟩ <;> rw [q2, p2] <;> (repeat' split) <;> omega
theorem roff_eq {K n q lo c : Int} (hk : OkT K n) (k : Nat) (hq : 0 ≤ q ∧ q < n) (hlo : 0 ≤ lo) (hc : 0 < c) (hhi : lo + c ≤ n) : gleberef04_off.f (k + 18) K q lo c = some (od n q lo (lo + c)) := by
  have hd := okT_bd hk
  unfold gleberef04_off.f od
  rw [wrap64_small (x := lo + c) (by omega) (by omega)]
  by_cases h1 : lo ≤ q ∧ q < lo + c
  · rw [if_pos h1, if_pos (by omega), decide_eq_true h1.2]
    show gleberef04_off.j0 ((k + 17) + 1) _ _ _ _ _ = _
    simp only [gleberef04_off.j0]
    rw [if_pos trivial]
  · rw [if_neg h1]
    have hj : gleberef04_off.j0 ((k + 17) + 1) K q lo c false = some (mn (ap n q lo) (ap n q (lo + c - 1))) := by
      simp only [gleberef04_off.j0]
      rw [if_neg (by decide), wrap64_small (x := lo + c) (by omega) (by omega), wrap64_small (x := lo + c - 1) (by omega) (by omega), rapart_eq hk k hq ⟨hlo, by omega⟩, Option.bind_some, rapart_eq hk k hq ⟨by omega, by omega⟩]
      rfl
    by_cases h2 : q ≥ lo
    · rw [if_pos h2, decide_eq_false (by omega)]
      exact hj
    · rw [if_neg h2]
      exact hj
theorem rrdist_eq {K n : Int} (hk : OkT K n) (k : Nat) (r : R4) (x y : Int) : gleberef04_Dist.f (k + 20) K r.f0 r.f1 r.f2 r.f3 x y =
    some (if Rt n r ∧ Pos r ∧ (0 ≤ x ∧ x < n ∧ 0 ≤ y ∧ y < n) then od n x r.f0 (r.f0 + r.f2) + od n y r.f1 (r.f1 + r.f3) else -1) := by
  have hb := okT_bd hk
  unfold gleberef04_Dist.f
  rw [show k + 20 = (k + 3) + 17 from rfl, rrect_eq hk, Option.bind_some]
  have hno : gleberef04_Dist.j0 ((k + 19) + 1) K true r.f0 r.f1 r.f2 r.f3 x y = some (-1) := by
    simp only [gleberef04_Dist.j0]
    rw [if_pos trivial]
  by_cases h1 : Rt n r
  · rw [decide_eq_true h1, if_pos rfl, rarea_eq, Option.bind_some]
    by_cases h2 : Pos r
    · have h3 := (ar_pos r).mpr h2
      rw [if_neg (by omega), rhas_eq hk, Option.bind_some]
      by_cases h4 : 0 ≤ x ∧ x < n ∧ 0 ≤ y ∧ y < n
      · rw [decide_eq_true h4, if_pos ⟨h1, h2, h4⟩]
        show gleberef04_Dist.j0 ((k + 19) + 1) _ _ _ _ _ _ _ _ = _
        simp only [gleberef04_Dist.j0]
        unfold Rt at h1
        have h2' := h2
        unfold Pos at h2'
        rw [if_neg (by decide), show k + 19 = (k + 1) + 18 from rfl, roff_eq hk (k + 1) ⟨by omega, by omega⟩ (by omega) (by omega) (by omega), Option.bind_some, roff_eq hk (k + 1) ⟨by omega, by omega⟩ (by omega) (by omega) (by omega), Option.bind_some]
        have q1 := od_bd (n := n) (q := x) (lo := r.f0) (hi := r.f0 + r.f2) (by omega)
        have q2 := od_bd (n := n) (q := y) (lo := r.f1) (hi := r.f1 + r.f3) (by omega)
        rw [wrap64_small (by omega) (by omega)]
      · rw [decide_eq_false h4, if_neg (fun q => h4 q.2.2)]
        exact hno
    · have h3 : ar r = 0 := if_neg h2
      rw [if_pos h3, if_neg (fun q => h2 q.2.1)]
      exact hno
  · rw [decide_eq_false h1, if_neg (by decide), if_neg (fun q => h1 q.1)]
    exact hno
theorem dists_same (K : Int) (r : R4) (x y : Int) (k : Nat) : ∃ v, window_Dist.f (k + 1) K r.f0 r.f1 r.f2 r.f3 x y = some v ∧ gleberef04_Dist.f (k + 20) K r.f0 r.f1 r.f2 r.f3 x y = some v := by
  by_cases hK : 1 ≤ K ∧ K ≤ 16
  · exact ⟨_, rdist_eq (okT_of hK) k r x y, rrdist_eq (okT_of hK) k r x y⟩
  · refine ⟨-1, ?_, ?_⟩
    · unfold window_Dist.f
      rw [right_no hK, Option.bind_some, if_neg (by decide)]
    · unfold gleberef04_Dist.f gleberef04_Right.f
      rw [rside_no hK, Option.bind_some, if_neg (by decide), Option.bind_some, if_neg (by decide)]
      show gleberef04_Dist.j0 ((k + 19) + 1) _ _ _ _ _ _ _ _ = _
      simp only [gleberef04_Dist.j0]
      rw [if_pos trivial]
theorem rpright_eq (K d b : Int) : gleberef03_Right.f K d b = some (decide (PathOk K d b)) := by
  unfold gleberef03_Right.f
  rw [rright_eq, Option.bind_some]
  by_cases h1 : 1 ≤ K ∧ K ≤ 16
  · rw [if_pos (by simpa using h1)]
    by_cases h3 : d ≥ 0
    · rw [if_pos h3, wrap64_small (by omega) (by omega)]
      by_cases h4 : d ≤ 2 * K
      · rw [if_pos h4]
        by_cases h5 : b ≥ 0
        · rw [if_pos h5, if_pos (by rw [u64_small (by omega)]; omega), shl_one (by omega)]
          congr 1
          exact decide_eq_decide.mpr ⟨fun h => ⟨h1, ⟨h3, h4⟩, h5, h⟩, fun h => h.2.2.2⟩
        · rw [if_neg h5]
          congr 1
          exact (decide_eq_false (fun h => h5 h.2.2.1)).symm
      · rw [if_neg h4]
        congr 1
        exact (decide_eq_false (fun h => h4 h.2.1.2)).symm
    · rw [if_neg h3]
      congr 1
      exact (decide_eq_false (fun h => h3 h.2.1.1)).symm
  · rw [if_neg (by simpa using h1)]
    congr 1
    exact (decide_eq_false (fun h => h1 h.1)).symm
/-- The path's digits as text, i of them from the right. -/
def digs (b : Int) : Nat → List UInt8
  | 0 => []
  | i + 1 => UInt8.ofNat (48 + (b / 2 ^ i % 2).toNat) :: digs b i
theorem digs_len (b : Int) (i : Nat) : (digs b i).length = i := by
  induction i with
  | zero => rfl
  | succ i ih => simp [digs, ih]
theorem bt_list (l : List UInt8) (i : Nat) (c : UInt8) (h : l[i]? = some c) : bt ⟨l.toArray⟩ (i : Int) = (c.toNat : Int) := by
  have hlt : i < l.length := by
    rcases Nat.lt_or_ge i l.length with h' | h'
    · exact h'
    · rw [List.getElem?_eq_none h'] at h; cases h
  rw [List.getElem?_eq_getElem hlt] at h
  have hs : (i : Int).toNat < (⟨l.toArray⟩ : ByteArray).size := by simpa [ByteArray.size] using hlt
  rw [← bt_at _ _ hs]
  injection h with h
  rw [← h]
  rfl
theorem digs_at (b : Int) (i : Nat) : ∀ j, j < i → (digs b i)[j]? = some (UInt8.ofNat (48 + (b / 2 ^ (i - 1 - j) % 2).toNat)) := by
  induction i with
  | zero => intro j h; omega
  | succ i ih =>
    intro j h
    cases j with
    | zero => simp [digs]
    | succ j =>
      simp only [digs, List.getElem?_cons_succ]
      rw [ih j (by omega), show i + 1 - 1 - (j + 1) = i - 1 - j by omega]
theorem str_cons (c : Int) (l : List UInt8) : strOfNums [c] ++ (⟨l.toArray⟩ : ByteArray) = ⟨(UInt8.ofNat c.toNat :: l).toArray⟩ := by
  apply ByteArray.ext
  simp [strOfNums]
theorem halves_loop {d b : Int} (hd : 0 ≤ d ∧ d ≤ 32) (hb : 0 ≤ b) (k j : Nat) : ∀ i : Nat, (i : Int) + j = d → gleberef03_Halves.l0 (k + 1 + j) ⟨(digs b i).toArray⟩ (i : Int) d b = some ⟨(digs b (i + j)).toArray⟩ := by
  induction j with
  | zero =>
    intro i h
    simp only [gleberef03_Halves.l0]
    rw [if_neg (by omega)]
    rfl
  | succ j ih =>
    intro i h
    show gleberef03_Halves.l0 ((k + 1 + j) + 1) _ _ _ _ = _
    simp only [gleberef03_Halves.l0]
    have hq : 0 ≤ b / 2 ^ i := Int.ediv_nonneg hb (Int.le_of_lt (Int.pow_pos (by decide)))
    rw [if_pos (by omega), u64_small (by omega), if_pos (by omega), Option.bind_some]
    have hc : (wrap64 (48 + Int.tmod (shr .i64 b (i : Int)) 2)) % 256 = 48 + b / 2 ^ i % 2 := by
      unfold shr
      rw [show min (i : Int).toNat IntKind.i64.bits = i from Nat.min_eq_left (by show i ≤ 64; omega), Int.tmod_eq_emod_of_nonneg hq, wrap64_small (by omega) (by omega)]
      omega
    rw [hc, str_cons, if_pos (by simp [strOfNums, ByteArray.size, digs_len]; omega), wrap_inc _ (by omega)]
    have h1 := ih (i + 1) (by omega)
    rw [show i + 1 + j = i + (j + 1) by omega] at h1
    have he : UInt8.ofNat (48 + b / 2 ^ i % 2).toNat :: digs b i = digs b (i + 1) := by
      simp only [digs]
      congr 2
      omega
    rw [he]
    exact h1
theorem halves_str {d b : Int} (hd : 0 ≤ d ∧ d ≤ 32) (hb : 0 ≤ b) (k : Nat) : gleberef03_Halves.f (k + 33) d b = some ⟨(digs b d.toNat).toArray⟩ := by
  unfold gleberef03_Halves.f
  have h := halves_loop hd hb (k + 32 - d.toNat) d.toNat 0 (by omega)
  rw [show k + 32 - d.toNat + 1 + d.toNat = k + 33 by omega] at h
  simpa [digs] using h
/-- How many halvings go across, of i. -/
theorem corner_loop {s d b : Int} (hs : 0 ≤ s ∧ s ≤ 65536) (hd : 0 ≤ d ∧ d ≤ 32) (hb : 0 ≤ b) (k j : Nat) : ∀ i : Nat, (i : Int) + j = d →
    gleberef03_Corner.l0 (k + 1 + j) (cornerOf s (halves d b i)).w (cornerOf s (halves d b i)).h ⟨(digs b d.toNat).toArray⟩ (i : Int) (cornerOf s (halves d b i)).x (cornerOf s (halves d b i)).y =
      some ((zone s d b).f0, (zone s d b).f1, (zone s d b).f2, (zone s d b).f3) := by
  have hsz : (⟨(digs b d.toNat).toArray⟩ : ByteArray).size = d.toNat := by simp [ByteArray.size, digs_len]
  induction j with
  | zero =>
    intro i h
    simp only [gleberef03_Corner.l0]
    rw [if_neg (by rw [hsz]; omega)]
    unfold zone cnR
    rw [show d.toNat = i by omega]
  | succ j ih =>
    intro i h
    have h1 := ih (i + 1) (by omega)
    rw [halves_succ, cornerOf_snoc] at h1
    have ok := cnOk_of hs.1 (halves d b i)
    generalize cornerOf s (halves d b i) = c at *
    obtain ⟨k1, k2, k3, k4, k5, k6⟩ := ok
    show gleberef03_Corner.l0 ((k + 1 + j) + 1) _ _ _ _ _ _ = _
    simp only [gleberef03_Corner.l0]
    rw [if_pos (by rw [hsz]; omega)]
    have hbt : bt ⟨(digs b d.toNat).toArray⟩ (i : Int) = 48 + b / 2 ^ (d.toNat - 1 - i) % 2 := by
      rw [bt_list _ i _ (digs_at b d.toNat i (by omega))]
      have h2 : (b / 2 ^ (d.toNat - 1 - i) % 2).toNat < 2 := by omega
      rw [UInt8.toNat_ofNat']
      omega
    have hbit := halfBit_eq d b i
    rw [Int.tdiv_eq_ediv_of_nonneg k3, Int.tdiv_eq_ediv_of_nonneg k4, wrap64_small (x := c.w / 2) (by omega) (by omega), wrap64_small (x := c.h / 2) (by omega) (by omega), Int.tmod_eq_emod_of_nonneg (by omega), hbt, wrap_inc _ (by omega)]
    unfold halfAt at h1
    simp only [hbit] at h1
    generalize b / 2 ^ (d.toNat - 1 - i) % 2 = z at *
    have hz : z = 0 ∨ z = 1 := by
      have := halfBit_eq d b i
      omega
    unfold Cn.step at h1
    dsimp only at h1
    by_cases hi : (i : Int) % 2 = 0
    · rw [if_pos hi, if_pos (by omega), wrap64_small (x := c.x + c.w / 2) (by omega) (by omega)]
      rw [if_neg (by simp; omega)] at h1
      dsimp only at h1
      rcases hz with rfl | rfl
      · rw [if_neg (by decide)]
        simpa using h1
      · rw [if_pos (by decide)]
        simpa using h1
    · rw [if_neg hi, if_pos (by omega), wrap64_small (x := c.y + c.h / 2) (by omega) (by omega)]
      rw [if_pos (by simp; omega)] at h1
      dsimp only at h1
      rcases hz with rfl | rfl
      · rw [if_neg (by decide)]
        simpa using h1
      · rw [if_pos (by decide)]
        simpa using h1
theorem rof_eq {K n d b : Int} (hk : OkT K n) (h : PathOk K d b) (k : Nat) : gleberef04_Of.f (k + 33) K d b = some ((zone n d b).f0, (zone n d b).f1, (zone n d b).f2, (zone n d b).f3, 0) := by
  have hb := okT_bd hk
  have h' := h
  obtain ⟨h1, h2, h3, h4⟩ := h'
  unfold gleberef04_Of.f gleberef03_Corner.f
  rw [rpright_eq, decide_eq_true h]
  simp only [Option.bind_some, if_true]
  rw [show k + 33 = (k + 16) + 17 from rfl, rside_eq hk, Option.bind_some, show k + 16 + 17 = k + 33 from rfl, halves_str (by omega) h3, Option.bind_some]
  have hl := corner_loop (s := n) (d := d) (b := b) (by omega) (by omega) h3 (k + 32 - d.toNat) d.toNat 0 (by omega)
  rw [show k + 32 - d.toNat + 1 + d.toNat = k + 33 by omega] at hl
  have e0 : cornerOf n (halves d b 0) = ⟨0, 0, n, n⟩ := rfl
  rw [e0] at hl
  rw [show ((0 : Nat) : Int) = 0 from rfl] at hl
  dsimp only at hl
  rw [hl]
  rfl
theorem rof_no {K d b : Int} (h : ¬ PathOk K d b) (k : Nat) : gleberef04_Of.f k K d b = some (0, 0, 0, 0, 1) := by
  unfold gleberef04_Of.f
  rw [rpright_eq, decide_eq_false h]
  rfl
end Go.Proofs.Ytjdmnlbnaogcdaa.PC
