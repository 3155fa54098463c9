/- The reader and the document's reader: they read the same. -/
import Derived.Test.YtimfeiobdcmhnaaWireRead
import Derived.Test.YtimfeiobdcmhnaaWireCrc
import Derived.Test.YtimfeiobdcmhnaaPRx35
import Derived.Test.YtimfeiobdcmhnaaPRx36
import Derived.Test.YtimfeiobdcmhnaaPRx37
import Derived.Test.YtimfeiobdcmhnaaPRx39
import Derived.Test.YtimfeiobdcmhnaaPRx40
import Derived.Test.YtimfeiobdcmhnaaPRx38
namespace Go.Proofs.Ytimfeiobdcmhnaa.PR
open Go.RowKit Go.Proofs.YtimfeiobdcmhnaaW.PrintWords Go.Proofs.YtimfeiobdcmhnaaW.PrintLast Go.Proofs.YtimfeiobdcmhnaaW.PrintMore
theorem w64 {x : Int} (h : -9223372036854775808 ≤ x ∧ x ≤ 9223372036854775807) : wrap64 x = x := by unfold wrap64; omega
/-- One round of the document's reader. -/
theorem refNum_end {l : List Int} (k at_ i : Nat) (n u : Int) (hl : l.length ≤ 1048576) (ha : at_ ≤ l.length) (hi : i < 8) (h : l.length ≤ at_ + i) : gleberef01_Reader_Num.l0 (k + 1) n u (i : Int) l (at_ : Int) 0 = some (0, (at_ : Int), 20) := by
  rw [gleberef01_Reader_Num.l0, if_neg (by omega), w64 (by omega), if_pos (by omega)]
theorem tmod128 (c : Nat) : Int.tmod (c : Int) 128 = ((c % 128 : Nat) : Int) := by
  rw [Int.tmod_eq_emod_of_nonneg (Int.natCast_nonneg c)]
  omega
theorem refNum_step' {l : List Int} (k at_ i n u y : Nat) (hl : l.length ≤ 1048576) (hi : i < 8) (h : at_ + i < l.length) (hn : n ≤ 562949953421312) (hu : u ≤ 562949953421312) {c : Nat} (hc : rd l ((at_ + i : Nat) : Int) = (c : Int)) (hb : c < 256) (hy : u * (c % 128) = y) (hyb : y ≤ 562949953421312 * 127) :
    gleberef01_Reader_Num.l0 (k + 2) (n : Int) (u : Int) (i : Int) l (at_ : Int) 0 =
      if n + y > 9007199254740992 ∨ 0 < i ∧ c = 0 then some (0, (at_ : Int), 21) else if c < 128 then some (((n + y : Nat) : Int), ((at_ + i + 1 : Nat) : Int), 0) else gleberef01_Reader_Num.l0 k ((n + y : Nat) : Int) ((u * 128 : Nat) : Int) ((i + 1 : Nat) : Int) l (at_ : Int) 0 := by
  have d1 : ¬ (i : Int) = 8 := by clear hy; omega
  have d2 : ¬ ((at_ + i : Nat) : Int) ≥ (l.length : Int) := by clear hy; omega
  have d3 : 0 ≤ ((at_ + i : Nat) : Int) := by clear hy; omega
  have d4 : ((at_ + i : Nat) : Int) < (l.length : Int) := by clear hy; omega
  have h4 : wrap64 (((c % 128 : Nat) : Int) * (u : Int)) = (y : Int) := by
    rw [← Int.natCast_mul, Nat.mul_comm, hy]
    exact w64 ⟨by clear hy hc; omega, by clear hy hc; omega⟩
  clear hy
  have h1 : wrap64 ((at_ : Int) + (i : Int)) = ((at_ + i : Nat) : Int) := (w64 (by omega)).trans (by omega)
  have h2 : wrap64 (c : Int) = (c : Int) := w64 (by omega)
  have h3 := tmod128 c
  have h5 : wrap64 ((n : Int) + (y : Int)) = ((n + y : Nat) : Int) := (w64 (by clear h1 h2 h3 h4 hc; omega)).trans (by clear h1 h2 h3 h4 hc; omega)
  have h6 : wrap64 ((u : Int) * 128) = ((u * 128 : Nat) : Int) := (w64 (by clear h1 h2 h3 h4 h5 hc; omega)).trans (by clear h1 h2 h3 h4 h5 hc; omega)
  have h7 : wrap64 ((i : Int) + 1) = ((i + 1 : Nat) : Int) := (w64 (by clear h1 h2 h3 h4 h5 h6 hc; omega)).trans (by clear h1 h2 h3 h4 h5 h6 hc; omega)
  have h8 : wrap64 (((at_ + i : Nat) : Int) + 1) = ((at_ + i + 1 : Nat) : Int) := (w64 (by clear h1 h2 h3 h4 h5 h6 h7 hc; omega)).trans (by clear h1 h2 h3 h4 h5 h6 h7 hc; omega)
  clear hyb hn hu
  rw [gleberef01_Reader_Num.l0, if_neg d1, h1, if_neg d2, if_pos d3, if_pos d4, hc, h2, h3, h4, h5]
  clear h3 h4 h5
  generalize n + y = v
  have j1 : ∀ b : Bool, gleberef01_Reader_Num.j1 (k + 1) (v : Int) (u : Int) (i : Int) (c : Int) b l (at_ : Int) 0 = if b = true then some (0, (at_ : Int), 21) else if c < 128 then some ((v : Int), ((at_ + i + 1 : Nat) : Int), 0) else gleberef01_Reader_Num.l0 k (v : Int) ((u * 128 : Nat) : Int) ((i + 1 : Nat) : Int) l (at_ : Int) 0 := by
    intro b
    rw [gleberef01_Reader_Num.j1, h1, h8, h6, h7]
    clear h1 h2 h6 h7 h8
    by_cases q : c < 128
    · rw [if_pos q, if_pos (show (c : Int) < 128 by omega)]
    · rw [if_neg q, if_neg (show ¬ (c : Int) < 128 by omega)]
  rw [j1, j1, j1]
  clear j1 h1 h2 h6 h7 h8
  by_cases q1 : v > 9007199254740992
  · rw [if_pos (show (v : Int) > 9007199254740992 by omega), if_pos rfl, if_pos (Or.inl q1)]
  · rw [if_neg (show ¬ (v : Int) > 9007199254740992 by omega)]
    by_cases q2 : c = 0
    · rw [if_pos (show (c : Int) = 0 by omega)]
      by_cases q3 : 0 < i
      · rw [decide_eq_true (show (i : Int) > 0 by omega), if_pos rfl, if_pos (Or.inr ⟨q3, q2⟩)]
      · rw [decide_eq_false (show ¬ (i : Int) > 0 by omega), if_neg (by simp), if_neg (show ¬ (v > 9007199254740992 ∨ 0 < i ∧ c = 0) by omega)]
    · rw [if_neg (show ¬ (c : Int) = 0 by omega), if_neg (by simp), if_neg (show ¬ (v > 9007199254740992 ∨ 0 < i ∧ c = 0) by omega)]
theorem refNum_step {l : List Int} (k at_ i n : Nat) (hl : l.length ≤ 1048576) (hi : i < 8) (h : at_ + i < l.length) (hn : n < 2 ^ (7 * i)) {c : Nat} (hc : rd l ((at_ + i : Nat) : Int) = (c : Int)) (hb : c < 256) :
    gleberef01_Reader_Num.l0 (k + 2) (n : Int) ((2 ^ (7 * i) : Nat) : Int) (i : Int) l (at_ : Int) 0 =
      if n + 2 ^ (7 * i) * (c % 128) > 9007199254740992 ∨ 0 < i ∧ c = 0 then some (0, (at_ : Int), 21) else if c < 128 then some (((n + 2 ^ (7 * i) * (c % 128) : Nat) : Int), ((at_ + i + 1 : Nat) : Int), 0) else gleberef01_Reader_Num.l0 k ((n + 2 ^ (7 * i) * (c % 128) : Nat) : Int) ((2 ^ (7 * (i + 1)) : Nat) : Int) ((i + 1 : Nat) : Int) l (at_ : Int) 0 := by
  have hp := pow7 i (by omega)
  have hx : c % 128 ≤ 127 := by omega
  have e : 2 ^ (7 * (i + 1)) = 2 ^ (7 * i) * 128 := by rw [show 7 * (i + 1) = 7 * i + 7 by omega, Nat.pow_add]
  rw [e]
  exact refNum_step' k at_ i n (2 ^ (7 * i)) _ hl hi h (Nat.le_of_lt (Nat.lt_of_lt_of_le hn hp.1)) hp.1 hc hb rfl (Nat.mul_le_mul hp.1 hx)
/-- From row i on. -/
theorem refNum_from {l : List Int} (hl : l.length ≤ 1048576) (hB : ∀ z ∈ l, 0 ≤ z ∧ z < 256) (at_ : Nat) (ha : at_ ≤ l.length) : ∀ (f i n k : Nat), f + i = 8 → n < 2 ^ (7 * i) → 2 * f + 1 ≤ k →
    ∃ at' : Nat, gleberef01_Reader_Num.l0 k (n : Int) ((2 ^ (7 * i) : Nat) : Int) (i : Int) l (at_ : Int) 0 = some ((rdFrom (l.drop at_) f i (n : Int)).1, (at' : Int), (rdFrom (l.drop at_) f i (n : Int)).2.2) ∧ at' ≤ l.length ∧ ((rdFrom (l.drop at_) f i (n : Int)).2.2 = 0 → (rdFrom (l.drop at_) f i (n : Int)).2.1 = l.drop at') := by
  intro f
  induction f with
  | zero =>
    intro i n k hf hn hk
    obtain ⟨k, rfl⟩ : ∃ j, k = j + 1 := ⟨k - 1, by omega⟩
    refine ⟨at_, ?_, ha, fun q => absurd q (by simp [rdFrom])⟩
    rw [gleberef01_Reader_Num.l0, if_pos (by omega)]
    rfl
  | succ f ih =>
    intro i n k hf hn hk
    by_cases q : l.length ≤ at_ + i
    · obtain ⟨k, rfl⟩ : ∃ j, k = j + 1 := ⟨k - 1, by omega⟩
      rw [rdFrom_end f i (n : Int) (by rw [List.length_drop]; omega), refNum_end k at_ i _ _ hl ha (by omega) q]
      exact ⟨at_, rfl, ha, fun q => absurd q (by simp)⟩
    · obtain ⟨k, rfl⟩ : ∃ j, k = j + 2 := ⟨k - 2, by omega⟩
      have hlt : at_ + i < l.length := by omega
      have hz := hB (l[at_ + i]) (List.getElem_mem _)
      obtain ⟨c, hc⟩ := Int.eq_ofNat_of_zero_le hz.1
      have hr : rd l ((at_ + i : Nat) : Int) = (c : Int) := (rd_nat l _ hlt).trans hc
      have hi : i < (l.drop at_).length := by rw [List.length_drop]; omega
      have hr2 : rd (l.drop at_) (i : Int) = (c : Int) := by
        rw [rd_nat _ i hi, List.getElem_drop]
        exact hc
      rw [rdFrom_step f i (by omega) hn hi hr2 (by omega), refNum_step k at_ i n hl (by omega) hlt hn hr (by omega)]
      have hn2 := next7 (c := c) hn
      generalize n + 2 ^ (7 * i) * (c % 128) = v at hn2
      by_cases q1 : v > 9007199254740992 ∨ 0 < i ∧ c = 0
      · rw [if_pos q1, if_pos q1]
        exact ⟨at_, rfl, ha, fun q => absurd q (by simp)⟩
      · rw [if_neg q1, if_neg q1]
        by_cases q2 : c < 128
        · rw [if_pos q2, if_pos q2]
          refine ⟨at_ + i + 1, rfl, by omega, fun _ => ?_⟩
          dsimp only
          rw [List.drop_drop]
          rfl
        · rw [if_neg q2, if_neg q2]
          exact ih (i + 1) v k (by omega) hn2 (by omega)
/-- The document's place and the reader's rest say the same. -/
def Agree (l0 : List Int) (l : List Int) (e : Int) (at_ : Nat) : Prop := at_ ≤ l0.length ∧ (e = 0 → l = l0.drop at_)
theorem rdFrom_err {l : List Int} : ∀ (f i : Nat) (n : Int), (rdFrom l f i n).2.2 ≠ 0 → (rdFrom l f i n).1 = 0
  | 0, _, _, _ => rfl
  | f + 1, i, n, h => by
    rw [rdFrom] at h ⊢
    split
    · rfl
    · rename_i h1
      rw [if_neg h1] at h
      split
      · rfl
      · rename_i h2
        rw [if_neg h2] at h
        split
        · rename_i h3
          rw [if_pos h3] at h
          exact absurd rfl h
        · rename_i h3
          rw [if_neg h3] at h
          exact rdFrom_err f _ _ h
theorem ok_on {e : Int} (h : e = 0) : rdOk e true = true := by subst h; rfl
theorem ok_off {e : Int} (h : e ≠ 0) : rdOk e true = false := by
  unfold rdOk
  simp [h]
theorem rdNum_err {l : List Int} {e : Int} (h : (rdNum l e true).2.2 ≠ 0) : (rdNum l e true).1 = 0 := by
  by_cases q : e = 0
  · rw [rdNum_on (ok_on q)] at h ⊢
    exact rdFrom_err _ _ _ h
  · rw [rdNum_off (ok_off q)]
section
variable {l0 l : List Int} {e : Int} {at_ : Nat} (hl : l0.length ≤ 1048576) (hB : ∀ z ∈ l0, 0 ≤ z ∧ z < 256) (h : Agree l0 l e at_)
include hl hB h
theorem ref_num (K : Nat) (hK : 20 ≤ K) : ∃ at' : Nat, gleberef01_Reader_Num.f K l0 (at_ : Int) e = some ((rdNum l e true).1, (at' : Int), (rdNum l e true).2.2) ∧ Agree l0 (rdNum l e true).2.1 (rdNum l e true).2.2 at' := by
  by_cases q : e = 0
  · subst q
    obtain rfl := h.2 rfl
    rw [rdNum_on (ok_on rfl)]
    obtain ⟨at', h1, h2, h3⟩ := refNum_from hl hB at_ h.1 8 0 0 K rfl (by decide) (by omega)
    refine ⟨at', ?_, h2, h3⟩
    unfold gleberef01_Reader_Num.f
    rw [if_pos rfl]
    exact h1
  · rw [rdNum_off (ok_off q)]
    refine ⟨at_, ?_, h⟩
    unfold gleberef01_Reader_Num.f
    rw [if_neg q]
theorem ref_upto (m : Int) (K : Nat) (hK : 20 ≤ K) : ∃ at' : Nat, gleberef01_Reader_Upto.f K l0 (at_ : Int) e m = some ((rdUpto l e true m).1, (at' : Int), (rdUpto l e true m).2.2) ∧ Agree l0 (rdUpto l e true m).2.1 (rdUpto l e true m).2.2 at' := by
  obtain ⟨at', h1, h2⟩ := ref_num hl hB h K hK
  have hoff : rdOk e true = false → rdNum l e true = (0, l, e) := rdNum_off
  unfold gleberef01_Reader_Upto.f
  rw [h1, Option.bind_some]
  dsimp only
  by_cases c : (rdNum l e true).1 > m
  · rw [rdUpto_pos c]
    by_cases q : (rdNum l e true).2.2 = 0
    · rw [if_pos q, if_pos c]
      dsimp only
      rw [ok_on q, if_pos rfl]
      exact ⟨at', rfl, h2.1, fun z => absurd z (by simp)⟩
    · rw [if_neg q]
      dsimp only
      rw [ok_off q, if_neg (by simp)]
      have hz : (rdNum l e true).1 = 0 := rdNum_err q
      rw [hz]
      exact ⟨at', rfl, h2⟩
  · rw [rdUpto_neg c]
    by_cases q : (rdNum l e true).2.2 = 0
    · rw [if_pos q, if_neg c]
      exact ⟨at', rfl, h2⟩
    · rw [if_neg q]
      exact ⟨at', rfl, h2⟩
theorem ref_text (m : Int) (K : Nat) (hK : 20 ≤ K) : ∃ at' : Nat, gleberef01_Reader_Text.f K l0 (at_ : Int) e m = some (strOfNums (rdText l e true m).1, (at' : Int), (rdText l e true m).2.2) ∧ Agree l0 (rdText l e true m).2.1 (rdText l e true m).2.2 at' := by
  obtain ⟨at', h1, h2⟩ := ref_upto hl hB h m K hK
  have hnn := rdUpto_nn l e true m
  unfold gleberef01_Reader_Text.f
  rw [h1, Option.bind_some]
  dsimp only
  unfold rtText
  by_cases q : (rdUpto l e true m).2.2 = 0
  · have hd := h2.2 q
    have hlen : ((rdUpto l e true m).2.1.length : Int) = (l0.length : Int) - (at' : Int) := by
      rw [hd, List.length_drop]
      have := h2.1
      omega
    rw [if_pos q, w64 (by have := h2.1; omega)]
    by_cases c : (rdUpto l e true m).1 > ((rdUpto l e true m).2.1.length : Int)
    · rw [rdText_end (ok_on q) c, if_pos (by omega)]
      exact ⟨at', rfl, h2.1, fun z => absurd z (by simp)⟩
    · rw [rdText_on (ok_on q) c, if_neg (by omega), if_pos ⟨by omega, hnn.1, by omega, by omega⟩, hd, Int.toNat_natCast]
      refine ⟨at' + (rdUpto l e true m).1.toNat, ?_, by omega, fun _ => by rw [List.drop_drop]⟩
      rw [show ((at' + (rdUpto l e true m).1.toNat : Nat) : Int) = (at' : Int) + (rdUpto l e true m).1 by omega]
  · rw [if_neg q, rdText_off (ok_off q)]
    exact ⟨at', rfl, h2⟩
end
theorem ref_left {l0 l : List Int} {e : Int} {at_ : Nat} (hl : l0.length ≤ 1048576) (h : Agree l0 l e at_) : gleberef01_Reader_Left.f l0 (at_ : Int) e = some (if rdOk e true then (l.length : Int) else 0, (at_ : Int), e) := by
  unfold gleberef01_Reader_Left.f
  have := h.1
  by_cases q : e = 0
  · rw [if_pos q, ok_on q, if_pos rfl, h.2 q, List.length_drop, w64 (by omega), show ((l0.length - at_ : Nat) : Int) = (l0.length : Int) - (at_ : Int) by omega]
  · rw [if_neg q, ok_off q, if_neg (by simp)]
theorem ref_done {l0 l : List Int} {e : Int} {at_ : Nat} (h : Agree l0 l e at_) : gleberef01_Reader_Done.f l0 (at_ : Int) e = some (rdDone l e true, (at_ : Int), e) := by
  unfold gleberef01_Reader_Done.f rdDone
  have := h.1
  by_cases q : e = 0
  · rw [if_pos q, ok_on q, if_pos rfl, h.2 q, List.length_drop]
    by_cases c : (at_ : Int) < (l0.length : Int)
    · rw [if_pos c, if_pos (by omega)]
    · rw [if_neg c, if_neg (by omega), if_pos rfl]
  · rw [if_neg q, ok_off q]
    simp
theorem ref_fail {l0 l : List Int} {e : Int} {at_ : Nat} (x : Int) (h : Agree l0 l e at_) : gleberef01_Reader_Fail.f l0 (at_ : Int) e x = some ((at_ : Int), if rdOk e true then x else e) ∧ Agree l0 l (if rdOk e true then x else e) at_ := by
  unfold gleberef01_Reader_Fail.f
  by_cases q : e = 0
  · rw [if_pos q, ok_on q, if_pos rfl]
    exact ⟨rfl, h.1, fun _ => h.2 q⟩
  · rw [if_neg q, ok_off q, if_neg (by simp)]
    exact ⟨rfl, h⟩
end Go.Proofs.Ytimfeiobdcmhnaa.PR
