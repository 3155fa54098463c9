/- What both Takes take: the same. -/
import Derived.Test.YtlfnfgoocliecaaPNx3
import Derived.Test.YtlfnfgoocliecaaPNx2
namespace Go.Proofs.Ytlfnfgoocliecaa.PN
open Go.RowKit Go.Proofs.YtlfnfgoocliecaaW.PrintWords Go.Proofs.YtlfnfgoocliecaaW.PrintLast Go.Proofs.YtlfnfgoocliecaaW.PrintMore
theorem from_eq (a b c : Int) : point_from.f a b c = some (decide (a ≤ b ∧ b ≤ c)) := by
  unfold point_from.f
  by_cases h : b ≥ a
  · rw [if_pos h]
    congr 1
    simp only [decide_eq_decide]
    omega
  · rw [if_neg h, decide_eq_false (by omega)]
theorem all_four : ∀ a b c d : Bool, point_all.f 100 [a, b, c, d] = some (a && b && c && d) := by decide +kernel
theorem right_both (e : Int) (f : Bool) (v : ByteArray) (n : Int) : ∃ b, point_RightAns.f 100 e f v n = some b ∧ gleberef07_RightAns.f e f v n = some b := by
  unfold point_RightAns.f gleberef07_RightAns.f
  simp only [from_eq, all_four, Option.bind_some]
  by_cases a1 : 0 ≤ e
  · by_cases a2 : e ≤ 255
    · by_cases a3 : (v.size : Int) ≤ 32
      · by_cases a4 : 0 ≤ n
        · by_cases a5 : n ≤ 1099511627776
          · cases f <;> by_cases a6 : v.toList = [] <;> simp [a1, a2, a3, a4, a5, a6]
          · cases f <;> by_cases a6 : v.toList = [] <;> simp [a1, a2, a3, a4, a5, a6]
        · cases f <;> by_cases a6 : v.toList = [] <;> simp [a1, a2, a3, a4, a6]
      · cases f <;> by_cases a6 : v.toList = [] <;> simp [a1, a2, a3, a6]
    · cases f <;> by_cases a6 : v.toList = [] <;> simp [a1, a2, a6]
  · cases f <;> by_cases a6 : v.toList = [] <;> simp [a1, a6]
end Go.Proofs.Ytlfnfgoocliecaa.PN
namespace Go.Proofs.Ytlfnfgoocliecaa.PN
open Go.RowKit Go.Proofs.YtlfnfgoocliecaaW.PrintWords Go.Proofs.YtlfnfgoocliecaaW.PrintLast Go.Proofs.YtlfnfgoocliecaaW.PrintMore
set_option linter.unusedVariables false
theorem and_bytes : ∀ a : Nat, a < 256 → Go.bits .and .u8 (a : Int) 127 = ((a % 128 : Nat) : Int) ∧ Go.bits .and .u8 (a : Int) 128 = (if a < 128 then 0 else 128) := by decide +kernel
theorem and127 {c : Int} (h : 0 ≤ c ∧ c < 256) : Go.bits .and .u8 c 127 = c % 128 := by
  obtain ⟨a, rfl⟩ := Int.eq_ofNat_of_zero_le h.1
  rw [(and_bytes a (by omega)).1]
  omega
theorem and128 {c : Int} (h : 0 ≤ c ∧ c < 256) : Go.bits .and .u8 c 128 = 0 ↔ c < 128 := by
  obtain ⟨a, rfl⟩ := Int.eq_ofNat_of_zero_le h.1
  rw [(and_bytes a (by omega)).2]
  by_cases q : a < 128
  · rw [if_pos q]
    exact ⟨fun _ => by omega, fun _ => rfl⟩
  · rw [if_neg q]
    exact ⟨fun e => by omega, fun e => by omega⟩
theorem or_big {a b : Nat} (ha : a < 2 ^ 62) (hb : b < 2 ^ 62) : Go.bits .or .i64 (a : Int) (b : Int) = ((a ||| b : Nat) : Int) := by
  unfold Go.bits
  dsimp only
  have ha' : (BitVec.ofInt (IntKind.bits .i64) (a : Int)).toNat = a := by
    show ((a : Int) % (2 ^ 64 : Nat)).toNat = a
    omega
  have hb' : (BitVec.ofInt (IntKind.bits .i64) (b : Int)).toNat = b := by
    show ((b : Int) % (2 ^ 64 : Nat)).toNat = b
    omega
  rw [BitVec.toNat_or, ha', hb']
  have h := Nat.or_lt_two_pow (n := 62) (x := a) (y := b) ha hb
  generalize a ||| b = z at h
  rw [IntKind.wrap_i64]
  omega
theorem pow7 (i : Nat) (hi : i ≤ 7) : 2 ^ (7 * i) ≤ 562949953421312 ∧ 1 ≤ 2 ^ (7 * i) := by
  have : i = 0 ∨ i = 1 ∨ i = 2 ∨ i = 3 ∨ i = 4 ∨ i = 5 ∨ i = 6 ∨ i = 7 := by omega
  rcases this with rfl | rfl | rfl | rfl | rfl | rfl | rfl | rfl <;> decide
/-- A byte more: it is added. -/
theorem rdPut_add {n : Nat} {c : Nat} (hc : c < 256) (i : Nat) (hi : i ≤ 7) (hn : n < 2 ^ (7 * i)) : rdPut (n : Int) (c : Int) i = ((n + 2 ^ (7 * i) * (c % 128) : Nat) : Int) := by
  unfold rdPut
  have hp := pow7 i hi
  have h := Nat.two_pow_add_eq_or_of_lt (i := 7 * i) (b := n) hn (c % 128)
  rw [and127 (by omega), show (c : Int) % 128 = ((c % 128 : Nat) : Int) by omega]
  have hx : c % 128 < 128 := Nat.mod_lt _ (by decide)
  have e : ((c % 128 : Nat) : Int) * 2 ^ (7 * i) = ((2 ^ (7 * i) * (c % 128) : Nat) : Int) := by
    rw [Int.natCast_mul, Int.natCast_pow, Int.mul_comm]
    rfl
  rw [e]
  have hb : 2 ^ (7 * i) * (c % 128) ≤ 562949953421312 * 127 := Nat.mul_le_mul hp.1 (by omega)
  generalize 2 ^ (7 * i) * (c % 128) = y at h hb
  rw [show wrap64 (y : Int) = (y : Int) by unfold wrap64; omega, or_big (by omega) (by omega), Nat.or_comm, ← h, Nat.add_comm]
/-- One round of reading. -/
theorem rdFrom_step {l : List Int} (f i : Nat) {n : Nat} (hf : f + i ≤ 7) (hn : n < 2 ^ (7 * i)) {c : Nat} (hi : i < l.length) (hc : rd l i = (c : Int)) (hb : c < 256) :
    rdFrom l (f + 1) i (n : Int) = if n + 2 ^ (7 * i) * (c % 128) > 9007199254740992 ∨ 0 < i ∧ c = 0 then (0, l, 21) else if c < 128 then (((n + 2 ^ (7 * i) * (c % 128) : Nat) : Int), l.drop (i + 1), 0) else rdFrom l f (i + 1) ((n + 2 ^ (7 * i) * (c % 128) : Nat) : Int) := by
  rw [rdFrom, if_neg (by omega), hc, rdPut_add hb i (by omega) hn]
  generalize n + 2 ^ (7 * i) * (c % 128) = v
  by_cases q : v > 9007199254740992 ∨ 0 < i ∧ c = 0
  · rw [if_pos q, if_pos (q.imp (fun q => by omega) (fun q => ⟨q.1, by omega⟩))]
  · rw [if_neg q, if_neg (fun z => q (z.imp (fun z => by omega) (fun z => ⟨z.1, by omega⟩)))]
    by_cases q2 : c < 128
    · rw [if_pos q2, if_pos ((and128 (by omega)).mpr (by omega))]
    · rw [if_neg q2, if_neg (fun z => q2 (by have := (and128 (by omega)).mp z; omega))]
theorem rdFrom_end {l : List Int} (f i : Nat) (n : Int) (hi : l.length ≤ i) : rdFrom l (f + 1) i n = (0, l, 20) := by
  rw [rdFrom, if_pos hi]
theorem next7 {n c i : Nat} (hn : n < 2 ^ (7 * i)) : n + 2 ^ (7 * i) * (c % 128) < 2 ^ (7 * (i + 1)) := by
  have hx : c % 128 ≤ 127 := by omega
  have h1 : 2 ^ (7 * i) * (c % 128) ≤ 2 ^ (7 * i) * 127 := Nat.mul_le_mul_left _ hx
  have h2 : 2 ^ (7 * (i + 1)) = 2 ^ (7 * i) * 128 := by rw [show 7 * (i + 1) = 7 * i + 7 by omega, Nat.pow_add]
  rw [h2]
  generalize 2 ^ (7 * i) = p at *
  generalize p * (c % 128) = y at *
  omega
end Go.Proofs.Ytlfnfgoocliecaa.PN
namespace Go.Proofs.Ytlfnfgoocliecaa.PN
open Go.RowKit Go.Proofs.YtlfnfgoocliecaaW.PrintWords Go.Proofs.YtlfnfgoocliecaaW.PrintLast Go.Proofs.YtlfnfgoocliecaaW.PrintMore
set_option linter.unusedVariables false
set_option linter.unusedSimpArgs false
theorem rd_nat (l : List Int) (i : Nat) (hi : i < l.length) : rd l (i : Int) = l[i] := by
  unfold rd
  rw [Int.toNat_natCast]
  simp [hi]
theorem w64 {x : Int} (h : -9223372036854775808 ≤ x ∧ x ≤ 9223372036854775807) : wrap64 x = x := by unfold wrap64; omega
/-- One round of the document's reader. -/
theorem refNum_end {l : List Int} (k at_ i : Nat) (n u : Int) (hl : l.length ≤ 1048576) (ha : at_ ≤ l.length) (hi : i < 8) (h : l.length ≤ at_ + i) : gleberef01_Reader_Num.l0 (k + 1) n u (i : Int) l (at_ : Int) 0 = some (0, (at_ : Int), 20) := by
  rw [gleberef01_Reader_Num.l0, if_neg (by omega), w64 (by omega), if_pos (by omega)]
theorem tmod128 (c : Nat) : Int.tmod (c : Int) 128 = ((c % 128 : Nat) : Int) := by
  rw [Int.tmod_eq_emod_of_nonneg (Int.natCast_nonneg c)]
  omega
theorem refNum_step' {l : List Int} (k at_ i n u y : Nat) (hl : l.length ≤ 1048576) (hi : i < 8) (h : at_ + i < l.length) (hn : n ≤ 562949953421312) (hu : u ≤ 562949953421312) {c : Nat} (hc : rd l ((at_ + i : Nat) : Int) = (c : Int)) (hb : c < 256) (hy : u * (c % 128) = y) (hyb : y ≤ 562949953421312 * 127) :
    gleberef01_Reader_Num.l0 (k + 2) (n : Int) (u : Int) (i : Int) l (at_ : Int) 0 =
      if n + y > 9007199254740992 ∨ 0 < i ∧ c = 0 then some (0, (at_ : Int), 21) else if c < 128 then some (((n + y : Nat) : Int), ((at_ + i + 1 : Nat) : Int), 0) else gleberef01_Reader_Num.l0 k ((n + y : Nat) : Int) ((u * 128 : Nat) : Int) ((i + 1 : Nat) : Int) l (at_ : Int) 0 := by
  have d1 : ¬ (i : Int) = 8 := by clear hy; omega
  have d2 : ¬ ((at_ + i : Nat) : Int) ≥ (l.length : Int) := by clear hy; omega
  have d3 : 0 ≤ ((at_ + i : Nat) : Int) := by clear hy; omega
  have d4 : ((at_ + i : Nat) : Int) < (l.length : Int) := by clear hy; omega
  have h4 : wrap64 (((c % 128 : Nat) : Int) * (u : Int)) = (y : Int) := by
    rw [← Int.natCast_mul, Nat.mul_comm, hy]
    exact w64 ⟨by clear hy hc; omega, by clear hy hc; omega⟩
  clear hy
  have h1 : wrap64 ((at_ : Int) + (i : Int)) = ((at_ + i : Nat) : Int) := (w64 (by omega)).trans (by omega)
  have h2 : wrap64 (c : Int) = (c : Int) := w64 (by omega)
  have h3 := tmod128 c
  have h5 : wrap64 ((n : Int) + (y : Int)) = ((n + y : Nat) : Int) := (w64 (by clear h1 h2 h3 h4 hc; omega)).trans (by clear h1 h2 h3 h4 hc; omega)
  have h6 : wrap64 ((u : Int) * 128) = ((u * 128 : Nat) : Int) := (w64 (by clear h1 h2 h3 h4 h5 hc; omega)).trans (by clear h1 h2 h3 h4 h5 hc; omega)
  have h7 : wrap64 ((i : Int) + 1) = ((i + 1 : Nat) : Int) := (w64 (by clear h1 h2 h3 h4 h5 h6 hc; omega)).trans (by clear h1 h2 h3 h4 h5 h6 hc; omega)
  have h8 : wrap64 (((at_ + i : Nat) : Int) + 1) = ((at_ + i + 1 : Nat) : Int) := (w64 (by clear h1 h2 h3 h4 h5 h6 h7 hc; omega)).trans (by clear h1 h2 h3 h4 h5 h6 h7 hc; omega)
  clear hyb hn hu
  rw [gleberef01_Reader_Num.l0, if_neg d1, h1, if_neg d2, if_pos d3, if_pos d4, hc, h2, h3, h4, h5]
  clear h3 h4 h5
  generalize n + y = v
  have j1 : ∀ b : Bool, gleberef01_Reader_Num.j1 (k + 1) (v : Int) (u : Int) (i : Int) (c : Int) b l (at_ : Int) 0 = if b = true then some (0, (at_ : Int), 21) else if c < 128 then some ((v : Int), ((at_ + i + 1 : Nat) : Int), 0) else gleberef01_Reader_Num.l0 k (v : Int) ((u * 128 : Nat) : Int) ((i + 1 : Nat) : Int) l (at_ : Int) 0 := by
    intro b
    rw [gleberef01_Reader_Num.j1, h1, h8, h6, h7]
    clear h1 h2 h6 h7 h8
    by_cases q : c < 128
    · rw [if_pos q, if_pos (show (c : Int) < 128 by omega)]
    · rw [if_neg q, if_neg (show ¬ (c : Int) < 128 by omega)]
  rw [j1, j1, j1]
  clear j1 h1 h2 h6 h7 h8
  by_cases q1 : v > 9007199254740992
  · rw [if_pos (show (v : Int) > 9007199254740992 by omega), if_pos rfl, if_pos (Or.inl q1)]
  · rw [if_neg (show ¬ (v : Int) > 9007199254740992 by omega)]
    by_cases q2 : c = 0
    · rw [if_pos (show (c : Int) = 0 by omega)]
      by_cases q3 : 0 < i
      · rw [decide_eq_true (show (i : Int) > 0 by omega), if_pos rfl, if_pos (Or.inr ⟨q3, q2⟩)]
      · rw [decide_eq_false (show ¬ (i : Int) > 0 by omega), if_neg (by simp), if_neg (show ¬ (v > 9007199254740992 ∨ 0 < i ∧ c = 0) by omega)]
    · rw [if_neg (show ¬ (c : Int) = 0 by omega), if_neg (by simp), if_neg (show ¬ (v > 9007199254740992 ∨ 0 < i ∧ c = 0) by omega)]
theorem refNum_step {l : List Int} (k at_ i n : Nat) (hl : l.length ≤ 1048576) (hi : i < 8) (h : at_ + i < l.length) (hn : n < 2 ^ (7 * i)) {c : Nat} (hc : rd l ((at_ + i : Nat) : Int) = (c : Int)) (hb : c < 256) :
    gleberef01_Reader_Num.l0 (k + 2) (n : Int) ((2 ^ (7 * i) : Nat) : Int) (i : Int) l (at_ : Int) 0 =
      if n + 2 ^ (7 * i) * (c % 128) > 9007199254740992 ∨ 0 < i ∧ c = 0 then some (0, (at_ : Int), 21) else if c < 128 then some (((n + 2 ^ (7 * i) * (c % 128) : Nat) : Int), ((at_ + i + 1 : Nat) : Int), 0) else gleberef01_Reader_Num.l0 k ((n + 2 ^ (7 * i) * (c % 128) : Nat) : Int) ((2 ^ (7 * (i + 1)) : Nat) : Int) ((i + 1 : Nat) : Int) l (at_ : Int) 0 := by
  have hp := pow7 i (by omega)
  have hx : c % 128 ≤ 127 := by omega
  have e : 2 ^ (7 * (i + 1)) = 2 ^ (7 * i) * 128 := by rw [show 7 * (i + 1) = 7 * i + 7 by omega, Nat.pow_add]
  rw [e]
  exact refNum_step' k at_ i n (2 ^ (7 * i)) _ hl hi h (Nat.le_of_lt (Nat.lt_of_lt_of_le hn hp.1)) hp.1 hc hb rfl (Nat.mul_le_mul hp.1 hx)
/-- From row i on. -/
theorem refNum_from {l : List Int} (hl : l.length ≤ 1048576) (hB : ∀ z ∈ l, 0 ≤ z ∧ z < 256) (at_ : Nat) (ha : at_ ≤ l.length) : ∀ (f i n k : Nat), f + i = 8 → n < 2 ^ (7 * i) → 2 * f + 1 ≤ k →
    ∃ at' : Nat, gleberef01_Reader_Num.l0 k (n : Int) ((2 ^ (7 * i) : Nat) : Int) (i : Int) l (at_ : Int) 0 = some ((rdFrom (l.drop at_) f i (n : Int)).1, (at' : Int), (rdFrom (l.drop at_) f i (n : Int)).2.2) ∧ at' ≤ l.length ∧ ((rdFrom (l.drop at_) f i (n : Int)).2.2 = 0 → (rdFrom (l.drop at_) f i (n : Int)).2.1 = l.drop at') := by
  intro f
  induction f with
  | zero =>
    intro i n k hf hn hk
    obtain ⟨k, rfl⟩ : ∃ j, k = j + 1 := ⟨k - 1, by omega⟩
    refine ⟨at_, ?_, ha, fun q => absurd q (by simp [rdFrom])⟩
    rw [gleberef01_Reader_Num.l0, if_pos (by omega)]
    rfl
  | succ f ih =>
    intro i n k hf hn hk
    by_cases q : l.length ≤ at_ + i
    · obtain ⟨k, rfl⟩ : ∃ j, k = j + 1 := ⟨k - 1, by omega⟩
      rw [rdFrom_end f i (n : Int) (by rw [List.length_drop]; omega), refNum_end k at_ i _ _ hl ha (by omega) q]
      exact ⟨at_, rfl, ha, fun q => absurd q (by simp)⟩
    · obtain ⟨k, rfl⟩ : ∃ j, k = j + 2 := ⟨k - 2, by omega⟩
      have hlt : at_ + i < l.length := by omega
      have hz := hB (l[at_ + i]) (List.getElem_mem _)
      obtain ⟨c, hc⟩ := Int.eq_ofNat_of_zero_le hz.1
      have hr : rd l ((at_ + i : Nat) : Int) = (c : Int) := (rd_nat l _ hlt).trans hc
      have hi : i < (l.drop at_).length := by rw [List.length_drop]; omega
      have hr2 : rd (l.drop at_) (i : Int) = (c : Int) := by
        rw [rd_nat _ i hi, List.getElem_drop]
        exact hc
      rw [rdFrom_step f i (by omega) hn hi hr2 (by omega), refNum_step k at_ i n hl (by omega) hlt hn hr (by omega)]
      have hn2 := next7 (c := c) hn
      generalize n + 2 ^ (7 * i) * (c % 128) = v at hn2
      by_cases q1 : v > 9007199254740992 ∨ 0 < i ∧ c = 0
      · rw [if_pos q1, if_pos q1]
        exact ⟨at_, rfl, ha, fun q => absurd q (by simp)⟩
      · rw [if_neg q1, if_neg q1]
        by_cases q2 : c < 128
        · rw [if_pos q2, if_pos q2]
          refine ⟨at_ + i + 1, rfl, by omega, fun _ => ?_⟩
          dsimp only
          rw [List.drop_drop]
          rfl
        · rw [if_neg q2, if_neg q2]
          exact ih (i + 1) v k (by omega) hn2 (by omega)
/-- The document's place and the reader's rest say the same. -/
def Agree (l0 : List Int) (l : List Int) (e : Int) (at_ : Nat) : Prop := at_ ≤ l0.length ∧ (e = 0 → l = l0.drop at_)
theorem rdFrom_err {l : List Int} : ∀ (f i : Nat) (n : Int), (rdFrom l f i n).2.2 ≠ 0 → (rdFrom l f i n).1 = 0
  | 0, _, _, _ => rfl
  | f + 1, i, n, h => by
    rw [rdFrom] at h ⊢
    split
    · rfl
    · rename_i h1
      rw [if_neg h1] at h
      split
      · rfl
      · rename_i h2
        rw [if_neg h2] at h
        split
        · rename_i h3
          rw [if_pos h3] at h
          exact absurd rfl h
        · rename_i h3
          rw [if_neg h3] at h
          exact rdFrom_err f _ _ h
theorem ok_on {e : Int} (h : e = 0) : rdOk e true = true := by subst h; rfl
theorem ok_off {e : Int} (h : e ≠ 0) : rdOk e true = false := by
  unfold rdOk
  simp [h]
theorem rdNum_err {l : List Int} {e : Int} (h : (rdNum l e true).2.2 ≠ 0) : (rdNum l e true).1 = 0 := by
  by_cases q : e = 0
  · rw [rdNum_on (ok_on q)] at h ⊢
    exact rdFrom_err _ _ _ h
  · rw [rdNum_off (ok_off q)]
section
variable {l0 l : List Int} {e : Int} {at_ : Nat} (hl : l0.length ≤ 1048576) (hB : ∀ z ∈ l0, 0 ≤ z ∧ z < 256) (h : Agree l0 l e at_)
include hl hB h
theorem ref_num (K : Nat) (hK : 20 ≤ K) : ∃ at' : Nat, gleberef01_Reader_Num.f K l0 (at_ : Int) e = some ((rdNum l e true).1, (at' : Int), (rdNum l e true).2.2) ∧ Agree l0 (rdNum l e true).2.1 (rdNum l e true).2.2 at' := by
  by_cases q : e = 0
  · subst q
    obtain rfl := h.2 rfl
    rw [rdNum_on (ok_on rfl)]
    obtain ⟨at', h1, h2, h3⟩ := refNum_from hl hB at_ h.1 8 0 0 K rfl (by decide) (by omega)
    refine ⟨at', ?_, h2, h3⟩
    unfold gleberef01_Reader_Num.f
    rw [if_pos rfl]
    exact h1
  · rw [rdNum_off (ok_off q)]
    refine ⟨at_, ?_, h⟩
    unfold gleberef01_Reader_Num.f
    rw [if_neg q]
theorem ref_upto (m : Int) (K : Nat) (hK : 20 ≤ K) : ∃ at' : Nat, gleberef01_Reader_Upto.f K l0 (at_ : Int) e m = some ((rdUpto l e true m).1, (at' : Int), (rdUpto l e true m).2.2) ∧ Agree l0 (rdUpto l e true m).2.1 (rdUpto l e true m).2.2 at' := by
  obtain ⟨at', h1, h2⟩ := ref_num hl hB h K hK
  have hoff : rdOk e true = false → rdNum l e true = (0, l, e) := rdNum_off
  unfold gleberef01_Reader_Upto.f
  rw [h1, Option.bind_some]
  dsimp only
  by_cases c : (rdNum l e true).1 > m
  · rw [rdUpto_pos c]
    by_cases q : (rdNum l e true).2.2 = 0
    · rw [if_pos q, if_pos c]
      dsimp only
      rw [ok_on q, if_pos rfl]
      exact ⟨at', rfl, h2.1, fun z => absurd z (by simp)⟩
    · rw [if_neg q]
      dsimp only
      rw [ok_off q, if_neg (by simp)]
      have hz : (rdNum l e true).1 = 0 := rdNum_err q
      rw [hz]
      exact ⟨at', rfl, h2⟩
  · rw [rdUpto_neg c]
    by_cases q : (rdNum l e true).2.2 = 0
    · rw [if_pos q, if_neg c]
      exact ⟨at', rfl, h2⟩
    · rw [if_neg q]
      exact ⟨at', rfl, h2⟩
theorem ref_text (m : Int) (K : Nat) (hK : 20 ≤ K) : ∃ at' : Nat, gleberef01_Reader_Text.f K l0 (at_ : Int) e m = some (strOfNums (rdText l e true m).1, (at' : Int), (rdText l e true m).2.2) ∧ Agree l0 (rdText l e true m).2.1 (rdText l e true m).2.2 at' := by
  obtain ⟨at', h1, h2⟩ := ref_upto hl hB h m K hK
  have hnn := rdUpto_nn l e true m
  unfold gleberef01_Reader_Text.f
  rw [h1, Option.bind_some]
  dsimp only
  unfold rtText
  by_cases q : (rdUpto l e true m).2.2 = 0
  · have hd := h2.2 q
    have hlen : ((rdUpto l e true m).2.1.length : Int) = (l0.length : Int) - (at' : Int) := by
      rw [hd, List.length_drop]
      have := h2.1
      omega
    rw [if_pos q, w64 (by have := h2.1; omega)]
    by_cases c : (rdUpto l e true m).1 > ((rdUpto l e true m).2.1.length : Int)
    · rw [rdText_end (ok_on q) c, if_pos (by omega)]
      exact ⟨at', rfl, h2.1, fun z => absurd z (by simp)⟩
    · rw [rdText_on (ok_on q) c, if_neg (by omega), if_pos ⟨by omega, hnn.1, by omega, by omega⟩, hd, Int.toNat_natCast]
      refine ⟨at' + (rdUpto l e true m).1.toNat, ?_, by omega, fun _ => by rw [List.drop_drop]⟩
      rw [show ((at' + (rdUpto l e true m).1.toNat : Nat) : Int) = (at' : Int) + (rdUpto l e true m).1 by omega]
  · rw [if_neg q, rdText_off (ok_off q)]
    exact ⟨at', rfl, h2⟩
end
theorem ref_left {l0 l : List Int} {e : Int} {at_ : Nat} (hl : l0.length ≤ 1048576) (h : Agree l0 l e at_) : gleberef01_Reader_Left.f l0 (at_ : Int) e = some (if rdOk e true then (l.length : Int) else 0, (at_ : Int), e) := by
  unfold gleberef01_Reader_Left.f
  have := h.1
  by_cases q : e = 0
  · rw [if_pos q, ok_on q, if_pos rfl, h.2 q, List.length_drop, w64 (by omega), show ((l0.length - at_ : Nat) : Int) = (l0.length : Int) - (at_ : Int) by omega]
  · rw [if_neg q, ok_off q, if_neg (by simp)]
theorem ref_fail {l0 l : List Int} {e : Int} {at_ : Nat} (x : Int) (h : Agree l0 l e at_) : gleberef01_Reader_Fail.f l0 (at_ : Int) e x = some ((at_ : Int), if rdOk e true then x else e) ∧ Agree l0 l (if rdOk e true then x else e) at_ := by
  unfold gleberef01_Reader_Fail.f
  by_cases q : e = 0
  · rw [if_pos q, ok_on q, if_pos rfl]
    exact ⟨rfl, h.1, fun _ => h.2 q⟩
  · rw [if_neg q, ok_off q, if_neg (by simp)]
    exact ⟨rfl, h⟩
end Go.Proofs.Ytlfnfgoocliecaa.PN
namespace Go.Proofs.Ytlfnfgoocliecaa.PN
open Go.RowKit Go.Proofs.YtlfnfgoocliecaaW.PrintWords Go.Proofs.YtlfnfgoocliecaaW.PrintLast Go.Proofs.YtlfnfgoocliecaaW.PrintMore
set_option linter.unusedVariables false
set_option linter.unusedSimpArgs false
theorem tk_yes (e : Int) : tkE true e = e := rfl
/-- The document's end of a Take. -/
theorem tk_fail {l0 l : List Int} {e : Int} {at_ : Nat} (h : Agree l0 l e at_) : gleberef01_Reader_Fail.f l0 (at_ : Int) e 21 = some ((at_ : Int), tkE false e) ∧ Agree l0 l (tkE false e) at_ := by
  have q := ref_fail 21 h
  have : (if rdOk e true = true then (21 : Int) else e) = tkE false e := by
    unfold tkE
    by_cases c : e = 0
    · rw [ok_on c, if_pos rfl, if_neg (by simp), if_pos c]
    · rw [ok_off c, if_neg (by simp), if_neg (by simp), if_neg c]
  rw [this] at q
  exact q
theorem zero_row4 (z : Int) (a : Int) (f : Bool) (s : ByteArray) (n : Int) : (if z = 0 then #[Value.int .i64 a, .bool f, .string s, .int .i64 n] else #[.int .i64 0, .bool false, .string ⟨#[]⟩, .int .i64 0]) = #[.int .i64 (if z = 0 then a else 0), .bool (if z = 0 then f else false), .string (if z = 0 then s else ⟨#[]⟩), .int .i64 (if z = 0 then n else 0)] := by
  by_cases h : z = 0
  · simp only [if_pos h]
  · simp only [if_neg h]
section
variable {l0 : List Int} (hl : l0.length ≤ 1048576) (hB : ∀ z ∈ l0, 0 ≤ z ∧ z < 256)
include hl hB
theorem stage_ans {l : List Int} {e : Int} {a0 : Nat} (h0 : Agree l0 l e a0) : ∃ ae l1 e1 fo l2 e2 av l3 e3 an l4 e4 r, ∃ at_ : Nat, rdNum l e true = (ae, l1, e1) ∧ rdNum l1 e1 true = (fo, l2, e2) ∧ rdText l2 e2 true 32 = (av, l3, e3) ∧ rdNum l3 e3 true = (an, l4, e4) ∧ point_RightAns.f 100 ae (fo == 1) (strOfNums av) an = some r ∧ Agree l0 l4 (tkE (decide (fo ≤ 1) && r) e4) at_ ∧
    gleberef07_TakeAns.f 100 l0 (a0 : Int) e = some (if tkE (decide (fo ≤ 1) && r) e4 = 0 then ae else 0, if tkE (decide (fo ≤ 1) && r) e4 = 0 then (fo == 1) else false, if tkE (decide (fo ≤ 1) && r) e4 = 0 then strOfNums av else ⟨#[]⟩, if tkE (decide (fo ≤ 1) && r) e4 = 0 then an else 0, (at_ : Int), tkE (decide (fo ≤ 1) && r) e4) := by
  obtain ⟨a1, q1, h1⟩ := ref_num hl hB h0 100 (by decide)
  obtain ⟨⟨ae, l1, e1⟩, k1⟩ : ∃ x, rdNum l e true = x := ⟨_, rfl⟩
  rw [k1] at q1 h1
  dsimp only at q1 h1
  obtain ⟨a2, q2, h2⟩ := ref_num hl hB h1 100 (by decide)
  obtain ⟨⟨fo, l2, e2⟩, k2⟩ : ∃ x, rdNum l1 e1 true = x := ⟨_, rfl⟩
  rw [k2] at q2 h2
  dsimp only at q2 h2
  obtain ⟨a3, q3, h3⟩ := ref_text hl hB h2 32 100 (by decide)
  obtain ⟨⟨av, l3, e3⟩, k3⟩ : ∃ x, rdText l2 e2 true 32 = x := ⟨_, rfl⟩
  rw [k3] at q3 h3
  dsimp only at q3 h3
  obtain ⟨a4, q4, h4⟩ := ref_num hl hB h3 100 (by decide)
  obtain ⟨⟨an, l4, e4⟩, k4⟩ : ∃ x, rdNum l3 e3 true = x := ⟨_, rfl⟩
  rw [k4] at q4 h4
  dsimp only at q4 h4
  obtain ⟨r, r1, r2⟩ := right_both ae (fo == 1) (strOfNums av) an
  obtain ⟨c, hc⟩ : ∃ c, decide (fo ≤ 1) = c := ⟨_, rfl⟩
  have hc2 : decide (fo > 1) = !c := by
    rw [← hc]
    by_cases z : fo ≤ 1
    · rw [decide_eq_true z, decide_eq_false (by omega)]; rfl
    · rw [decide_eq_false z, decide_eq_true (by omega)]; rfl
  have hf : Agree l0 l4 (tkE (decide (fo ≤ 1) && r) e4) a4 := by
    rw [hc]
    cases r <;> cases c
    · exact (tk_fail h4).2
    · exact (tk_fail h4).2
    · exact (tk_fail h4).2
    · exact h4
  refine ⟨ae, l1, e1, fo, l2, e2, av, l3, e3, an, l4, e4, r, a4, k1, k2, k3, k4, r1, hf, ?_⟩
  rw [hc]
  unfold gleberef07_TakeAns.f
  simp only [q1, q2, q3, q4, r2, Option.bind_some]
  cases r <;> cases c
  · simp only [Bool.false_eq_true, if_false, if_true, gleberef07_TakeAns.j0, hc2, Bool.not_true, Bool.not_false, Bool.and_false, Bool.false_and, Bool.and_true, Bool.and_self, (tk_fail h4).1, Option.bind_some]
    by_cases c9 : tkE false e4 = 0
    · simp only [if_pos c9, c9, if_true]
    · first | (simp only [if_neg c9]; done) | (simp [c9, tk_yes]; done)
  · simp only [Bool.false_eq_true, if_false, if_true, gleberef07_TakeAns.j0, hc2, Bool.not_true, Bool.not_false, Bool.and_false, Bool.false_and, Bool.and_true, Bool.and_self, (tk_fail h4).1, Option.bind_some]
    by_cases c9 : tkE false e4 = 0
    · simp only [if_pos c9, c9, if_true]
    · first | (simp only [if_neg c9]; done) | (simp [c9, tk_yes]; done)
  · simp only [Bool.false_eq_true, if_false, if_true, gleberef07_TakeAns.j0, hc2, Bool.not_true, Bool.not_false, Bool.and_false, Bool.false_and, Bool.and_true, Bool.and_self, (tk_fail h4).1, Option.bind_some]
    by_cases c9 : tkE false e4 = 0
    · simp only [if_pos c9, c9, if_true]
    · first | (simp only [if_neg c9]; done) | (simp [c9, tk_yes]; done)
  · simp only [Bool.false_eq_true, if_false, if_true, gleberef07_TakeAns.j0, hc2, Bool.not_true, Bool.and_self, tk_yes, Option.bind_some]
    by_cases c9 : e4 = 0
    · simp only [c9, if_true]
    · first | (simp only [if_neg c9]; done) | (simp [c9, tk_yes]; done)
/-- One round of both Takes. -/
theorem round_both {l : List Int} {e : Int} {a0 : Nat} (h0 : Agree l0 l e a0) : ∃ row l' e', ∃ a' : Nat, TStep 100 l e row l' e' ∧ RStep 100 l0 (a0 : Int) e row (a' : Int) e' ∧ Agree l0 l' e' a' := by
  obtain ⟨a1, u1, h1⟩ := ref_upto hl hB h0 1099511627776 100 (by decide)
  have hnn := (rdUpto_nn l e true 1099511627776).1
  obtain ⟨⟨q, la, ea⟩, k1⟩ : ∃ x, rdUpto l e true 1099511627776 = x := ⟨_, rfl⟩
  rw [k1] at u1 h1 hnn
  dsimp only at u1 h1 hnn
  by_cases hq : 0 < q
  · obtain ⟨ae, l1, e1, fo, l2, e2, av, l3, e3, an, l4, e4, r, at_, q1, q2, q3, q4, hr, hag, hf⟩ := stage_ans hl hB h1
    refine ⟨⟨if tkE (decide (fo ≤ 1) && r) e4 = 0 then ae else 0, if tkE (decide (fo ≤ 1) && r) e4 = 0 then (fo == 1) else false, if tkE (decide (fo ≤ 1) && r) e4 = 0 then strOfNums av else ⟨#[]⟩, if tkE (decide (fo ≤ 1) && r) e4 = 0 then an else 0, q⟩, l4, _, at_, ⟨q, la, ea, k1, rfl, .inr ⟨hq, ae, l1, e1, fo, l2, e2, av, l3, e3, an, e4, r, q1, q2, q3, q4, hr, rfl, ?_⟩⟩, ⟨q, (a1 : Int), ea, u1, .inr ⟨hq, rfl, hf⟩⟩, hag⟩
    exact zero_row4 _ _ _ _ _
  · obtain rfl : q = 0 := by omega
    exact ⟨SRow.none, la, ea, a1, ⟨0, la, ea, k1, rfl, .inl ⟨rfl, rfl, rfl, rfl⟩⟩, ⟨0, (a1 : Int), ea, u1, .inl ⟨by omega, rfl, rfl, rfl⟩⟩, h1⟩
end
/-- Rounds without end. -/
theorem rounds {σ ρ : Type} (P : σ → Prop) (step : σ → ρ → σ → Prop) (h : ∀ s, P s → ∃ r s', step s r s' ∧ P s') (s0 : σ) (h0 : P s0) : ∃ (S : Nat → σ) (R : Nat → ρ), S 0 = s0 ∧ ∀ i, step (S i) (R i) (S (i + 1)) ∧ P (S i) := by
  have hc : ∀ s : {s // P s}, ∃ x : ρ × {s // P s}, step s.1 x.1 x.2.1 := fun s => by
    obtain ⟨r, s', h1, h2⟩ := h s.1 s.2
    exact ⟨(r, ⟨s', h2⟩), h1⟩
  let nx : {s // P s} → ρ × {s // P s} := fun s => (hc s).choose
  have hn : ∀ s, step s.1 (nx s).1 (nx s).2.1 := fun s => (hc s).choose_spec
  let S : Nat → {s // P s} := fun n => Nat.rec ⟨s0, h0⟩ (fun _ s => (nx s).2) n
  exact ⟨fun n => (S n).1, fun n => (nx (S n)).1, rfl, fun i => ⟨hn (S i), (S i).2⟩⟩
/-- Both Takes, round by round. -/
theorem takes_both {l0 : List Int} (hl : l0.length ≤ 1048576) (hB : ∀ z ∈ l0, 0 ≤ z ∧ z < 256) : ∃ (L : Nat → List Int) (E A : Nat → Int) (R : Nat → SRow), L 0 = l0 ∧ E 0 = 0 ∧ A 0 = 0 ∧ (∀ i, TStep 100 (L i) (E i) (R i) (L (i + 1)) (E (i + 1)) ∧ RStep 100 l0 (A i) (E i) (R i) (A (i + 1)) (E (i + 1))) ∧ ∃ a : Nat, A 8 = a ∧ Agree l0 (L 8) (E 8) a := by
  obtain ⟨S, R, h0, hs⟩ := rounds (σ := List Int × Int × Nat) (ρ := SRow) (fun s => Agree l0 s.1 s.2.1 s.2.2) (fun s r s' => TStep 100 s.1 s.2.1 r s'.1 s'.2.1 ∧ RStep 100 l0 (s.2.2 : Int) s.2.1 r (s'.2.2 : Int) s'.2.1) (fun s hs => by
    obtain ⟨row, l', e', a', h1, h2, h3⟩ := round_both hl hB hs
    exact ⟨row, (l', e', a'), ⟨h1, h2⟩, h3⟩) (l0, 0, 0) ⟨by simp, fun _ => rfl⟩
  exact ⟨fun n => (S n).1, fun n => (S n).2.1, fun n => ((S n).2.2 : Int), R, by simp [h0], by simp [h0], by simp [h0], fun i => (hs i).1, (S 8).2.2, rfl, (hs 8).2⟩
end Go.Proofs.Ytlfnfgoocliecaa.PN
