/- What TakeRec, TakeOp and TakeAns take: the program's and the document's are the same. -/
import Derived.Test.YtiglmgmkablpkaaPKx2
import Derived.Test.YtiglmgmkablpkaaPKx4
import Derived.Test.YtiglmgmkablpkaaPKx6
import Derived.Test.YtiglmgmkablpkaaPKx7
import Derived.Test.YtiglmgmkablpkaaPKx8
namespace Go.Proofs.Ytiglmgmkablpkaa.PK
open Go.RowKit Go.Proofs.YtiglmgmkablpkaaW.PrintWords Go.Proofs.YtiglmgmkablpkaaW.PrintLast Go.Proofs.YtiglmgmkablpkaaW.PrintMore
set_option linter.unusedVariables false
set_option linter.unusedSimpArgs false
theorem w64_small {x : Int} (h1 : -9223372036854775808 ≤ x) (h2 : x ≤ 9223372036854775807) : wrap64 x = x := by
  unfold wrap64
  omega
/-- A number's bytes, in at most j + 1 of them. -/
def numB : Nat → Int → List Int
  | 0, x => [x]
  | j + 1, x => if x > 127 then (128 + x % 128) :: numB j (x / 128) else [x]
theorem or_128 (x : Int) : Go.bits .or .u8 (x % 256) 128 = 128 + x % 128 := by
  have h : ∀ y : Fin 256, Go.bits .or .u8 ((y.val : Nat) : Int) 128 = 128 + ((y.val : Nat) : Int) % 128 := by decide +kernel
  have h1 : 0 ≤ x % 256 ∧ x % 256 < 256 := by omega
  have h2 := h ⟨(x % 256).toNat, by omega⟩
  dsimp only at h2
  rw [Int.toNat_of_nonneg h1.1] at h2
  rw [h2]
  omega
theorem numB_len (j : Nat) (x : Int) : (numB j x).length ≤ j + 1 := by
  induction j generalizing x with
  | zero => simp [numB]
  | succ j ih =>
    unfold numB
    split
    · have := ih (x / 128)
      simp
      omega
    · simp
theorem wnum_loop (k j : Nat) : ∀ (x : Int) (out : List Int), 0 ≤ x → x < 128 * 128 ^ j → out.length + j ≤ 1000 → wire_Num.l0 (k + 1 + j) x out = some (out ++ numB j x, 0) := by
  induction j with
  | zero =>
    intro x out h0 h1 h2
    simp only [wire_Num.l0, numB]
    simp at h1
    rw [if_neg (by omega), if_pos (by omega), Int.emod_eq_of_lt h0 (by omega)]
  | succ j ih =>
    intro x out h0 h1 h2
    show wire_Num.l0 ((k + 1 + j) + 1) _ _ = _
    simp only [wire_Num.l0, numB]
    by_cases h : x > 127
    · rw [Int.pow_succ] at h1
      rw [if_pos h, if_pos h, if_pos (by omega), or_128, ih _ _ (by omega) (by omega) (by simp; omega)]
      simp
    · rw [if_neg h, if_neg h, if_pos (by omega), Int.emod_eq_of_lt h0 (by omega)]
theorem rnum_loop (k j : Nat) : ∀ (x : Int) (out : List Int), 0 ≤ x → x ≤ 9007199254740992 → x < 128 * 128 ^ j → out.length + j ≤ 1000 → gleberef01_Num.l0 (k + 1 + j) x out = some (out ++ numB j x) := by
  induction j with
  | zero =>
    intro x out h0 hx h1 h2
    simp only [gleberef01_Num.l0, numB]
    simp at h1
    rw [if_neg (by omega), if_pos (by omega), Int.emod_eq_of_lt h0 (by omega)]
  | succ j ih =>
    intro x out h0 hx h1 h2
    show gleberef01_Num.l0 ((k + 1 + j) + 1) _ _ = _
    simp only [gleberef01_Num.l0, numB]
    by_cases h : x > 127
    · rw [Int.pow_succ] at h1
      rw [if_pos (by omega), if_pos h, if_pos (by omega), Int.tdiv_eq_ediv_of_nonneg h0, Int.tmod_eq_emod_of_nonneg h0, w64_small (x := x / 128) (by omega) (by omega), w64_small (by omega) (by omega), Int.emod_eq_of_lt (by omega) (by omega), ih _ _ (by omega) (by omega) (by omega) (by simp; omega)]
      simp
    · rw [if_neg (by omega), if_neg h, if_pos (by omega), Int.emod_eq_of_lt h0 (by omega)]
theorem wnum_yes {n : Int} (h0 : 0 ≤ n) (h1 : n ≤ 9007199254740992) (k : Nat) : wire_Num.f (k + 10) n = some (numB 8 n, 0) := by
  unfold wire_Num.f
  rw [if_neg (by omega), decide_eq_false (by omega)]
  show wire_Num.j0 ((k + 9) + 1) _ _ = _
  simp only [wire_Num.j0]
  rw [if_neg (by decide)]
  have := wnum_loop k 8 n [] h0 (by omega) (by simp)
  simpa using this
theorem wnum_no {n : Int} (h : n < 0 ∨ n > 9007199254740992) (k : Nat) : wire_Num.f (k + 1) n = some ([], 1) := by
  unfold wire_Num.f
  by_cases h0 : n < 0
  · rw [if_pos h0]
    simp [wire_Num.j0]
  · rw [if_neg h0, decide_eq_true (by omega)]
    simp [wire_Num.j0]
theorem rnum_yes {n : Int} (h0 : 0 ≤ n) (h1 : n ≤ 9007199254740992) (k : Nat) : gleberef01_Num.f (k + 10) n = some (numB 8 n) := by
  unfold gleberef01_Num.f
  rw [if_neg (by omega), decide_eq_false (by omega)]
  show gleberef01_Num.j0 ((k + 9) + 1) _ _ = _
  simp only [gleberef01_Num.j0]
  rw [if_neg (by decide)]
  have := rnum_loop k 8 n [] h0 h1 (by omega) (by simp)
  simpa using this
theorem rnum_no {n : Int} (h : n < 0 ∨ n > 9007199254740992) (k : Nat) : gleberef01_Num.f (k + 1) n = some [] := by
  unfold gleberef01_Num.f
  by_cases h0 : n < 0
  · rw [if_pos h0]
    simp [gleberef01_Num.j0]
  · rw [if_neg h0, decide_eq_true (by omega)]
    simp [gleberef01_Num.j0]
theorem wtext_yes (s : ByteArray) (h : s.size ≤ 131072) (k : Nat) : wire_Text.f (k + 10) s = some (numB 8 s.size ++ bytesOf s, 0) := by
  unfold wire_Text.f
  rw [if_neg (by omega), wnum_yes (by omega) (by omega), Option.bind_some]
  have := numB_len 8 s.size
  dsimp only
  rw [if_pos (by omega)]
theorem rtext_yes (s : ByteArray) (h : s.size ≤ 131072) (k : Nat) : gleberef01_Text.f (k + 10) s = some (numB 8 s.size ++ bytesOf s) := by
  unfold gleberef01_Text.f
  rw [rnum_yes (by omega) (by omega), Option.bind_some]
  have := numB_len 8 s.size
  rw [if_pos (by omega)]
end Go.Proofs.Ytiglmgmkablpkaa.PK
namespace Go.Proofs.Ytiglmgmkablpkaa.PK
open Go.RowKit Go.Proofs.YtiglmgmkablpkaaW.PrintWords Go.Proofs.YtiglmgmkablpkaaW.PrintLast Go.Proofs.YtiglmgmkablpkaaW.PrintMore
set_option linter.unusedVariables false
set_option linter.unusedSimpArgs false
theorem and_bytes : ∀ a : Nat, a < 256 → Go.bits .and .u8 (a : Int) 127 = ((a % 128 : Nat) : Int) ∧ Go.bits .and .u8 (a : Int) 128 = (if a < 128 then 0 else 128) := by decide +kernel
theorem and127 {c : Int} (h : 0 ≤ c ∧ c < 256) : Go.bits .and .u8 c 127 = c % 128 := by
  obtain ⟨a, rfl⟩ := Int.eq_ofNat_of_zero_le h.1
  rw [(and_bytes a (by omega)).1]
  omega
theorem and128 {c : Int} (h : 0 ≤ c ∧ c < 256) : Go.bits .and .u8 c 128 = 0 ↔ c < 128 := by
  obtain ⟨a, rfl⟩ := Int.eq_ofNat_of_zero_le h.1
  rw [(and_bytes a (by omega)).2]
  by_cases q : a < 128
  · rw [if_pos q]
    exact ⟨fun _ => by omega, fun _ => rfl⟩
  · rw [if_neg q]
    exact ⟨fun e => by omega, fun e => by omega⟩
theorem or_big {a b : Nat} (ha : a < 2 ^ 62) (hb : b < 2 ^ 62) : Go.bits .or .i64 (a : Int) (b : Int) = ((a ||| b : Nat) : Int) := by
  unfold Go.bits
  dsimp only
  have ha' : (BitVec.ofInt (IntKind.bits .i64) (a : Int)).toNat = a := by
    show ((a : Int) % (2 ^ 64 : Nat)).toNat = a
    omega
  have hb' : (BitVec.ofInt (IntKind.bits .i64) (b : Int)).toNat = b := by
    show ((b : Int) % (2 ^ 64 : Nat)).toNat = b
    omega
  rw [BitVec.toNat_or, ha', hb']
  have h := Nat.or_lt_two_pow (n := 62) (x := a) (y := b) ha hb
  generalize a ||| b = z at h
  rw [IntKind.wrap_i64]
  omega
theorem pow7 (i : Nat) (hi : i ≤ 7) : 2 ^ (7 * i) ≤ 562949953421312 ∧ 1 ≤ 2 ^ (7 * i) := by
  have : i = 0 ∨ i = 1 ∨ i = 2 ∨ i = 3 ∨ i = 4 ∨ i = 5 ∨ i = 6 ∨ i = 7 := by omega
  rcases this with rfl | rfl | rfl | rfl | rfl | rfl | rfl | rfl <;> decide
/-- A byte more: it is added. -/
theorem rdPut_add {n : Nat} {c : Nat} (hc : c < 256) (i : Nat) (hi : i ≤ 7) (hn : n < 2 ^ (7 * i)) : rdPut (n : Int) (c : Int) i = ((n + 2 ^ (7 * i) * (c % 128) : Nat) : Int) := by
  unfold rdPut
  have hp := pow7 i hi
  have h := Nat.two_pow_add_eq_or_of_lt (i := 7 * i) (b := n) hn (c % 128)
  rw [and127 (by omega), show (c : Int) % 128 = ((c % 128 : Nat) : Int) by omega]
  have hx : c % 128 < 128 := Nat.mod_lt _ (by decide)
  have e : ((c % 128 : Nat) : Int) * 2 ^ (7 * i) = ((2 ^ (7 * i) * (c % 128) : Nat) : Int) := by
    rw [Int.natCast_mul, Int.natCast_pow, Int.mul_comm]
    rfl
  rw [e]
  have hb : 2 ^ (7 * i) * (c % 128) ≤ 562949953421312 * 127 := Nat.mul_le_mul hp.1 (by omega)
  generalize 2 ^ (7 * i) * (c % 128) = y at h hb
  rw [show wrap64 (y : Int) = (y : Int) by unfold wrap64; omega, or_big (by omega) (by omega), Nat.or_comm, ← h, Nat.add_comm]
/-- One round of reading. -/
theorem rdFrom_step {l : List Int} (f i : Nat) {n : Nat} (hf : f + i ≤ 7) (hn : n < 2 ^ (7 * i)) {c : Nat} (hi : i < l.length) (hc : rd l i = (c : Int)) (hb : c < 256) :
    rdFrom l (f + 1) i (n : Int) = if n + 2 ^ (7 * i) * (c % 128) > 9007199254740992 ∨ 0 < i ∧ c = 0 then (0, l, 21) else if c < 128 then (((n + 2 ^ (7 * i) * (c % 128) : Nat) : Int), l.drop (i + 1), 0) else rdFrom l f (i + 1) ((n + 2 ^ (7 * i) * (c % 128) : Nat) : Int) := by
  rw [rdFrom, if_neg (by omega), hc, rdPut_add hb i (by omega) hn]
  generalize n + 2 ^ (7 * i) * (c % 128) = v
  by_cases q : v > 9007199254740992 ∨ 0 < i ∧ c = 0
  · rw [if_pos q, if_pos (q.imp (fun q => by omega) (fun q => ⟨q.1, by omega⟩))]
  · rw [if_neg q, if_neg (fun z => q (z.imp (fun z => by omega) (fun z => ⟨z.1, by omega⟩)))]
    by_cases q2 : c < 128
    · rw [if_pos q2, if_pos ((and128 (by omega)).mpr (by omega))]
    · rw [if_neg q2, if_neg (fun z => q2 (by have := (and128 (by omega)).mp z; omega))]
theorem rdFrom_end {l : List Int} (f i : Nat) (n : Int) (hi : l.length ≤ i) : rdFrom l (f + 1) i n = (0, l, 20) := by
  rw [rdFrom, if_pos hi]
theorem next7 {n c i : Nat} (hn : n < 2 ^ (7 * i)) : n + 2 ^ (7 * i) * (c % 128) < 2 ^ (7 * (i + 1)) := by
  have hx : c % 128 ≤ 127 := by omega
  have h1 : 2 ^ (7 * i) * (c % 128) ≤ 2 ^ (7 * i) * 127 := Nat.mul_le_mul_left _ hx
  have h2 : 2 ^ (7 * (i + 1)) = 2 ^ (7 * i) * 128 := by rw [show 7 * (i + 1) = 7 * i + 7 by omega, Nat.pow_add]
  rw [h2]
  generalize 2 ^ (7 * i) = p at *
  generalize p * (c % 128) = y at *
  omega
theorem numB_eq (j : Nat) (x : Int) : numB (j + 1) x = if x > 127 then (128 + x % 128) :: numB j (x / 128) else [x] := rfl
/-- One row less is enough. -/
theorem numB_less : ∀ (j x : Nat), x < 128 * 128 ^ j → numB (j + 1) (x : Int) = numB j (x : Int)
  | 0, x, h => by
    rw [numB_eq 0, if_neg (by omega)]
    rfl
  | j + 1, x, h => by
    have h2 : x / 128 < 128 * 128 ^ j := by
      rw [Nat.pow_succ] at h
      omega
    have ih := numB_less j (x / 128) h2
    have e : (x : Int) / 128 = ((x / 128 : Nat) : Int) := by omega
    rw [numB_eq (j + 1), numB_eq j (x : Int), e, ih]
/-- What was written is read. -/
theorem rdFrom_numB : ∀ (j f i n x : Nat) (pre rest : List Int), pre.length = i → n < 2 ^ (7 * i) → j + 1 ≤ f → f + i ≤ 8 → x < 128 * 128 ^ j → (0 < i → 0 < x) → n + 2 ^ (7 * i) * x ≤ 9007199254740992 → rdFrom (pre ++ (numB j (x : Int) ++ rest)) f i (n : Int) = (((n + 2 ^ (7 * i) * x : Nat) : Int), rest, 0) := by
  have last : ∀ (f i n x : Nat) (pre rest : List Int), pre.length = i → n < 2 ^ (7 * i) → f + 1 + i ≤ 8 → x < 128 → (0 < i → 0 < x) → n + 2 ^ (7 * i) * x ≤ 9007199254740992 → rdFrom (pre ++ ([(x : Int)] ++ rest)) (f + 1) i (n : Int) = (((n + 2 ^ (7 * i) * x : Nat) : Int), rest, 0) := by
    intro f i n x pre rest hp hn hf hx h0 hb
    have hr : rd (pre ++ ([(x : Int)] ++ rest)) (i : Int) = (x : Int) := by
      unfold rd
      rw [Int.toNat_natCast]
      subst hp
      simp
    have hl : i < (pre ++ ([(x : Int)] ++ rest)).length := by simp; omega
    have hd : (pre ++ ([(x : Int)] ++ rest)).drop (i + 1) = rest := by
      subst hp
      rw [List.drop_length_add_append]
      rfl
    rw [rdFrom_step f i (by omega) hn hl hr (by omega), Nat.mod_eq_of_lt hx, hd, if_neg (by omega), if_pos hx]
  intro j
  induction j with
  | zero =>
    intro f i n x pre rest hp hn hf hfi hx h0 hb
    obtain ⟨f, rfl⟩ : ∃ g, f = g + 1 := ⟨f - 1, by omega⟩
    exact last f i n x pre rest hp hn (by omega) (by simpa using hx) h0 hb
  | succ j ih =>
    intro f i n x pre rest hp hn hf hfi hx h0 hb
    obtain ⟨f, rfl⟩ : ∃ g, f = g + 1 := ⟨f - 1, by omega⟩
    by_cases q : (x : Int) > 127
    · have hdm : x = x % 128 + 128 * (x / 128) := by omega
      have hv : n + 2 ^ (7 * i) * (x % 128) + 2 ^ (7 * (i + 1)) * (x / 128) = n + 2 ^ (7 * i) * x := by
        have e : 2 ^ (7 * (i + 1)) = 2 ^ (7 * i) * 128 := by rw [show 7 * (i + 1) = 7 * i + 7 by omega, Nat.pow_add]
        have e2 : 2 ^ (7 * i) * x = 2 ^ (7 * i) * (x % 128) + 2 ^ (7 * i) * 128 * (x / 128) := by
          rw [Nat.mul_assoc, ← Nat.mul_add, ← hdm]
        rw [e, e2, Nat.add_assoc]
      have hr : rd (pre ++ (((128 + (x : Int) % 128) :: numB j ((x : Int) / 128)) ++ rest)) (i : Int) = ((128 + x % 128 : Nat) : Int) := by
        unfold rd
        rw [Int.toNat_natCast]
        subst hp
        simp
      have hl : i < (pre ++ (((128 + (x : Int) % 128) :: numB j ((x : Int) / 128)) ++ rest)).length := by simp; omega
      have hm : (128 + x % 128) % 128 = x % 128 := by omega
      have hn2 := next7 (c := x) hn
      rw [numB, if_pos q, rdFrom_step f i (by omega) hn hl hr (by omega), hm]
      have hle : n + 2 ^ (7 * i) * (x % 128) ≤ 9007199254740992 := Nat.le_trans (Nat.le_trans (Nat.le_add_right _ _) (Nat.le_of_eq hv)) hb
      rw [if_neg (by omega), if_neg (by omega)]
      have hx2 : x / 128 < 128 * 128 ^ j := by
        rw [Nat.pow_succ] at hx
        omega
      have h := ih f (i + 1) (n + 2 ^ (7 * i) * (x % 128)) (x / 128) (pre ++ [128 + (x : Int) % 128]) rest (by simp [hp]) hn2 (by omega) (by omega) hx2 (fun _ => by omega) (by rw [hv]; exact hb)
      rw [hv, show ((x / 128 : Nat) : Int) = (x : Int) / 128 by omega, List.append_assoc] at h
      exact h
    · rw [numB, if_neg q]
      exact last f i n x pre rest hp hn (by omega) (by omega) h0 hb
theorem rdNum_numB {x : Nat} (hx : x ≤ 9007199254740992) (rest : List Int) : rdNum (numB 8 (x : Int) ++ rest) 0 true = ((x : Int), rest, 0) := by
  rw [numB_less 7 x (by omega), rdNum_on rfl]
  have h := rdFrom_numB 7 8 0 0 x [] rest rfl (by decide) (by omega) (by omega) (by omega) (fun q => absurd q (by omega)) (by omega)
  rw [show (0 + 2 ^ (7 * 0) * x : Nat) = x by simp] at h
  exact h
theorem numB_small : ∀ (j : Nat) (c : Nat), c < 128 → numB j (c : Int) = [(c : Int)]
  | 0, c, h => rfl
  | j + 1, c, h => by rw [numB_eq, if_neg (by omega)]
/-- What is read was written. -/
theorem rdFrom_back : ∀ (f i n : Nat) (pre tl : List Int) (v : Int) (rest : List Int), pre.length = i → n < 2 ^ (7 * i) → f + i ≤ 8 → (∀ z ∈ tl, 0 ≤ z ∧ z < 256) → rdFrom (pre ++ tl) f i (n : Int) = (v, rest, 0) → ∃ x : Nat, v = ((n + 2 ^ (7 * i) * x : Nat) : Int) ∧ tl = numB (f - 1) (x : Int) ++ rest ∧ (0 < i → 0 < x) := by
  intro f
  induction f with
  | zero =>
    intro i n pre tl v rest _ _ _ _ h
    rw [rdFrom] at h
    injection h with _ h
    injection h with _ h
    cases h
  | succ f ih =>
    intro i n pre tl v rest hp hn hf hb h
    cases tl with
    | nil =>
      rw [rdFrom_end f i n (by simp [hp])] at h
      injection h with _ h
      injection h with _ h
      cases h
    | cons z tl =>
      have hz := hb z (by simp)
      obtain ⟨c, rfl⟩ := Int.eq_ofNat_of_zero_le hz.1
      have hl : i < (pre ++ ((c : Int) :: tl)).length := by simp; omega
      have hr : rd (pre ++ ((c : Int) :: tl)) (i : Int) = (c : Int) := by
        unfold rd
        rw [Int.toNat_natCast]
        subst hp
        simp
      have hd : (pre ++ ((c : Int) :: tl)).drop (i + 1) = tl := by
        subst hp
        rw [List.drop_length_add_append]
        rfl
      rw [rdFrom_step f i (by omega) hn hl hr (by omega), hd] at h
      by_cases q1 : n + 2 ^ (7 * i) * (c % 128) > 9007199254740992 ∨ 0 < i ∧ c = 0
      · rw [if_pos q1] at h
        injection h with _ h
        injection h with _ h
        cases h
      · rw [if_neg q1] at h
        by_cases q2 : c < 128
        · rw [if_pos q2] at h
          injection h with h1 h
          injection h with h2 _
          subst h1 h2
          refine ⟨c, by rw [Nat.mod_eq_of_lt q2], ?_, fun h0 => ?_⟩
          · rw [show f + 1 - 1 = f by omega, numB_small f c q2]
            rfl
          · have : ¬ (0 < i ∧ c = 0) := fun z => q1 (.inr z)
            omega
        · rw [if_neg q2] at h
          have hn2 := next7 (c := c) hn
          have e1 : pre ++ ((c : Int) :: tl) = (pre ++ [(c : Int)]) ++ tl := by simp
          rw [e1] at h
          obtain ⟨x, hx1, hx2, hx3⟩ := ih (i + 1) _ (pre ++ [(c : Int)]) tl v rest (by simp [hp]) hn2 (by omega) (fun y hy => hb y (by simp [hy])) h
          have hx0 := hx3 (by omega)
          refine ⟨c % 128 + 128 * x, ?_, ?_, fun _ => by omega⟩
          · rw [hx1]
            have e : 2 ^ (7 * (i + 1)) = 2 ^ (7 * i) * 128 := by rw [show 7 * (i + 1) = 7 * i + 7 by omega, Nat.pow_add]
            rw [e, Nat.mul_add, Nat.mul_assoc, Nat.add_assoc]
          · cases f with
            | zero =>
              rw [rdFrom] at h
              injection h with _ h
              injection h with _ h
              cases h
            | succ f =>
              have e2 : (128 + ((c % 128 + 128 * x : Nat) : Int) % 128) = (c : Int) := by omega
              have e3 : ((c % 128 + 128 * x : Nat) : Int) / 128 = (x : Int) := by omega
              rw [show f + 1 + 1 - 1 = f + 1 by omega, numB_eq, if_pos (by omega), e2, e3, hx2, show f + 1 - 1 = f by omega]
              rfl
theorem rdNum_back {l : List Int} (hl : ∀ z ∈ l, 0 ≤ z ∧ z < 256) {v : Int} {rest : List Int} (h : rdNum l 0 true = (v, rest, 0)) : numB 8 v ++ rest = l := by
  have hn := rdNum_nn l 0 true
  rw [h] at hn
  rw [rdNum_on rfl] at h
  obtain ⟨x, hx1, hx2, _⟩ := rdFrom_back 8 0 0 [] l v rest rfl (by decide) (by omega) hl h
  have hv : v = (x : Int) := by rw [hx1]; simp
  rw [hv] at hn ⊢
  dsimp only at hn
  rw [numB_less 7 x (by omega), hx2]
theorem rdUpto_numB {x : Nat} (hx : x ≤ 9007199254740992) (rest : List Int) {most : Int} (h : (x : Int) ≤ most) : rdUpto (numB 8 (x : Int) ++ rest) 0 true most = ((x : Int), rest, 0) := by
  have e := rdNum_numB hx rest
  rw [rdUpto_neg (by rw [e]; dsimp only; omega), e]
/-- A text that was written is read. -/
theorem rdText_numB {bs : List Int} (hx : bs.length ≤ 9007199254740992) {most : Int} (h : (bs.length : Int) ≤ most) : rdText (numB 8 ((bs.length : Nat) : Int) ++ bs) 0 true most = (bs, [], 0) := by
  have e := rdUpto_numB hx bs h
  rw [rdText_on (by rw [e]; rfl) (by rw [e]; dsimp only; omega), e]
  simp
/-- The numbers of a row that may be written, one behind the other. -/
def wcat : List Int → List Int
  | [] => []
  | z :: l => (if 0 ≤ z ∧ z ≤ 9007199254740992 then numB 8 z else []) ++ wcat l
theorem wcat_len : ∀ l : List Int, (wcat l).length ≤ 9 * l.length
  | [] => by simp [wcat]
  | z :: l => by
    have h := wcat_len l
    have h2 := numB_len 8 z
    rw [wcat, List.length_append, List.length_cons]
    split
    · omega
    · simp
      omega
theorem wcat_yes {z : Int} (h : 0 ≤ z ∧ z ≤ 9007199254740992) (l rest : List Int) : rdNum (wcat (z :: l) ++ rest) 0 true = (z, wcat l ++ rest, 0) := by
  obtain ⟨x, rfl⟩ := Int.eq_ofNat_of_zero_le h.1
  rw [wcat, if_pos h, List.append_assoc]
  exact rdNum_numB (by omega) _
theorem wcat_no {z : Int} (h : ¬ (0 ≤ z ∧ z ≤ 9007199254740992)) (l : List Int) : wcat (z :: l) = wcat l := by
  rw [wcat, if_neg h]
  rfl
theorem wcat_take (l : List Int) (i : Nat) (hi : i < l.length) : wcat (l.take (i + 1)) = wcat (l.take i) ++ (if 0 ≤ l[i] ∧ l[i] ≤ 9007199254740992 then numB 8 l[i] else []) := by
  have app : ∀ x y : List Int, wcat (x ++ y) = wcat x ++ wcat y := by
    intro x
    induction x with
    | nil => intro y; rfl
    | cons a x ih => intro y; rw [List.cons_append, wcat, wcat, ih, List.append_assoc]
  rw [List.take_succ_eq_append_getElem hi, app]
  congr 1
  rw [wcat, wcat, List.append_nil]
end Go.Proofs.Ytiglmgmkablpkaa.PK
namespace Go.Proofs.Ytiglmgmkablpkaa.PK
open Go.RowKit Go.Proofs.YtiglmgmkablpkaaW.PrintWords Go.Proofs.YtiglmgmkablpkaaW.PrintLast Go.Proofs.YtiglmgmkablpkaaW.PrintMore
set_option linter.unusedVariables false
set_option linter.unusedSimpArgs false
theorem rd_nat (l : List Int) (i : Nat) (hi : i < l.length) : rd l (i : Int) = l[i] := by
  unfold rd
  rw [Int.toNat_natCast]
  simp [hi]
theorem w64 {x : Int} (h : -9223372036854775808 ≤ x ∧ x ≤ 9223372036854775807) : wrap64 x = x := by unfold wrap64; omega
/-- One round of the document's reader. -/
theorem refNum_end {l : List Int} (k at_ i : Nat) (n u : Int) (hl : l.length ≤ 1048576) (ha : at_ ≤ l.length) (hi : i < 8) (h : l.length ≤ at_ + i) : gleberef01_Reader_Num.l0 (k + 1) n u (i : Int) l (at_ : Int) 0 = some (0, (at_ : Int), 20) := by
  rw [gleberef01_Reader_Num.l0, if_neg (by omega), w64 (by omega), if_pos (by omega)]
theorem tmod128 (c : Nat) : Int.tmod (c : Int) 128 = ((c % 128 : Nat) : Int) := by
  rw [Int.tmod_eq_emod_of_nonneg (Int.natCast_nonneg c)]
  omega
theorem refNum_step' {l : List Int} (k at_ i n u y : Nat) (hl : l.length ≤ 1048576) (hi : i < 8) (h : at_ + i < l.length) (hn : n ≤ 562949953421312) (hu : u ≤ 562949953421312) {c : Nat} (hc : rd l ((at_ + i : Nat) : Int) = (c : Int)) (hb : c < 256) (hy : u * (c % 128) = y) (hyb : y ≤ 562949953421312 * 127) :
    gleberef01_Reader_Num.l0 (k + 2) (n : Int) (u : Int) (i : Int) l (at_ : Int) 0 =
      if n + y > 9007199254740992 ∨ 0 < i ∧ c = 0 then some (0, (at_ : Int), 21) else if c < 128 then some (((n + y : Nat) : Int), ((at_ + i + 1 : Nat) : Int), 0) else gleberef01_Reader_Num.l0 k ((n + y : Nat) : Int) ((u * 128 : Nat) : Int) ((i + 1 : Nat) : Int) l (at_ : Int) 0 := by
  have d1 : ¬ (i : Int) = 8 := by clear hy; omega
  have d2 : ¬ ((at_ + i : Nat) : Int) ≥ (l.length : Int) := by clear hy; omega
  have d3 : 0 ≤ ((at_ + i : Nat) : Int) := by clear hy; omega
  have d4 : ((at_ + i : Nat) : Int) < (l.length : Int) := by clear hy; omega
  have h4 : wrap64 (((c % 128 : Nat) : Int) * (u : Int)) = (y : Int) := by
    rw [← Int.natCast_mul, Nat.mul_comm, hy]
    exact w64 ⟨by clear hy hc; omega, by clear hy hc; omega⟩
  clear hy
  have h1 : wrap64 ((at_ : Int) + (i : Int)) = ((at_ + i : Nat) : Int) := (w64 (by omega)).trans (by omega)
  have h2 : wrap64 (c : Int) = (c : Int) := w64 (by omega)
  have h3 := tmod128 c
  have h5 : wrap64 ((n : Int) + (y : Int)) = ((n + y : Nat) : Int) := (w64 (by clear h1 h2 h3 h4 hc; omega)).trans (by clear h1 h2 h3 h4 hc; omega)
  have h6 : wrap64 ((u : Int) * 128) = ((u * 128 : Nat) : Int) := (w64 (by clear h1 h2 h3 h4 h5 hc; omega)).trans (by clear h1 h2 h3 h4 h5 hc; omega)
  have h7 : wrap64 ((i : Int) + 1) = ((i + 1 : Nat) : Int) := (w64 (by clear h1 h2 h3 h4 h5 h6 hc; omega)).trans (by clear h1 h2 h3 h4 h5 h6 hc; omega)
  have h8 : wrap64 (((at_ + i : Nat) : Int) + 1) = ((at_ + i + 1 : Nat) : Int) := (w64 (by clear h1 h2 h3 h4 h5 h6 h7 hc; omega)).trans (by clear h1 h2 h3 h4 h5 h6 h7 hc; omega)
  clear hyb hn hu
  rw [gleberef01_Reader_Num.l0, if_neg d1, h1, if_neg d2, if_pos d3, if_pos d4, hc, h2, h3, h4, h5]
  clear h3 h4 h5
  generalize n + y = v
  have j1 : ∀ b : Bool, gleberef01_Reader_Num.j1 (k + 1) (v : Int) (u : Int) (i : Int) (c : Int) b l (at_ : Int) 0 = if b = true then some (0, (at_ : Int), 21) else if c < 128 then some ((v : Int), ((at_ + i + 1 : Nat) : Int), 0) else gleberef01_Reader_Num.l0 k (v : Int) ((u * 128 : Nat) : Int) ((i + 1 : Nat) : Int) l (at_ : Int) 0 := by
    intro b
    rw [gleberef01_Reader_Num.j1, h1, h8, h6, h7]
    clear h1 h2 h6 h7 h8
    by_cases q : c < 128
    · rw [if_pos q, if_pos (show (c : Int) < 128 by omega)]
    · rw [if_neg q, if_neg (show ¬ (c : Int) < 128 by omega)]
  rw [j1, j1, j1]
  clear j1 h1 h2 h6 h7 h8
  by_cases q1 : v > 9007199254740992
  · rw [if_pos (show (v : Int) > 9007199254740992 by omega), if_pos rfl, if_pos (Or.inl q1)]
  · rw [if_neg (show ¬ (v : Int) > 9007199254740992 by omega)]
    by_cases q2 : c = 0
    · rw [if_pos (show (c : Int) = 0 by omega)]
      by_cases q3 : 0 < i
      · rw [decide_eq_true (show (i : Int) > 0 by omega), if_pos rfl, if_pos (Or.inr ⟨q3, q2⟩)]
      · rw [decide_eq_false (show ¬ (i : Int) > 0 by omega), if_neg (by simp), if_neg (show ¬ (v > 9007199254740992 ∨ 0 < i ∧ c = 0) by omega)]
    · rw [if_neg (show ¬ (c : Int) = 0 by omega), if_neg (by simp), if_neg (show ¬ (v > 9007199254740992 ∨ 0 < i ∧ c = 0) by omega)]
theorem refNum_step {l : List Int} (k at_ i n : Nat) (hl : l.length ≤ 1048576) (hi : i < 8) (h : at_ + i < l.length) (hn : n < 2 ^ (7 * i)) {c : Nat} (hc : rd l ((at_ + i : Nat) : Int) = (c : Int)) (hb : c < 256) :
    gleberef01_Reader_Num.l0 (k + 2) (n : Int) ((2 ^ (7 * i) : Nat) : Int) (i : Int) l (at_ : Int) 0 =
      if n + 2 ^ (7 * i) * (c % 128) > 9007199254740992 ∨ 0 < i ∧ c = 0 then some (0, (at_ : Int), 21) else if c < 128 then some (((n + 2 ^ (7 * i) * (c % 128) : Nat) : Int), ((at_ + i + 1 : Nat) : Int), 0) else gleberef01_Reader_Num.l0 k ((n + 2 ^ (7 * i) * (c % 128) : Nat) : Int) ((2 ^ (7 * (i + 1)) : Nat) : Int) ((i + 1 : Nat) : Int) l (at_ : Int) 0 := by
  have hp := pow7 i (by omega)
  have hx : c % 128 ≤ 127 := by omega
  have e : 2 ^ (7 * (i + 1)) = 2 ^ (7 * i) * 128 := by rw [show 7 * (i + 1) = 7 * i + 7 by omega, Nat.pow_add]
  rw [e]
  exact refNum_step' k at_ i n (2 ^ (7 * i)) _ hl hi h (Nat.le_of_lt (Nat.lt_of_lt_of_le hn hp.1)) hp.1 hc hb rfl (Nat.mul_le_mul hp.1 hx)
/-- From row i on. -/
theorem refNum_from {l : List Int} (hl : l.length ≤ 1048576) (hB : ∀ z ∈ l, 0 ≤ z ∧ z < 256) (at_ : Nat) (ha : at_ ≤ l.length) : ∀ (f i n k : Nat), f + i = 8 → n < 2 ^ (7 * i) → 2 * f + 1 ≤ k →
    ∃ at' : Nat, gleberef01_Reader_Num.l0 k (n : Int) ((2 ^ (7 * i) : Nat) : Int) (i : Int) l (at_ : Int) 0 = some ((rdFrom (l.drop at_) f i (n : Int)).1, (at' : Int), (rdFrom (l.drop at_) f i (n : Int)).2.2) ∧ at' ≤ l.length ∧ ((rdFrom (l.drop at_) f i (n : Int)).2.2 = 0 → (rdFrom (l.drop at_) f i (n : Int)).2.1 = l.drop at') := by
  intro f
  induction f with
  | zero =>
    intro i n k hf hn hk
    obtain ⟨k, rfl⟩ : ∃ j, k = j + 1 := ⟨k - 1, by omega⟩
    refine ⟨at_, ?_, ha, fun q => absurd q (by simp [rdFrom])⟩
    rw [gleberef01_Reader_Num.l0, if_pos (by omega)]
    rfl
  | succ f ih =>
    intro i n k hf hn hk
    by_cases q : l.length ≤ at_ + i
    · obtain ⟨k, rfl⟩ : ∃ j, k = j + 1 := ⟨k - 1, by omega⟩
      rw [rdFrom_end f i (n : Int) (by rw [List.length_drop]; omega), refNum_end k at_ i _ _ hl ha (by omega) q]
      exact ⟨at_, rfl, ha, fun q => absurd q (by simp)⟩
    · obtain ⟨k, rfl⟩ : ∃ j, k = j + 2 := ⟨k - 2, by omega⟩
      have hlt : at_ + i < l.length := by omega
      have hz := hB (l[at_ + i]) (List.getElem_mem _)
      obtain ⟨c, hc⟩ := Int.eq_ofNat_of_zero_le hz.1
      have hr : rd l ((at_ + i : Nat) : Int) = (c : Int) := (rd_nat l _ hlt).trans hc
      have hi : i < (l.drop at_).length := by rw [List.length_drop]; omega
      have hr2 : rd (l.drop at_) (i : Int) = (c : Int) := by
        rw [rd_nat _ i hi, List.getElem_drop]
        exact hc
      rw [rdFrom_step f i (by omega) hn hi hr2 (by omega), refNum_step k at_ i n hl (by omega) hlt hn hr (by omega)]
      have hn2 := next7 (c := c) hn
      generalize n + 2 ^ (7 * i) * (c % 128) = v at hn2
      by_cases q1 : v > 9007199254740992 ∨ 0 < i ∧ c = 0
      · rw [if_pos q1, if_pos q1]
        exact ⟨at_, rfl, ha, fun q => absurd q (by simp)⟩
      · rw [if_neg q1, if_neg q1]
        by_cases q2 : c < 128
        · rw [if_pos q2, if_pos q2]
          refine ⟨at_ + i + 1, rfl, by omega, fun _ => ?_⟩
          dsimp only
          rw [List.drop_drop]
          rfl
        · rw [if_neg q2, if_neg q2]
          exact ih (i + 1) v k (by omega) hn2 (by omega)
/-- The document's place and the reader's rest say the same. -/
def Agree (l0 : List Int) (l : List Int) (e : Int) (at_ : Nat) : Prop := at_ ≤ l0.length ∧ (e = 0 → l = l0.drop at_)
theorem rdFrom_err {l : List Int} : ∀ (f i : Nat) (n : Int), (rdFrom l f i n).2.2 ≠ 0 → (rdFrom l f i n).1 = 0
  | 0, _, _, _ => rfl
  | f + 1, i, n, h => by
    rw [rdFrom] at h ⊢
    split
    · rfl
    · rename_i h1
      rw [if_neg h1] at h
      split
      · rfl
      · rename_i h2
        rw [if_neg h2] at h
        split
        · rename_i h3
          rw [if_pos h3] at h
          exact absurd rfl h
        · rename_i h3
          rw [if_neg h3] at h
          exact rdFrom_err f _ _ h
theorem ok_on {e : Int} (h : e = 0) : rdOk e true = true := by subst h; rfl
theorem ok_off {e : Int} (h : e ≠ 0) : rdOk e true = false := by
  unfold rdOk
  simp [h]
theorem rdNum_err {l : List Int} {e : Int} (h : (rdNum l e true).2.2 ≠ 0) : (rdNum l e true).1 = 0 := by
  by_cases q : e = 0
  · rw [rdNum_on (ok_on q)] at h ⊢
    exact rdFrom_err _ _ _ h
  · rw [rdNum_off (ok_off q)]
section
variable {l0 l : List Int} {e : Int} {at_ : Nat} (hl : l0.length ≤ 1048576) (hB : ∀ z ∈ l0, 0 ≤ z ∧ z < 256) (h : Agree l0 l e at_)
include hl hB h
theorem ref_num (K : Nat) (hK : 20 ≤ K) : ∃ at' : Nat, gleberef01_Reader_Num.f K l0 (at_ : Int) e = some ((rdNum l e true).1, (at' : Int), (rdNum l e true).2.2) ∧ Agree l0 (rdNum l e true).2.1 (rdNum l e true).2.2 at' := by
  by_cases q : e = 0
  · subst q
    obtain rfl := h.2 rfl
    rw [rdNum_on (ok_on rfl)]
    obtain ⟨at', h1, h2, h3⟩ := refNum_from hl hB at_ h.1 8 0 0 K rfl (by decide) (by omega)
    refine ⟨at', ?_, h2, h3⟩
    unfold gleberef01_Reader_Num.f
    rw [if_pos rfl]
    exact h1
  · rw [rdNum_off (ok_off q)]
    refine ⟨at_, ?_, h⟩
    unfold gleberef01_Reader_Num.f
    rw [if_neg q]
theorem ref_upto (m : Int) (K : Nat) (hK : 20 ≤ K) : ∃ at' : Nat, gleberef01_Reader_Upto.f K l0 (at_ : Int) e m = some ((rdUpto l e true m).1, (at' : Int), (rdUpto l e true m).2.2) ∧ Agree l0 (rdUpto l e true m).2.1 (rdUpto l e true m).2.2 at' := by
  obtain ⟨at', h1, h2⟩ := ref_num hl hB h K hK
  have hoff : rdOk e true = false → rdNum l e true = (0, l, e) := rdNum_off
  unfold gleberef01_Reader_Upto.f
  rw [h1, Option.bind_some]
  dsimp only
  by_cases c : (rdNum l e true).1 > m
  · rw [rdUpto_pos c]
    by_cases q : (rdNum l e true).2.2 = 0
    · rw [if_pos q, if_pos c]
      dsimp only
      rw [ok_on q, if_pos rfl]
      exact ⟨at', rfl, h2.1, fun z => absurd z (by simp)⟩
    · rw [if_neg q]
      dsimp only
      rw [ok_off q, if_neg (by simp)]
      have hz : (rdNum l e true).1 = 0 := rdNum_err q
      rw [hz]
      exact ⟨at', rfl, h2⟩
  · rw [rdUpto_neg c]
    by_cases q : (rdNum l e true).2.2 = 0
    · rw [if_pos q, if_neg c]
      exact ⟨at', rfl, h2⟩
    · rw [if_neg q]
      exact ⟨at', rfl, h2⟩
theorem ref_text (m : Int) (K : Nat) (hK : 20 ≤ K) : ∃ at' : Nat, gleberef01_Reader_Text.f K l0 (at_ : Int) e m = some (strOfNums (rdText l e true m).1, (at' : Int), (rdText l e true m).2.2) ∧ Agree l0 (rdText l e true m).2.1 (rdText l e true m).2.2 at' := by
  obtain ⟨at', h1, h2⟩ := ref_upto hl hB h m K hK
  have hnn := rdUpto_nn l e true m
  unfold gleberef01_Reader_Text.f
  rw [h1, Option.bind_some]
  dsimp only
  unfold rtText
  by_cases q : (rdUpto l e true m).2.2 = 0
  · have hd := h2.2 q
    have hlen : ((rdUpto l e true m).2.1.length : Int) = (l0.length : Int) - (at' : Int) := by
      rw [hd, List.length_drop]
      have := h2.1
      omega
    rw [if_pos q, w64 (by have := h2.1; omega)]
    by_cases c : (rdUpto l e true m).1 > ((rdUpto l e true m).2.1.length : Int)
    · rw [rdText_end (ok_on q) c, if_pos (by omega)]
      exact ⟨at', rfl, h2.1, fun z => absurd z (by simp)⟩
    · rw [rdText_on (ok_on q) c, if_neg (by omega), if_pos ⟨by omega, hnn.1, by omega, by omega⟩, hd, Int.toNat_natCast]
      refine ⟨at' + (rdUpto l e true m).1.toNat, ?_, by omega, fun _ => by rw [List.drop_drop]⟩
      rw [show ((at' + (rdUpto l e true m).1.toNat : Nat) : Int) = (at' : Int) + (rdUpto l e true m).1 by omega]
  · rw [if_neg q, rdText_off (ok_off q)]
    exact ⟨at', rfl, h2⟩
end
theorem ref_left {l0 l : List Int} {e : Int} {at_ : Nat} (hl : l0.length ≤ 1048576) (h : Agree l0 l e at_) : gleberef01_Reader_Left.f l0 (at_ : Int) e = some (if rdOk e true then (l.length : Int) else 0, (at_ : Int), e) := by
  unfold gleberef01_Reader_Left.f
  have := h.1
  by_cases q : e = 0
  · rw [if_pos q, ok_on q, if_pos rfl, h.2 q, List.length_drop, w64 (by omega), show ((l0.length - at_ : Nat) : Int) = (l0.length : Int) - (at_ : Int) by omega]
  · rw [if_neg q, ok_off q, if_neg (by simp)]
theorem ref_fail {l0 l : List Int} {e : Int} {at_ : Nat} (x : Int) (h : Agree l0 l e at_) : gleberef01_Reader_Fail.f l0 (at_ : Int) e x = some ((at_ : Int), if rdOk e true then x else e) ∧ Agree l0 l (if rdOk e true then x else e) at_ := by
  unfold gleberef01_Reader_Fail.f
  by_cases q : e = 0
  · rw [if_pos q, ok_on q, if_pos rfl]
    exact ⟨rfl, h.1, fun _ => h.2 q⟩
  · rw [if_neg q, ok_off q, if_neg (by simp)]
    exact ⟨rfl, h⟩
end Go.Proofs.Ytiglmgmkablpkaa.PK
namespace Go.Proofs.Ytiglmgmkablpkaa.PK
open Go.RowKit Go.Proofs.YtiglmgmkablpkaaW.PrintWords Go.Proofs.YtiglmgmkablpkaaW.PrintLast Go.Proofs.YtiglmgmkablpkaaW.PrintMore
set_option linter.unusedVariables false
set_option linter.unusedSimpArgs false
theorem from_eq (a b c : Int) : point_from.f a b c = some (decide (a ≤ b) && decide (b ≤ c)) := by
  unfold point_from.f
  by_cases h : b ≥ a
  · rw [if_pos h, decide_eq_true h, Bool.true_and]
  · rw [if_neg h, decide_eq_false h, Bool.false_and]
theorem cell_eq (x y : Int) : point_cell.f x y = some (decide (0 ≤ x) && decide (x ≤ 65535) && (decide (0 ≤ y) && decide (y ≤ 65535))) := by
  unfold point_cell.f
  rw [from_eq, from_eq]
  simp only [Option.bind_some]
  cases (decide (0 ≤ x) && decide (x ≤ 65535))
  · simp
  · simp
theorem rcell_eq (x y : Int) : gleberef07_cell.f x y = some (decide (0 ≤ x) && decide (x ≤ 65535) && (decide (0 ≤ y) && decide (y ≤ 65535))) := by
  unfold gleberef07_cell.f
  have e1 : (x < 65536) = (x ≤ 65535) := propext ⟨fun h => by omega, fun h => by omega⟩
  have e2 : (y < 65536) = (y ≤ 65535) := propext ⟨fun h => by omega, fun h => by omega⟩
  simp only [e1, e2]
  by_cases a1 : 0 ≤ x
  · by_cases a2 : x ≤ 65535
    · by_cases a3 : 0 ≤ y <;> simp [a1, a2, a3]
    · simp [a1, a2]
  · simp [a1]
theorem all_four : ∀ a b c d : Bool, point_all.f 100 [a, b, c, d] = some (a && b && c && d) := by decide +kernel
theorem all_seven : ∀ a b c d e f g : Bool, point_all.f 100 [a, b, c, d, e, f, g] = some (a && b && c && d && e && f && g) := by decide +kernel
theorem right_rec (px py : Int) (key val : ByteArray) (ver : Int) : ∃ b, point_RightRec.f 100 px py key val ver = some b ∧ gleberef07_RightRec.f px py key val ver = some b ∧ (b = true → 0 ≤ px ∧ px ≤ 65535 ∧ 0 ≤ py ∧ py ≤ 65535 ∧ (key.size : Int) ≤ 16 ∧ (val.size : Int) ≤ 32 ∧ 1 ≤ ver ∧ ver ≤ 1099511627776) := by
  unfold point_RightRec.f gleberef07_RightRec.f
  simp only [from_eq, cell_eq, rcell_eq, all_four, Option.bind_some, ge_iff_le]
  by_cases a0 : 0 ≤ px
  rotate_left
  · simp only [a0, decide_true, decide_false, Bool.and_true, Bool.true_and, Bool.and_false, Bool.false_and, if_true, if_false, Bool.false_eq_true]; exact ⟨_, rfl, rfl, by simp⟩
  by_cases a1 : px ≤ 65535
  rotate_left
  · simp only [a0, a1, decide_true, decide_false, Bool.and_true, Bool.true_and, Bool.and_false, Bool.false_and, if_true, if_false, Bool.false_eq_true]; exact ⟨_, rfl, rfl, by simp⟩
  by_cases a2 : 0 ≤ py
  rotate_left
  · simp only [a0, a1, a2, decide_true, decide_false, Bool.and_true, Bool.true_and, Bool.and_false, Bool.false_and, if_true, if_false, Bool.false_eq_true]; exact ⟨_, rfl, rfl, by simp⟩
  by_cases a3 : py ≤ 65535
  rotate_left
  · simp only [a0, a1, a2, a3, decide_true, decide_false, Bool.and_true, Bool.true_and, Bool.and_false, Bool.false_and, if_true, if_false, Bool.false_eq_true]; exact ⟨_, rfl, rfl, by simp⟩
  by_cases a4 : 1 ≤ (key.size : Int)
  rotate_left
  · simp only [a0, a1, a2, a3, a4, decide_true, decide_false, Bool.and_true, Bool.true_and, Bool.and_false, Bool.false_and, if_true, if_false, Bool.false_eq_true]; exact ⟨_, rfl, rfl, by simp⟩
  by_cases a5 : (key.size : Int) ≤ 16
  rotate_left
  · simp only [a0, a1, a2, a3, a4, a5, decide_true, decide_false, Bool.and_true, Bool.true_and, Bool.and_false, Bool.false_and, if_true, if_false, Bool.false_eq_true]; exact ⟨_, rfl, rfl, by simp⟩
  by_cases a6 : (val.size : Int) ≤ 32
  rotate_left
  · simp only [a0, a1, a2, a3, a4, a5, a6, decide_true, decide_false, Bool.and_true, Bool.true_and, Bool.and_false, Bool.false_and, if_true, if_false, Bool.false_eq_true]; exact ⟨_, rfl, rfl, by simp⟩
  by_cases a7 : 1 ≤ ver
  rotate_left
  · simp only [a0, a1, a2, a3, a4, a5, a6, a7, decide_true, decide_false, Bool.and_true, Bool.true_and, Bool.and_false, Bool.false_and, if_true, if_false, Bool.false_eq_true]; exact ⟨_, rfl, rfl, by simp⟩
  by_cases a8 : ver ≤ 1099511627776
  rotate_left
  · simp only [a0, a1, a2, a3, a4, a5, a6, a7, a8, decide_true, decide_false, Bool.and_true, Bool.true_and, Bool.and_false, Bool.false_and, if_true, if_false, Bool.false_eq_true]; exact ⟨_, rfl, rfl, by simp⟩
  simp only [a0, a1, a2, a3, a4, a5, a6, a7, a8, decide_true, decide_false, Bool.and_true, Bool.true_and, Bool.and_false, Bool.false_and, if_true, if_false, Bool.false_eq_true]; exact ⟨_, rfl, rfl, by simp⟩
theorem right_op (kd px py : Int) (key val : ByteArray) (cli seq : Int) : ∃ b, point_RightOp.f 100 kd px py key val cli seq = some b ∧ gleberef07_RightOp.f kd px py key val cli seq = some b ∧ (b = true → 1 ≤ kd ∧ kd ≤ 3 ∧ 0 ≤ px ∧ px ≤ 65535 ∧ 0 ≤ py ∧ py ≤ 65535 ∧ (key.size : Int) ≤ 16 ∧ (val.size : Int) ≤ 32 ∧ 0 ≤ cli ∧ cli ≤ 7 ∧ 1 ≤ seq ∧ seq ≤ 1099511627776) := by
  unfold point_RightOp.f gleberef07_RightOp.f
  have e1 : (cli < 8) = (cli ≤ 7) := propext ⟨fun h => by omega, fun h => by omega⟩
  obtain ⟨q, hq⟩ : ∃ q, (val.toList == ([] : List UInt8)) = q := ⟨_, rfl⟩
  have hq2 : (val.toList = ([] : List UInt8)) = (q = true) := by rw [← hq]; simp
  obtain ⟨p, hp⟩ : ∃ p, (kd == 2) = p := ⟨_, rfl⟩
  have hp2 : (kd = 2) = (p = true) := by rw [← hp]; simp
  simp only [from_eq, cell_eq, rcell_eq, all_seven, Option.bind_some, ge_iff_le, e1, hq, hq2, hp2]
  clear hp hp2 hq hq2 e1
  cases p <;> cases q <;> simp only [if_true, if_false, Bool.false_eq_true]
  all_goals
    by_cases a0 : 1 ≤ kd
    rotate_left
    · (simp only [a0, decide_true, decide_false, Bool.and_true, Bool.true_and, Bool.and_false, Bool.false_and, if_true, if_false, Bool.false_eq_true]; exact ⟨_, rfl, rfl, by simp⟩)
    by_cases a1 : kd ≤ 3
    rotate_left
    · (simp only [a0, a1, decide_true, decide_false, Bool.and_true, Bool.true_and, Bool.and_false, Bool.false_and, if_true, if_false, Bool.false_eq_true]; exact ⟨_, rfl, rfl, by simp⟩)
    by_cases a2 : 0 ≤ px
    rotate_left
    · (simp only [a0, a1, a2, decide_true, decide_false, Bool.and_true, Bool.true_and, Bool.and_false, Bool.false_and, if_true, if_false, Bool.false_eq_true]; exact ⟨_, rfl, rfl, by simp⟩)
    by_cases a3 : px ≤ 65535
    rotate_left
    · (simp only [a0, a1, a2, a3, decide_true, decide_false, Bool.and_true, Bool.true_and, Bool.and_false, Bool.false_and, if_true, if_false, Bool.false_eq_true]; exact ⟨_, rfl, rfl, by simp⟩)
    by_cases a4 : 0 ≤ py
    rotate_left
    · (simp only [a0, a1, a2, a3, a4, decide_true, decide_false, Bool.and_true, Bool.true_and, Bool.and_false, Bool.false_and, if_true, if_false, Bool.false_eq_true]; exact ⟨_, rfl, rfl, by simp⟩)
    by_cases a5 : py ≤ 65535
    rotate_left
    · (simp only [a0, a1, a2, a3, a4, a5, decide_true, decide_false, Bool.and_true, Bool.true_and, Bool.and_false, Bool.false_and, if_true, if_false, Bool.false_eq_true]; exact ⟨_, rfl, rfl, by simp⟩)
    by_cases a6 : 1 ≤ (key.size : Int)
    rotate_left
    · (simp only [a0, a1, a2, a3, a4, a5, a6, decide_true, decide_false, Bool.and_true, Bool.true_and, Bool.and_false, Bool.false_and, if_true, if_false, Bool.false_eq_true]; exact ⟨_, rfl, rfl, by simp⟩)
    by_cases a7 : (key.size : Int) ≤ 16
    rotate_left
    · (simp only [a0, a1, a2, a3, a4, a5, a6, a7, decide_true, decide_false, Bool.and_true, Bool.true_and, Bool.and_false, Bool.false_and, if_true, if_false, Bool.false_eq_true]; exact ⟨_, rfl, rfl, by simp⟩)
    by_cases a8 : (val.size : Int) ≤ 32
    rotate_left
    · (simp only [a0, a1, a2, a3, a4, a5, a6, a7, a8, decide_true, decide_false, Bool.and_true, Bool.true_and, Bool.and_false, Bool.false_and, if_true, if_false, Bool.false_eq_true]; exact ⟨_, rfl, rfl, by simp⟩)
    by_cases a9 : 0 ≤ cli
    rotate_left
    · (simp only [a0, a1, a2, a3, a4, a5, a6, a7, a8, a9, decide_true, decide_false, Bool.and_true, Bool.true_and, Bool.and_false, Bool.false_and, if_true, if_false, Bool.false_eq_true]; exact ⟨_, rfl, rfl, by simp⟩)
    by_cases a10 : cli ≤ 7
    rotate_left
    · (simp only [a0, a1, a2, a3, a4, a5, a6, a7, a8, a9, a10, decide_true, decide_false, Bool.and_true, Bool.true_and, Bool.and_false, Bool.false_and, if_true, if_false, Bool.false_eq_true]; exact ⟨_, rfl, rfl, by simp⟩)
    by_cases a11 : 1 ≤ seq
    rotate_left
    · (simp only [a0, a1, a2, a3, a4, a5, a6, a7, a8, a9, a10, a11, decide_true, decide_false, Bool.and_true, Bool.true_and, Bool.and_false, Bool.false_and, if_true, if_false, Bool.false_eq_true]; exact ⟨_, rfl, rfl, by simp⟩)
    by_cases a12 : seq ≤ 1099511627776
    rotate_left
    · (simp only [a0, a1, a2, a3, a4, a5, a6, a7, a8, a9, a10, a11, a12, decide_true, decide_false, Bool.and_true, Bool.true_and, Bool.and_false, Bool.false_and, if_true, if_false, Bool.false_eq_true]; exact ⟨_, rfl, rfl, by simp⟩)
    (simp only [a0, a1, a2, a3, a4, a5, a6, a7, a8, a9, a10, a11, a12, decide_true, decide_false, Bool.and_true, Bool.true_and, Bool.and_false, Bool.false_and, if_true, if_false, Bool.false_eq_true]; exact ⟨_, rfl, rfl, by simp⟩)
theorem right_ans (e : Int) (f : Bool) (v : ByteArray) (n : Int) : ∃ b, point_RightAns.f 100 e f v n = some b ∧ gleberef07_RightAns.f e f v n = some b ∧ (b = true → 0 ≤ e ∧ e ≤ 255 ∧ (v.size : Int) ≤ 32 ∧ 0 ≤ n ∧ n ≤ 1099511627776) := by
  unfold point_RightAns.f gleberef07_RightAns.f
  obtain ⟨q, hq⟩ : ∃ q, (v.toList == ([] : List UInt8)) = q := ⟨_, rfl⟩
  have hq2 : (v.toList = ([] : List UInt8)) = (q = true) := by rw [← hq]; simp
  obtain ⟨z, hz⟩ : ∃ z, (n == 0) = z := ⟨_, rfl⟩
  simp only [from_eq, all_four, Option.bind_some, ge_iff_le, hq2, hz]
  cases f <;> cases q <;> cases z <;> simp only [if_true, if_false, Bool.false_eq_true]
  all_goals
    by_cases a0 : 0 ≤ e
    rotate_left
    · (simp only [a0, decide_true, decide_false, Bool.and_true, Bool.true_and, Bool.and_false, Bool.false_and, if_true, if_false, Bool.false_eq_true]; exact ⟨_, rfl, rfl, by simp⟩)
    by_cases a1 : e ≤ 255
    rotate_left
    · (simp only [a0, a1, decide_true, decide_false, Bool.and_true, Bool.true_and, Bool.and_false, Bool.false_and, if_true, if_false, Bool.false_eq_true]; exact ⟨_, rfl, rfl, by simp⟩)
    by_cases a2 : (v.size : Int) ≤ 32
    rotate_left
    · (simp only [a0, a1, a2, decide_true, decide_false, Bool.and_true, Bool.true_and, Bool.and_false, Bool.false_and, if_true, if_false, Bool.false_eq_true]; exact ⟨_, rfl, rfl, by simp⟩)
    by_cases a3 : 0 ≤ n
    rotate_left
    · (simp only [a0, a1, a2, a3, decide_true, decide_false, Bool.and_true, Bool.true_and, Bool.and_false, Bool.false_and, if_true, if_false, Bool.false_eq_true]; exact ⟨_, rfl, rfl, by simp⟩)
    by_cases a4 : n ≤ 1099511627776
    rotate_left
    · (simp only [a0, a1, a2, a3, a4, decide_true, decide_false, Bool.and_true, Bool.true_and, Bool.and_false, Bool.false_and, if_true, if_false, Bool.false_eq_true]; exact ⟨_, rfl, rfl, by simp⟩)
    (simp only [a0, a1, a2, a3, a4, decide_true, decide_false, Bool.and_true, Bool.true_and, Bool.and_false, Bool.false_and, if_true, if_false, Bool.false_eq_true]; exact ⟨_, rfl, rfl, by simp⟩)
end Go.Proofs.Ytiglmgmkablpkaa.PK
namespace Go.Proofs.Ytiglmgmkablpkaa.PK
open Go.RowKit Go.Proofs.YtiglmgmkablpkaaW.PrintWords Go.Proofs.YtiglmgmkablpkaaW.PrintLast Go.Proofs.YtiglmgmkablpkaaW.PrintMore
set_option linter.unusedVariables false
set_option linter.unusedSimpArgs false
theorem tk_yes (e : Int) : tkE true e = e := rfl
/-- The document's end of a Take. -/
theorem tk_fail {l0 l : List Int} {e : Int} {at_ : Nat} (h : Agree l0 l e at_) : gleberef01_Reader_Fail.f l0 (at_ : Int) e 21 = some ((at_ : Int), tkE false e) ∧ Agree l0 l (tkE false e) at_ := by
  have q := ref_fail 21 h
  have : (if rdOk e true = true then (21 : Int) else e) = tkE false e := by
    unfold tkE
    by_cases c : e = 0
    · rw [ok_on c, if_pos rfl, if_neg (by simp), if_pos c]
    · rw [ok_off c, if_neg (by simp), if_neg (by simp), if_neg c]
  rw [this] at q
  exact q
theorem zero_row5 (z : Int) (a b : Int) (s t : ByteArray) (n : Int) : (if z = 0 then #[Value.int .i64 a, .int .i64 b, .string s, .string t, .int .i64 n] else #[.int .i64 0, .int .i64 0, .string ⟨#[]⟩, .string ⟨#[]⟩, .int .i64 0]) = #[.int .i64 (if z = 0 then a else 0), .int .i64 (if z = 0 then b else 0), .string (if z = 0 then s else ⟨#[]⟩), .string (if z = 0 then t else ⟨#[]⟩), .int .i64 (if z = 0 then n else 0)] := by
  by_cases h : z = 0
  · simp only [if_pos h]
  · simp only [if_neg h]
theorem zero_row7 (z : Int) (c a b : Int) (s t : ByteArray) (m n : Int) : (if z = 0 then #[Value.int .i64 c, .int .i64 a, .int .i64 b, .string s, .string t, .int .i64 m, .int .i64 n] else #[.int .i64 0, .int .i64 0, .int .i64 0, .string ⟨#[]⟩, .string ⟨#[]⟩, .int .i64 0, .int .i64 0]) = #[.int .i64 (if z = 0 then c else 0), .int .i64 (if z = 0 then a else 0), .int .i64 (if z = 0 then b else 0), .string (if z = 0 then s else ⟨#[]⟩), .string (if z = 0 then t else ⟨#[]⟩), .int .i64 (if z = 0 then m else 0), .int .i64 (if z = 0 then n else 0)] := by
  by_cases h : z = 0
  · simp only [if_pos h]
  · simp only [if_neg h]
theorem zero_row4 (z : Int) (a : Int) (f : Bool) (s : ByteArray) (n : Int) : (if z = 0 then #[Value.int .i64 a, .bool f, .string s, .int .i64 n] else #[.int .i64 0, .bool false, .string ⟨#[]⟩, .int .i64 0]) = #[.int .i64 (if z = 0 then a else 0), .bool (if z = 0 then f else false), .string (if z = 0 then s else ⟨#[]⟩), .int .i64 (if z = 0 then n else 0)] := by
  by_cases h : z = 0
  · simp only [if_pos h]
  · simp only [if_neg h]
section
variable {l0 : List Int} (hl : l0.length ≤ 1048576) (hB : ∀ z ∈ l0, 0 ≤ z ∧ z < 256)
include hl hB
theorem stage_rec : ∃ px l1 e1 py l2 e2 key l3 e3 val l4 e4 ver l5 e5 r, ∃ at_ : Nat, rdNum l0 0 true = (px, l1, e1) ∧ rdNum l1 e1 true = (py, l2, e2) ∧ rdText l2 e2 true 32 = (key, l3, e3) ∧ rdText l3 e3 true 32 = (val, l4, e4) ∧ rdNum l4 e4 true = (ver, l5, e5) ∧ point_RightRec.f 100 px py (strOfNums key) (strOfNums val) ver = some r ∧ Agree l0 l5 (tkE r e5) at_ ∧
    gleberef07_TakeRec.f 100 l0 0 0 = some (if tkE r e5 = 0 then px else 0, if tkE r e5 = 0 then py else 0, if tkE r e5 = 0 then strOfNums key else ⟨#[]⟩, if tkE r e5 = 0 then strOfNums val else ⟨#[]⟩, if tkE r e5 = 0 then ver else 0, (at_ : Int), tkE r e5) := by
  have h0 : Agree l0 l0 0 0 := ⟨by omega, fun _ => rfl⟩
  obtain ⟨a1, q1, h1⟩ := ref_num hl hB h0 100 (by decide)
  obtain ⟨⟨px, l1, e1⟩, k1⟩ : ∃ x, rdNum l0 0 true = x := ⟨_, rfl⟩
  have q1 : gleberef01_Reader_Num.f 100 l0 0 0 = _ := q1
  rw [k1] at q1 h1
  dsimp only at q1 h1
  obtain ⟨a2, q2, h2⟩ := ref_num hl hB h1 100 (by decide)
  obtain ⟨⟨py, l2, e2⟩, k2⟩ : ∃ x, rdNum l1 e1 true = x := ⟨_, rfl⟩
  rw [k2] at q2 h2
  dsimp only at q2 h2
  obtain ⟨a3, q3, h3⟩ := ref_text hl hB h2 32 100 (by decide)
  obtain ⟨⟨key, l3, e3⟩, k3⟩ : ∃ x, rdText l2 e2 true 32 = x := ⟨_, rfl⟩
  rw [k3] at q3 h3
  dsimp only at q3 h3
  obtain ⟨a4, q4, h4⟩ := ref_text hl hB h3 32 100 (by decide)
  obtain ⟨⟨val, l4, e4⟩, k4⟩ : ∃ x, rdText l3 e3 true 32 = x := ⟨_, rfl⟩
  rw [k4] at q4 h4
  dsimp only at q4 h4
  obtain ⟨a5, q5, h5⟩ := ref_num hl hB h4 100 (by decide)
  obtain ⟨⟨ver, l5, e5⟩, k5⟩ : ∃ x, rdNum l4 e4 true = x := ⟨_, rfl⟩
  rw [k5] at q5 h5
  dsimp only at q5 h5
  obtain ⟨r, r1, r2, _⟩ := right_rec px py (strOfNums key) (strOfNums val) ver
  have hf : Agree l0 l5 (tkE r e5) a5 := by
    cases r
    · exact (tk_fail h5).2
    · exact h5
  refine ⟨px, l1, e1, py, l2, e2, key, l3, e3, val, l4, e4, ver, l5, e5, r, a5, k1, k2, k3, k4, k5, r1, hf, ?_⟩
  unfold gleberef07_TakeRec.f
  simp only [q1, q2, q3, q4, q5, r2, Option.bind_some]
  cases r
  · simp only [Bool.false_eq_true, if_false, (tk_fail h5).1, Option.bind_some]
    by_cases c9 : tkE false e5 = 0
    · simp only [if_pos c9, c9, if_true]
    · first | (simp only [if_neg c9]; done) | (simp [c9, tk_yes]; done)
  · simp only [if_true, tk_yes]
    by_cases c9 : e5 = 0
    · simp only [c9, if_true]
    · first | (simp only [if_neg c9]; done) | (simp [c9, tk_yes]; done)
theorem stage_op : ∃ kd l1 e1 px l2 e2 py l3 e3 key l4 e4 val l5 e5 cli l6 e6 seq l7 e7 r, ∃ at_ : Nat, rdNum l0 0 true = (kd, l1, e1) ∧ rdNum l1 e1 true = (px, l2, e2) ∧ rdNum l2 e2 true = (py, l3, e3) ∧ rdText l3 e3 true 32 = (key, l4, e4) ∧ rdText l4 e4 true 32 = (val, l5, e5) ∧ rdNum l5 e5 true = (cli, l6, e6) ∧ rdNum l6 e6 true = (seq, l7, e7) ∧ point_RightOp.f 100 kd px py (strOfNums key) (strOfNums val) cli seq = some r ∧ Agree l0 l7 (tkE r e7) at_ ∧
    gleberef07_TakeOp.f 100 l0 0 0 = some (if tkE r e7 = 0 then kd else 0, if tkE r e7 = 0 then px else 0, if tkE r e7 = 0 then py else 0, if tkE r e7 = 0 then strOfNums key else ⟨#[]⟩, if tkE r e7 = 0 then strOfNums val else ⟨#[]⟩, if tkE r e7 = 0 then cli else 0, if tkE r e7 = 0 then seq else 0, (at_ : Int), tkE r e7) := by
  have h0 : Agree l0 l0 0 0 := ⟨by omega, fun _ => rfl⟩
  obtain ⟨a1, q1, h1⟩ := ref_num hl hB h0 100 (by decide)
  obtain ⟨⟨kd, l1, e1⟩, k1⟩ : ∃ x, rdNum l0 0 true = x := ⟨_, rfl⟩
  have q1 : gleberef01_Reader_Num.f 100 l0 0 0 = _ := q1
  rw [k1] at q1 h1
  dsimp only at q1 h1
  obtain ⟨a2, q2, h2⟩ := ref_num hl hB h1 100 (by decide)
  obtain ⟨⟨px, l2, e2⟩, k2⟩ : ∃ x, rdNum l1 e1 true = x := ⟨_, rfl⟩
  rw [k2] at q2 h2
  dsimp only at q2 h2
  obtain ⟨a3, q3, h3⟩ := ref_num hl hB h2 100 (by decide)
  obtain ⟨⟨py, l3, e3⟩, k3⟩ : ∃ x, rdNum l2 e2 true = x := ⟨_, rfl⟩
  rw [k3] at q3 h3
  dsimp only at q3 h3
  obtain ⟨a4, q4, h4⟩ := ref_text hl hB h3 32 100 (by decide)
  obtain ⟨⟨key, l4, e4⟩, k4⟩ : ∃ x, rdText l3 e3 true 32 = x := ⟨_, rfl⟩
  rw [k4] at q4 h4
  dsimp only at q4 h4
  obtain ⟨a5, q5, h5⟩ := ref_text hl hB h4 32 100 (by decide)
  obtain ⟨⟨val, l5, e5⟩, k5⟩ : ∃ x, rdText l4 e4 true 32 = x := ⟨_, rfl⟩
  rw [k5] at q5 h5
  dsimp only at q5 h5
  obtain ⟨a6, q6, h6⟩ := ref_num hl hB h5 100 (by decide)
  obtain ⟨⟨cli, l6, e6⟩, k6⟩ : ∃ x, rdNum l5 e5 true = x := ⟨_, rfl⟩
  rw [k6] at q6 h6
  dsimp only at q6 h6
  obtain ⟨a7, q7, h7⟩ := ref_num hl hB h6 100 (by decide)
  obtain ⟨⟨seq, l7, e7⟩, k7⟩ : ∃ x, rdNum l6 e6 true = x := ⟨_, rfl⟩
  rw [k7] at q7 h7
  dsimp only at q7 h7
  obtain ⟨r, r1, r2, _⟩ := right_op kd px py (strOfNums key) (strOfNums val) cli seq
  have hf : Agree l0 l7 (tkE r e7) a7 := by
    cases r
    · exact (tk_fail h7).2
    · exact h7
  refine ⟨kd, l1, e1, px, l2, e2, py, l3, e3, key, l4, e4, val, l5, e5, cli, l6, e6, seq, l7, e7, r, a7, k1, k2, k3, k4, k5, k6, k7, r1, hf, ?_⟩
  unfold gleberef07_TakeOp.f
  simp only [q1, q2, q3, q4, q5, q6, q7, r2, Option.bind_some]
  cases r
  · simp only [Bool.false_eq_true, if_false, (tk_fail h7).1, Option.bind_some]
    by_cases c9 : tkE false e7 = 0
    · simp only [if_pos c9, c9, if_true]
    · first | (simp only [if_neg c9]; done) | (simp [c9, tk_yes]; done)
  · simp only [if_true, tk_yes]
    by_cases c9 : e7 = 0
    · simp only [c9, if_true]
    · first | (simp only [if_neg c9]; done) | (simp [c9, tk_yes]; done)
theorem stage_ans : ∃ ae l1 e1 fo l2 e2 av l3 e3 an l4 e4 r, ∃ at_ : Nat, rdNum l0 0 true = (ae, l1, e1) ∧ rdNum l1 e1 true = (fo, l2, e2) ∧ rdText l2 e2 true 32 = (av, l3, e3) ∧ rdNum l3 e3 true = (an, l4, e4) ∧ point_RightAns.f 100 ae (fo == 1) (strOfNums av) an = some r ∧ Agree l0 l4 (tkE (decide (fo ≤ 1) && r) e4) at_ ∧
    gleberef07_TakeAns.f 100 l0 0 0 = some (if tkE (decide (fo ≤ 1) && r) e4 = 0 then ae else 0, if tkE (decide (fo ≤ 1) && r) e4 = 0 then (fo == 1) else false, if tkE (decide (fo ≤ 1) && r) e4 = 0 then strOfNums av else ⟨#[]⟩, if tkE (decide (fo ≤ 1) && r) e4 = 0 then an else 0, (at_ : Int), tkE (decide (fo ≤ 1) && r) e4) := by
  have h0 : Agree l0 l0 0 0 := ⟨by omega, fun _ => rfl⟩
  obtain ⟨a1, q1, h1⟩ := ref_num hl hB h0 100 (by decide)
  obtain ⟨⟨ae, l1, e1⟩, k1⟩ : ∃ x, rdNum l0 0 true = x := ⟨_, rfl⟩
  have q1 : gleberef01_Reader_Num.f 100 l0 0 0 = _ := q1
  rw [k1] at q1 h1
  dsimp only at q1 h1
  obtain ⟨a2, q2, h2⟩ := ref_num hl hB h1 100 (by decide)
  obtain ⟨⟨fo, l2, e2⟩, k2⟩ : ∃ x, rdNum l1 e1 true = x := ⟨_, rfl⟩
  rw [k2] at q2 h2
  dsimp only at q2 h2
  obtain ⟨a3, q3, h3⟩ := ref_text hl hB h2 32 100 (by decide)
  obtain ⟨⟨av, l3, e3⟩, k3⟩ : ∃ x, rdText l2 e2 true 32 = x := ⟨_, rfl⟩
  rw [k3] at q3 h3
  dsimp only at q3 h3
  obtain ⟨a4, q4, h4⟩ := ref_num hl hB h3 100 (by decide)
  obtain ⟨⟨an, l4, e4⟩, k4⟩ : ∃ x, rdNum l3 e3 true = x := ⟨_, rfl⟩
  rw [k4] at q4 h4
  dsimp only at q4 h4
  obtain ⟨r, r1, r2, _⟩ := right_ans ae (fo == 1) (strOfNums av) an
  obtain ⟨c, hc⟩ : ∃ c, decide (fo ≤ 1) = c := ⟨_, rfl⟩
  have hc2 : decide (fo > 1) = !c := by
    rw [← hc]
    by_cases z : fo ≤ 1
    · rw [decide_eq_true z, decide_eq_false (by omega)]; rfl
    · rw [decide_eq_false z, decide_eq_true (by omega)]; rfl
  have hf : Agree l0 l4 (tkE (decide (fo ≤ 1) && r) e4) a4 := by
    rw [hc]
    cases r <;> cases c
    · exact (tk_fail h4).2
    · exact (tk_fail h4).2
    · exact (tk_fail h4).2
    · exact h4
  refine ⟨ae, l1, e1, fo, l2, e2, av, l3, e3, an, l4, e4, r, a4, k1, k2, k3, k4, r1, hf, ?_⟩
  rw [hc]
  unfold gleberef07_TakeAns.f
  simp only [q1, q2, q3, q4, r2, Option.bind_some]
  cases r <;> cases c
  · simp only [Bool.false_eq_true, if_false, if_true, gleberef07_TakeAns.j0, hc2, Bool.not_true, Bool.not_false, Bool.and_false, Bool.false_and, Bool.and_true, Bool.and_self, (tk_fail h4).1, Option.bind_some]
    by_cases c9 : tkE false e4 = 0
    · simp only [if_pos c9, c9, if_true]
    · first | (simp only [if_neg c9]; done) | (simp [c9, tk_yes]; done)
  · simp only [Bool.false_eq_true, if_false, if_true, gleberef07_TakeAns.j0, hc2, Bool.not_true, Bool.not_false, Bool.and_false, Bool.false_and, Bool.and_true, Bool.and_self, (tk_fail h4).1, Option.bind_some]
    by_cases c9 : tkE false e4 = 0
    · simp only [if_pos c9, c9, if_true]
    · first | (simp only [if_neg c9]; done) | (simp [c9, tk_yes]; done)
  · simp only [Bool.false_eq_true, if_false, if_true, gleberef07_TakeAns.j0, hc2, Bool.not_true, Bool.not_false, Bool.and_false, Bool.false_and, Bool.and_true, Bool.and_self, (tk_fail h4).1, Option.bind_some]
    by_cases c9 : tkE false e4 = 0
    · simp only [if_pos c9, c9, if_true]
    · first | (simp only [if_neg c9]; done) | (simp [c9, tk_yes]; done)
  · simp only [Bool.false_eq_true, if_false, if_true, gleberef07_TakeAns.j0, hc2, Bool.not_true, Bool.and_self, tk_yes, Option.bind_some]
    by_cases c9 : e4 = 0
    · simp only [c9, if_true]
    · first | (simp only [if_neg c9]; done) | (simp [c9, tk_yes]; done)
end
end Go.Proofs.Ytiglmgmkablpkaa.PK
