/- Numbers as bytes: what wire.Num and the reference write. -/
import Derived.Test.YtlfnfgoocliecaaSessRight
import Derived.Test.YtlfnfgoocliecaaPNx3
import Derived.Test.YtlfnfgoocliecaaPNx1
namespace Go.Proofs.Ytlfnfgoocliecaa.PN
open Go.RowKit Go.Proofs.YtlfnfgoocliecaaW.PrintWords Go.Proofs.YtlfnfgoocliecaaW.PrintLast Go.Proofs.YtlfnfgoocliecaaW.PrintMore
set_option linter.unusedVariables false
set_option linter.unusedSimpArgs false
theorem w64_small {x : Int} (h1 : -9223372036854775808 ≤ x) (h2 : x ≤ 9223372036854775807) : wrap64 x = x := by
  unfold wrap64
  omega
/-- A number's bytes, in at most j + 1 of them. -/
def numB : Nat → Int → List Int
  | 0, x => [x]
  | j + 1, x => if x > 127 then (128 + x % 128) :: numB j (x / 128) else [x]
theorem or_128 (x : Int) : Go.bits .or .u8 (x % 256) 128 = 128 + x % 128 := by
  have h : ∀ y : Fin 256, Go.bits .or .u8 ((y.val : Nat) : Int) 128 = 128 + ((y.val : Nat) : Int) % 128 := by decide +kernel
  have h1 : 0 ≤ x % 256 ∧ x % 256 < 256 := by omega
  have h2 := h ⟨(x % 256).toNat, by omega⟩
  dsimp only at h2
  rw [Int.toNat_of_nonneg h1.1] at h2
  rw [h2]
  omega
theorem numB_len (j : Nat) (x : Int) : (numB j x).length ≤ j + 1 := by
  induction j generalizing x with
  | zero => simp [numB]
  | succ j ih =>
    unfold numB
    split
    · have := ih (x / 128)
      simp
      omega
    · simp
theorem wnum_loop (k j : Nat) : ∀ (x : Int) (out : List Int), 0 ≤ x → x < 128 * 128 ^ j → out.length + j ≤ 1000 → wire_Num.l0 (k + 1 + j) x out = some (out ++ numB j x, 0) := by
  induction j with
  | zero =>
    intro x out h0 h1 h2
    simp only [wire_Num.l0, numB]
    simp at h1
    rw [if_neg (by omega), if_pos (by omega), Int.emod_eq_of_lt h0 (by omega)]
  | succ j ih =>
    intro x out h0 h1 h2
    show wire_Num.l0 ((k + 1 + j) + 1) _ _ = _
    simp only [wire_Num.l0, numB]
    by_cases h : x > 127
    · rw [Int.pow_succ] at h1
      rw [if_pos h, if_pos h, if_pos (by omega), or_128, ih _ _ (by omega) (by omega) (by simp; omega)]
      simp
    · rw [if_neg h, if_neg h, if_pos (by omega), Int.emod_eq_of_lt h0 (by omega)]
theorem wnum_yes {n : Int} (h0 : 0 ≤ n) (h1 : n ≤ 9007199254740992) (k : Nat) : wire_Num.f (k + 10) n = some (numB 8 n, 0) := by
  unfold wire_Num.f
  rw [if_neg (by omega), decide_eq_false (by omega)]
  show wire_Num.j0 ((k + 9) + 1) _ _ = _
  simp only [wire_Num.j0]
  rw [if_neg (by decide)]
  have := wnum_loop k 8 n [] h0 (by omega) (by simp)
  simpa using this
theorem wnum_no {n : Int} (h : n < 0 ∨ n > 9007199254740992) (k : Nat) : wire_Num.f (k + 1) n = some ([], 1) := by
  unfold wire_Num.f
  by_cases h0 : n < 0
  · rw [if_pos h0]
    simp [wire_Num.j0]
  · rw [if_neg h0, decide_eq_true (by omega)]
    simp [wire_Num.j0]
theorem wtext_yes (s : ByteArray) (h : s.size ≤ 131072) (k : Nat) : wire_Text.f (k + 10) s = some (numB 8 s.size ++ bytesOf s, 0) := by
  unfold wire_Text.f
  rw [if_neg (by omega), wnum_yes (by omega) (by omega), Option.bind_some]
  have := numB_len 8 s.size
  dsimp only
  rw [if_pos (by omega)]
set_option linter.unusedVariables false
theorem and_bytes : ∀ a : Nat, a < 256 → Go.bits .and .u8 (a : Int) 127 = ((a % 128 : Nat) : Int) ∧ Go.bits .and .u8 (a : Int) 128 = (if a < 128 then 0 else 128) := by decide +kernel
theorem and127 {c : Int} (h : 0 ≤ c ∧ c < 256) : Go.bits .and .u8 c 127 = c % 128 := by
  obtain ⟨a, rfl⟩ := Int.eq_ofNat_of_zero_le h.1
  rw [(and_bytes a (by omega)).1]
  omega
theorem and128 {c : Int} (h : 0 ≤ c ∧ c < 256) : Go.bits .and .u8 c 128 = 0 ↔ c < 128 := by
  obtain ⟨a, rfl⟩ := Int.eq_ofNat_of_zero_le h.1
  rw [(and_bytes a (by omega)).2]
  by_cases q : a < 128
  · rw [if_pos q]
    exact ⟨fun _ => by omega, fun _ => rfl⟩
  · rw [if_neg q]
    exact ⟨fun e => by omega, fun e => by omega⟩
theorem or_big {a b : Nat} (ha : a < 2 ^ 62) (hb : b < 2 ^ 62) : Go.bits .or .i64 (a : Int) (b : Int) = ((a ||| b : Nat) : Int) := by
  unfold Go.bits
  dsimp only
  have ha' : (BitVec.ofInt (IntKind.bits .i64) (a : Int)).toNat = a := by
    show ((a : Int) % (2 ^ 64 : Nat)).toNat = a
    omega
  have hb' : (BitVec.ofInt (IntKind.bits .i64) (b : Int)).toNat = b := by
    show ((b : Int) % (2 ^ 64 : Nat)).toNat = b
    omega
  rw [BitVec.toNat_or, ha', hb']
  have h := Nat.or_lt_two_pow (n := 62) (x := a) (y := b) ha hb
  generalize a ||| b = z at h
  rw [IntKind.wrap_i64]
  omega
theorem pow7 (i : Nat) (hi : i ≤ 7) : 2 ^ (7 * i) ≤ 562949953421312 ∧ 1 ≤ 2 ^ (7 * i) := by
  have : i = 0 ∨ i = 1 ∨ i = 2 ∨ i = 3 ∨ i = 4 ∨ i = 5 ∨ i = 6 ∨ i = 7 := by omega
  rcases this with rfl | rfl | rfl | rfl | rfl | rfl | rfl | rfl <;> decide
/-- A byte more: it is added. -/
theorem rdPut_add {n : Nat} {c : Nat} (hc : c < 256) (i : Nat) (hi : i ≤ 7) (hn : n < 2 ^ (7 * i)) : rdPut (n : Int) (c : Int) i = ((n + 2 ^ (7 * i) * (c % 128) : Nat) : Int) := by
  unfold rdPut
  have hp := pow7 i hi
  have h := Nat.two_pow_add_eq_or_of_lt (i := 7 * i) (b := n) hn (c % 128)
  rw [and127 (by omega), show (c : Int) % 128 = ((c % 128 : Nat) : Int) by omega]
  have hx : c % 128 < 128 := Nat.mod_lt _ (by decide)
  have e : ((c % 128 : Nat) : Int) * 2 ^ (7 * i) = ((2 ^ (7 * i) * (c % 128) : Nat) : Int) := by
    rw [Int.natCast_mul, Int.natCast_pow, Int.mul_comm]
    rfl
  rw [e]
  have hb : 2 ^ (7 * i) * (c % 128) ≤ 562949953421312 * 127 := Nat.mul_le_mul hp.1 (by omega)
  generalize 2 ^ (7 * i) * (c % 128) = y at h hb
  rw [show wrap64 (y : Int) = (y : Int) by unfold wrap64; omega, or_big (by omega) (by omega), Nat.or_comm, ← h, Nat.add_comm]
/-- One round of reading. -/
theorem rdFrom_step {l : List Int} (f i : Nat) {n : Nat} (hf : f + i ≤ 7) (hn : n < 2 ^ (7 * i)) {c : Nat} (hi : i < l.length) (hc : rd l i = (c : Int)) (hb : c < 256) :
    rdFrom l (f + 1) i (n : Int) = if n + 2 ^ (7 * i) * (c % 128) > 9007199254740992 ∨ 0 < i ∧ c = 0 then (0, l, 21) else if c < 128 then (((n + 2 ^ (7 * i) * (c % 128) : Nat) : Int), l.drop (i + 1), 0) else rdFrom l f (i + 1) ((n + 2 ^ (7 * i) * (c % 128) : Nat) : Int) := by
  rw [rdFrom, if_neg (by omega), hc, rdPut_add hb i (by omega) hn]
  generalize n + 2 ^ (7 * i) * (c % 128) = v
  by_cases q : v > 9007199254740992 ∨ 0 < i ∧ c = 0
  · rw [if_pos q, if_pos (q.imp (fun q => by omega) (fun q => ⟨q.1, by omega⟩))]
  · rw [if_neg q, if_neg (fun z => q (z.imp (fun z => by omega) (fun z => ⟨z.1, by omega⟩)))]
    by_cases q2 : c < 128
    · rw [if_pos q2, if_pos ((and128 (by omega)).mpr (by omega))]
    · rw [if_neg q2, if_neg (fun z => q2 (by have := (and128 (by omega)).mp z; omega))]
theorem rdFrom_end {l : List Int} (f i : Nat) (n : Int) (hi : l.length ≤ i) : rdFrom l (f + 1) i n = (0, l, 20) := by
  rw [rdFrom, if_pos hi]
theorem next7 {n c i : Nat} (hn : n < 2 ^ (7 * i)) : n + 2 ^ (7 * i) * (c % 128) < 2 ^ (7 * (i + 1)) := by
  have hx : c % 128 ≤ 127 := by omega
  have h1 : 2 ^ (7 * i) * (c % 128) ≤ 2 ^ (7 * i) * 127 := Nat.mul_le_mul_left _ hx
  have h2 : 2 ^ (7 * (i + 1)) = 2 ^ (7 * i) * 128 := by rw [show 7 * (i + 1) = 7 * i + 7 by omega, Nat.pow_add]
  rw [h2]
  generalize 2 ^ (7 * i) = p at *
  generalize p * (c % 128) = y at *
  omega
theorem numB_eq (j : Nat) (x : Int) : numB (j + 1) x = if x > 127 then (128 + x % 128) :: numB j (x / 128) else [x] := rfl
/-- One row less is enough. -/
theorem numB_less : ∀ (j x : Nat), x < 128 * 128 ^ j → numB (j + 1) (x : Int) = numB j (x : Int)
  | 0, x, h => by
    rw [numB_eq 0, if_neg (by omega)]
    rfl
  | j + 1, x, h => by
    have h2 : x / 128 < 128 * 128 ^ j := by
      rw [Nat.pow_succ] at h
      omega
    have ih := numB_less j (x / 128) h2
    have e : (x : Int) / 128 = ((x / 128 : Nat) : Int) := by omega
    rw [numB_eq (j + 1), numB_eq j (x : Int), e, ih]
/-- What was written is read. -/
theorem rdFrom_numB : ∀ (j f i n x : Nat) (pre rest : List Int), pre.length = i → n < 2 ^ (7 * i) → j + 1 ≤ f → f + i ≤ 8 → x < 128 * 128 ^ j → (0 < i → 0 < x) → n + 2 ^ (7 * i) * x ≤ 9007199254740992 → rdFrom (pre ++ (numB j (x : Int) ++ rest)) f i (n : Int) = (((n + 2 ^ (7 * i) * x : Nat) : Int), rest, 0) := by
  have last : ∀ (f i n x : Nat) (pre rest : List Int), pre.length = i → n < 2 ^ (7 * i) → f + 1 + i ≤ 8 → x < 128 → (0 < i → 0 < x) → n + 2 ^ (7 * i) * x ≤ 9007199254740992 → rdFrom (pre ++ ([(x : Int)] ++ rest)) (f + 1) i (n : Int) = (((n + 2 ^ (7 * i) * x : Nat) : Int), rest, 0) := by
    intro f i n x pre rest hp hn hf hx h0 hb
    have hr : rd (pre ++ ([(x : Int)] ++ rest)) (i : Int) = (x : Int) := by
      unfold rd
      rw [Int.toNat_natCast]
      subst hp
      simp
    have hl : i < (pre ++ ([(x : Int)] ++ rest)).length := by simp; omega
    have hd : (pre ++ ([(x : Int)] ++ rest)).drop (i + 1) = rest := by
      subst hp
      rw [List.drop_length_add_append]
      rfl
    rw [rdFrom_step f i (by omega) hn hl hr (by omega), Nat.mod_eq_of_lt hx, hd, if_neg (by omega), if_pos hx]
  intro j
  induction j with
  | zero =>
    intro f i n x pre rest hp hn hf hfi hx h0 hb
    obtain ⟨f, rfl⟩ : ∃ g, f = g + 1 := ⟨f - 1, by omega⟩
    exact last f i n x pre rest hp hn (by omega) (by simpa using hx) h0 hb
  | succ j ih =>
    intro f i n x pre rest hp hn hf hfi hx h0 hb
    obtain ⟨f, rfl⟩ : ∃ g, f = g + 1 := ⟨f - 1, by omega⟩
    by_cases q : (x : Int) > 127
    · have hdm : x = x % 128 + 128 * (x / 128) := by omega
      have hv : n + 2 ^ (7 * i) * (x % 128) + 2 ^ (7 * (i + 1)) * (x / 128) = n + 2 ^ (7 * i) * x := by
        have e : 2 ^ (7 * (i + 1)) = 2 ^ (7 * i) * 128 := by rw [show 7 * (i + 1) = 7 * i + 7 by omega, Nat.pow_add]
        have e2 : 2 ^ (7 * i) * x = 2 ^ (7 * i) * (x % 128) + 2 ^ (7 * i) * 128 * (x / 128) := by
          rw [Nat.mul_assoc, ← Nat.mul_add, ← hdm]
        rw [e, e2, Nat.add_assoc]
      have hr : rd (pre ++ (((128 + (x : Int) % 128) :: numB j ((x : Int) / 128)) ++ rest)) (i : Int) = ((128 + x % 128 : Nat) : Int) := by
        unfold rd
        rw [Int.toNat_natCast]
        subst hp
        simp
      have hl : i < (pre ++ (((128 + (x : Int) % 128) :: numB j ((x : Int) / 128)) ++ rest)).length := by simp; omega
      have hm : (128 + x % 128) % 128 = x % 128 := by omega
      have hn2 := next7 (c := x) hn
      rw [numB, if_pos q, rdFrom_step f i (by omega) hn hl hr (by omega), hm]
      have hle : n + 2 ^ (7 * i) * (x % 128) ≤ 9007199254740992 := Nat.le_trans (Nat.le_trans (Nat.le_add_right _ _) (Nat.le_of_eq hv)) hb
      rw [if_neg (by omega), if_neg (by omega)]
      have hx2 : x / 128 < 128 * 128 ^ j := by
        rw [Nat.pow_succ] at hx
        omega
      have h := ih f (i + 1) (n + 2 ^ (7 * i) * (x % 128)) (x / 128) (pre ++ [128 + (x : Int) % 128]) rest (by simp [hp]) hn2 (by omega) (by omega) hx2 (fun _ => by omega) (by rw [hv]; exact hb)
      rw [hv, show ((x / 128 : Nat) : Int) = (x : Int) / 128 by omega, List.append_assoc] at h
      exact h
    · rw [numB, if_neg q]
      exact last f i n x pre rest hp hn (by omega) (by omega) h0 hb
theorem rdNum_numB {x : Nat} (hx : x ≤ 9007199254740992) (rest : List Int) : rdNum (numB 8 (x : Int) ++ rest) 0 true = ((x : Int), rest, 0) := by
  rw [numB_less 7 x (by omega), rdNum_on rfl]
  have h := rdFrom_numB 7 8 0 0 x [] rest rfl (by decide) (by omega) (by omega) (by omega) (fun q => absurd q (by omega)) (by omega)
  rw [show (0 + 2 ^ (7 * 0) * x : Nat) = x by simp] at h
  exact h
theorem numB_small : ∀ (j : Nat) (c : Nat), c < 128 → numB j (c : Int) = [(c : Int)]
  | 0, c, h => rfl
  | j + 1, c, h => by rw [numB_eq, if_neg (by omega)]
/-- What is read was written. -/
theorem rdFrom_back : ∀ (f i n : Nat) (pre tl : List Int) (v : Int) (rest : List Int), pre.length = i → n < 2 ^ (7 * i) → f + i ≤ 8 → (∀ z ∈ tl, 0 ≤ z ∧ z < 256) → rdFrom (pre ++ tl) f i (n : Int) = (v, rest, 0) → ∃ x : Nat, v = ((n + 2 ^ (7 * i) * x : Nat) : Int) ∧ tl = numB (f - 1) (x : Int) ++ rest ∧ (0 < i → 0 < x) := by
  intro f
  induction f with
  | zero =>
    intro i n pre tl v rest _ _ _ _ h
    rw [rdFrom] at h
    injection h with _ h
    injection h with _ h
    cases h
  | succ f ih =>
    intro i n pre tl v rest hp hn hf hb h
    cases tl with
    | nil =>
      rw [rdFrom_end f i n (by simp [hp])] at h
      injection h with _ h
      injection h with _ h
      cases h
    | cons z tl =>
      have hz := hb z (by simp)
      obtain ⟨c, rfl⟩ := Int.eq_ofNat_of_zero_le hz.1
      have hl : i < (pre ++ ((c : Int) :: tl)).length := by simp; omega
      have hr : rd (pre ++ ((c : Int) :: tl)) (i : Int) = (c : Int) := by
        unfold rd
        rw [Int.toNat_natCast]
        subst hp
        simp
      have hd : (pre ++ ((c : Int) :: tl)).drop (i + 1) = tl := by
        subst hp
        rw [List.drop_length_add_append]
        rfl
      rw [rdFrom_step f i (by omega) hn hl hr (by omega), hd] at h
      by_cases q1 : n + 2 ^ (7 * i) * (c % 128) > 9007199254740992 ∨ 0 < i ∧ c = 0
      · rw [if_pos q1] at h
        injection h with _ h
        injection h with _ h
        cases h
      · rw [if_neg q1] at h
        by_cases q2 : c < 128
        · rw [if_pos q2] at h
          injection h with h1 h
          injection h with h2 _
          subst h1 h2
          refine ⟨c, by rw [Nat.mod_eq_of_lt q2], ?_, fun h0 => ?_⟩
          · rw [show f + 1 - 1 = f by omega, numB_small f c q2]
            rfl
          · have : ¬ (0 < i ∧ c = 0) := fun z => q1 (.inr z)
            omega
        · rw [if_neg q2] at h
          have hn2 := next7 (c := c) hn
          have e1 : pre ++ ((c : Int) :: tl) = (pre ++ [(c : Int)]) ++ tl := by simp
          rw [e1] at h
          obtain ⟨x, hx1, hx2, hx3⟩ := ih (i + 1) _ (pre ++ [(c : Int)]) tl v rest (by simp [hp]) hn2 (by omega) (fun y hy => hb y (by simp [hy])) h
          have hx0 := hx3 (by omega)
          refine ⟨c % 128 + 128 * x, ?_, ?_, fun _ => by omega⟩
          · rw [hx1]
            have e : 2 ^ (7 * (i + 1)) = 2 ^ (7 * i) * 128 := by rw [show 7 * (i + 1) = 7 * i + 7 by omega, Nat.pow_add]
            rw [e, Nat.mul_add, Nat.mul_assoc, Nat.add_assoc]
          · cases f with
            | zero =>
              rw [rdFrom] at h
              injection h with _ h
              injection h with _ h
              cases h
            | succ f =>
              have e2 : (128 + ((c % 128 + 128 * x : Nat) : Int) % 128) = (c : Int) := by omega
              have e3 : ((c % 128 + 128 * x : Nat) : Int) / 128 = (x : Int) := by omega
              rw [show f + 1 + 1 - 1 = f + 1 by omega, numB_eq, if_pos (by omega), e2, e3, hx2, show f + 1 - 1 = f by omega]
              rfl
theorem rdNum_back {l : List Int} (hl : ∀ z ∈ l, 0 ≤ z ∧ z < 256) {v : Int} {rest : List Int} (h : rdNum l 0 true = (v, rest, 0)) : numB 8 v ++ rest = l := by
  have hn := rdNum_nn l 0 true
  rw [h] at hn
  rw [rdNum_on rfl] at h
  obtain ⟨x, hx1, hx2, _⟩ := rdFrom_back 8 0 0 [] l v rest rfl (by decide) (by omega) hl h
  have hv : v = (x : Int) := by rw [hx1]; simp
  rw [hv] at hn ⊢
  dsimp only at hn
  rw [numB_less 7 x (by omega), hx2]
theorem rdUpto_numB {x : Nat} (hx : x ≤ 9007199254740992) (rest : List Int) {most : Int} (h : (x : Int) ≤ most) : rdUpto (numB 8 (x : Int) ++ rest) 0 true most = ((x : Int), rest, 0) := by
  have e := rdNum_numB hx rest
  rw [rdUpto_neg (by rw [e]; dsimp only; omega), e]
/-- A text that was written is read. -/
theorem rdText_numB {bs : List Int} (hx : bs.length ≤ 9007199254740992) {most : Int} (h : (bs.length : Int) ≤ most) : rdText (numB 8 ((bs.length : Nat) : Int) ++ bs) 0 true most = (bs, [], 0) := by
  have e := rdUpto_numB hx bs h
  rw [rdText_on (by rw [e]; rfl) (by rw [e]; dsimp only; omega), e]
  simp
/-- The numbers of a row that may be written, one behind the other. -/
def wcat : List Int → List Int
  | [] => []
  | z :: l => (if 0 ≤ z ∧ z ≤ 9007199254740992 then numB 8 z else []) ++ wcat l
theorem wcat_len : ∀ l : List Int, (wcat l).length ≤ 9 * l.length
  | [] => by simp [wcat]
  | z :: l => by
    have h := wcat_len l
    have h2 := numB_len 8 z
    rw [wcat, List.length_append, List.length_cons]
    split
    · omega
    · simp
      omega
theorem wcat_yes {z : Int} (h : 0 ≤ z ∧ z ≤ 9007199254740992) (l rest : List Int) : rdNum (wcat (z :: l) ++ rest) 0 true = (z, wcat l ++ rest, 0) := by
  obtain ⟨x, rfl⟩ := Int.eq_ofNat_of_zero_le h.1
  rw [wcat, if_pos h, List.append_assoc]
  exact rdNum_numB (by omega) _
theorem wcat_no {z : Int} (h : ¬ (0 ≤ z ∧ z ≤ 9007199254740992)) (l : List Int) : wcat (z :: l) = wcat l := by
  rw [wcat, if_neg h]
  rfl
theorem wcat_take (l : List Int) (i : Nat) (hi : i < l.length) : wcat (l.take (i + 1)) = wcat (l.take i) ++ (if 0 ≤ l[i] ∧ l[i] ≤ 9007199254740992 then numB 8 l[i] else []) := by
  have app : ∀ x y : List Int, wcat (x ++ y) = wcat x ++ wcat y := by
    intro x
    induction x with
    | nil => intro y; rfl
    | cons a x ih => intro y; rw [List.cons_append, wcat, wcat, ih, List.append_assoc]
  rw [List.take_succ_eq_append_getElem hi, app]
  congr 1
  rw [wcat, wcat, List.append_nil]

/-- What wire.Num writes of any number. -/
def wB (n : Int) : List Int := if 0 ≤ n ∧ n ≤ 9007199254740992 then numB 8 n else []
def wE (n : Int) : Int := if 0 ≤ n ∧ n ≤ 9007199254740992 then 0 else 1
def wT (s : ByteArray) : List Int := numB 8 s.size ++ bytesOf s
theorem wB_f (n : Int) : wire_Num.f 100 n = some (wB n, wE n) := by
  unfold wB wE
  by_cases h : 0 ≤ n ∧ n ≤ 9007199254740992
  · rw [if_pos h, if_pos h]
    exact wnum_yes h.1 h.2 90
  · rw [if_neg h, if_neg h]
    exact wnum_no (by omega) 99
theorem wT_f (s : ByteArray) (h : s.size ≤ 500) : wire_Text.f 100 s = some (wT s, 0) := wtext_yes s (by omega) 90
theorem wB_len (n : Int) : (wB n).length ≤ 9 := by
  unfold wB
  split
  · exact numB_len 8 n
  · simp
theorem wT_len (s : ByteArray) (h : s.size ≤ 500) : (wT s).length ≤ 509 := by
  unfold wT
  have := numB_len 8 s.size
  have e : (bytesOf s).length = s.size := by simp [bytesOf]
  rw [List.length_append, e]
  omega
theorem ok_on {e : Int} (h : e = 0) : rdOk e true = true := by subst h; rfl
theorem ok_off {e : Int} (h : e ≠ 0) : rdOk e true = false := by
  unfold rdOk
  simp [h]
theorem zero_row4 (z : Int) (a : Int) (f : Bool) (s : ByteArray) (n : Int) : (if z = 0 then #[Value.int .i64 a, .bool f, .string s, .int .i64 n] else #[.int .i64 0, .bool false, .string ⟨#[]⟩, .int .i64 0]) = #[.int .i64 (if z = 0 then a else 0), .bool (if z = 0 then f else false), .string (if z = 0 then s else ⟨#[]⟩), .int .i64 (if z = 0 then n else 0)] := by
  by_cases h : z = 0
  · simp only [if_pos h]
  · simp only [if_neg h]
section
end
theorem str_bytes (s : ByteArray) : strOfNums (bytesOf s) = s := by
  obtain ⟨⟨d⟩⟩ := s
  simp [strOfNums, bytesOf]
  exact (List.map_congr_left (g := id) (fun b _ => by simp)).trans (List.map_id d)
theorem bytes_str {l : List Int} (h : ∀ z ∈ l, 0 ≤ z ∧ z < 256) : bytesOf (strOfNums l) = l := by
  unfold bytesOf strOfNums
  simp only [List.map_map]
  conv => rhs; rw [← List.map_id l]
  refine List.map_congr_left fun z hz => ?_
  obtain ⟨h0, h1⟩ := h z hz
  simp
  omega
theorem str_size' (l : List Int) : (strOfNums l).size = l.length := by simp [strOfNums, ByteArray.size]
theorem rdText_rest {bs rest : List Int} (h : bs.length ≤ 32) : rdText (numB 8 ((bs.length : Nat) : Int) ++ (bs ++ rest)) 0 true 32 = (bs, rest, 0) := by
  have e := rdUpto_numB (x := bs.length) (by omega) (bs ++ rest) (most := 32) (by omega)
  rw [rdText_on (by rw [e]; rfl) (by rw [e]; dsimp only; rw [List.length_append]; omega), e]
  simp
theorem rdText_T {s : ByteArray} (rest : List Int) (h : s.size ≤ 32) : rdText (wT s ++ rest) 0 true 32 = (bytesOf s, rest, 0) := by
  have := rdText_rest (bs := bytesOf s) (rest := rest) (by rw [bytesOf_length]; exact h)
  rw [bytesOf_length] at this
  unfold wT
  rw [List.append_assoc]
  exact this
theorem rdNum_B {n : Int} (rest : List Int) (h : 0 ≤ n ∧ n ≤ 9007199254740992) : rdNum (wB n ++ rest) 0 true = (n, rest, 0) := by
  obtain ⟨x, rfl⟩ := Int.eq_ofNat_of_zero_le h.1
  unfold wB
  rw [if_pos h]
  exact rdNum_numB (by omega) rest
theorem rdNum_bad {l : List Int} {e v : Int} {l' : List Int} (h : rdNum l e true = (v, l', 0)) : e = 0 := by
  by_cases q : e = 0
  · exact q
  · rw [rdNum_off (ok_off q)] at h
    simp only [Prod.mk.injEq] at h
    exact h.2.2
theorem rdUpto_zero {l : List Int} {e most v : Int} {l' : List Int} (h : rdUpto l e true most = (v, l', 0)) : rdNum l e true = (v, l', 0) ∧ v ≤ most := by
  by_cases c : (rdNum l e true).1 > most
  · rw [rdUpto_pos c] at h
    simp only [Prod.mk.injEq] at h
    obtain ⟨_, _, h3⟩ := h
    exfalso
    by_cases q : (rdNum l e true).2.2 = 0
    · rw [ok_on q, if_pos rfl] at h3
      cases h3
    · rw [ok_off q, if_neg (by simp)] at h3
      exact q h3
  · rw [rdUpto_neg c] at h
    rw [h] at c
    exact ⟨h, Int.not_lt.mp c⟩
theorem rdText_zero {l : List Int} {e most : Int} {v l' : List Int} (h : rdText l e true most = (v, l', 0)) : e = 0 ∧ rdNum l e true = ((v.length : Int), v ++ l', 0) ∧ (v.length : Int) ≤ most := by
  obtain ⟨⟨n, m, e1⟩, hu⟩ : ∃ x, rdUpto l e true most = x := ⟨_, rfl⟩
  have hnn := rdUpto_nn l e true most
  rw [hu] at hnn
  by_cases q : e1 = 0
  · subst q
    by_cases c : n > (m.length : Int)
    · rw [rdText_end (by rw [hu]; rfl) (by rw [hu]; exact c)] at h
      simp only [Prod.mk.injEq] at h
      exact absurd h.2.2 (by decide)
    · rw [rdText_on (by rw [hu]; rfl) (by rw [hu]; exact c), hu] at h
      simp only [Prod.mk.injEq] at h
      obtain ⟨rfl, rfl, _⟩ := h
      obtain ⟨h1, h2⟩ := rdUpto_zero hu
      dsimp only at hnn
      have hl : (m.take n.toNat).length = n.toNat := by rw [List.length_take]; omega
      have hn : ((n.toNat : Nat) : Int) = n := by omega
      rw [hl, hn, List.take_append_drop]
      exact ⟨rdNum_bad h1, h1, h2⟩
  · rw [rdText_off (by rw [hu]; exact ok_off q), hu] at h
    simp only [Prod.mk.injEq] at h
    exact absurd h.2.2 q
theorem num_back {l : List Int} (hl : ∀ z ∈ l, 0 ≤ z ∧ z < 256) {v : Int} {rest : List Int} (h : rdNum l 0 true = (v, rest, 0)) : l = wB v ++ rest ∧ (∀ z ∈ rest, 0 ≤ z ∧ z < 256) := by
  have hn := rdNum_nn l 0 true
  rw [h] at hn
  dsimp only at hn
  have e := rdNum_back hl h
  have e2 : l = wB v ++ rest := by unfold wB; rw [if_pos hn]; exact e.symm
  exact ⟨e2, fun z hz => hl z (by rw [e2]; exact List.mem_append_right _ hz)⟩
theorem text_back {l : List Int} (hl : ∀ z ∈ l, 0 ≤ z ∧ z < 256) {v rest : List Int} (h : rdText l 0 true 32 = (v, rest, 0)) : l = wT (strOfNums v) ++ rest ∧ (∀ z ∈ rest, 0 ≤ z ∧ z < 256) := by
  obtain ⟨_, h1, h2⟩ := rdText_zero h
  have e := rdNum_back hl h1
  have hv : ∀ z ∈ v, 0 ≤ z ∧ z < 256 := fun z hz => hl z (by rw [← e]; simp [hz])
  have e2 : l = wT (strOfNums v) ++ rest := by
    unfold wT
    rw [str_size', bytes_str hv, List.append_assoc]
    exact e.symm
  exact ⟨e2, fun z hz => hl z (by rw [e2]; exact List.mem_append_right _ hz)⟩
theorem tkE_zero {r : Bool} {e : Int} (h : tkE r e = 0) : r = true ∧ e = 0 := by
  unfold tkE at h
  cases r
  · exfalso
    by_cases q : e = 0
    · rw [if_neg (by simp), if_pos q] at h
      cases h
    · rw [if_neg (by simp), if_neg q] at h
      exact q h
  · exact ⟨rfl, h⟩
theorem text_le (l : List Int) (e : Int) : (rdText l e true 32).1.length ≤ 32 := by
  have hnn := rdUpto_nn l e true 32
  have hle : (rdUpto l e true 32).1 ≤ 32 := by
    by_cases c : (rdNum l e true).1 > 32
    · rw [rdUpto_pos c]
      exact (by decide : (0 : Int) ≤ 32)
    · rw [rdUpto_neg c]
      omega
  by_cases q : (rdUpto l e true 32).2.2 = 0
  · by_cases c : (rdUpto l e true 32).1 > ((rdUpto l e true 32).2.1.length : Int)
    · rw [rdText_end (ok_on q) c]
      simp
    · rw [rdText_on (ok_on q) c]
      dsimp only
      rw [List.length_take]
      omega
  · rw [rdText_off (ok_off q)]
    simp

theorem back_ans (e : Int) (f : Bool) (v : ByteArray) (n : Int) (h : 0 ≤ e ∧ e ≤ 255 ∧ (v.size : Int) ≤ 32 ∧ 0 ≤ n ∧ n ≤ 1099511627776) (rest : List Int) : ∃ l1 l2 l3, rdNum (([e, pbit f] : List Int).flatMap wB ++ ([v] : List ByteArray).flatMap wT ++ ([n] : List Int).flatMap wB ++ rest) 0 true = (e, l1, 0) ∧ rdNum l1 0 true = (pbit f, l2, 0) ∧ rdText l2 0 true 32 = (bytesOf v, l3, 0) ∧ rdNum l3 0 true = (n, rest, 0) := by
  refine ⟨wB (pbit f) ++ (wT v ++ (wB n ++ rest)), wT v ++ (wB n ++ rest), wB n ++ rest, ?_, rdNum_B _ (by cases f <;> decide), rdText_T _ (by omega), rdNum_B _ (by omega)⟩
  have := rdNum_B (n := e) (wB (pbit f) ++ (wT v ++ (wB n ++ rest))) (by omega)
  simpa using this
/-- Rounds without end. -/
theorem rounds {σ ρ : Type} (P : σ → Prop) (step : σ → ρ → σ → Prop) (h : ∀ s, P s → ∃ r s', step s r s' ∧ P s') (s0 : σ) (h0 : P s0) : ∃ (S : Nat → σ) (R : Nat → ρ), S 0 = s0 ∧ ∀ i, step (S i) (R i) (S (i + 1)) ∧ P (S i) := by
  have hc : ∀ s : {s // P s}, ∃ x : ρ × {s // P s}, step s.1 x.1 x.2.1 := fun s => by
    obtain ⟨r, s', h1, h2⟩ := h s.1 s.2
    exact ⟨(r, ⟨s', h2⟩), h1⟩
  let nx : {s // P s} → ρ × {s // P s} := fun s => (hc s).choose
  have hn : ∀ s, step s.1 (nx s).1 (nx s).2.1 := fun s => (hc s).choose_spec
  let S : Nat → {s // P s} := fun n => Nat.rec ⟨s0, h0⟩ (fun _ s => (nx s).2) n
  exact ⟨fun n => (S n).1, fun n => (nx (S n)).1, rfl, fun i => ⟨hn (S i), (S i).2⟩⟩
/-- An answer's bytes. -/
def wA (r : SRow) : List Int := ([r.e, pbit r.f] : List Int).flatMap wB ++ ([r.v] : List ByteArray).flatMap wT ++ ([r.n] : List Int).flatMap wB
def rowB (r : SRow) : List Int := wB r.q ++ (if 0 < r.q then wA r else [])
def tlB (R : Nat → SRow) : Nat → Nat → List Int
  | 0, _ => []
  | m + 1, i => rowB (R i) ++ tlB R m (i + 1)
/-- The bytes of a table. -/
def tabB (R : Nat → SRow) : List Int := putTo R (fun i => wB (R i).q) (fun i => wA (R i)) 8
theorem putTo_row (R : Nat → SRow) (j : Nat) : putTo R (fun i => wB (R i).q) (fun i => wA (R i)) (j + 1) = putTo R (fun i => wB (R i).q) (fun i => wA (R i)) j ++ rowB (R j) := by
  show putTo R (fun i => wB (R i).q) (fun i => wA (R i)) j ++ wB (R j).q ++ (if 0 < (R j).q then wA (R j) else []) = _
  unfold rowB
  rw [List.append_assoc]
theorem tabB_tl (R : Nat → SRow) : tabB R = tlB R 8 0 := by
  unfold tabB
  rw [putTo_row, putTo_row, putTo_row, putTo_row, putTo_row, putTo_row, putTo_row, putTo_row]
  simp only [putTo, tlB, List.nil_append, List.append_nil, List.append_assoc]
theorem wA_len {r : SRow} (h : RightP r.e r.f r.v r.n) : (wA r).length ≤ 1000 := by
  obtain ⟨_, _, h3, _⟩ := h
  have l1 := wB_len r.e
  have l2 := wB_len (pbit r.f)
  have l3 := wT_len r.v (by omega)
  have l4 := wB_len r.n
  unfold wA
  simp only [List.length_append, List.flatMap_cons, List.flatMap_nil, List.length_nil]
  omega
theorem row_len {r : SRow} (h : GoodRow r) : (rowB r).length ≤ 1009 := by
  have l1 := wB_len r.q
  unfold rowB
  rw [List.length_append]
  rcases h with rfl | h
  · rw [if_neg (by decide)]
    simp only [List.length_nil]
    omega
  · have := wA_len h.2.2
    split
    · omega
    · simp only [List.length_nil]; omega
theorem putTo_len {R : Nat → SRow} (h : ∀ i, i < 8 → GoodRow (R i)) : ∀ j, j ≤ 8 → (putTo R (fun i => wB (R i).q) (fun i => wA (R i)) j).length ≤ 1009 * j
  | 0, _ => by simp [putTo]
  | j + 1, hj => by
    have := putTo_len h j (by omega)
    have := row_len (h j (by omega))
    rw [putTo_row, List.length_append]
    omega
theorem tabB_len {R : Nat → SRow} (h : ∀ i, i < 8 → GoodRow (R i)) : (tabB R).length ≤ 8072 := putTo_len h 8 (by omega)
theorem row_back {r : SRow} (h : GoodRow r) (rest : List Int) : TStep 100 (rowB r ++ rest) 0 r rest 0 := by
  rcases h with rfl | ⟨hq1, hq2, hr⟩
  · have e := rdUpto_numB (x := 0) (by omega) rest (most := 1099511627776) (by decide)
    exact ⟨0, rest, 0, e, rfl, .inl ⟨rfl, rfl, rfl, rfl⟩⟩
  · obtain ⟨re, rf, rv, rn, rq⟩ := r
    dsimp only at hq1 hq2 hr
    obtain ⟨x, rfl⟩ := Int.eq_ofNat_of_zero_le (show 0 ≤ rq by omega)
    have hw : wB (x : Int) = numB 8 (x : Int) := if_pos ⟨by omega, by omega⟩
    have e := rdUpto_numB (x := x) (by omega) (wA ⟨re, rf, rv, rn, (x : Int)⟩ ++ rest) (most := 1099511627776) (by omega)
    have hrow : rowB ⟨re, rf, rv, rn, (x : Int)⟩ ++ rest = numB 8 (x : Int) ++ (wA ⟨re, rf, rv, rn, (x : Int)⟩ ++ rest) := by
      unfold rowB
      rw [if_pos (show (0 : Int) < (x : Int) by omega), List.append_assoc]
      dsimp only
      rw [hw]
    rw [hrow]
    obtain ⟨l1, l2, l3, k1, k2, k3, k4⟩ := back_ans re rf rv rn ⟨hr.1, hr.2.1, hr.2.2.1, hr.2.2.2.1, hr.2.2.2.2.1⟩ rest
    have hf : (pbit rf == 1) = rf := by cases rf <;> rfl
    have hd : decide (pbit rf ≤ 1) = true := by cases rf <;> rfl
    refine ⟨(x : Int), wA ⟨re, rf, rv, rn, (x : Int)⟩ ++ rest, 0, e, rfl, .inr ⟨by omega, re, l1, 0, pbit rf, l2, 0, bytesOf rv, l3, 0, rn, 0, true, k1, k2, k3, k4, ?_, ?_, ?_⟩⟩
    · rw [hf, str_bytes]
      exact (right_yes hr).1
    · rw [hd]; rfl
    · rw [hd, hf, str_bytes]; rfl
/-- A table's bytes, taken. -/
theorem tab_back {R : Nat → SRow} (h : ∀ i, i < 8 → GoodRow (R i)) : ∃ L : Nat → List Int, L 0 = tabB R ∧ L 8 = [] ∧ ∀ i, i < 8 → TStep 100 (L i) 0 (R i) (L (i + 1)) 0 := by
  refine ⟨fun i => tlB R (8 - i) i, (tabB_tl R).symm, rfl, fun i hi => ?_⟩
  obtain ⟨m, hm⟩ : ∃ m, 8 - i = m + 1 := ⟨7 - i, by omega⟩
  have h2 : 8 - (i + 1) = m := by omega
  simp only [hm, h2]
  exact row_back (h i hi) _
theorem row_taken {l : List Int} (hl : ∀ z ∈ l, 0 ≤ z ∧ z < 256) {e : Int} {r : SRow} {l' : List Int} (h : TStep 100 l e r l' 0) : e = 0 ∧ l = rowB r ++ l' ∧ (∀ z ∈ l', 0 ≤ z ∧ z < 256) ∧ GoodRow r := by
  obtain ⟨q, la, ea, k, hq, ⟨rfl, rfl, rfl, rfl⟩ | ⟨hpos, ae, l0, e0, fo, l1, e1, av, l2, e2, an, e3, rr, k0, k1, k2, k3, hr, he, hrow⟩⟩ := h
  · obtain ⟨h1, _⟩ := rdUpto_zero k
    obtain rfl := rdNum_bad h1
    obtain ⟨g1, g2⟩ := num_back hl h1
    refine ⟨rfl, ?_, g2, .inl rfl⟩
    rw [g1]
    show _ = (wB 0 ++ (if (0 : Int) < 0 then _ else [])) ++ _
    rw [if_neg (by decide), List.append_nil]
  · obtain ⟨hb, rfl⟩ := tkE_zero he.symm
    obtain ⟨hb1, rfl⟩ := (Bool.and_eq_true _ _).mp hb
    have hfo : fo ≤ 1 := of_decide_eq_true hb1
    have hn := (rdNum_nn l0 e0 true).1
    rw [k1] at hn
    dsimp only at hn
    obtain rfl := rdNum_bad k3
    obtain rfl := (rdText_zero k2).1
    obtain rfl := rdNum_bad k1
    obtain rfl := rdNum_bad k0
    obtain ⟨u1, u2⟩ := rdUpto_zero k
    obtain rfl := rdNum_bad u1
    obtain ⟨g0, b0⟩ := num_back hl u1
    obtain ⟨g1, b1⟩ := num_back b0 k0
    obtain ⟨g2, b2⟩ := num_back b1 k1
    obtain ⟨g3, b3⟩ := text_back b2 k2
    obtain ⟨g4, b4⟩ := num_back b3 k3
    rw [if_pos he.symm] at hrow
    obtain ⟨re, rf, rv, rn, rq⟩ := r
    dsimp only at hrow hq
    subst hq
    simp only [Array.mk.injEq, List.cons.injEq, Value.int.injEq, Value.bool.injEq, Value.string.injEq, true_and, and_true] at hrow
    obtain ⟨rfl, rfl, rfl, rfl⟩ := hrow
    have hpb : pbit (fo == 1) = fo := by
      rcases (show fo = 0 ∨ fo = 1 by omega) with rfl | rfl <;> rfl
    obtain ⟨bb, r1, r2⟩ := right_both ae (fo == 1) (strOfNums av) an
    rw [hr] at r1
    obtain rfl := Option.some.inj r1
    have hrp := right_P r2
    refine ⟨rfl, ?_, b4, .inr ⟨by show 1 ≤ rq; omega, u2, hrp⟩⟩
    unfold rowB wA
    dsimp only
    rw [if_pos hpos, hpb, g0, g1, g2, g3, g4]
    simp
/-- What was taken whole. -/
theorem tab_taken {L : Nat → List Int} {E : Nat → Int} {R : Nat → SRow} (hst : ∀ i, TStep 100 (L i) (E i) (R i) (L (i + 1)) (E (i + 1))) (hl : ∀ z ∈ L 0, 0 ≤ z ∧ z < 256) (h : E 8 = 0) : (∀ i, i < 8 → GoodRow (R i)) ∧ L 0 = tabB R ++ L 8 := by
  have hE : ∀ m, m ≤ 8 → E (8 - m) = 0 := by
    intro m
    induction m with
    | zero => intro _; exact h
    | succ m ih =>
      intro hm
      have h1 := ih (by omega)
      have h2 := hst (8 - (m + 1))
      rw [show 8 - (m + 1) + 1 = 8 - m by omega, h1] at h2
      obtain ⟨q, la, ea, k, hq, ⟨_, _, _, q4⟩ | ⟨hpos, ae, l0, e0, fo, l1, e1, av, l2, e2, an, e3, rr, k0, k1, k2, k3, hr, he, hrow⟩⟩ := h2
      · subst q4
        exact rdNum_bad (rdUpto_zero k).1
      · obtain ⟨hb, rfl⟩ := tkE_zero he.symm
        obtain rfl := rdNum_bad k3
        obtain rfl := (rdText_zero k2).1
        obtain rfl := rdNum_bad k1
        obtain rfl := rdNum_bad k0
        exact rdNum_bad (rdUpto_zero k).1
  have hE2 : ∀ i, i ≤ 8 → E i = 0 := fun i hi => by
    have := hE (8 - i) (by omega)
    rwa [show 8 - (8 - i) = i by omega] at this
  have hall : ∀ i, i ≤ 8 → (∀ j, j < i → GoodRow (R j)) ∧ L 0 = putTo R (fun i => wB (R i).q) (fun i => wA (R i)) i ++ L i ∧ (∀ z ∈ L i, 0 ≤ z ∧ z < 256) := by
    intro i
    induction i with
    | zero => intro _; exact ⟨fun j hj => absurd hj (by omega), rfl, hl⟩
    | succ i ih =>
      intro hi
      obtain ⟨g, e, b⟩ := ih (by omega)
      have h2 := hst i
      rw [hE2 (i + 1) (by omega)] at h2
      obtain ⟨_, t1, t2, t3⟩ := row_taken b h2
      refine ⟨fun j hj => ?_, ?_, t2⟩
      · by_cases c : j = i
        · subst c; exact t3
        · exact g j (by omega)
      · rw [e, t1, putTo_row, List.append_assoc]
  obtain ⟨g, e, _⟩ := hall 8 (by omega)
  exact ⟨g, e⟩
/-- The program's Take of any bytes. -/
theorem takes_any (l0 : List Int) : ∃ (L : Nat → List Int) (E : Nat → Int) (R : Nat → SRow), L 0 = l0 ∧ E 0 = 0 ∧ ∀ i, TStep 100 (L i) (E i) (R i) (L (i + 1)) (E (i + 1)) := by
  obtain ⟨S, R, h0, hs⟩ := rounds (σ := List Int × Int) (ρ := SRow) (fun _ => True) (fun s r s' => TStep 100 s.1 s.2 r s'.1 s'.2) (fun s _ => by
    obtain ⟨⟨q, la, ea⟩, k⟩ : ∃ x, rdUpto s.1 s.2 true 1099511627776 = x := ⟨_, rfl⟩
    have hnn := (rdUpto_nn s.1 s.2 true 1099511627776).1
    rw [k] at hnn
    dsimp only at hnn
    by_cases hq : 0 < q
    · obtain ⟨⟨ae, l1, e1⟩, k1⟩ : ∃ x, rdNum la ea true = x := ⟨_, rfl⟩
      obtain ⟨⟨fo, l2, e2⟩, k2⟩ : ∃ x, rdNum l1 e1 true = x := ⟨_, rfl⟩
      obtain ⟨⟨av, l3, e3⟩, k3⟩ : ∃ x, rdText l2 e2 true 32 = x := ⟨_, rfl⟩
      obtain ⟨⟨an, l4, e4⟩, k4⟩ : ∃ x, rdNum l3 e3 true = x := ⟨_, rfl⟩
      obtain ⟨r, r1, r2⟩ := right_both ae (fo == 1) (strOfNums av) an
      refine ⟨⟨if tkE (decide (fo ≤ 1) && r) e4 = 0 then ae else 0, if tkE (decide (fo ≤ 1) && r) e4 = 0 then (fo == 1) else false, if tkE (decide (fo ≤ 1) && r) e4 = 0 then strOfNums av else ⟨#[]⟩, if tkE (decide (fo ≤ 1) && r) e4 = 0 then an else 0, q⟩, (l4, tkE (decide (fo ≤ 1) && r) e4), ⟨q, la, ea, k, rfl, .inr ⟨hq, ae, l1, e1, fo, l2, e2, av, l3, e3, an, e4, r, k1, k2, k3, k4, r1, rfl, ?_⟩⟩, trivial⟩
      exact zero_row4 _ _ _ _ _
    · obtain rfl : q = 0 := by omega
      exact ⟨SRow.none, (la, ea), ⟨0, la, ea, k, rfl, .inl ⟨rfl, rfl, rfl, rfl⟩⟩, trivial⟩) (l0, 0) trivial
  exact ⟨fun n => (S n).1, fun n => (S n).2, R, by simp [h0], by simp [h0], fun i => (hs i).1⟩
end Go.Proofs.Ytlfnfgoocliecaa.PN
