/- What was put is taken as it was; what is taken is put as it was. -/
import Derived.Test.YtiglmgmkablpkaaPointBase
import Derived.Test.YtiglmgmkablpkaaPointPut
import Derived.Test.YtiglmgmkablpkaaPKx1
namespace Go.Proofs.Ytiglmgmkablpkaa.PK
open Go.RowKit Go.Proofs.YtiglmgmkablpkaaW.PrintWords Go.Proofs.YtiglmgmkablpkaaW.PrintLast Go.Proofs.YtiglmgmkablpkaaW.PrintMore
set_option linter.unusedVariables false
set_option linter.unusedSimpArgs false
theorem and_bytes : ∀ a : Nat, a < 256 → Go.bits .and .u8 (a : Int) 127 = ((a % 128 : Nat) : Int) ∧ Go.bits .and .u8 (a : Int) 128 = (if a < 128 then 0 else 128) := by decide +kernel
theorem and127 {c : Int} (h : 0 ≤ c ∧ c < 256) : Go.bits .and .u8 c 127 = c % 128 := by
  obtain ⟨a, rfl⟩ := Int.eq_ofNat_of_zero_le h.1
  rw [(and_bytes a (by omega)).1]
  omega
theorem and128 {c : Int} (h : 0 ≤ c ∧ c < 256) : Go.bits .and .u8 c 128 = 0 ↔ c < 128 := by
  obtain ⟨a, rfl⟩ := Int.eq_ofNat_of_zero_le h.1
  rw [(and_bytes a (by omega)).2]
  by_cases q : a < 128
  · rw [if_pos q]
    exact ⟨fun _ => by omega, fun _ => rfl⟩
  · rw [if_neg q]
    exact ⟨fun e => by omega, fun e => by omega⟩
theorem or_big {a b : Nat} (ha : a < 2 ^ 62) (hb : b < 2 ^ 62) : Go.bits .or .i64 (a : Int) (b : Int) = ((a ||| b : Nat) : Int) := by
  unfold Go.bits
  dsimp only
  have ha' : (BitVec.ofInt (IntKind.bits .i64) (a : Int)).toNat = a := by
    show ((a : Int) % (2 ^ 64 : Nat)).toNat = a
    omega
  have hb' : (BitVec.ofInt (IntKind.bits .i64) (b : Int)).toNat = b := by
    show ((b : Int) % (2 ^ 64 : Nat)).toNat = b
    omega
  rw [BitVec.toNat_or, ha', hb']
  have h := Nat.or_lt_two_pow (n := 62) (x := a) (y := b) ha hb
  generalize a ||| b = z at h
  rw [IntKind.wrap_i64]
  omega
theorem pow7 (i : Nat) (hi : i ≤ 7) : 2 ^ (7 * i) ≤ 562949953421312 ∧ 1 ≤ 2 ^ (7 * i) := by
  have : i = 0 ∨ i = 1 ∨ i = 2 ∨ i = 3 ∨ i = 4 ∨ i = 5 ∨ i = 6 ∨ i = 7 := by omega
  rcases this with rfl | rfl | rfl | rfl | rfl | rfl | rfl | rfl <;> decide
/-- A byte more: it is added. -/
theorem rdPut_add {n : Nat} {c : Nat} (hc : c < 256) (i : Nat) (hi : i ≤ 7) (hn : n < 2 ^ (7 * i)) : rdPut (n : Int) (c : Int) i = ((n + 2 ^ (7 * i) * (c % 128) : Nat) : Int) := by
  unfold rdPut
  have hp := pow7 i hi
  have h := Nat.two_pow_add_eq_or_of_lt (i := 7 * i) (b := n) hn (c % 128)
  rw [and127 (by omega), show (c : Int) % 128 = ((c % 128 : Nat) : Int) by omega]
  have hx : c % 128 < 128 := Nat.mod_lt _ (by decide)
  have e : ((c % 128 : Nat) : Int) * 2 ^ (7 * i) = ((2 ^ (7 * i) * (c % 128) : Nat) : Int) := by
    rw [Int.natCast_mul, Int.natCast_pow, Int.mul_comm]
    rfl
  rw [e]
  have hb : 2 ^ (7 * i) * (c % 128) ≤ 562949953421312 * 127 := Nat.mul_le_mul hp.1 (by omega)
  generalize 2 ^ (7 * i) * (c % 128) = y at h hb
  rw [show wrap64 (y : Int) = (y : Int) by unfold wrap64; omega, or_big (by omega) (by omega), Nat.or_comm, ← h, Nat.add_comm]
/-- One round of reading. -/
theorem rdFrom_step {l : List Int} (f i : Nat) {n : Nat} (hf : f + i ≤ 7) (hn : n < 2 ^ (7 * i)) {c : Nat} (hi : i < l.length) (hc : rd l i = (c : Int)) (hb : c < 256) :
    rdFrom l (f + 1) i (n : Int) = if n + 2 ^ (7 * i) * (c % 128) > 9007199254740992 ∨ 0 < i ∧ c = 0 then (0, l, 21) else if c < 128 then (((n + 2 ^ (7 * i) * (c % 128) : Nat) : Int), l.drop (i + 1), 0) else rdFrom l f (i + 1) ((n + 2 ^ (7 * i) * (c % 128) : Nat) : Int) := by
  rw [rdFrom, if_neg (by omega), hc, rdPut_add hb i (by omega) hn]
  generalize n + 2 ^ (7 * i) * (c % 128) = v
  by_cases q : v > 9007199254740992 ∨ 0 < i ∧ c = 0
  · rw [if_pos q, if_pos (q.imp (fun q => by omega) (fun q => ⟨q.1, by omega⟩))]
  · rw [if_neg q, if_neg (fun z => q (z.imp (fun z => by omega) (fun z => ⟨z.1, by omega⟩)))]
    by_cases q2 : c < 128
    · rw [if_pos q2, if_pos ((and128 (by omega)).mpr (by omega))]
    · rw [if_neg q2, if_neg (fun z => q2 (by have := (and128 (by omega)).mp z; omega))]
theorem rdFrom_end {l : List Int} (f i : Nat) (n : Int) (hi : l.length ≤ i) : rdFrom l (f + 1) i n = (0, l, 20) := by
  rw [rdFrom, if_pos hi]
theorem next7 {n c i : Nat} (hn : n < 2 ^ (7 * i)) : n + 2 ^ (7 * i) * (c % 128) < 2 ^ (7 * (i + 1)) := by
  have hx : c % 128 ≤ 127 := by omega
  have h1 : 2 ^ (7 * i) * (c % 128) ≤ 2 ^ (7 * i) * 127 := Nat.mul_le_mul_left _ hx
  have h2 : 2 ^ (7 * (i + 1)) = 2 ^ (7 * i) * 128 := by rw [show 7 * (i + 1) = 7 * i + 7 by omega, Nat.pow_add]
  rw [h2]
  generalize 2 ^ (7 * i) = p at *
  generalize p * (c % 128) = y at *
  omega
theorem numB_eq (j : Nat) (x : Int) : numB (j + 1) x = if x > 127 then (128 + x % 128) :: numB j (x / 128) else [x] := rfl
/-- One row less is enough. -/
theorem numB_less : ∀ (j x : Nat), x < 128 * 128 ^ j → numB (j + 1) (x : Int) = numB j (x : Int)
  | 0, x, h => by
    rw [numB_eq 0, if_neg (by omega)]
    rfl
  | j + 1, x, h => by
    have h2 : x / 128 < 128 * 128 ^ j := by
      rw [Nat.pow_succ] at h
      omega
    have ih := numB_less j (x / 128) h2
    have e : (x : Int) / 128 = ((x / 128 : Nat) : Int) := by omega
    rw [numB_eq (j + 1), numB_eq j (x : Int), e, ih]
/-- What was written is read. -/
theorem rdFrom_numB : ∀ (j f i n x : Nat) (pre rest : List Int), pre.length = i → n < 2 ^ (7 * i) → j + 1 ≤ f → f + i ≤ 8 → x < 128 * 128 ^ j → (0 < i → 0 < x) → n + 2 ^ (7 * i) * x ≤ 9007199254740992 → rdFrom (pre ++ (numB j (x : Int) ++ rest)) f i (n : Int) = (((n + 2 ^ (7 * i) * x : Nat) : Int), rest, 0) := by
  have last : ∀ (f i n x : Nat) (pre rest : List Int), pre.length = i → n < 2 ^ (7 * i) → f + 1 + i ≤ 8 → x < 128 → (0 < i → 0 < x) → n + 2 ^ (7 * i) * x ≤ 9007199254740992 → rdFrom (pre ++ ([(x : Int)] ++ rest)) (f + 1) i (n : Int) = (((n + 2 ^ (7 * i) * x : Nat) : Int), rest, 0) := by
    intro f i n x pre rest hp hn hf hx h0 hb
    have hr : rd (pre ++ ([(x : Int)] ++ rest)) (i : Int) = (x : Int) := by
      unfold rd
      rw [Int.toNat_natCast]
      subst hp
      simp
    have hl : i < (pre ++ ([(x : Int)] ++ rest)).length := by simp; omega
    have hd : (pre ++ ([(x : Int)] ++ rest)).drop (i + 1) = rest := by
      subst hp
      rw [List.drop_length_add_append]
      rfl
    rw [rdFrom_step f i (by omega) hn hl hr (by omega), Nat.mod_eq_of_lt hx, hd, if_neg (by omega), if_pos hx]
  intro j
  induction j with
  | zero =>
    intro f i n x pre rest hp hn hf hfi hx h0 hb
    obtain ⟨f, rfl⟩ : ∃ g, f = g + 1 := ⟨f - 1, by omega⟩
    exact last f i n x pre rest hp hn (by omega) (by simpa using hx) h0 hb
  | succ j ih =>
    intro f i n x pre rest hp hn hf hfi hx h0 hb
    obtain ⟨f, rfl⟩ : ∃ g, f = g + 1 := ⟨f - 1, by omega⟩
    by_cases q : (x : Int) > 127
    · have hdm : x = x % 128 + 128 * (x / 128) := by omega
      have hv : n + 2 ^ (7 * i) * (x % 128) + 2 ^ (7 * (i + 1)) * (x / 128) = n + 2 ^ (7 * i) * x := by
        have e : 2 ^ (7 * (i + 1)) = 2 ^ (7 * i) * 128 := by rw [show 7 * (i + 1) = 7 * i + 7 by omega, Nat.pow_add]
        have e2 : 2 ^ (7 * i) * x = 2 ^ (7 * i) * (x % 128) + 2 ^ (7 * i) * 128 * (x / 128) := by
          rw [Nat.mul_assoc, ← Nat.mul_add, ← hdm]
        rw [e, e2, Nat.add_assoc]
      have hr : rd (pre ++ (((128 + (x : Int) % 128) :: numB j ((x : Int) / 128)) ++ rest)) (i : Int) = ((128 + x % 128 : Nat) : Int) := by
        unfold rd
        rw [Int.toNat_natCast]
        subst hp
        simp
      have hl : i < (pre ++ (((128 + (x : Int) % 128) :: numB j ((x : Int) / 128)) ++ rest)).length := by simp; omega
      have hm : (128 + x % 128) % 128 = x % 128 := by omega
      have hn2 := next7 (c := x) hn
      rw [numB, if_pos q, rdFrom_step f i (by omega) hn hl hr (by omega), hm]
      have hle : n + 2 ^ (7 * i) * (x % 128) ≤ 9007199254740992 := Nat.le_trans (Nat.le_trans (Nat.le_add_right _ _) (Nat.le_of_eq hv)) hb
      rw [if_neg (by omega), if_neg (by omega)]
      have hx2 : x / 128 < 128 * 128 ^ j := by
        rw [Nat.pow_succ] at hx
        omega
      have h := ih f (i + 1) (n + 2 ^ (7 * i) * (x % 128)) (x / 128) (pre ++ [128 + (x : Int) % 128]) rest (by simp [hp]) hn2 (by omega) (by omega) hx2 (fun _ => by omega) (by rw [hv]; exact hb)
      rw [hv, show ((x / 128 : Nat) : Int) = (x : Int) / 128 by omega, List.append_assoc] at h
      exact h
    · rw [numB, if_neg q]
      exact last f i n x pre rest hp hn (by omega) (by omega) h0 hb
theorem rdNum_numB {x : Nat} (hx : x ≤ 9007199254740992) (rest : List Int) : rdNum (numB 8 (x : Int) ++ rest) 0 true = ((x : Int), rest, 0) := by
  rw [numB_less 7 x (by omega), rdNum_on rfl]
  have h := rdFrom_numB 7 8 0 0 x [] rest rfl (by decide) (by omega) (by omega) (by omega) (fun q => absurd q (by omega)) (by omega)
  rw [show (0 + 2 ^ (7 * 0) * x : Nat) = x by simp] at h
  exact h
theorem numB_small : ∀ (j : Nat) (c : Nat), c < 128 → numB j (c : Int) = [(c : Int)]
  | 0, c, h => rfl
  | j + 1, c, h => by rw [numB_eq, if_neg (by omega)]
/-- What is read was written. -/
theorem rdFrom_back : ∀ (f i n : Nat) (pre tl : List Int) (v : Int) (rest : List Int), pre.length = i → n < 2 ^ (7 * i) → f + i ≤ 8 → (∀ z ∈ tl, 0 ≤ z ∧ z < 256) → rdFrom (pre ++ tl) f i (n : Int) = (v, rest, 0) → ∃ x : Nat, v = ((n + 2 ^ (7 * i) * x : Nat) : Int) ∧ tl = numB (f - 1) (x : Int) ++ rest ∧ (0 < i → 0 < x) := by
  intro f
  induction f with
  | zero =>
    intro i n pre tl v rest _ _ _ _ h
    rw [rdFrom] at h
    injection h with _ h
    injection h with _ h
    cases h
  | succ f ih =>
    intro i n pre tl v rest hp hn hf hb h
    cases tl with
    | nil =>
      rw [rdFrom_end f i n (by simp [hp])] at h
      injection h with _ h
      injection h with _ h
      cases h
    | cons z tl =>
      have hz := hb z (by simp)
      obtain ⟨c, rfl⟩ := Int.eq_ofNat_of_zero_le hz.1
      have hl : i < (pre ++ ((c : Int) :: tl)).length := by simp; omega
      have hr : rd (pre ++ ((c : Int) :: tl)) (i : Int) = (c : Int) := by
        unfold rd
        rw [Int.toNat_natCast]
        subst hp
        simp
      have hd : (pre ++ ((c : Int) :: tl)).drop (i + 1) = tl := by
        subst hp
        rw [List.drop_length_add_append]
        rfl
      rw [rdFrom_step f i (by omega) hn hl hr (by omega), hd] at h
      by_cases q1 : n + 2 ^ (7 * i) * (c % 128) > 9007199254740992 ∨ 0 < i ∧ c = 0
      · rw [if_pos q1] at h
        injection h with _ h
        injection h with _ h
        cases h
      · rw [if_neg q1] at h
        by_cases q2 : c < 128
        · rw [if_pos q2] at h
          injection h with h1 h
          injection h with h2 _
          subst h1 h2
          refine ⟨c, by rw [Nat.mod_eq_of_lt q2], ?_, fun h0 => ?_⟩
          · rw [show f + 1 - 1 = f by omega, numB_small f c q2]
            rfl
          · have : ¬ (0 < i ∧ c = 0) := fun z => q1 (.inr z)
            omega
        · rw [if_neg q2] at h
          have hn2 := next7 (c := c) hn
          have e1 : pre ++ ((c : Int) :: tl) = (pre ++ [(c : Int)]) ++ tl := by simp
          rw [e1] at h
          obtain ⟨x, hx1, hx2, hx3⟩ := ih (i + 1) _ (pre ++ [(c : Int)]) tl v rest (by simp [hp]) hn2 (by omega) (fun y hy => hb y (by simp [hy])) h
          have hx0 := hx3 (by omega)
          refine ⟨c % 128 + 128 * x, ?_, ?_, fun _ => by omega⟩
          · rw [hx1]
            have e : 2 ^ (7 * (i + 1)) = 2 ^ (7 * i) * 128 := by rw [show 7 * (i + 1) = 7 * i + 7 by omega, Nat.pow_add]
            rw [e, Nat.mul_add, Nat.mul_assoc, Nat.add_assoc]
          · cases f with
            | zero =>
              rw [rdFrom] at h
              injection h with _ h
              injection h with _ h
              cases h
            | succ f =>
              have e2 : (128 + ((c % 128 + 128 * x : Nat) : Int) % 128) = (c : Int) := by omega
              have e3 : ((c % 128 + 128 * x : Nat) : Int) / 128 = (x : Int) := by omega
              rw [show f + 1 + 1 - 1 = f + 1 by omega, numB_eq, if_pos (by omega), e2, e3, hx2, show f + 1 - 1 = f by omega]
              rfl
theorem rdNum_back {l : List Int} (hl : ∀ z ∈ l, 0 ≤ z ∧ z < 256) {v : Int} {rest : List Int} (h : rdNum l 0 true = (v, rest, 0)) : numB 8 v ++ rest = l := by
  have hn := rdNum_nn l 0 true
  rw [h] at hn
  rw [rdNum_on rfl] at h
  obtain ⟨x, hx1, hx2, _⟩ := rdFrom_back 8 0 0 [] l v rest rfl (by decide) (by omega) hl h
  have hv : v = (x : Int) := by rw [hx1]; simp
  rw [hv] at hn ⊢
  dsimp only at hn
  rw [numB_less 7 x (by omega), hx2]
theorem rdUpto_numB {x : Nat} (hx : x ≤ 9007199254740992) (rest : List Int) {most : Int} (h : (x : Int) ≤ most) : rdUpto (numB 8 (x : Int) ++ rest) 0 true most = ((x : Int), rest, 0) := by
  have e := rdNum_numB hx rest
  rw [rdUpto_neg (by rw [e]; dsimp only; omega), e]
/-- A text that was written is read. -/
theorem rdText_numB {bs : List Int} (hx : bs.length ≤ 9007199254740992) {most : Int} (h : (bs.length : Int) ≤ most) : rdText (numB 8 ((bs.length : Nat) : Int) ++ bs) 0 true most = (bs, [], 0) := by
  have e := rdUpto_numB hx bs h
  rw [rdText_on (by rw [e]; rfl) (by rw [e]; dsimp only; omega), e]
  simp
/-- The numbers of a row that may be written, one behind the other. -/
def wcat : List Int → List Int
  | [] => []
  | z :: l => (if 0 ≤ z ∧ z ≤ 9007199254740992 then numB 8 z else []) ++ wcat l
theorem wcat_len : ∀ l : List Int, (wcat l).length ≤ 9 * l.length
  | [] => by simp [wcat]
  | z :: l => by
    have h := wcat_len l
    have h2 := numB_len 8 z
    rw [wcat, List.length_append, List.length_cons]
    split
    · omega
    · simp
      omega
theorem wcat_yes {z : Int} (h : 0 ≤ z ∧ z ≤ 9007199254740992) (l rest : List Int) : rdNum (wcat (z :: l) ++ rest) 0 true = (z, wcat l ++ rest, 0) := by
  obtain ⟨x, rfl⟩ := Int.eq_ofNat_of_zero_le h.1
  rw [wcat, if_pos h, List.append_assoc]
  exact rdNum_numB (by omega) _
theorem wcat_no {z : Int} (h : ¬ (0 ≤ z ∧ z ≤ 9007199254740992)) (l : List Int) : wcat (z :: l) = wcat l := by
  rw [wcat, if_neg h]
  rfl
theorem wcat_take (l : List Int) (i : Nat) (hi : i < l.length) : wcat (l.take (i + 1)) = wcat (l.take i) ++ (if 0 ≤ l[i] ∧ l[i] ≤ 9007199254740992 then numB 8 l[i] else []) := by
  have app : ∀ x y : List Int, wcat (x ++ y) = wcat x ++ wcat y := by
    intro x
    induction x with
    | nil => intro y; rfl
    | cons a x ih => intro y; rw [List.cons_append, wcat, wcat, ih, List.append_assoc]
  rw [List.take_succ_eq_append_getElem hi, app]
  congr 1
  rw [wcat, wcat, List.append_nil]
end Go.Proofs.Ytiglmgmkablpkaa.PK
namespace Go.Proofs.Ytiglmgmkablpkaa.PK
open Go.RowKit Go.Proofs.YtiglmgmkablpkaaW.PrintWords Go.Proofs.YtiglmgmkablpkaaW.PrintLast Go.Proofs.YtiglmgmkablpkaaW.PrintMore
set_option linter.unusedVariables false
set_option linter.unusedSimpArgs false
theorem ok_on {e : Int} (h : e = 0) : rdOk e true = true := by subst h; rfl
theorem ok_off {e : Int} (h : e ≠ 0) : rdOk e true = false := by
  unfold rdOk
  simp [h]
theorem zero_row5 (z : Int) (a b : Int) (s t : ByteArray) (n : Int) : (if z = 0 then #[Value.int .i64 a, .int .i64 b, .string s, .string t, .int .i64 n] else #[.int .i64 0, .int .i64 0, .string ⟨#[]⟩, .string ⟨#[]⟩, .int .i64 0]) = #[.int .i64 (if z = 0 then a else 0), .int .i64 (if z = 0 then b else 0), .string (if z = 0 then s else ⟨#[]⟩), .string (if z = 0 then t else ⟨#[]⟩), .int .i64 (if z = 0 then n else 0)] := by
  by_cases h : z = 0
  · simp only [if_pos h]
  · simp only [if_neg h]
theorem zero_row7 (z : Int) (c a b : Int) (s t : ByteArray) (m n : Int) : (if z = 0 then #[Value.int .i64 c, .int .i64 a, .int .i64 b, .string s, .string t, .int .i64 m, .int .i64 n] else #[.int .i64 0, .int .i64 0, .int .i64 0, .string ⟨#[]⟩, .string ⟨#[]⟩, .int .i64 0, .int .i64 0]) = #[.int .i64 (if z = 0 then c else 0), .int .i64 (if z = 0 then a else 0), .int .i64 (if z = 0 then b else 0), .string (if z = 0 then s else ⟨#[]⟩), .string (if z = 0 then t else ⟨#[]⟩), .int .i64 (if z = 0 then m else 0), .int .i64 (if z = 0 then n else 0)] := by
  by_cases h : z = 0
  · simp only [if_pos h]
  · simp only [if_neg h]
theorem chain_rec (l0 : List Int) : ∃ px l1 e1 py l2 e2 key l3 e3 val l4 e4 ver l5 e5 r, rdNum l0 0 true = (px, l1, e1) ∧ rdNum l1 e1 true = (py, l2, e2) ∧ rdText l2 e2 true 32 = (key, l3, e3) ∧ rdText l3 e3 true 32 = (val, l4, e4) ∧ rdNum l4 e4 true = (ver, l5, e5) ∧ point_RightRec.f 100 px py (strOfNums key) (strOfNums val) ver = some r := by
  obtain ⟨⟨px, l1, e1⟩, k1⟩ : ∃ x, rdNum l0 0 true = x := ⟨_, rfl⟩
  obtain ⟨⟨py, l2, e2⟩, k2⟩ : ∃ x, rdNum l1 e1 true = x := ⟨_, rfl⟩
  obtain ⟨⟨key, l3, e3⟩, k3⟩ : ∃ x, rdText l2 e2 true 32 = x := ⟨_, rfl⟩
  obtain ⟨⟨val, l4, e4⟩, k4⟩ : ∃ x, rdText l3 e3 true 32 = x := ⟨_, rfl⟩
  obtain ⟨⟨ver, l5, e5⟩, k5⟩ : ∃ x, rdNum l4 e4 true = x := ⟨_, rfl⟩
  obtain ⟨r, hr, _⟩ := right_rec px py (strOfNums key) (strOfNums val) ver
  exact ⟨px, l1, e1, py, l2, e2, key, l3, e3, val, l4, e4, ver, l5, e5, r, k1, k2, k3, k4, k5, hr⟩
theorem chain_op (l0 : List Int) : ∃ kd l1 e1 px l2 e2 py l3 e3 key l4 e4 val l5 e5 cli l6 e6 seq l7 e7 r, rdNum l0 0 true = (kd, l1, e1) ∧ rdNum l1 e1 true = (px, l2, e2) ∧ rdNum l2 e2 true = (py, l3, e3) ∧ rdText l3 e3 true 32 = (key, l4, e4) ∧ rdText l4 e4 true 32 = (val, l5, e5) ∧ rdNum l5 e5 true = (cli, l6, e6) ∧ rdNum l6 e6 true = (seq, l7, e7) ∧ point_RightOp.f 100 kd px py (strOfNums key) (strOfNums val) cli seq = some r := by
  obtain ⟨⟨kd, l1, e1⟩, k1⟩ : ∃ x, rdNum l0 0 true = x := ⟨_, rfl⟩
  obtain ⟨⟨px, l2, e2⟩, k2⟩ : ∃ x, rdNum l1 e1 true = x := ⟨_, rfl⟩
  obtain ⟨⟨py, l3, e3⟩, k3⟩ : ∃ x, rdNum l2 e2 true = x := ⟨_, rfl⟩
  obtain ⟨⟨key, l4, e4⟩, k4⟩ : ∃ x, rdText l3 e3 true 32 = x := ⟨_, rfl⟩
  obtain ⟨⟨val, l5, e5⟩, k5⟩ : ∃ x, rdText l4 e4 true 32 = x := ⟨_, rfl⟩
  obtain ⟨⟨cli, l6, e6⟩, k6⟩ : ∃ x, rdNum l5 e5 true = x := ⟨_, rfl⟩
  obtain ⟨⟨seq, l7, e7⟩, k7⟩ : ∃ x, rdNum l6 e6 true = x := ⟨_, rfl⟩
  obtain ⟨r, hr, _⟩ := right_op kd px py (strOfNums key) (strOfNums val) cli seq
  exact ⟨kd, l1, e1, px, l2, e2, py, l3, e3, key, l4, e4, val, l5, e5, cli, l6, e6, seq, l7, e7, r, k1, k2, k3, k4, k5, k6, k7, hr⟩
end Go.Proofs.Ytiglmgmkablpkaa.PK
namespace Go.Proofs.Ytiglmgmkablpkaa.PK
open Go.RowKit Go.Proofs.YtiglmgmkablpkaaW.PrintWords Go.Proofs.YtiglmgmkablpkaaW.PrintLast Go.Proofs.YtiglmgmkablpkaaW.PrintMore
set_option linter.unusedVariables false
set_option linter.unusedSimpArgs false
theorem str_bytes (s : ByteArray) : strOfNums (bytesOf s) = s := by
  obtain ⟨⟨d⟩⟩ := s
  simp [strOfNums, bytesOf]
  exact (List.map_congr_left (g := id) (fun b _ => by simp)).trans (List.map_id d)
theorem bytes_str {l : List Int} (h : ∀ z ∈ l, 0 ≤ z ∧ z < 256) : bytesOf (strOfNums l) = l := by
  unfold bytesOf strOfNums
  simp only [List.map_map]
  conv => rhs; rw [← List.map_id l]
  refine List.map_congr_left fun z hz => ?_
  obtain ⟨h0, h1⟩ := h z hz
  simp
  omega
theorem str_size' (l : List Int) : (strOfNums l).size = l.length := by simp [strOfNums, ByteArray.size]
theorem rdText_rest {bs rest : List Int} (h : bs.length ≤ 32) : rdText (numB 8 ((bs.length : Nat) : Int) ++ (bs ++ rest)) 0 true 32 = (bs, rest, 0) := by
  have e := rdUpto_numB (x := bs.length) (by omega) (bs ++ rest) (most := 32) (by omega)
  rw [rdText_on (by rw [e]; rfl) (by rw [e]; dsimp only; rw [List.length_append]; omega), e]
  simp
theorem rdText_T {s : ByteArray} (rest : List Int) (h : s.size ≤ 32) : rdText (wT s ++ rest) 0 true 32 = (bytesOf s, rest, 0) := by
  have := rdText_rest (bs := bytesOf s) (rest := rest) (by rw [bytesOf_length]; exact h)
  rw [bytesOf_length] at this
  unfold wT
  rw [List.append_assoc]
  exact this
theorem rdNum_B {n : Int} (rest : List Int) (h : 0 ≤ n ∧ n ≤ 9007199254740992) : rdNum (wB n ++ rest) 0 true = (n, rest, 0) := by
  obtain ⟨x, rfl⟩ := Int.eq_ofNat_of_zero_le h.1
  unfold wB
  rw [if_pos h]
  exact rdNum_numB (by omega) rest
theorem rdNum_bad {l : List Int} {e v : Int} {l' : List Int} (h : rdNum l e true = (v, l', 0)) : e = 0 := by
  by_cases q : e = 0
  · exact q
  · rw [rdNum_off (ok_off q)] at h
    simp only [Prod.mk.injEq] at h
    exact h.2.2
theorem rdUpto_zero {l : List Int} {e most v : Int} {l' : List Int} (h : rdUpto l e true most = (v, l', 0)) : rdNum l e true = (v, l', 0) ∧ v ≤ most := by
  by_cases c : (rdNum l e true).1 > most
  · rw [rdUpto_pos c] at h
    simp only [Prod.mk.injEq] at h
    obtain ⟨_, _, h3⟩ := h
    exfalso
    by_cases q : (rdNum l e true).2.2 = 0
    · rw [ok_on q, if_pos rfl] at h3
      cases h3
    · rw [ok_off q, if_neg (by simp)] at h3
      exact q h3
  · rw [rdUpto_neg c] at h
    rw [h] at c
    exact ⟨h, Int.not_lt.mp c⟩
theorem rdText_zero {l : List Int} {e most : Int} {v l' : List Int} (h : rdText l e true most = (v, l', 0)) : e = 0 ∧ rdNum l e true = ((v.length : Int), v ++ l', 0) ∧ (v.length : Int) ≤ most := by
  obtain ⟨⟨n, m, e1⟩, hu⟩ : ∃ x, rdUpto l e true most = x := ⟨_, rfl⟩
  have hnn := rdUpto_nn l e true most
  rw [hu] at hnn
  by_cases q : e1 = 0
  · subst q
    by_cases c : n > (m.length : Int)
    · rw [rdText_end (by rw [hu]; rfl) (by rw [hu]; exact c)] at h
      simp only [Prod.mk.injEq] at h
      exact absurd h.2.2 (by decide)
    · rw [rdText_on (by rw [hu]; rfl) (by rw [hu]; exact c), hu] at h
      simp only [Prod.mk.injEq] at h
      obtain ⟨rfl, rfl, _⟩ := h
      obtain ⟨h1, h2⟩ := rdUpto_zero hu
      dsimp only at hnn
      have hl : (m.take n.toNat).length = n.toNat := by rw [List.length_take]; omega
      have hn : ((n.toNat : Nat) : Int) = n := by omega
      rw [hl, hn, List.take_append_drop]
      exact ⟨rdNum_bad h1, h1, h2⟩
  · rw [rdText_off (by rw [hu]; exact ok_off q), hu] at h
    simp only [Prod.mk.injEq] at h
    exact absurd h.2.2 q
theorem num_back {l : List Int} (hl : ∀ z ∈ l, 0 ≤ z ∧ z < 256) {v : Int} {rest : List Int} (h : rdNum l 0 true = (v, rest, 0)) : l = wB v ++ rest ∧ (∀ z ∈ rest, 0 ≤ z ∧ z < 256) := by
  have hn := rdNum_nn l 0 true
  rw [h] at hn
  dsimp only at hn
  have e := rdNum_back hl h
  have e2 : l = wB v ++ rest := by unfold wB; rw [if_pos hn]; exact e.symm
  exact ⟨e2, fun z hz => hl z (by rw [e2]; exact List.mem_append_right _ hz)⟩
theorem text_back {l : List Int} (hl : ∀ z ∈ l, 0 ≤ z ∧ z < 256) {v rest : List Int} (h : rdText l 0 true 32 = (v, rest, 0)) : l = wT (strOfNums v) ++ rest ∧ (∀ z ∈ rest, 0 ≤ z ∧ z < 256) := by
  obtain ⟨_, h1, h2⟩ := rdText_zero h
  have e := rdNum_back hl h1
  have hv : ∀ z ∈ v, 0 ≤ z ∧ z < 256 := fun z hz => hl z (by rw [← e]; simp [hz])
  have e2 : l = wT (strOfNums v) ++ rest := by
    unfold wT
    rw [str_size', bytes_str hv, List.append_assoc]
    exact e.symm
  exact ⟨e2, fun z hz => hl z (by rw [e2]; exact List.mem_append_right _ hz)⟩
theorem tkE_zero {r : Bool} {e : Int} (h : tkE r e = 0) : r = true ∧ e = 0 := by
  unfold tkE at h
  cases r
  · exfalso
    by_cases q : e = 0
    · rw [if_neg (by simp), if_pos q] at h
      cases h
    · rw [if_neg (by simp), if_neg q] at h
      exact q h
  · exact ⟨rfl, h⟩
theorem text_le (l : List Int) (e : Int) : (rdText l e true 32).1.length ≤ 32 := by
  have hnn := rdUpto_nn l e true 32
  have hle : (rdUpto l e true 32).1 ≤ 32 := by
    by_cases c : (rdNum l e true).1 > 32
    · rw [rdUpto_pos c]
      exact (by decide : (0 : Int) ≤ 32)
    · rw [rdUpto_neg c]
      omega
  by_cases q : (rdUpto l e true 32).2.2 = 0
  · by_cases c : (rdUpto l e true 32).1 > ((rdUpto l e true 32).2.1.length : Int)
    · rw [rdText_end (ok_on q) c]
      simp
    · rw [rdText_on (ok_on q) c]
      dsimp only
      rw [List.length_take]
      omega
  · rw [rdText_off (ok_off q)]
    simp
theorem if_size (z : Int) {l v : List Int} {e e' : Int} {l' : List Int} (h : rdText l e true 32 = (v, l', e')) : (if z = 0 then strOfNums v else (⟨#[]⟩ : ByteArray)).size ≤ 500 := by
  have := text_le l e
  rw [h] at this
  dsimp only at this
  by_cases q : z = 0
  · rw [if_pos q, str_size']
    omega
  · rw [if_neg q]
    decide
/-- A record that was put, with anything behind it. -/
theorem back_rec (px py : Int) (key val : ByteArray) (ver : Int) (h : 0 ≤ px ∧ px ≤ 65535 ∧ 0 ≤ py ∧ py ≤ 65535 ∧ (key.size : Int) ≤ 16 ∧ (val.size : Int) ≤ 32 ∧ 1 ≤ ver ∧ ver ≤ 1099511627776) (rest : List Int) : ∃ l1 l2 l3 l4, rdNum (([px, py] : List Int).flatMap wB ++ ([key, val] : List ByteArray).flatMap wT ++ ([ver] : List Int).flatMap wB ++ rest) 0 true = (px, l1, 0) ∧ rdNum l1 0 true = (py, l2, 0) ∧ rdText l2 0 true 32 = (bytesOf key, l3, 0) ∧ rdText l3 0 true 32 = (bytesOf val, l4, 0) ∧ rdNum l4 0 true = (ver, rest, 0) := by
  refine ⟨wB py ++ (wT key ++ (wT val ++ (wB ver ++ rest))), wT key ++ (wT val ++ (wB ver ++ rest)), wT val ++ (wB ver ++ rest), wB ver ++ rest, ?_, rdNum_B _ (by omega), rdText_T _ (by omega), rdText_T _ (by omega), rdNum_B _ (by omega)⟩
  have := rdNum_B (n := px) (wB py ++ (wT key ++ (wT val ++ (wB ver ++ rest)))) (by omega)
  simpa using this
theorem back_op (kd px py : Int) (key val : ByteArray) (cli seq : Int) (h : 1 ≤ kd ∧ kd ≤ 3 ∧ 0 ≤ px ∧ px ≤ 65535 ∧ 0 ≤ py ∧ py ≤ 65535 ∧ (key.size : Int) ≤ 16 ∧ (val.size : Int) ≤ 32 ∧ 0 ≤ cli ∧ cli ≤ 7 ∧ 1 ≤ seq ∧ seq ≤ 1099511627776) (rest : List Int) : ∃ l0 l1 l2 l3 l4 l5, rdNum (([kd, px, py] : List Int).flatMap wB ++ ([key, val] : List ByteArray).flatMap wT ++ ([cli, seq] : List Int).flatMap wB ++ rest) 0 true = (kd, l0, 0) ∧ rdNum l0 0 true = (px, l1, 0) ∧ rdNum l1 0 true = (py, l2, 0) ∧ rdText l2 0 true 32 = (bytesOf key, l3, 0) ∧ rdText l3 0 true 32 = (bytesOf val, l4, 0) ∧ rdNum l4 0 true = (cli, l5, 0) ∧ rdNum l5 0 true = (seq, rest, 0) := by
  refine ⟨wB px ++ (wB py ++ (wT key ++ (wT val ++ (wB cli ++ (wB seq ++ rest))))), wB py ++ (wT key ++ (wT val ++ (wB cli ++ (wB seq ++ rest)))), wT key ++ (wT val ++ (wB cli ++ (wB seq ++ rest))), wT val ++ (wB cli ++ (wB seq ++ rest)), wB cli ++ (wB seq ++ rest), wB seq ++ rest, ?_, rdNum_B _ (by omega), rdNum_B _ (by omega), rdText_T _ (by omega), rdText_T _ (by omega), rdNum_B _ (by omega), rdNum_B _ (by omega)⟩
  have := rdNum_B (n := kd) (wB px ++ (wB py ++ (wT key ++ (wT val ++ (wB cli ++ (wB seq ++ rest)))))) (by omega)
  simpa using this
theorem back_ans (e : Int) (f : Bool) (v : ByteArray) (n : Int) (h : 0 ≤ e ∧ e ≤ 255 ∧ (v.size : Int) ≤ 32 ∧ 0 ≤ n ∧ n ≤ 1099511627776) (rest : List Int) : ∃ l1 l2 l3, rdNum (([e, pbit f] : List Int).flatMap wB ++ ([v] : List ByteArray).flatMap wT ++ ([n] : List Int).flatMap wB ++ rest) 0 true = (e, l1, 0) ∧ rdNum l1 0 true = (pbit f, l2, 0) ∧ rdText l2 0 true 32 = (bytesOf v, l3, 0) ∧ rdNum l3 0 true = (n, rest, 0) := by
  refine ⟨wB (pbit f) ++ (wT v ++ (wB n ++ rest)), wT v ++ (wB n ++ rest), wB n ++ rest, ?_, rdNum_B _ (by cases f <;> decide), rdText_T _ (by omega), rdNum_B _ (by omega)⟩
  have := rdNum_B (n := e) (wB (pbit f) ++ (wT v ++ (wB n ++ rest))) (by omega)
  simpa using this
theorem taken_rec {l0 : List Int} (hl : ∀ z ∈ l0, 0 ≤ z ∧ z < 256) {px : Int} {l1 : List Int} {e1 py : Int} {l2 : List Int} {e2 : Int} {key l3 : List Int} {e3 : Int} {val l4 : List Int} {e4 ver : Int} {l5 : List Int} {e5 : Int} (k1 : rdNum l0 0 true = (px, l1, e1)) (k2 : rdNum l1 e1 true = (py, l2, e2)) (k3 : rdText l2 e2 true 32 = (key, l3, e3)) (k4 : rdText l3 e3 true 32 = (val, l4, e4)) (k5 : rdNum l4 e4 true = (ver, l5, e5)) (h : e5 = 0) :
    l0 = ([px, py] : List Int).flatMap wB ++ ([strOfNums key, strOfNums val] : List ByteArray).flatMap wT ++ ([ver] : List Int).flatMap wB ++ l5 := by
  subst h
  obtain rfl := rdNum_bad k5
  obtain rfl := (rdText_zero k4).1
  obtain rfl := (rdText_zero k3).1
  obtain rfl := rdNum_bad k2
  obtain ⟨g1, b1⟩ := num_back hl k1
  obtain ⟨g2, b2⟩ := num_back b1 k2
  obtain ⟨g3, b3⟩ := text_back b2 k3
  obtain ⟨g4, b4⟩ := text_back b3 k4
  obtain ⟨g5, b5⟩ := num_back b4 k5
  rw [g1, g2, g3, g4, g5]
  simp
theorem taken_op {l0 : List Int} (hl : ∀ z ∈ l0, 0 ≤ z ∧ z < 256) {kd : Int} {l1 : List Int} {e1 px : Int} {l2 : List Int} {e2 py : Int} {l3 : List Int} {e3 : Int} {key l4 : List Int} {e4 : Int} {val l5 : List Int} {e5 cli : Int} {l6 : List Int} {e6 seq : Int} {l7 : List Int} {e7 : Int} (k1 : rdNum l0 0 true = (kd, l1, e1)) (k2 : rdNum l1 e1 true = (px, l2, e2)) (k3 : rdNum l2 e2 true = (py, l3, e3)) (k4 : rdText l3 e3 true 32 = (key, l4, e4)) (k5 : rdText l4 e4 true 32 = (val, l5, e5)) (k6 : rdNum l5 e5 true = (cli, l6, e6)) (k7 : rdNum l6 e6 true = (seq, l7, e7)) (h : e7 = 0) :
    l0 = ([kd, px, py] : List Int).flatMap wB ++ ([strOfNums key, strOfNums val] : List ByteArray).flatMap wT ++ ([cli, seq] : List Int).flatMap wB ++ l7 := by
  subst h
  obtain rfl := rdNum_bad k7
  obtain rfl := rdNum_bad k6
  obtain rfl := (rdText_zero k5).1
  obtain rfl := (rdText_zero k4).1
  obtain rfl := rdNum_bad k3
  obtain rfl := rdNum_bad k2
  obtain ⟨g1, b1⟩ := num_back hl k1
  obtain ⟨g2, b2⟩ := num_back b1 k2
  obtain ⟨g3, b3⟩ := num_back b2 k3
  obtain ⟨g4, b4⟩ := text_back b3 k4
  obtain ⟨g5, b5⟩ := text_back b4 k5
  obtain ⟨g6, b6⟩ := num_back b5 k6
  obtain ⟨g7, b7⟩ := num_back b6 k7
  rw [g1, g2, g3, g4, g5, g6, g7]
  simp
end Go.Proofs.Ytiglmgmkablpkaa.PK
