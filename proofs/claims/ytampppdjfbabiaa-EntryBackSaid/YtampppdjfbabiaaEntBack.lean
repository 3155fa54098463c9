/- Numbers as bytes: what wire.Num and the reference write. -/
import Derived.Test.YtampppdjfbabiaaPEx5
import Derived.Test.YtampppdjfbabiaaPEx3
import Derived.Test.YtampppdjfbabiaaPEx2
import Derived.Test.YtampppdjfbabiaaPEx1
namespace Go.Proofs.Ytampppdjfbabiaa.PE
open Go.RowKit Go.Proofs.YtampppdjfbabiaaW.PrintWords Go.Proofs.YtampppdjfbabiaaW.PrintLast Go.Proofs.YtampppdjfbabiaaW.PrintMore
set_option linter.unusedVariables false
set_option linter.unusedSimpArgs false
theorem rd_get (l : List Int) (i : Nat) (hi : i < l.length) : rd l (i : Int) = l[i] := by
  unfold rd
  rw [Int.toNat_natCast]
  simp [hi]
theorem w_succ (i : Nat) (h : i ≤ 1000000) : wrap64 ((i : Int) + 1) = ((i + 1 : Nat) : Int) := by unfold wrap64; omega
theorem mem_drop {l : List Int} {n : Int} {i : Nat} (hi : i < l.length) : n ∈ l.drop i ↔ n = l[i] ∨ n ∈ l.drop (i + 1) := by
  rw [List.drop_eq_getElem_cons hi, List.mem_cons]
theorem idx_from (l : List Int) (n : Int) (hl : l.length ≤ 1000000) : ∀ (m i k : Nat), i + m = l.length → m < k → ∃ v : Int, slices_Index_int_int.l0 k l n (l.length : Int) (i : Int) = some v ∧ (v ≥ 0 ↔ n ∈ l.drop i) := by
  intro m
  induction m with
  | zero =>
    intro i k h hk
    obtain ⟨k, rfl⟩ : ∃ j, k = j + 1 := ⟨k - 1, by omega⟩
    rw [slices_Index_int_int.l0, if_neg (by omega), List.drop_eq_nil_of_le (by omega)]
    exact ⟨-1, rfl, by simp⟩
  | succ m ih =>
    intro i k h hk
    obtain ⟨k, rfl⟩ : ∃ j, k = j + 1 := ⟨k - 1, by omega⟩
    have hi : i < l.length := by omega
    rw [slices_Index_int_int.l0, if_pos (by omega), if_pos (by omega), if_pos (by omega), rd_get l i hi, w_succ i (by omega)]
    by_cases c : n = l[i]
    · rw [if_pos c]
      exact ⟨_, rfl, ⟨fun _ => (mem_drop hi).mpr (.inl c), fun _ => by omega⟩⟩
    · rw [if_neg c]
      obtain ⟨v, h1, h2⟩ := ih (i + 1) k (by omega) (by omega)
      exact ⟨v, h1, h2.trans ⟨fun q => (mem_drop hi).mpr (.inr q), fun q => ((mem_drop hi).mp q).elim (fun e => absurd e c) id⟩⟩
theorem contains_eq {l : List Int} (n : Int) {k : Nat} (hl : l.length < k) (hk : k ≤ 1000) : slices_Contains_int_int.f k l n = some (decide (n ∈ l)) := by
  unfold slices_Contains_int_int.f slices_Index_int_int.f
  obtain ⟨v, h1, h2⟩ := idx_from l n (by omega) l.length 0 k (by omega) hl
  have h1 : slices_Index_int_int.l0 k l n (l.length : Int) 0 = some v := h1
  rw [h1, Option.bind_some]
  congr 1
  rw [decide_eq_decide]
  exact h2
/-- May it be a chain? -/
def ChainOk (l : List Int) : Prop := (∀ z ∈ l, 0 ≤ z ∧ z < 8) ∧ l.Nodup
instance (l : List Int) : Decidable (ChainOk l) := by unfold ChainOk; exact inferInstance
theorem chainGo_eq : ∀ (l : List Int) (s : Nat → Bool), chainGo l s = true ↔ ((∀ z ∈ l, 0 ≤ z ∧ z < 8) ∧ l.Nodup ∧ ∀ z ∈ l, s z.toNat = false)
  | [], s => by simp [chainGo]
  | n :: l, s => by
    rw [chainGo]
    by_cases c : 0 ≤ n ∧ n < 8
    · rw [if_pos c]
      by_cases d : s n.toNat = true
      · rw [if_pos d]
        constructor
        · intro h; cases h
        · rintro ⟨_, _, h⟩
          have := h n (by simp)
          rw [d] at this
          cases this
      · rw [if_neg d, chainGo_eq l]
        constructor
        · rintro ⟨h1, h2, h3⟩
          have hn : n ∉ l := fun q => by
            have := h3 n q
            rw [if_pos rfl] at this
            cases this
          refine ⟨fun z hz => ?_, List.nodup_cons.mpr ⟨hn, h2⟩, fun z hz => ?_⟩
          · rcases List.mem_cons.mp hz with rfl | hz
            · exact c
            · exact h1 z hz
          · rcases List.mem_cons.mp hz with rfl | hz
            · simpa using d
            · have := h3 z hz
              split at this
              · cases this
              · exact this
        · rintro ⟨h1, h2, h3⟩
          obtain ⟨hn, h2⟩ := List.nodup_cons.mp h2
          refine ⟨fun z hz => h1 z (by simp [hz]), h2, fun z hz => ?_⟩
          have hz8 := h1 z (by simp [hz])
          have : ¬ z.toNat = n.toNat := fun q => hn (by rw [show n = z by omega]; exact hz)
          rw [if_neg this]
          exact h3 z (by simp [hz])
    · rw [if_neg c]
      constructor
      · intro h; cases h
      · rintro ⟨h, _⟩
        exact absurd (h n (by simp)) c
theorem chain_eq (l : List Int) : entry_RightChain.f l = some (decide (ChainOk l)) := by
  unfold entry_RightChain.f
  congr 1
  by_cases c : ChainOk l
  · rw [decide_eq_true c]
    exact (chainGo_eq l _).mpr ⟨c.1, c.2, fun _ _ => rfl⟩
  · rw [decide_eq_false c]
    cases h : chainGo l fun _ => false
    · rfl
    · obtain ⟨h1, h2, _⟩ := (chainGo_eq l _).mp h
      exact absurd ⟨h1, h2⟩ c
theorem node_eq (n : Int) : entry_node.f n = some (decide (0 ≤ n ∧ n < 8)) := by
  unfold entry_node.f
  by_cases h : n ≥ 0
  · rw [if_pos h]
    congr 1
    rw [decide_eq_decide]
    omega
  · rw [if_neg h, decide_eq_false (by omega)]
/-- Without a node that is in it once. -/
theorem without_len {l : List Int} {n : Int} (h : l.Nodup) (hn : n ∈ l) : (l.filter (· != n)).length + 1 = l.length := by
  induction l with
  | nil => cases hn
  | cons x l ih =>
    obtain ⟨h1, h2⟩ := List.nodup_cons.mp h
    by_cases c : x = n
    · subst c
      have : l.filter (· != x) = l := List.filter_eq_self.mpr fun z hz => by
        simp only [bne_iff_ne]
        rintro rfl
        exact h1 hz
      simp [this]
    · have hm : n ∈ l := by
        rcases List.mem_cons.mp hn with e | e
        · exact absurd e.symm c
        · exact e
      have := ih h2 hm
      simp only [List.filter_cons, bne_iff_ne, ne_eq, c, not_false_eq_true, if_true, List.length_cons]
      omega

theorem w64_small {x : Int} (h1 : -9223372036854775808 ≤ x) (h2 : x ≤ 9223372036854775807) : wrap64 x = x := by
  unfold wrap64
  omega
/-- A number's bytes, in at most j + 1 of them. -/
def numB : Nat → Int → List Int
  | 0, x => [x]
  | j + 1, x => if x > 127 then (128 + x % 128) :: numB j (x / 128) else [x]
theorem or_128 (x : Int) : Go.bits .or .u8 (x % 256) 128 = 128 + x % 128 := by
  have h : ∀ y : Fin 256, Go.bits .or .u8 ((y.val : Nat) : Int) 128 = 128 + ((y.val : Nat) : Int) % 128 := by decide +kernel
  have h1 : 0 ≤ x % 256 ∧ x % 256 < 256 := by omega
  have h2 := h ⟨(x % 256).toNat, by omega⟩
  dsimp only at h2
  rw [Int.toNat_of_nonneg h1.1] at h2
  rw [h2]
  omega
theorem numB_len (j : Nat) (x : Int) : (numB j x).length ≤ j + 1 := by
  induction j generalizing x with
  | zero => simp [numB]
  | succ j ih =>
    unfold numB
    split
    · have := ih (x / 128)
      simp
      omega
    · simp
theorem wnum_loop (k j : Nat) : ∀ (x : Int) (out : List Int), 0 ≤ x → x < 128 * 128 ^ j → out.length + j ≤ 1000 → wire_Num.l0 (k + 1 + j) x out = some (out ++ numB j x, 0) := by
  induction j with
  | zero =>
    intro x out h0 h1 h2
    simp only [wire_Num.l0, numB]
    simp at h1
    rw [if_neg (by omega), if_pos (by omega), Int.emod_eq_of_lt h0 (by omega)]
  | succ j ih =>
    intro x out h0 h1 h2
    show wire_Num.l0 ((k + 1 + j) + 1) _ _ = _
    simp only [wire_Num.l0, numB]
    by_cases h : x > 127
    · rw [Int.pow_succ] at h1
      rw [if_pos h, if_pos h, if_pos (by omega), or_128, ih _ _ (by omega) (by omega) (by simp; omega)]
      simp
    · rw [if_neg h, if_neg h, if_pos (by omega), Int.emod_eq_of_lt h0 (by omega)]
theorem wnum_yes {n : Int} (h0 : 0 ≤ n) (h1 : n ≤ 9007199254740992) (k : Nat) : wire_Num.f (k + 10) n = some (numB 8 n, 0) := by
  unfold wire_Num.f
  rw [if_neg (by omega), decide_eq_false (by omega)]
  show wire_Num.j0 ((k + 9) + 1) _ _ = _
  simp only [wire_Num.j0]
  rw [if_neg (by decide)]
  have := wnum_loop k 8 n [] h0 (by omega) (by simp)
  simpa using this
theorem wnum_no {n : Int} (h : n < 0 ∨ n > 9007199254740992) (k : Nat) : wire_Num.f (k + 1) n = some ([], 1) := by
  unfold wire_Num.f
  by_cases h0 : n < 0
  · rw [if_pos h0]
    simp [wire_Num.j0]
  · rw [if_neg h0, decide_eq_true (by omega)]
    simp [wire_Num.j0]
theorem wtext_yes (s : ByteArray) (h : s.size ≤ 131072) (k : Nat) : wire_Text.f (k + 10) s = some (numB 8 s.size ++ bytesOf s, 0) := by
  unfold wire_Text.f
  rw [if_neg (by omega), wnum_yes (by omega) (by omega), Option.bind_some]
  have := numB_len 8 s.size
  dsimp only
  rw [if_pos (by omega)]
set_option linter.unusedVariables false
theorem and_bytes : ∀ a : Nat, a < 256 → Go.bits .and .u8 (a : Int) 127 = ((a % 128 : Nat) : Int) ∧ Go.bits .and .u8 (a : Int) 128 = (if a < 128 then 0 else 128) := by decide +kernel
theorem and127 {c : Int} (h : 0 ≤ c ∧ c < 256) : Go.bits .and .u8 c 127 = c % 128 := by
  obtain ⟨a, rfl⟩ := Int.eq_ofNat_of_zero_le h.1
  rw [(and_bytes a (by omega)).1]
  omega
theorem and128 {c : Int} (h : 0 ≤ c ∧ c < 256) : Go.bits .and .u8 c 128 = 0 ↔ c < 128 := by
  obtain ⟨a, rfl⟩ := Int.eq_ofNat_of_zero_le h.1
  rw [(and_bytes a (by omega)).2]
  by_cases q : a < 128
  · rw [if_pos q]
    exact ⟨fun _ => by omega, fun _ => rfl⟩
  · rw [if_neg q]
    exact ⟨fun e => by omega, fun e => by omega⟩
theorem or_big {a b : Nat} (ha : a < 2 ^ 62) (hb : b < 2 ^ 62) : Go.bits .or .i64 (a : Int) (b : Int) = ((a ||| b : Nat) : Int) := by
  unfold Go.bits
  dsimp only
  have ha' : (BitVec.ofInt (IntKind.bits .i64) (a : Int)).toNat = a := by
    show ((a : Int) % (2 ^ 64 : Nat)).toNat = a
    omega
  have hb' : (BitVec.ofInt (IntKind.bits .i64) (b : Int)).toNat = b := by
    show ((b : Int) % (2 ^ 64 : Nat)).toNat = b
    omega
  rw [BitVec.toNat_or, ha', hb']
  have h := Nat.or_lt_two_pow (n := 62) (x := a) (y := b) ha hb
  generalize a ||| b = z at h
  rw [IntKind.wrap_i64]
  omega
theorem pow7 (i : Nat) (hi : i ≤ 7) : 2 ^ (7 * i) ≤ 562949953421312 ∧ 1 ≤ 2 ^ (7 * i) := by
  have : i = 0 ∨ i = 1 ∨ i = 2 ∨ i = 3 ∨ i = 4 ∨ i = 5 ∨ i = 6 ∨ i = 7 := by omega
  rcases this with rfl | rfl | rfl | rfl | rfl | rfl | rfl | rfl <;> decide
/-- A byte more: it is added. -/
theorem rdPut_add {n : Nat} {c : Nat} (hc : c < 256) (i : Nat) (hi : i ≤ 7) (hn : n < 2 ^ (7 * i)) : rdPut (n : Int) (c : Int) i = ((n + 2 ^ (7 * i) * (c % 128) : Nat) : Int) := by
  unfold rdPut
  have hp := pow7 i hi
  have h := Nat.two_pow_add_eq_or_of_lt (i := 7 * i) (b := n) hn (c % 128)
  rw [and127 (by omega), show (c : Int) % 128 = ((c % 128 : Nat) : Int) by omega]
  have hx : c % 128 < 128 := Nat.mod_lt _ (by decide)
  have e : ((c % 128 : Nat) : Int) * 2 ^ (7 * i) = ((2 ^ (7 * i) * (c % 128) : Nat) : Int) := by
    rw [Int.natCast_mul, Int.natCast_pow, Int.mul_comm]
    rfl
  rw [e]
  have hb : 2 ^ (7 * i) * (c % 128) ≤ 562949953421312 * 127 := Nat.mul_le_mul hp.1 (by omega)
  generalize 2 ^ (7 * i) * (c % 128) = y at h hb
  rw [show wrap64 (y : Int) = (y : Int) by unfold wrap64; omega, or_big (by omega) (by omega), Nat.or_comm, ← h, Nat.add_comm]
/-- One round of reading. -/
theorem rdFrom_step {l : List Int} (f i : Nat) {n : Nat} (hf : f + i ≤ 7) (hn : n < 2 ^ (7 * i)) {c : Nat} (hi : i < l.length) (hc : rd l i = (c : Int)) (hb : c < 256) :
    rdFrom l (f + 1) i (n : Int) = if n + 2 ^ (7 * i) * (c % 128) > 9007199254740992 ∨ 0 < i ∧ c = 0 then (0, l, 21) else if c < 128 then (((n + 2 ^ (7 * i) * (c % 128) : Nat) : Int), l.drop (i + 1), 0) else rdFrom l f (i + 1) ((n + 2 ^ (7 * i) * (c % 128) : Nat) : Int) := by
  rw [rdFrom, if_neg (by omega), hc, rdPut_add hb i (by omega) hn]
  generalize n + 2 ^ (7 * i) * (c % 128) = v
  by_cases q : v > 9007199254740992 ∨ 0 < i ∧ c = 0
  · rw [if_pos q, if_pos (q.imp (fun q => by omega) (fun q => ⟨q.1, by omega⟩))]
  · rw [if_neg q, if_neg (fun z => q (z.imp (fun z => by omega) (fun z => ⟨z.1, by omega⟩)))]
    by_cases q2 : c < 128
    · rw [if_pos q2, if_pos ((and128 (by omega)).mpr (by omega))]
    · rw [if_neg q2, if_neg (fun z => q2 (by have := (and128 (by omega)).mp z; omega))]
theorem rdFrom_end {l : List Int} (f i : Nat) (n : Int) (hi : l.length ≤ i) : rdFrom l (f + 1) i n = (0, l, 20) := by
  rw [rdFrom, if_pos hi]
theorem next7 {n c i : Nat} (hn : n < 2 ^ (7 * i)) : n + 2 ^ (7 * i) * (c % 128) < 2 ^ (7 * (i + 1)) := by
  have hx : c % 128 ≤ 127 := by omega
  have h1 : 2 ^ (7 * i) * (c % 128) ≤ 2 ^ (7 * i) * 127 := Nat.mul_le_mul_left _ hx
  have h2 : 2 ^ (7 * (i + 1)) = 2 ^ (7 * i) * 128 := by rw [show 7 * (i + 1) = 7 * i + 7 by omega, Nat.pow_add]
  rw [h2]
  generalize 2 ^ (7 * i) = p at *
  generalize p * (c % 128) = y at *
  omega
theorem numB_eq (j : Nat) (x : Int) : numB (j + 1) x = if x > 127 then (128 + x % 128) :: numB j (x / 128) else [x] := rfl
/-- One row less is enough. -/
theorem numB_less : ∀ (j x : Nat), x < 128 * 128 ^ j → numB (j + 1) (x : Int) = numB j (x : Int)
  | 0, x, h => by
    rw [numB_eq 0, if_neg (by omega)]
    rfl
  | j + 1, x, h => by
    have h2 : x / 128 < 128 * 128 ^ j := by
      rw [Nat.pow_succ] at h
      omega
    have ih := numB_less j (x / 128) h2
    have e : (x : Int) / 128 = ((x / 128 : Nat) : Int) := by omega
    rw [numB_eq (j + 1), numB_eq j (x : Int), e, ih]
/-- What was written is read. -/
theorem rdFrom_numB : ∀ (j f i n x : Nat) (pre rest : List Int), pre.length = i → n < 2 ^ (7 * i) → j + 1 ≤ f → f + i ≤ 8 → x < 128 * 128 ^ j → (0 < i → 0 < x) → n + 2 ^ (7 * i) * x ≤ 9007199254740992 → rdFrom (pre ++ (numB j (x : Int) ++ rest)) f i (n : Int) = (((n + 2 ^ (7 * i) * x : Nat) : Int), rest, 0) := by
  have last : ∀ (f i n x : Nat) (pre rest : List Int), pre.length = i → n < 2 ^ (7 * i) → f + 1 + i ≤ 8 → x < 128 → (0 < i → 0 < x) → n + 2 ^ (7 * i) * x ≤ 9007199254740992 → rdFrom (pre ++ ([(x : Int)] ++ rest)) (f + 1) i (n : Int) = (((n + 2 ^ (7 * i) * x : Nat) : Int), rest, 0) := by
    intro f i n x pre rest hp hn hf hx h0 hb
    have hr : rd (pre ++ ([(x : Int)] ++ rest)) (i : Int) = (x : Int) := by
      unfold rd
      rw [Int.toNat_natCast]
      subst hp
      simp
    have hl : i < (pre ++ ([(x : Int)] ++ rest)).length := by simp; omega
    have hd : (pre ++ ([(x : Int)] ++ rest)).drop (i + 1) = rest := by
      subst hp
      rw [List.drop_length_add_append]
      rfl
    rw [rdFrom_step f i (by omega) hn hl hr (by omega), Nat.mod_eq_of_lt hx, hd, if_neg (by omega), if_pos hx]
  intro j
  induction j with
  | zero =>
    intro f i n x pre rest hp hn hf hfi hx h0 hb
    obtain ⟨f, rfl⟩ : ∃ g, f = g + 1 := ⟨f - 1, by omega⟩
    exact last f i n x pre rest hp hn (by omega) (by simpa using hx) h0 hb
  | succ j ih =>
    intro f i n x pre rest hp hn hf hfi hx h0 hb
    obtain ⟨f, rfl⟩ : ∃ g, f = g + 1 := ⟨f - 1, by omega⟩
    by_cases q : (x : Int) > 127
    · have hdm : x = x % 128 + 128 * (x / 128) := by omega
      have hv : n + 2 ^ (7 * i) * (x % 128) + 2 ^ (7 * (i + 1)) * (x / 128) = n + 2 ^ (7 * i) * x := by
        have e : 2 ^ (7 * (i + 1)) = 2 ^ (7 * i) * 128 := by rw [show 7 * (i + 1) = 7 * i + 7 by omega, Nat.pow_add]
        have e2 : 2 ^ (7 * i) * x = 2 ^ (7 * i) * (x % 128) + 2 ^ (7 * i) * 128 * (x / 128) := by
          rw [Nat.mul_assoc, ← Nat.mul_add, ← hdm]
        rw [e, e2, Nat.add_assoc]
      have hr : rd (pre ++ (((128 + (x : Int) % 128) :: numB j ((x : Int) / 128)) ++ rest)) (i : Int) = ((128 + x % 128 : Nat) : Int) := by
        unfold rd
        rw [Int.toNat_natCast]
        subst hp
        simp
      have hl : i < (pre ++ (((128 + (x : Int) % 128) :: numB j ((x : Int) / 128)) ++ rest)).length := by simp; omega
      have hm : (128 + x % 128) % 128 = x % 128 := by omega
      have hn2 := next7 (c := x) hn
      rw [numB, if_pos q, rdFrom_step f i (by omega) hn hl hr (by omega), hm]
      have hle : n + 2 ^ (7 * i) * (x % 128) ≤ 9007199254740992 := Nat.le_trans (Nat.le_trans (Nat.le_add_right _ _) (Nat.le_of_eq hv)) hb
      rw [if_neg (by omega), if_neg (by omega)]
      have hx2 : x / 128 < 128 * 128 ^ j := by
        rw [Nat.pow_succ] at hx
        omega
      have h := ih f (i + 1) (n + 2 ^ (7 * i) * (x % 128)) (x / 128) (pre ++ [128 + (x : Int) % 128]) rest (by simp [hp]) hn2 (by omega) (by omega) hx2 (fun _ => by omega) (by rw [hv]; exact hb)
      rw [hv, show ((x / 128 : Nat) : Int) = (x : Int) / 128 by omega, List.append_assoc] at h
      exact h
    · rw [numB, if_neg q]
      exact last f i n x pre rest hp hn (by omega) (by omega) h0 hb
theorem rdNum_numB {x : Nat} (hx : x ≤ 9007199254740992) (rest : List Int) : rdNum (numB 8 (x : Int) ++ rest) 0 true = ((x : Int), rest, 0) := by
  rw [numB_less 7 x (by omega), rdNum_on rfl]
  have h := rdFrom_numB 7 8 0 0 x [] rest rfl (by decide) (by omega) (by omega) (by omega) (fun q => absurd q (by omega)) (by omega)
  rw [show (0 + 2 ^ (7 * 0) * x : Nat) = x by simp] at h
  exact h
theorem numB_small : ∀ (j : Nat) (c : Nat), c < 128 → numB j (c : Int) = [(c : Int)]
  | 0, c, h => rfl
  | j + 1, c, h => by rw [numB_eq, if_neg (by omega)]
/-- What is read was written. -/
theorem rdFrom_back : ∀ (f i n : Nat) (pre tl : List Int) (v : Int) (rest : List Int), pre.length = i → n < 2 ^ (7 * i) → f + i ≤ 8 → (∀ z ∈ tl, 0 ≤ z ∧ z < 256) → rdFrom (pre ++ tl) f i (n : Int) = (v, rest, 0) → ∃ x : Nat, v = ((n + 2 ^ (7 * i) * x : Nat) : Int) ∧ tl = numB (f - 1) (x : Int) ++ rest ∧ (0 < i → 0 < x) := by
  intro f
  induction f with
  | zero =>
    intro i n pre tl v rest _ _ _ _ h
    rw [rdFrom] at h
    injection h with _ h
    injection h with _ h
    cases h
  | succ f ih =>
    intro i n pre tl v rest hp hn hf hb h
    cases tl with
    | nil =>
      rw [rdFrom_end f i n (by simp [hp])] at h
      injection h with _ h
      injection h with _ h
      cases h
    | cons z tl =>
      have hz := hb z (by simp)
      obtain ⟨c, rfl⟩ := Int.eq_ofNat_of_zero_le hz.1
      have hl : i < (pre ++ ((c : Int) :: tl)).length := by simp; omega
      have hr : rd (pre ++ ((c : Int) :: tl)) (i : Int) = (c : Int) := by
        unfold rd
        rw [Int.toNat_natCast]
        subst hp
        simp
      have hd : (pre ++ ((c : Int) :: tl)).drop (i + 1) = tl := by
        subst hp
        rw [List.drop_length_add_append]
        rfl
      rw [rdFrom_step f i (by omega) hn hl hr (by omega), hd] at h
      by_cases q1 : n + 2 ^ (7 * i) * (c % 128) > 9007199254740992 ∨ 0 < i ∧ c = 0
      · rw [if_pos q1] at h
        injection h with _ h
        injection h with _ h
        cases h
      · rw [if_neg q1] at h
        by_cases q2 : c < 128
        · rw [if_pos q2] at h
          injection h with h1 h
          injection h with h2 _
          subst h1 h2
          refine ⟨c, by rw [Nat.mod_eq_of_lt q2], ?_, fun h0 => ?_⟩
          · rw [show f + 1 - 1 = f by omega, numB_small f c q2]
            rfl
          · have : ¬ (0 < i ∧ c = 0) := fun z => q1 (.inr z)
            omega
        · rw [if_neg q2] at h
          have hn2 := next7 (c := c) hn
          have e1 : pre ++ ((c : Int) :: tl) = (pre ++ [(c : Int)]) ++ tl := by simp
          rw [e1] at h
          obtain ⟨x, hx1, hx2, hx3⟩ := ih (i + 1) _ (pre ++ [(c : Int)]) tl v rest (by simp [hp]) hn2 (by omega) (fun y hy => hb y (by simp [hy])) h
          have hx0 := hx3 (by omega)
          refine ⟨c % 128 + 128 * x, ?_, ?_, fun _ => by omega⟩
          · rw [hx1]
            have e : 2 ^ (7 * (i + 1)) = 2 ^ (7 * i) * 128 := by rw [show 7 * (i + 1) = 7 * i + 7 by omega, Nat.pow_add]
            rw [e, Nat.mul_add, Nat.mul_assoc, Nat.add_assoc]
          · cases f with
            | zero =>
              rw [rdFrom] at h
              injection h with _ h
              injection h with _ h
              cases h
            | succ f =>
              have e2 : (128 + ((c % 128 + 128 * x : Nat) : Int) % 128) = (c : Int) := by omega
              have e3 : ((c % 128 + 128 * x : Nat) : Int) / 128 = (x : Int) := by omega
              rw [show f + 1 + 1 - 1 = f + 1 by omega, numB_eq, if_pos (by omega), e2, e3, hx2, show f + 1 - 1 = f by omega]
              rfl
theorem rdNum_back {l : List Int} (hl : ∀ z ∈ l, 0 ≤ z ∧ z < 256) {v : Int} {rest : List Int} (h : rdNum l 0 true = (v, rest, 0)) : numB 8 v ++ rest = l := by
  have hn := rdNum_nn l 0 true
  rw [h] at hn
  rw [rdNum_on rfl] at h
  obtain ⟨x, hx1, hx2, _⟩ := rdFrom_back 8 0 0 [] l v rest rfl (by decide) (by omega) hl h
  have hv : v = (x : Int) := by rw [hx1]; simp
  rw [hv] at hn ⊢
  dsimp only at hn
  rw [numB_less 7 x (by omega), hx2]
theorem rdUpto_numB {x : Nat} (hx : x ≤ 9007199254740992) (rest : List Int) {most : Int} (h : (x : Int) ≤ most) : rdUpto (numB 8 (x : Int) ++ rest) 0 true most = ((x : Int), rest, 0) := by
  have e := rdNum_numB hx rest
  rw [rdUpto_neg (by rw [e]; dsimp only; omega), e]
/-- A text that was written is read. -/
theorem rdText_numB {bs : List Int} (hx : bs.length ≤ 9007199254740992) {most : Int} (h : (bs.length : Int) ≤ most) : rdText (numB 8 ((bs.length : Nat) : Int) ++ bs) 0 true most = (bs, [], 0) := by
  have e := rdUpto_numB hx bs h
  rw [rdText_on (by rw [e]; rfl) (by rw [e]; dsimp only; omega), e]
  simp
/-- The numbers of a row that may be written, one behind the other. -/
def wcat : List Int → List Int
  | [] => []
  | z :: l => (if 0 ≤ z ∧ z ≤ 9007199254740992 then numB 8 z else []) ++ wcat l
theorem wcat_len : ∀ l : List Int, (wcat l).length ≤ 9 * l.length
  | [] => by simp [wcat]
  | z :: l => by
    have h := wcat_len l
    have h2 := numB_len 8 z
    rw [wcat, List.length_append, List.length_cons]
    split
    · omega
    · simp
      omega
theorem wcat_yes {z : Int} (h : 0 ≤ z ∧ z ≤ 9007199254740992) (l rest : List Int) : rdNum (wcat (z :: l) ++ rest) 0 true = (z, wcat l ++ rest, 0) := by
  obtain ⟨x, rfl⟩ := Int.eq_ofNat_of_zero_le h.1
  rw [wcat, if_pos h, List.append_assoc]
  exact rdNum_numB (by omega) _
theorem wcat_no {z : Int} (h : ¬ (0 ≤ z ∧ z ≤ 9007199254740992)) (l : List Int) : wcat (z :: l) = wcat l := by
  rw [wcat, if_neg h]
  rfl
theorem wcat_take (l : List Int) (i : Nat) (hi : i < l.length) : wcat (l.take (i + 1)) = wcat (l.take i) ++ (if 0 ≤ l[i] ∧ l[i] ≤ 9007199254740992 then numB 8 l[i] else []) := by
  have app : ∀ x y : List Int, wcat (x ++ y) = wcat x ++ wcat y := by
    intro x
    induction x with
    | nil => intro y; rfl
    | cons a x ih => intro y; rw [List.cons_append, wcat, wcat, ih, List.append_assoc]
  rw [List.take_succ_eq_append_getElem hi, app]
  congr 1
  rw [wcat, wcat, List.append_nil]

theorem from_eq (a b c : Int) : point_from.f a b c = some (decide (a ≤ b) && decide (b ≤ c)) := by
  unfold point_from.f
  by_cases h : b ≥ a
  · rw [if_pos h, decide_eq_true h, Bool.true_and]
  · rw [if_neg h, decide_eq_false h, Bool.false_and]
theorem cell_eq (x y : Int) : point_cell.f x y = some (decide (0 ≤ x) && decide (x ≤ 65535) && (decide (0 ≤ y) && decide (y ≤ 65535))) := by
  unfold point_cell.f
  rw [from_eq, from_eq]
  simp only [Option.bind_some]
  cases (decide (0 ≤ x) && decide (x ≤ 65535))
  · simp
  · simp

theorem all_seven : ∀ a b c d e f g : Bool, point_all.f 100 [a, b, c, d, e, f, g] = some (a && b && c && d && e && f && g) := by decide +kernel
/-- What wire.Num writes of any number. -/
def wB (n : Int) : List Int := if 0 ≤ n ∧ n ≤ 9007199254740992 then numB 8 n else []
def wE (n : Int) : Int := if 0 ≤ n ∧ n ≤ 9007199254740992 then 0 else 1
def wT (s : ByteArray) : List Int := numB 8 s.size ++ bytesOf s
theorem wB_f (n : Int) : wire_Num.f 100 n = some (wB n, wE n) := by
  unfold wB wE
  by_cases h : 0 ≤ n ∧ n ≤ 9007199254740992
  · rw [if_pos h, if_pos h]
    exact wnum_yes h.1 h.2 90
  · rw [if_neg h, if_neg h]
    exact wnum_no (by omega) 99
theorem wT_f (s : ByteArray) (h : s.size ≤ 500) : wire_Text.f 100 s = some (wT s, 0) := wtext_yes s (by omega) 90
theorem wB_len (n : Int) : (wB n).length ≤ 9 := by
  unfold wB
  split
  · exact numB_len 8 n
  · simp
theorem wT_len (s : ByteArray) (h : s.size ≤ 500) : (wT s).length ≤ 509 := by
  unfold wT
  have := numB_len 8 s.size
  have e : (bytesOf s).length = s.size := by simp [bytesOf]
  rw [List.length_append, e]
  omega
theorem ok_on {e : Int} (h : e = 0) : rdOk e true = true := by subst h; rfl
theorem ok_off {e : Int} (h : e ≠ 0) : rdOk e true = false := by
  unfold rdOk
  simp [h]
theorem zero_row7 (z : Int) (c a b : Int) (s t : ByteArray) (m n : Int) : (if z = 0 then #[Value.int .i64 c, .int .i64 a, .int .i64 b, .string s, .string t, .int .i64 m, .int .i64 n] else #[.int .i64 0, .int .i64 0, .int .i64 0, .string ⟨#[]⟩, .string ⟨#[]⟩, .int .i64 0, .int .i64 0]) = #[.int .i64 (if z = 0 then c else 0), .int .i64 (if z = 0 then a else 0), .int .i64 (if z = 0 then b else 0), .string (if z = 0 then s else ⟨#[]⟩), .string (if z = 0 then t else ⟨#[]⟩), .int .i64 (if z = 0 then m else 0), .int .i64 (if z = 0 then n else 0)] := by
  by_cases h : z = 0
  · simp only [if_pos h]
  · simp only [if_neg h]
theorem str_bytes (s : ByteArray) : strOfNums (bytesOf s) = s := by
  obtain ⟨⟨d⟩⟩ := s
  simp [strOfNums, bytesOf]
  exact (List.map_congr_left (g := id) (fun b _ => by simp)).trans (List.map_id d)
theorem bytes_str {l : List Int} (h : ∀ z ∈ l, 0 ≤ z ∧ z < 256) : bytesOf (strOfNums l) = l := by
  unfold bytesOf strOfNums
  simp only [List.map_map]
  conv => rhs; rw [← List.map_id l]
  refine List.map_congr_left fun z hz => ?_
  obtain ⟨h0, h1⟩ := h z hz
  simp
  omega
theorem str_size' (l : List Int) : (strOfNums l).size = l.length := by simp [strOfNums, ByteArray.size]
theorem rdText_rest {bs rest : List Int} (h : bs.length ≤ 32) : rdText (numB 8 ((bs.length : Nat) : Int) ++ (bs ++ rest)) 0 true 32 = (bs, rest, 0) := by
  have e := rdUpto_numB (x := bs.length) (by omega) (bs ++ rest) (most := 32) (by omega)
  rw [rdText_on (by rw [e]; rfl) (by rw [e]; dsimp only; rw [List.length_append]; omega), e]
  simp
theorem rdText_T {s : ByteArray} (rest : List Int) (h : s.size ≤ 32) : rdText (wT s ++ rest) 0 true 32 = (bytesOf s, rest, 0) := by
  have := rdText_rest (bs := bytesOf s) (rest := rest) (by rw [bytesOf_length]; exact h)
  rw [bytesOf_length] at this
  unfold wT
  rw [List.append_assoc]
  exact this
theorem rdNum_B {n : Int} (rest : List Int) (h : 0 ≤ n ∧ n ≤ 9007199254740992) : rdNum (wB n ++ rest) 0 true = (n, rest, 0) := by
  obtain ⟨x, rfl⟩ := Int.eq_ofNat_of_zero_le h.1
  unfold wB
  rw [if_pos h]
  exact rdNum_numB (by omega) rest
theorem rdNum_bad {l : List Int} {e v : Int} {l' : List Int} (h : rdNum l e true = (v, l', 0)) : e = 0 := by
  by_cases q : e = 0
  · exact q
  · rw [rdNum_off (ok_off q)] at h
    simp only [Prod.mk.injEq] at h
    exact h.2.2
theorem rdUpto_zero {l : List Int} {e most v : Int} {l' : List Int} (h : rdUpto l e true most = (v, l', 0)) : rdNum l e true = (v, l', 0) ∧ v ≤ most := by
  by_cases c : (rdNum l e true).1 > most
  · rw [rdUpto_pos c] at h
    simp only [Prod.mk.injEq] at h
    obtain ⟨_, _, h3⟩ := h
    exfalso
    by_cases q : (rdNum l e true).2.2 = 0
    · rw [ok_on q, if_pos rfl] at h3
      cases h3
    · rw [ok_off q, if_neg (by simp)] at h3
      exact q h3
  · rw [rdUpto_neg c] at h
    rw [h] at c
    exact ⟨h, Int.not_lt.mp c⟩
theorem rdText_zero {l : List Int} {e most : Int} {v l' : List Int} (h : rdText l e true most = (v, l', 0)) : e = 0 ∧ rdNum l e true = ((v.length : Int), v ++ l', 0) ∧ (v.length : Int) ≤ most := by
  obtain ⟨⟨n, m, e1⟩, hu⟩ : ∃ x, rdUpto l e true most = x := ⟨_, rfl⟩
  have hnn := rdUpto_nn l e true most
  rw [hu] at hnn
  by_cases q : e1 = 0
  · subst q
    by_cases c : n > (m.length : Int)
    · rw [rdText_end (by rw [hu]; rfl) (by rw [hu]; exact c)] at h
      simp only [Prod.mk.injEq] at h
      exact absurd h.2.2 (by decide)
    · rw [rdText_on (by rw [hu]; rfl) (by rw [hu]; exact c), hu] at h
      simp only [Prod.mk.injEq] at h
      obtain ⟨rfl, rfl, _⟩ := h
      obtain ⟨h1, h2⟩ := rdUpto_zero hu
      dsimp only at hnn
      have hl : (m.take n.toNat).length = n.toNat := by rw [List.length_take]; omega
      have hn : ((n.toNat : Nat) : Int) = n := by omega
      rw [hl, hn, List.take_append_drop]
      exact ⟨rdNum_bad h1, h1, h2⟩
  · rw [rdText_off (by rw [hu]; exact ok_off q), hu] at h
    simp only [Prod.mk.injEq] at h
    exact absurd h.2.2 q
theorem num_back {l : List Int} (hl : ∀ z ∈ l, 0 ≤ z ∧ z < 256) {v : Int} {rest : List Int} (h : rdNum l 0 true = (v, rest, 0)) : l = wB v ++ rest ∧ (∀ z ∈ rest, 0 ≤ z ∧ z < 256) := by
  have hn := rdNum_nn l 0 true
  rw [h] at hn
  dsimp only at hn
  have e := rdNum_back hl h
  have e2 : l = wB v ++ rest := by unfold wB; rw [if_pos hn]; exact e.symm
  exact ⟨e2, fun z hz => hl z (by rw [e2]; exact List.mem_append_right _ hz)⟩
theorem text_back {l : List Int} (hl : ∀ z ∈ l, 0 ≤ z ∧ z < 256) {v rest : List Int} (h : rdText l 0 true 32 = (v, rest, 0)) : l = wT (strOfNums v) ++ rest ∧ (∀ z ∈ rest, 0 ≤ z ∧ z < 256) := by
  obtain ⟨_, h1, h2⟩ := rdText_zero h
  have e := rdNum_back hl h1
  have hv : ∀ z ∈ v, 0 ≤ z ∧ z < 256 := fun z hz => hl z (by rw [← e]; simp [hz])
  have e2 : l = wT (strOfNums v) ++ rest := by
    unfold wT
    rw [str_size', bytes_str hv, List.append_assoc]
    exact e.symm
  exact ⟨e2, fun z hz => hl z (by rw [e2]; exact List.mem_append_right _ hz)⟩
theorem tkE_zero {r : Bool} {e : Int} (h : tkE r e = 0) : r = true ∧ e = 0 := by
  unfold tkE at h
  cases r
  · exfalso
    by_cases q : e = 0
    · rw [if_neg (by simp), if_pos q] at h
      cases h
    · rw [if_neg (by simp), if_neg q] at h
      exact q h
  · exact ⟨rfl, h⟩
theorem text_le (l : List Int) (e : Int) : (rdText l e true 32).1.length ≤ 32 := by
  have hnn := rdUpto_nn l e true 32
  have hle : (rdUpto l e true 32).1 ≤ 32 := by
    by_cases c : (rdNum l e true).1 > 32
    · rw [rdUpto_pos c]
      exact (by decide : (0 : Int) ≤ 32)
    · rw [rdUpto_neg c]
      omega
  by_cases q : (rdUpto l e true 32).2.2 = 0
  · by_cases c : (rdUpto l e true 32).1 > ((rdUpto l e true 32).2.1.length : Int)
    · rw [rdText_end (ok_on q) c]
      simp
    · rw [rdText_on (ok_on q) c]
      dsimp only
      rw [List.length_take]
      omega
  · rw [rdText_off (ok_off q)]
    simp

theorem back_op (kd px py : Int) (key val : ByteArray) (cli seq : Int) (h : 1 ≤ kd ∧ kd ≤ 3 ∧ 0 ≤ px ∧ px ≤ 65535 ∧ 0 ≤ py ∧ py ≤ 65535 ∧ (key.size : Int) ≤ 16 ∧ (val.size : Int) ≤ 32 ∧ 0 ≤ cli ∧ cli ≤ 7 ∧ 1 ≤ seq ∧ seq ≤ 1099511627776) (rest : List Int) : ∃ l0 l1 l2 l3 l4 l5, rdNum (([kd, px, py] : List Int).flatMap wB ++ ([key, val] : List ByteArray).flatMap wT ++ ([cli, seq] : List Int).flatMap wB ++ rest) 0 true = (kd, l0, 0) ∧ rdNum l0 0 true = (px, l1, 0) ∧ rdNum l1 0 true = (py, l2, 0) ∧ rdText l2 0 true 32 = (bytesOf key, l3, 0) ∧ rdText l3 0 true 32 = (bytesOf val, l4, 0) ∧ rdNum l4 0 true = (cli, l5, 0) ∧ rdNum l5 0 true = (seq, rest, 0) := by
  refine ⟨wB px ++ (wB py ++ (wT key ++ (wT val ++ (wB cli ++ (wB seq ++ rest))))), wB py ++ (wT key ++ (wT val ++ (wB cli ++ (wB seq ++ rest)))), wT key ++ (wT val ++ (wB cli ++ (wB seq ++ rest))), wT val ++ (wB cli ++ (wB seq ++ rest)), wB cli ++ (wB seq ++ rest), wB seq ++ rest, ?_, rdNum_B _ (by omega), rdNum_B _ (by omega), rdText_T _ (by omega), rdText_T _ (by omega), rdNum_B _ (by omega), rdNum_B _ (by omega)⟩
  have := rdNum_B (n := kd) (wB px ++ (wB py ++ (wT key ++ (wT val ++ (wB cli ++ (wB seq ++ rest)))))) (by omega)
  simpa using this
theorem taken_op {l0 : List Int} (hl : ∀ z ∈ l0, 0 ≤ z ∧ z < 256) {kd : Int} {l1 : List Int} {e1 px : Int} {l2 : List Int} {e2 py : Int} {l3 : List Int} {e3 : Int} {key l4 : List Int} {e4 : Int} {val l5 : List Int} {e5 cli : Int} {l6 : List Int} {e6 seq : Int} {l7 : List Int} {e7 : Int} (k1 : rdNum l0 0 true = (kd, l1, e1)) (k2 : rdNum l1 e1 true = (px, l2, e2)) (k3 : rdNum l2 e2 true = (py, l3, e3)) (k4 : rdText l3 e3 true 32 = (key, l4, e4)) (k5 : rdText l4 e4 true 32 = (val, l5, e5)) (k6 : rdNum l5 e5 true = (cli, l6, e6)) (k7 : rdNum l6 e6 true = (seq, l7, e7)) (h : e7 = 0) :
    l0 = ([kd, px, py] : List Int).flatMap wB ++ ([strOfNums key, strOfNums val] : List ByteArray).flatMap wT ++ ([cli, seq] : List Int).flatMap wB ++ l7 := by
  subst h
  obtain rfl := rdNum_bad k7
  obtain rfl := rdNum_bad k6
  obtain rfl := (rdText_zero k5).1
  obtain rfl := (rdText_zero k4).1
  obtain rfl := rdNum_bad k3
  obtain rfl := rdNum_bad k2
  obtain ⟨g1, b1⟩ := num_back hl k1
  obtain ⟨g2, b2⟩ := num_back b1 k2
  obtain ⟨g3, b3⟩ := num_back b2 k3
  obtain ⟨g4, b4⟩ := text_back b3 k4
  obtain ⟨g5, b5⟩ := text_back b4 k5
  obtain ⟨g6, b6⟩ := num_back b5 k6
  obtain ⟨g7, b7⟩ := num_back b6 k7
  rw [g1, g2, g3, g4, g5, g6, g7]
  simp
/-- Rounds without end. -/
theorem rounds {σ ρ : Type} (P : σ → Prop) (step : σ → ρ → σ → Prop) (h : ∀ s, P s → ∃ r s', step s r s' ∧ P s') (s0 : σ) (h0 : P s0) : ∃ (S : Nat → σ) (R : Nat → ρ), S 0 = s0 ∧ ∀ i, step (S i) (R i) (S (i + 1)) ∧ P (S i) := by
  have hc : ∀ s : {s // P s}, ∃ x : ρ × {s // P s}, step s.1 x.1 x.2.1 := fun s => by
    obtain ⟨r, s', h1, h2⟩ := h s.1 s.2
    exact ⟨(r, ⟨s', h2⟩), h1⟩
  let nx : {s // P s} → ρ × {s // P s} := fun s => (hc s).choose
  have hn : ∀ s, step s.1 (nx s).1 (nx s).2.1 := fun s => (hc s).choose_spec
  let S : Nat → {s // P s} := fun n => Nat.rec ⟨s0, h0⟩ (fun _ s => (nx s).2) n
  exact ⟨fun n => (S n).1, fun n => (nx (S n)).1, rfl, fun i => ⟨hn (S i), (S i).2⟩⟩
theorem ba_loop (s : ByteArray) : ∀ (n i : Nat) (r : List UInt8), n = s.size - i → (ByteArray.toList.loop s i r).length = r.length + n := by
  intro n
  induction n with
  | zero =>
    intro i r h
    rw [ByteArray.toList.loop, if_neg (by omega)]
    simp
  | succ n ih =>
    intro i r h
    rw [ByteArray.toList.loop, if_pos (by omega), ih (i + 1) _ (by omega)]
    simp only [List.length_cons]
    omega
theorem ba_nil {s : ByteArray} (h : s.toList = []) : s = ⟨#[]⟩ := by
  have h1 := ba_loop s s.size 0 [] (by omega)
  have h2 : s.size = 0 := by
    have : (ByteArray.toList.loop s 0 []).length = 0 := by
      have h3 : ByteArray.toList.loop s 0 [] = [] := h
      rw [h3]; rfl
    rw [this] at h1
    simpa using h1.symm
  obtain ⟨a⟩ := s
  have : a = #[] := Array.eq_empty_of_size_eq_zero h2
  rw [this]

/-- An entry's bytes. -/
def opBytes (r : ERow) : List Int := ([r.o0, r.o1, r.o2] : List Int).flatMap wB ++ ([r.o3, r.o4] : List ByteArray).flatMap wT ++ ([r.o5, r.o6] : List Int).flatMap wB
def eBytes (r : ERow) : List Int := wB r.k ++ (if r.k = 1 then opBytes r else if r.k = 2 ∨ r.k = 3 then wB r.n else wB r.n ++ (wB r.ep ++ (wB r.by_ ++ (wB (r.ch.length : Int) ++ r.ch.flatMap wB))))
def OpOk (kd px py : Int) (key val : ByteArray) (cli seq : Int) : Prop := 1 ≤ kd ∧ kd ≤ 3 ∧ 0 ≤ px ∧ px ≤ 65535 ∧ 0 ≤ py ∧ py ≤ 65535 ∧ (key.size : Int) ≤ 16 ∧ (val.size : Int) ≤ 32 ∧ 0 ≤ cli ∧ cli ≤ 7 ∧ 1 ≤ seq ∧ seq ≤ 1099511627776
def NoOp (r : ERow) : Prop := r.o0 = 0 ∧ r.o1 = 0 ∧ r.o2 = 0 ∧ r.o3 = ⟨#[]⟩ ∧ r.o4 = ⟨#[]⟩ ∧ r.o5 = 0 ∧ r.o6 = 0
/-- What Right tells of an entry. -/
def ERight (r : ERow) : Prop :=
  (r.k = 1 ∧ OpOk r.o0 r.o1 r.o2 r.o3 r.o4 r.o5 r.o6 ∧ point_RightOp.f 100 r.o0 r.o1 r.o2 r.o3 r.o4 r.o5 r.o6 = some true ∧ r.n = 0 ∧ r.ep = 0 ∧ r.by_ = 0 ∧ r.ch = []) ∨
  ((r.k = 2 ∨ r.k = 3) ∧ NoOp r ∧ (0 ≤ r.n ∧ r.n < 8) ∧ r.ep = 0 ∧ r.by_ = 0 ∧ r.ch = []) ∨
  ((r.k = 4 ∨ r.k = 5) ∧ NoOp r ∧ (0 ≤ r.n ∧ r.n < 8) ∧ (0 ≤ r.by_ ∧ r.by_ < 8) ∧ (1 ≤ r.ep ∧ r.ep ≤ 1099511627776) ∧ ChainOk r.ch)
theorem op_right (kd px py : Int) (key val : ByteArray) (cli seq : Int) : ∃ b, point_RightOp.f 100 kd px py key val cli seq = some b ∧ (b = true → OpOk kd px py key val cli seq) := by
  unfold point_RightOp.f OpOk
  simp only [from_eq, cell_eq, all_seven, Option.bind_some]
  split
  · refine ⟨_, rfl, fun h => ?_⟩
    simp only [Bool.and_eq_true, decide_eq_true_eq] at h
    obtain ⟨⟨⟨⟨⟨⟨h1, h2⟩, h3⟩, h4⟩, h5⟩, h6⟩, h7⟩ := h
    omega
  · refine ⟨_, rfl, fun h => ?_⟩
    simp only [Bool.and_eq_true, decide_eq_true_eq] at h
    obtain ⟨⟨⟨⟨⟨⟨h1, h2⟩, h3⟩, h4⟩, h5⟩, h6⟩, h7⟩ := h
    omega
theorem rest_eq (a0 a1 a2 a3 : Int) (a4 a5 : ByteArray) (a6 a7 a8 a9 a10 : Int) (l : List Int) : entry_Entry_rest.f a0 a1 a2 a3 a4 a5 a6 a7 a8 a9 a10 l = some (a1, a2, a3, a4, a5, a6, a7, a8, a9, a10) := rfl
theorem noop_of {a1 a2 a3 : Int} {a4 a5 : ByteArray} {a6 a7 : Int} (h : (a1 == 0 && ((a2 == 0 && (a3 == 0)) && (a4.toList == ([] : List UInt8) && (a5.toList == ([] : List UInt8) && (a6 == 0 && (a7 == 0)))))) = true) : a1 = 0 ∧ a2 = 0 ∧ a3 = 0 ∧ a4 = ⟨#[]⟩ ∧ a5 = ⟨#[]⟩ ∧ a6 = 0 ∧ a7 = 0 := by
  simp only [Bool.and_eq_true, beq_iff_eq] at h
  obtain ⟨h1, ⟨h2, h3⟩, h4, h5, h6, h7⟩ := h
  exact ⟨h1, h2, h3, ba_nil h4, ba_nil h5, h6, h7⟩
theorem len_zero {l : List Int} (h : ((l.length : Int) == 0) = true) : l = [] := by
  have := beq_iff_eq.mp h
  exact List.eq_nil_of_length_eq_zero (by omega)
theorem eright_facts (r : ERow) (hl : r.ch.length ≤ 60) : ∃ b, entry_Right.f 100 r.k r.o0 r.o1 r.o2 r.o3 r.o4 r.o5 r.o6 r.n r.ep r.by_ r.ch = some b ∧ (b = true → ERight r) := by
  obtain ⟨a0, a1, a2, a3, a4, a5, a6, a7, a8, a9, a10, l⟩ := r
  dsimp only at hl ⊢
  have c1 : ∀ n, slices_Contains_int_int.f 98 l n = some (decide (n ∈ l)) := fun n => contains_eq n (by omega) (by omega)
  obtain ⟨Z, hZ⟩ : ∃ Z, (a1 == 0 && ((a2 == 0 && (a3 == 0)) && (a4.toList == ([] : List UInt8) && (a5.toList == ([] : List UInt8) && (a6 == 0 && (a7 == 0)))))) = Z := ⟨_, rfl⟩
  have hno : Z = true → NoOp ⟨a0, a1, a2, a3, a4, a5, a6, a7, a8, a9, a10, l⟩ := fun q => noop_of (hZ.trans q)
  unfold entry_Right.f
  by_cases k1 : a0 = 1
  · rw [if_pos k1]
    obtain ⟨b, h1, h2⟩ := op_right a1 a2 a3 a4 a5 a6 a7
    rw [h1]
    simp only [Option.bind_some, rest_eq, beq_self_eq_true, Bool.true_and]
    cases b
    · exact ⟨false, rfl, by simp⟩
    · rw [if_pos rfl]
      by_cases q : (a8 == 0 && (a9 == 0 && a10 == 0)) = true
      · rw [if_pos q]
        simp only [Bool.and_eq_true, beq_iff_eq] at q
        exact ⟨_, rfl, fun g => .inl ⟨k1, h2 rfl, h1, q.1, q.2.1, q.2.2, len_zero g⟩⟩
      · rw [if_neg q]
        exact ⟨false, rfl, by simp⟩
  rw [if_neg k1]
  have J1 : ∀ x : Bool, (x = true → a0 = 4 ∨ a0 = 5) → ∃ b, entry_Right.j1 99 x a0 a1 a2 a3 a4 a5 a6 a7 a8 a9 a10 l = some b ∧ (b = true → ERight ⟨a0, a1, a2, a3, a4, a5, a6, a7, a8, a9, a10, l⟩) := fun x hx => by
    rw [entry_Right.j1, hZ]
    simp only [node_eq, chain_eq, c1, Option.bind_some]
    cases x
    · exact ⟨false, rfl, by simp⟩
    cases Z
    · exact ⟨false, rfl, by simp⟩
    by_cases n1 : 0 ≤ a8 ∧ a8 < 8
    rotate_left
    · simp only [n1, decide_false, if_true, if_false, Bool.false_eq_true]; exact ⟨false, rfl, by simp⟩
    by_cases n2 : 0 ≤ a10 ∧ a10 < 8
    rotate_left
    · simp only [n1, n2, decide_true, decide_false, if_true, if_false, Bool.false_eq_true]; exact ⟨false, rfl, by simp⟩
    by_cases n3 : a9 ≥ 1
    rotate_left
    · simp only [n1, n2, n3, decide_true, decide_false, if_true, if_false, Bool.false_eq_true]; exact ⟨false, rfl, by simp⟩
    by_cases n4 : a9 ≤ 1099511627776
    rotate_left
    · simp only [n1, n2, n3, n4, decide_true, decide_false, if_true, if_false, Bool.false_eq_true]; exact ⟨false, rfl, by simp⟩
    by_cases n5 : ChainOk l
    rotate_left
    · simp only [n1, n2, n3, n4, n5, decide_true, decide_false, if_true, if_false, Bool.false_eq_true]; exact ⟨false, rfl, by simp⟩
    by_cases n6 : a8 ∈ l
    rotate_left
    · simp only [n1, n2, n3, n4, n5, n6, decide_true, decide_false, if_true, if_false, Bool.false_eq_true]; exact ⟨false, rfl, by simp⟩
    simp only [n1, n2, n3, n4, n5, n6, decide_true, if_true]
    exact ⟨_, rfl, fun _ => .inr (.inr ⟨hx rfl, hno rfl, n1, n2, ⟨n3, n4⟩, n5⟩)⟩
  have J0 : ∀ x : Bool, (x = true → a0 = 2 ∨ a0 = 3) → ∃ b, entry_Right.j0 100 a0 x a0 a1 a2 a3 a4 a5 a6 a7 a8 a9 a10 l = some b ∧ (b = true → ERight ⟨a0, a1, a2, a3, a4, a5, a6, a7, a8, a9, a10, l⟩) := fun x hx => by
    rw [entry_Right.j0]
    cases x
    · simp only [Bool.false_eq_true, if_false]
      by_cases k4 : a0 = 4
      · rw [if_pos k4]; exact J1 _ (fun _ => .inl k4)
      · rw [if_neg k4]; exact J1 _ (fun q => .inr (beq_iff_eq.mp q))
    · simp only [if_true, node_eq, rest_eq, Option.bind_some, hZ, beq_self_eq_true, Bool.true_and]
      by_cases n1 : 0 ≤ a8 ∧ a8 < 8
      rotate_left
      · simp only [n1, decide_false, if_false, Bool.false_eq_true]; exact ⟨false, rfl, by simp⟩
      simp only [n1, and_self, decide_true, if_true]
      by_cases q : (Z && (a9 == 0 && a10 == 0)) = true
      · rw [if_pos q]
        simp only [Bool.and_eq_true, beq_iff_eq] at q
        exact ⟨_, rfl, fun g => .inr (.inl ⟨hx rfl, hno q.1, n1, q.2.1, q.2.2, len_zero g⟩)⟩
      · rw [if_neg q]
        exact ⟨false, rfl, by simp⟩
  by_cases k2 : a0 = 2
  · rw [if_pos k2]; exact J0 _ (fun _ => .inl k2)
  · rw [if_neg k2]; exact J0 _ (fun q => .inr (beq_iff_eq.mp q))
/- Put -/
theorem wB_g (k : Nat) (n : Int) : wire_Num.f (k + 10) n = some (wB n, wE n) := by
  unfold wB wE
  by_cases h : 0 ≤ n ∧ n ≤ 9007199254740992
  · rw [if_pos h, if_pos h]
    exact wnum_yes h.1 h.2 k
  · rw [if_neg h, if_neg h]
    exact wnum_no (by omega) (k + 9)
theorem nums_from (l : List Int) (hl : l.length ≤ 1000) : ∀ (m i k : Nat) (acc : List Int), i + m = l.length → m + 12 ≤ k → acc.length + 9 * m ≤ 100000 → entry_nums.l0 k acc l (l.length : Int) (i : Int) = some (acc ++ (l.drop i).flatMap wB) := by
  intro m
  induction m with
  | zero =>
    intro i k acc h hk hb
    obtain ⟨k, rfl⟩ : ∃ j, k = j + 1 := ⟨k - 1, by omega⟩
    rw [entry_nums.l0, if_neg (by omega), List.drop_eq_nil_of_le (by omega)]
    simp
  | succ m ih =>
    intro i k acc h hk hb
    obtain ⟨k, rfl⟩ : ∃ j, k = j + 1 + 10 := ⟨k - 11, by omega⟩
    have hi : i < l.length := by omega
    have hw := wB_g (k) (rd l (i : Int))
    have hlen := wB_len (rd l (i : Int))
    have hrd := rd_get l i hi
    rw [entry_nums.l0, if_pos (by omega), if_pos (by omega), if_pos (by omega)]
    rw [show k + 10 = k + 10 from rfl, hw, Option.bind_some]
    dsimp only
    have hsz : acc.length + (wB (rd l (i : Int))).length < 140737488355328 := Nat.lt_of_le_of_lt (show acc.length + (wB (rd l (i : Int))).length ≤ 100000 by omega) (by decide)
    rw [if_pos hsz, w_succ i (by omega), ih (i + 1) (k + 10) _ (by omega) (by omega) (by rw [List.length_append]; omega), List.drop_eq_getElem_cons hi, List.flatMap_cons, hrd, List.append_assoc]
theorem nums_eq {k : Nat} {acc l : List Int} (hl : l.length ≤ 60) (hk : 80 ≤ k) (ha : acc.length ≤ 90000) : entry_nums.f k acc l = some (acc ++ l.flatMap wB) := by
  unfold entry_nums.f
  exact nums_from l (by omega) l.length 0 k acc (by omega) (by omega) (by omega)
theorem flat_len : ∀ l : List Int, (l.flatMap wB).length ≤ 9 * l.length
  | [] => by simp
  | z :: l => by
    have := flat_len l
    have := wB_len z
    rw [List.flatMap_cons, List.length_append, List.length_cons]
    omega
theorem opBytes_len {r : ERow} (h : OpOk r.o0 r.o1 r.o2 r.o3 r.o4 r.o5 r.o6) : (opBytes r).length ≤ 1063 := by
  obtain ⟨_, _, _, _, _, _, h3, h4, _⟩ := h
  have l0 := wB_len r.o0
  have l1 := wB_len r.o1
  have l2 := wB_len r.o2
  have l3 := wT_len r.o3 (by omega)
  have l4 := wT_len r.o4 (by omega)
  have l5 := wB_len r.o5
  have l6 := wB_len r.o6
  unfold opBytes
  simp only [List.length_append, List.flatMap_cons, List.flatMap_nil, List.length_nil]
  omega
theorem eBytes_len {r : ERow} (h : ERight r) (hl : r.ch.length ≤ 60) : (eBytes r).length ≤ 2000 := by
  have l0 := wB_len r.k
  have l1 := wB_len r.n
  have l2 := wB_len r.ep
  have l3 := wB_len r.by_
  have l4 := wB_len (r.ch.length : Int)
  have l5 := flat_len r.ch
  unfold eBytes
  rcases h with ⟨hk, ho, _⟩ | ⟨hk, _⟩ | ⟨hk, _⟩
  · have := opBytes_len ho
    rw [if_pos hk, List.length_append]
    omega
  · rw [if_neg (by omega), if_pos hk, List.length_append]
    omega
  · rw [if_neg (by omega), if_neg (by omega)]
    simp only [List.length_append]
    omega
theorem putop_eq {r : ERow} (h : OpOk r.o0 r.o1 r.o2 r.o3 r.o4 r.o5 r.o6) (hr : point_RightOp.f 100 r.o0 r.o1 r.o2 r.o3 r.o4 r.o5 r.o6 = some true) : point_PutOp.f 100 r.o0 r.o1 r.o2 r.o3 r.o4 r.o5 r.o6 = some (opBytes r, 0) := by
  have hln := opBytes_len h
  obtain ⟨_, _, _, _, _, _, h3, h4, _⟩ := h
  have e : wB r.o0 ++ (wB r.o1 ++ (wB r.o2 ++ (wT r.o3 ++ (wT r.o4 ++ (wB r.o5 ++ wB r.o6))))) = opBytes r := by
    unfold opBytes
    simp
  unfold point_PutOp.f
  rw [hr]
  simp only [Option.bind_some, wB_f, wT_f r.o3 (by omega), wT_f r.o4 (by omega), e]
  rw [if_pos (Nat.le_trans hln (by decide)), if_pos trivial]
theorem eput_eq (r : ERow) (hl : r.ch.length ≤ 60) {b : Bool} (hb : entry_Right.f 100 r.k r.o0 r.o1 r.o2 r.o3 r.o4 r.o5 r.o6 r.n r.ep r.by_ r.ch = some b) (hr : b = true → ERight r) : entry_Put.f 100 r.k r.o0 r.o1 r.o2 r.o3 r.o4 r.o5 r.o6 r.n r.ep r.by_ r.ch = some (if b then eBytes r else [], if b then 0 else 1) := by
  unfold entry_Put.f
  rw [hb, Option.bind_some]
  cases b
  · rfl
  have hr := hr rfl
  have hsz := eBytes_len hr hl
  rw [if_pos rfl, nums_eq (by simp) (by decide) (by simp), Option.bind_some]
  have e1 : ([] : List Int) ++ ([r.k] : List Int).flatMap wB = wB r.k := by simp
  rw [e1]
  have l0 := wB_len r.k
  rcases hr with ⟨hk, ho, hp, _⟩ | ⟨hk, _⟩ | ⟨hk, _, _, _, _, hc⟩
  · have := opBytes_len ho
    rw [if_pos hk, putop_eq ho hp, Option.bind_some]
    dsimp only
    rw [if_pos (Nat.lt_of_le_of_lt (show (wB r.k).length + (opBytes r).length ≤ 2000 by omega) (by decide))]
    unfold eBytes
    rw [if_pos hk]
    rfl
  · have hj : entry_Put.j0 100 (wB r.k) true r.k r.o0 r.o1 r.o2 r.o3 r.o4 r.o5 r.o6 r.n r.ep r.by_ r.ch = some (eBytes r, 0) := by
      rw [entry_Put.j0, if_pos rfl, nums_eq (by simp) (by decide) (by omega), Option.bind_some]
      unfold eBytes
      rw [if_neg (by omega), if_pos hk]
      simp
    rw [if_neg (by omega)]
    rcases hk with hk | hk
    · rw [if_pos hk, show (r.k == 2) = true from beq_iff_eq.mpr hk]
      exact hj
    · rw [if_neg (by omega), show (r.k == 3) = true from beq_iff_eq.mpr hk]
      exact hj
  · rw [if_neg (by omega), if_neg (by omega), show (r.k == 3) = false from beq_eq_false_iff_ne.mpr (by omega), entry_Put.j0, if_neg (by simp)]
    unfold entry_PutChain.f
    rw [chain_eq, decide_eq_true hc, Option.bind_some, if_pos rfl, nums_eq (by simp) (by decide) (by simp), Option.bind_some]
    have l4 := wB_len (r.ch.length : Int)
    have l5 := flat_len r.ch
    have e2 : ([] : List Int) ++ ([(r.ch.length : Int)] : List Int).flatMap wB = wB (r.ch.length : Int) := by simp
    rw [e2, nums_eq hl (by decide) (by omega), Option.bind_some, Option.bind_some, nums_eq (by simp) (by decide) (by omega), Option.bind_some]
    have e3 : wB r.k ++ ([r.n, r.ep, r.by_] : List Int).flatMap wB = wB r.k ++ (wB r.n ++ (wB r.ep ++ wB r.by_)) := by simp
    rw [e3]
    dsimp only
    have l1 := wB_len r.n
    have l2 := wB_len r.ep
    have l3 := wB_len r.by_
    have hs : (wB r.k ++ (wB r.n ++ (wB r.ep ++ wB r.by_))).length + (wB (r.ch.length : Int) ++ r.ch.flatMap wB).length < 140737488355328 := Nat.lt_of_le_of_lt (show _ ≤ 2000 by simp only [List.length_append]; omega) (by decide)
    rw [if_pos hs]
    show _ = some (eBytes r, (0 : Int))
    unfold eBytes
    rw [if_neg (by omega), if_neg (by omega)]
    simp
/- What was put is taken as it was. -/
theorem firsts_get (ch : List Int) : ∀ j, j ≤ ch.length → firsts (fun i => ch.getD i 0) j = ch.take j
  | 0, _ => by simp [firsts]
  | j + 1, h => by
    have hj : j < ch.length := by omega
    rw [firsts, firsts_get ch j (by omega), ← List.take_append_getElem hj]
    simp [hj]
theorem chain_len8 : ∀ (n : Nat) (l : List Int), l.Nodup → (∀ z ∈ l, 0 ≤ z ∧ z < (n : Int)) → l.length ≤ n
  | 0, l, _, h => by
    cases l with
    | nil => simp
    | cons x l => have := h x (by simp); omega
  | n + 1, l, hd, h => by
    by_cases c : (n : Int) ∈ l
    · have h1 := without_len hd c
      have h2 := chain_len8 n (l.filter (· != (n : Int))) (hd.sublist List.filter_sublist) (fun z hz => by
        obtain ⟨hm, hn⟩ := List.mem_filter.mp hz
        have hn : z ≠ (n : Int) := bne_iff_ne.mp hn
        have := h z hm
        omega)
      omega
    · have h2 := chain_len8 n l hd (fun z hz => by
        have := h z hz
        have hn : z ≠ (n : Int) := fun q => c (q ▸ hz)
        omega)
      omega
theorem chain_back {ch : List Int} (hc : ChainOk ch) (rest : List Int) (w0 : World) (g : Nat) : ChTake w0 g (wB (ch.length : Int) ++ (ch.flatMap wB ++ rest)) 0 ch rest 0 := by
  have h8 := chain_len8 8 ch hc.2 hc.1
  intro W hI hB
  have hw : wB (ch.length : Int) = numB 8 (ch.length : Int) := if_pos ⟨by omega, by omega⟩
  have h0 : rdUpto (wB (ch.length : Int) ++ (ch.flatMap wB ++ rest)) 0 true 8 = ((ch.length : Int), ch.flatMap wB ++ rest, 0) := by
    rw [hw]
    exact rdUpto_numB (by omega) _ (by omega)
  have := entry_TakeChain.calls 100 g _ 0 ch.length (fun i => (ch.drop i).flatMap wB ++ rest) (fun _ => 0) (fun i => ch.getD i 0) h0 (fun i hi => by
    have hz := hc.1 ch[i] (List.getElem_mem hi)
    rw [List.drop_eq_getElem_cons hi, List.flatMap_cons, List.append_assoc, rdNum_B _ (by omega)]
    simp [hi]) h8 true (by rw [firsts_get ch _ (Nat.le_refl _), List.take_length, chain_eq, decide_eq_true hc]) w0 W hI hB
  rw [firsts_get ch _ (Nat.le_refl _), List.take_length, show tkE true 0 = 0 from rfl, if_pos rfl] at this
  simpa using this
theorem emid_back {r : ERow} (h : ERight r) (rest : List Int) (w0 : World) (g : Nat) : EMid w0 g (eBytes r ++ rest) 0 r rest 0 := by
  obtain ⟨a0, a1, a2, a3, a4, a5, a6, a7, a8, a9, a10, l⟩ := r
  unfold eBytes
  rcases h with ⟨hk, ho, hp, h1, h2, h3, h4⟩ | ⟨hk, hno, hn, h2, h3, h4⟩ | ⟨hk, hno, hn, hb, he, hc⟩
  · dsimp only at hk ho hp h1 h2 h3 h4
    subst hk h1 h2 h3 h4
    rw [if_pos rfl, List.append_assoc]
    refine ⟨1, _, 0, rdNum_B (n := 1) _ (by decide), .inl ⟨rfl, a1, a2, a3, a4, a5, a6, a7, rfl, ?_⟩⟩
    intro W hI hB
    obtain ⟨m0, m1, m2, m3, m4, m5, k1, k2, k3, k4, k5, k6, k7⟩ := back_op a1 a2 a3 a4 a5 a6 a7 ho rest
    have := point_TakeOp.calls 100 g _ 0 a1 m0 0 k1 a2 m1 0 k2 a3 m2 0 k3 (bytesOf a4) m3 0 k4 (bytesOf a5) m4 0 k5 a6 m5 0 k6 a7 rest 0 k7 true (by rw [str_bytes, str_bytes]; exact hp) w0 W hI hB
    rw [show tkE true 0 = 0 from rfl, if_pos rfl, str_bytes, str_bytes] at this
    exact this
  · dsimp only [NoOp] at hk hno hn h2 h3 h4
    obtain ⟨rfl, rfl, rfl, rfl, rfl, rfl, rfl⟩ := hno
    subst h2 h3 h4
    dsimp only
    rw [if_neg (by omega), if_pos hk, List.append_assoc]
    exact ⟨a0, _, 0, rdNum_B _ (by omega), .inr (.inl ⟨hk, a8, rfl, rdNum_B _ (by omega)⟩)⟩
  · dsimp only [NoOp] at hk hno hn hb he hc
    obtain ⟨rfl, rfl, rfl, rfl, rfl, rfl, rfl⟩ := hno
    dsimp only
    rw [if_neg (by omega), if_neg (by omega)]
    simp only [List.append_assoc]
    exact ⟨a0, _, 0, rdNum_B _ (by omega), .inr (.inr (.inl ⟨hk, a8, a9, a10, l, _, 0, _, 0, _, 0, rfl, rdNum_B _ (by omega), rdNum_B _ (by omega), rdNum_B _ (by omega), chain_back hc rest w0 g⟩))⟩
/- What is taken was put so. -/
theorem taken_e {l0 : List Int} {e0 kd : Int} {l1 : List Int} {e1 px : Int} {l2 : List Int} {e2 py : Int} {l3 : List Int} {e3 : Int} {key l4 : List Int} {e4 : Int} {val l5 : List Int} {e5 cli : Int} {l6 : List Int} {e6 seq : Int} {l7 : List Int} {e7 : Int} (k1 : rdNum l0 e0 true = (kd, l1, e1)) (k2 : rdNum l1 e1 true = (px, l2, e2)) (k3 : rdNum l2 e2 true = (py, l3, e3)) (k4 : rdText l3 e3 true 32 = (key, l4, e4)) (k5 : rdText l4 e4 true 32 = (val, l5, e5)) (k6 : rdNum l5 e5 true = (cli, l6, e6)) (k7 : rdNum l6 e6 true = (seq, l7, e7)) (h : e7 = 0) : e0 = 0 := by
  subst h
  obtain rfl := rdNum_bad k7
  obtain rfl := rdNum_bad k6
  obtain rfl := (rdText_zero k5).1
  obtain rfl := (rdText_zero k4).1
  obtain rfl := rdNum_bad k3
  obtain rfl := rdNum_bad k2
  exact rdNum_bad k1
theorem upto_bad {l : List Int} {e : Int} (z : e ≠ 0) {n : Nat} {L : Nat → List Int} {E N : Nat → Int} (h0 : rdUpto l e true 8 = ((n : Int), L 0, E 0)) (hS : ∀ i, i < n → rdNum (L i) (E i) true = (N i, L (i + 1), E (i + 1))) : E n ≠ 0 := by
  have hE0 : ∀ i, i ≤ n → E i ≠ 0 := by
    intro i
    induction i with
    | zero =>
      intro _ q
      rw [q] at h0
      exact z (rdNum_bad (rdUpto_zero h0).1)
    | succ i ih =>
      intro h q
      have h2 := hS i (by omega)
      rw [q] at h2
      exact ih (by omega) (rdNum_bad h2)
  exact hE0 n (Nat.le_refl _)
theorem chain_taken {l : List Int} {e : Int} (hl : ∀ z ∈ l, 0 ≤ z ∧ z < 256) {n : Nat} {L : Nat → List Int} {E N : Nat → Int} (h0 : rdUpto l e true 8 = ((n : Int), L 0, E 0)) (hS : ∀ i, i < n → rdNum (L i) (E i) true = (N i, L (i + 1), E (i + 1))) (hE : E n = 0) : l = wB (n : Int) ++ ((firsts N n).flatMap wB ++ L n) := by
  have hE0 : ∀ m i, i + m = n → E i = 0 := by
    intro m
    induction m with
    | zero =>
      intro i h
      obtain rfl : i = n := by omega
      exact hE
    | succ m ih =>
      intro i h
      have h1 := ih (i + 1) (by omega)
      have h2 := hS i (by omega)
      rw [h1] at h2
      exact rdNum_bad h2
  have e00 := hE0 n 0 (by omega)
  rw [e00] at h0
  have h1 := (rdUpto_zero h0).1
  obtain rfl := rdNum_bad h1
  obtain ⟨g1, b1⟩ := num_back hl h1
  have hup : ∀ i, i ≤ n → L 0 = (firsts N i).flatMap wB ++ L i ∧ ∀ z ∈ L i, 0 ≤ z ∧ z < 256 := by
    intro i
    induction i with
    | zero => intro _; exact ⟨by simp [firsts], b1⟩
    | succ i ih =>
      intro h
      obtain ⟨q1, q2⟩ := ih (by omega)
      have h2 := hS i (by omega)
      rw [hE0 (n - i) i (by omega), hE0 (n - (i + 1)) (i + 1) (by omega)] at h2
      obtain ⟨q3, q4⟩ := num_back q2 h2
      refine ⟨?_, q4⟩
      rw [q1, firsts, List.flatMap_append, List.append_assoc]
      congr 1
      rw [q3]
      simp
  rw [g1, (hup n (Nat.le_refl _)).1]
theorem chain_read (l : List Int) (e : Int) : ∃ (n : Nat) (L : Nat → List Int) (E N : Nat → Int), rdUpto l e true 8 = ((n : Int), L 0, E 0) ∧ (∀ i, i < n → rdNum (L i) (E i) true = (N i, L (i + 1), E (i + 1))) ∧ n ≤ 8 := by
  have hnn := (rdUpto_nn l e true 8).1
  have h8 : (rdUpto l e true 8).1 ≤ 8 := by
    by_cases c : (rdNum l e true).1 > 8
    · rw [rdUpto_pos c]; simp
    · rw [rdUpto_neg c]; omega
  obtain ⟨⟨q, la, ea⟩, k1⟩ : ∃ x, rdUpto l e true 8 = x := ⟨_, rfl⟩
  rw [k1] at hnn h8
  dsimp only at hnn h8
  obtain ⟨n, rfl⟩ := Int.eq_ofNat_of_zero_le hnn
  obtain ⟨S, N, hS0, hS⟩ := rounds (σ := List Int × Int) (ρ := Int) (fun _ => True) (fun s r s' => rdNum s.1 s.2 true = (r, s'.1, s'.2)) (fun s _ => ⟨(rdNum s.1 s.2 true).1, ((rdNum s.1 s.2 true).2.1, (rdNum s.1 s.2 true).2.2), rfl, trivial⟩) (la, ea) trivial
  exact ⟨n, fun i => (S i).1, fun i => (S i).2, N, by rw [k1]; show _ = ((n : Int), (S 0).1, (S 0).2); rw [hS0], fun i _ => (hS i).1, by omega⟩
theorem tsize (z : Int) {l v : List Int} {e e' : Int} {l' : List Int} (h : rdText l e true 32 = (v, l', e')) : (if z = 0 then strOfNums v else (⟨#[]⟩ : ByteArray)).size ≤ 32 := by
  have := text_le l e
  rw [h] at this
  dsimp only at this
  by_cases q : z = 0
  · rw [if_pos q, str_size']
    exact this
  · rw [if_neg q]
    decide
/-- A Take of any bytes. -/
theorem e_taken {l0 : List Int} (hl : ∀ z ∈ l0, 0 ≤ z ∧ z < 256) : ∃ (r : ERow) (l2 : List Int) (e2 : Int) (ok : Bool), (∀ w0 g, EMid w0 g l0 0 r l2 e2) ∧ entry_Right.f 100 r.k r.o0 r.o1 r.o2 r.o3 r.o4 r.o5 r.o6 r.n r.ep r.by_ r.ch = some ok ∧ (ok = true → ERight r) ∧ r.ch.length ≤ 8 ∧ (tkE ok e2 = 0 → l0 = eBytes r ++ l2) := by
  obtain ⟨⟨kd, l1, e1⟩, k1⟩ : ∃ x, rdNum l0 0 true = x := ⟨_, rfl⟩
  by_cases c1 : kd = 1
  · subst c1
    obtain ⟨⟨x0, m1, f1⟩, p1⟩ : ∃ x, rdNum l1 e1 true = x := ⟨_, rfl⟩
    obtain ⟨⟨x1, m2, f2⟩, p2⟩ : ∃ x, rdNum m1 f1 true = x := ⟨_, rfl⟩
    obtain ⟨⟨x2, m3, f3⟩, p3⟩ : ∃ x, rdNum m2 f2 true = x := ⟨_, rfl⟩
    obtain ⟨⟨x3, m4, f4⟩, p4⟩ : ∃ x, rdText m3 f3 true 32 = x := ⟨_, rfl⟩
    obtain ⟨⟨x4, m5, f5⟩, p5⟩ : ∃ x, rdText m4 f4 true 32 = x := ⟨_, rfl⟩
    obtain ⟨⟨x5, m6, f6⟩, p6⟩ : ∃ x, rdNum m5 f5 true = x := ⟨_, rfl⟩
    obtain ⟨⟨x6, m7, f7⟩, p7⟩ : ∃ x, rdNum m6 f6 true = x := ⟨_, rfl⟩
    obtain ⟨ro, hro, _⟩ := op_right x0 x1 x2 (strOfNums x3) (strOfNums x4) x5 x6
    obtain ⟨rr, hrr⟩ : ∃ x : ERow, x = ⟨1, if tkE ro f7 = 0 then x0 else 0, if tkE ro f7 = 0 then x1 else 0, if tkE ro f7 = 0 then x2 else 0, if tkE ro f7 = 0 then strOfNums x3 else ⟨#[]⟩, if tkE ro f7 = 0 then strOfNums x4 else ⟨#[]⟩, if tkE ro f7 = 0 then x5 else 0, if tkE ro f7 = 0 then x6 else 0, 0, 0, 0, []⟩ := ⟨_, rfl⟩
    obtain ⟨ok, j1, j2⟩ := eright_facts rr (by rw [hrr]; simp)
    refine ⟨rr, m7, tkE ro f7, ok, fun w0 g => ⟨1, l1, e1, k1, .inl ⟨rfl, _, _, _, _, _, _, _, hrr, ?_⟩⟩, j1, j2, by rw [hrr]; simp, fun q => ?_⟩
    · intro W hI hB
      have := point_TakeOp.calls 100 g l1 e1 x0 m1 f1 p1 x1 m2 f2 p2 x2 m3 f3 p3 x3 m4 f4 p4 x4 m5 f5 p5 x5 m6 f6 p6 x6 m7 f7 p7 ro hro w0 W hI hB
      rw [zero_row7] at this
      exact this
    · obtain ⟨_, q1⟩ := tkE_zero q
      obtain ⟨_, q2⟩ := tkE_zero q1
      have he1 := taken_e p1 p2 p3 p4 p5 p6 p7 q2
      rw [he1] at k1 p1
      obtain ⟨g1, b1⟩ := num_back hl k1
      have g2 := taken_op b1 p1 p2 p3 p4 p5 p6 p7 q2
      rw [hrr]
      simp only [q1, if_true]
      unfold eBytes opBytes
      dsimp only
      rw [if_pos rfl, g1, g2]
      simp only [List.append_assoc]
  by_cases c2 : kd = 2 ∨ kd = 3
  · obtain ⟨⟨n, m2, f2⟩, k2⟩ : ∃ x, rdNum l1 e1 true = x := ⟨_, rfl⟩
    obtain ⟨ok, j1, j2⟩ := eright_facts ⟨kd, 0, 0, 0, ⟨#[]⟩, ⟨#[]⟩, 0, 0, n, 0, 0, []⟩ (by simp)
    refine ⟨⟨kd, 0, 0, 0, ⟨#[]⟩, ⟨#[]⟩, 0, 0, n, 0, 0, []⟩, m2, f2, ok, fun w0 g => ⟨kd, l1, e1, k1, .inr (.inl ⟨c2, n, rfl, k2⟩)⟩, j1, j2, by simp, fun q => ?_⟩
    obtain ⟨_, q2⟩ := tkE_zero q
    rw [q2] at k2
    have he1 := rdNum_bad k2
    rw [he1] at k1 k2
    obtain ⟨g1, b1⟩ := num_back hl k1
    obtain ⟨g2, b2⟩ := num_back b1 k2
    unfold eBytes
    dsimp only
    rw [if_neg (by omega), if_pos c2, g1, g2]
    simp only [List.append_assoc]
  by_cases c4 : kd = 4 ∨ kd = 5
  · obtain ⟨⟨n, m2, f2⟩, k2⟩ : ∃ x, rdNum l1 e1 true = x := ⟨_, rfl⟩
    obtain ⟨⟨ep, m3, f3⟩, k3⟩ : ∃ x, rdNum m2 f2 true = x := ⟨_, rfl⟩
    obtain ⟨⟨by_, m4, f4⟩, k4⟩ : ∃ x, rdNum m3 f3 true = x := ⟨_, rfl⟩
    obtain ⟨nc, L, E, N, vS0, vS, vn⟩ := chain_read m4 f4
    obtain ⟨okc, vc⟩ : ∃ b, entry_RightChain.f (firsts N nc) = some b := ⟨_, chain_eq _⟩
    have hfl := firsts_len N nc
    have hcl : (if tkE okc (E nc) = 0 then firsts N nc else []).length ≤ 8 := by
      split
      · omega
      · simp
    obtain ⟨ok, j1, j2⟩ := eright_facts ⟨kd, 0, 0, 0, ⟨#[]⟩, ⟨#[]⟩, 0, 0, n, ep, by_, if tkE okc (E nc) = 0 then firsts N nc else []⟩ (Nat.le_trans hcl (by decide))
    refine ⟨⟨kd, 0, 0, 0, ⟨#[]⟩, ⟨#[]⟩, 0, 0, n, ep, by_, if tkE okc (E nc) = 0 then firsts N nc else []⟩, L nc, tkE okc (E nc), ok, fun w0 g => ⟨kd, l1, e1, k1, .inr (.inr (.inl ⟨c4, n, ep, by_, _, m2, f2, m3, f3, m4, f4, rfl, k2, k3, k4, ?_⟩))⟩, j1, j2, hcl, fun q => ?_⟩
    · intro W hI hB
      exact entry_TakeChain.calls 100 g m4 f4 nc L E N vS0 vS vn okc vc w0 W hI hB
    obtain ⟨_, q1⟩ := tkE_zero q
    obtain ⟨_, q2⟩ := tkE_zero q1
    have hz4 : f4 = 0 := by
      by_cases z : f4 = 0
      · exact z
      · exact absurd q2 (upto_bad z vS0 vS)
    rw [hz4] at k4 vS0
    have he3 := rdNum_bad k4
    rw [he3] at k3 k4
    have he2 := rdNum_bad k3
    rw [he2] at k2 k3
    have he1 := rdNum_bad k2
    rw [he1] at k1 k2
    obtain ⟨g1, b1⟩ := num_back hl k1
    obtain ⟨g2, b2⟩ := num_back b1 k2
    obtain ⟨g3, b3⟩ := num_back b2 k3
    obtain ⟨g4, b4⟩ := num_back b3 k4
    have g5 := chain_taken b4 vS0 vS q2
    unfold eBytes
    dsimp only
    rw [if_neg (by omega), if_neg (by omega), if_pos q1, hfl, g1, g2, g3, g4]
    simp only [List.append_assoc]
    rw [← g5]
  · obtain ⟨ok, j1, j2⟩ := eright_facts ⟨kd, 0, 0, 0, ⟨#[]⟩, ⟨#[]⟩, 0, 0, 0, 0, 0, []⟩ (by simp)
    refine ⟨⟨kd, 0, 0, 0, ⟨#[]⟩, ⟨#[]⟩, 0, 0, 0, 0, 0, []⟩, l1, e1, ok, fun w0 g => ⟨kd, l1, e1, k1, .inr (.inr (.inr ⟨⟨c1, fun q => c2 (.inl q), fun q => c2 (.inr q), fun q => c4 (.inl q), fun q => c4 (.inr q)⟩, rfl, rfl, rfl⟩))⟩, j1, j2, by simp, fun q => ?_⟩
    obtain ⟨q1, _⟩ := tkE_zero q
    rcases j2 q1 with ⟨hk, _⟩ | ⟨hk, _⟩ | ⟨hk, _⟩
    · exact absurd hk c1
    · exact absurd hk c2
    · exact absurd hk c4
theorem eself_from (a : List Int) (hb : a.length ≤ 1000000) : ∀ (m i k : Nat), i + m = a.length → m < k → slices_Equal_int_int.l0 k a a (a.length : Int) (i : Int) = some true := by
  intro m
  induction m with
  | zero =>
    intro i k h hk
    obtain ⟨k, rfl⟩ : ∃ j, k = j + 1 := ⟨k - 1, by omega⟩
    rw [slices_Equal_int_int.l0, if_neg (by omega)]
  | succ m ih =>
    intro i k h hk
    obtain ⟨k, rfl⟩ : ∃ j, k = j + 1 := ⟨k - 1, by omega⟩
    rw [slices_Equal_int_int.l0, if_pos (by omega), if_pos (by omega), if_pos (by omega), if_pos (by omega), if_pos rfl, show wrap64 ((i : Int) + 1) = ((i + 1 : Nat) : Int) by unfold wrap64; omega]
    exact ih (i + 1) k (by omega) (by omega)
theorem esame_self {a0 a1 a2 a3 : Int} {a4 a5 : ByteArray} {a6 a7 a8 a9 a10 : Int} {l : List Int} (hl : l.length < 100) : entry_Same.f 100 a0 a1 a2 a3 a4 a5 a6 a7 a8 a9 a10 l a0 a1 a2 a3 a4 a5 a6 a7 a8 a9 a10 l = some true := by
  unfold entry_Same.f entry_Entry_rest.f slices_Equal_int_int.f
  rw [if_pos rfl, Option.bind_some, Option.bind_some]
  dsimp only
  rw [if_pos (by simp only [beq_self_eq_true, Bool.and_self]), if_pos rfl, show ((0 : Int)) = ((0 : Nat) : Int) from rfl, eself_from l (by omega) l.length 0 100 (by omega) hl]
  rfl
end Go.Proofs.Ytampppdjfbabiaa.PE
