/- What both Takes of an entry take: the same. -/
import Derived.Test.YtampppdjfbabiaaPEx2
import Derived.Test.YtampppdjfbabiaaPEx1
import Derived.Test.YtampppdjfbabiaaPEx4
import Derived.Test.YtampppdjfbabiaaPEx6
import Derived.Test.YtampppdjfbabiaaPEx5
namespace Go.Proofs.Ytampppdjfbabiaa.PE
open Go.RowKit Go.Proofs.YtampppdjfbabiaaW.PrintWords Go.Proofs.YtampppdjfbabiaaW.PrintLast Go.Proofs.YtampppdjfbabiaaW.PrintMore
set_option linter.unusedVariables false
set_option linter.unusedSimpArgs false
theorem rd_get (l : List Int) (i : Nat) (hi : i < l.length) : rd l (i : Int) = l[i] := by
  unfold rd
  rw [Int.toNat_natCast]
  simp [hi]
theorem w_succ (i : Nat) (h : i ≤ 1000000) : wrap64 ((i : Int) + 1) = ((i + 1 : Nat) : Int) := by unfold wrap64; omega
theorem mem_drop {l : List Int} {n : Int} {i : Nat} (hi : i < l.length) : n ∈ l.drop i ↔ n = l[i] ∨ n ∈ l.drop (i + 1) := by
  rw [List.drop_eq_getElem_cons hi, List.mem_cons]
theorem in_from (l : List Int) (n : Int) (hl : l.length ≤ 1000000) : ∀ (m i k : Nat), i + m = l.length → m < k → gleberef11_In.l0 k l n (i : Int) = some (decide (n ∈ l.drop i)) := by
  intro m
  induction m with
  | zero =>
    intro i k h hk
    obtain ⟨k, rfl⟩ : ∃ j, k = j + 1 := ⟨k - 1, by omega⟩
    rw [gleberef11_In.l0, if_neg (by omega), List.drop_eq_nil_of_le (by omega)]
    simp
  | succ m ih =>
    intro i k h hk
    obtain ⟨k, rfl⟩ : ∃ j, k = j + 1 := ⟨k - 1, by omega⟩
    have hi : i < l.length := by omega
    rw [gleberef11_In.l0, if_pos (by omega), if_pos (by omega), rd_get l i hi, w_succ i (by omega)]
    by_cases c : l[i] = n
    · rw [if_pos c, decide_eq_true ((mem_drop hi).mpr (.inl c.symm))]
    · rw [if_neg c, ih (i + 1) k (by omega) (by omega)]
      congr 1
      rw [decide_eq_decide, mem_drop hi]
      exact ⟨.inr, fun q => q.elim (fun e => absurd e.symm c) id⟩
theorem in_eq {l : List Int} (n : Int) {k : Nat} (hl : l.length < k) (hk : k ≤ 1000) : gleberef11_In.f k l n = some (decide (n ∈ l)) := in_from l n (by omega) l.length 0 k (by omega) hl
theorem idx_from (l : List Int) (n : Int) (hl : l.length ≤ 1000000) : ∀ (m i k : Nat), i + m = l.length → m < k → ∃ v : Int, slices_Index_int_int.l0 k l n (l.length : Int) (i : Int) = some v ∧ (v ≥ 0 ↔ n ∈ l.drop i) := by
  intro m
  induction m with
  | zero =>
    intro i k h hk
    obtain ⟨k, rfl⟩ : ∃ j, k = j + 1 := ⟨k - 1, by omega⟩
    rw [slices_Index_int_int.l0, if_neg (by omega), List.drop_eq_nil_of_le (by omega)]
    exact ⟨-1, rfl, by simp⟩
  | succ m ih =>
    intro i k h hk
    obtain ⟨k, rfl⟩ : ∃ j, k = j + 1 := ⟨k - 1, by omega⟩
    have hi : i < l.length := by omega
    rw [slices_Index_int_int.l0, if_pos (by omega), if_pos (by omega), if_pos (by omega), rd_get l i hi, w_succ i (by omega)]
    by_cases c : n = l[i]
    · rw [if_pos c]
      exact ⟨_, rfl, ⟨fun _ => (mem_drop hi).mpr (.inl c), fun _ => by omega⟩⟩
    · rw [if_neg c]
      obtain ⟨v, h1, h2⟩ := ih (i + 1) k (by omega) (by omega)
      exact ⟨v, h1, h2.trans ⟨fun q => (mem_drop hi).mpr (.inr q), fun q => ((mem_drop hi).mp q).elim (fun e => absurd e c) id⟩⟩
theorem contains_eq {l : List Int} (n : Int) {k : Nat} (hl : l.length < k) (hk : k ≤ 1000) : slices_Contains_int_int.f k l n = some (decide (n ∈ l)) := by
  unfold slices_Contains_int_int.f slices_Index_int_int.f
  obtain ⟨v, h1, h2⟩ := idx_from l n (by omega) l.length 0 k (by omega) hl
  have h1 : slices_Index_int_int.l0 k l n (l.length : Int) 0 = some v := h1
  rw [h1, Option.bind_some]
  congr 1
  rw [decide_eq_decide]
  exact h2
theorem same_from (a b : List Int) (hl : a.length = b.length) (hb : a.length ≤ 1000000) : ∀ (m i k : Nat), i + m = a.length → m < k → gleberef11_SameList.l0 k a b (i : Int) = some (decide (a.drop i = b.drop i)) := by
  intro m
  induction m with
  | zero =>
    intro i k h hk
    obtain ⟨k, rfl⟩ : ∃ j, k = j + 1 := ⟨k - 1, by omega⟩
    rw [gleberef11_SameList.l0, if_neg (by omega), List.drop_eq_nil_of_le (by omega), List.drop_eq_nil_of_le (by omega)]
    simp
  | succ m ih =>
    intro i k h hk
    obtain ⟨k, rfl⟩ : ∃ j, k = j + 1 := ⟨k - 1, by omega⟩
    have hi : i < a.length := by omega
    have hi2 : i < b.length := by omega
    rw [gleberef11_SameList.l0, if_pos (by omega), if_pos (by omega), if_pos (by omega), rd_get a i hi, rd_get b i hi2, w_succ i (by omega), List.drop_eq_getElem_cons hi, List.drop_eq_getElem_cons hi2]
    by_cases c : a[i] = b[i]
    · rw [if_pos c, ih (i + 1) k (by omega) (by omega)]
      congr 1
      rw [decide_eq_decide, List.cons.injEq]
      exact ⟨fun q => ⟨c, q⟩, fun q => q.2⟩
    · rw [if_neg c, decide_eq_false]
      intro q
      exact c (List.cons.inj q).1
theorem samel_eq {a b : List Int} {k : Nat} (hl : a.length < k) (hk : k ≤ 1000) : gleberef11_SameList.f k a b = some (decide (a = b)) := by
  unfold gleberef11_SameList.f
  by_cases c : a.length = b.length
  · rw [if_pos (by omega)]
    exact same_from a b c (by omega) a.length 0 k (by omega) hl
  · rw [if_neg (by omega), decide_eq_false (fun h => c (by rw [h]))]
/-- May it be a chain? -/
def ChainOk (l : List Int) : Prop := (∀ z ∈ l, 0 ≤ z ∧ z < 8) ∧ l.Nodup
instance (l : List Int) : Decidable (ChainOk l) := by unfold ChainOk; exact inferInstance
theorem chainGo_eq : ∀ (l : List Int) (s : Nat → Bool), chainGo l s = true ↔ ((∀ z ∈ l, 0 ≤ z ∧ z < 8) ∧ l.Nodup ∧ ∀ z ∈ l, s z.toNat = false)
  | [], s => by simp [chainGo]
  | n :: l, s => by
    rw [chainGo]
    by_cases c : 0 ≤ n ∧ n < 8
    · rw [if_pos c]
      by_cases d : s n.toNat = true
      · rw [if_pos d]
        constructor
        · intro h; cases h
        · rintro ⟨_, _, h⟩
          have := h n (by simp)
          rw [d] at this
          cases this
      · rw [if_neg d, chainGo_eq l]
        constructor
        · rintro ⟨h1, h2, h3⟩
          have hn : n ∉ l := fun q => by
            have := h3 n q
            rw [if_pos rfl] at this
            cases this
          refine ⟨fun z hz => ?_, List.nodup_cons.mpr ⟨hn, h2⟩, fun z hz => ?_⟩
          · rcases List.mem_cons.mp hz with rfl | hz
            · exact c
            · exact h1 z hz
          · rcases List.mem_cons.mp hz with rfl | hz
            · simpa using d
            · have := h3 z hz
              split at this
              · cases this
              · exact this
        · rintro ⟨h1, h2, h3⟩
          obtain ⟨hn, h2⟩ := List.nodup_cons.mp h2
          refine ⟨fun z hz => h1 z (by simp [hz]), h2, fun z hz => ?_⟩
          have hz8 := h1 z (by simp [hz])
          have : ¬ z.toNat = n.toNat := fun q => hn (by rw [show n = z by omega]; exact hz)
          rw [if_neg this]
          exact h3 z (by simp [hz])
    · rw [if_neg c]
      constructor
      · intro h; cases h
      · rintro ⟨h, _⟩
        exact absurd (h n (by simp)) c
theorem chain_eq (l : List Int) : entry_RightChain.f l = some (decide (ChainOk l)) := by
  unfold entry_RightChain.f
  congr 1
  by_cases c : ChainOk l
  · rw [decide_eq_true c]
    exact (chainGo_eq l _).mpr ⟨c.1, c.2, fun _ _ => rfl⟩
  · rw [decide_eq_false c]
    cases h : chainGo l fun _ => false
    · rfl
    · obtain ⟨h1, h2, _⟩ := (chainGo_eq l _).mp h
      exact absurd ⟨h1, h2⟩ c
theorem node_eq (n : Int) : entry_node.f n = some (decide (0 ≤ n ∧ n < 8)) := by
  unfold entry_node.f
  by_cases h : n ≥ 0
  · rw [if_pos h]
    congr 1
    rw [decide_eq_decide]
    omega
  · rw [if_neg h, decide_eq_false (by omega)]
/-- Without a node that is in it once. -/
theorem without_len {l : List Int} {n : Int} (h : l.Nodup) (hn : n ∈ l) : (l.filter (· != n)).length + 1 = l.length := by
  induction l with
  | nil => cases hn
  | cons x l ih =>
    obtain ⟨h1, h2⟩ := List.nodup_cons.mp h
    by_cases c : x = n
    · subst c
      have : l.filter (· != x) = l := List.filter_eq_self.mpr fun z hz => by
        simp only [bne_iff_ne]
        rintro rfl
        exact h1 hz
      simp [this]
    · have hm : n ∈ l := by
        rcases List.mem_cons.mp hn with e | e
        · exact absurd e.symm c
        · exact e
      have := ih h2 hm
      simp only [List.filter_cons, bne_iff_ne, ne_eq, c, not_false_eq_true, if_true, List.length_cons]
      omega
end Go.Proofs.Ytampppdjfbabiaa.PE
namespace Go.Proofs.Ytampppdjfbabiaa.PE
open Go.RowKit Go.Proofs.YtampppdjfbabiaaW.PrintWords Go.Proofs.YtampppdjfbabiaaW.PrintLast Go.Proofs.YtampppdjfbabiaaW.PrintMore
set_option linter.unusedVariables false
set_option linter.unusedSimpArgs false
theorem from_eq (a b c : Int) : point_from.f a b c = some (decide (a ≤ b) && decide (b ≤ c)) := by
  unfold point_from.f
  by_cases h : b ≥ a
  · rw [if_pos h, decide_eq_true h, Bool.true_and]
  · rw [if_neg h, decide_eq_false h, Bool.false_and]
theorem cell_eq (x y : Int) : point_cell.f x y = some (decide (0 ≤ x) && decide (x ≤ 65535) && (decide (0 ≤ y) && decide (y ≤ 65535))) := by
  unfold point_cell.f
  rw [from_eq, from_eq]
  simp only [Option.bind_some]
  cases (decide (0 ≤ x) && decide (x ≤ 65535))
  · simp
  · simp
theorem rcell_eq (x y : Int) : gleberef07_cell.f x y = some (decide (0 ≤ x) && decide (x ≤ 65535) && (decide (0 ≤ y) && decide (y ≤ 65535))) := by
  unfold gleberef07_cell.f
  have e1 : (x < 65536) = (x ≤ 65535) := propext ⟨fun h => by omega, fun h => by omega⟩
  have e2 : (y < 65536) = (y ≤ 65535) := propext ⟨fun h => by omega, fun h => by omega⟩
  simp only [e1, e2]
  by_cases a1 : 0 ≤ x
  · by_cases a2 : x ≤ 65535
    · by_cases a3 : 0 ≤ y <;> simp [a1, a2, a3]
    · simp [a1, a2]
  · simp [a1]
theorem all_seven : ∀ a b c d e f g : Bool, point_all.f 100 [a, b, c, d, e, f, g] = some (a && b && c && d && e && f && g) := by decide +kernel
theorem right_op (kd px py : Int) (key val : ByteArray) (cli seq : Int) : ∃ b, point_RightOp.f 100 kd px py key val cli seq = some b ∧ gleberef07_RightOp.f kd px py key val cli seq = some b ∧ (b = true → 1 ≤ kd ∧ kd ≤ 3 ∧ 0 ≤ px ∧ px ≤ 65535 ∧ 0 ≤ py ∧ py ≤ 65535 ∧ (key.size : Int) ≤ 16 ∧ (val.size : Int) ≤ 32 ∧ 0 ≤ cli ∧ cli ≤ 7 ∧ 1 ≤ seq ∧ seq ≤ 1099511627776) := by
  unfold point_RightOp.f gleberef07_RightOp.f
  have e1 : (cli < 8) = (cli ≤ 7) := propext ⟨fun h => by omega, fun h => by omega⟩
  obtain ⟨q, hq⟩ : ∃ q, (val.toList == ([] : List UInt8)) = q := ⟨_, rfl⟩
  have hq2 : (val.toList = ([] : List UInt8)) = (q = true) := by rw [← hq]; simp
  obtain ⟨p, hp⟩ : ∃ p, (kd == 2) = p := ⟨_, rfl⟩
  have hp2 : (kd = 2) = (p = true) := by rw [← hp]; simp
  simp only [from_eq, cell_eq, rcell_eq, all_seven, Option.bind_some, ge_iff_le, e1, hq, hq2, hp2]
  clear hp hp2 hq hq2 e1
  cases p <;> cases q <;> simp only [if_true, if_false, Bool.false_eq_true]
  all_goals
    by_cases a0 : 1 ≤ kd
    rotate_left
    · (simp only [a0, decide_true, decide_false, Bool.and_true, Bool.true_and, Bool.and_false, Bool.false_and, if_true, if_false, Bool.false_eq_true]; exact ⟨_, rfl, rfl, by simp⟩)
    by_cases a1 : kd ≤ 3
    rotate_left
    · (simp only [a0, a1, decide_true, decide_false, Bool.and_true, Bool.true_and, Bool.and_false, Bool.false_and, if_true, if_false, Bool.false_eq_true]; exact ⟨_, rfl, rfl, by simp⟩)
    by_cases a2 : 0 ≤ px
    rotate_left
    · (simp only [a0, a1, a2, decide_true, decide_false, Bool.and_true, Bool.true_and, Bool.and_false, Bool.false_and, if_true, if_false, Bool.false_eq_true]; exact ⟨_, rfl, rfl, by simp⟩)
    by_cases a3 : px ≤ 65535
    rotate_left
    · (simp only [a0, a1, a2, a3, decide_true, decide_false, Bool.and_true, Bool.true_and, Bool.and_false, Bool.false_and, if_true, if_false, Bool.false_eq_true]; exact ⟨_, rfl, rfl, by simp⟩)
    by_cases a4 : 0 ≤ py
    rotate_left
    · (simp only [a0, a1, a2, a3, a4, decide_true, decide_false, Bool.and_true, Bool.true_and, Bool.and_false, Bool.false_and, if_true, if_false, Bool.false_eq_true]; exact ⟨_, rfl, rfl, by simp⟩)
    by_cases a5 : py ≤ 65535
    rotate_left
    · (simp only [a0, a1, a2, a3, a4, a5, decide_true, decide_false, Bool.and_true, Bool.true_and, Bool.and_false, Bool.false_and, if_true, if_false, Bool.false_eq_true]; exact ⟨_, rfl, rfl, by simp⟩)
    by_cases a6 : 1 ≤ (key.size : Int)
    rotate_left
    · (simp only [a0, a1, a2, a3, a4, a5, a6, decide_true, decide_false, Bool.and_true, Bool.true_and, Bool.and_false, Bool.false_and, if_true, if_false, Bool.false_eq_true]; exact ⟨_, rfl, rfl, by simp⟩)
    by_cases a7 : (key.size : Int) ≤ 16
    rotate_left
    · (simp only [a0, a1, a2, a3, a4, a5, a6, a7, decide_true, decide_false, Bool.and_true, Bool.true_and, Bool.and_false, Bool.false_and, if_true, if_false, Bool.false_eq_true]; exact ⟨_, rfl, rfl, by simp⟩)
    by_cases a8 : (val.size : Int) ≤ 32
    rotate_left
    · (simp only [a0, a1, a2, a3, a4, a5, a6, a7, a8, decide_true, decide_false, Bool.and_true, Bool.true_and, Bool.and_false, Bool.false_and, if_true, if_false, Bool.false_eq_true]; exact ⟨_, rfl, rfl, by simp⟩)
    by_cases a9 : 0 ≤ cli
    rotate_left
    · (simp only [a0, a1, a2, a3, a4, a5, a6, a7, a8, a9, decide_true, decide_false, Bool.and_true, Bool.true_and, Bool.and_false, Bool.false_and, if_true, if_false, Bool.false_eq_true]; exact ⟨_, rfl, rfl, by simp⟩)
    by_cases a10 : cli ≤ 7
    rotate_left
    · (simp only [a0, a1, a2, a3, a4, a5, a6, a7, a8, a9, a10, decide_true, decide_false, Bool.and_true, Bool.true_and, Bool.and_false, Bool.false_and, if_true, if_false, Bool.false_eq_true]; exact ⟨_, rfl, rfl, by simp⟩)
    by_cases a11 : 1 ≤ seq
    rotate_left
    · (simp only [a0, a1, a2, a3, a4, a5, a6, a7, a8, a9, a10, a11, decide_true, decide_false, Bool.and_true, Bool.true_and, Bool.and_false, Bool.false_and, if_true, if_false, Bool.false_eq_true]; exact ⟨_, rfl, rfl, by simp⟩)
    by_cases a12 : seq ≤ 1099511627776
    rotate_left
    · (simp only [a0, a1, a2, a3, a4, a5, a6, a7, a8, a9, a10, a11, a12, decide_true, decide_false, Bool.and_true, Bool.true_and, Bool.and_false, Bool.false_and, if_true, if_false, Bool.false_eq_true]; exact ⟨_, rfl, rfl, by simp⟩)
    (simp only [a0, a1, a2, a3, a4, a5, a6, a7, a8, a9, a10, a11, a12, decide_true, decide_false, Bool.and_true, Bool.true_and, Bool.and_false, Bool.false_and, if_true, if_false, Bool.false_eq_true]; exact ⟨_, rfl, rfl, by simp⟩)
end Go.Proofs.Ytampppdjfbabiaa.PE
namespace Go.Proofs.Ytampppdjfbabiaa.PE
open Go.RowKit Go.Proofs.YtampppdjfbabiaaW.PrintWords Go.Proofs.YtampppdjfbabiaaW.PrintLast Go.Proofs.YtampppdjfbabiaaW.PrintMore
set_option linter.unusedVariables false
theorem and_bytes : ∀ a : Nat, a < 256 → Go.bits .and .u8 (a : Int) 127 = ((a % 128 : Nat) : Int) ∧ Go.bits .and .u8 (a : Int) 128 = (if a < 128 then 0 else 128) := by decide +kernel
theorem and127 {c : Int} (h : 0 ≤ c ∧ c < 256) : Go.bits .and .u8 c 127 = c % 128 := by
  obtain ⟨a, rfl⟩ := Int.eq_ofNat_of_zero_le h.1
  rw [(and_bytes a (by omega)).1]
  omega
theorem and128 {c : Int} (h : 0 ≤ c ∧ c < 256) : Go.bits .and .u8 c 128 = 0 ↔ c < 128 := by
  obtain ⟨a, rfl⟩ := Int.eq_ofNat_of_zero_le h.1
  rw [(and_bytes a (by omega)).2]
  by_cases q : a < 128
  · rw [if_pos q]
    exact ⟨fun _ => by omega, fun _ => rfl⟩
  · rw [if_neg q]
    exact ⟨fun e => by omega, fun e => by omega⟩
theorem or_big {a b : Nat} (ha : a < 2 ^ 62) (hb : b < 2 ^ 62) : Go.bits .or .i64 (a : Int) (b : Int) = ((a ||| b : Nat) : Int) := by
  unfold Go.bits
  dsimp only
  have ha' : (BitVec.ofInt (IntKind.bits .i64) (a : Int)).toNat = a := by
    show ((a : Int) % (2 ^ 64 : Nat)).toNat = a
    omega
  have hb' : (BitVec.ofInt (IntKind.bits .i64) (b : Int)).toNat = b := by
    show ((b : Int) % (2 ^ 64 : Nat)).toNat = b
    omega
  rw [BitVec.toNat_or, ha', hb']
  have h := Nat.or_lt_two_pow (n := 62) (x := a) (y := b) ha hb
  generalize a ||| b = z at h
  rw [IntKind.wrap_i64]
  omega
theorem pow7 (i : Nat) (hi : i ≤ 7) : 2 ^ (7 * i) ≤ 562949953421312 ∧ 1 ≤ 2 ^ (7 * i) := by
  have : i = 0 ∨ i = 1 ∨ i = 2 ∨ i = 3 ∨ i = 4 ∨ i = 5 ∨ i = 6 ∨ i = 7 := by omega
  rcases this with rfl | rfl | rfl | rfl | rfl | rfl | rfl | rfl <;> decide
/-- A byte more: it is added. -/
theorem rdPut_add {n : Nat} {c : Nat} (hc : c < 256) (i : Nat) (hi : i ≤ 7) (hn : n < 2 ^ (7 * i)) : rdPut (n : Int) (c : Int) i = ((n + 2 ^ (7 * i) * (c % 128) : Nat) : Int) := by
  unfold rdPut
  have hp := pow7 i hi
  have h := Nat.two_pow_add_eq_or_of_lt (i := 7 * i) (b := n) hn (c % 128)
  rw [and127 (by omega), show (c : Int) % 128 = ((c % 128 : Nat) : Int) by omega]
  have hx : c % 128 < 128 := Nat.mod_lt _ (by decide)
  have e : ((c % 128 : Nat) : Int) * 2 ^ (7 * i) = ((2 ^ (7 * i) * (c % 128) : Nat) : Int) := by
    rw [Int.natCast_mul, Int.natCast_pow, Int.mul_comm]
    rfl
  rw [e]
  have hb : 2 ^ (7 * i) * (c % 128) ≤ 562949953421312 * 127 := Nat.mul_le_mul hp.1 (by omega)
  generalize 2 ^ (7 * i) * (c % 128) = y at h hb
  rw [show wrap64 (y : Int) = (y : Int) by unfold wrap64; omega, or_big (by omega) (by omega), Nat.or_comm, ← h, Nat.add_comm]
/-- One round of reading. -/
theorem rdFrom_step {l : List Int} (f i : Nat) {n : Nat} (hf : f + i ≤ 7) (hn : n < 2 ^ (7 * i)) {c : Nat} (hi : i < l.length) (hc : rd l i = (c : Int)) (hb : c < 256) :
    rdFrom l (f + 1) i (n : Int) = if n + 2 ^ (7 * i) * (c % 128) > 9007199254740992 ∨ 0 < i ∧ c = 0 then (0, l, 21) else if c < 128 then (((n + 2 ^ (7 * i) * (c % 128) : Nat) : Int), l.drop (i + 1), 0) else rdFrom l f (i + 1) ((n + 2 ^ (7 * i) * (c % 128) : Nat) : Int) := by
  rw [rdFrom, if_neg (by omega), hc, rdPut_add hb i (by omega) hn]
  generalize n + 2 ^ (7 * i) * (c % 128) = v
  by_cases q : v > 9007199254740992 ∨ 0 < i ∧ c = 0
  · rw [if_pos q, if_pos (q.imp (fun q => by omega) (fun q => ⟨q.1, by omega⟩))]
  · rw [if_neg q, if_neg (fun z => q (z.imp (fun z => by omega) (fun z => ⟨z.1, by omega⟩)))]
    by_cases q2 : c < 128
    · rw [if_pos q2, if_pos ((and128 (by omega)).mpr (by omega))]
    · rw [if_neg q2, if_neg (fun z => q2 (by have := (and128 (by omega)).mp z; omega))]
theorem rdFrom_end {l : List Int} (f i : Nat) (n : Int) (hi : l.length ≤ i) : rdFrom l (f + 1) i n = (0, l, 20) := by
  rw [rdFrom, if_pos hi]
theorem next7 {n c i : Nat} (hn : n < 2 ^ (7 * i)) : n + 2 ^ (7 * i) * (c % 128) < 2 ^ (7 * (i + 1)) := by
  have hx : c % 128 ≤ 127 := by omega
  have h1 : 2 ^ (7 * i) * (c % 128) ≤ 2 ^ (7 * i) * 127 := Nat.mul_le_mul_left _ hx
  have h2 : 2 ^ (7 * (i + 1)) = 2 ^ (7 * i) * 128 := by rw [show 7 * (i + 1) = 7 * i + 7 by omega, Nat.pow_add]
  rw [h2]
  generalize 2 ^ (7 * i) = p at *
  generalize p * (c % 128) = y at *
  omega
end Go.Proofs.Ytampppdjfbabiaa.PE
namespace Go.Proofs.Ytampppdjfbabiaa.PE
open Go.RowKit Go.Proofs.YtampppdjfbabiaaW.PrintWords Go.Proofs.YtampppdjfbabiaaW.PrintLast Go.Proofs.YtampppdjfbabiaaW.PrintMore
set_option linter.unusedVariables false
set_option linter.unusedSimpArgs false
theorem rd_nat (l : List Int) (i : Nat) (hi : i < l.length) : rd l (i : Int) = l[i] := by
  unfold rd
  rw [Int.toNat_natCast]
  simp [hi]
theorem w64 {x : Int} (h : -9223372036854775808 ≤ x ∧ x ≤ 9223372036854775807) : wrap64 x = x := by unfold wrap64; omega
/-- One round of the document's reader. -/
theorem refNum_end {l : List Int} (k at_ i : Nat) (n u : Int) (hl : l.length ≤ 1048576) (ha : at_ ≤ l.length) (hi : i < 8) (h : l.length ≤ at_ + i) : gleberef01_Reader_Num.l0 (k + 1) n u (i : Int) l (at_ : Int) 0 = some (0, (at_ : Int), 20) := by
  rw [gleberef01_Reader_Num.l0, if_neg (by omega), w64 (by omega), if_pos (by omega)]
theorem tmod128 (c : Nat) : Int.tmod (c : Int) 128 = ((c % 128 : Nat) : Int) := by
  rw [Int.tmod_eq_emod_of_nonneg (Int.natCast_nonneg c)]
  omega
theorem refNum_step' {l : List Int} (k at_ i n u y : Nat) (hl : l.length ≤ 1048576) (hi : i < 8) (h : at_ + i < l.length) (hn : n ≤ 562949953421312) (hu : u ≤ 562949953421312) {c : Nat} (hc : rd l ((at_ + i : Nat) : Int) = (c : Int)) (hb : c < 256) (hy : u * (c % 128) = y) (hyb : y ≤ 562949953421312 * 127) :
    gleberef01_Reader_Num.l0 (k + 2) (n : Int) (u : Int) (i : Int) l (at_ : Int) 0 =
      if n + y > 9007199254740992 ∨ 0 < i ∧ c = 0 then some (0, (at_ : Int), 21) else if c < 128 then some (((n + y : Nat) : Int), ((at_ + i + 1 : Nat) : Int), 0) else gleberef01_Reader_Num.l0 k ((n + y : Nat) : Int) ((u * 128 : Nat) : Int) ((i + 1 : Nat) : Int) l (at_ : Int) 0 := by
  have d1 : ¬ (i : Int) = 8 := by clear hy; omega
  have d2 : ¬ ((at_ + i : Nat) : Int) ≥ (l.length : Int) := by clear hy; omega
  have d3 : 0 ≤ ((at_ + i : Nat) : Int) := by clear hy; omega
  have d4 : ((at_ + i : Nat) : Int) < (l.length : Int) := by clear hy; omega
  have h4 : wrap64 (((c % 128 : Nat) : Int) * (u : Int)) = (y : Int) := by
    rw [← Int.natCast_mul, Nat.mul_comm, hy]
    exact w64 ⟨by clear hy hc; omega, by clear hy hc; omega⟩
  clear hy
  have h1 : wrap64 ((at_ : Int) + (i : Int)) = ((at_ + i : Nat) : Int) := (w64 (by omega)).trans (by omega)
  have h2 : wrap64 (c : Int) = (c : Int) := w64 (by omega)
  have h3 := tmod128 c
  have h5 : wrap64 ((n : Int) + (y : Int)) = ((n + y : Nat) : Int) := (w64 (by clear h1 h2 h3 h4 hc; omega)).trans (by clear h1 h2 h3 h4 hc; omega)
  have h6 : wrap64 ((u : Int) * 128) = ((u * 128 : Nat) : Int) := (w64 (by clear h1 h2 h3 h4 h5 hc; omega)).trans (by clear h1 h2 h3 h4 h5 hc; omega)
  have h7 : wrap64 ((i : Int) + 1) = ((i + 1 : Nat) : Int) := (w64 (by clear h1 h2 h3 h4 h5 h6 hc; omega)).trans (by clear h1 h2 h3 h4 h5 h6 hc; omega)
  have h8 : wrap64 (((at_ + i : Nat) : Int) + 1) = ((at_ + i + 1 : Nat) : Int) := (w64 (by clear h1 h2 h3 h4 h5 h6 h7 hc; omega)).trans (by clear h1 h2 h3 h4 h5 h6 h7 hc; omega)
  clear hyb hn hu
  rw [gleberef01_Reader_Num.l0, if_neg d1, h1, if_neg d2, if_pos d3, if_pos d4, hc, h2, h3, h4, h5]
  clear h3 h4 h5
  generalize n + y = v
  have j1 : ∀ b : Bool, gleberef01_Reader_Num.j1 (k + 1) (v : Int) (u : Int) (i : Int) (c : Int) b l (at_ : Int) 0 = if b = true then some (0, (at_ : Int), 21) else if c < 128 then some ((v : Int), ((at_ + i + 1 : Nat) : Int), 0) else gleberef01_Reader_Num.l0 k (v : Int) ((u * 128 : Nat) : Int) ((i + 1 : Nat) : Int) l (at_ : Int) 0 := by
    intro b
    rw [gleberef01_Reader_Num.j1, h1, h8, h6, h7]
    clear h1 h2 h6 h7 h8
    by_cases q : c < 128
    · rw [if_pos q, if_pos (show (c : Int) < 128 by omega)]
    · rw [if_neg q, if_neg (show ¬ (c : Int) < 128 by omega)]
  rw [j1, j1, j1]
  clear j1 h1 h2 h6 h7 h8
  by_cases q1 : v > 9007199254740992
  · rw [if_pos (show (v : Int) > 9007199254740992 by omega), if_pos rfl, if_pos (Or.inl q1)]
  · rw [if_neg (show ¬ (v : Int) > 9007199254740992 by omega)]
    by_cases q2 : c = 0
    · rw [if_pos (show (c : Int) = 0 by omega)]
      by_cases q3 : 0 < i
      · rw [decide_eq_true (show (i : Int) > 0 by omega), if_pos rfl, if_pos (Or.inr ⟨q3, q2⟩)]
      · rw [decide_eq_false (show ¬ (i : Int) > 0 by omega), if_neg (by simp), if_neg (show ¬ (v > 9007199254740992 ∨ 0 < i ∧ c = 0) by omega)]
    · rw [if_neg (show ¬ (c : Int) = 0 by omega), if_neg (by simp), if_neg (show ¬ (v > 9007199254740992 ∨ 0 < i ∧ c = 0) by omega)]
theorem refNum_step {l : List Int} (k at_ i n : Nat) (hl : l.length ≤ 1048576) (hi : i < 8) (h : at_ + i < l.length) (hn : n < 2 ^ (7 * i)) {c : Nat} (hc : rd l ((at_ + i : Nat) : Int) = (c : Int)) (hb : c < 256) :
    gleberef01_Reader_Num.l0 (k + 2) (n : Int) ((2 ^ (7 * i) : Nat) : Int) (i : Int) l (at_ : Int) 0 =
      if n + 2 ^ (7 * i) * (c % 128) > 9007199254740992 ∨ 0 < i ∧ c = 0 then some (0, (at_ : Int), 21) else if c < 128 then some (((n + 2 ^ (7 * i) * (c % 128) : Nat) : Int), ((at_ + i + 1 : Nat) : Int), 0) else gleberef01_Reader_Num.l0 k ((n + 2 ^ (7 * i) * (c % 128) : Nat) : Int) ((2 ^ (7 * (i + 1)) : Nat) : Int) ((i + 1 : Nat) : Int) l (at_ : Int) 0 := by
  have hp := pow7 i (by omega)
  have hx : c % 128 ≤ 127 := by omega
  have e : 2 ^ (7 * (i + 1)) = 2 ^ (7 * i) * 128 := by rw [show 7 * (i + 1) = 7 * i + 7 by omega, Nat.pow_add]
  rw [e]
  exact refNum_step' k at_ i n (2 ^ (7 * i)) _ hl hi h (Nat.le_of_lt (Nat.lt_of_lt_of_le hn hp.1)) hp.1 hc hb rfl (Nat.mul_le_mul hp.1 hx)
/-- From row i on. -/
theorem refNum_from {l : List Int} (hl : l.length ≤ 1048576) (hB : ∀ z ∈ l, 0 ≤ z ∧ z < 256) (at_ : Nat) (ha : at_ ≤ l.length) : ∀ (f i n k : Nat), f + i = 8 → n < 2 ^ (7 * i) → 2 * f + 1 ≤ k →
    ∃ at' : Nat, gleberef01_Reader_Num.l0 k (n : Int) ((2 ^ (7 * i) : Nat) : Int) (i : Int) l (at_ : Int) 0 = some ((rdFrom (l.drop at_) f i (n : Int)).1, (at' : Int), (rdFrom (l.drop at_) f i (n : Int)).2.2) ∧ at' ≤ l.length ∧ ((rdFrom (l.drop at_) f i (n : Int)).2.2 = 0 → (rdFrom (l.drop at_) f i (n : Int)).2.1 = l.drop at') := by
  intro f
  induction f with
  | zero =>
    intro i n k hf hn hk
    obtain ⟨k, rfl⟩ : ∃ j, k = j + 1 := ⟨k - 1, by omega⟩
    refine ⟨at_, ?_, ha, fun q => absurd q (by simp [rdFrom])⟩
    rw [gleberef01_Reader_Num.l0, if_pos (by omega)]
    rfl
  | succ f ih =>
    intro i n k hf hn hk
    by_cases q : l.length ≤ at_ + i
    · obtain ⟨k, rfl⟩ : ∃ j, k = j + 1 := ⟨k - 1, by omega⟩
      rw [rdFrom_end f i (n : Int) (by rw [List.length_drop]; omega), refNum_end k at_ i _ _ hl ha (by omega) q]
      exact ⟨at_, rfl, ha, fun q => absurd q (by simp)⟩
    · obtain ⟨k, rfl⟩ : ∃ j, k = j + 2 := ⟨k - 2, by omega⟩
      have hlt : at_ + i < l.length := by omega
      have hz := hB (l[at_ + i]) (List.getElem_mem _)
      obtain ⟨c, hc⟩ := Int.eq_ofNat_of_zero_le hz.1
      have hr : rd l ((at_ + i : Nat) : Int) = (c : Int) := (rd_nat l _ hlt).trans hc
      have hi : i < (l.drop at_).length := by rw [List.length_drop]; omega
      have hr2 : rd (l.drop at_) (i : Int) = (c : Int) := by
        rw [rd_nat _ i hi, List.getElem_drop]
        exact hc
      rw [rdFrom_step f i (by omega) hn hi hr2 (by omega), refNum_step k at_ i n hl (by omega) hlt hn hr (by omega)]
      have hn2 := next7 (c := c) hn
      generalize n + 2 ^ (7 * i) * (c % 128) = v at hn2
      by_cases q1 : v > 9007199254740992 ∨ 0 < i ∧ c = 0
      · rw [if_pos q1, if_pos q1]
        exact ⟨at_, rfl, ha, fun q => absurd q (by simp)⟩
      · rw [if_neg q1, if_neg q1]
        by_cases q2 : c < 128
        · rw [if_pos q2, if_pos q2]
          refine ⟨at_ + i + 1, rfl, by omega, fun _ => ?_⟩
          dsimp only
          rw [List.drop_drop]
          rfl
        · rw [if_neg q2, if_neg q2]
          exact ih (i + 1) v k (by omega) hn2 (by omega)
/-- The document's place and the reader's rest say the same. -/
def Agree (l0 : List Int) (l : List Int) (e : Int) (at_ : Nat) : Prop := at_ ≤ l0.length ∧ (e = 0 → l = l0.drop at_)
theorem rdFrom_err {l : List Int} : ∀ (f i : Nat) (n : Int), (rdFrom l f i n).2.2 ≠ 0 → (rdFrom l f i n).1 = 0
  | 0, _, _, _ => rfl
  | f + 1, i, n, h => by
    rw [rdFrom] at h ⊢
    split
    · rfl
    · rename_i h1
      rw [if_neg h1] at h
      split
      · rfl
      · rename_i h2
        rw [if_neg h2] at h
        split
        · rename_i h3
          rw [if_pos h3] at h
          exact absurd rfl h
        · rename_i h3
          rw [if_neg h3] at h
          exact rdFrom_err f _ _ h
theorem ok_on {e : Int} (h : e = 0) : rdOk e true = true := by subst h; rfl
theorem ok_off {e : Int} (h : e ≠ 0) : rdOk e true = false := by
  unfold rdOk
  simp [h]
theorem rdNum_err {l : List Int} {e : Int} (h : (rdNum l e true).2.2 ≠ 0) : (rdNum l e true).1 = 0 := by
  by_cases q : e = 0
  · rw [rdNum_on (ok_on q)] at h ⊢
    exact rdFrom_err _ _ _ h
  · rw [rdNum_off (ok_off q)]
section
variable {l0 l : List Int} {e : Int} {at_ : Nat} (hl : l0.length ≤ 1048576) (hB : ∀ z ∈ l0, 0 ≤ z ∧ z < 256) (h : Agree l0 l e at_)
include hl hB h
theorem ref_num (K : Nat) (hK : 20 ≤ K) : ∃ at' : Nat, gleberef01_Reader_Num.f K l0 (at_ : Int) e = some ((rdNum l e true).1, (at' : Int), (rdNum l e true).2.2) ∧ Agree l0 (rdNum l e true).2.1 (rdNum l e true).2.2 at' := by
  by_cases q : e = 0
  · subst q
    obtain rfl := h.2 rfl
    rw [rdNum_on (ok_on rfl)]
    obtain ⟨at', h1, h2, h3⟩ := refNum_from hl hB at_ h.1 8 0 0 K rfl (by decide) (by omega)
    refine ⟨at', ?_, h2, h3⟩
    unfold gleberef01_Reader_Num.f
    rw [if_pos rfl]
    exact h1
  · rw [rdNum_off (ok_off q)]
    refine ⟨at_, ?_, h⟩
    unfold gleberef01_Reader_Num.f
    rw [if_neg q]
theorem ref_upto (m : Int) (K : Nat) (hK : 20 ≤ K) : ∃ at' : Nat, gleberef01_Reader_Upto.f K l0 (at_ : Int) e m = some ((rdUpto l e true m).1, (at' : Int), (rdUpto l e true m).2.2) ∧ Agree l0 (rdUpto l e true m).2.1 (rdUpto l e true m).2.2 at' := by
  obtain ⟨at', h1, h2⟩ := ref_num hl hB h K hK
  have hoff : rdOk e true = false → rdNum l e true = (0, l, e) := rdNum_off
  unfold gleberef01_Reader_Upto.f
  rw [h1, Option.bind_some]
  dsimp only
  by_cases c : (rdNum l e true).1 > m
  · rw [rdUpto_pos c]
    by_cases q : (rdNum l e true).2.2 = 0
    · rw [if_pos q, if_pos c]
      dsimp only
      rw [ok_on q, if_pos rfl]
      exact ⟨at', rfl, h2.1, fun z => absurd z (by simp)⟩
    · rw [if_neg q]
      dsimp only
      rw [ok_off q, if_neg (by simp)]
      have hz : (rdNum l e true).1 = 0 := rdNum_err q
      rw [hz]
      exact ⟨at', rfl, h2⟩
  · rw [rdUpto_neg c]
    by_cases q : (rdNum l e true).2.2 = 0
    · rw [if_pos q, if_neg c]
      exact ⟨at', rfl, h2⟩
    · rw [if_neg q]
      exact ⟨at', rfl, h2⟩
theorem ref_text (m : Int) (K : Nat) (hK : 20 ≤ K) : ∃ at' : Nat, gleberef01_Reader_Text.f K l0 (at_ : Int) e m = some (strOfNums (rdText l e true m).1, (at' : Int), (rdText l e true m).2.2) ∧ Agree l0 (rdText l e true m).2.1 (rdText l e true m).2.2 at' := by
  obtain ⟨at', h1, h2⟩ := ref_upto hl hB h m K hK
  have hnn := rdUpto_nn l e true m
  unfold gleberef01_Reader_Text.f
  rw [h1, Option.bind_some]
  dsimp only
  unfold rtText
  by_cases q : (rdUpto l e true m).2.2 = 0
  · have hd := h2.2 q
    have hlen : ((rdUpto l e true m).2.1.length : Int) = (l0.length : Int) - (at' : Int) := by
      rw [hd, List.length_drop]
      have := h2.1
      omega
    rw [if_pos q, w64 (by have := h2.1; omega)]
    by_cases c : (rdUpto l e true m).1 > ((rdUpto l e true m).2.1.length : Int)
    · rw [rdText_end (ok_on q) c, if_pos (by omega)]
      exact ⟨at', rfl, h2.1, fun z => absurd z (by simp)⟩
    · rw [rdText_on (ok_on q) c, if_neg (by omega), if_pos ⟨by omega, hnn.1, by omega, by omega⟩, hd, Int.toNat_natCast]
      refine ⟨at' + (rdUpto l e true m).1.toNat, ?_, by omega, fun _ => by rw [List.drop_drop]⟩
      rw [show ((at' + (rdUpto l e true m).1.toNat : Nat) : Int) = (at' : Int) + (rdUpto l e true m).1 by omega]
  · rw [if_neg q, rdText_off (ok_off q)]
    exact ⟨at', rfl, h2⟩
end
theorem ref_left {l0 l : List Int} {e : Int} {at_ : Nat} (hl : l0.length ≤ 1048576) (h : Agree l0 l e at_) : gleberef01_Reader_Left.f l0 (at_ : Int) e = some (if rdOk e true then (l.length : Int) else 0, (at_ : Int), e) := by
  unfold gleberef01_Reader_Left.f
  have := h.1
  by_cases q : e = 0
  · rw [if_pos q, ok_on q, if_pos rfl, h.2 q, List.length_drop, w64 (by omega), show ((l0.length - at_ : Nat) : Int) = (l0.length : Int) - (at_ : Int) by omega]
  · rw [if_neg q, ok_off q, if_neg (by simp)]
theorem ref_fail {l0 l : List Int} {e : Int} {at_ : Nat} (x : Int) (h : Agree l0 l e at_) : gleberef01_Reader_Fail.f l0 (at_ : Int) e x = some ((at_ : Int), if rdOk e true then x else e) ∧ Agree l0 l (if rdOk e true then x else e) at_ := by
  unfold gleberef01_Reader_Fail.f
  by_cases q : e = 0
  · rw [if_pos q, ok_on q, if_pos rfl]
    exact ⟨rfl, h.1, fun _ => h.2 q⟩
  · rw [if_neg q, ok_off q, if_neg (by simp)]
    exact ⟨rfl, h⟩
end Go.Proofs.Ytampppdjfbabiaa.PE
namespace Go.Proofs.Ytampppdjfbabiaa.PE
open Go.RowKit Go.Proofs.YtampppdjfbabiaaW.PrintWords Go.Proofs.YtampppdjfbabiaaW.PrintLast Go.Proofs.YtampppdjfbabiaaW.PrintMore
set_option linter.unusedVariables false
set_option linter.unusedSimpArgs false
theorem tk_yes (e : Int) : tkE true e = e := rfl
/-- The document's end of a Take. -/
theorem tk_fail {l0 l : List Int} {e : Int} {at_ : Nat} (h : Agree l0 l e at_) : gleberef01_Reader_Fail.f l0 (at_ : Int) e 21 = some ((at_ : Int), tkE false e) ∧ Agree l0 l (tkE false e) at_ := by
  have q := ref_fail 21 h
  have : (if rdOk e true = true then (21 : Int) else e) = tkE false e := by
    unfold tkE
    by_cases c : e = 0
    · rw [ok_on c, if_pos rfl, if_neg (by simp), if_pos c]
    · rw [ok_off c, if_neg (by simp), if_neg (by simp), if_neg c]
  rw [this] at q
  exact q
theorem zero_row7 (z : Int) (c a b : Int) (s t : ByteArray) (m n : Int) : (if z = 0 then #[Value.int .i64 c, .int .i64 a, .int .i64 b, .string s, .string t, .int .i64 m, .int .i64 n] else #[.int .i64 0, .int .i64 0, .int .i64 0, .string ⟨#[]⟩, .string ⟨#[]⟩, .int .i64 0, .int .i64 0]) = #[.int .i64 (if z = 0 then c else 0), .int .i64 (if z = 0 then a else 0), .int .i64 (if z = 0 then b else 0), .string (if z = 0 then s else ⟨#[]⟩), .string (if z = 0 then t else ⟨#[]⟩), .int .i64 (if z = 0 then m else 0), .int .i64 (if z = 0 then n else 0)] := by
  by_cases h : z = 0
  · simp only [if_pos h]
  · simp only [if_neg h]

theorem chain_len8 : ∀ (n : Nat) (l : List Int), l.Nodup → (∀ z ∈ l, 0 ≤ z ∧ z < (n : Int)) → l.length ≤ n
  | 0, l, _, h => by
    cases l with
    | nil => simp
    | cons x l => have := h x (by simp); omega
  | n + 1, l, hd, h => by
    by_cases c : (n : Int) ∈ l
    · have h1 := without_len hd c
      have h2 := chain_len8 n (l.filter (· != (n : Int))) (hd.sublist List.filter_sublist) (fun z hz => by
        obtain ⟨hm, hn⟩ := List.mem_filter.mp hz
        have hn : z ≠ (n : Int) := bne_iff_ne.mp hn
        have := h z hm
        omega)
      omega
    · have h2 := chain_len8 n l hd (fun z hz => by
        have := h z hz
        have hn : z ≠ (n : Int) := fun q => c (q ▸ hz)
        omega)
      omega
theorem rch_go (l : List Int) : ∀ (m i : Nat), i + m = l.length → (l.take i).Nodup → (rchGo l m i = true ↔ (∀ z ∈ l.drop i, 0 ≤ z ∧ z < 8) ∧ l.Nodup)
  | 0, i, h, hd => by
    rw [rchGo, List.drop_eq_nil_of_le (by omega)]
    rw [List.take_of_length_le (by omega)] at hd
    simp [hd]
  | m + 1, i, h, hd => by
    have hi : i < l.length := by omega
    rw [rchGo, rd_nat l i hi]
    have hdrop := List.drop_eq_getElem_cons hi
    have htake : l.take (i + 1) = l.take i ++ [l[i]] := (List.take_append_getElem hi).symm
    by_cases c : 0 ≤ l[i] ∧ l[i] < 8
    · rw [if_pos c]
      by_cases d : l[i] ∈ l.take i
      · rw [if_pos d]
        constructor
        · intro q; cases q
        · rintro ⟨_, q⟩
          have q2 : (l.take (i + 1)).Nodup := q.sublist (List.take_sublist _ _)
          rw [htake, List.nodup_append] at q2
          exact absurd rfl (q2.2.2 _ d _ (by simp))
      · rw [if_neg d]
        have hd2 : (l.take (i + 1)).Nodup := by
          rw [htake, List.nodup_append]
          refine ⟨hd, by simp, fun a ha b hb => ?_⟩
          obtain rfl : b = l[i] := by simpa using hb
          rintro rfl
          exact d ha
        rw [rch_go l m (i + 1) (by omega) hd2, hdrop]
        constructor
        · rintro ⟨q1, q2⟩
          refine ⟨fun z hz => ?_, q2⟩
          rcases List.mem_cons.mp hz with rfl | hz
          · exact c
          · exact q1 z hz
        · rintro ⟨q1, q2⟩
          exact ⟨fun z hz => q1 z (List.mem_cons_of_mem _ hz), q2⟩
    · rw [if_neg c]
      constructor
      · intro q; cases q
      · rintro ⟨q, _⟩
        exact absurd (q l[i] (hdrop ▸ List.mem_cons_self)) c
theorem rch_eq (l : List Int) : gleberef11_RightChain.f l = some (decide (ChainOk l)) := by
  unfold gleberef11_RightChain.f
  congr 1
  by_cases h8 : l.length > 8
  · rw [if_pos h8, decide_eq_false]
    rintro ⟨q1, q2⟩
    have := chain_len8 8 l q2 q1
    omega
  · rw [if_neg h8]
    have hg := rch_go l l.length 0 (by omega) (by simp)
    by_cases c : ChainOk l
    · rw [decide_eq_true c]
      exact hg.mpr ⟨by simpa using c.1, c.2⟩
    · rw [decide_eq_false c]
      cases q : rchGo l l.length 0
      · rfl
      · obtain ⟨q1, q2⟩ := hg.mp q
        exact absurd ⟨by simpa using q1, q2⟩ c
theorem rnode_eq (n : Int) : gleberef11_node.f n = some (decide (0 ≤ n ∧ n < 8)) := by
  unfold gleberef11_node.f
  by_cases h : n ≥ 0
  · rw [if_pos h]
    congr 1
    rw [decide_eq_decide]
    omega
  · rw [if_neg h, decide_eq_false (by omega)]
theorem rest_eq (a0 a1 a2 a3 : Int) (a4 a5 : ByteArray) (a6 a7 a8 a9 a10 : Int) (l : List Int) : entry_Entry_rest.f a0 a1 a2 a3 a4 a5 a6 a7 a8 a9 a10 l = some (a1, a2, a3, a4, a5, a6, a7, a8, a9, a10) := rfl
/-- Right says the same on both sides. -/
theorem eright_both (K : Nat) (hK : 20 ≤ K) (hK2 : K ≤ 100) (a0 a1 a2 a3 : Int) (a4 a5 : ByteArray) (a6 a7 a8 a9 a10 : Int) (l : List Int) (hl : l.length ≤ 8) : ∃ b, entry_Right.f 100 a0 a1 a2 a3 a4 a5 a6 a7 a8 a9 a10 l = some b ∧ gleberef11_Right.f K a0 a1 a2 a3 a4 a5 a6 a7 a8 a9 a10 l = some b := by
  obtain ⟨K, rfl⟩ : ∃ j, K = j + 2 := ⟨K - 2, by omega⟩
  have c1 : ∀ n, slices_Contains_int_int.f 98 l n = some (decide (n ∈ l)) := fun n => contains_eq n (by omega) (by omega)
  have c2 : ∀ n, gleberef11_In.f K l n = some (decide (n ∈ l)) := fun n => in_eq n (by omega) (by omega)
  obtain ⟨Z, hZ⟩ : ∃ Z, (a1 == 0 && ((a2 == 0 && (a3 == 0)) && (a4.toList == ([] : List UInt8) && (a5.toList == ([] : List UInt8) && (a6 == 0 && (a7 == 0)))))) = Z := ⟨_, rfl⟩
  unfold entry_Right.f gleberef11_Right.f
  by_cases k1 : a0 = 1
  · rw [if_pos k1, if_pos k1]
    obtain ⟨b, h1, h2, _⟩ := right_op a1 a2 a3 a4 a5 a6 a7
    rw [h1, h2]
    simp only [Option.bind_some, rest_eq, beq_self_eq_true, Bool.true_and]
    cases b
    · simp
    · by_cases q1 : a8 = 0
      · by_cases q2 : a9 = 0
        · by_cases q3 : a10 = 0 <;> simp [q1, q2, q3]
        · simp [q1, q2]
      · simp [q1]
  rw [if_neg k1, if_neg k1]
  have J1 : ∀ x : Bool, ∃ b, entry_Right.j1 99 x a0 a1 a2 a3 a4 a5 a6 a7 a8 a9 a10 l = some b ∧ gleberef11_Right.j1 (K + 1) x a0 a1 a2 a3 a4 a5 a6 a7 a8 a9 a10 l = some b := fun x => by
    rw [entry_Right.j1, gleberef11_Right.j1, hZ]
    simp only [node_eq, rnode_eq, chain_eq, rch_eq, c1, c2, Option.bind_some]
    cases x
    · exact ⟨_, rfl, rfl⟩
    cases Z
    · exact ⟨_, rfl, rfl⟩
    by_cases n1 : 0 ≤ a8 ∧ a8 < 8
    rotate_left
    · simp only [n1, decide_false, if_true, if_false, Bool.false_eq_true]; exact ⟨_, rfl, rfl⟩
    by_cases n2 : 0 ≤ a10 ∧ a10 < 8
    rotate_left
    · simp only [n1, n2, decide_true, decide_false, if_true, if_false, Bool.false_eq_true]; exact ⟨_, rfl, rfl⟩
    by_cases n3 : a9 ≥ 1
    rotate_left
    · simp only [n1, n2, n3, decide_true, decide_false, if_true, if_false, Bool.false_eq_true, ite_self]; exact ⟨_, rfl, rfl⟩
    by_cases n4 : a9 ≤ 1099511627776
    rotate_left
    · simp only [n1, n2, n3, n4, decide_true, decide_false, if_true, if_false, Bool.false_eq_true, ite_self]; exact ⟨_, rfl, rfl⟩
    by_cases n5 : ChainOk l
    rotate_left
    · simp only [n1, n2, n3, n4, n5, decide_true, decide_false, if_true, if_false, Bool.false_eq_true, ite_self]; exact ⟨_, rfl, rfl⟩
    by_cases n6 : a8 ∈ l
    rotate_left
    · simp only [n1, n2, n3, n4, n5, n6, decide_true, decide_false, if_true, if_false, Bool.false_eq_true, ite_self]; exact ⟨_, rfl, rfl⟩
    by_cases n7 : a8 = a10
    · subst n7
      simp only [n1, n2, n3, n4, n5, n6, decide_true, decide_false, if_true, if_false, Bool.false_eq_true, ite_self]
      exact ⟨_, rfl, rfl⟩
    · simp only [n1, n2, n3, n4, n5, n6, n7, decide_true, decide_false, if_true, if_false, Bool.false_eq_true, ite_self]; exact ⟨_, rfl, rfl⟩
  have J0 : ∀ x : Bool, ∃ b, entry_Right.j0 100 a0 x a0 a1 a2 a3 a4 a5 a6 a7 a8 a9 a10 l = some b ∧ gleberef11_Right.j0 (K + 2) a0 x a0 a1 a2 a3 a4 a5 a6 a7 a8 a9 a10 l = some b := fun x => by
    rw [entry_Right.j0, gleberef11_Right.j0]
    cases x
    · simp only [Bool.false_eq_true, if_false]
      by_cases k4 : a0 = 4
      · rw [if_pos k4, if_pos k4]; exact J1 _
      · rw [if_neg k4, if_neg k4]; exact J1 _
    · simp only [if_true, node_eq, rnode_eq, rest_eq, Option.bind_some, hZ, beq_self_eq_true, Bool.true_and]
      by_cases n1 : 0 ≤ a8 ∧ a8 < 8
      · cases Z
        · simp [n1]
        · by_cases q2 : a9 = 0
          · by_cases q3 : a10 = 0 <;> simp [n1, q2, q3]
          · simp [n1, q2]
      · cases Z
        · simp [n1]
        · simp [n1]
  by_cases k2 : a0 = 2
  · rw [if_pos k2, if_pos k2]; exact J0 _
  · rw [if_neg k2, if_neg k2]; exact J0 _
/-- Rounds without end. -/
theorem rounds {σ ρ : Type} (P : σ → Prop) (step : σ → ρ → σ → Prop) (h : ∀ s, P s → ∃ r s', step s r s' ∧ P s') (s0 : σ) (h0 : P s0) : ∃ (S : Nat → σ) (R : Nat → ρ), S 0 = s0 ∧ ∀ i, step (S i) (R i) (S (i + 1)) ∧ P (S i) := by
  have hc : ∀ s : {s // P s}, ∃ x : ρ × {s // P s}, step s.1 x.1 x.2.1 := fun s => by
    obtain ⟨r, s', h1, h2⟩ := h s.1 s.2
    exact ⟨(r, ⟨s', h2⟩), h1⟩
  let nx : {s // P s} → ρ × {s // P s} := fun s => (hc s).choose
  have hn : ∀ s, step s.1 (nx s).1 (nx s).2.1 := fun s => (hc s).choose_spec
  let S : Nat → {s // P s} := fun n => Nat.rec ⟨s0, h0⟩ (fun _ s => (nx s).2) n
  exact ⟨fun n => (S n).1, fun n => (nx (S n)).1, rfl, fun i => ⟨hn (S i), (S i).2⟩⟩
theorem num_up {l0 : List Int} {a b : Int} {x : Int × Int × Int} (h : gleberef01_Reader_Num.f 20 l0 a b = some x) : ∀ d, gleberef01_Reader_Num.f (20 + d) l0 a b = some x
  | 0 => h
  | d + 1 => gleberef01_Reader_Num.mono _ _ _ _ _ (num_up h d)
theorem num_at {l0 : List Int} {a b : Int} {x : Int × Int × Int} (h : gleberef01_Reader_Num.f 20 l0 a b = some x) {k : Nat} (hk : 20 ≤ k) : gleberef01_Reader_Num.f k l0 a b = some x := by
  have := num_up h (k - 20)
  rwa [show 20 + (k - 20) = k by omega] at this
theorem samel_self {l : List Int} (h : l.length < 100) : gleberef11_SameList.f 100 l l = some true := (samel_eq h (by decide)).trans (congrArg some (decide_eq_true rfl))
theorem same_self (o : ERow) (h : o.ch.length ≤ 8) : gleberef11_Same.f 100 o.k o.o0 o.o1 o.o2 o.o3 o.o4 o.o5 o.o6 o.n o.ep o.by_ o.ch o.k o.o0 o.o1 o.o2 o.o3 o.o4 o.o5 o.o6 o.n o.ep o.by_ o.ch = some true := by
  unfold gleberef11_Same.f
  simp only [beq_self_eq_true, Bool.and_self, if_true, samel_self (show o.ch.length < 100 by omega), Option.bind_some]
theorem ref_id (o : ERow) (h : o.ch.length ≤ 8) : glebelaw11_Ref.f o.k o.o0 o.o1 o.o2 o.o3 o.o4 o.o5 o.o6 o.n o.ep o.by_ o.ch = some (o.k, o.o0, o.o1, o.o2, o.o3, o.o4, o.o5, o.o6, o.n, o.ep, o.by_, o.ch) := by
  unfold glebelaw11_Ref.f glebelaw07_RefOp.f
  rw [Option.bind_some, Option.bind_some]
  have : ([] : List Int).length + o.ch.length < 17592186044416 := by
    rw [List.length_nil, Nat.zero_add]
    exact Nat.lt_of_le_of_lt h (by decide)
  rw [if_pos this]
  rfl
section
variable {l0 : List Int} (hl : l0.length ≤ 1048576) (hB : ∀ z ∈ l0, 0 ≤ z ∧ z < 256)
include hl hB
theorem stage_op {l : List Int} {e : Int} {a0 : Nat} (h0 : Agree l0 l e a0) (K : Nat) (hK : 20 ≤ K) : ∃ kd l1 e1 px l2 e2 py l3 e3 key l4 e4 val l5 e5 cli l6 e6 seq l7 e7 r, ∃ at_ : Nat, rdNum l e true = (kd, l1, e1) ∧ rdNum l1 e1 true = (px, l2, e2) ∧ rdNum l2 e2 true = (py, l3, e3) ∧ rdText l3 e3 true 32 = (key, l4, e4) ∧ rdText l4 e4 true 32 = (val, l5, e5) ∧ rdNum l5 e5 true = (cli, l6, e6) ∧ rdNum l6 e6 true = (seq, l7, e7) ∧ point_RightOp.f 100 kd px py (strOfNums key) (strOfNums val) cli seq = some r ∧ Agree l0 l7 (tkE r e7) at_ ∧
    gleberef07_TakeOp.f K l0 (a0 : Int) e = some (if tkE r e7 = 0 then kd else 0, if tkE r e7 = 0 then px else 0, if tkE r e7 = 0 then py else 0, if tkE r e7 = 0 then strOfNums key else ⟨#[]⟩, if tkE r e7 = 0 then strOfNums val else ⟨#[]⟩, if tkE r e7 = 0 then cli else 0, if tkE r e7 = 0 then seq else 0, (at_ : Int), tkE r e7) := by
  obtain ⟨a1, q1, h1⟩ := ref_num hl hB h0 K hK
  obtain ⟨⟨kd, l1, e1⟩, k1⟩ : ∃ x, rdNum l e true = x := ⟨_, rfl⟩
  rw [k1] at q1 h1
  dsimp only at q1 h1
  obtain ⟨a2, q2, h2⟩ := ref_num hl hB h1 K hK
  obtain ⟨⟨px, l2, e2⟩, k2⟩ : ∃ x, rdNum l1 e1 true = x := ⟨_, rfl⟩
  rw [k2] at q2 h2
  dsimp only at q2 h2
  obtain ⟨a3, q3, h3⟩ := ref_num hl hB h2 K hK
  obtain ⟨⟨py, l3, e3⟩, k3⟩ : ∃ x, rdNum l2 e2 true = x := ⟨_, rfl⟩
  rw [k3] at q3 h3
  dsimp only at q3 h3
  obtain ⟨a4, q4, h4⟩ := ref_text hl hB h3 32 K hK
  obtain ⟨⟨key, l4, e4⟩, k4⟩ : ∃ x, rdText l3 e3 true 32 = x := ⟨_, rfl⟩
  rw [k4] at q4 h4
  dsimp only at q4 h4
  obtain ⟨a5, q5, h5⟩ := ref_text hl hB h4 32 K hK
  obtain ⟨⟨val, l5, e5⟩, k5⟩ : ∃ x, rdText l4 e4 true 32 = x := ⟨_, rfl⟩
  rw [k5] at q5 h5
  dsimp only at q5 h5
  obtain ⟨a6, q6, h6⟩ := ref_num hl hB h5 K hK
  obtain ⟨⟨cli, l6, e6⟩, k6⟩ : ∃ x, rdNum l5 e5 true = x := ⟨_, rfl⟩
  rw [k6] at q6 h6
  dsimp only at q6 h6
  obtain ⟨a7, q7, h7⟩ := ref_num hl hB h6 K hK
  obtain ⟨⟨seq, l7, e7⟩, k7⟩ : ∃ x, rdNum l6 e6 true = x := ⟨_, rfl⟩
  rw [k7] at q7 h7
  dsimp only at q7 h7
  obtain ⟨r, r1, r2, _⟩ := right_op kd px py (strOfNums key) (strOfNums val) cli seq
  have hf : Agree l0 l7 (tkE r e7) a7 := by
    cases r
    · exact (tk_fail h7).2
    · exact h7
  refine ⟨kd, l1, e1, px, l2, e2, py, l3, e3, key, l4, e4, val, l5, e5, cli, l6, e6, seq, l7, e7, r, a7, k1, k2, k3, k4, k5, k6, k7, r1, hf, ?_⟩
  unfold gleberef07_TakeOp.f
  simp only [q1, q2, q3, q4, q5, q6, q7, r2, Option.bind_some]
  cases r
  · simp only [Bool.false_eq_true, if_false, (tk_fail h7).1, Option.bind_some]
    by_cases c9 : tkE false e7 = 0
    · simp only [if_pos c9, c9, if_true]
    · first | (simp only [if_neg c9]; done) | (simp [c9, tk_yes]; done)
  · simp only [if_true, tk_yes]
    by_cases c9 : e7 = 0
    · simp only [c9, if_true]
    · first | (simp only [if_neg c9]; done) | (simp [c9, tk_yes]; done)

/-- Both TakeChains. -/
theorem chain_both {l : List Int} {e : Int} {a0 : Nat} (h0 : Agree l0 l e a0) : ∃ (n : Nat) (L : Nat → List Int) (E N : Nat → Int) (ok : Bool) (at_ : Nat), rdUpto l e true 8 = ((n : Int), L 0, E 0) ∧ (∀ i, i < n → rdNum (L i) (E i) true = (N i, L (i + 1), E (i + 1))) ∧ n ≤ 8 ∧ entry_RightChain.f (firsts N n) = some ok ∧ Agree l0 (L n) (tkE ok (E n)) at_ ∧
    ∀ K, 60 ≤ K → gleberef11_TakeChain.f K l0 (a0 : Int) e = some (if tkE ok (E n) = 0 then firsts N n else [], (at_ : Int), tkE ok (E n)) := by
  have hup : ∀ K, 20 ≤ K → ∃ a1 : Nat, gleberef01_Reader_Upto.f K l0 (a0 : Int) e 8 = some ((rdUpto l e true 8).1, (a1 : Int), (rdUpto l e true 8).2.2) ∧ Agree l0 (rdUpto l e true 8).2.1 (rdUpto l e true 8).2.2 a1 := fun K hK => ref_upto hl hB h0 8 K hK
  obtain ⟨a1, u1, h1⟩ := hup 20 (by decide)
  have hnn := (rdUpto_nn l e true 8).1
  have h8 : (rdUpto l e true 8).1 ≤ 8 := by
    by_cases c : (rdNum l e true).1 > 8
    · rw [rdUpto_pos c]; simp
    · rw [rdUpto_neg c]; omega
  obtain ⟨⟨q, la, ea⟩, k1⟩ : ∃ x, rdUpto l e true 8 = x := ⟨_, rfl⟩
  rw [k1] at u1 h1 hnn h8
  dsimp only at u1 h1 hnn h8
  obtain ⟨n, rfl⟩ := Int.eq_ofNat_of_zero_le hnn
  have u1K : ∀ d, gleberef01_Reader_Upto.f (20 + d) l0 (a0 : Int) e 8 = some ((n : Int), (a1 : Int), ea) := by
    intro d
    induction d with
    | zero => exact u1
    | succ d ih => exact gleberef01_Reader_Upto.mono _ _ _ _ _ _ ih
  obtain ⟨S, N, hS0, hS⟩ := rounds (σ := List Int × Int × Nat) (ρ := Int) (fun s => Agree l0 s.1 s.2.1 s.2.2) (fun s r s' => rdNum s.1 s.2.1 true = (r, s'.1, s'.2.1) ∧ gleberef01_Reader_Num.f 20 l0 (s.2.2 : Int) s.2.1 = some (r, (s'.2.2 : Int), s'.2.1)) (fun s hs => by
    obtain ⟨a', h1, h2⟩ := ref_num hl hB hs 20 (by decide)
    exact ⟨(rdNum s.1 s.2.1 true).1, ((rdNum s.1 s.2.1 true).2.1, (rdNum s.1 s.2.1 true).2.2, a'), ⟨rfl, h1⟩, h2⟩) (la, ea, a1) h1
  have hn : n ≤ 8 := by omega
  have hfl : (firsts N n).length = n := firsts_len N n
  have hag := (hS n).2
  have e0 : (S 0).2.2 = a1 := by rw [hS0]
  have e1 : (S 0).2.1 = ea := by rw [hS0]
  refine ⟨n, fun i => (S i).1, fun i => (S i).2.1, N, decide (ChainOk (firsts N n)), (S n).2.2, by rw [k1]; show _ = ((n : Int), (S 0).1, (S 0).2.1); rw [hS0], fun i _ => (hS i).1.1, hn, chain_eq _, ?_, ?_⟩
  · by_cases c : ChainOk (firsts N n)
    · rw [decide_eq_true c]; exact hag
    · rw [decide_eq_false c]; exact (tk_fail hag).2
  intro K hK
  have hlast : ∀ (k : Nat), gleberef11_TakeChain.l0 (k + 1) (n : Int) (firsts N n) (n : Int) l0 ((S n).2.2 : Int) (S n).2.1 = some (if tkE (decide (ChainOk (firsts N n))) (S n).2.1 = 0 then firsts N n else [], ((S n).2.2 : Int), tkE (decide (ChainOk (firsts N n))) (S n).2.1) := fun k => by
    rw [gleberef11_TakeChain.l0, if_neg (by omega), rch_eq, Option.bind_some]
    by_cases c : ChainOk (firsts N n)
    · rw [decide_eq_true c, if_pos rfl, tk_yes]
      by_cases z : (S n).2.1 = 0
      · rw [if_pos z, if_pos z]
      · rw [if_neg z, if_neg z]
    · rw [decide_eq_false c, if_neg (by simp), (tk_fail hag).1, Option.bind_some]
      dsimp only
      by_cases z : tkE false (S n).2.1 = 0
      · rw [if_pos z, if_pos z]
      · rw [if_neg z, if_neg z]
  have hloop : ∀ (m i k : Nat), i + m = n → m + 40 ≤ k → gleberef11_TakeChain.l0 k (n : Int) (firsts N i) (i : Int) l0 ((S i).2.2 : Int) (S i).2.1 = some (if tkE (decide (ChainOk (firsts N n))) (S n).2.1 = 0 then firsts N n else [], ((S n).2.2 : Int), tkE (decide (ChainOk (firsts N n))) (S n).2.1) := by
    intro m
    induction m with
    | zero =>
      intro i k hi hk
      obtain rfl : i = n := by omega
      obtain ⟨k, rfl⟩ : ∃ j, k = j + 1 := ⟨k - 1, by omega⟩
      exact hlast k
    | succ m ih =>
      intro i k hi hk
      obtain ⟨k, rfl⟩ : ∃ j, k = j + 1 := ⟨k - 1, by omega⟩
      have hlen := firsts_len N i
      have hw : wrap64 ((i : Int) + 1) = ((i + 1 : Nat) : Int) := by unfold wrap64; omega
      rw [gleberef11_TakeChain.l0, if_pos (by omega), num_at (hS i).1.2 (show 20 ≤ k by omega), Option.bind_some]
      dsimp only
      rw [if_pos (Nat.lt_of_le_of_lt (Nat.le_trans (Nat.le_of_eq hlen) (Nat.le_trans (hi ▸ Nat.le_add_right i (m + 1)) hn)) (by decide)), hw]
      exact ih (i + 1) k (by omega) (by omega)
  unfold gleberef11_TakeChain.f
  have uK := u1K (K - 20)
  rw [show 20 + (K - 20) = K by omega] at uK
  rw [uK, Option.bind_some]
  dsimp only
  have := hloop n 0 K (by omega) (by omega)
  rw [e0, e1] at this
  exact this
/-- Both Takes. -/
theorem take_both : ∃ (r : ERow) (l2 : List Int) (e2 : Int) (ok : Bool) (out : ERow) (at_ : Nat), (∀ w0 g, EMid w0 g l0 0 r l2 e2) ∧ entry_Right.f 100 r.k r.o0 r.o1 r.o2 r.o3 r.o4 r.o5 r.o6 r.n r.ep r.by_ r.ch = some ok ∧ out = (if tkE ok e2 = 0 then r else ERow.zero) ∧ out.ch.length ≤ 8 ∧ Agree l0 l2 (tkE ok e2) at_ ∧
    gleberef11_Take.f 100 l0 0 0 = some (out.k, out.o0, out.o1, out.o2, out.o3, out.o4, out.o5, out.o6, out.n, out.ep, out.by_, out.ch, (at_ : Int), tkE ok e2) := by
  have h0 : Agree l0 l0 0 0 := ⟨by omega, fun _ => rfl⟩
  obtain ⟨a1, q1, h1⟩ := ref_num hl hB h0 20 (by decide)
  obtain ⟨⟨kd, l1, e1⟩, k1⟩ : ∃ x, rdNum l0 0 true = x := ⟨_, rfl⟩
  rw [k1] at q1 h1
  dsimp only at q1 h1
  have q1 : gleberef01_Reader_Num.f 20 l0 0 0 = some (kd, (a1 : Int), e1) := q1
  -- the end: Right, Fail, the zero
  have J2 : ∀ (K : Nat), 40 ≤ K → K ≤ 99 → ∀ (r : ERow) (l2 : List Int) (e2 : Int) (a2 : Nat), r.ch.length ≤ 8 → Agree l0 l2 e2 a2 → ∃ ok, entry_Right.f 100 r.k r.o0 r.o1 r.o2 r.o3 r.o4 r.o5 r.o6 r.n r.ep r.by_ r.ch = some ok ∧ Agree l0 l2 (tkE ok e2) a2 ∧ (if tkE ok e2 = 0 then r else ERow.zero).ch.length ≤ 8 ∧
      gleberef11_Take.j2 (K + 1) l0 (a2 : Int) e2 r.k r.o0 r.o1 r.o2 r.o3 r.o4 r.o5 r.o6 r.n r.ep r.by_ r.ch = some ((if tkE ok e2 = 0 then r else ERow.zero).k, (if tkE ok e2 = 0 then r else ERow.zero).o0, (if tkE ok e2 = 0 then r else ERow.zero).o1, (if tkE ok e2 = 0 then r else ERow.zero).o2, (if tkE ok e2 = 0 then r else ERow.zero).o3, (if tkE ok e2 = 0 then r else ERow.zero).o4, (if tkE ok e2 = 0 then r else ERow.zero).o5, (if tkE ok e2 = 0 then r else ERow.zero).o6, (if tkE ok e2 = 0 then r else ERow.zero).n, (if tkE ok e2 = 0 then r else ERow.zero).ep, (if tkE ok e2 = 0 then r else ERow.zero).by_, (if tkE ok e2 = 0 then r else ERow.zero).ch, (a2 : Int), tkE ok e2) := by
    intro K hK hK2 r l2 e2 a2 hch hag
    obtain ⟨ok, r1, r2⟩ := eright_both K (by omega) (by omega) r.k r.o0 r.o1 r.o2 r.o3 r.o4 r.o5 r.o6 r.n r.ep r.by_ r.ch hch
    refine ⟨ok, r1, ?_, ?_, ?_⟩
    · cases ok
      · exact (tk_fail hag).2
      · exact hag
    · by_cases c : tkE ok e2 = 0
      · rw [if_pos c]; exact hch
      · rw [if_neg c]; simp [ERow.zero]
    rw [gleberef11_Take.j2, r2, Option.bind_some]
    cases ok
    · rw [if_neg (by simp), (tk_fail hag).1, Option.bind_some]
      dsimp only
      by_cases c : tkE false e2 = 0
      · rw [if_pos c, if_pos c]
      · rw [if_neg c, if_neg c]
        rfl
    · rw [if_pos rfl, tk_yes]
      by_cases c : e2 = 0
      · rw [if_pos c, if_pos c]
      · rw [if_neg c, if_neg c]
        rfl
  -- kinds
  by_cases c1 : kd = 1
  · subst c1
    obtain ⟨x0, m1, f1, x1, m2, f2, x2, m3, f3, x3, m4, f4, x4, m5, f5, x5, m6, f6, x6, m7, f7, r, at_, p1, p2, p3, p4, p5, p6, p7, pr, hag, hf⟩ := stage_op hl hB h1 100 (by decide)
    obtain ⟨rw_, hrw⟩ : ∃ x : ERow, x = ⟨1, if tkE r f7 = 0 then x0 else 0, if tkE r f7 = 0 then x1 else 0, if tkE r f7 = 0 then x2 else 0, if tkE r f7 = 0 then strOfNums x3 else ⟨#[]⟩, if tkE r f7 = 0 then strOfNums x4 else ⟨#[]⟩, if tkE r f7 = 0 then x5 else 0, if tkE r f7 = 0 then x6 else 0, 0, 0, 0, []⟩ := ⟨_, rfl⟩
    obtain ⟨ok, j1, j2, j3, j4⟩ := J2 99 (by decide) (by decide) rw_ m7 (tkE r f7) at_ (by rw [hrw]; simp) hag
    refine ⟨rw_, m7, tkE r f7, ok, _, at_, fun w0 g => ⟨1, l1, e1, k1, .inl ⟨rfl, _, _, _, _, _, _, _, hrw, ?_⟩⟩, j1, rfl, j3, j2, ?_⟩
    · intro W hI hB
      have := point_TakeOp.calls 100 g l1 e1 x0 m1 f1 p1 x1 m2 f2 p2 x2 m3 f3 p3 x3 m4 f4 p4 x4 m5 f5 p5 x5 m6 f6 p6 x6 m7 f7 p7 r pr w0 W hI hB
      rw [zero_row7] at this
      exact this
    · rw [← j4, hrw]
      unfold gleberef11_Take.f
      rw [num_at q1 (by decide), Option.bind_some]
      dsimp only
      rw [if_pos rfl, hf, Option.bind_some]
  by_cases c2 : kd = 2 ∨ kd = 3
  · obtain ⟨a2, u2, h2⟩ := ref_num hl hB h1 20 (by decide)
    obtain ⟨⟨n, m2, f2⟩, k2⟩ : ∃ x, rdNum l1 e1 true = x := ⟨_, rfl⟩
    rw [k2] at u2 h2
    dsimp only at u2 h2
    obtain ⟨ok, j1, j2, j3, j4⟩ := J2 98 (by decide) (by decide) ⟨kd, 0, 0, 0, ⟨#[]⟩, ⟨#[]⟩, 0, 0, n, 0, 0, []⟩ m2 f2 a2 (by simp) h2
    refine ⟨⟨kd, 0, 0, 0, ⟨#[]⟩, ⟨#[]⟩, 0, 0, n, 0, 0, []⟩, m2, f2, ok, _, a2, fun w0 g => ⟨kd, l1, e1, k1, .inr (.inl ⟨c2, n, rfl, k2⟩)⟩, j1, rfl, j3, j2, ?_⟩
    rw [← j4]
    unfold gleberef11_Take.f
    rw [num_at q1 (by decide), Option.bind_some]
    dsimp only
    rw [if_neg c1]
    have hj : gleberef11_Take.j0 100 kd true l0 (a1 : Int) e1 kd 0 0 0 ⟨#[]⟩ ⟨#[]⟩ 0 0 0 0 0 = gleberef11_Take.j2 99 l0 (a2 : Int) f2 kd 0 0 0 ⟨#[]⟩ ⟨#[]⟩ 0 0 n 0 0 [] := by
      rw [gleberef11_Take.j0, if_pos rfl, num_at u2 (by decide), Option.bind_some]
    rcases c2 with rfl | rfl
    · rw [if_pos rfl]
      exact hj
    · rw [if_neg (by decide)]
      exact hj
  have d2 : kd ≠ 2 := fun q => c2 (.inl q)
  have d3 : kd ≠ 3 := fun q => c2 (.inr q)
  have hj0 : gleberef11_Take.f 100 l0 0 0 = gleberef11_Take.j1 99 (decide (kd = 4 ∨ kd = 5)) l0 (a1 : Int) e1 kd 0 0 0 ⟨#[]⟩ ⟨#[]⟩ 0 0 0 0 0 := by
    unfold gleberef11_Take.f
    rw [num_at q1 (by decide), Option.bind_some]
    dsimp only
    rw [if_neg c1, if_neg d2, show (kd == 3) = false from beq_eq_false_iff_ne.mpr d3, gleberef11_Take.j0, if_neg (by simp)]
    by_cases c4 : kd = 4
    · rw [if_pos c4, decide_eq_true (.inl c4), show (kd == 4) = true from beq_iff_eq.mpr c4]
    · rw [if_neg c4]
      by_cases c5 : kd = 5
      · rw [decide_eq_true (.inr c5), show (kd == 5) = true from beq_iff_eq.mpr c5]
      · rw [decide_eq_false (by omega), show (kd == 5) = false from beq_eq_false_iff_ne.mpr c5]
  rw [hj0]
  clear hj0
  by_cases c4 : kd = 4 ∨ kd = 5
  · rw [decide_eq_true c4]
    obtain ⟨a2, u2, h2⟩ := ref_num hl hB h1 20 (by decide)
    obtain ⟨⟨n, m2, f2⟩, k2⟩ : ∃ x, rdNum l1 e1 true = x := ⟨_, rfl⟩
    rw [k2] at u2 h2
    dsimp only at u2 h2
    obtain ⟨a3, u3, h3⟩ := ref_num hl hB h2 20 (by decide)
    obtain ⟨⟨ep, m3, f3⟩, k3⟩ : ∃ x, rdNum m2 f2 true = x := ⟨_, rfl⟩
    rw [k3] at u3 h3
    dsimp only at u3 h3
    obtain ⟨a4, u4, h4⟩ := ref_num hl hB h3 20 (by decide)
    obtain ⟨⟨by_, m4, f4⟩, k4⟩ : ∃ x, rdNum m3 f3 true = x := ⟨_, rfl⟩
    rw [k4] at u4 h4
    dsimp only at u4 h4
    obtain ⟨nc, L, E, N, okc, a5, v0, vS, vn, vc, vag, vf⟩ := chain_both hl hB h4
    obtain ⟨ok, j1, j2, j3, j4⟩ := J2 97 (by decide) (by decide) ⟨kd, 0, 0, 0, ⟨#[]⟩, ⟨#[]⟩, 0, 0, n, ep, by_, if tkE okc (E nc) = 0 then firsts N nc else []⟩ (L nc) (tkE okc (E nc)) a5 (by
      dsimp only
      by_cases c : tkE okc (E nc) = 0
      · rw [if_pos c, firsts_len]; exact vn
      · rw [if_neg c]; simp) vag
    refine ⟨⟨kd, 0, 0, 0, ⟨#[]⟩, ⟨#[]⟩, 0, 0, n, ep, by_, if tkE okc (E nc) = 0 then firsts N nc else []⟩, L nc, tkE okc (E nc), ok, _, a5, fun w0 g => ⟨kd, l1, e1, k1, .inr (.inr (.inl ⟨c4, n, ep, by_, _, m2, f2, m3, f3, m4, f4, rfl, k2, k3, k4, ?_⟩))⟩, j1, rfl, j3, j2, ?_⟩
    · intro W hI hB
      exact entry_TakeChain.calls 100 g m4 f4 nc L E N v0 vS vn okc vc w0 W hI hB
    · rw [← j4, gleberef11_Take.j1, if_pos rfl, num_at u2 (by decide), Option.bind_some]
      dsimp only
      rw [num_at u3 (by decide), Option.bind_some]
      dsimp only
      rw [num_at u4 (by decide), Option.bind_some]
      dsimp only
      rw [vf 98 (by decide), Option.bind_some]
  · rw [decide_eq_false c4]
    obtain ⟨ok, j1, j2, j3, j4⟩ := J2 97 (by decide) (by decide) ⟨kd, 0, 0, 0, ⟨#[]⟩, ⟨#[]⟩, 0, 0, 0, 0, 0, []⟩ l1 e1 a1 (by simp) h1
    refine ⟨⟨kd, 0, 0, 0, ⟨#[]⟩, ⟨#[]⟩, 0, 0, 0, 0, 0, []⟩, l1, e1, ok, _, a1, fun w0 g => ⟨kd, l1, e1, k1, .inr (.inr (.inr ⟨⟨c1, d2, d3, fun q => c4 (.inl q), fun q => c4 (.inr q)⟩, rfl, rfl, rfl⟩))⟩, j1, rfl, j3, j2, ?_⟩
    rw [← j4, gleberef11_Take.j1, if_neg (by simp)]
end
end Go.Proofs.Ytampppdjfbabiaa.PE
