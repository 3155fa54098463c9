/- Lists of nodes: In, Contains, SameList, RightChain. -/
import Derived.Test.YtampppdjfbabiaaPEx1
namespace Go.Proofs.Ytampppdjfbabiaa.PE
open Go.RowKit Go.Proofs.YtampppdjfbabiaaW.PrintWords Go.Proofs.YtampppdjfbabiaaW.PrintLast Go.Proofs.YtampppdjfbabiaaW.PrintMore
set_option linter.unusedVariables false
set_option linter.unusedSimpArgs false
theorem rd_get (l : List Int) (i : Nat) (hi : i < l.length) : rd l (i : Int) = l[i] := by
  unfold rd
  rw [Int.toNat_natCast]
  simp [hi]
theorem w_succ (i : Nat) (h : i ≤ 1000000) : wrap64 ((i : Int) + 1) = ((i + 1 : Nat) : Int) := by unfold wrap64; omega
theorem mem_drop {l : List Int} {n : Int} {i : Nat} (hi : i < l.length) : n ∈ l.drop i ↔ n = l[i] ∨ n ∈ l.drop (i + 1) := by
  rw [List.drop_eq_getElem_cons hi, List.mem_cons]
theorem in_from (l : List Int) (n : Int) (hl : l.length ≤ 1000000) : ∀ (m i k : Nat), i + m = l.length → m < k → gleberef11_In.l0 k l n (i : Int) = some (decide (n ∈ l.drop i)) := by
  intro m
  induction m with
  | zero =>
    intro i k h hk
    obtain ⟨k, rfl⟩ : ∃ j, k = j + 1 := ⟨k - 1, by omega⟩
    rw [gleberef11_In.l0, if_neg (by omega), List.drop_eq_nil_of_le (by omega)]
    simp
  | succ m ih =>
    intro i k h hk
    obtain ⟨k, rfl⟩ : ∃ j, k = j + 1 := ⟨k - 1, by omega⟩
    have hi : i < l.length := by omega
    rw [gleberef11_In.l0, if_pos (by omega), if_pos (by omega), rd_get l i hi, w_succ i (by omega)]
    by_cases c : l[i] = n
    · rw [if_pos c, decide_eq_true ((mem_drop hi).mpr (.inl c.symm))]
    · rw [if_neg c, ih (i + 1) k (by omega) (by omega)]
      congr 1
      rw [decide_eq_decide, mem_drop hi]
      exact ⟨.inr, fun q => q.elim (fun e => absurd e.symm c) id⟩
theorem in_eq {l : List Int} (n : Int) {k : Nat} (hl : l.length < k) (hk : k ≤ 1000) : gleberef11_In.f k l n = some (decide (n ∈ l)) := in_from l n (by omega) l.length 0 k (by omega) hl
theorem idx_from (l : List Int) (n : Int) (hl : l.length ≤ 1000000) : ∀ (m i k : Nat), i + m = l.length → m < k → ∃ v : Int, slices_Index_int_int.l0 k l n (l.length : Int) (i : Int) = some v ∧ (v ≥ 0 ↔ n ∈ l.drop i) := by
  intro m
  induction m with
  | zero =>
    intro i k h hk
    obtain ⟨k, rfl⟩ : ∃ j, k = j + 1 := ⟨k - 1, by omega⟩
    rw [slices_Index_int_int.l0, if_neg (by omega), List.drop_eq_nil_of_le (by omega)]
    exact ⟨-1, rfl, by simp⟩
  | succ m ih =>
    intro i k h hk
    obtain ⟨k, rfl⟩ : ∃ j, k = j + 1 := ⟨k - 1, by omega⟩
    have hi : i < l.length := by omega
    rw [slices_Index_int_int.l0, if_pos (by omega), if_pos (by omega), if_pos (by omega), rd_get l i hi, w_succ i (by omega)]
    by_cases c : n = l[i]
    · rw [if_pos c]
      exact ⟨_, rfl, ⟨fun _ => (mem_drop hi).mpr (.inl c), fun _ => by omega⟩⟩
    · rw [if_neg c]
      obtain ⟨v, h1, h2⟩ := ih (i + 1) k (by omega) (by omega)
      exact ⟨v, h1, h2.trans ⟨fun q => (mem_drop hi).mpr (.inr q), fun q => ((mem_drop hi).mp q).elim (fun e => absurd e c) id⟩⟩
theorem contains_eq {l : List Int} (n : Int) {k : Nat} (hl : l.length < k) (hk : k ≤ 1000) : slices_Contains_int_int.f k l n = some (decide (n ∈ l)) := by
  unfold slices_Contains_int_int.f slices_Index_int_int.f
  obtain ⟨v, h1, h2⟩ := idx_from l n (by omega) l.length 0 k (by omega) hl
  have h1 : slices_Index_int_int.l0 k l n (l.length : Int) 0 = some v := h1
  rw [h1, Option.bind_some]
  congr 1
  rw [decide_eq_decide]
  exact h2
theorem same_from (a b : List Int) (hl : a.length = b.length) (hb : a.length ≤ 1000000) : ∀ (m i k : Nat), i + m = a.length → m < k → gleberef11_SameList.l0 k a b (i : Int) = some (decide (a.drop i = b.drop i)) := by
  intro m
  induction m with
  | zero =>
    intro i k h hk
    obtain ⟨k, rfl⟩ : ∃ j, k = j + 1 := ⟨k - 1, by omega⟩
    rw [gleberef11_SameList.l0, if_neg (by omega), List.drop_eq_nil_of_le (by omega), List.drop_eq_nil_of_le (by omega)]
    simp
  | succ m ih =>
    intro i k h hk
    obtain ⟨k, rfl⟩ : ∃ j, k = j + 1 := ⟨k - 1, by omega⟩
    have hi : i < a.length := by omega
    have hi2 : i < b.length := by omega
    rw [gleberef11_SameList.l0, if_pos (by omega), if_pos (by omega), if_pos (by omega), rd_get a i hi, rd_get b i hi2, w_succ i (by omega), List.drop_eq_getElem_cons hi, List.drop_eq_getElem_cons hi2]
    by_cases c : a[i] = b[i]
    · rw [if_pos c, ih (i + 1) k (by omega) (by omega)]
      congr 1
      rw [decide_eq_decide, List.cons.injEq]
      exact ⟨fun q => ⟨c, q⟩, fun q => q.2⟩
    · rw [if_neg c, decide_eq_false]
      intro q
      exact c (List.cons.inj q).1
theorem samel_eq {a b : List Int} {k : Nat} (hl : a.length < k) (hk : k ≤ 1000) : gleberef11_SameList.f k a b = some (decide (a = b)) := by
  unfold gleberef11_SameList.f
  by_cases c : a.length = b.length
  · rw [if_pos (by omega)]
    exact same_from a b c (by omega) a.length 0 k (by omega) hl
  · rw [if_neg (by omega), decide_eq_false (fun h => c (by rw [h]))]
/-- May it be a chain? -/
def ChainOk (l : List Int) : Prop := (∀ z ∈ l, 0 ≤ z ∧ z < 8) ∧ l.Nodup
instance (l : List Int) : Decidable (ChainOk l) := by unfold ChainOk; exact inferInstance
theorem chainGo_eq : ∀ (l : List Int) (s : Nat → Bool), chainGo l s = true ↔ ((∀ z ∈ l, 0 ≤ z ∧ z < 8) ∧ l.Nodup ∧ ∀ z ∈ l, s z.toNat = false)
  | [], s => by simp [chainGo]
  | n :: l, s => by
    rw [chainGo]
    by_cases c : 0 ≤ n ∧ n < 8
    · rw [if_pos c]
      by_cases d : s n.toNat = true
      · rw [if_pos d]
        constructor
        · intro h; cases h
        · rintro ⟨_, _, h⟩
          have := h n (by simp)
          rw [d] at this
          cases this
      · rw [if_neg d, chainGo_eq l]
        constructor
        · rintro ⟨h1, h2, h3⟩
          have hn : n ∉ l := fun q => by
            have := h3 n q
            rw [if_pos rfl] at this
            cases this
          refine ⟨fun z hz => ?_, List.nodup_cons.mpr ⟨hn, h2⟩, fun z hz => ?_⟩
          · rcases List.mem_cons.mp hz with rfl | hz
            · exact c
            · exact h1 z hz
          · rcases List.mem_cons.mp hz with rfl | hz
            · simpa using d
            · have := h3 z hz
              split at this
              · cases this
              · exact this
        · rintro ⟨h1, h2, h3⟩
          obtain ⟨hn, h2⟩ := List.nodup_cons.mp h2
          refine ⟨fun z hz => h1 z (by simp [hz]), h2, fun z hz => ?_⟩
          have hz8 := h1 z (by simp [hz])
          have : ¬ z.toNat = n.toNat := fun q => hn (by rw [show n = z by omega]; exact hz)
          rw [if_neg this]
          exact h3 z (by simp [hz])
    · rw [if_neg c]
      constructor
      · intro h; cases h
      · rintro ⟨h, _⟩
        exact absurd (h n (by simp)) c
theorem chain_eq (l : List Int) : entry_RightChain.f l = some (decide (ChainOk l)) := by
  unfold entry_RightChain.f
  congr 1
  by_cases c : ChainOk l
  · rw [decide_eq_true c]
    exact (chainGo_eq l _).mpr ⟨c.1, c.2, fun _ _ => rfl⟩
  · rw [decide_eq_false c]
    cases h : chainGo l fun _ => false
    · rfl
    · obtain ⟨h1, h2, _⟩ := (chainGo_eq l _).mp h
      exact absurd ⟨h1, h2⟩ c
theorem node_eq (n : Int) : entry_node.f n = some (decide (0 ≤ n ∧ n < 8)) := by
  unfold entry_node.f
  by_cases h : n ≥ 0
  · rw [if_pos h]
    congr 1
    rw [decide_eq_decide]
    omega
  · rw [if_neg h, decide_eq_false (by omega)]
/-- Without a node that is in it once. -/
theorem without_len {l : List Int} {n : Int} (h : l.Nodup) (hn : n ∈ l) : (l.filter (· != n)).length + 1 = l.length := by
  induction l with
  | nil => cases hn
  | cons x l ih =>
    obtain ⟨h1, h2⟩ := List.nodup_cons.mp h
    by_cases c : x = n
    · subst c
      have : l.filter (· != x) = l := List.filter_eq_self.mpr fun z hz => by
        simp only [bne_iff_ne]
        rintro rfl
        exact h1 hz
      simp [this]
    · have hm : n ∈ l := by
        rcases List.mem_cons.mp hn with e | e
        · exact absurd e.symm c
        · exact e
      have := ih h2 hm
      simp only [List.filter_cons, bne_iff_ne, ne_eq, c, not_false_eq_true, if_true, List.length_cons]
      omega
end Go.Proofs.Ytampppdjfbabiaa.PE
