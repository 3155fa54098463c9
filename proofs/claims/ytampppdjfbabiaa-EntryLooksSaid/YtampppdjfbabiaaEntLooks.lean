/- Numbers as bytes: what wire.Num and the reference write. -/
import Derived.Test.YtampppdjfbabiaaPEx1
import Derived.Test.YtampppdjfbabiaaPEx2
import Derived.Test.YtampppdjfbabiaaPEx3
namespace Go.Proofs.Ytampppdjfbabiaa.PE
open Go.RowKit Go.Proofs.YtampppdjfbabiaaW.PrintWords Go.Proofs.YtampppdjfbabiaaW.PrintLast Go.Proofs.YtampppdjfbabiaaW.PrintMore
set_option linter.unusedVariables false
set_option linter.unusedSimpArgs false
theorem rd_get (l : List Int) (i : Nat) (hi : i < l.length) : rd l (i : Int) = l[i] := by
  unfold rd
  rw [Int.toNat_natCast]
  simp [hi]
theorem w_succ (i : Nat) (h : i ≤ 1000000) : wrap64 ((i : Int) + 1) = ((i + 1 : Nat) : Int) := by unfold wrap64; omega
theorem mem_drop {l : List Int} {n : Int} {i : Nat} (hi : i < l.length) : n ∈ l.drop i ↔ n = l[i] ∨ n ∈ l.drop (i + 1) := by
  rw [List.drop_eq_getElem_cons hi, List.mem_cons]
theorem in_from (l : List Int) (n : Int) (hl : l.length ≤ 1000000) : ∀ (m i k : Nat), i + m = l.length → m < k → gleberef11_In.l0 k l n (i : Int) = some (decide (n ∈ l.drop i)) := by
  intro m
  induction m with
  | zero =>
    intro i k h hk
    obtain ⟨k, rfl⟩ : ∃ j, k = j + 1 := ⟨k - 1, by omega⟩
    rw [gleberef11_In.l0, if_neg (by omega), List.drop_eq_nil_of_le (by omega)]
    simp
  | succ m ih =>
    intro i k h hk
    obtain ⟨k, rfl⟩ : ∃ j, k = j + 1 := ⟨k - 1, by omega⟩
    have hi : i < l.length := by omega
    rw [gleberef11_In.l0, if_pos (by omega), if_pos (by omega), rd_get l i hi, w_succ i (by omega)]
    by_cases c : l[i] = n
    · rw [if_pos c, decide_eq_true ((mem_drop hi).mpr (.inl c.symm))]
    · rw [if_neg c, ih (i + 1) k (by omega) (by omega)]
      congr 1
      rw [decide_eq_decide, mem_drop hi]
      exact ⟨.inr, fun q => q.elim (fun e => absurd e.symm c) id⟩
theorem in_eq {l : List Int} (n : Int) {k : Nat} (hl : l.length < k) (hk : k ≤ 1000) : gleberef11_In.f k l n = some (decide (n ∈ l)) := in_from l n (by omega) l.length 0 k (by omega) hl
theorem idx_from (l : List Int) (n : Int) (hl : l.length ≤ 1000000) : ∀ (m i k : Nat), i + m = l.length → m < k → ∃ v : Int, slices_Index_int_int.l0 k l n (l.length : Int) (i : Int) = some v ∧ (v ≥ 0 ↔ n ∈ l.drop i) := by
  intro m
  induction m with
  | zero =>
    intro i k h hk
    obtain ⟨k, rfl⟩ : ∃ j, k = j + 1 := ⟨k - 1, by omega⟩
    rw [slices_Index_int_int.l0, if_neg (by omega), List.drop_eq_nil_of_le (by omega)]
    exact ⟨-1, rfl, by simp⟩
  | succ m ih =>
    intro i k h hk
    obtain ⟨k, rfl⟩ : ∃ j, k = j + 1 := ⟨k - 1, by omega⟩
    have hi : i < l.length := by omega
    rw [slices_Index_int_int.l0, if_pos (by omega), if_pos (by omega), if_pos (by omega), rd_get l i hi, w_succ i (by omega)]
    by_cases c : n = l[i]
    · rw [if_pos c]
      exact ⟨_, rfl, ⟨fun _ => (mem_drop hi).mpr (.inl c), fun _ => by omega⟩⟩
    · rw [if_neg c]
      obtain ⟨v, h1, h2⟩ := ih (i + 1) k (by omega) (by omega)
      exact ⟨v, h1, h2.trans ⟨fun q => (mem_drop hi).mpr (.inr q), fun q => ((mem_drop hi).mp q).elim (fun e => absurd e c) id⟩⟩
theorem contains_eq {l : List Int} (n : Int) {k : Nat} (hl : l.length < k) (hk : k ≤ 1000) : slices_Contains_int_int.f k l n = some (decide (n ∈ l)) := by
  unfold slices_Contains_int_int.f slices_Index_int_int.f
  obtain ⟨v, h1, h2⟩ := idx_from l n (by omega) l.length 0 k (by omega) hl
  have h1 : slices_Index_int_int.l0 k l n (l.length : Int) 0 = some v := h1
  rw [h1, Option.bind_some]
  congr 1
  rw [decide_eq_decide]
  exact h2
theorem same_from (a b : List Int) (hl : a.length = b.length) (hb : a.length ≤ 1000000) : ∀ (m i k : Nat), i + m = a.length → m < k → gleberef11_SameList.l0 k a b (i : Int) = some (decide (a.drop i = b.drop i)) := by
  intro m
  induction m with
  | zero =>
    intro i k h hk
    obtain ⟨k, rfl⟩ : ∃ j, k = j + 1 := ⟨k - 1, by omega⟩
    rw [gleberef11_SameList.l0, if_neg (by omega), List.drop_eq_nil_of_le (by omega), List.drop_eq_nil_of_le (by omega)]
    simp
  | succ m ih =>
    intro i k h hk
    obtain ⟨k, rfl⟩ : ∃ j, k = j + 1 := ⟨k - 1, by omega⟩
    have hi : i < a.length := by omega
    have hi2 : i < b.length := by omega
    rw [gleberef11_SameList.l0, if_pos (by omega), if_pos (by omega), if_pos (by omega), rd_get a i hi, rd_get b i hi2, w_succ i (by omega), List.drop_eq_getElem_cons hi, List.drop_eq_getElem_cons hi2]
    by_cases c : a[i] = b[i]
    · rw [if_pos c, ih (i + 1) k (by omega) (by omega)]
      congr 1
      rw [decide_eq_decide, List.cons.injEq]
      exact ⟨fun q => ⟨c, q⟩, fun q => q.2⟩
    · rw [if_neg c, decide_eq_false]
      intro q
      exact c (List.cons.inj q).1
theorem samel_eq {a b : List Int} {k : Nat} (hl : a.length < k) (hk : k ≤ 1000) : gleberef11_SameList.f k a b = some (decide (a = b)) := by
  unfold gleberef11_SameList.f
  by_cases c : a.length = b.length
  · rw [if_pos (by omega)]
    exact same_from a b c (by omega) a.length 0 k (by omega) hl
  · rw [if_neg (by omega), decide_eq_false (fun h => c (by rw [h]))]
/-- May it be a chain? -/
def ChainOk (l : List Int) : Prop := (∀ z ∈ l, 0 ≤ z ∧ z < 8) ∧ l.Nodup
instance (l : List Int) : Decidable (ChainOk l) := by unfold ChainOk; exact inferInstance
theorem chainGo_eq : ∀ (l : List Int) (s : Nat → Bool), chainGo l s = true ↔ ((∀ z ∈ l, 0 ≤ z ∧ z < 8) ∧ l.Nodup ∧ ∀ z ∈ l, s z.toNat = false)
  | [], s => by simp [chainGo]
  | n :: l, s => by
    rw [chainGo]
    by_cases c : 0 ≤ n ∧ n < 8
    · rw [if_pos c]
      by_cases d : s n.toNat = true
      · rw [if_pos d]
        constructor
        · intro h; cases h
        · rintro ⟨_, _, h⟩
          have := h n (by simp)
          rw [d] at this
          cases this
      · rw [if_neg d, chainGo_eq l]
        constructor
        · rintro ⟨h1, h2, h3⟩
          have hn : n ∉ l := fun q => by
            have := h3 n q
            rw [if_pos rfl] at this
            cases this
          refine ⟨fun z hz => ?_, List.nodup_cons.mpr ⟨hn, h2⟩, fun z hz => ?_⟩
          · rcases List.mem_cons.mp hz with rfl | hz
            · exact c
            · exact h1 z hz
          · rcases List.mem_cons.mp hz with rfl | hz
            · simpa using d
            · have := h3 z hz
              split at this
              · cases this
              · exact this
        · rintro ⟨h1, h2, h3⟩
          obtain ⟨hn, h2⟩ := List.nodup_cons.mp h2
          refine ⟨fun z hz => h1 z (by simp [hz]), h2, fun z hz => ?_⟩
          have hz8 := h1 z (by simp [hz])
          have : ¬ z.toNat = n.toNat := fun q => hn (by rw [show n = z by omega]; exact hz)
          rw [if_neg this]
          exact h3 z (by simp [hz])
    · rw [if_neg c]
      constructor
      · intro h; cases h
      · rintro ⟨h, _⟩
        exact absurd (h n (by simp)) c
theorem chain_eq (l : List Int) : entry_RightChain.f l = some (decide (ChainOk l)) := by
  unfold entry_RightChain.f
  congr 1
  by_cases c : ChainOk l
  · rw [decide_eq_true c]
    exact (chainGo_eq l _).mpr ⟨c.1, c.2, fun _ _ => rfl⟩
  · rw [decide_eq_false c]
    cases h : chainGo l fun _ => false
    · rfl
    · obtain ⟨h1, h2, _⟩ := (chainGo_eq l _).mp h
      exact absurd ⟨h1, h2⟩ c
theorem node_eq (n : Int) : entry_node.f n = some (decide (0 ≤ n ∧ n < 8)) := by
  unfold entry_node.f
  by_cases h : n ≥ 0
  · rw [if_pos h]
    congr 1
    rw [decide_eq_decide]
    omega
  · rw [if_neg h, decide_eq_false (by omega)]
/-- Without a node that is in it once. -/
theorem without_len {l : List Int} {n : Int} (h : l.Nodup) (hn : n ∈ l) : (l.filter (· != n)).length + 1 = l.length := by
  induction l with
  | nil => cases hn
  | cons x l ih =>
    obtain ⟨h1, h2⟩ := List.nodup_cons.mp h
    by_cases c : x = n
    · subst c
      have : l.filter (· != x) = l := List.filter_eq_self.mpr fun z hz => by
        simp only [bne_iff_ne]
        rintro rfl
        exact h1 hz
      simp [this]
    · have hm : n ∈ l := by
        rcases List.mem_cons.mp hn with e | e
        · exact absurd e.symm c
        · exact e
      have := ih h2 hm
      simp only [List.filter_cons, bne_iff_ne, ne_eq, c, not_false_eq_true, if_true, List.length_cons]
      omega

theorem w64_small {x : Int} (h1 : -9223372036854775808 ≤ x) (h2 : x ≤ 9223372036854775807) : wrap64 x = x := by
  unfold wrap64
  omega
/-- A number's bytes, in at most j + 1 of them. -/
def numB : Nat → Int → List Int
  | 0, x => [x]
  | j + 1, x => if x > 127 then (128 + x % 128) :: numB j (x / 128) else [x]
theorem or_128 (x : Int) : Go.bits .or .u8 (x % 256) 128 = 128 + x % 128 := by
  have h : ∀ y : Fin 256, Go.bits .or .u8 ((y.val : Nat) : Int) 128 = 128 + ((y.val : Nat) : Int) % 128 := by decide +kernel
  have h1 : 0 ≤ x % 256 ∧ x % 256 < 256 := by omega
  have h2 := h ⟨(x % 256).toNat, by omega⟩
  dsimp only at h2
  rw [Int.toNat_of_nonneg h1.1] at h2
  rw [h2]
  omega
theorem numB_len (j : Nat) (x : Int) : (numB j x).length ≤ j + 1 := by
  induction j generalizing x with
  | zero => simp [numB]
  | succ j ih =>
    unfold numB
    split
    · have := ih (x / 128)
      simp
      omega
    · simp
theorem wnum_loop (k j : Nat) : ∀ (x : Int) (out : List Int), 0 ≤ x → x < 128 * 128 ^ j → out.length + j ≤ 1000 → wire_Num.l0 (k + 1 + j) x out = some (out ++ numB j x, 0) := by
  induction j with
  | zero =>
    intro x out h0 h1 h2
    simp only [wire_Num.l0, numB]
    simp at h1
    rw [if_neg (by omega), if_pos (by omega), Int.emod_eq_of_lt h0 (by omega)]
  | succ j ih =>
    intro x out h0 h1 h2
    show wire_Num.l0 ((k + 1 + j) + 1) _ _ = _
    simp only [wire_Num.l0, numB]
    by_cases h : x > 127
    · rw [Int.pow_succ] at h1
      rw [if_pos h, if_pos h, if_pos (by omega), or_128, ih _ _ (by omega) (by omega) (by simp; omega)]
      simp
    · rw [if_neg h, if_neg h, if_pos (by omega), Int.emod_eq_of_lt h0 (by omega)]
theorem rnum_loop (k j : Nat) : ∀ (x : Int) (out : List Int), 0 ≤ x → x ≤ 9007199254740992 → x < 128 * 128 ^ j → out.length + j ≤ 1000 → gleberef01_Num.l0 (k + 1 + j) x out = some (out ++ numB j x) := by
  induction j with
  | zero =>
    intro x out h0 hx h1 h2
    simp only [gleberef01_Num.l0, numB]
    simp at h1
    rw [if_neg (by omega), if_pos (by omega), Int.emod_eq_of_lt h0 (by omega)]
  | succ j ih =>
    intro x out h0 hx h1 h2
    show gleberef01_Num.l0 ((k + 1 + j) + 1) _ _ = _
    simp only [gleberef01_Num.l0, numB]
    by_cases h : x > 127
    · rw [Int.pow_succ] at h1
      rw [if_pos (by omega), if_pos h, if_pos (by omega), Int.tdiv_eq_ediv_of_nonneg h0, Int.tmod_eq_emod_of_nonneg h0, w64_small (x := x / 128) (by omega) (by omega), w64_small (by omega) (by omega), Int.emod_eq_of_lt (by omega) (by omega), ih _ _ (by omega) (by omega) (by omega) (by simp; omega)]
      simp
    · rw [if_neg (by omega), if_neg h, if_pos (by omega), Int.emod_eq_of_lt h0 (by omega)]
theorem wnum_yes {n : Int} (h0 : 0 ≤ n) (h1 : n ≤ 9007199254740992) (k : Nat) : wire_Num.f (k + 10) n = some (numB 8 n, 0) := by
  unfold wire_Num.f
  rw [if_neg (by omega), decide_eq_false (by omega)]
  show wire_Num.j0 ((k + 9) + 1) _ _ = _
  simp only [wire_Num.j0]
  rw [if_neg (by decide)]
  have := wnum_loop k 8 n [] h0 (by omega) (by simp)
  simpa using this
theorem wnum_no {n : Int} (h : n < 0 ∨ n > 9007199254740992) (k : Nat) : wire_Num.f (k + 1) n = some ([], 1) := by
  unfold wire_Num.f
  by_cases h0 : n < 0
  · rw [if_pos h0]
    simp [wire_Num.j0]
  · rw [if_neg h0, decide_eq_true (by omega)]
    simp [wire_Num.j0]
theorem rnum_yes {n : Int} (h0 : 0 ≤ n) (h1 : n ≤ 9007199254740992) (k : Nat) : gleberef01_Num.f (k + 10) n = some (numB 8 n) := by
  unfold gleberef01_Num.f
  rw [if_neg (by omega), decide_eq_false (by omega)]
  show gleberef01_Num.j0 ((k + 9) + 1) _ _ = _
  simp only [gleberef01_Num.j0]
  rw [if_neg (by decide)]
  have := rnum_loop k 8 n [] h0 h1 (by omega) (by simp)
  simpa using this
theorem rnum_no {n : Int} (h : n < 0 ∨ n > 9007199254740992) (k : Nat) : gleberef01_Num.f (k + 1) n = some [] := by
  unfold gleberef01_Num.f
  by_cases h0 : n < 0
  · rw [if_pos h0]
    simp [gleberef01_Num.j0]
  · rw [if_neg h0, decide_eq_true (by omega)]
    simp [gleberef01_Num.j0]
theorem wtext_yes (s : ByteArray) (h : s.size ≤ 131072) (k : Nat) : wire_Text.f (k + 10) s = some (numB 8 s.size ++ bytesOf s, 0) := by
  unfold wire_Text.f
  rw [if_neg (by omega), wnum_yes (by omega) (by omega), Option.bind_some]
  have := numB_len 8 s.size
  dsimp only
  rw [if_pos (by omega)]
theorem rtext_yes (s : ByteArray) (h : s.size ≤ 131072) (k : Nat) : gleberef01_Text.f (k + 10) s = some (numB 8 s.size ++ bytesOf s) := by
  unfold gleberef01_Text.f
  rw [rnum_yes (by omega) (by omega), Option.bind_some]
  have := numB_len 8 s.size
  rw [if_pos (by omega)]

theorem from_eq (a b c : Int) : point_from.f a b c = some (decide (a ≤ b) && decide (b ≤ c)) := by
  unfold point_from.f
  by_cases h : b ≥ a
  · rw [if_pos h, decide_eq_true h, Bool.true_and]
  · rw [if_neg h, decide_eq_false h, Bool.false_and]
theorem cell_eq (x y : Int) : point_cell.f x y = some (decide (0 ≤ x) && decide (x ≤ 65535) && (decide (0 ≤ y) && decide (y ≤ 65535))) := by
  unfold point_cell.f
  rw [from_eq, from_eq]
  simp only [Option.bind_some]
  cases (decide (0 ≤ x) && decide (x ≤ 65535))
  · simp
  · simp
theorem rcell_eq (x y : Int) : gleberef07_cell.f x y = some (decide (0 ≤ x) && decide (x ≤ 65535) && (decide (0 ≤ y) && decide (y ≤ 65535))) := by
  unfold gleberef07_cell.f
  have e1 : (x < 65536) = (x ≤ 65535) := propext ⟨fun h => by omega, fun h => by omega⟩
  have e2 : (y < 65536) = (y ≤ 65535) := propext ⟨fun h => by omega, fun h => by omega⟩
  simp only [e1, e2]
  by_cases a1 : 0 ≤ x
  · by_cases a2 : x ≤ 65535
    · by_cases a3 : 0 ≤ y <;> simp [a1, a2, a3]
    · simp [a1, a2]
  · simp [a1]

theorem all_seven : ∀ a b c d e f g : Bool, point_all.f 100 [a, b, c, d, e, f, g] = some (a && b && c && d && e && f && g) := by decide +kernel

theorem right_op (kd px py : Int) (key val : ByteArray) (cli seq : Int) : ∃ b, point_RightOp.f 100 kd px py key val cli seq = some b ∧ gleberef07_RightOp.f kd px py key val cli seq = some b ∧ (b = true → 1 ≤ kd ∧ kd ≤ 3 ∧ 0 ≤ px ∧ px ≤ 65535 ∧ 0 ≤ py ∧ py ≤ 65535 ∧ (key.size : Int) ≤ 16 ∧ (val.size : Int) ≤ 32 ∧ 0 ≤ cli ∧ cli ≤ 7 ∧ 1 ≤ seq ∧ seq ≤ 1099511627776) := by
  unfold point_RightOp.f gleberef07_RightOp.f
  have e1 : (cli < 8) = (cli ≤ 7) := propext ⟨fun h => by omega, fun h => by omega⟩
  obtain ⟨q, hq⟩ : ∃ q, (val.toList == ([] : List UInt8)) = q := ⟨_, rfl⟩
  have hq2 : (val.toList = ([] : List UInt8)) = (q = true) := by rw [← hq]; simp
  obtain ⟨p, hp⟩ : ∃ p, (kd == 2) = p := ⟨_, rfl⟩
  have hp2 : (kd = 2) = (p = true) := by rw [← hp]; simp
  simp only [from_eq, cell_eq, rcell_eq, all_seven, Option.bind_some, ge_iff_le, e1, hq, hq2, hp2]
  clear hp hp2 hq hq2 e1
  cases p <;> cases q <;> simp only [if_true, if_false, Bool.false_eq_true]
  all_goals
    by_cases a0 : 1 ≤ kd
    rotate_left
    · (simp only [a0, decide_true, decide_false, Bool.and_true, Bool.true_and, Bool.and_false, Bool.false_and, if_true, if_false, Bool.false_eq_true]; exact ⟨_, rfl, rfl, by simp⟩)
    by_cases a1 : kd ≤ 3
    rotate_left
    · (simp only [a0, a1, decide_true, decide_false, Bool.and_true, Bool.true_and, Bool.and_false, Bool.false_and, if_true, if_false, Bool.false_eq_true]; exact ⟨_, rfl, rfl, by simp⟩)
    by_cases a2 : 0 ≤ px
    rotate_left
    · (simp only [a0, a1, a2, decide_true, decide_false, Bool.and_true, Bool.true_and, Bool.and_false, Bool.false_and, if_true, if_false, Bool.false_eq_true]; exact ⟨_, rfl, rfl, by simp⟩)
    by_cases a3 : px ≤ 65535
    rotate_left
    · (simp only [a0, a1, a2, a3, decide_true, decide_false, Bool.and_true, Bool.true_and, Bool.and_false, Bool.false_and, if_true, if_false, Bool.false_eq_true]; exact ⟨_, rfl, rfl, by simp⟩)
    by_cases a4 : 0 ≤ py
    rotate_left
    · (simp only [a0, a1, a2, a3, a4, decide_true, decide_false, Bool.and_true, Bool.true_and, Bool.and_false, Bool.false_and, if_true, if_false, Bool.false_eq_true]; exact ⟨_, rfl, rfl, by simp⟩)
    by_cases a5 : py ≤ 65535
    rotate_left
    · (simp only [a0, a1, a2, a3, a4, a5, decide_true, decide_false, Bool.and_true, Bool.true_and, Bool.and_false, Bool.false_and, if_true, if_false, Bool.false_eq_true]; exact ⟨_, rfl, rfl, by simp⟩)
    by_cases a6 : 1 ≤ (key.size : Int)
    rotate_left
    · (simp only [a0, a1, a2, a3, a4, a5, a6, decide_true, decide_false, Bool.and_true, Bool.true_and, Bool.and_false, Bool.false_and, if_true, if_false, Bool.false_eq_true]; exact ⟨_, rfl, rfl, by simp⟩)
    by_cases a7 : (key.size : Int) ≤ 16
    rotate_left
    · (simp only [a0, a1, a2, a3, a4, a5, a6, a7, decide_true, decide_false, Bool.and_true, Bool.true_and, Bool.and_false, Bool.false_and, if_true, if_false, Bool.false_eq_true]; exact ⟨_, rfl, rfl, by simp⟩)
    by_cases a8 : (val.size : Int) ≤ 32
    rotate_left
    · (simp only [a0, a1, a2, a3, a4, a5, a6, a7, a8, decide_true, decide_false, Bool.and_true, Bool.true_and, Bool.and_false, Bool.false_and, if_true, if_false, Bool.false_eq_true]; exact ⟨_, rfl, rfl, by simp⟩)
    by_cases a9 : 0 ≤ cli
    rotate_left
    · (simp only [a0, a1, a2, a3, a4, a5, a6, a7, a8, a9, decide_true, decide_false, Bool.and_true, Bool.true_and, Bool.and_false, Bool.false_and, if_true, if_false, Bool.false_eq_true]; exact ⟨_, rfl, rfl, by simp⟩)
    by_cases a10 : cli ≤ 7
    rotate_left
    · (simp only [a0, a1, a2, a3, a4, a5, a6, a7, a8, a9, a10, decide_true, decide_false, Bool.and_true, Bool.true_and, Bool.and_false, Bool.false_and, if_true, if_false, Bool.false_eq_true]; exact ⟨_, rfl, rfl, by simp⟩)
    by_cases a11 : 1 ≤ seq
    rotate_left
    · (simp only [a0, a1, a2, a3, a4, a5, a6, a7, a8, a9, a10, a11, decide_true, decide_false, Bool.and_true, Bool.true_and, Bool.and_false, Bool.false_and, if_true, if_false, Bool.false_eq_true]; exact ⟨_, rfl, rfl, by simp⟩)
    by_cases a12 : seq ≤ 1099511627776
    rotate_left
    · (simp only [a0, a1, a2, a3, a4, a5, a6, a7, a8, a9, a10, a11, a12, decide_true, decide_false, Bool.and_true, Bool.true_and, Bool.and_false, Bool.false_and, if_true, if_false, Bool.false_eq_true]; exact ⟨_, rfl, rfl, by simp⟩)
    (simp only [a0, a1, a2, a3, a4, a5, a6, a7, a8, a9, a10, a11, a12, decide_true, decide_false, Bool.and_true, Bool.true_and, Bool.and_false, Bool.false_and, if_true, if_false, Bool.false_eq_true]; exact ⟨_, rfl, rfl, by simp⟩)

def wB (n : Int) : List Int := if 0 ≤ n ∧ n ≤ 9007199254740992 then numB 8 n else []
def wE (n : Int) : Int := if 0 ≤ n ∧ n ≤ 9007199254740992 then 0 else 1
def wT (s : ByteArray) : List Int := numB 8 s.size ++ bytesOf s
theorem wB_f (n : Int) : wire_Num.f 100 n = some (wB n, wE n) := by
  unfold wB wE
  by_cases h : 0 ≤ n ∧ n ≤ 9007199254740992
  · rw [if_pos h, if_pos h]
    exact wnum_yes h.1 h.2 90
  · rw [if_neg h, if_neg h]
    exact wnum_no (by omega) 99
theorem wT_f (s : ByteArray) (h : s.size ≤ 500) : wire_Text.f 100 s = some (wT s, 0) := wtext_yes s (by omega) 90
theorem rT_f (s : ByteArray) (h : s.size ≤ 500) : gleberef01_Text.f 100 s = some (wT s) := rtext_yes s (by omega) 90
theorem rB_f {n : Int} (h0 : 0 ≤ n) (h1 : n ≤ 1099511627776) : gleberef01_Num.f 100 n = some (wB n) := by
  unfold wB
  rw [if_pos ⟨h0, by omega⟩]
  exact rnum_yes h0 (by omega) 90
theorem rT_g (k : Nat) (s : ByteArray) (h : s.size ≤ 500) : gleberef01_Text.f (k + 10) s = some (wT s) := rtext_yes s (by omega) k
theorem rB_g (k : Nat) {n : Int} (h0 : 0 ≤ n) (h1 : n ≤ 1099511627776) : gleberef01_Num.f (k + 10) n = some (wB n) := by
  unfold wB
  rw [if_pos ⟨h0, by omega⟩]
  exact rnum_yes h0 (by omega) k
theorem wB_len (n : Int) : (wB n).length ≤ 9 := by
  unfold wB
  split
  · exact numB_len 8 n
  · simp
theorem wT_len (s : ByteArray) (h : s.size ≤ 500) : (wT s).length ≤ 509 := by
  unfold wT
  have := numB_len 8 s.size
  have e : (bytesOf s).length = s.size := by simp [bytesOf]
  rw [List.length_append, e]
  omega
theorem join_go (ls : List (List Int)) (hlen : ls.length ≤ 20) : ∀ (m i k : Nat) (acc : List Int), i + m = ls.length → m < k → acc.length + ((ls.drop i).flatten).length ≤ 100000 → gleberef07_join.l0 k ls acc (i : Int) = some (acc ++ (ls.drop i).flatten) := by
  intro m
  induction m with
  | zero =>
    intro i k acc h hk hl
    obtain ⟨k, rfl⟩ : ∃ j, k = j + 1 := ⟨k - 1, by omega⟩
    rw [gleberef07_join.l0, if_neg (by omega), List.drop_eq_nil_of_le (by omega)]
    simp
  | succ m ih =>
    intro i k acc h hk hl
    obtain ⟨k, rfl⟩ : ∃ j, k = j + 1 := ⟨k - 1, by omega⟩
    have hi : i < ls.length := by omega
    have hd : ls.drop i = ls[i] :: ls.drop (i + 1) := List.drop_eq_getElem_cons hi
    have hr : rd_L3 ls (i : Int) = ls[i] := by
      unfold rd_L3
      simp [hi]
    have hw : wrap64 ((i : Int) + 1) = ((i + 1 : Nat) : Int) := by
      unfold wrap64
      omega
    rw [hd, List.flatten_cons, List.length_append] at hl
    rw [gleberef07_join.l0, if_pos (by omega), if_pos (by omega), hr, if_pos (by omega), hw, ih (i + 1) k (acc ++ ls[i]) (by omega) (by omega) (by rw [List.length_append]; omega), hd, List.flatten_cons, List.append_assoc]
theorem join_f (k : Nat) (ls : List (List Int)) (hlen : ls.length ≤ 20) (hk : 30 ≤ k) (h : ls.flatten.length ≤ 100000) : gleberef07_join.f k ls = some ls.flatten := by
  unfold gleberef07_join.f
  have := join_go ls hlen ls.length 0 k [] (by omega) (by omega) (by simpa using h)
  simpa using this

theorem put_op (kd px py : Int) (key val : ByteArray) (cli seq : Int) (rr : Bool) (h : gleberef07_RightOp.f kd px py key val cli seq = some rr) (hr : rr = true → 1 ≤ kd ∧ kd ≤ 3 ∧ 0 ≤ px ∧ px ≤ 65535 ∧ 0 ≤ py ∧ py ≤ 65535 ∧ (key.size : Int) ≤ 16 ∧ (val.size : Int) ≤ 32 ∧ 0 ≤ cli ∧ cli ≤ 7 ∧ 1 ≤ seq ∧ seq ≤ 1099511627776) :
    gleberef07_PutOp.f 100 kd px py key val cli seq = some (if rr then ([kd, px, py] : List Int).flatMap wB ++ ([key, val] : List ByteArray).flatMap wT ++ ([cli, seq] : List Int).flatMap wB else []) := by
  unfold gleberef07_PutOp.f
  rw [h, Option.bind_some]
  cases rr
  · rfl
  · obtain ⟨g1, g2, h1, h2, h3, h4, h5, h6, c1, c2, h7, h8⟩ := hr rfl
    simp only [if_true, rB_f (by omega : 0 ≤ kd) (by omega : kd ≤ 1099511627776), rB_f h1 (by omega : px ≤ 1099511627776), rB_f h3 (by omega : py ≤ 1099511627776), rT_f key (by omega), rT_f val (by omega), rB_f c1 (by omega : cli ≤ 1099511627776), rB_f (by omega : 0 ≤ seq) h8, Option.bind_some]
    have l0 := wB_len kd
    have l1 := wB_len px
    have l2 := wB_len py
    have l3 := wT_len key (by omega)
    have l4 := wT_len val (by omega)
    have l5 := wB_len cli
    have l6 := wB_len seq
    rw [join_f 100 _ (by simp) (by decide) (by simp; omega)]
    simp

structure ERow where
  k : Int
  o0 : Int
  o1 : Int
  o2 : Int
  o3 : ByteArray
  o4 : ByteArray
  o5 : Int
  o6 : Int
  n : Int
  ep : Int
  by_ : Int
  ch : List Int

theorem ba_loop (s : ByteArray) : ∀ (n i : Nat) (r : List UInt8), n = s.size - i → (ByteArray.toList.loop s i r).length = r.length + n := by
  intro n
  induction n with
  | zero =>
    intro i r h
    rw [ByteArray.toList.loop, if_neg (by omega)]
    simp
  | succ n ih =>
    intro i r h
    rw [ByteArray.toList.loop, if_pos (by omega), ih (i + 1) _ (by omega)]
    simp only [List.length_cons]
    omega
theorem ba_nil {s : ByteArray} (h : s.toList = []) : s = ⟨#[]⟩ := by
  have h1 := ba_loop s s.size 0 [] (by omega)
  have h2 : s.size = 0 := by
    have : (ByteArray.toList.loop s 0 []).length = 0 := by
      have h3 : ByteArray.toList.loop s 0 [] = [] := h
      rw [h3]; rfl
    rw [this] at h1
    simpa using h1.symm
  obtain ⟨a⟩ := s
  have : a = #[] := Array.eq_empty_of_size_eq_zero h2
  rw [this]

/-- An entry's bytes. -/
def opBytes (r : ERow) : List Int := ([r.o0, r.o1, r.o2] : List Int).flatMap wB ++ ([r.o3, r.o4] : List ByteArray).flatMap wT ++ ([r.o5, r.o6] : List Int).flatMap wB
def eBytes (r : ERow) : List Int := wB r.k ++ (if r.k = 1 then opBytes r else if r.k = 2 ∨ r.k = 3 then wB r.n else wB r.n ++ (wB r.ep ++ (wB r.by_ ++ (wB (r.ch.length : Int) ++ r.ch.flatMap wB))))
def OpOk (kd px py : Int) (key val : ByteArray) (cli seq : Int) : Prop := 1 ≤ kd ∧ kd ≤ 3 ∧ 0 ≤ px ∧ px ≤ 65535 ∧ 0 ≤ py ∧ py ≤ 65535 ∧ (key.size : Int) ≤ 16 ∧ (val.size : Int) ≤ 32 ∧ 0 ≤ cli ∧ cli ≤ 7 ∧ 1 ≤ seq ∧ seq ≤ 1099511627776
def NoOp (r : ERow) : Prop := r.o0 = 0 ∧ r.o1 = 0 ∧ r.o2 = 0 ∧ r.o3 = ⟨#[]⟩ ∧ r.o4 = ⟨#[]⟩ ∧ r.o5 = 0 ∧ r.o6 = 0
/-- What Right tells of an entry. -/
def ERight (r : ERow) : Prop :=
  (r.k = 1 ∧ OpOk r.o0 r.o1 r.o2 r.o3 r.o4 r.o5 r.o6 ∧ point_RightOp.f 100 r.o0 r.o1 r.o2 r.o3 r.o4 r.o5 r.o6 = some true ∧ r.n = 0 ∧ r.ep = 0 ∧ r.by_ = 0 ∧ r.ch = []) ∨
  ((r.k = 2 ∨ r.k = 3) ∧ NoOp r ∧ (0 ≤ r.n ∧ r.n < 8) ∧ r.ep = 0 ∧ r.by_ = 0 ∧ r.ch = []) ∨
  ((r.k = 4 ∨ r.k = 5) ∧ NoOp r ∧ (0 ≤ r.n ∧ r.n < 8) ∧ (0 ≤ r.by_ ∧ r.by_ < 8) ∧ (1 ≤ r.ep ∧ r.ep ≤ 1099511627776) ∧ ChainOk r.ch)
theorem op_right (kd px py : Int) (key val : ByteArray) (cli seq : Int) : ∃ b, point_RightOp.f 100 kd px py key val cli seq = some b ∧ (b = true → OpOk kd px py key val cli seq) := by
  unfold point_RightOp.f OpOk
  simp only [from_eq, cell_eq, all_seven, Option.bind_some]
  split
  · refine ⟨_, rfl, fun h => ?_⟩
    simp only [Bool.and_eq_true, decide_eq_true_eq] at h
    obtain ⟨⟨⟨⟨⟨⟨h1, h2⟩, h3⟩, h4⟩, h5⟩, h6⟩, h7⟩ := h
    omega
  · refine ⟨_, rfl, fun h => ?_⟩
    simp only [Bool.and_eq_true, decide_eq_true_eq] at h
    obtain ⟨⟨⟨⟨⟨⟨h1, h2⟩, h3⟩, h4⟩, h5⟩, h6⟩, h7⟩ := h
    omega
theorem rest_eq (a0 a1 a2 a3 : Int) (a4 a5 : ByteArray) (a6 a7 a8 a9 a10 : Int) (l : List Int) : entry_Entry_rest.f a0 a1 a2 a3 a4 a5 a6 a7 a8 a9 a10 l = some (a1, a2, a3, a4, a5, a6, a7, a8, a9, a10) := rfl
theorem noop_of {a1 a2 a3 : Int} {a4 a5 : ByteArray} {a6 a7 : Int} (h : (a1 == 0 && ((a2 == 0 && (a3 == 0)) && (a4.toList == ([] : List UInt8) && (a5.toList == ([] : List UInt8) && (a6 == 0 && (a7 == 0)))))) = true) : a1 = 0 ∧ a2 = 0 ∧ a3 = 0 ∧ a4 = ⟨#[]⟩ ∧ a5 = ⟨#[]⟩ ∧ a6 = 0 ∧ a7 = 0 := by
  simp only [Bool.and_eq_true, beq_iff_eq] at h
  obtain ⟨h1, ⟨h2, h3⟩, h4, h5, h6, h7⟩ := h
  exact ⟨h1, h2, h3, ba_nil h4, ba_nil h5, h6, h7⟩
theorem len_zero {l : List Int} (h : ((l.length : Int) == 0) = true) : l = [] := by
  have := beq_iff_eq.mp h
  exact List.eq_nil_of_length_eq_zero (by omega)
theorem eright_facts (r : ERow) (hl : r.ch.length ≤ 60) : ∃ b, entry_Right.f 100 r.k r.o0 r.o1 r.o2 r.o3 r.o4 r.o5 r.o6 r.n r.ep r.by_ r.ch = some b ∧ (b = true → ERight r) := by
  obtain ⟨a0, a1, a2, a3, a4, a5, a6, a7, a8, a9, a10, l⟩ := r
  dsimp only at hl ⊢
  have c1 : ∀ n, slices_Contains_int_int.f 98 l n = some (decide (n ∈ l)) := fun n => contains_eq n (by omega) (by omega)
  obtain ⟨Z, hZ⟩ : ∃ Z, (a1 == 0 && ((a2 == 0 && (a3 == 0)) && (a4.toList == ([] : List UInt8) && (a5.toList == ([] : List UInt8) && (a6 == 0 && (a7 == 0)))))) = Z := ⟨_, rfl⟩
  have hno : Z = true → NoOp ⟨a0, a1, a2, a3, a4, a5, a6, a7, a8, a9, a10, l⟩ := fun q => noop_of (hZ.trans q)
  unfold entry_Right.f
  by_cases k1 : a0 = 1
  · rw [if_pos k1]
    obtain ⟨b, h1, h2⟩ := op_right a1 a2 a3 a4 a5 a6 a7
    rw [h1]
    simp only [Option.bind_some, rest_eq, beq_self_eq_true, Bool.true_and]
    cases b
    · exact ⟨false, rfl, by simp⟩
    · rw [if_pos rfl]
      by_cases q : (a8 == 0 && (a9 == 0 && a10 == 0)) = true
      · rw [if_pos q]
        simp only [Bool.and_eq_true, beq_iff_eq] at q
        exact ⟨_, rfl, fun g => .inl ⟨k1, h2 rfl, h1, q.1, q.2.1, q.2.2, len_zero g⟩⟩
      · rw [if_neg q]
        exact ⟨false, rfl, by simp⟩
  rw [if_neg k1]
  have J1 : ∀ x : Bool, (x = true → a0 = 4 ∨ a0 = 5) → ∃ b, entry_Right.j1 99 x a0 a1 a2 a3 a4 a5 a6 a7 a8 a9 a10 l = some b ∧ (b = true → ERight ⟨a0, a1, a2, a3, a4, a5, a6, a7, a8, a9, a10, l⟩) := fun x hx => by
    rw [entry_Right.j1, hZ]
    simp only [node_eq, chain_eq, c1, Option.bind_some]
    cases x
    · exact ⟨false, rfl, by simp⟩
    cases Z
    · exact ⟨false, rfl, by simp⟩
    by_cases n1 : 0 ≤ a8 ∧ a8 < 8
    rotate_left
    · simp only [n1, decide_false, if_true, if_false, Bool.false_eq_true]; exact ⟨false, rfl, by simp⟩
    by_cases n2 : 0 ≤ a10 ∧ a10 < 8
    rotate_left
    · simp only [n1, n2, decide_true, decide_false, if_true, if_false, Bool.false_eq_true]; exact ⟨false, rfl, by simp⟩
    by_cases n3 : a9 ≥ 1
    rotate_left
    · simp only [n1, n2, n3, decide_true, decide_false, if_true, if_false, Bool.false_eq_true]; exact ⟨false, rfl, by simp⟩
    by_cases n4 : a9 ≤ 1099511627776
    rotate_left
    · simp only [n1, n2, n3, n4, decide_true, decide_false, if_true, if_false, Bool.false_eq_true]; exact ⟨false, rfl, by simp⟩
    by_cases n5 : ChainOk l
    rotate_left
    · simp only [n1, n2, n3, n4, n5, decide_true, decide_false, if_true, if_false, Bool.false_eq_true]; exact ⟨false, rfl, by simp⟩
    by_cases n6 : a8 ∈ l
    rotate_left
    · simp only [n1, n2, n3, n4, n5, n6, decide_true, decide_false, if_true, if_false, Bool.false_eq_true]; exact ⟨false, rfl, by simp⟩
    simp only [n1, n2, n3, n4, n5, n6, decide_true, if_true]
    exact ⟨_, rfl, fun _ => .inr (.inr ⟨hx rfl, hno rfl, n1, n2, ⟨n3, n4⟩, n5⟩)⟩
  have J0 : ∀ x : Bool, (x = true → a0 = 2 ∨ a0 = 3) → ∃ b, entry_Right.j0 100 a0 x a0 a1 a2 a3 a4 a5 a6 a7 a8 a9 a10 l = some b ∧ (b = true → ERight ⟨a0, a1, a2, a3, a4, a5, a6, a7, a8, a9, a10, l⟩) := fun x hx => by
    rw [entry_Right.j0]
    cases x
    · simp only [Bool.false_eq_true, if_false]
      by_cases k4 : a0 = 4
      · rw [if_pos k4]; exact J1 _ (fun _ => .inl k4)
      · rw [if_neg k4]; exact J1 _ (fun q => .inr (beq_iff_eq.mp q))
    · simp only [if_true, node_eq, rest_eq, Option.bind_some, hZ, beq_self_eq_true, Bool.true_and]
      by_cases n1 : 0 ≤ a8 ∧ a8 < 8
      rotate_left
      · simp only [n1, decide_false, if_false, Bool.false_eq_true]; exact ⟨false, rfl, by simp⟩
      simp only [n1, and_self, decide_true, if_true]
      by_cases q : (Z && (a9 == 0 && a10 == 0)) = true
      · rw [if_pos q]
        simp only [Bool.and_eq_true, beq_iff_eq] at q
        exact ⟨_, rfl, fun g => .inr (.inl ⟨hx rfl, hno q.1, n1, q.2.1, q.2.2, len_zero g⟩)⟩
      · rw [if_neg q]
        exact ⟨false, rfl, by simp⟩
  by_cases k2 : a0 = 2
  · rw [if_pos k2]; exact J0 _ (fun _ => .inl k2)
  · rw [if_neg k2]; exact J0 _ (fun q => .inr (beq_iff_eq.mp q))
/- Put -/
theorem wB_g (k : Nat) (n : Int) : wire_Num.f (k + 10) n = some (wB n, wE n) := by
  unfold wB wE
  by_cases h : 0 ≤ n ∧ n ≤ 9007199254740992
  · rw [if_pos h, if_pos h]
    exact wnum_yes h.1 h.2 k
  · rw [if_neg h, if_neg h]
    exact wnum_no (by omega) (k + 9)
theorem nums_from (l : List Int) (hl : l.length ≤ 1000) : ∀ (m i k : Nat) (acc : List Int), i + m = l.length → m + 12 ≤ k → acc.length + 9 * m ≤ 100000 → entry_nums.l0 k acc l (l.length : Int) (i : Int) = some (acc ++ (l.drop i).flatMap wB) := by
  intro m
  induction m with
  | zero =>
    intro i k acc h hk hb
    obtain ⟨k, rfl⟩ : ∃ j, k = j + 1 := ⟨k - 1, by omega⟩
    rw [entry_nums.l0, if_neg (by omega), List.drop_eq_nil_of_le (by omega)]
    simp
  | succ m ih =>
    intro i k acc h hk hb
    obtain ⟨k, rfl⟩ : ∃ j, k = j + 1 + 10 := ⟨k - 11, by omega⟩
    have hi : i < l.length := by omega
    have hw := wB_g (k) (rd l (i : Int))
    have hlen := wB_len (rd l (i : Int))
    have hrd := rd_get l i hi
    rw [entry_nums.l0, if_pos (by omega), if_pos (by omega), if_pos (by omega)]
    rw [show k + 10 = k + 10 from rfl, hw, Option.bind_some]
    dsimp only
    have hsz : acc.length + (wB (rd l (i : Int))).length < 140737488355328 := Nat.lt_of_le_of_lt (show acc.length + (wB (rd l (i : Int))).length ≤ 100000 by omega) (by decide)
    rw [if_pos hsz, w_succ i (by omega), ih (i + 1) (k + 10) _ (by omega) (by omega) (by rw [List.length_append]; omega), List.drop_eq_getElem_cons hi, List.flatMap_cons, hrd, List.append_assoc]
theorem nums_eq {k : Nat} {acc l : List Int} (hl : l.length ≤ 60) (hk : 80 ≤ k) (ha : acc.length ≤ 90000) : entry_nums.f k acc l = some (acc ++ l.flatMap wB) := by
  unfold entry_nums.f
  exact nums_from l (by omega) l.length 0 k acc (by omega) (by omega) (by omega)
theorem flat_len : ∀ l : List Int, (l.flatMap wB).length ≤ 9 * l.length
  | [] => by simp
  | z :: l => by
    have := flat_len l
    have := wB_len z
    rw [List.flatMap_cons, List.length_append, List.length_cons]
    omega
theorem opBytes_len {r : ERow} (h : OpOk r.o0 r.o1 r.o2 r.o3 r.o4 r.o5 r.o6) : (opBytes r).length ≤ 1063 := by
  obtain ⟨_, _, _, _, _, _, h3, h4, _⟩ := h
  have l0 := wB_len r.o0
  have l1 := wB_len r.o1
  have l2 := wB_len r.o2
  have l3 := wT_len r.o3 (by omega)
  have l4 := wT_len r.o4 (by omega)
  have l5 := wB_len r.o5
  have l6 := wB_len r.o6
  unfold opBytes
  simp only [List.length_append, List.flatMap_cons, List.flatMap_nil, List.length_nil]
  omega
theorem eBytes_len {r : ERow} (h : ERight r) (hl : r.ch.length ≤ 60) : (eBytes r).length ≤ 2000 := by
  have l0 := wB_len r.k
  have l1 := wB_len r.n
  have l2 := wB_len r.ep
  have l3 := wB_len r.by_
  have l4 := wB_len (r.ch.length : Int)
  have l5 := flat_len r.ch
  unfold eBytes
  rcases h with ⟨hk, ho, _⟩ | ⟨hk, _⟩ | ⟨hk, _⟩
  · have := opBytes_len ho
    rw [if_pos hk, List.length_append]
    omega
  · rw [if_neg (by omega), if_pos hk, List.length_append]
    omega
  · rw [if_neg (by omega), if_neg (by omega)]
    simp only [List.length_append]
    omega
theorem putop_eq {r : ERow} (h : OpOk r.o0 r.o1 r.o2 r.o3 r.o4 r.o5 r.o6) (hr : point_RightOp.f 100 r.o0 r.o1 r.o2 r.o3 r.o4 r.o5 r.o6 = some true) : point_PutOp.f 100 r.o0 r.o1 r.o2 r.o3 r.o4 r.o5 r.o6 = some (opBytes r, 0) := by
  have hln := opBytes_len h
  obtain ⟨_, _, _, _, _, _, h3, h4, _⟩ := h
  have e : wB r.o0 ++ (wB r.o1 ++ (wB r.o2 ++ (wT r.o3 ++ (wT r.o4 ++ (wB r.o5 ++ wB r.o6))))) = opBytes r := by
    unfold opBytes
    simp
  unfold point_PutOp.f
  rw [hr]
  simp only [Option.bind_some, wB_f, wT_f r.o3 (by omega), wT_f r.o4 (by omega), e]
  rw [if_pos (Nat.le_trans hln (by decide)), if_pos trivial]
theorem eput_eq (r : ERow) (hl : r.ch.length ≤ 60) {b : Bool} (hb : entry_Right.f 100 r.k r.o0 r.o1 r.o2 r.o3 r.o4 r.o5 r.o6 r.n r.ep r.by_ r.ch = some b) (hr : b = true → ERight r) : entry_Put.f 100 r.k r.o0 r.o1 r.o2 r.o3 r.o4 r.o5 r.o6 r.n r.ep r.by_ r.ch = some (if b then eBytes r else [], if b then 0 else 1) := by
  unfold entry_Put.f
  rw [hb, Option.bind_some]
  cases b
  · rfl
  have hr := hr rfl
  have hsz := eBytes_len hr hl
  rw [if_pos rfl, nums_eq (by simp) (by decide) (by simp), Option.bind_some]
  have e1 : ([] : List Int) ++ ([r.k] : List Int).flatMap wB = wB r.k := by simp
  rw [e1]
  have l0 := wB_len r.k
  rcases hr with ⟨hk, ho, hp, _⟩ | ⟨hk, _⟩ | ⟨hk, _, _, _, _, hc⟩
  · have := opBytes_len ho
    rw [if_pos hk, putop_eq ho hp, Option.bind_some]
    dsimp only
    rw [if_pos (Nat.lt_of_le_of_lt (show (wB r.k).length + (opBytes r).length ≤ 2000 by omega) (by decide))]
    unfold eBytes
    rw [if_pos hk]
    rfl
  · have hj : entry_Put.j0 100 (wB r.k) true r.k r.o0 r.o1 r.o2 r.o3 r.o4 r.o5 r.o6 r.n r.ep r.by_ r.ch = some (eBytes r, 0) := by
      rw [entry_Put.j0, if_pos rfl, nums_eq (by simp) (by decide) (by omega), Option.bind_some]
      unfold eBytes
      rw [if_neg (by omega), if_pos hk]
      simp
    rw [if_neg (by omega)]
    rcases hk with hk | hk
    · rw [if_pos hk, show (r.k == 2) = true from beq_iff_eq.mpr hk]
      exact hj
    · rw [if_neg (by omega), show (r.k == 3) = true from beq_iff_eq.mpr hk]
      exact hj
  · rw [if_neg (by omega), if_neg (by omega), show (r.k == 3) = false from beq_eq_false_iff_ne.mpr (by omega), entry_Put.j0, if_neg (by simp)]
    unfold entry_PutChain.f
    rw [chain_eq, decide_eq_true hc, Option.bind_some, if_pos rfl, nums_eq (by simp) (by decide) (by simp), Option.bind_some]
    have l4 := wB_len (r.ch.length : Int)
    have l5 := flat_len r.ch
    have e2 : ([] : List Int) ++ ([(r.ch.length : Int)] : List Int).flatMap wB = wB (r.ch.length : Int) := by simp
    rw [e2, nums_eq hl (by decide) (by omega), Option.bind_some, Option.bind_some, nums_eq (by simp) (by decide) (by omega), Option.bind_some]
    have e3 : wB r.k ++ ([r.n, r.ep, r.by_] : List Int).flatMap wB = wB r.k ++ (wB r.n ++ (wB r.ep ++ wB r.by_)) := by simp
    rw [e3]
    dsimp only
    have l1 := wB_len r.n
    have l2 := wB_len r.ep
    have l3 := wB_len r.by_
    have hs : (wB r.k ++ (wB r.n ++ (wB r.ep ++ wB r.by_))).length + (wB (r.ch.length : Int) ++ r.ch.flatMap wB).length < 140737488355328 := Nat.lt_of_le_of_lt (show _ ≤ 2000 by simp only [List.length_append]; omega) (by decide)
    rw [if_pos hs]
    show _ = some (eBytes r, (0 : Int))
    unfold eBytes
    rw [if_neg (by omega), if_neg (by omega)]
    simp

theorem rd_nat (l : List Int) (i : Nat) (hi : i < l.length) : rd l (i : Int) = l[i] := rd_get l i hi
theorem chain_len8 : ∀ (n : Nat) (l : List Int), l.Nodup → (∀ z ∈ l, 0 ≤ z ∧ z < (n : Int)) → l.length ≤ n
  | 0, l, _, h => by
    cases l with
    | nil => simp
    | cons x l => have := h x (by simp); omega
  | n + 1, l, hd, h => by
    by_cases c : (n : Int) ∈ l
    · have h1 := without_len hd c
      have h2 := chain_len8 n (l.filter (· != (n : Int))) (hd.sublist List.filter_sublist) (fun z hz => by
        obtain ⟨hm, hn⟩ := List.mem_filter.mp hz
        have hn : z ≠ (n : Int) := bne_iff_ne.mp hn
        have := h z hm
        omega)
      omega
    · have h2 := chain_len8 n l hd (fun z hz => by
        have := h z hz
        have hn : z ≠ (n : Int) := fun q => c (q ▸ hz)
        omega)
      omega
theorem rch_go (l : List Int) : ∀ (m i : Nat), i + m = l.length → (l.take i).Nodup → (rchGo l m i = true ↔ (∀ z ∈ l.drop i, 0 ≤ z ∧ z < 8) ∧ l.Nodup)
  | 0, i, h, hd => by
    rw [rchGo, List.drop_eq_nil_of_le (by omega)]
    rw [List.take_of_length_le (by omega)] at hd
    simp [hd]
  | m + 1, i, h, hd => by
    have hi : i < l.length := by omega
    rw [rchGo, rd_nat l i hi]
    have hdrop := List.drop_eq_getElem_cons hi
    have htake : l.take (i + 1) = l.take i ++ [l[i]] := (List.take_append_getElem hi).symm
    by_cases c : 0 ≤ l[i] ∧ l[i] < 8
    · rw [if_pos c]
      by_cases d : l[i] ∈ l.take i
      · rw [if_pos d]
        constructor
        · intro q; cases q
        · rintro ⟨_, q⟩
          have q2 : (l.take (i + 1)).Nodup := q.sublist (List.take_sublist _ _)
          rw [htake, List.nodup_append] at q2
          exact absurd rfl (q2.2.2 _ d _ (by simp))
      · rw [if_neg d]
        have hd2 : (l.take (i + 1)).Nodup := by
          rw [htake, List.nodup_append]
          refine ⟨hd, by simp, fun a ha b hb => ?_⟩
          obtain rfl : b = l[i] := by simpa using hb
          rintro rfl
          exact d ha
        rw [rch_go l m (i + 1) (by omega) hd2, hdrop]
        constructor
        · rintro ⟨q1, q2⟩
          refine ⟨fun z hz => ?_, q2⟩
          rcases List.mem_cons.mp hz with rfl | hz
          · exact c
          · exact q1 z hz
        · rintro ⟨q1, q2⟩
          exact ⟨fun z hz => q1 z (List.mem_cons_of_mem _ hz), q2⟩
    · rw [if_neg c]
      constructor
      · intro q; cases q
      · rintro ⟨q, _⟩
        exact absurd (q l[i] (hdrop ▸ List.mem_cons_self)) c
theorem rch_eq (l : List Int) : gleberef11_RightChain.f l = some (decide (ChainOk l)) := by
  unfold gleberef11_RightChain.f
  congr 1
  by_cases h8 : l.length > 8
  · rw [if_pos h8, decide_eq_false]
    rintro ⟨q1, q2⟩
    have := chain_len8 8 l q2 q1
    omega
  · rw [if_neg h8]
    have hg := rch_go l l.length 0 (by omega) (by simp)
    by_cases c : ChainOk l
    · rw [decide_eq_true c]
      exact hg.mpr ⟨by simpa using c.1, c.2⟩
    · rw [decide_eq_false c]
      cases q : rchGo l l.length 0
      · rfl
      · obtain ⟨q1, q2⟩ := hg.mp q
        exact absurd ⟨by simpa using q1, q2⟩ c
theorem rnode_eq (n : Int) : gleberef11_node.f n = some (decide (0 ≤ n ∧ n < 8)) := by
  unfold gleberef11_node.f
  by_cases h : n ≥ 0
  · rw [if_pos h]
    congr 1
    rw [decide_eq_decide]
    omega
  · rw [if_neg h, decide_eq_false (by omega)]
/-- Right says the same on both sides. -/
theorem eright_both (K : Nat) (hK : 60 ≤ K) (hK2 : K ≤ 100) (a0 a1 a2 a3 : Int) (a4 a5 : ByteArray) (a6 a7 a8 a9 a10 : Int) (l : List Int) (hl : l.length ≤ 40) : ∃ b, entry_Right.f 100 a0 a1 a2 a3 a4 a5 a6 a7 a8 a9 a10 l = some b ∧ gleberef11_Right.f K a0 a1 a2 a3 a4 a5 a6 a7 a8 a9 a10 l = some b := by
  obtain ⟨K, rfl⟩ : ∃ j, K = j + 2 := ⟨K - 2, by omega⟩
  have c1 : ∀ n, slices_Contains_int_int.f 98 l n = some (decide (n ∈ l)) := fun n => contains_eq n (by omega) (by omega)
  have c2 : ∀ n, gleberef11_In.f K l n = some (decide (n ∈ l)) := fun n => in_eq n (by omega) (by omega)
  obtain ⟨Z, hZ⟩ : ∃ Z, (a1 == 0 && ((a2 == 0 && (a3 == 0)) && (a4.toList == ([] : List UInt8) && (a5.toList == ([] : List UInt8) && (a6 == 0 && (a7 == 0)))))) = Z := ⟨_, rfl⟩
  unfold entry_Right.f gleberef11_Right.f
  by_cases k1 : a0 = 1
  · rw [if_pos k1, if_pos k1]
    obtain ⟨b, h1, h2, _⟩ := right_op a1 a2 a3 a4 a5 a6 a7
    rw [h1, h2]
    simp only [Option.bind_some, rest_eq, beq_self_eq_true, Bool.true_and]
    cases b
    · simp
    · by_cases q1 : a8 = 0
      · by_cases q2 : a9 = 0
        · by_cases q3 : a10 = 0 <;> simp [q1, q2, q3]
        · simp [q1, q2]
      · simp [q1]
  rw [if_neg k1, if_neg k1]
  have J1 : ∀ x : Bool, ∃ b, entry_Right.j1 99 x a0 a1 a2 a3 a4 a5 a6 a7 a8 a9 a10 l = some b ∧ gleberef11_Right.j1 (K + 1) x a0 a1 a2 a3 a4 a5 a6 a7 a8 a9 a10 l = some b := fun x => by
    rw [entry_Right.j1, gleberef11_Right.j1, hZ]
    simp only [node_eq, rnode_eq, chain_eq, rch_eq, c1, c2, Option.bind_some]
    cases x
    · exact ⟨_, rfl, rfl⟩
    cases Z
    · exact ⟨_, rfl, rfl⟩
    by_cases n1 : 0 ≤ a8 ∧ a8 < 8
    rotate_left
    · simp only [n1, decide_false, if_true, if_false, Bool.false_eq_true]; exact ⟨_, rfl, rfl⟩
    by_cases n2 : 0 ≤ a10 ∧ a10 < 8
    rotate_left
    · simp only [n1, n2, decide_true, decide_false, if_true, if_false, Bool.false_eq_true]; exact ⟨_, rfl, rfl⟩
    by_cases n3 : a9 ≥ 1
    rotate_left
    · simp only [n1, n2, n3, decide_true, decide_false, if_true, if_false, Bool.false_eq_true, ite_self]; exact ⟨_, rfl, rfl⟩
    by_cases n4 : a9 ≤ 1099511627776
    rotate_left
    · simp only [n1, n2, n3, n4, decide_true, decide_false, if_true, if_false, Bool.false_eq_true, ite_self]; exact ⟨_, rfl, rfl⟩
    by_cases n5 : ChainOk l
    rotate_left
    · simp only [n1, n2, n3, n4, n5, decide_true, decide_false, if_true, if_false, Bool.false_eq_true, ite_self]; exact ⟨_, rfl, rfl⟩
    by_cases n6 : a8 ∈ l
    rotate_left
    · simp only [n1, n2, n3, n4, n5, n6, decide_true, decide_false, if_true, if_false, Bool.false_eq_true, ite_self]; exact ⟨_, rfl, rfl⟩
    by_cases n7 : a8 = a10
    · subst n7
      simp only [n1, n2, n3, n4, n5, n6, decide_true, decide_false, if_true, if_false, Bool.false_eq_true, ite_self]
      exact ⟨_, rfl, rfl⟩
    · simp only [n1, n2, n3, n4, n5, n6, n7, decide_true, decide_false, if_true, if_false, Bool.false_eq_true, ite_self]; exact ⟨_, rfl, rfl⟩
  have J0 : ∀ x : Bool, ∃ b, entry_Right.j0 100 a0 x a0 a1 a2 a3 a4 a5 a6 a7 a8 a9 a10 l = some b ∧ gleberef11_Right.j0 (K + 2) a0 x a0 a1 a2 a3 a4 a5 a6 a7 a8 a9 a10 l = some b := fun x => by
    rw [entry_Right.j0, gleberef11_Right.j0]
    cases x
    · simp only [Bool.false_eq_true, if_false]
      by_cases k4 : a0 = 4
      · rw [if_pos k4, if_pos k4]; exact J1 _
      · rw [if_neg k4, if_neg k4]; exact J1 _
    · simp only [if_true, node_eq, rnode_eq, rest_eq, Option.bind_some, hZ, beq_self_eq_true, Bool.true_and]
      by_cases n1 : 0 ≤ a8 ∧ a8 < 8
      · cases Z
        · simp [n1]
        · by_cases q2 : a9 = 0
          · by_cases q3 : a10 = 0 <;> simp [n1, q2, q3]
          · simp [n1, q2]
      · cases Z
        · simp [n1]
        · simp [n1]
  by_cases k2 : a0 = 2
  · rw [if_pos k2, if_pos k2]; exact J0 _
  · rw [if_neg k2, if_neg k2]; exact J0 _

theorem up {α : Type} {g : Nat → Option α} {r : α} (hm : ∀ k, LeO (g k) (g (k + 1))) (h : g 100 = some r) {k : Nat} (hk : 100 ≤ k) : g k = some r := by
  obtain ⟨d, rfl⟩ : ∃ d, k = 100 + d := ⟨k - 100, by omega⟩
  clear hk
  induction d with
  | zero => exact h
  | succ d ih => exact hm _ _ ih
/-! Equal -/
theorem eeq_run (x y : List Int) (hl : x.length = y.length) (hs : x.length ≤ 1000000) (k : Nat) : ∀ n i : Nat, i + n = x.length → x.take i = y.take i → slices_Equal_int_int.l0 (k + n + 1) x y (x.length : Int) (i : Int) = some (decide (x = y)) := by
  intro n
  induction n with
  | zero =>
    intro i hi ht
    obtain rfl : i = x.length := by omega
    rw [slices_Equal_int_int.l0, if_neg (by omega)]
    rw [List.take_length, hl, List.take_length] at ht
    rw [decide_eq_true ht]
  | succ n ih =>
    intro i hi ht
    have h1 : i < x.length := by omega
    have h2 : i < y.length := by omega
    rw [show k + (n + 1) + 1 = (k + n + 1) + 1 from rfl, slices_Equal_int_int.l0, if_pos (by omega), if_pos (by omega), if_pos (by omega), if_pos (by omega), rd_get x i h1, rd_get y i h2]
    by_cases q : x[i] = y[i]
    · rw [if_pos q, w_succ i (by omega)]
      refine ih (i + 1) (by omega) ?_
      rw [List.take_succ_eq_append_getElem h1, List.take_succ_eq_append_getElem h2, ht, q]
    · rw [if_neg q, decide_eq_false]
      rintro rfl
      exact q rfl
theorem eequal_eq {x y : List Int} (hs : x.length ≤ 40) : slices_Equal_int_int.f 100 x y = some (decide (x = y)) := by
  unfold slices_Equal_int_int.f
  by_cases h : x.length = y.length
  · rw [if_pos (by omega)]
    have := eeq_run x y h (by omega) (99 - x.length) x.length 0 (by omega) rfl
    rwa [show 99 - x.length + x.length + 1 = 100 by omega] at this
  · rw [if_neg (by omega), decide_eq_false]
    rintro rfl
    exact h rfl
theorem same_both (a b : ERow) (ha : a.ch.length ≤ 40) : ∃ x, entry_Same.f 100 a.k a.o0 a.o1 a.o2 a.o3 a.o4 a.o5 a.o6 a.n a.ep a.by_ a.ch b.k b.o0 b.o1 b.o2 b.o3 b.o4 b.o5 b.o6 b.n b.ep b.by_ b.ch = some x ∧
    gleberef11_Same.f 100 a.k a.o0 a.o1 a.o2 a.o3 a.o4 a.o5 a.o6 a.n a.ep a.by_ a.ch b.k b.o0 b.o1 b.o2 b.o3 b.o4 b.o5 b.o6 b.n b.ep b.by_ b.ch = some x := by
  obtain ⟨Z, hZ⟩ : ∃ Z, (a.o0 == b.o0 && ((a.o1 == b.o1 && (a.o2 == b.o2)) && (a.o3.toList == b.o3.toList && (a.o4.toList == b.o4.toList && (a.o5 == b.o5 && (a.o6 == b.o6)))))) = Z := ⟨_, rfl⟩
  unfold entry_Same.f gleberef11_Same.f
  simp only [rest_eq, Option.bind_some, hZ, eequal_eq ha, samel_eq (k := 100) (show a.ch.length < 100 by omega) (by decide)]
  by_cases h0 : a.k = b.k
  rotate_left
  · rw [if_neg h0, if_neg h0]; exact ⟨_, rfl, rfl⟩
  rw [if_pos h0, if_pos h0]
  cases Z
  · exact ⟨_, rfl, rfl⟩
  by_cases h1 : a.n = b.n
  rotate_left
  · simp only [h1, beq_eq_false_iff_ne.mpr h1, Bool.true_and, Bool.false_and, if_true, if_false, Bool.false_eq_true]; exact ⟨_, rfl, rfl⟩
  by_cases h2 : a.ep = b.ep
  rotate_left
  · simp only [h1, h2, beq_self_eq_true, beq_eq_false_iff_ne.mpr h2, Bool.true_and, Bool.false_and, if_true, if_false, Bool.false_eq_true]; exact ⟨_, rfl, rfl⟩
  by_cases h3 : a.by_ = b.by_
  rotate_left
  · simp only [h1, h2, h3, beq_self_eq_true, beq_eq_false_iff_ne.mpr h3, Bool.true_and, Bool.false_and, if_true, if_false, Bool.false_eq_true]; exact ⟨_, rfl, rfl⟩
  simp only [h1, h2, h3, beq_self_eq_true, Bool.true_and, if_true]
  exact ⟨_, rfl, rfl⟩
theorem rsame_self (o : ERow) (h : o.ch.length ≤ 60) : gleberef11_Same.f 100 o.k o.o0 o.o1 o.o2 o.o3 o.o4 o.o5 o.o6 o.n o.ep o.by_ o.ch o.k o.o0 o.o1 o.o2 o.o3 o.o4 o.o5 o.o6 o.n o.ep o.by_ o.ch = some true := by
  unfold gleberef11_Same.f
  simp only [beq_self_eq_true, Bool.and_self, if_true, samel_eq (k := 100) (show o.ch.length < 100 by omega) (by decide), decide_true, Option.bind_some]
theorem own_eq {a0 a1 a2 a3 : Int} {a4 a5 : ByteArray} {a6 a7 a8 a9 a10 : Int} {l : List Int} (hl : l.length ≤ 60) : glebelaw11_Own.f a0 a1 a2 a3 a4 a5 a6 a7 a8 a9 a10 l = some (a0, a1, a2, a3, a4, a5, a6, a7, a8, a9, a10, l) := by
  unfold glebelaw11_Own.f glebelaw07_Op.f
  rw [Option.bind_some, Option.bind_some, if_pos (by simp; omega), List.nil_append]
theorem eref_eq {a0 a1 a2 a3 : Int} {a4 a5 : ByteArray} {a6 a7 a8 a9 a10 : Int} {l : List Int} (hl : l.length ≤ 60) : glebelaw11_Ref.f a0 a1 a2 a3 a4 a5 a6 a7 a8 a9 a10 l = some (a0, a1, a2, a3, a4, a5, a6, a7, a8, a9, a10, l) := by
  unfold glebelaw11_Ref.f glebelaw07_RefOp.f
  rw [Option.bind_some, Option.bind_some, if_pos (by simp; omega), List.nil_append]
theorem eclone_eq {a0 a1 a2 a3 : Int} {a4 a5 : ByteArray} {a6 a7 a8 a9 a10 : Int} {l : List Int} (hl : l.length ≤ 60) : entry_Clone.f a0 a1 a2 a3 a4 a5 a6 a7 a8 a9 a10 l = some (a0, a1, a2, a3, a4, a5, a6, a7, a8, a9, a10, l) := by
  unfold entry_Clone.f
  rw [show slices_Clone_int_int.f l = some l from if_pos (by omega), Option.bind_some]
/-! Without, Heirs -/
theorem without_eq {l : List Int} {n : Int} (hl : l.length ≤ 60) : entry_Without.f l n = some (l.filter (· != n)) := if_pos (by omega)
theorem rwo_from (l : List Int) (n : Int) (hl : l.length ≤ 1000) : ∀ (m i k : Nat) (acc : List Int), i + m = l.length → m < k → acc.length + m ≤ 10000 → gleberef11_Without.l0 k l n acc (i : Int) = some (acc ++ (l.drop i).filter (· != n)) := by
  intro m
  induction m with
  | zero =>
    intro i k acc h hk hb
    obtain ⟨k, rfl⟩ : ∃ j, k = j + 1 := ⟨k - 1, by omega⟩
    rw [gleberef11_Without.l0, if_neg (by omega), List.drop_eq_nil_of_le (by omega)]
    simp
  | succ m ih =>
    intro i k acc h hk hb
    obtain ⟨k, rfl⟩ : ∃ j, k = j + 1 := ⟨k - 1, by omega⟩
    have hi : i < l.length := by omega
    rw [gleberef11_Without.l0, if_pos (by omega), if_pos (by omega), rd_get l i hi, w_succ i (by omega), List.drop_eq_getElem_cons hi]
    by_cases c : l[i] = n
    · rw [if_pos c, ih (i + 1) k acc (by omega) (by omega) (by omega), List.filter_cons_of_neg (by simp [c])]
    · rw [if_neg c, if_pos (by omega), ih (i + 1) k _ (by omega) (by omega) (by rw [List.length_append]; simp; omega), List.filter_cons_of_pos (by simp [c]), List.append_assoc]
      rfl
theorem rwithout_eq {l : List Int} {n : Int} {k : Nat} (hl : l.length ≤ 60) (hk : 61 ≤ k) : gleberef11_Without.f k l n = some (l.filter (· != n)) := by
  unfold gleberef11_Without.f
  have := rwo_from l n (by omega) l.length 0 k [] (by omega) (by omega) (by simp; omega)
  simpa using this
theorem heirs_both (r : ERow) (hl : r.ch.length ≤ 40) {b : Bool} (h1 : entry_Right.f 100 r.k r.o0 r.o1 r.o2 r.o3 r.o4 r.o5 r.o6 r.n r.ep r.by_ r.ch = some b) (h2 : gleberef11_Right.f 100 r.k r.o0 r.o1 r.o2 r.o3 r.o4 r.o5 r.o6 r.n r.ep r.by_ r.ch = some b) (hr : b = true → ERight r) :
    ∃ p q, entry_Heirs.f 100 r.k r.o0 r.o1 r.o2 r.o3 r.o4 r.o5 r.o6 r.n r.ep r.by_ r.ch = some (p, q) ∧ gleberef11_Heirs.f 100 r.k r.o0 r.o1 r.o2 r.o3 r.o4 r.o5 r.o6 r.n r.ep r.by_ r.ch = some (p, q) ∧ p.length ≤ 40 ∧ q.length ≤ 41 := by
  unfold entry_Heirs.f gleberef11_Heirs.f
  rw [h1, h2, Option.bind_some, Option.bind_some]
  cases b
  · rw [if_neg (by simp), if_neg (by simp), entry_Heirs.j0, gleberef11_Heirs.j0, if_pos rfl, if_pos rfl]
    exact ⟨[], [], rfl, rfl, by simp, by simp⟩
  rw [if_pos rfl, if_pos rfl]
  by_cases c4 : r.k < 4
  · rw [decide_eq_true c4, entry_Heirs.j0, gleberef11_Heirs.j0, if_pos rfl, if_pos rfl]
    exact ⟨[], [], rfl, rfl, by simp, by simp⟩
  have hk : r.k = 4 ∨ r.k = 5 := by
    rcases hr rfl with ⟨q, _⟩ | ⟨q, _⟩ | ⟨q, _⟩
    · omega
    · omega
    · exact q
  have hw : (r.ch.filter (· != r.n)).length ≤ 40 := Nat.le_trans (List.length_filter_le _ _) hl
  have hs : ([r.by_] : List Int).length + (r.ch.filter (· != r.n)).length < 17592186044416 := by simp only [List.length_cons, List.length_nil]; omega
  rw [decide_eq_false c4, entry_Heirs.j0, gleberef11_Heirs.j0, if_neg (c := false = true) (by simp), if_neg (c := false = true) (by simp), without_eq (by omega), rwithout_eq (by omega) (by decide)]
  simp only [Option.bind_some]
  rcases hk with e | e
  · rw [if_pos e, if_pos hs, show slices_Clone_int_int.f r.ch = some r.ch from if_pos (by omega), Option.bind_some, if_pos hs, if_neg (by omega), if_pos (by simp; omega)]
    exact ⟨_, _, rfl, rfl, hl, by simp; exact hw⟩
  · rw [if_neg (by omega), if_pos hs, if_pos hs, if_pos e]
    exact ⟨_, _, rfl, rfl, by simp, by simp; exact hw⟩
/-! PutChain, Put -/
def chB (l : List Int) : List Int := wB (l.length : Int) ++ l.flatMap wB
theorem putchain_eq {l : List Int} (hl : l.length ≤ 60) : entry_PutChain.f 100 l = some (if ChainOk l then chB l else [], if ChainOk l then 0 else 1) := by
  unfold entry_PutChain.f
  rw [chain_eq, Option.bind_some]
  by_cases hc : ChainOk l
  · have l4 := wB_len (l.length : Int)
    rw [decide_eq_true hc, if_pos rfl, if_pos hc, if_pos hc, nums_eq (by simp) (by decide) (by simp), Option.bind_some, nums_eq hl (by decide) (by simp; omega), Option.bind_some]
    unfold chB
    simp
  · rw [decide_eq_false hc, if_neg (by simp), if_neg hc, if_neg hc]
theorem rpc_from (l : List Int) (hl : l.length ≤ 1000) (hz : ∀ z ∈ l, 0 ≤ z ∧ z < 8) : ∀ (m i k : Nat) (acc : List Int), i + m = l.length → m + 12 ≤ k → acc.length + 9 * m ≤ 100000 → gleberef11_PutChain.l0 k l acc (i : Int) = some (acc ++ (l.drop i).flatMap wB) := by
  intro m
  induction m with
  | zero =>
    intro i k acc h hk hb
    obtain ⟨k, rfl⟩ : ∃ j, k = j + 1 := ⟨k - 1, by omega⟩
    rw [gleberef11_PutChain.l0, if_neg (by omega), List.drop_eq_nil_of_le (by omega)]
    simp
  | succ m ih =>
    intro i k acc h hk hb
    obtain ⟨k, rfl⟩ : ∃ j, k = j + 10 + 1 := ⟨k - 11, by omega⟩
    have hi : i < l.length := by omega
    have hzi := hz l[i] (List.getElem_mem hi)
    have hlen := wB_len (l[i])
    rw [gleberef11_PutChain.l0, if_pos (by omega), if_pos (by omega), rd_get l i hi, rB_g k hzi.1 (by omega), Option.bind_some]
    have hsz : acc.length + (wB l[i]).length < 140737488355328 := Nat.lt_of_le_of_lt (show acc.length + (wB l[i]).length ≤ 100000 by omega) (by decide)
    rw [if_pos hsz, w_succ i (by omega), ih (i + 1) (k + 10) _ (by omega) (by omega) (by rw [List.length_append]; omega), List.drop_eq_getElem_cons hi, List.flatMap_cons, List.append_assoc]
theorem rputchain_eq {l : List Int} (hl : l.length ≤ 60) : gleberef11_PutChain.f 100 l = some (if ChainOk l then chB l else []) := by
  unfold gleberef11_PutChain.f
  rw [rch_eq, Option.bind_some]
  by_cases hc : ChainOk l
  · have l4 := wB_len (l.length : Int)
    rw [decide_eq_true hc, if_pos rfl, if_pos hc, rB_f (by omega) (by omega), Option.bind_some]
    have := rpc_from l (by omega) hc.1 l.length 0 100 (wB (l.length : Int)) (by omega) (by omega) (by omega)
    rw [show ((0 : Nat) : Int) = 0 from rfl, List.drop_zero] at this
    exact this
  · rw [decide_eq_false hc, if_neg (by simp), if_neg hc]
theorem rput_eq (r : ERow) (hl : r.ch.length ≤ 40) {b : Bool} (h2 : gleberef11_Right.f 100 r.k r.o0 r.o1 r.o2 r.o3 r.o4 r.o5 r.o6 r.n r.ep r.by_ r.ch = some b) (hr : b = true → ERight r) :
    gleberef11_Put.f 100 r.k r.o0 r.o1 r.o2 r.o3 r.o4 r.o5 r.o6 r.n r.ep r.by_ r.ch = some (if b then eBytes r else []) := by
  unfold gleberef11_Put.f
  rw [h2, Option.bind_some]
  cases b
  · rfl
  have hR := hr rfl
  have hsz := eBytes_len hR (by omega)
  have l0 := wB_len r.k
  have l1 := wB_len r.n
  have l2 := wB_len r.ep
  have l3 := wB_len r.by_
  have lt : ∀ a : Nat, a ≤ 5000 → a < 140737488355328 := fun a h => Nat.lt_of_le_of_lt h (by decide)
  rw [if_pos rfl]
  rcases hR with ⟨hk, ho, hp, _⟩ | ⟨hk, _, hn, _⟩ | ⟨hk, _, hn, hby, hep, hc⟩
  · have hlo := opBytes_len ho
    obtain ⟨bb, q1, q2, _⟩ := right_op r.o0 r.o1 r.o2 r.o3 r.o4 r.o5 r.o6
    obtain rfl : bb = true := by rw [hp] at q1; exact (Option.some.inj q1).symm
    have hpo := put_op r.o0 r.o1 r.o2 r.o3 r.o4 r.o5 r.o6 true q2 (fun _ => ho)
    rw [rB_f (by omega) (by omega), Option.bind_some, if_pos hk, hpo, Option.bind_some]
    simp only [if_true]
    show (if (wB r.k).length + (opBytes r).length < 140737488355328 then some (wB r.k ++ opBytes r) else none) = _
    rw [if_pos (lt _ (by omega))]
    unfold eBytes
    rw [if_pos hk]
  · rw [rB_f (by omega) (by omega), Option.bind_some, if_neg (by omega), rB_f (n := r.n) (by omega) (by omega)]
    simp only [Option.bind_some, if_true]
    unfold eBytes
    rw [if_neg (c := r.k = 1) (by omega), if_pos hk]
    rcases hk with e | e
    · rw [if_pos e, if_pos (lt _ (by omega))]
    · rw [if_neg (by omega), if_pos e, if_pos (lt _ (by omega))]
  · have l5 := flat_len r.ch
    have l4 := wB_len (r.ch.length : Int)
    rw [rB_f (by omega) (by omega), Option.bind_some, if_neg (by omega), if_neg (by omega), if_neg (by omega), rB_f (n := r.n) (by omega) (by omega), rB_f (n := r.ep) (by omega) (by omega), rB_f (n := r.by_) (by omega) (by omega), rputchain_eq (by omega), if_pos hc]
    simp only [Option.bind_some, if_true, chB]
    rw [if_pos (lt _ (by omega)), if_pos (lt _ (by rw [List.length_append]; omega)), if_pos (lt _ (by simp only [List.length_append]; omega)), if_pos (lt _ (by simp only [List.length_append]; omega))]
    unfold eBytes
    rw [if_neg (by omega), if_neg (by omega)]
    simp only [List.append_assoc]
end Go.Proofs.Ytampppdjfbabiaa.PE
