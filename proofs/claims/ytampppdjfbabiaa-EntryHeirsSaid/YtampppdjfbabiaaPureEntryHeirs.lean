/- EntryHeirs: of a Split or a Move that may be both lists may be chains. -/
import Derived.Test.YtampppdjfbabiaaPEx4
import Derived.Test.YtampppdjfbabiaaEntLists
import Derived.Test.YtampppdjfbabiaaStEntryHeirs
namespace Go.Proofs.Ytampppdjfbabiaa.PE
open Go.RowKit Go.Proofs.YtampppdjfbabiaaW.PrintWords Go.Proofs.YtampppdjfbabiaaW.PrintLast Go.Proofs.YtampppdjfbabiaaW.PrintMore
set_option linter.unusedVariables false
set_option linter.unusedSimpArgs false
theorem eall_seven : ∀ a b c d e f g : Bool, point_all.f 100 [a, b, c, d, e, f, g] = some (a && b && c && d && e && f && g) := by decide +kernel
theorem efrom_tot (a b c : Int) : ∃ x, point_from.f a b c = some x := by
  unfold point_from.f
  split
  · exact ⟨_, rfl⟩
  · exact ⟨_, rfl⟩
theorem ecell_tot (a b : Int) : ∃ x, point_cell.f a b = some x := by
  unfold point_cell.f
  obtain ⟨x, hx⟩ := efrom_tot 0 a 65535
  obtain ⟨y, hy⟩ := efrom_tot 0 b 65535
  rw [hx, Option.bind_some]
  cases x
  · exact ⟨_, rfl⟩
  · rw [if_pos rfl, hy]
    exact ⟨_, rfl⟩
theorem eop_tot (kd px py : Int) (key val : ByteArray) (cli seq : Int) : ∃ b, point_RightOp.f 100 kd px py key val cli seq = some b := by
  unfold point_RightOp.f
  obtain ⟨x0, h0⟩ := efrom_tot 1 kd 3
  obtain ⟨x1, h1⟩ := ecell_tot px py
  obtain ⟨x2, h2⟩ := efrom_tot 1 (key.size : Int) 16
  obtain ⟨x3, h3⟩ := efrom_tot 0 cli 7
  obtain ⟨x4, h4⟩ := efrom_tot 1 seq 1099511627776
  simp only [h0, h1, h2, h3, h4, Option.bind_some, eall_seven]
  split
  · exact ⟨_, rfl⟩
  · exact ⟨_, rfl⟩
/-- What entry.Right tells. -/
theorem eright_tot (a0 a1 a2 a3 : Int) (a4 a5 : ByteArray) (a6 a7 a8 a9 a10 : Int) (l : List Int) (hl : l.length ≤ 60) :
    ∃ b, entry_Right.f 100 a0 a1 a2 a3 a4 a5 a6 a7 a8 a9 a10 l = some b ∧ (b = true → a0 = 1 ∨ a0 = 2 ∨ a0 = 3 ∨ a0 = 4 ∨ a0 = 5) ∧ (b = true → a0 = 4 ∨ a0 = 5 → (0 ≤ a8 ∧ a8 < 8) ∧ (0 ≤ a10 ∧ a10 < 8) ∧ ChainOk l ∧ a8 ∈ l ∧ a10 ∉ l) := by
  unfold entry_Right.f
  by_cases c1 : a0 = 1
  · rw [if_pos c1]
    obtain ⟨b, hb⟩ := eop_tot a1 a2 a3 a4 a5 a6 a7
    rw [hb, Option.bind_some]
    cases b
    · exact ⟨false, rfl, by simp, by simp⟩
    · rw [if_pos rfl]
      unfold entry_Entry_rest.f
      rw [Option.bind_some]
      split
      · exact ⟨_, rfl, fun _ => .inl c1, fun _ h => by omega⟩
      · exact ⟨false, rfl, by simp, by simp⟩
  · rw [if_neg c1]
    have mid : ∀ x : Bool, (x = true → a0 = 2 ∨ a0 = 3) → ((x = false) → a0 ≠ 2 ∧ (a0 = 3 → False)) → ∃ b, entry_Right.j0 100 a0 x a0 a1 a2 a3 a4 a5 a6 a7 a8 a9 a10 l = some b ∧ (b = true → a0 = 1 ∨ a0 = 2 ∨ a0 = 3 ∨ a0 = 4 ∨ a0 = 5) ∧ (b = true → a0 = 4 ∨ a0 = 5 → (0 ≤ a8 ∧ a8 < 8) ∧ (0 ≤ a10 ∧ a10 < 8) ∧ ChainOk l ∧ a8 ∈ l ∧ a10 ∉ l) := by
      intro x hx hx2
      rw [entry_Right.j0]
      cases x
      · rw [if_neg (by simp)]
        have last : ∀ y : Bool, (y = true → a0 = 4 ∨ a0 = 5) → ∃ b, entry_Right.j1 99 y a0 a1 a2 a3 a4 a5 a6 a7 a8 a9 a10 l = some b ∧ (b = true → a0 = 1 ∨ a0 = 2 ∨ a0 = 3 ∨ a0 = 4 ∨ a0 = 5) ∧ (b = true → a0 = 4 ∨ a0 = 5 → (0 ≤ a8 ∧ a8 < 8) ∧ (0 ≤ a10 ∧ a10 < 8) ∧ ChainOk l ∧ a8 ∈ l ∧ a10 ∉ l) := by
          intro y hy
          rw [entry_Right.j1]
          cases y
          · rw [if_neg (by simp)]
            exact ⟨false, rfl, by simp, by simp⟩
          · rw [if_pos rfl]
            split
            · rw [node_eq, Option.bind_some]
              by_cases d1 : 0 ≤ a8 ∧ a8 < 8
              · rw [decide_eq_true d1, if_pos rfl, node_eq, Option.bind_some]
                by_cases d2 : 0 ≤ a10 ∧ a10 < 8
                · rw [decide_eq_true d2, if_pos rfl]
                  split
                  · split
                    · rw [chain_eq, Option.bind_some]
                      by_cases d3 : ChainOk l
                      · rw [decide_eq_true d3, if_pos rfl, contains_eq a8 (by omega) (by omega), Option.bind_some]
                        by_cases d4 : a8 ∈ l
                        · rw [decide_eq_true d4, if_pos rfl, contains_eq a10 (by omega) (by omega), Option.bind_some]
                          refine ⟨_, rfl, fun _ => ?_, fun h _ => ⟨d1, d2, d3, d4, by simpa using h⟩⟩
                          have := hy rfl
                          omega
                        · rw [decide_eq_false d4, if_neg (by simp)]
                          exact ⟨false, rfl, by simp, by simp⟩
                      · rw [decide_eq_false d3, if_neg (by simp)]
                        exact ⟨false, rfl, by simp, by simp⟩
                    · exact ⟨false, rfl, by simp, by simp⟩
                  · exact ⟨false, rfl, by simp, by simp⟩
                · rw [decide_eq_false d2, if_neg (by simp)]
                  exact ⟨false, rfl, by simp, by simp⟩
              · rw [decide_eq_false d1, if_neg (by simp)]
                exact ⟨false, rfl, by simp, by simp⟩
            · exact ⟨false, rfl, by simp, by simp⟩
        by_cases c4 : a0 = 4
        · rw [if_pos c4]
          exact last _ (fun _ => .inl c4)
        · rw [if_neg c4]
          exact last _ (fun h => .inr (by simpa using h))
      · rw [if_pos rfl, node_eq, Option.bind_some]
        have h23 := hx rfl
        split
        · unfold entry_Entry_rest.f
          rw [Option.bind_some]
          split
          · exact ⟨_, rfl, fun _ => by omega, fun _ h => by omega⟩
          · exact ⟨false, rfl, by simp, by simp⟩
        · exact ⟨false, rfl, by simp, by simp⟩
    by_cases c2 : a0 = 2
    · rw [if_pos c2]
      exact mid _ (fun _ => .inl c2) (fun h => by simp [c2] at h)
    · rw [if_neg c2]
      exact mid _ (fun h => .inr (by simpa using h)) (fun h => ⟨c2, fun e => by simp [e] at h⟩)
theorem own_eq {a0 a1 a2 a3 : Int} {a4 a5 : ByteArray} {a6 a7 a8 a9 a10 : Int} {l : List Int} (hl : l.length ≤ 60) : glebelaw11_Own.f a0 a1 a2 a3 a4 a5 a6 a7 a8 a9 a10 l = some (a0, a1, a2, a3, a4, a5, a6, a7, a8, a9, a10, l) := by
  unfold glebelaw11_Own.f glebelaw07_Op.f
  rw [Option.bind_some, Option.bind_some, if_pos (by simp; omega), List.nil_append]
theorem without_eq {l : List Int} {n : Int} (hl : l.length ≤ 60) : entry_Without.f l n = some (l.filter (· != n)) := if_pos (by omega)
/-- The law's loop. -/
theorem heirs_loop {x3 x4 : List Int} {a0 a1 a2 a3 : Int} {a4 a5 : ByteArray} {a6 a7 a8 a9 a10 : Int} {l : List Int} (hl : l.length ≤ 40) (h4 : x4.length ≤ 41) (hin : ∀ z ∈ l, z ≠ a8 → z ∈ x4) (h0 : ((a0 == 4) == decide ((x3.length : Int) > 0)) = true) (h3 : x3 ≠ [] → x3 = l) :
    ∀ (m i k : Nat), i + m = l.length → m + 50 ≤ k → k ≤ 1000 → glebelaw11_EntryHeirs.l0 k x3 x4 (i : Int) a0 a1 a2 a3 a4 a5 a6 a7 a8 a9 a10 l = some true := by
  intro m
  induction m with
  | zero =>
    intro i k h hk hk2
    obtain ⟨k, rfl⟩ : ∃ j, k = j + 1 := ⟨k - 1, by omega⟩
    rw [glebelaw11_EntryHeirs.l0, if_neg (by omega), if_pos h0]
    by_cases c : (x3.length : Int) = 0
    · rw [if_pos c]; rfl
    · have e := h3 (fun q => c (by rw [q]; rfl))
      subst e
      rw [if_neg c, samel_eq (by omega) (by omega), Option.bind_some, decide_eq_true rfl, if_pos rfl]
      rfl
  | succ m ih =>
    intro i k h hk hk2
    obtain ⟨k, rfl⟩ : ∃ j, k = j + 1 := ⟨k - 1, by omega⟩
    have hi : i < l.length := by omega
    rw [glebelaw11_EntryHeirs.l0, if_pos (by omega), if_pos (by omega), rd_get l i hi, w_succ i (by omega)]
    by_cases c : l[i] = a8
    · rw [if_pos c]
      exact ih (i + 1) k (by omega) (by omega) (by omega)
    · rw [if_neg c, in_eq _ (by omega) (by omega), Option.bind_some, decide_eq_true (hin _ (List.getElem_mem _) c), if_pos rfl]
      exact ih (i + 1) k (by omega) (by omega) (by omega)
theorem entryHeirs_pure : EntryHeirs_Pure := by
  intro a0 a1 a2 a3 a4 a5 a6 a7 a8 a9 a10 l _ _ _ _ hs4 hs5 _ _ _ _ _ hl
  refine ⟨100, ?_⟩
  unfold glebelaw11_EntryHeirs.f glebelaw11_light.f
  split
  rotate_left
  · rfl
  rw [Option.bind_some]
  by_cases hlen : (l.length : Int) ≤ 40
  rotate_left
  · rw [decide_eq_false hlen]; rfl
  rw [decide_eq_true hlen, if_pos rfl, own_eq (by omega), Option.bind_some]
  obtain ⟨b, hb, hk, hsm⟩ := eright_tot a0 a1 a2 a3 a4 a5 a6 a7 a8 a9 a10 l (by omega)
  dsimp only
  unfold entry_Heirs.f
  rw [hb, Option.bind_some]
  cases b
  · rw [if_neg (by simp), entry_Heirs.j0, if_pos rfl, Option.bind_some]
    dsimp only
    rw [Option.bind_some]
    dsimp only
    rw [hb, Option.bind_some, if_neg (by simp), glebelaw11_EntryHeirs.j0, if_pos rfl, if_pos (by simp [wrap64])]
    rfl
  rw [if_pos rfl]
  by_cases c4 : a0 < 4
  · rw [decide_eq_true c4, entry_Heirs.j0, if_pos rfl, Option.bind_some]
    dsimp only
    rw [Option.bind_some]
    dsimp only
    rw [hb, Option.bind_some, if_pos rfl, if_neg (by omega), show (a0 != 5) = true from bne_iff_ne.mpr (by omega), glebelaw11_EntryHeirs.j0, if_pos rfl, if_pos (by simp [wrap64])]
    rfl
  have h45 : a0 = 4 ∨ a0 = 5 := by
    have := hk rfl
    omega
  obtain ⟨hn, hby, hch, hin, hnin⟩ := hsm rfl h45
  have hwl := without_len hch.2 hin
  have hlen2 : l.length ≤ 40 := by omega
  have hcw : ChainOk (a10 :: l.filter (· != a8)) := by
    refine ⟨fun z hz => ?_, List.nodup_cons.mpr ⟨fun q => hnin ((List.mem_filter.mp q).1), hch.2.filter _⟩⟩
    rcases List.mem_cons.mp hz with rfl | hz
    · exact hby
    · exact hch.1 z ((List.mem_filter.mp hz).1)
  have hnw : a8 ∉ a10 :: l.filter (· != a8) := by
    intro q
    rcases List.mem_cons.mp q with e | q
    · exact hnin (e ▸ hin)
    · have := (List.mem_filter.mp q).2
      simp at this
  have hinw : ∀ z ∈ l, z ≠ a8 → z ∈ a10 :: l.filter (· != a8) := fun z hz hne => List.mem_cons_of_mem _ (List.mem_filter.mpr ⟨hz, by simpa using hne⟩)
  have fin : ∀ x3 : List Int, ChainOk x3 → ((a0 == 4) == decide ((x3.length : Int) > 0)) = true → (x3 ≠ [] → x3 = l) → glebelaw11_EntryHeirs.j0 100 x3 (a10 :: l.filter (· != a8)) false a0 a1 a2 a3 a4 a5 a6 a7 a8 a9 a10 l = some true := by
    intro x3 q1 q2 q3
    rw [glebelaw11_EntryHeirs.j0, if_neg (by simp), chain_eq, Option.bind_some, decide_eq_true q1, if_pos rfl, chain_eq, Option.bind_some, decide_eq_true hcw, if_pos rfl, if_pos (by rw [List.length_cons]; omega), if_neg (by rw [List.length_cons]; omega), if_pos (by rw [List.length_cons]; omega), if_pos (by rfl), in_eq _ (by rw [List.length_cons]; omega) (by omega), Option.bind_some, decide_eq_false hnw, glebelaw11_EntryHeirs.j1, if_neg (by simp)]
    exact heirs_loop hlen2 (by rw [List.length_cons]; omega) hinw q2 q3 l.length 0 98 (by omega) (by omega) (by omega)
  rw [decide_eq_false c4, entry_Heirs.j0, if_neg (by simp), without_eq (by omega)]
  have hwb : ([a10] : List Int).length + (l.filter (· != a8)).length < 17592186044416 := by simp only [List.length_cons, List.length_nil]; omega
  rcases h45 with e | e
  · rw [if_pos e]
    have hcl : slices_Clone_int_int.f l = some l := if_pos (by omega)
    rw [hcl, Option.bind_some, Option.bind_some, Option.bind_some, if_pos hwb, Option.bind_some]
    dsimp only
    rw [Option.bind_some]
    dsimp only
    rw [hb, Option.bind_some, if_pos rfl, if_pos e]
    refine fin l hch ?_ (fun _ => rfl)
    rw [beq_iff_eq, e, decide_eq_true (show (l.length : Int) > 0 by omega)]
    rfl
  · rw [if_neg (by omega), Option.bind_some, Option.bind_some, if_pos hwb, Option.bind_some]
    dsimp only
    rw [Option.bind_some]
    dsimp only
    rw [hb, Option.bind_some, if_pos rfl, if_neg (by omega), show (a0 != 5) = false from bne_eq_false_iff_eq.mpr e]
    refine fin [] ⟨(fun z hz => nomatch hz), List.nodup_nil⟩ ?_ (fun h => absurd rfl h)
    rw [beq_iff_eq, e]
    rfl
end Go.Proofs.Ytampppdjfbabiaa.PE
namespace Go.Proofs.Ytampppdjfbabiaa.Pure
theorem EntryHeirs : Go.Proofs.Ytampppdjfbabiaa.PE.EntryHeirs_Pure := Go.Proofs.Ytampppdjfbabiaa.PE.entryHeirs_pure
end Go.Proofs.Ytampppdjfbabiaa.Pure
