/- For every input the law BorderCells returns true and leaves its arguments as they were: the row, out of its pure statement and the walk's contract. -/
import Derived.Test.YtjdmnlbnaogcdaaRows
import Derived.Test.YtjdmnlbnaogcdaaPCx6
import Derived.Test.YtjdmnlbnaogcdaaPureBorderCells
import Derived.Test.YtjdmnlbnaogcdaaOp
import Derived.Test.YtjdmnlbnaogcdaaWWords
import Derived.WalkKit
import Derived.ProofKit
import Derived.OpenShut
import Derived.ShutString
import Derived.ChangeOld
import Derived.Below
import Derived.SizedLaws
namespace Go.Proofs.Ytjdmnlbnaogcdaa.borderCells
open Go.ChangeShapes Go.WideShapes Go.ChangeAt Go.RowKit Go.Proofs.Ytjdmnlbnaogcdaa.Op Go.Proofs.YtjdmnlbnaogcdaaW
open Go.Proofs.YtjdmnlbnaogcdaaW.PrintWords (Drawn0.below)
open Go.ChangeMaps (open_string shut_string)
set_option linter.unusedVariables false
theorem own : ownKnob Try.prog.godebug = none := by kernel_rfl
theorem laidOut : laidOutB Try.prog = true := by kernel_rfl
theorem opn23 {H : Type} {enc : TypeId × Value → H} {w : World} {fuel : Nat} {cs : List Value} {y : DataW H × List MemPlace}
    (h : DataW.trod enc Try.prog w 0 (fun _ => true) true fuel 23 cs = some y) (hw : ∀ m ∈ y.1.weights Try.prog 23, m ≤ reachBytes) :
    ∃ (x0 : Int) (x1 : Int), cs = [.int .i64 x0, .int .i64 x1] ∧ (-9223372036854775808 ≤ x0 ∧ x0 ≤ 9223372036854775807) ∧ (-9223372036854775808 ≤ x1 ∧ x1 ≤ 9223372036854775807) := by
  obtain ⟨hl, n, ys, hy, hf⟩ := trod_fields Try.underlying23 h
  rw [show Try.prog.cellsOf 23 = 2 by kernel_rfl] at hl
  obtain ⟨c0, c1, rfl⟩ : ∃ c0 c1, cs = [c0, c1] := by
    match cs, hl with
    | [c0, c1], _ => exact ⟨_, _, rfl⟩
  obtain ⟨z0, hz0, hf0⟩ := hf 0 _ 1 rfl (by kernel_rfl)
  have hw0 := weights_at Try.underlying23 hy hw (i := 0) rfl hz0
  replace hf0 : DataW.trod enc Try.prog w 0 (fun _ => true) true n 3 [c0] = some z0 := hf0
  obtain ⟨y0, rfl, b0⟩ := leaf_int Try.underlying3 hf0
  obtain ⟨z1, hz1, hf1⟩ := hf 1 _ 1 rfl (by kernel_rfl)
  have hw1 := weights_at Try.underlying23 hy hw (i := 1) rfl hz1
  replace hf1 : DataW.trod enc Try.prog w 0 (fun _ => true) true n 3 [c1] = some z1 := hf1
  obtain ⟨y1, rfl, b1⟩ := leaf_int Try.underlying3 hf1
  exact ⟨y0, y1, rfl, bounds_i64 b0, bounds_i64 b1⟩
set_option maxRecDepth 100000 in
theorem lifted (os : Os) (started : os.Started) (H : Type) (enc : TypeId × Value → H) :
    ReturnsInHanded {} Try.checked os 5 .any (Rows.borderCellsSpec.pre6 enc Try.prog Try.f5 Rows.borderCellsRow.domain false) (Rows.borderCellsSpec.post enc Try.prog Try.f5 false true false false) := by
  refine returnsInHanded_of_change_sized (C := Try.checked) own started (by kernel_rfl) Try.func5
    (ChangeSpec.witness6 (enc := enc) (C := Try.checked) false ⟨#[], #[.int .i64 0, .agg #[.int .i64 0, .int .i64 0], .agg #[.int .i64 0, .int .i64 0]], []⟩ 8 (by kernel_rfl) (by kernel_rfl) (by kernel_rfl) (by kernel_rfl)) ?_
  intro W base args ds gs before hval0 hW hcnd hsz0 _
  have hsz : (DataW.weightsEach Try.prog (Try.f5.params.toList ++ Rows.borderCellsSpec.plain.varTypes Try.prog) (ds ++ gs)).all (· ≤ reachBytes) = true := hsz0
  have hval : ∀ (j : Nat) t v, Try.f5.params[j]? = some t → args[j]? = some v → Value.okWide Try.prog W .any base t v := hval0
  have hW' := hW
  obtain ⟨p, q, hA0, hV, rfl, hfz, hnd⟩ := hW
  have hA : DataW.TrodAll enc Try.prog W 0 (fun _ => true) true Try.f5.params.toList args.toList ds p := hA0
  rw [Try.params5] at hA hval hsz
  obtain ⟨v0, vs0, d0, ds0, p0, q0, hargs, rfl, rfl, h0, r0⟩ := trodAll_cons hA
  obtain ⟨v1, vs1, d1, ds1, p1, q1, rfl, rfl, rfl, h1, r1⟩ := trodAll_cons r0
  obtain ⟨v2, vs2, d2, ds2, p2, q2, rfl, rfl, rfl, h2, r2⟩ := trodAll_cons r1
  obtain ⟨rfl, rfl, rfl⟩ := trodAll_nil r2
  obtain rfl : args = #[v0, v1, v2] := by cases args; simp_all
  obtain ⟨rfl, rfl⟩ := trodVars_none hV
  obtain ⟨a0, rfl, rfl, rfl, w0⟩ := open_int Try.underlying3 (hval 0 3 v0 rfl rfl) h0
  have k1 := h1
  have lt1 : ∀ x ∈ p1, x.block < W.heap.size := by obtain ⟨m, hm⟩ := k1; exact DataW.trod_lt m _ _ _ hm
  obtain ⟨cs1, fu1, rfl, hc1⟩ := agg_of Try.underlying23 (hval 1 23 v1 rfl rfl) h1
  have wt1 : ∀ m ∈ d1.weights Try.prog 23, m ≤ reachBytes := fun m hm => by have := List.all_eq_true.1 hsz m (DataW.weights_mem_each (j := 1) (t := 23) rfl rfl m hm); simpa using this
  obtain ⟨a1_0, a1_1, rfl, w1_0, w1_1⟩ := opn23 hc1 wt1
  have k2 := h2
  have lt2 : ∀ x ∈ p2, x.block < W.heap.size := by obtain ⟨m, hm⟩ := k2; exact DataW.trod_lt m _ _ _ hm
  obtain ⟨cs2, fu2, rfl, hc2⟩ := agg_of Try.underlying23 (hval 2 23 v2 rfl rfl) h2
  have wt2 : ∀ m ∈ d2.weights Try.prog 23, m ≤ reachBytes := fun m hm => by have := List.all_eq_true.1 hsz m (DataW.weights_mem_each (j := 2) (t := 23) rfl rfl m hm); simpa using this
  obtain ⟨a2_0, a2_1, rfl, w2_0, w2_1⟩ := opn23 hc2 wt2
  clear hA0 hval0 hsz0 hsz
  obtain ⟨kr, hk⟩ := Pure.BorderCells a0 a1_0 a1_1 a2_0 a2_1 (bounds_i64 w0) w1_0 w1_1 w2_0 w2_1
  refine (PC.glebelaw06_BorderCells.calls kr a0 a1_0 a1_1 a2_0 a2_1 true W  hk).mono fun e W' ⟨he, bel0⟩ => ?_
  subst he
  have bel : Below W.heap.size W W' := bel0
  exact ⟨_, rfl, _, _, _, [], _, [], hW', trodAll_mk1 (shut_bool Try.underlying4 _), (trodAll_cons_mk (shut_int Try.underlying3 w0) (trodAll_cons_mk (Below.trod laidOut (by kernel_rfl) (of_decide_eq_true (by kernel_rfl)) k1 bel lt1) (trodAll_cons_mk (Below.trod laidOut (by kernel_rfl) (of_decide_eq_true (by kernel_rfl)) k2 bel lt2) trodAll_mk0))), rfl, bel.frame _, fun h => by cases h⟩
theorem over : Rows.borderCellsRow.holds Try.pinned (OpenSpec.ofChange Rows.borderCellsSpec) :=
  OpenClaim.holds_of_wide 5 Try.f5 rfl rfl rfl rfl rfl rfl rfl ⟨rfl, rfl, rfl, rfl, rfl⟩ rfl rfl rfl rfl rfl (by kernel_rfl) Try.func5 (by kernel_rfl)
    (of_decide_eq_true (by kernel_rfl)) (by unfold Func.isWrapper; first | (rw [if_pos (by decide +kernel)]; kernel_rfl) | (rw [if_neg (by decide +kernel)]; exact ⟨rfl, rfl⟩))
    (fun os started H enc _ => lifted os started H enc)
theorem proved : Rows.BorderCellsSaid := over
#print axioms proved
end Go.Proofs.Ytjdmnlbnaogcdaa.borderCells
namespace Go.Proofs.Ytjdmnlbnaogcdaa
/-- The row, under a short name, for the claim. -/
theorem borderCells_holds : Rows.BorderCellsSaid := borderCells.proved
end Go.Proofs.Ytjdmnlbnaogcdaa
