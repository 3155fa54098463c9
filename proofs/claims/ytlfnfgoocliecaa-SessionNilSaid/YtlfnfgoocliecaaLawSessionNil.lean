/- For every input the law SessionNil returns true and leaves its arguments as they were: the row, out of its pure statement and the walk's contract. -/
import Derived.Test.YtlfnfgoocliecaaRows
import Derived.Test.YtlfnfgoocliecaaPLx21
import Derived.Test.YtlfnfgoocliecaaPureSessionNil
import Derived.Test.YtlfnfgoocliecaaOp
import Derived.Test.YtlfnfgoocliecaaWSized
import Derived.WalkKit
import Derived.ProofKit
import Derived.OpenShut
import Derived.ShutString
import Derived.ChangeOld
import Derived.Below
import Derived.SizedLaws
namespace Go.Proofs.Ytlfnfgoocliecaa.sessionNil
open Go.ChangeShapes Go.WideShapes Go.ChangeAt Go.RowKit Go.Proofs.Ytlfnfgoocliecaa.Op Go.Proofs.YtlfnfgoocliecaaW
open Go.Proofs.YtlfnfgoocliecaaW.PrintWords (Drawn0.below)
open Go.ChangeMaps (open_string shut_string)
set_option linter.unusedVariables false
theorem own : ownKnob Try.prog.godebug = none := by kernel_rfl
theorem laidOut : laidOutB Try.prog = true := by kernel_rfl
theorem opn24 {H : Type} {enc : TypeId × Value → H} {w : World} {fuel : Nat} {cs : List Value} {y : DataW H × List MemPlace}
    (h : DataW.trod enc Try.prog w 0 (fun _ => true) true fuel 24 cs = some y) (hw : ∀ m ∈ y.1.weights Try.prog 24, m ≤ reachBytes) :
    ∃ (x0 : Int) (x1 : Bool) (x2 : ByteArray) (x3 : Int), cs = [.int .i64 x0, .bool x1, .string x2, .int .i64 x3] ∧ (-9223372036854775808 ≤ x0 ∧ x0 ≤ 9223372036854775807) ∧ x2.size ≤ 140737488351232 ∧ (-9223372036854775808 ≤ x3 ∧ x3 ≤ 9223372036854775807) := by
  obtain ⟨hl, n, ys, hy, hf⟩ := trod_fields Try.underlying24 h
  rw [show Try.prog.cellsOf 24 = 4 by kernel_rfl] at hl
  obtain ⟨c0, c1, c2, c3, rfl⟩ : ∃ c0 c1 c2 c3, cs = [c0, c1, c2, c3] := by
    match cs, hl with
    | [c0, c1, c2, c3], _ => exact ⟨_, _, _, _, rfl⟩
  obtain ⟨z0, hz0, hf0⟩ := hf 0 _ 1 rfl (by kernel_rfl)
  have hw0 := weights_at Try.underlying24 hy hw (i := 0) rfl hz0
  replace hf0 : DataW.trod enc Try.prog w 0 (fun _ => true) true n 3 [c0] = some z0 := hf0
  obtain ⟨y0, rfl, b0⟩ := leaf_int Try.underlying3 hf0
  obtain ⟨z1, hz1, hf1⟩ := hf 1 _ 1 rfl (by kernel_rfl)
  have hw1 := weights_at Try.underlying24 hy hw (i := 1) rfl hz1
  replace hf1 : DataW.trod enc Try.prog w 0 (fun _ => true) true n 4 [c1] = some z1 := hf1
  obtain ⟨y1, rfl⟩ := leaf_bool Try.underlying4 hf1
  obtain ⟨z2, hz2, hf2⟩ := hf 2 _ 1 rfl (by kernel_rfl)
  have hw2 := weights_at Try.underlying24 hy hw (i := 2) rfl hz2
  replace hf2 : DataW.trod enc Try.prog w 0 (fun _ => true) true n 9 [c2] = some z2 := hf2
  obtain ⟨y2, rfl, b2⟩ := leaf_string Try.underlying9 hf2 hw2
  obtain ⟨z3, hz3, hf3⟩ := hf 3 _ 1 rfl (by kernel_rfl)
  have hw3 := weights_at Try.underlying24 hy hw (i := 3) rfl hz3
  replace hf3 : DataW.trod enc Try.prog w 0 (fun _ => true) true n 3 [c3] = some z3 := hf3
  obtain ⟨y3, rfl, b3⟩ := leaf_int Try.underlying3 hf3
  exact ⟨y0, y1, y2, y3, rfl, bounds_i64 b0, b2, bounds_i64 b3⟩
theorem opn26 {H : Type} {enc : TypeId × Value → H} {w : World} {fuel : Nat} {cs : List Value} {y : DataW H × List MemPlace}
    (h : DataW.trod enc Try.prog w 0 (fun _ => true) true fuel 26 cs = some y) (hw : ∀ m ∈ y.1.weights Try.prog 26, m ≤ reachBytes) :
    ∃ (x0 : Int) (x1 : Int) (x2 : Int) (x3 : Bool) (x4 : ByteArray) (x5 : Int), cs = [.int .i64 x0, .int .i64 x1, .int .i64 x2, .bool x3, .string x4, .int .i64 x5] ∧ (-9223372036854775808 ≤ x0 ∧ x0 ≤ 9223372036854775807) ∧ (-9223372036854775808 ≤ x1 ∧ x1 ≤ 9223372036854775807) ∧ (-9223372036854775808 ≤ x2 ∧ x2 ≤ 9223372036854775807) ∧ x4.size ≤ 140737488351232 ∧ (-9223372036854775808 ≤ x5 ∧ x5 ≤ 9223372036854775807) := by
  obtain ⟨hl, n, ys, hy, hf⟩ := trod_fields Try.underlying26 h
  rw [show Try.prog.cellsOf 26 = 6 by kernel_rfl] at hl
  obtain ⟨c0, c1, c2, c3, c4, c5, rfl⟩ : ∃ c0 c1 c2 c3 c4 c5, cs = [c0, c1, c2, c3, c4, c5] := by
    match cs, hl with
    | [c0, c1, c2, c3, c4, c5], _ => exact ⟨_, _, _, _, _, _, rfl⟩
  obtain ⟨z0, hz0, hf0⟩ := hf 0 _ 1 rfl (by kernel_rfl)
  have hw0 := weights_at Try.underlying26 hy hw (i := 0) rfl hz0
  replace hf0 : DataW.trod enc Try.prog w 0 (fun _ => true) true n 3 [c0] = some z0 := hf0
  obtain ⟨y0, rfl, b0⟩ := leaf_int Try.underlying3 hf0
  obtain ⟨z1, hz1, hf1⟩ := hf 1 _ 1 rfl (by kernel_rfl)
  have hw1 := weights_at Try.underlying26 hy hw (i := 1) rfl hz1
  replace hf1 : DataW.trod enc Try.prog w 0 (fun _ => true) true n 3 [c1] = some z1 := hf1
  obtain ⟨y1, rfl, b1⟩ := leaf_int Try.underlying3 hf1
  obtain ⟨z2, hz2, hf2⟩ := hf 2 _ 4 rfl (by kernel_rfl)
  have hw2 := weights_at Try.underlying26 hy hw (i := 2) rfl hz2
  replace hf2 : DataW.trod enc Try.prog w 0 (fun _ => true) true n 24 [c2, c3, c4, c5] = some z2 := hf2
  obtain ⟨y2_0, y2_1, y2_2, y2_3, e2, b2_0, b2_1, b2_2⟩ := opn24 hf2 hw2
  simp only [List.cons.injEq, and_true] at e2
  obtain ⟨rfl, rfl, rfl, rfl⟩ := e2
  exact ⟨y0, y1, y2_0, y2_1, y2_2, y2_3, rfl, bounds_i64 b0, bounds_i64 b1, b2_0, b2_1, b2_2⟩
set_option maxRecDepth 100000 in
theorem lifted (os : Os) (started : os.Started) (H : Type) (enc : TypeId × Value → H) :
    ReturnsInHanded {} Try.checked os 6 .any (Rows.sessionNilSpec.pre6 enc Try.prog Try.f6 Rows.sessionNilRow.domain false) (Rows.sessionNilSpec.post enc Try.prog Try.f6 false true false false) := by
  refine returnsInHanded_of_change_sized (C := Try.checked) own started (by kernel_rfl) Try.func6
    (ChangeSpec.witness6 (enc := enc) (C := Try.checked) false ⟨#[], #[.agg #[.int .i64 0, .int .i64 0, .int .i64 0, .bool false, .string ByteArray.empty, .int .i64 0]], []⟩ 8 (by kernel_rfl) (by kernel_rfl) (by kernel_rfl) (by kernel_rfl)) ?_
  intro W base args ds gs before hval0 hW hcnd hsz0 _
  have hsz : (DataW.weightsEach Try.prog (Try.f6.params.toList ++ Rows.sessionNilSpec.plain.varTypes Try.prog) (ds ++ gs)).all (· ≤ reachBytes) = true := hsz0
  have hval : ∀ (j : Nat) t v, Try.f6.params[j]? = some t → args[j]? = some v → Value.okWide Try.prog W .any base t v := hval0
  have hW' := hW
  obtain ⟨p, q, hA0, hV, rfl, hfz, hnd⟩ := hW
  have hA : DataW.TrodAll enc Try.prog W 0 (fun _ => true) true Try.f6.params.toList args.toList ds p := hA0
  rw [Try.params6] at hA hval hsz
  obtain ⟨v0, vs0, d0, ds0, p0, q0, hargs, rfl, rfl, h0, r0⟩ := trodAll_cons hA
  obtain ⟨rfl, rfl, rfl⟩ := trodAll_nil r0
  obtain rfl : args = #[v0] := by cases args; simp_all
  obtain ⟨rfl, rfl⟩ := trodVars_none hV
  have k0 := h0
  have lt0 : ∀ x ∈ p0, x.block < W.heap.size := by obtain ⟨m, hm⟩ := k0; exact DataW.trod_lt m _ _ _ hm
  obtain ⟨cs0, fu0, rfl, hc0⟩ := agg_of Try.underlying26 (hval 0 26 v0 rfl rfl) h0
  have wt0 : ∀ m ∈ d0.weights Try.prog 26, m ≤ reachBytes := fun m hm => by have := List.all_eq_true.1 hsz m (DataW.weights_mem_each (j := 0) (t := 26) rfl rfl m hm); simpa using this
  obtain ⟨a0_0, a0_1, a0_2, a0_3, a0_4, a0_5, rfl, w0_0, w0_1, w0_2, w0_3, w0_4⟩ := opn26 hc0 wt0
  clear hA0 hval0 hsz0 hsz
  obtain ⟨kr, hk⟩ := Pure.SessionNil a0_0 a0_1 a0_2 a0_3 a0_4 a0_5 w0_0 w0_1 w0_2 w0_3 w0_4
  refine (PL.glebelaw09_SessionNil.calls kr a0_0 a0_1 a0_2 a0_3 a0_4 a0_5 true W  hk).mono fun e W' ⟨he, bel0⟩ => ?_
  subst he
  have bel : Below W.heap.size W W' := bel0
  exact ⟨_, rfl, _, _, _, [], _, [], hW', trodAll_mk1 (shut_bool Try.underlying4 _), (trodAll_cons_mk (Below.trod laidOut (by kernel_rfl) (of_decide_eq_true (by kernel_rfl)) k0 bel lt0) trodAll_mk0), rfl, bel.frame _, fun h => by cases h⟩
theorem over : Rows.sessionNilRow.holds Try.pinned (OpenSpec.ofChange Rows.sessionNilSpec) :=
  OpenClaim.holds_of_wide 6 Try.f6 rfl rfl rfl rfl rfl rfl rfl ⟨rfl, rfl, rfl, rfl, rfl⟩ rfl rfl rfl rfl rfl (by kernel_rfl) Try.func6 (by kernel_rfl)
    (of_decide_eq_true (by kernel_rfl)) (by unfold Func.isWrapper; first | (rw [if_pos (by decide +kernel)]; kernel_rfl) | (rw [if_neg (by decide +kernel)]; exact ⟨rfl, rfl⟩))
    (fun os started H enc _ => lifted os started H enc)
theorem proved : Rows.SessionNilSaid := over
#print axioms proved
end Go.Proofs.Ytlfnfgoocliecaa.sessionNil
namespace Go.Proofs.Ytlfnfgoocliecaa
/-- The row, under a short name, for the claim. -/
theorem sessionNil_holds : Rows.SessionNilSaid := sessionNil.proved
end Go.Proofs.Ytlfnfgoocliecaa
