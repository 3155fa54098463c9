/- For every input the law SessionPlays returns true and leaves its arguments as they were: the row, out of its pure statement and the walk's contract. -/
import Derived.Test.YtlfnfgoocliecaaRows
import Derived.Test.YtlfnfgoocliecaaPNx4
import Derived.Test.YtlfnfgoocliecaaPureSessionPlays
import Derived.Test.YtlfnfgoocliecaaOp
import Derived.Test.YtlfnfgoocliecaaWWords
import Derived.WalkKit
import Derived.ProofKit
import Derived.OpenShut
import Derived.ShutString
import Derived.ChangeOld
import Derived.Below
import Derived.SizedLaws
namespace Go.Proofs.Ytlfnfgoocliecaa.sessionPlays
open Go.ChangeShapes Go.WideShapes Go.ChangeAt Go.RowKit Go.Proofs.Ytlfnfgoocliecaa.Op Go.Proofs.YtlfnfgoocliecaaW
open Go.Proofs.YtlfnfgoocliecaaW.PrintWords (Drawn0.below)
open Go.ChangeMaps (open_string shut_string)
set_option linter.unusedVariables false
theorem own : ownKnob Try.prog.godebug = none := by kernel_rfl
theorem laidOut : laidOutB Try.prog = true := by kernel_rfl
theorem opn24 {H : Type} {enc : TypeId × Value → H} {w : World} {fuel : Nat} {cs : List Value} {y : DataW H × List MemPlace}
    (h : DataW.trod enc Try.prog w 0 (fun _ => true) true fuel 24 cs = some y) (hw : ∀ m ∈ y.1.weights Try.prog 24, m ≤ reachBytes) :
    ∃ (x0 : Int) (x1 : Bool) (x2 : ByteArray) (x3 : Int), cs = [.int .i64 x0, .bool x1, .string x2, .int .i64 x3] ∧ (-9223372036854775808 ≤ x0 ∧ x0 ≤ 9223372036854775807) ∧ x2.size ≤ 140737488351232 ∧ (-9223372036854775808 ≤ x3 ∧ x3 ≤ 9223372036854775807) := by
  obtain ⟨hl, n, ys, hy, hf⟩ := trod_fields Try.underlying24 h
  rw [show Try.prog.cellsOf 24 = 4 by kernel_rfl] at hl
  obtain ⟨c0, c1, c2, c3, rfl⟩ : ∃ c0 c1 c2 c3, cs = [c0, c1, c2, c3] := by
    match cs, hl with
    | [c0, c1, c2, c3], _ => exact ⟨_, _, _, _, rfl⟩
  obtain ⟨z0, hz0, hf0⟩ := hf 0 _ 1 rfl (by kernel_rfl)
  have hw0 := weights_at Try.underlying24 hy hw (i := 0) rfl hz0
  replace hf0 : DataW.trod enc Try.prog w 0 (fun _ => true) true n 3 [c0] = some z0 := hf0
  obtain ⟨y0, rfl, b0⟩ := leaf_int Try.underlying3 hf0
  obtain ⟨z1, hz1, hf1⟩ := hf 1 _ 1 rfl (by kernel_rfl)
  have hw1 := weights_at Try.underlying24 hy hw (i := 1) rfl hz1
  replace hf1 : DataW.trod enc Try.prog w 0 (fun _ => true) true n 4 [c1] = some z1 := hf1
  obtain ⟨y1, rfl⟩ := leaf_bool Try.underlying4 hf1
  obtain ⟨z2, hz2, hf2⟩ := hf 2 _ 1 rfl (by kernel_rfl)
  have hw2 := weights_at Try.underlying24 hy hw (i := 2) rfl hz2
  replace hf2 : DataW.trod enc Try.prog w 0 (fun _ => true) true n 9 [c2] = some z2 := hf2
  obtain ⟨y2, rfl, b2⟩ := leaf_string Try.underlying9 hf2 hw2
  obtain ⟨z3, hz3, hf3⟩ := hf 3 _ 1 rfl (by kernel_rfl)
  have hw3 := weights_at Try.underlying24 hy hw (i := 3) rfl hz3
  replace hf3 : DataW.trod enc Try.prog w 0 (fun _ => true) true n 3 [c3] = some z3 := hf3
  obtain ⟨y3, rfl, b3⟩ := leaf_int Try.underlying3 hf3
  exact ⟨y0, y1, y2, y3, rfl, bounds_i64 b0, b2, bounds_i64 b3⟩
theorem opn26 {H : Type} {enc : TypeId × Value → H} {w : World} {fuel : Nat} {cs : List Value} {y : DataW H × List MemPlace}
    (h : DataW.trod enc Try.prog w 0 (fun _ => true) true fuel 26 cs = some y) (hw : ∀ m ∈ y.1.weights Try.prog 26, m ≤ reachBytes) :
    ∃ (x0 : Int) (x1 : Int) (x2 : Int) (x3 : Bool) (x4 : ByteArray) (x5 : Int), cs = [.int .i64 x0, .int .i64 x1, .int .i64 x2, .bool x3, .string x4, .int .i64 x5] ∧ (-9223372036854775808 ≤ x0 ∧ x0 ≤ 9223372036854775807) ∧ (-9223372036854775808 ≤ x1 ∧ x1 ≤ 9223372036854775807) ∧ (-9223372036854775808 ≤ x2 ∧ x2 ≤ 9223372036854775807) ∧ x4.size ≤ 140737488351232 ∧ (-9223372036854775808 ≤ x5 ∧ x5 ≤ 9223372036854775807) := by
  obtain ⟨hl, n, ys, hy, hf⟩ := trod_fields Try.underlying26 h
  rw [show Try.prog.cellsOf 26 = 6 by kernel_rfl] at hl
  obtain ⟨c0, c1, c2, c3, c4, c5, rfl⟩ : ∃ c0 c1 c2 c3 c4 c5, cs = [c0, c1, c2, c3, c4, c5] := by
    match cs, hl with
    | [c0, c1, c2, c3, c4, c5], _ => exact ⟨_, _, _, _, _, _, rfl⟩
  obtain ⟨z0, hz0, hf0⟩ := hf 0 _ 1 rfl (by kernel_rfl)
  have hw0 := weights_at Try.underlying26 hy hw (i := 0) rfl hz0
  replace hf0 : DataW.trod enc Try.prog w 0 (fun _ => true) true n 3 [c0] = some z0 := hf0
  obtain ⟨y0, rfl, b0⟩ := leaf_int Try.underlying3 hf0
  obtain ⟨z1, hz1, hf1⟩ := hf 1 _ 1 rfl (by kernel_rfl)
  have hw1 := weights_at Try.underlying26 hy hw (i := 1) rfl hz1
  replace hf1 : DataW.trod enc Try.prog w 0 (fun _ => true) true n 3 [c1] = some z1 := hf1
  obtain ⟨y1, rfl, b1⟩ := leaf_int Try.underlying3 hf1
  obtain ⟨z2, hz2, hf2⟩ := hf 2 _ 4 rfl (by kernel_rfl)
  have hw2 := weights_at Try.underlying26 hy hw (i := 2) rfl hz2
  replace hf2 : DataW.trod enc Try.prog w 0 (fun _ => true) true n 24 [c2, c3, c4, c5] = some z2 := hf2
  obtain ⟨y2_0, y2_1, y2_2, y2_3, e2, b2_0, b2_1, b2_2⟩ := opn24 hf2 hw2
  simp only [List.cons.injEq, and_true] at e2
  obtain ⟨rfl, rfl, rfl, rfl⟩ := e2
  exact ⟨y0, y1, y2_0, y2_1, y2_2, y2_3, rfl, bounds_i64 b0, bounds_i64 b1, b2_0, b2_1, b2_2⟩
set_option maxRecDepth 100000 in
theorem lifted (os : Os) (started : os.Started) (H : Type) (enc : TypeId × Value → H) :
    ReturnsInHanded {} Try.checked os 5 .any (Rows.sessionPlaysSpec.pre6 enc Try.prog Try.f5 Rows.sessionPlaysRow.domain false) (Rows.sessionPlaysSpec.post enc Try.prog Try.f5 false true false false) := by
  refine returnsInHanded_of_change_sized (C := Try.checked) own started (by kernel_rfl) Try.func5
    (ChangeSpec.witness6 (enc := enc) (C := Try.checked) false ⟨#[], #[.slice none 0 0, .slice none 0 0], []⟩ 8 (by kernel_rfl) (by kernel_rfl) (by kernel_rfl) (by kernel_rfl)) ?_
  intro W base args ds gs before hval0 hW hcnd hsz0 _
  have hsz : (DataW.weightsEach Try.prog (Try.f5.params.toList ++ Rows.sessionPlaysSpec.plain.varTypes Try.prog) (ds ++ gs)).all (· ≤ reachBytes) = true := hsz0
  have hval : ∀ (j : Nat) t v, Try.f5.params[j]? = some t → args[j]? = some v → Value.okWide Try.prog W .any base t v := hval0
  have hW' := hW
  obtain ⟨p, q, hA0, hV, rfl, hfz, hnd⟩ := hW
  have hA : DataW.TrodAll enc Try.prog W 0 (fun _ => true) true Try.f5.params.toList args.toList ds p := hA0
  rw [Try.params5] at hA hval hsz
  obtain ⟨v0, vs0, d0, ds0, p0, q0, hargs, rfl, rfl, h0, r0⟩ := trodAll_cons hA
  obtain ⟨v1, vs1, d1, ds1, p1, q1, rfl, rfl, rfl, h1, r1⟩ := trodAll_cons r0
  obtain ⟨rfl, rfl, rfl⟩ := trodAll_nil r1
  obtain rfl : args = #[v0, v1] := by cases args; simp_all
  obtain ⟨rfl, rfl⟩ := trodVars_none hV
  have k0 := h0
  have lt0 : ∀ x ∈ p0, x.block < W.heap.size := by obtain ⟨m, hm⟩ := k0; exact DataW.trod_lt m _ _ _ hm
  obtain ⟨a0, len0, cap0, rfl⟩ := okWide_slice Try.underlying22 (hval 0 22 v0 rfl rfl)
  have wt0 : ∀ m ∈ d0.weights Try.prog 22, m ≤ reachBytes := fun m hm => by have := List.all_eq_true.1 hsz m (DataW.weights_mem_each (j := 0) (t := 22) rfl rfl m hm); simpa using this
  obtain ⟨l0, hr0, hl0, hc0, hy0, hw0⟩ : ∃ l : List (PN.S26), PrintWords.Kd.C (PN.k26) W a0 l.length l ∧ len0 = l.length ∧ l.length ≤ cap0 ∧ l.length * 56 ≤ 140737488351232 ∧ ∀ z ∈ l, (-9223372036854775808 ≤ z.f0 ∧ z.f0 ≤ 9223372036854775807) ∧ (-9223372036854775808 ≤ z.f1 ∧ z.f1 ≤ 9223372036854775807) ∧ (-9223372036854775808 ≤ z.f2.f0 ∧ z.f2.f0 ≤ 9223372036854775807) ∧ z.f2.f2.size ≤ 140737488351232 ∧ (-9223372036854775808 ≤ z.f2.f3 ∧ z.f2.f3 ≤ 9223372036854775807) := by
    obtain ⟨fuel, hf⟩ := h0
    obtain ⟨l, q1, q2, q3, q4, q5⟩ := open_rows (d := PN.k26) (good := fun z : PN.S26 => (-9223372036854775808 ≤ z.f0 ∧ z.f0 ≤ 9223372036854775807) ∧ (-9223372036854775808 ≤ z.f1 ∧ z.f1 ≤ 9223372036854775807) ∧ (-9223372036854775808 ≤ z.f2.f0 ∧ z.f2.f0 ≤ 9223372036854775807) ∧ z.f2.f2.size ≤ 140737488351232 ∧ (-9223372036854775808 ≤ z.f2.f3 ∧ z.f2.f3 ≤ 9223372036854775807)) (B := reachBytes) Try.underlying22 (by kernel_rfl) (fun n cs y h hw => by
      obtain ⟨x0, x1, x2, x3, x4, x5, rfl, b0, b1, b2, b3, b4⟩ := opn26 h hw
      exact ⟨(⟨x0, x1, ⟨x2, x3, x4, x5⟩⟩ : PN.S26), PN.k26_mk _ _, ⟨b0, b1, b2, b3, b4⟩⟩) hf wt0
    rw [show Try.prog.bytesOf 26 = 56 by kernel_rfl] at q4
    exact ⟨l, q1, q2, q3, Nat.le_trans q4 (by decide), q5⟩
  subst hl0
  have k1 := h1
  have lt1 : ∀ x ∈ p1, x.block < W.heap.size := by obtain ⟨m, hm⟩ := k1; exact DataW.trod_lt m _ _ _ hm
  obtain ⟨a1, len1, cap1, rfl⟩ := okWide_slice Try.underlying22 (hval 1 22 v1 rfl rfl)
  have wt1 : ∀ m ∈ d1.weights Try.prog 22, m ≤ reachBytes := fun m hm => by have := List.all_eq_true.1 hsz m (DataW.weights_mem_each (j := 1) (t := 22) rfl rfl m hm); simpa using this
  obtain ⟨l1, hr1, hl1, hc1, hy1, hw1⟩ : ∃ l : List (PN.S26), PrintWords.Kd.C (PN.k26) W a1 l.length l ∧ len1 = l.length ∧ l.length ≤ cap1 ∧ l.length * 56 ≤ 140737488351232 ∧ ∀ z ∈ l, (-9223372036854775808 ≤ z.f0 ∧ z.f0 ≤ 9223372036854775807) ∧ (-9223372036854775808 ≤ z.f1 ∧ z.f1 ≤ 9223372036854775807) ∧ (-9223372036854775808 ≤ z.f2.f0 ∧ z.f2.f0 ≤ 9223372036854775807) ∧ z.f2.f2.size ≤ 140737488351232 ∧ (-9223372036854775808 ≤ z.f2.f3 ∧ z.f2.f3 ≤ 9223372036854775807) := by
    obtain ⟨fuel, hf⟩ := h1
    obtain ⟨l, q1, q2, q3, q4, q5⟩ := open_rows (d := PN.k26) (good := fun z : PN.S26 => (-9223372036854775808 ≤ z.f0 ∧ z.f0 ≤ 9223372036854775807) ∧ (-9223372036854775808 ≤ z.f1 ∧ z.f1 ≤ 9223372036854775807) ∧ (-9223372036854775808 ≤ z.f2.f0 ∧ z.f2.f0 ≤ 9223372036854775807) ∧ z.f2.f2.size ≤ 140737488351232 ∧ (-9223372036854775808 ≤ z.f2.f3 ∧ z.f2.f3 ≤ 9223372036854775807)) (B := reachBytes) Try.underlying22 (by kernel_rfl) (fun n cs y h hw => by
      obtain ⟨x0, x1, x2, x3, x4, x5, rfl, b0, b1, b2, b3, b4⟩ := opn26 h hw
      exact ⟨(⟨x0, x1, ⟨x2, x3, x4, x5⟩⟩ : PN.S26), PN.k26_mk _ _, ⟨b0, b1, b2, b3, b4⟩⟩) hf wt1
    rw [show Try.prog.bytesOf 26 = 56 by kernel_rfl] at q4
    exact ⟨l, q1, q2, q3, Nat.le_trans q4 (by decide), q5⟩
  subst hl1
  clear hA0 hval0 hsz0 hsz
  obtain ⟨kr, hk⟩ := Pure.SessionPlays l0 l1 hy0 hw0 hy1 hw1
  refine (PN.glebelaw09_SessionPlays.calls kr a0 cap0 l0 a1 cap1 l1 true W hr0 hc0 hr1 hc1 hk).mono fun e W' ⟨he, bel0⟩ => ?_
  subst he
  have bel : Below W.heap.size W W' := bel0
  exact ⟨_, rfl, _, _, _, [], _, [], hW', trodAll_mk1 (shut_bool Try.underlying4 _), (trodAll_cons_mk (Below.trod laidOut (by kernel_rfl) (of_decide_eq_true (by kernel_rfl)) k0 bel lt0) (trodAll_cons_mk (Below.trod laidOut (by kernel_rfl) (of_decide_eq_true (by kernel_rfl)) k1 bel lt1) trodAll_mk0)), rfl, bel.frame _, fun h => by cases h⟩
theorem over : Rows.sessionPlaysRow.holds Try.pinned (OpenSpec.ofChange Rows.sessionPlaysSpec) :=
  OpenClaim.holds_of_wide 5 Try.f5 rfl rfl rfl rfl rfl rfl rfl ⟨rfl, rfl, rfl, rfl, rfl⟩ rfl rfl rfl rfl rfl (by kernel_rfl) Try.func5 (by kernel_rfl)
    (of_decide_eq_true (by kernel_rfl)) (by unfold Func.isWrapper; first | (rw [if_pos (by decide +kernel)]; kernel_rfl) | (rw [if_neg (by decide +kernel)]; exact ⟨rfl, rfl⟩))
    (fun os started H enc _ => lifted os started H enc)
theorem proved : Rows.SessionPlaysSaid := over
#print axioms proved
end Go.Proofs.Ytlfnfgoocliecaa.sessionPlays
namespace Go.Proofs.Ytlfnfgoocliecaa
/-- The row, under a short name, for the claim. -/
theorem sessionPlays_holds : Rows.SessionPlaysSaid := sessionPlays.proved
end Go.Proofs.Ytlfnfgoocliecaa
