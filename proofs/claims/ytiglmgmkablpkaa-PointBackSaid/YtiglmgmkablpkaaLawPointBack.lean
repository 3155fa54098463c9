/- For every input the law PointBack returns true and leaves its arguments as they were: the row, out of its pure statement and the walk's contract. -/
import Derived.Test.YtiglmgmkablpkaaRows
import Derived.Test.YtiglmgmkablpkaaPKx7
import Derived.Test.YtiglmgmkablpkaaPurePointBack
import Derived.Test.YtiglmgmkablpkaaOp
import Derived.Test.YtiglmgmkablpkaaWWords
import Derived.WalkKit
import Derived.ProofKit
import Derived.OpenShut
import Derived.ShutString
import Derived.ChangeOld
import Derived.Below
import Derived.SizedLaws
namespace Go.Proofs.Ytiglmgmkablpkaa.pointBack
open Go.ChangeShapes Go.WideShapes Go.ChangeAt Go.RowKit Go.Proofs.Ytiglmgmkablpkaa.Op Go.Proofs.YtiglmgmkablpkaaW
open Go.Proofs.YtiglmgmkablpkaaW.PrintWords (Drawn0.below)
open Go.ChangeMaps (open_string shut_string)
set_option linter.unusedVariables false
theorem own : ownKnob Try.prog.godebug = none := by kernel_rfl
theorem laidOut : laidOutB Try.prog = true := by kernel_rfl
def IsRow (k : IntKind) (w : World) (a : Option Addr) (len cap : Nat) (zs : List Int) : Prop :=
  (a = none ∧ len = 0 ∧ cap = 0 ∧ zs = []) ∨
  ∃ x, a = some x ∧ len ≤ cap ∧ cap ≤ maxLen ∧ zs.length = cap ∧ (∀ i, i < zs.length → w.cell? (x.add i) = some (.int k (zs.getD i 0))) ∧ ∀ n ∈ zs, (Lit.int k n).wf = true
theorem isRow_C {k : IntKind} {w : World} {a : Option Addr} {len cap : Nat} {zs : List Int} (h : IsRow k w a len cap zs) : ∃ l : List Int, PrintWords.Kd.C (PrintWords.Kd.int k) w a l.length l ∧ len = l.length ∧ l.length ≤ cap ∧ ∀ z ∈ l, (Lit.int k z).wf = true := by
  rcases h with ⟨rfl, rfl, rfl, rfl⟩ | ⟨x, rfl, hl, hm, hz, hcell, hw⟩
  · exact ⟨[], ⟨rfl, by simp, fun hp => absurd hp (by simp)⟩, rfl, Nat.le_refl _, fun z hz => by cases hz⟩
  · have hlen : (zs.take len).length = len := by rw [List.length_take]; omega
    have hmax : maxLen = 9223372036854775807 := by decide
    refine ⟨zs.take len, ?_, hlen.symm, by rw [hlen]; exact hl, fun z hz => hw z (List.mem_of_mem_take hz)⟩
    refine PrintWords.Kd.C_of_reads (d := (0 : Int)) (h1 := fun _ => rfl) ⟨rfl, by omega, fun _ => ⟨x, rfl, fun j hj => ?_⟩⟩
    rw [hcell j (by omega)]
    have e : (zs.take len).getD j 0 = zs.getD j 0 := by
      rw [List.getD_eq_getElem?_getD, List.getD_eq_getElem?_getD, List.getElem?_take_of_lt (by omega)]
    rw [e]
theorem opn30 {H : Type} {enc : TypeId × Value → H} {w : World} {fuel : Nat} {cs : List Value} {y : DataW H × List MemPlace}
    (h : DataW.trod enc Try.prog w 0 (fun _ => true) true fuel 30 cs = some y) (hw : ∀ m ∈ y.1.weights Try.prog 30, m ≤ reachBytes) :
    ∃ (x0 : Int) (x1 : Int), cs = [.int .i64 x0, .int .i64 x1] ∧ (-9223372036854775808 ≤ x0 ∧ x0 ≤ 9223372036854775807) ∧ (-9223372036854775808 ≤ x1 ∧ x1 ≤ 9223372036854775807) := by
  obtain ⟨hl, n, ys, hy, hf⟩ := trod_fields Try.underlying30 h
  rw [show Try.prog.cellsOf 30 = 2 by kernel_rfl] at hl
  obtain ⟨c0, c1, rfl⟩ : ∃ c0 c1, cs = [c0, c1] := by
    match cs, hl with
    | [c0, c1], _ => exact ⟨_, _, rfl⟩
  obtain ⟨z0, hz0, hf0⟩ := hf 0 _ 1 rfl (by kernel_rfl)
  have hw0 := weights_at Try.underlying30 hy hw (i := 0) rfl hz0
  replace hf0 : DataW.trod enc Try.prog w 0 (fun _ => true) true n 3 [c0] = some z0 := hf0
  obtain ⟨y0, rfl, b0⟩ := leaf_int Try.underlying3 hf0
  obtain ⟨z1, hz1, hf1⟩ := hf 1 _ 1 rfl (by kernel_rfl)
  have hw1 := weights_at Try.underlying30 hy hw (i := 1) rfl hz1
  replace hf1 : DataW.trod enc Try.prog w 0 (fun _ => true) true n 3 [c1] = some z1 := hf1
  obtain ⟨y1, rfl, b1⟩ := leaf_int Try.underlying3 hf1
  exact ⟨y0, y1, rfl, bounds_i64 b0, bounds_i64 b1⟩
theorem opn32 {H : Type} {enc : TypeId × Value → H} {w : World} {fuel : Nat} {cs : List Value} {y : DataW H × List MemPlace}
    (h : DataW.trod enc Try.prog w 0 (fun _ => true) true fuel 32 cs = some y) (hw : ∀ m ∈ y.1.weights Try.prog 32, m ≤ reachBytes) :
    ∃ (x0 : Int) (x1 : Int) (x2 : ByteArray) (x3 : ByteArray) (x4 : Int), cs = [.int .i64 x0, .int .i64 x1, .string x2, .string x3, .int .i64 x4] ∧ (-9223372036854775808 ≤ x0 ∧ x0 ≤ 9223372036854775807) ∧ (-9223372036854775808 ≤ x1 ∧ x1 ≤ 9223372036854775807) ∧ x2.size ≤ 140737488351232 ∧ x3.size ≤ 140737488351232 ∧ (-9223372036854775808 ≤ x4 ∧ x4 ≤ 9223372036854775807) := by
  obtain ⟨hl, n, ys, hy, hf⟩ := trod_fields Try.underlying32 h
  rw [show Try.prog.cellsOf 32 = 5 by kernel_rfl] at hl
  obtain ⟨c0, c1, c2, c3, c4, rfl⟩ : ∃ c0 c1 c2 c3 c4, cs = [c0, c1, c2, c3, c4] := by
    match cs, hl with
    | [c0, c1, c2, c3, c4], _ => exact ⟨_, _, _, _, _, rfl⟩
  obtain ⟨z0, hz0, hf0⟩ := hf 0 _ 2 rfl (by kernel_rfl)
  have hw0 := weights_at Try.underlying32 hy hw (i := 0) rfl hz0
  replace hf0 : DataW.trod enc Try.prog w 0 (fun _ => true) true n 30 [c0, c1] = some z0 := hf0
  obtain ⟨y0_0, y0_1, e0, b0_0, b0_1⟩ := opn30 hf0 hw0
  simp only [List.cons.injEq, and_true] at e0
  obtain ⟨rfl, rfl⟩ := e0
  obtain ⟨z1, hz1, hf1⟩ := hf 1 _ 1 rfl (by kernel_rfl)
  have hw1 := weights_at Try.underlying32 hy hw (i := 1) rfl hz1
  replace hf1 : DataW.trod enc Try.prog w 0 (fun _ => true) true n 9 [c2] = some z1 := hf1
  obtain ⟨y1, rfl, b1⟩ := leaf_string Try.underlying9 hf1 hw1
  obtain ⟨z2, hz2, hf2⟩ := hf 2 _ 1 rfl (by kernel_rfl)
  have hw2 := weights_at Try.underlying32 hy hw (i := 2) rfl hz2
  replace hf2 : DataW.trod enc Try.prog w 0 (fun _ => true) true n 9 [c3] = some z2 := hf2
  obtain ⟨y2, rfl, b2⟩ := leaf_string Try.underlying9 hf2 hw2
  obtain ⟨z3, hz3, hf3⟩ := hf 3 _ 1 rfl (by kernel_rfl)
  have hw3 := weights_at Try.underlying32 hy hw (i := 3) rfl hz3
  replace hf3 : DataW.trod enc Try.prog w 0 (fun _ => true) true n 3 [c4] = some z3 := hf3
  obtain ⟨y3, rfl, b3⟩ := leaf_int Try.underlying3 hf3
  exact ⟨y0_0, y0_1, y1, y2, y3, rfl, b0_0, b0_1, b1, b2, bounds_i64 b3⟩
theorem opn44 {H : Type} {enc : TypeId × Value → H} {w : World} {fuel : Nat} {cs : List Value} {y : DataW H × List MemPlace}
    (h : DataW.trod enc Try.prog w 0 (fun _ => true) true fuel 44 cs = some y) (hw : ∀ m ∈ y.1.weights Try.prog 44, m ≤ reachBytes) :
    ∃ (x0 : Int) (x1 : Int) (x2 : Int) (x3 : ByteArray) (x4 : ByteArray) (x5 : Int) (x6 : Int), cs = [.int .i64 x0, .int .i64 x1, .int .i64 x2, .string x3, .string x4, .int .i64 x5, .int .i64 x6] ∧ (-9223372036854775808 ≤ x0 ∧ x0 ≤ 9223372036854775807) ∧ (-9223372036854775808 ≤ x1 ∧ x1 ≤ 9223372036854775807) ∧ (-9223372036854775808 ≤ x2 ∧ x2 ≤ 9223372036854775807) ∧ x3.size ≤ 140737488351232 ∧ x4.size ≤ 140737488351232 ∧ (-9223372036854775808 ≤ x5 ∧ x5 ≤ 9223372036854775807) ∧ (-9223372036854775808 ≤ x6 ∧ x6 ≤ 9223372036854775807) := by
  obtain ⟨hl, n, ys, hy, hf⟩ := trod_fields Try.underlying44 h
  rw [show Try.prog.cellsOf 44 = 7 by kernel_rfl] at hl
  obtain ⟨c0, c1, c2, c3, c4, c5, c6, rfl⟩ : ∃ c0 c1 c2 c3 c4 c5 c6, cs = [c0, c1, c2, c3, c4, c5, c6] := by
    match cs, hl with
    | [c0, c1, c2, c3, c4, c5, c6], _ => exact ⟨_, _, _, _, _, _, _, rfl⟩
  obtain ⟨z0, hz0, hf0⟩ := hf 0 _ 1 rfl (by kernel_rfl)
  have hw0 := weights_at Try.underlying44 hy hw (i := 0) rfl hz0
  replace hf0 : DataW.trod enc Try.prog w 0 (fun _ => true) true n 3 [c0] = some z0 := hf0
  obtain ⟨y0, rfl, b0⟩ := leaf_int Try.underlying3 hf0
  obtain ⟨z1, hz1, hf1⟩ := hf 1 _ 2 rfl (by kernel_rfl)
  have hw1 := weights_at Try.underlying44 hy hw (i := 1) rfl hz1
  replace hf1 : DataW.trod enc Try.prog w 0 (fun _ => true) true n 30 [c1, c2] = some z1 := hf1
  obtain ⟨y1_0, y1_1, e1, b1_0, b1_1⟩ := opn30 hf1 hw1
  simp only [List.cons.injEq, and_true] at e1
  obtain ⟨rfl, rfl⟩ := e1
  obtain ⟨z2, hz2, hf2⟩ := hf 2 _ 1 rfl (by kernel_rfl)
  have hw2 := weights_at Try.underlying44 hy hw (i := 2) rfl hz2
  replace hf2 : DataW.trod enc Try.prog w 0 (fun _ => true) true n 9 [c3] = some z2 := hf2
  obtain ⟨y2, rfl, b2⟩ := leaf_string Try.underlying9 hf2 hw2
  obtain ⟨z3, hz3, hf3⟩ := hf 3 _ 1 rfl (by kernel_rfl)
  have hw3 := weights_at Try.underlying44 hy hw (i := 3) rfl hz3
  replace hf3 : DataW.trod enc Try.prog w 0 (fun _ => true) true n 9 [c4] = some z3 := hf3
  obtain ⟨y3, rfl, b3⟩ := leaf_string Try.underlying9 hf3 hw3
  obtain ⟨z4, hz4, hf4⟩ := hf 4 _ 1 rfl (by kernel_rfl)
  have hw4 := weights_at Try.underlying44 hy hw (i := 4) rfl hz4
  replace hf4 : DataW.trod enc Try.prog w 0 (fun _ => true) true n 3 [c5] = some z4 := hf4
  obtain ⟨y4, rfl, b4⟩ := leaf_int Try.underlying3 hf4
  obtain ⟨z5, hz5, hf5⟩ := hf 5 _ 1 rfl (by kernel_rfl)
  have hw5 := weights_at Try.underlying44 hy hw (i := 5) rfl hz5
  replace hf5 : DataW.trod enc Try.prog w 0 (fun _ => true) true n 3 [c6] = some z5 := hf5
  obtain ⟨y5, rfl, b5⟩ := leaf_int Try.underlying3 hf5
  exact ⟨y0, y1_0, y1_1, y2, y3, y4, y5, rfl, bounds_i64 b0, b1_0, b1_1, b2, b3, bounds_i64 b4, bounds_i64 b5⟩
theorem opn50 {H : Type} {enc : TypeId × Value → H} {w : World} {fuel : Nat} {cs : List Value} {y : DataW H × List MemPlace}
    (h : DataW.trod enc Try.prog w 0 (fun _ => true) true fuel 50 cs = some y) (hw : ∀ m ∈ y.1.weights Try.prog 50, m ≤ reachBytes) :
    ∃ (x0 : Int) (x1 : Bool) (x2 : ByteArray) (x3 : Int), cs = [.int .i64 x0, .bool x1, .string x2, .int .i64 x3] ∧ (-9223372036854775808 ≤ x0 ∧ x0 ≤ 9223372036854775807) ∧ x2.size ≤ 140737488351232 ∧ (-9223372036854775808 ≤ x3 ∧ x3 ≤ 9223372036854775807) := by
  obtain ⟨hl, n, ys, hy, hf⟩ := trod_fields Try.underlying50 h
  rw [show Try.prog.cellsOf 50 = 4 by kernel_rfl] at hl
  obtain ⟨c0, c1, c2, c3, rfl⟩ : ∃ c0 c1 c2 c3, cs = [c0, c1, c2, c3] := by
    match cs, hl with
    | [c0, c1, c2, c3], _ => exact ⟨_, _, _, _, rfl⟩
  obtain ⟨z0, hz0, hf0⟩ := hf 0 _ 1 rfl (by kernel_rfl)
  have hw0 := weights_at Try.underlying50 hy hw (i := 0) rfl hz0
  replace hf0 : DataW.trod enc Try.prog w 0 (fun _ => true) true n 3 [c0] = some z0 := hf0
  obtain ⟨y0, rfl, b0⟩ := leaf_int Try.underlying3 hf0
  obtain ⟨z1, hz1, hf1⟩ := hf 1 _ 1 rfl (by kernel_rfl)
  have hw1 := weights_at Try.underlying50 hy hw (i := 1) rfl hz1
  replace hf1 : DataW.trod enc Try.prog w 0 (fun _ => true) true n 4 [c1] = some z1 := hf1
  obtain ⟨y1, rfl⟩ := leaf_bool Try.underlying4 hf1
  obtain ⟨z2, hz2, hf2⟩ := hf 2 _ 1 rfl (by kernel_rfl)
  have hw2 := weights_at Try.underlying50 hy hw (i := 2) rfl hz2
  replace hf2 : DataW.trod enc Try.prog w 0 (fun _ => true) true n 9 [c2] = some z2 := hf2
  obtain ⟨y2, rfl, b2⟩ := leaf_string Try.underlying9 hf2 hw2
  obtain ⟨z3, hz3, hf3⟩ := hf 3 _ 1 rfl (by kernel_rfl)
  have hw3 := weights_at Try.underlying50 hy hw (i := 3) rfl hz3
  replace hf3 : DataW.trod enc Try.prog w 0 (fun _ => true) true n 3 [c3] = some z3 := hf3
  obtain ⟨y3, rfl, b3⟩ := leaf_int Try.underlying3 hf3
  exact ⟨y0, y1, y2, y3, rfl, bounds_i64 b0, b2, bounds_i64 b3⟩
set_option maxRecDepth 100000 in
theorem lifted (os : Os) (started : os.Started) (H : Type) (enc : TypeId × Value → H) :
    ReturnsInHanded {} Try.checked os 4 .any (Rows.pointBackSpec.pre6 enc Try.prog Try.f4 Rows.pointBackRow.domain false) (Rows.pointBackSpec.post enc Try.prog Try.f4 false true false false) := by
  refine returnsInHanded_of_change_sized (C := Try.checked) own started (by kernel_rfl) Try.func4
    (ChangeSpec.witness6 (enc := enc) (C := Try.checked) false ⟨#[], #[.agg #[.int .i64 0, .int .i64 0, .string ByteArray.empty, .string ByteArray.empty, .int .i64 0], .agg #[.int .i64 0, .int .i64 0, .int .i64 0, .string ByteArray.empty, .string ByteArray.empty, .int .i64 0, .int .i64 0], .agg #[.int .i64 0, .bool false, .string ByteArray.empty, .int .i64 0], .slice none 0 0], []⟩ 8 (by kernel_rfl) (by kernel_rfl) (by kernel_rfl) (by kernel_rfl)) ?_
  intro W base args ds gs before hval0 hW hcnd hsz0 _
  have hsz : (DataW.weightsEach Try.prog (Try.f4.params.toList ++ Rows.pointBackSpec.plain.varTypes Try.prog) (ds ++ gs)).all (· ≤ reachBytes) = true := hsz0
  have hval : ∀ (j : Nat) t v, Try.f4.params[j]? = some t → args[j]? = some v → Value.okWide Try.prog W .any base t v := hval0
  have hW' := hW
  obtain ⟨p, q, hA0, hV, rfl, hfz, hnd⟩ := hW
  have hA : DataW.TrodAll enc Try.prog W 0 (fun _ => true) true Try.f4.params.toList args.toList ds p := hA0
  rw [Try.params4] at hA hval hsz
  obtain ⟨v0, vs0, d0, ds0, p0, q0, hargs, rfl, rfl, h0, r0⟩ := trodAll_cons hA
  obtain ⟨v1, vs1, d1, ds1, p1, q1, rfl, rfl, rfl, h1, r1⟩ := trodAll_cons r0
  obtain ⟨v2, vs2, d2, ds2, p2, q2, rfl, rfl, rfl, h2, r2⟩ := trodAll_cons r1
  obtain ⟨v3, vs3, d3, ds3, p3, q3, rfl, rfl, rfl, h3, r3⟩ := trodAll_cons r2
  obtain ⟨rfl, rfl, rfl⟩ := trodAll_nil r3
  obtain rfl : args = #[v0, v1, v2, v3] := by cases args; simp_all
  obtain ⟨rfl, rfl⟩ := trodVars_none hV
  have k0 := h0
  have lt0 : ∀ x ∈ p0, x.block < W.heap.size := by obtain ⟨m, hm⟩ := k0; exact DataW.trod_lt m _ _ _ hm
  obtain ⟨cs0, fu0, rfl, hc0⟩ := agg_of Try.underlying32 (hval 0 32 v0 rfl rfl) h0
  have wt0 : ∀ m ∈ d0.weights Try.prog 32, m ≤ reachBytes := fun m hm => by have := List.all_eq_true.1 hsz m (DataW.weights_mem_each (j := 0) (t := 32) rfl rfl m hm); simpa using this
  obtain ⟨a0_0, a0_1, a0_2, a0_3, a0_4, rfl, w0_0, w0_1, w0_2, w0_3, w0_4⟩ := opn32 hc0 wt0
  have k1 := h1
  have lt1 : ∀ x ∈ p1, x.block < W.heap.size := by obtain ⟨m, hm⟩ := k1; exact DataW.trod_lt m _ _ _ hm
  obtain ⟨cs1, fu1, rfl, hc1⟩ := agg_of Try.underlying44 (hval 1 44 v1 rfl rfl) h1
  have wt1 : ∀ m ∈ d1.weights Try.prog 44, m ≤ reachBytes := fun m hm => by have := List.all_eq_true.1 hsz m (DataW.weights_mem_each (j := 1) (t := 44) rfl rfl m hm); simpa using this
  obtain ⟨a1_0, a1_1, a1_2, a1_3, a1_4, a1_5, a1_6, rfl, w1_0, w1_1, w1_2, w1_3, w1_4, w1_5, w1_6⟩ := opn44 hc1 wt1
  have k2 := h2
  have lt2 : ∀ x ∈ p2, x.block < W.heap.size := by obtain ⟨m, hm⟩ := k2; exact DataW.trod_lt m _ _ _ hm
  obtain ⟨cs2, fu2, rfl, hc2⟩ := agg_of Try.underlying50 (hval 2 50 v2 rfl rfl) h2
  have wt2 : ∀ m ∈ d2.weights Try.prog 50, m ≤ reachBytes := fun m hm => by have := List.all_eq_true.1 hsz m (DataW.weights_mem_each (j := 2) (t := 50) rfl rfl m hm); simpa using this
  obtain ⟨a2_0, a2_1, a2_2, a2_3, rfl, w2_0, w2_1, w2_2⟩ := opn50 hc2 wt2
  have k3 := h3
  have lt3 : ∀ x ∈ p3, x.block < W.heap.size := by obtain ⟨m, hm⟩ := k3; exact DataW.trod_lt m _ _ _ hm
  obtain ⟨a3, len3, cap3, rfl⟩ := okWide_slice Try.underlying22 (hval 3 22 v3 rfl rfl)
  obtain ⟨z3, w3⟩ : ∃ zs, IsRow .u8 W a3 len3 cap3 zs := by
    obtain ⟨fuel, hf⟩ := h3
    rcases open_ints Try.underlying22 Try.underlying5 (by kernel_rfl) hf with ⟨hcs, _⟩ | ⟨x, l, c, zs, hcs, _, hl, hm, hz, _, hcell, hwz⟩
    · simp [Value.cells] at hcs
      obtain ⟨rfl, rfl, rfl⟩ := hcs
      exact ⟨[], .inl ⟨rfl, rfl, rfl, rfl⟩⟩
    · simp [Value.cells] at hcs
      obtain ⟨rfl, rfl, rfl⟩ := hcs
      exact ⟨zs, .inr ⟨_, rfl, hl, hm, by simpa using hz, hcell, hwz⟩⟩
  have y3 : len3 * 1 ≤ 140737488351232 := PrintWords.sized_ints hsz (j := 3) (t := 22) rfl rfl Try.underlying22 Try.underlying5 (by kernel_rfl) (by kernel_rfl) h3
  obtain ⟨l3, hr3, hl3, hc3, hw3⟩ : ∃ l : List Int, PrintWords.Kd.C (PrintWords.Kd.int .u8) W a3 l.length l ∧ len3 = l.length ∧ l.length ≤ cap3 ∧ ∀ z ∈ l, (Lit.int .u8 z).wf = true := isRow_C w3
  subst hl3
  clear hA0 hval0 hsz0 hsz
  obtain ⟨kr, hk⟩ := Pure.PointBack a0_0 a0_1 a0_2 a0_3 a0_4 a1_0 a1_1 a1_2 a1_3 a1_4 a1_5 a1_6 a2_0 a2_1 a2_2 a2_3 l3 w0_0 w0_1 w0_2 w0_3 w0_4 w1_0 w1_1 w1_2 w1_3 w1_4 w1_5 w1_6 w2_0 w2_1 w2_2 y3 hw3
  refine (PK.glebelaw07_PointBack.calls kr a0_0 a0_1 a0_2 a0_3 a0_4 a1_0 a1_1 a1_2 a1_3 a1_4 a1_5 a1_6 a2_0 a2_1 a2_2 a2_3 a3 cap3 l3 true W hr3 hc3 hk).mono fun e W' ⟨he, bel0⟩ => ?_
  subst he
  have bel : Below W.heap.size W W' := bel0
  exact ⟨_, rfl, _, _, _, [], _, [], hW', trodAll_mk1 (shut_bool Try.underlying4 _), (trodAll_cons_mk (Below.trod laidOut (by kernel_rfl) (of_decide_eq_true (by kernel_rfl)) k0 bel lt0) (trodAll_cons_mk (Below.trod laidOut (by kernel_rfl) (of_decide_eq_true (by kernel_rfl)) k1 bel lt1) (trodAll_cons_mk (Below.trod laidOut (by kernel_rfl) (of_decide_eq_true (by kernel_rfl)) k2 bel lt2) (trodAll_cons_mk (Below.trod laidOut (by kernel_rfl) (of_decide_eq_true (by kernel_rfl)) k3 bel lt3) trodAll_mk0)))), rfl, bel.frame _, fun h => by cases h⟩
theorem over : Rows.pointBackRow.holds Try.pinned (OpenSpec.ofChange Rows.pointBackSpec) :=
  OpenClaim.holds_of_wide 4 Try.f4 rfl rfl rfl rfl rfl rfl rfl ⟨rfl, rfl, rfl, rfl, rfl⟩ rfl rfl rfl rfl rfl (by kernel_rfl) Try.func4 (by kernel_rfl)
    (of_decide_eq_true (by kernel_rfl)) (by unfold Func.isWrapper; first | (rw [if_pos (by decide +kernel)]; kernel_rfl) | (rw [if_neg (by decide +kernel)]; exact ⟨rfl, rfl⟩))
    (fun os started H enc _ => lifted os started H enc)
theorem proved : Rows.PointBackSaid := over
#print axioms proved
end Go.Proofs.Ytiglmgmkablpkaa.pointBack
namespace Go.Proofs.Ytiglmgmkablpkaa
/-- The row, under a short name, for the claim. -/
theorem pointBack_holds : Rows.PointBackSaid := pointBack.proved
end Go.Proofs.Ytiglmgmkablpkaa
