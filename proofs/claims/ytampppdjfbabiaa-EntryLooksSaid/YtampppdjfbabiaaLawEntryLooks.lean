/- For every input the law EntryLooks returns true and leaves its arguments as they were: the row, out of its pure statement and the walk's contract. -/
import Derived.Test.YtampppdjfbabiaaRows
import Derived.Test.YtampppdjfbabiaaPEx4
import Derived.Test.YtampppdjfbabiaaPureEntryLooks
import Derived.Test.YtampppdjfbabiaaOp
import Derived.Test.YtampppdjfbabiaaWWords
import Derived.WalkKit
import Derived.ProofKit
import Derived.OpenShut
import Derived.ShutString
import Derived.ChangeOld
import Derived.Below
import Derived.SizedLaws
namespace Go.Proofs.Ytampppdjfbabiaa.entryLooks
open Go.ChangeShapes Go.WideShapes Go.ChangeAt Go.RowKit Go.Proofs.Ytampppdjfbabiaa.Op Go.Proofs.YtampppdjfbabiaaW
open Go.Proofs.YtampppdjfbabiaaW.PrintWords (Drawn0.below)
open Go.ChangeMaps (open_string shut_string)
set_option linter.unusedVariables false
theorem own : ownKnob Try.prog.godebug = none := by kernel_rfl
theorem laidOut : laidOutB Try.prog = true := by kernel_rfl
def IsRow (k : IntKind) (w : World) (a : Option Addr) (len cap : Nat) (zs : List Int) : Prop :=
  (a = none ∧ len = 0 ∧ cap = 0 ∧ zs = []) ∨
  ∃ x, a = some x ∧ len ≤ cap ∧ cap ≤ maxLen ∧ zs.length = cap ∧ (∀ i, i < zs.length → w.cell? (x.add i) = some (.int k (zs.getD i 0))) ∧ ∀ n ∈ zs, (Lit.int k n).wf = true
theorem isRow_C {k : IntKind} {w : World} {a : Option Addr} {len cap : Nat} {zs : List Int} (h : IsRow k w a len cap zs) : ∃ l : List Int, PrintWords.Kd.C (PrintWords.Kd.int k) w a l.length l ∧ len = l.length ∧ l.length ≤ cap ∧ ∀ z ∈ l, (Lit.int k z).wf = true := by
  rcases h with ⟨rfl, rfl, rfl, rfl⟩ | ⟨x, rfl, hl, hm, hz, hcell, hw⟩
  · exact ⟨[], ⟨rfl, by simp, fun hp => absurd hp (by simp)⟩, rfl, Nat.le_refl _, fun z hz => by cases hz⟩
  · have hlen : (zs.take len).length = len := by rw [List.length_take]; omega
    have hmax : maxLen = 9223372036854775807 := by decide
    refine ⟨zs.take len, ?_, hlen.symm, by rw [hlen]; exact hl, fun z hz => hw z (List.mem_of_mem_take hz)⟩
    refine PrintWords.Kd.C_of_reads (d := (0 : Int)) (h1 := fun _ => rfl) ⟨rfl, by omega, fun _ => ⟨x, rfl, fun j hj => ?_⟩⟩
    rw [hcell j (by omega)]
    have e : (zs.take len).getD j 0 = zs.getD j 0 := by
      rw [List.getD_eq_getElem?_getD, List.getD_eq_getElem?_getD, List.getElem?_take_of_lt (by omega)]
    rw [e]
theorem opn23 {H : Type} {enc : TypeId × Value → H} {w : World} {fuel : Nat} {cs : List Value} {y : DataW H × List MemPlace}
    (h : DataW.trod enc Try.prog w 0 (fun _ => true) true fuel 23 cs = some y) (hw : ∀ m ∈ y.1.weights Try.prog 23, m ≤ reachBytes) :
    ∃ (x0 : Int) (x1 : Int), cs = [.int .i64 x0, .int .i64 x1] ∧ (-9223372036854775808 ≤ x0 ∧ x0 ≤ 9223372036854775807) ∧ (-9223372036854775808 ≤ x1 ∧ x1 ≤ 9223372036854775807) := by
  obtain ⟨hl, n, ys, hy, hf⟩ := trod_fields Try.underlying23 h
  rw [show Try.prog.cellsOf 23 = 2 by kernel_rfl] at hl
  obtain ⟨c0, c1, rfl⟩ : ∃ c0 c1, cs = [c0, c1] := by
    match cs, hl with
    | [c0, c1], _ => exact ⟨_, _, rfl⟩
  obtain ⟨z0, hz0, hf0⟩ := hf 0 _ 1 rfl (by kernel_rfl)
  have hw0 := weights_at Try.underlying23 hy hw (i := 0) rfl hz0
  replace hf0 : DataW.trod enc Try.prog w 0 (fun _ => true) true n 3 [c0] = some z0 := hf0
  obtain ⟨y0, rfl, b0⟩ := leaf_int Try.underlying3 hf0
  obtain ⟨z1, hz1, hf1⟩ := hf 1 _ 1 rfl (by kernel_rfl)
  have hw1 := weights_at Try.underlying23 hy hw (i := 1) rfl hz1
  replace hf1 : DataW.trod enc Try.prog w 0 (fun _ => true) true n 3 [c1] = some z1 := hf1
  obtain ⟨y1, rfl, b1⟩ := leaf_int Try.underlying3 hf1
  exact ⟨y0, y1, rfl, bounds_i64 b0, bounds_i64 b1⟩
theorem opn25 {H : Type} {enc : TypeId × Value → H} {w : World} {fuel : Nat} {cs : List Value} {y : DataW H × List MemPlace}
    (h : DataW.trod enc Try.prog w 0 (fun _ => true) true fuel 25 cs = some y) (hw : ∀ m ∈ y.1.weights Try.prog 25, m ≤ reachBytes) :
    ∃ (x0 : Int) (x1 : Int) (x2 : Int) (x3 : ByteArray) (x4 : ByteArray) (x5 : Int) (x6 : Int), cs = [.int .i64 x0, .int .i64 x1, .int .i64 x2, .string x3, .string x4, .int .i64 x5, .int .i64 x6] ∧ (-9223372036854775808 ≤ x0 ∧ x0 ≤ 9223372036854775807) ∧ (-9223372036854775808 ≤ x1 ∧ x1 ≤ 9223372036854775807) ∧ (-9223372036854775808 ≤ x2 ∧ x2 ≤ 9223372036854775807) ∧ x3.size ≤ 140737488351232 ∧ x4.size ≤ 140737488351232 ∧ (-9223372036854775808 ≤ x5 ∧ x5 ≤ 9223372036854775807) ∧ (-9223372036854775808 ≤ x6 ∧ x6 ≤ 9223372036854775807) := by
  obtain ⟨hl, n, ys, hy, hf⟩ := trod_fields Try.underlying25 h
  rw [show Try.prog.cellsOf 25 = 7 by kernel_rfl] at hl
  obtain ⟨c0, c1, c2, c3, c4, c5, c6, rfl⟩ : ∃ c0 c1 c2 c3 c4 c5 c6, cs = [c0, c1, c2, c3, c4, c5, c6] := by
    match cs, hl with
    | [c0, c1, c2, c3, c4, c5, c6], _ => exact ⟨_, _, _, _, _, _, _, rfl⟩
  obtain ⟨z0, hz0, hf0⟩ := hf 0 _ 1 rfl (by kernel_rfl)
  have hw0 := weights_at Try.underlying25 hy hw (i := 0) rfl hz0
  replace hf0 : DataW.trod enc Try.prog w 0 (fun _ => true) true n 3 [c0] = some z0 := hf0
  obtain ⟨y0, rfl, b0⟩ := leaf_int Try.underlying3 hf0
  obtain ⟨z1, hz1, hf1⟩ := hf 1 _ 2 rfl (by kernel_rfl)
  have hw1 := weights_at Try.underlying25 hy hw (i := 1) rfl hz1
  replace hf1 : DataW.trod enc Try.prog w 0 (fun _ => true) true n 23 [c1, c2] = some z1 := hf1
  obtain ⟨y1_0, y1_1, e1, b1_0, b1_1⟩ := opn23 hf1 hw1
  simp only [List.cons.injEq, and_true] at e1
  obtain ⟨rfl, rfl⟩ := e1
  obtain ⟨z2, hz2, hf2⟩ := hf 2 _ 1 rfl (by kernel_rfl)
  have hw2 := weights_at Try.underlying25 hy hw (i := 2) rfl hz2
  replace hf2 : DataW.trod enc Try.prog w 0 (fun _ => true) true n 9 [c3] = some z2 := hf2
  obtain ⟨y2, rfl, b2⟩ := leaf_string Try.underlying9 hf2 hw2
  obtain ⟨z3, hz3, hf3⟩ := hf 3 _ 1 rfl (by kernel_rfl)
  have hw3 := weights_at Try.underlying25 hy hw (i := 3) rfl hz3
  replace hf3 : DataW.trod enc Try.prog w 0 (fun _ => true) true n 9 [c4] = some z3 := hf3
  obtain ⟨y3, rfl, b3⟩ := leaf_string Try.underlying9 hf3 hw3
  obtain ⟨z4, hz4, hf4⟩ := hf 4 _ 1 rfl (by kernel_rfl)
  have hw4 := weights_at Try.underlying25 hy hw (i := 4) rfl hz4
  replace hf4 : DataW.trod enc Try.prog w 0 (fun _ => true) true n 3 [c5] = some z4 := hf4
  obtain ⟨y4, rfl, b4⟩ := leaf_int Try.underlying3 hf4
  obtain ⟨z5, hz5, hf5⟩ := hf 5 _ 1 rfl (by kernel_rfl)
  have hw5 := weights_at Try.underlying25 hy hw (i := 5) rfl hz5
  replace hf5 : DataW.trod enc Try.prog w 0 (fun _ => true) true n 3 [c6] = some z5 := hf5
  obtain ⟨y5, rfl, b5⟩ := leaf_int Try.underlying3 hf5
  exact ⟨y0, y1_0, y1_1, y2, y3, y4, y5, rfl, bounds_i64 b0, b1_0, b1_1, b2, b3, bounds_i64 b4, bounds_i64 b5⟩
theorem opn28 {H : Type} {enc : TypeId × Value → H} {w : World} {fuel : Nat} {cs : List Value} {y : DataW H × List MemPlace}
    (h : DataW.trod enc Try.prog w 0 (fun _ => true) true fuel 28 cs = some y) (hw : ∀ m ∈ y.1.weights Try.prog 28, m ≤ reachBytes) :
    ∃ (x0 : Int) (x1 : Int) (x2 : Int) (x3 : Int) (x4 : ByteArray) (x5 : ByteArray) (x6 : Int) (x7 : Int) (x8 : Int) (x9 : Int) (x10 : Int) (Ax11 : Option Addr) (Cx11 : Nat) (x11 : List Int), cs = [.int .i64 x0, .int .i64 x1, .int .i64 x2, .int .i64 x3, .string x4, .string x5, .int .i64 x6, .int .i64 x7, .int .i64 x8, .int .i64 x9, .int .i64 x10, .slice Ax11 x11.length Cx11] ∧ (-9223372036854775808 ≤ x0 ∧ x0 ≤ 9223372036854775807) ∧ (-9223372036854775808 ≤ x1 ∧ x1 ≤ 9223372036854775807) ∧ (-9223372036854775808 ≤ x2 ∧ x2 ≤ 9223372036854775807) ∧ (-9223372036854775808 ≤ x3 ∧ x3 ≤ 9223372036854775807) ∧ x4.size ≤ 140737488351232 ∧ x5.size ≤ 140737488351232 ∧ (-9223372036854775808 ≤ x6 ∧ x6 ≤ 9223372036854775807) ∧ (-9223372036854775808 ≤ x7 ∧ x7 ≤ 9223372036854775807) ∧ (-9223372036854775808 ≤ x8 ∧ x8 ≤ 9223372036854775807) ∧ (-9223372036854775808 ≤ x9 ∧ x9 ≤ 9223372036854775807) ∧ (-9223372036854775808 ≤ x10 ∧ x10 ≤ 9223372036854775807) ∧ (x11.length * 8 ≤ 140737488351232 ∧ ∀ z ∈ x11, (Lit.int .i64 z).wf = true) ∧ PrintWords.Kd.C (PrintWords.Kd.int .i64) w Ax11 x11.length x11 ∧ x11.length ≤ Cx11 := by
  obtain ⟨hl, n, ys, hy, hf⟩ := trod_fields Try.underlying28 h
  rw [show Try.prog.cellsOf 28 = 12 by kernel_rfl] at hl
  obtain ⟨c0, c1, c2, c3, c4, c5, c6, c7, c8, c9, c10, c11, rfl⟩ : ∃ c0 c1 c2 c3 c4 c5 c6 c7 c8 c9 c10 c11, cs = [c0, c1, c2, c3, c4, c5, c6, c7, c8, c9, c10, c11] := by
    match cs, hl with
    | [c0, c1, c2, c3, c4, c5, c6, c7, c8, c9, c10, c11], _ => exact ⟨_, _, _, _, _, _, _, _, _, _, _, _, rfl⟩
  obtain ⟨z0, hz0, hf0⟩ := hf 0 _ 1 rfl (by kernel_rfl)
  have hw0 := weights_at Try.underlying28 hy hw (i := 0) rfl hz0
  replace hf0 : DataW.trod enc Try.prog w 0 (fun _ => true) true n 3 [c0] = some z0 := hf0
  obtain ⟨y0, rfl, b0⟩ := leaf_int Try.underlying3 hf0
  obtain ⟨z1, hz1, hf1⟩ := hf 1 _ 7 rfl (by kernel_rfl)
  have hw1 := weights_at Try.underlying28 hy hw (i := 1) rfl hz1
  replace hf1 : DataW.trod enc Try.prog w 0 (fun _ => true) true n 25 [c1, c2, c3, c4, c5, c6, c7] = some z1 := hf1
  obtain ⟨y1_0, y1_1, y1_2, y1_3, y1_4, y1_5, y1_6, e1, b1_0, b1_1, b1_2, b1_3, b1_4, b1_5, b1_6⟩ := opn25 hf1 hw1
  simp only [List.cons.injEq, and_true] at e1
  obtain ⟨rfl, rfl, rfl, rfl, rfl, rfl, rfl⟩ := e1
  obtain ⟨z2, hz2, hf2⟩ := hf 2 _ 1 rfl (by kernel_rfl)
  have hw2 := weights_at Try.underlying28 hy hw (i := 2) rfl hz2
  replace hf2 : DataW.trod enc Try.prog w 0 (fun _ => true) true n 3 [c8] = some z2 := hf2
  obtain ⟨y2, rfl, b2⟩ := leaf_int Try.underlying3 hf2
  obtain ⟨z3, hz3, hf3⟩ := hf 3 _ 1 rfl (by kernel_rfl)
  have hw3 := weights_at Try.underlying28 hy hw (i := 3) rfl hz3
  replace hf3 : DataW.trod enc Try.prog w 0 (fun _ => true) true n 3 [c9] = some z3 := hf3
  obtain ⟨y3, rfl, b3⟩ := leaf_int Try.underlying3 hf3
  obtain ⟨z4, hz4, hf4⟩ := hf 4 _ 1 rfl (by kernel_rfl)
  have hw4 := weights_at Try.underlying28 hy hw (i := 4) rfl hz4
  replace hf4 : DataW.trod enc Try.prog w 0 (fun _ => true) true n 3 [c10] = some z4 := hf4
  obtain ⟨y4, rfl, b4⟩ := leaf_int Try.underlying3 hf4
  obtain ⟨z5, hz5, hf5⟩ := hf 5 _ 1 rfl (by kernel_rfl)
  have hw5 := weights_at Try.underlying28 hy hw (i := 5) rfl hz5
  replace hf5 : DataW.trod enc Try.prog w 0 (fun _ => true) true n 26 [c11] = some z5 := hf5
  obtain ⟨A5, n5, C5, eq5⟩ : ∃ A n c, c11 = Value.slice A n c := by
    rcases open_ints Try.underlying26 Try.underlying3 (by kernel_rfl) hf5 with ⟨h, _⟩ | ⟨a, l, c, zs, h, _⟩
    · exact ⟨none, 0, 0, by simpa using h⟩
    · exact ⟨some a, l, c, by simpa using h⟩
  subst eq5
  obtain ⟨y5, q1_5, q2_5, q3_5, q4_5, q5_5⟩ := open_rows (d := PrintWords.Kd.int .i64) (good := fun z => (Lit.int .i64 z).wf = true) (B := reachBytes) Try.underlying26 (by kernel_rfl) (fun n cs y h hw => by
    obtain ⟨z, h1, _, h3⟩ := DataW.trod_int Try.underlying3 h
    exact ⟨z, h1, h3⟩) hf5 hw5
  rw [show Try.prog.bytesOf 3 = 8 by kernel_rfl] at q4_5
  subst q2_5
  exact ⟨y0, y1_0, y1_1, y1_2, y1_3, y1_4, y1_5, y1_6, y2, y3, y4, A5, C5, y5, rfl, bounds_i64 b0, b1_0, b1_1, b1_2, b1_3, b1_4, b1_5, b1_6, bounds_i64 b2, bounds_i64 b3, bounds_i64 b4, ⟨Nat.le_trans q4_5 (by decide), q5_5⟩, q1_5, q3_5⟩
set_option maxRecDepth 100000 in
theorem lifted (os : Os) (started : os.Started) (H : Type) (enc : TypeId × Value → H) :
    ReturnsInHanded {} Try.checked os 4 .any (Rows.entryLooksSpec.pre6 enc Try.prog Try.f4 Rows.entryLooksRow.domain false) (Rows.entryLooksSpec.post enc Try.prog Try.f4 false true false false) := by
  refine returnsInHanded_of_change_sized (C := Try.checked) own started (by kernel_rfl) Try.func4
    (ChangeSpec.witness6 (enc := enc) (C := Try.checked) false ⟨#[], #[.agg #[.int .i64 0, .int .i64 0, .int .i64 0, .int .i64 0, .string ByteArray.empty, .string ByteArray.empty, .int .i64 0, .int .i64 0, .int .i64 0, .int .i64 0, .int .i64 0, .slice none 0 0], .agg #[.int .i64 0, .int .i64 0, .int .i64 0, .int .i64 0, .string ByteArray.empty, .string ByteArray.empty, .int .i64 0, .int .i64 0, .int .i64 0, .int .i64 0, .int .i64 0, .slice none 0 0], .slice none 0 0, .int .i64 0], []⟩ 8 (by kernel_rfl) (by kernel_rfl) (by kernel_rfl) (by kernel_rfl)) ?_
  intro W base args ds gs before hval0 hW hcnd hsz0 _
  have hsz : (DataW.weightsEach Try.prog (Try.f4.params.toList ++ Rows.entryLooksSpec.plain.varTypes Try.prog) (ds ++ gs)).all (· ≤ reachBytes) = true := hsz0
  have hval : ∀ (j : Nat) t v, Try.f4.params[j]? = some t → args[j]? = some v → Value.okWide Try.prog W .any base t v := hval0
  have hW' := hW
  obtain ⟨p, q, hA0, hV, rfl, hfz, hnd⟩ := hW
  have hA : DataW.TrodAll enc Try.prog W 0 (fun _ => true) true Try.f4.params.toList args.toList ds p := hA0
  rw [Try.params4] at hA hval hsz
  obtain ⟨v0, vs0, d0, ds0, p0, q0, hargs, rfl, rfl, h0, r0⟩ := trodAll_cons hA
  obtain ⟨v1, vs1, d1, ds1, p1, q1, rfl, rfl, rfl, h1, r1⟩ := trodAll_cons r0
  obtain ⟨v2, vs2, d2, ds2, p2, q2, rfl, rfl, rfl, h2, r2⟩ := trodAll_cons r1
  obtain ⟨v3, vs3, d3, ds3, p3, q3, rfl, rfl, rfl, h3, r3⟩ := trodAll_cons r2
  obtain ⟨rfl, rfl, rfl⟩ := trodAll_nil r3
  obtain rfl : args = #[v0, v1, v2, v3] := by cases args; simp_all
  obtain ⟨rfl, rfl⟩ := trodVars_none hV
  have k0 := h0
  have lt0 : ∀ x ∈ p0, x.block < W.heap.size := by obtain ⟨m, hm⟩ := k0; exact DataW.trod_lt m _ _ _ hm
  obtain ⟨cs0, fu0, rfl, hc0⟩ := agg_of Try.underlying28 (hval 0 28 v0 rfl rfl) h0
  have wt0 : ∀ m ∈ d0.weights Try.prog 28, m ≤ reachBytes := fun m hm => by have := List.all_eq_true.1 hsz m (DataW.weights_mem_each (j := 0) (t := 28) rfl rfl m hm); simpa using this
  obtain ⟨a0_0, a0_1, a0_2, a0_3, a0_4, a0_5, a0_6, a0_7, a0_8, a0_9, a0_10, A0_11, c0_11, l0_11, rfl, w0_0, w0_1, w0_2, w0_3, w0_4, w0_5, w0_6, w0_7, w0_8, w0_9, w0_10, w0_11, hr0_11, hc0_11⟩ := opn28 hc0 wt0
  have k1 := h1
  have lt1 : ∀ x ∈ p1, x.block < W.heap.size := by obtain ⟨m, hm⟩ := k1; exact DataW.trod_lt m _ _ _ hm
  obtain ⟨cs1, fu1, rfl, hc1⟩ := agg_of Try.underlying28 (hval 1 28 v1 rfl rfl) h1
  have wt1 : ∀ m ∈ d1.weights Try.prog 28, m ≤ reachBytes := fun m hm => by have := List.all_eq_true.1 hsz m (DataW.weights_mem_each (j := 1) (t := 28) rfl rfl m hm); simpa using this
  obtain ⟨a1_0, a1_1, a1_2, a1_3, a1_4, a1_5, a1_6, a1_7, a1_8, a1_9, a1_10, A1_11, c1_11, l1_11, rfl, w1_0, w1_1, w1_2, w1_3, w1_4, w1_5, w1_6, w1_7, w1_8, w1_9, w1_10, w1_11, hr1_11, hc1_11⟩ := opn28 hc1 wt1
  have k2 := h2
  have lt2 : ∀ x ∈ p2, x.block < W.heap.size := by obtain ⟨m, hm⟩ := k2; exact DataW.trod_lt m _ _ _ hm
  obtain ⟨a2, len2, cap2, rfl⟩ := okWide_slice Try.underlying26 (hval 2 26 v2 rfl rfl)
  obtain ⟨z2, w2⟩ : ∃ zs, IsRow .i64 W a2 len2 cap2 zs := by
    obtain ⟨fuel, hf⟩ := h2
    rcases open_ints Try.underlying26 Try.underlying3 (by kernel_rfl) hf with ⟨hcs, _⟩ | ⟨x, l, c, zs, hcs, _, hl, hm, hz, _, hcell, hwz⟩
    · simp [Value.cells] at hcs
      obtain ⟨rfl, rfl, rfl⟩ := hcs
      exact ⟨[], .inl ⟨rfl, rfl, rfl, rfl⟩⟩
    · simp [Value.cells] at hcs
      obtain ⟨rfl, rfl, rfl⟩ := hcs
      exact ⟨zs, .inr ⟨_, rfl, hl, hm, by simpa using hz, hcell, hwz⟩⟩
  have y2 : len2 * 8 ≤ 140737488351232 := PrintWords.sized_ints hsz (j := 2) (t := 26) rfl rfl Try.underlying26 Try.underlying3 (by kernel_rfl) (by kernel_rfl) h2
  obtain ⟨l2, hr2, hl2, hc2, hw2⟩ : ∃ l : List Int, PrintWords.Kd.C (PrintWords.Kd.int .i64) W a2 l.length l ∧ len2 = l.length ∧ l.length ≤ cap2 ∧ ∀ z ∈ l, (Lit.int .i64 z).wf = true := isRow_C w2
  subst hl2
  obtain ⟨a3, rfl, rfl, rfl, w3⟩ := open_int Try.underlying3 (hval 3 3 v3 rfl rfl) h3
  clear hA0 hval0 hsz0 hsz
  obtain ⟨kr, hk⟩ := Pure.EntryLooks a0_0 a0_1 a0_2 a0_3 a0_4 a0_5 a0_6 a0_7 a0_8 a0_9 a0_10 l0_11 a1_0 a1_1 a1_2 a1_3 a1_4 a1_5 a1_6 a1_7 a1_8 a1_9 a1_10 l1_11 l2 a3 w0_0 w0_1 w0_2 w0_3 w0_4 w0_5 w0_6 w0_7 w0_8 w0_9 w0_10 w0_11 w1_0 w1_1 w1_2 w1_3 w1_4 w1_5 w1_6 w1_7 w1_8 w1_9 w1_10 w1_11 y2 hw2 (bounds_i64 w3)
  refine (PE.glebelaw11_EntryLooks.calls kr a0_0 a0_1 a0_2 a0_3 a0_4 a0_5 a0_6 a0_7 a0_8 a0_9 a0_10 A0_11 c0_11 l0_11 a1_0 a1_1 a1_2 a1_3 a1_4 a1_5 a1_6 a1_7 a1_8 a1_9 a1_10 A1_11 c1_11 l1_11 a2 cap2 l2 a3 true W hr0_11 hc0_11 hr1_11 hc1_11 hr2 hc2 hk).mono fun e W' ⟨he, bel0⟩ => ?_
  subst he
  have bel : Below W.heap.size W W' := bel0
  exact ⟨_, rfl, _, _, _, [], _, [], hW', trodAll_mk1 (shut_bool Try.underlying4 _), (trodAll_cons_mk (Below.trod laidOut (by kernel_rfl) (of_decide_eq_true (by kernel_rfl)) k0 bel lt0) (trodAll_cons_mk (Below.trod laidOut (by kernel_rfl) (of_decide_eq_true (by kernel_rfl)) k1 bel lt1) (trodAll_cons_mk (Below.trod laidOut (by kernel_rfl) (of_decide_eq_true (by kernel_rfl)) k2 bel lt2) (trodAll_cons_mk (shut_int Try.underlying3 w3) trodAll_mk0)))), rfl, bel.frame _, fun h => by cases h⟩
theorem over : Rows.entryLooksRow.holds Try.pinned (OpenSpec.ofChange Rows.entryLooksSpec) :=
  OpenClaim.holds_of_wide 4 Try.f4 rfl rfl rfl rfl rfl rfl rfl ⟨rfl, rfl, rfl, rfl, rfl⟩ rfl rfl rfl rfl rfl (by kernel_rfl) Try.func4 (by kernel_rfl)
    (of_decide_eq_true (by kernel_rfl)) (by unfold Func.isWrapper; first | (rw [if_pos (by decide +kernel)]; kernel_rfl) | (rw [if_neg (by decide +kernel)]; exact ⟨rfl, rfl⟩))
    (fun os started H enc _ => lifted os started H enc)
theorem proved : Rows.EntryLooksSaid := over
#print axioms proved
end Go.Proofs.Ytampppdjfbabiaa.entryLooks
namespace Go.Proofs.Ytampppdjfbabiaa
/-- The row, under a short name, for the claim. -/
theorem entryLooks_holds : Rows.EntryLooksSaid := entryLooks.proved
end Go.Proofs.Ytampppdjfbabiaa
