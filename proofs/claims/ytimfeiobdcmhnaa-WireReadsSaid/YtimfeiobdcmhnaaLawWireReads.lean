/- For every input the law WireReads returns true and leaves its arguments as they were: the row, out of its pure statement and the walk's contract. -/
import Derived.Test.YtimfeiobdcmhnaaRows
import Derived.Test.YtimfeiobdcmhnaaPRx41
import Derived.Test.YtimfeiobdcmhnaaPureWireReads
import Derived.Test.YtimfeiobdcmhnaaOp
import Derived.Test.YtimfeiobdcmhnaaWSized
import Derived.WalkKit
import Derived.ProofKit
import Derived.OpenShut
import Derived.ShutString
import Derived.ChangeOld
import Derived.Below
import Derived.SizedLaws
namespace Go.Proofs.Ytimfeiobdcmhnaa.wireReads
open Go.ChangeShapes Go.WideShapes Go.ChangeAt Go.RowKit Go.Proofs.Ytimfeiobdcmhnaa.Op Go.Proofs.YtimfeiobdcmhnaaW
open Go.Proofs.YtimfeiobdcmhnaaW.PrintWords (Drawn0.below)
open Go.ChangeMaps (open_string shut_string)
set_option linter.unusedVariables false
theorem own : ownKnob Try.prog.godebug = none := by kernel_rfl
theorem laidOut : laidOutB Try.prog = true := by kernel_rfl
def IsRow (k : IntKind) (w : World) (a : Option Addr) (len cap : Nat) (zs : List Int) : Prop :=
  (a = none ∧ len = 0 ∧ cap = 0 ∧ zs = []) ∨
  ∃ x, a = some x ∧ len ≤ cap ∧ cap ≤ maxLen ∧ zs.length = cap ∧ (∀ i, i < zs.length → w.cell? (x.add i) = some (.int k (zs.getD i 0))) ∧ ∀ n ∈ zs, (Lit.int k n).wf = true
theorem isRow_C {k : IntKind} {w : World} {a : Option Addr} {len cap : Nat} {zs : List Int} (h : IsRow k w a len cap zs) : ∃ l : List Int, PrintWords.Kd.C (PrintWords.Kd.int k) w a l.length l ∧ len = l.length ∧ l.length ≤ cap ∧ ∀ z ∈ l, (Lit.int k z).wf = true := by
  rcases h with ⟨rfl, rfl, rfl, rfl⟩ | ⟨x, rfl, hl, hm, hz, hcell, hw⟩
  · exact ⟨[], ⟨rfl, by simp, fun hp => absurd hp (by simp)⟩, rfl, Nat.le_refl _, fun z hz => by cases hz⟩
  · have hlen : (zs.take len).length = len := by rw [List.length_take]; omega
    have hmax : maxLen = 9223372036854775807 := by decide
    refine ⟨zs.take len, ?_, hlen.symm, by rw [hlen]; exact hl, fun z hz => hw z (List.mem_of_mem_take hz)⟩
    refine PrintWords.Kd.C_of_reads (d := (0 : Int)) (h1 := fun _ => rfl) ⟨rfl, by omega, fun _ => ⟨x, rfl, fun j hj => ?_⟩⟩
    rw [hcell j (by omega)]
    have e : (zs.take len).getD j 0 = zs.getD j 0 := by
      rw [List.getD_eq_getElem?_getD, List.getD_eq_getElem?_getD, List.getElem?_take_of_lt (by omega)]
    rw [e]
theorem opn91 {H : Type} {enc : TypeId × Value → H} {w : World} {fuel : Nat} {cs : List Value} {y : DataW H × List MemPlace}
    (h : DataW.trod enc Try.prog w 0 (fun _ => true) true fuel 91 cs = some y) (hw : ∀ m ∈ y.1.weights Try.prog 91, m ≤ reachBytes) :
    ∃ (x0 : Int) (x1 : Int), cs = [.int .i64 x0, .int .i64 x1] ∧ (-9223372036854775808 ≤ x0 ∧ x0 ≤ 9223372036854775807) ∧ (-9223372036854775808 ≤ x1 ∧ x1 ≤ 9223372036854775807) := by
  obtain ⟨hl, n, ys, hy, hf⟩ := trod_fields Try.underlying91 h
  rw [show Try.prog.cellsOf 91 = 2 by kernel_rfl] at hl
  obtain ⟨c0, c1, rfl⟩ : ∃ c0 c1, cs = [c0, c1] := by
    match cs, hl with
    | [c0, c1], _ => exact ⟨_, _, rfl⟩
  obtain ⟨z0, hz0, hf0⟩ := hf 0 _ 1 rfl (by kernel_rfl)
  have hw0 := weights_at Try.underlying91 hy hw (i := 0) rfl hz0
  replace hf0 : DataW.trod enc Try.prog w 0 (fun _ => true) true n 3 [c0] = some z0 := hf0
  obtain ⟨y0, rfl, b0⟩ := leaf_int Try.underlying3 hf0
  obtain ⟨z1, hz1, hf1⟩ := hf 1 _ 1 rfl (by kernel_rfl)
  have hw1 := weights_at Try.underlying91 hy hw (i := 1) rfl hz1
  replace hf1 : DataW.trod enc Try.prog w 0 (fun _ => true) true n 3 [c1] = some z1 := hf1
  obtain ⟨y1, rfl, b1⟩ := leaf_int Try.underlying3 hf1
  exact ⟨y0, y1, rfl, bounds_i64 b0, bounds_i64 b1⟩
set_option maxRecDepth 100000 in
theorem lifted (os : Os) (started : os.Started) (H : Type) (enc : TypeId × Value → H) :
    ReturnsInHanded {} Try.checked os 13 .any (Rows.wireReadsSpec.pre6 enc Try.prog Try.f13 Rows.wireReadsRow.domain false) (Rows.wireReadsSpec.post enc Try.prog Try.f13 false true false false) := by
  refine returnsInHanded_of_change_sized (C := Try.checked) own started (by kernel_rfl) Try.func13
    (ChangeSpec.witness6 (enc := enc) (C := Try.checked) false ⟨#[], #[.slice none 0 0, .slice none 0 0], []⟩ 8 (by kernel_rfl) (by kernel_rfl) (by kernel_rfl) (by kernel_rfl)) ?_
  intro W base args ds gs before hval0 hW hcnd hsz0 _
  have hsz : (DataW.weightsEach Try.prog (Try.f13.params.toList ++ Rows.wireReadsSpec.plain.varTypes Try.prog) (ds ++ gs)).all (· ≤ reachBytes) = true := hsz0
  have hval : ∀ (j : Nat) t v, Try.f13.params[j]? = some t → args[j]? = some v → Value.okWide Try.prog W .any base t v := hval0
  have hW' := hW
  obtain ⟨p, q, hA0, hV, rfl, hfz, hnd⟩ := hW
  have hA : DataW.TrodAll enc Try.prog W 0 (fun _ => true) true Try.f13.params.toList args.toList ds p := hA0
  rw [Try.params13] at hA hval hsz
  obtain ⟨v0, vs0, d0, ds0, p0, q0, hargs, rfl, rfl, h0, r0⟩ := trodAll_cons hA
  obtain ⟨v1, vs1, d1, ds1, p1, q1, rfl, rfl, rfl, h1, r1⟩ := trodAll_cons r0
  obtain ⟨rfl, rfl, rfl⟩ := trodAll_nil r1
  obtain rfl : args = #[v0, v1] := by cases args; simp_all
  obtain ⟨rfl, rfl⟩ := trodVars_none hV
  have k0 := h0
  have lt0 : ∀ x ∈ p0, x.block < W.heap.size := by obtain ⟨m, hm⟩ := k0; exact DataW.trod_lt m _ _ _ hm
  obtain ⟨a0, len0, cap0, rfl⟩ := okWide_slice Try.underlying33 (hval 0 33 v0 rfl rfl)
  obtain ⟨z0, w0⟩ : ∃ zs, IsRow .u8 W a0 len0 cap0 zs := by
    obtain ⟨fuel, hf⟩ := h0
    rcases open_ints Try.underlying33 Try.underlying5 (by kernel_rfl) hf with ⟨hcs, _⟩ | ⟨x, l, c, zs, hcs, _, hl, hm, hz, _, hcell, hwz⟩
    · simp [Value.cells] at hcs
      obtain ⟨rfl, rfl, rfl⟩ := hcs
      exact ⟨[], .inl ⟨rfl, rfl, rfl, rfl⟩⟩
    · simp [Value.cells] at hcs
      obtain ⟨rfl, rfl, rfl⟩ := hcs
      exact ⟨zs, .inr ⟨_, rfl, hl, hm, by simpa using hz, hcell, hwz⟩⟩
  have y0 : len0 * 1 ≤ 140737488351232 := PrintWords.sized_ints hsz (j := 0) (t := 33) rfl rfl Try.underlying33 Try.underlying5 (by kernel_rfl) (by kernel_rfl) h0
  obtain ⟨l0, hr0, hl0, hc0, hw0⟩ : ∃ l : List Int, PrintWords.Kd.C (PrintWords.Kd.int .u8) W a0 l.length l ∧ len0 = l.length ∧ l.length ≤ cap0 ∧ ∀ z ∈ l, (Lit.int .u8 z).wf = true := isRow_C w0
  subst hl0
  have k1 := h1
  have lt1 : ∀ x ∈ p1, x.block < W.heap.size := by obtain ⟨m, hm⟩ := k1; exact DataW.trod_lt m _ _ _ hm
  obtain ⟨a1, len1, cap1, rfl⟩ := okWide_slice Try.underlying86 (hval 1 86 v1 rfl rfl)
  have wt1 : ∀ m ∈ d1.weights Try.prog 86, m ≤ reachBytes := fun m hm => by have := List.all_eq_true.1 hsz m (DataW.weights_mem_each (j := 1) (t := 86) rfl rfl m hm); simpa using this
  obtain ⟨l1, hr1, hl1, hc1, hy1, hw1⟩ : ∃ l : List (Int × Int), PrintWords.Kd.C (PrintWords.Kd.pair (PrintWords.Kd.int .i64) (PrintWords.Kd.int .i64)) W a1 l.length l ∧ len1 = l.length ∧ l.length ≤ cap1 ∧ l.length * 16 ≤ 140737488351232 ∧ ∀ z ∈ l, (-9223372036854775808 ≤ z.1 ∧ z.1 ≤ 9223372036854775807) ∧ (-9223372036854775808 ≤ z.2 ∧ z.2 ≤ 9223372036854775807) := by
    obtain ⟨fuel, hf⟩ := h1
    obtain ⟨l, q1, q2, q3, q4, q5⟩ := open_rows (d := PrintWords.Kd.pair (PrintWords.Kd.int .i64) (PrintWords.Kd.int .i64)) (good := fun z : Int × Int => (-9223372036854775808 ≤ z.1 ∧ z.1 ≤ 9223372036854775807) ∧ (-9223372036854775808 ≤ z.2 ∧ z.2 ≤ 9223372036854775807)) (B := reachBytes) Try.underlying86 (by kernel_rfl) (fun n cs y h hw => by
      obtain ⟨x0, x1, rfl, b0, b1⟩ := opn91 h hw
      exact ⟨(x0, x1), ⟨[_], _, rfl, rfl, rfl⟩, ⟨b0, b1⟩⟩) hf wt1
    rw [show Try.prog.bytesOf 91 = 16 by kernel_rfl] at q4
    exact ⟨l, q1, q2, q3, Nat.le_trans q4 (by decide), q5⟩
  subst hl1
  clear hA0 hval0 hsz0 hsz
  obtain ⟨kr, hk⟩ := Pure.WireReads l0 l1 y0 hw0 hy1 hw1
  refine (PR.glebelaw01_WireReads.calls kr a0 cap0 l0 a1 cap1 l1 true W hr0 hc0 hr1 hc1 hk).mono fun e W' ⟨he, bel0⟩ => ?_
  subst he
  have bel : Below W.heap.size W W' := bel0
  exact ⟨_, rfl, _, _, _, [], _, [], hW', trodAll_mk1 (shut_bool Try.underlying4 _), (trodAll_cons_mk (Below.trod laidOut (by kernel_rfl) (of_decide_eq_true (by kernel_rfl)) k0 bel lt0) (trodAll_cons_mk (Below.trod laidOut (by kernel_rfl) (of_decide_eq_true (by kernel_rfl)) k1 bel lt1) trodAll_mk0)), rfl, bel.frame _, fun h => by cases h⟩
theorem over : Rows.wireReadsRow.holds Try.pinned (OpenSpec.ofChange Rows.wireReadsSpec) :=
  OpenClaim.holds_of_wide 13 Try.f13 rfl rfl rfl rfl rfl rfl rfl ⟨rfl, rfl, rfl, rfl, rfl⟩ rfl rfl rfl rfl rfl (by kernel_rfl) Try.func13 (by kernel_rfl)
    (of_decide_eq_true (by kernel_rfl)) (by unfold Func.isWrapper; first | (rw [if_pos (by decide +kernel)]; kernel_rfl) | (rw [if_neg (by decide +kernel)]; exact ⟨rfl, rfl⟩))
    (fun os started H enc _ => lifted os started H enc)
theorem proved : Rows.WireReadsSaid := over
#print axioms proved
end Go.Proofs.Ytimfeiobdcmhnaa.wireReads
namespace Go.Proofs.Ytimfeiobdcmhnaa
/-- The row, under a short name, for the claim. -/
theorem wireReads_holds : Rows.WireReadsSaid := wireReads.proved
end Go.Proofs.Ytimfeiobdcmhnaa
