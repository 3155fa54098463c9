-- Written by a program of this session (wip/tools/hp.py) over the kit's print; nothing here is trusted: Lean checks it.
import Derived.RegionTactic
import Derived.BigRegion
import Derived.Great.Walk
import Derived.Laws.Rows
import Derived.Lib.SlBytesConst
import Derived.Test.YtimfeiobdcmhnaaPRx0
import Derived.Test.YtimfeiobdcmhnaaPRx2
import Derived.Test.YtimfeiobdcmhnaaPRx4
import Derived.Test.YtimfeiobdcmhnaaPRx5
import Derived.Test.YtimfeiobdcmhnaaPRx8
namespace Go.Proofs.Ytimfeiobdcmhnaa.PR
open Go.RowKit Go.Proofs.YtimfeiobdcmhnaaW.PrintWords Go.Proofs.YtimfeiobdcmhnaaW.PrintLast Go.Proofs.YtimfeiobdcmhnaaW.PrintMore
attribute [local go_sem] max2_int min2_int max_two min_two max_three min_three max_four min_four   -- for this text's walks alone
set_option linter.unusedVariables false
set_option linter.unusedSimpArgs false

--OWN Derived.RegionTactic,Derived.BigRegion,Derived.Great.Walk,Derived.Laws.Rows,Derived.Lib.SlBytesConst
/-! ### glebelaw01_knows: function 20 -/
theorem drawn_below {w w' : World} (h : Drawn0 w w') : Below w.heap.size w w' := by
  obtain ⟨m, rfl⟩ := h
  exact pw_below_drewN (Below.refl _ _) m
theorem kn_sum : wire_Sum.f [49, 50, 51, 52, 53, 54, 55, 56, 57] = some 3421780262 := by decide +kernel
theorem kn_frame : ∃ r, wire_Frame.f 12 7 [97, 98] = some (r, 0) ∧ r.length = 11 ∧ wire_Unframe.f 12 r = some (7, [97, 98], 0) := by
  have h : (wire_Frame.f 12 7 [97, 98]).map (fun p => (p.2, p.1.length, wire_Unframe.f 12 p.1)) = some (0, 11, some (7, [97, 98], 0)) := by decide +kernel
  cases hf : wire_Frame.f 12 7 [97, 98] with
  | none => rw [hf] at h; cases h
  | some p =>
    rw [hf] at h
    obtain ⟨r, q⟩ := p
    simp only [Option.map_some, Option.some.injEq, Prod.mk.injEq] at h
    obtain ⟨rfl, h1, h2⟩ := h
    exact ⟨r, rfl, h1, h2⟩
/-- A row of literal bytes that is marked as a constant's. -/
theorem reads_marked {w : World} {g : Nat} {xs : List Int} {fz : Nat × Nat} (h : w.heap[g]? = some (.cells (xs.map (Value.int .u8)).toArray 5 fz)) (hm : xs.length ≤ 1000) : Kd.C (Kd.int .u8) w (some ⟨g, 0, none⟩) xs.length xs := by
  refine ⟨rfl, by omega, fun hp => ⟨⟨g, 0, none⟩, rfl, ?_⟩⟩
  intro j p hj
  refine ⟨[.int .u8 p], rfl, rfl, ?_⟩
  intro i u hi
  cases i with
  | succ i => simp at hi
  | zero =>
    simp at hi
    subst hi
    have ha : (⟨g, 0, none⟩ : Addr).add (j * (Kd.int .u8).sz + 0) = ⟨g, j, none⟩ := by
      show (⟨g, 0, none⟩ : Addr).add (j * 1 + 0) = _
      unfold Addr.add
      split <;> simp_all
    rw [ha, cell_of_row _ _ _ _ _ _ h]
    simp [hj]
def glebelaw01_knows.f (k : Nat) : Option (Bool) := some true
theorem glebelaw01_knows.mono : ∀ k, LeO (glebelaw01_knows.f k) (glebelaw01_knows.f (k + 1)) := fun _ => LeO.refl _
set_option maxHeartbeats 2000000 in
set_option maxRecDepth 100000 in
theorem glebelaw01_knows.calls (k : Nat) (r : Bool) (w : World) (h : glebelaw01_knows.f k = some r) :
    Calls Try.prog 20 #[] w fun e w' => e = .returned (.bool r) ∧ Below w.heap.size w w' := by
  obtain rfl := Option.some.inj h
  clear h
  obtain ⟨fr, hf, hfl, hu⟩ := kn_frame
  have HF := Aside0.mk hf
  have HU := Aside0.mk hu
  have HL := Aside0.mk hfl
  clear hf hu hfl
  have kc := fun (w : World) (C : Array Value) (n c : Nat) => Lib.run_convert_bytes_const (P := Try.prog) w 33 5 C n c Try.underlying33 Try.underlying5
  go_enter Try.func20, Try.ntmps20
  go_wp2_with fail
  refine (wire_Frame.calls 12 7 _ 2 [97, 98] fr 0 _ (reads_marked (fz := (2, 3)) (Go.heap_alloc_new _ _) (by decide)) (Nat.le_refl _) HF.out).mono ?_
  rintro e w1 ⟨v1, rfl, hr1, hb1⟩
  have HB1 := Aside0.mk (below_step (below_alloc (Below.refl w.heap.size w) _) hb1)
  obtain ⟨A1, c1, rfl, hc1, hC1⟩ := Kd.R_reads hr1
  have HC1 := Aside0.mk hC1
  clear hr1 hb1 hC1
  go_wp2_with fail
  refine (wire_Unframe.calls 12 A1 c1 fr 7 [97, 98] 0 _ HC1.out hc1 HU.out).mono ?_
  rintro e w2 ⟨v2, rfl, hr2, hb2⟩
  have HB2 := Aside0.mk (below_step HB1.out hb2)
  obtain ⟨A2, c2, rfl, hc2, hC2⟩ := Kd.R_reads hr2
  have HC2 := Aside0.mk hC2
  clear hr2 hb2 hC2
  go_wp2_with fail
  refine (wire_Sum.calls _ 9 [49, 50, 51, 52, 53, 54, 55, 56, 57] 3421780262 _ (reads_marked (fz := (9, 10)) (Go.heap_alloc_new _ _) (by decide)) (Nat.le_refl _) kn_sum).mono ?_
  rintro e w3 ⟨rfl, hb3⟩
  have HB3 := Aside0.mk (below_step (below_alloc HB2.out _) hb3)
  have HC3 := Aside0.mk (Kd.C_below (Kd.C_alloc HC2.out _) hb3)
  clear hb3
  have hcv : ∀ m, (convert 33 9 (.slice A2 2 c2)).run Try.prog (w3.drewN m) = .ok (.string (strOfNums [97, 98])) (w3.drewN m) := fun m => Kd.C_string Try.underlying33 Try.underlying5 Try.underlying9 (Kd.C_drewN HC3.out m)
  have hl11 : ((fr.length : Int) == 11) = true := by rw [HL.out]; rfl
  have hs2 : (strOfNums [97, 98]).toList = [97, 98] := by decide +kernel
  go_wp2_with (first | (go_at_call 26; refine (glebelaw01_num.calls 0 0 _ rfl).mono ?_; rintro e wx ⟨rfl, ⟨mx_, rfl⟩⟩))
  go_ret
  exact ⟨rfl, pw_below_drewN HB3.out _⟩

end Go.Proofs.Ytimfeiobdcmhnaa.PR
