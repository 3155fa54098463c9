-- Written by a program of this session (wip/tools/hp.py) over the kit's print; nothing here is trusted: Lean checks it.
import Derived.RegionTactic
import Derived.BigRegion
import Derived.Test.YtimfeiobdcmhnaaPRx0
import Derived.Test.YtimfeiobdcmhnaaPRx4
import Derived.Test.YtimfeiobdcmhnaaPRx5
import Derived.Test.YtimfeiobdcmhnaaPRx9
import Derived.Test.YtimfeiobdcmhnaaPRx19
namespace Go.Proofs.Ytimfeiobdcmhnaa.PR
open Go.RowKit Go.Proofs.YtimfeiobdcmhnaaW.PrintWords Go.Proofs.YtimfeiobdcmhnaaW.PrintLast Go.Proofs.YtimfeiobdcmhnaaW.PrintMore
attribute [local go_sem] max2_int min2_int max_two min_two max_three min_three max_four min_four   -- for this text's walks alone
set_option linter.unusedVariables false
set_option linter.unusedSimpArgs false

--OWN Derived.RegionTactic,Derived.BigRegion
/-! ### glebelaw01_WireSizes: function 11 -/
/-- So many zeros. -/
def zeros (n : Int) : List Int := List.replicate n.toNat 0
theorem zeros_eq (n : Int) : List.replicate n.toNat 0 = zeros n := rfl
def glebelaw01_WireSizes.f (k : Nat) (a0 : Bool) : Option (Bool) :=
  (wire_Frame.f k 1 (zeros (if a0 then 131073 else 131072))).bind fun p => (wire_Text.f k (strOfNums (zeros (if a0 then 131073 else 131072)))).bind fun q => if p.2 = (if a0 then 6 else 0) ∧ q.2 = (if a0 then 6 else 0) then some true else none
set_option maxHeartbeats 4000000 in
set_option maxRecDepth 100000 in
theorem glebelaw01_WireSizes.calls (k : Nat) (a0 : Bool) (r : Bool) (w : World) (h : glebelaw01_WireSizes.f k a0 = some r) :
    Calls Try.prog 11 #[.bool a0] w fun e w' => e = .returned (.bool r) ∧ Below w.heap.size w w' := by
  unfold glebelaw01_WireSizes.f at h
  cases a0
  all_goals
    simp only [Bool.false_eq_true, if_true, if_false] at h
    obtain ⟨⟨fr, e⟩, h1, h⟩ := Option.bind_eq_some_iff.mp h
    obtain ⟨⟨tx, f⟩, h2, h⟩ := Option.bind_eq_some_iff.mp h
    dsimp only at h
    obtain ⟨⟨rfl, rfl⟩, h⟩ := Option.ite_none_right_eq_some.mp h
    obtain rfl := Option.some.inj h
    clear h
    have H1 := Aside0.mk h1
    have H2 := Aside0.mk h2
    clear h1 h2
    go_enter Try.func11, Try.ntmps11
    go_wp2_with (first
      | ((with_reducible refine gate_dst (N := 13) rfl ?_); refine Kd.R_make (Kd.int .u8) _ 5 rfl (N := 13) rfl 33 _ _ rfl _ rfl rfl Try.underlying33 (.int .u8 0) 1 info5 rfl (by decide) (by omega) 0 (ok := fun _ => True) (okp := fun _ => True) rfl (fun _ hk => hk) trivial (by decide) (by decide) (Below.refl _ _) (Nat.le_refl _) ?_; intro v13 w13 ho hb hg_ hnew_; clear hg_ hnew_; rw [zeros_eq] at ho; have HO := Aside0.mk ho; have HB := Aside0.mk hb; clear ho hb; generalize zeros _ = ys at HO H1 H2; obtain ⟨A1, c1, rfl, hc1, hC1⟩ := Kd.R_reads HO.out; have HC1 := Aside0.mk hC1; have hcs := Kd.C_string Try.underlying33 Try.underlying5 Try.underlying9 (c := c1) hC1; clear hC1 HO hcs)
      | (go_at_call 25; refine (wire_Frame.calls k 1 A1 c1 ys fr _ _ HC1.out hc1 H1.out).mono ?_; rintro e wx ⟨vx, rfl, hrx, hbx⟩; have HB := Aside0.mk (below_step HB.out hbx); have HC1 := Aside0.mk (Kd.C_below HC1.out hbx); have hcs := Kd.C_string Try.underlying33 Try.underlying5 Try.underlying9 (c := c1) HC1.out; clear hrx hbx)
      | (go_at_call 48; refine (wire_Text.calls k (strOfNums ys) tx _ _ H2.out).mono ?_; rintro e wx ⟨vx, rfl, hrx, hbx⟩; have HB := Aside0.mk (below_step HB.out hbx); clear hrx hbx hcs)
      | (go_at_call 26; refine (glebelaw01_num.calls _ _ _ rfl).mono ?_; rintro e wx ⟨rfl, hbx⟩; have HB := Aside0.mk (below_step HB.out (drawn_below hbx)); clear hbx)
      | (go_at_call 20; refine (glebelaw01_knows.calls 0 true _ rfl).mono ?_; rintro e wx ⟨rfl, hbx⟩; have HB := Aside0.mk (below_step HB.out hbx); clear hbx))
    go_ret
    exact ⟨rfl, HB.out⟩

end Go.Proofs.Ytimfeiobdcmhnaa.PR
