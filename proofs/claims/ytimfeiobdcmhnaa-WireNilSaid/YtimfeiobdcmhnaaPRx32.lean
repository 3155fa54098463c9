-- Written by a program of this session (wip/tools/hp.py) over the kit's print; nothing here is trusted: Lean checks it.
import Derived.RegionTactic
import Derived.BigRegion
import Derived.Test.YtimfeiobdcmhnaaPRx0
import Derived.Test.YtimfeiobdcmhnaaPRx5
import Derived.Test.YtimfeiobdcmhnaaPRx9
import Derived.Test.YtimfeiobdcmhnaaPRx24
namespace Go.Proofs.Ytimfeiobdcmhnaa.PR
open Go.RowKit Go.Proofs.YtimfeiobdcmhnaaW.PrintWords Go.Proofs.YtimfeiobdcmhnaaW.PrintLast Go.Proofs.YtimfeiobdcmhnaaW.PrintMore
attribute [local go_sem] max2_int min2_int max_two min_two max_three min_three max_four min_four   -- for this text's walks alone
set_option linter.unusedVariables false
set_option linter.unusedSimpArgs false

--OWN Derived.RegionTactic,Derived.BigRegion
/-! ### glebelaw01_WireNil: function 12 -/
theorem dead_new {w0 w : World} (h : Below w0.heap.size w0 w) : Dead w0 (some ⟨w.heap.size, 0, none⟩) (w.alloc (Obj.cells #[Value.slice none 0 0, Value.int IntKind.i64 0, Value.bool false] 85)) := by
  refine ⟨below_alloc h _, .inr ⟨_, rfl, h.size, none, 0, Go.heap_alloc_new _ _, by simp, ⟨rfl, by simp, fun hp => absurd hp (by simp)⟩, fun ad hA => by cases hA⟩⟩
def glebelaw01_WireNil.f (k : Nat) (a0 : Int) : Option Bool := some true
set_option maxHeartbeats 4000000 in
set_option maxRecDepth 100000 in
theorem glebelaw01_WireNil.calls (k : Nat) (a0 : Int) (r : Bool) (w : World) (h : glebelaw01_WireNil.f k a0 = some r) :
    Calls Try.prog 12 #[.int .i64 a0] w fun e w' => e = .returned (.bool r) ∧ Below w.heap.size w w' := by
  obtain rfl := Option.some.inj h
  clear h
  have HD0 := Aside0.mk (show Dead w none w from ⟨Below.refl _ _, .inl rfl⟩)
  go_enter Try.func12, Try.ntmps12
  go_wp2
  go_loopw [3, 4] (fun p i wr => ∃ (k : Nat) (q : Option Addr), k ≤ 2 ∧ p = .pointer q ∧ i = .int .i64 k ∧ Aside0 (Dead w q wr)) (fun _ i _ => 2 - (intOf i).toNat)
  case atStart => exact ⟨0, none, by omega, rfl, rfl, HD0⟩
  case round =>
    obtain ⟨k, q, hk, rfl, rfl, HD⟩ := hrel
    clear HD0
    by_cases hlt : k < 2
    · have c1 : decide ((k : Int) < 2) = true := decide_eq_true (by omega)
      go_wp2_with fail
      go_at_call 51
      refine (HD.out.Fail 21).mono ?_
      rintro e w1 ⟨rfl, rfl⟩
      go_wp2_with fail
      go_at_call 52
      refine (HD.out.Num).mono ?_
      rintro e w1 ⟨rfl, rfl⟩
      go_wp2_with fail
      go_at_call 53
      refine (HD.out.Upto a0).mono ?_
      rintro e w1 ⟨rfl, rfl⟩
      go_wp2_with fail
      go_at_call 54
      refine (HD.out.Text a0).mono ?_
      rintro e w1 ⟨rfl, rfl⟩
      go_wp2_with fail
      go_at_call 55
      refine (HD.out.Left).mono ?_
      rintro e w1 ⟨rfl, rfl⟩
      go_wp2_with fail
      go_at_call 56
      refine (HD.out.Err).mono ?_
      rintro e w1 ⟨rfl, rfl⟩
      go_wp2_with fail
      go_at_call 26
      refine (glebelaw01_num.calls 1 1 _ rfl).mono ?_
      rintro e w1 ⟨rfl, hb⟩
      replace HD := Aside0.mk (HD.out.below (drawn_below hb))
      clear hb
      go_wp2_with fail
      go_at_call 57
      refine (HD.out.Done).mono ?_
      rintro e w1 ⟨rfl, rfl⟩
      go_wp2_with fail
      go_at_call 26
      refine (glebelaw01_num.calls 1 1 _ rfl).mono ?_
      rintro e w1 ⟨rfl, hb⟩
      replace HD := Aside0.mk (HD.out.below (drawn_below hb))
      clear hb
      go_wp2
      go_roundw
      case rel => exact ⟨k + 1, _, by omega, rfl, by go_num, ⟨dead_new HD.out.1⟩⟩
      case measure => simp [intOf]; omega
    · have hk2 : k = 2 := by omega
      subst hk2
      go_wp2_with fail
      go_at_call 20
      refine (glebelaw01_knows.calls 0 true _ rfl).mono ?_
      rintro e w1 ⟨rfl, hb⟩
      have HB := Aside0.mk (below_step HD.out.1 hb)
      clear hb
      go_wp2
      go_ret
      exact ⟨rfl, HB.out⟩

end Go.Proofs.Ytimfeiobdcmhnaa.PR
