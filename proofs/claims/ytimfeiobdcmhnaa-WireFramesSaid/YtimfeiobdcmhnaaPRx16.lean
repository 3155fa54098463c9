-- Written by a program of this session (wip/tools/hp.py) over the kit's print; nothing here is trusted: Lean checks it.
import Derived.RegionTactic
import Derived.BigRegion
import Derived.Test.YtimfeiobdcmhnaaPRx0
import Derived.Test.YtimfeiobdcmhnaaPRx4
import Derived.Test.YtimfeiobdcmhnaaPRx5
import Derived.Test.YtimfeiobdcmhnaaPRx8
import Derived.Test.YtimfeiobdcmhnaaPRx9
import Derived.Test.YtimfeiobdcmhnaaPRx10
import Derived.Test.YtimfeiobdcmhnaaPRx12
import Derived.Test.YtimfeiobdcmhnaaPRx14
import Derived.Test.YtimfeiobdcmhnaaPRx15
namespace Go.Proofs.Ytimfeiobdcmhnaa.PR
open Go.RowKit Go.Proofs.YtimfeiobdcmhnaaW.PrintWords Go.Proofs.YtimfeiobdcmhnaaW.PrintLast Go.Proofs.YtimfeiobdcmhnaaW.PrintMore
attribute [local go_sem] max2_int min2_int max_two min_two max_three min_three max_four min_four   -- for this text's walks alone
set_option linter.unusedVariables false
set_option linter.unusedSimpArgs false

--OWN Derived.RegionTactic,Derived.BigRegion
/-! ### glebelaw01_WireFrames: function 5 -/
def glebelaw01_WireFrames.f (k : Nat) (a0 : Int) (l1 l2 : List Int) : Option Bool :=
  if l1.length > 9000 ∨ l2.length > 9000 then some true
  else (wire_Frame.f k a0 l1).bind fun p => (if 0 ≤ a0 ∧ a0 ≤ 255 then gleberef01_Frame.f k a0 l1 else some []).bind fun q => (wire_Unframe.f k l2).bind fun u => (gleberef01_Unframe.f k l2).bind fun v =>
    if (if 0 ≤ a0 ∧ a0 ≤ 255 then p = (q, 0) else p = ([], 1)) ∧ u = v then some true else none
set_option maxHeartbeats 4000000 in
set_option maxRecDepth 100000 in
theorem glebelaw01_WireFrames.calls (k : Nat) (a0 : Int) (A1 : Option Addr) (c1 : Nat) (l1 : List Int) (A2 : Option Addr) (c2 : Nat) (l2 : List Int) (r : Bool) (w : World) (hr1 : Kd.C (Kd.int .u8) w A1 l1.length l1) (hc1 : l1.length ≤ c1) (hr2 : Kd.C (Kd.int .u8) w A2 l2.length l2) (hc2 : l2.length ≤ c2) (h : glebelaw01_WireFrames.f k a0 l1 l2 = some r) :
    Calls Try.prog 5 #[.int .i64 a0, .slice A1 l1.length c1, .slice A2 l2.length c2] w fun e w' => e = .returned (.bool r) ∧ Below w.heap.size w w' := by
  unfold glebelaw01_WireFrames.f at h
  by_cases c : l1.length > 9000 ∨ l2.length > 9000
  · rw [if_pos c] at h
    obtain rfl := Option.some.inj h
    clear h hr1 hr2 hc1 hc2
    rcases (show l1.length > 9000 ∨ (¬ l1.length > 9000 ∧ l2.length > 9000) by omega) with z | ⟨z, y⟩
    · have zb : decide ((9000 : Int) < (l1.length : Int)) = true := decide_eq_true (by omega)
      have zn : decide (9000 < l1.length) = true := decide_eq_true z
      clear c z
      go_enter Try.func5, Try.ntmps5
      go_wp2_with fail
      refine (glebelaw01_knows.calls 0 true _ rfl).mono ?_
      rintro e w1 ⟨rfl, hb⟩
      have HB := Aside0.mk hb
      clear hb
      go_wp2
      go_ret
      exact ⟨rfl, HB.out⟩
    · have zb : decide ((9000 : Int) < (l1.length : Int)) = false := decide_eq_false (by omega)
      have zn : decide (9000 < l1.length) = false := decide_eq_false z
      have yb : decide ((9000 : Int) < (l2.length : Int)) = true := decide_eq_true (by omega)
      have yn : decide (9000 < l2.length) = true := decide_eq_true y
      clear c z y
      go_enter Try.func5, Try.ntmps5
      go_wp2_with fail
      refine (glebelaw01_knows.calls 0 true _ rfl).mono ?_
      rintro e w1 ⟨rfl, hb⟩
      have HB := Aside0.mk hb
      clear hb
      go_wp2
      go_ret
      exact ⟨rfl, HB.out⟩
  · rw [if_neg c] at h
    obtain ⟨p, hF, h⟩ := Option.bind_eq_some_iff.mp h
    obtain ⟨q, hq, h⟩ := Option.bind_eq_some_iff.mp h
    obtain ⟨⟨u1, u2, u3⟩, hU, h⟩ := Option.bind_eq_some_iff.mp h
    obtain ⟨v, hV, h⟩ := Option.bind_eq_some_iff.mp h
    have hh : ((if 0 ≤ a0 ∧ a0 ≤ 255 then p = (q, 0) else p = ([], 1)) ∧ (u1, u2, u3) = v) ∧ true = r := by
      by_cases z : (if 0 ≤ a0 ∧ a0 ≤ 255 then p = (q, 0) else p = ([], 1)) ∧ (u1, u2, u3) = v
      · rw [if_pos z] at h
        exact ⟨z, Option.some.inj h⟩
      · rw [if_neg z] at h
        cases h
    obtain ⟨⟨hp, rfl⟩, rfl⟩ := hh
    have s1 : l1.length ≤ 9000 := by omega
    have s2 : l2.length ≤ 9000 := by omega
    have zb : decide ((9000 : Int) < (l1.length : Int)) = false := decide_eq_false (by omega)
    have zn : decide (9000 < l1.length) = false := decide_eq_false (by omega)
    have yb : decide ((9000 : Int) < (l2.length : Int)) = false := decide_eq_false (by omega)
    have yn : decide (9000 < l2.length) = false := decide_eq_false (by omega)
    have HL1 := Aside0.mk (show glebelaw01_Lent.f l1 = some l1 by unfold glebelaw01_Lent.f; rw [if_pos (by omega)])
    have HL2 := Aside0.mk (show glebelaw01_Lent.f l2 = some l2 by unfold glebelaw01_Lent.f; rw [if_pos (by omega)])
    have HF := Aside0.mk hF
    have HU := Aside0.mk hU
    have HV := Aside0.mk hV
    have HQ := Aside0.mk hq
    have HP := Aside0.mk hp
    have H1 := Aside0.mk hr1
    have H2 := Aside0.mk hr2
    have k1 : (u1 != u1) = false := bne_self_eq_false _
    have k3 : (u3 != u3) = false := bne_self_eq_false _
    have k2 : ((strOfNums u2).toList != (strOfNums u2).toList) = false := bne_self_eq_false _
    clear c h hF hU hV hq hp hr1 hr2
    go_enter Try.func5, Try.ntmps5
    go_wp2_with fail
    refine (glebelaw01_Lent.calls A1 c1 l1 l1 _ H1.out hc1 HL1.out).mono ?_
    rintro e wa ⟨vX, rfl, ⟨hrX, AX, cX, rfl, hcX, hX⟩, hb⟩
    have HX := Aside0.mk hX
    have HXr := Aside0.mk (Kd.R_reads' hrX).2.2
    have HB := Aside0.mk hb
    replace H1 := Aside0.mk (Kd.C_below H1.out hb)
    replace H2 := Aside0.mk (Kd.C_below H2.out hb)
    clear hrX hX hb
    go_wp2_with fail
    refine (glebelaw01_Lent.calls A2 c2 l2 l2 _ H2.out hc2 HL2.out).mono ?_
    rintro e wb ⟨vY, rfl, ⟨hrY, AY, cY, rfl, hcY, hY⟩, hb⟩
    have HY := Aside0.mk hY
    have HYr := Aside0.mk (Kd.R_reads' hrY).2.2
    replace HX := Aside0.mk (Kd.C_below HX.out hb)
    replace HXr := Aside0.mk (Kd.C_below HXr.out hb)
    replace H1 := Aside0.mk (Kd.C_below H1.out hb)
    replace H2 := Aside0.mk (Kd.C_below H2.out hb)
    replace HB := Aside0.mk (below_step HB.out hb)
    clear hrY hY hb
    by_cases fine : 0 ≤ a0 ∧ a0 ≤ 255
    · have f1 : decide (0 ≤ a0) = true := decide_eq_true fine.1
      have f2 : decide (a0 ≤ 255) = true := decide_eq_true fine.2
      have hp := HP.out
      rw [if_pos fine] at hp
      subst hp
      have hq := HQ.out
      rw [if_pos fine] at hq
      replace HQ := Aside0.mk hq
      have k4 : ((strOfNums q).toList != (strOfNums q).toList) = false := bne_self_eq_false _
      clear hq fine HP
      go_wp2_with fail
      refine (wire_Frame.calls k a0 AX cX l1 q 0 _ HXr.out (by omega) HF.out).mono ?_
      rintro e wc ⟨vF, rfl, hrF, hb⟩
      replace HX := Aside0.mk (Kd.C_below HX.out hb)
      replace HXr := Aside0.mk (Kd.C_below HXr.out hb)
      replace HY := Aside0.mk (Kd.C_below HY.out hb)
      replace HYr := Aside0.mk (Kd.C_below HYr.out hb)
      replace H1 := Aside0.mk (Kd.C_below H1.out hb)
      replace H2 := Aside0.mk (Kd.C_below H2.out hb)
      replace HB := Aside0.mk (below_step HB.out hb)
      obtain ⟨AF, cF, rfl, _, hCF⟩ := Kd.R_reads hrF
      have HCF := Aside0.mk (Kd.C_drew hCF)
      replace HX := Aside0.mk (Kd.C_drew HX.out)
      replace HXr := Aside0.mk (Kd.C_drew HXr.out)
      replace HY := Aside0.mk (Kd.C_drew HY.out)
      replace HYr := Aside0.mk (Kd.C_drew HYr.out)
      replace H1 := Aside0.mk (Kd.C_drew H1.out)
      replace H2 := Aside0.mk (Kd.C_drew H2.out)
      replace HB := Aside0.mk (below_drew HB.out)
      clear hrF hb hCF
      go_wp2_with fail
      refine start_ (n := 31) (S := fun w' => (convert 33 9 (.slice AF q.length cF)).run Try.prog w' = .ok (.string (strOfNums q)) w') (ds := []) #[false, false, false, false, false, false, false, false, false, false, false, false, false, false, false, false, false, false, false, false, false, false, false, false, false, false, false, false, false, false, false] (by kernel_rfl) rfl rfl ((Kd.C_string Try.underlying33 Try.underlying5 Try.underlying9 HCF.out)) (fun hHeld => ?_)
      refine pure_ (i := 0) (N := some 44) (v := ?_) (a' := ?_) #[true, false, false, false, false, false, false, false, false, false, false, false, false, false, false, false, false, false, false, false, false, false, false, false, false, false, false, false, false, false, false] rfl rfl (by kernel_rfl) (fun _ _ _ h => h) (Or.inl ⟨by rfl, ?_⟩) ?_ ?_
      rotate_left
      · intro w'
        go_simp
        with_reducible rfl
      rotate_left
      · simp only [Act.put, List.setIfInBounds_toArray, List.set_cons_zero, List.set_cons_succ, i64_w, i32_w]
        rfl
      refine pure_ (i := 3) (N := some 47) (v := ?_) (a' := ?_) #[true, false, false, true, false, false, false, false, false, false, false, false, false, false, false, false, false, false, false, false, false, false, false, false, false, false, false, false, false, false, false] rfl rfl (by kernel_rfl) (fun _ _ _ h => h) (Or.inl ⟨by rfl, ?_⟩) ?_ ?_
      rotate_left
      · intro w'
        go_simp
        with_reducible rfl
      rotate_left
      · simp only [Act.put, List.setIfInBounds_toArray, List.set_cons_zero, List.set_cons_succ, i64_w, i32_w]
        rfl
      refine one_ (i := 1) (N := some 45) #[true, true, false, true, false, false, false, false, false, false, false, false, false, false, false, false, false, false, false, false, false, false, false, false, false, false, false, false, false, false, false] rfl rfl (by kernel_rfl) (by decide) (fun K hK => ?_)
      refine goes_ Try.func26 (by kernel_rfl) rfl #[.int .i64 0] (by rfl) rfl rfl (by simp only [List.map_toArray, List.map_cons, List.map_nil]; rfl) ?_
      with_reducible refine (glebelaw01_num.calls 0 0 _ rfl).mono ?_
      rintro e wx ⟨rfl, hbx0⟩
      refine ⟨_, rfl, ?_⟩
      have hbx := drawn_below hbx0
      replace HX := Aside0.mk (Kd.C_below HX.out hbx)
      replace HXr := Aside0.mk (Kd.C_below HXr.out hbx)
      replace HY := Aside0.mk (Kd.C_below HY.out hbx)
      replace HYr := Aside0.mk (Kd.C_below HYr.out hbx)
      replace H1 := Aside0.mk (Kd.C_below H1.out hbx)
      replace H2 := Aside0.mk (Kd.C_below H2.out hbx)
      replace HCF := Aside0.mk (Kd.C_below HCF.out hbx)
      replace HB := Aside0.mk (below_step HB.out hbx)
      clear hbx hbx0
      refine hK.out _ _ ((Kd.C_string Try.underlying33 Try.underlying5 Try.underlying9 HCF.out)) (fun hHeld => ?_)
      clear hK K
      refine norm_ (a' := ?_) ?_ ?_
      rotate_left
      · show Act.put _ (some 45) _ = _
        simp only [Act.put, List.setIfInBounds_toArray, List.set_cons_zero, List.set_cons_succ, i64_w, i32_w]
        rfl
      refine pure_ (i := 2) (N := some 46) (v := ?_) (a' := ?_) #[true, true, true, true, false, false, false, false, false, false, false, false, false, false, false, false, false, false, false, false, false, false, false, false, false, false, false, false, false, false, false] rfl rfl (by kernel_rfl) (fun _ _ _ h => h) (Or.inl ⟨by rfl, ?_⟩) ?_ ?_
      rotate_left
      · intro w'
        go_simp
        with_reducible rfl
      rotate_left
      · simp only [Act.put, List.setIfInBounds_toArray, List.set_cons_zero, List.set_cons_succ, i64_w, i32_w]
        rfl
      refine pure_ (i := 4) (N := some 48) (v := ?_) (a' := ?_) #[true, true, true, true, true, false, false, false, false, false, false, false, false, false, false, false, false, false, false, false, false, false, false, false, false, false, false, false, false, false, false] rfl rfl (by kernel_rfl) (fun _ _ _ h => h) (Or.inl ⟨by rfl, ?_⟩) ?_ ?_
      rotate_left
      · intro w'
        go_simp
        with_reducible rfl
      rotate_left
      · simp only [Act.put, List.setIfInBounds_toArray, List.set_cons_zero, List.set_cons_succ, i64_w, i32_w]
        rfl
      refine pure_ (i := 5) (N := some 49) (v := ?_) (a' := ?_) #[true, true, true, true, true, true, false, false, false, false, false, false, false, false, false, false, false, false, false, false, false, false, false, false, false, false, false, false, false, false, false] rfl rfl (by kernel_rfl) (fun _ _ _ h => h) (Or.inl ⟨by rfl, ?_⟩) ?_ ?_
      rotate_left
      · intro w'
        go_simp
        with_reducible rfl
      rotate_left
      · simp only [Act.put, List.setIfInBounds_toArray, List.set_cons_zero, List.set_cons_succ, i64_w, i32_w]
        rfl
      refine pure_ (i := 6) (N := some 50) (v := ?_) (a' := ?_) #[true, true, true, true, true, true, true, false, false, false, false, false, false, false, false, false, false, false, false, false, false, false, false, false, false, false, false, false, false, false, false] rfl rfl (by kernel_rfl) (fun _ _ _ h => h) (Or.inl ⟨by rfl, ?_⟩) ?_ ?_
      rotate_left
      · intro w'
        go_simp
        with_reducible rfl
      rotate_left
      · simp only [Act.put, List.setIfInBounds_toArray, List.set_cons_zero, List.set_cons_succ, i64_w, i32_w]
        rfl
      refine pure_ (i := 7) (N := some 51) (v := ?_) (a' := ?_) #[true, true, true, true, true, true, true, true, false, false, false, false, false, false, false, false, false, false, false, false, false, false, false, false, false, false, false, false, false, false, false] rfl rfl (by kernel_rfl) (fun _ _ _ h => h) (Or.inl ⟨by rfl, ?_⟩) ?_ ?_
      rotate_left
      · intro w'
        go_simp
        with_reducible rfl
      rotate_left
      · simp only [Act.put, List.setIfInBounds_toArray, List.set_cons_zero, List.set_cons_succ, i64_w, i32_w]
        rfl
      refine pure_ (i := 8) (N := some 52) (v := ?_) (a' := ?_) #[true, true, true, true, true, true, true, true, true, false, false, false, false, false, false, false, false, false, false, false, false, false, false, false, false, false, false, false, false, false, false] rfl rfl (by kernel_rfl) (fun _ _ _ h => h) (Or.inl ⟨by rfl, ?_⟩) ?_ ?_
      rotate_left
      · intro w'
        go_simp
        with_reducible rfl
      rotate_left
      · simp only [Act.put, List.setIfInBounds_toArray, List.set_cons_zero, List.set_cons_succ, i64_w, i32_w]
        rfl
      refine pure_ (i := 9) (N := some 53) (v := undef) (a' := ?_) #[true, true, true, true, true, true, true, true, true, true, false, false, false, false, false, false, false, false, false, false, false, false, false, false, false, false, false, false, false, false, false] rfl rfl (by kernel_rfl) (fun _ _ _ h => h) (Or.inr ⟨by rfl, rfl⟩) ?_ ?_
      rotate_left
      · simp only [Act.put, List.setIfInBounds_toArray, List.set_cons_zero, List.set_cons_succ, i64_w, i32_w]
        rfl
      refine pure_ (i := 10) (N := some 54) (v := undef) (a' := ?_) #[true, true, true, true, true, true, true, true, true, true, true, false, false, false, false, false, false, false, false, false, false, false, false, false, false, false, false, false, false, false, false] rfl rfl (by kernel_rfl) (fun _ _ _ h => h) (Or.inr ⟨by rfl, rfl⟩) ?_ ?_
      rotate_left
      · simp only [Act.put, List.setIfInBounds_toArray, List.set_cons_zero, List.set_cons_succ, i64_w, i32_w]
        rfl
      refine pure_ (i := 11) (N := some 55) (v := undef) (a' := ?_) #[true, true, true, true, true, true, true, true, true, true, true, true, false, false, false, false, false, false, false, false, false, false, false, false, false, false, false, false, false, false, false] rfl rfl (by kernel_rfl) (fun _ _ _ h => h) (Or.inr ⟨by rfl, rfl⟩) ?_ ?_
      rotate_left
      · simp only [Act.put, List.setIfInBounds_toArray, List.set_cons_zero, List.set_cons_succ, i64_w, i32_w]
        rfl
      refine pure_ (i := 12) (N := some 56) (v := undef) (a' := ?_) #[true, true, true, true, true, true, true, true, true, true, true, true, true, false, false, false, false, false, false, false, false, false, false, false, false, false, false, false, false, false, false] rfl rfl (by kernel_rfl) (fun _ _ _ h => h) (Or.inr ⟨by rfl, rfl⟩) ?_ ?_
      rotate_left
      · simp only [Act.put, List.setIfInBounds_toArray, List.set_cons_zero, List.set_cons_succ, i64_w, i32_w]
        rfl
      refine pure_ (i := 13) (N := some 57) (v := undef) (a' := ?_) #[true, true, true, true, true, true, true, true, true, true, true, true, true, true, false, false, false, false, false, false, false, false, false, false, false, false, false, false, false, false, false] rfl rfl (by kernel_rfl) (fun _ _ _ h => h) (Or.inr ⟨by rfl, rfl⟩) ?_ ?_
      rotate_left
      · simp only [Act.put, List.setIfInBounds_toArray, List.set_cons_zero, List.set_cons_succ, i64_w, i32_w]
        rfl
      refine pure_ (i := 14) (N := some 58) (v := undef) (a' := ?_) #[true, true, true, true, true, true, true, true, true, true, true, true, true, true, true, false, false, false, false, false, false, false, false, false, false, false, false, false, false, false, false] rfl rfl (by kernel_rfl) (fun _ _ _ h => h) (Or.inr ⟨by rfl, rfl⟩) ?_ ?_
      rotate_left
      · simp only [Act.put, List.setIfInBounds_toArray, List.set_cons_zero, List.set_cons_succ, i64_w, i32_w]
        rfl
      refine pure_ (i := 15) (N := some 59) (v := undef) (a' := ?_) #[true, true, true, true, true, true, true, true, true, true, true, true, true, true, true, true, false, false, false, false, false, false, false, false, false, false, false, false, false, false, false] rfl rfl (by kernel_rfl) (fun _ _ _ h => h) (Or.inr ⟨by rfl, rfl⟩) ?_ ?_
      rotate_left
      · simp only [Act.put, List.setIfInBounds_toArray, List.set_cons_zero, List.set_cons_succ, i64_w, i32_w]
        rfl
      refine pure_ (i := 16) (N := some 60) (v := undef) (a' := ?_) #[true, true, true, true, true, true, true, true, true, true, true, true, true, true, true, true, true, false, false, false, false, false, false, false, false, false, false, false, false, false, false] rfl rfl (by kernel_rfl) (fun _ _ _ h => h) (Or.inr ⟨by rfl, rfl⟩) ?_ ?_
      rotate_left
      · simp only [Act.put, List.setIfInBounds_toArray, List.set_cons_zero, List.set_cons_succ, i64_w, i32_w]
        rfl
      refine pure_ (i := 17) (N := some 61) (v := ?_) (a' := ?_) #[true, true, true, true, true, true, true, true, true, true, true, true, true, true, true, true, true, true, false, false, false, false, false, false, false, false, false, false, false, false, false] rfl rfl (by kernel_rfl) (fun _ _ _ h => h) (Or.inl ⟨by rfl, ?_⟩) ?_ ?_
      rotate_left
      · intro w'
        go_simp
        with_reducible rfl
      rotate_left
      · simp only [Act.put, List.setIfInBounds_toArray, List.set_cons_zero, List.set_cons_succ, i64_w, i32_w]
        rfl
      refine pure_ (i := 18) (N := some 62) (v := ?_) (a' := ?_) #[true, true, true, true, true, true, true, true, true, true, true, true, true, true, true, true, true, true, true, false, false, false, false, false, false, false, false, false, false, false, false] rfl rfl (by kernel_rfl) (fun _ _ _ h => h) (Or.inl ⟨by rfl, ?_⟩) ?_ ?_
      rotate_left
      · intro w'
        go_simp
        with_reducible rfl
      rotate_left
      · simp only [Act.put, List.setIfInBounds_toArray, List.set_cons_zero, List.set_cons_succ, i64_w, i32_w]
        rfl
      refine pure_ (i := 19) (N := some 63) (v := ?_) (a' := ?_) #[true, true, true, true, true, true, true, true, true, true, true, true, true, true, true, true, true, true, true, true, false, false, false, false, false, false, false, false, false, false, false] rfl rfl (by kernel_rfl) (fun _ _ _ h => h) (Or.inl ⟨by rfl, ?_⟩) ?_ ?_
      rotate_left
      · intro w'
        go_simp
        with_reducible rfl
      rotate_left
      · simp only [Act.put, List.setIfInBounds_toArray, List.set_cons_zero, List.set_cons_succ, i64_w, i32_w]
        rfl
      refine pure_ (i := 20) (N := some 64) (v := ?_) (a' := ?_) #[true, true, true, true, true, true, true, true, true, true, true, true, true, true, true, true, true, true, true, true, true, false, false, false, false, false, false, false, false, false, false] rfl rfl (by kernel_rfl) (fun _ _ _ h => h) (Or.inl ⟨by rfl, ?_⟩) ?_ ?_
      rotate_left
      · intro w'
        go_simp
        with_reducible rfl
      rotate_left
      · simp only [Act.put, List.setIfInBounds_toArray, List.set_cons_zero, List.set_cons_succ, i64_w, i32_w]
        rfl
      refine pure_ (i := 21) (N := some 65) (v := ?_) (a' := ?_) #[true, true, true, true, true, true, true, true, true, true, true, true, true, true, true, true, true, true, true, true, true, true, false, false, false, false, false, false, false, false, false] rfl rfl (by kernel_rfl) (fun _ _ _ h => h) (Or.inl ⟨by rfl, ?_⟩) ?_ ?_
      rotate_left
      · intro w'
        go_simp
        with_reducible rfl
      rotate_left
      · simp only [Act.put, List.setIfInBounds_toArray, List.set_cons_zero, List.set_cons_succ, i64_w, i32_w]
        rfl
      refine pure_ (i := 22) (N := some 66) (v := ?_) (a' := ?_) #[true, true, true, true, true, true, true, true, true, true, true, true, true, true, true, true, true, true, true, true, true, true, true, false, false, false, false, false, false, false, false] rfl rfl (by kernel_rfl) (fun _ _ _ h => h) (Or.inl ⟨by rfl, ?_⟩) ?_ ?_
      rotate_left
      · intro w'
        go_simp
        with_reducible rfl
      rotate_left
      · simp only [Act.put, List.setIfInBounds_toArray, List.set_cons_zero, List.set_cons_succ, i64_w, i32_w]
        rfl
      refine pure_ (i := 24) (N := some 68) (v := ?_) (a' := ?_) #[true, true, true, true, true, true, true, true, true, true, true, true, true, true, true, true, true, true, true, true, true, true, true, false, true, false, false, false, false, false, false] rfl rfl (by kernel_rfl) (fun _ _ _ h => h) (Or.inl ⟨by rfl, ?_⟩) ?_ ?_
      rotate_left
      · intro w'
        go_simp
        with_reducible rfl
      rotate_left
      · simp only [Act.put, List.setIfInBounds_toArray, List.set_cons_zero, List.set_cons_succ, i64_w, i32_w]
        rfl
      refine pure_ (i := 25) (N := some 69) (v := ?_) (a' := ?_) #[true, true, true, true, true, true, true, true, true, true, true, true, true, true, true, true, true, true, true, true, true, true, true, false, true, true, false, false, false, false, false] rfl rfl (by kernel_rfl) (fun _ _ _ h => h) (Or.inl ⟨by rfl, ?_⟩) ?_ ?_
      rotate_left
      · intro w'
        go_simp
        with_reducible rfl
      rotate_left
      · simp only [Act.put, List.setIfInBounds_toArray, List.set_cons_zero, List.set_cons_succ, i64_w, i32_w]
        rfl
      refine take_ (i := 23) (N := some 67) (v := ?_) (a' := ?_) #[true, true, true, true, true, true, true, true, true, true, true, true, true, true, true, true, true, true, true, true, true, true, true, true, true, true, false, false, false, false, false] rfl rfl (by kernel_rfl) (fun _ _ _ h => h) (Or.inl ⟨by rfl, ?_⟩) hHeld ?_ ?_
      rotate_left
      · intro w' s0
        go_simp
        with_reducible rfl
      rotate_left
      · simp only [Act.put, List.setIfInBounds_toArray, List.set_cons_zero, List.set_cons_succ, i64_w, i32_w]
        rfl
      refine one_ (i := 26) (N := some 70) #[true, true, true, true, true, true, true, true, true, true, true, true, true, true, true, true, true, true, true, true, true, true, true, true, true, true, true, false, false, false, false] rfl rfl (by kernel_rfl) (by decide) (fun K hK => ?_)
      refine goes_ Try.func27 (by kernel_rfl) rfl #[.int .i64 a0, .slice A1 l1.length c1] (by rfl) rfl rfl (by simp only [List.map_toArray, List.map_cons, List.map_nil]; rfl) ?_
      with_reducible refine (gleberef01_Frame.calls k a0 A1 c1 l1 q _ H1.out hc1 HQ.out).mono ?_
      rintro e wx ⟨vx, rfl, hrx, hbx⟩
      refine ⟨_, rfl, ?_⟩
      obtain ⟨A3, c3, rfl, _, hC3⟩ := Kd.R_reads hrx
      have hcv3 : (convert 33 9 (.slice A3 q.length c3)).run Try.prog wx = .ok (.string (strOfNums q)) wx := Kd.C_string Try.underlying33 Try.underlying5 Try.underlying9 hC3
      replace HX := Aside0.mk (Kd.C_below HX.out hbx)
      replace HXr := Aside0.mk (Kd.C_below HXr.out hbx)
      replace HY := Aside0.mk (Kd.C_below HY.out hbx)
      replace HYr := Aside0.mk (Kd.C_below HYr.out hbx)
      replace H1 := Aside0.mk (Kd.C_below H1.out hbx)
      replace H2 := Aside0.mk (Kd.C_below H2.out hbx)
      replace HCF := Aside0.mk (Kd.C_below HCF.out hbx)
      replace HB := Aside0.mk (below_step HB.out hbx)
      clear hbx hrx hC3
      refine hK.out _ _ ((Kd.C_string Try.underlying33 Try.underlying5 Try.underlying9 HCF.out)) (fun hHeld => ?_)
      clear hK K
      refine norm_ (a' := ?_) ?_ ?_
      rotate_left
      · show Act.put _ (some 70) _ = _
        simp only [Act.put, List.setIfInBounds_toArray, List.set_cons_zero, List.set_cons_succ, i64_w, i32_w]
        rfl
      refine one_ (i := 27) (N := some 71) #[true, true, true, true, true, true, true, true, true, true, true, true, true, true, true, true, true, true, true, true, true, true, true, true, true, true, true, true, false, false, false] rfl rfl (by kernel_rfl) (by decide) (fun K hK => ?_)
      refine value_ (w1 := ?_) (v := ?_) (by rfl) rfl ?_ ?_
      rotate_left 2
      · go_simp
        constructor
        · rfl
        · rfl
      refine hK.out _ _ ((Kd.C_string Try.underlying33 Try.underlying5 Try.underlying9 HCF.out)) (fun hHeld => ?_)
      clear hK K
      refine norm_ (a' := ?_) ?_ ?_
      rotate_left
      · show Act.put _ (some 71) _ = _
        simp only [Act.put, List.setIfInBounds_toArray, List.set_cons_zero, List.set_cons_succ, i64_w, i32_w]
        rfl
      refine pure_ (i := 28) (N := some 72) (v := ?_) (a' := ?_) #[true, true, true, true, true, true, true, true, true, true, true, true, true, true, true, true, true, true, true, true, true, true, true, true, true, true, true, true, true, false, false] rfl rfl (by kernel_rfl) (fun _ _ _ h => h) (Or.inl ⟨by rfl, ?_⟩) ?_ ?_
      rotate_left
      · intro w'
        go_simp
        with_reducible rfl
      rotate_left
      · simp only [Act.put, List.setIfInBounds_toArray, List.set_cons_zero, List.set_cons_succ, i64_w, i32_w]
        rfl
      refine pure_ (i := 29) (N := some 73) (v := ?_) (a' := ?_) #[true, true, true, true, true, true, true, true, true, true, true, true, true, true, true, true, true, true, true, true, true, true, true, true, true, true, true, true, true, true, false] rfl rfl (by kernel_rfl) (fun _ _ _ h => h) (Or.inl ⟨by rfl, ?_⟩) ?_ ?_
      rotate_left
      · intro w'
        go_simp
        with_reducible rfl
      rotate_left
      · simp only [Act.put, List.setIfInBounds_toArray, List.set_cons_zero, List.set_cons_succ, i64_w, i32_w]
        rfl
      refine pure_ (i := 30) (N := some 74) (v := ?_) (a' := ?_) #[true, true, true, true, true, true, true, true, true, true, true, true, true, true, true, true, true, true, true, true, true, true, true, true, true, true, true, true, true, true, true] rfl rfl (by kernel_rfl) (fun _ _ _ h => h) (Or.inl ⟨by rfl, ?_⟩) ?_ ?_
      rotate_left
      · intro w'
        go_simp
        with_reducible rfl
      rotate_left
      · simp only [Act.put, List.setIfInBounds_toArray, List.set_cons_zero, List.set_cons_succ, i64_w, i32_w]
        rfl
      refine done_ (by kernel_rfl) ?_
      go_wp2_with fail
      rename World => wU
      refine (wire_Unframe.calls k AY cY l2 u1 u2 u3 _ HYr.out (by omega) HU.out).mono ?_
      rintro e wd ⟨vU, rfl, hrU, hb⟩
      have HBU := Aside0.mk hb
      have HRU := Aside0.mk hrU
      clear hb hrU
      go_wp2_with fail
      refine (gleberef01_Unframe.calls k A2 c2 l2 u1 u2 u3 _ (Kd.C_below H2.out HBU.out) hc2 HV.out).mono ?_
      rintro e we ⟨vV, rfl, hrV, hb⟩
      replace HBU := Aside0.mk (below_step HBU.out hb)
      replace HRU := Aside0.mk (Kd.R_below HRU.out hb)
      obtain ⟨AV, cV, rfl, _, hCV⟩ := Kd.R_reads hrV
      obtain ⟨AU, cU, rfl⟩ := Kd.R_slice HRU.out
      have hbd : u2.length ≤ 9223372036854775807 := (Kd.R_reads' HRU.out).2.2.2.1
      have hcvu := Kd.C_string (P := Try.prog) (A := AU) (c := cU) Try.underlying33 Try.underlying5 Try.underlying9 (Kd.R_reads' HRU.out).2.2
      have hcvv := Kd.C_string (P := Try.prog) (A := AV) (c := cV) Try.underlying33 Try.underlying5 Try.underlying9 hCV
      clear hb hrV hCV
      go_wp2_with fail
      refine (glebelaw01_num.calls u3 u3 _ rfl).mono ?_
      rintro e wf ⟨rfl, hb⟩
      have hb := drawn_below hb
      replace HBU := Aside0.mk (below_step HBU.out hb)
      replace HRU := Aside0.mk (Kd.R_below HRU.out hb)
      clear hb hcvu hcvv
      go_wp2
      go_loopw [18] (fun i wr => ∃ (j : Nat) (lj : List Int), j ≤ u2.length ∧ lj.length = u2.length ∧ i = .int .i64 j ∧ Aside0 (Kd.R (Kd.int .u8) 5 wr wU.heap.size (fun _ => True) (.slice AU u2.length cU) lj) ∧ Aside0 (Below wU.heap.size wU wr)) (fun i _ => u2.length - (intOf i).toNat)
      case atStart => exact ⟨0, u2, by omega, rfl, rfl, HRU, HBU⟩
      case round =>
        obtain ⟨j, lj, hj, hlj, rfl, HR, HBR⟩ := hrel
        clear HRU HBU
        by_cases hlt : j < u2.length
        · obtain ⟨go, co, eo, gb, gl, cl, HG⟩ := Kd.R_form HR.out (by omega)
          injection eo with ea en ec
          subst ea ec
          have GB := Aside0.mk gb
          clear en gl cl HG gb
          obtain ⟨hx, hf⟩ := Kd.R_celln 0 HR.out (j : Int) (by omega) (by omega)
          have hx2 : wr.cell? ⟨go, j, none⟩ = some (.int .u8 (rd lj j)) := hx
          have hf2 : wr.frozen? ⟨go, j, none⟩ = false := hf
          have HP1 : Aside0 (Kd.R (Kd.int .u8) 5 (wr.setCell ⟨go, j, none⟩ (.int .u8 ((rd lj j + 1) % 256))) wU.heap.size (fun _ => True) (.slice (some ⟨go, 0, none⟩) u2.length cU) (lj.set j ((rd lj j + 1) % 256))) := ⟨(Kd.R_putg HR.out (j : Int) ((rd lj j + 1) % 256)).1⟩
          clear hx hf
          go_wp2
          go_roundw
          case rel => exact ⟨j + 1, lj.set j ((rd lj j + 1) % 256), by omega, by simp [hlj], by go_num, HP1, ⟨below_set HBR.out GB.out⟩⟩
          case measure => simp [intOf]; omega
        · obtain rfl : j = u2.length := by omega
          go_wp2_with fail
          refine (glebelaw01_Stays.calls AX cX l1 A1 c1 l1 true _ (Kd.C_below HX.out HBR.out) hcX (Kd.C_below H1.out HBR.out) hc1 (if_pos rfl)).mono ?_
          rintro e wg ⟨rfl, hb⟩
          replace HBR := Aside0.mk (below_step HBR.out (drawn_below hb))
          clear hb
          go_wp2_with fail
          refine (glebelaw01_Stays.calls AY cY l2 A2 c2 l2 true _ (Kd.C_below HY.out HBR.out) hcY (Kd.C_below H2.out HBR.out) hc2 (if_pos rfl)).mono ?_
          rintro e wg ⟨rfl, hb⟩
          replace HBR := Aside0.mk (below_step HBR.out (drawn_below hb))
          clear hb
          go_wp2_with fail
          refine (glebelaw01_knows.calls 0 true _ rfl).mono ?_
          rintro e wh ⟨rfl, hb⟩
          replace HBR := Aside0.mk (below_step HB.out (below_step HBR.out hb))
          clear hb
          go_wp2
          go_ret
          exact ⟨rfl, HBR.out⟩
    · have hp := HP.out
      rw [if_neg fine] at hp
      subst hp
      have f2 : (0 ≤ a0 ∧ decide (0 ≤ a0) = true ∧ decide (a0 ≤ 255) = false) ∨ decide (0 ≤ a0) = false := by
        by_cases z : 0 ≤ a0
        · exact .inl ⟨z, decide_eq_true z, decide_eq_false (by omega)⟩
        · exact .inr (decide_eq_false z)
      clear fine HP HQ
      rcases f2 with ⟨_, f1, f2⟩ | f1
      all_goals
        go_wp2_with fail
        refine (wire_Frame.calls k a0 AX cX l1 [] 1 _ HXr.out (by omega) HF.out).mono ?_
        rintro e wc ⟨vF, rfl, hrF, hb⟩
        replace HX := Aside0.mk (Kd.C_below HX.out hb)
        replace HXr := Aside0.mk (Kd.C_below HXr.out hb)
        replace HY := Aside0.mk (Kd.C_below HY.out hb)
        replace HYr := Aside0.mk (Kd.C_below HYr.out hb)
        replace H1 := Aside0.mk (Kd.C_below H1.out hb)
        replace H2 := Aside0.mk (Kd.C_below H2.out hb)
        replace HB := Aside0.mk (below_step HB.out hb)
        obtain ⟨AF, cF, rfl, _, hCF⟩ := Kd.R_reads hrF
        have HCF := Aside0.mk (Kd.C_drew hCF)
        replace HX := Aside0.mk (Kd.C_drew HX.out)
        replace HXr := Aside0.mk (Kd.C_drew HXr.out)
        replace HY := Aside0.mk (Kd.C_drew HY.out)
        replace HYr := Aside0.mk (Kd.C_drew HYr.out)
        replace H1 := Aside0.mk (Kd.C_drew H1.out)
        replace H2 := Aside0.mk (Kd.C_drew H2.out)
        replace HB := Aside0.mk (below_drew HB.out)
        clear hrF hb hCF
        go_wp2_with fail
        refine start_ (n := 31) (S := fun w' => True) (ds := []) #[false, false, false, false, false, false, false, false, false, false, false, false, false, false, false, false, false, false, false, false, false, false, false, false, false, false, false, false, false, false, false] (by kernel_rfl) rfl rfl trivial (fun hHeld => ?_)
        refine pure_ (i := 0) (N := some 44) (v := ?_) (a' := ?_) #[true, false, false, false, false, false, false, false, false, false, false, false, false, false, false, false, false, false, false, false, false, false, false, false, false, false, false, false, false, false, false] rfl rfl (by kernel_rfl) (fun _ _ _ h => h) (Or.inl ⟨by rfl, ?_⟩) ?_ ?_
        rotate_left
        · intro w'
          go_simp
          with_reducible rfl
        rotate_left
        · simp only [Act.put, List.setIfInBounds_toArray, List.set_cons_zero, List.set_cons_succ, i64_w, i32_w]
          rfl
        refine pure_ (i := 3) (N := some 47) (v := ?_) (a' := ?_) #[true, false, false, true, false, false, false, false, false, false, false, false, false, false, false, false, false, false, false, false, false, false, false, false, false, false, false, false, false, false, false] rfl rfl (by kernel_rfl) (fun _ _ _ h => h) (Or.inl ⟨by rfl, ?_⟩) ?_ ?_
        rotate_left
        · intro w'
          go_simp
          with_reducible rfl
        rotate_left
        · simp only [Act.put, List.setIfInBounds_toArray, List.set_cons_zero, List.set_cons_succ, i64_w, i32_w]
          rfl
        refine one_ (i := 1) (N := some 45) #[true, true, false, true, false, false, false, false, false, false, false, false, false, false, false, false, false, false, false, false, false, false, false, false, false, false, false, false, false, false, false] rfl rfl (by kernel_rfl) (by decide) (fun K hK => ?_)
        refine goes_ Try.func26 (by kernel_rfl) rfl #[.int .i64 1] (by rfl) rfl rfl (by simp only [List.map_toArray, List.map_cons, List.map_nil]; rfl) ?_
        with_reducible refine (glebelaw01_num.calls 1 1 _ rfl).mono ?_
        rintro e wx ⟨rfl, hbx0⟩
        refine ⟨_, rfl, ?_⟩
        have hbx := drawn_below hbx0
        replace HX := Aside0.mk (Kd.C_below HX.out hbx)
        replace HXr := Aside0.mk (Kd.C_below HXr.out hbx)
        replace HY := Aside0.mk (Kd.C_below HY.out hbx)
        replace HYr := Aside0.mk (Kd.C_below HYr.out hbx)
        replace H1 := Aside0.mk (Kd.C_below H1.out hbx)
        replace H2 := Aside0.mk (Kd.C_below H2.out hbx)
        replace HCF := Aside0.mk (Kd.C_below HCF.out hbx)
        replace HB := Aside0.mk (below_step HB.out hbx)
        clear hbx hbx0
        refine hK.out _ _ trivial (fun hHeld => ?_)
        clear hK K
        refine norm_ (a' := ?_) ?_ ?_
        rotate_left
        · show Act.put _ (some 45) _ = _
          simp only [Act.put, List.setIfInBounds_toArray, List.set_cons_zero, List.set_cons_succ, i64_w, i32_w]
          rfl
        refine pure_ (i := 2) (N := some 46) (v := ?_) (a' := ?_) #[true, true, true, true, false, false, false, false, false, false, false, false, false, false, false, false, false, false, false, false, false, false, false, false, false, false, false, false, false, false, false] rfl rfl (by kernel_rfl) (fun _ _ _ h => h) (Or.inl ⟨by rfl, ?_⟩) ?_ ?_
        rotate_left
        · intro w'
          go_simp
          with_reducible rfl
        rotate_left
        · simp only [Act.put, List.setIfInBounds_toArray, List.set_cons_zero, List.set_cons_succ, i64_w, i32_w]
          rfl
        refine pure_ (i := 4) (N := some 48) (v := ?_) (a' := ?_) #[true, true, true, true, true, false, false, false, false, false, false, false, false, false, false, false, false, false, false, false, false, false, false, false, false, false, false, false, false, false, false] rfl rfl (by kernel_rfl) (fun _ _ _ h => h) (Or.inl ⟨by rfl, ?_⟩) ?_ ?_
        rotate_left
        · intro w'
          go_simp
          with_reducible rfl
        rotate_left
        · simp only [Act.put, List.setIfInBounds_toArray, List.set_cons_zero, List.set_cons_succ, i64_w, i32_w]
          rfl
        refine pure_ (i := 5) (N := some 49) (v := ?_) (a' := ?_) #[true, true, true, true, true, true, false, false, false, false, false, false, false, false, false, false, false, false, false, false, false, false, false, false, false, false, false, false, false, false, false] rfl rfl (by kernel_rfl) (fun _ _ _ h => h) (Or.inl ⟨by rfl, ?_⟩) ?_ ?_
        rotate_left
        · intro w'
          go_simp
          with_reducible rfl
        rotate_left
        · simp only [Act.put, List.setIfInBounds_toArray, List.set_cons_zero, List.set_cons_succ, i64_w, i32_w]
          rfl
        refine pure_ (i := 6) (N := some 50) (v := ?_) (a' := ?_) #[true, true, true, true, true, true, true, false, false, false, false, false, false, false, false, false, false, false, false, false, false, false, false, false, false, false, false, false, false, false, false] rfl rfl (by kernel_rfl) (fun _ _ _ h => h) (Or.inl ⟨by rfl, ?_⟩) ?_ ?_
        rotate_left
        · intro w'
          go_simp
          with_reducible rfl
        rotate_left
        · simp only [Act.put, List.setIfInBounds_toArray, List.set_cons_zero, List.set_cons_succ, i64_w, i32_w]
          rfl
        refine pure_ (i := 7) (N := some 51) (v := ?_) (a' := ?_) #[true, true, true, true, true, true, true, true, false, false, false, false, false, false, false, false, false, false, false, false, false, false, false, false, false, false, false, false, false, false, false] rfl rfl (by kernel_rfl) (fun _ _ _ h => h) (Or.inl ⟨by rfl, ?_⟩) ?_ ?_
        rotate_left
        · intro w'
          go_simp
          with_reducible rfl
        rotate_left
        · simp only [Act.put, List.setIfInBounds_toArray, List.set_cons_zero, List.set_cons_succ, i64_w, i32_w]
          rfl
        refine pure_ (i := 8) (N := some 52) (v := ?_) (a' := ?_) #[true, true, true, true, true, true, true, true, true, false, false, false, false, false, false, false, false, false, false, false, false, false, false, false, false, false, false, false, false, false, false] rfl rfl (by kernel_rfl) (fun _ _ _ h => h) (Or.inl ⟨by rfl, ?_⟩) ?_ ?_
        rotate_left
        · intro w'
          go_simp
          with_reducible rfl
        rotate_left
        · simp only [Act.put, List.setIfInBounds_toArray, List.set_cons_zero, List.set_cons_succ, i64_w, i32_w]
          rfl
        refine pure_ (i := 9) (N := some 53) (v := ?_) (a' := ?_) #[true, true, true, true, true, true, true, true, true, true, false, false, false, false, false, false, false, false, false, false, false, false, false, false, false, false, false, false, false, false, false] rfl rfl (by kernel_rfl) (fun _ _ _ h => h) (Or.inl ⟨by rfl, ?_⟩) ?_ ?_
        rotate_left
        · intro w'
          go_simp
          with_reducible rfl
        rotate_left
        · simp only [Act.put, List.setIfInBounds_toArray, List.set_cons_zero, List.set_cons_succ, i64_w, i32_w]
          rfl
        refine one_ (i := 10) (N := some 54) #[true, true, true, true, true, true, true, true, true, true, true, false, false, false, false, false, false, false, false, false, false, false, false, false, false, false, false, false, false, false, false] rfl rfl (by kernel_rfl) (by decide) (fun K hK => ?_)
        refine goes_ Try.func26 (by kernel_rfl) rfl #[.int .i64 1] (by rfl) rfl rfl (by simp only [List.map_toArray, List.map_cons, List.map_nil]; rfl) ?_
        with_reducible refine (glebelaw01_num.calls 1 1 _ rfl).mono ?_
        rintro e wx ⟨rfl, hbx0⟩
        refine ⟨_, rfl, ?_⟩
        have hbx := drawn_below hbx0
        replace HX := Aside0.mk (Kd.C_below HX.out hbx)
        replace HXr := Aside0.mk (Kd.C_below HXr.out hbx)
        replace HY := Aside0.mk (Kd.C_below HY.out hbx)
        replace HYr := Aside0.mk (Kd.C_below HYr.out hbx)
        replace H1 := Aside0.mk (Kd.C_below H1.out hbx)
        replace H2 := Aside0.mk (Kd.C_below H2.out hbx)
        replace HCF := Aside0.mk (Kd.C_below HCF.out hbx)
        replace HB := Aside0.mk (below_step HB.out hbx)
        clear hbx hbx0
        refine hK.out _ _ trivial (fun hHeld => ?_)
        clear hK K
        refine norm_ (a' := ?_) ?_ ?_
        rotate_left
        · show Act.put _ (some 54) _ = _
          simp only [Act.put, List.setIfInBounds_toArray, List.set_cons_zero, List.set_cons_succ, i64_w, i32_w]
          rfl
        refine pure_ (i := 11) (N := some 55) (v := ?_) (a' := ?_) #[true, true, true, true, true, true, true, true, true, true, true, true, false, false, false, false, false, false, false, false, false, false, false, false, false, false, false, false, false, false, false] rfl rfl (by kernel_rfl) (fun _ _ _ h => h) (Or.inl ⟨by rfl, ?_⟩) ?_ ?_
        rotate_left
        · intro w'
          go_simp
          with_reducible rfl
        rotate_left
        · simp only [Act.put, List.setIfInBounds_toArray, List.set_cons_zero, List.set_cons_succ, i64_w, i32_w]
          rfl
        refine pure_ (i := 12) (N := some 56) (v := ?_) (a' := ?_) #[true, true, true, true, true, true, true, true, true, true, true, true, true, false, false, false, false, false, false, false, false, false, false, false, false, false, false, false, false, false, false] rfl rfl (by kernel_rfl) (fun _ _ _ h => h) (Or.inl ⟨by rfl, ?_⟩) ?_ ?_
        rotate_left
        · intro w'
          go_simp
          with_reducible rfl
        rotate_left
        · simp only [Act.put, List.setIfInBounds_toArray, List.set_cons_zero, List.set_cons_succ, i64_w, i32_w]
          rfl
        refine pure_ (i := 13) (N := some 57) (v := ?_) (a' := ?_) #[true, true, true, true, true, true, true, true, true, true, true, true, true, true, false, false, false, false, false, false, false, false, false, false, false, false, false, false, false, false, false] rfl rfl (by kernel_rfl) (fun _ _ _ h => h) (Or.inl ⟨by rfl, ?_⟩) ?_ ?_
        rotate_left
        · intro w'
          go_simp
          with_reducible rfl
        rotate_left
        · simp only [Act.put, List.setIfInBounds_toArray, List.set_cons_zero, List.set_cons_succ, i64_w, i32_w]
          rfl
        refine pure_ (i := 14) (N := some 58) (v := ?_) (a' := ?_) #[true, true, true, true, true, true, true, true, true, true, true, true, true, true, true, false, false, false, false, false, false, false, false, false, false, false, false, false, false, false, false] rfl rfl (by kernel_rfl) (fun _ _ _ h => h) (Or.inl ⟨by rfl, ?_⟩) ?_ ?_
        rotate_left
        · intro w'
          go_simp
          with_reducible rfl
        rotate_left
        · simp only [Act.put, List.setIfInBounds_toArray, List.set_cons_zero, List.set_cons_succ, i64_w, i32_w]
          rfl
        refine pure_ (i := 15) (N := some 59) (v := ?_) (a' := ?_) #[true, true, true, true, true, true, true, true, true, true, true, true, true, true, true, true, false, false, false, false, false, false, false, false, false, false, false, false, false, false, false] rfl rfl (by kernel_rfl) (fun _ _ _ h => h) (Or.inl ⟨by rfl, ?_⟩) ?_ ?_
        rotate_left
        · intro w'
          go_simp
          with_reducible rfl
        rotate_left
        · simp only [Act.put, List.setIfInBounds_toArray, List.set_cons_zero, List.set_cons_succ, i64_w, i32_w]
          rfl
        refine pure_ (i := 16) (N := some 60) (v := ?_) (a' := ?_) #[true, true, true, true, true, true, true, true, true, true, true, true, true, true, true, true, true, false, false, false, false, false, false, false, false, false, false, false, false, false, false] rfl rfl (by kernel_rfl) (fun _ _ _ h => h) (Or.inl ⟨by rfl, ?_⟩) ?_ ?_
        rotate_left
        · intro w'
          go_simp
          with_reducible rfl
        rotate_left
        · simp only [Act.put, List.setIfInBounds_toArray, List.set_cons_zero, List.set_cons_succ, i64_w, i32_w]
          rfl
        refine pure_ (i := 17) (N := some 61) (v := ?_) (a' := ?_) #[true, true, true, true, true, true, true, true, true, true, true, true, true, true, true, true, true, true, false, false, false, false, false, false, false, false, false, false, false, false, false] rfl rfl (by kernel_rfl) (fun _ _ _ h => h) (Or.inl ⟨by rfl, ?_⟩) ?_ ?_
        rotate_left
        · intro w'
          go_simp
          with_reducible rfl
        rotate_left
        · simp only [Act.put, List.setIfInBounds_toArray, List.set_cons_zero, List.set_cons_succ, i64_w, i32_w]
          rfl
        refine pure_ (i := 18) (N := some 62) (v := ?_) (a' := ?_) #[true, true, true, true, true, true, true, true, true, true, true, true, true, true, true, true, true, true, true, false, false, false, false, false, false, false, false, false, false, false, false] rfl rfl (by kernel_rfl) (fun _ _ _ h => h) (Or.inl ⟨by rfl, ?_⟩) ?_ ?_
        rotate_left
        · intro w'
          go_simp
          with_reducible rfl
        rotate_left
        · simp only [Act.put, List.setIfInBounds_toArray, List.set_cons_zero, List.set_cons_succ, i64_w, i32_w]
          rfl
        refine pure_ (i := 19) (N := some 63) (v := ?_) (a' := ?_) #[true, true, true, true, true, true, true, true, true, true, true, true, true, true, true, true, true, true, true, true, false, false, false, false, false, false, false, false, false, false, false] rfl rfl (by kernel_rfl) (fun _ _ _ h => h) (Or.inl ⟨by rfl, ?_⟩) ?_ ?_
        rotate_left
        · intro w'
          go_simp
          with_reducible rfl
        rotate_left
        · simp only [Act.put, List.setIfInBounds_toArray, List.set_cons_zero, List.set_cons_succ, i64_w, i32_w]
          rfl
        refine pure_ (i := 20) (N := some 64) (v := ?_) (a' := ?_) #[true, true, true, true, true, true, true, true, true, true, true, true, true, true, true, true, true, true, true, true, true, false, false, false, false, false, false, false, false, false, false] rfl rfl (by kernel_rfl) (fun _ _ _ h => h) (Or.inl ⟨by rfl, ?_⟩) ?_ ?_
        rotate_left
        · intro w'
          go_simp
          with_reducible rfl
        rotate_left
        · simp only [Act.put, List.setIfInBounds_toArray, List.set_cons_zero, List.set_cons_succ, i64_w, i32_w]
          rfl
        refine pure_ (i := 21) (N := some 65) (v := ?_) (a' := ?_) #[true, true, true, true, true, true, true, true, true, true, true, true, true, true, true, true, true, true, true, true, true, true, false, false, false, false, false, false, false, false, false] rfl rfl (by kernel_rfl) (fun _ _ _ h => h) (Or.inl ⟨by rfl, ?_⟩) ?_ ?_
        rotate_left
        · intro w'
          go_simp
          with_reducible rfl
        rotate_left
        · simp only [Act.put, List.setIfInBounds_toArray, List.set_cons_zero, List.set_cons_succ, i64_w, i32_w]
          rfl
        refine pure_ (i := 22) (N := some 66) (v := undef) (a' := ?_) #[true, true, true, true, true, true, true, true, true, true, true, true, true, true, true, true, true, true, true, true, true, true, true, false, false, false, false, false, false, false, false] rfl rfl (by kernel_rfl) (fun _ _ _ h => h) (Or.inr ⟨by rfl, rfl⟩) ?_ ?_
        rotate_left
        · simp only [Act.put, List.setIfInBounds_toArray, List.set_cons_zero, List.set_cons_succ, i64_w, i32_w]
          rfl
        refine pure_ (i := 23) (N := some 67) (v := undef) (a' := ?_) #[true, true, true, true, true, true, true, true, true, true, true, true, true, true, true, true, true, true, true, true, true, true, true, true, false, false, false, false, false, false, false] rfl rfl (by kernel_rfl) (fun _ _ _ h => h) (Or.inr ⟨by rfl, rfl⟩) ?_ ?_
        rotate_left
        · simp only [Act.put, List.setIfInBounds_toArray, List.set_cons_zero, List.set_cons_succ, i64_w, i32_w]
          rfl
        refine pure_ (i := 24) (N := some 68) (v := undef) (a' := ?_) #[true, true, true, true, true, true, true, true, true, true, true, true, true, true, true, true, true, true, true, true, true, true, true, true, true, false, false, false, false, false, false] rfl rfl (by kernel_rfl) (fun _ _ _ h => h) (Or.inr ⟨by rfl, rfl⟩) ?_ ?_
        rotate_left
        · simp only [Act.put, List.setIfInBounds_toArray, List.set_cons_zero, List.set_cons_succ, i64_w, i32_w]
          rfl
        refine pure_ (i := 25) (N := some 69) (v := undef) (a' := ?_) #[true, true, true, true, true, true, true, true, true, true, true, true, true, true, true, true, true, true, true, true, true, true, true, true, true, true, false, false, false, false, false] rfl rfl (by kernel_rfl) (fun _ _ _ h => h) (Or.inr ⟨by rfl, rfl⟩) ?_ ?_
        rotate_left
        · simp only [Act.put, List.setIfInBounds_toArray, List.set_cons_zero, List.set_cons_succ, i64_w, i32_w]
          rfl
        refine pure_ (i := 26) (N := some 70) (v := undef) (a' := ?_) #[true, true, true, true, true, true, true, true, true, true, true, true, true, true, true, true, true, true, true, true, true, true, true, true, true, true, true, false, false, false, false] rfl rfl (by kernel_rfl) (fun _ _ _ h => h) (Or.inr ⟨by rfl, rfl⟩) ?_ ?_
        rotate_left
        · simp only [Act.put, List.setIfInBounds_toArray, List.set_cons_zero, List.set_cons_succ, i64_w, i32_w]
          rfl
        refine pure_ (i := 27) (N := some 71) (v := undef) (a' := ?_) #[true, true, true, true, true, true, true, true, true, true, true, true, true, true, true, true, true, true, true, true, true, true, true, true, true, true, true, true, false, false, false] rfl rfl (by kernel_rfl) (fun _ _ _ h => h) (Or.inr ⟨by rfl, rfl⟩) ?_ ?_
        rotate_left
        · simp only [Act.put, List.setIfInBounds_toArray, List.set_cons_zero, List.set_cons_succ, i64_w, i32_w]
          rfl
        refine pure_ (i := 28) (N := some 72) (v := undef) (a' := ?_) #[true, true, true, true, true, true, true, true, true, true, true, true, true, true, true, true, true, true, true, true, true, true, true, true, true, true, true, true, true, false, false] rfl rfl (by kernel_rfl) (fun _ _ _ h => h) (Or.inr ⟨by rfl, rfl⟩) ?_ ?_
        rotate_left
        · simp only [Act.put, List.setIfInBounds_toArray, List.set_cons_zero, List.set_cons_succ, i64_w, i32_w]
          rfl
        refine pure_ (i := 29) (N := some 73) (v := ?_) (a' := ?_) #[true, true, true, true, true, true, true, true, true, true, true, true, true, true, true, true, true, true, true, true, true, true, true, true, true, true, true, true, true, true, false] rfl rfl (by kernel_rfl) (fun _ _ _ h => h) (Or.inl ⟨by rfl, ?_⟩) ?_ ?_
        rotate_left
        · intro w'
          go_simp
          with_reducible rfl
        rotate_left
        · simp only [Act.put, List.setIfInBounds_toArray, List.set_cons_zero, List.set_cons_succ, i64_w, i32_w]
          rfl
        refine pure_ (i := 30) (N := some 74) (v := ?_) (a' := ?_) #[true, true, true, true, true, true, true, true, true, true, true, true, true, true, true, true, true, true, true, true, true, true, true, true, true, true, true, true, true, true, true] rfl rfl (by kernel_rfl) (fun _ _ _ h => h) (Or.inl ⟨by rfl, ?_⟩) ?_ ?_
        rotate_left
        · intro w'
          go_simp
          with_reducible rfl
        rotate_left
        · simp only [Act.put, List.setIfInBounds_toArray, List.set_cons_zero, List.set_cons_succ, i64_w, i32_w]
          rfl
        refine done_ (by kernel_rfl) ?_
        go_wp2_with fail
        rename World => wU
        refine (wire_Unframe.calls k AY cY l2 u1 u2 u3 _ HYr.out (by omega) HU.out).mono ?_
        rintro e wd ⟨vU, rfl, hrU, hb⟩
        have HBU := Aside0.mk hb
        have HRU := Aside0.mk hrU
        clear hb hrU
        go_wp2_with fail
        refine (gleberef01_Unframe.calls k A2 c2 l2 u1 u2 u3 _ (Kd.C_below H2.out HBU.out) hc2 HV.out).mono ?_
        rintro e we ⟨vV, rfl, hrV, hb⟩
        replace HBU := Aside0.mk (below_step HBU.out hb)
        replace HRU := Aside0.mk (Kd.R_below HRU.out hb)
        obtain ⟨AV, cV, rfl, _, hCV⟩ := Kd.R_reads hrV
        obtain ⟨AU, cU, rfl⟩ := Kd.R_slice HRU.out
        have hbd : u2.length ≤ 9223372036854775807 := (Kd.R_reads' HRU.out).2.2.2.1
        have hcvu := Kd.C_string (P := Try.prog) (A := AU) (c := cU) Try.underlying33 Try.underlying5 Try.underlying9 (Kd.R_reads' HRU.out).2.2
        have hcvv := Kd.C_string (P := Try.prog) (A := AV) (c := cV) Try.underlying33 Try.underlying5 Try.underlying9 hCV
        clear hb hrV hCV
        go_wp2_with fail
        refine (glebelaw01_num.calls u3 u3 _ rfl).mono ?_
        rintro e wf ⟨rfl, hb⟩
        have hb := drawn_below hb
        replace HBU := Aside0.mk (below_step HBU.out hb)
        replace HRU := Aside0.mk (Kd.R_below HRU.out hb)
        clear hb hcvu hcvv
        go_wp2
        go_loopw [18] (fun i wr => ∃ (j : Nat) (lj : List Int), j ≤ u2.length ∧ lj.length = u2.length ∧ i = .int .i64 j ∧ Aside0 (Kd.R (Kd.int .u8) 5 wr wU.heap.size (fun _ => True) (.slice AU u2.length cU) lj) ∧ Aside0 (Below wU.heap.size wU wr)) (fun i _ => u2.length - (intOf i).toNat)
        case atStart => exact ⟨0, u2, by omega, rfl, rfl, HRU, HBU⟩
        case round =>
          obtain ⟨j, lj, hj, hlj, rfl, HR, HBR⟩ := hrel
          clear HRU HBU
          by_cases hlt : j < u2.length
          · obtain ⟨go, co, eo, gb, gl, cl, HG⟩ := Kd.R_form HR.out (by omega)
            injection eo with ea en ec
            subst ea ec
            have GB := Aside0.mk gb
            clear en gl cl HG gb
            obtain ⟨hx, hf⟩ := Kd.R_celln 0 HR.out (j : Int) (by omega) (by omega)
            have hx2 : wr.cell? ⟨go, j, none⟩ = some (.int .u8 (rd lj j)) := hx
            have hf2 : wr.frozen? ⟨go, j, none⟩ = false := hf
            have HP1 : Aside0 (Kd.R (Kd.int .u8) 5 (wr.setCell ⟨go, j, none⟩ (.int .u8 ((rd lj j + 1) % 256))) wU.heap.size (fun _ => True) (.slice (some ⟨go, 0, none⟩) u2.length cU) (lj.set j ((rd lj j + 1) % 256))) := ⟨(Kd.R_putg HR.out (j : Int) ((rd lj j + 1) % 256)).1⟩
            clear hx hf
            go_wp2
            go_roundw
            case rel => exact ⟨j + 1, lj.set j ((rd lj j + 1) % 256), by omega, by simp [hlj], by go_num, HP1, ⟨below_set HBR.out GB.out⟩⟩
            case measure => simp [intOf]; omega
          · obtain rfl : j = u2.length := by omega
            go_wp2_with fail
            refine (glebelaw01_Stays.calls AX cX l1 A1 c1 l1 true _ (Kd.C_below HX.out HBR.out) hcX (Kd.C_below H1.out HBR.out) hc1 (if_pos rfl)).mono ?_
            rintro e wg ⟨rfl, hb⟩
            replace HBR := Aside0.mk (below_step HBR.out (drawn_below hb))
            clear hb
            go_wp2_with fail
            refine (glebelaw01_Stays.calls AY cY l2 A2 c2 l2 true _ (Kd.C_below HY.out HBR.out) hcY (Kd.C_below H2.out HBR.out) hc2 (if_pos rfl)).mono ?_
            rintro e wg ⟨rfl, hb⟩
            replace HBR := Aside0.mk (below_step HBR.out (drawn_below hb))
            clear hb
            go_wp2_with fail
            refine (glebelaw01_knows.calls 0 true _ rfl).mono ?_
            rintro e wh ⟨rfl, hb⟩
            replace HBR := Aside0.mk (below_step HB.out (below_step HBR.out hb))
            clear hb
            go_wp2
            go_ret
            exact ⟨rfl, HBR.out⟩

end Go.Proofs.Ytimfeiobdcmhnaa.PR
