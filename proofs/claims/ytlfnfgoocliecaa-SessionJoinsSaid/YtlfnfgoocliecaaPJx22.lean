-- Written by a program of this session (wip/tools/hp.py) over the kit's print; nothing here is trusted: Lean checks it.
import Derived.RegionTactic
import Derived.BigRegion
import Derived.Test.YtlfnfgoocliecaaSessLightJ
import Derived.Test.YtlfnfgoocliecaaSessJoin
import Derived.Test.YtlfnfgoocliecaaPJx0
import Derived.Test.YtlfnfgoocliecaaPJx1
import Derived.Test.YtlfnfgoocliecaaPJx2
import Derived.Test.YtlfnfgoocliecaaPJx10
import Derived.Test.YtlfnfgoocliecaaPJx12
import Derived.Test.YtlfnfgoocliecaaPJx18
import Derived.Test.YtlfnfgoocliecaaPJx20
import Derived.Test.YtlfnfgoocliecaaPJx21
namespace Go.Proofs.Ytlfnfgoocliecaa.PJ
open Go.RowKit Go.Proofs.YtlfnfgoocliecaaW.PrintWords Go.Proofs.YtlfnfgoocliecaaW.PrintLast Go.Proofs.YtlfnfgoocliecaaW.PrintMore
attribute [local go_sem] max2_int min2_int max_two min_two max_three min_three max_four min_four   -- for this text's walks alone
set_option linter.unusedVariables false
set_option linter.unusedSimpArgs false

--OWN Derived.RegionTactic,Derived.BigRegion,Derived.Test.YtlfnfgoocliecaaSessLightJ,Derived.Test.YtlfnfgoocliecaaSessJoin
/-! ### glebelaw09_SessionJoins: function 4 -/
theorem IsTab.low {w0 w1 w : World} {g : Nat} {R : Nat → SRow} (h : IsTab w1 w g R) (hs : w0.heap.size ≤ w1.heap.size) : IsTab w0 w g R := ⟨Nat.le_trans hs h.base, h.blk⟩
theorem ans_eql (a x : SRow) : ∃ b : Bool, (∀ W, (Op.equalIn 10000 34 (.agg #[.int .i64 a.e, .bool a.f, .string a.v, .int .i64 a.n]) (.agg #[.int .i64 x.e, .bool x.f, .string x.v, .int .i64 x.n])).run Try.prog W = .ok b W) ∧ (a = x → b = true) := by
  have u34 := Try.underlying34
  have u31 := Try.underlying31
  have u3 := Try.underlying3
  have u4 := Try.underlying4
  have u9 := Try.underlying9
  obtain ⟨ce, he⟩ : ∃ c, (a.e == x.e) = c := ⟨_, rfl⟩
  obtain ⟨cf, hf⟩ : ∃ c, (a.f == x.f) = c := ⟨_, rfl⟩
  obtain ⟨cv, hv⟩ : ∃ c, (a.v.toList == x.v.toList) = c := ⟨_, rfl⟩
  obtain ⟨cn, hn⟩ : ∃ c, (a.n == x.n) = c := ⟨_, rfl⟩
  refine ⟨ce && (cf && (cv && cn)), fun W => ?_, ?_⟩
  · rw [run_equalIn_struct W 9999 34 _ _ (by kernel_rfl) (by kernel_rfl)]
    cases ce <;> cases cf <;> cases cv <;> cases cn <;> go_simp
  · rintro rfl
    simp at he hf hv hn
    simp [he, hf, hv, hn]
theorem q_eql (a x : Int) : ∃ c : Bool, (a == x) = c ∧ (a = x) = (c = true) := ⟨a == x, rfl, by simp⟩
theorem Bool.false_eq_true_ : (false = true) = False := by simp
theorem eq_self_true_ : (true = true) = True := by simp
def glebelaw09_SessionJoins.f (k : Nat) (l0 l1 l2 : List S26) : Option Bool := some true
set_option maxHeartbeats 8000000 in
set_option maxRecDepth 100000 in
theorem glebelaw09_SessionJoins.calls (k : Nat) (A0 : Option Addr) (c0 : Nat) (l0 : List S26) (A1 : Option Addr) (c1 : Nat) (l1 : List S26) (A2 : Option Addr) (c2 : Nat) (l2 : List S26) (r : Bool) (w : World) (hr0 : Kd.C k26 w A0 l0.length l0) (hc0 : l0.length ≤ c0) (hr1 : Kd.C k26 w A1 l1.length l1) (hc1 : l1.length ≤ c1) (hr2 : Kd.C k26 w A2 l2.length l2) (hc2 : l2.length ≤ c2) (h : glebelaw09_SessionJoins.f k l0 l1 l2 = some r) :
    Calls Try.prog 4 #[.slice A0 l0.length c0, .slice A1 l1.length c1, .slice A2 l2.length c2] w fun e w' => e = .returned (.bool r) ∧ Below w.heap.size w w' := by
  obtain rfl := Option.some.inj h
  clear h
  have H0 := Aside0.mk hr0
  have H1 := Aside0.mk hr1
  have H2 := Aside0.mk hr2
  obtain ⟨b0, hb0⟩ := light_total l0 hr0.2.1
  obtain ⟨b1, hb1⟩ := light_total l1 hr1.2.1
  obtain ⟨b2, hb2⟩ := light_total l2 hr2.2.1
  have HL0 := Aside0.mk hb0
  have HL1 := Aside0.mk hb1
  have HL2 := Aside0.mk hb2
  have HB := Aside0.mk (Below.refl w.heap.size w)
  clear hr0 hr1 hr2 hb0 hb1 hb2
  go_enter Try.func4, Try.ntmps4
  go_wp2_with fail
  refine (glebelaw09_Light.calls 200 A0 c0 l0 b0 _ H0.out hc0 HL0.out).mono ?_
  rintro e wl0 ⟨rfl, hd⟩
  have hb := drawn_below hd
  replace H0 := Aside0.mk (Kd.C_below H0.out hb)
  replace H1 := Aside0.mk (Kd.C_below H1.out hb)
  replace H2 := Aside0.mk (Kd.C_below H2.out hb)
  replace HB := Aside0.mk (below_step HB.out hb)
  clear hb hd HL0
  cases b0
  focus
    go_wp2_with fail
    refine (glebelaw09_knows.calls true _ rfl).mono ?_
    rintro e w2 ⟨rfl, hb⟩
    replace HB := Aside0.mk (below_step HB.out hb)
    clear hb
    go_wp2
    go_ret
    exact ⟨rfl, HB.out⟩
  go_wp2_with fail
  refine (glebelaw09_Light.calls 200 A1 c1 l1 b1 _ H1.out hc1 HL1.out).mono ?_
  rintro e wl1 ⟨rfl, hd⟩
  have hb := drawn_below hd
  replace H0 := Aside0.mk (Kd.C_below H0.out hb)
  replace H1 := Aside0.mk (Kd.C_below H1.out hb)
  replace H2 := Aside0.mk (Kd.C_below H2.out hb)
  replace HB := Aside0.mk (below_step HB.out hb)
  clear hb hd HL1
  cases b1
  focus
    go_wp2_with fail
    refine (glebelaw09_knows.calls true _ rfl).mono ?_
    rintro e w2 ⟨rfl, hb⟩
    replace HB := Aside0.mk (below_step HB.out hb)
    clear hb
    go_wp2
    go_ret
    exact ⟨rfl, HB.out⟩
  go_wp2_with fail
  refine (glebelaw09_Light.calls 200 A2 c2 l2 b2 _ H2.out hc2 HL2.out).mono ?_
  rintro e wl2 ⟨rfl, hd⟩
  have hb := drawn_below hd
  replace H0 := Aside0.mk (Kd.C_below H0.out hb)
  replace H1 := Aside0.mk (Kd.C_below H1.out hb)
  replace H2 := Aside0.mk (Kd.C_below H2.out hb)
  replace HB := Aside0.mk (below_step HB.out hb)
  clear hb hd HL2
  cases b2
  focus
    go_wp2_with fail
    refine (glebelaw09_knows.calls true _ rfl).mono ?_
    rintro e w2 ⟨rfl, hb⟩
    replace HB := Aside0.mk (below_step HB.out hb)
    clear hb
    go_wp2
    go_ret
    exact ⟨rfl, HB.out⟩
  go_wp2_with fail
  refine (glebelaw09_both.calls A0 c0 l0 _ H0.out hc0).mono ?_
  rintro e wb0 ⟨g0, q0, R0, rfl, hT, _, hb⟩
  have HT0 := Aside0.mk (hT.low (w0 := w) HB.out.size)
  replace H0 := Aside0.mk (Kd.C_below H0.out hb)
  replace H1 := Aside0.mk (Kd.C_below H1.out hb)
  replace H2 := Aside0.mk (Kd.C_below H2.out hb)
  replace HB := Aside0.mk (below_step HB.out hb)
  clear hT hb
  go_wp2_with fail
  refine (glebelaw09_both.calls A1 c1 l1 _ H1.out hc1).mono ?_
  rintro e wb1 ⟨g1, q1, R1, rfl, hT, _, hb⟩
  have HT1 := Aside0.mk (hT.low (w0 := w) HB.out.size)
  replace H0 := Aside0.mk (Kd.C_below H0.out hb)
  replace H1 := Aside0.mk (Kd.C_below H1.out hb)
  replace H2 := Aside0.mk (Kd.C_below H2.out hb)
  replace HT0 := Aside0.mk (HT0.out.below hb)
  replace HB := Aside0.mk (below_step HB.out hb)
  clear hT hb
  go_wp2_with fail
  refine (glebelaw09_both.calls A2 c2 l2 _ H2.out hc2).mono ?_
  rintro e wb2 ⟨g2, q2, R2, rfl, hT, _, hb⟩
  have HT2 := Aside0.mk (hT.low (w0 := w) HB.out.size)
  replace H0 := Aside0.mk (Kd.C_below H0.out hb)
  replace H1 := Aside0.mk (Kd.C_below H1.out hb)
  replace H2 := Aside0.mk (Kd.C_below H2.out hb)
  replace HT0 := Aside0.mk (HT0.out.below hb)
  replace HT1 := Aside0.mk (HT1.out.below hb)
  replace HB := Aside0.mk (below_step HB.out hb)
  clear hT hb
  go_wp2_with fail
  refine (session_Table_Join.calls g0 g1 R0 R1 w _ HT0.out HT1.out).mono ?_
  rintro e wj3 ⟨g3, rfl, hT, hb⟩
  have HT3 := Aside0.mk (hT.low (w0 := w) HB.out.size)
  replace HT0 := Aside0.mk (HT0.out.below hb)
  replace HT1 := Aside0.mk (HT1.out.below hb)
  replace HT2 := Aside0.mk (HT2.out.below hb)
  replace HB := Aside0.mk (below_step HB.out hb)
  clear hT hb
  obtain ⟨R3, hR3⟩ : ∃ R, R = joinUp R0 R1 8 := ⟨_, rfl⟩
  rw [← hR3] at HT3
  go_wp2_with fail
  refine (session_Table_Join.calls g3 g2 R3 R2 w _ HT3.out HT2.out).mono ?_
  rintro e wj4 ⟨g4, rfl, hT, hb⟩
  have HT4 := Aside0.mk (hT.low (w0 := w) HB.out.size)
  replace HT0 := Aside0.mk (HT0.out.below hb)
  replace HT1 := Aside0.mk (HT1.out.below hb)
  replace HT2 := Aside0.mk (HT2.out.below hb)
  replace HT3 := Aside0.mk (HT3.out.below hb)
  replace HB := Aside0.mk (below_step HB.out hb)
  clear hT hb
  obtain ⟨R4, hR4⟩ : ∃ R, R = joinUp R3 R2 8 := ⟨_, rfl⟩
  rw [← hR4] at HT4
  go_wp2_with fail
  refine (session_Table_Join.calls g1 g2 R1 R2 w _ HT1.out HT2.out).mono ?_
  rintro e wj5 ⟨g5, rfl, hT, hb⟩
  have HT5 := Aside0.mk (hT.low (w0 := w) HB.out.size)
  replace HT0 := Aside0.mk (HT0.out.below hb)
  replace HT1 := Aside0.mk (HT1.out.below hb)
  replace HT2 := Aside0.mk (HT2.out.below hb)
  replace HT3 := Aside0.mk (HT3.out.below hb)
  replace HT4 := Aside0.mk (HT4.out.below hb)
  replace HB := Aside0.mk (below_step HB.out hb)
  clear hT hb
  obtain ⟨R5, hR5⟩ : ∃ R, R = joinUp R1 R2 8 := ⟨_, rfl⟩
  rw [← hR5] at HT5
  go_wp2_with fail
  refine (session_Table_Join.calls g0 g5 R0 R5 w _ HT0.out HT5.out).mono ?_
  rintro e wj6 ⟨g6, rfl, hT, hb⟩
  have HT6 := Aside0.mk (hT.low (w0 := w) HB.out.size)
  replace HT0 := Aside0.mk (HT0.out.below hb)
  replace HT1 := Aside0.mk (HT1.out.below hb)
  replace HT2 := Aside0.mk (HT2.out.below hb)
  replace HT3 := Aside0.mk (HT3.out.below hb)
  replace HT4 := Aside0.mk (HT4.out.below hb)
  replace HT5 := Aside0.mk (HT5.out.below hb)
  replace HB := Aside0.mk (below_step HB.out hb)
  clear hT hb
  obtain ⟨R6, hR6⟩ : ∃ R, R = joinUp R0 R5 8 := ⟨_, rfl⟩
  rw [← hR6] at HT6
  have hs1 : ∀ i, i < 8 → R4 i = R6 i := by
    intro i hi
    rw [hR4, hR3, hR6, hR5]
    exact join_assoc R0 R1 R2 i hi
  have h3 := join_three R0 R1 R2
  rw [← hR3, ← hR4] at h3
  have H3 := Aside0.mk h3
  clear h3
  go_wp2_with fail
  refine (session_Table_Same.calls g4 g6 R4 R6 w _ HT4.out HT6.out hs1).mono ?_
  rintro e ws4 ⟨rfl, hb⟩
  replace HT0 := Aside0.mk (HT0.out.below hb)
  replace HT1 := Aside0.mk (HT1.out.below hb)
  replace HT2 := Aside0.mk (HT2.out.below hb)
  replace HT4 := Aside0.mk (HT4.out.below hb)
  replace HB := Aside0.mk (below_step HB.out hb)
  clear hb
  go_wp2_with fail
  refine (session_Table_Join.calls g0 g0 R0 R0 w _ HT0.out HT0.out).mono ?_
  rintro e wj7 ⟨g7, rfl, hT, hb⟩
  have HT7 := Aside0.mk (hT.low (w0 := w) HB.out.size)
  replace HT0 := Aside0.mk (HT0.out.below hb)
  replace HT1 := Aside0.mk (HT1.out.below hb)
  replace HT2 := Aside0.mk (HT2.out.below hb)
  replace HT4 := Aside0.mk (HT4.out.below hb)
  replace HB := Aside0.mk (below_step HB.out hb)
  clear hT hb
  obtain ⟨R7, hR7⟩ : ∃ R, R = joinUp R0 R0 8 := ⟨_, rfl⟩
  rw [← hR7] at HT7
  have hs2 : ∀ i, i < 8 → R7 i = R0 i := by
    intro i hi
    rw [hR7]
    exact join_self R0 i hi
  go_wp2_with fail
  refine (session_Table_Same.calls g7 g0 R7 R0 w _ HT7.out HT0.out hs2).mono ?_
  rintro e ws7 ⟨rfl, hb⟩
  replace HT0 := Aside0.mk (HT0.out.below hb)
  replace HT1 := Aside0.mk (HT1.out.below hb)
  replace HT2 := Aside0.mk (HT2.out.below hb)
  replace HT4 := Aside0.mk (HT4.out.below hb)
  replace HB := Aside0.mk (below_step HB.out hb)
  clear hb
  go_wp2_with fail
  refine (glebelaw09_knows.calls true _ rfl).mono ?_
  rintro e wk ⟨rfl, hb⟩
  replace HT0 := Aside0.mk (HT0.out.below hb)
  replace HT1 := Aside0.mk (HT1.out.below hb)
  replace HT2 := Aside0.mk (HT2.out.below hb)
  replace HT4 := Aside0.mk (HT4.out.below hb)
  replace HB := Aside0.mk (below_step HB.out hb)
  clear hb hs1 hs2 hR3 hR4 hR5 hR6 hR7 HT3 HT5 HT6 HT7 H0 H1 H2
  go_wp2
  go_loopw [15] (fun i wr => ∃ j : Nat, j ≤ 8 ∧ i = .int .i64 j ∧ Aside0 (IsTab w wr g4 R4) ∧ Aside0 (IsTab w wr g0 R0) ∧ Aside0 (IsTab w wr g1 R1) ∧ Aside0 (IsTab w wr g2 R2) ∧ Aside0 (Below w.heap.size w wr)) (fun i _ => 8 - (intOf i).toNat)
  case atStart => exact ⟨0, by omega, rfl, HT4, HT0, HT1, HT2, HB⟩
  case round =>
    obtain ⟨j, hj, rfl, HA, HX, HY, HZ, HBJ⟩ := hrel
    clear HT4 HT0 HT1 HT2 HB
    by_cases hlt : j < 8
    · have hlt2 : decide ((j : Int) < 8) = true := decide_eq_true (by omega)
      have ht : ∀ R : Nat → SRow, tLast R (j : Int) = R j := by
        intro R
        unfold tLast
        rw [if_pos ⟨by omega, by omega⟩, Int.toNat_natCast]
      have tA := ht R4
      have tX := ht R0
      have tY := ht R1
      have tZ := ht R2
      have h3j := H3.out j hlt
      generalize R4 j = ra at tA h3j
      generalize R0 j = rx at tX h3j
      generalize R1 j = ry at tY h3j
      generalize R2 j = rz at tZ h3j
      clear ht
      obtain ⟨o1, o2, o3, ho⟩ := h3j
      go_wp2_with fail
      refine (session_Table_Last.calls g4 R4 j w _ HA.out).mono ?_
      rintro e wb17 ⟨rfl, _, hb⟩
      rw [tA]
      unfold SRow.ans
      replace HA := Aside0.mk (HA.out.below hb)
      replace HX := Aside0.mk (HX.out.below hb)
      replace HY := Aside0.mk (HY.out.below hb)
      replace HZ := Aside0.mk (HZ.out.below hb)
      replace HBJ := Aside0.mk (below_step HBJ.out hb)
      clear hb
      go_wp2_with (first | ((with_reducible refine gate_dst (N := 17) rfl ?_); refine box_event ?hg (N := 17) ?hd (cs := #[.int .i64 0, .bool false, .string ⟨#[]⟩, .int .i64 0]) (t := 34) ?hr ?_; (case hd => rfl); (case hg => rfl); (case hr => first | (go_simp; done) | (go_simp; rfl)); intro g_17 hg w17 hbox hb; have HBX := Aside0.mk hbox; have HBb := Aside0.mk hb; have HG := Aside0.mk hg; have h0 := blk_cell hbox 0; have h1 := blk_cell hbox 1; have h2 := blk_cell hbox 2; have h3 := blk_cell hbox 3; have f0 := blk_frozen hbox 0; have f1 := blk_frozen hbox 1; have f2 := blk_frozen hbox 2; have f3 := blk_frozen hbox 3; clear hbox hb hg) | fail)
      have hS := below4 HBb.out (Nat.le_of_eq HG.out.symm) (.int .i64 ra.e) (.bool ra.f) (.string ra.v) (.int .i64 ra.n)
      have B17 := Aside0.mk (set4 HBX.out (.int .i64 ra.e) (.bool ra.f) (.string ra.v) (.int .i64 ra.n))
      replace HA := Aside0.mk (HA.out.below hS)
      replace HX := Aside0.mk (HX.out.below hS)
      replace HY := Aside0.mk (HY.out.below hS)
      replace HZ := Aside0.mk (HZ.out.below hS)
      replace HBJ := Aside0.mk (below_step HBJ.out hS)
      clear hS HBX HBb HG h0 h1 h2 h3 f0 f1 f2 f3
      refine (session_Table_Last.calls g0 R0 j w _ HX.out).mono ?_
      rintro e wb19 ⟨rfl, _, hb⟩
      rw [tX]
      unfold SRow.ans
      replace HA := Aside0.mk (HA.out.below hb)
      replace HX := Aside0.mk (HX.out.below hb)
      replace HY := Aside0.mk (HY.out.below hb)
      replace HZ := Aside0.mk (HZ.out.below hb)
      replace B17 := Aside0.mk (blk_below B17.out hb)
      replace HBJ := Aside0.mk (below_step HBJ.out hb)
      clear hb
      go_wp2_with (first | ((with_reducible refine gate_dst (N := 19) rfl ?_); refine box_event ?hg (N := 19) ?hd (cs := #[.int .i64 0, .bool false, .string ⟨#[]⟩, .int .i64 0]) (t := 34) ?hr ?_; (case hd => rfl); (case hg => rfl); (case hr => first | (go_simp; done) | (go_simp; rfl)); intro g_19 hg w19 hbox hb; have HBX := Aside0.mk hbox; have HBb := Aside0.mk hb; have HG := Aside0.mk hg; have h0 := blk_cell hbox 0; have h1 := blk_cell hbox 1; have h2 := blk_cell hbox 2; have h3 := blk_cell hbox 3; have f0 := blk_frozen hbox 0; have f1 := blk_frozen hbox 1; have f2 := blk_frozen hbox 2; have f3 := blk_frozen hbox 3; clear hbox hb hg) | fail)
      have hS := below4 HBb.out (Nat.le_of_eq HG.out.symm) (.int .i64 rx.e) (.bool rx.f) (.string rx.v) (.int .i64 rx.n)
      have B19 := Aside0.mk (set4 HBX.out (.int .i64 rx.e) (.bool rx.f) (.string rx.v) (.int .i64 rx.n))
      replace HA := Aside0.mk (HA.out.below hS)
      replace HX := Aside0.mk (HX.out.below hS)
      replace HY := Aside0.mk (HY.out.below hS)
      replace HZ := Aside0.mk (HZ.out.below hS)
      replace B17 := Aside0.mk (blk_below B17.out hS)
      replace HBJ := Aside0.mk (below_step HBJ.out hS)
      clear hS HBX HBb HG h0 h1 h2 h3 f0 f1 f2 f3
      refine (session_Table_Last.calls g1 R1 j w _ HY.out).mono ?_
      rintro e wb21 ⟨rfl, _, hb⟩
      rw [tY]
      unfold SRow.ans
      replace HA := Aside0.mk (HA.out.below hb)
      replace HX := Aside0.mk (HX.out.below hb)
      replace HY := Aside0.mk (HY.out.below hb)
      replace HZ := Aside0.mk (HZ.out.below hb)
      replace B17 := Aside0.mk (blk_below B17.out hb)
      replace B19 := Aside0.mk (blk_below B19.out hb)
      replace HBJ := Aside0.mk (below_step HBJ.out hb)
      clear hb
      go_wp2_with (first | ((with_reducible refine gate_dst (N := 21) rfl ?_); refine box_event ?hg (N := 21) ?hd (cs := #[.int .i64 0, .bool false, .string ⟨#[]⟩, .int .i64 0]) (t := 34) ?hr ?_; (case hd => rfl); (case hg => rfl); (case hr => first | (go_simp; done) | (go_simp; rfl)); intro g_21 hg w21 hbox hb; have HBX := Aside0.mk hbox; have HBb := Aside0.mk hb; have HG := Aside0.mk hg; have h0 := blk_cell hbox 0; have h1 := blk_cell hbox 1; have h2 := blk_cell hbox 2; have h3 := blk_cell hbox 3; have f0 := blk_frozen hbox 0; have f1 := blk_frozen hbox 1; have f2 := blk_frozen hbox 2; have f3 := blk_frozen hbox 3; clear hbox hb hg) | fail)
      have hS := below4 HBb.out (Nat.le_of_eq HG.out.symm) (.int .i64 ry.e) (.bool ry.f) (.string ry.v) (.int .i64 ry.n)
      have B21 := Aside0.mk (set4 HBX.out (.int .i64 ry.e) (.bool ry.f) (.string ry.v) (.int .i64 ry.n))
      replace HA := Aside0.mk (HA.out.below hS)
      replace HX := Aside0.mk (HX.out.below hS)
      replace HY := Aside0.mk (HY.out.below hS)
      replace HZ := Aside0.mk (HZ.out.below hS)
      replace B17 := Aside0.mk (blk_below B17.out hS)
      replace B19 := Aside0.mk (blk_below B19.out hS)
      replace HBJ := Aside0.mk (below_step HBJ.out hS)
      clear hS HBX HBb HG h0 h1 h2 h3 f0 f1 f2 f3
      refine (session_Table_Last.calls g2 R2 j w _ HZ.out).mono ?_
      rintro e wb23 ⟨rfl, _, hb⟩
      rw [tZ]
      unfold SRow.ans
      replace HA := Aside0.mk (HA.out.below hb)
      replace HX := Aside0.mk (HX.out.below hb)
      replace HY := Aside0.mk (HY.out.below hb)
      replace HZ := Aside0.mk (HZ.out.below hb)
      replace B17 := Aside0.mk (blk_below B17.out hb)
      replace B19 := Aside0.mk (blk_below B19.out hb)
      replace B21 := Aside0.mk (blk_below B21.out hb)
      replace HBJ := Aside0.mk (below_step HBJ.out hb)
      clear hb
      go_upto_region 19 with (first | ((with_reducible refine gate_dst (N := 23) rfl ?_); refine box_event ?hg (N := 23) ?hd (cs := #[.int .i64 0, .bool false, .string ⟨#[]⟩, .int .i64 0]) (t := 34) ?hr ?_; (case hd => rfl); (case hg => rfl); (case hr => first | (go_simp; done) | (go_simp; rfl)); intro g_23 hg w23 hbox hb; have HBX := Aside0.mk hbox; have HBb := Aside0.mk hb; have HG := Aside0.mk hg; have h0 := blk_cell hbox 0; have h1 := blk_cell hbox 1; have h2 := blk_cell hbox 2; have h3 := blk_cell hbox 3; have f0 := blk_frozen hbox 0; have f1 := blk_frozen hbox 1; have f2 := blk_frozen hbox 2; have f3 := blk_frozen hbox 3; have p17_0 := blk_cell (blk_below B17.out hb) 0; have p17_1 := blk_cell (blk_below B17.out hb) 1; have p17_2 := blk_cell (blk_below B17.out hb) 2; have p17_3 := blk_cell (blk_below B17.out hb) 3; have p19_0 := blk_cell (blk_below B19.out hb) 0; have p19_1 := blk_cell (blk_below B19.out hb) 1; have p19_2 := blk_cell (blk_below B19.out hb) 2; have p19_3 := blk_cell (blk_below B19.out hb) 3; have p21_0 := blk_cell (blk_below B21.out hb) 0; have p21_1 := blk_cell (blk_below B21.out hb) 1; have p21_2 := blk_cell (blk_below B21.out hb) 2; have p21_3 := blk_cell (blk_below B21.out hb) 3; have n17 : g_17 ≠ g_23 := (by have := blk_lt B17.out; omega); have m17 := n17.symm; have n19 : g_19 ≠ g_23 := (by have := blk_lt B19.out; omega); have m19 := n19.symm; have n21 : g_21 ≠ g_23 := (by have := blk_lt B21.out; omega); have m21 := n21.symm; clear hbox hb hg) | fail)
      have hS := below4 HBb.out (Nat.le_of_eq HG.out.symm) (.int .i64 rz.e) (.bool rz.f) (.string rz.v) (.int .i64 rz.n)
      have B23 := Aside0.mk (set4 HBX.out (.int .i64 rz.e) (.bool rz.f) (.string rz.v) (.int .i64 rz.n))
      replace HA := Aside0.mk (HA.out.below hS)
      replace HX := Aside0.mk (HX.out.below hS)
      replace HY := Aside0.mk (HY.out.below hS)
      replace HZ := Aside0.mk (HZ.out.below hS)
      replace B17 := Aside0.mk (blk_below B17.out hS)
      replace B19 := Aside0.mk (blk_below B19.out hS)
      replace B21 := Aside0.mk (blk_below B21.out hS)
      replace HBJ := Aside0.mk (below_step HBJ.out hS)
      clear hS HBX HBb HG h0 h1 h2 h3 f0 f1 f2 f3
      have x170 := blk_cell B17.out 0
      have x171 := blk_cell B17.out 1
      have x172 := blk_cell B17.out 2
      have x173 := blk_cell B17.out 3
      have x190 := blk_cell B19.out 0
      have x191 := blk_cell B19.out 1
      have x192 := blk_cell B19.out 2
      have x193 := blk_cell B19.out 3
      have x210 := blk_cell B21.out 0
      have x211 := blk_cell B21.out 1
      have x212 := blk_cell B21.out 2
      have x213 := blk_cell B21.out 3
      have x230 := blk_cell B23.out 0
      have x231 := blk_cell B23.out 1
      have x232 := blk_cell B23.out 2
      have x233 := blk_cell B23.out 3
      have hmx : (if (if rx.q < ry.q then ry.q else rx.q) < rz.q then rz.q else if rx.q < ry.q then ry.q else rx.q) = ra.q := by
        rcases ho with e | e | e <;> (subst e; split <;> split <;> omega)
      obtain ⟨b1, e1, t1⟩ := ans_eql ra rx
      obtain ⟨b2, e2, t2⟩ := ans_eql ra ry
      obtain ⟨b3, e3, t3⟩ := ans_eql ra rz
      obtain ⟨c1, k1, p1⟩ := q_eql ra.q rx.q
      obtain ⟨c2, k2, p2⟩ := q_eql ra.q ry.q
      obtain ⟨c3, k3, p3⟩ := q_eql ra.q rz.q
      have hor : (c1 && b1 || c2 && b2 || c3 && b3) = true := by
        rcases ho with e | e | e
        · rw [t1 e, ← k1, e]; simp
        · rw [t2 e, ← k2, e]; simp
        · rw [t3 e, ← k3, e]; simp
      clear ho t1 t2 t3
      cases c1
      focus
        replace p1 := p1.trans Bool.false_eq_true_
        cases c2
        focus
          replace p2 := p2.trans Bool.false_eq_true_
          obtain ⟨rfl, rfl⟩ : c3 = true ∧ b3 = true := by revert hor; cases c3 <;> cases b3 <;> simp
          clear hor
          replace p3 := p3.trans eq_self_true_
          go_wp2
          go_roundw
          case rel => exact ⟨j + 1, by omega, by go_num, HA, HX, HY, HZ, HBJ⟩
          case measure => simp [intOf]; omega
        replace p2 := p2.trans eq_self_true_
        cases b2
        focus
          obtain ⟨rfl, rfl⟩ : c3 = true ∧ b3 = true := by revert hor; cases c3 <;> cases b3 <;> simp
          clear hor
          replace p3 := p3.trans eq_self_true_
          go_wp2
          go_roundw
          case rel => exact ⟨j + 1, by omega, by go_num, HA, HX, HY, HZ, HBJ⟩
          case measure => simp [intOf]; omega
        clear hor
        go_wp2
        go_roundw
        case rel => exact ⟨j + 1, by omega, by go_num, HA, HX, HY, HZ, HBJ⟩
        case measure => simp [intOf]; omega
      replace p1 := p1.trans eq_self_true_
      cases b1
      focus
        cases c2
        focus
          replace p2 := p2.trans Bool.false_eq_true_
          obtain ⟨rfl, rfl⟩ : c3 = true ∧ b3 = true := by revert hor; cases c3 <;> cases b3 <;> simp
          clear hor
          replace p3 := p3.trans eq_self_true_
          go_wp2
          go_roundw
          case rel => exact ⟨j + 1, by omega, by go_num, HA, HX, HY, HZ, HBJ⟩
          case measure => simp [intOf]; omega
        replace p2 := p2.trans eq_self_true_
        cases b2
        focus
          obtain ⟨rfl, rfl⟩ : c3 = true ∧ b3 = true := by revert hor; cases c3 <;> cases b3 <;> simp
          clear hor
          replace p3 := p3.trans eq_self_true_
          go_wp2
          go_roundw
          case rel => exact ⟨j + 1, by omega, by go_num, HA, HX, HY, HZ, HBJ⟩
          case measure => simp [intOf]; omega
        clear hor
        go_wp2
        go_roundw
        case rel => exact ⟨j + 1, by omega, by go_num, HA, HX, HY, HZ, HBJ⟩
        case measure => simp [intOf]; omega
      clear hor
      go_wp2
      go_roundw
      case rel => exact ⟨j + 1, by omega, by go_num, HA, HX, HY, HZ, HBJ⟩
      case measure => simp [intOf]; omega
    · obtain rfl : j = 8 := by omega
      have hlt2 : decide (((8 : Nat) : Int) < 8) = false := decide_eq_false (by omega)
      go_wp2
      go_ret
      exact ⟨rfl, HBJ.out⟩

end Go.Proofs.Ytlfnfgoocliecaa.PJ
