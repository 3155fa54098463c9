-- Written by a program of this session (wip/tools/hp.py) over the kit's print; nothing here is trusted: Lean checks it.
import Derived.RegionTactic
import Derived.BigRegion
import Derived.Deep.DeepCutAuto
import Derived.Test.YtlfnfgoocliecaaSessPlays
import Derived.Test.YtlfnfgoocliecaaSessLightN
import Derived.Test.YtlfnfgoocliecaaPNx0
import Derived.Test.YtlfnfgoocliecaaPNx1
import Derived.Test.YtlfnfgoocliecaaPNx2
import Derived.Test.YtlfnfgoocliecaaPNx3
namespace Go.Proofs.Ytlfnfgoocliecaa.PN
open Go.RowKit Go.Proofs.YtlfnfgoocliecaaW.PrintWords Go.Proofs.YtlfnfgoocliecaaW.PrintLast Go.Proofs.YtlfnfgoocliecaaW.PrintMore
attribute [local go_sem] max2_int min2_int max_two min_two max_three min_three max_four min_four   -- for this text's walks alone
set_option linter.unusedVariables false
set_option linter.unusedSimpArgs false

--OWN Derived.RegionTactic,Derived.BigRegion,Derived.Deep.DeepCutAuto,Derived.Test.YtlfnfgoocliecaaSessPlays,Derived.Test.YtlfnfgoocliecaaSessLightN
/-! ### glebelaw09_SessionPlays: function 5 -/
def glebelaw09_SessionPlays.T11 : Bool × List (List Nat × List Nat) := (true, [([], []), ([], []), ([], []), ([1, 2], [1, 2]), ([0, 3, 3], [0, 3]), ([4, 4], [4]), ([5], [5]), ([5], [5]), ([6, 7, 5, 5], [5, 6, 7]), ([5, 8], [5, 8]), ([9, 8], [9]), ([10], [10]), ([11, 10, 10], [10, 11]), ([12, 10], [10, 12]), ([10], [10]), ([14, 12, 10], [10, 14]), ([15, 10], [10, 15]), ([13, 16, 10], [10, 13, 16]), ([10, 17], [10, 17]), ([18, 15], [18]), ([19], [19]), ([19], [19]), ([21, 19, 19], [19, 21]), ([22, 19], [19, 22]), ([19], [19]), ([24, 22, 19], [19, 24]), ([25, 19], [19, 25]), ([23, 26, 19], [19, 23, 26]), ([20, 27, 19], [19, 20, 27]), ([19, 28], [19, 28]), ([29, 25, 0, 1, 2, 3, 4, 5, 6, 7, 8, 9, 10, 11, 12, 13, 14, 15, 16, 17, 18, 19, 20, 21, 22, 23, 24, 25, 26, 27, 28, 29], [29])])
def glebelaw09_SessionPlays.B11 : List Nat := [0, 0, 0, 6, 15, 31, 63, 63, 255, 511, 1023, 2047, 4095, 8191, 2047, 24575, 57343, 131071, 262143, 524287, 1048575, 1048575, 3145727, 7340031, 1048575, 24117247, 57671679, 133169151, 268435455, 536870911, 1073741823]
theorem glebelaw09_SessionPlays.tab11 : rtab .any (opsOf Try.f5 11) = glebelaw09_SessionPlays.T11 := by kernel_rfl
theorem glebelaw09_SessionPlays.bits11 : waitsOk glebelaw09_SessionPlays.T11.2 glebelaw09_SessionPlays.B11 = true := by kernel_rfl
/-- What point.PutAns gives of a row that may be. -/
theorem put_row {r : SRow} (h : RightP r.e r.f r.v r.n) (W : World) : Calls Try.prog 43 #[.agg #[.int .i64 r.e, .bool r.f, .string r.v, .int .i64 r.n]] W fun e w' => ∃ (v : Value) (c : Int), e = .returned (.tuple #[v, .int .i64 c]) ∧ (Kd.int .u8).R 5 w' W.heap.size (fun _ => True) v (wA r) ∧ Below W.heap.size W w' := by
  have hl := wA_len h
  have h3 := h.2.2.1
  refine (point_PutAns.calls 100 wB wE wT (fun _ => 0) r.e r.f r.v r.n true W (right_yes h).1 (fun n _ => wB_f n) (fun n hn => ?_) (fun n _ => wB_f n) ?_).mono ?_
  · rw [List.mem_singleton.mp hn]
    exact wT_f r.v (by omega)
  · unfold wA at hl
    omega
  · rintro e w' ⟨v, rfl, ho, hb⟩
    exact ⟨v, _, rfl, ho, hb⟩
theorem good_pos {r : SRow} (h : GoodRow r) (hq : 0 < r.q) : RightP r.e r.f r.v r.n := by
  rcases h with rfl | h
  · exact absurd hq (by decide)
  · exact h.2.2
/-- What the end of the law looks at. -/
structure PlW (w wj : World) (gj gc qr qs : Nat) (R0 R1 : Nat → SRow) : Prop where
  j : IsTab w wj gj (joinUp R0 R1 8)
  c : IsTab w wj gc R0
  r : IsRTab w wj qr R0
  s : IsRTab w wj qs R1
  b : Below w.heap.size w wj
theorem PlW.below {w wj : World} {gj gc qr qs : Nat} {R0 R1 : Nat → SRow} {w' : World} (h : PlW w wj gj gc qr qs R0 R1) (hb : Below wj.heap.size wj w') : PlW w w' gj gc qr qs R0 R1 :=
  ⟨h.j.below hb, h.c.below hb, h.r.below hb, h.s.below hb, below_step h.b hb⟩
theorem PlW.drew {w wj : World} {gj gc qr qs : Nat} {R0 R1 : Nat → SRow} (h : PlW w wj gj gc qr qs R0 R1) : PlW w wj.drew gj gc qr qs R0 R1 := h.below (below_drew (Below.refl _ _))
def glebelaw09_SessionPlays.f (k : Nat) (l0 l1 : List S26) : Option Bool := some true
set_option maxHeartbeats 32000000 in
set_option maxRecDepth 100000 in
theorem glebelaw09_SessionPlays.calls (k : Nat) (A0 : Option Addr) (c0 : Nat) (l0 : List S26) (A1 : Option Addr) (c1 : Nat) (l1 : List S26) (r : Bool) (w : World) (hr0 : Kd.C k26 w A0 l0.length l0) (hc0 : l0.length ≤ c0) (hr1 : Kd.C k26 w A1 l1.length l1) (hc1 : l1.length ≤ c1) (h : glebelaw09_SessionPlays.f k l0 l1 = some r) :
    Calls Try.prog 5 #[.slice A0 l0.length c0, .slice A1 l1.length c1] w fun e w' => e = .returned (.bool r) ∧ Below w.heap.size w w' := by
  obtain rfl := Option.some.inj h
  clear h
  have H0 := Aside0.mk hr0
  have H1 := Aside0.mk hr1
  obtain ⟨b0, hb0⟩ := light_total l0 hr0.2.1
  obtain ⟨b1, hb1⟩ := light_total l1 hr1.2.1
  have HL0 := Aside0.mk hb0
  have HL1 := Aside0.mk hb1
  have HB := Aside0.mk (Below.refl w.heap.size w)
  clear hr0 hr1 hb0 hb1
  go_enter Try.func5, Try.ntmps5
  go_wp2_with fail
  refine (glebelaw09_Light.calls 200 A0 c0 l0 b0 _ H0.out hc0 HL0.out).mono ?_
  rintro e wl0 ⟨rfl, hd⟩
  have hb := drawn_below hd
  replace H0 := Aside0.mk (Kd.C_below H0.out hb)
  replace H1 := Aside0.mk (Kd.C_below H1.out hb)
  replace HB := Aside0.mk (below_step HB.out hb)
  clear hb hd HL0
  cases b0
  focus
    go_wp2_with fail
    refine (glebelaw09_knows.calls true _ rfl).mono ?_
    rintro e wk ⟨rfl, hb⟩
    replace HB := Aside0.mk (below_step HB.out hb)
    clear hb
    go_wp2
    go_ret
    exact ⟨rfl, HB.out⟩
  go_wp2_with fail
  refine (glebelaw09_Light.calls 200 A1 c1 l1 b1 _ H1.out hc1 HL1.out).mono ?_
  rintro e wl1 ⟨rfl, hd⟩
  have hb := drawn_below hd
  replace H0 := Aside0.mk (Kd.C_below H0.out hb)
  replace H1 := Aside0.mk (Kd.C_below H1.out hb)
  replace HB := Aside0.mk (below_step HB.out hb)
  clear hb hd HL1
  cases b1
  focus
    go_wp2_with fail
    refine (glebelaw09_knows.calls true _ rfl).mono ?_
    rintro e wk ⟨rfl, hb⟩
    replace HB := Aside0.mk (below_step HB.out hb)
    clear hb
    go_wp2
    go_ret
    exact ⟨rfl, HB.out⟩
  go_wp2_with fail
  refine (glebelaw09_both.calls A0 c0 l0 _ H0.out hc0).mono ?_
  rintro e wb0 ⟨g0, qr, R0, rfl, hT, ⟨hQ, hgood⟩, hb⟩
  have HT := Aside0.mk (show IsTab w wb0 g0 R0 from ⟨Nat.le_trans HB.out.size hT.base, hT.blk⟩)
  have HR := Aside0.mk (show IsRTab w wb0 qr R0 from ⟨Nat.le_trans HB.out.size hQ.base, hQ.blk⟩)
  replace H1 := Aside0.mk (Kd.C_below H1.out hb)
  replace HB := Aside0.mk (below_step HB.out hb)
  have HG0 := Aside0.mk hgood
  clear hT hQ hb hgood H0
  go_wp2_with fail
  refine (glebelaw09_both.calls A1 c1 l1 _ H1.out hc1).mono ?_
  rintro e wb1 ⟨g1, qs, R1, rfl, hT, ⟨hQ, hgood⟩, hb⟩
  have HU := Aside0.mk (show IsTab w wb1 g1 R1 from ⟨Nat.le_trans HB.out.size hT.base, hT.blk⟩)
  have HS := Aside0.mk (show IsRTab w wb1 qs R1 from ⟨Nat.le_trans HB.out.size hQ.base, hQ.blk⟩)
  replace HT := Aside0.mk (HT.out.below hb)
  replace HR := Aside0.mk (HR.out.below hb)
  replace HB := Aside0.mk (below_step HB.out hb)
  have HG1 := Aside0.mk hgood
  clear hT hQ hb hgood H1
  go_wp2_with fail
  refine (glebelaw09_knows.calls true _ rfl).mono ?_
  rintro e wk ⟨rfl, hb⟩
  replace HT := Aside0.mk (HT.out.below hb)
  replace HU := Aside0.mk (HU.out.below hb)
  replace HR := Aside0.mk (HR.out.below hb)
  replace HS := Aside0.mk (HS.out.below hb)
  replace HB := Aside0.mk (below_step HB.out hb)
  clear hb
  go_wp2_with fail
  refine (session_Table_Join.calls g0 g1 R0 R1 w _ HT.out HU.out).mono ?_
  rintro e wj ⟨gj, rfl, hJ, hb⟩
  have HNJ := Aside0.mk (show gj ≠ g0 by
    have := blk_lt HT.out.blk
    have := hJ.base
    omega)
  have HJ := Aside0.mk (show IsTab w wj gj (joinUp R0 R1 8) from ⟨Nat.le_trans HB.out.size hJ.base, hJ.blk⟩)
  replace HT := Aside0.mk (HT.out.below hb)
  replace HU := Aside0.mk (HU.out.below hb)
  replace HR := Aside0.mk (HR.out.below hb)
  replace HS := Aside0.mk (HS.out.below hb)
  replace HB := Aside0.mk (below_step HB.out hb)
  clear hb hJ
  go_wp2_with fail
  refine (session_Table_Clone.calls g0 R0 w _ HT.out).mono ?_
  rintro e wc ⟨gc, rfl, hJ, hb⟩
  have HNC := Aside0.mk (show gc ≠ g0 by
    have := blk_lt HT.out.blk
    have := hJ.base
    omega)
  have HC := Aside0.mk (show IsTab w wc gc R0 from ⟨Nat.le_trans HB.out.size hJ.base, hJ.blk⟩)
  replace HJ := Aside0.mk (HJ.out.below hb)
  replace HT := Aside0.mk (HT.out.below hb)
  replace HU := Aside0.mk (HU.out.below hb)
  replace HR := Aside0.mk (HR.out.below hb)
  replace HS := Aside0.mk (HS.out.below hb)
  replace HB := Aside0.mk (below_step HB.out hb)
  clear hb hJ
  obtain ⟨bb, hbb, hse⟩ := tabs_same HG0.out HG1.out
  go_wp2_with fail
  refine (session_Table_Same.gen g0 g1 R0 R1 bb hbb w _ HT.out HU.out).mono ?_
  rintro e ws ⟨rfl, hb⟩
  replace HC := Aside0.mk (HC.out.below hb)
  replace HJ := Aside0.mk (HJ.out.below hb)
  replace HT := Aside0.mk (HT.out.below hb)
  replace HR := Aside0.mk (HR.out.below hb)
  replace HS := Aside0.mk (HS.out.below hb)
  replace HB := Aside0.mk (below_step HB.out hb)
  clear hb HU hbb
  go_wp2_with fail
  refine (session_Table_Note.calls 100 g0 R0 3 1099511627776 0 false ⟨#[]⟩ 0 true w _ HT.out HB.out (right_yes ⟨by decide, by decide, by decide, by decide, by decide, .inr ⟨by simp, rfl⟩⟩).1).mono ?_
  rintro e wn ⟨rfl, hi, hb, hk⟩
  have HX := Aside0.mk (show PlW w wn gj gc qr qs R0 R1 from ⟨HJ.out.keep hk HNJ.out, HC.out.keep hk HNC.out, HR.out.keep hk (blk_ne HR.out.blk HT.out.blk (by decide)), HS.out.keep hk (blk_ne HS.out.blk HT.out.blk (by decide)), hb⟩)
  clear hi hb hk HJ HC HR HS HT HB HNJ HNC
  generalize noteE R0 3 1099511627776 true = en
  obtain ⟨Lr, hLr⟩ : ∃ x, x = tabB R0 := ⟨_, rfl⟩
  obtain ⟨Ls, hLs⟩ : ∃ x, x = tabB R1 := ⟨_, rfl⟩
  rw [← hLr, ← hLs] at hse
  have HLr := Aside0.mk hLr
  have HLs := Aside0.mk hLs
  clear hLr hLs
  have HT0 := Aside0.mk (tabB_len HG0.out)
  have HT1 := Aside0.mk (tabB_len HG1.out)
  go_wp2_with fail
  refine start_ (n := 31) (S := fun w' => True) (ds := []) #[false, false, false, false, false, false, false, false, false, false, false, false, false, false, false, false, false, false, false, false, false, false, false, false, false, false, false, false, false, false, false] (by kernel_rfl) rfl rfl trivial (fun hHeld => ?_)
  refine with_tabW glebelaw09_SessionPlays.tab11 glebelaw09_SessionPlays.bits11 (fun HT_ HW_ => ?_)
  refine pure_ (i := 0) (N := some 52) (v := ?_) (a' := ?_) #[true, false, false, false, false, false, false, false, false, false, false, false, false, false, false, false, false, false, false, false, false, false, false, false, false, false, false, false, false, false, false] rfl rfl (any_of HT_.out (by kernel_rfl)) (fun _ _ _ h => h) (Or.inl ⟨by rfl, ?_⟩) ?_ ?_
  rotate_left
  · intro w'
    go_simp
    with_reducible rfl
  rotate_left
  · simp only [Act.put, List.setIfInBounds_toArray, List.set_cons_zero, List.set_cons_succ, i64_w, i32_w]
    rfl
  refine pure_ (i := 1) (N := some 53) (v := ?_) (a' := ?_) #[true, true, false, false, false, false, false, false, false, false, false, false, false, false, false, false, false, false, false, false, false, false, false, false, false, false, false, false, false, false, false] rfl rfl (any_of HT_.out (by kernel_rfl)) (fun _ _ _ h => h) (Or.inl ⟨by rfl, ?_⟩) ?_ ?_
  rotate_left
  · intro w'
    go_simp
    with_reducible rfl
  rotate_left
  · simp only [Act.put, List.setIfInBounds_toArray, List.set_cons_zero, List.set_cons_succ, i64_w, i32_w]
    rfl
  refine pure_ (i := 2) (N := some 54) (v := ?_) (a' := ?_) #[true, true, true, false, false, false, false, false, false, false, false, false, false, false, false, false, false, false, false, false, false, false, false, false, false, false, false, false, false, false, false] rfl rfl (any_of HT_.out (by kernel_rfl)) (fun _ _ _ h => h) (Or.inl ⟨by rfl, ?_⟩) ?_ ?_
  rotate_left
  · intro w'
    go_simp
    with_reducible rfl
  rotate_left
  · simp only [Act.put, List.setIfInBounds_toArray, List.set_cons_zero, List.set_cons_succ, i64_w, i32_w]
    rfl
  refine one_ (i := 3) (N := some 55) #[true, true, true, true, false, false, false, false, false, false, false, false, false, false, false, false, false, false, false, false, false, false, false, false, false, false, false, false, false, false, false] rfl rfl (one_of HT_.out (by kernel_rfl)) (by decide) (fun K hK => ?_)
  refine goes_ Try.func22 (by kernel_rfl) rfl #[.pointer (some ⟨qr, 0, none⟩), .pointer (some ⟨qs, 0, none⟩)] (by rfl) rfl rfl (by simp only [List.map_toArray, List.map_cons, List.map_nil]; rfl) ?_
  with_reducible refine (gleberef09_Join.calls qr qs R0 R1 w _ (PlW.r (by first | exact HX.out | exact HX.out.drew)) (PlW.s (by first | exact HX.out | exact HX.out.drew))).mono ?_
  rintro e wx ⟨gjr, rfl, hJ, hbx⟩
  refine ⟨_, rfl, ?_⟩
  have HJR := Aside0.mk (show IsRTab w wx gjr (joinUp R0 R1 8) from ⟨Nat.le_trans (PlW.b (by first | exact HX.out | exact HX.out.drew)).size hJ.base, hJ.blk⟩)
  clear hJ
  replace HX := Aside0.mk (PlW.below (by first | exact HX.out | exact HX.out.drew) hbx)
  clear hbx
  refine hK.out _ _ trivial (fun hHeld => ?_)
  clear hK K
  refine norm_ (a' := ?_) ?_ ?_
  rotate_left
  · show Act.put _ (some 55) _ = _
    simp only [Act.put, List.setIfInBounds_toArray, List.set_cons_zero, List.set_cons_succ, i64_w, i32_w]
    rfl
  refine one_ (i := 4) (N := some 56) #[true, true, true, true, true, false, false, false, false, false, false, false, false, false, false, false, false, false, false, false, false, false, false, false, false, false, false, false, false, false, false] rfl rfl (one_of HT_.out (by kernel_rfl)) (by decide) (fun K hK => ?_)
  refine goes_ Try.func21 (by kernel_rfl) rfl #[.pointer (some ⟨gj, 0, none⟩), .pointer (some ⟨gjr, 0, none⟩)] (by rfl) rfl rfl (by simp only [List.map_toArray, List.map_cons, List.map_nil]; rfl) ?_
  with_reducible refine (glebelaw09_Same.calls gj gjr (joinUp R0 R1 8) (joinUp R0 R1 8) w _ (PlW.j (by first | exact HX.out | exact HX.out.drew)) HJR.out (fun _ _ => rfl)).mono ?_
  rintro e wx ⟨rfl, hbx⟩
  refine ⟨_, rfl, ?_⟩
  clear HJR
  replace HX := Aside0.mk (PlW.below (by first | exact HX.out | exact HX.out.drew) hbx)
  clear hbx
  refine hK.out _ _ trivial (fun hHeld => ?_)
  clear hK K
  refine norm_ (a' := ?_) ?_ ?_
  rotate_left
  · show Act.put _ (some 56) _ = _
    simp only [Act.put, List.setIfInBounds_toArray, List.set_cons_zero, List.set_cons_succ, i64_w, i32_w]
    rfl
  refine pure_ (i := 5) (N := some 57) (v := ?_) (a' := ?_) #[true, true, true, true, true, true, false, false, false, false, false, false, false, false, false, false, false, false, false, false, false, false, false, false, false, false, false, false, false, false, false] rfl rfl (any_of HT_.out (by kernel_rfl)) (fun _ _ _ h => h) (Or.inl ⟨by rfl, ?_⟩) ?_ ?_
  rotate_left
  · intro w'
    go_simp
    with_reducible rfl
  rotate_left
  · simp only [Act.put, List.setIfInBounds_toArray, List.set_cons_zero, List.set_cons_succ, i64_w, i32_w]
    rfl
  refine pure_ (i := 6) (N := some 58) (v := ?_) (a' := ?_) #[true, true, true, true, true, true, true, false, false, false, false, false, false, false, false, false, false, false, false, false, false, false, false, false, false, false, false, false, false, false, false] rfl rfl (any_of HT_.out (by kernel_rfl)) (fun _ _ _ h => h) (Or.inl ⟨by rfl, ?_⟩) ?_ ?_
  rotate_left
  · intro w'
    go_simp
    with_reducible rfl
  rotate_left
  · simp only [Act.put, List.setIfInBounds_toArray, List.set_cons_zero, List.set_cons_succ, i64_w, i32_w]
    rfl
  refine pure_ (i := 7) (N := some 59) (v := ?_) (a' := ?_) #[true, true, true, true, true, true, true, true, false, false, false, false, false, false, false, false, false, false, false, false, false, false, false, false, false, false, false, false, false, false, false] rfl rfl (any_of HT_.out (by kernel_rfl)) (fun _ _ _ h => h) (Or.inl ⟨by rfl, ?_⟩) ?_ ?_
  rotate_left
  · intro w'
    go_simp
    with_reducible rfl
  rotate_left
  · simp only [Act.put, List.setIfInBounds_toArray, List.set_cons_zero, List.set_cons_succ, i64_w, i32_w]
    rfl
  refine one_ (i := 8) (N := some 60) #[true, true, true, true, true, true, true, true, true, false, false, false, false, false, false, false, false, false, false, false, false, false, false, false, false, false, false, false, false, false, false] rfl rfl (one_of HT_.out (by kernel_rfl)) (by decide) (fun K hK => ?_)
  refine goes_ Try.func21 (by kernel_rfl) rfl #[.pointer (some ⟨gc, 0, none⟩), .pointer (some ⟨qr, 0, none⟩)] (by rfl) rfl rfl (by simp only [List.map_toArray, List.map_cons, List.map_nil]; rfl) ?_
  with_reducible refine (glebelaw09_Same.calls gc qr R0 R0 w _ (PlW.c (by first | exact HX.out | exact HX.out.drew)) (PlW.r (by first | exact HX.out | exact HX.out.drew)) (fun _ _ => rfl)).mono ?_
  rintro e wx ⟨rfl, hbx⟩
  refine ⟨_, rfl, ?_⟩
  replace HX := Aside0.mk (PlW.below (by first | exact HX.out | exact HX.out.drew) hbx)
  clear hbx
  refine hK.out _ _ trivial (fun hHeld => ?_)
  clear hK K
  refine norm_ (a' := ?_) ?_ ?_
  rotate_left
  · show Act.put _ (some 60) _ = _
    simp only [Act.put, List.setIfInBounds_toArray, List.set_cons_zero, List.set_cons_succ, i64_w, i32_w]
    rfl
  refine pure_ (i := 9) (N := some 61) (v := ?_) (a' := ?_) #[true, true, true, true, true, true, true, true, true, true, false, false, false, false, false, false, false, false, false, false, false, false, false, false, false, false, false, false, false, false, false] rfl rfl (any_of HT_.out (by kernel_rfl)) (fun _ _ _ h => h) (Or.inl ⟨by rfl, ?_⟩) ?_ ?_
  rotate_left
  · intro w'
    go_simp
    with_reducible rfl
  rotate_left
  · simp only [Act.put, List.setIfInBounds_toArray, List.set_cons_zero, List.set_cons_succ, i64_w, i32_w]
    rfl
  refine pure_ (i := 10) (N := some 62) (v := ?_) (a' := ?_) #[true, true, true, true, true, true, true, true, true, true, true, false, false, false, false, false, false, false, false, false, false, false, false, false, false, false, false, false, false, false, false] rfl rfl (any_of HT_.out (by kernel_rfl)) (fun _ _ _ h => h) (Or.inl ⟨by rfl, ?_⟩) ?_ ?_
  rotate_left
  · intro w'
    go_simp
    with_reducible rfl
  rotate_left
  · simp only [Act.put, List.setIfInBounds_toArray, List.set_cons_zero, List.set_cons_succ, i64_w, i32_w]
    rfl
  refine pure_ (i := 11) (N := some 63) (v := ?_) (a' := ?_) #[true, true, true, true, true, true, true, true, true, true, true, true, false, false, false, false, false, false, false, false, false, false, false, false, false, false, false, false, false, false, false] rfl rfl (any_of HT_.out (by kernel_rfl)) (fun _ _ _ h => h) (Or.inl ⟨by rfl, ?_⟩) ?_ ?_
  rotate_left
  · intro w'
    go_simp
    with_reducible rfl
  rotate_left
  · simp only [Act.put, List.setIfInBounds_toArray, List.set_cons_zero, List.set_cons_succ, i64_w, i32_w]
    rfl
  refine pure_ (i := 14) (N := some 66) (v := ?_) (a' := ?_) #[true, true, true, true, true, true, true, true, true, true, true, true, false, false, true, false, false, false, false, false, false, false, false, false, false, false, false, false, false, false, false] rfl rfl (any_of HT_.out (by kernel_rfl)) (fun _ _ _ h => h) (Or.inl ⟨by rfl, ?_⟩) ?_ ?_
  rotate_left
  · intro w'
    go_simp
    with_reducible rfl
  rotate_left
  · simp only [Act.put, List.setIfInBounds_toArray, List.set_cons_zero, List.set_cons_succ, i64_w, i32_w]
    rfl
  refine one_ (i := 12) (N := some 64) #[true, true, true, true, true, true, true, true, true, true, true, true, true, false, true, false, false, false, false, false, false, false, false, false, false, false, false, false, false, false, false] rfl rfl (one_of HT_.out (by kernel_rfl)) (by decide) (fun K hK => ?_)
  refine goes_ Try.func23 (by kernel_rfl) rfl #[.pointer (some ⟨gc, 0, none⟩)] (by rfl) rfl rfl (by simp only [List.map_toArray, List.map_cons, List.map_nil]; rfl) ?_
  with_reducible refine (session_Table_Put.calls 100 gc R0 (fun i => wB (R0 i).q) (fun i => wA (R0 i)) (fun i => wE (R0 i).q) w _ (PlW.c (by first | exact HX.out | exact HX.out.drew)) (fun i _ => wB_f _) (fun i hi hp W => put_row (good_pos (HG0.out i hi) hp) W) (by have := HT0.out; unfold tabB at this; omega)).mono ?_
  rintro e wx ⟨v, rfl, ho, hbx⟩
  refine ⟨_, rfl, ?_⟩
  rw [show putTo R0 (fun i => wB (R0 i).q) (fun i => wA (R0 i)) 8 = Lr from HLr.out.symm] at ho
  obtain ⟨Bv, dv, rfl⟩ := Kd.R_slice ho
  have HV := Aside0.mk (Kd.R_reads' ho).2.2
  clear ho
  replace HX := Aside0.mk (PlW.below (by first | exact HX.out | exact HX.out.drew) hbx)
  clear hbx
  refine hK.out _ _ trivial (fun hHeld => ?_)
  clear hK K
  refine norm_ (a' := ?_) ?_ ?_
  rotate_left
  · show Act.put _ (some 64) _ = _
    simp only [Act.put, List.setIfInBounds_toArray, List.set_cons_zero, List.set_cons_succ, i64_w, i32_w]
    rfl
  refine join_ (σ := Option Addr × Nat) 14 #[true, true, true, true, true, true, true, true, true, true, true, true, true, true, true, true, true, false, false, false, false, false, false, false, false, false, false, false, false, false, false] (fun s_ => [(65, .string (strOfNums Lr)), (67, .slice s_.1 Lr.length s_.2), (68, .string (strOfNums Lr))]) (fun (_ : Option Addr × Nat) (wj : World) => PlW w wj gj gc qr qs R0 R1) ?_ ?_
  rotate_left
  · intro hCont
    refine two_ (i := 13) (j := 15) (Ni := some 65) (Nj := some 67) #[true, true, true, true, true, true, true, true, true, true, true, true, true, true, true, false, false, false, false, false, false, false, false, false, false, false, false, false, false, false, false] #[true, true, true, true, true, true, true, true, true, true, true, true, true, false, true, true, false, false, false, false, false, false, false, false, false, false, false, false, false, false, false] rfl rfl rfl rfl (two_of HT_.out (by kernel_rfl)) (by decide) (by decide) (fun K hK => ?_) (fun K hK => ?_)
    · skip
      have hcHV := Kd.C_string (c := dv) Try.underlying49 Try.underlying5 Try.underlying9 HV.out
      refine value_ (w1 := ?_) (v := ?_) (by rfl) rfl ?_ ?_
      rotate_left 2
      · go_simp
        constructor
        · rfl
        · rfl
      refine hK.out _ _ trivial (fun hHeld => ?_)
      clear hK K
      refine norm_ (a' := ?_) ?_ ?_
      rotate_left
      · show Act.put _ (some 65) _ = _
        simp only [Act.put, List.setIfInBounds_toArray, List.set_cons_zero, List.set_cons_succ, i64_w, i32_w]
        rfl
      refine one_ (i := 15) (N := some 67) #[true, true, true, true, true, true, true, true, true, true, true, true, true, true, true, true, false, false, false, false, false, false, false, false, false, false, false, false, false, false, false] rfl rfl (one_of HT_.out (by kernel_rfl)) (by decide) (fun K hK => ?_)
      refine goes_ Try.func24 (by kernel_rfl) rfl #[.pointer (some ⟨qr, 0, none⟩)] (by rfl) rfl rfl (by simp only [List.map_toArray, List.map_cons, List.map_nil]; rfl) ?_
      with_reducible refine (gleberef09_Table_Put.calls 100 qr R0 (fun i => wB (R0 i).q) (fun i => wA (R0 i)) w _ (PlW.r (by first | exact HX.out | exact HX.out.drew)) (fun i hi => (ref_row (HG0.out i hi)).1) (fun i hi => (ref_row (HG0.out i hi)).2) (by have := HT0.out; unfold tabB at this; omega)).mono ?_
      rintro e wx ⟨v, rfl, ho, hbx⟩
      refine ⟨_, rfl, ?_⟩
      rw [show putTo R0 (fun i => wB (R0 i).q) (fun i => wA (R0 i)) 8 = Lr from HLr.out.symm] at ho
      obtain ⟨Bx, dBx, rfl⟩ := Kd.R_slice ho
      have HV2 := Aside0.mk (Kd.R_reads' ho).2.2
      clear ho
      replace HV := Aside0.mk (Kd.C_below HV.out hbx)
      replace HX := Aside0.mk (PlW.below (by first | exact HX.out | exact HX.out.drew) hbx)
      clear hbx
      refine hK.out _ _ trivial (fun hHeld => ?_)
      clear hK K
      refine norm_ (a' := ?_) ?_ ?_
      rotate_left
      · show Act.put _ (some 67) _ = _
        simp only [Act.put, List.setIfInBounds_toArray, List.set_cons_zero, List.set_cons_succ, i64_w, i32_w]
        rfl
      refine one_ (i := 16) (N := some 68) #[true, true, true, true, true, true, true, true, true, true, true, true, true, true, true, true, true, false, false, false, false, false, false, false, false, false, false, false, false, false, false] rfl rfl (one_of HT_.out (by kernel_rfl)) (by decide) (fun K hK => ?_)
      have hcHV2 := Kd.C_string (c := dBx) Try.underlying49 Try.underlying5 Try.underlying9 HV2.out
      refine value_ (w1 := ?_) (v := ?_) (by rfl) rfl ?_ ?_
      rotate_left 2
      · go_simp
        constructor
        · rfl
        · rfl
      refine hK.out _ _ trivial (fun hHeld => ?_)
      clear hK K
      refine norm_ (a' := ?_) ?_ ?_
      rotate_left
      · show Act.put _ (some 68) _ = _
        simp only [Act.put, List.setIfInBounds_toArray, List.set_cons_zero, List.set_cons_succ, i64_w, i32_w]
        rfl
      exact norm_ (by simp only [putAll, Act.put, List.setIfInBounds_toArray, List.set_cons_zero, List.set_cons_succ]) (hCont (Bx, dBx) _ HX.out)
    · skip
      refine goes_ Try.func24 (by kernel_rfl) rfl #[.pointer (some ⟨qr, 0, none⟩)] (by rfl) rfl rfl (by simp only [List.map_toArray, List.map_cons, List.map_nil]; rfl) ?_
      with_reducible refine (gleberef09_Table_Put.calls 100 qr R0 (fun i => wB (R0 i).q) (fun i => wA (R0 i)) w _ (PlW.r (by first | exact HX.out | exact HX.out.drew)) (fun i hi => (ref_row (HG0.out i hi)).1) (fun i hi => (ref_row (HG0.out i hi)).2) (by have := HT0.out; unfold tabB at this; omega)).mono ?_
      rintro e wx ⟨v, rfl, ho, hbx⟩
      refine ⟨_, rfl, ?_⟩
      rw [show putTo R0 (fun i => wB (R0 i).q) (fun i => wA (R0 i)) 8 = Lr from HLr.out.symm] at ho
      obtain ⟨Bx, dBx, rfl⟩ := Kd.R_slice ho
      have HV2 := Aside0.mk (Kd.R_reads' ho).2.2
      clear ho
      replace HV := Aside0.mk (Kd.C_below HV.out hbx)
      replace HX := Aside0.mk (PlW.below (by first | exact HX.out | exact HX.out.drew) hbx)
      clear hbx
      refine hK.out _ _ trivial (fun hHeld => ?_)
      clear hK K
      refine norm_ (a' := ?_) ?_ ?_
      rotate_left
      · show Act.put _ (some 67) _ = _
        simp only [Act.put, List.setIfInBounds_toArray, List.set_cons_zero, List.set_cons_succ, i64_w, i32_w]
        rfl
      refine two_ (i := 13) (j := 16) (Ni := some 65) (Nj := some 68) #[true, true, true, true, true, true, true, true, true, true, true, true, true, true, true, true, false, false, false, false, false, false, false, false, false, false, false, false, false, false, false] #[true, true, true, true, true, true, true, true, true, true, true, true, true, false, true, true, true, false, false, false, false, false, false, false, false, false, false, false, false, false, false] rfl rfl rfl rfl (two_of HT_.out (by kernel_rfl)) (by decide) (by decide) (fun K hK => ?_) (fun K hK => ?_)
      · skip
        have hcHV := Kd.C_string (c := dv) Try.underlying49 Try.underlying5 Try.underlying9 HV.out
        refine value_ (w1 := ?_) (v := ?_) (by rfl) rfl ?_ ?_
        rotate_left 2
        · go_simp
          constructor
          · rfl
          · rfl
        refine hK.out _ _ trivial (fun hHeld => ?_)
        clear hK K
        refine norm_ (a' := ?_) ?_ ?_
        rotate_left
        · show Act.put _ (some 65) _ = _
          simp only [Act.put, List.setIfInBounds_toArray, List.set_cons_zero, List.set_cons_succ, i64_w, i32_w]
          rfl
        refine one_ (i := 16) (N := some 68) #[true, true, true, true, true, true, true, true, true, true, true, true, true, true, true, true, true, false, false, false, false, false, false, false, false, false, false, false, false, false, false] rfl rfl (one_of HT_.out (by kernel_rfl)) (by decide) (fun K hK => ?_)
        have hcHV2 := Kd.C_string (c := dBx) Try.underlying49 Try.underlying5 Try.underlying9 HV2.out
        refine value_ (w1 := ?_) (v := ?_) (by rfl) rfl ?_ ?_
        rotate_left 2
        · go_simp
          constructor
          · rfl
          · rfl
        refine hK.out _ _ trivial (fun hHeld => ?_)
        clear hK K
        refine norm_ (a' := ?_) ?_ ?_
        rotate_left
        · show Act.put _ (some 68) _ = _
          simp only [Act.put, List.setIfInBounds_toArray, List.set_cons_zero, List.set_cons_succ, i64_w, i32_w]
          rfl
        exact norm_ (by simp only [putAll, Act.put, List.setIfInBounds_toArray, List.set_cons_zero, List.set_cons_succ]) (hCont (Bx, dBx) _ HX.out)
      · skip
        have hcHV2 := Kd.C_string (c := dBx) Try.underlying49 Try.underlying5 Try.underlying9 HV2.out
        refine value_ (w1 := ?_) (v := ?_) (by rfl) rfl ?_ ?_
        rotate_left 2
        · go_simp
          constructor
          · rfl
          · rfl
        refine hK.out _ _ trivial (fun hHeld => ?_)
        clear hK K
        refine norm_ (a' := ?_) ?_ ?_
        rotate_left
        · show Act.put _ (some 68) _ = _
          simp only [Act.put, List.setIfInBounds_toArray, List.set_cons_zero, List.set_cons_succ, i64_w, i32_w]
          rfl
        refine one_ (i := 13) (N := some 65) #[true, true, true, true, true, true, true, true, true, true, true, true, true, true, true, true, true, false, false, false, false, false, false, false, false, false, false, false, false, false, false] rfl rfl (one_of HT_.out (by kernel_rfl)) (by decide) (fun K hK => ?_)
        have hcHV := Kd.C_string (c := dv) Try.underlying49 Try.underlying5 Try.underlying9 HV.out
        refine value_ (w1 := ?_) (v := ?_) (by rfl) rfl ?_ ?_
        rotate_left 2
        · go_simp
          constructor
          · rfl
          · rfl
        refine hK.out _ _ trivial (fun hHeld => ?_)
        clear hK K
        refine norm_ (a' := ?_) ?_ ?_
        rotate_left
        · show Act.put _ (some 65) _ = _
          simp only [Act.put, List.setIfInBounds_toArray, List.set_cons_zero, List.set_cons_succ, i64_w, i32_w]
          rfl
        exact norm_ (by simp only [putAll, Act.put, List.setIfInBounds_toArray, List.set_cons_zero, List.set_cons_succ]) (hCont (Bx, dBx) _ HX.out)
  rintro s_ wx hX_
  clear HX HV
  have HX := Aside0.mk hX_
  clear hX_
  have hHeld : True := trivial
  refine norm_ (a' := ?_) ?_ ?_
  rotate_left
  · simp only [putAll, Act.put, List.setIfInBounds_toArray, List.set_cons_zero, List.set_cons_succ]
    rfl
  refine pure_ (i := 17) (N := some 69) (v := ?_) (a' := ?_) #[true, true, true, true, true, true, true, true, true, true, true, true, true, true, true, true, true, true, false, false, false, false, false, false, false, false, false, false, false, false, false] rfl rfl (any_of HT_.out (by kernel_rfl)) (fun _ _ _ h => h) (Or.inl ⟨by rfl, ?_⟩) ?_ ?_
  rotate_left
  · intro w'
    go_simp
    with_reducible rfl
  rotate_left
  · simp only [Act.put, List.setIfInBounds_toArray, List.set_cons_zero, List.set_cons_succ, i64_w, i32_w]
    rfl
  refine pure_ (i := 18) (N := some 70) (v := ?_) (a' := ?_) #[true, true, true, true, true, true, true, true, true, true, true, true, true, true, true, true, true, true, true, false, false, false, false, false, false, false, false, false, false, false, false] rfl rfl (any_of HT_.out (by kernel_rfl)) (fun _ _ _ h => h) (Or.inl ⟨by rfl, ?_⟩) ?_ ?_
  rotate_left
  · intro w'
    go_simp
    with_reducible rfl
  rotate_left
  · simp only [Act.put, List.setIfInBounds_toArray, List.set_cons_zero, List.set_cons_succ, i64_w, i32_w]
    rfl
  refine pure_ (i := 19) (N := some 71) (v := ?_) (a' := ?_) #[true, true, true, true, true, true, true, true, true, true, true, true, true, true, true, true, true, true, true, true, false, false, false, false, false, false, false, false, false, false, false] rfl rfl (any_of HT_.out (by kernel_rfl)) (fun _ _ _ h => h) (Or.inl ⟨by rfl, ?_⟩) ?_ ?_
  rotate_left
  · intro w'
    go_simp
    with_reducible rfl
  rotate_left
  · simp only [Act.put, List.setIfInBounds_toArray, List.set_cons_zero, List.set_cons_succ, i64_w, i32_w]
    rfl
  refine pure_ (i := 20) (N := some 72) (v := ?_) (a' := ?_) #[true, true, true, true, true, true, true, true, true, true, true, true, true, true, true, true, true, true, true, true, true, false, false, false, false, false, false, false, false, false, false] rfl rfl (any_of HT_.out (by kernel_rfl)) (fun _ _ _ h => h) (Or.inl ⟨by rfl, ?_⟩) ?_ ?_
  rotate_left
  · intro w'
    go_simp
    with_reducible rfl
  rotate_left
  · simp only [Act.put, List.setIfInBounds_toArray, List.set_cons_zero, List.set_cons_succ, i64_w, i32_w]
    rfl
  refine pure_ (i := 21) (N := some 73) (v := ?_) (a' := ?_) #[true, true, true, true, true, true, true, true, true, true, true, true, true, true, true, true, true, true, true, true, true, true, false, false, false, false, false, false, false, false, false] rfl rfl (any_of HT_.out (by kernel_rfl)) (fun _ _ _ h => h) (Or.inl ⟨by rfl, ?_⟩) ?_ ?_
  rotate_left
  · intro w'
    go_simp
    with_reducible rfl
  rotate_left
  · simp only [Act.put, List.setIfInBounds_toArray, List.set_cons_zero, List.set_cons_succ, i64_w, i32_w]
    rfl
  refine pure_ (i := 24) (N := some 76) (v := ?_) (a' := ?_) #[true, true, true, true, true, true, true, true, true, true, true, true, true, true, true, true, true, true, true, true, true, true, false, false, true, false, false, false, false, false, false] rfl rfl (any_of HT_.out (by kernel_rfl)) (fun _ _ _ h => h) (Or.inl ⟨by rfl, ?_⟩) ?_ ?_
  rotate_left
  · intro w'
    go_simp
    with_reducible rfl
  rotate_left
  · simp only [Act.put, List.setIfInBounds_toArray, List.set_cons_zero, List.set_cons_succ, i64_w, i32_w]
    rfl
  refine one_ (i := 22) (N := some 74) #[true, true, true, true, true, true, true, true, true, true, true, true, true, true, true, true, true, true, true, true, true, true, true, false, true, false, false, false, false, false, false] rfl rfl (one_of HT_.out (by kernel_rfl)) (by decide) (fun K hK => ?_)
  refine goes_ Try.func24 (by kernel_rfl) rfl #[.pointer (some ⟨qr, 0, none⟩)] (by rfl) rfl rfl (by simp only [List.map_toArray, List.map_cons, List.map_nil]; rfl) ?_
  with_reducible refine (gleberef09_Table_Put.calls 100 qr R0 (fun i => wB (R0 i).q) (fun i => wA (R0 i)) w _ (PlW.r (by first | exact HX.out | exact HX.out.drew)) (fun i hi => (ref_row (HG0.out i hi)).1) (fun i hi => (ref_row (HG0.out i hi)).2) (by have := HT0.out; unfold tabB at this; omega)).mono ?_
  rintro e wx ⟨v, rfl, ho, hbx⟩
  refine ⟨_, rfl, ?_⟩
  rw [show putTo R0 (fun i => wB (R0 i).q) (fun i => wA (R0 i)) 8 = Lr from HLr.out.symm] at ho
  obtain ⟨Bw, dv, rfl⟩ := Kd.R_slice ho
  have HV := Aside0.mk (Kd.R_reads' ho).2.2
  clear ho
  replace HX := Aside0.mk (PlW.below (by first | exact HX.out | exact HX.out.drew) hbx)
  clear hbx
  refine hK.out _ _ trivial (fun hHeld => ?_)
  clear hK K
  refine norm_ (a' := ?_) ?_ ?_
  rotate_left
  · show Act.put _ (some 74) _ = _
    simp only [Act.put, List.setIfInBounds_toArray, List.set_cons_zero, List.set_cons_succ, i64_w, i32_w]
    rfl
  refine join_ (σ := Option Addr × Nat) 4 #[true, true, true, true, true, true, true, true, true, true, true, true, true, true, true, true, true, true, true, true, true, true, true, true, true, true, true, false, false, false, false] (fun s_ => [(75, .string (strOfNums Lr)), (77, .slice s_.1 Ls.length s_.2), (78, .string (strOfNums Ls))]) (fun (_ : Option Addr × Nat) (wj : World) => PlW w wj gj gc qr qs R0 R1) ?_ ?_
  rotate_left
  · intro hCont
    refine two_ (i := 23) (j := 25) (Ni := some 75) (Nj := some 77) #[true, true, true, true, true, true, true, true, true, true, true, true, true, true, true, true, true, true, true, true, true, true, true, true, true, false, false, false, false, false, false] #[true, true, true, true, true, true, true, true, true, true, true, true, true, true, true, true, true, true, true, true, true, true, true, false, true, true, false, false, false, false, false] rfl rfl rfl rfl (two_of HT_.out (by kernel_rfl)) (by decide) (by decide) (fun K hK => ?_) (fun K hK => ?_)
    · skip
      have hcHV := Kd.C_string (c := dv) Try.underlying49 Try.underlying5 Try.underlying9 HV.out
      refine value_ (w1 := ?_) (v := ?_) (by rfl) rfl ?_ ?_
      rotate_left 2
      · go_simp
        constructor
        · rfl
        · rfl
      refine hK.out _ _ trivial (fun hHeld => ?_)
      clear hK K
      refine norm_ (a' := ?_) ?_ ?_
      rotate_left
      · show Act.put _ (some 75) _ = _
        simp only [Act.put, List.setIfInBounds_toArray, List.set_cons_zero, List.set_cons_succ, i64_w, i32_w]
        rfl
      refine one_ (i := 25) (N := some 77) #[true, true, true, true, true, true, true, true, true, true, true, true, true, true, true, true, true, true, true, true, true, true, true, true, true, true, false, false, false, false, false] rfl rfl (one_of HT_.out (by kernel_rfl)) (by decide) (fun K hK => ?_)
      refine goes_ Try.func24 (by kernel_rfl) rfl #[.pointer (some ⟨qs, 0, none⟩)] (by rfl) rfl rfl (by simp only [List.map_toArray, List.map_cons, List.map_nil]; rfl) ?_
      with_reducible refine (gleberef09_Table_Put.calls 100 qs R1 (fun i => wB (R1 i).q) (fun i => wA (R1 i)) w _ (PlW.s (by first | exact HX.out | exact HX.out.drew)) (fun i hi => (ref_row (HG1.out i hi)).1) (fun i hi => (ref_row (HG1.out i hi)).2) (by have := HT1.out; unfold tabB at this; omega)).mono ?_
      rintro e wx ⟨v, rfl, ho, hbx⟩
      refine ⟨_, rfl, ?_⟩
      rw [show putTo R1 (fun i => wB (R1 i).q) (fun i => wA (R1 i)) 8 = Ls from HLs.out.symm] at ho
      obtain ⟨By, dBy, rfl⟩ := Kd.R_slice ho
      have HV2 := Aside0.mk (Kd.R_reads' ho).2.2
      clear ho
      replace HV := Aside0.mk (Kd.C_below HV.out hbx)
      replace HX := Aside0.mk (PlW.below (by first | exact HX.out | exact HX.out.drew) hbx)
      clear hbx
      refine hK.out _ _ trivial (fun hHeld => ?_)
      clear hK K
      refine norm_ (a' := ?_) ?_ ?_
      rotate_left
      · show Act.put _ (some 77) _ = _
        simp only [Act.put, List.setIfInBounds_toArray, List.set_cons_zero, List.set_cons_succ, i64_w, i32_w]
        rfl
      refine one_ (i := 26) (N := some 78) #[true, true, true, true, true, true, true, true, true, true, true, true, true, true, true, true, true, true, true, true, true, true, true, true, true, true, true, false, false, false, false] rfl rfl (one_of HT_.out (by kernel_rfl)) (by decide) (fun K hK => ?_)
      have hcHV2 := Kd.C_string (c := dBy) Try.underlying49 Try.underlying5 Try.underlying9 HV2.out
      refine value_ (w1 := ?_) (v := ?_) (by rfl) rfl ?_ ?_
      rotate_left 2
      · go_simp
        constructor
        · rfl
        · rfl
      refine hK.out _ _ trivial (fun hHeld => ?_)
      clear hK K
      refine norm_ (a' := ?_) ?_ ?_
      rotate_left
      · show Act.put _ (some 78) _ = _
        simp only [Act.put, List.setIfInBounds_toArray, List.set_cons_zero, List.set_cons_succ, i64_w, i32_w]
        rfl
      exact norm_ (by simp only [putAll, Act.put, List.setIfInBounds_toArray, List.set_cons_zero, List.set_cons_succ]) (hCont (By, dBy) _ HX.out)
    · skip
      refine goes_ Try.func24 (by kernel_rfl) rfl #[.pointer (some ⟨qs, 0, none⟩)] (by rfl) rfl rfl (by simp only [List.map_toArray, List.map_cons, List.map_nil]; rfl) ?_
      with_reducible refine (gleberef09_Table_Put.calls 100 qs R1 (fun i => wB (R1 i).q) (fun i => wA (R1 i)) w _ (PlW.s (by first | exact HX.out | exact HX.out.drew)) (fun i hi => (ref_row (HG1.out i hi)).1) (fun i hi => (ref_row (HG1.out i hi)).2) (by have := HT1.out; unfold tabB at this; omega)).mono ?_
      rintro e wx ⟨v, rfl, ho, hbx⟩
      refine ⟨_, rfl, ?_⟩
      rw [show putTo R1 (fun i => wB (R1 i).q) (fun i => wA (R1 i)) 8 = Ls from HLs.out.symm] at ho
      obtain ⟨By, dBy, rfl⟩ := Kd.R_slice ho
      have HV2 := Aside0.mk (Kd.R_reads' ho).2.2
      clear ho
      replace HV := Aside0.mk (Kd.C_below HV.out hbx)
      replace HX := Aside0.mk (PlW.below (by first | exact HX.out | exact HX.out.drew) hbx)
      clear hbx
      refine hK.out _ _ trivial (fun hHeld => ?_)
      clear hK K
      refine norm_ (a' := ?_) ?_ ?_
      rotate_left
      · show Act.put _ (some 77) _ = _
        simp only [Act.put, List.setIfInBounds_toArray, List.set_cons_zero, List.set_cons_succ, i64_w, i32_w]
        rfl
      refine two_ (i := 23) (j := 26) (Ni := some 75) (Nj := some 78) #[true, true, true, true, true, true, true, true, true, true, true, true, true, true, true, true, true, true, true, true, true, true, true, true, true, true, false, false, false, false, false] #[true, true, true, true, true, true, true, true, true, true, true, true, true, true, true, true, true, true, true, true, true, true, true, false, true, true, true, false, false, false, false] rfl rfl rfl rfl (two_of HT_.out (by kernel_rfl)) (by decide) (by decide) (fun K hK => ?_) (fun K hK => ?_)
      · skip
        have hcHV := Kd.C_string (c := dv) Try.underlying49 Try.underlying5 Try.underlying9 HV.out
        refine value_ (w1 := ?_) (v := ?_) (by rfl) rfl ?_ ?_
        rotate_left 2
        · go_simp
          constructor
          · rfl
          · rfl
        refine hK.out _ _ trivial (fun hHeld => ?_)
        clear hK K
        refine norm_ (a' := ?_) ?_ ?_
        rotate_left
        · show Act.put _ (some 75) _ = _
          simp only [Act.put, List.setIfInBounds_toArray, List.set_cons_zero, List.set_cons_succ, i64_w, i32_w]
          rfl
        refine one_ (i := 26) (N := some 78) #[true, true, true, true, true, true, true, true, true, true, true, true, true, true, true, true, true, true, true, true, true, true, true, true, true, true, true, false, false, false, false] rfl rfl (one_of HT_.out (by kernel_rfl)) (by decide) (fun K hK => ?_)
        have hcHV2 := Kd.C_string (c := dBy) Try.underlying49 Try.underlying5 Try.underlying9 HV2.out
        refine value_ (w1 := ?_) (v := ?_) (by rfl) rfl ?_ ?_
        rotate_left 2
        · go_simp
          constructor
          · rfl
          · rfl
        refine hK.out _ _ trivial (fun hHeld => ?_)
        clear hK K
        refine norm_ (a' := ?_) ?_ ?_
        rotate_left
        · show Act.put _ (some 78) _ = _
          simp only [Act.put, List.setIfInBounds_toArray, List.set_cons_zero, List.set_cons_succ, i64_w, i32_w]
          rfl
        exact norm_ (by simp only [putAll, Act.put, List.setIfInBounds_toArray, List.set_cons_zero, List.set_cons_succ]) (hCont (By, dBy) _ HX.out)
      · skip
        have hcHV2 := Kd.C_string (c := dBy) Try.underlying49 Try.underlying5 Try.underlying9 HV2.out
        refine value_ (w1 := ?_) (v := ?_) (by rfl) rfl ?_ ?_
        rotate_left 2
        · go_simp
          constructor
          · rfl
          · rfl
        refine hK.out _ _ trivial (fun hHeld => ?_)
        clear hK K
        refine norm_ (a' := ?_) ?_ ?_
        rotate_left
        · show Act.put _ (some 78) _ = _
          simp only [Act.put, List.setIfInBounds_toArray, List.set_cons_zero, List.set_cons_succ, i64_w, i32_w]
          rfl
        refine one_ (i := 23) (N := some 75) #[true, true, true, true, true, true, true, true, true, true, true, true, true, true, true, true, true, true, true, true, true, true, true, true, true, true, true, false, false, false, false] rfl rfl (one_of HT_.out (by kernel_rfl)) (by decide) (fun K hK => ?_)
        have hcHV := Kd.C_string (c := dv) Try.underlying49 Try.underlying5 Try.underlying9 HV.out
        refine value_ (w1 := ?_) (v := ?_) (by rfl) rfl ?_ ?_
        rotate_left 2
        · go_simp
          constructor
          · rfl
          · rfl
        refine hK.out _ _ trivial (fun hHeld => ?_)
        clear hK K
        refine norm_ (a' := ?_) ?_ ?_
        rotate_left
        · show Act.put _ (some 75) _ = _
          simp only [Act.put, List.setIfInBounds_toArray, List.set_cons_zero, List.set_cons_succ, i64_w, i32_w]
          rfl
        exact norm_ (by simp only [putAll, Act.put, List.setIfInBounds_toArray, List.set_cons_zero, List.set_cons_succ]) (hCont (By, dBy) _ HX.out)
  rintro s_ wx hX_
  clear HX HV
  have HX := Aside0.mk hX_
  clear hX_
  have hHeld : True := trivial
  refine norm_ (a' := ?_) ?_ ?_
  rotate_left
  · simp only [putAll, Act.put, List.setIfInBounds_toArray, List.set_cons_zero, List.set_cons_succ]
    rfl
  refine pure_ (i := 27) (N := some 79) (v := ?_) (a' := ?_) #[true, true, true, true, true, true, true, true, true, true, true, true, true, true, true, true, true, true, true, true, true, true, true, true, true, true, true, true, false, false, false] rfl rfl (any_of HT_.out (by kernel_rfl)) (fun _ _ _ h => h) (Or.inl ⟨by rfl, ?_⟩) ?_ ?_
  rotate_left
  · intro w'
    go_simp
    with_reducible rfl
  rotate_left
  · simp only [Act.put, List.setIfInBounds_toArray, List.set_cons_zero, List.set_cons_succ, i64_w, i32_w]
    rfl
  refine pure_ (i := 28) (N := some 80) (v := ?_) (a' := ?_) #[true, true, true, true, true, true, true, true, true, true, true, true, true, true, true, true, true, true, true, true, true, true, true, true, true, true, true, true, true, false, false] rfl rfl (any_of HT_.out (by kernel_rfl)) (fun _ _ _ h => h) (Or.inl ⟨by rfl, ?_⟩) ?_ ?_
  rotate_left
  · intro w'
    go_simp
    with_reducible rfl
  rotate_left
  · simp only [Act.put, List.setIfInBounds_toArray, List.set_cons_zero, List.set_cons_succ, i64_w, i32_w]
    rfl
  refine pure_ (i := 29) (N := some 81) (v := ?_) (a' := ?_) #[true, true, true, true, true, true, true, true, true, true, true, true, true, true, true, true, true, true, true, true, true, true, true, true, true, true, true, true, true, true, false] rfl rfl (any_of HT_.out (by kernel_rfl)) (fun _ _ _ h => h) (Or.inl ⟨by rfl, ?_⟩) ?_ ?_
  rotate_left
  · intro w'
    go_simp
    with_reducible rfl
  rotate_left
  · simp only [Act.put, List.setIfInBounds_toArray, List.set_cons_zero, List.set_cons_succ, i64_w, i32_w]
    rfl
  refine pure_ (i := 30) (N := some 4) (v := ?_) (a' := ?_) #[true, true, true, true, true, true, true, true, true, true, true, true, true, true, true, true, true, true, true, true, true, true, true, true, true, true, true, true, true, true, true] rfl rfl (any_of HT_.out (by kernel_rfl)) (fun _ _ _ h => h) (Or.inl ⟨by rfl, ?_⟩) ?_ ?_
  rotate_left
  · intro w'
    go_simp
    with_reducible rfl
  rotate_left
  · simp only [Act.put, List.setIfInBounds_toArray, List.set_cons_zero, List.set_cons_succ, i64_w, i32_w]
    rfl
  refine done_ (done_of HT_.out (by kernel_rfl)) ?_
  go_wp2
  go_ret
  exact ⟨rfl, HX.out.b⟩

end Go.Proofs.Ytlfnfgoocliecaa.PN
