-- Written by a program of this session (wip/tools/hp.py) over the kit's print; nothing here is trusted: Lean checks it.
import Derived.RegionTactic
import Derived.BigRegion
import Derived.Deep.DeepCutAuto
import Derived.Test.YtlfnfgoocliecaaSessBack
import Derived.Test.YtlfnfgoocliecaaSessLightN
import Derived.Test.YtlfnfgoocliecaaPNx0
import Derived.Test.YtlfnfgoocliecaaPNx1
import Derived.Test.YtlfnfgoocliecaaPNx2
import Derived.Test.YtlfnfgoocliecaaPNx3
namespace Go.Proofs.Ytlfnfgoocliecaa.PN
open Go.RowKit Go.Proofs.YtlfnfgoocliecaaW.PrintWords Go.Proofs.YtlfnfgoocliecaaW.PrintLast Go.Proofs.YtlfnfgoocliecaaW.PrintMore
attribute [local go_sem] max2_int min2_int max_two min_two max_three min_three max_four min_four   -- for this text's walks alone
set_option linter.unusedVariables false
set_option linter.unusedSimpArgs false

--OWN Derived.RegionTactic,Derived.BigRegion,Derived.Deep.DeepCutAuto,Derived.Test.YtlfnfgoocliecaaSessBack,Derived.Test.YtlfnfgoocliecaaSessLightN
/-! ### glebelaw09_SessionBack: function 8 -/
def glebelaw09_SessionBack.T10 : Bool × List (List Nat × List Nat) := (true, [([], []), ([], []), ([0, 1], [0, 1]), ([2, 2], [2]), ([3], [3]), ([4, 3, 3], [3, 4]), ([5, 5, 3], [3, 5]), ([6, 3], [3, 6]), ([3, 7], [3, 7]), ([8, 6], [8]), ([9], [9]), ([10, 9], [9, 10]), ([11, 9, 9], [9, 11]), ([12], [12]), ([13, 12, 12], [12, 13]), ([12], [12]), ([15, 12], [12, 15]), ([14, 16, 12], [12, 14, 16]), ([17, 14, 12], [12, 17]), ([18], [18]), ([19, 18, 18], [18, 19]), ([20, 18], [18, 20]), ([18], [18]), ([18], [18]), ([23, 18], [18, 23]), ([18], [18]), ([25, 20, 18], [18, 25]), ([24, 26, 18], [18, 24, 26]), ([22, 27, 18], [18, 22, 27]), ([28, 18], [18, 28]), ([21, 29, 18], [18, 21, 29]), ([18, 30, 12], [12, 18, 30]), ([12, 31, 9], [9, 12, 31]), ([9, 32], [9, 32]), ([33, 26, 0, 1, 2, 3, 4, 5, 6, 7, 8, 9, 10, 11, 12, 13, 14, 15, 16, 17, 18, 19, 20, 21, 22, 23, 24, 25, 26, 27, 28, 29, 30, 31, 32, 33], [33])])
def glebelaw09_SessionBack.B10 : List Nat := [0, 0, 3, 7, 15, 31, 63, 127, 255, 511, 1023, 2047, 4095, 8191, 16383, 8191, 40959, 131071, 262143, 524287, 1048575, 2097151, 524287, 524287, 8912895, 524287, 35651583, 127926271, 266338303, 534773759, 1073741823, 2147483647, 4294967295, 8589934591, 17179869183]
theorem glebelaw09_SessionBack.tab10 : rtab .any (opsOf Try.f8 10) = glebelaw09_SessionBack.T10 := by kernel_rfl
theorem glebelaw09_SessionBack.bits10 : waitsOk glebelaw09_SessionBack.T10.2 glebelaw09_SessionBack.B10 = true := by kernel_rfl
/-- What point.PutAns gives of a row that may be. -/
theorem put_row {r : SRow} (h : RightP r.e r.f r.v r.n) (W : World) : Calls Try.prog 43 #[.agg #[.int .i64 r.e, .bool r.f, .string r.v, .int .i64 r.n]] W fun e w' => ∃ (v : Value) (c : Int), e = .returned (.tuple #[v, .int .i64 c]) ∧ (Kd.int .u8).R 5 w' W.heap.size (fun _ => True) v (wA r) ∧ Below W.heap.size W w' := by
  have hl := wA_len h
  have h3 := h.2.2.1
  refine (point_PutAns.calls 100 wB wE wT (fun _ => 0) r.e r.f r.v r.n true W (right_yes h).1 (fun n _ => wB_f n) (fun n hn => ?_) (fun n _ => wB_f n) ?_).mono ?_
  · rw [List.mem_singleton.mp hn]
    exact wT_f r.v (by omega)
  · unfold wA at hl
    omega
  · rintro e w' ⟨v, rfl, ho, hb⟩
    exact ⟨v, _, rfl, ho, hb⟩
theorem good_pos {r : SRow} (h : GoodRow r) (hq : 0 < r.q) : RightP r.e r.f r.v r.n := by
  rcases h with rfl | h
  · exact absurd hq (by decide)
  · exact h.2.2
/-- What there is behind both readings. -/
structure BkW (w wj : World) (g0 gt gx gr gq : Nat) (lz : List Int) (z : Int) (R0 R2 : Nat → SRow) : Prop where
  t : IsTab w wj g0 R0
  u : IsTab w wj gt R0
  x : IsTab w wj gx R2
  r : IsRdr w wj gr [] 0 true
  q : IsRdr w wj gq lz z true
  b : Below w.heap.size w wj
theorem BkW.below {w wj w' : World} {g0 gt gx gr gq : Nat} {lz : List Int} {z : Int} {R0 R2 : Nat → SRow} (h : BkW w wj g0 gt gx gr gq lz z R0 R2) (hb : Below wj.heap.size wj w') : BkW w w' g0 gt gx gr gq lz z R0 R2 :=
  ⟨h.t.below hb, h.u.below hb, h.x.below hb, h.r.below hb, h.q.below hb, below_step h.b hb⟩
theorem BkW.drew {w wj : World} {g0 gt gx gr gq : Nat} {lz : List Int} {z : Int} {R0 R2 : Nat → SRow} (h : BkW w wj g0 gt gx gr gq lz z R0 R2) : BkW w wj.drew g0 gt gx gr gq lz z R0 R2 := h.below (below_drew (Below.refl _ _))
theorem rdDone_nil : rdDone [] 0 true = 0 := rfl
def glebelaw09_SessionBack.f (k : Nat) (l0 : List S26) (l1 : List Int) : Option Bool := if ∀ z ∈ l1, 0 ≤ z ∧ z < 256 then some true else none
set_option maxHeartbeats 32000000 in
set_option maxRecDepth 100000 in
theorem glebelaw09_SessionBack.calls (k : Nat) (A0 : Option Addr) (c0 : Nat) (l0 : List S26) (A1 : Option Addr) (c1 : Nat) (l1 : List Int) (r : Bool) (w : World) (hr0 : Kd.C k26 w A0 l0.length l0) (hc0 : l0.length ≤ c0) (hr1 : Kd.C (Kd.int .u8) w A1 l1.length l1) (hc1 : l1.length ≤ c1) (h : glebelaw09_SessionBack.f k l0 l1 = some r) :
    Calls Try.prog 8 #[.slice A0 l0.length c0, .slice A1 l1.length c1] w fun e w' => e = .returned (.bool r) ∧ Below w.heap.size w w' := by
  unfold glebelaw09_SessionBack.f at h
  by_cases hby : ∀ z ∈ l1, 0 ≤ z ∧ z < 256
  rotate_left
  · rw [if_neg hby] at h
    cases h
  rw [if_pos hby] at h
  obtain rfl := Option.some.inj h
  clear h
  have H0 := Aside0.mk hr0
  have H1 := Aside0.mk hr1
  have HBY := Aside0.mk hby
  obtain ⟨b0, hb0⟩ := light_total l0 hr0.2.1
  have HL0 := Aside0.mk hb0
  have HB := Aside0.mk (Below.refl w.heap.size w)
  clear hr0 hr1 hb0 hby
  by_cases z : l1.length > 3000
  · have zb : decide ((3000 : Int) < (l1.length : Int)) = true := decide_eq_true (by omega)
    have zn : decide (3000 < l1.length) = true := decide_eq_true z
    clear z
    go_enter Try.func8, Try.ntmps8
    go_wp2_with fail
    refine (glebelaw09_Light.calls 200 A0 c0 l0 b0 _ H0.out hc0 HL0.out).mono ?_
    rintro e wl0 ⟨rfl, hd⟩
    have hb := drawn_below hd
    replace H0 := Aside0.mk (Kd.C_below H0.out hb)
    replace HB := Aside0.mk (below_step HB.out hb)
    clear hb hd HL0
    cases b0
    all_goals
      go_wp2_with fail
      refine (glebelaw09_knows.calls true _ rfl).mono ?_
      rintro e wk ⟨rfl, hb⟩
      replace HB := Aside0.mk (below_step HB.out hb)
      clear hb
      go_wp2
      go_ret
      exact ⟨rfl, HB.out⟩
  have zb : decide ((3000 : Int) < (l1.length : Int)) = false := decide_eq_false (by omega)
  have zn : decide (3000 < l1.length) = false := decide_eq_false z
  have HLE := Aside0.mk (show l1.length ≤ 3000 by omega)
  clear z
  go_enter Try.func8, Try.ntmps8
  go_wp2_with fail
  refine (glebelaw09_Light.calls 200 A0 c0 l0 b0 _ H0.out hc0 HL0.out).mono ?_
  rintro e wl0 ⟨rfl, hd⟩
  have hb := drawn_below hd
  replace H0 := Aside0.mk (Kd.C_below H0.out hb)
  replace HB := Aside0.mk (below_step HB.out hb)
  clear hb hd HL0
  cases b0
  focus
    go_wp2_with fail
    refine (glebelaw09_knows.calls true _ rfl).mono ?_
    rintro e wk ⟨rfl, hb⟩
    replace HB := Aside0.mk (below_step HB.out hb)
    clear hb
    go_wp2
    go_ret
    exact ⟨rfl, HB.out⟩
  go_wp2_with fail
  refine (glebelaw09_both.calls A0 c0 l0 _ H0.out hc0).mono ?_
  rintro e wb0 ⟨g0, q0, R0, rfl, hT, ⟨_, hgood⟩, hb⟩
  have HT := Aside0.mk (show IsTab w wb0 g0 R0 from ⟨Nat.le_trans HB.out.size hT.base, hT.blk⟩)
  replace HB := Aside0.mk (below_step HB.out hb)
  have HGD := Aside0.mk hgood
  have htl := tabB_len hgood
  have HTL := Aside0.mk htl
  clear hT hb hgood htl H0
  go_wp2_with fail
  refine (glebelaw09_knows.calls true _ rfl).mono ?_
  rintro e wk ⟨rfl, hb⟩
  replace HB := Aside0.mk (below_step HB.out hb)
  replace HT := Aside0.mk (HT.out.below hb)
  clear hb
  go_wp2_with fail
  refine (session_Table_Put.calls 100 g0 R0 (fun i => wB (R0 i).q) (fun i => wA (R0 i)) (fun i => wE (R0 i).q) w _ HT.out (fun i _ => wB_f _) (fun i hi hp W => put_row (good_pos (HGD.out i hi) hp) W) (by have := HTL.out; unfold tabB at this; omega)).mono ?_
  rintro e wp ⟨v, rfl, ho, hb⟩
  obtain ⟨Ap, cp, rfl⟩ := Kd.R_slice ho
  have HCP := Aside0.mk (show (tabB R0).length ≤ cp ∧ (Kd.int .u8).C wp Ap (tabB R0).length (tabB R0) from (Kd.R_reads' ho).2)
  replace HT := Aside0.mk (HT.out.below hb)
  replace HB := Aside0.mk (below_step HB.out hb)
  clear ho hb
  rw [show putTo R0 (fun i => wB (R0 i).q) (fun i => wA (R0 i)) 8 = tabB R0 from rfl]
  go_wp2_with fail
  refine (wire_Open.calls Ap cp (tabB R0) _ HCP.out.2 HCP.out.1 (by have := HTL.out; omega)).mono ?_
  rintro e wo ⟨gr, A2, c2, rfl, hg, hblk, hc2, hC2, hty, hb⟩
  have HI := Aside0.mk (show IsRdr w wo gr (tabB R0) 0 true from ⟨Nat.le_trans HB.out.size hg, A2, c2, hblk, hc2, hC2, hty⟩)
  replace HT := Aside0.mk (HT.out.below hb)
  replace HB := Aside0.mk (below_step HB.out hb)
  clear hg hblk hc2 hC2 hty hb HCP
  obtain ⟨L, hL0, hL8, hst⟩ := tab_back HGD.out
  have HS := Aside0.mk hst
  clear hst
  go_wp2_with fail
  refine (session_Take.calls 100 gr L (fun _ => 0) R0 (fun i hi => HS.out i hi) w _ (by rw [hL0]; exact HI.out) HB.out).mono ?_
  rintro e wt ⟨gt, rfl, hT, hI, hb, hk⟩
  rw [hL8] at hI
  have HU := Aside0.mk (show IsTab w wt gt R0 from ⟨Nat.le_trans HB.out.size hT.base, hT.blk⟩)
  obtain ⟨cs1, hcs1⟩ := HI.out.blk1
  replace HT := Aside0.mk (HT.out.keep hk (blk_ne HT.out.blk hcs1 (by decide)))
  replace HI := Aside0.mk hI
  replace HB := Aside0.mk hb
  clear hT hI hb hk hcs1 cs1 hL0 hL8 HS
  rw [tkPtr_yes rfl]
  have HAL := Aside0.mk (show (([] : List Int).length + l1.length) * 1 ≤ 140737488355328 by have := HLE.out; simp; omega)
  go_wp2_with (first | ((with_reducible refine gate_dst (N := 36) rfl ?_); refine Kd.R_lit (Kd.int .u8) _ 5 ?hg (N := 36) ?hd (xs := ([] : List Int)) (inner := []) (ok := fun _ => True) (okp := fun _ => True) ?hr ?hp (fun _ hk => hk) trivial (Below.refl _ _) (Nat.le_refl _) (by simp) ?_; (case hd => rfl); (case hg => rfl); (case hr => first | (go_simp; done) | (go_simp; rfl)); (case hp => exact (Reps.none _ _)); intro vL wL hoL hb hg_ hnew_; clear hg_ hnew_; have HOL := Aside0.mk hoL; have HBN := Aside0.mk hb; clear hb hoL) | ((with_reducible refine gate_builtin (b := .append) (xs := #[.tmp 36, .tmp 37]) rfl ?_); at_builtin; refine Kd.R_append_rows (Kd.int .u8) (w0 := wt) wt.heap.size rfl (.tmp 36) (.tmp 37) 49 5 (.int .u8 0) 1 rfl Try.underlying49 info5 rfl (by decide) (by omega) _ [] l1 _ _ _ (fun _ => True) (fun _ => False) rfl rfl ?aO ?aR (fun _ _ h => h) (fun _ h => h.elim) ?aF ?aB ?aS ?aL ?_; (case aO => exact HOL.out); (case aR => exact Kd.C_below (Kd.C_below H1.out HB.out) HBN.out); (case aB => exact HBN.out); (case aF => exact (fun _ _ => trivial)); (case aS => exact (below_size HBN.out)); (case aL => exact HAL.out); intro vM wM ho hb hg hat; replace HOL := Aside0.mk ho; replace HBN := Aside0.mk hb; clear ho hb hg hat) | fail)
  have hol := HOL.out
  rw [List.nil_append] at hol
  obtain ⟨Ax, cx, rfl⟩ := Kd.R_slice hol
  have HCX := Aside0.mk (Kd.R_reads' hol)
  replace HT := Aside0.mk (HT.out.below HBN.out)
  replace HU := Aside0.mk (HU.out.below HBN.out)
  replace HI := Aside0.mk (HI.out.below HBN.out)
  replace HB := Aside0.mk (below_step HB.out HBN.out)
  clear hol HOL HBN HAL
  go_wp2_with fail
  refine (wire_Open.calls Ax cx l1 _ HCX.out.2.2 HCX.out.2.1 (by have := HLE.out; omega)).mono ?_
  rintro e wo ⟨gq, A2, c2, rfl, hg, hblk, hc2, hC2, hty, hb⟩
  have HQ := Aside0.mk (show IsRdr w wo gq l1 0 true from ⟨Nat.le_trans HB.out.size hg, A2, c2, hblk, hc2, hC2, hty⟩)
  have HNQ := Aside0.mk (show gr ≠ gq by
    obtain ⟨cs1, hcs1⟩ := HI.out.blk1
    have := blk_lt hcs1
    omega)
  replace HT := Aside0.mk (HT.out.below hb)
  replace HU := Aside0.mk (HU.out.below hb)
  replace HI := Aside0.mk (HI.out.below hb)
  replace HB := Aside0.mk (below_step HB.out hb)
  clear hg hblk hc2 hC2 hty hb HCX
  obtain ⟨L2, E2, R2, hL0, hE0, hst⟩ := takes_any l1
  have htk := fun h : E2 8 = 0 => tab_taken hst (by rw [hL0]; exact HBY.out) h
  rw [hL0] at htk
  have HS := Aside0.mk hst
  have HTK := Aside0.mk htk
  clear hst htk
  go_wp2_with fail
  refine (session_Take.calls 100 gq L2 E2 R2 (fun i _ => HS.out i) w _ (by rw [hL0, hE0]; exact HQ.out) HB.out).mono ?_
  rintro e wz ⟨gx, rfl, hT, hI, hb, hk⟩
  obtain ⟨cs1, hcs1⟩ := HQ.out.blk1
  have HX := Aside0.mk (show BkW w wz g0 gt gx gr gq (L2 8) (E2 8) R0 R2 from ⟨HT.out.keep hk (blk_ne HT.out.blk hcs1 (by decide)), HU.out.keep hk (blk_ne HU.out.blk hcs1 (by decide)), ⟨Nat.le_trans HB.out.size hT.base, hT.blk⟩, HI.out.keep hk HNQ.out.symm hcs1 (by decide), hI, hb⟩)
  clear hT hI hb hk hcs1 cs1 hL0 hE0 HS HQ HT HU HI HB HNQ
  generalize E2 8 = z at HX HTK ⊢
  generalize L2 8 = lz at HX HTK
  by_cases hz : z = 0
  focus
    subst hz
    rw [tkPtr_yes rfl]
    obtain ⟨hgood, hl0⟩ := HTK.out rfl
    have HG2 := Aside0.mk hgood
    have HT2 := Aside0.mk (tabB_len hgood)
    obtain ⟨Lv, hLv⟩ : ∃ x, x = tabB R2 := ⟨_, rfl⟩
    rw [← hLv] at hl0
    have HLV := Aside0.mk hLv
    clear hgood HTK hLv
    have hjl : l1.length = Lv.length + lz.length := by
      have := congrArg List.length hl0
      rw [List.length_append] at this
      exact this
    have HSL := Aside0.mk (show ∀ W : World, (Instr.slice 49 (.slice A1 l1.length c1) none (some (.int .i64 (Lv.length : Int))) none).run Try.prog W = .ok (.slice A1 Lv.length c1) W from fun W => by
      have := bytes_to A1 l1.length c1 (Lv.length : Int) (by omega) (by omega) hc1 W
      rwa [Int.toNat_natCast] at this)
    have HCT := Aside0.mk (show (Kd.int .u8).C w A1 Lv.length Lv by
      have q := Kd.C_take (m := Lv.length) H1.out (by omega)
      rw [show l1.take Lv.length = Lv by rw [hl0]; simp] at q
      exact q)
    have g2 : decide ((lz.length : Int) ≤ (l1.length : Int)) = true := decide_eq_true (by omega)
    have g4 : decide (lz.length ≤ l1.length) = true := decide_eq_true (by omega)
    have hq1 : (l1.length : Int) - (lz.length : Int) = (Lv.length : Int) := by omega
    have hw1 : wrap64 ((l1.length : Int) - (lz.length : Int)) = (Lv.length : Int) := by
      rw [hq1]
      exact Go.IntWalk.wrap64_in _ (by have := HLE.out; omega)
    have hw2 : IntKind.i64.wrap ((l1.length : Int) - (lz.length : Int)) = (Lv.length : Int) := (i64_w _).trans hw1
    clear hl0 hjl hq1
    go_wp2_with fail
    refine start_ (n := 35) (S := fun w' => (convert 49 9 (.slice A1 Lv.length c1)).run Try.prog w' = .ok (.string (strOfNums Lv)) w' ∧ (Instr.slice 49 (.slice A1 l1.length c1) none (some (.int .i64 (Lv.length : Int))) none).run Try.prog w' = .ok (.slice A1 Lv.length c1) w') (ds := []) #[false, false, false, false, false, false, false, false, false, false, false, false, false, false, false, false, false, false, false, false, false, false, false, false, false, false, false, false, false, false, false, false, false, false, false] (by kernel_rfl) rfl rfl ⟨(Kd.C_string Try.underlying49 Try.underlying5 Try.underlying9 (by first | exact Kd.C_below HCT.out HX.out.b | exact Kd.C_drew (Kd.C_below HCT.out HX.out.b))), (HSL.out _)⟩ (fun hHeld => ?_)
    refine with_tabW glebelaw09_SessionBack.tab10 glebelaw09_SessionBack.bits10 (fun HT_ HW_ => ?_)
    refine pure_ (i := 0) (N := some 42) (v := ?_) (a' := ?_) #[true, false, false, false, false, false, false, false, false, false, false, false, false, false, false, false, false, false, false, false, false, false, false, false, false, false, false, false, false, false, false, false, false, false, false] rfl rfl (any_of HT_.out (by kernel_rfl)) (fun _ _ _ h => h) (Or.inl ⟨by rfl, ?_⟩) ?_ ?_
    rotate_left
    · intro w'
      go_simp
      with_reducible rfl
    rotate_left
    · simp only [Act.put, List.setIfInBounds_toArray, List.set_cons_zero, List.set_cons_succ, i64_w, i32_w]
      rfl
    refine pure_ (i := 1) (N := some 43) (v := ?_) (a' := ?_) #[true, true, false, false, false, false, false, false, false, false, false, false, false, false, false, false, false, false, false, false, false, false, false, false, false, false, false, false, false, false, false, false, false, false, false] rfl rfl (any_of HT_.out (by kernel_rfl)) (fun _ _ _ h => h) (Or.inl ⟨by rfl, ?_⟩) ?_ ?_
    rotate_left
    · intro w'
      go_simp
      with_reducible rfl
    rotate_left
    · simp only [Act.put, List.setIfInBounds_toArray, List.set_cons_zero, List.set_cons_succ, i64_w, i32_w]
      rfl
    refine one_ (i := 2) (N := some 44) #[true, true, true, false, false, false, false, false, false, false, false, false, false, false, false, false, false, false, false, false, false, false, false, false, false, false, false, false, false, false, false, false, false, false, false] rfl rfl (one_of HT_.out (by kernel_rfl)) (by decide) (fun K hK => ?_)
    refine goes_ Try.func19 (by kernel_rfl) rfl #[.pointer (some ⟨gt, 0, none⟩), .pointer (some ⟨g0, 0, none⟩)] (by rfl) rfl rfl (by simp only [List.map_toArray, List.map_cons, List.map_nil]; rfl) ?_
    with_reducible refine (session_Table_Same.calls gt g0 R0 R0 w _ (BkW.u (by first | exact HX.out | exact HX.out.drew)) (BkW.t (by first | exact HX.out | exact HX.out.drew)) (fun _ _ => rfl)).mono ?_
    rintro e wx ⟨rfl, hbx⟩
    refine ⟨_, rfl, ?_⟩
    replace HX := Aside0.mk (BkW.below (by first | exact HX.out | exact HX.out.drew) hbx)
    clear hbx
    refine hK.out _ _ ⟨(Kd.C_string Try.underlying49 Try.underlying5 Try.underlying9 (by first | exact Kd.C_below HCT.out HX.out.b | exact Kd.C_drew (Kd.C_below HCT.out HX.out.b))), (HSL.out _)⟩ (fun hHeld => ?_)
    clear hK K
    refine norm_ (a' := ?_) ?_ ?_
    rotate_left
    · show Act.put _ (some 44) _ = _
      simp only [Act.put, List.setIfInBounds_toArray, List.set_cons_zero, List.set_cons_succ, i64_w, i32_w]
      rfl
    refine pure_ (i := 3) (N := some 45) (v := ?_) (a' := ?_) #[true, true, true, true, false, false, false, false, false, false, false, false, false, false, false, false, false, false, false, false, false, false, false, false, false, false, false, false, false, false, false, false, false, false, false] rfl rfl (any_of HT_.out (by kernel_rfl)) (fun _ _ _ h => h) (Or.inl ⟨by rfl, ?_⟩) ?_ ?_
    rotate_left
    · intro w'
      go_simp
      with_reducible rfl
    rotate_left
    · simp only [Act.put, List.setIfInBounds_toArray, List.set_cons_zero, List.set_cons_succ, i64_w, i32_w]
      rfl
    refine pure_ (i := 4) (N := some 46) (v := ?_) (a' := ?_) #[true, true, true, true, true, false, false, false, false, false, false, false, false, false, false, false, false, false, false, false, false, false, false, false, false, false, false, false, false, false, false, false, false, false, false] rfl rfl (any_of HT_.out (by kernel_rfl)) (fun _ _ _ h => h) (Or.inl ⟨by rfl, ?_⟩) ?_ ?_
    rotate_left
    · intro w'
      go_simp
      with_reducible rfl
    rotate_left
    · simp only [Act.put, List.setIfInBounds_toArray, List.set_cons_zero, List.set_cons_succ, i64_w, i32_w]
      rfl
    refine one_ (i := 5) (N := some 47) #[true, true, true, true, true, true, false, false, false, false, false, false, false, false, false, false, false, false, false, false, false, false, false, false, false, false, false, false, false, false, false, false, false, false, false] rfl rfl (one_of HT_.out (by kernel_rfl)) (by decide) (fun K hK => ?_)
    refine goes_ Try.func34 (by kernel_rfl) rfl #[.pointer (some ⟨gr, 0, none⟩)] (by rfl) rfl rfl (by simp only [List.map_toArray, List.map_cons, List.map_nil]; rfl) ?_
    with_reducible refine (wire_Reader_Done.calls gr [] 0 true w _ (BkW.r (by first | exact HX.out | exact HX.out.drew))).mono ?_
    rintro e wx ⟨rfl, rfl⟩
    refine ⟨_, rfl, ?_⟩
    rw [rdDone_nil]
    refine hK.out _ _ ⟨(Kd.C_string Try.underlying49 Try.underlying5 Try.underlying9 (by first | exact Kd.C_below HCT.out HX.out.b | exact Kd.C_drew (Kd.C_below HCT.out HX.out.b))), (HSL.out _)⟩ (fun hHeld => ?_)
    clear hK K
    refine norm_ (a' := ?_) ?_ ?_
    rotate_left
    · show Act.put _ (some 47) _ = _
      simp only [Act.put, List.setIfInBounds_toArray, List.set_cons_zero, List.set_cons_succ, i64_w, i32_w]
      rfl
    refine one_ (i := 6) (N := some 48) #[true, true, true, true, true, true, true, false, false, false, false, false, false, false, false, false, false, false, false, false, false, false, false, false, false, false, false, false, false, false, false, false, false, false, false] rfl rfl (one_of HT_.out (by kernel_rfl)) (by decide) (fun K hK => ?_)
    refine goes_ Try.func15 (by kernel_rfl) rfl #[.int .i64 0] (by rfl) rfl rfl (by simp only [List.map_toArray, List.map_cons, List.map_nil]; rfl) ?_
    with_reducible refine (glebelaw09_num.calls 0 0 _ rfl).mono ?_
    rintro e wx ⟨rfl, hbx0⟩
    refine ⟨_, rfl, ?_⟩
    have hbx := drawn_below hbx0
    replace HX := Aside0.mk (BkW.below (by first | exact HX.out | exact HX.out.drew) hbx)
    clear hbx
    clear hbx0
    refine hK.out _ _ ⟨(Kd.C_string Try.underlying49 Try.underlying5 Try.underlying9 (by first | exact Kd.C_below HCT.out HX.out.b | exact Kd.C_drew (Kd.C_below HCT.out HX.out.b))), (HSL.out _)⟩ (fun hHeld => ?_)
    clear hK K
    refine norm_ (a' := ?_) ?_ ?_
    rotate_left
    · show Act.put _ (some 48) _ = _
      simp only [Act.put, List.setIfInBounds_toArray, List.set_cons_zero, List.set_cons_succ, i64_w, i32_w]
      rfl
    refine pure_ (i := 7) (N := some 49) (v := ?_) (a' := ?_) #[true, true, true, true, true, true, true, true, false, false, false, false, false, false, false, false, false, false, false, false, false, false, false, false, false, false, false, false, false, false, false, false, false, false, false] rfl rfl (any_of HT_.out (by kernel_rfl)) (fun _ _ _ h => h) (Or.inl ⟨by rfl, ?_⟩) ?_ ?_
    rotate_left
    · intro w'
      go_simp
      with_reducible rfl
    rotate_left
    · simp only [Act.put, List.setIfInBounds_toArray, List.set_cons_zero, List.set_cons_succ, i64_w, i32_w]
      rfl
    refine pure_ (i := 8) (N := some 50) (v := ?_) (a' := ?_) #[true, true, true, true, true, true, true, true, true, false, false, false, false, false, false, false, false, false, false, false, false, false, false, false, false, false, false, false, false, false, false, false, false, false, false] rfl rfl (any_of HT_.out (by kernel_rfl)) (fun _ _ _ h => h) (Or.inl ⟨by rfl, ?_⟩) ?_ ?_
    rotate_left
    · intro w'
      go_simp
      with_reducible rfl
    rotate_left
    · simp only [Act.put, List.setIfInBounds_toArray, List.set_cons_zero, List.set_cons_succ, i64_w, i32_w]
      rfl
    refine pure_ (i := 9) (N := some 51) (v := ?_) (a' := ?_) #[true, true, true, true, true, true, true, true, true, true, false, false, false, false, false, false, false, false, false, false, false, false, false, false, false, false, false, false, false, false, false, false, false, false, false] rfl rfl (any_of HT_.out (by kernel_rfl)) (fun _ _ _ h => h) (Or.inl ⟨by rfl, ?_⟩) ?_ ?_
    rotate_left
    · intro w'
      go_simp
      with_reducible rfl
    rotate_left
    · simp only [Act.put, List.setIfInBounds_toArray, List.set_cons_zero, List.set_cons_succ, i64_w, i32_w]
      rfl
    refine pure_ (i := 10) (N := some 52) (v := ?_) (a' := ?_) #[true, true, true, true, true, true, true, true, true, true, true, false, false, false, false, false, false, false, false, false, false, false, false, false, false, false, false, false, false, false, false, false, false, false, false] rfl rfl (any_of HT_.out (by kernel_rfl)) (fun _ _ _ h => h) (Or.inl ⟨by rfl, ?_⟩) ?_ ?_
    rotate_left
    · intro w'
      go_simp
      with_reducible rfl
    rotate_left
    · simp only [Act.put, List.setIfInBounds_toArray, List.set_cons_zero, List.set_cons_succ, i64_w, i32_w]
      rfl
    refine pure_ (i := 11) (N := some 53) (v := ?_) (a' := ?_) #[true, true, true, true, true, true, true, true, true, true, true, true, false, false, false, false, false, false, false, false, false, false, false, false, false, false, false, false, false, false, false, false, false, false, false] rfl rfl (any_of HT_.out (by kernel_rfl)) (fun _ _ _ h => h) (Or.inl ⟨by rfl, ?_⟩) ?_ ?_
    rotate_left
    · intro w'
      go_simp
      with_reducible rfl
    rotate_left
    · simp only [Act.put, List.setIfInBounds_toArray, List.set_cons_zero, List.set_cons_succ, i64_w, i32_w]
      rfl
    refine pure_ (i := 12) (N := some 54) (v := ?_) (a' := ?_) #[true, true, true, true, true, true, true, true, true, true, true, true, true, false, false, false, false, false, false, false, false, false, false, false, false, false, false, false, false, false, false, false, false, false, false] rfl rfl (any_of HT_.out (by kernel_rfl)) (fun _ _ _ h => h) (Or.inl ⟨by rfl, ?_⟩) ?_ ?_
    rotate_left
    · intro w'
      go_simp
      with_reducible rfl
    rotate_left
    · simp only [Act.put, List.setIfInBounds_toArray, List.set_cons_zero, List.set_cons_succ, i64_w, i32_w]
      rfl
    refine pure_ (i := 13) (N := some 55) (v := ?_) (a' := ?_) #[true, true, true, true, true, true, true, true, true, true, true, true, true, true, false, false, false, false, false, false, false, false, false, false, false, false, false, false, false, false, false, false, false, false, false] rfl rfl (any_of HT_.out (by kernel_rfl)) (fun _ _ _ h => h) (Or.inl ⟨by rfl, ?_⟩) ?_ ?_
    rotate_left
    · intro w'
      go_simp
      with_reducible rfl
    rotate_left
    · simp only [Act.put, List.setIfInBounds_toArray, List.set_cons_zero, List.set_cons_succ, i64_w, i32_w]
      rfl
    refine pure_ (i := 15) (N := some 57) (v := ?_) (a' := ?_) #[true, true, true, true, true, true, true, true, true, true, true, true, true, true, false, true, false, false, false, false, false, false, false, false, false, false, false, false, false, false, false, false, false, false, false] rfl rfl (any_of HT_.out (by kernel_rfl)) (fun _ _ _ h => h) (Or.inl ⟨by rfl, ?_⟩) ?_ ?_
    rotate_left
    · intro w'
      go_simp
      with_reducible rfl
    rotate_left
    · simp only [Act.put, List.setIfInBounds_toArray, List.set_cons_zero, List.set_cons_succ, i64_w, i32_w]
      rfl
    refine pure_ (i := 16) (N := some 58) (v := ?_) (a' := ?_) #[true, true, true, true, true, true, true, true, true, true, true, true, true, true, false, true, true, false, false, false, false, false, false, false, false, false, false, false, false, false, false, false, false, false, false] rfl rfl (any_of HT_.out (by kernel_rfl)) (fun _ _ _ h => h) (Or.inl ⟨by rfl, ?_⟩) ?_ ?_
    rotate_left
    · intro w'
      go_simp
      with_reducible rfl
    rotate_left
    · simp only [Act.put, List.setIfInBounds_toArray, List.set_cons_zero, List.set_cons_succ, i64_w, i32_w]
      rfl
    refine one_ (i := 14) (N := some 56) #[true, true, true, true, true, true, true, true, true, true, true, true, true, true, true, true, true, false, false, false, false, false, false, false, false, false, false, false, false, false, false, false, false, false, false] rfl rfl (one_of HT_.out (by kernel_rfl)) (by decide) (fun K hK => ?_)
    refine goes_ Try.func31 (by kernel_rfl) rfl #[.pointer (some ⟨gq, 0, none⟩)] (by rfl) rfl rfl (by simp only [List.map_toArray, List.map_cons, List.map_nil]; rfl) ?_
    with_reducible refine (wire_Reader_Left.calls gq lz 0 true w _ (BkW.q (by first | exact HX.out | exact HX.out.drew))).mono ?_
    rintro e wx ⟨rfl, rfl⟩
    refine ⟨_, rfl, ?_⟩
    rw [if_pos (show rdOk 0 true = true from rfl)]
    refine hK.out _ _ ⟨(Kd.C_string Try.underlying49 Try.underlying5 Try.underlying9 (by first | exact Kd.C_below HCT.out HX.out.b | exact Kd.C_drew (Kd.C_below HCT.out HX.out.b))), (HSL.out _)⟩ (fun hHeld => ?_)
    clear hK K
    refine norm_ (a' := ?_) ?_ ?_
    rotate_left
    · show Act.put _ (some 56) _ = _
      simp only [Act.put, List.setIfInBounds_toArray, List.set_cons_zero, List.set_cons_succ, i64_w, i32_w]
      rfl
    refine pure_ (i := 17) (N := some 59) (v := ?_) (a' := ?_) #[true, true, true, true, true, true, true, true, true, true, true, true, true, true, true, true, true, true, false, false, false, false, false, false, false, false, false, false, false, false, false, false, false, false, false] rfl rfl (any_of HT_.out (by kernel_rfl)) (fun _ _ _ h => h) (Or.inl ⟨by rfl, ?_⟩) ?_ ?_
    rotate_left
    · intro w'
      go_simp
      with_reducible rfl
    rotate_left
    · simp only [Act.put, List.setIfInBounds_toArray, List.set_cons_zero, List.set_cons_succ, i64_w, i32_w]
      rfl
    refine pure_ (i := 18) (N := some 60) (v := ?_) (a' := ?_) #[true, true, true, true, true, true, true, true, true, true, true, true, true, true, true, true, true, true, true, false, false, false, false, false, false, false, false, false, false, false, false, false, false, false, false] rfl rfl (any_of HT_.out (by kernel_rfl)) (fun _ _ _ h => h) (Or.inl ⟨by rfl, ?_⟩) ?_ ?_
    rotate_left
    · intro w'
      go_simp
      with_reducible rfl
    rotate_left
    · simp only [Act.put, List.setIfInBounds_toArray, List.set_cons_zero, List.set_cons_succ, i64_w, i32_w]
      rfl
    refine pure_ (i := 19) (N := some 61) (v := ?_) (a' := ?_) #[true, true, true, true, true, true, true, true, true, true, true, true, true, true, true, true, true, true, true, true, false, false, false, false, false, false, false, false, false, false, false, false, false, false, false] rfl rfl (any_of HT_.out (by kernel_rfl)) (fun _ _ _ h => h) (Or.inl ⟨by rfl, ?_⟩) ?_ ?_
    rotate_left
    · intro w'
      go_simp
      with_reducible rfl
    rotate_left
    · simp only [Act.put, List.setIfInBounds_toArray, List.set_cons_zero, List.set_cons_succ, i64_w, i32_w]
      rfl
    refine pure_ (i := 22) (N := some 64) (v := ?_) (a' := ?_) #[true, true, true, true, true, true, true, true, true, true, true, true, true, true, true, true, true, true, true, true, false, false, true, false, false, false, false, false, false, false, false, false, false, false, false] rfl rfl (any_of HT_.out (by kernel_rfl)) (fun _ _ _ h => h) (Or.inl ⟨by rfl, ?_⟩) ?_ ?_
    rotate_left
    · intro w'
      go_simp
      with_reducible rfl
    rotate_left
    · simp only [Act.put, List.setIfInBounds_toArray, List.set_cons_zero, List.set_cons_succ, i64_w, i32_w]
      rfl
    refine pure_ (i := 23) (N := some 65) (v := ?_) (a' := ?_) #[true, true, true, true, true, true, true, true, true, true, true, true, true, true, true, true, true, true, true, true, false, false, true, true, false, false, false, false, false, false, false, false, false, false, false] rfl rfl (any_of HT_.out (by kernel_rfl)) (fun _ _ _ h => h) (Or.inl ⟨by rfl, ?_⟩) ?_ ?_
    rotate_left
    · intro w'
      go_simp
      with_reducible rfl
    rotate_left
    · simp only [Act.put, List.setIfInBounds_toArray, List.set_cons_zero, List.set_cons_succ, i64_w, i32_w]
      rfl
    refine pure_ (i := 24) (N := some 66) (v := ?_) (a' := ?_) #[true, true, true, true, true, true, true, true, true, true, true, true, true, true, true, true, true, true, true, true, false, false, true, true, true, false, false, false, false, false, false, false, false, false, false] rfl rfl (any_of HT_.out (by kernel_rfl)) (fun _ _ _ h => h) (Or.inl ⟨by rfl, ?_⟩) ?_ ?_
    rotate_left
    · intro w'
      go_simp
      with_reducible rfl
    rotate_left
    · simp only [Act.put, List.setIfInBounds_toArray, List.set_cons_zero, List.set_cons_succ, i64_w, i32_w]
      rfl
    refine pure_ (i := 25) (N := some 67) (v := ?_) (a' := ?_) #[true, true, true, true, true, true, true, true, true, true, true, true, true, true, true, true, true, true, true, true, false, false, true, true, true, true, false, false, false, false, false, false, false, false, false] rfl rfl (any_of HT_.out (by kernel_rfl)) (fun _ _ _ h => h) (Or.inl ⟨by rfl, ?_⟩) ?_ ?_
    rotate_left
    · intro w'
      go_simp
      with_reducible rfl
    rotate_left
    · simp only [Act.put, List.setIfInBounds_toArray, List.set_cons_zero, List.set_cons_succ, i64_w, i32_w]
      rfl
    refine one_ (i := 20) (N := some 62) #[true, true, true, true, true, true, true, true, true, true, true, true, true, true, true, true, true, true, true, true, true, false, true, true, true, true, false, false, false, false, false, false, false, false, false] rfl rfl (one_of HT_.out (by kernel_rfl)) (by decide) (fun K hK => ?_)
    refine goes_ Try.func23 (by kernel_rfl) rfl #[.pointer (some ⟨gx, 0, none⟩)] (by rfl) rfl rfl (by simp only [List.map_toArray, List.map_cons, List.map_nil]; rfl) ?_
    with_reducible refine (session_Table_Put.calls 100 gx R2 (fun i => wB (R2 i).q) (fun i => wA (R2 i)) (fun i => wE (R2 i).q) w _ (BkW.x (by first | exact HX.out | exact HX.out.drew)) (fun i _ => wB_f _) (fun i hi hp W => put_row (good_pos (HG2.out i hi) hp) W) (by have := HT2.out; unfold tabB at this; omega)).mono ?_
    rintro e wx ⟨v, rfl, ho, hbx⟩
    refine ⟨_, rfl, ?_⟩
    rw [show putTo R2 (fun i => wB (R2 i).q) (fun i => wA (R2 i)) 8 = Lv from HLV.out.symm] at ho
    obtain ⟨Bv, dv, rfl⟩ := Kd.R_slice ho
    have HV := Aside0.mk (Kd.R_reads' ho).2.2
    clear ho
    replace HX := Aside0.mk (BkW.below (by first | exact HX.out | exact HX.out.drew) hbx)
    clear hbx
    refine hK.out _ _ ⟨(Kd.C_string Try.underlying49 Try.underlying5 Try.underlying9 (by first | exact Kd.C_below HCT.out HX.out.b | exact Kd.C_drew (Kd.C_below HCT.out HX.out.b))), (HSL.out _)⟩ (fun hHeld => ?_)
    clear hK K
    refine norm_ (a' := ?_) ?_ ?_
    rotate_left
    · show Act.put _ (some 62) _ = _
      simp only [Act.put, List.setIfInBounds_toArray, List.set_cons_zero, List.set_cons_succ, i64_w, i32_w]
      rfl
    refine join_ (σ := Unit) 5 #[true, true, true, true, true, true, true, true, true, true, true, true, true, true, true, true, true, true, true, true, true, true, true, true, true, true, true, true, true, true, false, false, false, false, false] (fun _ => [(63, .string (strOfNums Lv)), (68, .int .i64 (lz.length : Int)), (69, .int .i64 (Lv.length : Int)), (70, .slice A1 Lv.length c1), (71, .string (strOfNums Lv))]) (fun (_ : Unit) (wj : World) => BkW w wj g0 gt gx gr gq lz 0 R0 R2) ?_ ?_
    rotate_left
    · intro hCont
      refine two_ (i := 21) (j := 26) (Ni := some 63) (Nj := some 68) #[true, true, true, true, true, true, true, true, true, true, true, true, true, true, true, true, true, true, true, true, true, true, true, true, true, true, false, false, false, false, false, false, false, false, false] #[true, true, true, true, true, true, true, true, true, true, true, true, true, true, true, true, true, true, true, true, true, false, true, true, true, true, true, false, false, false, false, false, false, false, false] rfl rfl rfl rfl (two_of HT_.out (by kernel_rfl)) (by decide) (by decide) (fun K hK => ?_) (fun K hK => ?_)
      · skip
        have hcv := Kd.C_string (c := dv) Try.underlying49 Try.underlying5 Try.underlying9 HV.out
        refine value_ (w1 := ?_) (v := ?_) (by rfl) rfl ?_ ?_
        rotate_left 2
        · go_simp
          constructor
          · rfl
          · rfl
        refine hK.out _ _ ⟨(Kd.C_string Try.underlying49 Try.underlying5 Try.underlying9 (by first | exact Kd.C_below HCT.out HX.out.b | exact Kd.C_drew (Kd.C_below HCT.out HX.out.b))), (HSL.out _)⟩ (fun hHeld => ?_)
        clear hK K
        refine norm_ (a' := ?_) ?_ ?_
        rotate_left
        · show Act.put _ (some 63) _ = _
          simp only [Act.put, List.setIfInBounds_toArray, List.set_cons_zero, List.set_cons_succ, i64_w, i32_w]
          rfl
        refine one_ (i := 26) (N := some 68) #[true, true, true, true, true, true, true, true, true, true, true, true, true, true, true, true, true, true, true, true, true, true, true, true, true, true, true, false, false, false, false, false, false, false, false] rfl rfl (one_of HT_.out (by kernel_rfl)) (by decide) (fun K hK => ?_)
        refine goes_ Try.func31 (by kernel_rfl) rfl #[.pointer (some ⟨gq, 0, none⟩)] (by rfl) rfl rfl (by simp only [List.map_toArray, List.map_cons, List.map_nil]; rfl) ?_
        with_reducible refine (wire_Reader_Left.calls gq lz 0 true w _ (BkW.q (by first | exact HX.out | exact HX.out.drew))).mono ?_
        rintro e wx ⟨rfl, rfl⟩
        refine ⟨_, rfl, ?_⟩
        rw [if_pos (show rdOk 0 true = true from rfl)]
        refine hK.out _ _ ⟨(Kd.C_string Try.underlying49 Try.underlying5 Try.underlying9 (by first | exact Kd.C_below HCT.out HX.out.b | exact Kd.C_drew (Kd.C_below HCT.out HX.out.b))), (HSL.out _)⟩ (fun hHeld => ?_)
        clear hK K
        refine norm_ (a' := ?_) ?_ ?_
        rotate_left
        · show Act.put _ (some 68) _ = _
          simp only [Act.put, List.setIfInBounds_toArray, List.set_cons_zero, List.set_cons_succ, i64_w, i32_w]
          rfl
        refine pure_ (i := 27) (N := some 69) (v := ?_) (a' := ?_) #[true, true, true, true, true, true, true, true, true, true, true, true, true, true, true, true, true, true, true, true, true, true, true, true, true, true, true, true, false, false, false, false, false, false, false] rfl rfl (any_of HT_.out (by kernel_rfl)) (fun _ _ _ h => h) (Or.inl ⟨by rfl, ?_⟩) ?_ ?_
        rotate_left
        · intro w'
          go_simp
          with_reducible rfl
        rotate_left
        · simp only [Act.put, List.setIfInBounds_toArray, List.set_cons_zero, List.set_cons_succ, i64_w, i32_w]
          rfl
        refine take_ (i := 28) (N := some 70) (v := ?_) (a' := ?_) #[true, true, true, true, true, true, true, true, true, true, true, true, true, true, true, true, true, true, true, true, true, true, true, true, true, true, true, true, true, false, false, false, false, false, false] rfl rfl (take_ofW HT_.out HW_.out (by kernel_rfl)) (fun _ _ _ h => h) (Or.inl ⟨by rfl, ?_⟩) hHeld ?_ ?_
        rotate_left
        · rintro w' ⟨s0, s1⟩
          go_simp
          with_reducible rfl
        rotate_left
        · simp only [Act.put, List.setIfInBounds_toArray, List.set_cons_zero, List.set_cons_succ, i64_w, i32_w]
          rfl
        refine take_ (i := 29) (N := some 71) (v := ?_) (a' := ?_) #[true, true, true, true, true, true, true, true, true, true, true, true, true, true, true, true, true, true, true, true, true, true, true, true, true, true, true, true, true, true, false, false, false, false, false] rfl rfl (take_ofW HT_.out HW_.out (by kernel_rfl)) (fun _ _ _ h => h) (Or.inl ⟨by rfl, ?_⟩) hHeld ?_ ?_
        rotate_left
        · rintro w' ⟨s0, s1⟩
          go_simp
          with_reducible rfl
        rotate_left
        · simp only [Act.put, List.setIfInBounds_toArray, List.set_cons_zero, List.set_cons_succ, i64_w, i32_w]
          rfl
        exact norm_ (by simp only [putAll, Act.put, List.setIfInBounds_toArray, List.set_cons_zero, List.set_cons_succ]) (hCont () _ HX.out)
      · skip
        refine goes_ Try.func31 (by kernel_rfl) rfl #[.pointer (some ⟨gq, 0, none⟩)] (by rfl) rfl rfl (by simp only [List.map_toArray, List.map_cons, List.map_nil]; rfl) ?_
        with_reducible refine (wire_Reader_Left.calls gq lz 0 true w _ (BkW.q (by first | exact HX.out | exact HX.out.drew))).mono ?_
        rintro e wx ⟨rfl, rfl⟩
        refine ⟨_, rfl, ?_⟩
        rw [if_pos (show rdOk 0 true = true from rfl)]
        refine hK.out _ _ ⟨(Kd.C_string Try.underlying49 Try.underlying5 Try.underlying9 (by first | exact Kd.C_below HCT.out HX.out.b | exact Kd.C_drew (Kd.C_below HCT.out HX.out.b))), (HSL.out _)⟩ (fun hHeld => ?_)
        clear hK K
        refine norm_ (a' := ?_) ?_ ?_
        rotate_left
        · show Act.put _ (some 68) _ = _
          simp only [Act.put, List.setIfInBounds_toArray, List.set_cons_zero, List.set_cons_succ, i64_w, i32_w]
          rfl
        refine pure_ (i := 27) (N := some 69) (v := ?_) (a' := ?_) #[true, true, true, true, true, true, true, true, true, true, true, true, true, true, true, true, true, true, true, true, true, false, true, true, true, true, true, true, false, false, false, false, false, false, false] rfl rfl (any_of HT_.out (by kernel_rfl)) (fun _ _ _ h => h) (Or.inl ⟨by rfl, ?_⟩) ?_ ?_
        rotate_left
        · intro w'
          go_simp
          with_reducible rfl
        rotate_left
        · simp only [Act.put, List.setIfInBounds_toArray, List.set_cons_zero, List.set_cons_succ, i64_w, i32_w]
          rfl
        refine take_ (i := 28) (N := some 70) (v := ?_) (a' := ?_) #[true, true, true, true, true, true, true, true, true, true, true, true, true, true, true, true, true, true, true, true, true, false, true, true, true, true, true, true, true, false, false, false, false, false, false] rfl rfl (take_ofW HT_.out HW_.out (by kernel_rfl)) (fun _ _ _ h => h) (Or.inl ⟨by rfl, ?_⟩) hHeld ?_ ?_
        rotate_left
        · rintro w' ⟨s0, s1⟩
          go_simp
          with_reducible rfl
        rotate_left
        · simp only [Act.put, List.setIfInBounds_toArray, List.set_cons_zero, List.set_cons_succ, i64_w, i32_w]
          rfl
        refine take_ (i := 29) (N := some 71) (v := ?_) (a' := ?_) #[true, true, true, true, true, true, true, true, true, true, true, true, true, true, true, true, true, true, true, true, true, false, true, true, true, true, true, true, true, true, false, false, false, false, false] rfl rfl (take_ofW HT_.out HW_.out (by kernel_rfl)) (fun _ _ _ h => h) (Or.inl ⟨by rfl, ?_⟩) hHeld ?_ ?_
        rotate_left
        · rintro w' ⟨s0, s1⟩
          go_simp
          with_reducible rfl
        rotate_left
        · simp only [Act.put, List.setIfInBounds_toArray, List.set_cons_zero, List.set_cons_succ, i64_w, i32_w]
          rfl
        refine one_ (i := 21) (N := some 63) #[true, true, true, true, true, true, true, true, true, true, true, true, true, true, true, true, true, true, true, true, true, true, true, true, true, true, true, true, true, true, false, false, false, false, false] rfl rfl (one_of HT_.out (by kernel_rfl)) (by decide) (fun K hK => ?_)
        have hcv := Kd.C_string (c := dv) Try.underlying49 Try.underlying5 Try.underlying9 HV.out
        refine value_ (w1 := ?_) (v := ?_) (by rfl) rfl ?_ ?_
        rotate_left 2
        · go_simp
          constructor
          · rfl
          · rfl
        refine hK.out _ _ ⟨(Kd.C_string Try.underlying49 Try.underlying5 Try.underlying9 (by first | exact Kd.C_below HCT.out HX.out.b | exact Kd.C_drew (Kd.C_below HCT.out HX.out.b))), (HSL.out _)⟩ (fun hHeld => ?_)
        clear hK K
        refine norm_ (a' := ?_) ?_ ?_
        rotate_left
        · show Act.put _ (some 63) _ = _
          simp only [Act.put, List.setIfInBounds_toArray, List.set_cons_zero, List.set_cons_succ, i64_w, i32_w]
          rfl
        exact norm_ (by simp only [putAll, Act.put, List.setIfInBounds_toArray, List.set_cons_zero, List.set_cons_succ]) (hCont () _ HX.out)
    rintro s_ wx hX_
    clear HX
    have HX := Aside0.mk hX_
    clear hX_ s_
    have hHeld : ((convert 49 9 (.slice A1 Lv.length c1)).run Try.prog wx = .ok (.string (strOfNums Lv)) wx) ∧ ((Instr.slice 49 (.slice A1 l1.length c1) none (some (.int .i64 (Lv.length : Int))) none).run Try.prog wx = .ok (.slice A1 Lv.length c1) wx) := ⟨(Kd.C_string Try.underlying49 Try.underlying5 Try.underlying9 (by first | exact Kd.C_below HCT.out HX.out.b | exact Kd.C_drew (Kd.C_below HCT.out HX.out.b))), (HSL.out _)⟩
    refine norm_ (a' := ?_) ?_ ?_
    rotate_left
    · simp only [putAll, Act.put, List.setIfInBounds_toArray, List.set_cons_zero, List.set_cons_succ]
      rfl
    refine pure_ (i := 30) (N := some 72) (v := ?_) (a' := ?_) #[true, true, true, true, true, true, true, true, true, true, true, true, true, true, true, true, true, true, true, true, true, true, true, true, true, true, true, true, true, true, true, false, false, false, false] rfl rfl (any_of HT_.out (by kernel_rfl)) (fun _ _ _ h => h) (Or.inl ⟨by rfl, ?_⟩) ?_ ?_
    rotate_left
    · intro w'
      go_simp
      with_reducible rfl
    rotate_left
    · simp only [Act.put, List.setIfInBounds_toArray, List.set_cons_zero, List.set_cons_succ, i64_w, i32_w]
      rfl
    refine pure_ (i := 31) (N := some 73) (v := ?_) (a' := ?_) #[true, true, true, true, true, true, true, true, true, true, true, true, true, true, true, true, true, true, true, true, true, true, true, true, true, true, true, true, true, true, true, true, false, false, false] rfl rfl (any_of HT_.out (by kernel_rfl)) (fun _ _ _ h => h) (Or.inl ⟨by rfl, ?_⟩) ?_ ?_
    rotate_left
    · intro w'
      go_simp
      with_reducible rfl
    rotate_left
    · simp only [Act.put, List.setIfInBounds_toArray, List.set_cons_zero, List.set_cons_succ, i64_w, i32_w]
      rfl
    refine pure_ (i := 32) (N := some 74) (v := ?_) (a' := ?_) #[true, true, true, true, true, true, true, true, true, true, true, true, true, true, true, true, true, true, true, true, true, true, true, true, true, true, true, true, true, true, true, true, true, false, false] rfl rfl (any_of HT_.out (by kernel_rfl)) (fun _ _ _ h => h) (Or.inl ⟨by rfl, ?_⟩) ?_ ?_
    rotate_left
    · intro w'
      go_simp
      with_reducible rfl
    rotate_left
    · simp only [Act.put, List.setIfInBounds_toArray, List.set_cons_zero, List.set_cons_succ, i64_w, i32_w]
      rfl
    refine pure_ (i := 33) (N := some 75) (v := ?_) (a' := ?_) #[true, true, true, true, true, true, true, true, true, true, true, true, true, true, true, true, true, true, true, true, true, true, true, true, true, true, true, true, true, true, true, true, true, true, false] rfl rfl (any_of HT_.out (by kernel_rfl)) (fun _ _ _ h => h) (Or.inl ⟨by rfl, ?_⟩) ?_ ?_
    rotate_left
    · intro w'
      go_simp
      with_reducible rfl
    rotate_left
    · simp only [Act.put, List.setIfInBounds_toArray, List.set_cons_zero, List.set_cons_succ, i64_w, i32_w]
      rfl
    refine pure_ (i := 34) (N := some 4) (v := ?_) (a' := ?_) #[true, true, true, true, true, true, true, true, true, true, true, true, true, true, true, true, true, true, true, true, true, true, true, true, true, true, true, true, true, true, true, true, true, true, true] rfl rfl (any_of HT_.out (by kernel_rfl)) (fun _ _ _ h => h) (Or.inl ⟨by rfl, ?_⟩) ?_ ?_
    rotate_left
    · intro w'
      go_simp
      with_reducible rfl
    rotate_left
    · simp only [Act.put, List.setIfInBounds_toArray, List.set_cons_zero, List.set_cons_succ, i64_w, i32_w]
      rfl
    refine done_ (done_of HT_.out (by kernel_rfl)) ?_
    go_wp2
    go_ret
    exact ⟨rfl, HX.out.b⟩
  rw [tkPtr_no hz]
  clear HTK hz
  go_wp2_with fail
  refine start_ (n := 35) (S := fun w' => True) (ds := []) #[false, false, false, false, false, false, false, false, false, false, false, false, false, false, false, false, false, false, false, false, false, false, false, false, false, false, false, false, false, false, false, false, false, false, false] (by kernel_rfl) rfl rfl trivial (fun hHeld => ?_)
  refine with_tabW glebelaw09_SessionBack.tab10 glebelaw09_SessionBack.bits10 (fun HT_ HW_ => ?_)
  refine pure_ (i := 0) (N := some 42) (v := ?_) (a' := ?_) #[true, false, false, false, false, false, false, false, false, false, false, false, false, false, false, false, false, false, false, false, false, false, false, false, false, false, false, false, false, false, false, false, false, false, false] rfl rfl (any_of HT_.out (by kernel_rfl)) (fun _ _ _ h => h) (Or.inl ⟨by rfl, ?_⟩) ?_ ?_
  rotate_left
  · intro w'
    go_simp
    with_reducible rfl
  rotate_left
  · simp only [Act.put, List.setIfInBounds_toArray, List.set_cons_zero, List.set_cons_succ, i64_w, i32_w]
    rfl
  refine pure_ (i := 1) (N := some 43) (v := ?_) (a' := ?_) #[true, true, false, false, false, false, false, false, false, false, false, false, false, false, false, false, false, false, false, false, false, false, false, false, false, false, false, false, false, false, false, false, false, false, false] rfl rfl (any_of HT_.out (by kernel_rfl)) (fun _ _ _ h => h) (Or.inl ⟨by rfl, ?_⟩) ?_ ?_
  rotate_left
  · intro w'
    go_simp
    with_reducible rfl
  rotate_left
  · simp only [Act.put, List.setIfInBounds_toArray, List.set_cons_zero, List.set_cons_succ, i64_w, i32_w]
    rfl
  refine one_ (i := 2) (N := some 44) #[true, true, true, false, false, false, false, false, false, false, false, false, false, false, false, false, false, false, false, false, false, false, false, false, false, false, false, false, false, false, false, false, false, false, false] rfl rfl (one_of HT_.out (by kernel_rfl)) (by decide) (fun K hK => ?_)
  refine goes_ Try.func19 (by kernel_rfl) rfl #[.pointer (some ⟨gt, 0, none⟩), .pointer (some ⟨g0, 0, none⟩)] (by rfl) rfl rfl (by simp only [List.map_toArray, List.map_cons, List.map_nil]; rfl) ?_
  with_reducible refine (session_Table_Same.calls gt g0 R0 R0 w _ (BkW.u (by first | exact HX.out | exact HX.out.drew)) (BkW.t (by first | exact HX.out | exact HX.out.drew)) (fun _ _ => rfl)).mono ?_
  rintro e wx ⟨rfl, hbx⟩
  refine ⟨_, rfl, ?_⟩
  replace HX := Aside0.mk (BkW.below (by first | exact HX.out | exact HX.out.drew) hbx)
  clear hbx
  refine hK.out _ _ trivial (fun hHeld => ?_)
  clear hK K
  refine norm_ (a' := ?_) ?_ ?_
  rotate_left
  · show Act.put _ (some 44) _ = _
    simp only [Act.put, List.setIfInBounds_toArray, List.set_cons_zero, List.set_cons_succ, i64_w, i32_w]
    rfl
  refine pure_ (i := 3) (N := some 45) (v := ?_) (a' := ?_) #[true, true, true, true, false, false, false, false, false, false, false, false, false, false, false, false, false, false, false, false, false, false, false, false, false, false, false, false, false, false, false, false, false, false, false] rfl rfl (any_of HT_.out (by kernel_rfl)) (fun _ _ _ h => h) (Or.inl ⟨by rfl, ?_⟩) ?_ ?_
  rotate_left
  · intro w'
    go_simp
    with_reducible rfl
  rotate_left
  · simp only [Act.put, List.setIfInBounds_toArray, List.set_cons_zero, List.set_cons_succ, i64_w, i32_w]
    rfl
  refine pure_ (i := 4) (N := some 46) (v := ?_) (a' := ?_) #[true, true, true, true, true, false, false, false, false, false, false, false, false, false, false, false, false, false, false, false, false, false, false, false, false, false, false, false, false, false, false, false, false, false, false] rfl rfl (any_of HT_.out (by kernel_rfl)) (fun _ _ _ h => h) (Or.inl ⟨by rfl, ?_⟩) ?_ ?_
  rotate_left
  · intro w'
    go_simp
    with_reducible rfl
  rotate_left
  · simp only [Act.put, List.setIfInBounds_toArray, List.set_cons_zero, List.set_cons_succ, i64_w, i32_w]
    rfl
  refine one_ (i := 5) (N := some 47) #[true, true, true, true, true, true, false, false, false, false, false, false, false, false, false, false, false, false, false, false, false, false, false, false, false, false, false, false, false, false, false, false, false, false, false] rfl rfl (one_of HT_.out (by kernel_rfl)) (by decide) (fun K hK => ?_)
  refine goes_ Try.func34 (by kernel_rfl) rfl #[.pointer (some ⟨gr, 0, none⟩)] (by rfl) rfl rfl (by simp only [List.map_toArray, List.map_cons, List.map_nil]; rfl) ?_
  with_reducible refine (wire_Reader_Done.calls gr [] 0 true w _ (BkW.r (by first | exact HX.out | exact HX.out.drew))).mono ?_
  rintro e wx ⟨rfl, rfl⟩
  refine ⟨_, rfl, ?_⟩
  rw [rdDone_nil]
  refine hK.out _ _ trivial (fun hHeld => ?_)
  clear hK K
  refine norm_ (a' := ?_) ?_ ?_
  rotate_left
  · show Act.put _ (some 47) _ = _
    simp only [Act.put, List.setIfInBounds_toArray, List.set_cons_zero, List.set_cons_succ, i64_w, i32_w]
    rfl
  refine one_ (i := 6) (N := some 48) #[true, true, true, true, true, true, true, false, false, false, false, false, false, false, false, false, false, false, false, false, false, false, false, false, false, false, false, false, false, false, false, false, false, false, false] rfl rfl (one_of HT_.out (by kernel_rfl)) (by decide) (fun K hK => ?_)
  refine goes_ Try.func15 (by kernel_rfl) rfl #[.int .i64 0] (by rfl) rfl rfl (by simp only [List.map_toArray, List.map_cons, List.map_nil]; rfl) ?_
  with_reducible refine (glebelaw09_num.calls 0 0 _ rfl).mono ?_
  rintro e wx ⟨rfl, hbx0⟩
  refine ⟨_, rfl, ?_⟩
  have hbx := drawn_below hbx0
  replace HX := Aside0.mk (BkW.below (by first | exact HX.out | exact HX.out.drew) hbx)
  clear hbx
  clear hbx0
  refine hK.out _ _ trivial (fun hHeld => ?_)
  clear hK K
  refine norm_ (a' := ?_) ?_ ?_
  rotate_left
  · show Act.put _ (some 48) _ = _
    simp only [Act.put, List.setIfInBounds_toArray, List.set_cons_zero, List.set_cons_succ, i64_w, i32_w]
    rfl
  refine pure_ (i := 7) (N := some 49) (v := ?_) (a' := ?_) #[true, true, true, true, true, true, true, true, false, false, false, false, false, false, false, false, false, false, false, false, false, false, false, false, false, false, false, false, false, false, false, false, false, false, false] rfl rfl (any_of HT_.out (by kernel_rfl)) (fun _ _ _ h => h) (Or.inl ⟨by rfl, ?_⟩) ?_ ?_
  rotate_left
  · intro w'
    go_simp
    with_reducible rfl
  rotate_left
  · simp only [Act.put, List.setIfInBounds_toArray, List.set_cons_zero, List.set_cons_succ, i64_w, i32_w]
    rfl
  refine pure_ (i := 8) (N := some 50) (v := ?_) (a' := ?_) #[true, true, true, true, true, true, true, true, true, false, false, false, false, false, false, false, false, false, false, false, false, false, false, false, false, false, false, false, false, false, false, false, false, false, false] rfl rfl (any_of HT_.out (by kernel_rfl)) (fun _ _ _ h => h) (Or.inl ⟨by rfl, ?_⟩) ?_ ?_
  rotate_left
  · intro w'
    go_simp
    with_reducible rfl
  rotate_left
  · simp only [Act.put, List.setIfInBounds_toArray, List.set_cons_zero, List.set_cons_succ, i64_w, i32_w]
    rfl
  refine pure_ (i := 9) (N := some 51) (v := ?_) (a' := ?_) #[true, true, true, true, true, true, true, true, true, true, false, false, false, false, false, false, false, false, false, false, false, false, false, false, false, false, false, false, false, false, false, false, false, false, false] rfl rfl (any_of HT_.out (by kernel_rfl)) (fun _ _ _ h => h) (Or.inl ⟨by rfl, ?_⟩) ?_ ?_
  rotate_left
  · intro w'
    go_simp
    with_reducible rfl
  rotate_left
  · simp only [Act.put, List.setIfInBounds_toArray, List.set_cons_zero, List.set_cons_succ, i64_w, i32_w]
    rfl
  refine pure_ (i := 10) (N := some 52) (v := ?_) (a' := ?_) #[true, true, true, true, true, true, true, true, true, true, true, false, false, false, false, false, false, false, false, false, false, false, false, false, false, false, false, false, false, false, false, false, false, false, false] rfl rfl (any_of HT_.out (by kernel_rfl)) (fun _ _ _ h => h) (Or.inl ⟨by rfl, ?_⟩) ?_ ?_
  rotate_left
  · intro w'
    go_simp
    with_reducible rfl
  rotate_left
  · simp only [Act.put, List.setIfInBounds_toArray, List.set_cons_zero, List.set_cons_succ, i64_w, i32_w]
    rfl
  refine pure_ (i := 11) (N := some 53) (v := ?_) (a' := ?_) #[true, true, true, true, true, true, true, true, true, true, true, true, false, false, false, false, false, false, false, false, false, false, false, false, false, false, false, false, false, false, false, false, false, false, false] rfl rfl (any_of HT_.out (by kernel_rfl)) (fun _ _ _ h => h) (Or.inl ⟨by rfl, ?_⟩) ?_ ?_
  rotate_left
  · intro w'
    go_simp
    with_reducible rfl
  rotate_left
  · simp only [Act.put, List.setIfInBounds_toArray, List.set_cons_zero, List.set_cons_succ, i64_w, i32_w]
    rfl
  refine pure_ (i := 12) (N := some 54) (v := ?_) (a' := ?_) #[true, true, true, true, true, true, true, true, true, true, true, true, true, false, false, false, false, false, false, false, false, false, false, false, false, false, false, false, false, false, false, false, false, false, false] rfl rfl (any_of HT_.out (by kernel_rfl)) (fun _ _ _ h => h) (Or.inl ⟨by rfl, ?_⟩) ?_ ?_
  rotate_left
  · intro w'
    go_simp
    with_reducible rfl
  rotate_left
  · simp only [Act.put, List.setIfInBounds_toArray, List.set_cons_zero, List.set_cons_succ, i64_w, i32_w]
    rfl
  refine pure_ (i := 13) (N := some 55) (v := undef) (a' := ?_) #[true, true, true, true, true, true, true, true, true, true, true, true, true, true, false, false, false, false, false, false, false, false, false, false, false, false, false, false, false, false, false, false, false, false, false] rfl rfl (any_of HT_.out (by kernel_rfl)) (fun _ _ _ h => h) (Or.inr ⟨by rfl, rfl⟩) ?_ ?_
  rotate_left
  · simp only [Act.put, List.setIfInBounds_toArray, List.set_cons_zero, List.set_cons_succ, i64_w, i32_w]
    rfl
  refine pure_ (i := 14) (N := some 56) (v := undef) (a' := ?_) #[true, true, true, true, true, true, true, true, true, true, true, true, true, true, true, false, false, false, false, false, false, false, false, false, false, false, false, false, false, false, false, false, false, false, false] rfl rfl (any_of HT_.out (by kernel_rfl)) (fun _ _ _ h => h) (Or.inr ⟨by rfl, rfl⟩) ?_ ?_
  rotate_left
  · simp only [Act.put, List.setIfInBounds_toArray, List.set_cons_zero, List.set_cons_succ, i64_w, i32_w]
    rfl
  refine pure_ (i := 15) (N := some 57) (v := undef) (a' := ?_) #[true, true, true, true, true, true, true, true, true, true, true, true, true, true, true, true, false, false, false, false, false, false, false, false, false, false, false, false, false, false, false, false, false, false, false] rfl rfl (any_of HT_.out (by kernel_rfl)) (fun _ _ _ h => h) (Or.inr ⟨by rfl, rfl⟩) ?_ ?_
  rotate_left
  · simp only [Act.put, List.setIfInBounds_toArray, List.set_cons_zero, List.set_cons_succ, i64_w, i32_w]
    rfl
  refine pure_ (i := 16) (N := some 58) (v := undef) (a' := ?_) #[true, true, true, true, true, true, true, true, true, true, true, true, true, true, true, true, true, false, false, false, false, false, false, false, false, false, false, false, false, false, false, false, false, false, false] rfl rfl (any_of HT_.out (by kernel_rfl)) (fun _ _ _ h => h) (Or.inr ⟨by rfl, rfl⟩) ?_ ?_
  rotate_left
  · simp only [Act.put, List.setIfInBounds_toArray, List.set_cons_zero, List.set_cons_succ, i64_w, i32_w]
    rfl
  refine pure_ (i := 17) (N := some 59) (v := undef) (a' := ?_) #[true, true, true, true, true, true, true, true, true, true, true, true, true, true, true, true, true, true, false, false, false, false, false, false, false, false, false, false, false, false, false, false, false, false, false] rfl rfl (any_of HT_.out (by kernel_rfl)) (fun _ _ _ h => h) (Or.inr ⟨by rfl, rfl⟩) ?_ ?_
  rotate_left
  · simp only [Act.put, List.setIfInBounds_toArray, List.set_cons_zero, List.set_cons_succ, i64_w, i32_w]
    rfl
  refine pure_ (i := 18) (N := some 60) (v := undef) (a' := ?_) #[true, true, true, true, true, true, true, true, true, true, true, true, true, true, true, true, true, true, true, false, false, false, false, false, false, false, false, false, false, false, false, false, false, false, false] rfl rfl (any_of HT_.out (by kernel_rfl)) (fun _ _ _ h => h) (Or.inr ⟨by rfl, rfl⟩) ?_ ?_
  rotate_left
  · simp only [Act.put, List.setIfInBounds_toArray, List.set_cons_zero, List.set_cons_succ, i64_w, i32_w]
    rfl
  refine pure_ (i := 19) (N := some 61) (v := undef) (a' := ?_) #[true, true, true, true, true, true, true, true, true, true, true, true, true, true, true, true, true, true, true, true, false, false, false, false, false, false, false, false, false, false, false, false, false, false, false] rfl rfl (any_of HT_.out (by kernel_rfl)) (fun _ _ _ h => h) (Or.inr ⟨by rfl, rfl⟩) ?_ ?_
  rotate_left
  · simp only [Act.put, List.setIfInBounds_toArray, List.set_cons_zero, List.set_cons_succ, i64_w, i32_w]
    rfl
  refine pure_ (i := 20) (N := some 62) (v := undef) (a' := ?_) #[true, true, true, true, true, true, true, true, true, true, true, true, true, true, true, true, true, true, true, true, true, false, false, false, false, false, false, false, false, false, false, false, false, false, false] rfl rfl (any_of HT_.out (by kernel_rfl)) (fun _ _ _ h => h) (Or.inr ⟨by rfl, rfl⟩) ?_ ?_
  rotate_left
  · simp only [Act.put, List.setIfInBounds_toArray, List.set_cons_zero, List.set_cons_succ, i64_w, i32_w]
    rfl
  refine pure_ (i := 21) (N := some 63) (v := undef) (a' := ?_) #[true, true, true, true, true, true, true, true, true, true, true, true, true, true, true, true, true, true, true, true, true, true, false, false, false, false, false, false, false, false, false, false, false, false, false] rfl rfl (any_of HT_.out (by kernel_rfl)) (fun _ _ _ h => h) (Or.inr ⟨by rfl, rfl⟩) ?_ ?_
  rotate_left
  · simp only [Act.put, List.setIfInBounds_toArray, List.set_cons_zero, List.set_cons_succ, i64_w, i32_w]
    rfl
  refine pure_ (i := 22) (N := some 64) (v := undef) (a' := ?_) #[true, true, true, true, true, true, true, true, true, true, true, true, true, true, true, true, true, true, true, true, true, true, true, false, false, false, false, false, false, false, false, false, false, false, false] rfl rfl (any_of HT_.out (by kernel_rfl)) (fun _ _ _ h => h) (Or.inr ⟨by rfl, rfl⟩) ?_ ?_
  rotate_left
  · simp only [Act.put, List.setIfInBounds_toArray, List.set_cons_zero, List.set_cons_succ, i64_w, i32_w]
    rfl
  refine pure_ (i := 23) (N := some 65) (v := undef) (a' := ?_) #[true, true, true, true, true, true, true, true, true, true, true, true, true, true, true, true, true, true, true, true, true, true, true, true, false, false, false, false, false, false, false, false, false, false, false] rfl rfl (any_of HT_.out (by kernel_rfl)) (fun _ _ _ h => h) (Or.inr ⟨by rfl, rfl⟩) ?_ ?_
  rotate_left
  · simp only [Act.put, List.setIfInBounds_toArray, List.set_cons_zero, List.set_cons_succ, i64_w, i32_w]
    rfl
  refine pure_ (i := 24) (N := some 66) (v := undef) (a' := ?_) #[true, true, true, true, true, true, true, true, true, true, true, true, true, true, true, true, true, true, true, true, true, true, true, true, true, false, false, false, false, false, false, false, false, false, false] rfl rfl (any_of HT_.out (by kernel_rfl)) (fun _ _ _ h => h) (Or.inr ⟨by rfl, rfl⟩) ?_ ?_
  rotate_left
  · simp only [Act.put, List.setIfInBounds_toArray, List.set_cons_zero, List.set_cons_succ, i64_w, i32_w]
    rfl
  refine pure_ (i := 25) (N := some 67) (v := undef) (a' := ?_) #[true, true, true, true, true, true, true, true, true, true, true, true, true, true, true, true, true, true, true, true, true, true, true, true, true, true, false, false, false, false, false, false, false, false, false] rfl rfl (any_of HT_.out (by kernel_rfl)) (fun _ _ _ h => h) (Or.inr ⟨by rfl, rfl⟩) ?_ ?_
  rotate_left
  · simp only [Act.put, List.setIfInBounds_toArray, List.set_cons_zero, List.set_cons_succ, i64_w, i32_w]
    rfl
  refine pure_ (i := 26) (N := some 68) (v := undef) (a' := ?_) #[true, true, true, true, true, true, true, true, true, true, true, true, true, true, true, true, true, true, true, true, true, true, true, true, true, true, true, false, false, false, false, false, false, false, false] rfl rfl (any_of HT_.out (by kernel_rfl)) (fun _ _ _ h => h) (Or.inr ⟨by rfl, rfl⟩) ?_ ?_
  rotate_left
  · simp only [Act.put, List.setIfInBounds_toArray, List.set_cons_zero, List.set_cons_succ, i64_w, i32_w]
    rfl
  refine pure_ (i := 27) (N := some 69) (v := undef) (a' := ?_) #[true, true, true, true, true, true, true, true, true, true, true, true, true, true, true, true, true, true, true, true, true, true, true, true, true, true, true, true, false, false, false, false, false, false, false] rfl rfl (any_of HT_.out (by kernel_rfl)) (fun _ _ _ h => h) (Or.inr ⟨by rfl, rfl⟩) ?_ ?_
  rotate_left
  · simp only [Act.put, List.setIfInBounds_toArray, List.set_cons_zero, List.set_cons_succ, i64_w, i32_w]
    rfl
  refine pure_ (i := 28) (N := some 70) (v := undef) (a' := ?_) #[true, true, true, true, true, true, true, true, true, true, true, true, true, true, true, true, true, true, true, true, true, true, true, true, true, true, true, true, true, false, false, false, false, false, false] rfl rfl (any_of HT_.out (by kernel_rfl)) (fun _ _ _ h => h) (Or.inr ⟨by rfl, rfl⟩) ?_ ?_
  rotate_left
  · simp only [Act.put, List.setIfInBounds_toArray, List.set_cons_zero, List.set_cons_succ, i64_w, i32_w]
    rfl
  refine pure_ (i := 29) (N := some 71) (v := undef) (a' := ?_) #[true, true, true, true, true, true, true, true, true, true, true, true, true, true, true, true, true, true, true, true, true, true, true, true, true, true, true, true, true, true, false, false, false, false, false] rfl rfl (any_of HT_.out (by kernel_rfl)) (fun _ _ _ h => h) (Or.inr ⟨by rfl, rfl⟩) ?_ ?_
  rotate_left
  · simp only [Act.put, List.setIfInBounds_toArray, List.set_cons_zero, List.set_cons_succ, i64_w, i32_w]
    rfl
  refine pure_ (i := 30) (N := some 72) (v := undef) (a' := ?_) #[true, true, true, true, true, true, true, true, true, true, true, true, true, true, true, true, true, true, true, true, true, true, true, true, true, true, true, true, true, true, true, false, false, false, false] rfl rfl (any_of HT_.out (by kernel_rfl)) (fun _ _ _ h => h) (Or.inr ⟨by rfl, rfl⟩) ?_ ?_
  rotate_left
  · simp only [Act.put, List.setIfInBounds_toArray, List.set_cons_zero, List.set_cons_succ, i64_w, i32_w]
    rfl
  refine pure_ (i := 31) (N := some 73) (v := undef) (a' := ?_) #[true, true, true, true, true, true, true, true, true, true, true, true, true, true, true, true, true, true, true, true, true, true, true, true, true, true, true, true, true, true, true, true, false, false, false] rfl rfl (any_of HT_.out (by kernel_rfl)) (fun _ _ _ h => h) (Or.inr ⟨by rfl, rfl⟩) ?_ ?_
  rotate_left
  · simp only [Act.put, List.setIfInBounds_toArray, List.set_cons_zero, List.set_cons_succ, i64_w, i32_w]
    rfl
  refine pure_ (i := 32) (N := some 74) (v := ?_) (a' := ?_) #[true, true, true, true, true, true, true, true, true, true, true, true, true, true, true, true, true, true, true, true, true, true, true, true, true, true, true, true, true, true, true, true, true, false, false] rfl rfl (any_of HT_.out (by kernel_rfl)) (fun _ _ _ h => h) (Or.inl ⟨by rfl, ?_⟩) ?_ ?_
  rotate_left
  · intro w'
    go_simp
    with_reducible rfl
  rotate_left
  · simp only [Act.put, List.setIfInBounds_toArray, List.set_cons_zero, List.set_cons_succ, i64_w, i32_w]
    rfl
  refine pure_ (i := 33) (N := some 75) (v := ?_) (a' := ?_) #[true, true, true, true, true, true, true, true, true, true, true, true, true, true, true, true, true, true, true, true, true, true, true, true, true, true, true, true, true, true, true, true, true, true, false] rfl rfl (any_of HT_.out (by kernel_rfl)) (fun _ _ _ h => h) (Or.inl ⟨by rfl, ?_⟩) ?_ ?_
  rotate_left
  · intro w'
    go_simp
    with_reducible rfl
  rotate_left
  · simp only [Act.put, List.setIfInBounds_toArray, List.set_cons_zero, List.set_cons_succ, i64_w, i32_w]
    rfl
  refine pure_ (i := 34) (N := some 4) (v := ?_) (a' := ?_) #[true, true, true, true, true, true, true, true, true, true, true, true, true, true, true, true, true, true, true, true, true, true, true, true, true, true, true, true, true, true, true, true, true, true, true] rfl rfl (any_of HT_.out (by kernel_rfl)) (fun _ _ _ h => h) (Or.inl ⟨by rfl, ?_⟩) ?_ ?_
  rotate_left
  · intro w'
    go_simp
    with_reducible rfl
  rotate_left
  · simp only [Act.put, List.setIfInBounds_toArray, List.set_cons_zero, List.set_cons_succ, i64_w, i32_w]
    rfl
  refine done_ (done_of HT_.out (by kernel_rfl)) ?_
  go_wp2
  go_ret
  exact ⟨rfl, HX.out.b⟩

end Go.Proofs.Ytlfnfgoocliecaa.PN
