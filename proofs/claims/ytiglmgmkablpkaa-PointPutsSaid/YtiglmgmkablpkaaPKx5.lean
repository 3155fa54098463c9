-- Written by a program of this session (wip/tools/hp.py) over the kit's print; nothing here is trusted: Lean checks it.
import Derived.RegionTactic
import Derived.BigRegion
import Derived.Test.YtiglmgmkablpkaaPointPut
import Derived.Test.YtiglmgmkablpkaaPKx0
import Derived.Test.YtiglmgmkablpkaaPKx1
import Derived.Test.YtiglmgmkablpkaaPKx3
import Derived.Test.YtiglmgmkablpkaaPKx4
namespace Go.Proofs.Ytiglmgmkablpkaa.PK
open Go.RowKit Go.Proofs.YtiglmgmkablpkaaW.PrintWords Go.Proofs.YtiglmgmkablpkaaW.PrintLast Go.Proofs.YtiglmgmkablpkaaW.PrintMore
attribute [local go_sem] max2_int min2_int max_two min_two max_three min_three max_four min_four   -- for this text's walks alone
set_option linter.unusedVariables false
set_option linter.unusedSimpArgs false

--OWN Derived.RegionTactic,Derived.BigRegion,Derived.Test.YtiglmgmkablpkaaPointPut
/-! ### glebelaw07_PointPuts: function 6 -/
def glebelaw07_PointPuts.T6 : Bool × List (List Nat × List Nat) := (true, [([], []), ([0], [0]), ([1, 1], [1]), ([], []), ([3, 2], [3]), ([2, 4], [2, 4]), ([5, 4], [5]), ([6], [6]), ([7, 6, 6], [6, 7]), ([8, 8, 6], [6, 8]), ([6], [6]), ([10, 9, 6], [6, 10]), ([9, 11, 6], [6, 9, 11]), ([6, 12], [6, 12]), ([13, 11], [13]), ([14], [14]), ([15, 14, 14], [14, 15]), ([16, 16, 14], [14, 16]), ([14], [14]), ([18, 17, 14], [14, 18]), ([17, 19, 14], [14, 17, 19]), ([14, 20], [14, 20]), ([21, 19], [21]), ([22], [22]), ([23, 22, 22], [22, 23]), ([22], [22]), ([25, 24, 22], [22, 25]), ([24, 26, 26, 22], [22, 24, 26]), ([22], [22]), ([22], [22]), ([28, 29, 27, 22], [22, 28, 29]), ([27, 30, 22], [22, 27, 30]), ([22, 31], [22, 31])])
def glebelaw07_PointPuts.B6 : List Nat := [0, 1, 3, 0, 15, 31, 63, 127, 255, 511, 127, 2047, 4095, 8191, 16383, 32767, 65535, 131071, 32767, 524287, 1048575, 2097151, 4194303, 8388607, 16777215, 8388607, 67108863, 134217727, 8388607, 8388607, 1073741823, 2147483647, 4294967295]
theorem glebelaw07_PointPuts.tab6 : rtab .any (opsOf Try.f6 6) = glebelaw07_PointPuts.T6 := by kernel_rfl
theorem glebelaw07_PointPuts.bits6 : waitsOk glebelaw07_PointPuts.T6.2 glebelaw07_PointPuts.B6 = true := by kernel_rfl
def glebelaw07_PointPuts.T8 : Bool × List (List Nat × List Nat) := (true, [([], []), ([0], [0]), ([1], [1]), ([], []), ([3, 1], [3]), ([2, 4], [2, 4]), ([5, 4], [5]), ([6], [6]), ([7, 6, 6], [6, 7]), ([8, 6], [6, 8]), ([6], [6]), ([10, 8, 6], [6, 10]), ([9, 11, 6], [6, 9, 11]), ([6, 12], [6, 12]), ([13, 11], [13]), ([14], [14]), ([15, 14, 14], [14, 15]), ([16, 14], [14, 16]), ([14], [14]), ([18, 16, 14], [14, 18]), ([17, 19, 14], [14, 17, 19]), ([14, 20], [14, 20]), ([21, 19], [21]), ([22], [22]), ([23, 22, 22], [22, 23]), ([24, 22], [22, 24]), ([22, 25], [22, 25]), ([26, 24], [26]), ([27], [27]), ([28, 27, 27], [27, 28]), ([29, 27], [27, 29]), ([27, 30], [27, 30]), ([31, 29], [31]), ([32], [32]), ([33, 32, 32], [32, 33]), ([34, 32], [32, 34]), ([32, 35], [32, 35])])
def glebelaw07_PointPuts.B8 : List Nat := [0, 1, 3, 0, 11, 31, 63, 127, 255, 511, 127, 1535, 4095, 8191, 16383, 32767, 65535, 131071, 32767, 393215, 1048575, 2097151, 4194303, 8388607, 16777215, 33554431, 67108863, 134217727, 268435455, 536870911, 1073741823, 2147483647, 4294967295, 8589934591, 17179869183, 34359738367, 68719476735]
theorem glebelaw07_PointPuts.tab8 : rtab .any (opsOf Try.f6 8) = glebelaw07_PointPuts.T8 := by kernel_rfl
theorem glebelaw07_PointPuts.bits8 : waitsOk glebelaw07_PointPuts.T8.2 glebelaw07_PointPuts.B8 = true := by kernel_rfl
def glebelaw07_PointPuts.T10 : Bool × List (List Nat × List Nat) := (true, [([], []), ([0], [0]), ([], []), ([2], [2]), ([3], [3]), ([1, 4], [1, 4]), ([5, 3], [5]), ([6], [6]), ([7, 6], [6, 7]), ([6], [6]), ([9, 6, 6], [6, 9]), ([10, 6], [6, 10]), ([8, 11, 6], [6, 8, 11]), ([6, 12], [6, 12]), ([13, 10], [13]), ([14], [14]), ([15, 14], [14, 15]), ([14], [14]), ([17, 14, 14], [14, 17]), ([18, 14], [14, 18]), ([16, 19, 14], [14, 16, 19]), ([14, 20], [14, 20]), ([21, 18], [21]), ([22, 22], [22]), ([22, 23], [22, 23]), ([24, 23, 0, 1, 2, 3, 4, 5, 6, 7, 8, 9, 10, 11, 12, 13, 14, 15, 16, 17, 18, 19, 20, 21, 22, 23, 24], [24])])
def glebelaw07_PointPuts.B10 : List Nat := [0, 1, 0, 4, 12, 31, 63, 127, 255, 127, 639, 1663, 4095, 8191, 16383, 32767, 65535, 32767, 163839, 425983, 1048575, 2097151, 4194303, 8388607, 16777215, 33554431]
theorem glebelaw07_PointPuts.tab10 : rtab .any (opsOf Try.f6 10) = glebelaw07_PointPuts.T10 := by kernel_rfl
theorem glebelaw07_PointPuts.bits10 : waitsOk glebelaw07_PointPuts.T10.2 glebelaw07_PointPuts.B10 = true := by kernel_rfl
def glebelaw07_PointPuts.f (k : Nat) (r0 : Int) (r1 : Int) (r2 : ByteArray) (r3 : ByteArray) (r4 : Int) (s0 : Int) (s1 : Int) (s2 : ByteArray) (s3 : ByteArray) (s4 : Int) (o0 : Int) (o1 : Int) (o2 : Int) (o3 : ByteArray) (o4 : ByteArray) (o5 : Int) (o6 : Int) (a0 : Int) (a1 : Bool) (a2 : ByteArray) (a3 : Int) : Option Bool := some true
set_option maxHeartbeats 16000000 in
set_option maxRecDepth 100000 in
theorem glebelaw07_PointPuts.calls (k : Nat) (r0 : Int) (r1 : Int) (r2 : ByteArray) (r3 : ByteArray) (r4 : Int) (s0 : Int) (s1 : Int) (s2 : ByteArray) (s3 : ByteArray) (s4 : Int) (o0 : Int) (o1 : Int) (o2 : Int) (o3 : ByteArray) (o4 : ByteArray) (o5 : Int) (o6 : Int) (a0 : Int) (a1 : Bool) (a2 : ByteArray) (a3 : Int) (r : Bool) (w : World) (h : glebelaw07_PointPuts.f k r0 r1 r2 r3 r4 s0 s1 s2 s3 s4 o0 o1 o2 o3 o4 o5 o6 a0 a1 a2 a3 = some r) :
    Calls Try.prog 6 #[.agg #[.int .i64 r0, .int .i64 r1, .string r2, .string r3, .int .i64 r4], .agg #[.int .i64 s0, .int .i64 s1, .string s2, .string s3, .int .i64 s4], .agg #[.int .i64 o0, .int .i64 o1, .int .i64 o2, .string o3, .string o4, .int .i64 o5, .int .i64 o6], .agg #[.int .i64 a0, .bool a1, .string a2, .int .i64 a3]] w fun e w' => e = .returned (.bool r) ∧ Below w.heap.size w w' := by
  obtain rfl := Option.some.inj h
  clear h
  obtain ⟨lb, hlb, hlq⟩ := long_all [r2, r3, s2, s3, o3, o4, a2] (by simp)
  have HLB := Aside0.mk hlb
  have HLQ := Aside0.mk hlq
  clear hlb hlq
  have HB := Aside0.mk (Below.refl w.heap.size w)
  go_enter Try.func6, Try.ntmps6
  go_wp2_with (first | ((with_reducible refine gate_dst (N := 4) rfl ?_); refine box_event ?hg (N := 4) ?hd (cs := #[.int .i64 r0, .int .i64 r1, .string r2, .string r3, .int .i64 r4]) (t := 32) ?hr ?_; (case hd => rfl); (case hg => rfl); (case hr => first | (go_simp; done) | (go_simp; rfl)); intro gr hg w4 hbox hb; have Xr := Aside0.mk hbox; replace HB := Aside0.mk (below_step HB.out hb); clear hbox hb hg) | ((with_reducible refine gate_dst (N := 5) rfl ?_); refine box_event ?hg (N := 5) ?hd (cs := #[.int .i64 s0, .int .i64 s1, .string s2, .string s3, .int .i64 s4]) (t := 32) ?hr ?_; (case hd => rfl); (case hg => rfl); (case hr => first | (go_simp; done) | (go_simp; rfl)); intro gs hg w5 hbox hb; have Xs := Aside0.mk hbox; replace Xr := Aside0.mk (blk_below Xr.out hb); replace HB := Aside0.mk (below_step HB.out hb); clear hbox hb hg) | ((with_reducible refine gate_dst (N := 6) rfl ?_); refine box_event ?hg (N := 6) ?hd (cs := #[.int .i64 o0, .int .i64 o1, .int .i64 o2, .string o3, .string o4, .int .i64 o5, .int .i64 o6]) (t := 44) ?hr ?_; (case hd => rfl); (case hg => rfl); (case hr => first | (go_simp; done) | (go_simp; rfl)); intro go hg w6 hbox hb; have Xo := Aside0.mk hbox; replace Xr := Aside0.mk (blk_below Xr.out hb); replace Xs := Aside0.mk (blk_below Xs.out hb); replace HB := Aside0.mk (below_step HB.out hb); clear hbox hb hg) | ((with_reducible refine gate_dst (N := 7) rfl ?_); refine box_event ?hg (N := 7) ?hd (cs := #[.int .i64 a0, .bool a1, .string a2, .int .i64 a3]) (t := 50) ?hr ?_; (case hd => rfl); (case hg => rfl); (case hr => first | (go_simp; done) | (go_simp; rfl)); intro ga hg w7 hbox hb; have Xa := Aside0.mk hbox; replace Xr := Aside0.mk (blk_below Xr.out hb); replace Xs := Aside0.mk (blk_below Xs.out hb); replace Xo := Aside0.mk (blk_below Xo.out hb); replace HB := Aside0.mk (below_step HB.out hb); have kr2 := blk_cell Xr.out 2; have kr3 := blk_cell Xr.out 3; have ks2 := blk_cell Xs.out 2; have ks3 := blk_cell Xs.out 3; have ko3 := blk_cell Xo.out 3; have ko4 := blk_cell Xo.out 4; have ka2 := blk_cell hbox 2; clear hbox hb hg) | ((with_reducible refine gate_dst (N := 29) rfl ?_); refine Kd.R_lit Kd.string _ 9 ?hg (N := 29) ?hd (xs := ([r2, r3, s2, s3, o3, o4, a2] : List ByteArray)) (inner := [.string r2, .string r3, .string s2, .string s3, .string o3, .string o4, .string a2]) (ok := fun _ => True) (okp := fun _ => True) ?hr ?hp (fun _ hk => hk) trivial (Below.refl _ _) (Nat.le_refl _) (by simp) ?_; (case hd => rfl); (case hg => rfl); (case hr => first | (go_simp; done) | (go_simp; rfl)); (case hp => exact (Reps.one (show Kd.M Kd.string _ _ _ r2 [.string r2] from rfl) (Reps.one (show Kd.M Kd.string _ _ _ r3 [.string r3] from rfl) (Reps.one (show Kd.M Kd.string _ _ _ s2 [.string s2] from rfl) (Reps.one (show Kd.M Kd.string _ _ _ s3 [.string s3] from rfl) (Reps.one (show Kd.M Kd.string _ _ _ o3 [.string o3] from rfl) (Reps.one (show Kd.M Kd.string _ _ _ o4 [.string o4] from rfl) (Reps.one (show Kd.M Kd.string _ _ _ a2 [.string a2] from rfl) (Reps.none _ _))))))))); intro vl wl hol hb hg_ hnew_; clear hg_ hnew_; obtain ⟨Al, cl, rfl⟩ := Kd.R_slice hol; have HLL := Aside0.mk (Kd.R_reads' hol); replace Xr := Aside0.mk (blk_below Xr.out hb); replace Xs := Aside0.mk (blk_below Xs.out hb); replace Xo := Aside0.mk (blk_below Xo.out hb); replace Xa := Aside0.mk (blk_below Xa.out hb); replace HB := Aside0.mk (below_step HB.out hb); clear hol hb) | fail)
  refine (glebelaw07_long.calls 200 Al cl [r2, r3, s2, s3, o3, o4, a2] lb _ HLL.out.2.2 HLL.out.2.1 HLB.out).mono ?_
  rintro e wg ⟨rfl, hd⟩
  have hb := drawn_below hd
  replace Xr := Aside0.mk (blk_below Xr.out hb)
  replace Xs := Aside0.mk (blk_below Xs.out hb)
  replace Xo := Aside0.mk (blk_below Xo.out hb)
  replace Xa := Aside0.mk (blk_below Xa.out hb)
  replace HB := Aside0.mk (below_step HB.out hb)
  clear hd hb HLL HLB kr2 kr3 ks2 ks3 ko3 ko4 ka2
  cases lb
  rotate_left
  focus
    go_wp2_with fail
    refine (glebelaw07_knows.calls true _ rfl).mono ?_
    rintro e wk ⟨rfl, hb⟩
    replace HB := Aside0.mk (below_step HB.out hb)
    clear hb
    go_wp2
    go_ret
    exact ⟨rfl, HB.out⟩
  have hsz := HLQ.out rfl
  clear HLQ
  have zr2 : r2.size ≤ 500 := hsz r2 (by simp)
  have zr3 : r3.size ≤ 500 := hsz r3 (by simp)
  have zs2 : s2.size ≤ 500 := hsz s2 (by simp)
  have zs3 : s3.size ≤ 500 := hsz s3 (by simp)
  have zo3 : o3.size ≤ 500 := hsz o3 (by simp)
  have zo4 : o4.size ≤ 500 := hsz o4 (by simp)
  have za2 : a2.size ≤ 500 := hsz a2 (by simp)
  clear hsz
  obtain ⟨br, pr, qr, ir⟩ := right_rec r0 r1 r2 r3 r4
  have jr := put_rec r0 r1 r2 r3 r4 br qr ir
  obtain ⟨Lr, hLr⟩ : ∃ x, x = (if br then ([r0, r1] : List Int).flatMap wB ++ ([r2, r3] : List ByteArray).flatMap wT ++ ([r4] : List Int).flatMap wB else []) := ⟨_, rfl⟩
  rw [← hLr] at jr
  obtain ⟨er, her⟩ : ∃ x, x = (if br then (0 : Int) else 1) := ⟨_, rfl⟩
  have ur : (er == 0) = br := by rw [her]; cases br <;> rfl
  have vr : decide (1 < er) = false := by rw [her]; cases br <;> rfl
  have HPr := Aside0.mk pr
  have HQr := Aside0.mk qr
  have HJr := Aside0.mk jr
  have HLr := Aside0.mk hLr
  have HEr := Aside0.mk her
  clear pr qr ir jr hLr her
  obtain ⟨bo, po, qo, io⟩ := right_op o0 o1 o2 o3 o4 o5 o6
  have jo := put_op o0 o1 o2 o3 o4 o5 o6 bo qo io
  obtain ⟨Lo, hLo⟩ : ∃ x, x = (if bo then ([o0, o1, o2] : List Int).flatMap wB ++ ([o3, o4] : List ByteArray).flatMap wT ++ ([o5, o6] : List Int).flatMap wB else []) := ⟨_, rfl⟩
  rw [← hLo] at jo
  obtain ⟨eo, heo⟩ : ∃ x, x = (if bo then (0 : Int) else 1) := ⟨_, rfl⟩
  have uo : (eo == 0) = bo := by rw [heo]; cases bo <;> rfl
  have vo : decide (1 < eo) = false := by rw [heo]; cases bo <;> rfl
  have HPo := Aside0.mk po
  have HQo := Aside0.mk qo
  have HJo := Aside0.mk jo
  have HLo := Aside0.mk hLo
  have HEo := Aside0.mk heo
  clear po qo io jo hLo heo
  obtain ⟨ba, pa, qa, ia⟩ := right_ans a0 a1 a2 a3
  have ja := put_ans a0 a1 a2 a3 ba qa ia
  obtain ⟨La, hLa⟩ : ∃ x, x = (if ba then ([a0, pbit a1] : List Int).flatMap wB ++ ([a2] : List ByteArray).flatMap wT ++ ([a3] : List Int).flatMap wB else []) := ⟨_, rfl⟩
  rw [← hLa] at ja
  obtain ⟨ea, hea⟩ : ∃ x, x = (if ba then (0 : Int) else 1) := ⟨_, rfl⟩
  have ua : (ea == 0) = ba := by rw [hea]; cases ba <;> rfl
  have va : decide (1 < ea) = false := by rw [hea]; cases ba <;> rfl
  have HPa := Aside0.mk pa
  have HQa := Aside0.mk qa
  have HJa := Aside0.mk ja
  have HLa := Aside0.mk hLa
  have HEa := Aside0.mk hea
  clear pa qa ia ja hLa hea
  have hc1 := cmpP_f r0 r1 r2 r3 r4 s0 s1 s2 s3 s4
  have hc2 := ref_cmp r0 r1 r2 s0 s1 s2
  obtain ⟨x1, hx1⟩ : ∃ x, x = cmpP r0 r1 r2 s0 s1 s2 := ⟨_, rfl⟩
  rw [← hx1] at hc1 hc2
  have HC1 := Aside0.mk hc1
  have HC2 := Aside0.mk (show gleberef07_Compare.f 0 r0 r1 r2 r3 r4 s0 s1 s2 s3 s4 = some x1 by unfold gleberef07_Compare.f; rw [hc2])
  clear hc1 hc2 hx1
  have HTr := Aside0.mk (show ∀ s ∈ ([r2, r3] : List ByteArray), wire_Text.f 100 s = some (wT s, (fun _ => 0) s) by
    intro s hs
    simp only [List.mem_cons, List.not_mem_nil, or_false] at hs
    rcases hs with h | h
    · rw [h]; exact wT_f _ zr2
    · rw [h]; exact wT_f _ zr3)
  have HNr := Aside0.mk (show (([r0, r1] : List Int).flatMap wB ++ ([r2, r3] : List ByteArray).flatMap wT ++ ([r4] : List Int).flatMap wB).length ≤ 140737488355328 by have := wB_len r0; have := wB_len r1; have := wT_len r2 zr2; have := wT_len r3 zr3; have := wB_len r4; simp; omega)
  have HTo := Aside0.mk (show ∀ s ∈ ([o3, o4] : List ByteArray), wire_Text.f 100 s = some (wT s, (fun _ => 0) s) by
    intro s hs
    simp only [List.mem_cons, List.not_mem_nil, or_false] at hs
    rcases hs with h | h
    · rw [h]; exact wT_f _ zo3
    · rw [h]; exact wT_f _ zo4)
  have HNo := Aside0.mk (show (([o0, o1, o2] : List Int).flatMap wB ++ ([o3, o4] : List ByteArray).flatMap wT ++ ([o5, o6] : List Int).flatMap wB).length ≤ 140737488355328 by have := wB_len o0; have := wB_len o1; have := wB_len o2; have := wT_len o3 zo3; have := wT_len o4 zo4; have := wB_len o5; have := wB_len o6; simp; omega)
  have HTa := Aside0.mk (show ∀ s ∈ ([a2] : List ByteArray), wire_Text.f 100 s = some (wT s, (fun _ => 0) s) by
    intro s hs
    simp only [List.mem_cons, List.not_mem_nil, or_false] at hs
    rw [hs]
    exact wT_f _ za2)
  have HNa := Aside0.mk (show (([a0, pbit a1] : List Int).flatMap wB ++ ([a2] : List ByteArray).flatMap wT ++ ([a3] : List Int).flatMap wB).length ≤ 140737488355328 by have := wB_len a0; have := wB_len (pbit a1); have := wT_len a2 za2; have := wB_len a3; simp; omega)
  clear zr2 zr3 zs2 zs3 zo3 zo4 za2
  have h0 := blk_cell Xr.out 0
  have h1 := blk_cell Xr.out 1
  have h2 := blk_cell Xr.out 2
  have h3 := blk_cell Xr.out 3
  have h4 := blk_cell Xr.out 4
  go_wp2_with fail
  refine (glebelaw07_Rec.calls r0 r1 r2 r3 r4 r0 r1 r2 r3 r4 _ rfl).mono ?_
  rintro e wc ⟨rfl, hb⟩
  replace Xr := Aside0.mk (blk_below Xr.out hb)
  replace Xs := Aside0.mk (blk_below Xs.out hb)
  replace Xo := Aside0.mk (blk_below Xo.out hb)
  replace Xa := Aside0.mk (blk_below Xa.out hb)
  replace HB := Aside0.mk (below_step HB.out hb)
  clear hb h0 h1 h2 h3 h4
  go_wp2_with fail
  refine (point_PutRec.calls 100 wB wE wT (fun _ => 0) r0 r1 r2 r3 r4 br _ HPr.out (fun n _ => wB_f n) HTr.out (fun n _ => wB_f n) HNr.out).mono ?_
  rintro e wd ⟨v, rfl, hv, hb⟩
  rw [← HEr.out]
  rw [← HLr.out] at hv
  obtain ⟨Br, Dr, rfl⟩ := Kd.R_slice hv
  replace Xr := Aside0.mk (blk_below Xr.out hb)
  replace Xs := Aside0.mk (blk_below Xs.out hb)
  replace Xo := Aside0.mk (blk_below Xo.out hb)
  replace Xa := Aside0.mk (blk_below Xa.out hb)
  replace HB := Aside0.mk (below_step HB.out hb)
  have Yr := Aside0.mk (Kd.R_reads' hv).2.2
  clear hb hv
  have h0 := blk_cell Xo.out 0
  have h1 := blk_cell Xo.out 1
  have h2 := blk_cell Xo.out 2
  have h3 := blk_cell Xo.out 3
  have h4 := blk_cell Xo.out 4
  have h5 := blk_cell Xo.out 5
  have h6 := blk_cell Xo.out 6
  go_wp2_with fail
  refine (glebelaw07_Op.calls o0 o1 o2 o3 o4 o5 o6 o0 o1 o2 o3 o4 o5 o6 _ rfl).mono ?_
  rintro e wc ⟨rfl, hb⟩
  replace Xr := Aside0.mk (blk_below Xr.out hb)
  replace Xs := Aside0.mk (blk_below Xs.out hb)
  replace Xo := Aside0.mk (blk_below Xo.out hb)
  replace Xa := Aside0.mk (blk_below Xa.out hb)
  replace Yr := Aside0.mk (Kd.C_below Yr.out hb)
  replace HB := Aside0.mk (below_step HB.out hb)
  clear hb h0 h1 h2 h3 h4 h5 h6
  go_wp2_with fail
  refine (point_PutOp.calls 100 wB wE wT (fun _ => 0) o0 o1 o2 o3 o4 o5 o6 bo _ HPo.out (fun n _ => wB_f n) HTo.out (fun n _ => wB_f n) HNo.out).mono ?_
  rintro e wd ⟨v, rfl, hv, hb⟩
  rw [← HEo.out]
  rw [← HLo.out] at hv
  obtain ⟨Bo, Do, rfl⟩ := Kd.R_slice hv
  replace Xr := Aside0.mk (blk_below Xr.out hb)
  replace Xs := Aside0.mk (blk_below Xs.out hb)
  replace Xo := Aside0.mk (blk_below Xo.out hb)
  replace Xa := Aside0.mk (blk_below Xa.out hb)
  replace Yr := Aside0.mk (Kd.C_below Yr.out hb)
  replace HB := Aside0.mk (below_step HB.out hb)
  have Yo := Aside0.mk (Kd.R_reads' hv).2.2
  clear hb hv
  have h0 := blk_cell Xa.out 0
  have h1 := blk_cell Xa.out 1
  have h2 := blk_cell Xa.out 2
  have h3 := blk_cell Xa.out 3
  go_wp2_with fail
  refine (glebelaw07_Ans.calls a0 a1 a2 a3 a0 a1 a2 a3 _ rfl).mono ?_
  rintro e wc ⟨rfl, hb⟩
  replace Xr := Aside0.mk (blk_below Xr.out hb)
  replace Xs := Aside0.mk (blk_below Xs.out hb)
  replace Xo := Aside0.mk (blk_below Xo.out hb)
  replace Xa := Aside0.mk (blk_below Xa.out hb)
  replace Yr := Aside0.mk (Kd.C_below Yr.out hb)
  replace Yo := Aside0.mk (Kd.C_below Yo.out hb)
  replace HB := Aside0.mk (below_step HB.out hb)
  clear hb h0 h1 h2 h3
  go_wp2_with fail
  refine (point_PutAns.calls 100 wB wE wT (fun _ => 0) a0 a1 a2 a3 ba _ HPa.out (fun n _ => wB_f n) HTa.out (fun n _ => wB_f n) HNa.out).mono ?_
  rintro e wd ⟨v, rfl, hv, hb⟩
  rw [← HEa.out]
  rw [← HLa.out] at hv
  obtain ⟨Ba, Da, rfl⟩ := Kd.R_slice hv
  replace Xr := Aside0.mk (blk_below Xr.out hb)
  replace Xs := Aside0.mk (blk_below Xs.out hb)
  replace Xo := Aside0.mk (blk_below Xo.out hb)
  replace Xa := Aside0.mk (blk_below Xa.out hb)
  replace Yr := Aside0.mk (Kd.C_below Yr.out hb)
  replace Yo := Aside0.mk (Kd.C_below Yo.out hb)
  replace HB := Aside0.mk (below_step HB.out hb)
  have Ya := Aside0.mk (Kd.R_reads' hv).2.2
  clear hb hv
  go_wp2_with fail
  refine start_ (n := 33) (S := fun w' => w'.cell? ⟨gr, 0, none⟩ = some (.int .i64 r0) ∧ w'.cell? ⟨gr, 1, none⟩ = some (.int .i64 r1) ∧ w'.cell? ⟨gr, 2, none⟩ = some (.string r2) ∧ w'.cell? ⟨gr, 3, none⟩ = some (.string r3) ∧ w'.cell? ⟨gr, 4, none⟩ = some (.int .i64 r4) ∧ w'.cell? ⟨gs, 0, none⟩ = some (.int .i64 s0) ∧ w'.cell? ⟨gs, 1, none⟩ = some (.int .i64 s1) ∧ w'.cell? ⟨gs, 2, none⟩ = some (.string s2) ∧ w'.cell? ⟨gs, 3, none⟩ = some (.string s3) ∧ w'.cell? ⟨gs, 4, none⟩ = some (.int .i64 s4) ∧ w'.cell? ⟨go, 0, none⟩ = some (.int .i64 o0) ∧ w'.cell? ⟨go, 1, none⟩ = some (.int .i64 o1) ∧ w'.cell? ⟨go, 2, none⟩ = some (.int .i64 o2) ∧ w'.cell? ⟨go, 3, none⟩ = some (.string o3) ∧ w'.cell? ⟨go, 4, none⟩ = some (.string o4) ∧ w'.cell? ⟨go, 5, none⟩ = some (.int .i64 o5) ∧ w'.cell? ⟨go, 6, none⟩ = some (.int .i64 o6) ∧ w'.cell? ⟨ga, 0, none⟩ = some (.int .i64 a0) ∧ w'.cell? ⟨ga, 1, none⟩ = some (.bool a1) ∧ w'.cell? ⟨ga, 2, none⟩ = some (.string a2) ∧ w'.cell? ⟨ga, 3, none⟩ = some (.int .i64 a3)) (ds := []) #[false, false, false, false, false, false, false, false, false, false, false, false, false, false, false, false, false, false, false, false, false, false, false, false, false, false, false, false, false, false, false, false, false] (by kernel_rfl) rfl rfl ⟨(blk_cell Xr.out 0), (blk_cell Xr.out 1), (blk_cell Xr.out 2), (blk_cell Xr.out 3), (blk_cell Xr.out 4), (blk_cell Xs.out 0), (blk_cell Xs.out 1), (blk_cell Xs.out 2), (blk_cell Xs.out 3), (blk_cell Xs.out 4), (blk_cell Xo.out 0), (blk_cell Xo.out 1), (blk_cell Xo.out 2), (blk_cell Xo.out 3), (blk_cell Xo.out 4), (blk_cell Xo.out 5), (blk_cell Xo.out 6), (blk_cell Xa.out 0), (blk_cell Xa.out 1), (blk_cell Xa.out 2), (blk_cell Xa.out 3)⟩ (fun hHeld => ?_)
  refine with_tabW glebelaw07_PointPuts.tab6 glebelaw07_PointPuts.bits6 (fun HT_ HW_ => ?_)
  refine take_ (i := 0) (N := some 50) (v := ?_) (a' := ?_) #[true, false, false, false, false, false, false, false, false, false, false, false, false, false, false, false, false, false, false, false, false, false, false, false, false, false, false, false, false, false, false, false, false] rfl rfl (take_ofW HT_.out HW_.out (by kernel_rfl)) (fun _ _ _ h => h) (Or.inl ⟨by rfl, ?_⟩) hHeld ?_ ?_
  rotate_left
  · rintro w' ⟨s0, s1, s2, s3, s4, s5, s6, s7, s8, s9, s10, s11, s12, s13, s14, s15, s16, s17, s18, s19, s20⟩
    go_simp
    with_reducible rfl
  rotate_left
  · simp only [Act.put, List.setIfInBounds_toArray, List.set_cons_zero, List.set_cons_succ, i64_w, i32_w]
    rfl
  refine take_ (i := 3) (N := some 53) (v := ?_) (a' := ?_) #[true, false, false, true, false, false, false, false, false, false, false, false, false, false, false, false, false, false, false, false, false, false, false, false, false, false, false, false, false, false, false, false, false] rfl rfl (take_ofW HT_.out HW_.out (by kernel_rfl)) (fun _ _ _ h => h) (Or.inl ⟨by rfl, ?_⟩) hHeld ?_ ?_
  rotate_left
  · rintro w' ⟨s0, s1, s2, s3, s4, s5, s6, s7, s8, s9, s10, s11, s12, s13, s14, s15, s16, s17, s18, s19, s20⟩
    go_simp
    with_reducible rfl
  rotate_left
  · simp only [Act.put, List.setIfInBounds_toArray, List.set_cons_zero, List.set_cons_succ, i64_w, i32_w]
    rfl
  refine one_ (i := 1) (N := some 51) #[true, true, false, true, false, false, false, false, false, false, false, false, false, false, false, false, false, false, false, false, false, false, false, false, false, false, false, false, false, false, false, false, false] rfl rfl (one_of HT_.out (by kernel_rfl)) (by decide) (fun K hK => ?_)
  refine goes_ Try.func27 (by kernel_rfl) rfl #[.agg #[.int .i64 r0, .int .i64 r1, .string r2, .string r3, .int .i64 r4]] (by rfl) rfl rfl (by simp only [List.map_toArray, List.map_cons, List.map_nil]; rfl) ?_
  with_reducible refine (glebelaw07_Rec.calls r0 r1 r2 r3 r4 r0 r1 r2 r3 r4 _ rfl).mono ?_
  rintro e wx ⟨rfl, hbx⟩
  refine ⟨_, rfl, ?_⟩
  replace Xr := Aside0.mk (blk_below (by first | exact Xr.out | exact blk_drew Xr.out) hbx)
  replace Xs := Aside0.mk (blk_below (by first | exact Xs.out | exact blk_drew Xs.out) hbx)
  replace Xo := Aside0.mk (blk_below (by first | exact Xo.out | exact blk_drew Xo.out) hbx)
  replace Xa := Aside0.mk (blk_below (by first | exact Xa.out | exact blk_drew Xa.out) hbx)
  replace Yr := Aside0.mk (Kd.C_below (by first | exact Yr.out | exact Kd.C_drew Yr.out) hbx)
  replace Yo := Aside0.mk (Kd.C_below (by first | exact Yo.out | exact Kd.C_drew Yo.out) hbx)
  replace Ya := Aside0.mk (Kd.C_below (by first | exact Ya.out | exact Kd.C_drew Ya.out) hbx)
  replace HB := Aside0.mk (show Below w.heap.size w wx from by first | exact below_step HB.out hbx | exact below_step (below_drew HB.out) hbx)
  clear hbx
  refine hK.out _ _ ⟨(blk_cell Xr.out 0), (blk_cell Xr.out 1), (blk_cell Xr.out 2), (blk_cell Xr.out 3), (blk_cell Xr.out 4), (blk_cell Xs.out 0), (blk_cell Xs.out 1), (blk_cell Xs.out 2), (blk_cell Xs.out 3), (blk_cell Xs.out 4), (blk_cell Xo.out 0), (blk_cell Xo.out 1), (blk_cell Xo.out 2), (blk_cell Xo.out 3), (blk_cell Xo.out 4), (blk_cell Xo.out 5), (blk_cell Xo.out 6), (blk_cell Xa.out 0), (blk_cell Xa.out 1), (blk_cell Xa.out 2), (blk_cell Xa.out 3)⟩ (fun hHeld => ?_)
  clear hK K
  refine norm_ (a' := ?_) ?_ ?_
  rotate_left
  · show Act.put _ (some 51) _ = _
    simp only [Act.put, List.setIfInBounds_toArray, List.set_cons_zero, List.set_cons_succ, i64_w, i32_w]
    rfl
  refine one_ (i := 2) (N := some 52) #[true, true, true, true, false, false, false, false, false, false, false, false, false, false, false, false, false, false, false, false, false, false, false, false, false, false, false, false, false, false, false, false, false] rfl rfl (one_of HT_.out (by kernel_rfl)) (by decide) (fun K hK => ?_)
  refine goes_ Try.func33 (by kernel_rfl) rfl #[.agg #[.int .i64 r0, .int .i64 r1, .string r2, .string r3, .int .i64 r4]] (by rfl) rfl rfl (by simp only [List.map_toArray, List.map_cons, List.map_nil]; rfl) ?_
  with_reducible refine (point_RightRec.calls 100 r0 r1 r2 r3 r4 br _ HPr.out).mono ?_
  rintro e wx ⟨rfl, hbx⟩
  refine ⟨_, rfl, ?_⟩
  replace Xr := Aside0.mk (blk_below (by first | exact Xr.out | exact blk_drew Xr.out) hbx)
  replace Xs := Aside0.mk (blk_below (by first | exact Xs.out | exact blk_drew Xs.out) hbx)
  replace Xo := Aside0.mk (blk_below (by first | exact Xo.out | exact blk_drew Xo.out) hbx)
  replace Xa := Aside0.mk (blk_below (by first | exact Xa.out | exact blk_drew Xa.out) hbx)
  replace Yr := Aside0.mk (Kd.C_below (by first | exact Yr.out | exact Kd.C_drew Yr.out) hbx)
  replace Yo := Aside0.mk (Kd.C_below (by first | exact Yo.out | exact Kd.C_drew Yo.out) hbx)
  replace Ya := Aside0.mk (Kd.C_below (by first | exact Ya.out | exact Kd.C_drew Ya.out) hbx)
  replace HB := Aside0.mk (show Below w.heap.size w wx from by first | exact below_step HB.out hbx | exact below_step (below_drew HB.out) hbx)
  clear hbx
  refine hK.out _ _ ⟨(blk_cell Xr.out 0), (blk_cell Xr.out 1), (blk_cell Xr.out 2), (blk_cell Xr.out 3), (blk_cell Xr.out 4), (blk_cell Xs.out 0), (blk_cell Xs.out 1), (blk_cell Xs.out 2), (blk_cell Xs.out 3), (blk_cell Xs.out 4), (blk_cell Xo.out 0), (blk_cell Xo.out 1), (blk_cell Xo.out 2), (blk_cell Xo.out 3), (blk_cell Xo.out 4), (blk_cell Xo.out 5), (blk_cell Xo.out 6), (blk_cell Xa.out 0), (blk_cell Xa.out 1), (blk_cell Xa.out 2), (blk_cell Xa.out 3)⟩ (fun hHeld => ?_)
  clear hK K
  refine norm_ (a' := ?_) ?_ ?_
  rotate_left
  · show Act.put _ (some 52) _ = _
    simp only [Act.put, List.setIfInBounds_toArray, List.set_cons_zero, List.set_cons_succ, i64_w, i32_w]
    rfl
  refine one_ (i := 4) (N := some 54) #[true, true, true, true, true, false, false, false, false, false, false, false, false, false, false, false, false, false, false, false, false, false, false, false, false, false, false, false, false, false, false, false, false] rfl rfl (one_of HT_.out (by kernel_rfl)) (by decide) (fun K hK => ?_)
  refine goes_ Try.func34 (by kernel_rfl) rfl #[.agg #[.int .i64 r0, .int .i64 r1, .string r2, .string r3, .int .i64 r4]] (by rfl) rfl rfl (by simp only [List.map_toArray, List.map_cons, List.map_nil]; rfl) ?_
  with_reducible refine (gleberef07_RightRec.calls r0 r1 r2 r3 r4 br _ HQr.out).mono ?_
  rintro e wx ⟨rfl, hbx⟩
  refine ⟨_, rfl, ?_⟩
  replace Xr := Aside0.mk (blk_below (by first | exact Xr.out | exact blk_drew Xr.out) hbx)
  replace Xs := Aside0.mk (blk_below (by first | exact Xs.out | exact blk_drew Xs.out) hbx)
  replace Xo := Aside0.mk (blk_below (by first | exact Xo.out | exact blk_drew Xo.out) hbx)
  replace Xa := Aside0.mk (blk_below (by first | exact Xa.out | exact blk_drew Xa.out) hbx)
  replace Yr := Aside0.mk (Kd.C_below (by first | exact Yr.out | exact Kd.C_drew Yr.out) hbx)
  replace Yo := Aside0.mk (Kd.C_below (by first | exact Yo.out | exact Kd.C_drew Yo.out) hbx)
  replace Ya := Aside0.mk (Kd.C_below (by first | exact Ya.out | exact Kd.C_drew Ya.out) hbx)
  replace HB := Aside0.mk (show Below w.heap.size w wx from by first | exact below_step HB.out hbx | exact below_step (below_drew HB.out) hbx)
  clear hbx
  refine hK.out _ _ ⟨(blk_cell Xr.out 0), (blk_cell Xr.out 1), (blk_cell Xr.out 2), (blk_cell Xr.out 3), (blk_cell Xr.out 4), (blk_cell Xs.out 0), (blk_cell Xs.out 1), (blk_cell Xs.out 2), (blk_cell Xs.out 3), (blk_cell Xs.out 4), (blk_cell Xo.out 0), (blk_cell Xo.out 1), (blk_cell Xo.out 2), (blk_cell Xo.out 3), (blk_cell Xo.out 4), (blk_cell Xo.out 5), (blk_cell Xo.out 6), (blk_cell Xa.out 0), (blk_cell Xa.out 1), (blk_cell Xa.out 2), (blk_cell Xa.out 3)⟩ (fun hHeld => ?_)
  clear hK K
  refine norm_ (a' := ?_) ?_ ?_
  rotate_left
  · show Act.put _ (some 54) _ = _
    simp only [Act.put, List.setIfInBounds_toArray, List.set_cons_zero, List.set_cons_succ, i64_w, i32_w]
    rfl
  refine pure_ (i := 5) (N := some 55) (v := ?_) (a' := ?_) #[true, true, true, true, true, true, false, false, false, false, false, false, false, false, false, false, false, false, false, false, false, false, false, false, false, false, false, false, false, false, false, false, false] rfl rfl (any_of HT_.out (by kernel_rfl)) (fun _ _ _ h => h) (Or.inl ⟨by rfl, ?_⟩) ?_ ?_
  rotate_left
  · intro w'
    go_simp
    with_reducible rfl
  rotate_left
  · simp only [Act.put, List.setIfInBounds_toArray, List.set_cons_zero, List.set_cons_succ, i64_w, i32_w]
    rfl
  refine pure_ (i := 6) (N := some 56) (v := ?_) (a' := ?_) #[true, true, true, true, true, true, true, false, false, false, false, false, false, false, false, false, false, false, false, false, false, false, false, false, false, false, false, false, false, false, false, false, false] rfl rfl (any_of HT_.out (by kernel_rfl)) (fun _ _ _ h => h) (Or.inl ⟨by rfl, ?_⟩) ?_ ?_
  rotate_left
  · intro w'
    go_simp
    with_reducible rfl
  rotate_left
  · simp only [Act.put, List.setIfInBounds_toArray, List.set_cons_zero, List.set_cons_succ, i64_w, i32_w]
    rfl
  refine take_ (i := 7) (N := some 57) (v := ?_) (a' := ?_) #[true, true, true, true, true, true, true, true, false, false, false, false, false, false, false, false, false, false, false, false, false, false, false, false, false, false, false, false, false, false, false, false, false] rfl rfl (take_ofW HT_.out HW_.out (by kernel_rfl)) (fun _ _ _ h => h) (Or.inl ⟨by rfl, ?_⟩) hHeld ?_ ?_
  rotate_left
  · rintro w' ⟨s0, s1, s2, s3, s4, s5, s6, s7, s8, s9, s10, s11, s12, s13, s14, s15, s16, s17, s18, s19, s20⟩
    go_simp
    with_reducible rfl
  rotate_left
  · simp only [Act.put, List.setIfInBounds_toArray, List.set_cons_zero, List.set_cons_succ, i64_w, i32_w]
    rfl
  refine take_ (i := 10) (N := some 60) (v := ?_) (a' := ?_) #[true, true, true, true, true, true, true, true, false, false, true, false, false, false, false, false, false, false, false, false, false, false, false, false, false, false, false, false, false, false, false, false, false] rfl rfl (take_ofW HT_.out HW_.out (by kernel_rfl)) (fun _ _ _ h => h) (Or.inl ⟨by rfl, ?_⟩) hHeld ?_ ?_
  rotate_left
  · rintro w' ⟨s0, s1, s2, s3, s4, s5, s6, s7, s8, s9, s10, s11, s12, s13, s14, s15, s16, s17, s18, s19, s20⟩
    go_simp
    with_reducible rfl
  rotate_left
  · simp only [Act.put, List.setIfInBounds_toArray, List.set_cons_zero, List.set_cons_succ, i64_w, i32_w]
    rfl
  refine one_ (i := 8) (N := some 58) #[true, true, true, true, true, true, true, true, true, false, true, false, false, false, false, false, false, false, false, false, false, false, false, false, false, false, false, false, false, false, false, false, false] rfl rfl (one_of HT_.out (by kernel_rfl)) (by decide) (fun K hK => ?_)
  refine goes_ Try.func29 (by kernel_rfl) rfl #[.agg #[.int .i64 o0, .int .i64 o1, .int .i64 o2, .string o3, .string o4, .int .i64 o5, .int .i64 o6]] (by rfl) rfl rfl (by simp only [List.map_toArray, List.map_cons, List.map_nil]; rfl) ?_
  with_reducible refine (glebelaw07_Op.calls o0 o1 o2 o3 o4 o5 o6 o0 o1 o2 o3 o4 o5 o6 _ rfl).mono ?_
  rintro e wx ⟨rfl, hbx⟩
  refine ⟨_, rfl, ?_⟩
  replace Xr := Aside0.mk (blk_below (by first | exact Xr.out | exact blk_drew Xr.out) hbx)
  replace Xs := Aside0.mk (blk_below (by first | exact Xs.out | exact blk_drew Xs.out) hbx)
  replace Xo := Aside0.mk (blk_below (by first | exact Xo.out | exact blk_drew Xo.out) hbx)
  replace Xa := Aside0.mk (blk_below (by first | exact Xa.out | exact blk_drew Xa.out) hbx)
  replace Yr := Aside0.mk (Kd.C_below (by first | exact Yr.out | exact Kd.C_drew Yr.out) hbx)
  replace Yo := Aside0.mk (Kd.C_below (by first | exact Yo.out | exact Kd.C_drew Yo.out) hbx)
  replace Ya := Aside0.mk (Kd.C_below (by first | exact Ya.out | exact Kd.C_drew Ya.out) hbx)
  replace HB := Aside0.mk (show Below w.heap.size w wx from by first | exact below_step HB.out hbx | exact below_step (below_drew HB.out) hbx)
  clear hbx
  refine hK.out _ _ ⟨(blk_cell Xr.out 0), (blk_cell Xr.out 1), (blk_cell Xr.out 2), (blk_cell Xr.out 3), (blk_cell Xr.out 4), (blk_cell Xs.out 0), (blk_cell Xs.out 1), (blk_cell Xs.out 2), (blk_cell Xs.out 3), (blk_cell Xs.out 4), (blk_cell Xo.out 0), (blk_cell Xo.out 1), (blk_cell Xo.out 2), (blk_cell Xo.out 3), (blk_cell Xo.out 4), (blk_cell Xo.out 5), (blk_cell Xo.out 6), (blk_cell Xa.out 0), (blk_cell Xa.out 1), (blk_cell Xa.out 2), (blk_cell Xa.out 3)⟩ (fun hHeld => ?_)
  clear hK K
  refine norm_ (a' := ?_) ?_ ?_
  rotate_left
  · show Act.put _ (some 58) _ = _
    simp only [Act.put, List.setIfInBounds_toArray, List.set_cons_zero, List.set_cons_succ, i64_w, i32_w]
    rfl
  refine one_ (i := 9) (N := some 59) #[true, true, true, true, true, true, true, true, true, true, true, false, false, false, false, false, false, false, false, false, false, false, false, false, false, false, false, false, false, false, false, false, false] rfl rfl (one_of HT_.out (by kernel_rfl)) (by decide) (fun K hK => ?_)
  refine goes_ Try.func35 (by kernel_rfl) rfl #[.agg #[.int .i64 o0, .int .i64 o1, .int .i64 o2, .string o3, .string o4, .int .i64 o5, .int .i64 o6]] (by rfl) rfl rfl (by simp only [List.map_toArray, List.map_cons, List.map_nil]; rfl) ?_
  with_reducible refine (point_RightOp.calls 100 o0 o1 o2 o3 o4 o5 o6 bo _ HPo.out).mono ?_
  rintro e wx ⟨rfl, hbx⟩
  refine ⟨_, rfl, ?_⟩
  replace Xr := Aside0.mk (blk_below (by first | exact Xr.out | exact blk_drew Xr.out) hbx)
  replace Xs := Aside0.mk (blk_below (by first | exact Xs.out | exact blk_drew Xs.out) hbx)
  replace Xo := Aside0.mk (blk_below (by first | exact Xo.out | exact blk_drew Xo.out) hbx)
  replace Xa := Aside0.mk (blk_below (by first | exact Xa.out | exact blk_drew Xa.out) hbx)
  replace Yr := Aside0.mk (Kd.C_below (by first | exact Yr.out | exact Kd.C_drew Yr.out) hbx)
  replace Yo := Aside0.mk (Kd.C_below (by first | exact Yo.out | exact Kd.C_drew Yo.out) hbx)
  replace Ya := Aside0.mk (Kd.C_below (by first | exact Ya.out | exact Kd.C_drew Ya.out) hbx)
  replace HB := Aside0.mk (show Below w.heap.size w wx from by first | exact below_step HB.out hbx | exact below_step (below_drew HB.out) hbx)
  clear hbx
  refine hK.out _ _ ⟨(blk_cell Xr.out 0), (blk_cell Xr.out 1), (blk_cell Xr.out 2), (blk_cell Xr.out 3), (blk_cell Xr.out 4), (blk_cell Xs.out 0), (blk_cell Xs.out 1), (blk_cell Xs.out 2), (blk_cell Xs.out 3), (blk_cell Xs.out 4), (blk_cell Xo.out 0), (blk_cell Xo.out 1), (blk_cell Xo.out 2), (blk_cell Xo.out 3), (blk_cell Xo.out 4), (blk_cell Xo.out 5), (blk_cell Xo.out 6), (blk_cell Xa.out 0), (blk_cell Xa.out 1), (blk_cell Xa.out 2), (blk_cell Xa.out 3)⟩ (fun hHeld => ?_)
  clear hK K
  refine norm_ (a' := ?_) ?_ ?_
  rotate_left
  · show Act.put _ (some 59) _ = _
    simp only [Act.put, List.setIfInBounds_toArray, List.set_cons_zero, List.set_cons_succ, i64_w, i32_w]
    rfl
  refine one_ (i := 11) (N := some 61) #[true, true, true, true, true, true, true, true, true, true, true, true, false, false, false, false, false, false, false, false, false, false, false, false, false, false, false, false, false, false, false, false, false] rfl rfl (one_of HT_.out (by kernel_rfl)) (by decide) (fun K hK => ?_)
  refine goes_ Try.func36 (by kernel_rfl) rfl #[.agg #[.int .i64 o0, .int .i64 o1, .int .i64 o2, .string o3, .string o4, .int .i64 o5, .int .i64 o6]] (by rfl) rfl rfl (by simp only [List.map_toArray, List.map_cons, List.map_nil]; rfl) ?_
  with_reducible refine (gleberef07_RightOp.calls o0 o1 o2 o3 o4 o5 o6 bo _ HQo.out).mono ?_
  rintro e wx ⟨rfl, hbx⟩
  refine ⟨_, rfl, ?_⟩
  replace Xr := Aside0.mk (blk_below (by first | exact Xr.out | exact blk_drew Xr.out) hbx)
  replace Xs := Aside0.mk (blk_below (by first | exact Xs.out | exact blk_drew Xs.out) hbx)
  replace Xo := Aside0.mk (blk_below (by first | exact Xo.out | exact blk_drew Xo.out) hbx)
  replace Xa := Aside0.mk (blk_below (by first | exact Xa.out | exact blk_drew Xa.out) hbx)
  replace Yr := Aside0.mk (Kd.C_below (by first | exact Yr.out | exact Kd.C_drew Yr.out) hbx)
  replace Yo := Aside0.mk (Kd.C_below (by first | exact Yo.out | exact Kd.C_drew Yo.out) hbx)
  replace Ya := Aside0.mk (Kd.C_below (by first | exact Ya.out | exact Kd.C_drew Ya.out) hbx)
  replace HB := Aside0.mk (show Below w.heap.size w wx from by first | exact below_step HB.out hbx | exact below_step (below_drew HB.out) hbx)
  clear hbx
  refine hK.out _ _ ⟨(blk_cell Xr.out 0), (blk_cell Xr.out 1), (blk_cell Xr.out 2), (blk_cell Xr.out 3), (blk_cell Xr.out 4), (blk_cell Xs.out 0), (blk_cell Xs.out 1), (blk_cell Xs.out 2), (blk_cell Xs.out 3), (blk_cell Xs.out 4), (blk_cell Xo.out 0), (blk_cell Xo.out 1), (blk_cell Xo.out 2), (blk_cell Xo.out 3), (blk_cell Xo.out 4), (blk_cell Xo.out 5), (blk_cell Xo.out 6), (blk_cell Xa.out 0), (blk_cell Xa.out 1), (blk_cell Xa.out 2), (blk_cell Xa.out 3)⟩ (fun hHeld => ?_)
  clear hK K
  refine norm_ (a' := ?_) ?_ ?_
  rotate_left
  · show Act.put _ (some 61) _ = _
    simp only [Act.put, List.setIfInBounds_toArray, List.set_cons_zero, List.set_cons_succ, i64_w, i32_w]
    rfl
  refine pure_ (i := 12) (N := some 62) (v := ?_) (a' := ?_) #[true, true, true, true, true, true, true, true, true, true, true, true, true, false, false, false, false, false, false, false, false, false, false, false, false, false, false, false, false, false, false, false, false] rfl rfl (any_of HT_.out (by kernel_rfl)) (fun _ _ _ h => h) (Or.inl ⟨by rfl, ?_⟩) ?_ ?_
  rotate_left
  · intro w'
    go_simp
    with_reducible rfl
  rotate_left
  · simp only [Act.put, List.setIfInBounds_toArray, List.set_cons_zero, List.set_cons_succ, i64_w, i32_w]
    rfl
  refine pure_ (i := 13) (N := some 63) (v := ?_) (a' := ?_) #[true, true, true, true, true, true, true, true, true, true, true, true, true, true, false, false, false, false, false, false, false, false, false, false, false, false, false, false, false, false, false, false, false] rfl rfl (any_of HT_.out (by kernel_rfl)) (fun _ _ _ h => h) (Or.inl ⟨by rfl, ?_⟩) ?_ ?_
  rotate_left
  · intro w'
    go_simp
    with_reducible rfl
  rotate_left
  · simp only [Act.put, List.setIfInBounds_toArray, List.set_cons_zero, List.set_cons_succ, i64_w, i32_w]
    rfl
  refine pure_ (i := 14) (N := some 64) (v := ?_) (a' := ?_) #[true, true, true, true, true, true, true, true, true, true, true, true, true, true, true, false, false, false, false, false, false, false, false, false, false, false, false, false, false, false, false, false, false] rfl rfl (any_of HT_.out (by kernel_rfl)) (fun _ _ _ h => h) (Or.inl ⟨by rfl, ?_⟩) ?_ ?_
  rotate_left
  · intro w'
    go_simp
    with_reducible rfl
  rotate_left
  · simp only [Act.put, List.setIfInBounds_toArray, List.set_cons_zero, List.set_cons_succ, i64_w, i32_w]
    rfl
  refine take_ (i := 15) (N := some 65) (v := ?_) (a' := ?_) #[true, true, true, true, true, true, true, true, true, true, true, true, true, true, true, true, false, false, false, false, false, false, false, false, false, false, false, false, false, false, false, false, false] rfl rfl (take_ofW HT_.out HW_.out (by kernel_rfl)) (fun _ _ _ h => h) (Or.inl ⟨by rfl, ?_⟩) hHeld ?_ ?_
  rotate_left
  · rintro w' ⟨s0, s1, s2, s3, s4, s5, s6, s7, s8, s9, s10, s11, s12, s13, s14, s15, s16, s17, s18, s19, s20⟩
    go_simp
    with_reducible rfl
  rotate_left
  · simp only [Act.put, List.setIfInBounds_toArray, List.set_cons_zero, List.set_cons_succ, i64_w, i32_w]
    rfl
  refine take_ (i := 18) (N := some 68) (v := ?_) (a' := ?_) #[true, true, true, true, true, true, true, true, true, true, true, true, true, true, true, true, false, false, true, false, false, false, false, false, false, false, false, false, false, false, false, false, false] rfl rfl (take_ofW HT_.out HW_.out (by kernel_rfl)) (fun _ _ _ h => h) (Or.inl ⟨by rfl, ?_⟩) hHeld ?_ ?_
  rotate_left
  · rintro w' ⟨s0, s1, s2, s3, s4, s5, s6, s7, s8, s9, s10, s11, s12, s13, s14, s15, s16, s17, s18, s19, s20⟩
    go_simp
    with_reducible rfl
  rotate_left
  · simp only [Act.put, List.setIfInBounds_toArray, List.set_cons_zero, List.set_cons_succ, i64_w, i32_w]
    rfl
  refine one_ (i := 16) (N := some 66) #[true, true, true, true, true, true, true, true, true, true, true, true, true, true, true, true, true, false, true, false, false, false, false, false, false, false, false, false, false, false, false, false, false] rfl rfl (one_of HT_.out (by kernel_rfl)) (by decide) (fun K hK => ?_)
  refine goes_ Try.func31 (by kernel_rfl) rfl #[.agg #[.int .i64 a0, .bool a1, .string a2, .int .i64 a3]] (by rfl) rfl rfl (by simp only [List.map_toArray, List.map_cons, List.map_nil]; rfl) ?_
  with_reducible refine (glebelaw07_Ans.calls a0 a1 a2 a3 a0 a1 a2 a3 _ rfl).mono ?_
  rintro e wx ⟨rfl, hbx⟩
  refine ⟨_, rfl, ?_⟩
  replace Xr := Aside0.mk (blk_below (by first | exact Xr.out | exact blk_drew Xr.out) hbx)
  replace Xs := Aside0.mk (blk_below (by first | exact Xs.out | exact blk_drew Xs.out) hbx)
  replace Xo := Aside0.mk (blk_below (by first | exact Xo.out | exact blk_drew Xo.out) hbx)
  replace Xa := Aside0.mk (blk_below (by first | exact Xa.out | exact blk_drew Xa.out) hbx)
  replace Yr := Aside0.mk (Kd.C_below (by first | exact Yr.out | exact Kd.C_drew Yr.out) hbx)
  replace Yo := Aside0.mk (Kd.C_below (by first | exact Yo.out | exact Kd.C_drew Yo.out) hbx)
  replace Ya := Aside0.mk (Kd.C_below (by first | exact Ya.out | exact Kd.C_drew Ya.out) hbx)
  replace HB := Aside0.mk (show Below w.heap.size w wx from by first | exact below_step HB.out hbx | exact below_step (below_drew HB.out) hbx)
  clear hbx
  refine hK.out _ _ ⟨(blk_cell Xr.out 0), (blk_cell Xr.out 1), (blk_cell Xr.out 2), (blk_cell Xr.out 3), (blk_cell Xr.out 4), (blk_cell Xs.out 0), (blk_cell Xs.out 1), (blk_cell Xs.out 2), (blk_cell Xs.out 3), (blk_cell Xs.out 4), (blk_cell Xo.out 0), (blk_cell Xo.out 1), (blk_cell Xo.out 2), (blk_cell Xo.out 3), (blk_cell Xo.out 4), (blk_cell Xo.out 5), (blk_cell Xo.out 6), (blk_cell Xa.out 0), (blk_cell Xa.out 1), (blk_cell Xa.out 2), (blk_cell Xa.out 3)⟩ (fun hHeld => ?_)
  clear hK K
  refine norm_ (a' := ?_) ?_ ?_
  rotate_left
  · show Act.put _ (some 66) _ = _
    simp only [Act.put, List.setIfInBounds_toArray, List.set_cons_zero, List.set_cons_succ, i64_w, i32_w]
    rfl
  refine one_ (i := 17) (N := some 67) #[true, true, true, true, true, true, true, true, true, true, true, true, true, true, true, true, true, true, true, false, false, false, false, false, false, false, false, false, false, false, false, false, false] rfl rfl (one_of HT_.out (by kernel_rfl)) (by decide) (fun K hK => ?_)
  refine goes_ Try.func37 (by kernel_rfl) rfl #[.agg #[.int .i64 a0, .bool a1, .string a2, .int .i64 a3]] (by rfl) rfl rfl (by simp only [List.map_toArray, List.map_cons, List.map_nil]; rfl) ?_
  with_reducible refine (point_RightAns.calls 100 a0 a1 a2 a3 ba _ HPa.out).mono ?_
  rintro e wx ⟨rfl, hbx⟩
  refine ⟨_, rfl, ?_⟩
  replace Xr := Aside0.mk (blk_below (by first | exact Xr.out | exact blk_drew Xr.out) hbx)
  replace Xs := Aside0.mk (blk_below (by first | exact Xs.out | exact blk_drew Xs.out) hbx)
  replace Xo := Aside0.mk (blk_below (by first | exact Xo.out | exact blk_drew Xo.out) hbx)
  replace Xa := Aside0.mk (blk_below (by first | exact Xa.out | exact blk_drew Xa.out) hbx)
  replace Yr := Aside0.mk (Kd.C_below (by first | exact Yr.out | exact Kd.C_drew Yr.out) hbx)
  replace Yo := Aside0.mk (Kd.C_below (by first | exact Yo.out | exact Kd.C_drew Yo.out) hbx)
  replace Ya := Aside0.mk (Kd.C_below (by first | exact Ya.out | exact Kd.C_drew Ya.out) hbx)
  replace HB := Aside0.mk (show Below w.heap.size w wx from by first | exact below_step HB.out hbx | exact below_step (below_drew HB.out) hbx)
  clear hbx
  refine hK.out _ _ ⟨(blk_cell Xr.out 0), (blk_cell Xr.out 1), (blk_cell Xr.out 2), (blk_cell Xr.out 3), (blk_cell Xr.out 4), (blk_cell Xs.out 0), (blk_cell Xs.out 1), (blk_cell Xs.out 2), (blk_cell Xs.out 3), (blk_cell Xs.out 4), (blk_cell Xo.out 0), (blk_cell Xo.out 1), (blk_cell Xo.out 2), (blk_cell Xo.out 3), (blk_cell Xo.out 4), (blk_cell Xo.out 5), (blk_cell Xo.out 6), (blk_cell Xa.out 0), (blk_cell Xa.out 1), (blk_cell Xa.out 2), (blk_cell Xa.out 3)⟩ (fun hHeld => ?_)
  clear hK K
  refine norm_ (a' := ?_) ?_ ?_
  rotate_left
  · show Act.put _ (some 67) _ = _
    simp only [Act.put, List.setIfInBounds_toArray, List.set_cons_zero, List.set_cons_succ, i64_w, i32_w]
    rfl
  refine one_ (i := 19) (N := some 69) #[true, true, true, true, true, true, true, true, true, true, true, true, true, true, true, true, true, true, true, true, false, false, false, false, false, false, false, false, false, false, false, false, false] rfl rfl (one_of HT_.out (by kernel_rfl)) (by decide) (fun K hK => ?_)
  refine goes_ Try.func38 (by kernel_rfl) rfl #[.agg #[.int .i64 a0, .bool a1, .string a2, .int .i64 a3]] (by rfl) rfl rfl (by simp only [List.map_toArray, List.map_cons, List.map_nil]; rfl) ?_
  with_reducible refine (gleberef07_RightAns.calls a0 a1 a2 a3 ba _ HQa.out).mono ?_
  rintro e wx ⟨rfl, hbx⟩
  refine ⟨_, rfl, ?_⟩
  replace Xr := Aside0.mk (blk_below (by first | exact Xr.out | exact blk_drew Xr.out) hbx)
  replace Xs := Aside0.mk (blk_below (by first | exact Xs.out | exact blk_drew Xs.out) hbx)
  replace Xo := Aside0.mk (blk_below (by first | exact Xo.out | exact blk_drew Xo.out) hbx)
  replace Xa := Aside0.mk (blk_below (by first | exact Xa.out | exact blk_drew Xa.out) hbx)
  replace Yr := Aside0.mk (Kd.C_below (by first | exact Yr.out | exact Kd.C_drew Yr.out) hbx)
  replace Yo := Aside0.mk (Kd.C_below (by first | exact Yo.out | exact Kd.C_drew Yo.out) hbx)
  replace Ya := Aside0.mk (Kd.C_below (by first | exact Ya.out | exact Kd.C_drew Ya.out) hbx)
  replace HB := Aside0.mk (show Below w.heap.size w wx from by first | exact below_step HB.out hbx | exact below_step (below_drew HB.out) hbx)
  clear hbx
  refine hK.out _ _ ⟨(blk_cell Xr.out 0), (blk_cell Xr.out 1), (blk_cell Xr.out 2), (blk_cell Xr.out 3), (blk_cell Xr.out 4), (blk_cell Xs.out 0), (blk_cell Xs.out 1), (blk_cell Xs.out 2), (blk_cell Xs.out 3), (blk_cell Xs.out 4), (blk_cell Xo.out 0), (blk_cell Xo.out 1), (blk_cell Xo.out 2), (blk_cell Xo.out 3), (blk_cell Xo.out 4), (blk_cell Xo.out 5), (blk_cell Xo.out 6), (blk_cell Xa.out 0), (blk_cell Xa.out 1), (blk_cell Xa.out 2), (blk_cell Xa.out 3)⟩ (fun hHeld => ?_)
  clear hK K
  refine norm_ (a' := ?_) ?_ ?_
  rotate_left
  · show Act.put _ (some 69) _ = _
    simp only [Act.put, List.setIfInBounds_toArray, List.set_cons_zero, List.set_cons_succ, i64_w, i32_w]
    rfl
  refine pure_ (i := 20) (N := some 70) (v := ?_) (a' := ?_) #[true, true, true, true, true, true, true, true, true, true, true, true, true, true, true, true, true, true, true, true, true, false, false, false, false, false, false, false, false, false, false, false, false] rfl rfl (any_of HT_.out (by kernel_rfl)) (fun _ _ _ h => h) (Or.inl ⟨by rfl, ?_⟩) ?_ ?_
  rotate_left
  · intro w'
    go_simp
    with_reducible rfl
  rotate_left
  · simp only [Act.put, List.setIfInBounds_toArray, List.set_cons_zero, List.set_cons_succ, i64_w, i32_w]
    rfl
  refine pure_ (i := 21) (N := some 71) (v := ?_) (a' := ?_) #[true, true, true, true, true, true, true, true, true, true, true, true, true, true, true, true, true, true, true, true, true, true, false, false, false, false, false, false, false, false, false, false, false] rfl rfl (any_of HT_.out (by kernel_rfl)) (fun _ _ _ h => h) (Or.inl ⟨by rfl, ?_⟩) ?_ ?_
  rotate_left
  · intro w'
    go_simp
    with_reducible rfl
  rotate_left
  · simp only [Act.put, List.setIfInBounds_toArray, List.set_cons_zero, List.set_cons_succ, i64_w, i32_w]
    rfl
  refine pure_ (i := 22) (N := some 72) (v := ?_) (a' := ?_) #[true, true, true, true, true, true, true, true, true, true, true, true, true, true, true, true, true, true, true, true, true, true, true, false, false, false, false, false, false, false, false, false, false] rfl rfl (any_of HT_.out (by kernel_rfl)) (fun _ _ _ h => h) (Or.inl ⟨by rfl, ?_⟩) ?_ ?_
  rotate_left
  · intro w'
    go_simp
    with_reducible rfl
  rotate_left
  · simp only [Act.put, List.setIfInBounds_toArray, List.set_cons_zero, List.set_cons_succ, i64_w, i32_w]
    rfl
  refine take_ (i := 23) (N := some 73) (v := ?_) (a' := ?_) #[true, true, true, true, true, true, true, true, true, true, true, true, true, true, true, true, true, true, true, true, true, true, true, true, false, false, false, false, false, false, false, false, false] rfl rfl (take_ofW HT_.out HW_.out (by kernel_rfl)) (fun _ _ _ h => h) (Or.inl ⟨by rfl, ?_⟩) hHeld ?_ ?_
  rotate_left
  · rintro w' ⟨s0, s1, s2, s3, s4, s5, s6, s7, s8, s9, s10, s11, s12, s13, s14, s15, s16, s17, s18, s19, s20⟩
    go_simp
    with_reducible rfl
  rotate_left
  · simp only [Act.put, List.setIfInBounds_toArray, List.set_cons_zero, List.set_cons_succ, i64_w, i32_w]
    rfl
  refine take_ (i := 25) (N := some 75) (v := ?_) (a' := ?_) #[true, true, true, true, true, true, true, true, true, true, true, true, true, true, true, true, true, true, true, true, true, true, true, true, false, true, false, false, false, false, false, false, false] rfl rfl (take_ofW HT_.out HW_.out (by kernel_rfl)) (fun _ _ _ h => h) (Or.inl ⟨by rfl, ?_⟩) hHeld ?_ ?_
  rotate_left
  · rintro w' ⟨s0, s1, s2, s3, s4, s5, s6, s7, s8, s9, s10, s11, s12, s13, s14, s15, s16, s17, s18, s19, s20⟩
    go_simp
    with_reducible rfl
  rotate_left
  · simp only [Act.put, List.setIfInBounds_toArray, List.set_cons_zero, List.set_cons_succ, i64_w, i32_w]
    rfl
  refine take_ (i := 28) (N := some 78) (v := ?_) (a' := ?_) #[true, true, true, true, true, true, true, true, true, true, true, true, true, true, true, true, true, true, true, true, true, true, true, true, false, true, false, false, true, false, false, false, false] rfl rfl (take_ofW HT_.out HW_.out (by kernel_rfl)) (fun _ _ _ h => h) (Or.inl ⟨by rfl, ?_⟩) hHeld ?_ ?_
  rotate_left
  · rintro w' ⟨s0, s1, s2, s3, s4, s5, s6, s7, s8, s9, s10, s11, s12, s13, s14, s15, s16, s17, s18, s19, s20⟩
    go_simp
    with_reducible rfl
  rotate_left
  · simp only [Act.put, List.setIfInBounds_toArray, List.set_cons_zero, List.set_cons_succ, i64_w, i32_w]
    rfl
  refine take_ (i := 29) (N := some 79) (v := ?_) (a' := ?_) #[true, true, true, true, true, true, true, true, true, true, true, true, true, true, true, true, true, true, true, true, true, true, true, true, false, true, false, false, true, true, false, false, false] rfl rfl (take_ofW HT_.out HW_.out (by kernel_rfl)) (fun _ _ _ h => h) (Or.inl ⟨by rfl, ?_⟩) hHeld ?_ ?_
  rotate_left
  · rintro w' ⟨s0, s1, s2, s3, s4, s5, s6, s7, s8, s9, s10, s11, s12, s13, s14, s15, s16, s17, s18, s19, s20⟩
    go_simp
    with_reducible rfl
  rotate_left
  · simp only [Act.put, List.setIfInBounds_toArray, List.set_cons_zero, List.set_cons_succ, i64_w, i32_w]
    rfl
  refine one_ (i := 24) (N := some 74) #[true, true, true, true, true, true, true, true, true, true, true, true, true, true, true, true, true, true, true, true, true, true, true, true, true, true, false, false, true, true, false, false, false] rfl rfl (one_of HT_.out (by kernel_rfl)) (by decide) (fun K hK => ?_)
  refine goes_ Try.func27 (by kernel_rfl) rfl #[.agg #[.int .i64 r0, .int .i64 r1, .string r2, .string r3, .int .i64 r4]] (by rfl) rfl rfl (by simp only [List.map_toArray, List.map_cons, List.map_nil]; rfl) ?_
  with_reducible refine (glebelaw07_Rec.calls r0 r1 r2 r3 r4 r0 r1 r2 r3 r4 _ rfl).mono ?_
  rintro e wx ⟨rfl, hbx⟩
  refine ⟨_, rfl, ?_⟩
  replace Xr := Aside0.mk (blk_below (by first | exact Xr.out | exact blk_drew Xr.out) hbx)
  replace Xs := Aside0.mk (blk_below (by first | exact Xs.out | exact blk_drew Xs.out) hbx)
  replace Xo := Aside0.mk (blk_below (by first | exact Xo.out | exact blk_drew Xo.out) hbx)
  replace Xa := Aside0.mk (blk_below (by first | exact Xa.out | exact blk_drew Xa.out) hbx)
  replace Yr := Aside0.mk (Kd.C_below (by first | exact Yr.out | exact Kd.C_drew Yr.out) hbx)
  replace Yo := Aside0.mk (Kd.C_below (by first | exact Yo.out | exact Kd.C_drew Yo.out) hbx)
  replace Ya := Aside0.mk (Kd.C_below (by first | exact Ya.out | exact Kd.C_drew Ya.out) hbx)
  replace HB := Aside0.mk (show Below w.heap.size w wx from by first | exact below_step HB.out hbx | exact below_step (below_drew HB.out) hbx)
  clear hbx
  refine hK.out _ _ ⟨(blk_cell Xr.out 0), (blk_cell Xr.out 1), (blk_cell Xr.out 2), (blk_cell Xr.out 3), (blk_cell Xr.out 4), (blk_cell Xs.out 0), (blk_cell Xs.out 1), (blk_cell Xs.out 2), (blk_cell Xs.out 3), (blk_cell Xs.out 4), (blk_cell Xo.out 0), (blk_cell Xo.out 1), (blk_cell Xo.out 2), (blk_cell Xo.out 3), (blk_cell Xo.out 4), (blk_cell Xo.out 5), (blk_cell Xo.out 6), (blk_cell Xa.out 0), (blk_cell Xa.out 1), (blk_cell Xa.out 2), (blk_cell Xa.out 3)⟩ (fun hHeld => ?_)
  clear hK K
  refine norm_ (a' := ?_) ?_ ?_
  rotate_left
  · show Act.put _ (some 74) _ = _
    simp only [Act.put, List.setIfInBounds_toArray, List.set_cons_zero, List.set_cons_succ, i64_w, i32_w]
    rfl
  refine one_ (i := 26) (N := some 76) #[true, true, true, true, true, true, true, true, true, true, true, true, true, true, true, true, true, true, true, true, true, true, true, true, true, true, true, false, true, true, false, false, false] rfl rfl (one_of HT_.out (by kernel_rfl)) (by decide) (fun K hK => ?_)
  refine goes_ Try.func27 (by kernel_rfl) rfl #[.agg #[.int .i64 s0, .int .i64 s1, .string s2, .string s3, .int .i64 s4]] (by rfl) rfl rfl (by simp only [List.map_toArray, List.map_cons, List.map_nil]; rfl) ?_
  with_reducible refine (glebelaw07_Rec.calls s0 s1 s2 s3 s4 s0 s1 s2 s3 s4 _ rfl).mono ?_
  rintro e wx ⟨rfl, hbx⟩
  refine ⟨_, rfl, ?_⟩
  replace Xr := Aside0.mk (blk_below (by first | exact Xr.out | exact blk_drew Xr.out) hbx)
  replace Xs := Aside0.mk (blk_below (by first | exact Xs.out | exact blk_drew Xs.out) hbx)
  replace Xo := Aside0.mk (blk_below (by first | exact Xo.out | exact blk_drew Xo.out) hbx)
  replace Xa := Aside0.mk (blk_below (by first | exact Xa.out | exact blk_drew Xa.out) hbx)
  replace Yr := Aside0.mk (Kd.C_below (by first | exact Yr.out | exact Kd.C_drew Yr.out) hbx)
  replace Yo := Aside0.mk (Kd.C_below (by first | exact Yo.out | exact Kd.C_drew Yo.out) hbx)
  replace Ya := Aside0.mk (Kd.C_below (by first | exact Ya.out | exact Kd.C_drew Ya.out) hbx)
  replace HB := Aside0.mk (show Below w.heap.size w wx from by first | exact below_step HB.out hbx | exact below_step (below_drew HB.out) hbx)
  clear hbx
  refine hK.out _ _ ⟨(blk_cell Xr.out 0), (blk_cell Xr.out 1), (blk_cell Xr.out 2), (blk_cell Xr.out 3), (blk_cell Xr.out 4), (blk_cell Xs.out 0), (blk_cell Xs.out 1), (blk_cell Xs.out 2), (blk_cell Xs.out 3), (blk_cell Xs.out 4), (blk_cell Xo.out 0), (blk_cell Xo.out 1), (blk_cell Xo.out 2), (blk_cell Xo.out 3), (blk_cell Xo.out 4), (blk_cell Xo.out 5), (blk_cell Xo.out 6), (blk_cell Xa.out 0), (blk_cell Xa.out 1), (blk_cell Xa.out 2), (blk_cell Xa.out 3)⟩ (fun hHeld => ?_)
  clear hK K
  refine norm_ (a' := ?_) ?_ ?_
  rotate_left
  · show Act.put _ (some 76) _ = _
    simp only [Act.put, List.setIfInBounds_toArray, List.set_cons_zero, List.set_cons_succ, i64_w, i32_w]
    rfl
  refine one_ (i := 27) (N := some 77) #[true, true, true, true, true, true, true, true, true, true, true, true, true, true, true, true, true, true, true, true, true, true, true, true, true, true, true, true, true, true, false, false, false] rfl rfl (one_of HT_.out (by kernel_rfl)) (by decide) (fun K hK => ?_)
  refine goes_ Try.func32 (by kernel_rfl) rfl #[.agg #[.int .i64 r0, .int .i64 r1, .string r2, .string r3, .int .i64 r4], .agg #[.int .i64 s0, .int .i64 s1, .string s2, .string s3, .int .i64 s4]] (by rfl) rfl rfl (by simp only [List.map_toArray, List.map_cons, List.map_nil]; rfl) ?_
  with_reducible refine (point_Compare.calls 4 r0 r1 r2 r3 r4 s0 s1 s2 s3 s4 x1 _ HC1.out).mono ?_
  rintro e wx ⟨rfl, hbx⟩
  refine ⟨_, rfl, ?_⟩
  replace Xr := Aside0.mk (blk_below (by first | exact Xr.out | exact blk_drew Xr.out) hbx)
  replace Xs := Aside0.mk (blk_below (by first | exact Xs.out | exact blk_drew Xs.out) hbx)
  replace Xo := Aside0.mk (blk_below (by first | exact Xo.out | exact blk_drew Xo.out) hbx)
  replace Xa := Aside0.mk (blk_below (by first | exact Xa.out | exact blk_drew Xa.out) hbx)
  replace Yr := Aside0.mk (Kd.C_below (by first | exact Yr.out | exact Kd.C_drew Yr.out) hbx)
  replace Yo := Aside0.mk (Kd.C_below (by first | exact Yo.out | exact Kd.C_drew Yo.out) hbx)
  replace Ya := Aside0.mk (Kd.C_below (by first | exact Ya.out | exact Kd.C_drew Ya.out) hbx)
  replace HB := Aside0.mk (show Below w.heap.size w wx from by first | exact below_step HB.out hbx | exact below_step (below_drew HB.out) hbx)
  clear hbx
  refine hK.out _ _ ⟨(blk_cell Xr.out 0), (blk_cell Xr.out 1), (blk_cell Xr.out 2), (blk_cell Xr.out 3), (blk_cell Xr.out 4), (blk_cell Xs.out 0), (blk_cell Xs.out 1), (blk_cell Xs.out 2), (blk_cell Xs.out 3), (blk_cell Xs.out 4), (blk_cell Xo.out 0), (blk_cell Xo.out 1), (blk_cell Xo.out 2), (blk_cell Xo.out 3), (blk_cell Xo.out 4), (blk_cell Xo.out 5), (blk_cell Xo.out 6), (blk_cell Xa.out 0), (blk_cell Xa.out 1), (blk_cell Xa.out 2), (blk_cell Xa.out 3)⟩ (fun hHeld => ?_)
  clear hK K
  refine norm_ (a' := ?_) ?_ ?_
  rotate_left
  · show Act.put _ (some 77) _ = _
    simp only [Act.put, List.setIfInBounds_toArray, List.set_cons_zero, List.set_cons_succ, i64_w, i32_w]
    rfl
  refine one_ (i := 30) (N := some 80) #[true, true, true, true, true, true, true, true, true, true, true, true, true, true, true, true, true, true, true, true, true, true, true, true, true, true, true, true, true, true, true, false, false] rfl rfl (one_of HT_.out (by kernel_rfl)) (by decide) (fun K hK => ?_)
  refine goes_ Try.func39 (by kernel_rfl) rfl #[.agg #[.int .i64 r0, .int .i64 r1, .string r2, .string r3, .int .i64 r4], .agg #[.int .i64 s0, .int .i64 s1, .string s2, .string s3, .int .i64 s4]] (by rfl) rfl rfl (by simp only [List.map_toArray, List.map_cons, List.map_nil]; rfl) ?_
  with_reducible refine (gleberef07_Compare.calls 0 r0 r1 r2 r3 r4 s0 s1 s2 s3 s4 x1 _ HC2.out).mono ?_
  rintro e wx ⟨rfl, hbx⟩
  refine ⟨_, rfl, ?_⟩
  replace Xr := Aside0.mk (blk_below (by first | exact Xr.out | exact blk_drew Xr.out) hbx)
  replace Xs := Aside0.mk (blk_below (by first | exact Xs.out | exact blk_drew Xs.out) hbx)
  replace Xo := Aside0.mk (blk_below (by first | exact Xo.out | exact blk_drew Xo.out) hbx)
  replace Xa := Aside0.mk (blk_below (by first | exact Xa.out | exact blk_drew Xa.out) hbx)
  replace Yr := Aside0.mk (Kd.C_below (by first | exact Yr.out | exact Kd.C_drew Yr.out) hbx)
  replace Yo := Aside0.mk (Kd.C_below (by first | exact Yo.out | exact Kd.C_drew Yo.out) hbx)
  replace Ya := Aside0.mk (Kd.C_below (by first | exact Ya.out | exact Kd.C_drew Ya.out) hbx)
  replace HB := Aside0.mk (show Below w.heap.size w wx from by first | exact below_step HB.out hbx | exact below_step (below_drew HB.out) hbx)
  clear hbx
  refine hK.out _ _ ⟨(blk_cell Xr.out 0), (blk_cell Xr.out 1), (blk_cell Xr.out 2), (blk_cell Xr.out 3), (blk_cell Xr.out 4), (blk_cell Xs.out 0), (blk_cell Xs.out 1), (blk_cell Xs.out 2), (blk_cell Xs.out 3), (blk_cell Xs.out 4), (blk_cell Xo.out 0), (blk_cell Xo.out 1), (blk_cell Xo.out 2), (blk_cell Xo.out 3), (blk_cell Xo.out 4), (blk_cell Xo.out 5), (blk_cell Xo.out 6), (blk_cell Xa.out 0), (blk_cell Xa.out 1), (blk_cell Xa.out 2), (blk_cell Xa.out 3)⟩ (fun hHeld => ?_)
  clear hK K
  refine norm_ (a' := ?_) ?_ ?_
  rotate_left
  · show Act.put _ (some 80) _ = _
    simp only [Act.put, List.setIfInBounds_toArray, List.set_cons_zero, List.set_cons_succ, i64_w, i32_w]
    rfl
  refine pure_ (i := 31) (N := some 81) (v := ?_) (a' := ?_) #[true, true, true, true, true, true, true, true, true, true, true, true, true, true, true, true, true, true, true, true, true, true, true, true, true, true, true, true, true, true, true, true, false] rfl rfl (any_of HT_.out (by kernel_rfl)) (fun _ _ _ h => h) (Or.inl ⟨by rfl, ?_⟩) ?_ ?_
  rotate_left
  · intro w'
    go_simp
    with_reducible rfl
  rotate_left
  · simp only [Act.put, List.setIfInBounds_toArray, List.set_cons_zero, List.set_cons_succ, i64_w, i32_w]
    rfl
  refine pure_ (i := 32) (N := some 82) (v := ?_) (a' := ?_) #[true, true, true, true, true, true, true, true, true, true, true, true, true, true, true, true, true, true, true, true, true, true, true, true, true, true, true, true, true, true, true, true, true] rfl rfl (any_of HT_.out (by kernel_rfl)) (fun _ _ _ h => h) (Or.inl ⟨by rfl, ?_⟩) ?_ ?_
  rotate_left
  · intro w'
    go_simp
    with_reducible rfl
  rotate_left
  · simp only [Act.put, List.setIfInBounds_toArray, List.set_cons_zero, List.set_cons_succ, i64_w, i32_w]
    rfl
  refine done_ (done_of HT_.out (by kernel_rfl)) ?_
  go_wp2_with fail
  refine start_ (n := 37) (S := fun w' => w'.cell? ⟨gr, 0, none⟩ = some (.int .i64 r0) ∧ w'.cell? ⟨gr, 1, none⟩ = some (.int .i64 r1) ∧ w'.cell? ⟨gr, 2, none⟩ = some (.string r2) ∧ w'.cell? ⟨gr, 3, none⟩ = some (.string r3) ∧ w'.cell? ⟨gr, 4, none⟩ = some (.int .i64 r4) ∧ w'.cell? ⟨gs, 0, none⟩ = some (.int .i64 s0) ∧ w'.cell? ⟨gs, 1, none⟩ = some (.int .i64 s1) ∧ w'.cell? ⟨gs, 2, none⟩ = some (.string s2) ∧ w'.cell? ⟨gs, 3, none⟩ = some (.string s3) ∧ w'.cell? ⟨gs, 4, none⟩ = some (.int .i64 s4) ∧ w'.cell? ⟨go, 0, none⟩ = some (.int .i64 o0) ∧ w'.cell? ⟨go, 1, none⟩ = some (.int .i64 o1) ∧ w'.cell? ⟨go, 2, none⟩ = some (.int .i64 o2) ∧ w'.cell? ⟨go, 3, none⟩ = some (.string o3) ∧ w'.cell? ⟨go, 4, none⟩ = some (.string o4) ∧ w'.cell? ⟨go, 5, none⟩ = some (.int .i64 o5) ∧ w'.cell? ⟨go, 6, none⟩ = some (.int .i64 o6) ∧ w'.cell? ⟨ga, 0, none⟩ = some (.int .i64 a0) ∧ w'.cell? ⟨ga, 1, none⟩ = some (.bool a1) ∧ w'.cell? ⟨ga, 2, none⟩ = some (.string a2) ∧ w'.cell? ⟨ga, 3, none⟩ = some (.int .i64 a3)) (ds := []) #[false, false, false, false, false, false, false, false, false, false, false, false, false, false, false, false, false, false, false, false, false, false, false, false, false, false, false, false, false, false, false, false, false, false, false, false, false] (by kernel_rfl) rfl rfl ⟨(blk_cell Xr.out 0), (blk_cell Xr.out 1), (blk_cell Xr.out 2), (blk_cell Xr.out 3), (blk_cell Xr.out 4), (blk_cell Xs.out 0), (blk_cell Xs.out 1), (blk_cell Xs.out 2), (blk_cell Xs.out 3), (blk_cell Xs.out 4), (blk_cell Xo.out 0), (blk_cell Xo.out 1), (blk_cell Xo.out 2), (blk_cell Xo.out 3), (blk_cell Xo.out 4), (blk_cell Xo.out 5), (blk_cell Xo.out 6), (blk_cell Xa.out 0), (blk_cell Xa.out 1), (blk_cell Xa.out 2), (blk_cell Xa.out 3)⟩ (fun hHeld => ?_)
  refine with_tabW glebelaw07_PointPuts.tab8 glebelaw07_PointPuts.bits8 (fun HT_ HW_ => ?_)
  refine pure_ (i := 0) (N := some 83) (v := ?_) (a' := ?_) #[true, false, false, false, false, false, false, false, false, false, false, false, false, false, false, false, false, false, false, false, false, false, false, false, false, false, false, false, false, false, false, false, false, false, false, false, false] rfl rfl (any_of HT_.out (by kernel_rfl)) (fun _ _ _ h => h) (Or.inl ⟨by rfl, ?_⟩) ?_ ?_
  rotate_left
  · intro w'
    go_simp
    with_reducible rfl
  rotate_left
  · simp only [Act.put, List.setIfInBounds_toArray, List.set_cons_zero, List.set_cons_succ, i64_w, i32_w]
    rfl
  refine take_ (i := 3) (N := some 86) (v := ?_) (a' := ?_) #[true, false, false, true, false, false, false, false, false, false, false, false, false, false, false, false, false, false, false, false, false, false, false, false, false, false, false, false, false, false, false, false, false, false, false, false, false] rfl rfl (take_ofW HT_.out HW_.out (by kernel_rfl)) (fun _ _ _ h => h) (Or.inl ⟨by rfl, ?_⟩) hHeld ?_ ?_
  rotate_left
  · rintro w' ⟨s0, s1, s2, s3, s4, s5, s6, s7, s8, s9, s10, s11, s12, s13, s14, s15, s16, s17, s18, s19, s20⟩
    go_simp
    with_reducible rfl
  rotate_left
  · simp only [Act.put, List.setIfInBounds_toArray, List.set_cons_zero, List.set_cons_succ, i64_w, i32_w]
    rfl
  refine one_ (i := 1) (N := some 84) #[true, true, false, true, false, false, false, false, false, false, false, false, false, false, false, false, false, false, false, false, false, false, false, false, false, false, false, false, false, false, false, false, false, false, false, false, false] rfl rfl (one_of HT_.out (by kernel_rfl)) (by decide) (fun K hK => ?_)
  refine goes_ Try.func14 (by kernel_rfl) rfl #[.int .i64 er] (by rfl) rfl rfl (by simp only [List.map_toArray, List.map_cons, List.map_nil]; rfl) ?_
  with_reducible refine (glebelaw07_num.calls er er _ rfl).mono ?_
  rintro e wx ⟨rfl, hbx0⟩
  refine ⟨_, rfl, ?_⟩
  have hbx := drawn_below hbx0
  replace Xr := Aside0.mk (blk_below (by first | exact Xr.out | exact blk_drew Xr.out) hbx)
  replace Xs := Aside0.mk (blk_below (by first | exact Xs.out | exact blk_drew Xs.out) hbx)
  replace Xo := Aside0.mk (blk_below (by first | exact Xo.out | exact blk_drew Xo.out) hbx)
  replace Xa := Aside0.mk (blk_below (by first | exact Xa.out | exact blk_drew Xa.out) hbx)
  replace Yr := Aside0.mk (Kd.C_below (by first | exact Yr.out | exact Kd.C_drew Yr.out) hbx)
  replace Yo := Aside0.mk (Kd.C_below (by first | exact Yo.out | exact Kd.C_drew Yo.out) hbx)
  replace Ya := Aside0.mk (Kd.C_below (by first | exact Ya.out | exact Kd.C_drew Ya.out) hbx)
  replace HB := Aside0.mk (show Below w.heap.size w wx from by first | exact below_step HB.out hbx | exact below_step (below_drew HB.out) hbx)
  clear hbx
  clear hbx0
  refine hK.out _ _ ⟨(blk_cell Xr.out 0), (blk_cell Xr.out 1), (blk_cell Xr.out 2), (blk_cell Xr.out 3), (blk_cell Xr.out 4), (blk_cell Xs.out 0), (blk_cell Xs.out 1), (blk_cell Xs.out 2), (blk_cell Xs.out 3), (blk_cell Xs.out 4), (blk_cell Xo.out 0), (blk_cell Xo.out 1), (blk_cell Xo.out 2), (blk_cell Xo.out 3), (blk_cell Xo.out 4), (blk_cell Xo.out 5), (blk_cell Xo.out 6), (blk_cell Xa.out 0), (blk_cell Xa.out 1), (blk_cell Xa.out 2), (blk_cell Xa.out 3)⟩ (fun hHeld => ?_)
  clear hK K
  refine norm_ (a' := ?_) ?_ ?_
  rotate_left
  · show Act.put _ (some 84) _ = _
    simp only [Act.put, List.setIfInBounds_toArray, List.set_cons_zero, List.set_cons_succ, i64_w, i32_w]
    rfl
  refine pure_ (i := 2) (N := some 85) (v := ?_) (a' := ?_) #[true, true, true, true, false, false, false, false, false, false, false, false, false, false, false, false, false, false, false, false, false, false, false, false, false, false, false, false, false, false, false, false, false, false, false, false, false] rfl rfl (any_of HT_.out (by kernel_rfl)) (fun _ _ _ h => h) (Or.inl ⟨by rfl, ?_⟩) ?_ ?_
  rotate_left
  · intro w'
    go_simp
    with_reducible rfl
  rotate_left
  · simp only [Act.put, List.setIfInBounds_toArray, List.set_cons_zero, List.set_cons_succ, i64_w, i32_w]
    rfl
  refine one_ (i := 4) (N := some 87) #[true, true, true, true, true, false, false, false, false, false, false, false, false, false, false, false, false, false, false, false, false, false, false, false, false, false, false, false, false, false, false, false, false, false, false, false, false] rfl rfl (one_of HT_.out (by kernel_rfl)) (by decide) (fun K hK => ?_)
  refine goes_ Try.func34 (by kernel_rfl) rfl #[.agg #[.int .i64 r0, .int .i64 r1, .string r2, .string r3, .int .i64 r4]] (by rfl) rfl rfl (by simp only [List.map_toArray, List.map_cons, List.map_nil]; rfl) ?_
  with_reducible refine (gleberef07_RightRec.calls r0 r1 r2 r3 r4 br _ HQr.out).mono ?_
  rintro e wx ⟨rfl, hbx⟩
  refine ⟨_, rfl, ?_⟩
  replace Xr := Aside0.mk (blk_below (by first | exact Xr.out | exact blk_drew Xr.out) hbx)
  replace Xs := Aside0.mk (blk_below (by first | exact Xs.out | exact blk_drew Xs.out) hbx)
  replace Xo := Aside0.mk (blk_below (by first | exact Xo.out | exact blk_drew Xo.out) hbx)
  replace Xa := Aside0.mk (blk_below (by first | exact Xa.out | exact blk_drew Xa.out) hbx)
  replace Yr := Aside0.mk (Kd.C_below (by first | exact Yr.out | exact Kd.C_drew Yr.out) hbx)
  replace Yo := Aside0.mk (Kd.C_below (by first | exact Yo.out | exact Kd.C_drew Yo.out) hbx)
  replace Ya := Aside0.mk (Kd.C_below (by first | exact Ya.out | exact Kd.C_drew Ya.out) hbx)
  replace HB := Aside0.mk (show Below w.heap.size w wx from by first | exact below_step HB.out hbx | exact below_step (below_drew HB.out) hbx)
  clear hbx
  refine hK.out _ _ ⟨(blk_cell Xr.out 0), (blk_cell Xr.out 1), (blk_cell Xr.out 2), (blk_cell Xr.out 3), (blk_cell Xr.out 4), (blk_cell Xs.out 0), (blk_cell Xs.out 1), (blk_cell Xs.out 2), (blk_cell Xs.out 3), (blk_cell Xs.out 4), (blk_cell Xo.out 0), (blk_cell Xo.out 1), (blk_cell Xo.out 2), (blk_cell Xo.out 3), (blk_cell Xo.out 4), (blk_cell Xo.out 5), (blk_cell Xo.out 6), (blk_cell Xa.out 0), (blk_cell Xa.out 1), (blk_cell Xa.out 2), (blk_cell Xa.out 3)⟩ (fun hHeld => ?_)
  clear hK K
  refine norm_ (a' := ?_) ?_ ?_
  rotate_left
  · show Act.put _ (some 87) _ = _
    simp only [Act.put, List.setIfInBounds_toArray, List.set_cons_zero, List.set_cons_succ, i64_w, i32_w]
    rfl
  refine pure_ (i := 5) (N := some 88) (v := ?_) (a' := ?_) #[true, true, true, true, true, true, false, false, false, false, false, false, false, false, false, false, false, false, false, false, false, false, false, false, false, false, false, false, false, false, false, false, false, false, false, false, false] rfl rfl (any_of HT_.out (by kernel_rfl)) (fun _ _ _ h => h) (Or.inl ⟨by rfl, ?_⟩) ?_ ?_
  rotate_left
  · intro w'
    go_simp
    with_reducible rfl
  rotate_left
  · simp only [Act.put, List.setIfInBounds_toArray, List.set_cons_zero, List.set_cons_succ, i64_w, i32_w]
    rfl
  refine pure_ (i := 6) (N := some 89) (v := ?_) (a' := ?_) #[true, true, true, true, true, true, true, false, false, false, false, false, false, false, false, false, false, false, false, false, false, false, false, false, false, false, false, false, false, false, false, false, false, false, false, false, false] rfl rfl (any_of HT_.out (by kernel_rfl)) (fun _ _ _ h => h) (Or.inl ⟨by rfl, ?_⟩) ?_ ?_
  rotate_left
  · intro w'
    go_simp
    with_reducible rfl
  rotate_left
  · simp only [Act.put, List.setIfInBounds_toArray, List.set_cons_zero, List.set_cons_succ, i64_w, i32_w]
    rfl
  refine pure_ (i := 7) (N := some 90) (v := ?_) (a' := ?_) #[true, true, true, true, true, true, true, true, false, false, false, false, false, false, false, false, false, false, false, false, false, false, false, false, false, false, false, false, false, false, false, false, false, false, false, false, false] rfl rfl (any_of HT_.out (by kernel_rfl)) (fun _ _ _ h => h) (Or.inl ⟨by rfl, ?_⟩) ?_ ?_
  rotate_left
  · intro w'
    go_simp
    with_reducible rfl
  rotate_left
  · simp only [Act.put, List.setIfInBounds_toArray, List.set_cons_zero, List.set_cons_succ, i64_w, i32_w]
    rfl
  refine take_ (i := 10) (N := some 93) (v := ?_) (a' := ?_) #[true, true, true, true, true, true, true, true, false, false, true, false, false, false, false, false, false, false, false, false, false, false, false, false, false, false, false, false, false, false, false, false, false, false, false, false, false] rfl rfl (take_ofW HT_.out HW_.out (by kernel_rfl)) (fun _ _ _ h => h) (Or.inl ⟨by rfl, ?_⟩) hHeld ?_ ?_
  rotate_left
  · rintro w' ⟨s0, s1, s2, s3, s4, s5, s6, s7, s8, s9, s10, s11, s12, s13, s14, s15, s16, s17, s18, s19, s20⟩
    go_simp
    with_reducible rfl
  rotate_left
  · simp only [Act.put, List.setIfInBounds_toArray, List.set_cons_zero, List.set_cons_succ, i64_w, i32_w]
    rfl
  refine one_ (i := 8) (N := some 91) #[true, true, true, true, true, true, true, true, true, false, true, false, false, false, false, false, false, false, false, false, false, false, false, false, false, false, false, false, false, false, false, false, false, false, false, false, false] rfl rfl (one_of HT_.out (by kernel_rfl)) (by decide) (fun K hK => ?_)
  refine goes_ Try.func14 (by kernel_rfl) rfl #[.int .i64 eo] (by rfl) rfl rfl (by simp only [List.map_toArray, List.map_cons, List.map_nil]; rfl) ?_
  with_reducible refine (glebelaw07_num.calls eo eo _ rfl).mono ?_
  rintro e wx ⟨rfl, hbx0⟩
  refine ⟨_, rfl, ?_⟩
  have hbx := drawn_below hbx0
  replace Xr := Aside0.mk (blk_below (by first | exact Xr.out | exact blk_drew Xr.out) hbx)
  replace Xs := Aside0.mk (blk_below (by first | exact Xs.out | exact blk_drew Xs.out) hbx)
  replace Xo := Aside0.mk (blk_below (by first | exact Xo.out | exact blk_drew Xo.out) hbx)
  replace Xa := Aside0.mk (blk_below (by first | exact Xa.out | exact blk_drew Xa.out) hbx)
  replace Yr := Aside0.mk (Kd.C_below (by first | exact Yr.out | exact Kd.C_drew Yr.out) hbx)
  replace Yo := Aside0.mk (Kd.C_below (by first | exact Yo.out | exact Kd.C_drew Yo.out) hbx)
  replace Ya := Aside0.mk (Kd.C_below (by first | exact Ya.out | exact Kd.C_drew Ya.out) hbx)
  replace HB := Aside0.mk (show Below w.heap.size w wx from by first | exact below_step HB.out hbx | exact below_step (below_drew HB.out) hbx)
  clear hbx
  clear hbx0
  refine hK.out _ _ ⟨(blk_cell Xr.out 0), (blk_cell Xr.out 1), (blk_cell Xr.out 2), (blk_cell Xr.out 3), (blk_cell Xr.out 4), (blk_cell Xs.out 0), (blk_cell Xs.out 1), (blk_cell Xs.out 2), (blk_cell Xs.out 3), (blk_cell Xs.out 4), (blk_cell Xo.out 0), (blk_cell Xo.out 1), (blk_cell Xo.out 2), (blk_cell Xo.out 3), (blk_cell Xo.out 4), (blk_cell Xo.out 5), (blk_cell Xo.out 6), (blk_cell Xa.out 0), (blk_cell Xa.out 1), (blk_cell Xa.out 2), (blk_cell Xa.out 3)⟩ (fun hHeld => ?_)
  clear hK K
  refine norm_ (a' := ?_) ?_ ?_
  rotate_left
  · show Act.put _ (some 91) _ = _
    simp only [Act.put, List.setIfInBounds_toArray, List.set_cons_zero, List.set_cons_succ, i64_w, i32_w]
    rfl
  refine pure_ (i := 9) (N := some 92) (v := ?_) (a' := ?_) #[true, true, true, true, true, true, true, true, true, true, true, false, false, false, false, false, false, false, false, false, false, false, false, false, false, false, false, false, false, false, false, false, false, false, false, false, false] rfl rfl (any_of HT_.out (by kernel_rfl)) (fun _ _ _ h => h) (Or.inl ⟨by rfl, ?_⟩) ?_ ?_
  rotate_left
  · intro w'
    go_simp
    with_reducible rfl
  rotate_left
  · simp only [Act.put, List.setIfInBounds_toArray, List.set_cons_zero, List.set_cons_succ, i64_w, i32_w]
    rfl
  refine one_ (i := 11) (N := some 94) #[true, true, true, true, true, true, true, true, true, true, true, true, false, false, false, false, false, false, false, false, false, false, false, false, false, false, false, false, false, false, false, false, false, false, false, false, false] rfl rfl (one_of HT_.out (by kernel_rfl)) (by decide) (fun K hK => ?_)
  refine goes_ Try.func36 (by kernel_rfl) rfl #[.agg #[.int .i64 o0, .int .i64 o1, .int .i64 o2, .string o3, .string o4, .int .i64 o5, .int .i64 o6]] (by rfl) rfl rfl (by simp only [List.map_toArray, List.map_cons, List.map_nil]; rfl) ?_
  with_reducible refine (gleberef07_RightOp.calls o0 o1 o2 o3 o4 o5 o6 bo _ HQo.out).mono ?_
  rintro e wx ⟨rfl, hbx⟩
  refine ⟨_, rfl, ?_⟩
  replace Xr := Aside0.mk (blk_below (by first | exact Xr.out | exact blk_drew Xr.out) hbx)
  replace Xs := Aside0.mk (blk_below (by first | exact Xs.out | exact blk_drew Xs.out) hbx)
  replace Xo := Aside0.mk (blk_below (by first | exact Xo.out | exact blk_drew Xo.out) hbx)
  replace Xa := Aside0.mk (blk_below (by first | exact Xa.out | exact blk_drew Xa.out) hbx)
  replace Yr := Aside0.mk (Kd.C_below (by first | exact Yr.out | exact Kd.C_drew Yr.out) hbx)
  replace Yo := Aside0.mk (Kd.C_below (by first | exact Yo.out | exact Kd.C_drew Yo.out) hbx)
  replace Ya := Aside0.mk (Kd.C_below (by first | exact Ya.out | exact Kd.C_drew Ya.out) hbx)
  replace HB := Aside0.mk (show Below w.heap.size w wx from by first | exact below_step HB.out hbx | exact below_step (below_drew HB.out) hbx)
  clear hbx
  refine hK.out _ _ ⟨(blk_cell Xr.out 0), (blk_cell Xr.out 1), (blk_cell Xr.out 2), (blk_cell Xr.out 3), (blk_cell Xr.out 4), (blk_cell Xs.out 0), (blk_cell Xs.out 1), (blk_cell Xs.out 2), (blk_cell Xs.out 3), (blk_cell Xs.out 4), (blk_cell Xo.out 0), (blk_cell Xo.out 1), (blk_cell Xo.out 2), (blk_cell Xo.out 3), (blk_cell Xo.out 4), (blk_cell Xo.out 5), (blk_cell Xo.out 6), (blk_cell Xa.out 0), (blk_cell Xa.out 1), (blk_cell Xa.out 2), (blk_cell Xa.out 3)⟩ (fun hHeld => ?_)
  clear hK K
  refine norm_ (a' := ?_) ?_ ?_
  rotate_left
  · show Act.put _ (some 94) _ = _
    simp only [Act.put, List.setIfInBounds_toArray, List.set_cons_zero, List.set_cons_succ, i64_w, i32_w]
    rfl
  refine pure_ (i := 12) (N := some 95) (v := ?_) (a' := ?_) #[true, true, true, true, true, true, true, true, true, true, true, true, true, false, false, false, false, false, false, false, false, false, false, false, false, false, false, false, false, false, false, false, false, false, false, false, false] rfl rfl (any_of HT_.out (by kernel_rfl)) (fun _ _ _ h => h) (Or.inl ⟨by rfl, ?_⟩) ?_ ?_
  rotate_left
  · intro w'
    go_simp
    with_reducible rfl
  rotate_left
  · simp only [Act.put, List.setIfInBounds_toArray, List.set_cons_zero, List.set_cons_succ, i64_w, i32_w]
    rfl
  refine pure_ (i := 13) (N := some 96) (v := ?_) (a' := ?_) #[true, true, true, true, true, true, true, true, true, true, true, true, true, true, false, false, false, false, false, false, false, false, false, false, false, false, false, false, false, false, false, false, false, false, false, false, false] rfl rfl (any_of HT_.out (by kernel_rfl)) (fun _ _ _ h => h) (Or.inl ⟨by rfl, ?_⟩) ?_ ?_
  rotate_left
  · intro w'
    go_simp
    with_reducible rfl
  rotate_left
  · simp only [Act.put, List.setIfInBounds_toArray, List.set_cons_zero, List.set_cons_succ, i64_w, i32_w]
    rfl
  refine pure_ (i := 14) (N := some 97) (v := ?_) (a' := ?_) #[true, true, true, true, true, true, true, true, true, true, true, true, true, true, true, false, false, false, false, false, false, false, false, false, false, false, false, false, false, false, false, false, false, false, false, false, false] rfl rfl (any_of HT_.out (by kernel_rfl)) (fun _ _ _ h => h) (Or.inl ⟨by rfl, ?_⟩) ?_ ?_
  rotate_left
  · intro w'
    go_simp
    with_reducible rfl
  rotate_left
  · simp only [Act.put, List.setIfInBounds_toArray, List.set_cons_zero, List.set_cons_succ, i64_w, i32_w]
    rfl
  refine pure_ (i := 15) (N := some 98) (v := ?_) (a' := ?_) #[true, true, true, true, true, true, true, true, true, true, true, true, true, true, true, true, false, false, false, false, false, false, false, false, false, false, false, false, false, false, false, false, false, false, false, false, false] rfl rfl (any_of HT_.out (by kernel_rfl)) (fun _ _ _ h => h) (Or.inl ⟨by rfl, ?_⟩) ?_ ?_
  rotate_left
  · intro w'
    go_simp
    with_reducible rfl
  rotate_left
  · simp only [Act.put, List.setIfInBounds_toArray, List.set_cons_zero, List.set_cons_succ, i64_w, i32_w]
    rfl
  refine take_ (i := 18) (N := some 101) (v := ?_) (a' := ?_) #[true, true, true, true, true, true, true, true, true, true, true, true, true, true, true, true, false, false, true, false, false, false, false, false, false, false, false, false, false, false, false, false, false, false, false, false, false] rfl rfl (take_ofW HT_.out HW_.out (by kernel_rfl)) (fun _ _ _ h => h) (Or.inl ⟨by rfl, ?_⟩) hHeld ?_ ?_
  rotate_left
  · rintro w' ⟨s0, s1, s2, s3, s4, s5, s6, s7, s8, s9, s10, s11, s12, s13, s14, s15, s16, s17, s18, s19, s20⟩
    go_simp
    with_reducible rfl
  rotate_left
  · simp only [Act.put, List.setIfInBounds_toArray, List.set_cons_zero, List.set_cons_succ, i64_w, i32_w]
    rfl
  refine one_ (i := 16) (N := some 99) #[true, true, true, true, true, true, true, true, true, true, true, true, true, true, true, true, true, false, true, false, false, false, false, false, false, false, false, false, false, false, false, false, false, false, false, false, false] rfl rfl (one_of HT_.out (by kernel_rfl)) (by decide) (fun K hK => ?_)
  refine goes_ Try.func14 (by kernel_rfl) rfl #[.int .i64 ea] (by rfl) rfl rfl (by simp only [List.map_toArray, List.map_cons, List.map_nil]; rfl) ?_
  with_reducible refine (glebelaw07_num.calls ea ea _ rfl).mono ?_
  rintro e wx ⟨rfl, hbx0⟩
  refine ⟨_, rfl, ?_⟩
  have hbx := drawn_below hbx0
  replace Xr := Aside0.mk (blk_below (by first | exact Xr.out | exact blk_drew Xr.out) hbx)
  replace Xs := Aside0.mk (blk_below (by first | exact Xs.out | exact blk_drew Xs.out) hbx)
  replace Xo := Aside0.mk (blk_below (by first | exact Xo.out | exact blk_drew Xo.out) hbx)
  replace Xa := Aside0.mk (blk_below (by first | exact Xa.out | exact blk_drew Xa.out) hbx)
  replace Yr := Aside0.mk (Kd.C_below (by first | exact Yr.out | exact Kd.C_drew Yr.out) hbx)
  replace Yo := Aside0.mk (Kd.C_below (by first | exact Yo.out | exact Kd.C_drew Yo.out) hbx)
  replace Ya := Aside0.mk (Kd.C_below (by first | exact Ya.out | exact Kd.C_drew Ya.out) hbx)
  replace HB := Aside0.mk (show Below w.heap.size w wx from by first | exact below_step HB.out hbx | exact below_step (below_drew HB.out) hbx)
  clear hbx
  clear hbx0
  refine hK.out _ _ ⟨(blk_cell Xr.out 0), (blk_cell Xr.out 1), (blk_cell Xr.out 2), (blk_cell Xr.out 3), (blk_cell Xr.out 4), (blk_cell Xs.out 0), (blk_cell Xs.out 1), (blk_cell Xs.out 2), (blk_cell Xs.out 3), (blk_cell Xs.out 4), (blk_cell Xo.out 0), (blk_cell Xo.out 1), (blk_cell Xo.out 2), (blk_cell Xo.out 3), (blk_cell Xo.out 4), (blk_cell Xo.out 5), (blk_cell Xo.out 6), (blk_cell Xa.out 0), (blk_cell Xa.out 1), (blk_cell Xa.out 2), (blk_cell Xa.out 3)⟩ (fun hHeld => ?_)
  clear hK K
  refine norm_ (a' := ?_) ?_ ?_
  rotate_left
  · show Act.put _ (some 99) _ = _
    simp only [Act.put, List.setIfInBounds_toArray, List.set_cons_zero, List.set_cons_succ, i64_w, i32_w]
    rfl
  refine pure_ (i := 17) (N := some 100) (v := ?_) (a' := ?_) #[true, true, true, true, true, true, true, true, true, true, true, true, true, true, true, true, true, true, true, false, false, false, false, false, false, false, false, false, false, false, false, false, false, false, false, false, false] rfl rfl (any_of HT_.out (by kernel_rfl)) (fun _ _ _ h => h) (Or.inl ⟨by rfl, ?_⟩) ?_ ?_
  rotate_left
  · intro w'
    go_simp
    with_reducible rfl
  rotate_left
  · simp only [Act.put, List.setIfInBounds_toArray, List.set_cons_zero, List.set_cons_succ, i64_w, i32_w]
    rfl
  refine one_ (i := 19) (N := some 102) #[true, true, true, true, true, true, true, true, true, true, true, true, true, true, true, true, true, true, true, true, false, false, false, false, false, false, false, false, false, false, false, false, false, false, false, false, false] rfl rfl (one_of HT_.out (by kernel_rfl)) (by decide) (fun K hK => ?_)
  refine goes_ Try.func38 (by kernel_rfl) rfl #[.agg #[.int .i64 a0, .bool a1, .string a2, .int .i64 a3]] (by rfl) rfl rfl (by simp only [List.map_toArray, List.map_cons, List.map_nil]; rfl) ?_
  with_reducible refine (gleberef07_RightAns.calls a0 a1 a2 a3 ba _ HQa.out).mono ?_
  rintro e wx ⟨rfl, hbx⟩
  refine ⟨_, rfl, ?_⟩
  replace Xr := Aside0.mk (blk_below (by first | exact Xr.out | exact blk_drew Xr.out) hbx)
  replace Xs := Aside0.mk (blk_below (by first | exact Xs.out | exact blk_drew Xs.out) hbx)
  replace Xo := Aside0.mk (blk_below (by first | exact Xo.out | exact blk_drew Xo.out) hbx)
  replace Xa := Aside0.mk (blk_below (by first | exact Xa.out | exact blk_drew Xa.out) hbx)
  replace Yr := Aside0.mk (Kd.C_below (by first | exact Yr.out | exact Kd.C_drew Yr.out) hbx)
  replace Yo := Aside0.mk (Kd.C_below (by first | exact Yo.out | exact Kd.C_drew Yo.out) hbx)
  replace Ya := Aside0.mk (Kd.C_below (by first | exact Ya.out | exact Kd.C_drew Ya.out) hbx)
  replace HB := Aside0.mk (show Below w.heap.size w wx from by first | exact below_step HB.out hbx | exact below_step (below_drew HB.out) hbx)
  clear hbx
  refine hK.out _ _ ⟨(blk_cell Xr.out 0), (blk_cell Xr.out 1), (blk_cell Xr.out 2), (blk_cell Xr.out 3), (blk_cell Xr.out 4), (blk_cell Xs.out 0), (blk_cell Xs.out 1), (blk_cell Xs.out 2), (blk_cell Xs.out 3), (blk_cell Xs.out 4), (blk_cell Xo.out 0), (blk_cell Xo.out 1), (blk_cell Xo.out 2), (blk_cell Xo.out 3), (blk_cell Xo.out 4), (blk_cell Xo.out 5), (blk_cell Xo.out 6), (blk_cell Xa.out 0), (blk_cell Xa.out 1), (blk_cell Xa.out 2), (blk_cell Xa.out 3)⟩ (fun hHeld => ?_)
  clear hK K
  refine norm_ (a' := ?_) ?_ ?_
  rotate_left
  · show Act.put _ (some 102) _ = _
    simp only [Act.put, List.setIfInBounds_toArray, List.set_cons_zero, List.set_cons_succ, i64_w, i32_w]
    rfl
  refine pure_ (i := 20) (N := some 103) (v := ?_) (a' := ?_) #[true, true, true, true, true, true, true, true, true, true, true, true, true, true, true, true, true, true, true, true, true, false, false, false, false, false, false, false, false, false, false, false, false, false, false, false, false] rfl rfl (any_of HT_.out (by kernel_rfl)) (fun _ _ _ h => h) (Or.inl ⟨by rfl, ?_⟩) ?_ ?_
  rotate_left
  · intro w'
    go_simp
    with_reducible rfl
  rotate_left
  · simp only [Act.put, List.setIfInBounds_toArray, List.set_cons_zero, List.set_cons_succ, i64_w, i32_w]
    rfl
  refine pure_ (i := 21) (N := some 104) (v := ?_) (a' := ?_) #[true, true, true, true, true, true, true, true, true, true, true, true, true, true, true, true, true, true, true, true, true, true, false, false, false, false, false, false, false, false, false, false, false, false, false, false, false] rfl rfl (any_of HT_.out (by kernel_rfl)) (fun _ _ _ h => h) (Or.inl ⟨by rfl, ?_⟩) ?_ ?_
  rotate_left
  · intro w'
    go_simp
    with_reducible rfl
  rotate_left
  · simp only [Act.put, List.setIfInBounds_toArray, List.set_cons_zero, List.set_cons_succ, i64_w, i32_w]
    rfl
  refine pure_ (i := 22) (N := some 105) (v := ?_) (a' := ?_) #[true, true, true, true, true, true, true, true, true, true, true, true, true, true, true, true, true, true, true, true, true, true, true, false, false, false, false, false, false, false, false, false, false, false, false, false, false] rfl rfl (any_of HT_.out (by kernel_rfl)) (fun _ _ _ h => h) (Or.inl ⟨by rfl, ?_⟩) ?_ ?_
  rotate_left
  · intro w'
    go_simp
    with_reducible rfl
  rotate_left
  · simp only [Act.put, List.setIfInBounds_toArray, List.set_cons_zero, List.set_cons_succ, i64_w, i32_w]
    rfl
  refine pure_ (i := 23) (N := some 106) (v := ?_) (a' := ?_) #[true, true, true, true, true, true, true, true, true, true, true, true, true, true, true, true, true, true, true, true, true, true, true, true, false, false, false, false, false, false, false, false, false, false, false, false, false] rfl rfl (any_of HT_.out (by kernel_rfl)) (fun _ _ _ h => h) (Or.inl ⟨by rfl, ?_⟩) ?_ ?_
  rotate_left
  · intro w'
    go_simp
    with_reducible rfl
  rotate_left
  · simp only [Act.put, List.setIfInBounds_toArray, List.set_cons_zero, List.set_cons_succ, i64_w, i32_w]
    rfl
  refine one_ (i := 24) (N := some 107) #[true, true, true, true, true, true, true, true, true, true, true, true, true, true, true, true, true, true, true, true, true, true, true, true, true, false, false, false, false, false, false, false, false, false, false, false, false] rfl rfl (one_of HT_.out (by kernel_rfl)) (by decide) (fun K hK => ?_)
  refine goes_ Try.func14 (by kernel_rfl) rfl #[.int .i64 er] (by rfl) rfl rfl (by simp only [List.map_toArray, List.map_cons, List.map_nil]; rfl) ?_
  with_reducible refine (glebelaw07_num.calls er er _ rfl).mono ?_
  rintro e wx ⟨rfl, hbx0⟩
  refine ⟨_, rfl, ?_⟩
  have hbx := drawn_below hbx0
  replace Xr := Aside0.mk (blk_below (by first | exact Xr.out | exact blk_drew Xr.out) hbx)
  replace Xs := Aside0.mk (blk_below (by first | exact Xs.out | exact blk_drew Xs.out) hbx)
  replace Xo := Aside0.mk (blk_below (by first | exact Xo.out | exact blk_drew Xo.out) hbx)
  replace Xa := Aside0.mk (blk_below (by first | exact Xa.out | exact blk_drew Xa.out) hbx)
  replace Yr := Aside0.mk (Kd.C_below (by first | exact Yr.out | exact Kd.C_drew Yr.out) hbx)
  replace Yo := Aside0.mk (Kd.C_below (by first | exact Yo.out | exact Kd.C_drew Yo.out) hbx)
  replace Ya := Aside0.mk (Kd.C_below (by first | exact Ya.out | exact Kd.C_drew Ya.out) hbx)
  replace HB := Aside0.mk (show Below w.heap.size w wx from by first | exact below_step HB.out hbx | exact below_step (below_drew HB.out) hbx)
  clear hbx
  clear hbx0
  refine hK.out _ _ ⟨(blk_cell Xr.out 0), (blk_cell Xr.out 1), (blk_cell Xr.out 2), (blk_cell Xr.out 3), (blk_cell Xr.out 4), (blk_cell Xs.out 0), (blk_cell Xs.out 1), (blk_cell Xs.out 2), (blk_cell Xs.out 3), (blk_cell Xs.out 4), (blk_cell Xo.out 0), (blk_cell Xo.out 1), (blk_cell Xo.out 2), (blk_cell Xo.out 3), (blk_cell Xo.out 4), (blk_cell Xo.out 5), (blk_cell Xo.out 6), (blk_cell Xa.out 0), (blk_cell Xa.out 1), (blk_cell Xa.out 2), (blk_cell Xa.out 3)⟩ (fun hHeld => ?_)
  clear hK K
  refine norm_ (a' := ?_) ?_ ?_
  rotate_left
  · show Act.put _ (some 107) _ = _
    simp only [Act.put, List.setIfInBounds_toArray, List.set_cons_zero, List.set_cons_succ, i64_w, i32_w]
    rfl
  refine pure_ (i := 25) (N := some 108) (v := ?_) (a' := ?_) #[true, true, true, true, true, true, true, true, true, true, true, true, true, true, true, true, true, true, true, true, true, true, true, true, true, true, false, false, false, false, false, false, false, false, false, false, false] rfl rfl (any_of HT_.out (by kernel_rfl)) (fun _ _ _ h => h) (Or.inl ⟨by rfl, ?_⟩) ?_ ?_
  rotate_left
  · intro w'
    go_simp
    with_reducible rfl
  rotate_left
  · simp only [Act.put, List.setIfInBounds_toArray, List.set_cons_zero, List.set_cons_succ, i64_w, i32_w]
    rfl
  refine pure_ (i := 26) (N := some 109) (v := ?_) (a' := ?_) #[true, true, true, true, true, true, true, true, true, true, true, true, true, true, true, true, true, true, true, true, true, true, true, true, true, true, true, false, false, false, false, false, false, false, false, false, false] rfl rfl (any_of HT_.out (by kernel_rfl)) (fun _ _ _ h => h) (Or.inl ⟨by rfl, ?_⟩) ?_ ?_
  rotate_left
  · intro w'
    go_simp
    with_reducible rfl
  rotate_left
  · simp only [Act.put, List.setIfInBounds_toArray, List.set_cons_zero, List.set_cons_succ, i64_w, i32_w]
    rfl
  refine pure_ (i := 27) (N := some 110) (v := ?_) (a' := ?_) #[true, true, true, true, true, true, true, true, true, true, true, true, true, true, true, true, true, true, true, true, true, true, true, true, true, true, true, true, false, false, false, false, false, false, false, false, false] rfl rfl (any_of HT_.out (by kernel_rfl)) (fun _ _ _ h => h) (Or.inl ⟨by rfl, ?_⟩) ?_ ?_
  rotate_left
  · intro w'
    go_simp
    with_reducible rfl
  rotate_left
  · simp only [Act.put, List.setIfInBounds_toArray, List.set_cons_zero, List.set_cons_succ, i64_w, i32_w]
    rfl
  refine pure_ (i := 28) (N := some 111) (v := ?_) (a' := ?_) #[true, true, true, true, true, true, true, true, true, true, true, true, true, true, true, true, true, true, true, true, true, true, true, true, true, true, true, true, true, false, false, false, false, false, false, false, false] rfl rfl (any_of HT_.out (by kernel_rfl)) (fun _ _ _ h => h) (Or.inl ⟨by rfl, ?_⟩) ?_ ?_
  rotate_left
  · intro w'
    go_simp
    with_reducible rfl
  rotate_left
  · simp only [Act.put, List.setIfInBounds_toArray, List.set_cons_zero, List.set_cons_succ, i64_w, i32_w]
    rfl
  refine one_ (i := 29) (N := some 112) #[true, true, true, true, true, true, true, true, true, true, true, true, true, true, true, true, true, true, true, true, true, true, true, true, true, true, true, true, true, true, false, false, false, false, false, false, false] rfl rfl (one_of HT_.out (by kernel_rfl)) (by decide) (fun K hK => ?_)
  refine goes_ Try.func14 (by kernel_rfl) rfl #[.int .i64 eo] (by rfl) rfl rfl (by simp only [List.map_toArray, List.map_cons, List.map_nil]; rfl) ?_
  with_reducible refine (glebelaw07_num.calls eo eo _ rfl).mono ?_
  rintro e wx ⟨rfl, hbx0⟩
  refine ⟨_, rfl, ?_⟩
  have hbx := drawn_below hbx0
  replace Xr := Aside0.mk (blk_below (by first | exact Xr.out | exact blk_drew Xr.out) hbx)
  replace Xs := Aside0.mk (blk_below (by first | exact Xs.out | exact blk_drew Xs.out) hbx)
  replace Xo := Aside0.mk (blk_below (by first | exact Xo.out | exact blk_drew Xo.out) hbx)
  replace Xa := Aside0.mk (blk_below (by first | exact Xa.out | exact blk_drew Xa.out) hbx)
  replace Yr := Aside0.mk (Kd.C_below (by first | exact Yr.out | exact Kd.C_drew Yr.out) hbx)
  replace Yo := Aside0.mk (Kd.C_below (by first | exact Yo.out | exact Kd.C_drew Yo.out) hbx)
  replace Ya := Aside0.mk (Kd.C_below (by first | exact Ya.out | exact Kd.C_drew Ya.out) hbx)
  replace HB := Aside0.mk (show Below w.heap.size w wx from by first | exact below_step HB.out hbx | exact below_step (below_drew HB.out) hbx)
  clear hbx
  clear hbx0
  refine hK.out _ _ ⟨(blk_cell Xr.out 0), (blk_cell Xr.out 1), (blk_cell Xr.out 2), (blk_cell Xr.out 3), (blk_cell Xr.out 4), (blk_cell Xs.out 0), (blk_cell Xs.out 1), (blk_cell Xs.out 2), (blk_cell Xs.out 3), (blk_cell Xs.out 4), (blk_cell Xo.out 0), (blk_cell Xo.out 1), (blk_cell Xo.out 2), (blk_cell Xo.out 3), (blk_cell Xo.out 4), (blk_cell Xo.out 5), (blk_cell Xo.out 6), (blk_cell Xa.out 0), (blk_cell Xa.out 1), (blk_cell Xa.out 2), (blk_cell Xa.out 3)⟩ (fun hHeld => ?_)
  clear hK K
  refine norm_ (a' := ?_) ?_ ?_
  rotate_left
  · show Act.put _ (some 112) _ = _
    simp only [Act.put, List.setIfInBounds_toArray, List.set_cons_zero, List.set_cons_succ, i64_w, i32_w]
    rfl
  refine pure_ (i := 30) (N := some 113) (v := ?_) (a' := ?_) #[true, true, true, true, true, true, true, true, true, true, true, true, true, true, true, true, true, true, true, true, true, true, true, true, true, true, true, true, true, true, true, false, false, false, false, false, false] rfl rfl (any_of HT_.out (by kernel_rfl)) (fun _ _ _ h => h) (Or.inl ⟨by rfl, ?_⟩) ?_ ?_
  rotate_left
  · intro w'
    go_simp
    with_reducible rfl
  rotate_left
  · simp only [Act.put, List.setIfInBounds_toArray, List.set_cons_zero, List.set_cons_succ, i64_w, i32_w]
    rfl
  refine pure_ (i := 31) (N := some 114) (v := ?_) (a' := ?_) #[true, true, true, true, true, true, true, true, true, true, true, true, true, true, true, true, true, true, true, true, true, true, true, true, true, true, true, true, true, true, true, true, false, false, false, false, false] rfl rfl (any_of HT_.out (by kernel_rfl)) (fun _ _ _ h => h) (Or.inl ⟨by rfl, ?_⟩) ?_ ?_
  rotate_left
  · intro w'
    go_simp
    with_reducible rfl
  rotate_left
  · simp only [Act.put, List.setIfInBounds_toArray, List.set_cons_zero, List.set_cons_succ, i64_w, i32_w]
    rfl
  refine pure_ (i := 32) (N := some 115) (v := ?_) (a' := ?_) #[true, true, true, true, true, true, true, true, true, true, true, true, true, true, true, true, true, true, true, true, true, true, true, true, true, true, true, true, true, true, true, true, true, false, false, false, false] rfl rfl (any_of HT_.out (by kernel_rfl)) (fun _ _ _ h => h) (Or.inl ⟨by rfl, ?_⟩) ?_ ?_
  rotate_left
  · intro w'
    go_simp
    with_reducible rfl
  rotate_left
  · simp only [Act.put, List.setIfInBounds_toArray, List.set_cons_zero, List.set_cons_succ, i64_w, i32_w]
    rfl
  refine pure_ (i := 33) (N := some 116) (v := ?_) (a' := ?_) #[true, true, true, true, true, true, true, true, true, true, true, true, true, true, true, true, true, true, true, true, true, true, true, true, true, true, true, true, true, true, true, true, true, true, false, false, false] rfl rfl (any_of HT_.out (by kernel_rfl)) (fun _ _ _ h => h) (Or.inl ⟨by rfl, ?_⟩) ?_ ?_
  rotate_left
  · intro w'
    go_simp
    with_reducible rfl
  rotate_left
  · simp only [Act.put, List.setIfInBounds_toArray, List.set_cons_zero, List.set_cons_succ, i64_w, i32_w]
    rfl
  refine one_ (i := 34) (N := some 117) #[true, true, true, true, true, true, true, true, true, true, true, true, true, true, true, true, true, true, true, true, true, true, true, true, true, true, true, true, true, true, true, true, true, true, true, false, false] rfl rfl (one_of HT_.out (by kernel_rfl)) (by decide) (fun K hK => ?_)
  refine goes_ Try.func14 (by kernel_rfl) rfl #[.int .i64 ea] (by rfl) rfl rfl (by simp only [List.map_toArray, List.map_cons, List.map_nil]; rfl) ?_
  with_reducible refine (glebelaw07_num.calls ea ea _ rfl).mono ?_
  rintro e wx ⟨rfl, hbx0⟩
  refine ⟨_, rfl, ?_⟩
  have hbx := drawn_below hbx0
  replace Xr := Aside0.mk (blk_below (by first | exact Xr.out | exact blk_drew Xr.out) hbx)
  replace Xs := Aside0.mk (blk_below (by first | exact Xs.out | exact blk_drew Xs.out) hbx)
  replace Xo := Aside0.mk (blk_below (by first | exact Xo.out | exact blk_drew Xo.out) hbx)
  replace Xa := Aside0.mk (blk_below (by first | exact Xa.out | exact blk_drew Xa.out) hbx)
  replace Yr := Aside0.mk (Kd.C_below (by first | exact Yr.out | exact Kd.C_drew Yr.out) hbx)
  replace Yo := Aside0.mk (Kd.C_below (by first | exact Yo.out | exact Kd.C_drew Yo.out) hbx)
  replace Ya := Aside0.mk (Kd.C_below (by first | exact Ya.out | exact Kd.C_drew Ya.out) hbx)
  replace HB := Aside0.mk (show Below w.heap.size w wx from by first | exact below_step HB.out hbx | exact below_step (below_drew HB.out) hbx)
  clear hbx
  clear hbx0
  refine hK.out _ _ ⟨(blk_cell Xr.out 0), (blk_cell Xr.out 1), (blk_cell Xr.out 2), (blk_cell Xr.out 3), (blk_cell Xr.out 4), (blk_cell Xs.out 0), (blk_cell Xs.out 1), (blk_cell Xs.out 2), (blk_cell Xs.out 3), (blk_cell Xs.out 4), (blk_cell Xo.out 0), (blk_cell Xo.out 1), (blk_cell Xo.out 2), (blk_cell Xo.out 3), (blk_cell Xo.out 4), (blk_cell Xo.out 5), (blk_cell Xo.out 6), (blk_cell Xa.out 0), (blk_cell Xa.out 1), (blk_cell Xa.out 2), (blk_cell Xa.out 3)⟩ (fun hHeld => ?_)
  clear hK K
  refine norm_ (a' := ?_) ?_ ?_
  rotate_left
  · show Act.put _ (some 117) _ = _
    simp only [Act.put, List.setIfInBounds_toArray, List.set_cons_zero, List.set_cons_succ, i64_w, i32_w]
    rfl
  refine pure_ (i := 35) (N := some 118) (v := ?_) (a' := ?_) #[true, true, true, true, true, true, true, true, true, true, true, true, true, true, true, true, true, true, true, true, true, true, true, true, true, true, true, true, true, true, true, true, true, true, true, true, false] rfl rfl (any_of HT_.out (by kernel_rfl)) (fun _ _ _ h => h) (Or.inl ⟨by rfl, ?_⟩) ?_ ?_
  rotate_left
  · intro w'
    go_simp
    with_reducible rfl
  rotate_left
  · simp only [Act.put, List.setIfInBounds_toArray, List.set_cons_zero, List.set_cons_succ, i64_w, i32_w]
    rfl
  refine pure_ (i := 36) (N := some 119) (v := ?_) (a' := ?_) #[true, true, true, true, true, true, true, true, true, true, true, true, true, true, true, true, true, true, true, true, true, true, true, true, true, true, true, true, true, true, true, true, true, true, true, true, true] rfl rfl (any_of HT_.out (by kernel_rfl)) (fun _ _ _ h => h) (Or.inl ⟨by rfl, ?_⟩) ?_ ?_
  rotate_left
  · intro w'
    go_simp
    with_reducible rfl
  rotate_left
  · simp only [Act.put, List.setIfInBounds_toArray, List.set_cons_zero, List.set_cons_succ, i64_w, i32_w]
    rfl
  refine done_ (done_of HT_.out (by kernel_rfl)) ?_
  go_wp2_with fail
  refine start_ (n := 26) (S := fun w' => w'.cell? ⟨gr, 0, none⟩ = some (.int .i64 r0) ∧ w'.cell? ⟨gr, 1, none⟩ = some (.int .i64 r1) ∧ w'.cell? ⟨gr, 2, none⟩ = some (.string r2) ∧ w'.cell? ⟨gr, 3, none⟩ = some (.string r3) ∧ w'.cell? ⟨gr, 4, none⟩ = some (.int .i64 r4) ∧ w'.cell? ⟨gs, 0, none⟩ = some (.int .i64 s0) ∧ w'.cell? ⟨gs, 1, none⟩ = some (.int .i64 s1) ∧ w'.cell? ⟨gs, 2, none⟩ = some (.string s2) ∧ w'.cell? ⟨gs, 3, none⟩ = some (.string s3) ∧ w'.cell? ⟨gs, 4, none⟩ = some (.int .i64 s4) ∧ w'.cell? ⟨go, 0, none⟩ = some (.int .i64 o0) ∧ w'.cell? ⟨go, 1, none⟩ = some (.int .i64 o1) ∧ w'.cell? ⟨go, 2, none⟩ = some (.int .i64 o2) ∧ w'.cell? ⟨go, 3, none⟩ = some (.string o3) ∧ w'.cell? ⟨go, 4, none⟩ = some (.string o4) ∧ w'.cell? ⟨go, 5, none⟩ = some (.int .i64 o5) ∧ w'.cell? ⟨go, 6, none⟩ = some (.int .i64 o6) ∧ w'.cell? ⟨ga, 0, none⟩ = some (.int .i64 a0) ∧ w'.cell? ⟨ga, 1, none⟩ = some (.bool a1) ∧ w'.cell? ⟨ga, 2, none⟩ = some (.string a2) ∧ w'.cell? ⟨ga, 3, none⟩ = some (.int .i64 a3) ∧ (convert 22 9 (.slice Br Lr.length Dr)).run Try.prog w' = .ok (.string (strOfNums Lr)) w' ∧ (convert 22 9 (.slice Bo Lo.length Do)).run Try.prog w' = .ok (.string (strOfNums Lo)) w' ∧ (convert 22 9 (.slice Ba La.length Da)).run Try.prog w' = .ok (.string (strOfNums La)) w') (ds := []) #[false, false, false, false, false, false, false, false, false, false, false, false, false, false, false, false, false, false, false, false, false, false, false, false, false, false] (by kernel_rfl) rfl rfl ⟨(blk_cell Xr.out 0), (blk_cell Xr.out 1), (blk_cell Xr.out 2), (blk_cell Xr.out 3), (blk_cell Xr.out 4), (blk_cell Xs.out 0), (blk_cell Xs.out 1), (blk_cell Xs.out 2), (blk_cell Xs.out 3), (blk_cell Xs.out 4), (blk_cell Xo.out 0), (blk_cell Xo.out 1), (blk_cell Xo.out 2), (blk_cell Xo.out 3), (blk_cell Xo.out 4), (blk_cell Xo.out 5), (blk_cell Xo.out 6), (blk_cell Xa.out 0), (blk_cell Xa.out 1), (blk_cell Xa.out 2), (blk_cell Xa.out 3), (Kd.C_string Try.underlying22 Try.underlying5 Try.underlying9 (Kd.C_drew Yr.out)), (Kd.C_string Try.underlying22 Try.underlying5 Try.underlying9 (Kd.C_drew Yo.out)), (Kd.C_string Try.underlying22 Try.underlying5 Try.underlying9 (Kd.C_drew Ya.out))⟩ (fun hHeld => ?_)
  refine with_tabW glebelaw07_PointPuts.tab10 glebelaw07_PointPuts.bits10 (fun HT_ HW_ => ?_)
  refine pure_ (i := 0) (N := some 120) (v := ?_) (a' := ?_) #[true, false, false, false, false, false, false, false, false, false, false, false, false, false, false, false, false, false, false, false, false, false, false, false, false, false] rfl rfl (any_of HT_.out (by kernel_rfl)) (fun _ _ _ h => h) (Or.inl ⟨by rfl, ?_⟩) ?_ ?_
  rotate_left
  · intro w'
    go_simp
    with_reducible rfl
  rotate_left
  · simp only [Act.put, List.setIfInBounds_toArray, List.set_cons_zero, List.set_cons_succ, i64_w, i32_w]
    rfl
  refine take_ (i := 1) (N := some 121) (v := ?_) (a' := ?_) #[true, true, false, false, false, false, false, false, false, false, false, false, false, false, false, false, false, false, false, false, false, false, false, false, false, false] rfl rfl (take_ofW HT_.out HW_.out (by kernel_rfl)) (fun _ _ _ h => h) (Or.inl ⟨by rfl, ?_⟩) hHeld ?_ ?_
  rotate_left
  · rintro w' ⟨s0, s1, s2, s3, s4, s5, s6, s7, s8, s9, s10, s11, s12, s13, s14, s15, s16, s17, s18, s19, s20, s21, s22, s23⟩
    go_simp
    with_reducible rfl
  rotate_left
  · simp only [Act.put, List.setIfInBounds_toArray, List.set_cons_zero, List.set_cons_succ, i64_w, i32_w]
    rfl
  refine take_ (i := 2) (N := some 122) (v := ?_) (a' := ?_) #[true, true, true, false, false, false, false, false, false, false, false, false, false, false, false, false, false, false, false, false, false, false, false, false, false, false] rfl rfl (take_ofW HT_.out HW_.out (by kernel_rfl)) (fun _ _ _ h => h) (Or.inl ⟨by rfl, ?_⟩) hHeld ?_ ?_
  rotate_left
  · rintro w' ⟨s0, s1, s2, s3, s4, s5, s6, s7, s8, s9, s10, s11, s12, s13, s14, s15, s16, s17, s18, s19, s20, s21, s22, s23⟩
    go_simp
    with_reducible rfl
  rotate_left
  · simp only [Act.put, List.setIfInBounds_toArray, List.set_cons_zero, List.set_cons_succ, i64_w, i32_w]
    rfl
  refine one_ (i := 3) (N := some 123) #[true, true, true, true, false, false, false, false, false, false, false, false, false, false, false, false, false, false, false, false, false, false, false, false, false, false] rfl rfl (one_of HT_.out (by kernel_rfl)) (by decide) (fun K hK => ?_)
  refine goes_ Try.func40 (by kernel_rfl) rfl #[.agg #[.int .i64 r0, .int .i64 r1, .string r2, .string r3, .int .i64 r4]] (by rfl) rfl rfl (by simp only [List.map_toArray, List.map_cons, List.map_nil]; rfl) ?_
  with_reducible refine (gleberef07_PutRec.calls 100 r0 r1 r2 r3 r4 Lr _ HJr.out).mono ?_
  rintro e wx ⟨vx, rfl, hrx, hbx⟩
  refine ⟨_, rfl, ?_⟩
  obtain ⟨Cr, fr, rfl, _, hCr⟩ := Kd.R_reads hrx
  have hcvr : (convert 22 9 (.slice Cr Lr.length fr)).run Try.prog wx = .ok (.string (strOfNums Lr)) wx := Kd.C_string Try.underlying22 Try.underlying5 Try.underlying9 hCr
  replace Xr := Aside0.mk (blk_below (by first | exact Xr.out | exact blk_drew Xr.out) hbx)
  replace Xs := Aside0.mk (blk_below (by first | exact Xs.out | exact blk_drew Xs.out) hbx)
  replace Xo := Aside0.mk (blk_below (by first | exact Xo.out | exact blk_drew Xo.out) hbx)
  replace Xa := Aside0.mk (blk_below (by first | exact Xa.out | exact blk_drew Xa.out) hbx)
  replace Yr := Aside0.mk (Kd.C_below (by first | exact Yr.out | exact Kd.C_drew Yr.out) hbx)
  replace Yo := Aside0.mk (Kd.C_below (by first | exact Yo.out | exact Kd.C_drew Yo.out) hbx)
  replace Ya := Aside0.mk (Kd.C_below (by first | exact Ya.out | exact Kd.C_drew Ya.out) hbx)
  replace HB := Aside0.mk (show Below w.heap.size w wx from by first | exact below_step HB.out hbx | exact below_step (below_drew HB.out) hbx)
  clear hbx
  clear hrx hCr
  refine hK.out _ _ ⟨(blk_cell Xr.out 0), (blk_cell Xr.out 1), (blk_cell Xr.out 2), (blk_cell Xr.out 3), (blk_cell Xr.out 4), (blk_cell Xs.out 0), (blk_cell Xs.out 1), (blk_cell Xs.out 2), (blk_cell Xs.out 3), (blk_cell Xs.out 4), (blk_cell Xo.out 0), (blk_cell Xo.out 1), (blk_cell Xo.out 2), (blk_cell Xo.out 3), (blk_cell Xo.out 4), (blk_cell Xo.out 5), (blk_cell Xo.out 6), (blk_cell Xa.out 0), (blk_cell Xa.out 1), (blk_cell Xa.out 2), (blk_cell Xa.out 3), (Kd.C_string Try.underlying22 Try.underlying5 Try.underlying9 Yr.out), (Kd.C_string Try.underlying22 Try.underlying5 Try.underlying9 Yo.out), (Kd.C_string Try.underlying22 Try.underlying5 Try.underlying9 Ya.out)⟩ (fun hHeld => ?_)
  clear hK K
  refine norm_ (a' := ?_) ?_ ?_
  rotate_left
  · show Act.put _ (some 123) _ = _
    simp only [Act.put, List.setIfInBounds_toArray, List.set_cons_zero, List.set_cons_succ, i64_w, i32_w]
    rfl
  refine one_ (i := 4) (N := some 124) #[true, true, true, true, true, false, false, false, false, false, false, false, false, false, false, false, false, false, false, false, false, false, false, false, false, false] rfl rfl (one_of HT_.out (by kernel_rfl)) (by decide) (fun K hK => ?_)
  refine value_ (w1 := ?_) (v := ?_) (by rfl) rfl ?_ ?_
  rotate_left 2
  · go_simp
    constructor
    · rfl
    · rfl
  refine hK.out _ _ ⟨(blk_cell Xr.out 0), (blk_cell Xr.out 1), (blk_cell Xr.out 2), (blk_cell Xr.out 3), (blk_cell Xr.out 4), (blk_cell Xs.out 0), (blk_cell Xs.out 1), (blk_cell Xs.out 2), (blk_cell Xs.out 3), (blk_cell Xs.out 4), (blk_cell Xo.out 0), (blk_cell Xo.out 1), (blk_cell Xo.out 2), (blk_cell Xo.out 3), (blk_cell Xo.out 4), (blk_cell Xo.out 5), (blk_cell Xo.out 6), (blk_cell Xa.out 0), (blk_cell Xa.out 1), (blk_cell Xa.out 2), (blk_cell Xa.out 3), (Kd.C_string Try.underlying22 Try.underlying5 Try.underlying9 Yr.out), (Kd.C_string Try.underlying22 Try.underlying5 Try.underlying9 Yo.out), (Kd.C_string Try.underlying22 Try.underlying5 Try.underlying9 Ya.out)⟩ (fun hHeld => ?_)
  clear hK K
  refine norm_ (a' := ?_) ?_ ?_
  rotate_left
  · show Act.put _ (some 124) _ = _
    simp only [Act.put, List.setIfInBounds_toArray, List.set_cons_zero, List.set_cons_succ, i64_w, i32_w]
    rfl
  refine pure_ (i := 5) (N := some 125) (v := ?_) (a' := ?_) #[true, true, true, true, true, true, false, false, false, false, false, false, false, false, false, false, false, false, false, false, false, false, false, false, false, false] rfl rfl (any_of HT_.out (by kernel_rfl)) (fun _ _ _ h => h) (Or.inl ⟨by rfl, ?_⟩) ?_ ?_
  rotate_left
  · intro w'
    go_simp
    with_reducible rfl
  rotate_left
  · simp only [Act.put, List.setIfInBounds_toArray, List.set_cons_zero, List.set_cons_succ, i64_w, i32_w]
    rfl
  refine pure_ (i := 6) (N := some 126) (v := ?_) (a' := ?_) #[true, true, true, true, true, true, true, false, false, false, false, false, false, false, false, false, false, false, false, false, false, false, false, false, false, false] rfl rfl (any_of HT_.out (by kernel_rfl)) (fun _ _ _ h => h) (Or.inl ⟨by rfl, ?_⟩) ?_ ?_
  rotate_left
  · intro w'
    go_simp
    with_reducible rfl
  rotate_left
  · simp only [Act.put, List.setIfInBounds_toArray, List.set_cons_zero, List.set_cons_succ, i64_w, i32_w]
    rfl
  refine pure_ (i := 7) (N := some 127) (v := ?_) (a' := ?_) #[true, true, true, true, true, true, true, true, false, false, false, false, false, false, false, false, false, false, false, false, false, false, false, false, false, false] rfl rfl (any_of HT_.out (by kernel_rfl)) (fun _ _ _ h => h) (Or.inl ⟨by rfl, ?_⟩) ?_ ?_
  rotate_left
  · intro w'
    go_simp
    with_reducible rfl
  rotate_left
  · simp only [Act.put, List.setIfInBounds_toArray, List.set_cons_zero, List.set_cons_succ, i64_w, i32_w]
    rfl
  refine take_ (i := 8) (N := some 128) (v := ?_) (a' := ?_) #[true, true, true, true, true, true, true, true, true, false, false, false, false, false, false, false, false, false, false, false, false, false, false, false, false, false] rfl rfl (take_ofW HT_.out HW_.out (by kernel_rfl)) (fun _ _ _ h => h) (Or.inl ⟨by rfl, ?_⟩) hHeld ?_ ?_
  rotate_left
  · rintro w' ⟨s0, s1, s2, s3, s4, s5, s6, s7, s8, s9, s10, s11, s12, s13, s14, s15, s16, s17, s18, s19, s20, s21, s22, s23⟩
    go_simp
    with_reducible rfl
  rotate_left
  · simp only [Act.put, List.setIfInBounds_toArray, List.set_cons_zero, List.set_cons_succ, i64_w, i32_w]
    rfl
  refine take_ (i := 9) (N := some 129) (v := ?_) (a' := ?_) #[true, true, true, true, true, true, true, true, true, true, false, false, false, false, false, false, false, false, false, false, false, false, false, false, false, false] rfl rfl (take_ofW HT_.out HW_.out (by kernel_rfl)) (fun _ _ _ h => h) (Or.inl ⟨by rfl, ?_⟩) hHeld ?_ ?_
  rotate_left
  · rintro w' ⟨s0, s1, s2, s3, s4, s5, s6, s7, s8, s9, s10, s11, s12, s13, s14, s15, s16, s17, s18, s19, s20, s21, s22, s23⟩
    go_simp
    with_reducible rfl
  rotate_left
  · simp only [Act.put, List.setIfInBounds_toArray, List.set_cons_zero, List.set_cons_succ, i64_w, i32_w]
    rfl
  refine one_ (i := 10) (N := some 130) #[true, true, true, true, true, true, true, true, true, true, true, false, false, false, false, false, false, false, false, false, false, false, false, false, false, false] rfl rfl (one_of HT_.out (by kernel_rfl)) (by decide) (fun K hK => ?_)
  refine goes_ Try.func41 (by kernel_rfl) rfl #[.agg #[.int .i64 o0, .int .i64 o1, .int .i64 o2, .string o3, .string o4, .int .i64 o5, .int .i64 o6]] (by rfl) rfl rfl (by simp only [List.map_toArray, List.map_cons, List.map_nil]; rfl) ?_
  with_reducible refine (gleberef07_PutOp.calls 100 o0 o1 o2 o3 o4 o5 o6 Lo _ HJo.out).mono ?_
  rintro e wx ⟨vx, rfl, hrx, hbx⟩
  refine ⟨_, rfl, ?_⟩
  obtain ⟨Co, fo, rfl, _, hCo⟩ := Kd.R_reads hrx
  have hcvo : (convert 22 9 (.slice Co Lo.length fo)).run Try.prog wx = .ok (.string (strOfNums Lo)) wx := Kd.C_string Try.underlying22 Try.underlying5 Try.underlying9 hCo
  replace Xr := Aside0.mk (blk_below (by first | exact Xr.out | exact blk_drew Xr.out) hbx)
  replace Xs := Aside0.mk (blk_below (by first | exact Xs.out | exact blk_drew Xs.out) hbx)
  replace Xo := Aside0.mk (blk_below (by first | exact Xo.out | exact blk_drew Xo.out) hbx)
  replace Xa := Aside0.mk (blk_below (by first | exact Xa.out | exact blk_drew Xa.out) hbx)
  replace Yr := Aside0.mk (Kd.C_below (by first | exact Yr.out | exact Kd.C_drew Yr.out) hbx)
  replace Yo := Aside0.mk (Kd.C_below (by first | exact Yo.out | exact Kd.C_drew Yo.out) hbx)
  replace Ya := Aside0.mk (Kd.C_below (by first | exact Ya.out | exact Kd.C_drew Ya.out) hbx)
  replace HB := Aside0.mk (show Below w.heap.size w wx from by first | exact below_step HB.out hbx | exact below_step (below_drew HB.out) hbx)
  clear hbx
  clear hrx hCo
  refine hK.out _ _ ⟨(blk_cell Xr.out 0), (blk_cell Xr.out 1), (blk_cell Xr.out 2), (blk_cell Xr.out 3), (blk_cell Xr.out 4), (blk_cell Xs.out 0), (blk_cell Xs.out 1), (blk_cell Xs.out 2), (blk_cell Xs.out 3), (blk_cell Xs.out 4), (blk_cell Xo.out 0), (blk_cell Xo.out 1), (blk_cell Xo.out 2), (blk_cell Xo.out 3), (blk_cell Xo.out 4), (blk_cell Xo.out 5), (blk_cell Xo.out 6), (blk_cell Xa.out 0), (blk_cell Xa.out 1), (blk_cell Xa.out 2), (blk_cell Xa.out 3), (Kd.C_string Try.underlying22 Try.underlying5 Try.underlying9 Yr.out), (Kd.C_string Try.underlying22 Try.underlying5 Try.underlying9 Yo.out), (Kd.C_string Try.underlying22 Try.underlying5 Try.underlying9 Ya.out)⟩ (fun hHeld => ?_)
  clear hK K
  refine norm_ (a' := ?_) ?_ ?_
  rotate_left
  · show Act.put _ (some 130) _ = _
    simp only [Act.put, List.setIfInBounds_toArray, List.set_cons_zero, List.set_cons_succ, i64_w, i32_w]
    rfl
  refine one_ (i := 11) (N := some 131) #[true, true, true, true, true, true, true, true, true, true, true, true, false, false, false, false, false, false, false, false, false, false, false, false, false, false] rfl rfl (one_of HT_.out (by kernel_rfl)) (by decide) (fun K hK => ?_)
  refine value_ (w1 := ?_) (v := ?_) (by rfl) rfl ?_ ?_
  rotate_left 2
  · go_simp
    constructor
    · rfl
    · rfl
  refine hK.out _ _ ⟨(blk_cell Xr.out 0), (blk_cell Xr.out 1), (blk_cell Xr.out 2), (blk_cell Xr.out 3), (blk_cell Xr.out 4), (blk_cell Xs.out 0), (blk_cell Xs.out 1), (blk_cell Xs.out 2), (blk_cell Xs.out 3), (blk_cell Xs.out 4), (blk_cell Xo.out 0), (blk_cell Xo.out 1), (blk_cell Xo.out 2), (blk_cell Xo.out 3), (blk_cell Xo.out 4), (blk_cell Xo.out 5), (blk_cell Xo.out 6), (blk_cell Xa.out 0), (blk_cell Xa.out 1), (blk_cell Xa.out 2), (blk_cell Xa.out 3), (Kd.C_string Try.underlying22 Try.underlying5 Try.underlying9 Yr.out), (Kd.C_string Try.underlying22 Try.underlying5 Try.underlying9 Yo.out), (Kd.C_string Try.underlying22 Try.underlying5 Try.underlying9 Ya.out)⟩ (fun hHeld => ?_)
  clear hK K
  refine norm_ (a' := ?_) ?_ ?_
  rotate_left
  · show Act.put _ (some 131) _ = _
    simp only [Act.put, List.setIfInBounds_toArray, List.set_cons_zero, List.set_cons_succ, i64_w, i32_w]
    rfl
  refine pure_ (i := 12) (N := some 132) (v := ?_) (a' := ?_) #[true, true, true, true, true, true, true, true, true, true, true, true, true, false, false, false, false, false, false, false, false, false, false, false, false, false] rfl rfl (any_of HT_.out (by kernel_rfl)) (fun _ _ _ h => h) (Or.inl ⟨by rfl, ?_⟩) ?_ ?_
  rotate_left
  · intro w'
    go_simp
    with_reducible rfl
  rotate_left
  · simp only [Act.put, List.setIfInBounds_toArray, List.set_cons_zero, List.set_cons_succ, i64_w, i32_w]
    rfl
  refine pure_ (i := 13) (N := some 133) (v := ?_) (a' := ?_) #[true, true, true, true, true, true, true, true, true, true, true, true, true, true, false, false, false, false, false, false, false, false, false, false, false, false] rfl rfl (any_of HT_.out (by kernel_rfl)) (fun _ _ _ h => h) (Or.inl ⟨by rfl, ?_⟩) ?_ ?_
  rotate_left
  · intro w'
    go_simp
    with_reducible rfl
  rotate_left
  · simp only [Act.put, List.setIfInBounds_toArray, List.set_cons_zero, List.set_cons_succ, i64_w, i32_w]
    rfl
  refine pure_ (i := 14) (N := some 134) (v := ?_) (a' := ?_) #[true, true, true, true, true, true, true, true, true, true, true, true, true, true, true, false, false, false, false, false, false, false, false, false, false, false] rfl rfl (any_of HT_.out (by kernel_rfl)) (fun _ _ _ h => h) (Or.inl ⟨by rfl, ?_⟩) ?_ ?_
  rotate_left
  · intro w'
    go_simp
    with_reducible rfl
  rotate_left
  · simp only [Act.put, List.setIfInBounds_toArray, List.set_cons_zero, List.set_cons_succ, i64_w, i32_w]
    rfl
  refine pure_ (i := 15) (N := some 135) (v := ?_) (a' := ?_) #[true, true, true, true, true, true, true, true, true, true, true, true, true, true, true, true, false, false, false, false, false, false, false, false, false, false] rfl rfl (any_of HT_.out (by kernel_rfl)) (fun _ _ _ h => h) (Or.inl ⟨by rfl, ?_⟩) ?_ ?_
  rotate_left
  · intro w'
    go_simp
    with_reducible rfl
  rotate_left
  · simp only [Act.put, List.setIfInBounds_toArray, List.set_cons_zero, List.set_cons_succ, i64_w, i32_w]
    rfl
  refine take_ (i := 16) (N := some 136) (v := ?_) (a' := ?_) #[true, true, true, true, true, true, true, true, true, true, true, true, true, true, true, true, true, false, false, false, false, false, false, false, false, false] rfl rfl (take_ofW HT_.out HW_.out (by kernel_rfl)) (fun _ _ _ h => h) (Or.inl ⟨by rfl, ?_⟩) hHeld ?_ ?_
  rotate_left
  · rintro w' ⟨s0, s1, s2, s3, s4, s5, s6, s7, s8, s9, s10, s11, s12, s13, s14, s15, s16, s17, s18, s19, s20, s21, s22, s23⟩
    go_simp
    with_reducible rfl
  rotate_left
  · simp only [Act.put, List.setIfInBounds_toArray, List.set_cons_zero, List.set_cons_succ, i64_w, i32_w]
    rfl
  refine take_ (i := 17) (N := some 137) (v := ?_) (a' := ?_) #[true, true, true, true, true, true, true, true, true, true, true, true, true, true, true, true, true, true, false, false, false, false, false, false, false, false] rfl rfl (take_ofW HT_.out HW_.out (by kernel_rfl)) (fun _ _ _ h => h) (Or.inl ⟨by rfl, ?_⟩) hHeld ?_ ?_
  rotate_left
  · rintro w' ⟨s0, s1, s2, s3, s4, s5, s6, s7, s8, s9, s10, s11, s12, s13, s14, s15, s16, s17, s18, s19, s20, s21, s22, s23⟩
    go_simp
    with_reducible rfl
  rotate_left
  · simp only [Act.put, List.setIfInBounds_toArray, List.set_cons_zero, List.set_cons_succ, i64_w, i32_w]
    rfl
  refine one_ (i := 18) (N := some 138) #[true, true, true, true, true, true, true, true, true, true, true, true, true, true, true, true, true, true, true, false, false, false, false, false, false, false] rfl rfl (one_of HT_.out (by kernel_rfl)) (by decide) (fun K hK => ?_)
  refine goes_ Try.func42 (by kernel_rfl) rfl #[.agg #[.int .i64 a0, .bool a1, .string a2, .int .i64 a3]] (by rfl) rfl rfl (by simp only [List.map_toArray, List.map_cons, List.map_nil]; rfl) ?_
  with_reducible refine (gleberef07_PutAns.calls 100 a0 a1 a2 a3 La _ HJa.out).mono ?_
  rintro e wx ⟨vx, rfl, hrx, hbx⟩
  refine ⟨_, rfl, ?_⟩
  obtain ⟨Ca, fa, rfl, _, hCa⟩ := Kd.R_reads hrx
  have hcva : (convert 22 9 (.slice Ca La.length fa)).run Try.prog wx = .ok (.string (strOfNums La)) wx := Kd.C_string Try.underlying22 Try.underlying5 Try.underlying9 hCa
  replace Xr := Aside0.mk (blk_below (by first | exact Xr.out | exact blk_drew Xr.out) hbx)
  replace Xs := Aside0.mk (blk_below (by first | exact Xs.out | exact blk_drew Xs.out) hbx)
  replace Xo := Aside0.mk (blk_below (by first | exact Xo.out | exact blk_drew Xo.out) hbx)
  replace Xa := Aside0.mk (blk_below (by first | exact Xa.out | exact blk_drew Xa.out) hbx)
  replace Yr := Aside0.mk (Kd.C_below (by first | exact Yr.out | exact Kd.C_drew Yr.out) hbx)
  replace Yo := Aside0.mk (Kd.C_below (by first | exact Yo.out | exact Kd.C_drew Yo.out) hbx)
  replace Ya := Aside0.mk (Kd.C_below (by first | exact Ya.out | exact Kd.C_drew Ya.out) hbx)
  replace HB := Aside0.mk (show Below w.heap.size w wx from by first | exact below_step HB.out hbx | exact below_step (below_drew HB.out) hbx)
  clear hbx
  clear hrx hCa
  refine hK.out _ _ ⟨(blk_cell Xr.out 0), (blk_cell Xr.out 1), (blk_cell Xr.out 2), (blk_cell Xr.out 3), (blk_cell Xr.out 4), (blk_cell Xs.out 0), (blk_cell Xs.out 1), (blk_cell Xs.out 2), (blk_cell Xs.out 3), (blk_cell Xs.out 4), (blk_cell Xo.out 0), (blk_cell Xo.out 1), (blk_cell Xo.out 2), (blk_cell Xo.out 3), (blk_cell Xo.out 4), (blk_cell Xo.out 5), (blk_cell Xo.out 6), (blk_cell Xa.out 0), (blk_cell Xa.out 1), (blk_cell Xa.out 2), (blk_cell Xa.out 3), (Kd.C_string Try.underlying22 Try.underlying5 Try.underlying9 Yr.out), (Kd.C_string Try.underlying22 Try.underlying5 Try.underlying9 Yo.out), (Kd.C_string Try.underlying22 Try.underlying5 Try.underlying9 Ya.out)⟩ (fun hHeld => ?_)
  clear hK K
  refine norm_ (a' := ?_) ?_ ?_
  rotate_left
  · show Act.put _ (some 138) _ = _
    simp only [Act.put, List.setIfInBounds_toArray, List.set_cons_zero, List.set_cons_succ, i64_w, i32_w]
    rfl
  refine one_ (i := 19) (N := some 139) #[true, true, true, true, true, true, true, true, true, true, true, true, true, true, true, true, true, true, true, true, false, false, false, false, false, false] rfl rfl (one_of HT_.out (by kernel_rfl)) (by decide) (fun K hK => ?_)
  refine value_ (w1 := ?_) (v := ?_) (by rfl) rfl ?_ ?_
  rotate_left 2
  · go_simp
    constructor
    · rfl
    · rfl
  refine hK.out _ _ ⟨(blk_cell Xr.out 0), (blk_cell Xr.out 1), (blk_cell Xr.out 2), (blk_cell Xr.out 3), (blk_cell Xr.out 4), (blk_cell Xs.out 0), (blk_cell Xs.out 1), (blk_cell Xs.out 2), (blk_cell Xs.out 3), (blk_cell Xs.out 4), (blk_cell Xo.out 0), (blk_cell Xo.out 1), (blk_cell Xo.out 2), (blk_cell Xo.out 3), (blk_cell Xo.out 4), (blk_cell Xo.out 5), (blk_cell Xo.out 6), (blk_cell Xa.out 0), (blk_cell Xa.out 1), (blk_cell Xa.out 2), (blk_cell Xa.out 3), (Kd.C_string Try.underlying22 Try.underlying5 Try.underlying9 Yr.out), (Kd.C_string Try.underlying22 Try.underlying5 Try.underlying9 Yo.out), (Kd.C_string Try.underlying22 Try.underlying5 Try.underlying9 Ya.out)⟩ (fun hHeld => ?_)
  clear hK K
  refine norm_ (a' := ?_) ?_ ?_
  rotate_left
  · show Act.put _ (some 139) _ = _
    simp only [Act.put, List.setIfInBounds_toArray, List.set_cons_zero, List.set_cons_succ, i64_w, i32_w]
    rfl
  refine pure_ (i := 20) (N := some 140) (v := ?_) (a' := ?_) #[true, true, true, true, true, true, true, true, true, true, true, true, true, true, true, true, true, true, true, true, true, false, false, false, false, false] rfl rfl (any_of HT_.out (by kernel_rfl)) (fun _ _ _ h => h) (Or.inl ⟨by rfl, ?_⟩) ?_ ?_
  rotate_left
  · intro w'
    go_simp
    with_reducible rfl
  rotate_left
  · simp only [Act.put, List.setIfInBounds_toArray, List.set_cons_zero, List.set_cons_succ, i64_w, i32_w]
    rfl
  refine pure_ (i := 21) (N := some 141) (v := ?_) (a' := ?_) #[true, true, true, true, true, true, true, true, true, true, true, true, true, true, true, true, true, true, true, true, true, true, false, false, false, false] rfl rfl (any_of HT_.out (by kernel_rfl)) (fun _ _ _ h => h) (Or.inl ⟨by rfl, ?_⟩) ?_ ?_
  rotate_left
  · intro w'
    go_simp
    with_reducible rfl
  rotate_left
  · simp only [Act.put, List.setIfInBounds_toArray, List.set_cons_zero, List.set_cons_succ, i64_w, i32_w]
    rfl
  refine pure_ (i := 22) (N := some 142) (v := ?_) (a' := ?_) #[true, true, true, true, true, true, true, true, true, true, true, true, true, true, true, true, true, true, true, true, true, true, true, false, false, false] rfl rfl (any_of HT_.out (by kernel_rfl)) (fun _ _ _ h => h) (Or.inl ⟨by rfl, ?_⟩) ?_ ?_
  rotate_left
  · intro w'
    go_simp
    with_reducible rfl
  rotate_left
  · simp only [Act.put, List.setIfInBounds_toArray, List.set_cons_zero, List.set_cons_succ, i64_w, i32_w]
    rfl
  refine one_ (i := 23) (N := some 143) #[true, true, true, true, true, true, true, true, true, true, true, true, true, true, true, true, true, true, true, true, true, true, true, true, false, false] rfl rfl (one_of HT_.out (by kernel_rfl)) (by decide) (fun K hK => ?_)
  refine goes_ Try.func7 (by kernel_rfl) rfl #[] (by rfl) rfl rfl (by simp only [List.map_toArray, List.map_cons, List.map_nil]) ?_
  with_reducible refine (glebelaw07_knows.calls true _ rfl).mono ?_
  rintro e wx ⟨rfl, hbx⟩
  refine ⟨_, rfl, ?_⟩
  replace Xr := Aside0.mk (blk_below (by first | exact Xr.out | exact blk_drew Xr.out) hbx)
  replace Xs := Aside0.mk (blk_below (by first | exact Xs.out | exact blk_drew Xs.out) hbx)
  replace Xo := Aside0.mk (blk_below (by first | exact Xo.out | exact blk_drew Xo.out) hbx)
  replace Xa := Aside0.mk (blk_below (by first | exact Xa.out | exact blk_drew Xa.out) hbx)
  replace Yr := Aside0.mk (Kd.C_below (by first | exact Yr.out | exact Kd.C_drew Yr.out) hbx)
  replace Yo := Aside0.mk (Kd.C_below (by first | exact Yo.out | exact Kd.C_drew Yo.out) hbx)
  replace Ya := Aside0.mk (Kd.C_below (by first | exact Ya.out | exact Kd.C_drew Ya.out) hbx)
  replace HB := Aside0.mk (show Below w.heap.size w wx from by first | exact below_step HB.out hbx | exact below_step (below_drew HB.out) hbx)
  clear hbx
  refine hK.out _ _ ⟨(blk_cell Xr.out 0), (blk_cell Xr.out 1), (blk_cell Xr.out 2), (blk_cell Xr.out 3), (blk_cell Xr.out 4), (blk_cell Xs.out 0), (blk_cell Xs.out 1), (blk_cell Xs.out 2), (blk_cell Xs.out 3), (blk_cell Xs.out 4), (blk_cell Xo.out 0), (blk_cell Xo.out 1), (blk_cell Xo.out 2), (blk_cell Xo.out 3), (blk_cell Xo.out 4), (blk_cell Xo.out 5), (blk_cell Xo.out 6), (blk_cell Xa.out 0), (blk_cell Xa.out 1), (blk_cell Xa.out 2), (blk_cell Xa.out 3), (Kd.C_string Try.underlying22 Try.underlying5 Try.underlying9 Yr.out), (Kd.C_string Try.underlying22 Try.underlying5 Try.underlying9 Yo.out), (Kd.C_string Try.underlying22 Try.underlying5 Try.underlying9 Ya.out)⟩ (fun hHeld => ?_)
  clear hK K
  refine norm_ (a' := ?_) ?_ ?_
  rotate_left
  · show Act.put _ (some 143) _ = _
    simp only [Act.put, List.setIfInBounds_toArray, List.set_cons_zero, List.set_cons_succ, i64_w, i32_w]
    rfl
  refine pure_ (i := 24) (N := some 144) (v := ?_) (a' := ?_) #[true, true, true, true, true, true, true, true, true, true, true, true, true, true, true, true, true, true, true, true, true, true, true, true, true, false] rfl rfl (any_of HT_.out (by kernel_rfl)) (fun _ _ _ h => h) (Or.inl ⟨by rfl, ?_⟩) ?_ ?_
  rotate_left
  · intro w'
    go_simp
    with_reducible rfl
  rotate_left
  · simp only [Act.put, List.setIfInBounds_toArray, List.set_cons_zero, List.set_cons_succ, i64_w, i32_w]
    rfl
  refine pure_ (i := 25) (N := some 8) (v := ?_) (a' := ?_) #[true, true, true, true, true, true, true, true, true, true, true, true, true, true, true, true, true, true, true, true, true, true, true, true, true, true] rfl rfl (any_of HT_.out (by kernel_rfl)) (fun _ _ _ h => h) (Or.inl ⟨by rfl, ?_⟩) ?_ ?_
  rotate_left
  · intro w'
    go_simp
    with_reducible rfl
  rotate_left
  · simp only [Act.put, List.setIfInBounds_toArray, List.set_cons_zero, List.set_cons_succ, i64_w, i32_w]
    rfl
  refine done_ (done_of HT_.out (by kernel_rfl)) ?_
  go_wp2
  go_ret
  exact ⟨rfl, HB.out⟩

end Go.Proofs.Ytiglmgmkablpkaa.PK
