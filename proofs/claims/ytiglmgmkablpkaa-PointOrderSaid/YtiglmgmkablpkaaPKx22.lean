-- Written by a program of this session (wip/tools/hp.py) over the kit's print; nothing here is trusted: Lean checks it.
import Derived.RegionTactic
import Derived.BigRegion
import Derived.Test.YtiglmgmkablpkaaPKx0
import Derived.Test.YtiglmgmkablpkaaPKx2
import Derived.Test.YtiglmgmkablpkaaPKx3
import Derived.Test.YtiglmgmkablpkaaPKx4
import Derived.Test.YtiglmgmkablpkaaPKx5
import Derived.Test.YtiglmgmkablpkaaPKx11
import Derived.Test.YtiglmgmkablpkaaPKx21
namespace Go.Proofs.Ytiglmgmkablpkaa.PK
open Go.RowKit Go.Proofs.YtiglmgmkablpkaaW.PrintWords Go.Proofs.YtiglmgmkablpkaaW.PrintLast Go.Proofs.YtiglmgmkablpkaaW.PrintMore
attribute [local go_sem] max2_int min2_int max_two min_two max_three min_three max_four min_four   -- for this text's walks alone
set_option linter.unusedVariables false
set_option linter.unusedSimpArgs false

--OWN Derived.RegionTactic,Derived.BigRegion
/-! ### point_PutRec: function 26 -/
def point_PutRec.T2 : Bool × List (List Nat × List Nat) := (true, [([], []), ([0], [0]), ([1], [1]), ([], []), ([3], [3]), ([4], [4]), ([], []), ([6], [6]), ([7], [7]), ([5, 8], [5, 8]), ([2, 9], [2, 9])])
def point_PutRec.B2 : List Nat := [0, 1, 3, 0, 8, 24, 0, 64, 192, 504, 1023]
theorem point_PutRec.tab2 : rtab .any (opsOf Try.f26 2) = point_PutRec.T2 := by kernel_rfl
theorem point_PutRec.bits2 : waitsOk point_PutRec.T2.2 point_PutRec.B2 = true := by kernel_rfl
def point_PutRec.T3 : Bool × List (List Nat × List Nat) := (true, [([], []), ([0], [0]), ([1], [1]), ([], []), ([3], [3]), ([], []), ([5], [5]), ([4, 6], [4, 6]), ([2, 7], [2, 7])])
def point_PutRec.B3 : List Nat := [0, 1, 3, 0, 8, 0, 32, 120, 255]
theorem point_PutRec.tab3 : rtab .any (opsOf Try.f26 3) = point_PutRec.T3 := by kernel_rfl
theorem point_PutRec.bits3 : waitsOk point_PutRec.T3.2 point_PutRec.B3 = true := by kernel_rfl
set_option maxHeartbeats 8000000 in
set_option maxRecDepth 100000 in
theorem point_PutRec.calls (k : Nat) (B : Int → List Int) (E : Int → Int) (T : ByteArray → List Int) (F : ByteArray → Int) (px : Int) (py : Int) (key : ByteArray) (val : ByteArray) (ver : Int) (r : Bool) (w : World) (hr : point_RightRec.f k px py key val ver = some r) (hN0 : ∀ n ∈ ([px, py] : List Int), wire_Num.f k n = some (B n, E n)) (hN1 : ∀ n ∈ ([key, val] : List ByteArray), wire_Text.f k n = some (T n, F n)) (hN2 : ∀ n ∈ ([ver] : List Int), wire_Num.f k n = some (B n, E n)) (hL : (([px, py] : List Int).flatMap B ++ ([key, val] : List ByteArray).flatMap T ++ ([ver] : List Int).flatMap B).length ≤ 140737488355328) :
    Calls Try.prog 26 #[.agg #[.int .i64 px, .int .i64 py, .string key, .string val, .int .i64 ver]] w fun e w' => ∃ v, e = .returned (.tuple #[v, .int .i64 (if r then 0 else 1)]) ∧ (Kd.int .u8).R 5 w' w.heap.size (fun _ => True) v (if r then ([px, py] : List Int).flatMap B ++ ([key, val] : List ByteArray).flatMap T ++ ([ver] : List Int).flatMap B else []) ∧ Below w.heap.size w w' := by
  have HRt := Aside0.mk hr
  have HL := Aside0.mk hL
  clear hr hL
  obtain ⟨y0, hy0⟩ : ∃ y : List Int, y = [px, py] := ⟨_, rfl⟩
  rw [← hy0] at hN0
  have HN0 := Aside0.mk hN0
  have Ny0 := Aside0.mk hy0
  obtain ⟨y1, hy1⟩ : ∃ y : List ByteArray, y = [key, val] := ⟨_, rfl⟩
  rw [← hy1] at hN1
  have HN1 := Aside0.mk hN1
  have Ny1 := Aside0.mk hy1
  obtain ⟨y2, hy2⟩ : ∃ y : List Int, y = [ver] := ⟨_, rfl⟩
  rw [← hy2] at hN2
  have HN2 := Aside0.mk hN2
  have Ny2 := Aside0.mk hy2
  obtain ⟨L0, hl0⟩ : ∃ x, x = ([] : List Int) ++ y0.flatMap B := ⟨_, rfl⟩
  obtain ⟨L1, hl1⟩ : ∃ x, x = L0 ++ y1.flatMap T := ⟨_, rfl⟩
  obtain ⟨L2, hl2⟩ : ∃ x, x = L1 ++ y2.flatMap B := ⟨_, rfl⟩
  have HE := Aside0.mk (show L2 = ([px, py] : List Int).flatMap B ++ ([key, val] : List ByteArray).flatMap T ++ ([ver] : List Int).flatMap B by rw [hl2, hl1, hl0, hy0, hy1, hy2]; simp)
  have HL0 := Aside0.mk (show ([] : List Int).length + (y0.flatMap B).length ≤ 140737488355328 by
    have q := HL.out
    rw [← HE.out, hl2, hl1, hl0] at q
    first | exact q | ((try simp only [List.length_append, List.length_nil] at q); (try simp only [List.length_nil, List.length_append]); omega))
  have Nl0 := Aside0.mk hl0
  have HL1 := Aside0.mk (show L0.length + (y1.flatMap T).length ≤ 140737488355328 by
    have q := HL.out
    rw [← HE.out, hl2, hl1] at q
    first | exact q | ((try simp only [List.length_append, List.length_nil] at q); (try simp only [List.length_nil, List.length_append]); omega))
  have Nl1 := Aside0.mk hl1
  have HL2 := Aside0.mk (show L1.length + (y2.flatMap B).length ≤ 140737488355328 by
    have q := HL.out
    rw [← HE.out, hl2] at q
    first | exact q | ((try simp only [List.length_append, List.length_nil] at q); (try simp only [List.length_nil, List.length_append]); omega))
  have Nl2 := Aside0.mk hl2
  clear hy0 hl0 hN0 hy1 hl1 hN1 hy2 hl2 hN2 HL
  obtain ⟨ec, hec⟩ : ∃ z, z = (if r then (0 : Int) else 1) := ⟨_, rfl⟩
  obtain ⟨lf, hlf⟩ : ∃ z, z = (if r then ([px, py] : List Int).flatMap B ++ ([key, val] : List ByteArray).flatMap T ++ ([ver] : List Int).flatMap B else []) := ⟨_, rfl⟩
  rw [← hec, ← hlf]
  have HEC := Aside0.mk hec
  have HLF := Aside0.mk hlf
  clear hec hlf
  go_enter Try.func26, Try.ntmps26
  go_wp2_with (first | ((with_reducible refine gate_dst (N := 1) rfl ?_); refine box_event ?hg (N := 1) ?hd (cs := #[.int .i64 px, .int .i64 py, .string key, .string val, .int .i64 ver]) (t := 34) ?hr ?_; (case hd => rfl); (case hg => rfl); (case hr => first | (go_simp; done) | (go_simp; rfl)); intro g1 hg w1 hbox hb; have HX := Aside0.mk hbox; have HB := Aside0.mk hb; have h0 := blk_cell hbox 0; have f0 := blk_frozen hbox 0; have h1 := blk_cell hbox 1; have f1 := blk_frozen hbox 1; have h2 := blk_cell hbox 2; have f2 := blk_frozen hbox 2; have h3 := blk_cell hbox 3; have f3 := blk_frozen hbox 3; have h4 := blk_cell hbox 4; have f4 := blk_frozen hbox 4; clear hbox hb hg) | fail)
  refine (point_RightRec.calls k px py key val ver r _ HRt.out).mono ?_
  rintro e w2 ⟨rfl, hb⟩
  replace HX := Aside0.mk (blk_below HX.out hb)
  replace HB := Aside0.mk (below_step HB.out hb)
  clear hb h0 f0 h1 f1 h2 f2 h3 f3 h4 f4
  have h0 := blk_cell HX.out 0
  have h1 := blk_cell HX.out 1
  have h2 := blk_cell HX.out 2
  have h3 := blk_cell HX.out 3
  have h4 := blk_cell HX.out 4
  go_wp2_with (first | ((with_reducible refine gate_dst (N := 8) rfl ?_); refine box_event ?hg (N := 8) ?hd (cs := #[.slice none 0 0, .bool r]) (t := 92) ?hr ?_; (case hd => rfl); (case hg => rfl); (case hr => first | (go_simp; done) | (go_simp; rfl)); intro gw hg w3 hbox hb; have HW := Aside0.mk (show IsWr w w3 gw ([] : List Int) r from ⟨by have := HB.out.size; omega, none, 0, hbox, Kd.R_nil _ _ _ _ _⟩); have HX3 := Aside0.mk (blk_below HX.out hb); have HB3 := Aside0.mk (below_step HB.out hb); clear hbox hb hg) | fail)
  clear HX HB h0 h1 h2 h3 h4
  have HX := HX3
  have HB := HB3
  clear HX3 HB3
  go_wp2_with fail
  refine start_ (n := 11) (S := fun w' => w'.cell? ⟨g1, 0, none⟩ = some (.int .i64 px) ∧ w'.cell? ⟨g1, 1, none⟩ = some (.int .i64 py) ∧ w'.cell? ⟨g1, 2, none⟩ = some (.string key) ∧ w'.cell? ⟨g1, 3, none⟩ = some (.string val) ∧ w'.cell? ⟨g1, 4, none⟩ = some (.int .i64 ver)) (ds := []) #[false, false, false, false, false, false, false, false, false, false, false] (by kernel_rfl) rfl rfl ⟨(blk_cell HX.out 0), (blk_cell HX.out 1), (blk_cell HX.out 2), (blk_cell HX.out 3), (blk_cell HX.out 4)⟩ (fun hHeld => ?_)
  refine with_tabW point_PutRec.tab2 point_PutRec.bits2 (fun HT_ HW_ => ?_)
  refine pure_ (i := 0) (N := some 9) (v := ?_) (a' := ?_) #[true, false, false, false, false, false, false, false, false, false, false] rfl rfl (any_of HT_.out (by kernel_rfl)) (fun _ _ _ h => h) (Or.inl ⟨by rfl, ?_⟩) ?_ ?_
  rotate_left
  · intro w'
    go_simp
    with_reducible rfl
  rotate_left
  · simp only [Act.put, List.setIfInBounds_toArray, List.set_cons_zero, List.set_cons_succ, i64_w, i32_w]
    rfl
  refine pure_ (i := 1) (N := some 10) (v := ?_) (a' := ?_) #[true, true, false, false, false, false, false, false, false, false, false] rfl rfl (any_of HT_.out (by kernel_rfl)) (fun _ _ _ h => h) (Or.inl ⟨by rfl, ?_⟩) ?_ ?_
  rotate_left
  · intro w'
    go_simp
    with_reducible rfl
  rotate_left
  · simp only [Act.put, List.setIfInBounds_toArray, List.set_cons_zero, List.set_cons_succ, i64_w, i32_w]
    rfl
  refine pure_ (i := 2) (N := some 11) (v := ?_) (a' := ?_) #[true, true, true, false, false, false, false, false, false, false, false] rfl rfl (any_of HT_.out (by kernel_rfl)) (fun _ _ _ h => h) (Or.inl ⟨by rfl, ?_⟩) ?_ ?_
  rotate_left
  · intro w'
    go_simp
    with_reducible rfl
  rotate_left
  · simp only [Act.put, List.setIfInBounds_toArray, List.set_cons_zero, List.set_cons_succ, i64_w, i32_w]
    rfl
  refine pure_ (i := 3) (N := some 12) (v := ?_) (a' := ?_) #[true, true, true, true, false, false, false, false, false, false, false] rfl rfl (any_of HT_.out (by kernel_rfl)) (fun _ _ _ h => h) (Or.inl ⟨by rfl, ?_⟩) ?_ ?_
  rotate_left
  · intro w'
    go_simp
    with_reducible rfl
  rotate_left
  · simp only [Act.put, List.setIfInBounds_toArray, List.set_cons_zero, List.set_cons_succ, i64_w, i32_w]
    rfl
  refine pure_ (i := 4) (N := some 13) (v := ?_) (a' := ?_) #[true, true, true, true, true, false, false, false, false, false, false] rfl rfl (any_of HT_.out (by kernel_rfl)) (fun _ _ _ h => h) (Or.inl ⟨by rfl, ?_⟩) ?_ ?_
  rotate_left
  · intro w'
    go_simp
    with_reducible rfl
  rotate_left
  · simp only [Act.put, List.setIfInBounds_toArray, List.set_cons_zero, List.set_cons_succ, i64_w, i32_w]
    rfl
  refine pure_ (i := 6) (N := some 15) (v := ?_) (a' := ?_) #[true, true, true, true, true, false, true, false, false, false, false] rfl rfl (any_of HT_.out (by kernel_rfl)) (fun _ _ _ h => h) (Or.inl ⟨by rfl, ?_⟩) ?_ ?_
  rotate_left
  · intro w'
    go_simp
    with_reducible rfl
  rotate_left
  · simp only [Act.put, List.setIfInBounds_toArray, List.set_cons_zero, List.set_cons_succ, i64_w, i32_w]
    rfl
  refine pure_ (i := 7) (N := some 16) (v := ?_) (a' := ?_) #[true, true, true, true, true, false, true, true, false, false, false] rfl rfl (any_of HT_.out (by kernel_rfl)) (fun _ _ _ h => h) (Or.inl ⟨by rfl, ?_⟩) ?_ ?_
  rotate_left
  · intro w'
    go_simp
    with_reducible rfl
  rotate_left
  · simp only [Act.put, List.setIfInBounds_toArray, List.set_cons_zero, List.set_cons_succ, i64_w, i32_w]
    rfl
  refine take_ (i := 5) (N := some 14) (v := ?_) (a' := ?_) #[true, true, true, true, true, true, true, true, false, false, false] rfl rfl (take_ofW HT_.out HW_.out (by kernel_rfl)) (fun _ _ _ h => h) (Or.inl ⟨by rfl, ?_⟩) hHeld ?_ ?_
  rotate_left
  · rintro w' ⟨s0, s1, s2, s3, s4⟩
    go_simp
    with_reducible rfl
  rotate_left
  · simp only [Act.put, List.setIfInBounds_toArray, List.set_cons_zero, List.set_cons_succ, i64_w, i32_w]
    rfl
  refine take_ (i := 8) (N := some 17) (v := ?_) (a' := ?_) #[true, true, true, true, true, true, true, true, true, false, false] rfl rfl (take_ofW HT_.out HW_.out (by kernel_rfl)) (fun _ _ _ h => h) (Or.inl ⟨by rfl, ?_⟩) hHeld ?_ ?_
  rotate_left
  · rintro w' ⟨s0, s1, s2, s3, s4⟩
    go_simp
    with_reducible rfl
  rotate_left
  · simp only [Act.put, List.setIfInBounds_toArray, List.set_cons_zero, List.set_cons_succ, i64_w, i32_w]
    rfl
  refine one_ (i := 9) (N := some 18) #[true, true, true, true, true, true, true, true, true, true, false] rfl rfl (one_of HT_.out (by kernel_rfl)) (by decide) (fun K hK => ?_)
  refine Kd.R_lit_step (Kd.int .i64) _ 3 ?hg (N := 18) ?hd (xs := ([px, py] : List Int)) (inner := [.int .i64 px, .int .i64 py]) (ok := fun _ => True) (okp := fun _ => True) ?hr ?hp (fun _ hk => hk) trivial (Below.refl _ _) (Nat.le_refl _) (by simp) ?_; (case hd => rfl); (case hg => rfl); (case hr => first | (go_simp; done) | (go_simp; rfl)); (case hp => exact (Reps.one (show Kd.M (Kd.int .i64) _ _ _ px [.int .i64 px] from rfl) (Reps.one (show Kd.M (Kd.int .i64) _ _ _ py [.int .i64 py] from rfl) (Reps.none _ _))))
  intro vl wl hol hb hg_ hnew_
  clear hg_ hnew_
  rw [← Ny0.out] at hol
  replace HX := Aside0.mk (blk_below (by first | exact HX.out | exact blk_drew HX.out) hb)
  replace HW := Aside0.mk (IsWr.below (by first | exact HW.out | exact HW.out.drew) hb)
  replace HB := Aside0.mk (below_step (by first | exact HB.out | exact below_drew HB.out) hb)
  obtain ⟨Al, cl, rfl⟩ := Kd.R_slice hol
  have HOL := Aside0.mk hol
  clear hol hb
  refine hK.out _ _ ⟨(blk_cell HX.out 0), (blk_cell HX.out 1), (blk_cell HX.out 2), (blk_cell HX.out 3), (blk_cell HX.out 4)⟩ (fun hHeld => ?_)
  clear hK K
  refine norm_ (a' := ?_) ?_ ?_
  rotate_left
  · show Act.put _ (some 18) _ = _
    simp only [Act.put, List.setIfInBounds_toArray, List.set_cons_zero, List.set_cons_succ, i64_w, i32_w]
    rfl
  refine one_ (i := 10) (N := some 19) #[true, true, true, true, true, true, true, true, true, true, true] rfl rfl (one_of HT_.out (by kernel_rfl)) (by decide) (fun K hK => ?_)
  refine goes_ Try.func54 (by kernel_rfl) rfl #[.pointer (some ⟨gw, 0, none⟩), .slice Al y0.length cl] (by rfl) rfl rfl (by simp only [List.map_toArray, List.map_cons, List.map_nil]; rfl) ?_
  with_reducible refine (point_bytes_num.calls k B E _ _ y0 gw ([] : List Int) r _ _ w _ HW.out HB.out HOL.out HN0.out HL0.out).mono ?_
  rintro e wx ⟨rfl, hi, hbx, hk⟩
  refine ⟨_, rfl, ?_⟩
  rw [← Nl0.out] at hi
  have hne : g1 ≠ gw := by (obtain ⟨Aq, cq, hq, _⟩ := HW.out.row; exact blk_ne HX.out hq (by decide))
  replace HX := Aside0.mk (hk.2 _ _ _ _ HX.out (by decide) hne)
  replace HW := Aside0.mk hi
  replace HB := Aside0.mk hbx
  clear hi hbx hk hne HOL
  refine hK.out _ _ ⟨(blk_cell HX.out 0), (blk_cell HX.out 1), (blk_cell HX.out 2), (blk_cell HX.out 3), (blk_cell HX.out 4)⟩ (fun hHeld => ?_)
  clear hK K
  refine norm_ (a' := ?_) ?_ ?_
  rotate_left
  · show Act.put _ (some 19) _ = _
    simp only [Act.put, List.setIfInBounds_toArray, List.set_cons_zero, List.set_cons_succ, i64_w, i32_w]
    rfl
  refine done_ (done_of HT_.out (by kernel_rfl)) ?_
  go_wp2_with fail
  refine start_ (n := 9) (S := fun w' => w'.cell? ⟨g1, 0, none⟩ = some (.int .i64 px) ∧ w'.cell? ⟨g1, 1, none⟩ = some (.int .i64 py) ∧ w'.cell? ⟨g1, 2, none⟩ = some (.string key) ∧ w'.cell? ⟨g1, 3, none⟩ = some (.string val) ∧ w'.cell? ⟨g1, 4, none⟩ = some (.int .i64 ver)) (ds := []) #[false, false, false, false, false, false, false, false, false] (by kernel_rfl) rfl rfl ⟨(blk_cell HX.out 0), (blk_cell HX.out 1), (blk_cell HX.out 2), (blk_cell HX.out 3), (blk_cell HX.out 4)⟩ (fun hHeld => ?_)
  refine with_tabW point_PutRec.tab3 point_PutRec.bits3 (fun HT_ HW_ => ?_)
  refine pure_ (i := 0) (N := some 20) (v := ?_) (a' := ?_) #[true, false, false, false, false, false, false, false, false] rfl rfl (any_of HT_.out (by kernel_rfl)) (fun _ _ _ h => h) (Or.inl ⟨by rfl, ?_⟩) ?_ ?_
  rotate_left
  · intro w'
    go_simp
    with_reducible rfl
  rotate_left
  · simp only [Act.put, List.setIfInBounds_toArray, List.set_cons_zero, List.set_cons_succ, i64_w, i32_w]
    rfl
  refine pure_ (i := 1) (N := some 21) (v := ?_) (a' := ?_) #[true, true, false, false, false, false, false, false, false] rfl rfl (any_of HT_.out (by kernel_rfl)) (fun _ _ _ h => h) (Or.inl ⟨by rfl, ?_⟩) ?_ ?_
  rotate_left
  · intro w'
    go_simp
    with_reducible rfl
  rotate_left
  · simp only [Act.put, List.setIfInBounds_toArray, List.set_cons_zero, List.set_cons_succ, i64_w, i32_w]
    rfl
  refine pure_ (i := 2) (N := some 22) (v := ?_) (a' := ?_) #[true, true, true, false, false, false, false, false, false] rfl rfl (any_of HT_.out (by kernel_rfl)) (fun _ _ _ h => h) (Or.inl ⟨by rfl, ?_⟩) ?_ ?_
  rotate_left
  · intro w'
    go_simp
    with_reducible rfl
  rotate_left
  · simp only [Act.put, List.setIfInBounds_toArray, List.set_cons_zero, List.set_cons_succ, i64_w, i32_w]
    rfl
  refine pure_ (i := 3) (N := some 23) (v := ?_) (a' := ?_) #[true, true, true, true, false, false, false, false, false] rfl rfl (any_of HT_.out (by kernel_rfl)) (fun _ _ _ h => h) (Or.inl ⟨by rfl, ?_⟩) ?_ ?_
  rotate_left
  · intro w'
    go_simp
    with_reducible rfl
  rotate_left
  · simp only [Act.put, List.setIfInBounds_toArray, List.set_cons_zero, List.set_cons_succ, i64_w, i32_w]
    rfl
  refine pure_ (i := 5) (N := some 25) (v := ?_) (a' := ?_) #[true, true, true, true, false, true, false, false, false] rfl rfl (any_of HT_.out (by kernel_rfl)) (fun _ _ _ h => h) (Or.inl ⟨by rfl, ?_⟩) ?_ ?_
  rotate_left
  · intro w'
    go_simp
    with_reducible rfl
  rotate_left
  · simp only [Act.put, List.setIfInBounds_toArray, List.set_cons_zero, List.set_cons_succ, i64_w, i32_w]
    rfl
  refine take_ (i := 4) (N := some 24) (v := ?_) (a' := ?_) #[true, true, true, true, true, true, false, false, false] rfl rfl (take_ofW HT_.out HW_.out (by kernel_rfl)) (fun _ _ _ h => h) (Or.inl ⟨by rfl, ?_⟩) hHeld ?_ ?_
  rotate_left
  · rintro w' ⟨s0, s1, s2, s3, s4⟩
    go_simp
    with_reducible rfl
  rotate_left
  · simp only [Act.put, List.setIfInBounds_toArray, List.set_cons_zero, List.set_cons_succ, i64_w, i32_w]
    rfl
  refine take_ (i := 6) (N := some 26) (v := ?_) (a' := ?_) #[true, true, true, true, true, true, true, false, false] rfl rfl (take_ofW HT_.out HW_.out (by kernel_rfl)) (fun _ _ _ h => h) (Or.inl ⟨by rfl, ?_⟩) hHeld ?_ ?_
  rotate_left
  · rintro w' ⟨s0, s1, s2, s3, s4⟩
    go_simp
    with_reducible rfl
  rotate_left
  · simp only [Act.put, List.setIfInBounds_toArray, List.set_cons_zero, List.set_cons_succ, i64_w, i32_w]
    rfl
  refine one_ (i := 7) (N := some 27) #[true, true, true, true, true, true, true, true, false] rfl rfl (one_of HT_.out (by kernel_rfl)) (by decide) (fun K hK => ?_)
  refine Kd.R_lit_step Kd.string _ 9 ?hg (N := 27) ?hd (xs := ([key, val] : List ByteArray)) (inner := [.string key, .string val]) (ok := fun _ => True) (okp := fun _ => True) ?hr ?hp (fun _ hk => hk) trivial (Below.refl _ _) (Nat.le_refl _) (by simp) ?_; (case hd => rfl); (case hg => rfl); (case hr => first | (go_simp; done) | (go_simp; rfl)); (case hp => exact (Reps.one (show Kd.M Kd.string _ _ _ key [.string key] from rfl) (Reps.one (show Kd.M Kd.string _ _ _ val [.string val] from rfl) (Reps.none _ _))))
  intro vl wl hol hb hg_ hnew_
  clear hg_ hnew_
  rw [← Ny1.out] at hol
  replace HX := Aside0.mk (blk_below (by first | exact HX.out | exact blk_drew HX.out) hb)
  replace HW := Aside0.mk (IsWr.below (by first | exact HW.out | exact HW.out.drew) hb)
  replace HB := Aside0.mk (below_step (by first | exact HB.out | exact below_drew HB.out) hb)
  obtain ⟨Al, cl, rfl⟩ := Kd.R_slice hol
  have HOL := Aside0.mk hol
  clear hol hb
  refine hK.out _ _ ⟨(blk_cell HX.out 0), (blk_cell HX.out 1), (blk_cell HX.out 2), (blk_cell HX.out 3), (blk_cell HX.out 4)⟩ (fun hHeld => ?_)
  clear hK K
  refine norm_ (a' := ?_) ?_ ?_
  rotate_left
  · show Act.put _ (some 27) _ = _
    simp only [Act.put, List.setIfInBounds_toArray, List.set_cons_zero, List.set_cons_succ, i64_w, i32_w]
    rfl
  refine one_ (i := 8) (N := some 28) #[true, true, true, true, true, true, true, true, true] rfl rfl (one_of HT_.out (by kernel_rfl)) (by decide) (fun K hK => ?_)
  refine goes_ Try.func55 (by kernel_rfl) rfl #[.pointer (some ⟨gw, 0, none⟩), .slice Al y1.length cl] (by rfl) rfl rfl (by simp only [List.map_toArray, List.map_cons, List.map_nil]; rfl) ?_
  with_reducible refine (point_bytes_text.calls k T F _ _ y1 gw L0 r _ _ w _ HW.out HB.out HOL.out HN1.out HL1.out).mono ?_
  rintro e wx ⟨rfl, hi, hbx, hk⟩
  refine ⟨_, rfl, ?_⟩
  rw [← Nl1.out] at hi
  have hne : g1 ≠ gw := by (obtain ⟨Aq, cq, hq, _⟩ := HW.out.row; exact blk_ne HX.out hq (by decide))
  replace HX := Aside0.mk (hk.2 _ _ _ _ HX.out (by decide) hne)
  replace HW := Aside0.mk hi
  replace HB := Aside0.mk hbx
  clear hi hbx hk hne HOL
  refine hK.out _ _ ⟨(blk_cell HX.out 0), (blk_cell HX.out 1), (blk_cell HX.out 2), (blk_cell HX.out 3), (blk_cell HX.out 4)⟩ (fun hHeld => ?_)
  clear hK K
  refine norm_ (a' := ?_) ?_ ?_
  rotate_left
  · show Act.put _ (some 28) _ = _
    simp only [Act.put, List.setIfInBounds_toArray, List.set_cons_zero, List.set_cons_succ, i64_w, i32_w]
    rfl
  refine done_ (done_of HT_.out (by kernel_rfl)) ?_
  go_wp2_with fail
  refine start_ (n := 7) (S := fun w' => w'.cell? ⟨g1, 0, none⟩ = some (.int .i64 px) ∧ w'.cell? ⟨g1, 1, none⟩ = some (.int .i64 py) ∧ w'.cell? ⟨g1, 2, none⟩ = some (.string key) ∧ w'.cell? ⟨g1, 3, none⟩ = some (.string val) ∧ w'.cell? ⟨g1, 4, none⟩ = some (.int .i64 ver)) (ds := []) #[false, false, false, false, false, false, false] (by kernel_rfl) rfl rfl ⟨(blk_cell HX.out 0), (blk_cell HX.out 1), (blk_cell HX.out 2), (blk_cell HX.out 3), (blk_cell HX.out 4)⟩ (fun hHeld => ?_)
  refine pure_ (i := 0) (N := some 29) (v := ?_) (a' := ?_) #[true, false, false, false, false, false, false] rfl rfl (by kernel_rfl) (fun _ _ _ h => h) (Or.inl ⟨by rfl, ?_⟩) ?_ ?_
  rotate_left
  · intro w'
    go_simp
    with_reducible rfl
  rotate_left
  · simp only [Act.put, List.setIfInBounds_toArray, List.set_cons_zero, List.set_cons_succ, i64_w, i32_w]
    rfl
  refine pure_ (i := 1) (N := some 30) (v := ?_) (a' := ?_) #[true, true, false, false, false, false, false] rfl rfl (by kernel_rfl) (fun _ _ _ h => h) (Or.inl ⟨by rfl, ?_⟩) ?_ ?_
  rotate_left
  · intro w'
    go_simp
    with_reducible rfl
  rotate_left
  · simp only [Act.put, List.setIfInBounds_toArray, List.set_cons_zero, List.set_cons_succ, i64_w, i32_w]
    rfl
  refine pure_ (i := 2) (N := some 31) (v := ?_) (a' := ?_) #[true, true, true, false, false, false, false] rfl rfl (by kernel_rfl) (fun _ _ _ h => h) (Or.inl ⟨by rfl, ?_⟩) ?_ ?_
  rotate_left
  · intro w'
    go_simp
    with_reducible rfl
  rotate_left
  · simp only [Act.put, List.setIfInBounds_toArray, List.set_cons_zero, List.set_cons_succ, i64_w, i32_w]
    rfl
  refine pure_ (i := 3) (N := some 32) (v := ?_) (a' := ?_) #[true, true, true, true, false, false, false] rfl rfl (by kernel_rfl) (fun _ _ _ h => h) (Or.inl ⟨by rfl, ?_⟩) ?_ ?_
  rotate_left
  · intro w'
    go_simp
    with_reducible rfl
  rotate_left
  · simp only [Act.put, List.setIfInBounds_toArray, List.set_cons_zero, List.set_cons_succ, i64_w, i32_w]
    rfl
  refine take_ (i := 4) (N := some 33) (v := ?_) (a' := ?_) #[true, true, true, true, true, false, false] rfl rfl (by kernel_rfl) (fun _ _ _ h => h) (Or.inl ⟨by rfl, ?_⟩) hHeld ?_ ?_
  rotate_left
  · rintro w' ⟨s0, s1, s2, s3, s4⟩
    go_simp
    with_reducible rfl
  rotate_left
  · simp only [Act.put, List.setIfInBounds_toArray, List.set_cons_zero, List.set_cons_succ, i64_w, i32_w]
    rfl
  refine one_ (i := 5) (N := some 34) #[true, true, true, true, true, true, false] rfl rfl (by kernel_rfl) (by decide) (fun K hK => ?_)
  refine Kd.R_lit_step (Kd.int .i64) _ 3 ?hg (N := 34) ?hd (xs := ([ver] : List Int)) (inner := [.int .i64 ver]) (ok := fun _ => True) (okp := fun _ => True) ?hr ?hp (fun _ hk => hk) trivial (Below.refl _ _) (Nat.le_refl _) (by simp) ?_; (case hd => rfl); (case hg => rfl); (case hr => first | (go_simp; done) | (go_simp; rfl)); (case hp => exact (Reps.one (show Kd.M (Kd.int .i64) _ _ _ ver [.int .i64 ver] from rfl) (Reps.none _ _)))
  intro vl wl hol hb hg_ hnew_
  clear hg_ hnew_
  rw [← Ny2.out] at hol
  replace HX := Aside0.mk (blk_below (by first | exact HX.out | exact blk_drew HX.out) hb)
  replace HW := Aside0.mk (IsWr.below (by first | exact HW.out | exact HW.out.drew) hb)
  replace HB := Aside0.mk (below_step (by first | exact HB.out | exact below_drew HB.out) hb)
  obtain ⟨Al, cl, rfl⟩ := Kd.R_slice hol
  have HOL := Aside0.mk hol
  clear hol hb
  refine hK.out _ _ ⟨(blk_cell HX.out 0), (blk_cell HX.out 1), (blk_cell HX.out 2), (blk_cell HX.out 3), (blk_cell HX.out 4)⟩ (fun hHeld => ?_)
  clear hK K
  refine norm_ (a' := ?_) ?_ ?_
  rotate_left
  · show Act.put _ (some 34) _ = _
    simp only [Act.put, List.setIfInBounds_toArray, List.set_cons_zero, List.set_cons_succ, i64_w, i32_w]
    rfl
  refine one_ (i := 6) (N := some 35) #[true, true, true, true, true, true, true] rfl rfl (by kernel_rfl) (by decide) (fun K hK => ?_)
  refine goes_ Try.func54 (by kernel_rfl) rfl #[.pointer (some ⟨gw, 0, none⟩), .slice Al y2.length cl] (by rfl) rfl rfl (by simp only [List.map_toArray, List.map_cons, List.map_nil]; rfl) ?_
  with_reducible refine (point_bytes_num.calls k B E _ _ y2 gw L1 r _ _ w _ HW.out HB.out HOL.out HN2.out HL2.out).mono ?_
  rintro e wx ⟨rfl, hi, hbx, hk⟩
  refine ⟨_, rfl, ?_⟩
  rw [← Nl2.out] at hi
  have hne : g1 ≠ gw := by (obtain ⟨Aq, cq, hq, _⟩ := HW.out.row; exact blk_ne HX.out hq (by decide))
  replace HX := Aside0.mk (hk.2 _ _ _ _ HX.out (by decide) hne)
  replace HW := Aside0.mk hi
  replace HB := Aside0.mk hbx
  clear hi hbx hk hne HOL
  refine hK.out _ _ ⟨(blk_cell HX.out 0), (blk_cell HX.out 1), (blk_cell HX.out 2), (blk_cell HX.out 3), (blk_cell HX.out 4)⟩ (fun hHeld => ?_)
  clear hK K
  refine norm_ (a' := ?_) ?_ ?_
  rotate_left
  · show Act.put _ (some 35) _ = _
    simp only [Act.put, List.setIfInBounds_toArray, List.set_cons_zero, List.set_cons_succ, i64_w, i32_w]
    rfl
  refine done_ (by kernel_rfl) ?_
  go_wp2_with fail
  refine (point_writer_end.calls gw L2 r w _ HW.out).mono ?_
  rintro e wz ⟨v, rfl, hv, rfl⟩
  rw [← HEC.out]
  rw [HE.out, ← HLF.out] at hv
  have HV := Aside0.mk hv
  clear hv
  go_wp2
  go_ret2
  exact ⟨_, rfl, HV.out, HB.out⟩

end Go.Proofs.Ytiglmgmkablpkaa.PK
