-- Written by a program of this session (wip/tools/hp.py) over the kit's print; nothing here is trusted: Lean checks it.
import Derived.RegionTactic
import Derived.BigRegion
import Derived.Laws.Rows
import Derived.Test.YtiglmgmkablpkaaPKx0
import Derived.Test.YtiglmgmkablpkaaPKx11
import Derived.Test.YtiglmgmkablpkaaPKx12
import Derived.Test.YtiglmgmkablpkaaPKx18
namespace Go.Proofs.Ytiglmgmkablpkaa.PK
open Go.RowKit Go.Proofs.YtiglmgmkablpkaaW.PrintWords Go.Proofs.YtiglmgmkablpkaaW.PrintLast Go.Proofs.YtiglmgmkablpkaaW.PrintMore
attribute [local go_sem] max2_int min2_int max_two min_two max_three min_three max_four min_four   -- for this text's walks alone
set_option linter.unusedVariables false
set_option linter.unusedSimpArgs false

--OWN Derived.RegionTactic,Derived.BigRegion,Derived.Laws.Rows
/-! ### point_TakeRec: function 12 -/
set_option maxHeartbeats 8000000 in
set_option maxRecDepth 100000 in
theorem point_TakeRec.calls (k : Nat) (g : Nat) (l : List Int) (e : Int) (px : Int) (l0 : List Int) (e0 : Int) (h0 : rdNum l e true = (px, l0, e0)) (py : Int) (l1 : List Int) (e1 : Int) (h1 : rdNum l0 e0 true = (py, l1, e1)) (key : List Int) (l2 : List Int) (e2 : Int) (h2 : rdText l1 e1 true 32 = (key, l2, e2)) (val : List Int) (l3 : List Int) (e3 : Int) (h3 : rdText l2 e2 true 32 = (val, l3, e3)) (ver : Int) (l4 : List Int) (e4 : Int) (h4 : rdNum l3 e3 true = (ver, l4, e4)) (r : Bool) (hR : point_RightRec.f k px py (strOfNums key) (strOfNums val) ver = some r) (w0 w : World) (hI : IsRdr w0 w g l e true) (hB : Below w0.heap.size w0 w) :
    Calls Try.prog 12 #[.pointer (some ⟨g, 0, none⟩)] w fun ed w' => ed = .returned (.agg (if tkE r e4 = 0 then #[.int .i64 px, .int .i64 py, .string (strOfNums key), .string (strOfNums val), .int .i64 ver] else #[.int .i64 0, .int .i64 0, .string ⟨#[]⟩, .string ⟨#[]⟩, .int .i64 0])) ∧ IsRdr w0 w' g l4 (tkE r e4) true ∧ Below w0.heap.size w0 w' ∧ KeepBut w w' g none := by
  have HI := Aside0.mk hI
  have HB := Aside0.mk hB
  have HK := Aside0.mk (KeepBut.refl w g none)
  have HSZ := Aside0.mk hB.size
  have HR := Aside0.mk hR
  have Q0 := Aside0.mk h0
  have Q1 := Aside0.mk h1
  have Q2 := Aside0.mk h2
  have Q3 := Aside0.mk h3
  have Q4 := Aside0.mk h4
  clear hI hB hR h0 h1 h2 h3 h4
  obtain ⟨ok, hok⟩ : ∃ b, b = r := ⟨_, rfl⟩
  rw [← hok]
  have HOK := Aside0.mk hok
  clear hok
  obtain ⟨z, hz⟩ : ∃ z, z = tkE ok e4 := ⟨_, rfl⟩
  rw [← hz]
  have HZ := Aside0.mk hz
  clear hz
  obtain ⟨RV, hrv⟩ : ∃ v : Array Value, v = (if z = 0 then #[.int .i64 px, .int .i64 py, .string (strOfNums key), .string (strOfNums val), .int .i64 ver] else #[.int .i64 0, .int .i64 0, .string ⟨#[]⟩, .string ⟨#[]⟩, .int .i64 0]) := ⟨_, rfl⟩
  rw [← hrv]
  have HRV := Aside0.mk hrv
  clear hrv
  go_enter Try.func12, Try.ntmps12
  go_wp2_with (first | ((with_reducible refine gate_dst (N := 2) rfl ?_); refine box_event ?hg (N := 2) ?hd (cs := #[.int .i64 0, .int .i64 0, .string ⟨#[]⟩, .string ⟨#[]⟩, .int .i64 0]) (t := 34) ?hr ?_; (case hd => rfl); (case hg => rfl); (case hr => first | (go_simp; done) | (go_simp; rfl)); intro g2 hg w2 hbox hb; have H2 := Aside0.mk hbox; have HG2 := Aside0.mk (show w.heap.size ≤ g2 by rw [hg]; exact HK.out.1); replace HI := Aside0.mk (HI.out.below hb); have HS6 := Aside0.mk (HK.out.1); replace HK := Aside0.mk (HK.out.trans (KeepBut.of_below hb g none) (.inl rfl)); replace HB := Aside0.mk (below_then HB.out HB.out.size hb); clear HS6; clear hbox hb hg) | fail)
  have hq := wire_Reader_Num.calls g l e true w0 _ HI.out HB.out
  rw [Q0.out] at hq
  dsimp only at hq
  refine hq.mono ?_
  clear hq
  rintro ed0 wr0 ⟨rfl, hi, hbx, hk⟩
  replace H2 := Aside0.mk (hk.blk H2.out (HI.out.at_ne H2.out (by decide)) (by simp))
  replace HK := Aside0.mk (HK.out.trans hk (.inl rfl))
  replace HI := Aside0.mk hi
  replace HB := Aside0.mk hbx
  clear hi hbx hk
  go_wp2_with fail
  have hq := wire_Reader_Num.calls g l0 e0 true w0 _ HI.out HB.out
  rw [Q1.out] at hq
  dsimp only at hq
  refine hq.mono ?_
  clear hq
  rintro ed1 wr1 ⟨rfl, hi, hbx, hk⟩
  replace H2 := Aside0.mk (hk.blk H2.out (HI.out.at_ne H2.out (by decide)) (by simp))
  replace HK := Aside0.mk (HK.out.trans hk (.inl rfl))
  replace HI := Aside0.mk hi
  replace HB := Aside0.mk hbx
  clear hi hbx hk
  go_wp2_with fail
  have hq := wire_Reader_Text.calls g l1 e1 true 32 w0 _ HI.out HB.out
  rw [Q2.out] at hq
  dsimp only at hq
  refine hq.mono ?_
  clear hq
  rintro ed2 wr2 ⟨rfl, hi, hbx, hk⟩
  replace H2 := Aside0.mk (hk.blk H2.out (HI.out.at_ne H2.out (by decide)) (by simp))
  replace HK := Aside0.mk (HK.out.trans hk (.inl rfl))
  replace HI := Aside0.mk hi
  replace HB := Aside0.mk hbx
  clear hi hbx hk
  go_wp2_with fail
  have hq := wire_Reader_Text.calls g l2 e2 true 32 w0 _ HI.out HB.out
  rw [Q3.out] at hq
  dsimp only at hq
  refine hq.mono ?_
  clear hq
  rintro ed3 wr3 ⟨rfl, hi, hbx, hk⟩
  replace H2 := Aside0.mk (hk.blk H2.out (HI.out.at_ne H2.out (by decide)) (by simp))
  replace HK := Aside0.mk (HK.out.trans hk (.inl rfl))
  replace HI := Aside0.mk hi
  replace HB := Aside0.mk hbx
  clear hi hbx hk
  go_wp2_with fail
  have hq := wire_Reader_Num.calls g l3 e3 true w0 _ HI.out HB.out
  rw [Q4.out] at hq
  dsimp only at hq
  refine hq.mono ?_
  clear hq
  rintro ed4 wr4 ⟨rfl, hi, hbx, hk⟩
  replace H2 := Aside0.mk (hk.blk H2.out (HI.out.at_ne H2.out (by decide)) (by simp))
  replace HK := Aside0.mk (HK.out.trans hk (.inl rfl))
  replace HI := Aside0.mk hi
  replace HB := Aside0.mk hbx
  clear hi hbx hk
  go_wp2_with (first | ((with_reducible refine gate_dst (N := 3) rfl ?_); refine box_event ?hg (N := 3) ?hd (cs := #[.int .i64 0, .int .i64 0, .string ⟨#[]⟩, .string ⟨#[]⟩, .int .i64 0]) (t := 34) ?hr ?_; (case hd => rfl); (case hg => rfl); (case hr => first | (go_simp; done) | (go_simp; rfl)); intro g3 hg w3 hbox hb; have H3 := Aside0.mk hbox; have HNE := Aside0.mk (show g2 ≠ g3 by have := blk_lt H2.out; omega); have HG3 := Aside0.mk (show w.heap.size ≤ g3 by rw [hg]; exact HK.out.1); replace H2 := Aside0.mk (blk_below H2.out hb); replace HI := Aside0.mk (HI.out.below hb); have HS6 := Aside0.mk (HK.out.1); replace HK := Aside0.mk (HK.out.trans (KeepBut.of_below hb g none) (.inl rfl)); replace HB := Aside0.mk (below_then HB.out HB.out.size hb); clear HS6; have s0 := blk_cell hbox 0; have f0 := blk_frozen hbox 0; have s1 := blk_cell hbox 1; have f1 := blk_frozen hbox 1; have s2 := blk_cell hbox 2; have f2 := blk_frozen hbox 2; have s3 := blk_cell hbox 3; have f3 := blk_frozen hbox 3; have s4 := blk_cell hbox 4; have f4 := blk_frozen hbox 4; clear hbox hb hg) | fail)
  clear s0 f0 s1 f1 s2 f2 s3 f3 s4 f4
  have HX := Aside0.mk (show ((World.setCell (World.setCell (World.setCell (World.setCell (World.setCell w3 ⟨g3, 0, none⟩ (.int .i64 px)) ⟨g3, 1, none⟩ (.int .i64 py)) ⟨g3, 2, none⟩ (.string (strOfNums key))) ⟨g3, 3, none⟩ (.string (strOfNums val))) ⟨g3, 4, none⟩ (.int .i64 ver))).heap[g3]? = some (.cells #[.int .i64 px, .int .i64 py, .string (strOfNums key), .string (strOfNums val), .int .i64 ver] 34 (0, 0)) from blk_put (blk_put (blk_put (blk_put (blk_put (H3.out) 0 (.int .i64 px) rfl) 1 (.int .i64 py) rfl) 2 (.string (strOfNums key)) rfl) 3 (.string (strOfNums val)) rfl) 4 (.int .i64 ver) rfl)
  replace H2 := Aside0.mk (((((((KeepBut.refl w3 g3 none).set_ 0 (.int .i64 px)).set_ 1 (.int .i64 py)).set_ 2 (.string (strOfNums key))).set_ 3 (.string (strOfNums val))).set_ 4 (.int .i64 ver)).blk H2.out HNE.out (by simp))
  replace HI := Aside0.mk (HI.out.keep ((((((KeepBut.refl w3 g3 none).set_ 0 (.int .i64 px)).set_ 1 (.int .i64 py)).set_ 2 (.string (strOfNums key))).set_ 3 (.string (strOfNums val))).set_ 4 (.int .i64 ver)) (HI.out.at_ne H3.out (by decide)) H3.out (by decide))
  replace HB := Aside0.mk (show Below w0.heap.size w0 (World.setCell (World.setCell (World.setCell (World.setCell (World.setCell w3 ⟨g3, 0, none⟩ (.int .i64 px)) ⟨g3, 1, none⟩ (.int .i64 py)) ⟨g3, 2, none⟩ (.string (strOfNums key))) ⟨g3, 3, none⟩ (.string (strOfNums val))) ⟨g3, 4, none⟩ (.int .i64 ver)) from below_set (below_set (below_set (below_set (below_set (HB.out) (Nat.le_trans HSZ.out HG3.out)) (Nat.le_trans HSZ.out HG3.out)) (Nat.le_trans HSZ.out HG3.out)) (Nat.le_trans HSZ.out HG3.out)) (Nat.le_trans HSZ.out HG3.out))
  replace HK := Aside0.mk (keep_new HK.out ((((((KeepBut.refl w3 g3 none).set_ 0 (.int .i64 px)).set_ 1 (.int .i64 py)).set_ 2 (.string (strOfNums key))).set_ 3 (.string (strOfNums val))).set_ 4 (.int .i64 ver)) HG3.out)
  obtain ⟨W, hW⟩ : ∃ W, W = (World.setCell (World.setCell (World.setCell (World.setCell (World.setCell w3 ⟨g3, 0, none⟩ (.int .i64 px)) ⟨g3, 1, none⟩ (.int .i64 py)) ⟨g3, 2, none⟩ (.string (strOfNums key))) ⟨g3, 3, none⟩ (.string (strOfNums val))) ⟨g3, 4, none⟩ (.int .i64 ver)) := ⟨_, rfl⟩
  rw [← hW] at HX H2 HI HB HK
  rw [← hW]
  clear hW H3
  have hokr : ok = r := HOK.out
  subst hokr
  by_cases h0 : z = 0
  focus
    have hv := HRV.out.trans (if_pos h0)
    subst hv
    have H0 := Aside0.mk h0
    clear h0
    refine start_ (n := 6) (S := fun w' => w'.cell? ⟨g3, 0, none⟩ = some (.int .i64 px) ∧ w'.cell? ⟨g3, 1, none⟩ = some (.int .i64 py) ∧ w'.cell? ⟨g3, 2, none⟩ = some (.string (strOfNums key)) ∧ w'.cell? ⟨g3, 3, none⟩ = some (.string (strOfNums val)) ∧ w'.cell? ⟨g3, 4, none⟩ = some (.int .i64 ver)) (ds := [5]) #[false, false, false, false, false, false] (by kernel_rfl) rfl rfl ⟨(blk_cell HX.out 0), (blk_cell HX.out 1), (blk_cell HX.out 2), (blk_cell HX.out 3), (blk_cell HX.out 4)⟩ (fun hHeld => ?_)
    refine pure_ (i := 0) (N := some 16) (v := ?_) (a' := ?_) #[true, false, false, false, false, false] rfl rfl (by kernel_rfl) (fun _ _ _ h => h) (Or.inl ⟨by rfl, ?_⟩) ?_ ?_
    rotate_left
    · intro w'
      go_simp
      with_reducible rfl
    rotate_left
    · simp only [Act.put, List.setIfInBounds_toArray, List.set_cons_zero, List.set_cons_succ, i64_w, i32_w]
      rfl
    refine take_ (i := 1) (N := some 17) (v := ?_) (a' := ?_) #[true, true, false, false, false, false] rfl rfl (by kernel_rfl) (fun _ _ _ h => h) (Or.inl ⟨by rfl, ?_⟩) hHeld ?_ ?_
    rotate_left
    · rintro w' ⟨s0, s1, s2, s3, s4⟩
      go_simp
      with_reducible rfl
    rotate_left
    · simp only [Act.put, List.setIfInBounds_toArray, List.set_cons_zero, List.set_cons_succ, i64_w, i32_w]
      rfl
    refine take_ (i := 2) (N := some 18) (v := ?_) (a' := ?_) #[true, true, true, false, false, false] rfl rfl (by kernel_rfl) (fun _ _ _ h => h) (Or.inl ⟨by rfl, ?_⟩) hHeld ?_ ?_
    rotate_left
    · rintro w' ⟨s0, s1, s2, s3, s4⟩
      go_simp
      with_reducible rfl
    rotate_left
    · simp only [Act.put, List.setIfInBounds_toArray, List.set_cons_zero, List.set_cons_succ, i64_w, i32_w]
      rfl
    refine one_ (i := 3) (N := some 19) #[true, true, true, true, false, false] rfl rfl (by kernel_rfl) (by decide) (fun K hK => ?_)
    refine goes_ Try.func33 (by kernel_rfl) rfl #[.agg #[.int .i64 px, .int .i64 py, .string (strOfNums key), .string (strOfNums val), .int .i64 ver]] (by rfl) rfl rfl (by simp only [List.map_toArray, List.map_cons, List.map_nil]; rfl) ?_
    with_reducible refine (point_RightRec.calls k px py (strOfNums key) (strOfNums val) ver ok _ HR.out).mono ?_
    rintro ed wx ⟨rfl, hbx⟩
    refine ⟨_, rfl, ?_⟩
    replace HX := Aside0.mk (blk_below (by first | exact HX.out | exact blk_drew HX.out) hbx)
    replace H2 := Aside0.mk (blk_below (by first | exact H2.out | exact blk_drew H2.out) hbx)
    replace HI := Aside0.mk (IsRdr.below (by first | exact HI.out | exact HI.out.drew) hbx)
    replace HK := Aside0.mk (KeepBut.trans (by first | exact HK.out | exact keep_drew HK.out) (KeepBut.of_below hbx g none) (.inl rfl))
    replace HB := Aside0.mk (show Below w0.heap.size w0 wx from by first | exact below_then HB.out HB.out.size hbx | exact below_then (below_drew HB.out) (below_drew HB.out).size hbx)
    clear hbx
    refine hK.out _ _ ⟨(blk_cell HX.out 0), (blk_cell HX.out 1), (blk_cell HX.out 2), (blk_cell HX.out 3), (blk_cell HX.out 4)⟩ (fun hHeld => ?_)
    clear hK K
    refine norm_ (a' := ?_) ?_ ?_
    rotate_left
    · show Act.put _ (some 19) _ = _
      simp only [Act.put, List.setIfInBounds_toArray, List.set_cons_zero, List.set_cons_succ, i64_w, i32_w]
      rfl
    refine one_ (i := 4) (N := some 20) #[true, true, true, true, true, false] rfl rfl (by kernel_rfl) (by decide) (fun K hK => ?_)
    refine goes_ Try.func47 (by kernel_rfl) rfl #[.pointer (some ⟨g, 0, none⟩), .agg #[.int .i64 px, .int .i64 py, .string (strOfNums key), .string (strOfNums val), .int .i64 ver], .bool ok] (by rfl) rfl rfl (by simp only [List.map_toArray, List.map_cons, List.map_nil]; rfl) ?_
    with_reducible refine (point_Rec.calls g l4 e4 px py (strOfNums key) (strOfNums val) ver ok w0 _ (by first | exact HI.out | exact HI.out.drew) (by first | exact HB.out | exact below_drew HB.out)).mono ?_
    rintro ed wx ⟨rfl, hi, hbx, hk⟩
    refine ⟨_, rfl, ?_⟩
    rw [← HZ.out] at hi ⊢
    rw [if_pos H0.out]
    replace HX := Aside0.mk (hk.blk (by first | exact HX.out | exact blk_drew HX.out) (HI.out.at_ne HX.out (by decide)) (by simp))
    replace H2 := Aside0.mk (hk.blk (by first | exact H2.out | exact blk_drew H2.out) (HI.out.at_ne H2.out (by decide)) (by simp))
    replace HK := Aside0.mk (KeepBut.trans (by first | exact HK.out | exact keep_drew HK.out) hk (.inl rfl))
    replace HI := Aside0.mk hi
    replace HB := Aside0.mk hbx
    clear hi hbx hk
    have s0 := blk_cell H2.out 0
    have f0 := blk_frozen H2.out 0
    have s1 := blk_cell H2.out 1
    have f1 := blk_frozen H2.out 1
    have s2 := blk_cell H2.out 2
    have f2 := blk_frozen H2.out 2
    have s3 := blk_cell H2.out 3
    have f3 := blk_frozen H2.out 3
    have s4 := blk_cell H2.out 4
    have f4 := blk_frozen H2.out 4
    have fd0 := blk_frozen (blk_drew H2.out) 0
    refine hK.out _ _ ⟨(blk_cell HX.out 0), (blk_cell HX.out 1), (blk_cell HX.out 2), (blk_cell HX.out 3), (blk_cell HX.out 4)⟩ (fun hHeld => ?_)
    clear hK K
    refine norm_ (a' := ?_) ?_ ?_
    rotate_left
    · show Act.put _ (some 20) _ = _
      simp only [Act.put, List.setIfInBounds_toArray, List.set_cons_zero, List.set_cons_succ, i64_w, i32_w]
      rfl
    refine last_ (i := 5) (N := none) #[true, true, true, true, true, true] rfl rfl (by kernel_rfl) (by decide) (fun K hK => ?_)
    refine skip_ (w1 := ?_) (by rfl) rfl ?_ ?_
    rotate_left
    · go_simp
      rfl
    refine hK.out _ _ ?_
    clear hK K
    refine done_ (by kernel_rfl) ?_
    go_wp2_with fail
    exact bodyPost_ret (results_cell_row rfl _ _ g2 34 #[.int .i64 px, .int .i64 py, .string (strOfNums key), .string (strOfNums val), .int .i64 ver] (0, 0) _ rfl (blk_put (blk_put (blk_put (blk_put (blk_put (H2.out) 0 (.int .i64 px) rfl) 1 (.int .i64 py) rfl) 2 (.string (strOfNums key)) rfl) 3 (.string (strOfNums val)) rfl) 4 (.int .i64 ver) rfl) Try.underlying34 rfl rfl) rfl ⟨rfl, HI.out.keep ((((((KeepBut.refl _ g2 none).set_ 0 (.int .i64 px)).set_ 1 (.int .i64 py)).set_ 2 (.string (strOfNums key))).set_ 3 (.string (strOfNums val))).set_ 4 (.int .i64 ver)) (HI.out.at_ne H2.out (by decide)) H2.out (by decide), below_set (below_set (below_set (below_set (below_set (HB.out) (Nat.le_trans HSZ.out HG2.out)) (Nat.le_trans HSZ.out HG2.out)) (Nat.le_trans HSZ.out HG2.out)) (Nat.le_trans HSZ.out HG2.out)) (Nat.le_trans HSZ.out HG2.out), keep_new HK.out ((((((KeepBut.refl _ g2 none).set_ 0 (.int .i64 px)).set_ 1 (.int .i64 py)).set_ 2 (.string (strOfNums key))).set_ 3 (.string (strOfNums val))).set_ 4 (.int .i64 ver)) HG2.out⟩
  have hv := HRV.out.trans (if_neg h0)
  subst hv
  have H0 := Aside0.mk h0
  clear h0
  refine start_ (n := 6) (S := fun w' => w'.cell? ⟨g3, 0, none⟩ = some (.int .i64 px) ∧ w'.cell? ⟨g3, 1, none⟩ = some (.int .i64 py) ∧ w'.cell? ⟨g3, 2, none⟩ = some (.string (strOfNums key)) ∧ w'.cell? ⟨g3, 3, none⟩ = some (.string (strOfNums val)) ∧ w'.cell? ⟨g3, 4, none⟩ = some (.int .i64 ver)) (ds := [5]) #[false, false, false, false, false, false] (by kernel_rfl) rfl rfl ⟨(blk_cell HX.out 0), (blk_cell HX.out 1), (blk_cell HX.out 2), (blk_cell HX.out 3), (blk_cell HX.out 4)⟩ (fun hHeld => ?_)
  refine pure_ (i := 0) (N := some 16) (v := ?_) (a' := ?_) #[true, false, false, false, false, false] rfl rfl (by kernel_rfl) (fun _ _ _ h => h) (Or.inl ⟨by rfl, ?_⟩) ?_ ?_
  rotate_left
  · intro w'
    go_simp
    with_reducible rfl
  rotate_left
  · simp only [Act.put, List.setIfInBounds_toArray, List.set_cons_zero, List.set_cons_succ, i64_w, i32_w]
    rfl
  refine take_ (i := 1) (N := some 17) (v := ?_) (a' := ?_) #[true, true, false, false, false, false] rfl rfl (by kernel_rfl) (fun _ _ _ h => h) (Or.inl ⟨by rfl, ?_⟩) hHeld ?_ ?_
  rotate_left
  · rintro w' ⟨s0, s1, s2, s3, s4⟩
    go_simp
    with_reducible rfl
  rotate_left
  · simp only [Act.put, List.setIfInBounds_toArray, List.set_cons_zero, List.set_cons_succ, i64_w, i32_w]
    rfl
  refine take_ (i := 2) (N := some 18) (v := ?_) (a' := ?_) #[true, true, true, false, false, false] rfl rfl (by kernel_rfl) (fun _ _ _ h => h) (Or.inl ⟨by rfl, ?_⟩) hHeld ?_ ?_
  rotate_left
  · rintro w' ⟨s0, s1, s2, s3, s4⟩
    go_simp
    with_reducible rfl
  rotate_left
  · simp only [Act.put, List.setIfInBounds_toArray, List.set_cons_zero, List.set_cons_succ, i64_w, i32_w]
    rfl
  refine one_ (i := 3) (N := some 19) #[true, true, true, true, false, false] rfl rfl (by kernel_rfl) (by decide) (fun K hK => ?_)
  refine goes_ Try.func33 (by kernel_rfl) rfl #[.agg #[.int .i64 px, .int .i64 py, .string (strOfNums key), .string (strOfNums val), .int .i64 ver]] (by rfl) rfl rfl (by simp only [List.map_toArray, List.map_cons, List.map_nil]; rfl) ?_
  with_reducible refine (point_RightRec.calls k px py (strOfNums key) (strOfNums val) ver ok _ HR.out).mono ?_
  rintro ed wx ⟨rfl, hbx⟩
  refine ⟨_, rfl, ?_⟩
  replace HX := Aside0.mk (blk_below (by first | exact HX.out | exact blk_drew HX.out) hbx)
  replace H2 := Aside0.mk (blk_below (by first | exact H2.out | exact blk_drew H2.out) hbx)
  replace HI := Aside0.mk (IsRdr.below (by first | exact HI.out | exact HI.out.drew) hbx)
  replace HK := Aside0.mk (KeepBut.trans (by first | exact HK.out | exact keep_drew HK.out) (KeepBut.of_below hbx g none) (.inl rfl))
  replace HB := Aside0.mk (show Below w0.heap.size w0 wx from by first | exact below_then HB.out HB.out.size hbx | exact below_then (below_drew HB.out) (below_drew HB.out).size hbx)
  clear hbx
  refine hK.out _ _ ⟨(blk_cell HX.out 0), (blk_cell HX.out 1), (blk_cell HX.out 2), (blk_cell HX.out 3), (blk_cell HX.out 4)⟩ (fun hHeld => ?_)
  clear hK K
  refine norm_ (a' := ?_) ?_ ?_
  rotate_left
  · show Act.put _ (some 19) _ = _
    simp only [Act.put, List.setIfInBounds_toArray, List.set_cons_zero, List.set_cons_succ, i64_w, i32_w]
    rfl
  refine one_ (i := 4) (N := some 20) #[true, true, true, true, true, false] rfl rfl (by kernel_rfl) (by decide) (fun K hK => ?_)
  refine goes_ Try.func47 (by kernel_rfl) rfl #[.pointer (some ⟨g, 0, none⟩), .agg #[.int .i64 px, .int .i64 py, .string (strOfNums key), .string (strOfNums val), .int .i64 ver], .bool ok] (by rfl) rfl rfl (by simp only [List.map_toArray, List.map_cons, List.map_nil]; rfl) ?_
  with_reducible refine (point_Rec.calls g l4 e4 px py (strOfNums key) (strOfNums val) ver ok w0 _ (by first | exact HI.out | exact HI.out.drew) (by first | exact HB.out | exact below_drew HB.out)).mono ?_
  rintro ed wx ⟨rfl, hi, hbx, hk⟩
  refine ⟨_, rfl, ?_⟩
  rw [← HZ.out] at hi ⊢
  rw [if_neg H0.out]
  replace HX := Aside0.mk (hk.blk (by first | exact HX.out | exact blk_drew HX.out) (HI.out.at_ne HX.out (by decide)) (by simp))
  replace H2 := Aside0.mk (hk.blk (by first | exact H2.out | exact blk_drew H2.out) (HI.out.at_ne H2.out (by decide)) (by simp))
  replace HK := Aside0.mk (KeepBut.trans (by first | exact HK.out | exact keep_drew HK.out) hk (.inl rfl))
  replace HI := Aside0.mk hi
  replace HB := Aside0.mk hbx
  clear hi hbx hk
  have s0 := blk_cell H2.out 0
  have f0 := blk_frozen H2.out 0
  have s1 := blk_cell H2.out 1
  have f1 := blk_frozen H2.out 1
  have s2 := blk_cell H2.out 2
  have f2 := blk_frozen H2.out 2
  have s3 := blk_cell H2.out 3
  have f3 := blk_frozen H2.out 3
  have s4 := blk_cell H2.out 4
  have f4 := blk_frozen H2.out 4
  have fd0 := blk_frozen (blk_drew H2.out) 0
  refine hK.out _ _ ⟨(blk_cell HX.out 0), (blk_cell HX.out 1), (blk_cell HX.out 2), (blk_cell HX.out 3), (blk_cell HX.out 4)⟩ (fun hHeld => ?_)
  clear hK K
  refine norm_ (a' := ?_) ?_ ?_
  rotate_left
  · show Act.put _ (some 20) _ = _
    simp only [Act.put, List.setIfInBounds_toArray, List.set_cons_zero, List.set_cons_succ, i64_w, i32_w]
    rfl
  refine last_ (i := 5) (N := none) #[true, true, true, true, true, true] rfl rfl (by kernel_rfl) (by decide) (fun K hK => ?_)
  refine skip_ (w1 := ?_) (by rfl) rfl ?_ ?_
  rotate_left
  · go_simp
    rfl
  refine hK.out _ _ ?_
  clear hK K
  refine done_ (by kernel_rfl) ?_
  go_wp2_with fail
  exact bodyPost_ret (results_cell_row rfl _ _ g2 34 #[.int .i64 0, .int .i64 0, .string ⟨#[]⟩, .string ⟨#[]⟩, .int .i64 0] (0, 0) _ rfl (blk_put (blk_put (blk_put (blk_put (blk_put (H2.out) 0 (.int .i64 0) rfl) 1 (.int .i64 0) rfl) 2 (.string ⟨#[]⟩) rfl) 3 (.string ⟨#[]⟩) rfl) 4 (.int .i64 0) rfl) Try.underlying34 rfl rfl) rfl ⟨rfl, HI.out.keep ((((((KeepBut.refl _ g2 none).set_ 0 (.int .i64 0)).set_ 1 (.int .i64 0)).set_ 2 (.string ⟨#[]⟩)).set_ 3 (.string ⟨#[]⟩)).set_ 4 (.int .i64 0)) (HI.out.at_ne H2.out (by decide)) H2.out (by decide), below_set (below_set (below_set (below_set (below_set (HB.out) (Nat.le_trans HSZ.out HG2.out)) (Nat.le_trans HSZ.out HG2.out)) (Nat.le_trans HSZ.out HG2.out)) (Nat.le_trans HSZ.out HG2.out)) (Nat.le_trans HSZ.out HG2.out), keep_new HK.out ((((((KeepBut.refl _ g2 none).set_ 0 (.int .i64 0)).set_ 1 (.int .i64 0)).set_ 2 (.string ⟨#[]⟩)).set_ 3 (.string ⟨#[]⟩)).set_ 4 (.int .i64 0)) HG2.out⟩

end Go.Proofs.Ytiglmgmkablpkaa.PK
