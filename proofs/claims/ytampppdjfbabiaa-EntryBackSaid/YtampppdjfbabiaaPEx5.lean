-- Written by a program of this session (wip/tools/hp.py) over the kit's print; nothing here is trusted: Lean checks it.
import Derived.RegionTactic
import Derived.BigRegion
import Derived.Laws.Rows
import Derived.Test.YtampppdjfbabiaaPEx0
import Derived.Test.YtampppdjfbabiaaPEx3
import Derived.Test.YtampppdjfbabiaaPEx1
import Derived.Laws.Tables
import Derived.Test.YtampppdjfbabiaaPEx2
namespace Go.Proofs.Ytampppdjfbabiaa.PE
open Go.RowKit Go.Proofs.YtampppdjfbabiaaW.PrintWords Go.Proofs.YtampppdjfbabiaaW.PrintLast Go.Proofs.YtampppdjfbabiaaW.PrintMore
attribute [local go_sem] max2_int min2_int max_two min_two max_three min_three max_four min_four   -- for this text's walks alone
set_option linter.unusedVariables false
set_option linter.unusedSimpArgs false

--OWN Derived.RegionTactic,Derived.BigRegion,Derived.Laws.Rows
/-! ### point_Op: function 76 -/
set_option maxHeartbeats 4000000 in
set_option maxRecDepth 100000 in
theorem point_Op.calls (g : Nat) (l : List Int) (e : Int) (kd : Int) (px : Int) (py : Int) (key : ByteArray) (val : ByteArray) (cli : Int) (seq : Int) (ok : Bool) (w0 w : World) (hI : IsRdr w0 w g l e true) (hB : Below w0.heap.size w0 w) :
    Calls Try.prog 76 #[.pointer (some ⟨g, 0, none⟩), .agg #[.int .i64 kd, .int .i64 px, .int .i64 py, .string key, .string val, .int .i64 cli, .int .i64 seq], .bool ok] w fun ed w' => ed = .returned (.agg (if tkE ok e = 0 then #[.int .i64 kd, .int .i64 px, .int .i64 py, .string key, .string val, .int .i64 cli, .int .i64 seq] else #[.int .i64 0, .int .i64 0, .int .i64 0, .string ⟨#[]⟩, .string ⟨#[]⟩, .int .i64 0, .int .i64 0])) ∧ IsRdr w0 w' g l (tkE ok e) true ∧ Below w0.heap.size w0 w' ∧ KeepBut w w' g none := by
  have HI := Aside0.mk hI
  have HB := Aside0.mk hB
  have HK := Aside0.mk (KeepBut.refl w g none)
  have HSZ := Aside0.mk hB.size
  clear hI hB
  cases ok
  focus
    by_cases h0 : e = 0
    focus
      subst h0
      rw [show tkE false 0 = 21 from rfl, if_neg (by decide : ¬ (21 : Int) = 0)]
      go_enter Try.func76, Try.ntmps76
      go_wp2_with (first | ((with_reducible refine gate_dst (N := 4) rfl ?_); refine box_event ?hg (N := 4) ?hd (cs := #[.int .i64 kd, .int .i64 px, .int .i64 py, .string key, .string val, .int .i64 cli, .int .i64 seq]) (t := 33) ?hr ?_; (case hd => rfl); (case hg => rfl); (case hr => first | (go_simp; done) | (go_simp; rfl)); intro gx hg w4 hbox hb; have HX := Aside0.mk hbox; replace HI := Aside0.mk (HI.out.below hb); have HS6 := Aside0.mk (HK.out.1); replace HK := Aside0.mk (HK.out.trans (KeepBut.of_below hb g none) (.inl rfl)); replace HB := Aside0.mk (below_then HB.out HB.out.size hb); clear HS6; clear hbox hb hg) | ((with_reducible refine gate_dst (N := 6) rfl ?_); refine box_event ?hg (N := 6) ?hd (cs := #[.int .i64 0, .int .i64 0, .int .i64 0, .string ⟨#[]⟩, .string ⟨#[]⟩, .int .i64 0, .int .i64 0]) (t := 33) ?hr ?_; (case hd => rfl); (case hg => rfl); (case hr => first | (go_simp; done) | (go_simp; rfl)); intro g6 hg w6 hbox hb; have H6 := Aside0.mk hbox; replace HX := Aside0.mk (blk_below HX.out hb); have HG6 := Aside0.mk (show w.heap.size ≤ g6 by rw [hg]; exact HK.out.1); replace HI := Aside0.mk (HI.out.below hb); have HS6 := Aside0.mk (HK.out.1); replace HK := Aside0.mk (HK.out.trans (KeepBut.of_below hb g none) (.inl rfl)); replace HB := Aside0.mk (below_then HB.out HB.out.size hb); clear HS6; clear hbox hb hg) | fail)
      refine (wire_Reader_Fail.calls g l 0 true 21 w0 _ HI.out HB.out).mono ?_
      rintro e1 wF ⟨rfl, hi, hbx, hk⟩
      replace HX := Aside0.mk (hk.blk HX.out (HI.out.at_ne HX.out (by decide)) (by simp))
      replace H6 := Aside0.mk (hk.blk H6.out (HI.out.at_ne H6.out (by decide)) (by simp))
      replace HK := Aside0.mk (HK.out.trans hk (.inl rfl))
      replace HB := Aside0.mk hbx
      replace HI := Aside0.mk (show IsRdr w0 wF g l 21 true from hi)
      clear hi hbx hk
      go_wp2_with fail
      refine (wire_Reader_Err.calls g l 21 true w0 _ HI.out).mono ?_
      rintro e2 wE ⟨rfl, rfl⟩
      rw [if_pos (rfl : true = true)]
      go_wp2_with (first | ((with_reducible refine gate_dst (N := 7) rfl ?_); refine box_event ?hg (N := 7) ?hd (cs := #[.int .i64 0, .int .i64 0, .int .i64 0, .string ⟨#[]⟩, .string ⟨#[]⟩, .int .i64 0, .int .i64 0]) (t := 33) ?hr ?_; (case hd => rfl); (case hg => rfl); (case hr => first | (go_simp; done) | (go_simp; rfl)); intro g7 hg w7 hbox hb; replace HX := Aside0.mk (blk_below HX.out hb); replace H6 := Aside0.mk (blk_below H6.out hb); replace HI := Aside0.mk (HI.out.below hb); have HS6 := Aside0.mk (HK.out.1); replace HK := Aside0.mk (HK.out.trans (KeepBut.of_below hb g none) (.inl rfl)); replace HB := Aside0.mk (below_then HB.out HB.out.size hb); clear HS6; have z0 := blk_cell hbox 0; have z1 := blk_cell hbox 1; have z2 := blk_cell hbox 2; have z3 := blk_cell hbox 3; have z4 := blk_cell hbox 4; have z5 := blk_cell hbox 5; have z6 := blk_cell hbox 6; have s0 := blk_cell H6.out 0; have f0 := blk_frozen H6.out 0; have s1 := blk_cell H6.out 1; have f1 := blk_frozen H6.out 1; have s2 := blk_cell H6.out 2; have f2 := blk_frozen H6.out 2; have s3 := blk_cell H6.out 3; have f3 := blk_frozen H6.out 3; have s4 := blk_cell H6.out 4; have f4 := blk_frozen H6.out 4; have s5 := blk_cell H6.out 5; have f5 := blk_frozen H6.out 5; have s6 := blk_cell H6.out 6; have f6 := blk_frozen H6.out 6; clear hbox hb hg) | fail)
      exact bodyPost_ret (results_cell_row rfl _ _ g6 33 #[.int .i64 0, .int .i64 0, .int .i64 0, .string ⟨#[]⟩, .string ⟨#[]⟩, .int .i64 0, .int .i64 0] (0, 0) _ rfl (blk_put (blk_put (blk_put (blk_put (blk_put (blk_put (blk_put (H6.out) 0 (.int .i64 0) rfl) 1 (.int .i64 0) rfl) 2 (.int .i64 0) rfl) 3 (.string ⟨#[]⟩) rfl) 4 (.string ⟨#[]⟩) rfl) 5 (.int .i64 0) rfl) 6 (.int .i64 0) rfl) Try.underlying33 rfl rfl) rfl ⟨rfl, HI.out.keep ((((((((KeepBut.refl _ g6 none).set_ 0 (.int .i64 0)).set_ 1 (.int .i64 0)).set_ 2 (.int .i64 0)).set_ 3 (.string ⟨#[]⟩)).set_ 4 (.string ⟨#[]⟩)).set_ 5 (.int .i64 0)).set_ 6 (.int .i64 0)) (HI.out.at_ne H6.out (by decide)) H6.out (by decide), below_set (below_set (below_set (below_set (below_set (below_set (below_set (HB.out) (Nat.le_trans HSZ.out HG6.out)) (Nat.le_trans HSZ.out HG6.out)) (Nat.le_trans HSZ.out HG6.out)) (Nat.le_trans HSZ.out HG6.out)) (Nat.le_trans HSZ.out HG6.out)) (Nat.le_trans HSZ.out HG6.out)) (Nat.le_trans HSZ.out HG6.out), keep_new HK.out ((((((((KeepBut.refl _ g6 none).set_ 0 (.int .i64 0)).set_ 1 (.int .i64 0)).set_ 2 (.int .i64 0)).set_ 3 (.string ⟨#[]⟩)).set_ 4 (.string ⟨#[]⟩)).set_ 5 (.int .i64 0)).set_ 6 (.int .i64 0)) HG6.out⟩
    have he : tkE false e = e := if_neg h0
    have he1 : (e == 0) = false := beq_eq_false_iff_ne.mpr h0
    have he2 : (e != 0) = true := bne_iff_ne.mpr h0
    rw [he, if_neg h0]
    clear he
    have hr : (if rdOk e true = true then (21 : Int) else e) = e := if_neg (by unfold rdOk; rw [he1]; simp)
    have HR_ := Aside0.mk hr
    clear hr he1
    go_enter Try.func76, Try.ntmps76
    go_wp2_with (first | ((with_reducible refine gate_dst (N := 4) rfl ?_); refine box_event ?hg (N := 4) ?hd (cs := #[.int .i64 kd, .int .i64 px, .int .i64 py, .string key, .string val, .int .i64 cli, .int .i64 seq]) (t := 33) ?hr ?_; (case hd => rfl); (case hg => rfl); (case hr => first | (go_simp; done) | (go_simp; rfl)); intro gx hg w4 hbox hb; have HX := Aside0.mk hbox; replace HI := Aside0.mk (HI.out.below hb); have HS6 := Aside0.mk (HK.out.1); replace HK := Aside0.mk (HK.out.trans (KeepBut.of_below hb g none) (.inl rfl)); replace HB := Aside0.mk (below_then HB.out HB.out.size hb); clear HS6; clear hbox hb hg) | ((with_reducible refine gate_dst (N := 6) rfl ?_); refine box_event ?hg (N := 6) ?hd (cs := #[.int .i64 0, .int .i64 0, .int .i64 0, .string ⟨#[]⟩, .string ⟨#[]⟩, .int .i64 0, .int .i64 0]) (t := 33) ?hr ?_; (case hd => rfl); (case hg => rfl); (case hr => first | (go_simp; done) | (go_simp; rfl)); intro g6 hg w6 hbox hb; have H6 := Aside0.mk hbox; replace HX := Aside0.mk (blk_below HX.out hb); have HG6 := Aside0.mk (show w.heap.size ≤ g6 by rw [hg]; exact HK.out.1); replace HI := Aside0.mk (HI.out.below hb); have HS6 := Aside0.mk (HK.out.1); replace HK := Aside0.mk (HK.out.trans (KeepBut.of_below hb g none) (.inl rfl)); replace HB := Aside0.mk (below_then HB.out HB.out.size hb); clear HS6; clear hbox hb hg) | fail)
    refine (wire_Reader_Fail.calls g l e true 21 w0 _ HI.out HB.out).mono ?_
    rintro e1 wF ⟨rfl, hi, hbx, hk⟩
    replace HX := Aside0.mk (hk.blk HX.out (HI.out.at_ne HX.out (by decide)) (by simp))
    replace H6 := Aside0.mk (hk.blk H6.out (HI.out.at_ne H6.out (by decide)) (by simp))
    replace HK := Aside0.mk (HK.out.trans hk (.inl rfl))
    replace HB := Aside0.mk hbx
    rw [HR_.out] at hi
    replace HI := Aside0.mk hi
    clear hi hbx hk
    go_wp2_with fail
    refine (wire_Reader_Err.calls g l e true w0 _ HI.out).mono ?_
    rintro e2 wE ⟨rfl, rfl⟩
    rw [if_pos (rfl : true = true)]
    go_wp2_with (first | ((with_reducible refine gate_dst (N := 7) rfl ?_); refine box_event ?hg (N := 7) ?hd (cs := #[.int .i64 0, .int .i64 0, .int .i64 0, .string ⟨#[]⟩, .string ⟨#[]⟩, .int .i64 0, .int .i64 0]) (t := 33) ?hr ?_; (case hd => rfl); (case hg => rfl); (case hr => first | (go_simp; done) | (go_simp; rfl)); intro g7 hg w7 hbox hb; replace HX := Aside0.mk (blk_below HX.out hb); replace H6 := Aside0.mk (blk_below H6.out hb); replace HI := Aside0.mk (HI.out.below hb); have HS6 := Aside0.mk (HK.out.1); replace HK := Aside0.mk (HK.out.trans (KeepBut.of_below hb g none) (.inl rfl)); replace HB := Aside0.mk (below_then HB.out HB.out.size hb); clear HS6; have z0 := blk_cell hbox 0; have z1 := blk_cell hbox 1; have z2 := blk_cell hbox 2; have z3 := blk_cell hbox 3; have z4 := blk_cell hbox 4; have z5 := blk_cell hbox 5; have z6 := blk_cell hbox 6; have s0 := blk_cell H6.out 0; have f0 := blk_frozen H6.out 0; have s1 := blk_cell H6.out 1; have f1 := blk_frozen H6.out 1; have s2 := blk_cell H6.out 2; have f2 := blk_frozen H6.out 2; have s3 := blk_cell H6.out 3; have f3 := blk_frozen H6.out 3; have s4 := blk_cell H6.out 4; have f4 := blk_frozen H6.out 4; have s5 := blk_cell H6.out 5; have f5 := blk_frozen H6.out 5; have s6 := blk_cell H6.out 6; have f6 := blk_frozen H6.out 6; clear hbox hb hg) | fail)
    exact bodyPost_ret (results_cell_row rfl _ _ g6 33 #[.int .i64 0, .int .i64 0, .int .i64 0, .string ⟨#[]⟩, .string ⟨#[]⟩, .int .i64 0, .int .i64 0] (0, 0) _ rfl (blk_put (blk_put (blk_put (blk_put (blk_put (blk_put (blk_put (H6.out) 0 (.int .i64 0) rfl) 1 (.int .i64 0) rfl) 2 (.int .i64 0) rfl) 3 (.string ⟨#[]⟩) rfl) 4 (.string ⟨#[]⟩) rfl) 5 (.int .i64 0) rfl) 6 (.int .i64 0) rfl) Try.underlying33 rfl rfl) rfl ⟨rfl, HI.out.keep ((((((((KeepBut.refl _ g6 none).set_ 0 (.int .i64 0)).set_ 1 (.int .i64 0)).set_ 2 (.int .i64 0)).set_ 3 (.string ⟨#[]⟩)).set_ 4 (.string ⟨#[]⟩)).set_ 5 (.int .i64 0)).set_ 6 (.int .i64 0)) (HI.out.at_ne H6.out (by decide)) H6.out (by decide), below_set (below_set (below_set (below_set (below_set (below_set (below_set (HB.out) (Nat.le_trans HSZ.out HG6.out)) (Nat.le_trans HSZ.out HG6.out)) (Nat.le_trans HSZ.out HG6.out)) (Nat.le_trans HSZ.out HG6.out)) (Nat.le_trans HSZ.out HG6.out)) (Nat.le_trans HSZ.out HG6.out)) (Nat.le_trans HSZ.out HG6.out), keep_new HK.out ((((((((KeepBut.refl _ g6 none).set_ 0 (.int .i64 0)).set_ 1 (.int .i64 0)).set_ 2 (.int .i64 0)).set_ 3 (.string ⟨#[]⟩)).set_ 4 (.string ⟨#[]⟩)).set_ 5 (.int .i64 0)).set_ 6 (.int .i64 0)) HG6.out⟩
  by_cases h0 : e = 0
  focus
    subst h0
    rw [show tkE true 0 = 0 from rfl, if_pos (rfl : (0 : Int) = 0)]
    go_enter Try.func76, Try.ntmps76
    go_wp2_with (first | ((with_reducible refine gate_dst (N := 4) rfl ?_); refine box_event ?hg (N := 4) ?hd (cs := #[.int .i64 kd, .int .i64 px, .int .i64 py, .string key, .string val, .int .i64 cli, .int .i64 seq]) (t := 33) ?hr ?_; (case hd => rfl); (case hg => rfl); (case hr => first | (go_simp; done) | (go_simp; rfl)); intro gx hg w4 hbox hb; have HX := Aside0.mk hbox; replace HI := Aside0.mk (HI.out.below hb); have HS6 := Aside0.mk (HK.out.1); replace HK := Aside0.mk (HK.out.trans (KeepBut.of_below hb g none) (.inl rfl)); replace HB := Aside0.mk (below_then HB.out HB.out.size hb); clear HS6; clear hbox hb hg) | ((with_reducible refine gate_dst (N := 6) rfl ?_); refine box_event ?hg (N := 6) ?hd (cs := #[.int .i64 0, .int .i64 0, .int .i64 0, .string ⟨#[]⟩, .string ⟨#[]⟩, .int .i64 0, .int .i64 0]) (t := 33) ?hr ?_; (case hd => rfl); (case hg => rfl); (case hr => first | (go_simp; done) | (go_simp; rfl)); intro g6 hg w6 hbox hb; have H6 := Aside0.mk hbox; replace HX := Aside0.mk (blk_below HX.out hb); have HG6 := Aside0.mk (show w.heap.size ≤ g6 by rw [hg]; exact HK.out.1); replace HI := Aside0.mk (HI.out.below hb); have HS6 := Aside0.mk (HK.out.1); replace HK := Aside0.mk (HK.out.trans (KeepBut.of_below hb g none) (.inl rfl)); replace HB := Aside0.mk (below_then HB.out HB.out.size hb); clear HS6; clear hbox hb hg) | fail)
    refine (wire_Reader_Err.calls g l 0 true w0 _ HI.out).mono ?_
    rintro e2 wE ⟨rfl, rfl⟩
    rw [if_pos (rfl : true = true)]
    have h0 := blk_cell HX.out 0
    have h1 := blk_cell HX.out 1
    have h2 := blk_cell HX.out 2
    have h3 := blk_cell HX.out 3
    have h4 := blk_cell HX.out 4
    have h5 := blk_cell HX.out 5
    have h6 := blk_cell HX.out 6
    have s0 := blk_cell H6.out 0
    have s1 := blk_cell H6.out 1
    have s2 := blk_cell H6.out 2
    have s3 := blk_cell H6.out 3
    have s4 := blk_cell H6.out 4
    have s5 := blk_cell H6.out 5
    have s6 := blk_cell H6.out 6
    have f0 := blk_frozen H6.out 0
    have f1 := blk_frozen H6.out 1
    have f2 := blk_frozen H6.out 2
    have f3 := blk_frozen H6.out 3
    have f4 := blk_frozen H6.out 4
    have f5 := blk_frozen H6.out 5
    have f6 := blk_frozen H6.out 6
    go_wp2
    exact bodyPost_ret (results_cell_row rfl _ _ g6 33 #[.int .i64 kd, .int .i64 px, .int .i64 py, .string key, .string val, .int .i64 cli, .int .i64 seq] (0, 0) _ rfl (blk_put (blk_put (blk_put (blk_put (blk_put (blk_put (blk_put (H6.out) 0 (.int .i64 kd) rfl) 1 (.int .i64 px) rfl) 2 (.int .i64 py) rfl) 3 (.string key) rfl) 4 (.string val) rfl) 5 (.int .i64 cli) rfl) 6 (.int .i64 seq) rfl) Try.underlying33 rfl rfl) rfl ⟨rfl, HI.out.keep ((((((((KeepBut.refl _ g6 none).set_ 0 (.int .i64 kd)).set_ 1 (.int .i64 px)).set_ 2 (.int .i64 py)).set_ 3 (.string key)).set_ 4 (.string val)).set_ 5 (.int .i64 cli)).set_ 6 (.int .i64 seq)) (HI.out.at_ne H6.out (by decide)) H6.out (by decide), below_set (below_set (below_set (below_set (below_set (below_set (below_set (HB.out) (Nat.le_trans HSZ.out HG6.out)) (Nat.le_trans HSZ.out HG6.out)) (Nat.le_trans HSZ.out HG6.out)) (Nat.le_trans HSZ.out HG6.out)) (Nat.le_trans HSZ.out HG6.out)) (Nat.le_trans HSZ.out HG6.out)) (Nat.le_trans HSZ.out HG6.out), keep_new HK.out ((((((((KeepBut.refl _ g6 none).set_ 0 (.int .i64 kd)).set_ 1 (.int .i64 px)).set_ 2 (.int .i64 py)).set_ 3 (.string key)).set_ 4 (.string val)).set_ 5 (.int .i64 cli)).set_ 6 (.int .i64 seq)) HG6.out⟩
  have he : tkE true e = e := rfl
  have he2 : (e != 0) = true := bne_iff_ne.mpr h0
  rw [he, if_neg h0]
  clear he
  go_enter Try.func76, Try.ntmps76
  go_wp2_with (first | ((with_reducible refine gate_dst (N := 4) rfl ?_); refine box_event ?hg (N := 4) ?hd (cs := #[.int .i64 kd, .int .i64 px, .int .i64 py, .string key, .string val, .int .i64 cli, .int .i64 seq]) (t := 33) ?hr ?_; (case hd => rfl); (case hg => rfl); (case hr => first | (go_simp; done) | (go_simp; rfl)); intro gx hg w4 hbox hb; have HX := Aside0.mk hbox; replace HI := Aside0.mk (HI.out.below hb); have HS6 := Aside0.mk (HK.out.1); replace HK := Aside0.mk (HK.out.trans (KeepBut.of_below hb g none) (.inl rfl)); replace HB := Aside0.mk (below_then HB.out HB.out.size hb); clear HS6; clear hbox hb hg) | ((with_reducible refine gate_dst (N := 6) rfl ?_); refine box_event ?hg (N := 6) ?hd (cs := #[.int .i64 0, .int .i64 0, .int .i64 0, .string ⟨#[]⟩, .string ⟨#[]⟩, .int .i64 0, .int .i64 0]) (t := 33) ?hr ?_; (case hd => rfl); (case hg => rfl); (case hr => first | (go_simp; done) | (go_simp; rfl)); intro g6 hg w6 hbox hb; have H6 := Aside0.mk hbox; replace HX := Aside0.mk (blk_below HX.out hb); have HG6 := Aside0.mk (show w.heap.size ≤ g6 by rw [hg]; exact HK.out.1); replace HI := Aside0.mk (HI.out.below hb); have HS6 := Aside0.mk (HK.out.1); replace HK := Aside0.mk (HK.out.trans (KeepBut.of_below hb g none) (.inl rfl)); replace HB := Aside0.mk (below_then HB.out HB.out.size hb); clear HS6; clear hbox hb hg) | fail)
  refine (wire_Reader_Err.calls g l e true w0 _ HI.out).mono ?_
  rintro e2 wE ⟨rfl, rfl⟩
  rw [if_pos (rfl : true = true)]
  go_wp2_with (first | ((with_reducible refine gate_dst (N := 7) rfl ?_); refine box_event ?hg (N := 7) ?hd (cs := #[.int .i64 0, .int .i64 0, .int .i64 0, .string ⟨#[]⟩, .string ⟨#[]⟩, .int .i64 0, .int .i64 0]) (t := 33) ?hr ?_; (case hd => rfl); (case hg => rfl); (case hr => first | (go_simp; done) | (go_simp; rfl)); intro g7 hg w7 hbox hb; replace HX := Aside0.mk (blk_below HX.out hb); replace H6 := Aside0.mk (blk_below H6.out hb); replace HI := Aside0.mk (HI.out.below hb); have HS6 := Aside0.mk (HK.out.1); replace HK := Aside0.mk (HK.out.trans (KeepBut.of_below hb g none) (.inl rfl)); replace HB := Aside0.mk (below_then HB.out HB.out.size hb); clear HS6; have z0 := blk_cell hbox 0; have z1 := blk_cell hbox 1; have z2 := blk_cell hbox 2; have z3 := blk_cell hbox 3; have z4 := blk_cell hbox 4; have z5 := blk_cell hbox 5; have z6 := blk_cell hbox 6; have s0 := blk_cell H6.out 0; have f0 := blk_frozen H6.out 0; have s1 := blk_cell H6.out 1; have f1 := blk_frozen H6.out 1; have s2 := blk_cell H6.out 2; have f2 := blk_frozen H6.out 2; have s3 := blk_cell H6.out 3; have f3 := blk_frozen H6.out 3; have s4 := blk_cell H6.out 4; have f4 := blk_frozen H6.out 4; have s5 := blk_cell H6.out 5; have f5 := blk_frozen H6.out 5; have s6 := blk_cell H6.out 6; have f6 := blk_frozen H6.out 6; clear hbox hb hg) | fail)
  exact bodyPost_ret (results_cell_row rfl _ _ g6 33 #[.int .i64 0, .int .i64 0, .int .i64 0, .string ⟨#[]⟩, .string ⟨#[]⟩, .int .i64 0, .int .i64 0] (0, 0) _ rfl (blk_put (blk_put (blk_put (blk_put (blk_put (blk_put (blk_put (H6.out) 0 (.int .i64 0) rfl) 1 (.int .i64 0) rfl) 2 (.int .i64 0) rfl) 3 (.string ⟨#[]⟩) rfl) 4 (.string ⟨#[]⟩) rfl) 5 (.int .i64 0) rfl) 6 (.int .i64 0) rfl) Try.underlying33 rfl rfl) rfl ⟨rfl, HI.out.keep ((((((((KeepBut.refl _ g6 none).set_ 0 (.int .i64 0)).set_ 1 (.int .i64 0)).set_ 2 (.int .i64 0)).set_ 3 (.string ⟨#[]⟩)).set_ 4 (.string ⟨#[]⟩)).set_ 5 (.int .i64 0)).set_ 6 (.int .i64 0)) (HI.out.at_ne H6.out (by decide)) H6.out (by decide), below_set (below_set (below_set (below_set (below_set (below_set (below_set (HB.out) (Nat.le_trans HSZ.out HG6.out)) (Nat.le_trans HSZ.out HG6.out)) (Nat.le_trans HSZ.out HG6.out)) (Nat.le_trans HSZ.out HG6.out)) (Nat.le_trans HSZ.out HG6.out)) (Nat.le_trans HSZ.out HG6.out)) (Nat.le_trans HSZ.out HG6.out), keep_new HK.out ((((((((KeepBut.refl _ g6 none).set_ 0 (.int .i64 0)).set_ 1 (.int .i64 0)).set_ 2 (.int .i64 0)).set_ 3 (.string ⟨#[]⟩)).set_ 4 (.string ⟨#[]⟩)).set_ 5 (.int .i64 0)).set_ 6 (.int .i64 0)) HG6.out⟩

section
open Go.RowKit Go.Proofs.YtampppdjfbabiaaW.PrintWords Go.Proofs.YtampppdjfbabiaaW.PrintLast Go.Proofs.YtampppdjfbabiaaW.PrintMore
attribute [local go_sem] max2_int min2_int max_two min_two max_three min_three max_four min_four   -- for this text's walks alone
set_option linter.unusedVariables false
set_option linter.unusedSimpArgs false

--OWN Derived.RegionTactic,Derived.BigRegion,Derived.Laws.Rows
/-! ### point_TakeOp: function 56 -/
set_option maxHeartbeats 8000000 in
set_option maxRecDepth 100000 in
theorem point_TakeOp.calls (k : Nat) (g : Nat) (l : List Int) (e : Int) (kd : Int) (l0 : List Int) (e0 : Int) (h0 : rdNum l e true = (kd, l0, e0)) (px : Int) (l1 : List Int) (e1 : Int) (h1 : rdNum l0 e0 true = (px, l1, e1)) (py : Int) (l2 : List Int) (e2 : Int) (h2 : rdNum l1 e1 true = (py, l2, e2)) (key : List Int) (l3 : List Int) (e3 : Int) (h3 : rdText l2 e2 true 32 = (key, l3, e3)) (val : List Int) (l4 : List Int) (e4 : Int) (h4 : rdText l3 e3 true 32 = (val, l4, e4)) (cli : Int) (l5 : List Int) (e5 : Int) (h5 : rdNum l4 e4 true = (cli, l5, e5)) (seq : Int) (l6 : List Int) (e6 : Int) (h6 : rdNum l5 e5 true = (seq, l6, e6)) (r : Bool) (hR : point_RightOp.f k kd px py (strOfNums key) (strOfNums val) cli seq = some r) (w0 w : World) (hI : IsRdr w0 w g l e true) (hB : Below w0.heap.size w0 w) :
    Calls Try.prog 56 #[.pointer (some ⟨g, 0, none⟩)] w fun ed w' => ed = .returned (.agg (if tkE r e6 = 0 then #[.int .i64 kd, .int .i64 px, .int .i64 py, .string (strOfNums key), .string (strOfNums val), .int .i64 cli, .int .i64 seq] else #[.int .i64 0, .int .i64 0, .int .i64 0, .string ⟨#[]⟩, .string ⟨#[]⟩, .int .i64 0, .int .i64 0])) ∧ IsRdr w0 w' g l6 (tkE r e6) true ∧ Below w0.heap.size w0 w' ∧ KeepBut w w' g none := by
  have HI := Aside0.mk hI
  have HB := Aside0.mk hB
  have HK := Aside0.mk (KeepBut.refl w g none)
  have HSZ := Aside0.mk hB.size
  have HR := Aside0.mk hR
  have Q0 := Aside0.mk h0
  have Q1 := Aside0.mk h1
  have Q2 := Aside0.mk h2
  have Q3 := Aside0.mk h3
  have Q4 := Aside0.mk h4
  have Q5 := Aside0.mk h5
  have Q6 := Aside0.mk h6
  clear hI hB hR h0 h1 h2 h3 h4 h5 h6
  obtain ⟨ok, hok⟩ : ∃ b, b = r := ⟨_, rfl⟩
  rw [← hok]
  have HOK := Aside0.mk hok
  clear hok
  obtain ⟨z, hz⟩ : ∃ z, z = tkE ok e6 := ⟨_, rfl⟩
  rw [← hz]
  have HZ := Aside0.mk hz
  clear hz
  obtain ⟨RV, hrv⟩ : ∃ v : Array Value, v = (if z = 0 then #[.int .i64 kd, .int .i64 px, .int .i64 py, .string (strOfNums key), .string (strOfNums val), .int .i64 cli, .int .i64 seq] else #[.int .i64 0, .int .i64 0, .int .i64 0, .string ⟨#[]⟩, .string ⟨#[]⟩, .int .i64 0, .int .i64 0]) := ⟨_, rfl⟩
  rw [← hrv]
  have HRV := Aside0.mk hrv
  clear hrv
  go_enter Try.func56, Try.ntmps56
  go_wp2_with (first | ((with_reducible refine gate_dst (N := 2) rfl ?_); refine box_event ?hg (N := 2) ?hd (cs := #[.int .i64 0, .int .i64 0, .int .i64 0, .string ⟨#[]⟩, .string ⟨#[]⟩, .int .i64 0, .int .i64 0]) (t := 33) ?hr ?_; (case hd => rfl); (case hg => rfl); (case hr => first | (go_simp; done) | (go_simp; rfl)); intro g2 hg w2 hbox hb; have H2 := Aside0.mk hbox; have HG2 := Aside0.mk (show w.heap.size ≤ g2 by rw [hg]; exact HK.out.1); replace HI := Aside0.mk (HI.out.below hb); have HS6 := Aside0.mk (HK.out.1); replace HK := Aside0.mk (HK.out.trans (KeepBut.of_below hb g none) (.inl rfl)); replace HB := Aside0.mk (below_then HB.out HB.out.size hb); clear HS6; clear hbox hb hg) | fail)
  have hq := wire_Reader_Num.calls g l e true w0 _ HI.out HB.out
  rw [Q0.out] at hq
  dsimp only at hq
  refine hq.mono ?_
  clear hq
  rintro ed0 wr0 ⟨rfl, hi, hbx, hk⟩
  replace H2 := Aside0.mk (hk.blk H2.out (HI.out.at_ne H2.out (by decide)) (by simp))
  replace HK := Aside0.mk (HK.out.trans hk (.inl rfl))
  replace HI := Aside0.mk hi
  replace HB := Aside0.mk hbx
  clear hi hbx hk
  go_wp2_with fail
  have hq := wire_Reader_Num.calls g l0 e0 true w0 _ HI.out HB.out
  rw [Q1.out] at hq
  dsimp only at hq
  refine hq.mono ?_
  clear hq
  rintro ed1 wr1 ⟨rfl, hi, hbx, hk⟩
  replace H2 := Aside0.mk (hk.blk H2.out (HI.out.at_ne H2.out (by decide)) (by simp))
  replace HK := Aside0.mk (HK.out.trans hk (.inl rfl))
  replace HI := Aside0.mk hi
  replace HB := Aside0.mk hbx
  clear hi hbx hk
  go_wp2_with fail
  have hq := wire_Reader_Num.calls g l1 e1 true w0 _ HI.out HB.out
  rw [Q2.out] at hq
  dsimp only at hq
  refine hq.mono ?_
  clear hq
  rintro ed2 wr2 ⟨rfl, hi, hbx, hk⟩
  replace H2 := Aside0.mk (hk.blk H2.out (HI.out.at_ne H2.out (by decide)) (by simp))
  replace HK := Aside0.mk (HK.out.trans hk (.inl rfl))
  replace HI := Aside0.mk hi
  replace HB := Aside0.mk hbx
  clear hi hbx hk
  go_wp2_with fail
  have hq := wire_Reader_Text.calls g l2 e2 true 32 w0 _ HI.out HB.out
  rw [Q3.out] at hq
  dsimp only at hq
  refine hq.mono ?_
  clear hq
  rintro ed3 wr3 ⟨rfl, hi, hbx, hk⟩
  replace H2 := Aside0.mk (hk.blk H2.out (HI.out.at_ne H2.out (by decide)) (by simp))
  replace HK := Aside0.mk (HK.out.trans hk (.inl rfl))
  replace HI := Aside0.mk hi
  replace HB := Aside0.mk hbx
  clear hi hbx hk
  go_wp2_with fail
  have hq := wire_Reader_Text.calls g l3 e3 true 32 w0 _ HI.out HB.out
  rw [Q4.out] at hq
  dsimp only at hq
  refine hq.mono ?_
  clear hq
  rintro ed4 wr4 ⟨rfl, hi, hbx, hk⟩
  replace H2 := Aside0.mk (hk.blk H2.out (HI.out.at_ne H2.out (by decide)) (by simp))
  replace HK := Aside0.mk (HK.out.trans hk (.inl rfl))
  replace HI := Aside0.mk hi
  replace HB := Aside0.mk hbx
  clear hi hbx hk
  go_wp2_with fail
  have hq := wire_Reader_Num.calls g l4 e4 true w0 _ HI.out HB.out
  rw [Q5.out] at hq
  dsimp only at hq
  refine hq.mono ?_
  clear hq
  rintro ed5 wr5 ⟨rfl, hi, hbx, hk⟩
  replace H2 := Aside0.mk (hk.blk H2.out (HI.out.at_ne H2.out (by decide)) (by simp))
  replace HK := Aside0.mk (HK.out.trans hk (.inl rfl))
  replace HI := Aside0.mk hi
  replace HB := Aside0.mk hbx
  clear hi hbx hk
  go_wp2_with fail
  have hq := wire_Reader_Num.calls g l5 e5 true w0 _ HI.out HB.out
  rw [Q6.out] at hq
  dsimp only at hq
  refine hq.mono ?_
  clear hq
  rintro ed6 wr6 ⟨rfl, hi, hbx, hk⟩
  replace H2 := Aside0.mk (hk.blk H2.out (HI.out.at_ne H2.out (by decide)) (by simp))
  replace HK := Aside0.mk (HK.out.trans hk (.inl rfl))
  replace HI := Aside0.mk hi
  replace HB := Aside0.mk hbx
  clear hi hbx hk
  go_wp2_with (first | ((with_reducible refine gate_dst (N := 3) rfl ?_); refine box_event ?hg (N := 3) ?hd (cs := #[.int .i64 0, .int .i64 0, .int .i64 0, .string ⟨#[]⟩, .string ⟨#[]⟩, .int .i64 0, .int .i64 0]) (t := 33) ?hr ?_; (case hd => rfl); (case hg => rfl); (case hr => first | (go_simp; done) | (go_simp; rfl)); intro g3 hg w3 hbox hb; have H3 := Aside0.mk hbox; have HNE := Aside0.mk (show g2 ≠ g3 by have := blk_lt H2.out; omega); have HG3 := Aside0.mk (show w.heap.size ≤ g3 by rw [hg]; exact HK.out.1); replace H2 := Aside0.mk (blk_below H2.out hb); replace HI := Aside0.mk (HI.out.below hb); have HS6 := Aside0.mk (HK.out.1); replace HK := Aside0.mk (HK.out.trans (KeepBut.of_below hb g none) (.inl rfl)); replace HB := Aside0.mk (below_then HB.out HB.out.size hb); clear HS6; have s0 := blk_cell hbox 0; have f0 := blk_frozen hbox 0; have s1 := blk_cell hbox 1; have f1 := blk_frozen hbox 1; have s2 := blk_cell hbox 2; have f2 := blk_frozen hbox 2; have s3 := blk_cell hbox 3; have f3 := blk_frozen hbox 3; have s4 := blk_cell hbox 4; have f4 := blk_frozen hbox 4; have s5 := blk_cell hbox 5; have f5 := blk_frozen hbox 5; have s6 := blk_cell hbox 6; have f6 := blk_frozen hbox 6; clear hbox hb hg) | fail)
  clear s0 f0 s1 f1 s2 f2 s3 f3 s4 f4 s5 f5 s6 f6
  have HX := Aside0.mk (show ((World.setCell (World.setCell (World.setCell (World.setCell (World.setCell (World.setCell (World.setCell w3 ⟨g3, 0, none⟩ (.int .i64 kd)) ⟨g3, 1, none⟩ (.int .i64 px)) ⟨g3, 2, none⟩ (.int .i64 py)) ⟨g3, 3, none⟩ (.string (strOfNums key))) ⟨g3, 4, none⟩ (.string (strOfNums val))) ⟨g3, 5, none⟩ (.int .i64 cli)) ⟨g3, 6, none⟩ (.int .i64 seq))).heap[g3]? = some (.cells #[.int .i64 kd, .int .i64 px, .int .i64 py, .string (strOfNums key), .string (strOfNums val), .int .i64 cli, .int .i64 seq] 33 (0, 0)) from blk_put (blk_put (blk_put (blk_put (blk_put (blk_put (blk_put (H3.out) 0 (.int .i64 kd) rfl) 1 (.int .i64 px) rfl) 2 (.int .i64 py) rfl) 3 (.string (strOfNums key)) rfl) 4 (.string (strOfNums val)) rfl) 5 (.int .i64 cli) rfl) 6 (.int .i64 seq) rfl)
  replace H2 := Aside0.mk (((((((((KeepBut.refl w3 g3 none).set_ 0 (.int .i64 kd)).set_ 1 (.int .i64 px)).set_ 2 (.int .i64 py)).set_ 3 (.string (strOfNums key))).set_ 4 (.string (strOfNums val))).set_ 5 (.int .i64 cli)).set_ 6 (.int .i64 seq)).blk H2.out HNE.out (by simp))
  replace HI := Aside0.mk (HI.out.keep ((((((((KeepBut.refl w3 g3 none).set_ 0 (.int .i64 kd)).set_ 1 (.int .i64 px)).set_ 2 (.int .i64 py)).set_ 3 (.string (strOfNums key))).set_ 4 (.string (strOfNums val))).set_ 5 (.int .i64 cli)).set_ 6 (.int .i64 seq)) (HI.out.at_ne H3.out (by decide)) H3.out (by decide))
  replace HB := Aside0.mk (show Below w0.heap.size w0 (World.setCell (World.setCell (World.setCell (World.setCell (World.setCell (World.setCell (World.setCell w3 ⟨g3, 0, none⟩ (.int .i64 kd)) ⟨g3, 1, none⟩ (.int .i64 px)) ⟨g3, 2, none⟩ (.int .i64 py)) ⟨g3, 3, none⟩ (.string (strOfNums key))) ⟨g3, 4, none⟩ (.string (strOfNums val))) ⟨g3, 5, none⟩ (.int .i64 cli)) ⟨g3, 6, none⟩ (.int .i64 seq)) from below_set (below_set (below_set (below_set (below_set (below_set (below_set (HB.out) (Nat.le_trans HSZ.out HG3.out)) (Nat.le_trans HSZ.out HG3.out)) (Nat.le_trans HSZ.out HG3.out)) (Nat.le_trans HSZ.out HG3.out)) (Nat.le_trans HSZ.out HG3.out)) (Nat.le_trans HSZ.out HG3.out)) (Nat.le_trans HSZ.out HG3.out))
  replace HK := Aside0.mk (keep_new HK.out ((((((((KeepBut.refl w3 g3 none).set_ 0 (.int .i64 kd)).set_ 1 (.int .i64 px)).set_ 2 (.int .i64 py)).set_ 3 (.string (strOfNums key))).set_ 4 (.string (strOfNums val))).set_ 5 (.int .i64 cli)).set_ 6 (.int .i64 seq)) HG3.out)
  obtain ⟨W, hW⟩ : ∃ W, W = (World.setCell (World.setCell (World.setCell (World.setCell (World.setCell (World.setCell (World.setCell w3 ⟨g3, 0, none⟩ (.int .i64 kd)) ⟨g3, 1, none⟩ (.int .i64 px)) ⟨g3, 2, none⟩ (.int .i64 py)) ⟨g3, 3, none⟩ (.string (strOfNums key))) ⟨g3, 4, none⟩ (.string (strOfNums val))) ⟨g3, 5, none⟩ (.int .i64 cli)) ⟨g3, 6, none⟩ (.int .i64 seq)) := ⟨_, rfl⟩
  rw [← hW] at HX H2 HI HB HK
  rw [← hW]
  clear hW H3
  have hokr : ok = r := HOK.out
  subst hokr
  by_cases h0 : z = 0
  focus
    have hv := HRV.out.trans (if_pos h0)
    subst hv
    have H0 := Aside0.mk h0
    clear h0
    refine start_ (n := 6) (S := fun w' => w'.cell? ⟨g3, 0, none⟩ = some (.int .i64 kd) ∧ w'.cell? ⟨g3, 1, none⟩ = some (.int .i64 px) ∧ w'.cell? ⟨g3, 2, none⟩ = some (.int .i64 py) ∧ w'.cell? ⟨g3, 3, none⟩ = some (.string (strOfNums key)) ∧ w'.cell? ⟨g3, 4, none⟩ = some (.string (strOfNums val)) ∧ w'.cell? ⟨g3, 5, none⟩ = some (.int .i64 cli) ∧ w'.cell? ⟨g3, 6, none⟩ = some (.int .i64 seq)) (ds := [5]) #[false, false, false, false, false, false] (by kernel_rfl) rfl rfl ⟨(blk_cell HX.out 0), (blk_cell HX.out 1), (blk_cell HX.out 2), (blk_cell HX.out 3), (blk_cell HX.out 4), (blk_cell HX.out 5), (blk_cell HX.out 6)⟩ (fun hHeld => ?_)
    refine pure_ (i := 0) (N := some 20) (v := ?_) (a' := ?_) #[true, false, false, false, false, false] rfl rfl (by kernel_rfl) (fun _ _ _ h => h) (Or.inl ⟨by rfl, ?_⟩) ?_ ?_
    rotate_left
    · intro w'
      go_simp
      with_reducible rfl
    rotate_left
    · simp only [Act.put, List.setIfInBounds_toArray, List.set_cons_zero, List.set_cons_succ, i64_w, i32_w]
      rfl
    refine take_ (i := 1) (N := some 21) (v := ?_) (a' := ?_) #[true, true, false, false, false, false] rfl rfl (by kernel_rfl) (fun _ _ _ h => h) (Or.inl ⟨by rfl, ?_⟩) hHeld ?_ ?_
    rotate_left
    · rintro w' ⟨s0, s1, s2, s3, s4, s5, s6⟩
      go_simp
      with_reducible rfl
    rotate_left
    · simp only [Act.put, List.setIfInBounds_toArray, List.set_cons_zero, List.set_cons_succ, i64_w, i32_w]
      rfl
    refine take_ (i := 2) (N := some 22) (v := ?_) (a' := ?_) #[true, true, true, false, false, false] rfl rfl (by kernel_rfl) (fun _ _ _ h => h) (Or.inl ⟨by rfl, ?_⟩) hHeld ?_ ?_
    rotate_left
    · rintro w' ⟨s0, s1, s2, s3, s4, s5, s6⟩
      go_simp
      with_reducible rfl
    rotate_left
    · simp only [Act.put, List.setIfInBounds_toArray, List.set_cons_zero, List.set_cons_succ, i64_w, i32_w]
      rfl
    refine one_ (i := 3) (N := some 23) #[true, true, true, true, false, false] rfl rfl (by kernel_rfl) (by decide) (fun K hK => ?_)
    refine goes_ Try.func42 (by kernel_rfl) rfl #[.agg #[.int .i64 kd, .int .i64 px, .int .i64 py, .string (strOfNums key), .string (strOfNums val), .int .i64 cli, .int .i64 seq]] (by rfl) rfl rfl (by simp only [List.map_toArray, List.map_cons, List.map_nil]; rfl) ?_
    with_reducible refine (point_RightOp.calls k kd px py (strOfNums key) (strOfNums val) cli seq ok _ HR.out).mono ?_
    rintro ed wx ⟨rfl, hbx⟩
    refine ⟨_, rfl, ?_⟩
    replace HX := Aside0.mk (blk_below (by first | exact HX.out | exact blk_drew HX.out) hbx)
    replace H2 := Aside0.mk (blk_below (by first | exact H2.out | exact blk_drew H2.out) hbx)
    replace HI := Aside0.mk (IsRdr.below (by first | exact HI.out | exact HI.out.drew) hbx)
    replace HK := Aside0.mk (KeepBut.trans (by first | exact HK.out | exact keep_drew HK.out) (KeepBut.of_below hbx g none) (.inl rfl))
    replace HB := Aside0.mk (show Below w0.heap.size w0 wx from by first | exact below_then HB.out HB.out.size hbx | exact below_then (below_drew HB.out) (below_drew HB.out).size hbx)
    clear hbx
    refine hK.out _ _ ⟨(blk_cell HX.out 0), (blk_cell HX.out 1), (blk_cell HX.out 2), (blk_cell HX.out 3), (blk_cell HX.out 4), (blk_cell HX.out 5), (blk_cell HX.out 6)⟩ (fun hHeld => ?_)
    clear hK K
    refine norm_ (a' := ?_) ?_ ?_
    rotate_left
    · show Act.put _ (some 23) _ = _
      simp only [Act.put, List.setIfInBounds_toArray, List.set_cons_zero, List.set_cons_succ, i64_w, i32_w]
      rfl
    refine one_ (i := 4) (N := some 24) #[true, true, true, true, true, false] rfl rfl (by kernel_rfl) (by decide) (fun K hK => ?_)
    refine goes_ Try.func76 (by kernel_rfl) rfl #[.pointer (some ⟨g, 0, none⟩), .agg #[.int .i64 kd, .int .i64 px, .int .i64 py, .string (strOfNums key), .string (strOfNums val), .int .i64 cli, .int .i64 seq], .bool ok] (by rfl) rfl rfl (by simp only [List.map_toArray, List.map_cons, List.map_nil]; rfl) ?_
    with_reducible refine (point_Op.calls g l6 e6 kd px py (strOfNums key) (strOfNums val) cli seq ok w0 _ (by first | exact HI.out | exact HI.out.drew) (by first | exact HB.out | exact below_drew HB.out)).mono ?_
    rintro ed wx ⟨rfl, hi, hbx, hk⟩
    refine ⟨_, rfl, ?_⟩
    rw [← HZ.out] at hi ⊢
    rw [if_pos H0.out]
    replace HX := Aside0.mk (hk.blk (by first | exact HX.out | exact blk_drew HX.out) (HI.out.at_ne HX.out (by decide)) (by simp))
    replace H2 := Aside0.mk (hk.blk (by first | exact H2.out | exact blk_drew H2.out) (HI.out.at_ne H2.out (by decide)) (by simp))
    replace HK := Aside0.mk (KeepBut.trans (by first | exact HK.out | exact keep_drew HK.out) hk (.inl rfl))
    replace HI := Aside0.mk hi
    replace HB := Aside0.mk hbx
    clear hi hbx hk
    have s0 := blk_cell H2.out 0
    have f0 := blk_frozen H2.out 0
    have s1 := blk_cell H2.out 1
    have f1 := blk_frozen H2.out 1
    have s2 := blk_cell H2.out 2
    have f2 := blk_frozen H2.out 2
    have s3 := blk_cell H2.out 3
    have f3 := blk_frozen H2.out 3
    have s4 := blk_cell H2.out 4
    have f4 := blk_frozen H2.out 4
    have s5 := blk_cell H2.out 5
    have f5 := blk_frozen H2.out 5
    have s6 := blk_cell H2.out 6
    have f6 := blk_frozen H2.out 6
    have fd0 := blk_frozen (blk_drew H2.out) 0
    refine hK.out _ _ ⟨(blk_cell HX.out 0), (blk_cell HX.out 1), (blk_cell HX.out 2), (blk_cell HX.out 3), (blk_cell HX.out 4), (blk_cell HX.out 5), (blk_cell HX.out 6)⟩ (fun hHeld => ?_)
    clear hK K
    refine norm_ (a' := ?_) ?_ ?_
    rotate_left
    · show Act.put _ (some 24) _ = _
      simp only [Act.put, List.setIfInBounds_toArray, List.set_cons_zero, List.set_cons_succ, i64_w, i32_w]
      rfl
    refine last_ (i := 5) (N := none) #[true, true, true, true, true, true] rfl rfl (by kernel_rfl) (by decide) (fun K hK => ?_)
    refine skip_ (w1 := ?_) (by rfl) rfl ?_ ?_
    rotate_left
    · go_simp
      rfl
    refine hK.out _ _ ?_
    clear hK K
    refine done_ (by kernel_rfl) ?_
    go_wp2_with fail
    exact bodyPost_ret (results_cell_row rfl _ _ g2 33 #[.int .i64 kd, .int .i64 px, .int .i64 py, .string (strOfNums key), .string (strOfNums val), .int .i64 cli, .int .i64 seq] (0, 0) _ rfl (blk_put (blk_put (blk_put (blk_put (blk_put (blk_put (blk_put (H2.out) 0 (.int .i64 kd) rfl) 1 (.int .i64 px) rfl) 2 (.int .i64 py) rfl) 3 (.string (strOfNums key)) rfl) 4 (.string (strOfNums val)) rfl) 5 (.int .i64 cli) rfl) 6 (.int .i64 seq) rfl) Try.underlying33 rfl rfl) rfl ⟨rfl, HI.out.keep ((((((((KeepBut.refl _ g2 none).set_ 0 (.int .i64 kd)).set_ 1 (.int .i64 px)).set_ 2 (.int .i64 py)).set_ 3 (.string (strOfNums key))).set_ 4 (.string (strOfNums val))).set_ 5 (.int .i64 cli)).set_ 6 (.int .i64 seq)) (HI.out.at_ne H2.out (by decide)) H2.out (by decide), below_set (below_set (below_set (below_set (below_set (below_set (below_set (HB.out) (Nat.le_trans HSZ.out HG2.out)) (Nat.le_trans HSZ.out HG2.out)) (Nat.le_trans HSZ.out HG2.out)) (Nat.le_trans HSZ.out HG2.out)) (Nat.le_trans HSZ.out HG2.out)) (Nat.le_trans HSZ.out HG2.out)) (Nat.le_trans HSZ.out HG2.out), keep_new HK.out ((((((((KeepBut.refl _ g2 none).set_ 0 (.int .i64 kd)).set_ 1 (.int .i64 px)).set_ 2 (.int .i64 py)).set_ 3 (.string (strOfNums key))).set_ 4 (.string (strOfNums val))).set_ 5 (.int .i64 cli)).set_ 6 (.int .i64 seq)) HG2.out⟩
  have hv := HRV.out.trans (if_neg h0)
  subst hv
  have H0 := Aside0.mk h0
  clear h0
  refine start_ (n := 6) (S := fun w' => w'.cell? ⟨g3, 0, none⟩ = some (.int .i64 kd) ∧ w'.cell? ⟨g3, 1, none⟩ = some (.int .i64 px) ∧ w'.cell? ⟨g3, 2, none⟩ = some (.int .i64 py) ∧ w'.cell? ⟨g3, 3, none⟩ = some (.string (strOfNums key)) ∧ w'.cell? ⟨g3, 4, none⟩ = some (.string (strOfNums val)) ∧ w'.cell? ⟨g3, 5, none⟩ = some (.int .i64 cli) ∧ w'.cell? ⟨g3, 6, none⟩ = some (.int .i64 seq)) (ds := [5]) #[false, false, false, false, false, false] (by kernel_rfl) rfl rfl ⟨(blk_cell HX.out 0), (blk_cell HX.out 1), (blk_cell HX.out 2), (blk_cell HX.out 3), (blk_cell HX.out 4), (blk_cell HX.out 5), (blk_cell HX.out 6)⟩ (fun hHeld => ?_)
  refine pure_ (i := 0) (N := some 20) (v := ?_) (a' := ?_) #[true, false, false, false, false, false] rfl rfl (by kernel_rfl) (fun _ _ _ h => h) (Or.inl ⟨by rfl, ?_⟩) ?_ ?_
  rotate_left
  · intro w'
    go_simp
    with_reducible rfl
  rotate_left
  · simp only [Act.put, List.setIfInBounds_toArray, List.set_cons_zero, List.set_cons_succ, i64_w, i32_w]
    rfl
  refine take_ (i := 1) (N := some 21) (v := ?_) (a' := ?_) #[true, true, false, false, false, false] rfl rfl (by kernel_rfl) (fun _ _ _ h => h) (Or.inl ⟨by rfl, ?_⟩) hHeld ?_ ?_
  rotate_left
  · rintro w' ⟨s0, s1, s2, s3, s4, s5, s6⟩
    go_simp
    with_reducible rfl
  rotate_left
  · simp only [Act.put, List.setIfInBounds_toArray, List.set_cons_zero, List.set_cons_succ, i64_w, i32_w]
    rfl
  refine take_ (i := 2) (N := some 22) (v := ?_) (a' := ?_) #[true, true, true, false, false, false] rfl rfl (by kernel_rfl) (fun _ _ _ h => h) (Or.inl ⟨by rfl, ?_⟩) hHeld ?_ ?_
  rotate_left
  · rintro w' ⟨s0, s1, s2, s3, s4, s5, s6⟩
    go_simp
    with_reducible rfl
  rotate_left
  · simp only [Act.put, List.setIfInBounds_toArray, List.set_cons_zero, List.set_cons_succ, i64_w, i32_w]
    rfl
  refine one_ (i := 3) (N := some 23) #[true, true, true, true, false, false] rfl rfl (by kernel_rfl) (by decide) (fun K hK => ?_)
  refine goes_ Try.func42 (by kernel_rfl) rfl #[.agg #[.int .i64 kd, .int .i64 px, .int .i64 py, .string (strOfNums key), .string (strOfNums val), .int .i64 cli, .int .i64 seq]] (by rfl) rfl rfl (by simp only [List.map_toArray, List.map_cons, List.map_nil]; rfl) ?_
  with_reducible refine (point_RightOp.calls k kd px py (strOfNums key) (strOfNums val) cli seq ok _ HR.out).mono ?_
  rintro ed wx ⟨rfl, hbx⟩
  refine ⟨_, rfl, ?_⟩
  replace HX := Aside0.mk (blk_below (by first | exact HX.out | exact blk_drew HX.out) hbx)
  replace H2 := Aside0.mk (blk_below (by first | exact H2.out | exact blk_drew H2.out) hbx)
  replace HI := Aside0.mk (IsRdr.below (by first | exact HI.out | exact HI.out.drew) hbx)
  replace HK := Aside0.mk (KeepBut.trans (by first | exact HK.out | exact keep_drew HK.out) (KeepBut.of_below hbx g none) (.inl rfl))
  replace HB := Aside0.mk (show Below w0.heap.size w0 wx from by first | exact below_then HB.out HB.out.size hbx | exact below_then (below_drew HB.out) (below_drew HB.out).size hbx)
  clear hbx
  refine hK.out _ _ ⟨(blk_cell HX.out 0), (blk_cell HX.out 1), (blk_cell HX.out 2), (blk_cell HX.out 3), (blk_cell HX.out 4), (blk_cell HX.out 5), (blk_cell HX.out 6)⟩ (fun hHeld => ?_)
  clear hK K
  refine norm_ (a' := ?_) ?_ ?_
  rotate_left
  · show Act.put _ (some 23) _ = _
    simp only [Act.put, List.setIfInBounds_toArray, List.set_cons_zero, List.set_cons_succ, i64_w, i32_w]
    rfl
  refine one_ (i := 4) (N := some 24) #[true, true, true, true, true, false] rfl rfl (by kernel_rfl) (by decide) (fun K hK => ?_)
  refine goes_ Try.func76 (by kernel_rfl) rfl #[.pointer (some ⟨g, 0, none⟩), .agg #[.int .i64 kd, .int .i64 px, .int .i64 py, .string (strOfNums key), .string (strOfNums val), .int .i64 cli, .int .i64 seq], .bool ok] (by rfl) rfl rfl (by simp only [List.map_toArray, List.map_cons, List.map_nil]; rfl) ?_
  with_reducible refine (point_Op.calls g l6 e6 kd px py (strOfNums key) (strOfNums val) cli seq ok w0 _ (by first | exact HI.out | exact HI.out.drew) (by first | exact HB.out | exact below_drew HB.out)).mono ?_
  rintro ed wx ⟨rfl, hi, hbx, hk⟩
  refine ⟨_, rfl, ?_⟩
  rw [← HZ.out] at hi ⊢
  rw [if_neg H0.out]
  replace HX := Aside0.mk (hk.blk (by first | exact HX.out | exact blk_drew HX.out) (HI.out.at_ne HX.out (by decide)) (by simp))
  replace H2 := Aside0.mk (hk.blk (by first | exact H2.out | exact blk_drew H2.out) (HI.out.at_ne H2.out (by decide)) (by simp))
  replace HK := Aside0.mk (KeepBut.trans (by first | exact HK.out | exact keep_drew HK.out) hk (.inl rfl))
  replace HI := Aside0.mk hi
  replace HB := Aside0.mk hbx
  clear hi hbx hk
  have s0 := blk_cell H2.out 0
  have f0 := blk_frozen H2.out 0
  have s1 := blk_cell H2.out 1
  have f1 := blk_frozen H2.out 1
  have s2 := blk_cell H2.out 2
  have f2 := blk_frozen H2.out 2
  have s3 := blk_cell H2.out 3
  have f3 := blk_frozen H2.out 3
  have s4 := blk_cell H2.out 4
  have f4 := blk_frozen H2.out 4
  have s5 := blk_cell H2.out 5
  have f5 := blk_frozen H2.out 5
  have s6 := blk_cell H2.out 6
  have f6 := blk_frozen H2.out 6
  have fd0 := blk_frozen (blk_drew H2.out) 0
  refine hK.out _ _ ⟨(blk_cell HX.out 0), (blk_cell HX.out 1), (blk_cell HX.out 2), (blk_cell HX.out 3), (blk_cell HX.out 4), (blk_cell HX.out 5), (blk_cell HX.out 6)⟩ (fun hHeld => ?_)
  clear hK K
  refine norm_ (a' := ?_) ?_ ?_
  rotate_left
  · show Act.put _ (some 24) _ = _
    simp only [Act.put, List.setIfInBounds_toArray, List.set_cons_zero, List.set_cons_succ, i64_w, i32_w]
    rfl
  refine last_ (i := 5) (N := none) #[true, true, true, true, true, true] rfl rfl (by kernel_rfl) (by decide) (fun K hK => ?_)
  refine skip_ (w1 := ?_) (by rfl) rfl ?_ ?_
  rotate_left
  · go_simp
    rfl
  refine hK.out _ _ ?_
  clear hK K
  refine done_ (by kernel_rfl) ?_
  go_wp2_with fail
  exact bodyPost_ret (results_cell_row rfl _ _ g2 33 #[.int .i64 0, .int .i64 0, .int .i64 0, .string ⟨#[]⟩, .string ⟨#[]⟩, .int .i64 0, .int .i64 0] (0, 0) _ rfl (blk_put (blk_put (blk_put (blk_put (blk_put (blk_put (blk_put (H2.out) 0 (.int .i64 0) rfl) 1 (.int .i64 0) rfl) 2 (.int .i64 0) rfl) 3 (.string ⟨#[]⟩) rfl) 4 (.string ⟨#[]⟩) rfl) 5 (.int .i64 0) rfl) 6 (.int .i64 0) rfl) Try.underlying33 rfl rfl) rfl ⟨rfl, HI.out.keep ((((((((KeepBut.refl _ g2 none).set_ 0 (.int .i64 0)).set_ 1 (.int .i64 0)).set_ 2 (.int .i64 0)).set_ 3 (.string ⟨#[]⟩)).set_ 4 (.string ⟨#[]⟩)).set_ 5 (.int .i64 0)).set_ 6 (.int .i64 0)) (HI.out.at_ne H2.out (by decide)) H2.out (by decide), below_set (below_set (below_set (below_set (below_set (below_set (below_set (HB.out) (Nat.le_trans HSZ.out HG2.out)) (Nat.le_trans HSZ.out HG2.out)) (Nat.le_trans HSZ.out HG2.out)) (Nat.le_trans HSZ.out HG2.out)) (Nat.le_trans HSZ.out HG2.out)) (Nat.le_trans HSZ.out HG2.out)) (Nat.le_trans HSZ.out HG2.out), keep_new HK.out ((((((((KeepBut.refl _ g2 none).set_ 0 (.int .i64 0)).set_ 1 (.int .i64 0)).set_ 2 (.int .i64 0)).set_ 3 (.string ⟨#[]⟩)).set_ 4 (.string ⟨#[]⟩)).set_ 5 (.int .i64 0)).set_ 6 (.int .i64 0)) HG2.out⟩

end
section
open Go.RowKit Go.Proofs.YtampppdjfbabiaaW.PrintWords Go.Proofs.YtampppdjfbabiaaW.PrintLast Go.Proofs.YtampppdjfbabiaaW.PrintMore
attribute [local go_sem] max2_int min2_int max_two min_two max_three min_three max_four min_four   -- for this text's walks alone
set_option linter.unusedVariables false
set_option linter.unusedSimpArgs false

--OWN Derived.RegionTactic,Derived.BigRegion,Derived.Laws.Rows,Derived.Laws.Tables
/-! ### entry_Take: function 32 -/
theorem keep_row {w W : World} {g : Nat} (h : KeepBut w W g none) (cs : Array Value) : KeepBut w (W.setRow g cs) g none :=
  ⟨by have := h.1; simp; exact this, fun i hi hne hr => (setRow_other _ _ _ _ hne).trans (h.2 i hi hne hr)⟩
theorem below_row {B : Nat} {w W : World} {g : Nat} (h : Below B w W) (hg : B ≤ g) (cs : Array Value) : Below B w (W.setRow g cs) :=
  ⟨h.os, h.tape, h.output, by have := h.size; simp; omega, fun k hk => (setRow_other _ _ _ _ (by omega)).trans (h.block k hk)⟩
/-- An entry: Kind, Op, Node, Epoch, By, Chain. -/
structure ERow where
  k : Int
  o0 : Int
  o1 : Int
  o2 : Int
  o3 : ByteArray
  o4 : ByteArray
  o5 : Int
  o6 : Int
  n : Int
  ep : Int
  by_ : Int
  ch : List Int
def ERow.zero : ERow := ⟨0, 0, 0, 0, ⟨#[]⟩, ⟨#[]⟩, 0, 0, 0, 0, 0, []⟩
/-- What TakeOp does, told of the reader. -/
def OpTake (w0 : World) (g : Nat) (l : List Int) (e o0 o1 o2 : Int) (o3 o4 : ByteArray) (o5 o6 : Int) (l' : List Int) (e' : Int) : Prop := ∀ W, IsRdr w0 W g l e true → Below w0.heap.size w0 W → Calls Try.prog 56 #[.pointer (some ⟨g, 0, none⟩)] W fun ed w' => ed = .returned (.agg #[.int .i64 o0, .int .i64 o1, .int .i64 o2, .string o3, .string o4, .int .i64 o5, .int .i64 o6]) ∧ IsRdr w0 w' g l' e' true ∧ Below w0.heap.size w0 w' ∧ KeepBut W w' g none
def ChTake (w0 : World) (g : Nat) (l : List Int) (e : Int) (ch l' : List Int) (e' : Int) : Prop := ∀ W, IsRdr w0 W g l e true → Below w0.heap.size w0 W → Calls Try.prog 37 #[.pointer (some ⟨g, 0, none⟩)] W fun ed w' => ∃ v0_ : Value, ed = .returned v0_ ∧ Kd.R (Kd.int .i64) 3 w' W.heap.size (fun _ => True) v0_ ch ∧ IsRdr w0 w' g l' e' true ∧ Below w0.heap.size w0 w' ∧ KeepBut W w' g none
/-- What Take reads ahead of its check. -/
def EMid (w0 : World) (g : Nat) (l : List Int) (e : Int) (r : ERow) (l2 : List Int) (e2 : Int) : Prop := ∃ kd l1 e1, rdNum l e true = (kd, l1, e1) ∧
  ((kd = 1 ∧ ∃ o0 o1 o2 o3 o4 o5 o6, r = ⟨1, o0, o1, o2, o3, o4, o5, o6, 0, 0, 0, []⟩ ∧ OpTake w0 g l1 e1 o0 o1 o2 o3 o4 o5 o6 l2 e2) ∨
   ((kd = 2 ∨ kd = 3) ∧ ∃ n, r = ⟨kd, 0, 0, 0, ⟨#[]⟩, ⟨#[]⟩, 0, 0, n, 0, 0, []⟩ ∧ rdNum l1 e1 true = (n, l2, e2)) ∨
   ((kd = 4 ∨ kd = 5) ∧ ∃ n ep by_ ch l3 e3 l4 e4 l5 e5, r = ⟨kd, 0, 0, 0, ⟨#[]⟩, ⟨#[]⟩, 0, 0, n, ep, by_, ch⟩ ∧ rdNum l1 e1 true = (n, l3, e3) ∧ rdNum l3 e3 true = (ep, l4, e4) ∧ rdNum l4 e4 true = (by_, l5, e5) ∧ ChTake w0 g l5 e5 ch l2 e2) ∨
   ((kd ≠ 1 ∧ kd ≠ 2 ∧ kd ≠ 3 ∧ kd ≠ 4 ∧ kd ≠ 5) ∧ r = ⟨kd, 0, 0, 0, ⟨#[]⟩, ⟨#[]⟩, 0, 0, 0, 0, 0, []⟩ ∧ l2 = l1 ∧ e2 = e1))
theorem row_keep {w w1 : World} {base g t : Nat} {v : Value} {xs : List Int} {cs : Array Value} (h : Kd.R (Kd.int .i64) 3 w base (fun _ => True) v xs) (hk : KeepBut w w1 g none) (hg : w.heap[g]? = some (.cells cs t (0, 0))) (ht : t ≠ 3) : Kd.R (Kd.int .i64) 3 w1 base (fun _ => True) v xs :=
  Kd.R_mono (Kd.R_keep (Kd.R_types h hg (fun q hq => by
    have : q = 3 := List.mem_singleton.mp (show q ∈ [3] from hq)
    rw [this]
    exact ht.symm)) hk (fun _ h => h.2)) (fun _ _ => trivial)
set_option maxHeartbeats 16000000 in
set_option maxRecDepth 100000 in
theorem entry_Take.calls (k g : Nat) (l : List Int) (e : Int) (r : ERow) (l2 : List Int) (e2 : Int) (ok : Bool) (w0 w : World) (hM : EMid w0 g l e r l2 e2) (hR : entry_Right.f k r.k r.o0 r.o1 r.o2 r.o3 r.o4 r.o5 r.o6 r.n r.ep r.by_ r.ch = some ok) (out : ERow) (hO : out = if tkE ok e2 = 0 then r else ERow.zero) (hI : IsRdr w0 w g l e true) (hB : Below w0.heap.size w0 w) :
    Calls Try.prog 32 #[.pointer (some ⟨g, 0, none⟩)] w fun ed w' => ∃ v11 : Value, ed = .returned (.agg #[.int .i64 out.k, .int .i64 out.o0, .int .i64 out.o1, .int .i64 out.o2, .string out.o3, .string out.o4, .int .i64 out.o5, .int .i64 out.o6, .int .i64 out.n, .int .i64 out.ep, .int .i64 out.by_, v11]) ∧ Kd.R (Kd.int .i64) 3 w' w.heap.size (fun _ => True) v11 out.ch ∧ IsRdr w0 w' g l2 (tkE ok e2) true ∧ Below w0.heap.size w0 w' ∧ KeepBut w w' g none := by
  have HI := Aside0.mk hI
  have HB := Aside0.mk hB
  have HSZ := Aside0.mk hB.size
  have HK := Aside0.mk (KeepBut.refl w g none)
  have HR := Aside0.mk hR
  have HO := Aside0.mk hO
  have HGL := Aside0.mk (show g < w.heap.size by
    obtain ⟨cs, hcs⟩ := hI.blk1
    exact blk_lt hcs)
  obtain ⟨z, hz⟩ : ∃ z, z = tkE ok e2 := ⟨_, rfl⟩
  rw [← hz] at HO ⊢
  have HZ := Aside0.mk hz
  obtain ⟨kd, l1, e1, hk1, hway⟩ := hM
  have HKD := Aside0.mk hk1
  have HWAY := Aside0.mk hway
  clear hI hB hR hO hz hk1 hway
  go_enter Try.func32, Try.ntmps32
  go_wp2_with (first | ((with_reducible refine gate_dst (N := 2) rfl ?_); refine box_event ?hg (N := 2) ?hd (cs := #[.int .i64 0, .int .i64 0, .int .i64 0, .int .i64 0, .string ⟨#[]⟩, .string ⟨#[]⟩, .int .i64 0, .int .i64 0, .int .i64 0, .int .i64 0, .int .i64 0, .slice none 0 0]) (t := 35) ?hr ?_; (case hd => rfl); (case hg => rfl); (case hr => first | (go_simp; done) | (go_simp; rfl)); intro g2 hg w2 hbox hb; have H2 := Aside0.mk hbox; have HG2 := Aside0.mk (show w.heap.size ≤ g2 by rw [hg]; exact HK.out.1); replace HI := Aside0.mk (HI.out.below hb); replace HK := Aside0.mk (HK.out.trans (KeepBut.of_below hb g none) (.inl rfl)); replace HB := Aside0.mk (below_then HB.out HB.out.size hb); clear hbox hb hg) | fail)
  have hq := wire_Reader_Num.calls g l e true w0 _ HI.out HB.out
  rw [HKD.out] at hq
  dsimp only at hq
  refine hq.mono ?_
  clear hq
  rintro ed0 wr0 ⟨rfl, hi, hbx, hk⟩
  replace H2 := Aside0.mk (hk.blk H2.out (HI.out.at_ne H2.out (by decide)) (by simp))
  replace HK := Aside0.mk (HK.out.trans hk (.inl rfl))
  replace HI := Aside0.mk hi
  replace HB := Aside0.mk hbx
  clear hi hbx hk
  obtain ⟨hkd, hsel⟩ | ⟨hkd, hsel⟩ | ⟨hkd, hsel⟩ | ⟨hkd, hsel⟩ := HWAY.out
  · clear HWAY
    subst hkd
    as_aux_lemma =>
    go_wp2_with (first | ((with_reducible refine gate_dst (N := 3) rfl ?_); refine box_event ?hg (N := 3) ?hd (cs := #[.int .i64 0, .int .i64 0, .int .i64 0, .int .i64 0, .string ⟨#[]⟩, .string ⟨#[]⟩, .int .i64 0, .int .i64 0, .int .i64 0, .int .i64 0, .int .i64 0, .slice none 0 0]) (t := 35) ?hr ?_; (case hd => rfl); (case hg => rfl); (case hr => first | (go_simp; done) | (go_simp; rfl)); intro g3 hg w3 hbox hb; have H3 := Aside0.mk hbox; have HNE := Aside0.mk (show g2 ≠ g3 by have := blk_lt H2.out; omega); have HG3 := Aside0.mk (show w.heap.size ≤ g3 by rw [hg]; exact HK.out.1); replace H2 := Aside0.mk (blk_below H2.out hb); replace HI := Aside0.mk (HI.out.below hb); replace HK := Aside0.mk (HK.out.trans (KeepBut.of_below hb g none) (.inl rfl)); replace HB := Aside0.mk (below_then HB.out HB.out.size hb); clear hbox hb hg) | ((with_reducible refine gate_store (t := 35) (p := 3) rfl ?_); refine wpList_store_row rfl 35 (.tmp 3) (.tmp 6) rfl g3 #[.int .i64 1, .int .i64 0, .int .i64 0, .int .i64 0, .string ⟨#[]⟩, .string ⟨#[]⟩, .int .i64 0, .int .i64 0, .int .i64 0, .int .i64 0, .int .i64 0, .slice none 0 0] ?hx ?hy 35 _ H3.out (by kernel_rfl) rfl (by simp [Value.oneCell']) ?_; (case hx => rfl); (case hy => rfl); have H3N := Aside0.mk (setRow_heap _ g3 _ #[.int .i64 1, .int .i64 0, .int .i64 0, .int .i64 0, .string ⟨#[]⟩, .string ⟨#[]⟩, .int .i64 0, .int .i64 0, .int .i64 0, .int .i64 0, .int .i64 0, .slice none 0 0] _ _ H3.out); have hkr := keep_row (KeepBut.refl w3 g3 none) #[.int .i64 1, .int .i64 0, .int .i64 0, .int .i64 0, .string ⟨#[]⟩, .string ⟨#[]⟩, .int .i64 0, .int .i64 0, .int .i64 0, .int .i64 0, .int .i64 0, .slice none 0 0]; replace H2 := Aside0.mk (hkr.blk H2.out HNE.out (by simp)); replace HI := Aside0.mk (HI.out.keep hkr (HI.out.at_ne H3.out (by decide)) H3.out (by decide)); replace HB := Aside0.mk (below_row HB.out (Nat.le_trans HSZ.out HG3.out) #[.int .i64 1, .int .i64 0, .int .i64 0, .int .i64 0, .string ⟨#[]⟩, .string ⟨#[]⟩, .int .i64 0, .int .i64 0, .int .i64 0, .int .i64 0, .int .i64 0, .slice none 0 0]); replace HK := Aside0.mk (keep_new HK.out hkr HG3.out); generalize w3.setRow g3 #[.int .i64 1, .int .i64 0, .int .i64 0, .int .i64 0, .string ⟨#[]⟩, .string ⟨#[]⟩, .int .i64 0, .int .i64 0, .int .i64 0, .int .i64 0, .int .i64 0, .slice none 0 0] = w4 at H3N H2 HI HB HK ⊢; clear H3 hkr; have H3 := H3N; clear H3N; have c0 : w4.cell? ⟨g3, 0, none⟩ = some (.int .i64 1) := blk_cell H3.out 0) | fail)
    obtain ⟨o0, o1, o2, o3, o4, o5, o6, rfl, hop⟩ := hsel
    refine (hop _ HI.out HB.out).mono ?_
    rintro ed1 wO ⟨rfl, hi, hbx, hk⟩
    replace H3 := Aside0.mk (hk.blk H3.out (HI.out.at_ne H3.out (by decide)) (by simp))
    replace H2 := Aside0.mk (hk.blk H2.out (HI.out.at_ne H2.out (by decide)) (by simp))
    replace HK := Aside0.mk (HK.out.trans hk (.inl rfl))
    replace HI := Aside0.mk hi
    replace HB := Aside0.mk hbx
    clear hi hbx hk hop c0
    have p1 : wO.cell? ⟨g3, 1, none⟩ = some (.int .i64 0) := blk_cell H3.out 1
    have p2 : wO.cell? ⟨g3, 2, none⟩ = some (.int .i64 0) := blk_cell H3.out 2
    have p3 : wO.cell? ⟨g3, 3, none⟩ = some (.int .i64 0) := blk_cell H3.out 3
    have p4 : wO.cell? ⟨g3, 4, none⟩ = some (.string ⟨#[]⟩) := blk_cell H3.out 4
    have p5 : wO.cell? ⟨g3, 5, none⟩ = some (.string ⟨#[]⟩) := blk_cell H3.out 5
    have p6 : wO.cell? ⟨g3, 6, none⟩ = some (.int .i64 0) := blk_cell H3.out 6
    have p7 : wO.cell? ⟨g3, 7, none⟩ = some (.int .i64 0) := blk_cell H3.out 7
    have f1 : wO.frozen? ⟨g3, 1, none⟩ = false := blk_frozen H3.out 1
    have f2 : wO.frozen? ⟨g3, 2, none⟩ = false := blk_frozen H3.out 2
    have f3 : wO.frozen? ⟨g3, 3, none⟩ = false := blk_frozen H3.out 3
    have f4 : wO.frozen? ⟨g3, 4, none⟩ = false := blk_frozen H3.out 4
    have f5 : wO.frozen? ⟨g3, 5, none⟩ = false := blk_frozen H3.out 5
    have f6 : wO.frozen? ⟨g3, 6, none⟩ = false := blk_frozen H3.out 6
    have f7 : wO.frozen? ⟨g3, 7, none⟩ = false := blk_frozen H3.out 7
    go_wp2_with (first | ((with_reducible refine gate_dst (N := 35) rfl ?_); have hkr := fun W => (((((((KeepBut.refl W g3 none).set_ 1 (.int .i64 o0)).set_ 2 (.int .i64 o1)).set_ 3 (.int .i64 o2)).set_ 4 (.string o3)).set_ 5 (.string o4)).set_ 6 (.int .i64 o5)).set_ 7 (.int .i64 o6); have H3N := Aside0.mk (show (World.setCell (World.setCell (World.setCell (World.setCell (World.setCell (World.setCell (World.setCell wO ⟨g3, 1, none⟩ (.int .i64 o0)) ⟨g3, 2, none⟩ (.int .i64 o1)) ⟨g3, 3, none⟩ (.int .i64 o2)) ⟨g3, 4, none⟩ (.string o3)) ⟨g3, 5, none⟩ (.string o4)) ⟨g3, 6, none⟩ (.int .i64 o5)) ⟨g3, 7, none⟩ (.int .i64 o6)).heap[g3]? = some (.cells #[.int .i64 1, .int .i64 o0, .int .i64 o1, .int .i64 o2, .string o3, .string o4, .int .i64 o5, .int .i64 o6, .int .i64 0, .int .i64 0, .int .i64 0, .slice none 0 0] 35 (0, 0)) from blk_put (blk_put (blk_put (blk_put (blk_put (blk_put (blk_put (H3.out) 1 (.int .i64 o0) rfl) 2 (.int .i64 o1) rfl) 3 (.int .i64 o2) rfl) 4 (.string o3) rfl) 5 (.string o4) rfl) 6 (.int .i64 o5) rfl) 7 (.int .i64 o6) rfl); replace H2 := Aside0.mk ((hkr wO).blk H2.out HNE.out (by simp)); replace HI := Aside0.mk (HI.out.keep (hkr wO) (HI.out.at_ne H3.out (by decide)) H3.out (by decide)); replace HB := Aside0.mk (show Below w0.heap.size w0 (World.setCell (World.setCell (World.setCell (World.setCell (World.setCell (World.setCell (World.setCell wO ⟨g3, 1, none⟩ (.int .i64 o0)) ⟨g3, 2, none⟩ (.int .i64 o1)) ⟨g3, 3, none⟩ (.int .i64 o2)) ⟨g3, 4, none⟩ (.string o3)) ⟨g3, 5, none⟩ (.string o4)) ⟨g3, 6, none⟩ (.int .i64 o5)) ⟨g3, 7, none⟩ (.int .i64 o6)) from below_set (below_set (below_set (below_set (below_set (below_set (below_set (HB.out) (Nat.le_trans HSZ.out HG3.out)) (Nat.le_trans HSZ.out HG3.out)) (Nat.le_trans HSZ.out HG3.out)) (Nat.le_trans HSZ.out HG3.out)) (Nat.le_trans HSZ.out HG3.out)) (Nat.le_trans HSZ.out HG3.out)) (Nat.le_trans HSZ.out HG3.out)); replace HK := Aside0.mk (keep_new HK.out (hkr wO) HG3.out); clear H3; have H3 := H3N; clear H3N hkr; generalize hWW : (World.setCell (World.setCell (World.setCell (World.setCell (World.setCell (World.setCell (World.setCell wO ⟨g3, 1, none⟩ (.int .i64 o0)) ⟨g3, 2, none⟩ (.int .i64 o1)) ⟨g3, 3, none⟩ (.int .i64 o2)) ⟨g3, 4, none⟩ (.string o3)) ⟨g3, 5, none⟩ (.string o4)) ⟨g3, 6, none⟩ (.int .i64 o5)) ⟨g3, 7, none⟩ (.int .i64 o6)) = wP at H3 H2 HI HB HK ⊢; clear hWW; clear p1 f1 p2 f2 p3 f3 p4 f4 p5 f5 p6 f6 p7 f7; refine wpList_load_row rfl 35 (.tmp 3) rfl g3 ?hx 35 #[.int .i64 1, .int .i64 o0, .int .i64 o1, .int .i64 o2, .string o3, .string o4, .int .i64 o5, .int .i64 o6, .int .i64 0, .int .i64 0, .int .i64 0, .slice none 0 0] (0, 0) _ H3.out Try.underlying35 rfl (by kernel_rfl) ?_; (case hx => rfl)) | fail)
    refine (entry_Right.calls k 1 o0 o1 o2 o3 o4 o5 o6 0 0 0 none 0 [] ok _ (Kd.C_nil _ _) (Nat.le_refl _) HR.out).mono ?_
    rintro e wR ⟨rfl, hb⟩
    replace H2 := Aside0.mk (blk_below H2.out hb)
    replace H3 := Aside0.mk (blk_below H3.out hb)
    replace HI := Aside0.mk (HI.out.below hb)
    replace HK := Aside0.mk (HK.out.trans (KeepBut.of_below hb g none) (.inl rfl))
    replace HB := Aside0.mk (below_then HB.out HB.out.size hb)
    clear hb
    cases ok
    focus
      go_wp2_with fail
      refine (wire_Reader_Fail.calls g l2 e2 true 21 w0 _ HI.out HB.out).mono ?_
      rintro e1 wF ⟨rfl, hi, hbx, hk⟩
      replace H2 := Aside0.mk (hk.blk H2.out (HI.out.at_ne H2.out (by decide)) (by simp))
      replace HK := Aside0.mk (HK.out.trans hk (.inl rfl))
      replace HB := Aside0.mk hbx
      have hz2 : (if rdOk e2 true = true then (21 : Int) else e2) = z := by
        rw [HZ.out]
        unfold tkE rdOk
        by_cases q : e2 = 0 <;> simp [q]
      rw [hz2] at hi
      replace HI := Aside0.mk hi
      have hz0 : z ≠ 0 := by
        rw [HZ.out]
        unfold tkE
        by_cases q : e2 = 0 <;> simp [q]
      have HZ0 := Aside0.mk hz0
      clear hi hbx hk hz2 hz0
      go_wp2_with fail
      refine (wire_Reader_Err.calls g l2 z true w0 _ HI.out).mono ?_
      rintro e2 wE ⟨rfl, rfl⟩
      rw [if_pos (rfl : true = true)]
      have hzb : (z != 0) = true := bne_iff_ne.mpr HZ0.out
      obtain rfl : out = ERow.zero := HO.out.trans (if_neg HZ0.out)
      clear HO
      go_wp2_with (first | ((with_reducible refine gate_store (t := 35) (p := 2) rfl ?_); refine wpList_store_row rfl 35 (.tmp 2) (.tmp 43) rfl g2 #[.int .i64 0, .int .i64 0, .int .i64 0, .int .i64 0, .string ⟨#[]⟩, .string ⟨#[]⟩, .int .i64 0, .int .i64 0, .int .i64 0, .int .i64 0, .int .i64 0, .slice none 0 0] ?hx ?hy 35 _ H2.out (by kernel_rfl) rfl (by simp [Value.oneCell']) ?_; (case hx => rfl); (case hy => rfl)) | fail)
      have hkr_ := fun W => keep_row (KeepBut.refl W g2 none) #[.int .i64 0, .int .i64 0, .int .i64 0, .int .i64 0, .string ⟨#[]⟩, .string ⟨#[]⟩, .int .i64 0, .int .i64 0, .int .i64 0, .int .i64 0, .int .i64 0, .slice none 0 0]
      exact bodyPost_ret (results_cell_row rfl _ _ g2 35 #[.int .i64 0, .int .i64 0, .int .i64 0, .int .i64 0, .string ⟨#[]⟩, .string ⟨#[]⟩, .int .i64 0, .int .i64 0, .int .i64 0, .int .i64 0, .int .i64 0, .slice none 0 0] (0, 0) _ rfl (setRow_heap _ _ _ #[.int .i64 0, .int .i64 0, .int .i64 0, .int .i64 0, .string ⟨#[]⟩, .string ⟨#[]⟩, .int .i64 0, .int .i64 0, .int .i64 0, .int .i64 0, .int .i64 0, .slice none 0 0] _ _ H2.out) Try.underlying35 rfl rfl) rfl ⟨_, rfl, Kd.R_nil _ _ _ _ _, HI.out.keep (hkr_ _) (HI.out.at_ne H2.out (by decide)) H2.out (by decide), below_row HB.out (Nat.le_trans HSZ.out HG2.out) _, keep_new HK.out (hkr_ _) HG2.out⟩
    have hz2 : z = e2 := HZ.out
    rw [← hz2] at HI
    clear hz2
    go_wp2_with fail
    refine (wire_Reader_Err.calls g l2 z true w0 _ HI.out).mono ?_
    rintro e2 wE ⟨rfl, rfl⟩
    rw [if_pos (rfl : true = true)]
    by_cases hz0 : z = 0
    focus
      have hzb : (z != 0) = false := by rw [hz0]; rfl
      obtain rfl := HO.out.trans (if_pos hz0)
      clear HO hz0
      go_wp2_with (first | ((with_reducible refine gate_dst (N := 44) rfl ?_); refine wpList_load_row rfl 35 (.tmp 3) rfl g3 ?hx 35 #[.int .i64 1, .int .i64 o0, .int .i64 o1, .int .i64 o2, .string o3, .string o4, .int .i64 o5, .int .i64 o6, .int .i64 0, .int .i64 0, .int .i64 0, .slice none 0 0] (0, 0) _ H3.out Try.underlying35 rfl (by kernel_rfl) ?_; (case hx => rfl)) | ((with_reducible refine gate_store (t := 35) (p := 2) rfl ?_); refine wpList_store_row rfl 35 (.tmp 2) (.tmp 44) rfl g2 #[.int .i64 1, .int .i64 o0, .int .i64 o1, .int .i64 o2, .string o3, .string o4, .int .i64 o5, .int .i64 o6, .int .i64 0, .int .i64 0, .int .i64 0, .slice none 0 0] ?hx ?hy 35 _ H2.out (by kernel_rfl) rfl (by simp [Value.oneCell']) ?_; (case hx => rfl); (case hy => rfl)) | fail)
      have hkr_ := fun W => keep_row (KeepBut.refl W g2 none) #[.int .i64 1, .int .i64 o0, .int .i64 o1, .int .i64 o2, .string o3, .string o4, .int .i64 o5, .int .i64 o6, .int .i64 0, .int .i64 0, .int .i64 0, .slice none 0 0]
      exact bodyPost_ret (results_cell_row rfl _ _ g2 35 #[.int .i64 1, .int .i64 o0, .int .i64 o1, .int .i64 o2, .string o3, .string o4, .int .i64 o5, .int .i64 o6, .int .i64 0, .int .i64 0, .int .i64 0, .slice none 0 0] (0, 0) _ rfl (setRow_heap _ _ _ #[.int .i64 1, .int .i64 o0, .int .i64 o1, .int .i64 o2, .string o3, .string o4, .int .i64 o5, .int .i64 o6, .int .i64 0, .int .i64 0, .int .i64 0, .slice none 0 0] _ _ H2.out) Try.underlying35 rfl rfl) rfl ⟨_, rfl, Kd.R_nil _ _ _ _ _, HI.out.keep (hkr_ _) (HI.out.at_ne H2.out (by decide)) H2.out (by decide), below_row HB.out (Nat.le_trans HSZ.out HG2.out) _, keep_new HK.out (hkr_ _) HG2.out⟩
    have hzb : (z != 0) = true := bne_iff_ne.mpr hz0
    obtain rfl : out = ERow.zero := HO.out.trans (if_neg hz0)
    clear HO hz0
    go_wp2_with (first | ((with_reducible refine gate_store (t := 35) (p := 2) rfl ?_); refine wpList_store_row rfl 35 (.tmp 2) (.tmp 43) rfl g2 #[.int .i64 0, .int .i64 0, .int .i64 0, .int .i64 0, .string ⟨#[]⟩, .string ⟨#[]⟩, .int .i64 0, .int .i64 0, .int .i64 0, .int .i64 0, .int .i64 0, .slice none 0 0] ?hx ?hy 35 _ H2.out (by kernel_rfl) rfl (by simp [Value.oneCell']) ?_; (case hx => rfl); (case hy => rfl)) | fail)
    have hkr_ := fun W => keep_row (KeepBut.refl W g2 none) #[.int .i64 0, .int .i64 0, .int .i64 0, .int .i64 0, .string ⟨#[]⟩, .string ⟨#[]⟩, .int .i64 0, .int .i64 0, .int .i64 0, .int .i64 0, .int .i64 0, .slice none 0 0]
    exact bodyPost_ret (results_cell_row rfl _ _ g2 35 #[.int .i64 0, .int .i64 0, .int .i64 0, .int .i64 0, .string ⟨#[]⟩, .string ⟨#[]⟩, .int .i64 0, .int .i64 0, .int .i64 0, .int .i64 0, .int .i64 0, .slice none 0 0] (0, 0) _ rfl (setRow_heap _ _ _ #[.int .i64 0, .int .i64 0, .int .i64 0, .int .i64 0, .string ⟨#[]⟩, .string ⟨#[]⟩, .int .i64 0, .int .i64 0, .int .i64 0, .int .i64 0, .int .i64 0, .slice none 0 0] _ _ H2.out) Try.underlying35 rfl rfl) rfl ⟨_, rfl, Kd.R_nil _ _ _ _ _, HI.out.keep (hkr_ _) (HI.out.at_ne H2.out (by decide)) H2.out (by decide), below_row HB.out (Nat.le_trans HSZ.out HG2.out) _, keep_new HK.out (hkr_ _) HG2.out⟩
  · clear HWAY
    rcases hkd with rfl | rfl
    · as_aux_lemma =>
      go_wp2_with (first | ((with_reducible refine gate_dst (N := 3) rfl ?_); refine box_event ?hg (N := 3) ?hd (cs := #[.int .i64 0, .int .i64 0, .int .i64 0, .int .i64 0, .string ⟨#[]⟩, .string ⟨#[]⟩, .int .i64 0, .int .i64 0, .int .i64 0, .int .i64 0, .int .i64 0, .slice none 0 0]) (t := 35) ?hr ?_; (case hd => rfl); (case hg => rfl); (case hr => first | (go_simp; done) | (go_simp; rfl)); intro g3 hg w3 hbox hb; have H3 := Aside0.mk hbox; have HNE := Aside0.mk (show g2 ≠ g3 by have := blk_lt H2.out; omega); have HG3 := Aside0.mk (show w.heap.size ≤ g3 by rw [hg]; exact HK.out.1); replace H2 := Aside0.mk (blk_below H2.out hb); replace HI := Aside0.mk (HI.out.below hb); replace HK := Aside0.mk (HK.out.trans (KeepBut.of_below hb g none) (.inl rfl)); replace HB := Aside0.mk (below_then HB.out HB.out.size hb); clear hbox hb hg) | ((with_reducible refine gate_store (t := 35) (p := 3) rfl ?_); refine wpList_store_row rfl 35 (.tmp 3) (.tmp 6) rfl g3 #[.int .i64 2, .int .i64 0, .int .i64 0, .int .i64 0, .string ⟨#[]⟩, .string ⟨#[]⟩, .int .i64 0, .int .i64 0, .int .i64 0, .int .i64 0, .int .i64 0, .slice none 0 0] ?hx ?hy 35 _ H3.out (by kernel_rfl) rfl (by simp [Value.oneCell']) ?_; (case hx => rfl); (case hy => rfl); have H3N := Aside0.mk (setRow_heap _ g3 _ #[.int .i64 2, .int .i64 0, .int .i64 0, .int .i64 0, .string ⟨#[]⟩, .string ⟨#[]⟩, .int .i64 0, .int .i64 0, .int .i64 0, .int .i64 0, .int .i64 0, .slice none 0 0] _ _ H3.out); have hkr := keep_row (KeepBut.refl w3 g3 none) #[.int .i64 2, .int .i64 0, .int .i64 0, .int .i64 0, .string ⟨#[]⟩, .string ⟨#[]⟩, .int .i64 0, .int .i64 0, .int .i64 0, .int .i64 0, .int .i64 0, .slice none 0 0]; replace H2 := Aside0.mk (hkr.blk H2.out HNE.out (by simp)); replace HI := Aside0.mk (HI.out.keep hkr (HI.out.at_ne H3.out (by decide)) H3.out (by decide)); replace HB := Aside0.mk (below_row HB.out (Nat.le_trans HSZ.out HG3.out) #[.int .i64 2, .int .i64 0, .int .i64 0, .int .i64 0, .string ⟨#[]⟩, .string ⟨#[]⟩, .int .i64 0, .int .i64 0, .int .i64 0, .int .i64 0, .int .i64 0, .slice none 0 0]); replace HK := Aside0.mk (keep_new HK.out hkr HG3.out); generalize w3.setRow g3 #[.int .i64 2, .int .i64 0, .int .i64 0, .int .i64 0, .string ⟨#[]⟩, .string ⟨#[]⟩, .int .i64 0, .int .i64 0, .int .i64 0, .int .i64 0, .int .i64 0, .slice none 0 0] = w4 at H3N H2 HI HB HK ⊢; clear H3 hkr; have H3 := H3N; clear H3N; have c0 : w4.cell? ⟨g3, 0, none⟩ = some (.int .i64 2) := blk_cell H3.out 0) | fail)
      obtain ⟨n, rfl, hn⟩ := hsel
      have hq := wire_Reader_Num.calls g l1 e1 true w0 _ HI.out HB.out
      rw [hn] at hq
      dsimp only at hq
      refine hq.mono ?_
      clear hq
      rintro ed1 wO ⟨rfl, hi, hbx, hk⟩
      replace H3 := Aside0.mk (hk.blk H3.out (HI.out.at_ne H3.out (by decide)) (by simp))
      replace H2 := Aside0.mk (hk.blk H2.out (HI.out.at_ne H2.out (by decide)) (by simp))
      replace HK := Aside0.mk (HK.out.trans hk (.inl rfl))
      replace HI := Aside0.mk hi
      replace HB := Aside0.mk hbx
      clear hi hbx hk
      clear c0
      have p8 : wO.cell? ⟨g3, 8, none⟩ = some (.int .i64 0) := blk_cell H3.out 8
      have f8 : wO.frozen? ⟨g3, 8, none⟩ = false := blk_frozen H3.out 8
      go_wp2_with (first | ((with_reducible refine gate_dst (N := 35) rfl ?_); have hkr := fun W => (KeepBut.refl W g3 none).set_ 8 (.int .i64 n); have H3N := Aside0.mk (show (World.setCell wO ⟨g3, 8, none⟩ (.int .i64 n)).heap[g3]? = some (.cells #[.int .i64 2, .int .i64 0, .int .i64 0, .int .i64 0, .string ⟨#[]⟩, .string ⟨#[]⟩, .int .i64 0, .int .i64 0, .int .i64 n, .int .i64 0, .int .i64 0, .slice none 0 0] 35 (0, 0)) from blk_put (H3.out) 8 (.int .i64 n) rfl); replace H2 := Aside0.mk ((hkr wO).blk H2.out HNE.out (by simp)); replace HI := Aside0.mk (HI.out.keep (hkr wO) (HI.out.at_ne H3.out (by decide)) H3.out (by decide)); replace HB := Aside0.mk (show Below w0.heap.size w0 (World.setCell wO ⟨g3, 8, none⟩ (.int .i64 n)) from below_set (HB.out) (Nat.le_trans HSZ.out HG3.out)); replace HK := Aside0.mk (keep_new HK.out (hkr wO) HG3.out); clear H3; have H3 := H3N; clear H3N hkr; generalize hWW : (World.setCell wO ⟨g3, 8, none⟩ (.int .i64 n)) = wP at H3 H2 HI HB HK ⊢; clear hWW; clear p8 f8; refine wpList_load_row rfl 35 (.tmp 3) rfl g3 ?hx 35 #[.int .i64 2, .int .i64 0, .int .i64 0, .int .i64 0, .string ⟨#[]⟩, .string ⟨#[]⟩, .int .i64 0, .int .i64 0, .int .i64 n, .int .i64 0, .int .i64 0, .slice none 0 0] (0, 0) _ H3.out Try.underlying35 rfl (by kernel_rfl) ?_; (case hx => rfl)) | fail)
      refine (entry_Right.calls k 2 0 0 0 ⟨#[]⟩ ⟨#[]⟩ 0 0 n 0 0 none 0 [] ok _ (Kd.C_nil _ _) (Nat.le_refl _) HR.out).mono ?_
      rintro e wR ⟨rfl, hb⟩
      replace H2 := Aside0.mk (blk_below H2.out hb)
      replace H3 := Aside0.mk (blk_below H3.out hb)
      replace HI := Aside0.mk (HI.out.below hb)
      replace HK := Aside0.mk (HK.out.trans (KeepBut.of_below hb g none) (.inl rfl))
      replace HB := Aside0.mk (below_then HB.out HB.out.size hb)
      clear hb
      cases ok
      focus
        go_wp2_with fail
        refine (wire_Reader_Fail.calls g l2 e2 true 21 w0 _ HI.out HB.out).mono ?_
        rintro e1 wF ⟨rfl, hi, hbx, hk⟩
        replace H2 := Aside0.mk (hk.blk H2.out (HI.out.at_ne H2.out (by decide)) (by simp))
        replace HK := Aside0.mk (HK.out.trans hk (.inl rfl))
        replace HB := Aside0.mk hbx
        have hz2 : (if rdOk e2 true = true then (21 : Int) else e2) = z := by
          rw [HZ.out]
          unfold tkE rdOk
          by_cases q : e2 = 0 <;> simp [q]
        rw [hz2] at hi
        replace HI := Aside0.mk hi
        have hz0 : z ≠ 0 := by
          rw [HZ.out]
          unfold tkE
          by_cases q : e2 = 0 <;> simp [q]
        have HZ0 := Aside0.mk hz0
        clear hi hbx hk hz2 hz0
        go_wp2_with fail
        refine (wire_Reader_Err.calls g l2 z true w0 _ HI.out).mono ?_
        rintro e2 wE ⟨rfl, rfl⟩
        rw [if_pos (rfl : true = true)]
        have hzb : (z != 0) = true := bne_iff_ne.mpr HZ0.out
        obtain rfl : out = ERow.zero := HO.out.trans (if_neg HZ0.out)
        clear HO
        go_wp2_with (first | ((with_reducible refine gate_store (t := 35) (p := 2) rfl ?_); refine wpList_store_row rfl 35 (.tmp 2) (.tmp 43) rfl g2 #[.int .i64 0, .int .i64 0, .int .i64 0, .int .i64 0, .string ⟨#[]⟩, .string ⟨#[]⟩, .int .i64 0, .int .i64 0, .int .i64 0, .int .i64 0, .int .i64 0, .slice none 0 0] ?hx ?hy 35 _ H2.out (by kernel_rfl) rfl (by simp [Value.oneCell']) ?_; (case hx => rfl); (case hy => rfl)) | fail)
        have hkr_ := fun W => keep_row (KeepBut.refl W g2 none) #[.int .i64 0, .int .i64 0, .int .i64 0, .int .i64 0, .string ⟨#[]⟩, .string ⟨#[]⟩, .int .i64 0, .int .i64 0, .int .i64 0, .int .i64 0, .int .i64 0, .slice none 0 0]
        exact bodyPost_ret (results_cell_row rfl _ _ g2 35 #[.int .i64 0, .int .i64 0, .int .i64 0, .int .i64 0, .string ⟨#[]⟩, .string ⟨#[]⟩, .int .i64 0, .int .i64 0, .int .i64 0, .int .i64 0, .int .i64 0, .slice none 0 0] (0, 0) _ rfl (setRow_heap _ _ _ #[.int .i64 0, .int .i64 0, .int .i64 0, .int .i64 0, .string ⟨#[]⟩, .string ⟨#[]⟩, .int .i64 0, .int .i64 0, .int .i64 0, .int .i64 0, .int .i64 0, .slice none 0 0] _ _ H2.out) Try.underlying35 rfl rfl) rfl ⟨_, rfl, Kd.R_nil _ _ _ _ _, HI.out.keep (hkr_ _) (HI.out.at_ne H2.out (by decide)) H2.out (by decide), below_row HB.out (Nat.le_trans HSZ.out HG2.out) _, keep_new HK.out (hkr_ _) HG2.out⟩
      have hz2 : z = e2 := HZ.out
      rw [← hz2] at HI
      clear hz2
      go_wp2_with fail
      refine (wire_Reader_Err.calls g l2 z true w0 _ HI.out).mono ?_
      rintro e2 wE ⟨rfl, rfl⟩
      rw [if_pos (rfl : true = true)]
      by_cases hz0 : z = 0
      focus
        have hzb : (z != 0) = false := by rw [hz0]; rfl
        obtain rfl := HO.out.trans (if_pos hz0)
        clear HO hz0
        go_wp2_with (first | ((with_reducible refine gate_dst (N := 44) rfl ?_); refine wpList_load_row rfl 35 (.tmp 3) rfl g3 ?hx 35 #[.int .i64 2, .int .i64 0, .int .i64 0, .int .i64 0, .string ⟨#[]⟩, .string ⟨#[]⟩, .int .i64 0, .int .i64 0, .int .i64 n, .int .i64 0, .int .i64 0, .slice none 0 0] (0, 0) _ H3.out Try.underlying35 rfl (by kernel_rfl) ?_; (case hx => rfl)) | ((with_reducible refine gate_store (t := 35) (p := 2) rfl ?_); refine wpList_store_row rfl 35 (.tmp 2) (.tmp 44) rfl g2 #[.int .i64 2, .int .i64 0, .int .i64 0, .int .i64 0, .string ⟨#[]⟩, .string ⟨#[]⟩, .int .i64 0, .int .i64 0, .int .i64 n, .int .i64 0, .int .i64 0, .slice none 0 0] ?hx ?hy 35 _ H2.out (by kernel_rfl) rfl (by simp [Value.oneCell']) ?_; (case hx => rfl); (case hy => rfl)) | fail)
        have hkr_ := fun W => keep_row (KeepBut.refl W g2 none) #[.int .i64 2, .int .i64 0, .int .i64 0, .int .i64 0, .string ⟨#[]⟩, .string ⟨#[]⟩, .int .i64 0, .int .i64 0, .int .i64 n, .int .i64 0, .int .i64 0, .slice none 0 0]
        exact bodyPost_ret (results_cell_row rfl _ _ g2 35 #[.int .i64 2, .int .i64 0, .int .i64 0, .int .i64 0, .string ⟨#[]⟩, .string ⟨#[]⟩, .int .i64 0, .int .i64 0, .int .i64 n, .int .i64 0, .int .i64 0, .slice none 0 0] (0, 0) _ rfl (setRow_heap _ _ _ #[.int .i64 2, .int .i64 0, .int .i64 0, .int .i64 0, .string ⟨#[]⟩, .string ⟨#[]⟩, .int .i64 0, .int .i64 0, .int .i64 n, .int .i64 0, .int .i64 0, .slice none 0 0] _ _ H2.out) Try.underlying35 rfl rfl) rfl ⟨_, rfl, Kd.R_nil _ _ _ _ _, HI.out.keep (hkr_ _) (HI.out.at_ne H2.out (by decide)) H2.out (by decide), below_row HB.out (Nat.le_trans HSZ.out HG2.out) _, keep_new HK.out (hkr_ _) HG2.out⟩
      have hzb : (z != 0) = true := bne_iff_ne.mpr hz0
      obtain rfl : out = ERow.zero := HO.out.trans (if_neg hz0)
      clear HO hz0
      go_wp2_with (first | ((with_reducible refine gate_store (t := 35) (p := 2) rfl ?_); refine wpList_store_row rfl 35 (.tmp 2) (.tmp 43) rfl g2 #[.int .i64 0, .int .i64 0, .int .i64 0, .int .i64 0, .string ⟨#[]⟩, .string ⟨#[]⟩, .int .i64 0, .int .i64 0, .int .i64 0, .int .i64 0, .int .i64 0, .slice none 0 0] ?hx ?hy 35 _ H2.out (by kernel_rfl) rfl (by simp [Value.oneCell']) ?_; (case hx => rfl); (case hy => rfl)) | fail)
      have hkr_ := fun W => keep_row (KeepBut.refl W g2 none) #[.int .i64 0, .int .i64 0, .int .i64 0, .int .i64 0, .string ⟨#[]⟩, .string ⟨#[]⟩, .int .i64 0, .int .i64 0, .int .i64 0, .int .i64 0, .int .i64 0, .slice none 0 0]
      exact bodyPost_ret (results_cell_row rfl _ _ g2 35 #[.int .i64 0, .int .i64 0, .int .i64 0, .int .i64 0, .string ⟨#[]⟩, .string ⟨#[]⟩, .int .i64 0, .int .i64 0, .int .i64 0, .int .i64 0, .int .i64 0, .slice none 0 0] (0, 0) _ rfl (setRow_heap _ _ _ #[.int .i64 0, .int .i64 0, .int .i64 0, .int .i64 0, .string ⟨#[]⟩, .string ⟨#[]⟩, .int .i64 0, .int .i64 0, .int .i64 0, .int .i64 0, .int .i64 0, .slice none 0 0] _ _ H2.out) Try.underlying35 rfl rfl) rfl ⟨_, rfl, Kd.R_nil _ _ _ _ _, HI.out.keep (hkr_ _) (HI.out.at_ne H2.out (by decide)) H2.out (by decide), below_row HB.out (Nat.le_trans HSZ.out HG2.out) _, keep_new HK.out (hkr_ _) HG2.out⟩
    · as_aux_lemma =>
      go_wp2_with (first | ((with_reducible refine gate_dst (N := 3) rfl ?_); refine box_event ?hg (N := 3) ?hd (cs := #[.int .i64 0, .int .i64 0, .int .i64 0, .int .i64 0, .string ⟨#[]⟩, .string ⟨#[]⟩, .int .i64 0, .int .i64 0, .int .i64 0, .int .i64 0, .int .i64 0, .slice none 0 0]) (t := 35) ?hr ?_; (case hd => rfl); (case hg => rfl); (case hr => first | (go_simp; done) | (go_simp; rfl)); intro g3 hg w3 hbox hb; have H3 := Aside0.mk hbox; have HNE := Aside0.mk (show g2 ≠ g3 by have := blk_lt H2.out; omega); have HG3 := Aside0.mk (show w.heap.size ≤ g3 by rw [hg]; exact HK.out.1); replace H2 := Aside0.mk (blk_below H2.out hb); replace HI := Aside0.mk (HI.out.below hb); replace HK := Aside0.mk (HK.out.trans (KeepBut.of_below hb g none) (.inl rfl)); replace HB := Aside0.mk (below_then HB.out HB.out.size hb); clear hbox hb hg) | ((with_reducible refine gate_store (t := 35) (p := 3) rfl ?_); refine wpList_store_row rfl 35 (.tmp 3) (.tmp 6) rfl g3 #[.int .i64 3, .int .i64 0, .int .i64 0, .int .i64 0, .string ⟨#[]⟩, .string ⟨#[]⟩, .int .i64 0, .int .i64 0, .int .i64 0, .int .i64 0, .int .i64 0, .slice none 0 0] ?hx ?hy 35 _ H3.out (by kernel_rfl) rfl (by simp [Value.oneCell']) ?_; (case hx => rfl); (case hy => rfl); have H3N := Aside0.mk (setRow_heap _ g3 _ #[.int .i64 3, .int .i64 0, .int .i64 0, .int .i64 0, .string ⟨#[]⟩, .string ⟨#[]⟩, .int .i64 0, .int .i64 0, .int .i64 0, .int .i64 0, .int .i64 0, .slice none 0 0] _ _ H3.out); have hkr := keep_row (KeepBut.refl w3 g3 none) #[.int .i64 3, .int .i64 0, .int .i64 0, .int .i64 0, .string ⟨#[]⟩, .string ⟨#[]⟩, .int .i64 0, .int .i64 0, .int .i64 0, .int .i64 0, .int .i64 0, .slice none 0 0]; replace H2 := Aside0.mk (hkr.blk H2.out HNE.out (by simp)); replace HI := Aside0.mk (HI.out.keep hkr (HI.out.at_ne H3.out (by decide)) H3.out (by decide)); replace HB := Aside0.mk (below_row HB.out (Nat.le_trans HSZ.out HG3.out) #[.int .i64 3, .int .i64 0, .int .i64 0, .int .i64 0, .string ⟨#[]⟩, .string ⟨#[]⟩, .int .i64 0, .int .i64 0, .int .i64 0, .int .i64 0, .int .i64 0, .slice none 0 0]); replace HK := Aside0.mk (keep_new HK.out hkr HG3.out); generalize w3.setRow g3 #[.int .i64 3, .int .i64 0, .int .i64 0, .int .i64 0, .string ⟨#[]⟩, .string ⟨#[]⟩, .int .i64 0, .int .i64 0, .int .i64 0, .int .i64 0, .int .i64 0, .slice none 0 0] = w4 at H3N H2 HI HB HK ⊢; clear H3 hkr; have H3 := H3N; clear H3N; have c0 : w4.cell? ⟨g3, 0, none⟩ = some (.int .i64 3) := blk_cell H3.out 0) | fail)
      obtain ⟨n, rfl, hn⟩ := hsel
      have hq := wire_Reader_Num.calls g l1 e1 true w0 _ HI.out HB.out
      rw [hn] at hq
      dsimp only at hq
      refine hq.mono ?_
      clear hq
      rintro ed1 wO ⟨rfl, hi, hbx, hk⟩
      replace H3 := Aside0.mk (hk.blk H3.out (HI.out.at_ne H3.out (by decide)) (by simp))
      replace H2 := Aside0.mk (hk.blk H2.out (HI.out.at_ne H2.out (by decide)) (by simp))
      replace HK := Aside0.mk (HK.out.trans hk (.inl rfl))
      replace HI := Aside0.mk hi
      replace HB := Aside0.mk hbx
      clear hi hbx hk
      clear c0
      have p8 : wO.cell? ⟨g3, 8, none⟩ = some (.int .i64 0) := blk_cell H3.out 8
      have f8 : wO.frozen? ⟨g3, 8, none⟩ = false := blk_frozen H3.out 8
      go_wp2_with (first | ((with_reducible refine gate_dst (N := 35) rfl ?_); have hkr := fun W => (KeepBut.refl W g3 none).set_ 8 (.int .i64 n); have H3N := Aside0.mk (show (World.setCell wO ⟨g3, 8, none⟩ (.int .i64 n)).heap[g3]? = some (.cells #[.int .i64 3, .int .i64 0, .int .i64 0, .int .i64 0, .string ⟨#[]⟩, .string ⟨#[]⟩, .int .i64 0, .int .i64 0, .int .i64 n, .int .i64 0, .int .i64 0, .slice none 0 0] 35 (0, 0)) from blk_put (H3.out) 8 (.int .i64 n) rfl); replace H2 := Aside0.mk ((hkr wO).blk H2.out HNE.out (by simp)); replace HI := Aside0.mk (HI.out.keep (hkr wO) (HI.out.at_ne H3.out (by decide)) H3.out (by decide)); replace HB := Aside0.mk (show Below w0.heap.size w0 (World.setCell wO ⟨g3, 8, none⟩ (.int .i64 n)) from below_set (HB.out) (Nat.le_trans HSZ.out HG3.out)); replace HK := Aside0.mk (keep_new HK.out (hkr wO) HG3.out); clear H3; have H3 := H3N; clear H3N hkr; generalize hWW : (World.setCell wO ⟨g3, 8, none⟩ (.int .i64 n)) = wP at H3 H2 HI HB HK ⊢; clear hWW; clear p8 f8; refine wpList_load_row rfl 35 (.tmp 3) rfl g3 ?hx 35 #[.int .i64 3, .int .i64 0, .int .i64 0, .int .i64 0, .string ⟨#[]⟩, .string ⟨#[]⟩, .int .i64 0, .int .i64 0, .int .i64 n, .int .i64 0, .int .i64 0, .slice none 0 0] (0, 0) _ H3.out Try.underlying35 rfl (by kernel_rfl) ?_; (case hx => rfl)) | fail)
      refine (entry_Right.calls k 3 0 0 0 ⟨#[]⟩ ⟨#[]⟩ 0 0 n 0 0 none 0 [] ok _ (Kd.C_nil _ _) (Nat.le_refl _) HR.out).mono ?_
      rintro e wR ⟨rfl, hb⟩
      replace H2 := Aside0.mk (blk_below H2.out hb)
      replace H3 := Aside0.mk (blk_below H3.out hb)
      replace HI := Aside0.mk (HI.out.below hb)
      replace HK := Aside0.mk (HK.out.trans (KeepBut.of_below hb g none) (.inl rfl))
      replace HB := Aside0.mk (below_then HB.out HB.out.size hb)
      clear hb
      cases ok
      focus
        go_wp2_with fail
        refine (wire_Reader_Fail.calls g l2 e2 true 21 w0 _ HI.out HB.out).mono ?_
        rintro e1 wF ⟨rfl, hi, hbx, hk⟩
        replace H2 := Aside0.mk (hk.blk H2.out (HI.out.at_ne H2.out (by decide)) (by simp))
        replace HK := Aside0.mk (HK.out.trans hk (.inl rfl))
        replace HB := Aside0.mk hbx
        have hz2 : (if rdOk e2 true = true then (21 : Int) else e2) = z := by
          rw [HZ.out]
          unfold tkE rdOk
          by_cases q : e2 = 0 <;> simp [q]
        rw [hz2] at hi
        replace HI := Aside0.mk hi
        have hz0 : z ≠ 0 := by
          rw [HZ.out]
          unfold tkE
          by_cases q : e2 = 0 <;> simp [q]
        have HZ0 := Aside0.mk hz0
        clear hi hbx hk hz2 hz0
        go_wp2_with fail
        refine (wire_Reader_Err.calls g l2 z true w0 _ HI.out).mono ?_
        rintro e2 wE ⟨rfl, rfl⟩
        rw [if_pos (rfl : true = true)]
        have hzb : (z != 0) = true := bne_iff_ne.mpr HZ0.out
        obtain rfl : out = ERow.zero := HO.out.trans (if_neg HZ0.out)
        clear HO
        go_wp2_with (first | ((with_reducible refine gate_store (t := 35) (p := 2) rfl ?_); refine wpList_store_row rfl 35 (.tmp 2) (.tmp 43) rfl g2 #[.int .i64 0, .int .i64 0, .int .i64 0, .int .i64 0, .string ⟨#[]⟩, .string ⟨#[]⟩, .int .i64 0, .int .i64 0, .int .i64 0, .int .i64 0, .int .i64 0, .slice none 0 0] ?hx ?hy 35 _ H2.out (by kernel_rfl) rfl (by simp [Value.oneCell']) ?_; (case hx => rfl); (case hy => rfl)) | fail)
        have hkr_ := fun W => keep_row (KeepBut.refl W g2 none) #[.int .i64 0, .int .i64 0, .int .i64 0, .int .i64 0, .string ⟨#[]⟩, .string ⟨#[]⟩, .int .i64 0, .int .i64 0, .int .i64 0, .int .i64 0, .int .i64 0, .slice none 0 0]
        exact bodyPost_ret (results_cell_row rfl _ _ g2 35 #[.int .i64 0, .int .i64 0, .int .i64 0, .int .i64 0, .string ⟨#[]⟩, .string ⟨#[]⟩, .int .i64 0, .int .i64 0, .int .i64 0, .int .i64 0, .int .i64 0, .slice none 0 0] (0, 0) _ rfl (setRow_heap _ _ _ #[.int .i64 0, .int .i64 0, .int .i64 0, .int .i64 0, .string ⟨#[]⟩, .string ⟨#[]⟩, .int .i64 0, .int .i64 0, .int .i64 0, .int .i64 0, .int .i64 0, .slice none 0 0] _ _ H2.out) Try.underlying35 rfl rfl) rfl ⟨_, rfl, Kd.R_nil _ _ _ _ _, HI.out.keep (hkr_ _) (HI.out.at_ne H2.out (by decide)) H2.out (by decide), below_row HB.out (Nat.le_trans HSZ.out HG2.out) _, keep_new HK.out (hkr_ _) HG2.out⟩
      have hz2 : z = e2 := HZ.out
      rw [← hz2] at HI
      clear hz2
      go_wp2_with fail
      refine (wire_Reader_Err.calls g l2 z true w0 _ HI.out).mono ?_
      rintro e2 wE ⟨rfl, rfl⟩
      rw [if_pos (rfl : true = true)]
      by_cases hz0 : z = 0
      focus
        have hzb : (z != 0) = false := by rw [hz0]; rfl
        obtain rfl := HO.out.trans (if_pos hz0)
        clear HO hz0
        go_wp2_with (first | ((with_reducible refine gate_dst (N := 44) rfl ?_); refine wpList_load_row rfl 35 (.tmp 3) rfl g3 ?hx 35 #[.int .i64 3, .int .i64 0, .int .i64 0, .int .i64 0, .string ⟨#[]⟩, .string ⟨#[]⟩, .int .i64 0, .int .i64 0, .int .i64 n, .int .i64 0, .int .i64 0, .slice none 0 0] (0, 0) _ H3.out Try.underlying35 rfl (by kernel_rfl) ?_; (case hx => rfl)) | ((with_reducible refine gate_store (t := 35) (p := 2) rfl ?_); refine wpList_store_row rfl 35 (.tmp 2) (.tmp 44) rfl g2 #[.int .i64 3, .int .i64 0, .int .i64 0, .int .i64 0, .string ⟨#[]⟩, .string ⟨#[]⟩, .int .i64 0, .int .i64 0, .int .i64 n, .int .i64 0, .int .i64 0, .slice none 0 0] ?hx ?hy 35 _ H2.out (by kernel_rfl) rfl (by simp [Value.oneCell']) ?_; (case hx => rfl); (case hy => rfl)) | fail)
        have hkr_ := fun W => keep_row (KeepBut.refl W g2 none) #[.int .i64 3, .int .i64 0, .int .i64 0, .int .i64 0, .string ⟨#[]⟩, .string ⟨#[]⟩, .int .i64 0, .int .i64 0, .int .i64 n, .int .i64 0, .int .i64 0, .slice none 0 0]
        exact bodyPost_ret (results_cell_row rfl _ _ g2 35 #[.int .i64 3, .int .i64 0, .int .i64 0, .int .i64 0, .string ⟨#[]⟩, .string ⟨#[]⟩, .int .i64 0, .int .i64 0, .int .i64 n, .int .i64 0, .int .i64 0, .slice none 0 0] (0, 0) _ rfl (setRow_heap _ _ _ #[.int .i64 3, .int .i64 0, .int .i64 0, .int .i64 0, .string ⟨#[]⟩, .string ⟨#[]⟩, .int .i64 0, .int .i64 0, .int .i64 n, .int .i64 0, .int .i64 0, .slice none 0 0] _ _ H2.out) Try.underlying35 rfl rfl) rfl ⟨_, rfl, Kd.R_nil _ _ _ _ _, HI.out.keep (hkr_ _) (HI.out.at_ne H2.out (by decide)) H2.out (by decide), below_row HB.out (Nat.le_trans HSZ.out HG2.out) _, keep_new HK.out (hkr_ _) HG2.out⟩
      have hzb : (z != 0) = true := bne_iff_ne.mpr hz0
      obtain rfl : out = ERow.zero := HO.out.trans (if_neg hz0)
      clear HO hz0
      go_wp2_with (first | ((with_reducible refine gate_store (t := 35) (p := 2) rfl ?_); refine wpList_store_row rfl 35 (.tmp 2) (.tmp 43) rfl g2 #[.int .i64 0, .int .i64 0, .int .i64 0, .int .i64 0, .string ⟨#[]⟩, .string ⟨#[]⟩, .int .i64 0, .int .i64 0, .int .i64 0, .int .i64 0, .int .i64 0, .slice none 0 0] ?hx ?hy 35 _ H2.out (by kernel_rfl) rfl (by simp [Value.oneCell']) ?_; (case hx => rfl); (case hy => rfl)) | fail)
      have hkr_ := fun W => keep_row (KeepBut.refl W g2 none) #[.int .i64 0, .int .i64 0, .int .i64 0, .int .i64 0, .string ⟨#[]⟩, .string ⟨#[]⟩, .int .i64 0, .int .i64 0, .int .i64 0, .int .i64 0, .int .i64 0, .slice none 0 0]
      exact bodyPost_ret (results_cell_row rfl _ _ g2 35 #[.int .i64 0, .int .i64 0, .int .i64 0, .int .i64 0, .string ⟨#[]⟩, .string ⟨#[]⟩, .int .i64 0, .int .i64 0, .int .i64 0, .int .i64 0, .int .i64 0, .slice none 0 0] (0, 0) _ rfl (setRow_heap _ _ _ #[.int .i64 0, .int .i64 0, .int .i64 0, .int .i64 0, .string ⟨#[]⟩, .string ⟨#[]⟩, .int .i64 0, .int .i64 0, .int .i64 0, .int .i64 0, .int .i64 0, .slice none 0 0] _ _ H2.out) Try.underlying35 rfl rfl) rfl ⟨_, rfl, Kd.R_nil _ _ _ _ _, HI.out.keep (hkr_ _) (HI.out.at_ne H2.out (by decide)) H2.out (by decide), below_row HB.out (Nat.le_trans HSZ.out HG2.out) _, keep_new HK.out (hkr_ _) HG2.out⟩
  · clear HWAY
    rcases hkd with rfl | rfl
    · as_aux_lemma =>
      go_wp2_with (first | ((with_reducible refine gate_dst (N := 3) rfl ?_); refine box_event ?hg (N := 3) ?hd (cs := #[.int .i64 0, .int .i64 0, .int .i64 0, .int .i64 0, .string ⟨#[]⟩, .string ⟨#[]⟩, .int .i64 0, .int .i64 0, .int .i64 0, .int .i64 0, .int .i64 0, .slice none 0 0]) (t := 35) ?hr ?_; (case hd => rfl); (case hg => rfl); (case hr => first | (go_simp; done) | (go_simp; rfl)); intro g3 hg w3 hbox hb; have H3 := Aside0.mk hbox; have HNE := Aside0.mk (show g2 ≠ g3 by have := blk_lt H2.out; omega); have HG3 := Aside0.mk (show w.heap.size ≤ g3 by rw [hg]; exact HK.out.1); replace H2 := Aside0.mk (blk_below H2.out hb); replace HI := Aside0.mk (HI.out.below hb); replace HK := Aside0.mk (HK.out.trans (KeepBut.of_below hb g none) (.inl rfl)); replace HB := Aside0.mk (below_then HB.out HB.out.size hb); clear hbox hb hg) | ((with_reducible refine gate_store (t := 35) (p := 3) rfl ?_); refine wpList_store_row rfl 35 (.tmp 3) (.tmp 6) rfl g3 #[.int .i64 4, .int .i64 0, .int .i64 0, .int .i64 0, .string ⟨#[]⟩, .string ⟨#[]⟩, .int .i64 0, .int .i64 0, .int .i64 0, .int .i64 0, .int .i64 0, .slice none 0 0] ?hx ?hy 35 _ H3.out (by kernel_rfl) rfl (by simp [Value.oneCell']) ?_; (case hx => rfl); (case hy => rfl); have H3N := Aside0.mk (setRow_heap _ g3 _ #[.int .i64 4, .int .i64 0, .int .i64 0, .int .i64 0, .string ⟨#[]⟩, .string ⟨#[]⟩, .int .i64 0, .int .i64 0, .int .i64 0, .int .i64 0, .int .i64 0, .slice none 0 0] _ _ H3.out); have hkr := keep_row (KeepBut.refl w3 g3 none) #[.int .i64 4, .int .i64 0, .int .i64 0, .int .i64 0, .string ⟨#[]⟩, .string ⟨#[]⟩, .int .i64 0, .int .i64 0, .int .i64 0, .int .i64 0, .int .i64 0, .slice none 0 0]; replace H2 := Aside0.mk (hkr.blk H2.out HNE.out (by simp)); replace HI := Aside0.mk (HI.out.keep hkr (HI.out.at_ne H3.out (by decide)) H3.out (by decide)); replace HB := Aside0.mk (below_row HB.out (Nat.le_trans HSZ.out HG3.out) #[.int .i64 4, .int .i64 0, .int .i64 0, .int .i64 0, .string ⟨#[]⟩, .string ⟨#[]⟩, .int .i64 0, .int .i64 0, .int .i64 0, .int .i64 0, .int .i64 0, .slice none 0 0]); replace HK := Aside0.mk (keep_new HK.out hkr HG3.out); generalize w3.setRow g3 #[.int .i64 4, .int .i64 0, .int .i64 0, .int .i64 0, .string ⟨#[]⟩, .string ⟨#[]⟩, .int .i64 0, .int .i64 0, .int .i64 0, .int .i64 0, .int .i64 0, .slice none 0 0] = w4 at H3N H2 HI HB HK ⊢; clear H3 hkr; have H3 := H3N; clear H3N; have c0 : w4.cell? ⟨g3, 0, none⟩ = some (.int .i64 4) := blk_cell H3.out 0) | fail)
      obtain ⟨n, ep, by_, ch, l3, e3, l4, e4, l5, e5, rfl, hn, hep, hby, hch⟩ := hsel
      have hq := wire_Reader_Num.calls g l1 e1 true w0 _ HI.out HB.out
      rw [hn] at hq
      dsimp only at hq
      refine hq.mono ?_
      clear hq
      rintro ed1 wN1 ⟨rfl, hi, hbx, hk⟩
      replace H3 := Aside0.mk (hk.blk H3.out (HI.out.at_ne H3.out (by decide)) (by simp))
      replace H2 := Aside0.mk (hk.blk H2.out (HI.out.at_ne H2.out (by decide)) (by simp))
      replace HK := Aside0.mk (HK.out.trans hk (.inl rfl))
      replace HI := Aside0.mk hi
      replace HB := Aside0.mk hbx
      clear hi hbx hk
      clear c0
      go_wp2_with fail
      have hq := wire_Reader_Num.calls g l3 e3 true w0 _ HI.out HB.out
      rw [hep] at hq
      dsimp only at hq
      refine hq.mono ?_
      clear hq
      rintro ed1 wN2 ⟨rfl, hi, hbx, hk⟩
      replace H3 := Aside0.mk (hk.blk H3.out (HI.out.at_ne H3.out (by decide)) (by simp))
      replace H2 := Aside0.mk (hk.blk H2.out (HI.out.at_ne H2.out (by decide)) (by simp))
      replace HK := Aside0.mk (HK.out.trans hk (.inl rfl))
      replace HI := Aside0.mk hi
      replace HB := Aside0.mk hbx
      clear hi hbx hk
      go_wp2_with fail
      have hq := wire_Reader_Num.calls g l4 e4 true w0 _ HI.out HB.out
      rw [hby] at hq
      dsimp only at hq
      refine hq.mono ?_
      clear hq
      rintro ed1 wO ⟨rfl, hi, hbx, hk⟩
      replace H3 := Aside0.mk (hk.blk H3.out (HI.out.at_ne H3.out (by decide)) (by simp))
      replace H2 := Aside0.mk (hk.blk H2.out (HI.out.at_ne H2.out (by decide)) (by simp))
      replace HK := Aside0.mk (HK.out.trans hk (.inl rfl))
      replace HI := Aside0.mk hi
      replace HB := Aside0.mk hbx
      clear hi hbx hk
      have p8 : wO.cell? ⟨g3, 8, none⟩ = some (.int .i64 0) := blk_cell H3.out 8
      have p9 : wO.cell? ⟨g3, 9, none⟩ = some (.int .i64 0) := blk_cell H3.out 9
      have p10 : wO.cell? ⟨g3, 10, none⟩ = some (.int .i64 0) := blk_cell H3.out 10
      have f8 : wO.frozen? ⟨g3, 8, none⟩ = false := blk_frozen H3.out 8
      have f9 : wO.frozen? ⟨g3, 9, none⟩ = false := blk_frozen H3.out 9
      have f10 : wO.frozen? ⟨g3, 10, none⟩ = false := blk_frozen H3.out 10
      go_wp2_with fail
      have hkr := fun W => (((KeepBut.refl W g3 none).set_ 8 (.int .i64 n)).set_ 9 (.int .i64 ep)).set_ 10 (.int .i64 by_)
      have H3N := Aside0.mk (show (World.setCell (World.setCell (World.setCell wO ⟨g3, 8, none⟩ (.int .i64 n)) ⟨g3, 9, none⟩ (.int .i64 ep)) ⟨g3, 10, none⟩ (.int .i64 by_)).heap[g3]? = some (.cells #[.int .i64 4, .int .i64 0, .int .i64 0, .int .i64 0, .string ⟨#[]⟩, .string ⟨#[]⟩, .int .i64 0, .int .i64 0, .int .i64 n, .int .i64 ep, .int .i64 by_, .slice none 0 0] 35 (0, 0)) from blk_put (blk_put (blk_put (H3.out) 8 (.int .i64 n) rfl) 9 (.int .i64 ep) rfl) 10 (.int .i64 by_) rfl)
      replace H2 := Aside0.mk ((hkr wO).blk H2.out HNE.out (by simp))
      replace HI := Aside0.mk (HI.out.keep (hkr wO) (HI.out.at_ne H3.out (by decide)) H3.out (by decide))
      replace HB := Aside0.mk (show Below w0.heap.size w0 (World.setCell (World.setCell (World.setCell wO ⟨g3, 8, none⟩ (.int .i64 n)) ⟨g3, 9, none⟩ (.int .i64 ep)) ⟨g3, 10, none⟩ (.int .i64 by_)) from below_set (below_set (below_set (HB.out) (Nat.le_trans HSZ.out HG3.out)) (Nat.le_trans HSZ.out HG3.out)) (Nat.le_trans HSZ.out HG3.out))
      replace HK := Aside0.mk (keep_new HK.out (hkr wO) HG3.out)
      clear H3
      have H3 := H3N
      clear H3N hkr
      generalize hWW : (World.setCell (World.setCell (World.setCell wO ⟨g3, 8, none⟩ (.int .i64 n)) ⟨g3, 9, none⟩ (.int .i64 ep)) ⟨g3, 10, none⟩ (.int .i64 by_)) = wP at H3 H2 HI HB HK ⊢
      clear hWW
      clear p8 p9 p10 f8 f9 f10
      refine (hch _ HI.out HB.out).mono ?_
      rintro ed1 wC ⟨vch, rfl, ho, hi, hbx, hk⟩
      obtain ⟨Ac, cc, rfl⟩ := Kd.R_slice ho
      have HCH := Aside0.mk (Kd.R_lower ho HK.out.1)
      clear ho
      replace H3 := Aside0.mk (hk.blk H3.out (HI.out.at_ne H3.out (by decide)) (by simp))
      replace H2 := Aside0.mk (hk.blk H2.out (HI.out.at_ne H2.out (by decide)) (by simp))
      replace HK := Aside0.mk (HK.out.trans hk (.inl rfl))
      replace HI := Aside0.mk hi
      replace HB := Aside0.mk hbx
      clear hi hbx hk hch
      have p11 : wC.cell? ⟨g3, 11, none⟩ = some (.slice none 0 0) := blk_cell H3.out 11
      have f11 : wC.frozen? ⟨g3, 11, none⟩ = false := blk_frozen H3.out 11
      go_wp2_with (first | ((with_reducible refine gate_dst (N := 35) rfl ?_); have hkr := fun W => (KeepBut.refl W g3 none).set_ 11 (.slice Ac ch.length cc); replace HCH := Aside0.mk (row_keep HCH.out (hkr wC) H3.out (by decide)); have H3N := Aside0.mk (show (World.setCell wC ⟨g3, 11, none⟩ (.slice Ac ch.length cc)).heap[g3]? = some (.cells #[.int .i64 4, .int .i64 0, .int .i64 0, .int .i64 0, .string ⟨#[]⟩, .string ⟨#[]⟩, .int .i64 0, .int .i64 0, .int .i64 n, .int .i64 ep, .int .i64 by_, .slice Ac ch.length cc] 35 (0, 0)) from blk_put (H3.out) 11 (.slice Ac ch.length cc) rfl); replace H2 := Aside0.mk ((hkr wC).blk H2.out HNE.out (by simp)); replace HI := Aside0.mk (HI.out.keep (hkr wC) (HI.out.at_ne H3.out (by decide)) H3.out (by decide)); replace HB := Aside0.mk (show Below w0.heap.size w0 (World.setCell wC ⟨g3, 11, none⟩ (.slice Ac ch.length cc)) from below_set (HB.out) (Nat.le_trans HSZ.out HG3.out)); replace HK := Aside0.mk (keep_new HK.out (hkr wC) HG3.out); clear H3; have H3 := H3N; clear H3N hkr; generalize hWW : (World.setCell wC ⟨g3, 11, none⟩ (.slice Ac ch.length cc)) = wP at H3 H2 HI HB HK HCH ⊢; clear hWW; clear p11 f11; refine wpList_load_row rfl 35 (.tmp 3) rfl g3 ?hx 35 #[.int .i64 4, .int .i64 0, .int .i64 0, .int .i64 0, .string ⟨#[]⟩, .string ⟨#[]⟩, .int .i64 0, .int .i64 0, .int .i64 n, .int .i64 ep, .int .i64 by_, .slice Ac ch.length cc] (0, 0) _ H3.out Try.underlying35 rfl (by kernel_rfl) ?_; (case hx => rfl)) | fail)
      refine (entry_Right.calls k 4 0 0 0 ⟨#[]⟩ ⟨#[]⟩ 0 0 n ep by_ Ac cc ch ok _ (Kd.R_reads' HCH.out).2.2 (Kd.R_reads' HCH.out).2.1 HR.out).mono ?_
      rintro e wR ⟨rfl, hb⟩
      replace HCH := Aside0.mk (Kd.R_below HCH.out hb)
      replace H2 := Aside0.mk (blk_below H2.out hb)
      replace H3 := Aside0.mk (blk_below H3.out hb)
      replace HI := Aside0.mk (HI.out.below hb)
      replace HK := Aside0.mk (HK.out.trans (KeepBut.of_below hb g none) (.inl rfl))
      replace HB := Aside0.mk (below_then HB.out HB.out.size hb)
      clear hb
      cases ok
      focus
        go_wp2_with fail
        refine (wire_Reader_Fail.calls g l2 e2 true 21 w0 _ HI.out HB.out).mono ?_
        rintro e1 wF ⟨rfl, hi, hbx, hk⟩
        replace H2 := Aside0.mk (hk.blk H2.out (HI.out.at_ne H2.out (by decide)) (by simp))
        replace HK := Aside0.mk (HK.out.trans hk (.inl rfl))
        replace HB := Aside0.mk hbx
        have hz2 : (if rdOk e2 true = true then (21 : Int) else e2) = z := by
          rw [HZ.out]
          unfold tkE rdOk
          by_cases q : e2 = 0 <;> simp [q]
        rw [hz2] at hi
        replace HI := Aside0.mk hi
        have hz0 : z ≠ 0 := by
          rw [HZ.out]
          unfold tkE
          by_cases q : e2 = 0 <;> simp [q]
        have HZ0 := Aside0.mk hz0
        clear hi hbx hk hz2 hz0
        go_wp2_with fail
        refine (wire_Reader_Err.calls g l2 z true w0 _ HI.out).mono ?_
        rintro e2 wE ⟨rfl, rfl⟩
        rw [if_pos (rfl : true = true)]
        have hzb : (z != 0) = true := bne_iff_ne.mpr HZ0.out
        obtain rfl : out = ERow.zero := HO.out.trans (if_neg HZ0.out)
        clear HO
        go_wp2_with (first | ((with_reducible refine gate_store (t := 35) (p := 2) rfl ?_); refine wpList_store_row rfl 35 (.tmp 2) (.tmp 43) rfl g2 #[.int .i64 0, .int .i64 0, .int .i64 0, .int .i64 0, .string ⟨#[]⟩, .string ⟨#[]⟩, .int .i64 0, .int .i64 0, .int .i64 0, .int .i64 0, .int .i64 0, .slice none 0 0] ?hx ?hy 35 _ H2.out (by kernel_rfl) rfl (by simp [Value.oneCell']) ?_; (case hx => rfl); (case hy => rfl)) | fail)
        have hkr_ := fun W => keep_row (KeepBut.refl W g2 none) #[.int .i64 0, .int .i64 0, .int .i64 0, .int .i64 0, .string ⟨#[]⟩, .string ⟨#[]⟩, .int .i64 0, .int .i64 0, .int .i64 0, .int .i64 0, .int .i64 0, .slice none 0 0]
        exact bodyPost_ret (results_cell_row rfl _ _ g2 35 #[.int .i64 0, .int .i64 0, .int .i64 0, .int .i64 0, .string ⟨#[]⟩, .string ⟨#[]⟩, .int .i64 0, .int .i64 0, .int .i64 0, .int .i64 0, .int .i64 0, .slice none 0 0] (0, 0) _ rfl (setRow_heap _ _ _ #[.int .i64 0, .int .i64 0, .int .i64 0, .int .i64 0, .string ⟨#[]⟩, .string ⟨#[]⟩, .int .i64 0, .int .i64 0, .int .i64 0, .int .i64 0, .int .i64 0, .slice none 0 0] _ _ H2.out) Try.underlying35 rfl rfl) rfl ⟨_, rfl, Kd.R_nil _ _ _ _ _, HI.out.keep (hkr_ _) (HI.out.at_ne H2.out (by decide)) H2.out (by decide), below_row HB.out (Nat.le_trans HSZ.out HG2.out) _, keep_new HK.out (hkr_ _) HG2.out⟩
      have hz2 : z = e2 := HZ.out
      rw [← hz2] at HI
      clear hz2
      go_wp2_with fail
      refine (wire_Reader_Err.calls g l2 z true w0 _ HI.out).mono ?_
      rintro e2 wE ⟨rfl, rfl⟩
      rw [if_pos (rfl : true = true)]
      by_cases hz0 : z = 0
      focus
        have hzb : (z != 0) = false := by rw [hz0]; rfl
        obtain rfl := HO.out.trans (if_pos hz0)
        clear HO hz0
        go_wp2_with (first | ((with_reducible refine gate_dst (N := 44) rfl ?_); refine wpList_load_row rfl 35 (.tmp 3) rfl g3 ?hx 35 #[.int .i64 4, .int .i64 0, .int .i64 0, .int .i64 0, .string ⟨#[]⟩, .string ⟨#[]⟩, .int .i64 0, .int .i64 0, .int .i64 n, .int .i64 ep, .int .i64 by_, .slice Ac ch.length cc] (0, 0) _ H3.out Try.underlying35 rfl (by kernel_rfl) ?_; (case hx => rfl)) | ((with_reducible refine gate_store (t := 35) (p := 2) rfl ?_); refine wpList_store_row rfl 35 (.tmp 2) (.tmp 44) rfl g2 #[.int .i64 4, .int .i64 0, .int .i64 0, .int .i64 0, .string ⟨#[]⟩, .string ⟨#[]⟩, .int .i64 0, .int .i64 0, .int .i64 n, .int .i64 ep, .int .i64 by_, .slice Ac ch.length cc] ?hx ?hy 35 _ H2.out (by kernel_rfl) rfl (by simp [Value.oneCell']) ?_; (case hx => rfl); (case hy => rfl)) | fail)
        have hkr_ := fun W => keep_row (KeepBut.refl W g2 none) #[.int .i64 4, .int .i64 0, .int .i64 0, .int .i64 0, .string ⟨#[]⟩, .string ⟨#[]⟩, .int .i64 0, .int .i64 0, .int .i64 n, .int .i64 ep, .int .i64 by_, .slice Ac ch.length cc]
        exact bodyPost_ret (results_cell_row rfl _ _ g2 35 #[.int .i64 4, .int .i64 0, .int .i64 0, .int .i64 0, .string ⟨#[]⟩, .string ⟨#[]⟩, .int .i64 0, .int .i64 0, .int .i64 n, .int .i64 ep, .int .i64 by_, .slice Ac ch.length cc] (0, 0) _ rfl (setRow_heap _ _ _ #[.int .i64 4, .int .i64 0, .int .i64 0, .int .i64 0, .string ⟨#[]⟩, .string ⟨#[]⟩, .int .i64 0, .int .i64 0, .int .i64 n, .int .i64 ep, .int .i64 by_, .slice Ac ch.length cc] _ _ H2.out) Try.underlying35 rfl rfl) rfl ⟨_, rfl, row_keep HCH.out (hkr_ _) H2.out (by decide), HI.out.keep (hkr_ _) (HI.out.at_ne H2.out (by decide)) H2.out (by decide), below_row HB.out (Nat.le_trans HSZ.out HG2.out) _, keep_new HK.out (hkr_ _) HG2.out⟩
      have hzb : (z != 0) = true := bne_iff_ne.mpr hz0
      obtain rfl : out = ERow.zero := HO.out.trans (if_neg hz0)
      clear HO hz0
      go_wp2_with (first | ((with_reducible refine gate_store (t := 35) (p := 2) rfl ?_); refine wpList_store_row rfl 35 (.tmp 2) (.tmp 43) rfl g2 #[.int .i64 0, .int .i64 0, .int .i64 0, .int .i64 0, .string ⟨#[]⟩, .string ⟨#[]⟩, .int .i64 0, .int .i64 0, .int .i64 0, .int .i64 0, .int .i64 0, .slice none 0 0] ?hx ?hy 35 _ H2.out (by kernel_rfl) rfl (by simp [Value.oneCell']) ?_; (case hx => rfl); (case hy => rfl)) | fail)
      have hkr_ := fun W => keep_row (KeepBut.refl W g2 none) #[.int .i64 0, .int .i64 0, .int .i64 0, .int .i64 0, .string ⟨#[]⟩, .string ⟨#[]⟩, .int .i64 0, .int .i64 0, .int .i64 0, .int .i64 0, .int .i64 0, .slice none 0 0]
      exact bodyPost_ret (results_cell_row rfl _ _ g2 35 #[.int .i64 0, .int .i64 0, .int .i64 0, .int .i64 0, .string ⟨#[]⟩, .string ⟨#[]⟩, .int .i64 0, .int .i64 0, .int .i64 0, .int .i64 0, .int .i64 0, .slice none 0 0] (0, 0) _ rfl (setRow_heap _ _ _ #[.int .i64 0, .int .i64 0, .int .i64 0, .int .i64 0, .string ⟨#[]⟩, .string ⟨#[]⟩, .int .i64 0, .int .i64 0, .int .i64 0, .int .i64 0, .int .i64 0, .slice none 0 0] _ _ H2.out) Try.underlying35 rfl rfl) rfl ⟨_, rfl, Kd.R_nil _ _ _ _ _, HI.out.keep (hkr_ _) (HI.out.at_ne H2.out (by decide)) H2.out (by decide), below_row HB.out (Nat.le_trans HSZ.out HG2.out) _, keep_new HK.out (hkr_ _) HG2.out⟩
    · as_aux_lemma =>
      go_wp2_with (first | ((with_reducible refine gate_dst (N := 3) rfl ?_); refine box_event ?hg (N := 3) ?hd (cs := #[.int .i64 0, .int .i64 0, .int .i64 0, .int .i64 0, .string ⟨#[]⟩, .string ⟨#[]⟩, .int .i64 0, .int .i64 0, .int .i64 0, .int .i64 0, .int .i64 0, .slice none 0 0]) (t := 35) ?hr ?_; (case hd => rfl); (case hg => rfl); (case hr => first | (go_simp; done) | (go_simp; rfl)); intro g3 hg w3 hbox hb; have H3 := Aside0.mk hbox; have HNE := Aside0.mk (show g2 ≠ g3 by have := blk_lt H2.out; omega); have HG3 := Aside0.mk (show w.heap.size ≤ g3 by rw [hg]; exact HK.out.1); replace H2 := Aside0.mk (blk_below H2.out hb); replace HI := Aside0.mk (HI.out.below hb); replace HK := Aside0.mk (HK.out.trans (KeepBut.of_below hb g none) (.inl rfl)); replace HB := Aside0.mk (below_then HB.out HB.out.size hb); clear hbox hb hg) | ((with_reducible refine gate_store (t := 35) (p := 3) rfl ?_); refine wpList_store_row rfl 35 (.tmp 3) (.tmp 6) rfl g3 #[.int .i64 5, .int .i64 0, .int .i64 0, .int .i64 0, .string ⟨#[]⟩, .string ⟨#[]⟩, .int .i64 0, .int .i64 0, .int .i64 0, .int .i64 0, .int .i64 0, .slice none 0 0] ?hx ?hy 35 _ H3.out (by kernel_rfl) rfl (by simp [Value.oneCell']) ?_; (case hx => rfl); (case hy => rfl); have H3N := Aside0.mk (setRow_heap _ g3 _ #[.int .i64 5, .int .i64 0, .int .i64 0, .int .i64 0, .string ⟨#[]⟩, .string ⟨#[]⟩, .int .i64 0, .int .i64 0, .int .i64 0, .int .i64 0, .int .i64 0, .slice none 0 0] _ _ H3.out); have hkr := keep_row (KeepBut.refl w3 g3 none) #[.int .i64 5, .int .i64 0, .int .i64 0, .int .i64 0, .string ⟨#[]⟩, .string ⟨#[]⟩, .int .i64 0, .int .i64 0, .int .i64 0, .int .i64 0, .int .i64 0, .slice none 0 0]; replace H2 := Aside0.mk (hkr.blk H2.out HNE.out (by simp)); replace HI := Aside0.mk (HI.out.keep hkr (HI.out.at_ne H3.out (by decide)) H3.out (by decide)); replace HB := Aside0.mk (below_row HB.out (Nat.le_trans HSZ.out HG3.out) #[.int .i64 5, .int .i64 0, .int .i64 0, .int .i64 0, .string ⟨#[]⟩, .string ⟨#[]⟩, .int .i64 0, .int .i64 0, .int .i64 0, .int .i64 0, .int .i64 0, .slice none 0 0]); replace HK := Aside0.mk (keep_new HK.out hkr HG3.out); generalize w3.setRow g3 #[.int .i64 5, .int .i64 0, .int .i64 0, .int .i64 0, .string ⟨#[]⟩, .string ⟨#[]⟩, .int .i64 0, .int .i64 0, .int .i64 0, .int .i64 0, .int .i64 0, .slice none 0 0] = w4 at H3N H2 HI HB HK ⊢; clear H3 hkr; have H3 := H3N; clear H3N; have c0 : w4.cell? ⟨g3, 0, none⟩ = some (.int .i64 5) := blk_cell H3.out 0) | fail)
      obtain ⟨n, ep, by_, ch, l3, e3, l4, e4, l5, e5, rfl, hn, hep, hby, hch⟩ := hsel
      have hq := wire_Reader_Num.calls g l1 e1 true w0 _ HI.out HB.out
      rw [hn] at hq
      dsimp only at hq
      refine hq.mono ?_
      clear hq
      rintro ed1 wN1 ⟨rfl, hi, hbx, hk⟩
      replace H3 := Aside0.mk (hk.blk H3.out (HI.out.at_ne H3.out (by decide)) (by simp))
      replace H2 := Aside0.mk (hk.blk H2.out (HI.out.at_ne H2.out (by decide)) (by simp))
      replace HK := Aside0.mk (HK.out.trans hk (.inl rfl))
      replace HI := Aside0.mk hi
      replace HB := Aside0.mk hbx
      clear hi hbx hk
      clear c0
      go_wp2_with fail
      have hq := wire_Reader_Num.calls g l3 e3 true w0 _ HI.out HB.out
      rw [hep] at hq
      dsimp only at hq
      refine hq.mono ?_
      clear hq
      rintro ed1 wN2 ⟨rfl, hi, hbx, hk⟩
      replace H3 := Aside0.mk (hk.blk H3.out (HI.out.at_ne H3.out (by decide)) (by simp))
      replace H2 := Aside0.mk (hk.blk H2.out (HI.out.at_ne H2.out (by decide)) (by simp))
      replace HK := Aside0.mk (HK.out.trans hk (.inl rfl))
      replace HI := Aside0.mk hi
      replace HB := Aside0.mk hbx
      clear hi hbx hk
      go_wp2_with fail
      have hq := wire_Reader_Num.calls g l4 e4 true w0 _ HI.out HB.out
      rw [hby] at hq
      dsimp only at hq
      refine hq.mono ?_
      clear hq
      rintro ed1 wO ⟨rfl, hi, hbx, hk⟩
      replace H3 := Aside0.mk (hk.blk H3.out (HI.out.at_ne H3.out (by decide)) (by simp))
      replace H2 := Aside0.mk (hk.blk H2.out (HI.out.at_ne H2.out (by decide)) (by simp))
      replace HK := Aside0.mk (HK.out.trans hk (.inl rfl))
      replace HI := Aside0.mk hi
      replace HB := Aside0.mk hbx
      clear hi hbx hk
      have p8 : wO.cell? ⟨g3, 8, none⟩ = some (.int .i64 0) := blk_cell H3.out 8
      have p9 : wO.cell? ⟨g3, 9, none⟩ = some (.int .i64 0) := blk_cell H3.out 9
      have p10 : wO.cell? ⟨g3, 10, none⟩ = some (.int .i64 0) := blk_cell H3.out 10
      have f8 : wO.frozen? ⟨g3, 8, none⟩ = false := blk_frozen H3.out 8
      have f9 : wO.frozen? ⟨g3, 9, none⟩ = false := blk_frozen H3.out 9
      have f10 : wO.frozen? ⟨g3, 10, none⟩ = false := blk_frozen H3.out 10
      go_wp2_with fail
      have hkr := fun W => (((KeepBut.refl W g3 none).set_ 8 (.int .i64 n)).set_ 9 (.int .i64 ep)).set_ 10 (.int .i64 by_)
      have H3N := Aside0.mk (show (World.setCell (World.setCell (World.setCell wO ⟨g3, 8, none⟩ (.int .i64 n)) ⟨g3, 9, none⟩ (.int .i64 ep)) ⟨g3, 10, none⟩ (.int .i64 by_)).heap[g3]? = some (.cells #[.int .i64 5, .int .i64 0, .int .i64 0, .int .i64 0, .string ⟨#[]⟩, .string ⟨#[]⟩, .int .i64 0, .int .i64 0, .int .i64 n, .int .i64 ep, .int .i64 by_, .slice none 0 0] 35 (0, 0)) from blk_put (blk_put (blk_put (H3.out) 8 (.int .i64 n) rfl) 9 (.int .i64 ep) rfl) 10 (.int .i64 by_) rfl)
      replace H2 := Aside0.mk ((hkr wO).blk H2.out HNE.out (by simp))
      replace HI := Aside0.mk (HI.out.keep (hkr wO) (HI.out.at_ne H3.out (by decide)) H3.out (by decide))
      replace HB := Aside0.mk (show Below w0.heap.size w0 (World.setCell (World.setCell (World.setCell wO ⟨g3, 8, none⟩ (.int .i64 n)) ⟨g3, 9, none⟩ (.int .i64 ep)) ⟨g3, 10, none⟩ (.int .i64 by_)) from below_set (below_set (below_set (HB.out) (Nat.le_trans HSZ.out HG3.out)) (Nat.le_trans HSZ.out HG3.out)) (Nat.le_trans HSZ.out HG3.out))
      replace HK := Aside0.mk (keep_new HK.out (hkr wO) HG3.out)
      clear H3
      have H3 := H3N
      clear H3N hkr
      generalize hWW : (World.setCell (World.setCell (World.setCell wO ⟨g3, 8, none⟩ (.int .i64 n)) ⟨g3, 9, none⟩ (.int .i64 ep)) ⟨g3, 10, none⟩ (.int .i64 by_)) = wP at H3 H2 HI HB HK ⊢
      clear hWW
      clear p8 p9 p10 f8 f9 f10
      refine (hch _ HI.out HB.out).mono ?_
      rintro ed1 wC ⟨vch, rfl, ho, hi, hbx, hk⟩
      obtain ⟨Ac, cc, rfl⟩ := Kd.R_slice ho
      have HCH := Aside0.mk (Kd.R_lower ho HK.out.1)
      clear ho
      replace H3 := Aside0.mk (hk.blk H3.out (HI.out.at_ne H3.out (by decide)) (by simp))
      replace H2 := Aside0.mk (hk.blk H2.out (HI.out.at_ne H2.out (by decide)) (by simp))
      replace HK := Aside0.mk (HK.out.trans hk (.inl rfl))
      replace HI := Aside0.mk hi
      replace HB := Aside0.mk hbx
      clear hi hbx hk hch
      have p11 : wC.cell? ⟨g3, 11, none⟩ = some (.slice none 0 0) := blk_cell H3.out 11
      have f11 : wC.frozen? ⟨g3, 11, none⟩ = false := blk_frozen H3.out 11
      go_wp2_with (first | ((with_reducible refine gate_dst (N := 35) rfl ?_); have hkr := fun W => (KeepBut.refl W g3 none).set_ 11 (.slice Ac ch.length cc); replace HCH := Aside0.mk (row_keep HCH.out (hkr wC) H3.out (by decide)); have H3N := Aside0.mk (show (World.setCell wC ⟨g3, 11, none⟩ (.slice Ac ch.length cc)).heap[g3]? = some (.cells #[.int .i64 5, .int .i64 0, .int .i64 0, .int .i64 0, .string ⟨#[]⟩, .string ⟨#[]⟩, .int .i64 0, .int .i64 0, .int .i64 n, .int .i64 ep, .int .i64 by_, .slice Ac ch.length cc] 35 (0, 0)) from blk_put (H3.out) 11 (.slice Ac ch.length cc) rfl); replace H2 := Aside0.mk ((hkr wC).blk H2.out HNE.out (by simp)); replace HI := Aside0.mk (HI.out.keep (hkr wC) (HI.out.at_ne H3.out (by decide)) H3.out (by decide)); replace HB := Aside0.mk (show Below w0.heap.size w0 (World.setCell wC ⟨g3, 11, none⟩ (.slice Ac ch.length cc)) from below_set (HB.out) (Nat.le_trans HSZ.out HG3.out)); replace HK := Aside0.mk (keep_new HK.out (hkr wC) HG3.out); clear H3; have H3 := H3N; clear H3N hkr; generalize hWW : (World.setCell wC ⟨g3, 11, none⟩ (.slice Ac ch.length cc)) = wP at H3 H2 HI HB HK HCH ⊢; clear hWW; clear p11 f11; refine wpList_load_row rfl 35 (.tmp 3) rfl g3 ?hx 35 #[.int .i64 5, .int .i64 0, .int .i64 0, .int .i64 0, .string ⟨#[]⟩, .string ⟨#[]⟩, .int .i64 0, .int .i64 0, .int .i64 n, .int .i64 ep, .int .i64 by_, .slice Ac ch.length cc] (0, 0) _ H3.out Try.underlying35 rfl (by kernel_rfl) ?_; (case hx => rfl)) | fail)
      refine (entry_Right.calls k 5 0 0 0 ⟨#[]⟩ ⟨#[]⟩ 0 0 n ep by_ Ac cc ch ok _ (Kd.R_reads' HCH.out).2.2 (Kd.R_reads' HCH.out).2.1 HR.out).mono ?_
      rintro e wR ⟨rfl, hb⟩
      replace HCH := Aside0.mk (Kd.R_below HCH.out hb)
      replace H2 := Aside0.mk (blk_below H2.out hb)
      replace H3 := Aside0.mk (blk_below H3.out hb)
      replace HI := Aside0.mk (HI.out.below hb)
      replace HK := Aside0.mk (HK.out.trans (KeepBut.of_below hb g none) (.inl rfl))
      replace HB := Aside0.mk (below_then HB.out HB.out.size hb)
      clear hb
      cases ok
      focus
        go_wp2_with fail
        refine (wire_Reader_Fail.calls g l2 e2 true 21 w0 _ HI.out HB.out).mono ?_
        rintro e1 wF ⟨rfl, hi, hbx, hk⟩
        replace H2 := Aside0.mk (hk.blk H2.out (HI.out.at_ne H2.out (by decide)) (by simp))
        replace HK := Aside0.mk (HK.out.trans hk (.inl rfl))
        replace HB := Aside0.mk hbx
        have hz2 : (if rdOk e2 true = true then (21 : Int) else e2) = z := by
          rw [HZ.out]
          unfold tkE rdOk
          by_cases q : e2 = 0 <;> simp [q]
        rw [hz2] at hi
        replace HI := Aside0.mk hi
        have hz0 : z ≠ 0 := by
          rw [HZ.out]
          unfold tkE
          by_cases q : e2 = 0 <;> simp [q]
        have HZ0 := Aside0.mk hz0
        clear hi hbx hk hz2 hz0
        go_wp2_with fail
        refine (wire_Reader_Err.calls g l2 z true w0 _ HI.out).mono ?_
        rintro e2 wE ⟨rfl, rfl⟩
        rw [if_pos (rfl : true = true)]
        have hzb : (z != 0) = true := bne_iff_ne.mpr HZ0.out
        obtain rfl : out = ERow.zero := HO.out.trans (if_neg HZ0.out)
        clear HO
        go_wp2_with (first | ((with_reducible refine gate_store (t := 35) (p := 2) rfl ?_); refine wpList_store_row rfl 35 (.tmp 2) (.tmp 43) rfl g2 #[.int .i64 0, .int .i64 0, .int .i64 0, .int .i64 0, .string ⟨#[]⟩, .string ⟨#[]⟩, .int .i64 0, .int .i64 0, .int .i64 0, .int .i64 0, .int .i64 0, .slice none 0 0] ?hx ?hy 35 _ H2.out (by kernel_rfl) rfl (by simp [Value.oneCell']) ?_; (case hx => rfl); (case hy => rfl)) | fail)
        have hkr_ := fun W => keep_row (KeepBut.refl W g2 none) #[.int .i64 0, .int .i64 0, .int .i64 0, .int .i64 0, .string ⟨#[]⟩, .string ⟨#[]⟩, .int .i64 0, .int .i64 0, .int .i64 0, .int .i64 0, .int .i64 0, .slice none 0 0]
        exact bodyPost_ret (results_cell_row rfl _ _ g2 35 #[.int .i64 0, .int .i64 0, .int .i64 0, .int .i64 0, .string ⟨#[]⟩, .string ⟨#[]⟩, .int .i64 0, .int .i64 0, .int .i64 0, .int .i64 0, .int .i64 0, .slice none 0 0] (0, 0) _ rfl (setRow_heap _ _ _ #[.int .i64 0, .int .i64 0, .int .i64 0, .int .i64 0, .string ⟨#[]⟩, .string ⟨#[]⟩, .int .i64 0, .int .i64 0, .int .i64 0, .int .i64 0, .int .i64 0, .slice none 0 0] _ _ H2.out) Try.underlying35 rfl rfl) rfl ⟨_, rfl, Kd.R_nil _ _ _ _ _, HI.out.keep (hkr_ _) (HI.out.at_ne H2.out (by decide)) H2.out (by decide), below_row HB.out (Nat.le_trans HSZ.out HG2.out) _, keep_new HK.out (hkr_ _) HG2.out⟩
      have hz2 : z = e2 := HZ.out
      rw [← hz2] at HI
      clear hz2
      go_wp2_with fail
      refine (wire_Reader_Err.calls g l2 z true w0 _ HI.out).mono ?_
      rintro e2 wE ⟨rfl, rfl⟩
      rw [if_pos (rfl : true = true)]
      by_cases hz0 : z = 0
      focus
        have hzb : (z != 0) = false := by rw [hz0]; rfl
        obtain rfl := HO.out.trans (if_pos hz0)
        clear HO hz0
        go_wp2_with (first | ((with_reducible refine gate_dst (N := 44) rfl ?_); refine wpList_load_row rfl 35 (.tmp 3) rfl g3 ?hx 35 #[.int .i64 5, .int .i64 0, .int .i64 0, .int .i64 0, .string ⟨#[]⟩, .string ⟨#[]⟩, .int .i64 0, .int .i64 0, .int .i64 n, .int .i64 ep, .int .i64 by_, .slice Ac ch.length cc] (0, 0) _ H3.out Try.underlying35 rfl (by kernel_rfl) ?_; (case hx => rfl)) | ((with_reducible refine gate_store (t := 35) (p := 2) rfl ?_); refine wpList_store_row rfl 35 (.tmp 2) (.tmp 44) rfl g2 #[.int .i64 5, .int .i64 0, .int .i64 0, .int .i64 0, .string ⟨#[]⟩, .string ⟨#[]⟩, .int .i64 0, .int .i64 0, .int .i64 n, .int .i64 ep, .int .i64 by_, .slice Ac ch.length cc] ?hx ?hy 35 _ H2.out (by kernel_rfl) rfl (by simp [Value.oneCell']) ?_; (case hx => rfl); (case hy => rfl)) | fail)
        have hkr_ := fun W => keep_row (KeepBut.refl W g2 none) #[.int .i64 5, .int .i64 0, .int .i64 0, .int .i64 0, .string ⟨#[]⟩, .string ⟨#[]⟩, .int .i64 0, .int .i64 0, .int .i64 n, .int .i64 ep, .int .i64 by_, .slice Ac ch.length cc]
        exact bodyPost_ret (results_cell_row rfl _ _ g2 35 #[.int .i64 5, .int .i64 0, .int .i64 0, .int .i64 0, .string ⟨#[]⟩, .string ⟨#[]⟩, .int .i64 0, .int .i64 0, .int .i64 n, .int .i64 ep, .int .i64 by_, .slice Ac ch.length cc] (0, 0) _ rfl (setRow_heap _ _ _ #[.int .i64 5, .int .i64 0, .int .i64 0, .int .i64 0, .string ⟨#[]⟩, .string ⟨#[]⟩, .int .i64 0, .int .i64 0, .int .i64 n, .int .i64 ep, .int .i64 by_, .slice Ac ch.length cc] _ _ H2.out) Try.underlying35 rfl rfl) rfl ⟨_, rfl, row_keep HCH.out (hkr_ _) H2.out (by decide), HI.out.keep (hkr_ _) (HI.out.at_ne H2.out (by decide)) H2.out (by decide), below_row HB.out (Nat.le_trans HSZ.out HG2.out) _, keep_new HK.out (hkr_ _) HG2.out⟩
      have hzb : (z != 0) = true := bne_iff_ne.mpr hz0
      obtain rfl : out = ERow.zero := HO.out.trans (if_neg hz0)
      clear HO hz0
      go_wp2_with (first | ((with_reducible refine gate_store (t := 35) (p := 2) rfl ?_); refine wpList_store_row rfl 35 (.tmp 2) (.tmp 43) rfl g2 #[.int .i64 0, .int .i64 0, .int .i64 0, .int .i64 0, .string ⟨#[]⟩, .string ⟨#[]⟩, .int .i64 0, .int .i64 0, .int .i64 0, .int .i64 0, .int .i64 0, .slice none 0 0] ?hx ?hy 35 _ H2.out (by kernel_rfl) rfl (by simp [Value.oneCell']) ?_; (case hx => rfl); (case hy => rfl)) | fail)
      have hkr_ := fun W => keep_row (KeepBut.refl W g2 none) #[.int .i64 0, .int .i64 0, .int .i64 0, .int .i64 0, .string ⟨#[]⟩, .string ⟨#[]⟩, .int .i64 0, .int .i64 0, .int .i64 0, .int .i64 0, .int .i64 0, .slice none 0 0]
      exact bodyPost_ret (results_cell_row rfl _ _ g2 35 #[.int .i64 0, .int .i64 0, .int .i64 0, .int .i64 0, .string ⟨#[]⟩, .string ⟨#[]⟩, .int .i64 0, .int .i64 0, .int .i64 0, .int .i64 0, .int .i64 0, .slice none 0 0] (0, 0) _ rfl (setRow_heap _ _ _ #[.int .i64 0, .int .i64 0, .int .i64 0, .int .i64 0, .string ⟨#[]⟩, .string ⟨#[]⟩, .int .i64 0, .int .i64 0, .int .i64 0, .int .i64 0, .int .i64 0, .slice none 0 0] _ _ H2.out) Try.underlying35 rfl rfl) rfl ⟨_, rfl, Kd.R_nil _ _ _ _ _, HI.out.keep (hkr_ _) (HI.out.at_ne H2.out (by decide)) H2.out (by decide), below_row HB.out (Nat.le_trans HSZ.out HG2.out) _, keep_new HK.out (hkr_ _) HG2.out⟩
  · clear HWAY
    obtain ⟨q1, q2, q3, q4, q5⟩ := hkd
    have d1 : (kd == 1) = false := beq_eq_false_iff_ne.mpr q1
    have d2 : (kd == 2) = false := beq_eq_false_iff_ne.mpr q2
    have d3 : (kd == 3) = false := beq_eq_false_iff_ne.mpr q3
    have d4 : (kd == 4) = false := beq_eq_false_iff_ne.mpr q4
    have d5 : (kd == 5) = false := beq_eq_false_iff_ne.mpr q5
    clear q1 q2 q3 q4 q5
    as_aux_lemma =>
    obtain ⟨rfl, rfl, rfl⟩ := hsel
    go_wp2_with (first | ((with_reducible refine gate_dst (N := 3) rfl ?_); refine box_event ?hg (N := 3) ?hd (cs := #[.int .i64 0, .int .i64 0, .int .i64 0, .int .i64 0, .string ⟨#[]⟩, .string ⟨#[]⟩, .int .i64 0, .int .i64 0, .int .i64 0, .int .i64 0, .int .i64 0, .slice none 0 0]) (t := 35) ?hr ?_; (case hd => rfl); (case hg => rfl); (case hr => first | (go_simp; done) | (go_simp; rfl)); intro g3 hg w3 hbox hb; have H3 := Aside0.mk hbox; have HNE := Aside0.mk (show g2 ≠ g3 by have := blk_lt H2.out; omega); have HG3 := Aside0.mk (show w.heap.size ≤ g3 by rw [hg]; exact HK.out.1); replace H2 := Aside0.mk (blk_below H2.out hb); replace HI := Aside0.mk (HI.out.below hb); replace HK := Aside0.mk (HK.out.trans (KeepBut.of_below hb g none) (.inl rfl)); replace HB := Aside0.mk (below_then HB.out HB.out.size hb); clear hbox hb hg) | ((with_reducible refine gate_store (t := 35) (p := 3) rfl ?_); refine wpList_store_row rfl 35 (.tmp 3) (.tmp 6) rfl g3 #[.int .i64 kd, .int .i64 0, .int .i64 0, .int .i64 0, .string ⟨#[]⟩, .string ⟨#[]⟩, .int .i64 0, .int .i64 0, .int .i64 0, .int .i64 0, .int .i64 0, .slice none 0 0] ?hx ?hy 35 _ H3.out (by kernel_rfl) rfl (by simp [Value.oneCell']) ?_; (case hx => rfl); (case hy => rfl); have H3N := Aside0.mk (setRow_heap _ g3 _ #[.int .i64 kd, .int .i64 0, .int .i64 0, .int .i64 0, .string ⟨#[]⟩, .string ⟨#[]⟩, .int .i64 0, .int .i64 0, .int .i64 0, .int .i64 0, .int .i64 0, .slice none 0 0] _ _ H3.out); have hkr := keep_row (KeepBut.refl w3 g3 none) #[.int .i64 kd, .int .i64 0, .int .i64 0, .int .i64 0, .string ⟨#[]⟩, .string ⟨#[]⟩, .int .i64 0, .int .i64 0, .int .i64 0, .int .i64 0, .int .i64 0, .slice none 0 0]; replace H2 := Aside0.mk (hkr.blk H2.out HNE.out (by simp)); replace HI := Aside0.mk (HI.out.keep hkr (HI.out.at_ne H3.out (by decide)) H3.out (by decide)); replace HB := Aside0.mk (below_row HB.out (Nat.le_trans HSZ.out HG3.out) #[.int .i64 kd, .int .i64 0, .int .i64 0, .int .i64 0, .string ⟨#[]⟩, .string ⟨#[]⟩, .int .i64 0, .int .i64 0, .int .i64 0, .int .i64 0, .int .i64 0, .slice none 0 0]); replace HK := Aside0.mk (keep_new HK.out hkr HG3.out); generalize w3.setRow g3 #[.int .i64 kd, .int .i64 0, .int .i64 0, .int .i64 0, .string ⟨#[]⟩, .string ⟨#[]⟩, .int .i64 0, .int .i64 0, .int .i64 0, .int .i64 0, .int .i64 0, .slice none 0 0] = w4 at H3N H2 HI HB HK ⊢; clear H3 hkr; have H3 := H3N; clear H3N; have c0 : w4.cell? ⟨g3, 0, none⟩ = some (.int .i64 kd) := blk_cell H3.out 0) | ((with_reducible refine gate_dst (N := 35) rfl ?_); refine wpList_load_row rfl 35 (.tmp 3) rfl g3 ?hx 35 #[.int .i64 kd, .int .i64 0, .int .i64 0, .int .i64 0, .string ⟨#[]⟩, .string ⟨#[]⟩, .int .i64 0, .int .i64 0, .int .i64 0, .int .i64 0, .int .i64 0, .slice none 0 0] (0, 0) _ H3.out Try.underlying35 rfl (by kernel_rfl) ?_; (case hx => rfl)) | fail)
    refine (entry_Right.calls k kd 0 0 0 ⟨#[]⟩ ⟨#[]⟩ 0 0 0 0 0 none 0 [] ok _ (Kd.C_nil _ _) (Nat.le_refl _) HR.out).mono ?_
    rintro e wR ⟨rfl, hb⟩
    replace H2 := Aside0.mk (blk_below H2.out hb)
    replace H3 := Aside0.mk (blk_below H3.out hb)
    replace HI := Aside0.mk (HI.out.below hb)
    replace HK := Aside0.mk (HK.out.trans (KeepBut.of_below hb g none) (.inl rfl))
    replace HB := Aside0.mk (below_then HB.out HB.out.size hb)
    clear hb
    cases ok
    focus
      go_wp2_with fail
      refine (wire_Reader_Fail.calls g l2 e2 true 21 w0 _ HI.out HB.out).mono ?_
      rintro e1 wF ⟨rfl, hi, hbx, hk⟩
      replace H2 := Aside0.mk (hk.blk H2.out (HI.out.at_ne H2.out (by decide)) (by simp))
      replace HK := Aside0.mk (HK.out.trans hk (.inl rfl))
      replace HB := Aside0.mk hbx
      have hz2 : (if rdOk e2 true = true then (21 : Int) else e2) = z := by
        rw [HZ.out]
        unfold tkE rdOk
        by_cases q : e2 = 0 <;> simp [q]
      rw [hz2] at hi
      replace HI := Aside0.mk hi
      have hz0 : z ≠ 0 := by
        rw [HZ.out]
        unfold tkE
        by_cases q : e2 = 0 <;> simp [q]
      have HZ0 := Aside0.mk hz0
      clear hi hbx hk hz2 hz0
      go_wp2_with fail
      refine (wire_Reader_Err.calls g l2 z true w0 _ HI.out).mono ?_
      rintro e2 wE ⟨rfl, rfl⟩
      rw [if_pos (rfl : true = true)]
      have hzb : (z != 0) = true := bne_iff_ne.mpr HZ0.out
      obtain rfl : out = ERow.zero := HO.out.trans (if_neg HZ0.out)
      clear HO
      go_wp2_with (first | ((with_reducible refine gate_store (t := 35) (p := 2) rfl ?_); refine wpList_store_row rfl 35 (.tmp 2) (.tmp 43) rfl g2 #[.int .i64 0, .int .i64 0, .int .i64 0, .int .i64 0, .string ⟨#[]⟩, .string ⟨#[]⟩, .int .i64 0, .int .i64 0, .int .i64 0, .int .i64 0, .int .i64 0, .slice none 0 0] ?hx ?hy 35 _ H2.out (by kernel_rfl) rfl (by simp [Value.oneCell']) ?_; (case hx => rfl); (case hy => rfl)) | fail)
      have hkr_ := fun W => keep_row (KeepBut.refl W g2 none) #[.int .i64 0, .int .i64 0, .int .i64 0, .int .i64 0, .string ⟨#[]⟩, .string ⟨#[]⟩, .int .i64 0, .int .i64 0, .int .i64 0, .int .i64 0, .int .i64 0, .slice none 0 0]
      exact bodyPost_ret (results_cell_row rfl _ _ g2 35 #[.int .i64 0, .int .i64 0, .int .i64 0, .int .i64 0, .string ⟨#[]⟩, .string ⟨#[]⟩, .int .i64 0, .int .i64 0, .int .i64 0, .int .i64 0, .int .i64 0, .slice none 0 0] (0, 0) _ rfl (setRow_heap _ _ _ #[.int .i64 0, .int .i64 0, .int .i64 0, .int .i64 0, .string ⟨#[]⟩, .string ⟨#[]⟩, .int .i64 0, .int .i64 0, .int .i64 0, .int .i64 0, .int .i64 0, .slice none 0 0] _ _ H2.out) Try.underlying35 rfl rfl) rfl ⟨_, rfl, Kd.R_nil _ _ _ _ _, HI.out.keep (hkr_ _) (HI.out.at_ne H2.out (by decide)) H2.out (by decide), below_row HB.out (Nat.le_trans HSZ.out HG2.out) _, keep_new HK.out (hkr_ _) HG2.out⟩
    have hz2 : z = e2 := HZ.out
    rw [← hz2] at HI
    clear hz2
    go_wp2_with fail
    refine (wire_Reader_Err.calls g l2 z true w0 _ HI.out).mono ?_
    rintro e2 wE ⟨rfl, rfl⟩
    rw [if_pos (rfl : true = true)]
    by_cases hz0 : z = 0
    focus
      have hzb : (z != 0) = false := by rw [hz0]; rfl
      obtain rfl := HO.out.trans (if_pos hz0)
      clear HO hz0
      go_wp2_with (first | ((with_reducible refine gate_dst (N := 44) rfl ?_); refine wpList_load_row rfl 35 (.tmp 3) rfl g3 ?hx 35 #[.int .i64 kd, .int .i64 0, .int .i64 0, .int .i64 0, .string ⟨#[]⟩, .string ⟨#[]⟩, .int .i64 0, .int .i64 0, .int .i64 0, .int .i64 0, .int .i64 0, .slice none 0 0] (0, 0) _ H3.out Try.underlying35 rfl (by kernel_rfl) ?_; (case hx => rfl)) | ((with_reducible refine gate_store (t := 35) (p := 2) rfl ?_); refine wpList_store_row rfl 35 (.tmp 2) (.tmp 44) rfl g2 #[.int .i64 kd, .int .i64 0, .int .i64 0, .int .i64 0, .string ⟨#[]⟩, .string ⟨#[]⟩, .int .i64 0, .int .i64 0, .int .i64 0, .int .i64 0, .int .i64 0, .slice none 0 0] ?hx ?hy 35 _ H2.out (by kernel_rfl) rfl (by simp [Value.oneCell']) ?_; (case hx => rfl); (case hy => rfl)) | fail)
      have hkr_ := fun W => keep_row (KeepBut.refl W g2 none) #[.int .i64 kd, .int .i64 0, .int .i64 0, .int .i64 0, .string ⟨#[]⟩, .string ⟨#[]⟩, .int .i64 0, .int .i64 0, .int .i64 0, .int .i64 0, .int .i64 0, .slice none 0 0]
      exact bodyPost_ret (results_cell_row rfl _ _ g2 35 #[.int .i64 kd, .int .i64 0, .int .i64 0, .int .i64 0, .string ⟨#[]⟩, .string ⟨#[]⟩, .int .i64 0, .int .i64 0, .int .i64 0, .int .i64 0, .int .i64 0, .slice none 0 0] (0, 0) _ rfl (setRow_heap _ _ _ #[.int .i64 kd, .int .i64 0, .int .i64 0, .int .i64 0, .string ⟨#[]⟩, .string ⟨#[]⟩, .int .i64 0, .int .i64 0, .int .i64 0, .int .i64 0, .int .i64 0, .slice none 0 0] _ _ H2.out) Try.underlying35 rfl rfl) rfl ⟨_, rfl, Kd.R_nil _ _ _ _ _, HI.out.keep (hkr_ _) (HI.out.at_ne H2.out (by decide)) H2.out (by decide), below_row HB.out (Nat.le_trans HSZ.out HG2.out) _, keep_new HK.out (hkr_ _) HG2.out⟩
    have hzb : (z != 0) = true := bne_iff_ne.mpr hz0
    obtain rfl : out = ERow.zero := HO.out.trans (if_neg hz0)
    clear HO hz0
    go_wp2_with (first | ((with_reducible refine gate_store (t := 35) (p := 2) rfl ?_); refine wpList_store_row rfl 35 (.tmp 2) (.tmp 43) rfl g2 #[.int .i64 0, .int .i64 0, .int .i64 0, .int .i64 0, .string ⟨#[]⟩, .string ⟨#[]⟩, .int .i64 0, .int .i64 0, .int .i64 0, .int .i64 0, .int .i64 0, .slice none 0 0] ?hx ?hy 35 _ H2.out (by kernel_rfl) rfl (by simp [Value.oneCell']) ?_; (case hx => rfl); (case hy => rfl)) | fail)
    have hkr_ := fun W => keep_row (KeepBut.refl W g2 none) #[.int .i64 0, .int .i64 0, .int .i64 0, .int .i64 0, .string ⟨#[]⟩, .string ⟨#[]⟩, .int .i64 0, .int .i64 0, .int .i64 0, .int .i64 0, .int .i64 0, .slice none 0 0]
    exact bodyPost_ret (results_cell_row rfl _ _ g2 35 #[.int .i64 0, .int .i64 0, .int .i64 0, .int .i64 0, .string ⟨#[]⟩, .string ⟨#[]⟩, .int .i64 0, .int .i64 0, .int .i64 0, .int .i64 0, .int .i64 0, .slice none 0 0] (0, 0) _ rfl (setRow_heap _ _ _ #[.int .i64 0, .int .i64 0, .int .i64 0, .int .i64 0, .string ⟨#[]⟩, .string ⟨#[]⟩, .int .i64 0, .int .i64 0, .int .i64 0, .int .i64 0, .int .i64 0, .slice none 0 0] _ _ H2.out) Try.underlying35 rfl rfl) rfl ⟨_, rfl, Kd.R_nil _ _ _ _ _, HI.out.keep (hkr_ _) (HI.out.at_ne H2.out (by decide)) H2.out (by decide), below_row HB.out (Nat.le_trans HSZ.out HG2.out) _, keep_new HK.out (hkr_ _) HG2.out⟩

end
end Go.Proofs.Ytampppdjfbabiaa.PE
