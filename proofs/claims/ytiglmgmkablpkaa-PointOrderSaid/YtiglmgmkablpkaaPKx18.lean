-- Written by a program of this session (wip/tools/hp.py) over the kit's print; nothing here is trusted: Lean checks it.
import Derived.RegionTactic
import Derived.BigRegion
import Derived.Laws.Rows
import Derived.Test.YtiglmgmkablpkaaPKx0
import Derived.Test.YtiglmgmkablpkaaPKx12
namespace Go.Proofs.Ytiglmgmkablpkaa.PK
open Go.RowKit Go.Proofs.YtiglmgmkablpkaaW.PrintWords Go.Proofs.YtiglmgmkablpkaaW.PrintLast Go.Proofs.YtiglmgmkablpkaaW.PrintMore
attribute [local go_sem] max2_int min2_int max_two min_two max_three min_three max_four min_four   -- for this text's walks alone
set_option linter.unusedVariables false
set_option linter.unusedSimpArgs false

--OWN Derived.RegionTactic,Derived.BigRegion,Derived.Laws.Rows
/-! ### point_Rec: function 47 -/
/-- A reader's error behind 'taken'. -/
def tkE (ok : Bool) (e : Int) : Int := if ok then e else if e = 0 then 21 else e
theorem keep_new {w W W2 : World} {g g6 : Nat} (hk : KeepBut w W g none) (hs : KeepBut W W2 g6 none) (h6 : w.heap.size ≤ g6) : KeepBut w W2 g none :=
  ⟨Nat.le_trans hk.1 hs.1, fun i hi hne hr => (hs.2 i (Nat.lt_of_lt_of_le hi hk.1) (by omega) (by simp)).trans (hk.2 i hi hne hr)⟩
theorem IsRdr.drew {w0 w : World} {g : Nat} {l : List Int} {e : Int} {m : Bool} (h : IsRdr w0 w g l e m) : IsRdr w0 w.drew g l e m := h.below (below_drew (Below.refl _ _))
theorem IsRdr.at_ne {w0 w : World} {g : Nat} {l : List Int} {e : Int} {m : Bool} (h : IsRdr w0 w g l e m) {g' : Nat} {cs : Array Value} {t : TypeId} (hg : w.heap[g']? = some (.cells cs t (0, 0))) (ht : t ≠ 81) : g' ≠ g := by
  obtain ⟨A, c, q1, _⟩ := h.blk
  exact blk_ne hg q1 ht
set_option maxHeartbeats 4000000 in
set_option maxRecDepth 100000 in
theorem point_Rec.calls (g : Nat) (l : List Int) (e : Int) (px : Int) (py : Int) (key : ByteArray) (val : ByteArray) (ver : Int) (ok : Bool) (w0 w : World) (hI : IsRdr w0 w g l e true) (hB : Below w0.heap.size w0 w) :
    Calls Try.prog 47 #[.pointer (some ⟨g, 0, none⟩), .agg #[.int .i64 px, .int .i64 py, .string key, .string val, .int .i64 ver], .bool ok] w fun ed w' => ed = .returned (.agg (if tkE ok e = 0 then #[.int .i64 px, .int .i64 py, .string key, .string val, .int .i64 ver] else #[.int .i64 0, .int .i64 0, .string ⟨#[]⟩, .string ⟨#[]⟩, .int .i64 0])) ∧ IsRdr w0 w' g l (tkE ok e) true ∧ Below w0.heap.size w0 w' ∧ KeepBut w w' g none := by
  have HI := Aside0.mk hI
  have HB := Aside0.mk hB
  have HK := Aside0.mk (KeepBut.refl w g none)
  have HSZ := Aside0.mk hB.size
  clear hI hB
  cases ok
  focus
    by_cases h0 : e = 0
    focus
      subst h0
      rw [show tkE false 0 = 21 from rfl, if_neg (by decide : ¬ (21 : Int) = 0)]
      go_enter Try.func47, Try.ntmps47
      go_wp2_with (first | ((with_reducible refine gate_dst (N := 4) rfl ?_); refine box_event ?hg (N := 4) ?hd (cs := #[.int .i64 px, .int .i64 py, .string key, .string val, .int .i64 ver]) (t := 34) ?hr ?_; (case hd => rfl); (case hg => rfl); (case hr => first | (go_simp; done) | (go_simp; rfl)); intro gx hg w4 hbox hb; have HX := Aside0.mk hbox; replace HI := Aside0.mk (HI.out.below hb); have HS6 := Aside0.mk (HK.out.1); replace HK := Aside0.mk (HK.out.trans (KeepBut.of_below hb g none) (.inl rfl)); replace HB := Aside0.mk (below_then HB.out HB.out.size hb); clear HS6; clear hbox hb hg) | ((with_reducible refine gate_dst (N := 6) rfl ?_); refine box_event ?hg (N := 6) ?hd (cs := #[.int .i64 0, .int .i64 0, .string ⟨#[]⟩, .string ⟨#[]⟩, .int .i64 0]) (t := 34) ?hr ?_; (case hd => rfl); (case hg => rfl); (case hr => first | (go_simp; done) | (go_simp; rfl)); intro g6 hg w6 hbox hb; have H6 := Aside0.mk hbox; replace HX := Aside0.mk (blk_below HX.out hb); have HG6 := Aside0.mk (show w.heap.size ≤ g6 by rw [hg]; exact HK.out.1); replace HI := Aside0.mk (HI.out.below hb); have HS6 := Aside0.mk (HK.out.1); replace HK := Aside0.mk (HK.out.trans (KeepBut.of_below hb g none) (.inl rfl)); replace HB := Aside0.mk (below_then HB.out HB.out.size hb); clear HS6; clear hbox hb hg) | fail)
      refine (wire_Reader_Fail.calls g l 0 true 21 w0 _ HI.out HB.out).mono ?_
      rintro e1 wF ⟨rfl, hi, hbx, hk⟩
      replace HX := Aside0.mk (hk.blk HX.out (HI.out.at_ne HX.out (by decide)) (by simp))
      replace H6 := Aside0.mk (hk.blk H6.out (HI.out.at_ne H6.out (by decide)) (by simp))
      replace HK := Aside0.mk (HK.out.trans hk (.inl rfl))
      replace HB := Aside0.mk hbx
      replace HI := Aside0.mk (show IsRdr w0 wF g l 21 true from hi)
      clear hi hbx hk
      go_wp2_with fail
      refine (wire_Reader_Err.calls g l 21 true w0 _ HI.out).mono ?_
      rintro e2 wE ⟨rfl, rfl⟩
      rw [if_pos (rfl : true = true)]
      go_wp2_with (first | ((with_reducible refine gate_dst (N := 7) rfl ?_); refine box_event ?hg (N := 7) ?hd (cs := #[.int .i64 0, .int .i64 0, .string ⟨#[]⟩, .string ⟨#[]⟩, .int .i64 0]) (t := 34) ?hr ?_; (case hd => rfl); (case hg => rfl); (case hr => first | (go_simp; done) | (go_simp; rfl)); intro g7 hg w7 hbox hb; replace HX := Aside0.mk (blk_below HX.out hb); replace H6 := Aside0.mk (blk_below H6.out hb); replace HI := Aside0.mk (HI.out.below hb); have HS6 := Aside0.mk (HK.out.1); replace HK := Aside0.mk (HK.out.trans (KeepBut.of_below hb g none) (.inl rfl)); replace HB := Aside0.mk (below_then HB.out HB.out.size hb); clear HS6; have z0 := blk_cell hbox 0; have z1 := blk_cell hbox 1; have z2 := blk_cell hbox 2; have z3 := blk_cell hbox 3; have z4 := blk_cell hbox 4; have s0 := blk_cell H6.out 0; have f0 := blk_frozen H6.out 0; have s1 := blk_cell H6.out 1; have f1 := blk_frozen H6.out 1; have s2 := blk_cell H6.out 2; have f2 := blk_frozen H6.out 2; have s3 := blk_cell H6.out 3; have f3 := blk_frozen H6.out 3; have s4 := blk_cell H6.out 4; have f4 := blk_frozen H6.out 4; clear hbox hb hg) | fail)
      exact bodyPost_ret (results_cell_row rfl _ _ g6 34 #[.int .i64 0, .int .i64 0, .string ⟨#[]⟩, .string ⟨#[]⟩, .int .i64 0] (0, 0) _ rfl (blk_put (blk_put (blk_put (blk_put (blk_put (H6.out) 0 (.int .i64 0) rfl) 1 (.int .i64 0) rfl) 2 (.string ⟨#[]⟩) rfl) 3 (.string ⟨#[]⟩) rfl) 4 (.int .i64 0) rfl) Try.underlying34 rfl rfl) rfl ⟨rfl, HI.out.keep ((((((KeepBut.refl _ g6 none).set_ 0 (.int .i64 0)).set_ 1 (.int .i64 0)).set_ 2 (.string ⟨#[]⟩)).set_ 3 (.string ⟨#[]⟩)).set_ 4 (.int .i64 0)) (HI.out.at_ne H6.out (by decide)) H6.out (by decide), below_set (below_set (below_set (below_set (below_set (HB.out) (Nat.le_trans HSZ.out HG6.out)) (Nat.le_trans HSZ.out HG6.out)) (Nat.le_trans HSZ.out HG6.out)) (Nat.le_trans HSZ.out HG6.out)) (Nat.le_trans HSZ.out HG6.out), keep_new HK.out ((((((KeepBut.refl _ g6 none).set_ 0 (.int .i64 0)).set_ 1 (.int .i64 0)).set_ 2 (.string ⟨#[]⟩)).set_ 3 (.string ⟨#[]⟩)).set_ 4 (.int .i64 0)) HG6.out⟩
    have he : tkE false e = e := if_neg h0
    have he1 : (e == 0) = false := beq_eq_false_iff_ne.mpr h0
    have he2 : (e != 0) = true := bne_iff_ne.mpr h0
    rw [he, if_neg h0]
    clear he
    have hr : (if rdOk e true = true then (21 : Int) else e) = e := if_neg (by unfold rdOk; rw [he1]; simp)
    have HR_ := Aside0.mk hr
    clear hr he1
    go_enter Try.func47, Try.ntmps47
    go_wp2_with (first | ((with_reducible refine gate_dst (N := 4) rfl ?_); refine box_event ?hg (N := 4) ?hd (cs := #[.int .i64 px, .int .i64 py, .string key, .string val, .int .i64 ver]) (t := 34) ?hr ?_; (case hd => rfl); (case hg => rfl); (case hr => first | (go_simp; done) | (go_simp; rfl)); intro gx hg w4 hbox hb; have HX := Aside0.mk hbox; replace HI := Aside0.mk (HI.out.below hb); have HS6 := Aside0.mk (HK.out.1); replace HK := Aside0.mk (HK.out.trans (KeepBut.of_below hb g none) (.inl rfl)); replace HB := Aside0.mk (below_then HB.out HB.out.size hb); clear HS6; clear hbox hb hg) | ((with_reducible refine gate_dst (N := 6) rfl ?_); refine box_event ?hg (N := 6) ?hd (cs := #[.int .i64 0, .int .i64 0, .string ⟨#[]⟩, .string ⟨#[]⟩, .int .i64 0]) (t := 34) ?hr ?_; (case hd => rfl); (case hg => rfl); (case hr => first | (go_simp; done) | (go_simp; rfl)); intro g6 hg w6 hbox hb; have H6 := Aside0.mk hbox; replace HX := Aside0.mk (blk_below HX.out hb); have HG6 := Aside0.mk (show w.heap.size ≤ g6 by rw [hg]; exact HK.out.1); replace HI := Aside0.mk (HI.out.below hb); have HS6 := Aside0.mk (HK.out.1); replace HK := Aside0.mk (HK.out.trans (KeepBut.of_below hb g none) (.inl rfl)); replace HB := Aside0.mk (below_then HB.out HB.out.size hb); clear HS6; clear hbox hb hg) | fail)
    refine (wire_Reader_Fail.calls g l e true 21 w0 _ HI.out HB.out).mono ?_
    rintro e1 wF ⟨rfl, hi, hbx, hk⟩
    replace HX := Aside0.mk (hk.blk HX.out (HI.out.at_ne HX.out (by decide)) (by simp))
    replace H6 := Aside0.mk (hk.blk H6.out (HI.out.at_ne H6.out (by decide)) (by simp))
    replace HK := Aside0.mk (HK.out.trans hk (.inl rfl))
    replace HB := Aside0.mk hbx
    rw [HR_.out] at hi
    replace HI := Aside0.mk hi
    clear hi hbx hk
    go_wp2_with fail
    refine (wire_Reader_Err.calls g l e true w0 _ HI.out).mono ?_
    rintro e2 wE ⟨rfl, rfl⟩
    rw [if_pos (rfl : true = true)]
    go_wp2_with (first | ((with_reducible refine gate_dst (N := 7) rfl ?_); refine box_event ?hg (N := 7) ?hd (cs := #[.int .i64 0, .int .i64 0, .string ⟨#[]⟩, .string ⟨#[]⟩, .int .i64 0]) (t := 34) ?hr ?_; (case hd => rfl); (case hg => rfl); (case hr => first | (go_simp; done) | (go_simp; rfl)); intro g7 hg w7 hbox hb; replace HX := Aside0.mk (blk_below HX.out hb); replace H6 := Aside0.mk (blk_below H6.out hb); replace HI := Aside0.mk (HI.out.below hb); have HS6 := Aside0.mk (HK.out.1); replace HK := Aside0.mk (HK.out.trans (KeepBut.of_below hb g none) (.inl rfl)); replace HB := Aside0.mk (below_then HB.out HB.out.size hb); clear HS6; have z0 := blk_cell hbox 0; have z1 := blk_cell hbox 1; have z2 := blk_cell hbox 2; have z3 := blk_cell hbox 3; have z4 := blk_cell hbox 4; have s0 := blk_cell H6.out 0; have f0 := blk_frozen H6.out 0; have s1 := blk_cell H6.out 1; have f1 := blk_frozen H6.out 1; have s2 := blk_cell H6.out 2; have f2 := blk_frozen H6.out 2; have s3 := blk_cell H6.out 3; have f3 := blk_frozen H6.out 3; have s4 := blk_cell H6.out 4; have f4 := blk_frozen H6.out 4; clear hbox hb hg) | fail)
    exact bodyPost_ret (results_cell_row rfl _ _ g6 34 #[.int .i64 0, .int .i64 0, .string ⟨#[]⟩, .string ⟨#[]⟩, .int .i64 0] (0, 0) _ rfl (blk_put (blk_put (blk_put (blk_put (blk_put (H6.out) 0 (.int .i64 0) rfl) 1 (.int .i64 0) rfl) 2 (.string ⟨#[]⟩) rfl) 3 (.string ⟨#[]⟩) rfl) 4 (.int .i64 0) rfl) Try.underlying34 rfl rfl) rfl ⟨rfl, HI.out.keep ((((((KeepBut.refl _ g6 none).set_ 0 (.int .i64 0)).set_ 1 (.int .i64 0)).set_ 2 (.string ⟨#[]⟩)).set_ 3 (.string ⟨#[]⟩)).set_ 4 (.int .i64 0)) (HI.out.at_ne H6.out (by decide)) H6.out (by decide), below_set (below_set (below_set (below_set (below_set (HB.out) (Nat.le_trans HSZ.out HG6.out)) (Nat.le_trans HSZ.out HG6.out)) (Nat.le_trans HSZ.out HG6.out)) (Nat.le_trans HSZ.out HG6.out)) (Nat.le_trans HSZ.out HG6.out), keep_new HK.out ((((((KeepBut.refl _ g6 none).set_ 0 (.int .i64 0)).set_ 1 (.int .i64 0)).set_ 2 (.string ⟨#[]⟩)).set_ 3 (.string ⟨#[]⟩)).set_ 4 (.int .i64 0)) HG6.out⟩
  by_cases h0 : e = 0
  focus
    subst h0
    rw [show tkE true 0 = 0 from rfl, if_pos (rfl : (0 : Int) = 0)]
    go_enter Try.func47, Try.ntmps47
    go_wp2_with (first | ((with_reducible refine gate_dst (N := 4) rfl ?_); refine box_event ?hg (N := 4) ?hd (cs := #[.int .i64 px, .int .i64 py, .string key, .string val, .int .i64 ver]) (t := 34) ?hr ?_; (case hd => rfl); (case hg => rfl); (case hr => first | (go_simp; done) | (go_simp; rfl)); intro gx hg w4 hbox hb; have HX := Aside0.mk hbox; replace HI := Aside0.mk (HI.out.below hb); have HS6 := Aside0.mk (HK.out.1); replace HK := Aside0.mk (HK.out.trans (KeepBut.of_below hb g none) (.inl rfl)); replace HB := Aside0.mk (below_then HB.out HB.out.size hb); clear HS6; clear hbox hb hg) | ((with_reducible refine gate_dst (N := 6) rfl ?_); refine box_event ?hg (N := 6) ?hd (cs := #[.int .i64 0, .int .i64 0, .string ⟨#[]⟩, .string ⟨#[]⟩, .int .i64 0]) (t := 34) ?hr ?_; (case hd => rfl); (case hg => rfl); (case hr => first | (go_simp; done) | (go_simp; rfl)); intro g6 hg w6 hbox hb; have H6 := Aside0.mk hbox; replace HX := Aside0.mk (blk_below HX.out hb); have HG6 := Aside0.mk (show w.heap.size ≤ g6 by rw [hg]; exact HK.out.1); replace HI := Aside0.mk (HI.out.below hb); have HS6 := Aside0.mk (HK.out.1); replace HK := Aside0.mk (HK.out.trans (KeepBut.of_below hb g none) (.inl rfl)); replace HB := Aside0.mk (below_then HB.out HB.out.size hb); clear HS6; clear hbox hb hg) | fail)
    refine (wire_Reader_Err.calls g l 0 true w0 _ HI.out).mono ?_
    rintro e2 wE ⟨rfl, rfl⟩
    rw [if_pos (rfl : true = true)]
    have h0 := blk_cell HX.out 0
    have h1 := blk_cell HX.out 1
    have h2 := blk_cell HX.out 2
    have h3 := blk_cell HX.out 3
    have h4 := blk_cell HX.out 4
    have s0 := blk_cell H6.out 0
    have s1 := blk_cell H6.out 1
    have s2 := blk_cell H6.out 2
    have s3 := blk_cell H6.out 3
    have s4 := blk_cell H6.out 4
    have f0 := blk_frozen H6.out 0
    have f1 := blk_frozen H6.out 1
    have f2 := blk_frozen H6.out 2
    have f3 := blk_frozen H6.out 3
    have f4 := blk_frozen H6.out 4
    go_wp2
    exact bodyPost_ret (results_cell_row rfl _ _ g6 34 #[.int .i64 px, .int .i64 py, .string key, .string val, .int .i64 ver] (0, 0) _ rfl (blk_put (blk_put (blk_put (blk_put (blk_put (H6.out) 0 (.int .i64 px) rfl) 1 (.int .i64 py) rfl) 2 (.string key) rfl) 3 (.string val) rfl) 4 (.int .i64 ver) rfl) Try.underlying34 rfl rfl) rfl ⟨rfl, HI.out.keep ((((((KeepBut.refl _ g6 none).set_ 0 (.int .i64 px)).set_ 1 (.int .i64 py)).set_ 2 (.string key)).set_ 3 (.string val)).set_ 4 (.int .i64 ver)) (HI.out.at_ne H6.out (by decide)) H6.out (by decide), below_set (below_set (below_set (below_set (below_set (HB.out) (Nat.le_trans HSZ.out HG6.out)) (Nat.le_trans HSZ.out HG6.out)) (Nat.le_trans HSZ.out HG6.out)) (Nat.le_trans HSZ.out HG6.out)) (Nat.le_trans HSZ.out HG6.out), keep_new HK.out ((((((KeepBut.refl _ g6 none).set_ 0 (.int .i64 px)).set_ 1 (.int .i64 py)).set_ 2 (.string key)).set_ 3 (.string val)).set_ 4 (.int .i64 ver)) HG6.out⟩
  have he : tkE true e = e := rfl
  have he2 : (e != 0) = true := bne_iff_ne.mpr h0
  rw [he, if_neg h0]
  clear he
  go_enter Try.func47, Try.ntmps47
  go_wp2_with (first | ((with_reducible refine gate_dst (N := 4) rfl ?_); refine box_event ?hg (N := 4) ?hd (cs := #[.int .i64 px, .int .i64 py, .string key, .string val, .int .i64 ver]) (t := 34) ?hr ?_; (case hd => rfl); (case hg => rfl); (case hr => first | (go_simp; done) | (go_simp; rfl)); intro gx hg w4 hbox hb; have HX := Aside0.mk hbox; replace HI := Aside0.mk (HI.out.below hb); have HS6 := Aside0.mk (HK.out.1); replace HK := Aside0.mk (HK.out.trans (KeepBut.of_below hb g none) (.inl rfl)); replace HB := Aside0.mk (below_then HB.out HB.out.size hb); clear HS6; clear hbox hb hg) | ((with_reducible refine gate_dst (N := 6) rfl ?_); refine box_event ?hg (N := 6) ?hd (cs := #[.int .i64 0, .int .i64 0, .string ⟨#[]⟩, .string ⟨#[]⟩, .int .i64 0]) (t := 34) ?hr ?_; (case hd => rfl); (case hg => rfl); (case hr => first | (go_simp; done) | (go_simp; rfl)); intro g6 hg w6 hbox hb; have H6 := Aside0.mk hbox; replace HX := Aside0.mk (blk_below HX.out hb); have HG6 := Aside0.mk (show w.heap.size ≤ g6 by rw [hg]; exact HK.out.1); replace HI := Aside0.mk (HI.out.below hb); have HS6 := Aside0.mk (HK.out.1); replace HK := Aside0.mk (HK.out.trans (KeepBut.of_below hb g none) (.inl rfl)); replace HB := Aside0.mk (below_then HB.out HB.out.size hb); clear HS6; clear hbox hb hg) | fail)
  refine (wire_Reader_Err.calls g l e true w0 _ HI.out).mono ?_
  rintro e2 wE ⟨rfl, rfl⟩
  rw [if_pos (rfl : true = true)]
  go_wp2_with (first | ((with_reducible refine gate_dst (N := 7) rfl ?_); refine box_event ?hg (N := 7) ?hd (cs := #[.int .i64 0, .int .i64 0, .string ⟨#[]⟩, .string ⟨#[]⟩, .int .i64 0]) (t := 34) ?hr ?_; (case hd => rfl); (case hg => rfl); (case hr => first | (go_simp; done) | (go_simp; rfl)); intro g7 hg w7 hbox hb; replace HX := Aside0.mk (blk_below HX.out hb); replace H6 := Aside0.mk (blk_below H6.out hb); replace HI := Aside0.mk (HI.out.below hb); have HS6 := Aside0.mk (HK.out.1); replace HK := Aside0.mk (HK.out.trans (KeepBut.of_below hb g none) (.inl rfl)); replace HB := Aside0.mk (below_then HB.out HB.out.size hb); clear HS6; have z0 := blk_cell hbox 0; have z1 := blk_cell hbox 1; have z2 := blk_cell hbox 2; have z3 := blk_cell hbox 3; have z4 := blk_cell hbox 4; have s0 := blk_cell H6.out 0; have f0 := blk_frozen H6.out 0; have s1 := blk_cell H6.out 1; have f1 := blk_frozen H6.out 1; have s2 := blk_cell H6.out 2; have f2 := blk_frozen H6.out 2; have s3 := blk_cell H6.out 3; have f3 := blk_frozen H6.out 3; have s4 := blk_cell H6.out 4; have f4 := blk_frozen H6.out 4; clear hbox hb hg) | fail)
  exact bodyPost_ret (results_cell_row rfl _ _ g6 34 #[.int .i64 0, .int .i64 0, .string ⟨#[]⟩, .string ⟨#[]⟩, .int .i64 0] (0, 0) _ rfl (blk_put (blk_put (blk_put (blk_put (blk_put (H6.out) 0 (.int .i64 0) rfl) 1 (.int .i64 0) rfl) 2 (.string ⟨#[]⟩) rfl) 3 (.string ⟨#[]⟩) rfl) 4 (.int .i64 0) rfl) Try.underlying34 rfl rfl) rfl ⟨rfl, HI.out.keep ((((((KeepBut.refl _ g6 none).set_ 0 (.int .i64 0)).set_ 1 (.int .i64 0)).set_ 2 (.string ⟨#[]⟩)).set_ 3 (.string ⟨#[]⟩)).set_ 4 (.int .i64 0)) (HI.out.at_ne H6.out (by decide)) H6.out (by decide), below_set (below_set (below_set (below_set (below_set (HB.out) (Nat.le_trans HSZ.out HG6.out)) (Nat.le_trans HSZ.out HG6.out)) (Nat.le_trans HSZ.out HG6.out)) (Nat.le_trans HSZ.out HG6.out)) (Nat.le_trans HSZ.out HG6.out), keep_new HK.out ((((((KeepBut.refl _ g6 none).set_ 0 (.int .i64 0)).set_ 1 (.int .i64 0)).set_ 2 (.string ⟨#[]⟩)).set_ 3 (.string ⟨#[]⟩)).set_ 4 (.int .i64 0)) HG6.out⟩

end Go.Proofs.Ytiglmgmkablpkaa.PK
