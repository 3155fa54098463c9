-- Written by a program of this session (wip/tools/hp.py) over the kit's print; nothing here is trusted: Lean checks it.
import Derived.RegionTactic
import Derived.BigRegion
import Derived.Test.YtlfnfgoocliecaaPJx0
import Derived.Test.YtlfnfgoocliecaaPJx2
import Derived.Test.YtlfnfgoocliecaaPJx5
import Derived.Test.YtlfnfgoocliecaaPJx8
import Derived.Test.YtlfnfgoocliecaaPJx9
import Derived.Test.YtlfnfgoocliecaaPJx10
import Derived.Test.YtlfnfgoocliecaaPJx11
namespace Go.Proofs.Ytlfnfgoocliecaa.PJ
open Go.RowKit Go.Proofs.YtlfnfgoocliecaaW.PrintWords Go.Proofs.YtlfnfgoocliecaaW.PrintLast Go.Proofs.YtlfnfgoocliecaaW.PrintMore
attribute [local go_sem] max2_int min2_int max_two min_two max_three min_three max_four min_four   -- for this text's walks alone
set_option linter.unusedVariables false
set_option linter.unusedSimpArgs false

--OWN Derived.RegionTactic,Derived.BigRegion
/-! ### glebelaw09_knows: function 10 -/
def glebelaw09_knows.f : Option Bool := some true
theorem right_nil : point_RightAns.f 100 0 false ⟨#[]⟩ 0 = some true := by decide +kernel
set_option maxHeartbeats 4000000 in
set_option maxRecDepth 100000 in
theorem glebelaw09_knows.calls (r : Bool) (w : World) (h : glebelaw09_knows.f = some r) :
    Calls Try.prog 10 #[] w fun e w' => e = .returned (.bool r) ∧ Below w.heap.size w w' := by
  obtain rfl := Option.some.inj h
  clear h
  go_enter Try.func10, Try.ntmps10
  go_wp2_with fail
  refine (session_New.calls w w (Below.refl _ _)).mono ?_
  rintro e w1 ⟨g, rfl, hg, hI, hb⟩
  have HI := Aside0.mk hI
  have HB := Aside0.mk hb
  clear hg hI hb
  go_wp2_with fail
  refine (session_Table_Note.calls 100 g _ 1 5 0 false ⟨#[]⟩ 0 true w w1 HI.out HB.out right_nil).mono ?_
  rintro e w2 ⟨rfl, hI, hb, _⟩
  replace HI := Aside0.mk hI
  replace HB := Aside0.mk hb
  clear hI hb
  have e1 : noteE (fun _ => SRow.none) 1 5 true = 0 := by decide
  rw [e1]
  generalize hR : noteR (fun _ => SRow.none) 1 5 true ⟨0, false, ⟨#[]⟩, 0, 5⟩ = R at HI
  have l4 : tLook R 1 4 = 3 := by rw [← hR]; rfl
  have l5 : tLook R 1 5 = 2 := by rw [← hR]; rfl
  have l6 : tLook R 1 6 = 1 := by rw [← hR]; rfl
  have l1 : tLook R 2 1 = 1 := by rw [← hR]; rfl
  have a1 : tLast R 1 = ⟨0, false, ⟨#[]⟩, 0, 5⟩ := by rw [← hR]; rfl
  clear hR
  go_wp2_with fail
  refine (session_Table_Last.calls g R 1 w w2 HI.out).mono ?_
  rintro e w3 ⟨rfl, hI, hb⟩
  rw [a1]
  replace HI := Aside0.mk hI
  replace HB := Aside0.mk (below_step HB.out hb)
  clear hI hb
  unfold SRow.ans
  go_wp2_with (first | ((with_reducible refine gate_dst (N := 4) rfl ?_); refine box_event ?hg (N := 4) ?hd (cs := #[.int .i64 0, .bool false, .string ⟨#[]⟩, .int .i64 0]) (t := 34) ?hr ?_; (case hd => rfl); (case hg => rfl); (case hr => first | (go_simp; done) | (go_simp; rfl)); intro gb hg wA hbox hb; have HBX := Aside0.mk hbox; have HBb := Aside0.mk hb; have HG := Aside0.mk hg; have h0 := blk_cell hbox 0; have h1 := blk_cell hbox 1; have h2 := blk_cell hbox 2; have h3 := blk_cell hbox 3; have f0 := blk_frozen hbox 0; have f1 := blk_frozen hbox 1; have f2 := blk_frozen hbox 2; have f3 := blk_frozen hbox 3; clear hbox hb hg) | ((with_reducible refine gate_callee (f := 36) rfl ?_); fail))
  have hS := below4 HBb.out (Nat.le_of_eq HG.out.symm) (.int .i64 0) (.bool false) (.string ⟨#[]⟩) (.int .i64 0)
  replace HI := Aside0.mk (HI.out.below hS)
  replace HB := Aside0.mk (below_step HB.out hS)
  clear hS h0 h1 h2 h3 f0 f1 f2 f3 HBX HBb
  refine (glebelaw09_num.calls 0 0 _ rfl).mono ?_
  rintro e w4 ⟨rfl, hd⟩
  have hb := drawn_below hd
  replace HI := Aside0.mk (HI.out.below hb)
  replace HB := Aside0.mk (below_step HB.out hb)
  clear hb hd
  go_wp2_with fail
  refine (session_Table_Look.calls g R 1 4 w w4 HI.out).mono ?_
  rintro e w5 ⟨rfl, rfl⟩
  rw [l4]
  go_wp2_with fail
  refine (session_Table_Look.calls g R 1 5 w w4 HI.out).mono ?_
  rintro e w5 ⟨rfl, rfl⟩
  rw [l5]
  go_wp2_with fail
  refine (session_Table_Look.calls g R 1 6 w w4 HI.out).mono ?_
  rintro e w5 ⟨rfl, rfl⟩
  rw [l6]
  go_wp2_with fail
  refine (session_Table_Look.calls g R 2 1 w w4 HI.out).mono ?_
  rintro e w5 ⟨rfl, rfl⟩
  rw [l1]
  go_wp2
  go_ret
  exact ⟨rfl, HB.out⟩

end Go.Proofs.Ytlfnfgoocliecaa.PJ
