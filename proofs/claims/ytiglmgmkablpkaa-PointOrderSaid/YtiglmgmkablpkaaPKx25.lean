-- Written by a program of this session (wip/tools/hp.py) over the kit's print; nothing here is trusted: Lean checks it.
import Derived.RegionTactic
import Derived.BigRegion
import Derived.Test.YtiglmgmkablpkaaPKx0
import Derived.Test.YtiglmgmkablpkaaPKx7
import Derived.Test.YtiglmgmkablpkaaPKx12
import Derived.Test.YtiglmgmkablpkaaPKx18
import Derived.Test.YtiglmgmkablpkaaPKx19
import Derived.Test.YtiglmgmkablpkaaPKx20
import Derived.Test.YtiglmgmkablpkaaPKx22
namespace Go.Proofs.Ytiglmgmkablpkaa.PK
open Go.RowKit Go.Proofs.YtiglmgmkablpkaaW.PrintWords Go.Proofs.YtiglmgmkablpkaaW.PrintLast Go.Proofs.YtiglmgmkablpkaaW.PrintMore
attribute [local go_sem] max2_int min2_int max_two min_two max_three min_three max_four min_four   -- for this text's walks alone
set_option linter.unusedVariables false
set_option linter.unusedSimpArgs false

--OWN Derived.RegionTactic,Derived.BigRegion
/-! ### glebelaw07_knows: function 7 -/
def glebelaw07_knows.f : Option Bool := some true
set_option maxHeartbeats 4000000 in
set_option maxRecDepth 100000 in
theorem glebelaw07_knows.calls (r : Bool) (w : World) (h : glebelaw07_knows.f = some r) :
    Calls Try.prog 7 #[] w fun e w' => e = .returned (.bool r) ∧ Below w.heap.size w w' := by
  obtain rfl := Option.some.inj h
  clear h
  go_enter Try.func7, Try.ntmps7
  go_wp2_with fail
  refine (point_PutRec.calls 100 (fun n => [n]) (fun _ => 0) (fun s => 1 :: bytesOf s) (fun _ => 0) 1 2 ⟨#[97]⟩ ⟨#[98]⟩ 3 true w (by kernel_rfl) ?n0 ?n1 ?n2 ?n3).mono ?_
  case n0 => intro n hn; simp only [List.mem_cons, List.not_mem_nil, or_false] at hn; rcases hn with rfl | rfl <;> rfl
  case n1 => intro n hn; simp only [List.mem_cons, List.not_mem_nil, or_false] at hn; rcases hn with rfl | rfl <;> rfl
  case n2 => intro n hn; simp only [List.mem_cons, List.not_mem_nil, or_false] at hn; subst hn; rfl
  case n3 => decide
  rintro e w1 ⟨v, rfl, hv, hb⟩
  have hv : (Kd.int .u8).R 5 w1 w.heap.size (fun _ => True) v [1, 2, 1, 97, 1, 98, 3] := hv
  rw [if_pos (rfl : true = true)]
  obtain ⟨A, c, rfl⟩ := Kd.R_slice hv
  obtain ⟨_, hc, hC⟩ := Kd.R_reads' hv
  have HC := Aside0.mk hC
  have HV := Aside0.mk hv
  have HB := Aside0.mk hb
  clear hv hC hb
  go_wp2_with fail
  refine (wire_Open.calls A c [1, 2, 1, 97, 1, 98, 3] w1 HC.out hc (by decide)).mono ?_
  rintro e w2 ⟨g, A2, c2, rfl, hg, hblk, hc2, hC2, hT, hb⟩
  have HI := Aside0.mk (show IsRdr w w2 g [1, 2, 1, 97, 1, 98, 3] 0 true from ⟨Nat.le_trans HB.out.size hg, A2, c2, hblk, hc2, hC2, hT⟩)
  replace HV := Aside0.mk (Kd.R_below HV.out hb)
  replace HB := Aside0.mk (below_step HB.out hb)
  clear hg hblk hC2 hT hb hc2
  go_wp2_with fail
  refine (point_TakeRec.calls 100 g [1, 2, 1, 97, 1, 98, 3] 0 1 [2, 1, 97, 1, 98, 3] 0 (by kernel_rfl) 2 [1, 97, 1, 98, 3] 0 (by kernel_rfl) [97] [1, 98, 3] 0 (by kernel_rfl) [98] [3] 0 (by kernel_rfl) 3 [] 0 (by kernel_rfl) true (by kernel_rfl) w w2 HI.out HB.out).mono ?_
  rintro e w3 ⟨rfl, hi, hbx, hk⟩
  have hs1 : strOfNums [97] = ⟨#[97]⟩ := rfl
  have hs2 : strOfNums [98] = ⟨#[98]⟩ := rfl
  rw [show tkE true 0 = 0 from rfl, if_pos (rfl : (0 : Int) = 0), hs1, hs2]
  obtain ⟨Aq, cq, hq, _⟩ := HI.out.blk
  replace HV := Aside0.mk (Kd.R_mono (Kd.R_keep (Kd.R_types HV.out hq (by decide)) hk (fun k h => h.2)) (fun _ _ => trivial) : (Kd.int .u8).R 5 w3 w.heap.size (fun _ => True) (.slice A [1, 2, 1, 97, 1, 98, 3].length c) [1, 2, 1, 97, 1, 98, 3])
  clear hq HC
  replace HI := Aside0.mk (show IsRdr w w3 g [] 0 true from hi)
  replace HB := Aside0.mk hbx
  clear hi hbx hk hs1 hs2
  go_wp2_with (first | ((with_reducible refine gate_dst (N := 4) rfl ?_); refine box_event ?hg (N := 4) ?hd (cs := #[.int .i64 0, .int .i64 0, .string ⟨#[]⟩, .string ⟨#[]⟩, .int .i64 0]) (t := 34) ?hr ?_; (case hd => rfl); (case hg => rfl); (case hr => first | (go_simp; done) | (go_simp; rfl)); intro gx hg w4 hbox hb; have HX := Aside0.mk hbox; replace HV := Aside0.mk (Kd.R_below HV.out hb); replace HI := Aside0.mk (HI.out.below hb); have HG := Aside0.mk (show w.heap.size ≤ gx by have := HB.out.size; omega); replace HB := Aside0.mk (below_step HB.out hb); have h0 := blk_cell hbox 0; have h1 := blk_cell hbox 1; have h2 := blk_cell hbox 2; have h3 := blk_cell hbox 3; have h4 := blk_cell hbox 4; have f0 := blk_frozen hbox 0; have f1 := blk_frozen hbox 1; have f2 := blk_frozen hbox 2; have f3 := blk_frozen hbox 3; have f4 := blk_frozen hbox 4; clear hbox hb hg) | fail)
  clear h0 h1 h2 h3 h4 f0 f1 f2 f3 f4
  have hk4 := (((((KeepBut.refl w4 gx none).set_ 0 (.int .i64 1)).set_ 1 (.int .i64 2)).set_ 2 (.string ⟨#[97]⟩)).set_ 3 (.string ⟨#[98]⟩)).set_ 4 (.int .i64 3)
  have hB4 : Below w.heap.size w (World.setCell (World.setCell (World.setCell (World.setCell (World.setCell w4 ⟨gx, 0, none⟩ (.int .i64 1)) ⟨gx, 1, none⟩ (.int .i64 2)) ⟨gx, 2, none⟩ (.string ⟨#[97]⟩)) ⟨gx, 3, none⟩ (.string ⟨#[98]⟩)) ⟨gx, 4, none⟩ (.int .i64 3)) := below_set (below_set (below_set (below_set (below_set (HB.out) HG.out) HG.out) HG.out) HG.out) HG.out
  have hX4 : ((World.setCell (World.setCell (World.setCell (World.setCell (World.setCell w4 ⟨gx, 0, none⟩ (.int .i64 1)) ⟨gx, 1, none⟩ (.int .i64 2)) ⟨gx, 2, none⟩ (.string ⟨#[97]⟩)) ⟨gx, 3, none⟩ (.string ⟨#[98]⟩)) ⟨gx, 4, none⟩ (.int .i64 3))).heap[gx]? = some (.cells #[.int .i64 1, .int .i64 2, .string ⟨#[97]⟩, .string ⟨#[98]⟩, .int .i64 3] 34 (0, 0)) := blk_put (blk_put (blk_put (blk_put (blk_put (HX.out) 0 (.int .i64 1) rfl) 1 (.int .i64 2) rfl) 2 (.string ⟨#[97]⟩) rfl) 3 (.string ⟨#[98]⟩) rfl) 4 (.int .i64 3) rfl
  replace HI := Aside0.mk (HI.out.keep hk4 (HI.out.at_ne HX.out (by decide)) HX.out (by decide))
  replace HV := Aside0.mk (Kd.R_mono (Kd.R_keep (Kd.R_types HV.out HX.out (by decide)) hk4 (fun k h => h.2)) (fun _ _ => trivial) : (Kd.int .u8).R 5 _ w.heap.size (fun _ => True) (.slice A [1, 2, 1, 97, 1, 98, 3].length c) [1, 2, 1, 97, 1, 98, 3])
  replace HB := Aside0.mk hB4
  replace HX := Aside0.mk hX4
  clear hk4 hB4 hX4
  obtain ⟨W, hW⟩ : ∃ W, W = (World.setCell (World.setCell (World.setCell (World.setCell (World.setCell w4 ⟨gx, 0, none⟩ (.int .i64 1)) ⟨gx, 1, none⟩ (.int .i64 2)) ⟨gx, 2, none⟩ (.string ⟨#[97]⟩)) ⟨gx, 3, none⟩ (.string ⟨#[98]⟩)) ⟨gx, 4, none⟩ (.int .i64 3)) := ⟨_, rfl⟩
  rw [← hW] at HI HV HB HX
  rw [← hW]
  clear hW
  refine (glebelaw07_num.calls 0 0 _ rfl).mono ?_
  rintro e w5 ⟨rfl, hd⟩
  have hb := drawn_below hd
  replace HI := Aside0.mk (HI.out.below hb)
  replace HV := Aside0.mk (Kd.R_below HV.out hb)
  replace HX := Aside0.mk (blk_below HX.out hb)
  replace HB := Aside0.mk (below_step HB.out hb)
  clear hb hd
  have h1 := blk_cell HX.out 2
  have h3 := blk_cell HX.out 4
  have hcv : (convert 22 9 (.slice A 7 c)).run Try.prog w5 = .ok (.string ⟨#[1, 2, 1, 97, 1, 98, 3]⟩) w5 := Kd.C_string Try.underlying22 Try.underlying5 Try.underlying9 (Kd.R_reads' HV.out).2.2 (c := c)
  go_wp2_with fail
  refine (wire_Reader_Done.calls g [] 0 true w w5 HI.out).mono ?_
  rintro e w6 ⟨rfl, rfl⟩
  rw [show rdDone [] 0 true = 0 by kernel_rfl]
  clear hcv h1 h3
  go_wp2_with fail
  refine (glebelaw07_num.calls 0 0 _ rfl).mono ?_
  rintro e w7 ⟨rfl, hd⟩
  have hb := drawn_below hd
  replace HB := Aside0.mk (below_step HB.out hb)
  clear hb hd
  go_wp2
  go_ret
  exact ⟨rfl, HB.out⟩

end Go.Proofs.Ytiglmgmkablpkaa.PK
