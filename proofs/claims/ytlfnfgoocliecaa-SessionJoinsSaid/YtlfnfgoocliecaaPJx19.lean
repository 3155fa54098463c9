-- Written by a program of this session (wip/tools/hp.py) over the kit's print; nothing here is trusted: Lean checks it.
import Derived.RegionTactic
import Derived.BigRegion
import Derived.Laws.Rows
import Derived.Laws.Tables
import Derived.Test.YtlfnfgoocliecaaPJx0
import Derived.Test.YtlfnfgoocliecaaPJx2
import Derived.Test.YtlfnfgoocliecaaPJx3
namespace Go.Proofs.Ytlfnfgoocliecaa.PJ
open Go.RowKit Go.Proofs.YtlfnfgoocliecaaW.PrintWords Go.Proofs.YtlfnfgoocliecaaW.PrintLast Go.Proofs.YtlfnfgoocliecaaW.PrintMore
attribute [local go_sem] max2_int min2_int max_two min_two max_three min_three max_four min_four   -- for this text's walks alone
set_option linter.unusedVariables false
set_option linter.unusedSimpArgs false

--OWN Derived.RegionTactic,Derived.BigRegion,Derived.Laws.Rows,Derived.Laws.Tables
/-! ### session_Table_Clone: function 20 -/
theorem session_Table_Clone.dead {p : Option Addr} (w : World) (h : DeadT w p) :
    Calls Try.prog 20 #[.pointer p] w fun e w' => e = .returned (.pointer none) ∧ w = w' := by
  have H := Aside0.mk h
  clear h
  go_enter Try.func20, Try.ntmps20
  go_wp2_with fail
  refine (session_Table_none.dead w H.out).mono ?_
  rintro e w1 ⟨rfl, rfl⟩
  go_wp2
  go_ret
  exact ⟨rfl, rfl⟩
theorem tab_one (R : Nat → SRow) : (tabCells R).all (·.oneCell') = true := by simp [tabCells, Value.oneCell']
theorem row_below {w W : World} {g : Nat} (h : Below w.heap.size w W) (hg : w.heap.size ≤ g) (cs : Array Value) : Below w.heap.size w (W.setRow g cs) :=
  ⟨h.os, h.tape, h.output, by have := h.size; simp; omega, fun k hk => (setRow_other _ _ _ _ (by omega)).trans (h.block k hk)⟩
set_option maxHeartbeats 2000000 in
set_option maxRecDepth 100000 in
theorem session_Table_Clone.calls (g : Nat) (R : Nat → SRow) (w0 w : World) (hI : IsTab w0 w g R) :
    Calls Try.prog 20 #[.pointer (some ⟨g, 0, none⟩)] w fun e w' => ∃ g', e = .returned (.pointer (some ⟨g', 0, none⟩)) ∧ IsTab w w' g' R ∧ Below w.heap.size w w' := by
  have HI := Aside0.mk hI
  clear hI
  go_enter Try.func20, Try.ntmps20
  go_wp2_with fail
  refine (session_Table_none.calls g R w0 w HI.out).mono ?_
  rintro e w1 ⟨rfl, rfl⟩
  go_wp2_with (first | ((with_reducible refine gate_dst (N := 8) rfl ?_); refine wpList_load_row rfl 56 (.tmp 7) rfl g ?hx 56 (tabCells R) (0, 0) _ HI.out.blk Try.underlying56 rfl (by kernel_rfl) ?_; (case hx => rfl)) | ((with_reducible refine gate_dst (N := 3) rfl ?_); refine box_event ?hg (N := 3) ?hd (cs := #[.int .i64 0, .bool false, .string ⟨#[]⟩, .int .i64 0, .int .i64 0, .int .i64 0, .bool false, .string ⟨#[]⟩, .int .i64 0, .int .i64 0, .int .i64 0, .bool false, .string ⟨#[]⟩, .int .i64 0, .int .i64 0, .int .i64 0, .bool false, .string ⟨#[]⟩, .int .i64 0, .int .i64 0, .int .i64 0, .bool false, .string ⟨#[]⟩, .int .i64 0, .int .i64 0, .int .i64 0, .bool false, .string ⟨#[]⟩, .int .i64 0, .int .i64 0, .int .i64 0, .bool false, .string ⟨#[]⟩, .int .i64 0, .int .i64 0, .int .i64 0, .bool false, .string ⟨#[]⟩, .int .i64 0, .int .i64 0, .bool false]) (t := 56) ?hr ?_; (case hd => rfl); (case hg => rfl); (case hr => first | (go_simp; done) | (go_simp; rfl)); intro g3 hg w3 hbox hb; have HBXg3 := Aside0.mk hbox; have HBb := Aside0.mk hb; have HGg3 := Aside0.mk hg; clear hbox hb hg) | ((with_reducible refine gate_store (t := 56) (p := 3) rfl ?_); refine wpList_store_row rfl 56 (.tmp 3) (.tmp 8) rfl g3 (tabCells R) ?hx ?hy 56 _ HBXg3.out (by kernel_rfl) rfl (tab_one R) ?_; (case hx => rfl); (case hy => rfl)) | fail)
  go_ret
  refine ⟨g3, rfl, ⟨Nat.le_of_eq HGg3.out.symm, ?_⟩, row_below HBb.out (Nat.le_of_eq HGg3.out.symm) _⟩
  exact setRow_heap _ _ _ _ _ _ HBXg3.out

end Go.Proofs.Ytlfnfgoocliecaa.PJ
