-- Written by a program of this session (wip/tools/hp.py) over the kit's print; nothing here is trusted: Lean checks it.
import Derived.RegionTactic
import Derived.BigRegion
import Derived.Test.YtiglmgmkablpkaaPKx0
import Derived.Test.YtiglmgmkablpkaaPKx4
namespace Go.Proofs.Ytiglmgmkablpkaa.PK
open Go.RowKit Go.Proofs.YtiglmgmkablpkaaW.PrintWords Go.Proofs.YtiglmgmkablpkaaW.PrintLast Go.Proofs.YtiglmgmkablpkaaW.PrintMore
attribute [local go_sem] max2_int min2_int max_two min_two max_three min_three max_four min_four   -- for this text's walks alone
set_option linter.unusedVariables false
set_option linter.unusedSimpArgs false

--OWN Derived.RegionTactic,Derived.BigRegion
/-! ### point_writer_end: function 56 -/
set_option maxHeartbeats 1000000 in
set_option maxRecDepth 100000 in
theorem point_writer_end.calls (g : Nat) (l : List Int) (ok : Bool) (w0 w : World) (hI : IsWr w0 w g l ok) :
    Calls Try.prog 56 #[.pointer (some ⟨g, 0, none⟩)] w fun e w' => ∃ v, e = .returned (.tuple #[v, .int .i64 (if ok then 0 else 1)]) ∧ (Kd.int .u8).R 5 w w0.heap.size (fun _ => True) v (if ok then l else []) ∧ w = w' := by
  obtain ⟨A, c, hb, hr⟩ := hI.row
  have c0 := blk_cell hb 0
  have c1 := blk_cell hb 1
  have HR := Aside0.mk hr
  clear hI hb hr
  cases ok
  focus
    go_enter Try.func56, Try.ntmps56
    go_wp2
    go_ret2
    exact ⟨_, rfl, Kd.R_nil _ _ _ _ _, rfl⟩
  go_enter Try.func56, Try.ntmps56
  go_wp2
  go_ret2
  exact ⟨_, rfl, HR.out, rfl⟩

end Go.Proofs.Ytiglmgmkablpkaa.PK
