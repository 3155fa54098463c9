-- Written by a program of this session (wip/tools/hp.py) over the kit's print; nothing here is trusted: Lean checks it.
import Derived.RegionTactic
import Derived.Test.YtiglmgmkablpkaaPKx0
import Derived.Test.YtiglmgmkablpkaaPKx32
namespace Go.Proofs.Ytiglmgmkablpkaa.PK
open Go.RowKit Go.Proofs.YtiglmgmkablpkaaW.PrintWords Go.Proofs.YtiglmgmkablpkaaW.PrintLast Go.Proofs.YtiglmgmkablpkaaW.PrintMore
attribute [local go_sem] max2_int min2_int max_two min_two max_three min_three max_four min_four   -- for this text's walks alone
set_option linter.unusedVariables false
set_option linter.unusedSimpArgs false

--OWN Derived.RegionTactic
/-! ### strings_Compare: function 59 -/
def strings_Compare.f (a b : ByteArray) : Option Int := bytealg_CompareString.f a b
set_option maxHeartbeats 1000000 in
set_option maxRecDepth 100000 in
theorem strings_Compare.calls (a b : ByteArray) (r : Int) (w : World) (h : strings_Compare.f a b = some r) :
    Calls Try.prog 59 #[.string a, .string b] w fun e w' => e = .returned (.int .i64 r) ∧ Drawn0 w w' := by
  go_enter Try.func59, Try.ntmps59
  go_wp2_with fail
  refine (bytealg_CompareString.calls a b r w h).mono ?_
  rintro e w1 ⟨rfl, hd⟩
  clear h
  go_wp2
  go_ret
  exact ⟨rfl, hd⟩

end Go.Proofs.Ytiglmgmkablpkaa.PK
