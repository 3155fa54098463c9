-- Written by a program of this session (wip/tools/hp.py) over the kit's print; nothing here is trusted: Lean checks it.
import Derived.RegionTactic
import Derived.BigRegion
import Derived.Test.YtlfnfgoocliecaaPLx0
import Derived.Test.YtlfnfgoocliecaaPLx2
import Derived.Test.YtlfnfgoocliecaaPLx3
namespace Go.Proofs.Ytlfnfgoocliecaa.PL
open Go.RowKit Go.Proofs.YtlfnfgoocliecaaW.PrintWords Go.Proofs.YtlfnfgoocliecaaW.PrintLast Go.Proofs.YtlfnfgoocliecaaW.PrintMore
attribute [local go_sem] max2_int min2_int max_two min_two max_three min_three max_four min_four   -- for this text's walks alone
set_option linter.unusedVariables false
set_option linter.unusedSimpArgs false

--OWN Derived.RegionTactic,Derived.BigRegion
/-! ### session_Table_Put: function 23 -/
theorem session_Table_Put.dead {p : Option Addr} (w : World) (h : DeadT w p) :
    Calls Try.prog 23 #[.pointer p] w fun e w' => e = .returned (.slice none 0 0) ∧ w = w' := by
  have H := Aside0.mk h
  clear h
  go_enter Try.func23, Try.ntmps23
  go_wp2_with fail
  refine (session_Table_none.dead w H.out).mono ?_
  rintro e w1 ⟨rfl, rfl⟩
  go_wp2
  go_ret
  exact ⟨rfl, rfl⟩
theorem session_Table_Put.calls {p : Option Addr} (w : World) (h : DeadT w p) : Calls Try.prog 23 #[.pointer p] w fun e w' => e = .returned (.slice none 0 0) ∧ w = w' := session_Table_Put.dead w h

end Go.Proofs.Ytlfnfgoocliecaa.PL
