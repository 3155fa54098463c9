-- Written by a program of this session (wip/tools/hp.py) over the kit's print; nothing here is trusted: Lean checks it.
import Derived.RegionTactic
import Derived.BigRegion
import Derived.Test.YtlfnfgoocliecaaPLx0
import Derived.Test.YtlfnfgoocliecaaPLx2
import Derived.Test.YtlfnfgoocliecaaPLx3
namespace Go.Proofs.Ytlfnfgoocliecaa.PL
open Go.RowKit Go.Proofs.YtlfnfgoocliecaaW.PrintWords Go.Proofs.YtlfnfgoocliecaaW.PrintLast Go.Proofs.YtlfnfgoocliecaaW.PrintMore
attribute [local go_sem] max2_int min2_int max_two min_two max_three min_three max_four min_four   -- for this text's walks alone
set_option linter.unusedVariables false
set_option linter.unusedSimpArgs false

--OWN Derived.RegionTactic,Derived.BigRegion
/-! ### session_Table_Join: function 18 -/
theorem session_Table_Join.dead1 {p q : Option Addr} (w : World) (h : DeadT w p) :
    Calls Try.prog 18 #[.pointer p, .pointer q] w fun e w' => e = .returned (.pointer none) ∧ w = w' := by
  have H := Aside0.mk h
  clear h
  go_enter Try.func18, Try.ntmps18
  go_wp2_with fail
  refine (session_Table_none.dead w H.out).mono ?_
  rintro e w1 ⟨rfl, rfl⟩
  go_wp2
  go_ret
  exact ⟨rfl, rfl⟩
theorem session_Table_Join.dead2 {q : Option Addr} (g : Nat) (R : Nat → SRow) (w0 w : World) (hI : IsTab w0 w g R) (h : DeadT w q) :
    Calls Try.prog 18 #[.pointer (some ⟨g, 0, none⟩), .pointer q] w fun e w' => e = .returned (.pointer none) ∧ w = w' := by
  have H := Aside0.mk h
  have HI := Aside0.mk hI
  clear h hI
  go_enter Try.func18, Try.ntmps18
  go_wp2_with fail
  refine (session_Table_none.calls g R w0 w HI.out).mono ?_
  rintro e w1 ⟨rfl, rfl⟩
  go_wp2_with fail
  refine (session_Table_none.dead w H.out).mono ?_
  rintro e w1 ⟨rfl, rfl⟩
  go_wp2
  go_ret
  exact ⟨rfl, rfl⟩
theorem session_Table_Join.calls {p q : Option Addr} (w : World) (h : DeadT w p) : Calls Try.prog 18 #[.pointer p, .pointer q] w fun e w' => e = .returned (.pointer none) ∧ w = w' := session_Table_Join.dead1 w h

end Go.Proofs.Ytlfnfgoocliecaa.PL
