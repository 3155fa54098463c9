-- Written by a program of this session (wip/tools/hp.py) over the kit's print; nothing here is trusted: Lean checks it.
import Derived.RegionTactic
import Derived.BigRegion
import Derived.Test.YtlfnfgoocliecaaPJx0
import Derived.Test.YtlfnfgoocliecaaPJx2
import Derived.Test.YtlfnfgoocliecaaPJx3
namespace Go.Proofs.Ytlfnfgoocliecaa.PJ
open Go.RowKit Go.Proofs.YtlfnfgoocliecaaW.PrintWords Go.Proofs.YtlfnfgoocliecaaW.PrintLast Go.Proofs.YtlfnfgoocliecaaW.PrintMore
attribute [local go_sem] max2_int min2_int max_two min_two max_three min_three max_four min_four   -- for this text's walks alone
set_option linter.unusedVariables false
set_option linter.unusedSimpArgs false

--OWN Derived.RegionTactic,Derived.BigRegion
/-! ### session_Table_row: function 36 -/
set_option maxHeartbeats 2000000 in
set_option maxRecDepth 100000 in
theorem session_Table_row.calls (g : Nat) (R : Nat → SRow) (c : Int) (w0 w : World) (hI : IsTab w0 w g R) :
    Calls Try.prog 36 #[.pointer (some ⟨g, 0, none⟩), .int .i64 c] w fun e w' => e = .returned (.pointer (if 0 ≤ c ∧ c < 8 then some ⟨g, c.toNat * 5, none⟩ else none)) ∧ w = w' := by
  have HI := Aside0.mk hI
  clear hI
  rcases (show c < 0 ∨ (¬ c < 0 ∧ 8 ≤ c) ∨ (¬ c < 0 ∧ ¬ 8 ≤ c) by omega) with a | ⟨a, b⟩ | ⟨a, b⟩
  · have a1 : decide (c < 0) = true := decide_eq_true a
    rw [if_neg (by omega)]
    clear a
    go_enter Try.func36, Try.ntmps36
    go_wp2_with fail
    refine (session_Table_none.calls g R w0 w HI.out).mono ?_
    rintro e w1 ⟨rfl, rfl⟩
    go_wp2
    go_ret
    exact ⟨rfl, rfl⟩
  · have a1 : decide (c < 0) = false := decide_eq_false a
    have b1 : decide (8 ≤ c) = true := decide_eq_true b
    rw [if_neg (by omega)]
    clear a b
    go_enter Try.func36, Try.ntmps36
    go_wp2_with fail
    refine (session_Table_none.calls g R w0 w HI.out).mono ?_
    rintro e w1 ⟨rfl, rfl⟩
    go_wp2
    go_ret
    exact ⟨rfl, rfl⟩
  · have a1 : decide (c < 0) = false := decide_eq_false a
    have b1 : decide (8 ≤ c) = false := decide_eq_false b
    rw [if_pos (by omega)]
    obtain ⟨n, rfl⟩ := Int.eq_ofNat_of_zero_le (show 0 ≤ c by omega)
    rw [Int.toNat_natCast]
    have hn : n < 8 := by omega
    clear a b
    go_enter Try.func36, Try.ntmps36
    go_wp2_with fail
    refine (session_Table_none.calls g R w0 w HI.out).mono ?_
    rintro e w1 ⟨rfl, rfl⟩
    go_wp2
    go_ret
    exact ⟨rfl, rfl⟩
theorem session_Table_row.dead {p : Option Addr} (c : Int) (w : World) (h : DeadT w p) :
    Calls Try.prog 36 #[.pointer p, .int .i64 c] w fun e w' => e = .returned (.pointer none) ∧ w = w' := by
  have H := Aside0.mk h
  clear h
  go_enter Try.func36, Try.ntmps36
  go_wp2_with fail
  refine (session_Table_none.dead w H.out).mono ?_
  rintro e w1 ⟨rfl, rfl⟩
  go_wp2
  go_ret
  exact ⟨rfl, rfl⟩

end Go.Proofs.Ytlfnfgoocliecaa.PJ
