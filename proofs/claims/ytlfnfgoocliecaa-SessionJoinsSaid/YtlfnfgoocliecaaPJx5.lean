-- Written by a program of this session (wip/tools/hp.py) over the kit's print; nothing here is trusted: Lean checks it.
import Derived.RegionTactic
import Derived.BigRegion
import Derived.Test.YtlfnfgoocliecaaPJx0
import Derived.Test.YtlfnfgoocliecaaPJx2
import Derived.Test.YtlfnfgoocliecaaPJx4
namespace Go.Proofs.Ytlfnfgoocliecaa.PJ
open Go.RowKit Go.Proofs.YtlfnfgoocliecaaW.PrintWords Go.Proofs.YtlfnfgoocliecaaW.PrintLast Go.Proofs.YtlfnfgoocliecaaW.PrintMore
attribute [local go_sem] max2_int min2_int max_two min_two max_three min_three max_four min_four   -- for this text's walks alone
set_option linter.unusedVariables false
set_option linter.unusedSimpArgs false

--OWN Derived.RegionTactic,Derived.BigRegion
/-! ### session_Table_Look: function 16 -/
def tLook (R : Nat → SRow) (c s : Int) : Int := if 0 ≤ c ∧ c < 8 ∧ 1 ≤ s ∧ s ≤ 1099511627776 then (if (R c.toNat).q < s then 1 else if s < (R c.toNat).q then 3 else 2) else 0
set_option maxHeartbeats 2000000 in
set_option maxRecDepth 100000 in
theorem session_Table_Look.calls (g : Nat) (R : Nat → SRow) (c s : Int) (w0 w : World) (hI : IsTab w0 w g R) :
    Calls Try.prog 16 #[.pointer (some ⟨g, 0, none⟩), .int .i64 c, .int .i64 s] w fun e w' => e = .returned (.int .i64 (tLook R c s)) ∧ w = w' := by
  have HI := Aside0.mk hI
  have HR := Aside0.mk (session_Table_row.calls g R c w0 w hI)
  clear hI
  unfold tLook
  by_cases hc : 0 ≤ c ∧ c < 8
  rotate_left
  · rw [if_neg hc] at HR
    rw [if_neg (by omega)]
    clear hc
    go_enter Try.func16, Try.ntmps16
    go_wp2_with fail
    go_at_call 36
    refine HR.out.mono ?_
    rintro e w1 ⟨rfl, rfl⟩
    clear HR
    go_wp2
    go_ret
    exact ⟨rfl, rfl⟩
  · rw [if_pos hc] at HR
    obtain ⟨n, rfl⟩ := Int.eq_ofNat_of_zero_le hc.1
    rw [Int.toNat_natCast] at HR ⊢
    have hn : n < 8 := by omega
    have hq := (HI.out.cells_ hn).2.2.2.2
    generalize (R n).q = q at hq ⊢
    rcases (show s < 1 ∨ (¬ s < 1 ∧ 1099511627776 < s) ∨ (¬ s < 1 ∧ ¬ 1099511627776 < s) by omega) with a | ⟨a, b⟩ | ⟨a, b⟩
    · have a1 : decide (s < 1) = true := decide_eq_true a
      rw [if_neg (by omega)]
      clear a hc
      go_enter Try.func16, Try.ntmps16
      go_wp2_with fail
      go_at_call 36
      refine HR.out.mono ?_
      rintro e w1 ⟨rfl, rfl⟩
      clear HR
      go_wp2
      go_ret
      exact ⟨rfl, rfl⟩
    · have a1 : decide (s < 1) = false := decide_eq_false a
      have b1 : decide (1099511627776 < s) = true := decide_eq_true b
      rw [if_neg (by omega)]
      clear a b hc
      go_enter Try.func16, Try.ntmps16
      go_wp2_with fail
      go_at_call 36
      refine HR.out.mono ?_
      rintro e w1 ⟨rfl, rfl⟩
      clear HR
      go_wp2
      go_ret
      exact ⟨rfl, rfl⟩
    · have a1 : decide (s < 1) = false := decide_eq_false a
      have b1 : decide (1099511627776 < s) = false := decide_eq_false b
      rw [if_pos (by omega)]
      rcases (show q < s ∨ (¬ q < s ∧ s < q) ∨ (¬ q < s ∧ ¬ s < q) by omega) with x | ⟨x, y⟩ | ⟨x, y⟩
      · have x1 : decide (q < s) = true := decide_eq_true x
        rw [if_pos x]
        clear a b hc x
        go_enter Try.func16, Try.ntmps16
        go_wp2_with fail
        go_at_call 36
        refine HR.out.mono ?_
        rintro e w1 ⟨rfl, rfl⟩
        clear HR
        go_wp2
        go_ret
        exact ⟨rfl, rfl⟩
      · have x1 : decide (q < s) = false := decide_eq_false x
        have y1 : decide (s < q) = true := decide_eq_true y
        rw [if_neg x, if_pos y]
        clear a b hc x y
        go_enter Try.func16, Try.ntmps16
        go_wp2_with fail
        go_at_call 36
        refine HR.out.mono ?_
        rintro e w1 ⟨rfl, rfl⟩
        clear HR
        go_wp2
        go_ret
        exact ⟨rfl, rfl⟩
      · have x1 : decide (q < s) = false := decide_eq_false x
        have y1 : decide (s < q) = false := decide_eq_false y
        rw [if_neg x, if_neg y]
        clear a b hc x y
        go_enter Try.func16, Try.ntmps16
        go_wp2_with fail
        go_at_call 36
        refine HR.out.mono ?_
        rintro e w1 ⟨rfl, rfl⟩
        clear HR
        go_wp2
        go_ret
        exact ⟨rfl, rfl⟩
theorem session_Table_Look.dead {p : Option Addr} (c s : Int) (w : World) (h : DeadT w p) :
    Calls Try.prog 16 #[.pointer p, .int .i64 c, .int .i64 s] w fun e w' => e = .returned (.int .i64 0) ∧ w = w' := by
  have H := Aside0.mk h
  clear h
  go_enter Try.func16, Try.ntmps16
  go_wp2_with fail
  go_at_call 36
  refine (session_Table_row.dead c w H.out).mono ?_
  rintro e w1 ⟨rfl, rfl⟩
  go_wp2
  go_ret
  exact ⟨rfl, rfl⟩

end Go.Proofs.Ytlfnfgoocliecaa.PJ
