-- Written by a program of this session (wip/tools/hp.py) over the kit's print; nothing here is trusted: Lean checks it.
import Derived.RegionTactic
import Derived.BigRegion
import Derived.Test.YtlfnfgoocliecaaPJx0
import Derived.Test.YtlfnfgoocliecaaPJx2
import Derived.Test.YtlfnfgoocliecaaPJx5
import Derived.Test.YtlfnfgoocliecaaPJx14
namespace Go.Proofs.Ytlfnfgoocliecaa.PJ
open Go.RowKit Go.Proofs.YtlfnfgoocliecaaW.PrintWords Go.Proofs.YtlfnfgoocliecaaW.PrintLast Go.Proofs.YtlfnfgoocliecaaW.PrintMore
attribute [local go_sem] max2_int min2_int max_two min_two max_three min_three max_four min_four   -- for this text's walks alone
set_option linter.unusedVariables false
set_option linter.unusedSimpArgs false

--OWN Derived.RegionTactic,Derived.BigRegion
/-! ### gleberef09_Table_Look: function 37 -/
def rtabCells (R : Nat → SRow) : Array Value := #[.int .i64 (R 0).q, .int .i64 (R 1).q, .int .i64 (R 2).q, .int .i64 (R 3).q, .int .i64 (R 4).q, .int .i64 (R 5).q, .int .i64 (R 6).q, .int .i64 (R 7).q, .int .i64 (R 0).e, .bool (R 0).f, .string (R 0).v, .int .i64 (R 0).n, .int .i64 (R 1).e, .bool (R 1).f, .string (R 1).v, .int .i64 (R 1).n, .int .i64 (R 2).e, .bool (R 2).f, .string (R 2).v, .int .i64 (R 2).n, .int .i64 (R 3).e, .bool (R 3).f, .string (R 3).v, .int .i64 (R 3).n, .int .i64 (R 4).e, .bool (R 4).f, .string (R 4).v, .int .i64 (R 4).n, .int .i64 (R 5).e, .bool (R 5).f, .string (R 5).v, .int .i64 (R 5).n, .int .i64 (R 6).e, .bool (R 6).f, .string (R 6).v, .int .i64 (R 6).n, .int .i64 (R 7).e, .bool (R 7).f, .string (R 7).v, .int .i64 (R 7).n]
theorem rtab_cells (R : Nat → SRow) {c : Nat} (h : c < 8) : (rtabCells R)[c]? = some (.int .i64 (R c).q) ∧ (rtabCells R)[8 + c * 4]? = some (.int .i64 (R c).e) ∧ (rtabCells R)[8 + c * 4 + 1]? = some (.bool (R c).f) ∧ (rtabCells R)[8 + c * 4 + 2]? = some (.string (R c).v) ∧ (rtabCells R)[8 + c * 4 + 3]? = some (.int .i64 (R c).n) := by
  rcases lt8 h with rfl | rfl | rfl | rfl | rfl | rfl | rfl | rfl <;> exact ⟨rfl, rfl, rfl, rfl, rfl⟩
set_option maxHeartbeats 2000000 in
theorem rtab_upd (R : Nat → SRow) {c : Nat} (h : c < 8) (r : SRow) : (((((rtabCells R).setIfInBounds c (.int .i64 r.q)).setIfInBounds (8 + c * 4) (.int .i64 r.e)).setIfInBounds (8 + c * 4 + 1) (.bool r.f)).setIfInBounds (8 + c * 4 + 2) (.string r.v)).setIfInBounds (8 + c * 4 + 3) (.int .i64 r.n) = rtabCells (upd R c r) := by
  rcases lt8 h with rfl | rfl | rfl | rfl | rfl | rfl | rfl | rfl <;> simp [rtabCells, upd]
/-- The document's table. -/
structure IsRTab (w0 w : World) (g : Nat) (R : Nat → SRow) : Prop where
  base : w0.heap.size ≤ g
  blk : w.heap[g]? = some (.cells (rtabCells R) 78 (0, 0))
theorem IsRTab.below {w0 w w' : World} {g : Nat} {R : Nat → SRow} (h : IsRTab w0 w g R) (hb : Below w.heap.size w w') : IsRTab w0 w' g R := ⟨h.base, blk_below h.blk hb⟩
theorem IsRTab.keep {w0 w w' : World} {g : Nat} {R : Nat → SRow} (h : IsRTab w0 w g R) {g' : Nat} (hk : KeepBut w w' g' none) (hne : g ≠ g') : IsRTab w0 w' g R := ⟨h.base, hk.blk h.blk hne (by simp)⟩
theorem IsRTab.cells_ {w0 w : World} {g : Nat} {R : Nat → SRow} (h : IsRTab w0 w g R) {c : Nat} (hc : c < 8) : w.cell? ⟨g, c, none⟩ = some (.int .i64 (R c).q) ∧ w.cell? ⟨g, 8 + c * 4, none⟩ = some (.int .i64 (R c).e) ∧ w.cell? ⟨g, 8 + c * 4 + 1, none⟩ = some (.bool (R c).f) ∧ w.cell? ⟨g, 8 + c * 4 + 2, none⟩ = some (.string (R c).v) ∧ w.cell? ⟨g, 8 + c * 4 + 3, none⟩ = some (.int .i64 (R c).n) := by
  obtain ⟨h0, h1, h2, h3, h4⟩ := rtab_cells R hc
  exact ⟨(blk_cell h.blk _).trans h0, (blk_cell h.blk _).trans h1, (blk_cell h.blk _).trans h2, (blk_cell h.blk _).trans h3, (blk_cell h.blk _).trans h4⟩
theorem right_eq (c s : Int) : gleberef09_right.f c s = some (decide (0 ≤ c ∧ c < 8 ∧ 1 ≤ s ∧ s ≤ 1099511627776)) := by
  unfold gleberef09_right.f
  by_cases h1 : c ≥ 0
  · rw [if_pos h1]
    by_cases h2 : c < 8
    · rw [if_pos h2]
      by_cases h3 : s ≥ 1
      · rw [if_pos h3]
        congr 1
        simp only [decide_eq_decide]
        omega
      · rw [if_neg h3, decide_eq_false (by omega)]
    · rw [if_neg h2, decide_eq_false (by omega)]
  · rw [if_neg h1, decide_eq_false (by omega)]
set_option maxHeartbeats 2000000 in
set_option maxRecDepth 100000 in
theorem gleberef09_Table_Look.calls (g : Nat) (R : Nat → SRow) (c s : Int) (w0 w : World) (hI : IsRTab w0 w g R) :
    Calls Try.prog 37 #[.pointer (some ⟨g, 0, none⟩), .int .i64 c, .int .i64 s] w fun e w' => e = .returned (.int .i64 (tLook R c s)) ∧ Below w.heap.size w w' := by
  have HI := Aside0.mk hI
  have hr := right_eq c s
  clear hI
  unfold tLook
  by_cases hc : 0 ≤ c ∧ c < 8 ∧ 1 ≤ s ∧ s ≤ 1099511627776
  rotate_left
  · rw [if_neg hc]
    rw [decide_eq_false hc] at hr
    have HR := Aside0.mk hr
    clear hc hr
    go_enter Try.func37, Try.ntmps37
    go_wp2_with fail
    refine (gleberef09_right.calls c s false w HR.out).mono ?_
    rintro e w1 ⟨rfl, hd⟩
    have HB := Aside0.mk (Drawn0.below hd)
    clear hd
    go_wp2
    go_ret
    exact ⟨rfl, HB.out⟩
  · rw [if_pos hc]
    rw [decide_eq_true hc] at hr
    have HR := Aside0.mk hr
    obtain ⟨n, rfl⟩ := Int.eq_ofNat_of_zero_le hc.1
    rw [Int.toNat_natCast]
    have hn : n < 8 := by omega
    have HQ := Aside0.mk (HI.out.cells_ hn).1
    clear hr
    generalize (R n).q = q at HQ ⊢
    rcases (show q < s ∨ (¬ q < s ∧ s < q) ∨ (¬ q < s ∧ ¬ s < q) by omega) with x | ⟨x, y⟩ | ⟨x, y⟩
    · have x1 : decide (q < s) = true := decide_eq_true x
      rw [if_pos x]
      clear hc x
      go_enter Try.func37, Try.ntmps37
      go_wp2_with fail
      refine (gleberef09_right.calls n s true w HR.out).mono ?_
      rintro e w1 ⟨rfl, hd⟩
      have HB := Aside0.mk (Drawn0.below hd)
      have hq := (HB.out.cell (World.block_lt_of_cell? w _ HQ.out)).trans HQ.out
      clear hd
      go_wp2
      go_ret
      exact ⟨rfl, HB.out⟩
    · have x1 : decide (q < s) = false := decide_eq_false x
      have y1 : (s == q) = false := beq_eq_false_iff_ne.mpr (by omega)
      rw [if_neg x, if_pos y]
      clear hc x y
      go_enter Try.func37, Try.ntmps37
      go_wp2_with fail
      refine (gleberef09_right.calls n s true w HR.out).mono ?_
      rintro e w1 ⟨rfl, hd⟩
      have HB := Aside0.mk (Drawn0.below hd)
      have hq := (HB.out.cell (World.block_lt_of_cell? w _ HQ.out)).trans HQ.out
      clear hd
      go_wp2
      go_ret
      exact ⟨rfl, HB.out⟩
    · have x1 : decide (q < s) = false := decide_eq_false x
      have y1 : (s == q) = true := beq_iff_eq.mpr (by omega)
      rw [if_neg x, if_neg y]
      clear hc x y
      go_enter Try.func37, Try.ntmps37
      go_wp2_with fail
      refine (gleberef09_right.calls n s true w HR.out).mono ?_
      rintro e w1 ⟨rfl, hd⟩
      have HB := Aside0.mk (Drawn0.below hd)
      have hq := (HB.out.cell (World.block_lt_of_cell? w _ HQ.out)).trans HQ.out
      clear hd
      go_wp2
      go_ret
      exact ⟨rfl, HB.out⟩

end Go.Proofs.Ytlfnfgoocliecaa.PJ
