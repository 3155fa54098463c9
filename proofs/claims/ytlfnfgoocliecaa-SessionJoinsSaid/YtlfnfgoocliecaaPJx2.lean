-- Written by a program of this session (wip/tools/hp.py) over the kit's print; nothing here is trusted: Lean checks it.
import Derived.RegionTactic
import Derived.BigRegion
import Derived.Test.YtlfnfgoocliecaaPJx0
namespace Go.Proofs.Ytlfnfgoocliecaa.PJ
open Go.RowKit Go.Proofs.YtlfnfgoocliecaaW.PrintWords Go.Proofs.YtlfnfgoocliecaaW.PrintLast Go.Proofs.YtlfnfgoocliecaaW.PrintMore
attribute [local go_sem] max2_int min2_int max_two min_two max_three min_three max_four min_four   -- for this text's walks alone
set_option linter.unusedVariables false
set_option linter.unusedSimpArgs false

--OWN Derived.RegionTactic,Derived.BigRegion
/-! ### session_New: function 11 -/
theorem drawn_below {w w' : World} (h : Drawn0 w w') : Below w.heap.size w w' := h.below
/-- A row of the table: E, Found, Value, Ver, Seq. -/
structure SRow where
  e : Int
  f : Bool
  v : ByteArray
  n : Int
  q : Int
def SRow.cells (r : SRow) : List Value := [.int .i64 r.e, .bool r.f, .string r.v, .int .i64 r.n, .int .i64 r.q]
def SRow.none : SRow := ⟨0, false, ⟨#[]⟩, 0, 0⟩
def tabCells (R : Nat → SRow) : Array Value := #[.int .i64 (R 0).e, .bool (R 0).f, .string (R 0).v, .int .i64 (R 0).n, .int .i64 (R 0).q, .int .i64 (R 1).e, .bool (R 1).f, .string (R 1).v, .int .i64 (R 1).n, .int .i64 (R 1).q, .int .i64 (R 2).e, .bool (R 2).f, .string (R 2).v, .int .i64 (R 2).n, .int .i64 (R 2).q, .int .i64 (R 3).e, .bool (R 3).f, .string (R 3).v, .int .i64 (R 3).n, .int .i64 (R 3).q, .int .i64 (R 4).e, .bool (R 4).f, .string (R 4).v, .int .i64 (R 4).n, .int .i64 (R 4).q, .int .i64 (R 5).e, .bool (R 5).f, .string (R 5).v, .int .i64 (R 5).n, .int .i64 (R 5).q, .int .i64 (R 6).e, .bool (R 6).f, .string (R 6).v, .int .i64 (R 6).n, .int .i64 (R 6).q, .int .i64 (R 7).e, .bool (R 7).f, .string (R 7).v, .int .i64 (R 7).n, .int .i64 (R 7).q, .bool true]
theorem lt8 {c : Nat} (h : c < 8) : c = 0 ∨ c = 1 ∨ c = 2 ∨ c = 3 ∨ c = 4 ∨ c = 5 ∨ c = 6 ∨ c = 7 := by omega
theorem tab_cells (R : Nat → SRow) {c : Nat} (h : c < 8) : (tabCells R)[c * 5]? = some (.int .i64 (R c).e) ∧ (tabCells R)[c * 5 + 1]? = some (.bool (R c).f) ∧ (tabCells R)[c * 5 + 2]? = some (.string (R c).v) ∧ (tabCells R)[c * 5 + 3]? = some (.int .i64 (R c).n) ∧ (tabCells R)[c * 5 + 4]? = some (.int .i64 (R c).q) := by
  rcases lt8 h with rfl | rfl | rfl | rfl | rfl | rfl | rfl | rfl <;> exact ⟨rfl, rfl, rfl, rfl, rfl⟩
theorem tab_made (R : Nat → SRow) : (tabCells R)[40]? = some (.bool true) := rfl
def upd (R : Nat → SRow) (c : Nat) (r : SRow) : Nat → SRow := fun i => if i = c then r else R i
set_option maxHeartbeats 2000000 in
theorem tab_upd (R : Nat → SRow) {c : Nat} (h : c < 8) (r : SRow) : (((((tabCells R).setIfInBounds (c * 5) (.int .i64 r.e)).setIfInBounds (c * 5 + 1) (.bool r.f)).setIfInBounds (c * 5 + 2) (.string r.v)).setIfInBounds (c * 5 + 3) (.int .i64 r.n)).setIfInBounds (c * 5 + 4) (.int .i64 r.q) = tabCells (upd R c r) := by
  rcases lt8 h with rfl | rfl | rfl | rfl | rfl | rfl | rfl | rfl <;> simp [tabCells, upd]
/-- A table that was made. -/
structure IsTab (w0 w : World) (g : Nat) (R : Nat → SRow) : Prop where
  base : w0.heap.size ≤ g
  blk : w.heap[g]? = some (.cells (tabCells R) 56 (0, 0))
namespace IsTab
variable {w0 w w' : World} {g : Nat} {R : Nat → SRow}
theorem lt (h : IsTab w0 w g R) : g < w.heap.size := blk_lt h.blk
theorem below (h : IsTab w0 w g R) (hb : Below w.heap.size w w') : IsTab w0 w' g R := ⟨h.base, blk_below h.blk hb⟩
theorem keep (h : IsTab w0 w g R) {g' : Nat} (hk : KeepBut w w' g' none) (hne : g ≠ g') : IsTab w0 w' g R := ⟨h.base, hk.blk h.blk hne (by simp)⟩
theorem made_ (h : IsTab w0 w g R) : w.cell? ⟨g, 40, none⟩ = some (.bool true) := (blk_cell h.blk 40).trans (tab_made R)
theorem cells_ (h : IsTab w0 w g R) {c : Nat} (hc : c < 8) : w.cell? ⟨g, c * 5, none⟩ = some (.int .i64 (R c).e) ∧ w.cell? ⟨g, c * 5 + 1, none⟩ = some (.bool (R c).f) ∧ w.cell? ⟨g, c * 5 + 2, none⟩ = some (.string (R c).v) ∧ w.cell? ⟨g, c * 5 + 3, none⟩ = some (.int .i64 (R c).n) ∧ w.cell? ⟨g, c * 5 + 4, none⟩ = some (.int .i64 (R c).q) := by
  obtain ⟨h0, h1, h2, h3, h4⟩ := tab_cells R hc
  exact ⟨(blk_cell h.blk _).trans h0, (blk_cell h.blk _).trans h1, (blk_cell h.blk _).trans h2, (blk_cell h.blk _).trans h3, (blk_cell h.blk _).trans h4⟩
end IsTab
set_option maxHeartbeats 2000000 in
set_option maxRecDepth 100000 in
theorem session_New.calls (w0 w : World) (hB : Below w0.heap.size w0 w) :
    Calls Try.prog 11 #[] w fun e w' => ∃ g, e = .returned (.pointer (some ⟨g, 0, none⟩)) ∧ w.heap.size ≤ g ∧ IsTab w0 w' g (fun _ => SRow.none) ∧ Below w.heap.size w w' := by
  have HB := Aside0.mk hB
  clear hB
  go_enter Try.func11, Try.ntmps11
  go_wp2
  go_ret
  refine ⟨w.heap.size, rfl, Nat.le_refl _, ⟨HB.out.size, ?_⟩, below_alloc (Below.refl _ _) _⟩
  exact Go.heap_alloc_new _ _
/-- No table, or one that nobody made. -/
def DeadT (w : World) (p : Option Addr) : Prop := p = none ∨ ∃ g, p = some ⟨g, 0, none⟩ ∧ w.cell? ⟨g, 40, none⟩ = some (.bool false)
theorem DeadT.below {w w' : World} {p : Option Addr} (h : DeadT w p) (hb : Below w.heap.size w w') : DeadT w' p := by
  rcases h with h | ⟨g, h, hc⟩
  · exact .inl h
  · exact .inr ⟨g, h, (hb.cell (World.block_lt_of_cell? w _ hc)).trans hc⟩

end Go.Proofs.Ytlfnfgoocliecaa.PJ
