-- Written by a program of this session (wip/tools/hp.py) over the kit's print; nothing here is trusted: Lean checks it.
import Derived.Test.YtjdmnlbnaogcdaaProg
import Derived.Below
import Derived.Deep.Draws
import Derived.Deep.AppendLies
import Derived.Maps.AppendAt
import Derived.OwnWalk
import Derived.Laws.BytesArg
import Derived.Laws.MakeOwn
import Derived.Laws.OwnMore
import Derived.Deep.OwnRows
import Derived.Tactics
import Derived.Lib.ConvBytes
import Derived.Laws.Slices
import Derived.WalkKit
import Derived.KernelRfl
import Derived.RowKit3
import Derived.Deep.LoopGhost
import Derived.Deep.QuietTactic
import Derived.BigQuiet
import Derived.WideLaws
import Derived.Deep.DeepCutAuto
import Derived.Deep.CutBlock
import Derived.Deep.RegionHeld3
import Derived.Laws.Rows
import Derived.Lib.AppendStr
import Derived.ArgAppend
import Derived.Laws.IdiomCopy
import Derived.OrdersHeld
import Derived.Laws.BitsLemmas
import Derived.RowKit
import Derived.Test.YtjdmnlbnaogcdaaWWords
namespace Go.Proofs.Ytjdmnlbnaogcdaa.PC
open Go.RowKit Go.Proofs.YtjdmnlbnaogcdaaW.PrintWords Go.Proofs.YtjdmnlbnaogcdaaW.PrintLast Go.Proofs.YtjdmnlbnaogcdaaW.PrintMore
attribute [local go_sem] max2_int min2_int max_two min_two max_three min_three max_four min_four   -- for this text's walks alone
set_option linter.unusedVariables false
set_option linter.unusedSimpArgs false



def errW : Option Int → Value
  | none => .nilIface
  | some c => .iface 0 (.int .i64 c)
theorem errW_none : errW none = .nilIface := rfl
theorem errW_some (c : Int) : errW (some c) = .iface 0 (.int .i64 c) := rfl

theorem info25 : (Try.prog.info? 25).map (fun i => (i.zero, i.size, i.bytes)) = some (some (.agg #[(.int .i64 0), (.int .i64 0)]), 2, 16) := by kernel_rfl
-- the values' own types
/-! #### struct type 25 -/
structure S25 where
  f0 : Int
  f1 : Int
def z25 : S25 := ⟨(0 : Int), (0 : Int)⟩
def k25 : Kd S25 := Kd.iso (Kd.pair (Kd.int .i64) (Kd.int .i64)) (fun x : S25 => (x.f0, x.f1))
theorem k25_open {w : World} {x : S25} {cs : List Value} (h : k25.K w x cs) : cs = [.int .i64 x.f0, .int .i64 x.f1] := by
  obtain ⟨_, _, rfl, rfl, rfl⟩ := h
  exact rfl
theorem k25_openM {w : World} {base : Nat} {ok : Nat → Prop} {x : S25} {cs : List Value} (h : k25.M w base ok x cs) : cs = [.int .i64 x.f0, .int .i64 x.f1] := by
  obtain ⟨_, _, rfl, rfl, rfl⟩ := h
  exact rfl
theorem k25_mk (w : World) (x : S25)  : k25.K w x [.int .i64 x.f0, .int .i64 x.f1] := ⟨[.int .i64 x.f0], [.int .i64 x.f1], rfl, rfl, rfl⟩
theorem k25_mkM (w : World) (base : Nat) (ok : Nat → Prop) (x : S25)  : k25.M w base ok x [.int .i64 x.f0, .int .i64 x.f1] := ⟨[.int .i64 x.f0], [.int .i64 x.f1], rfl, rfl, rfl⟩
def rd_T25 (xs : List S25) (i : Int) : S25 := xs.getD i.toNat z25
theorem at_T25 {w : World} {A : Option Addr} {n : Nat} {xs : List S25} (h : Kd.C k25 w A n xs) (i : Int) (h0 : 0 ≤ i) (h1 : i < n) : ∃ ad , A = some ad ∧ w.cell? (ad.add (i.toNat * 2)) = some (.int .i64 (rd_T25 xs i).f0) ∧ w.cell? ⟨(ad.add (i.toNat * 2)).block, (ad.add (i.toNat * 2)).off + 1, none⟩ = some (.int .i64 (rd_T25 xs i).f1) := by
  obtain ⟨ad, c, e, _, hK, hc0⟩ := Kd.C_get h z25 i h0 h1
  have hc : ∀ j u, c[j]? = some u → w.cell? (ad.add (i.toNat * 2 + j)) = some u := hc0
  obtain rfl := k25_open hK
  exact ⟨ad, e, hc 0 _ rfl, by rw [← add_field _ _ 1 (by omega)]; exact hc 1 _ rfl⟩

theorem bk {w W : World} {g : Nat} {o : Obj} (x : w.heap[g]? = some o) (h : w.heap[g]? = some o → W.heap[g]? = some o := by intro h; (with_reducible repeat (first | refine blk_drewN ?_ _ | refine blk_drew ?_ | refine blk_alloc ?_ _)); exact h) : W.heap[g]? = some o := h x
theorem bh {n : Nat} {w W V : World} (x : Below n w W) (h : Below n w W → Below n w V := by intro h; repeat (first | (with_reducible first | exact h | apply below_alloc | apply pw_below_drewN | apply below_drew1) | exact h)) : Below n w V := h x
theorem br {α : Type} {d : Kd α} {e : Nat} {w W : World} {base : Nat} {ok : Nat → Prop} {v : Value} {xs : List α} (x : d.R e w base ok v xs) (h : d.R e w base ok v xs → d.R e W base ok v xs := by intro h; (with_reducible repeat (first | apply Kd.R_alloc | apply Kd.R_drewN | apply Kd.R_drew)); exact h) : d.R e W base ok v xs := h x
theorem bc {w : World} {g : Nat} {t : TypeId} {cs : Array Value} {v : Value} (h : Aside0 (w.heap[g]? = some (.cells cs t (0, 0)))) (i : Nat) (e : cs[i]? = some v := by exact rfl) : w.cell? ⟨g, i, none⟩ = some v := (blk_cell h.out i).trans e
theorem bg {n g : Nat} {w W V : World} (x : Below n w W) (y : n ≤ g) (h : Below n w W → n ≤ g → Below n w V := by intro h y; repeat (first | (with_reducible first | exact h | apply below_alloc | apply pw_below_drewN | apply below_drew1 | refine below_set ?_ y) | exact h)) : Below n w V := h x y
theorem hfar {w : World} {g b j : Nat} {u : Value} (n : g ≠ b) : (w.setCell ⟨b, j, none⟩ u).heap[g]? = w.heap[g]? := Below.heap_setCell w ⟨b, j, none⟩ u g n
theorem bp0 {P Q : Prop} (x : P) (h : P → Q := by intro h; apply Eq.trans; (repeat (first | (with_reducible first | apply blk_drewN | apply blk_drew | apply blk_alloc | apply blk_set))); (with_reducible exact h); (first | (with_reducible rfl) | (simp only [List.setIfInBounds_toArray, List.set_cons_zero, List.set_cons_succ]))) : Q := h x
theorem bp1 {P Q : Prop} {N0 : Prop} (x : P) (y0 : N0) (h : P → N0 → Q := by intro h y0; apply Eq.trans; (repeat (first | (with_reducible first | apply blk_drewN | apply blk_drew | apply blk_alloc | apply blk_set | apply Eq.trans (hfar y0)))); (with_reducible exact h); (first | (with_reducible rfl) | (simp only [List.setIfInBounds_toArray, List.set_cons_zero, List.set_cons_succ]))) : Q := h x y0
theorem q0 {P Q : Prop} {N0 N1 : Prop} (x : P) (y1 : N0) (y2 : N1) (h : P → N0 → N1 → Q := by intro h y1 y2; repeat (first | (with_reducible first | exact h | apply below_alloc | apply pw_below_drewN | apply below_drew1 | refine below_set ?_ y1 | refine below_set ?_ y2) | exact h)) : Q := h x y1 y2
theorem q1 {P Q : Prop} {N0 N1 N2 : Prop} (x : P) (y1 : N0) (y2 : N1) (y3 : N2) (h : P → N0 → N1 → N2 → Q := by intro h y1 y2 y3; repeat (first | (with_reducible first | exact h | apply below_alloc | apply pw_below_drewN | apply below_drew1 | refine below_set ?_ y1 | refine below_set ?_ y2 | refine below_set ?_ y3) | exact h)) : Q := h x y1 y2 y3
theorem q2 {P Q : Prop} {N0 N1 N2 N3 : Prop} (x : P) (y1 : N0) (y2 : N1) (y3 : N2) (y4 : N3) (h : P → N0 → N1 → N2 → N3 → Q := by intro h y1 y2 y3 y4; repeat (first | (with_reducible first | exact h | apply below_alloc | apply pw_below_drewN | apply below_drew1 | refine below_set ?_ y1 | refine below_set ?_ y2 | refine below_set ?_ y3 | refine below_set ?_ y4) | exact h)) : Q := h x y1 y2 y3 y4
theorem q3 {P Q : Prop} {N0 N1 N2 N3 N4 : Prop} (x : P) (y1 : N0) (y2 : N1) (y3 : N2) (y4 : N3) (y5 : N4) (h : P → N0 → N1 → N2 → N3 → N4 → Q := by intro h y1 y2 y3 y4 y5; repeat (first | (with_reducible first | exact h | apply below_alloc | apply pw_below_drewN | apply below_drew1 | refine below_set ?_ y1 | refine below_set ?_ y2 | refine below_set ?_ y3 | refine below_set ?_ y4 | refine below_set ?_ y5) | exact h)) : Q := h x y1 y2 y3 y4 y5
theorem q4 {P Q : Prop} {N0 N1 N2 N3 N4 N5 : Prop} (x : P) (y1 : N0) (y2 : N1) (y3 : N2) (y4 : N3) (y5 : N4) (y6 : N5) (h : P → N0 → N1 → N2 → N3 → N4 → N5 → Q := by intro h y1 y2 y3 y4 y5 y6; repeat (first | (with_reducible first | exact h | apply below_alloc | apply pw_below_drewN | apply below_drew1 | refine below_set ?_ y1 | refine below_set ?_ y2 | refine below_set ?_ y3 | refine below_set ?_ y4 | refine below_set ?_ y5 | refine below_set ?_ y6) | exact h)) : Q := h x y1 y2 y3 y4 y5 y6
end Go.Proofs.Ytjdmnlbnaogcdaa.PC
