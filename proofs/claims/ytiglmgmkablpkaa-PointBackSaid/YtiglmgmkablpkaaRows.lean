/-
  No cell of these rows narrows 'for every input' (looked for: loops, veiled, ifaces, maps, wideKeys, modest, calm, conditions, laid).
  DERIVED. THE GIVEN ROWS OF THIS SEAT. 4 by the template 'for every input the law returns true; each argument reads behind the call as it read before'; 0 by the template 'total and deterministic' (their statements: YtiglmgmkablpkaaTotals.lean).
  GIVEN WITH THE SEED: the statements are not yours to turn. If you find one false, say at which input.
  Laid BY PROGRAM, IN A SANDBOX (cutbox-rows.mjs): the forced cells as the released guide's own fill.sh prints them over the translation d69d78df35caade7… (all of the seat's roots in one cut). By AI agents, Wed Nov 11 2026. No macro, syntax, notation, axiom, sorry.
-/
import Derived.Test.YtiglmgmkablpkaaChecked
import GoSem.Claim
import GoSem.ClaimJoined
import GoSem.ClaimMapViews
import Derived.JoinedTies
import Derived.KernelRfl
namespace Go.Proofs.Ytiglmgmkablpkaa
/- THE CELL 'sum', in the pinned program and in every row, IS THE sha256 OF THE DUMP (.gsa) THAT YtiglmgmkablpkaaProg.lean LOADS. Nothing in Lean hashes anything: it is a label: what it is worth is what the hold of that sum in a sandbox is worth. -/
noncomputable def Try.pinned : Pinned := { name := "ytiglmgmkablpkaa", sum := "d69d78df35caade757f42cc7d18d0521fe93eb0f98bfae93281c250a911012a8", checked := Try.checked }
namespace Rows
def none {H : Type} : Left H := { results := [], args := [] }

/-- 'glebelaw07.PointTakes': WHATEVER THE INPUT: true; the input reads as it did. -/
def pointTakesSpec : ChangeSpec := { name := "pointTakes", fn := fun _ => fun
  | [d] => { results := [.lit (.bool true)], args := [d] }
  | _ => none }
def pointTakesRow : OpenClaim := { program := "ytiglmgmkablpkaa", sum := "d69d78df35caade757f42cc7d18d0521fe93eb0f98bfae93281c250a911012a8", func := "glebe/glebelaw07.PointTakes", spec := "pointTakes", apart := false }
def PointTakesSaid : Prop := pointTakesRow.holds Try.pinned (OpenSpec.ofChange pointTakesSpec)

/-- ITS FALSE NEIGHBOUR: 'it returns false'. Refute it at one input. -/
def pointTakesWrong : ChangeSpec := { name := "pointTakes", fn := fun _ => fun
  | [d] => { results := [.lit (.bool false)], args := [d] }
  | _ => none }
def PointTakesWrongFalsely : Prop := pointTakesRow.holds Try.pinned (OpenSpec.ofChange pointTakesWrong)

/-- 'glebelaw07.PointBack': WHATEVER THE INPUT: true; the input reads as it did. -/
def pointBackSpec : ChangeSpec := { name := "pointBack", fn := fun _ => fun
  | [d1, d2, d3, d4] => { results := [.lit (.bool true)], args := [d1, d2, d3, d4] }
  | _ => none }
def pointBackRow : OpenClaim := { program := "ytiglmgmkablpkaa", sum := "d69d78df35caade757f42cc7d18d0521fe93eb0f98bfae93281c250a911012a8", func := "glebe/glebelaw07.PointBack", spec := "pointBack", apart := false }
def PointBackSaid : Prop := pointBackRow.holds Try.pinned (OpenSpec.ofChange pointBackSpec)

/-- ITS FALSE NEIGHBOUR: 'it returns false'. Refute it at one input. -/
def pointBackWrong : ChangeSpec := { name := "pointBack", fn := fun _ => fun
  | [d1, d2, d3, d4] => { results := [.lit (.bool false)], args := [d1, d2, d3, d4] }
  | _ => none }
def PointBackWrongFalsely : Prop := pointBackRow.holds Try.pinned (OpenSpec.ofChange pointBackWrong)

/-- 'glebelaw07.PointOrder': WHATEVER THE INPUT: true; the input reads as it did. -/
def pointOrderSpec : ChangeSpec := { name := "pointOrder", fn := fun _ => fun
  | [d1, d2, d3] => { results := [.lit (.bool true)], args := [d1, d2, d3] }
  | _ => none }
def pointOrderRow : OpenClaim := { program := "ytiglmgmkablpkaa", sum := "d69d78df35caade757f42cc7d18d0521fe93eb0f98bfae93281c250a911012a8", func := "glebe/glebelaw07.PointOrder", spec := "pointOrder", inPlace := ["internal/bytealg.abigen_runtime_cmpstring"], apart := false }
def PointOrderSaid : Prop := pointOrderRow.holds Try.pinned (OpenSpec.ofChange pointOrderSpec)

/-- ITS FALSE NEIGHBOUR: 'it returns false'. Refute it at one input. -/
def pointOrderWrong : ChangeSpec := { name := "pointOrder", fn := fun _ => fun
  | [d1, d2, d3] => { results := [.lit (.bool false)], args := [d1, d2, d3] }
  | _ => none }
def PointOrderWrongFalsely : Prop := pointOrderRow.holds Try.pinned (OpenSpec.ofChange pointOrderWrong)

/-- 'glebelaw07.PointPuts': WHATEVER THE INPUT: true; the input reads as it did. -/
def pointPutsSpec : ChangeSpec := { name := "pointPuts", fn := fun _ => fun
  | [d1, d2, d3, d4] => { results := [.lit (.bool true)], args := [d1, d2, d3, d4] }
  | _ => none }
def pointPutsRow : OpenClaim := { program := "ytiglmgmkablpkaa", sum := "d69d78df35caade757f42cc7d18d0521fe93eb0f98bfae93281c250a911012a8", func := "glebe/glebelaw07.PointPuts", spec := "pointPuts", inPlace := ["internal/bytealg.abigen_runtime_cmpstring"], apart := false }
def PointPutsSaid : Prop := pointPutsRow.holds Try.pinned (OpenSpec.ofChange pointPutsSpec)

/-- ITS FALSE NEIGHBOUR: 'it returns false'. Refute it at one input. -/
def pointPutsWrong : ChangeSpec := { name := "pointPuts", fn := fun _ => fun
  | [d1, d2, d3, d4] => { results := [.lit (.bool false)], args := [d1, d2, d3, d4] }
  | _ => none }
def PointPutsWrongFalsely : Prop := pointPutsRow.holds Try.pinned (OpenSpec.ofChange pointPutsWrong)

/- THE SECOND FORM. 'bulk': how many values and letters a reading holds, each counted each time it is reached (what is shared counts as often as it is met; a slice's spare places count too). A statement '..UptoSaid' is the law's where the arguments, and the package variables that the reading takes, are together of bulk at most 1048576: NARROWER than '..Said'. Prove '..Said' where nothing that the law and all that it calls make is longer than what came in: it says more and counts as full. Else prove '..UptoSaid'. A law counts once. -/
mutual
def uptoBulk {H : Type} : DataW H → Nat
  | .lit (.string bytes) => bytes.length + 1
  | .lit _ => 1
  | .nil => 1
  | .ptr d => uptoBulk d + 1
  | .slice elems spare => uptoBulkAll elems + uptoBulkAll spare + 1
  | .agg parts => uptoBulkAll parts + 1
  | .iface _ d => uptoBulk d + 1
  | .map entries => uptoBulkEntries entries + 1
  | .held _ => 1
def uptoBulkAll {H : Type} : List (DataW H) → Nat
  | [] => 0
  | d :: r => uptoBulk d + uptoBulkAll r
def uptoBulkEntries {H : Type} : List (Lit × DataW H) → Nat
  | [] => 0
  | x :: r => uptoBulkEntry x + uptoBulkEntries r
def uptoBulkEntry {H : Type} : Lit × DataW H → Nat
  | (.string bytes, d) => bytes.length + uptoBulk d + 1
  | (_, d) => uptoBulk d + 1
 end
def uptoSmall : (H : Type) → List (DataW H) → Bool := fun _ ds => decide (uptoBulkAll ds ≤ 1048576)
def OpenSpec.upto (s : _root_.Go.ChangeSpec) : _root_.Go.OpenSpec := { _root_.Go.OpenSpec.ofChange s with cond := some uptoSmall }

/-- 'glebelaw07.PointTakes', WHERE WHAT IT READS IS OF BULK AT MOST 1048576: true; the input reads as it did. -/
def pointTakesUptoRow : OpenClaim := { program := "ytiglmgmkablpkaa", sum := "d69d78df35caade757f42cc7d18d0521fe93eb0f98bfae93281c250a911012a8", func := "glebe/glebelaw07.PointTakes", spec := "pointTakes", apart := false, narrowed := true }
def PointTakesUptoSaid : Prop := pointTakesUptoRow.holds Try.pinned (OpenSpec.upto pointTakesSpec)

/-- 'glebelaw07.PointBack', WHERE WHAT IT READS IS OF BULK AT MOST 1048576: true; the input reads as it did. -/
def pointBackUptoRow : OpenClaim := { program := "ytiglmgmkablpkaa", sum := "d69d78df35caade757f42cc7d18d0521fe93eb0f98bfae93281c250a911012a8", func := "glebe/glebelaw07.PointBack", spec := "pointBack", apart := false, narrowed := true }
def PointBackUptoSaid : Prop := pointBackUptoRow.holds Try.pinned (OpenSpec.upto pointBackSpec)

/-- 'glebelaw07.PointOrder', WHERE WHAT IT READS IS OF BULK AT MOST 1048576: true; the input reads as it did. -/
def pointOrderUptoRow : OpenClaim := { program := "ytiglmgmkablpkaa", sum := "d69d78df35caade757f42cc7d18d0521fe93eb0f98bfae93281c250a911012a8", func := "glebe/glebelaw07.PointOrder", spec := "pointOrder", inPlace := ["internal/bytealg.abigen_runtime_cmpstring"], apart := false, narrowed := true }
def PointOrderUptoSaid : Prop := pointOrderUptoRow.holds Try.pinned (OpenSpec.upto pointOrderSpec)

/-- 'glebelaw07.PointPuts', WHERE WHAT IT READS IS OF BULK AT MOST 1048576: true; the input reads as it did. -/
def pointPutsUptoRow : OpenClaim := { program := "ytiglmgmkablpkaa", sum := "d69d78df35caade757f42cc7d18d0521fe93eb0f98bfae93281c250a911012a8", func := "glebe/glebelaw07.PointPuts", spec := "pointPuts", inPlace := ["internal/bytealg.abigen_runtime_cmpstring"], apart := false, narrowed := true }
def PointPutsUptoSaid : Prop := pointPutsUptoRow.holds Try.pinned (OpenSpec.upto pointPutsSpec)

end Rows
end Go.Proofs.Ytiglmgmkablpkaa
