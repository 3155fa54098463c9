/-
  No cell of these rows narrows 'for every input' (looked for: loops, veiled, ifaces, maps, wideKeys, modest, calm, conditions, laid).
  DERIVED. THE GIVEN ROWS OF THIS SEAT. 4 by the template 'for every input the law returns true; each argument reads behind the call as it read before'; 0 by the template 'total and deterministic' (their statements: YtnkfbkbllkdnoaaTotals.lean).
  GIVEN WITH THE SEED: the statements are not yours to turn. If you find one false, say at which input.
  Laid BY PROGRAM, IN A SANDBOX (cutbox-rows.mjs): the forced cells as the released guide's own fill.sh prints them over the translation 8e1d283a3721a79a… (all of the seat's roots in one cut). By AI agents, Wed Nov 11 2026. No macro, syntax, notation, axiom, sorry.
-/
import Derived.Test.YtnkfbkbllkdnoaaChecked
import GoSem.Claim
import GoSem.ClaimJoined
import GoSem.ClaimMapViews
import Derived.JoinedTies
import Derived.KernelRfl
namespace Go.Proofs.Ytnkfbkbllkdnoaa
/- THE CELL 'sum', in the pinned program and in every row, IS THE sha256 OF THE DUMP (.gsa) THAT YtnkfbkbllkdnoaaProg.lean LOADS. Nothing in Lean hashes anything: it is a label: what it is worth is what the hold of that sum in a sandbox is worth. -/
noncomputable def Try.pinned : Pinned := { name := "ytnkfbkbllkdnoaa", sum := "8e1d283a3721a79ae751fbec19a1340dff8b56c1358ffb666560be7758e5ec97", checked := Try.checked }
namespace Rows
def none {H : Type} : Left H := { results := [], args := [] }

/-- 'glebelaw04.WindowDists': WHATEVER THE INPUT: true; the input reads as it did. -/
def windowDistsSpec : ChangeSpec := { name := "windowDists", fn := fun _ => fun
  | [d1, d2, d3] => { results := [.lit (.bool true)], args := [d1, d2, d3] }
  | _ => none }
def windowDistsRow : OpenClaim := { program := "ytnkfbkbllkdnoaa", sum := "8e1d283a3721a79ae751fbec19a1340dff8b56c1358ffb666560be7758e5ec97", func := "glebe/glebelaw04.WindowDists", spec := "windowDists", unfollowed := true, recurses := true, apart := false }
def WindowDistsSaid : Prop := windowDistsRow.holds Try.pinned (OpenSpec.ofChange windowDistsSpec)

/-- ITS FALSE NEIGHBOUR: 'it returns false'. Refute it at one input. -/
def windowDistsWrong : ChangeSpec := { name := "windowDists", fn := fun _ => fun
  | [d1, d2, d3] => { results := [.lit (.bool false)], args := [d1, d2, d3] }
  | _ => none }
def WindowDistsWrongFalsely : Prop := windowDistsRow.holds Try.pinned (OpenSpec.ofChange windowDistsWrong)

/-- 'glebelaw04.WindowFour': WHATEVER THE INPUT: true; the input reads as it did. -/
def windowFourSpec : ChangeSpec := { name := "windowFour", fn := fun _ => fun
  | [d1, d2, d3] => { results := [.lit (.bool true)], args := [d1, d2, d3] }
  | _ => none }
def windowFourRow : OpenClaim := { program := "ytnkfbkbllkdnoaa", sum := "8e1d283a3721a79ae751fbec19a1340dff8b56c1358ffb666560be7758e5ec97", func := "glebe/glebelaw04.WindowFour", spec := "windowFour", unfollowed := true, recurses := true, apart := false }
def WindowFourSaid : Prop := windowFourRow.holds Try.pinned (OpenSpec.ofChange windowFourSpec)

/-- ITS FALSE NEIGHBOUR: 'it returns false'. Refute it at one input. -/
def windowFourWrong : ChangeSpec := { name := "windowFour", fn := fun _ => fun
  | [d1, d2, d3] => { results := [.lit (.bool false)], args := [d1, d2, d3] }
  | _ => none }
def WindowFourWrongFalsely : Prop := windowFourRow.holds Try.pinned (OpenSpec.ofChange windowFourWrong)

/-- 'glebelaw04.WindowCuts': WHATEVER THE INPUT: true; the input reads as it did. -/
def windowCutsSpec : ChangeSpec := { name := "windowCuts", fn := fun _ => fun
  | [d1, d2, d3, d4] => { results := [.lit (.bool true)], args := [d1, d2, d3, d4] }
  | _ => none }
def windowCutsRow : OpenClaim := { program := "ytnkfbkbllkdnoaa", sum := "8e1d283a3721a79ae751fbec19a1340dff8b56c1358ffb666560be7758e5ec97", func := "glebe/glebelaw04.WindowCuts", spec := "windowCuts", unfollowed := true, recurses := true, apart := false }
def WindowCutsSaid : Prop := windowCutsRow.holds Try.pinned (OpenSpec.ofChange windowCutsSpec)

/-- ITS FALSE NEIGHBOUR: 'it returns false'. Refute it at one input. -/
def windowCutsWrong : ChangeSpec := { name := "windowCuts", fn := fun _ => fun
  | [d1, d2, d3, d4] => { results := [.lit (.bool false)], args := [d1, d2, d3, d4] }
  | _ => none }
def WindowCutsWrongFalsely : Prop := windowCutsRow.holds Try.pinned (OpenSpec.ofChange windowCutsWrong)

/-- 'glebelaw04.WindowHalves': WHATEVER THE INPUT: true; the input reads as it did. -/
def windowHalvesSpec : ChangeSpec := { name := "windowHalves", fn := fun _ => fun
  | [d1, d2, d3] => { results := [.lit (.bool true)], args := [d1, d2, d3] }
  | _ => none }
def windowHalvesRow : OpenClaim := { program := "ytnkfbkbllkdnoaa", sum := "8e1d283a3721a79ae751fbec19a1340dff8b56c1358ffb666560be7758e5ec97", func := "glebe/glebelaw04.WindowHalves", spec := "windowHalves", unfollowed := true, recurses := true, apart := false }
def WindowHalvesSaid : Prop := windowHalvesRow.holds Try.pinned (OpenSpec.ofChange windowHalvesSpec)

/-- ITS FALSE NEIGHBOUR: 'it returns false'. Refute it at one input. -/
def windowHalvesWrong : ChangeSpec := { name := "windowHalves", fn := fun _ => fun
  | [d1, d2, d3] => { results := [.lit (.bool false)], args := [d1, d2, d3] }
  | _ => none }
def WindowHalvesWrongFalsely : Prop := windowHalvesRow.holds Try.pinned (OpenSpec.ofChange windowHalvesWrong)

/- THE SECOND FORM. 'bulk': how many values and letters a reading holds, each counted each time it is reached (what is shared counts as often as it is met; a slice's spare places count too). A statement '..UptoSaid' is the law's where the arguments, and the package variables that the reading takes, are together of bulk at most 1048576: NARROWER than '..Said'. Prove '..Said' where nothing that the law and all that it calls make is longer than what came in: it says more and counts as full. Else prove '..UptoSaid'. A law counts once. -/
mutual
def uptoBulk {H : Type} : DataW H → Nat
  | .lit (.string bytes) => bytes.length + 1
  | .lit _ => 1
  | .nil => 1
  | .ptr d => uptoBulk d + 1
  | .slice elems spare => uptoBulkAll elems + uptoBulkAll spare + 1
  | .agg parts => uptoBulkAll parts + 1
  | .iface _ d => uptoBulk d + 1
  | .map entries => uptoBulkEntries entries + 1
  | .held _ => 1
def uptoBulkAll {H : Type} : List (DataW H) → Nat
  | [] => 0
  | d :: r => uptoBulk d + uptoBulkAll r
def uptoBulkEntries {H : Type} : List (Lit × DataW H) → Nat
  | [] => 0
  | x :: r => uptoBulkEntry x + uptoBulkEntries r
def uptoBulkEntry {H : Type} : Lit × DataW H → Nat
  | (.string bytes, d) => bytes.length + uptoBulk d + 1
  | (_, d) => uptoBulk d + 1
 end
def uptoSmall : (H : Type) → List (DataW H) → Bool := fun _ ds => decide (uptoBulkAll ds ≤ 1048576)
def OpenSpec.upto (s : _root_.Go.ChangeSpec) : _root_.Go.OpenSpec := { _root_.Go.OpenSpec.ofChange s with cond := some uptoSmall }

/-- 'glebelaw04.WindowDists', WHERE WHAT IT READS IS OF BULK AT MOST 1048576: true; the input reads as it did. -/
def windowDistsUptoRow : OpenClaim := { program := "ytnkfbkbllkdnoaa", sum := "8e1d283a3721a79ae751fbec19a1340dff8b56c1358ffb666560be7758e5ec97", func := "glebe/glebelaw04.WindowDists", spec := "windowDists", unfollowed := true, recurses := true, apart := false, narrowed := true }
def WindowDistsUptoSaid : Prop := windowDistsUptoRow.holds Try.pinned (OpenSpec.upto windowDistsSpec)

/-- 'glebelaw04.WindowFour', WHERE WHAT IT READS IS OF BULK AT MOST 1048576: true; the input reads as it did. -/
def windowFourUptoRow : OpenClaim := { program := "ytnkfbkbllkdnoaa", sum := "8e1d283a3721a79ae751fbec19a1340dff8b56c1358ffb666560be7758e5ec97", func := "glebe/glebelaw04.WindowFour", spec := "windowFour", unfollowed := true, recurses := true, apart := false, narrowed := true }
def WindowFourUptoSaid : Prop := windowFourUptoRow.holds Try.pinned (OpenSpec.upto windowFourSpec)

/-- 'glebelaw04.WindowCuts', WHERE WHAT IT READS IS OF BULK AT MOST 1048576: true; the input reads as it did. -/
def windowCutsUptoRow : OpenClaim := { program := "ytnkfbkbllkdnoaa", sum := "8e1d283a3721a79ae751fbec19a1340dff8b56c1358ffb666560be7758e5ec97", func := "glebe/glebelaw04.WindowCuts", spec := "windowCuts", unfollowed := true, recurses := true, apart := false, narrowed := true }
def WindowCutsUptoSaid : Prop := windowCutsUptoRow.holds Try.pinned (OpenSpec.upto windowCutsSpec)

/-- 'glebelaw04.WindowHalves', WHERE WHAT IT READS IS OF BULK AT MOST 1048576: true; the input reads as it did. -/
def windowHalvesUptoRow : OpenClaim := { program := "ytnkfbkbllkdnoaa", sum := "8e1d283a3721a79ae751fbec19a1340dff8b56c1358ffb666560be7758e5ec97", func := "glebe/glebelaw04.WindowHalves", spec := "windowHalves", unfollowed := true, recurses := true, apart := false, narrowed := true }
def WindowHalvesUptoSaid : Prop := windowHalvesUptoRow.holds Try.pinned (OpenSpec.upto windowHalvesSpec)

end Rows
end Go.Proofs.Ytnkfbkbllkdnoaa
