/-
  No cell of these rows narrows 'for every input' (looked for: loops, veiled, ifaces, maps, wideKeys, modest, calm, conditions, laid).
  DERIVED. THE GIVEN ROWS OF THIS SEAT. 4 by the template 'for every input the law returns true; each argument reads behind the call as it read before'; 0 by the template 'total and deterministic' (their statements: YtampppdjfbabiaaTotals.lean).
  GIVEN WITH THE SEED: the statements are not yours to turn. If you find one false, say at which input.
  Laid BY PROGRAM, IN A SANDBOX (cutbox-rows.mjs): the forced cells as the released guide's own fill.sh prints them over the translation 0600310fadf9abdb… (all of the seat's roots in one cut). By AI agents, Wed Nov 11 2026. No macro, syntax, notation, axiom, sorry.
-/
import Derived.Test.YtampppdjfbabiaaChecked
import GoSem.Claim
import GoSem.ClaimJoined
import GoSem.ClaimMapViews
import Derived.JoinedTies
import Derived.KernelRfl
namespace Go.Proofs.Ytampppdjfbabiaa
/- THE CELL 'sum', in the pinned program and in every row, IS THE sha256 OF THE DUMP (.gsa) THAT YtampppdjfbabiaaProg.lean LOADS. Nothing in Lean hashes anything: it is a label: what it is worth is what the hold of that sum in a sandbox is worth. -/
noncomputable def Try.pinned : Pinned := { name := "ytampppdjfbabiaa", sum := "0600310fadf9abdb0083e272703a1f1b286301bc91bcada6f5ea47b245d4dcb0", checked := Try.checked }
namespace Rows
def none {H : Type} : Left H := { results := [], args := [] }

/-- 'glebelaw11.EntryHeirs': WHATEVER THE INPUT: true; the input reads as it did. -/
def entryHeirsSpec : ChangeSpec := { name := "entryHeirs", fn := fun _ => fun
  | [d] => { results := [.lit (.bool true)], args := [d] }
  | _ => none }
def entryHeirsRow : OpenClaim := { program := "ytampppdjfbabiaa", sum := "0600310fadf9abdb0083e272703a1f1b286301bc91bcada6f5ea47b245d4dcb0", func := "glebe/glebelaw11.EntryHeirs", spec := "entryHeirs", apart := false }
def EntryHeirsSaid : Prop := entryHeirsRow.holds Try.pinned (OpenSpec.ofChange entryHeirsSpec)

/-- ITS FALSE NEIGHBOUR: 'it returns false'. Refute it at one input. -/
def entryHeirsWrong : ChangeSpec := { name := "entryHeirs", fn := fun _ => fun
  | [d] => { results := [.lit (.bool false)], args := [d] }
  | _ => none }
def EntryHeirsWrongFalsely : Prop := entryHeirsRow.holds Try.pinned (OpenSpec.ofChange entryHeirsWrong)

/-- 'glebelaw11.EntryLooks': WHATEVER THE INPUT: true; the input reads as it did. -/
def entryLooksSpec : ChangeSpec := { name := "entryLooks", fn := fun _ => fun
  | [d1, d2, d3, d4] => { results := [.lit (.bool true)], args := [d1, d2, d3, d4] }
  | _ => none }
def entryLooksRow : OpenClaim := { program := "ytampppdjfbabiaa", sum := "0600310fadf9abdb0083e272703a1f1b286301bc91bcada6f5ea47b245d4dcb0", func := "glebe/glebelaw11.EntryLooks", spec := "entryLooks", apart := false }
def EntryLooksSaid : Prop := entryLooksRow.holds Try.pinned (OpenSpec.ofChange entryLooksSpec)

/-- ITS FALSE NEIGHBOUR: 'it returns false'. Refute it at one input. -/
def entryLooksWrong : ChangeSpec := { name := "entryLooks", fn := fun _ => fun
  | [d1, d2, d3, d4] => { results := [.lit (.bool false)], args := [d1, d2, d3, d4] }
  | _ => none }
def EntryLooksWrongFalsely : Prop := entryLooksRow.holds Try.pinned (OpenSpec.ofChange entryLooksWrong)

/-- 'glebelaw11.EntryTakes': WHATEVER THE INPUT: true; the input reads as it did. -/
def entryTakesSpec : ChangeSpec := { name := "entryTakes", fn := fun _ => fun
  | [d] => { results := [.lit (.bool true)], args := [d] }
  | _ => none }
def entryTakesRow : OpenClaim := { program := "ytampppdjfbabiaa", sum := "0600310fadf9abdb0083e272703a1f1b286301bc91bcada6f5ea47b245d4dcb0", func := "glebe/glebelaw11.EntryTakes", spec := "entryTakes", apart := false }
def EntryTakesSaid : Prop := entryTakesRow.holds Try.pinned (OpenSpec.ofChange entryTakesSpec)

/-- ITS FALSE NEIGHBOUR: 'it returns false'. Refute it at one input. -/
def entryTakesWrong : ChangeSpec := { name := "entryTakes", fn := fun _ => fun
  | [d] => { results := [.lit (.bool false)], args := [d] }
  | _ => none }
def EntryTakesWrongFalsely : Prop := entryTakesRow.holds Try.pinned (OpenSpec.ofChange entryTakesWrong)

/-- 'glebelaw11.EntryBack': WHATEVER THE INPUT: true; the input reads as it did. -/
def entryBackSpec : ChangeSpec := { name := "entryBack", fn := fun _ => fun
  | [d1, d2] => { results := [.lit (.bool true)], args := [d1, d2] }
  | _ => none }
def entryBackRow : OpenClaim := { program := "ytampppdjfbabiaa", sum := "0600310fadf9abdb0083e272703a1f1b286301bc91bcada6f5ea47b245d4dcb0", func := "glebe/glebelaw11.EntryBack", spec := "entryBack", apart := false }
def EntryBackSaid : Prop := entryBackRow.holds Try.pinned (OpenSpec.ofChange entryBackSpec)

/-- ITS FALSE NEIGHBOUR: 'it returns false'. Refute it at one input. -/
def entryBackWrong : ChangeSpec := { name := "entryBack", fn := fun _ => fun
  | [d1, d2] => { results := [.lit (.bool false)], args := [d1, d2] }
  | _ => none }
def EntryBackWrongFalsely : Prop := entryBackRow.holds Try.pinned (OpenSpec.ofChange entryBackWrong)

/- THE SECOND FORM. 'bulk': how many values and letters a reading holds, each counted each time it is reached (what is shared counts as often as it is met; a slice's spare places count too). A statement '..UptoSaid' is the law's where the arguments, and the package variables that the reading takes, are together of bulk at most 1048576: NARROWER than '..Said'. Prove '..Said' where nothing that the law and all that it calls make is longer than what came in: it says more and counts as full. Else prove '..UptoSaid'. A law counts once. -/
mutual
def uptoBulk {H : Type} : DataW H → Nat
  | .lit (.string bytes) => bytes.length + 1
  | .lit _ => 1
  | .nil => 1
  | .ptr d => uptoBulk d + 1
  | .slice elems spare => uptoBulkAll elems + uptoBulkAll spare + 1
  | .agg parts => uptoBulkAll parts + 1
  | .iface _ d => uptoBulk d + 1
  | .map entries => uptoBulkEntries entries + 1
  | .held _ => 1
def uptoBulkAll {H : Type} : List (DataW H) → Nat
  | [] => 0
  | d :: r => uptoBulk d + uptoBulkAll r
def uptoBulkEntries {H : Type} : List (Lit × DataW H) → Nat
  | [] => 0
  | x :: r => uptoBulkEntry x + uptoBulkEntries r
def uptoBulkEntry {H : Type} : Lit × DataW H → Nat
  | (.string bytes, d) => bytes.length + uptoBulk d + 1
  | (_, d) => uptoBulk d + 1
 end
def uptoSmall : (H : Type) → List (DataW H) → Bool := fun _ ds => decide (uptoBulkAll ds ≤ 1048576)
def OpenSpec.upto (s : _root_.Go.ChangeSpec) : _root_.Go.OpenSpec := { _root_.Go.OpenSpec.ofChange s with cond := some uptoSmall }

/-- 'glebelaw11.EntryHeirs', WHERE WHAT IT READS IS OF BULK AT MOST 1048576: true; the input reads as it did. -/
def entryHeirsUptoRow : OpenClaim := { program := "ytampppdjfbabiaa", sum := "0600310fadf9abdb0083e272703a1f1b286301bc91bcada6f5ea47b245d4dcb0", func := "glebe/glebelaw11.EntryHeirs", spec := "entryHeirs", apart := false, narrowed := true }
def EntryHeirsUptoSaid : Prop := entryHeirsUptoRow.holds Try.pinned (OpenSpec.upto entryHeirsSpec)

/-- 'glebelaw11.EntryLooks', WHERE WHAT IT READS IS OF BULK AT MOST 1048576: true; the input reads as it did. -/
def entryLooksUptoRow : OpenClaim := { program := "ytampppdjfbabiaa", sum := "0600310fadf9abdb0083e272703a1f1b286301bc91bcada6f5ea47b245d4dcb0", func := "glebe/glebelaw11.EntryLooks", spec := "entryLooks", apart := false, narrowed := true }
def EntryLooksUptoSaid : Prop := entryLooksUptoRow.holds Try.pinned (OpenSpec.upto entryLooksSpec)

/-- 'glebelaw11.EntryTakes', WHERE WHAT IT READS IS OF BULK AT MOST 1048576: true; the input reads as it did. -/
def entryTakesUptoRow : OpenClaim := { program := "ytampppdjfbabiaa", sum := "0600310fadf9abdb0083e272703a1f1b286301bc91bcada6f5ea47b245d4dcb0", func := "glebe/glebelaw11.EntryTakes", spec := "entryTakes", apart := false, narrowed := true }
def EntryTakesUptoSaid : Prop := entryTakesUptoRow.holds Try.pinned (OpenSpec.upto entryTakesSpec)

/-- 'glebelaw11.EntryBack', WHERE WHAT IT READS IS OF BULK AT MOST 1048576: true; the input reads as it did. -/
def entryBackUptoRow : OpenClaim := { program := "ytampppdjfbabiaa", sum := "0600310fadf9abdb0083e272703a1f1b286301bc91bcada6f5ea47b245d4dcb0", func := "glebe/glebelaw11.EntryBack", spec := "entryBack", apart := false, narrowed := true }
def EntryBackUptoSaid : Prop := entryBackUptoRow.holds Try.pinned (OpenSpec.upto entryBackSpec)

end Rows
end Go.Proofs.Ytampppdjfbabiaa
