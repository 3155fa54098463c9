/-
  No cell of these rows narrows 'for every input' (looked for: loops, veiled, ifaces, maps, wideKeys, modest, calm, conditions, laid).
  DERIVED. THE GIVEN ROWS OF THIS SEAT. 6 by the template 'for every input the law returns true; each argument reads behind the call as it read before'; 0 by the template 'total and deterministic' (their statements: YtlfnfgoocliecaaTotals.lean).
  GIVEN WITH THE SEED: the statements are not yours to turn. If you find one false, say at which input.
  Laid BY PROGRAM, IN A SANDBOX (cutbox-rows.mjs): the forced cells as the released guide's own fill.sh prints them over the translation 2f1d3bc23963dba6… (all of the seat's roots in one cut). By AI agents, Wed Nov 11 2026. No macro, syntax, notation, axiom, sorry.
-/
import Derived.Test.YtlfnfgoocliecaaChecked
import GoSem.Claim
import GoSem.ClaimJoined
import GoSem.ClaimMapViews
import Derived.JoinedTies
import Derived.KernelRfl
namespace Go.Proofs.Ytlfnfgoocliecaa
/- THE CELL 'sum', in the pinned program and in every row, IS THE sha256 OF THE DUMP (.gsa) THAT YtlfnfgoocliecaaProg.lean LOADS. Nothing in Lean hashes anything: it is a label: what it is worth is what the hold of that sum in a sandbox is worth. -/
noncomputable def Try.pinned : Pinned := { name := "ytlfnfgoocliecaa", sum := "2f1d3bc23963dba6cef3518eb73114d4bc6d5d32d07db7060202ad3222ef380d", checked := Try.checked }
namespace Rows
def none {H : Type} : Left H := { results := [], args := [] }

/-- 'glebelaw09.SessionOnce': WHATEVER THE INPUT: true; the input reads as it did. -/
def sessionOnceSpec : ChangeSpec := { name := "sessionOnce", fn := fun _ => fun
  | [d1, d2, d3] => { results := [.lit (.bool true)], args := [d1, d2, d3] }
  | _ => none }
def sessionOnceRow : OpenClaim := { program := "ytlfnfgoocliecaa", sum := "2f1d3bc23963dba6cef3518eb73114d4bc6d5d32d07db7060202ad3222ef380d", func := "glebe/glebelaw09.SessionOnce", spec := "sessionOnce", apart := false }
def SessionOnceSaid : Prop := sessionOnceRow.holds Try.pinned (OpenSpec.ofChange sessionOnceSpec)

/-- ITS FALSE NEIGHBOUR: 'it returns false'. Refute it at one input. -/
def sessionOnceWrong : ChangeSpec := { name := "sessionOnce", fn := fun _ => fun
  | [d1, d2, d3] => { results := [.lit (.bool false)], args := [d1, d2, d3] }
  | _ => none }
def SessionOnceWrongFalsely : Prop := sessionOnceRow.holds Try.pinned (OpenSpec.ofChange sessionOnceWrong)

/-- 'glebelaw09.SessionJoins': WHATEVER THE INPUT: true; the input reads as it did. -/
def sessionJoinsSpec : ChangeSpec := { name := "sessionJoins", fn := fun _ => fun
  | [d1, d2, d3] => { results := [.lit (.bool true)], args := [d1, d2, d3] }
  | _ => none }
def sessionJoinsRow : OpenClaim := { program := "ytlfnfgoocliecaa", sum := "2f1d3bc23963dba6cef3518eb73114d4bc6d5d32d07db7060202ad3222ef380d", func := "glebe/glebelaw09.SessionJoins", spec := "sessionJoins", apart := false }
def SessionJoinsSaid : Prop := sessionJoinsRow.holds Try.pinned (OpenSpec.ofChange sessionJoinsSpec)

/-- ITS FALSE NEIGHBOUR: 'it returns false'. Refute it at one input. -/
def sessionJoinsWrong : ChangeSpec := { name := "sessionJoins", fn := fun _ => fun
  | [d1, d2, d3] => { results := [.lit (.bool false)], args := [d1, d2, d3] }
  | _ => none }
def SessionJoinsWrongFalsely : Prop := sessionJoinsRow.holds Try.pinned (OpenSpec.ofChange sessionJoinsWrong)

/-- 'glebelaw09.SessionPlays': WHATEVER THE INPUT: true; the input reads as it did. -/
def sessionPlaysSpec : ChangeSpec := { name := "sessionPlays", fn := fun _ => fun
  | [d1, d2] => { results := [.lit (.bool true)], args := [d1, d2] }
  | _ => none }
def sessionPlaysRow : OpenClaim := { program := "ytlfnfgoocliecaa", sum := "2f1d3bc23963dba6cef3518eb73114d4bc6d5d32d07db7060202ad3222ef380d", func := "glebe/glebelaw09.SessionPlays", spec := "sessionPlays", apart := false }
def SessionPlaysSaid : Prop := sessionPlaysRow.holds Try.pinned (OpenSpec.ofChange sessionPlaysSpec)

/-- ITS FALSE NEIGHBOUR: 'it returns false'. Refute it at one input. -/
def sessionPlaysWrong : ChangeSpec := { name := "sessionPlays", fn := fun _ => fun
  | [d1, d2] => { results := [.lit (.bool false)], args := [d1, d2] }
  | _ => none }
def SessionPlaysWrongFalsely : Prop := sessionPlaysRow.holds Try.pinned (OpenSpec.ofChange sessionPlaysWrong)

/-- 'glebelaw09.SessionNil': WHATEVER THE INPUT: true; the input reads as it did. -/
def sessionNilSpec : ChangeSpec := { name := "sessionNil", fn := fun _ => fun
  | [d] => { results := [.lit (.bool true)], args := [d] }
  | _ => none }
def sessionNilRow : OpenClaim := { program := "ytlfnfgoocliecaa", sum := "2f1d3bc23963dba6cef3518eb73114d4bc6d5d32d07db7060202ad3222ef380d", func := "glebe/glebelaw09.SessionNil", spec := "sessionNil", apart := false }
def SessionNilSaid : Prop := sessionNilRow.holds Try.pinned (OpenSpec.ofChange sessionNilSpec)

/-- ITS FALSE NEIGHBOUR: 'it returns false'. Refute it at one input. -/
def sessionNilWrong : ChangeSpec := { name := "sessionNil", fn := fun _ => fun
  | [d] => { results := [.lit (.bool false)], args := [d] }
  | _ => none }
def SessionNilWrongFalsely : Prop := sessionNilRow.holds Try.pinned (OpenSpec.ofChange sessionNilWrong)

/-- 'glebelaw09.SessionTakes': WHATEVER THE INPUT: true; the input reads as it did. -/
def sessionTakesSpec : ChangeSpec := { name := "sessionTakes", fn := fun _ => fun
  | [d] => { results := [.lit (.bool true)], args := [d] }
  | _ => none }
def sessionTakesRow : OpenClaim := { program := "ytlfnfgoocliecaa", sum := "2f1d3bc23963dba6cef3518eb73114d4bc6d5d32d07db7060202ad3222ef380d", func := "glebe/glebelaw09.SessionTakes", spec := "sessionTakes", apart := false }
def SessionTakesSaid : Prop := sessionTakesRow.holds Try.pinned (OpenSpec.ofChange sessionTakesSpec)

/-- ITS FALSE NEIGHBOUR: 'it returns false'. Refute it at one input. -/
def sessionTakesWrong : ChangeSpec := { name := "sessionTakes", fn := fun _ => fun
  | [d] => { results := [.lit (.bool false)], args := [d] }
  | _ => none }
def SessionTakesWrongFalsely : Prop := sessionTakesRow.holds Try.pinned (OpenSpec.ofChange sessionTakesWrong)

/-- 'glebelaw09.SessionBack': WHATEVER THE INPUT: true; the input reads as it did. -/
def sessionBackSpec : ChangeSpec := { name := "sessionBack", fn := fun _ => fun
  | [d1, d2] => { results := [.lit (.bool true)], args := [d1, d2] }
  | _ => none }
def sessionBackRow : OpenClaim := { program := "ytlfnfgoocliecaa", sum := "2f1d3bc23963dba6cef3518eb73114d4bc6d5d32d07db7060202ad3222ef380d", func := "glebe/glebelaw09.SessionBack", spec := "sessionBack", apart := false }
def SessionBackSaid : Prop := sessionBackRow.holds Try.pinned (OpenSpec.ofChange sessionBackSpec)

/-- ITS FALSE NEIGHBOUR: 'it returns false'. Refute it at one input. -/
def sessionBackWrong : ChangeSpec := { name := "sessionBack", fn := fun _ => fun
  | [d1, d2] => { results := [.lit (.bool false)], args := [d1, d2] }
  | _ => none }
def SessionBackWrongFalsely : Prop := sessionBackRow.holds Try.pinned (OpenSpec.ofChange sessionBackWrong)

/- THE SECOND FORM. 'bulk': how many values and letters a reading holds, each counted each time it is reached (what is shared counts as often as it is met; a slice's spare places count too). A statement '..UptoSaid' is the law's where the arguments, and the package variables that the reading takes, are together of bulk at most 1048576: NARROWER than '..Said'. Prove '..Said' where nothing that the law and all that it calls make is longer than what came in: it says more and counts as full. Else prove '..UptoSaid'. A law counts once. -/
mutual
def uptoBulk {H : Type} : DataW H → Nat
  | .lit (.string bytes) => bytes.length + 1
  | .lit _ => 1
  | .nil => 1
  | .ptr d => uptoBulk d + 1
  | .slice elems spare => uptoBulkAll elems + uptoBulkAll spare + 1
  | .agg parts => uptoBulkAll parts + 1
  | .iface _ d => uptoBulk d + 1
  | .map entries => uptoBulkEntries entries + 1
  | .held _ => 1
def uptoBulkAll {H : Type} : List (DataW H) → Nat
  | [] => 0
  | d :: r => uptoBulk d + uptoBulkAll r
def uptoBulkEntries {H : Type} : List (Lit × DataW H) → Nat
  | [] => 0
  | x :: r => uptoBulkEntry x + uptoBulkEntries r
def uptoBulkEntry {H : Type} : Lit × DataW H → Nat
  | (.string bytes, d) => bytes.length + uptoBulk d + 1
  | (_, d) => uptoBulk d + 1
 end
def uptoSmall : (H : Type) → List (DataW H) → Bool := fun _ ds => decide (uptoBulkAll ds ≤ 1048576)
def OpenSpec.upto (s : _root_.Go.ChangeSpec) : _root_.Go.OpenSpec := { _root_.Go.OpenSpec.ofChange s with cond := some uptoSmall }

/-- 'glebelaw09.SessionOnce', WHERE WHAT IT READS IS OF BULK AT MOST 1048576: true; the input reads as it did. -/
def sessionOnceUptoRow : OpenClaim := { program := "ytlfnfgoocliecaa", sum := "2f1d3bc23963dba6cef3518eb73114d4bc6d5d32d07db7060202ad3222ef380d", func := "glebe/glebelaw09.SessionOnce", spec := "sessionOnce", apart := false, narrowed := true }
def SessionOnceUptoSaid : Prop := sessionOnceUptoRow.holds Try.pinned (OpenSpec.upto sessionOnceSpec)

/-- 'glebelaw09.SessionJoins', WHERE WHAT IT READS IS OF BULK AT MOST 1048576: true; the input reads as it did. -/
def sessionJoinsUptoRow : OpenClaim := { program := "ytlfnfgoocliecaa", sum := "2f1d3bc23963dba6cef3518eb73114d4bc6d5d32d07db7060202ad3222ef380d", func := "glebe/glebelaw09.SessionJoins", spec := "sessionJoins", apart := false, narrowed := true }
def SessionJoinsUptoSaid : Prop := sessionJoinsUptoRow.holds Try.pinned (OpenSpec.upto sessionJoinsSpec)

/-- 'glebelaw09.SessionPlays', WHERE WHAT IT READS IS OF BULK AT MOST 1048576: true; the input reads as it did. -/
def sessionPlaysUptoRow : OpenClaim := { program := "ytlfnfgoocliecaa", sum := "2f1d3bc23963dba6cef3518eb73114d4bc6d5d32d07db7060202ad3222ef380d", func := "glebe/glebelaw09.SessionPlays", spec := "sessionPlays", apart := false, narrowed := true }
def SessionPlaysUptoSaid : Prop := sessionPlaysUptoRow.holds Try.pinned (OpenSpec.upto sessionPlaysSpec)

/-- 'glebelaw09.SessionNil', WHERE WHAT IT READS IS OF BULK AT MOST 1048576: true; the input reads as it did. -/
def sessionNilUptoRow : OpenClaim := { program := "ytlfnfgoocliecaa", sum := "2f1d3bc23963dba6cef3518eb73114d4bc6d5d32d07db7060202ad3222ef380d", func := "glebe/glebelaw09.SessionNil", spec := "sessionNil", apart := false, narrowed := true }
def SessionNilUptoSaid : Prop := sessionNilUptoRow.holds Try.pinned (OpenSpec.upto sessionNilSpec)

/-- 'glebelaw09.SessionTakes', WHERE WHAT IT READS IS OF BULK AT MOST 1048576: true; the input reads as it did. -/
def sessionTakesUptoRow : OpenClaim := { program := "ytlfnfgoocliecaa", sum := "2f1d3bc23963dba6cef3518eb73114d4bc6d5d32d07db7060202ad3222ef380d", func := "glebe/glebelaw09.SessionTakes", spec := "sessionTakes", apart := false, narrowed := true }
def SessionTakesUptoSaid : Prop := sessionTakesUptoRow.holds Try.pinned (OpenSpec.upto sessionTakesSpec)

/-- 'glebelaw09.SessionBack', WHERE WHAT IT READS IS OF BULK AT MOST 1048576: true; the input reads as it did. -/
def sessionBackUptoRow : OpenClaim := { program := "ytlfnfgoocliecaa", sum := "2f1d3bc23963dba6cef3518eb73114d4bc6d5d32d07db7060202ad3222ef380d", func := "glebe/glebelaw09.SessionBack", spec := "sessionBack", apart := false, narrowed := true }
def SessionBackUptoSaid : Prop := sessionBackUptoRow.holds Try.pinned (OpenSpec.upto sessionBackSpec)

end Rows
end Go.Proofs.Ytlfnfgoocliecaa
