/-
  No cell of these rows narrows 'for every input' (looked for: loops, veiled, ifaces, maps, wideKeys, modest, calm, conditions, laid).
  DERIVED. THE GIVEN ROWS OF THIS SEAT. 10 by the template 'for every input the law returns true; each argument reads behind the call as it read before'; 0 by the template 'total and deterministic' (their statements: YtjdmnlbnaogcdaaTotals.lean).
  GIVEN WITH THE SEED: the statements are not yours to turn. If you find one false, say at which input.
  Laid BY PROGRAM, IN A SANDBOX (cutbox-rows.mjs): the forced cells as the released guide's own fill.sh prints them over the translation f753e0a3a01edc38… (all of the seat's roots in one cut). By AI agents, Wed Nov 11 2026. No macro, syntax, notation, axiom, sorry.
-/
import Derived.Test.YtjdmnlbnaogcdaaChecked
import GoSem.Claim
import GoSem.ClaimJoined
import GoSem.ClaimMapViews
import Derived.JoinedTies
import Derived.KernelRfl
namespace Go.Proofs.Ytjdmnlbnaogcdaa
/- THE CELL 'sum', in the pinned program and in every row, IS THE sha256 OF THE DUMP (.gsa) THAT YtjdmnlbnaogcdaaProg.lean LOADS. Nothing in Lean hashes anything: it is a label: what it is worth is what the hold of that sum in a sandbox is worth. -/
noncomputable def Try.pinned : Pinned := { name := "ytjdmnlbnaogcdaa", sum := "f753e0a3a01edc383f9ae3513d662d3ee06251cef97560ebf2961c68da2aaf6f", checked := Try.checked }
namespace Rows
def none {H : Type} : Left H := { results := [], args := [] }

/-- 'glebelaw06.BorderTwos': WHATEVER THE INPUT: true; the input reads as it did. -/
def borderTwosSpec : ChangeSpec := { name := "borderTwos", fn := fun _ => fun
  | [d1, d2, d3, d4] => { results := [.lit (.bool true)], args := [d1, d2, d3, d4] }
  | _ => none }
def borderTwosRow : OpenClaim := { program := "ytjdmnlbnaogcdaa", sum := "f753e0a3a01edc383f9ae3513d662d3ee06251cef97560ebf2961c68da2aaf6f", func := "glebe/glebelaw06.BorderTwos", spec := "borderTwos", unfollowed := true, recurses := true, apart := false }
def BorderTwosSaid : Prop := borderTwosRow.holds Try.pinned (OpenSpec.ofChange borderTwosSpec)

/-- ITS FALSE NEIGHBOUR: 'it returns false'. Refute it at one input. -/
def borderTwosWrong : ChangeSpec := { name := "borderTwos", fn := fun _ => fun
  | [d1, d2, d3, d4] => { results := [.lit (.bool false)], args := [d1, d2, d3, d4] }
  | _ => none }
def BorderTwosWrongFalsely : Prop := borderTwosRow.holds Try.pinned (OpenSpec.ofChange borderTwosWrong)

/-- 'glebelaw06.BorderChildren': WHATEVER THE INPUT: true; the input reads as it did. -/
def borderChildrenSpec : ChangeSpec := { name := "borderChildren", fn := fun _ => fun
  | [d1, d2, d3] => { results := [.lit (.bool true)], args := [d1, d2, d3] }
  | _ => none }
def borderChildrenRow : OpenClaim := { program := "ytjdmnlbnaogcdaa", sum := "f753e0a3a01edc383f9ae3513d662d3ee06251cef97560ebf2961c68da2aaf6f", func := "glebe/glebelaw06.BorderChildren", spec := "borderChildren", unfollowed := true, recurses := true, apart := false }
def BorderChildrenSaid : Prop := borderChildrenRow.holds Try.pinned (OpenSpec.ofChange borderChildrenSpec)

/-- ITS FALSE NEIGHBOUR: 'it returns false'. Refute it at one input. -/
def borderChildrenWrong : ChangeSpec := { name := "borderChildren", fn := fun _ => fun
  | [d1, d2, d3] => { results := [.lit (.bool false)], args := [d1, d2, d3] }
  | _ => none }
def BorderChildrenWrongFalsely : Prop := borderChildrenRow.holds Try.pinned (OpenSpec.ofChange borderChildrenWrong)

/-- 'glebelaw06.BorderCells': WHATEVER THE INPUT: true; the input reads as it did. -/
def borderCellsSpec : ChangeSpec := { name := "borderCells", fn := fun _ => fun
  | [d1, d2, d3] => { results := [.lit (.bool true)], args := [d1, d2, d3] }
  | _ => none }
def borderCellsRow : OpenClaim := { program := "ytjdmnlbnaogcdaa", sum := "f753e0a3a01edc383f9ae3513d662d3ee06251cef97560ebf2961c68da2aaf6f", func := "glebe/glebelaw06.BorderCells", spec := "borderCells", unfollowed := true, recurses := true, apart := false }
def BorderCellsSaid : Prop := borderCellsRow.holds Try.pinned (OpenSpec.ofChange borderCellsSpec)

/-- ITS FALSE NEIGHBOUR: 'it returns false'. Refute it at one input. -/
def borderCellsWrong : ChangeSpec := { name := "borderCells", fn := fun _ => fun
  | [d1, d2, d3] => { results := [.lit (.bool false)], args := [d1, d2, d3] }
  | _ => none }
def BorderCellsWrongFalsely : Prop := borderCellsRow.holds Try.pinned (OpenSpec.ofChange borderCellsWrong)

/-- 'glebelaw06.BorderLists': WHATEVER THE INPUT: true; the input reads as it did. -/
def borderListsSpec : ChangeSpec := { name := "borderLists", fn := fun _ => fun
  | [d1, d2, d3, d4] => { results := [.lit (.bool true)], args := [d1, d2, d3, d4] }
  | _ => none }
def borderListsRow : OpenClaim := { program := "ytjdmnlbnaogcdaa", sum := "f753e0a3a01edc383f9ae3513d662d3ee06251cef97560ebf2961c68da2aaf6f", func := "glebe/glebelaw06.BorderLists", spec := "borderLists", unfollowed := true, recurses := true, apart := false }
def BorderListsSaid : Prop := borderListsRow.holds Try.pinned (OpenSpec.ofChange borderListsSpec)

/-- ITS FALSE NEIGHBOUR: 'it returns false'. Refute it at one input. -/
def borderListsWrong : ChangeSpec := { name := "borderLists", fn := fun _ => fun
  | [d1, d2, d3, d4] => { results := [.lit (.bool false)], args := [d1, d2, d3, d4] }
  | _ => none }
def BorderListsWrongFalsely : Prop := borderListsRow.holds Try.pinned (OpenSpec.ofChange borderListsWrong)

/-- 'glebelaw05.TilingPlays': WHATEVER THE INPUT: true; the input reads as it did. -/
def tilingPlaysSpec : ChangeSpec := { name := "tilingPlays", fn := fun _ => fun
  | [d1, d2, d3, d4, d5] => { results := [.lit (.bool true)], args := [d1, d2, d3, d4, d5] }
  | _ => none }
def tilingPlaysRow : OpenClaim := { program := "ytjdmnlbnaogcdaa", sum := "f753e0a3a01edc383f9ae3513d662d3ee06251cef97560ebf2961c68da2aaf6f", func := "glebe/glebelaw05.TilingPlays", spec := "tilingPlays", unfollowed := true, recurses := true, apart := false }
def TilingPlaysSaid : Prop := tilingPlaysRow.holds Try.pinned (OpenSpec.ofChange tilingPlaysSpec)

/-- ITS FALSE NEIGHBOUR: 'it returns false'. Refute it at one input. -/
def tilingPlaysWrong : ChangeSpec := { name := "tilingPlays", fn := fun _ => fun
  | [d1, d2, d3, d4, d5] => { results := [.lit (.bool false)], args := [d1, d2, d3, d4, d5] }
  | _ => none }
def TilingPlaysWrongFalsely : Prop := tilingPlaysRow.holds Try.pinned (OpenSpec.ofChange tilingPlaysWrong)

/-- 'glebelaw05.TilingNil': WHATEVER THE INPUT: true; the input reads as it did. -/
def tilingNilSpec : ChangeSpec := { name := "tilingNil", fn := fun _ => fun
  | [d1, d2] => { results := [.lit (.bool true)], args := [d1, d2] }
  | _ => none }
def tilingNilRow : OpenClaim := { program := "ytjdmnlbnaogcdaa", sum := "f753e0a3a01edc383f9ae3513d662d3ee06251cef97560ebf2961c68da2aaf6f", func := "glebe/glebelaw05.TilingNil", spec := "tilingNil", unfollowed := true, recurses := true, apart := false }
def TilingNilSaid : Prop := tilingNilRow.holds Try.pinned (OpenSpec.ofChange tilingNilSpec)

/-- ITS FALSE NEIGHBOUR: 'it returns false'. Refute it at one input. -/
def tilingNilWrong : ChangeSpec := { name := "tilingNil", fn := fun _ => fun
  | [d1, d2] => { results := [.lit (.bool false)], args := [d1, d2] }
  | _ => none }
def TilingNilWrongFalsely : Prop := tilingNilRow.holds Try.pinned (OpenSpec.ofChange tilingNilWrong)

/-- 'glebelaw05.TilingBack': WHATEVER THE INPUT: true; the input reads as it did. -/
def tilingBackSpec : ChangeSpec := { name := "tilingBack", fn := fun _ => fun
  | [d1, d2, d3, d4] => { results := [.lit (.bool true)], args := [d1, d2, d3, d4] }
  | _ => none }
def tilingBackRow : OpenClaim := { program := "ytjdmnlbnaogcdaa", sum := "f753e0a3a01edc383f9ae3513d662d3ee06251cef97560ebf2961c68da2aaf6f", func := "glebe/glebelaw05.TilingBack", spec := "tilingBack", unfollowed := true, recurses := true, apart := false }
def TilingBackSaid : Prop := tilingBackRow.holds Try.pinned (OpenSpec.ofChange tilingBackSpec)

/-- ITS FALSE NEIGHBOUR: 'it returns false'. Refute it at one input. -/
def tilingBackWrong : ChangeSpec := { name := "tilingBack", fn := fun _ => fun
  | [d1, d2, d3, d4] => { results := [.lit (.bool false)], args := [d1, d2, d3, d4] }
  | _ => none }
def TilingBackWrongFalsely : Prop := tilingBackRow.holds Try.pinned (OpenSpec.ofChange tilingBackWrong)

/-- 'glebelaw05.TilingDeepest': WHATEVER THE INPUT: true; the input reads as it did. -/
def tilingDeepestSpec : ChangeSpec := { name := "tilingDeepest", fn := fun _ => fun
  | [d1, d2] => { results := [.lit (.bool true)], args := [d1, d2] }
  | _ => none }
def tilingDeepestRow : OpenClaim := { program := "ytjdmnlbnaogcdaa", sum := "f753e0a3a01edc383f9ae3513d662d3ee06251cef97560ebf2961c68da2aaf6f", func := "glebe/glebelaw05.TilingDeepest", spec := "tilingDeepest", unfollowed := true, recurses := true, apart := false }
def TilingDeepestSaid : Prop := tilingDeepestRow.holds Try.pinned (OpenSpec.ofChange tilingDeepestSpec)

/-- ITS FALSE NEIGHBOUR: 'it returns false'. Refute it at one input. -/
def tilingDeepestWrong : ChangeSpec := { name := "tilingDeepest", fn := fun _ => fun
  | [d1, d2] => { results := [.lit (.bool false)], args := [d1, d2] }
  | _ => none }
def TilingDeepestWrongFalsely : Prop := tilingDeepestRow.holds Try.pinned (OpenSpec.ofChange tilingDeepestWrong)

/-- 'glebelaw06.BorderWhole': WHATEVER THE INPUT: true; the input reads as it did. -/
def borderWholeSpec : ChangeSpec := { name := "borderWhole", fn := fun _ => fun
  | [d1, d2, d3] => { results := [.lit (.bool true)], args := [d1, d2, d3] }
  | _ => none }
def borderWholeRow : OpenClaim := { program := "ytjdmnlbnaogcdaa", sum := "f753e0a3a01edc383f9ae3513d662d3ee06251cef97560ebf2961c68da2aaf6f", func := "glebe/glebelaw06.BorderWhole", spec := "borderWhole", unfollowed := true, recurses := true, apart := false }
def BorderWholeSaid : Prop := borderWholeRow.holds Try.pinned (OpenSpec.ofChange borderWholeSpec)

/-- ITS FALSE NEIGHBOUR: 'it returns false'. Refute it at one input. -/
def borderWholeWrong : ChangeSpec := { name := "borderWhole", fn := fun _ => fun
  | [d1, d2, d3] => { results := [.lit (.bool false)], args := [d1, d2, d3] }
  | _ => none }
def BorderWholeWrongFalsely : Prop := borderWholeRow.holds Try.pinned (OpenSpec.ofChange borderWholeWrong)

/-- 'glebelaw05.TilingOnce': WHATEVER THE INPUT: true; the input reads as it did. -/
def tilingOnceSpec : ChangeSpec := { name := "tilingOnce", fn := fun _ => fun
  | [d1, d2, d3] => { results := [.lit (.bool true)], args := [d1, d2, d3] }
  | _ => none }
def tilingOnceRow : OpenClaim := { program := "ytjdmnlbnaogcdaa", sum := "f753e0a3a01edc383f9ae3513d662d3ee06251cef97560ebf2961c68da2aaf6f", func := "glebe/glebelaw05.TilingOnce", spec := "tilingOnce", unfollowed := true, recurses := true, apart := false }
def TilingOnceSaid : Prop := tilingOnceRow.holds Try.pinned (OpenSpec.ofChange tilingOnceSpec)

/-- ITS FALSE NEIGHBOUR: 'it returns false'. Refute it at one input. -/
def tilingOnceWrong : ChangeSpec := { name := "tilingOnce", fn := fun _ => fun
  | [d1, d2, d3] => { results := [.lit (.bool false)], args := [d1, d2, d3] }
  | _ => none }
def TilingOnceWrongFalsely : Prop := tilingOnceRow.holds Try.pinned (OpenSpec.ofChange tilingOnceWrong)

/- THE SECOND FORM. 'bulk': how many values and letters a reading holds, each counted each time it is reached (what is shared counts as often as it is met; a slice's spare places count too). A statement '..UptoSaid' is the law's where the arguments, and the package variables that the reading takes, are together of bulk at most 1048576: NARROWER than '..Said'. Prove '..Said' where nothing that the law and all that it calls make is longer than what came in: it says more and counts as full. Else prove '..UptoSaid'. A law counts once. -/
mutual
def uptoBulk {H : Type} : DataW H → Nat
  | .lit (.string bytes) => bytes.length + 1
  | .lit _ => 1
  | .nil => 1
  | .ptr d => uptoBulk d + 1
  | .slice elems spare => uptoBulkAll elems + uptoBulkAll spare + 1
  | .agg parts => uptoBulkAll parts + 1
  | .iface _ d => uptoBulk d + 1
  | .map entries => uptoBulkEntries entries + 1
  | .held _ => 1
def uptoBulkAll {H : Type} : List (DataW H) → Nat
  | [] => 0
  | d :: r => uptoBulk d + uptoBulkAll r
def uptoBulkEntries {H : Type} : List (Lit × DataW H) → Nat
  | [] => 0
  | x :: r => uptoBulkEntry x + uptoBulkEntries r
def uptoBulkEntry {H : Type} : Lit × DataW H → Nat
  | (.string bytes, d) => bytes.length + uptoBulk d + 1
  | (_, d) => uptoBulk d + 1
 end
def uptoSmall : (H : Type) → List (DataW H) → Bool := fun _ ds => decide (uptoBulkAll ds ≤ 1048576)
def OpenSpec.upto (s : _root_.Go.ChangeSpec) : _root_.Go.OpenSpec := { _root_.Go.OpenSpec.ofChange s with cond := some uptoSmall }

/-- 'glebelaw06.BorderTwos', WHERE WHAT IT READS IS OF BULK AT MOST 1048576: true; the input reads as it did. -/
def borderTwosUptoRow : OpenClaim := { program := "ytjdmnlbnaogcdaa", sum := "f753e0a3a01edc383f9ae3513d662d3ee06251cef97560ebf2961c68da2aaf6f", func := "glebe/glebelaw06.BorderTwos", spec := "borderTwos", unfollowed := true, recurses := true, apart := false, narrowed := true }
def BorderTwosUptoSaid : Prop := borderTwosUptoRow.holds Try.pinned (OpenSpec.upto borderTwosSpec)

/-- 'glebelaw06.BorderChildren', WHERE WHAT IT READS IS OF BULK AT MOST 1048576: true; the input reads as it did. -/
def borderChildrenUptoRow : OpenClaim := { program := "ytjdmnlbnaogcdaa", sum := "f753e0a3a01edc383f9ae3513d662d3ee06251cef97560ebf2961c68da2aaf6f", func := "glebe/glebelaw06.BorderChildren", spec := "borderChildren", unfollowed := true, recurses := true, apart := false, narrowed := true }
def BorderChildrenUptoSaid : Prop := borderChildrenUptoRow.holds Try.pinned (OpenSpec.upto borderChildrenSpec)

/-- 'glebelaw06.BorderCells', WHERE WHAT IT READS IS OF BULK AT MOST 1048576: true; the input reads as it did. -/
def borderCellsUptoRow : OpenClaim := { program := "ytjdmnlbnaogcdaa", sum := "f753e0a3a01edc383f9ae3513d662d3ee06251cef97560ebf2961c68da2aaf6f", func := "glebe/glebelaw06.BorderCells", spec := "borderCells", unfollowed := true, recurses := true, apart := false, narrowed := true }
def BorderCellsUptoSaid : Prop := borderCellsUptoRow.holds Try.pinned (OpenSpec.upto borderCellsSpec)

/-- 'glebelaw06.BorderLists', WHERE WHAT IT READS IS OF BULK AT MOST 1048576: true; the input reads as it did. -/
def borderListsUptoRow : OpenClaim := { program := "ytjdmnlbnaogcdaa", sum := "f753e0a3a01edc383f9ae3513d662d3ee06251cef97560ebf2961c68da2aaf6f", func := "glebe/glebelaw06.BorderLists", spec := "borderLists", unfollowed := true, recurses := true, apart := false, narrowed := true }
def BorderListsUptoSaid : Prop := borderListsUptoRow.holds Try.pinned (OpenSpec.upto borderListsSpec)

/-- 'glebelaw05.TilingPlays', WHERE WHAT IT READS IS OF BULK AT MOST 1048576: true; the input reads as it did. -/
def tilingPlaysUptoRow : OpenClaim := { program := "ytjdmnlbnaogcdaa", sum := "f753e0a3a01edc383f9ae3513d662d3ee06251cef97560ebf2961c68da2aaf6f", func := "glebe/glebelaw05.TilingPlays", spec := "tilingPlays", unfollowed := true, recurses := true, apart := false, narrowed := true }
def TilingPlaysUptoSaid : Prop := tilingPlaysUptoRow.holds Try.pinned (OpenSpec.upto tilingPlaysSpec)

/-- 'glebelaw05.TilingNil', WHERE WHAT IT READS IS OF BULK AT MOST 1048576: true; the input reads as it did. -/
def tilingNilUptoRow : OpenClaim := { program := "ytjdmnlbnaogcdaa", sum := "f753e0a3a01edc383f9ae3513d662d3ee06251cef97560ebf2961c68da2aaf6f", func := "glebe/glebelaw05.TilingNil", spec := "tilingNil", unfollowed := true, recurses := true, apart := false, narrowed := true }
def TilingNilUptoSaid : Prop := tilingNilUptoRow.holds Try.pinned (OpenSpec.upto tilingNilSpec)

/-- 'glebelaw05.TilingBack', WHERE WHAT IT READS IS OF BULK AT MOST 1048576: true; the input reads as it did. -/
def tilingBackUptoRow : OpenClaim := { program := "ytjdmnlbnaogcdaa", sum := "f753e0a3a01edc383f9ae3513d662d3ee06251cef97560ebf2961c68da2aaf6f", func := "glebe/glebelaw05.TilingBack", spec := "tilingBack", unfollowed := true, recurses := true, apart := false, narrowed := true }
def TilingBackUptoSaid : Prop := tilingBackUptoRow.holds Try.pinned (OpenSpec.upto tilingBackSpec)

/-- 'glebelaw05.TilingDeepest', WHERE WHAT IT READS IS OF BULK AT MOST 1048576: true; the input reads as it did. -/
def tilingDeepestUptoRow : OpenClaim := { program := "ytjdmnlbnaogcdaa", sum := "f753e0a3a01edc383f9ae3513d662d3ee06251cef97560ebf2961c68da2aaf6f", func := "glebe/glebelaw05.TilingDeepest", spec := "tilingDeepest", unfollowed := true, recurses := true, apart := false, narrowed := true }
def TilingDeepestUptoSaid : Prop := tilingDeepestUptoRow.holds Try.pinned (OpenSpec.upto tilingDeepestSpec)

/-- 'glebelaw06.BorderWhole', WHERE WHAT IT READS IS OF BULK AT MOST 1048576: true; the input reads as it did. -/
def borderWholeUptoRow : OpenClaim := { program := "ytjdmnlbnaogcdaa", sum := "f753e0a3a01edc383f9ae3513d662d3ee06251cef97560ebf2961c68da2aaf6f", func := "glebe/glebelaw06.BorderWhole", spec := "borderWhole", unfollowed := true, recurses := true, apart := false, narrowed := true }
def BorderWholeUptoSaid : Prop := borderWholeUptoRow.holds Try.pinned (OpenSpec.upto borderWholeSpec)

/-- 'glebelaw05.TilingOnce', WHERE WHAT IT READS IS OF BULK AT MOST 1048576: true; the input reads as it did. -/
def tilingOnceUptoRow : OpenClaim := { program := "ytjdmnlbnaogcdaa", sum := "f753e0a3a01edc383f9ae3513d662d3ee06251cef97560ebf2961c68da2aaf6f", func := "glebe/glebelaw05.TilingOnce", spec := "tilingOnce", unfollowed := true, recurses := true, apart := false, narrowed := true }
def TilingOnceUptoSaid : Prop := tilingOnceUptoRow.holds Try.pinned (OpenSpec.upto tilingOnceSpec)

end Rows
end Go.Proofs.Ytjdmnlbnaogcdaa
