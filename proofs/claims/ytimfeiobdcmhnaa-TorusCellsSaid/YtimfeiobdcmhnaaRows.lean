/-
  No cell of these rows narrows 'for every input' (looked for: loops, veiled, ifaces, maps, wideKeys, modest, calm, conditions, laid).
  DERIVED. THE GIVEN ROWS OF THIS SEAT. 12 by the template 'for every input the law returns true; each argument reads behind the call as it read before'; 0 by the template 'total and deterministic' (their statements: YtimfeiobdcmhnaaTotals.lean).
  GIVEN WITH THE SEED: the statements are not yours to turn. If you find one false, say at which input.
  Laid BY PROGRAM, IN A SANDBOX (cutbox-rows.mjs): the forced cells as the released guide's own fill.sh prints them over the translation 4d23ea8a0ace7265… (all of the seat's roots in one cut). By AI agents, Wed Nov 11 2026. No macro, syntax, notation, axiom, sorry.
-/
import Derived.Test.YtimfeiobdcmhnaaChecked
import GoSem.Claim
import GoSem.ClaimJoined
import GoSem.ClaimMapViews
import Derived.JoinedTies
import Derived.KernelRfl
namespace Go.Proofs.Ytimfeiobdcmhnaa
/- THE CELL 'sum', in the pinned program and in every row, IS THE sha256 OF THE DUMP (.gsa) THAT YtimfeiobdcmhnaaProg.lean LOADS. Nothing in Lean hashes anything: it is a label: what it is worth is what the hold of that sum in a sandbox is worth. -/
noncomputable def Try.pinned : Pinned := { name := "ytimfeiobdcmhnaa", sum := "4d23ea8a0ace7265d9af876c2722b042d9a552cf1eb3c9707f6b46bfd13df896", checked := Try.checked }
namespace Rows
def none {H : Type} : Left H := { results := [], args := [] }

/-- 'glebelaw02.TorusSteps': WHATEVER THE INPUT: true; the input reads as it did. -/
def torusStepsSpec : ChangeSpec := { name := "torusSteps", fn := fun _ => fun
  | [d1, d2, d3] => { results := [.lit (.bool true)], args := [d1, d2, d3] }
  | _ => none }
def torusStepsRow : OpenClaim := { program := "ytimfeiobdcmhnaa", sum := "4d23ea8a0ace7265d9af876c2722b042d9a552cf1eb3c9707f6b46bfd13df896", func := "glebe/glebelaw02.TorusSteps", spec := "torusSteps", unfollowed := true, recurses := true, apart := false }
def TorusStepsSaid : Prop := torusStepsRow.holds Try.pinned (OpenSpec.ofChange torusStepsSpec)

/-- ITS FALSE NEIGHBOUR: 'it returns false'. Refute it at one input. -/
def torusStepsWrong : ChangeSpec := { name := "torusSteps", fn := fun _ => fun
  | [d1, d2, d3] => { results := [.lit (.bool false)], args := [d1, d2, d3] }
  | _ => none }
def TorusStepsWrongFalsely : Prop := torusStepsRow.holds Try.pinned (OpenSpec.ofChange torusStepsWrong)

/-- 'glebelaw01.WireSums': WHATEVER THE INPUT: true; the input reads as it did. -/
def wireSumsSpec : ChangeSpec := { name := "wireSums", fn := fun _ => fun
  | [d1, d2] => { results := [.lit (.bool true)], args := [d1, d2] }
  | _ => none }
def wireSumsRow : OpenClaim := { program := "ytimfeiobdcmhnaa", sum := "4d23ea8a0ace7265d9af876c2722b042d9a552cf1eb3c9707f6b46bfd13df896", func := "glebe/glebelaw01.WireSums", spec := "wireSums", apart := false }
def WireSumsSaid : Prop := wireSumsRow.holds Try.pinned (OpenSpec.ofChange wireSumsSpec)

/-- ITS FALSE NEIGHBOUR: 'it returns false'. Refute it at one input. -/
def wireSumsWrong : ChangeSpec := { name := "wireSums", fn := fun _ => fun
  | [d1, d2] => { results := [.lit (.bool false)], args := [d1, d2] }
  | _ => none }
def WireSumsWrongFalsely : Prop := wireSumsRow.holds Try.pinned (OpenSpec.ofChange wireSumsWrong)

/-- 'glebelaw01.WireFrames': WHATEVER THE INPUT: true; the input reads as it did. -/
def wireFramesSpec : ChangeSpec := { name := "wireFrames", fn := fun _ => fun
  | [d1, d2, d3] => { results := [.lit (.bool true)], args := [d1, d2, d3] }
  | _ => none }
def wireFramesRow : OpenClaim := { program := "ytimfeiobdcmhnaa", sum := "4d23ea8a0ace7265d9af876c2722b042d9a552cf1eb3c9707f6b46bfd13df896", func := "glebe/glebelaw01.WireFrames", spec := "wireFrames", apart := false }
def WireFramesSaid : Prop := wireFramesRow.holds Try.pinned (OpenSpec.ofChange wireFramesSpec)

/-- ITS FALSE NEIGHBOUR: 'it returns false'. Refute it at one input. -/
def wireFramesWrong : ChangeSpec := { name := "wireFrames", fn := fun _ => fun
  | [d1, d2, d3] => { results := [.lit (.bool false)], args := [d1, d2, d3] }
  | _ => none }
def WireFramesWrongFalsely : Prop := wireFramesRow.holds Try.pinned (OpenSpec.ofChange wireFramesWrong)

/-- 'glebelaw01.WireTurned': WHATEVER THE INPUT: true; the input reads as it did. -/
def wireTurnedSpec : ChangeSpec := { name := "wireTurned", fn := fun _ => fun
  | [d1, d2, d3, d4] => { results := [.lit (.bool true)], args := [d1, d2, d3, d4] }
  | _ => none }
def wireTurnedRow : OpenClaim := { program := "ytimfeiobdcmhnaa", sum := "4d23ea8a0ace7265d9af876c2722b042d9a552cf1eb3c9707f6b46bfd13df896", func := "glebe/glebelaw01.WireTurned", spec := "wireTurned", apart := false }
def WireTurnedSaid : Prop := wireTurnedRow.holds Try.pinned (OpenSpec.ofChange wireTurnedSpec)

/-- ITS FALSE NEIGHBOUR: 'it returns false'. Refute it at one input. -/
def wireTurnedWrong : ChangeSpec := { name := "wireTurned", fn := fun _ => fun
  | [d1, d2, d3, d4] => { results := [.lit (.bool false)], args := [d1, d2, d3, d4] }
  | _ => none }
def WireTurnedWrongFalsely : Prop := wireTurnedRow.holds Try.pinned (OpenSpec.ofChange wireTurnedWrong)

/-- 'glebelaw02.TorusMetric': WHATEVER THE INPUT: true; the input reads as it did. -/
def torusMetricSpec : ChangeSpec := { name := "torusMetric", fn := fun _ => fun
  | [d1, d2, d3, d4, d5, d6] => { results := [.lit (.bool true)], args := [d1, d2, d3, d4, d5, d6] }
  | _ => none }
def torusMetricRow : OpenClaim := { program := "ytimfeiobdcmhnaa", sum := "4d23ea8a0ace7265d9af876c2722b042d9a552cf1eb3c9707f6b46bfd13df896", func := "glebe/glebelaw02.TorusMetric", spec := "torusMetric", unfollowed := true, recurses := true, apart := false }
def TorusMetricSaid : Prop := torusMetricRow.holds Try.pinned (OpenSpec.ofChange torusMetricSpec)

/-- ITS FALSE NEIGHBOUR: 'it returns false'. Refute it at one input. -/
def torusMetricWrong : ChangeSpec := { name := "torusMetric", fn := fun _ => fun
  | [d1, d2, d3, d4, d5, d6] => { results := [.lit (.bool false)], args := [d1, d2, d3, d4, d5, d6] }
  | _ => none }
def TorusMetricWrongFalsely : Prop := torusMetricRow.holds Try.pinned (OpenSpec.ofChange torusMetricWrong)

/-- 'glebelaw02.TorusRings': WHATEVER THE INPUT: true; the input reads as it did. -/
def torusRingsSpec : ChangeSpec := { name := "torusRings", fn := fun _ => fun
  | [d1, d2, d3] => { results := [.lit (.bool true)], args := [d1, d2, d3] }
  | _ => none }
def torusRingsRow : OpenClaim := { program := "ytimfeiobdcmhnaa", sum := "4d23ea8a0ace7265d9af876c2722b042d9a552cf1eb3c9707f6b46bfd13df896", func := "glebe/glebelaw02.TorusRings", spec := "torusRings", unfollowed := true, recurses := true, apart := false }
def TorusRingsSaid : Prop := torusRingsRow.holds Try.pinned (OpenSpec.ofChange torusRingsSpec)

/-- ITS FALSE NEIGHBOUR: 'it returns false'. Refute it at one input. -/
def torusRingsWrong : ChangeSpec := { name := "torusRings", fn := fun _ => fun
  | [d1, d2, d3] => { results := [.lit (.bool false)], args := [d1, d2, d3] }
  | _ => none }
def TorusRingsWrongFalsely : Prop := torusRingsRow.holds Try.pinned (OpenSpec.ofChange torusRingsWrong)

/-- 'glebelaw02.TorusCells': WHATEVER THE INPUT: true; the input reads as it did. -/
def torusCellsSpec : ChangeSpec := { name := "torusCells", fn := fun _ => fun
  | [d1, d2, d3, d4, d5] => { results := [.lit (.bool true)], args := [d1, d2, d3, d4, d5] }
  | _ => none }
def torusCellsRow : OpenClaim := { program := "ytimfeiobdcmhnaa", sum := "4d23ea8a0ace7265d9af876c2722b042d9a552cf1eb3c9707f6b46bfd13df896", func := "glebe/glebelaw02.TorusCells", spec := "torusCells", unfollowed := true, recurses := true, apart := false }
def TorusCellsSaid : Prop := torusCellsRow.holds Try.pinned (OpenSpec.ofChange torusCellsSpec)

/-- ITS FALSE NEIGHBOUR: 'it returns false'. Refute it at one input. -/
def torusCellsWrong : ChangeSpec := { name := "torusCells", fn := fun _ => fun
  | [d1, d2, d3, d4, d5] => { results := [.lit (.bool false)], args := [d1, d2, d3, d4, d5] }
  | _ => none }
def TorusCellsWrongFalsely : Prop := torusCellsRow.holds Try.pinned (OpenSpec.ofChange torusCellsWrong)

/-- 'glebelaw01.WireNumbers': WHATEVER THE INPUT: true; the input reads as it did. -/
def wireNumbersSpec : ChangeSpec := { name := "wireNumbers", fn := fun _ => fun
  | [d1, d2] => { results := [.lit (.bool true)], args := [d1, d2] }
  | _ => none }
def wireNumbersRow : OpenClaim := { program := "ytimfeiobdcmhnaa", sum := "4d23ea8a0ace7265d9af876c2722b042d9a552cf1eb3c9707f6b46bfd13df896", func := "glebe/glebelaw01.WireNumbers", spec := "wireNumbers", apart := false }
def WireNumbersSaid : Prop := wireNumbersRow.holds Try.pinned (OpenSpec.ofChange wireNumbersSpec)

/-- ITS FALSE NEIGHBOUR: 'it returns false'. Refute it at one input. -/
def wireNumbersWrong : ChangeSpec := { name := "wireNumbers", fn := fun _ => fun
  | [d1, d2] => { results := [.lit (.bool false)], args := [d1, d2] }
  | _ => none }
def WireNumbersWrongFalsely : Prop := wireNumbersRow.holds Try.pinned (OpenSpec.ofChange wireNumbersWrong)

/-- 'glebelaw01.WireSizes': WHATEVER THE INPUT: true; the input reads as it did. -/
def wireSizesSpec : ChangeSpec := { name := "wireSizes", fn := fun _ => fun
  | [d] => { results := [.lit (.bool true)], args := [d] }
  | _ => none }
def wireSizesRow : OpenClaim := { program := "ytimfeiobdcmhnaa", sum := "4d23ea8a0ace7265d9af876c2722b042d9a552cf1eb3c9707f6b46bfd13df896", func := "glebe/glebelaw01.WireSizes", spec := "wireSizes", apart := false }
def WireSizesSaid : Prop := wireSizesRow.holds Try.pinned (OpenSpec.ofChange wireSizesSpec)

/-- ITS FALSE NEIGHBOUR: 'it returns false'. Refute it at one input. -/
def wireSizesWrong : ChangeSpec := { name := "wireSizes", fn := fun _ => fun
  | [d] => { results := [.lit (.bool false)], args := [d] }
  | _ => none }
def WireSizesWrongFalsely : Prop := wireSizesRow.holds Try.pinned (OpenSpec.ofChange wireSizesWrong)

/-- 'glebelaw01.WireNil': WHATEVER THE INPUT: true; the input reads as it did. -/
def wireNilSpec : ChangeSpec := { name := "wireNil", fn := fun _ => fun
  | [d] => { results := [.lit (.bool true)], args := [d] }
  | _ => none }
def wireNilRow : OpenClaim := { program := "ytimfeiobdcmhnaa", sum := "4d23ea8a0ace7265d9af876c2722b042d9a552cf1eb3c9707f6b46bfd13df896", func := "glebe/glebelaw01.WireNil", spec := "wireNil", apart := false }
def WireNilSaid : Prop := wireNilRow.holds Try.pinned (OpenSpec.ofChange wireNilSpec)

/-- ITS FALSE NEIGHBOUR: 'it returns false'. Refute it at one input. -/
def wireNilWrong : ChangeSpec := { name := "wireNil", fn := fun _ => fun
  | [d] => { results := [.lit (.bool false)], args := [d] }
  | _ => none }
def WireNilWrongFalsely : Prop := wireNilRow.holds Try.pinned (OpenSpec.ofChange wireNilWrong)

/-- 'glebelaw01.WireReads': WHATEVER THE INPUT: true; the input reads as it did. -/
def wireReadsSpec : ChangeSpec := { name := "wireReads", fn := fun _ => fun
  | [d1, d2] => { results := [.lit (.bool true)], args := [d1, d2] }
  | _ => none }
def wireReadsRow : OpenClaim := { program := "ytimfeiobdcmhnaa", sum := "4d23ea8a0ace7265d9af876c2722b042d9a552cf1eb3c9707f6b46bfd13df896", func := "glebe/glebelaw01.WireReads", spec := "wireReads", apart := false }
def WireReadsSaid : Prop := wireReadsRow.holds Try.pinned (OpenSpec.ofChange wireReadsSpec)

/-- ITS FALSE NEIGHBOUR: 'it returns false'. Refute it at one input. -/
def wireReadsWrong : ChangeSpec := { name := "wireReads", fn := fun _ => fun
  | [d1, d2] => { results := [.lit (.bool false)], args := [d1, d2] }
  | _ => none }
def WireReadsWrongFalsely : Prop := wireReadsRow.holds Try.pinned (OpenSpec.ofChange wireReadsWrong)

/-- 'glebelaw01.WireBack': WHATEVER THE INPUT: true; the input reads as it did. -/
def wireBackSpec : ChangeSpec := { name := "wireBack", fn := fun _ => fun
  | [d1, d2, d3] => { results := [.lit (.bool true)], args := [d1, d2, d3] }
  | _ => none }
def wireBackRow : OpenClaim := { program := "ytimfeiobdcmhnaa", sum := "4d23ea8a0ace7265d9af876c2722b042d9a552cf1eb3c9707f6b46bfd13df896", func := "glebe/glebelaw01.WireBack", spec := "wireBack", apart := false }
def WireBackSaid : Prop := wireBackRow.holds Try.pinned (OpenSpec.ofChange wireBackSpec)

/-- ITS FALSE NEIGHBOUR: 'it returns false'. Refute it at one input. -/
def wireBackWrong : ChangeSpec := { name := "wireBack", fn := fun _ => fun
  | [d1, d2, d3] => { results := [.lit (.bool false)], args := [d1, d2, d3] }
  | _ => none }
def WireBackWrongFalsely : Prop := wireBackRow.holds Try.pinned (OpenSpec.ofChange wireBackWrong)

/- THE SECOND FORM. 'bulk': how many values and letters a reading holds, each counted each time it is reached (what is shared counts as often as it is met; a slice's spare places count too). A statement '..UptoSaid' is the law's where the arguments, and the package variables that the reading takes, are together of bulk at most 1048576: NARROWER than '..Said'. Prove '..Said' where nothing that the law and all that it calls make is longer than what came in: it says more and counts as full. Else prove '..UptoSaid'. A law counts once. -/
mutual
def uptoBulk {H : Type} : DataW H → Nat
  | .lit (.string bytes) => bytes.length + 1
  | .lit _ => 1
  | .nil => 1
  | .ptr d => uptoBulk d + 1
  | .slice elems spare => uptoBulkAll elems + uptoBulkAll spare + 1
  | .agg parts => uptoBulkAll parts + 1
  | .iface _ d => uptoBulk d + 1
  | .map entries => uptoBulkEntries entries + 1
  | .held _ => 1
def uptoBulkAll {H : Type} : List (DataW H) → Nat
  | [] => 0
  | d :: r => uptoBulk d + uptoBulkAll r
def uptoBulkEntries {H : Type} : List (Lit × DataW H) → Nat
  | [] => 0
  | x :: r => uptoBulkEntry x + uptoBulkEntries r
def uptoBulkEntry {H : Type} : Lit × DataW H → Nat
  | (.string bytes, d) => bytes.length + uptoBulk d + 1
  | (_, d) => uptoBulk d + 1
 end
def uptoSmall : (H : Type) → List (DataW H) → Bool := fun _ ds => decide (uptoBulkAll ds ≤ 1048576)
def OpenSpec.upto (s : _root_.Go.ChangeSpec) : _root_.Go.OpenSpec := { _root_.Go.OpenSpec.ofChange s with cond := some uptoSmall }

/-- 'glebelaw02.TorusSteps', WHERE WHAT IT READS IS OF BULK AT MOST 1048576: true; the input reads as it did. -/
def torusStepsUptoRow : OpenClaim := { program := "ytimfeiobdcmhnaa", sum := "4d23ea8a0ace7265d9af876c2722b042d9a552cf1eb3c9707f6b46bfd13df896", func := "glebe/glebelaw02.TorusSteps", spec := "torusSteps", unfollowed := true, recurses := true, apart := false, narrowed := true }
def TorusStepsUptoSaid : Prop := torusStepsUptoRow.holds Try.pinned (OpenSpec.upto torusStepsSpec)

/-- 'glebelaw01.WireSums', WHERE WHAT IT READS IS OF BULK AT MOST 1048576: true; the input reads as it did. -/
def wireSumsUptoRow : OpenClaim := { program := "ytimfeiobdcmhnaa", sum := "4d23ea8a0ace7265d9af876c2722b042d9a552cf1eb3c9707f6b46bfd13df896", func := "glebe/glebelaw01.WireSums", spec := "wireSums", apart := false, narrowed := true }
def WireSumsUptoSaid : Prop := wireSumsUptoRow.holds Try.pinned (OpenSpec.upto wireSumsSpec)

/-- 'glebelaw01.WireFrames', WHERE WHAT IT READS IS OF BULK AT MOST 1048576: true; the input reads as it did. -/
def wireFramesUptoRow : OpenClaim := { program := "ytimfeiobdcmhnaa", sum := "4d23ea8a0ace7265d9af876c2722b042d9a552cf1eb3c9707f6b46bfd13df896", func := "glebe/glebelaw01.WireFrames", spec := "wireFrames", apart := false, narrowed := true }
def WireFramesUptoSaid : Prop := wireFramesUptoRow.holds Try.pinned (OpenSpec.upto wireFramesSpec)

/-- 'glebelaw01.WireTurned', WHERE WHAT IT READS IS OF BULK AT MOST 1048576: true; the input reads as it did. -/
def wireTurnedUptoRow : OpenClaim := { program := "ytimfeiobdcmhnaa", sum := "4d23ea8a0ace7265d9af876c2722b042d9a552cf1eb3c9707f6b46bfd13df896", func := "glebe/glebelaw01.WireTurned", spec := "wireTurned", apart := false, narrowed := true }
def WireTurnedUptoSaid : Prop := wireTurnedUptoRow.holds Try.pinned (OpenSpec.upto wireTurnedSpec)

/-- 'glebelaw02.TorusMetric', WHERE WHAT IT READS IS OF BULK AT MOST 1048576: true; the input reads as it did. -/
def torusMetricUptoRow : OpenClaim := { program := "ytimfeiobdcmhnaa", sum := "4d23ea8a0ace7265d9af876c2722b042d9a552cf1eb3c9707f6b46bfd13df896", func := "glebe/glebelaw02.TorusMetric", spec := "torusMetric", unfollowed := true, recurses := true, apart := false, narrowed := true }
def TorusMetricUptoSaid : Prop := torusMetricUptoRow.holds Try.pinned (OpenSpec.upto torusMetricSpec)

/-- 'glebelaw02.TorusRings', WHERE WHAT IT READS IS OF BULK AT MOST 1048576: true; the input reads as it did. -/
def torusRingsUptoRow : OpenClaim := { program := "ytimfeiobdcmhnaa", sum := "4d23ea8a0ace7265d9af876c2722b042d9a552cf1eb3c9707f6b46bfd13df896", func := "glebe/glebelaw02.TorusRings", spec := "torusRings", unfollowed := true, recurses := true, apart := false, narrowed := true }
def TorusRingsUptoSaid : Prop := torusRingsUptoRow.holds Try.pinned (OpenSpec.upto torusRingsSpec)

/-- 'glebelaw02.TorusCells', WHERE WHAT IT READS IS OF BULK AT MOST 1048576: true; the input reads as it did. -/
def torusCellsUptoRow : OpenClaim := { program := "ytimfeiobdcmhnaa", sum := "4d23ea8a0ace7265d9af876c2722b042d9a552cf1eb3c9707f6b46bfd13df896", func := "glebe/glebelaw02.TorusCells", spec := "torusCells", unfollowed := true, recurses := true, apart := false, narrowed := true }
def TorusCellsUptoSaid : Prop := torusCellsUptoRow.holds Try.pinned (OpenSpec.upto torusCellsSpec)

/-- 'glebelaw01.WireNumbers', WHERE WHAT IT READS IS OF BULK AT MOST 1048576: true; the input reads as it did. -/
def wireNumbersUptoRow : OpenClaim := { program := "ytimfeiobdcmhnaa", sum := "4d23ea8a0ace7265d9af876c2722b042d9a552cf1eb3c9707f6b46bfd13df896", func := "glebe/glebelaw01.WireNumbers", spec := "wireNumbers", apart := false, narrowed := true }
def WireNumbersUptoSaid : Prop := wireNumbersUptoRow.holds Try.pinned (OpenSpec.upto wireNumbersSpec)

/-- 'glebelaw01.WireSizes', WHERE WHAT IT READS IS OF BULK AT MOST 1048576: true; the input reads as it did. -/
def wireSizesUptoRow : OpenClaim := { program := "ytimfeiobdcmhnaa", sum := "4d23ea8a0ace7265d9af876c2722b042d9a552cf1eb3c9707f6b46bfd13df896", func := "glebe/glebelaw01.WireSizes", spec := "wireSizes", apart := false, narrowed := true }
def WireSizesUptoSaid : Prop := wireSizesUptoRow.holds Try.pinned (OpenSpec.upto wireSizesSpec)

/-- 'glebelaw01.WireNil', WHERE WHAT IT READS IS OF BULK AT MOST 1048576: true; the input reads as it did. -/
def wireNilUptoRow : OpenClaim := { program := "ytimfeiobdcmhnaa", sum := "4d23ea8a0ace7265d9af876c2722b042d9a552cf1eb3c9707f6b46bfd13df896", func := "glebe/glebelaw01.WireNil", spec := "wireNil", apart := false, narrowed := true }
def WireNilUptoSaid : Prop := wireNilUptoRow.holds Try.pinned (OpenSpec.upto wireNilSpec)

/-- 'glebelaw01.WireReads', WHERE WHAT IT READS IS OF BULK AT MOST 1048576: true; the input reads as it did. -/
def wireReadsUptoRow : OpenClaim := { program := "ytimfeiobdcmhnaa", sum := "4d23ea8a0ace7265d9af876c2722b042d9a552cf1eb3c9707f6b46bfd13df896", func := "glebe/glebelaw01.WireReads", spec := "wireReads", apart := false, narrowed := true }
def WireReadsUptoSaid : Prop := wireReadsUptoRow.holds Try.pinned (OpenSpec.upto wireReadsSpec)

/-- 'glebelaw01.WireBack', WHERE WHAT IT READS IS OF BULK AT MOST 1048576: true; the input reads as it did. -/
def wireBackUptoRow : OpenClaim := { program := "ytimfeiobdcmhnaa", sum := "4d23ea8a0ace7265d9af876c2722b042d9a552cf1eb3c9707f6b46bfd13df896", func := "glebe/glebelaw01.WireBack", spec := "wireBack", apart := false, narrowed := true }
def WireBackUptoSaid : Prop := wireBackUptoRow.holds Try.pinned (OpenSpec.upto wireBackSpec)

end Rows
end Go.Proofs.Ytimfeiobdcmhnaa
