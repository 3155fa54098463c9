/- The head of a frame. -/
import Derived.Test.YtimfeiobdcmhnaaWireUnframe
namespace Go.Proofs.Ytimfeiobdcmhnaa.PR
open Go.RowKit Go.Proofs.YtimfeiobdcmhnaaW.PrintWords Go.Proofs.YtimfeiobdcmhnaaW.PrintLast Go.Proofs.YtimfeiobdcmhnaaW.PrintMore
set_option linter.unusedVariables false
/-- The head of a frame. -/
def hdB (kind : Nat) (n : Nat) : List Int := [3, (kind : Int) % 256, (n : Int) % 256, (n : Int) / 256 % 256, (n : Int) / 65536 % 256]
theorem hdB_byt (kind n : Nat) (hn : n < 16777216) : Byt (hdB kind n) := by
  intro z hz
  simp [hdB] at hz
  omega
theorem frameB_eq (kind : Nat) (l : List Int) (hl : Byt l) (hn : l.length < 16777216) : frameB kind l = hdB kind l.length ++ (l ++ sumB ((sumN (hdB kind l.length ++ l) : Nat) : Int)) := by
  have hb : Byt (hdB kind l.length ++ l) := fun z hz => (List.mem_append.mp hz).elim (hdB_byt kind l.length hn z) (hl z)
  have e : sumI (hdB kind l.length ++ l) = ((sumN (hdB kind l.length ++ l) : Nat) : Int) := Option.some.inj ((wsum_eq _).symm.trans (wsum_nat hb))
  have e2 : headB kind l = hdB kind l.length ++ l := rfl
  unfold frameB
  rw [e2, e, List.append_assoc]
end Go.Proofs.Ytimfeiobdcmhnaa.PR
