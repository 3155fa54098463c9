/- The head of a frame. -/
import Derived.Test.YtimfeiobdcmhnaaWireUnframe
namespace Go.Proofs.Ytimfeiobdcmhnaa.PR
open Go.RowKit Go.Proofs.YtimfeiobdcmhnaaW.PrintWords Go.Proofs.YtimfeiobdcmhnaaW.PrintLast Go.Proofs.YtimfeiobdcmhnaaW.PrintMore
set_option linter.unusedVariables false
/-- The head of a frame. -/
def hdB (kind : Nat) (n : Nat) : List Int := [3, (kind : Int) % 256, (n : Int) % 256, (n : Int) / 256 % 256, (n : Int) / 65536 % 256]
theorem hdB_byt (kind n : Nat) (hn : n < 16777216) : Byt (hdB kind n) := by
  intro z hz
  simp [hdB] at hz
  omega
theorem frameB_eq (kind : Nat) (l : List Int) (hl : Byt l) (hn : l.length < 16777216) : frameB kind l = hdB kind l.length ++ (l ++ sumB ((sumN (hdB kind l.length ++ l) : Nat) : Int)) := by
  have hb : Byt (hdB kind l.length ++ l) := fun z hz => (List.mem_append.mp hz).elim (hdB_byt kind l.length hn z) (hl z)
  have e : sumI (hdB kind l.length ++ l) = ((sumN (hdB kind l.length ++ l) : Nat) : Int) := Option.some.inj ((wsum_eq _).symm.trans (wsum_nat hb))
  have e2 : headB kind l = hdB kind l.length ++ l := rfl
  unfold frameB
  rw [e2, e, List.append_assoc]
/-- A frame of the right head and length. -/
theorem unf_frame (kind n : Nat) (T : List Int) (hn : n ≤ 131072) (hk : kind < 256) (hl : T.length = n + 4) : unf (hdB kind n ++ T) = if sumB ((sumN (hdB kind n ++ T.take n) : Nat) : Int) = T.drop n then ((kind : Int), T.take n, 0) else (0, [], 22) := by
  have hlen : (hdB kind n ++ T).length = n + 9 := by simp [hdB, hl]
  have r0 : rd (hdB kind n ++ T) 0 = 3 := rfl
  have r1 : rd (hdB kind n ++ T) 1 = (kind : Int) % 256 := rfl
  have r2 : rd (hdB kind n ++ T) 2 = (n : Int) % 256 := rfl
  have r3 : rd (hdB kind n ++ T) 3 = (n : Int) / 256 % 256 := rfl
  have r4 : rd (hdB kind n ++ T) 4 = (n : Int) / 65536 % 256 := rfl
  have hN : rd (hdB kind n ++ T) 2 + rd (hdB kind n ++ T) 3 * 256 + rd (hdB kind n ++ T) 4 * 65536 = (n : Int) := by
    rw [r2, r3, r4]
    omega
  have h5 : (hdB kind n).length = 5 := rfl
  have e1 : (hdB kind n ++ T).take ((n : Int) + 5).toNat = hdB kind n ++ T.take n := by
    rw [show ((n : Int) + 5).toNat = (hdB kind n).length + n by rw [h5]; omega, List.take_length_add_append]
  have e2 : (hdB kind n ++ T).drop ((n : Int) + 5).toNat = T.drop n := by
    rw [show ((n : Int) + 5).toNat = (hdB kind n).length + n by rw [h5]; omega, List.drop_length_add_append]
  unfold unf
  rw [hN, e1, e2, r0, r1, hlen, if_neg (by omega), if_neg (by omega), if_neg (by omega), if_neg (by omega)]
  by_cases c : sumB ((sumN (hdB kind n ++ T.take n) : Nat) : Int) = T.drop n
  · rw [if_pos c, if_pos c, show (kind : Int) % 256 = kind by omega]
    rfl
  · rw [if_neg c, if_neg c]
end Go.Proofs.Ytimfeiobdcmhnaa.PR
