/- BorderCells: the length of a border is how many pairs of cells lie beside each other. -/
import Derived.Test.YtjdmnlbnaogcdaaBordCells
import Derived.Test.YtjdmnlbnaogcdaaPCx6
import Derived.Test.YtjdmnlbnaogcdaaStBorderCells
namespace Go.Proofs.Ytjdmnlbnaogcdaa.PC
open Go.RowKit Go.Proofs.YtjdmnlbnaogcdaaW.PrintWords Go.Proofs.YtjdmnlbnaogcdaaW.PrintLast Go.Proofs.YtjdmnlbnaogcdaaW.PrintMore
set_option linter.unusedVariables false
theorem on4 (a : Int) : ∃ n, OkT (wrap64 (1 + Int.tmod (wrap64 (Int.tmod a 4 + 4)) 4)) n ∧ (n = 2 ∨ n = 4 ∨ n = 8 ∨ n = 16) := by
  have h1 := Int.tmod_lt_of_pos a (b := 4) (by decide)
  have h2 := Int.lt_tmod_of_pos a (b := 4) (by decide)
  rw [wrap64_small (x := Int.tmod a 4 + 4) (by omega) (by omega)]
  have h3 := Int.tmod_lt_of_pos (Int.tmod a 4 + 4) (b := 4) (by decide)
  have h4 : 0 ≤ Int.tmod (Int.tmod a 4 + 4) 4 := Int.tmod_nonneg _ (by omega)
  rw [wrap64_small (by omega) (by omega)]
  generalize Int.tmod (Int.tmod a 4 + 4) 4 = v at *
  refine ⟨_, okT_of ⟨by omega, by omega⟩, ?_⟩
  rcases (show v = 0 ∨ v = 1 ∨ v = 2 ∨ v = 3 by omega) with rfl | rfl | rfl | rfl
  · exact .inl rfl
  · exact .inr (.inl rfl)
  · exact .inr (.inr (.inl rfl))
  · exact .inr (.inr (.inr rfl))
theorem cells_eq {K n d b e c : Int} (hk : OkT K n) (hn : n = 2 ∨ n = 4 ∨ n = 8 ∨ n = 16) (hp : PathOk K d b) (hq : PathOk K e c) (hm : ¬ mt d b e c) : ∃ k0, ∀ j, glebelaw06_cells.f (k0 + j) K d b e c = some (ln n (zone n d b) (zone n e c)) := by
  have hb := okT_bd hk
  have zp := zone_sp hk hp
  have zq := zone_sp hk hq
  have hz := zone_ok hk hp
  have ho : ¬ Ov (zone n d b) (zone n e c) := fun h => hm (ov_meet hk hp hq h)
  have cn := corner_eq hk hp
  generalize zone n d b = z at *
  unfold Pos Rt at hz
  obtain ⟨W, hW⟩ : ∃ W : Nat, z.f2 = (W : Int) := ⟨z.f2.toNat, by omega⟩
  obtain ⟨H, hH⟩ : ∃ H : Nat, z.f3 = (H : Int) := ⟨z.f3.toNat, by omega⟩
  refine ⟨36 + (11 * H + 4) * W + 2, fun j => ?_⟩
  unfold glebelaw06_cells.f
  rw [cn, Option.bind_some]
  dsimp only
  rw [hW, hH, show 36 + (11 * H + 4) * W + 2 + j = (36 + j) + (11 * H + 4) * W + 2 by omega]
  have h := l0_all (K := K) (n := n) (e := e) (c := c) (px := z.f0) (py := z.f1) (W := W) (H := H) hk hq (by omega) (by omega) (by omega) (by omega) (36 + j) (by omega) W 0 0 (by omega) (by decide) (by omega)
  rw [show ((0 : Nat) : Int) = 0 from rfl] at h
  rw [h, Int.zero_add]
  congr 1
  rw [hW] at zp
  rw [hH] at zp
  rw [all_pairs hn zp.1 zp.2 zq.1 zq.2 ?_]
  · unfold ln
    rw [hW, hH]
  · intro ⟨c1, c2⟩
    apply ho
    rw [← hW] at c1
    rw [← hH] at c2
    have zq' := zq
    unfold Sp at zq'
    unfold cm mx mn at c1 c2
    unfold Ov
    (repeat' split at c1) <;> (repeat' split at c2) <;> omega
theorem borderCells_pure : BorderCells_Pure := by
  intro a0 d b e c _ _ _ _ _
  obtain ⟨n, hk, hn⟩ := on4 a0
  unfold glebelaw06_BorderCells.f
  generalize wrap64 (1 + Int.tmod (wrap64 (Int.tmod a0 4 + 4)) 4) = K at *
  have hb := okT_bd hk
  obtain ⟨D, B, hS, hP⟩ := some3_eq (K := K) ⟨hb.1, hb.2.1⟩ d b
  obtain ⟨E, C, hT, hQ⟩ := some3_eq (K := K) ⟨hb.1, hb.2.1⟩ e c
  rw [hS, hT]
  simp only [Option.bind_some]
  have hl := lnP_comm K E C D B
  have hn2 : (2 : Int) ^ K.toNat = n := hk.2.2.symm
  by_cases hm : mt D B E C
  · have h0 : lnP K D B E C = 0 := by
      unfold lnP
      rw [if_neg (fun q => q.2.2 hm)]
    refine ⟨13, ?_⟩
    rw [show (13 : Nat) = 11 + 2 from rfl, length_eq, length_eq, beside_eq, beside_eq, knows6_eq, hl, h0]
    simp only [Option.bind_some]
    rw [if_pos trivial, if_neg (by simp), if_neg (by simp), glebelaw06_BorderCells.j0, if_neg (by simp), meet3_eq, Option.bind_some, decide_eq_true hm]
    rfl
  · obtain ⟨k0, hc⟩ := cells_eq hk hn hP hQ hm
    have hL : lnP K D B E C = ln n (zone n D B) (zone n E C) := by
      unfold lnP
      rw [if_pos ⟨hP, hQ, hm⟩, hn2]
    refine ⟨k0 + 13, ?_⟩
    rw [show k0 + 13 = (k0 + 11) + 2 from rfl, length_eq, length_eq, beside_eq, beside_eq, knows6_eq, hl]
    simp only [Option.bind_some]
    rw [if_pos trivial, if_neg (by simp), if_neg (by simp), glebelaw06_BorderCells.j0, if_neg (by simp), meet3_eq, Option.bind_some, decide_eq_false hm, if_neg (by decide), hc 12, Option.bind_some, hL, beq_self_eq_true]
end Go.Proofs.Ytjdmnlbnaogcdaa.PC
namespace Go.Proofs.Ytjdmnlbnaogcdaa.Pure
theorem BorderCells : Go.Proofs.Ytjdmnlbnaogcdaa.PC.BorderCells_Pure := Go.Proofs.Ytjdmnlbnaogcdaa.PC.borderCells_pure
end Go.Proofs.Ytjdmnlbnaogcdaa.Pure
