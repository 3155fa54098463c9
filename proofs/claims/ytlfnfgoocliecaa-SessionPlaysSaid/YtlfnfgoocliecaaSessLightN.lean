/- What Light and RightAns answer: always something. -/
import Derived.Test.YtlfnfgoocliecaaPNx1
namespace Go.Proofs.Ytlfnfgoocliecaa.PN
open Go.RowKit Go.Proofs.YtlfnfgoocliecaaW.PrintWords Go.Proofs.YtlfnfgoocliecaaW.PrintLast Go.Proofs.YtlfnfgoocliecaaW.PrintMore
theorem light_total (l : List S26) (_hl : l.length ≤ 9223372036854775807) : ∃ b, glebelaw09_Light.f 200 l = some b := by
  have go : ∀ (m i k : Nat), i + m = 60 → 2 * m + 2 ≤ k → ∃ b, glebelaw09_Light.l0 k l (i : Int) = some b := by
    intro m
    induction m with
    | zero =>
      intro i k hi hk
      obtain ⟨k, rfl⟩ : ∃ j, k = j + 2 := ⟨k - 2, by omega⟩
      rw [glebelaw09_Light.l0]
      have e : decide ((i : Int) < 60) = false := decide_eq_false (by omega)
      rw [e]
      have e2 : glebelaw09_Light.j1 (k + 1) l (i : Int) false = some (decide ((l.length : Int) ≤ 50)) := by
        rw [glebelaw09_Light.j1, if_neg (by simp)]
      rw [e2]
      split <;> exact ⟨_, rfl⟩
    | succ m ih =>
      intro i k hi hk
      obtain ⟨k, rfl⟩ : ∃ j, k = j + 2 := ⟨k - 2, by omega⟩
      rw [glebelaw09_Light.l0]
      by_cases c : (i : Int) < (l.length : Int)
      · rw [if_pos c, decide_eq_true (show (i : Int) < 60 by omega), glebelaw09_Light.j1, if_pos rfl, if_pos (by omega), if_pos c]
        split
        · exact ⟨_, rfl⟩
        · have h := ih (i + 1) k (by omega) (by omega)
          have e : wrap64 ((i : Int) + 1) = ((i + 1 : Nat) : Int) := by unfold wrap64; omega
          rw [e]
          exact h
      · rw [if_neg c, glebelaw09_Light.j1, if_neg (by simp)]
        exact ⟨_, rfl⟩
  exact go 60 0 200 rfl (by decide)
theorem right_total (e : Int) (f : Bool) (v : ByteArray) (n : Int) : ∃ b, point_RightAns.f 100 e f v n = some b := by
  have all5 : ∀ a b c d : Bool, point_all.f 100 [a, b, c, d] = some (a && b && c && d) := by decide +kernel
  have all4 : ∀ a b c d : Bool, ∃ r, point_all.f 100 [a, b, c, d] = some r := fun a b c d => ⟨_, all5 a b c d⟩
  have from_ : ∀ a b c : Int, ∃ r, point_from.f a b c = some r := by
    intro a b c
    unfold point_from.f
    split <;> exact ⟨_, rfl⟩
  unfold point_RightAns.f
  obtain ⟨x, hx⟩ := from_ 0 e 255
  obtain ⟨y, hy⟩ := from_ 0 n 1099511627776
  rw [hx, hy]
  simp only [Option.bind_some]
  split
  · obtain ⟨r, hr⟩ := all4 x (decide ((v.size : Int) ≤ 32)) y true
    rw [hr]
    exact ⟨_, rfl⟩
  · split
    · obtain ⟨r, hr⟩ := all4 x (decide ((v.size : Int) ≤ 32)) y (n == 0)
      rw [hr]
      exact ⟨_, rfl⟩
    · obtain ⟨r, hr⟩ := all4 x (decide ((v.size : Int) ≤ 32)) y false
      rw [hr]
      exact ⟨_, rfl⟩
end Go.Proofs.Ytlfnfgoocliecaa.PN
