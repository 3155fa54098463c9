/- RightAns: the program's and the document's say the same. -/
import Derived.Test.YtlfnfgoocliecaaPNx1
namespace Go.Proofs.Ytlfnfgoocliecaa.PN
open Go.RowKit Go.Proofs.YtlfnfgoocliecaaW.PrintWords Go.Proofs.YtlfnfgoocliecaaW.PrintLast Go.Proofs.YtlfnfgoocliecaaW.PrintMore
theorem from_eq (a b c : Int) : point_from.f a b c = some (decide (a ≤ b ∧ b ≤ c)) := by
  unfold point_from.f
  by_cases h : b ≥ a
  · rw [if_pos h]
    congr 1
    simp only [decide_eq_decide]
    omega
  · rw [if_neg h, decide_eq_false (by omega)]
theorem all_four : ∀ a b c d : Bool, point_all.f 100 [a, b, c, d] = some (a && b && c && d) := by decide +kernel
theorem right_both (e : Int) (f : Bool) (v : ByteArray) (n : Int) : ∃ b, point_RightAns.f 100 e f v n = some b ∧ gleberef07_RightAns.f e f v n = some b := by
  unfold point_RightAns.f gleberef07_RightAns.f
  simp only [from_eq, all_four, Option.bind_some]
  by_cases a1 : 0 ≤ e
  · by_cases a2 : e ≤ 255
    · by_cases a3 : (v.size : Int) ≤ 32
      · by_cases a4 : 0 ≤ n
        · by_cases a5 : n ≤ 1099511627776
          · cases f <;> by_cases a6 : v.toList = [] <;> simp [a1, a2, a3, a4, a5, a6]
          · cases f <;> by_cases a6 : v.toList = [] <;> simp [a1, a2, a3, a4, a5, a6]
        · cases f <;> by_cases a6 : v.toList = [] <;> simp [a1, a2, a3, a4, a6]
      · cases f <;> by_cases a6 : v.toList = [] <;> simp [a1, a2, a3, a6]
    · cases f <;> by_cases a6 : v.toList = [] <;> simp [a1, a2, a6]
  · cases f <;> by_cases a6 : v.toList = [] <;> simp [a1, a6]
theorem right_P {e : Int} {f : Bool} {v : ByteArray} {n : Int} (h : gleberef07_RightAns.f e f v n = some true) : RightP e f v n := by
  unfold gleberef07_RightAns.f at h
  by_cases a1 : e ≥ 0
  · rw [if_pos a1] at h
    by_cases a2 : e ≤ 255
    · rw [if_pos a2] at h
      by_cases a3 : (v.size : Int) ≤ 32
      · rw [if_pos a3] at h
        by_cases a4 : n ≥ 0
        · rw [if_pos a4] at h
          by_cases a5 : n ≤ 1099511627776
          · rw [if_pos a5] at h
            refine ⟨a1, a2, a3, a4, a5, ?_⟩
            cases f
            · rw [if_neg (by simp)] at h
              by_cases a6 : v.toList = []
              · rw [if_pos a6] at h
                exact .inr ⟨a6, by simpa using h⟩
              · rw [if_neg a6] at h
                cases h
            · exact .inl rfl
          · rw [if_neg a5] at h; cases h
        · rw [if_neg a4] at h; cases h
      · rw [if_neg a3] at h; cases h
    · rw [if_neg a2] at h; cases h
  · rw [if_neg a1] at h; cases h
theorem right_yes {e : Int} {f : Bool} {v : ByteArray} {n : Int} (h : RightP e f v n) : point_RightAns.f 100 e f v n = some true ∧ gleberef07_RightAns.f e f v n = some true := by
  obtain ⟨b, h1, h2⟩ := right_both e f v n
  obtain ⟨a1, a2, a3, a4, a5, a6⟩ := h
  have : gleberef07_RightAns.f e f v n = some true := by
    unfold gleberef07_RightAns.f
    rw [if_pos a1, if_pos a2, if_pos a3, if_pos a4, if_pos a5]
    rcases a6 with rfl | ⟨a6, rfl⟩
    · rw [if_pos rfl]
    · rw [if_pos a6]
      cases f
      · rw [if_neg (by simp)]; rfl
      · rw [if_pos rfl]
  rw [h2] at this
  obtain rfl := Option.some.inj this
  exact ⟨h1, h2⟩
end Go.Proofs.Ytlfnfgoocliecaa.PN
