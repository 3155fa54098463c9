/- Tables put together: the same whichever two come first; each row is one of theirs, and none greater. -/
import Derived.Test.YtlfnfgoocliecaaPJx20
namespace Go.Proofs.Ytlfnfgoocliecaa.PJ
open Go.RowKit Go.Proofs.YtlfnfgoocliecaaW.PrintWords Go.Proofs.YtlfnfgoocliecaaW.PrintLast Go.Proofs.YtlfnfgoocliecaaW.PrintMore
theorem join_at (T U : Nat → SRow) {i : Nat} (hi : i < 8) : joinUp T U 8 i = if (T i).q < (U i).q then U i else T i := if_pos hi
theorem join_assoc (T U V : Nat → SRow) (i : Nat) (hi : i < 8) : joinUp (joinUp T U 8) V 8 i = joinUp T (joinUp U V 8) 8 i := by
  rw [join_at _ _ hi, join_at _ _ hi, join_at _ _ hi, join_at _ _ hi]
  by_cases h1 : (T i).q < (U i).q
  · rw [if_pos h1]
    by_cases h2 : (U i).q < (V i).q
    · rw [if_pos h2, if_pos (show (T i).q < (V i).q by omega)]
    · rw [if_neg h2, if_pos h1]
  · rw [if_neg h1]
    by_cases h2 : (U i).q < (V i).q
    · rw [if_pos h2]
    · rw [if_neg h2, if_neg h1, if_neg (show ¬ (T i).q < (V i).q by omega)]
theorem join_self (T : Nat → SRow) (i : Nat) (hi : i < 8) : joinUp T T 8 i = T i := by
  rw [join_at _ _ hi, if_neg (by omega)]
/-- The row of all three. -/
theorem join_three (T U V : Nat → SRow) (i : Nat) (hi : i < 8) :
    (T i).q ≤ (joinUp (joinUp T U 8) V 8 i).q ∧ (U i).q ≤ (joinUp (joinUp T U 8) V 8 i).q ∧ (V i).q ≤ (joinUp (joinUp T U 8) V 8 i).q ∧ (joinUp (joinUp T U 8) V 8 i = T i ∨ joinUp (joinUp T U 8) V 8 i = U i ∨ joinUp (joinUp T U 8) V 8 i = V i) := by
  rw [join_at _ _ hi, join_at _ _ hi]
  by_cases h1 : (T i).q < (U i).q
  · rw [if_pos h1]
    by_cases h2 : (U i).q < (V i).q
    · rw [if_pos h2]
      exact ⟨by omega, by omega, by omega, .inr (.inr rfl)⟩
    · rw [if_neg h2]
      exact ⟨by omega, by omega, by omega, .inr (.inl rfl)⟩
  · rw [if_neg h1]
    by_cases h2 : (T i).q < (V i).q
    · rw [if_pos h2]
      exact ⟨by omega, by omega, by omega, .inr (.inr rfl)⟩
    · rw [if_neg h2]
      exact ⟨by omega, by omega, by omega, .inl rfl⟩
end Go.Proofs.Ytlfnfgoocliecaa.PJ
