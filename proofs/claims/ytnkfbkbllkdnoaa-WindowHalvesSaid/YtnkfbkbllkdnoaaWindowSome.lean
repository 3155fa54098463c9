/- 'Some': a window of any numbers that may be. -/
import Derived.Test.YtnkfbkbllkdnoaaWindowOn
import Derived.Test.YtnkfbkbllkdnoaaTorusWrapW
import Derived.Test.YtnkfbkbllkdnoaaPWx3
namespace Go.Proofs.Ytnkfbkbllkdnoaa.PW
open Go.RowKit Go.Proofs.YtnkfbkbllkdnoaaW.PrintWords Go.Proofs.YtnkfbkbllkdnoaaW.PrintLast Go.Proofs.YtnkfbkbllkdnoaaW.PrintMore
set_option linter.unusedVariables false
theorem pos_mod1 (a m : Int) (hm : 1 ≤ m) (hs : m ≤ 1048576) : 0 ≤ Int.tmod (wrap64 (wrap64 (Int.tmod a (wrap64 (m + 1)) + m) + 1)) (wrap64 (m + 1)) ∧ Int.tmod (wrap64 (wrap64 (Int.tmod a (wrap64 (m + 1)) + m) + 1)) (wrap64 (m + 1)) ≤ m := by
  rw [wrap64_small (x := m + 1) (by omega) (by omega)]
  have h1 := Int.tmod_lt_of_pos a (b := m + 1) (by omega)
  have h2 := Int.lt_tmod_of_pos a (b := m + 1) (by omega)
  rw [wrap64_small (x := Int.tmod a (m + 1) + m) (by omega) (by omega), wrap64_small (by omega) (by omega)]
  have h3 := Int.tmod_lt_of_pos (Int.tmod a (m + 1) + m + 1) (b := m + 1) (by omega)
  exact ⟨Int.tmod_nonneg _ (by omega), by omega⟩
theorem some_eq {K n : Int} (hk : OkT K n) (x y w h : Int) : ∃ W H, glebelaw04_Some.f K x y w h = some (x % n, y % n, W, H) ∧ Wn n (x % n) (y % n) W H := by
  have hb := okT_bd hk
  have p1 := pos_mod1 w n (by omega) (by omega)
  have p2 := pos_mod1 h n (by omega) (by omega)
  have m1 := mod_in (n := n) (by omega) x
  have m2 := mod_in (n := n) (by omega) y
  unfold glebelaw04_Some.f
  rw [side_eq hk, Option.bind_some, wrap_eq hk, Option.bind_some, if_neg (by rw [wrap64_small (by omega) (by omega)]; omega)]
  exact ⟨_, _, rfl, m1, m2, p1, p2⟩
theorem on16 (a : Int) : ∃ n, OkT (wrap64 (1 + Int.tmod (wrap64 (Int.tmod a 16 + 16)) 16)) n := by
  have h1 := Int.tmod_lt_of_pos a (b := 16) (by decide)
  have h2 := Int.lt_tmod_of_pos a (b := 16) (by decide)
  rw [wrap64_small (x := Int.tmod a 16 + 16) (by omega) (by omega)]
  have h3 := Int.tmod_lt_of_pos (Int.tmod a 16 + 16) (b := 16) (by decide)
  have h4 : 0 ≤ Int.tmod (Int.tmod a 16 + 16) 16 := Int.tmod_nonneg _ (by omega)
  rw [wrap64_small (by omega) (by omega)]
  exact ⟨_, okT_of ⟨by omega, by omega⟩⟩
end Go.Proofs.Ytnkfbkbllkdnoaa.PW
