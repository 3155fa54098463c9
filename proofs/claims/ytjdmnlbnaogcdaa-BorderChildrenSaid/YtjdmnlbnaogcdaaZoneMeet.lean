/- Two zones have a cell together just if their paths meet. -/
import Derived.Test.YtjdmnlbnaogcdaaBorderFacts
import Derived.Test.YtjdmnlbnaogcdaaZoneKidsC
namespace Go.Proofs.Ytjdmnlbnaogcdaa.PC
open Go.RowKit Go.Proofs.YtjdmnlbnaogcdaaW.PrintWords Go.Proofs.YtjdmnlbnaogcdaaW.PrintLast Go.Proofs.YtjdmnlbnaogcdaaW.PrintMore
set_option linter.unusedVariables false
/-- Have two rectangles a cell together? -/
def Ov (p q : R4) : Prop := p.f0 < q.f0 + q.f2 ∧ q.f0 < p.f0 + p.f2 ∧ p.f1 < q.f1 + q.f3 ∧ q.f1 < p.f1 + p.f3
instance (p q : R4) : Decidable (Ov p q) := by unfold Ov; exact inferInstance
def In4 (q p : R4) : Prop := p.f0 ≤ q.f0 ∧ q.f0 + q.f2 ≤ p.f0 + p.f2 ∧ p.f1 ≤ q.f1 ∧ q.f1 + q.f3 ≤ p.f1 + p.f3
theorem kid_in {K n d b c : Int} (hk : OkT K n) (hp : PathOk K d b) (hd : d < 2 * K) (hc : c = 0 ∨ c = 1) : In4 (zone n (d + 1) (2 * b + c)) (zone n d b) := by
  have hz := zone_ok hk hp
  unfold Pos Rt at hz
  unfold In4
  rcases zone_halves hk hp hd with ⟨m, h0, h1, h2, h3⟩ | ⟨m, h0, h1, h2, h3⟩
  all_goals
    rcases hc with rfl | rfl
    · rw [h2]
      dsimp only
      omega
    · rw [h3]
      dsimp only
      omega
theorem kid_apart {K n d b : Int} (hk : OkT K n) (hp : PathOk K d b) (hd : d < 2 * K) : ¬ Ov (zone n (d + 1) (2 * b + 0)) (zone n (d + 1) (2 * b + 1)) := by
  unfold Ov
  rcases zone_halves hk hp hd with ⟨m, h0, h1, h2, h3⟩ | ⟨m, h0, h1, h2, h3⟩ <;> rw [h2, h3] <;> dsimp only <;> omega
theorem par_ok {K d b : Int} (h : PathOk K (d + 1) b) (hd : 0 ≤ d) : PathOk K d (b / 2) := by
  obtain ⟨h1, h2, h3, h4⟩ := h
  rw [show (d + 1).toNat = d.toNat + 1 by omega, Int.pow_succ] at h4
  exact ⟨h1, by omega, by omega, by omega⟩
theorem half_eq (b : Int) : b = 2 * (b / 2) + b % 2 := by omega
theorem in_trans {p q r : R4} (h1 : In4 r q) (h2 : In4 q p) : In4 r p := by
  unfold In4 at *
  omega
theorem ov_in {p q r s : R4} (h1 : In4 p r) (h2 : In4 q s) (h : Ov p q) : Ov r s := by
  unfold In4 Ov at *
  omega
theorem ov_comm {p q : R4} : Ov p q → Ov q p := by
  unfold Ov
  omega
theorem up_in {K n d b : Int} (hk : OkT K n) (hpb : PathOk K (d + 1) b) (hd : 0 ≤ d) : In4 (zone n (d + 1) b) (zone n d (b / 2)) := by
  have hp := par_ok hpb hd
  have h := kid_in hk hp (c := b % 2) (by have := hpb.2.1; omega) (by omega)
  rwa [← half_eq] at h
theorem zone_up {K n d : Int} (hk : OkT K n) (hd : 0 ≤ d) (j : Nat) : ∀ c, PathOk K (d + j) c → In4 (zone n (d + j) c) (zone n d (c / 2 ^ j)) := by
  induction j with
  | zero =>
    intro c h
    have e : d + ((0 : Nat) : Int) = d := by omega
    rw [e]
    simp only [Int.pow_zero, Int.ediv_one]
    unfold In4
    omega
  | succ j ih =>
    intro c h
    have e : d + ((j + 1 : Nat) : Int) = (d + j) + 1 := by omega
    rw [e] at h ⊢
    have h1 := up_in hk h (by omega)
    have h2 := ih (c / 2) (par_ok h (by omega))
    have h3 := in_trans h1 h2
    rwa [Int.ediv_ediv_of_nonneg (by decide), Int.mul_comm, ← Int.pow_succ] at h3
theorem same_depth {K n : Int} (hk : OkT K n) (e : Nat) : ∀ b c, PathOk K e b → PathOk K e c → b ≠ c → ¬ Ov (zone n e b) (zone n e c) := by
  induction e with
  | zero =>
    intro b c h1 h2 h
    have a1 := h1.2.2
    have a2 := h2.2.2
    simp at a1 a2
    omega
  | succ e ih =>
    intro b c h1 h2 h ho
    have e1 : ((e + 1 : Nat) : Int) = (e : Int) + 1 := by omega
    rw [e1] at h1 h2 ho
    have p1 := par_ok h1 (by omega)
    have p2 := par_ok h2 (by omega)
    by_cases he : b / 2 = c / 2
    · have hlt : (e : Int) < 2 * K := by have := h1.2.1; omega
      have ha := kid_apart hk p1 hlt
      rcases (show b % 2 = 0 ∨ b % 2 = 1 by omega) with hb | hb <;> rcases (show c % 2 = 0 ∨ c % 2 = 1 by omega) with hc | hc
      · omega
      · rw [show b = 2 * (b / 2) + 0 by omega, show c = 2 * (b / 2) + 1 by omega] at ho
        exact ha ho
      · rw [show b = 2 * (b / 2) + 1 by omega, show c = 2 * (b / 2) + 0 by omega] at ho
        exact ha (ov_comm ho)
      · omega
    · exact ih _ _ p1 p2 he (ov_in (up_in hk h1 (by omega)) (up_in hk h2 (by omega)) ho)
theorem ov_meet1 {K n d b e c : Int} (hk : OkT K n) (h1 : PathOk K d b) (h2 : PathOk K e c) (hde : d ≤ e) (ho : Ov (zone n d b) (zone n e c)) : ab d b e c := by
  refine ⟨ok16 h1, ok16 h2, hde, ?_⟩
  have b1 := h1.2.1
  have hj := zone_up hk b1.1 (e - d).toNat c (by rw [show d + ((e - d).toNat : Int) = e by omega]; exact h2)
  rw [show d + ((e - d).toNat : Int) = e by omega] at hj
  have hq : PathOk K d (c / 2 ^ (e - d).toNat) := by
    obtain ⟨a1, a2, a3, a4⟩ := h2
    refine ⟨a1, b1, Int.ediv_nonneg a3 (Int.le_of_lt (Int.pow_pos (by decide))), Int.ediv_lt_of_lt_mul (Int.pow_pos (by decide)) ?_⟩
    rw [← Int.pow_add, show d.toNat + (e - d).toNat = e.toNat by omega]
    exact a4
  have he : ((d.toNat : Nat) : Int) = d := by omega
  rcases Classical.em (c / 2 ^ (e - d).toNat = b) with h | h
  · exact h
  · exfalso
    have := same_depth hk d.toNat b (c / 2 ^ (e - d).toNat) (by rw [he]; exact h1) (by rw [he]; exact hq) (fun q => h q.symm)
    rw [he] at this
    refine this ?_
    unfold Ov In4 at *
    omega
theorem ov_meet {K n d b e c : Int} (hk : OkT K n) (h1 : PathOk K d b) (h2 : PathOk K e c) (ho : Ov (zone n d b) (zone n e c)) : mt d b e c := by
  by_cases hde : d ≤ e
  · exact .inl (ov_meet1 hk h1 h2 hde ho)
  · exact .inr (ov_meet1 hk h2 h1 (by omega) (ov_comm ho))
end Go.Proofs.Ytjdmnlbnaogcdaa.PC
