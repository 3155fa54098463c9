/- The rings of all distances have all cells; a ring's count is that of the cells so far away. -/
import Derived.Test.YtimfeiobdcmhnaaTorusMore
import Derived.Test.YtimfeiobdcmhnaaStTorusRings
set_option linter.unusedSimpArgs false
namespace Go.Proofs.Ytimfeiobdcmhnaa.Pure
open Go.RowKit Go.Proofs.Ytimfeiobdcmhnaa.PT Go.Proofs.YtimfeiobdcmhnaaW.PrintWords Go.Proofs.YtimfeiobdcmhnaaW.PrintLast Go.Proofs.YtimfeiobdcmhnaaW.PrintMore
/-- How many cells are so far, row by row, as far as cell number i. -/
def cnt (n x y d : Int) : Nat → Int
  | 0 => 0
  | i + 1 => cnt n x y d i + (if ap n x ((i : Int) % n) + ap n y ((i : Int) / n) = d then 1 else 0)
def tot (half : Int) : Nat → Int
  | 0 => 0
  | i + 1 => tot half i + ringSum half i (half + 1).toNat
/-- Of a row of cells: how many have such a distance in it. -/
def rowc (n x e : Int) : Nat → Int
  | 0 => 0
  | i + 1 => rowc n x e i + (if ap n x i = e then 1 else 0)
def rows_ (n x y d : Int) : Nat → Int
  | 0 => 0
  | j + 1 => rows_ n x y d j + rowc n x (d - ap n y j) n.toNat
theorem cnt_row {n x y d : Int} (hn : 2 ≤ n) (j : Nat) : ∀ i : Nat, (i : Int) ≤ n → cnt n x y d (j * n.toNat + i) = cnt n x y d (j * n.toNat) + rowc n x (d - ap n y j) i := by
  intro i
  induction i with
  | zero => intro _; simp [rowc]
  | succ i ih =>
    intro hi
    rw [← Nat.add_assoc]
    simp only [cnt, rowc]
    rw [ih (by omega)]
    have e1 : ((j * n.toNat + i : Nat) : Int) = (i : Int) + n * j := by
      rw [Int.natCast_add, Int.natCast_mul, Int.toNat_of_nonneg (by omega), Int.mul_comm]
      omega
    rw [e1, Int.add_mul_emod_self_left, Int.add_mul_ediv_left _ _ (by omega), Int.emod_eq_of_lt (by omega) (by omega), Int.ediv_eq_zero_of_lt (by omega) (by omega), Int.zero_add]
    have e2 : (ap n x i + ap n y j = d) ↔ (ap n x i = d - ap n y j) := by omega
    simp only [e2]
    omega
theorem cnt_rows {n x y d : Int} (hn : 2 ≤ n) : ∀ j : Nat, cnt n x y d (j * n.toNat) = rows_ n x y d j := by
  intro j
  induction j with
  | zero => simp [cnt, rows_]
  | succ j ih =>
    have := cnt_row (x := x) (y := y) (d := d) hn j n.toNat (by omega)
    rw [Nat.succ_mul, this, ih]
    rfl
def wd (half e : Int) : Int := if 0 ≤ e ∧ e ≤ half then ringWidth half e else 0
theorem rowc_wd : ∀ n ∈ [(2 : Nat), 4, 8, 16], ∀ x < n, ∀ e < n, rowc n x e n = wd (n / 2) e := by decide +kernel
theorem rowc_big {n x e : Int} (hn : 2 ≤ n) (hx : e < 0 ∨ n ≤ e) : ∀ i : Nat, rowc n x e i = 0 := by
  intro i
  induction i with
  | zero => rfl
  | succ i ih =>
    have := ap_bd (n := n) (a := x) (b := i) hn
    simp only [rowc]
    rw [ih, if_neg (by omega)]
    rfl
def rowsW (n y d : Int) : Nat → Int
  | 0 => 0
  | j + 1 => rowsW n y d j + wd (n / 2) (d - ap n y j)
theorem rows_wd : ∀ n ∈ [(2 : Nat), 4, 8, 16], ∀ y < n, ∀ d < (20 : Nat), rowsW n y d n = ringSum (n / 2) d (n / 2 + 1) := by decide +kernel
theorem tot_all : ∀ n ∈ [(2 : Nat), 4, 8, 16], tot (n / 2) (n + 1) = n * n := by decide +kernel
theorem far_ring : ∀ n ∈ [(2 : Nat), 4, 8, 16], ∀ d < (20 : Nat), n < d → ringSum (n / 2) d (n / 2 + 1) = 0 := by decide +kernel
theorem rowc_all {n : Nat} (hn : n ∈ [(2 : Nat), 4, 8, 16]) {x : Nat} (hx : x < n) (e : Int) : rowc n x e n = wd (n / 2) e := by
  have h2 : 2 ≤ n := by simp at hn; omega
  by_cases he : 0 ≤ e ∧ e < n
  · obtain ⟨m, rfl⟩ := Int.eq_ofNat_of_zero_le he.1
    exact rowc_wd n hn x hx m (by omega)
  · rw [rowc_big (by omega) (by omega)]
    unfold wd
    rw [if_neg (by omega)]
theorem rows_W {n : Nat} (hn : n ∈ [(2 : Nat), 4, 8, 16]) {x : Nat} (hx : x < n) (y d : Int) : ∀ j : Nat, rows_ n x y d j = rowsW n y d j := by
  intro j
  induction j with
  | zero => rfl
  | succ j ih =>
    simp only [rows_, rowsW]
    rw [ih, Int.toNat_natCast, rowc_all hn hx]
theorem cnt_all {n : Nat} (hn : n ∈ [(2 : Nat), 4, 8, 16]) {x y d : Nat} (hx : x < n) (hy : y < n) (hd : d < 20) : cnt n x y d (n * n) = if d ≤ n then ringSum (n / 2) d (n / 2 + 1) else 0 := by
  have h2 : 2 ≤ n := by simp at hn; omega
  have := cnt_rows (n := n) (x := x) (y := y) (d := d) (by omega) n
  rw [Int.toNat_natCast] at this
  rw [this, rows_W hn hx, rows_wd n hn y hy d hd]
  split
  · rfl
  · rename_i hh
    exact far_ring n hn d hd (by omega)
theorem cnt_le {n x y d : Int} : ∀ i : Nat, 0 ≤ cnt n x y d i ∧ cnt n x y d i ≤ i := by
  intro i
  induction i with
  | zero => simp [cnt]
  | succ i ih => simp only [cnt]; split <;> omega
theorem tot_le {n : Int} (_h : 0 ≤ n) (h2 : n ≤ 1000) : ∀ i : Nat, 0 ≤ tot n i ∧ tot n i ≤ 4004 * i := by
  intro i
  induction i with
  | zero => simp [tot]
  | succ i ih =>
    have := ringSum_le n i (n + 1).toNat
    simp only [tot]
    omega
section
variable {K : Int} {n : Nat} {x y : Nat} (h : OkT K n) (hn : n ∈ [(2 : Nat), 4, 8, 16]) (hx : x < n) (hy : y < n)
include h hn hx hy
theorem loop1 {d : Nat} (hd : d < 20) (k : Nat) : ∀ (m i : Nat), i + m = n * n → glebelaw02_TorusRings.l1 (k + 5 + 3 * m) d (n * n) (cnt n x y d i) i x y K = some true := by
  have h2 : 2 ≤ n := by simp at hn; omega
  have h16 : n ≤ 16 := by simp at hn; omega
  have hnn : n * n ≤ 256 := Nat.mul_le_mul h16 h16
  have hcast : ((n * n : Nat) : Int) = (n : Int) * n := Int.natCast_mul n n
  intro m
  induction m with
  | zero =>
    intro i hi
    simp only [glebelaw02_TorusRings.l1, Nat.mul_zero, Nat.add_zero]
    rw [area_eq h]
    simp only [Option.bind_some]
    rw [if_neg (by omega)]
    simp only [glebelaw02_TorusRings.j2]
    rw [if_neg (by decide), area_eq h, ring_eq h (by omega) (by omega), knows_eq k]
    simp only [Option.bind_some]
    obtain rfl : i = n * n := by omega
    rw [if_pos trivial, cnt_all hn hx hy hd]
    have e1 : ((n : Int) / 2 + 1).toNat = n / 2 + 1 := by omega
    rw [e1]
    by_cases hdn : d ≤ n
    · rw [if_pos hdn, if_pos (show (0 : Int) ≤ (d : Int) ∧ (d : Int) ≤ n by omega), if_pos rfl]
    · rw [if_neg hdn, if_neg (show ¬ ((0 : Int) ≤ (d : Int) ∧ (d : Int) ≤ n) by omega), if_pos rfl]
  | succ m ih =>
    intro i hi
    rw [show k + 5 + 3 * (m + 1) = k + 5 + 3 * m + 1 + 1 + 1 by omega]
    simp only [glebelaw02_TorusRings.l1]
    rw [area_eq h]
    simp only [Option.bind_some]
    have hi1 : (i : Int) < n * n := by omega
    rw [if_pos hi1, decide_eq_true (by omega)]
    simp only [glebelaw02_TorusRings.j2, if_true]
    have c1 : 0 ≤ (i : Int) % n ∧ (i : Int) % n < n := ⟨Int.emod_nonneg _ (by omega), Int.emod_lt_of_pos _ (by omega)⟩
    have c2 : 0 ≤ (i : Int) / n ∧ (i : Int) / n < n := ⟨Int.ediv_nonneg (by omega) (by omega), Int.ediv_lt_of_lt_mul (by omega) hi1⟩
    rw [cell_eq h ⟨by omega, hi1⟩]
    simp only [Option.bind_some]
    rw [number_eq h c1 c2]
    simp only [Option.bind_some, glebelaw02_num.f]
    have e1 : (i : Int) / n * n + (i : Int) % n = i := by
      rw [Int.mul_comm]
      exact Int.mul_ediv_add_emod _ _
    rw [e1, if_pos (by rw [wrap64_small (by decide) (by decide)]; rfl)]
    simp only [glebelaw02_TorusRings.j3, bne_self_eq_false]
    rw [if_neg (by decide), show k + 5 + 3 * m = (k + 3 + 3 * m) + 2 by omega, dist_eq h (k + 3 + 3 * m) (by omega) (by omega) c1 c2]
    simp only [Option.bind_some]
    have hcl := cnt_le (n := n) (x := x) (y := y) (d := d) i
    have hs := ih (i + 1) (by omega)
    simp only [cnt] at hs
    rw [show k + 5 + 3 * m = (k + 3 + 3 * m) + 2 by omega] at hs
    rw [wrap64_small (x := (i : Int) + 1) (by omega) (by omega), wrap64_small (x := cnt n x y d i + 1) (by omega) (by omega)]
    rw [show ((i + 1 : Nat) : Int) = (i : Int) + 1 by omega] at hs
    by_cases hc : ap n x ((i : Int) % n) + ap n y ((i : Int) / n) = d
    · rw [if_pos hc]
      rw [if_pos hc] at hs
      exact hs
    · rw [if_neg hc]
      rw [if_neg hc, Int.add_zero] at hs
      exact hs
theorem loop0 (a2 : Int) (k : Nat) : ∀ (m i : Nat), i + m = n + 1 → glebelaw02_TorusRings.l0 (k + 5 + 3 * (n * n) + 1 + m) a2 (tot (n / 2) i) i x y K = some true := by
  have h2 : 2 ≤ n := by simp at hn; omega
  have h16 : n ≤ 16 := by simp at hn; omega
  intro m
  induction m with
  | zero =>
    intro i hi
    simp only [glebelaw02_TorusRings.l0, Nat.add_zero]
    rw [side_eq h]
    simp only [Option.bind_some]
    rw [if_neg (by omega)]
    have hd := pos_mod (a := a2) (m := 20) (by decide) (by decide)
    obtain ⟨d, hd'⟩ := Int.eq_ofNat_of_zero_le hd.1
    rw [hd']
    obtain rfl : i = n + 1 := by omega
    have ht := tot_all n hn
    rw [ht]
    have := loop1 h hn hx hy (d := d) (by omega) k (n * n) 0 (by omega)
    exact this
  | succ m ih =>
    intro i hi
    rw [show k + 5 + 3 * (n * n) + 1 + (m + 1) = k + 5 + 3 * (n * n) + 1 + m + 1 by omega]
    simp only [glebelaw02_TorusRings.l0]
    rw [side_eq h]
    simp only [Option.bind_some]
    rw [if_pos (by omega), ring_eq h (by omega) (by omega), if_pos (show (0 : Int) ≤ (i : Int) ∧ (i : Int) ≤ n by omega)]
    simp only [Option.bind_some]
    have ht := tot_le (n := (n : Int) / 2) (by omega) (by omega) i
    have hr := ringSum_le ((n : Int) / 2) i ((n : Int) / 2 + 1).toNat
    rw [wrap64_small (by omega) (by omega), wrap64_small (by omega) (by omega)]
    exact ih (i + 1) (by omega)
end
theorem TorusRings : TorusRings_Pure := by
  intro a0 a1 a2 d _ _ _ _
  have h4 := pos_mod (a := a0) (m := 4) (by decide) (by decide)
  obtain ⟨K, n, hon, h, hK⟩ := on_eq (Int.tmod (wrap64 (Int.tmod a0 4 + 4)) 4)
  have hd := okT_bd h
  have hn : 2 ≤ n := hd.2.2.1
  have hK4 : K ≤ 4 := by
    generalize Int.tmod (wrap64 (Int.tmod a0 4 + 4)) 4 = r at *
    have h1 : Int.tmod r 16 = r := Int.tmod_eq_of_lt (by omega) (by omega)
    have h2 : Int.tmod (r + 16) 16 = r := by
      rw [Int.tmod_eq_emod_of_nonneg (by omega)]
      omega
    rw [h1, wrap64_small (by omega) (by omega), h2] at hK
    omega
  have hn16 : n = 2 ∨ n = 4 ∨ n = 8 ∨ n = 16 := by
    rcases okT_cases h with ⟨rfl, rfl⟩ | ⟨rfl, rfl⟩ | ⟨rfl, rfl⟩ | ⟨rfl, rfl⟩ | ⟨rfl, rfl⟩ | ⟨rfl, rfl⟩ | ⟨rfl, rfl⟩ | ⟨rfl, rfl⟩ | ⟨rfl, rfl⟩ | ⟨rfl, rfl⟩ | ⟨rfl, rfl⟩ | ⟨rfl, rfl⟩ | ⟨rfl, rfl⟩ | ⟨rfl, rfl⟩ | ⟨rfl, rfl⟩ | ⟨rfl, rfl⟩ <;> omega
  obtain ⟨m, rfl⟩ := Int.eq_ofNat_of_zero_le (show 0 ≤ n by omega)
  have hm : m ∈ [(2 : Nat), 4, 8, 16] := by simp; omega
  have ha := mod_in hn a1
  have hb := mod_in hn a2
  obtain ⟨x, hx⟩ := Int.eq_ofNat_of_zero_le ha.1
  obtain ⟨y, hy⟩ := Int.eq_ofNat_of_zero_le hb.1
  refine ⟨0 + 5 + 3 * (m * m) + 1 + (m + 1), ?_⟩
  unfold glebelaw02_TorusRings.f
  rw [hon]
  simp only [Option.bind_some]
  rw [at_eq h, hx, hy]
  simp only [Option.bind_some]
  exact loop0 h hm (by omega) (by omega) d 0 (m + 1) 0 (by omega)
end Go.Proofs.Ytimfeiobdcmhnaa.Pure
