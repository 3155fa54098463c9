/- WindowHalves: what both children's zones have of a window are, together, what their parent's has. -/
import Derived.Test.YtnkfbkbllkdnoaaWindowCut
import Derived.Test.YtnkfbkbllkdnoaaWindowSum
import Derived.Test.YtnkfbkbllkdnoaaWindowSome
import Derived.Test.YtnkfbkbllkdnoaaPWx13
import Derived.Test.YtnkfbkbllkdnoaaStWindowHalves
namespace Go.Proofs.Ytnkfbkbllkdnoaa.PW
open Go.RowKit Go.Proofs.YtnkfbkbllkdnoaaW.PrintWords Go.Proofs.YtnkfbkbllkdnoaaW.PrintLast Go.Proofs.YtnkfbkbllkdnoaaW.PrintMore
set_option linter.unusedVariables false
/-- How long two spans lie together. -/
def ov (p l q m : Int) : Int := if mx p q < mn (p + l) (q + m) then mn (p + l) (q + m) - mx p q else 0
theorem ov_nn (p l q m : Int) : 0 ≤ ov p l q m := by
  unfold ov
  split <;> omega
theorem ov_split {p l q m : Int} (hl : 0 ≤ l) (hm : 0 ≤ m) : ov p l q (2 * m) = ov p l q m + ov p l (q + m) m := by
  unfold ov mx mn
  (repeat' split) <;> omega
theorem ov_two {p l p' l' q m : Int} (h0 : 0 ≤ l) (h1 : 0 ≤ l') (h : p' + l' ≤ p) (hm : 0 ≤ m) : ov p l q m + ov p' l' q m ≤ m := by
  unfold ov mx mn
  (repeat' split) <;> omega
theorem ar_me {a b : S29} (ha : Fine a) (hb : Fine b) : ar (me a b) = ov a.f0 a.f2 b.f0 b.f2 * ov a.f1 a.f3 b.f1 b.f3 := by
  unfold Fine at ha hb
  unfold me ov
  by_cases h1 : mx a.f0 b.f0 < mn (a.f0 + a.f2) (b.f0 + b.f2)
  · by_cases h2 : mx a.f1 b.f1 < mn (a.f1 + a.f3) (b.f1 + b.f3)
    · have hc : Pos a ∧ Pos b := by
        unfold Pos
        unfold mx mn at h1 h2
        (repeat' split at h1) <;> (repeat' split at h2) <;> omega
      rw [if_pos ⟨hc.1, hc.2, h1, h2⟩, if_pos h1, if_pos h2]
      unfold ar
      rw [if_pos]
      have q1 := mn_bd (a := a.f0 + a.f2) (b := b.f0 + b.f2) (l := 0) (h := 1073741824) (by omega) (by omega)
      have q2 := mn_bd (a := a.f1 + a.f3) (b := b.f1 + b.f3) (l := 0) (h := 1073741824) (by omega) (by omega)
      have q3 := mx_bd (a := a.f0) (b := b.f0) (l := 0) (h := 1073741824) (by omega) (by omega)
      have q4 := mx_bd (a := a.f1) (b := b.f1) (l := 0) (h := 1073741824) (by omega) (by omega)
      unfold Pos
      dsimp only
      omega
    · rw [if_neg (fun q => h2 q.2.2.2), if_neg h2, Int.mul_zero]
      rfl
  · rw [if_neg (fun q => h1 q.2.2.1), if_neg h1, Int.zero_mul]
    rfl
theorem me_nopos {a : S29} (h : ¬ Pos a) (z : S29) : ar (me a z) = 0 := by
  unfold me
  rw [if_neg (fun q => h q.1)]
  rfl
/-- The areas of what a zone has of a list. -/
def sc (z : S29) : List S29 → Int
  | [] => 0
  | r :: l => ar (me r z) + sc z l
theorem sm_cut (z : S29) (l : List S29) : sm (cutL l z) = sc z l := by
  unfold cutL
  rw [sm_filter]
  induction l with
  | nil => rfl
  | cons r l ih => simp only [List.map_cons, sm, sc, ih]
theorem sc_filter (z : S29) (l : List S29) : sc z (l.filter (fun r => decide (Pos r))) = sc z l := by
  induction l with
  | nil => rfl
  | cons r l ih =>
    by_cases h : Pos r
    · rw [List.filter_cons_of_pos (by simpa using h)]
      simp only [sc, ih]
    · rw [List.filter_cons_of_neg (by simpa using h)]
      simp only [sc, ih, me_nopos h]
      omega
theorem fine_of_rt {n : Int} (hn : n ≤ 65536) {r : S29} (h : Rt n r) : Fine r := by
  unfold Rt at h
  unfold Fine
  omega
def ox (n x w : Int) (q m : Int) : Int := ov x (mn w (n - x)) q m + ov 0 (w - mn w (n - x)) q m
theorem cut_sum {n x y w h : Int} (hn : n ≤ 65536) (hw : Wn n x y w h) {z : S29} (hz : Fine z) : sm (cutL (plain n x y w h) z) = ox n x w z.f0 z.f2 * ox n y h z.f1 z.f3 := by
  rw [sm_cut]
  unfold plain
  rw [sc_filter]
  have hr := parts_right hw
  unfold parts at *
  simp only [sc]
  rw [ar_me (fine_of_rt hn (hr _ (by simp))) hz, ar_me (fine_of_rt hn (hr _ (by simp))) hz, ar_me (fine_of_rt hn (hr _ (by simp))) hz, ar_me (fine_of_rt hn (hr _ (by simp))) hz]
  dsimp only
  unfold ox
  generalize ov x (mn w (n - x)) z.f0 z.f2 = a
  generalize ov 0 (w - mn w (n - x)) z.f0 z.f2 = b
  generalize ov y (mn h (n - y)) z.f1 z.f3 = c
  generalize ov 0 (h - mn h (n - y)) z.f1 z.f3 = d
  grind
theorem ox_bd {n x w q m : Int} (hx : 0 ≤ x ∧ x < n) (hw : 0 ≤ w ∧ w ≤ n) (hm : 0 ≤ m) : 0 ≤ ox n x w q m ∧ ox n x w q m ≤ m := by
  obtain ⟨a, ha, ha'⟩ := cut_cases hx hw
  unfold ox
  rw [ha]
  have h1 := ov_nn x a q m
  have h2 := ov_nn 0 (w - a) q m
  have h3 := ov_two (p := x) (l := a) (p' := 0) (l' := w - a) (q := q) (m := m) (by omega) (by omega) (by omega) hm
  omega
theorem ox_split {n x w q m : Int} (hx : 0 ≤ x ∧ x < n) (hw : 0 ≤ w ∧ w ≤ n) (hm : 0 ≤ m) : ox n x w q (2 * m) = ox n x w q m + ox n x w (q + m) m := by
  obtain ⟨a, ha, ha'⟩ := cut_cases hx hw
  unfold ox
  rw [ha, ov_split (by omega) hm, ov_split (by omega) hm]
  omega
/-- Children. -/
theorem child_bits (d b c : Int) (hd : 0 ≤ d) (hc : 0 ≤ c ∧ c ≤ 1) (i : Nat) (hi : i < d.toNat) : halfBit (d + 1) (2 * b + c) i = halfBit d b i := by
  rw [halfBit_eq, halfBit_eq, show (d + 1).toNat - 1 - i = (d.toNat - 1 - i) + 1 by omega]
  rw [Int.pow_succ, Int.mul_comm (2 ^ _) 2, ← Int.ediv_ediv_of_nonneg (by decide)]
  rw [show (2 * b + c) / 2 = b by omega]
theorem child_halves (d b c : Int) (hd : 0 ≤ d) (hc : 0 ≤ c ∧ c ≤ 1) (k : Nat) (hk : k ≤ d.toNat) : halves (d + 1) (2 * b + c) k = halves d b k := by
  unfold halves
  apply List.map_congr_left
  intro i hi
  have hi' := List.mem_range.mp hi
  unfold halfAt
  congr 2
  exact child_bits d b c hd hc i (by omega)
theorem child_zone (n : Int) {d b c : Int} (hd : 0 ≤ d) (hc : 0 ≤ c ∧ c ≤ 1) :
    zone n (d + 1) (2 * b + c) = cnR ((cornerOf n (halves d b d.toNat)).step ((d.toNat : Int) % 2 == 1, c)) := by
  unfold zone
  rw [show (d + 1).toNat = d.toNat + 1 by omega, halves_succ, cornerOf_snoc, child_halves d b c hd hc _ (Nat.le_refl _)]
  have : (halfAt (d + 1) (2 * b + c) d.toNat).1 = ((d.toNat : Int) % 2 == 1, c) := by
    unfold halfAt
    dsimp only
    rw [halfBit_eq, show (d + 1).toNat - 1 - d.toNat = 0 by omega]
    congr 1
    simp
    omega
  rw [this]
/-- A parent's zone and its children's. -/
theorem zone_halves {K n d b : Int} (hk : OkT K n) (hp : PathOk K d b) (hd : d < 2 * K) :
    (∃ m, 0 ≤ m ∧ (zone n d b).f2 = 2 * m ∧ zone n (d + 1) (2 * b + 0) = ⟨(zone n d b).f0, (zone n d b).f1, m, (zone n d b).f3⟩ ∧ zone n (d + 1) (2 * b + 1) = ⟨(zone n d b).f0 + m, (zone n d b).f1, m, (zone n d b).f3⟩) ∨
    (∃ m, 0 ≤ m ∧ (zone n d b).f3 = 2 * m ∧ zone n (d + 1) (2 * b + 0) = ⟨(zone n d b).f0, (zone n d b).f1, (zone n d b).f2, m⟩ ∧ zone n (d + 1) (2 * b + 1) = ⟨(zone n d b).f0, (zone n d b).f1 + m, (zone n d b).f2, m⟩) := by
  have hb := okT_bd hk
  obtain ⟨h1, h2, h3, h4⟩ := hp
  rw [child_zone n h2.1 (by decide), child_zone n h2.1 (by decide)]
  obtain ⟨z1, z2⟩ := corner_size hk d b d.toNat (by omega)
  unfold zone cnR
  generalize cornerOf n (halves d b d.toNat) = c at *
  unfold Cn.step
  dsimp only
  have two : ∀ e : Nat, (2 : Int) ^ (e + 1) = 2 * 2 ^ e := fun e => by rw [Int.pow_succ]; omega
  have pz : ∀ e : Nat, (0 : Int) ≤ 2 ^ e := fun e => Int.le_of_lt (Int.pow_pos (by decide))
  by_cases hq : (d.toNat : Int) % 2 = 1
  · right
    have hh : c.h = 2 * 2 ^ (K.toNat - d.toNat / 2 - 1) := by rw [z2, ← two]; congr 1; omega
    refine ⟨2 ^ (K.toNat - d.toNat / 2 - 1), pz _, hh, ?_, ?_⟩
    · rw [if_pos (by simpa using hq)]
      dsimp only
      rw [show c.h / 2 = 2 ^ (K.toNat - d.toNat / 2 - 1) by omega, Int.zero_mul, Int.add_zero]
    · rw [if_pos (by simpa using hq)]
      dsimp only
      rw [show c.h / 2 = 2 ^ (K.toNat - d.toNat / 2 - 1) by omega, Int.one_mul]
  · left
    have hh : c.w = 2 * 2 ^ (K.toNat - (d.toNat + 1) / 2 - 1) := by rw [z1, ← two]; congr 1; omega
    refine ⟨2 ^ (K.toNat - (d.toNat + 1) / 2 - 1), pz _, hh, ?_, ?_⟩
    · rw [if_neg (by simpa using hq)]
      dsimp only
      rw [show c.w / 2 = 2 ^ (K.toNat - (d.toNat + 1) / 2 - 1) by omega, Int.zero_mul, Int.add_zero]
    · rw [if_neg (by simpa using hq)]
      dsimp only
      rw [show c.w / 2 = 2 ^ (K.toNat - (d.toNat + 1) / 2 - 1) by omega, Int.one_mul]
theorem child_ok {K d b c : Int} (hp : PathOk K d b) (hd : d < 2 * K) (hc : 0 ≤ c ∧ c ≤ 1) : PathOk K (d + 1) (2 * b + c) := by
  obtain ⟨h1, h2, h3, h4⟩ := hp
  refine ⟨h1, by omega, by omega, ?_⟩
  rw [show (d + 1).toNat = d.toNat + 1 by omega, Int.pow_succ]
  omega
theorem or_bit {b c : Int} (hb : 0 ≤ b ∧ b < 4294967296) (hc : 0 ≤ c ∧ c ≤ 1) : Go.bits .or .i64 (wrap64 (b * 2)) c = 2 * b + c := by
  rw [wrap64_small (by omega) (by omega)]
  have key : (BitVec.ofInt 64 (b * 2) ||| BitVec.ofInt 64 c).toNat = (b * 2 + c).toNat := by
    rw [BitVec.toNat_or, BitVec.toNat_ofInt, BitVec.toNat_ofInt]
    have e1 : ((b * 2) % ((2 ^ 64 : Nat) : Int)).toNat = 2 ^ 1 * b.toNat := by omega
    have e2 : (c % ((2 ^ 64 : Nat) : Int)).toNat = c.toNat := by omega
    rw [e1, e2, ← Nat.two_pow_add_eq_or_of_lt (by omega)]
    omega
  show IntKind.i64.wrap ((BitVec.ofInt 64 (b * 2) ||| BitVec.ofInt 64 c).toNat : Nat) = 2 * b + c
  rw [key, IntKind.wrap_i64]
  omega
theorem child_eq {K d b c : Int} (hp : PathOk K d b) (hd : d < 2 * K) (hc : c = 0 ∨ c = 1) (k : Nat) : path_Child.f (k + 1) d b c = some (d + 1, 2 * b + c, 0) := by
  obtain ⟨h1, h2, h3, h4⟩ := hp
  have hpow := pow_bd d.toNat (by omega)
  unfold path_Child.f path_fine.f
  rw [pright_eq, decide_eq_true ⟨by omega, by omega, h3, h4⟩]
  simp only [Option.bind_some, if_true]
  have hj : path_Child.j0 (k + 1) c false d b = some (d + 1, 2 * b + c, 0) := by
    simp only [path_Child.j0]
    rw [if_neg (by decide), if_neg (by omega), or_bit (by omega) (by omega), wrap64_small (by omega) (by omega)]
  rcases hc with rfl | rfl
  · rw [if_pos rfl]
    exact hj
  · rw [if_neg (by decide)]
    exact hj
theorem some3_eq {K : Int} (hK : 1 ≤ K ∧ K ≤ 16) (d b : Int) : ∃ D B, glebelaw03_Some.f K d b = some (D, B) ∧ PathOk K D B := by
  unfold glebelaw03_Some.f
  rw [wrap64_small (x := 2 * K) (by omega) (by omega)]
  have hp := pos_mod1 d (2 * K) (by omega) (by omega)
  rw [if_neg (by rw [wrap64_small (by omega) (by omega)]; omega)]
  generalize Int.tmod (wrap64 (wrap64 (Int.tmod d (wrap64 (2 * K + 1)) + 2 * K) + 1)) (wrap64 (2 * K + 1)) = D at *
  have hpow := pow_bd D.toNat (by omega)
  rw [if_pos (by rw [u64_small (by omega)]; omega), shl_one (by omega), if_neg (by omega)]
  have t1 := Int.tmod_lt_of_pos b (b := 2 ^ D.toNat) (by omega)
  have t2 := Int.lt_tmod_of_pos b (b := 2 ^ D.toNat) (by omega)
  rw [wrap64_small (x := Int.tmod b (2 ^ D.toNat) + 2 ^ D.toNat) (by omega) (by omega)]
  exact ⟨_, _, rfl, hK, hp, Int.tmod_nonneg _ (by omega), Int.tmod_lt_of_pos _ (by omega)⟩
theorem windowHalves_pure : WindowHalves_Pure := by
  intro a0 x y w h d b b0 b1 b2 b3 b4 b5 b6
  obtain ⟨n, hk⟩ := on16 a0
  unfold glebelaw04_WindowHalves.f
  generalize wrap64 (1 + Int.tmod (wrap64 (Int.tmod a0 16 + 16)) 16) = K at *
  have hb := okT_bd hk
  obtain ⟨W, H, hS, hW⟩ := some_eq hk x y w h
  obtain ⟨D, B, hS3, hP⟩ := some3_eq (K := K) ⟨hb.1, hb.2.1⟩ d b
  rw [hS, hS3]
  simp only [Option.bind_some]
  have hx := mod_in (n := n) (by omega) x
  have hy := mod_in (n := n) (by omega) y
  generalize x % n = x' at *
  generalize y % n = y' at *
  refine ⟨100, ?_⟩
  have cutf : ∀ (k : Nat) (D B : Int), PathOk K D B → window_Cut.f (k + 8) K x' y' W H D B = some (cutL (plain n x' y' W H) (zone n D B)) := fun k D B hq => cut_eq hk hq hW k
  have covf : ∀ (k : Nat) (D B : Int), PathOk K D B → window_Covers.f (k + 12) K x' y' W H D B = some (ar (zone n D B) - sm (cutL (plain n x' y' W H) (zone n D B)) == 0) := fun k D B hq => covers_yes hk hq hW k
  have sumf : ∀ (k : Nat) (D B : Int), glebelaw04_sum.f (k + 20) (cutL (plain n x' y' W H) (zone n D B)) = some (sm (cutL (plain n x' y' W H) (zone n D B))) := fun k D B => by
    have h1 := cutL_len (plain n x' y' W H) (zone n D B)
    have h2 := plain_len (n := n) (x := x') (y := y') (w := W) (h := H)
    rw [show k + 20 = (k + 19 - (cutL (plain n x' y' W H) (zone n D B)).length) + 1 + (cutL (plain n x' y' W H) (zone n D B)).length by omega]
    exact sum_eq _ _ (by omega)
  have hz := zone_ok hk hP
  have hfz := fine_of_pos hz.1
  have hs := cut_sum (by omega) hW hfz
  rw [show (100 : Nat) = 92 + 8 from rfl, cutf 92 D B hP, Option.bind_some, show 92 + 8 = 80 + 20 from rfl, sumf 80 D B, Option.bind_some, wrap64_small (x := 2 * K) (by omega) (by omega)]
  obtain ⟨w1, w2, w3, w4⟩ := hW
  by_cases hd : D = 2 * K
  · rw [if_pos hd]
    have c1 : (zone n D B).f2 = 1 ∧ (zone n D B).f3 = 1 := by
      obtain ⟨z1, z2⟩ := corner_size hk D B D.toNat (by omega)
      unfold zone cnR
      dsimp only
      rw [z1, z2, show K.toNat - (D.toNat + 1) / 2 = 0 by omega, show K.toNat - D.toNat / 2 = 0 by omega]
      exact ⟨rfl, rfl⟩
    have o1 := ox_bd (n := n) (x := x') (w := W) (q := (zone n D B).f0) (m := (zone n D B).f2) w1 w3 (by omega)
    have o2 := ox_bd (n := n) (x := y') (w := H) (q := (zone n D B).f1) (m := (zone n D B).f3) w2 w4 (by omega)
    have o3 := mul_bd o1.1 o2.1 o1.2 o2.2
    rw [c1.1, c1.2] at o3
    rw [if_pos (by rw [hs, c1.1, c1.2]; omega), show 80 + 20 = 97 + 3 from rfl, knows_eq]
    rfl
  · rw [if_neg hd]
    have hlt : D < 2 * K := by have := hP.2.1; omega
    have q0 := child_ok hP hlt (c := 0) (by decide)
    have q1 := child_ok hP hlt (c := 1) (by decide)
    rw [show 80 + 20 = 99 + 1 from rfl, child_eq hP hlt (.inl rfl), child_eq hP hlt (.inr rfl), Option.bind_some, Option.bind_some]
    dsimp only
    rw [show 99 + 1 = 88 + 12 from rfl, covf 88 _ _ q0, Option.bind_some, covf 88 _ _ q1, Option.bind_some]
    have hz0 := zone_ok hk q0
    have hz1 := zone_ok hk q1
    have hs0 := cut_sum (by omega) ⟨w1, w2, w3, w4⟩ (fine_of_pos hz0.1)
    have hs1 := cut_sum (by omega) ⟨w1, w2, w3, w4⟩ (fine_of_pos hz1.1)
    have ha : ∀ z : S29, Pos z → ar z = z.f2 * z.f3 := fun z h => if_pos h
    have bd : ∀ z : S29, Pos z → 0 ≤ ox n x' W z.f0 z.f2 * ox n y' H z.f1 z.f3 ∧ ox n x' W z.f0 z.f2 * ox n y' H z.f1 z.f3 ≤ z.f2 * z.f3 := fun z hz => by
      unfold Pos at hz
      have o1 := ox_bd (n := n) (x := x') (w := W) (q := z.f0) (m := z.f2) w1 w3 (by omega)
      have o2 := ox_bd (n := n) (x := y') (w := H) (q := z.f1) (m := z.f3) w2 w4 (by omega)
      exact mul_bd o1.1 o2.1 o1.2 o2.2
    have key : ar (zone n D B) = ar (zone n (D + 1) (2 * B + 0)) + ar (zone n (D + 1) (2 * B + 1)) ∧ sm (cutL (plain n x' y' W H) (zone n D B)) = sm (cutL (plain n x' y' W H) (zone n (D + 1) (2 * B + 0))) + sm (cutL (plain n x' y' W H) (zone n (D + 1) (2 * B + 1))) := by
      rw [hs, hs0, hs1, ha _ hz.1, ha _ hz0.1, ha _ hz1.1]
      rcases zone_halves hk hP hlt with ⟨m, hm, e1, e2, e3⟩ | ⟨m, hm, e1, e2, e3⟩
      · rw [e2, e3, e1]
        dsimp only
        rw [ox_split w1 w3 hm]
        constructor <;> grind
      · rw [e2, e3, e1]
        dsimp only
        rw [ox_split w2 w4 hm]
        constructor <;> grind
    have l0 := bd _ hz0.1
    have l1 := bd _ hz1.1
    rw [← hs0, ← ha _ hz0.1] at l0
    rw [← hs1, ← ha _ hz1.1] at l1
    have u0 := ar_bd (zone n (D + 1) (2 * B + 0))
    have u1 := ar_bd (zone n (D + 1) (2 * B + 1))
    have fin : ∀ v : Bool, v = (ar (zone n D B) - sm (cutL (plain n x' y' W H) (zone n D B)) == 0) → glebelaw04_WindowHalves.j0 (88 + 12) (sm (cutL (plain n x' y' W H) (zone n D B))) 0 0 v D B K x' y' W H (D + 1) (2 * B + 0) (D + 1) (2 * B + 1) = some true := by
      intro v hv
      show glebelaw04_WindowHalves.j0 (99 + 1) _ _ _ _ _ _ _ _ _ _ _ _ _ _ _ = _
      obtain ⟨j, hj⟩ : ∃ j, j = 99 := ⟨_, rfl⟩
      rw [← hj]
      simp only [glebelaw04_WindowHalves.j0, glebelaw04_num.f, Option.bind_some]
      rw [hj, if_pos (by rw [wrap64_small (by omega) (by omega)]; rfl), show 99 = 91 + 8 from rfl, cutf 91 _ _ q0, Option.bind_some, show 91 + 8 = 79 + 20 from rfl, sumf 79, Option.bind_some, show 79 + 20 = 91 + 8 from rfl, cutf 91 _ _ q1, Option.bind_some, show 91 + 8 = 79 + 20 from rfl, sumf 79, Option.bind_some]
      rw [wrap64_small (by omega) (by omega), if_pos key.2.symm, show 79 + 20 = 87 + 12 from rfl, covf 87 _ _ hP, Option.bind_some, if_pos (by rw [hv]; simp), show 87 + 12 = 96 + 3 from rfl, knows_eq]
      rfl
    by_cases g0 : ar (zone n (D + 1) (2 * B + 0)) - sm (cutL (plain n x' y' W H) (zone n (D + 1) (2 * B + 0))) = 0
    · rw [if_pos (beq_iff_eq.mpr g0)]
      refine fin _ ?_
      by_cases g1 : ar (zone n (D + 1) (2 * B + 1)) - sm (cutL (plain n x' y' W H) (zone n (D + 1) (2 * B + 1))) = 0
      · rw [beq_iff_eq.mpr g1, beq_iff_eq.mpr (by omega)]
      · rw [beq_false_of_ne g1, beq_false_of_ne (by omega)]
    · rw [if_neg (by simpa using g0)]
      refine fin _ ?_
      rw [beq_false_of_ne (by omega)]
end Go.Proofs.Ytnkfbkbllkdnoaa.PW
namespace Go.Proofs.Ytnkfbkbllkdnoaa.Pure
theorem WindowHalves : Go.Proofs.Ytnkfbkbllkdnoaa.PW.WindowHalves_Pure := Go.Proofs.Ytnkfbkbllkdnoaa.PW.windowHalves_pure
end Go.Proofs.Ytnkfbkbllkdnoaa.Pure
