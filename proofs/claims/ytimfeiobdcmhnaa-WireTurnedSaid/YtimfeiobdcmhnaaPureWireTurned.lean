/- WireTurned: a frame of whose content and sum bits are turned within 32 is refused. -/
import Derived.Test.YtimfeiobdcmhnaaWireBurst
import Derived.Test.YtimfeiobdcmhnaaPRx17
import Derived.Test.YtimfeiobdcmhnaaStWireTurned
namespace Go.Proofs.Ytimfeiobdcmhnaa.PR
open Go.RowKit Go.Proofs.YtimfeiobdcmhnaaW.PrintWords Go.Proofs.YtimfeiobdcmhnaaW.PrintLast Go.Proofs.YtimfeiobdcmhnaaW.PrintMore
set_option linter.unusedVariables false
theorem byt_wf {l : List Int} (h : ∀ z ∈ l, (Lit.int .u8 z).wf = true) : Byt l := by
  intro z hz
  have h1 := h z hz
  simp only [Lit.wf, Bool.and_eq_true, decide_eq_true_eq] at h1
  have h2 : IntKind.u8.min = 0 := rfl
  have h3 : IntKind.u8.max = 255 := rfl
  omega
theorem placed (x : Int) (n : Nat) (h : 0 < n) (hn : n ≤ 200000) : ∃ q : Nat, Int.tmod (wrap64 (Int.tmod x (n : Int) + (n : Int))) (n : Int) = q ∧ q < n := by
  have h1 := Int.tmod_lt_of_pos x (show (0 : Int) < (n : Int) by omega)
  have h2 : -(n : Int) < Int.tmod x (n : Int) := by
    have := Int.tmod_lt_of_pos (-x) (show (0 : Int) < (n : Int) by omega)
    rw [Int.neg_tmod] at this
    omega
  generalize Int.tmod x (n : Int) = y at h1 h2
  rw [show wrap64 (y + (n : Int)) = y + (n : Int) by unfold wrap64; omega, Int.tmod_eq_emod_of_nonneg (by omega)]
  have h3 := Int.emod_nonneg (y + (n : Int)) (show (n : Int) ≠ 0 by omega)
  have h4 := Int.emod_lt_of_pos (y + (n : Int)) (show (0 : Int) < (n : Int) by omega)
  exact ⟨((y + (n : Int)) % (n : Int)).toNat, by omega, by omega⟩
theorem flip_eq {x : Int} (hx : 0 ≤ x ∧ x < 256) (j : Nat) (hj : j < 8) : Go.bits .xor .u8 x (shl .u8 1 (j : Int)) = ((x.toNat ^^^ 2 ^ j : Nat) : Int) := by
  obtain ⟨a, rfl⟩ := Int.eq_ofNat_of_zero_le hx.1
  have hs : shl .u8 1 (j : Int) = ((2 ^ j : Nat) : Int) := by
    have h8 : j = 0 ∨ j = 1 ∨ j = 2 ∨ j = 3 ∨ j = 4 ∨ j = 5 ∨ j = 6 ∨ j = 7 := by omega
    rcases h8 with rfl | rfl | rfl | rfl | rfl | rfl | rfl | rfl <;> decide
  have hp : 2 ^ j < 256 := Nat.pow_lt_pow_right (show 1 < 2 by omega) hj
  rw [hs, xor_u8 (by omega) hp, Int.toNat_natCast]
/-- What the loop has made of the content and sum. -/
def TI (T : List Int) (a : Nat) (j : Nat) (T' : List Int) (s : Bool) : Prop :=
  Byt T' ∧ T'.length = T.length ∧ ∃ M, M < 2 ^ j ∧ leN T' = leN T ^^^ 2 ^ a * M ∧ (s = true → M ≠ 0) ∧ (s = false → T' = T)
theorem TI.mono {T : List Int} {a j i : Nat} {T' : List Int} {s : Bool} (h : TI T a j T' s) (hi : j ≤ i) : TI T a i T' s := by
  obtain ⟨h1, h2, M, h3, h4⟩ := h
  exact ⟨h1, h2, M, Nat.lt_of_lt_of_le h3 (Nat.pow_le_pow_right (by omega) hi), h4⟩
theorem TI.step {T : List Int} {a j : Nat} {T' : List Int} {s : Bool} (h : TI T a j T' s) (q r : Nat) (hr : r < 8) (hq : q < T'.length) (e : a + j = 8 * q + r) : TI T a (j + 1) (T'.set q ((T'[q].toNat ^^^ 2 ^ r : Nat) : Int)) true := by
  obtain ⟨h1, h2, M, h3, h4, h5, h6⟩ := h
  have hz := h1 _ (List.getElem_mem hq)
  have hp : 2 ^ r < 2 ^ 8 := Nat.pow_lt_pow_right (show 1 < 2 by omega) hr
  have hx := Nat.xor_lt_two_pow (n := 8) (x := T'[q].toNat) (y := 2 ^ r) (by omega) hp
  refine ⟨?_, by rw [List.length_set]; exact h2, M ^^^ 2 ^ j, ?_, ?_, ?_, fun q => by cases q⟩
  · intro y hy
    rcases List.mem_or_eq_of_mem_set hy with hy | rfl
    · exact h1 y hy
    · omega
  · have := xor_low j M 1 h3
    rw [Nat.mul_one] at this
    rw [this, Nat.pow_succ]
    omega
  · rw [leN_flip r hr T' q hq h1, h4, pow_xor, ← Nat.pow_add, e, Nat.xor_assoc]
  · intro _
    have := xor_low j M 1 h3
    rw [Nat.mul_one] at this
    have h7 := Nat.two_pow_pos j
    omega
/-- Behind the loop. -/
def fin (k : Nat) (l1 F : List Int) (s : Bool) : Option Bool :=
  (wire_Unframe.f k F).bind fun bt224 => (if s = true then ((glebelaw01_num.f bt224.2.2).bind fun t229 => (if t229 = 22 then (some ((bt224.2.1.length : Int) == 0)) else (none))) else ((glebelaw01_num.f bt224.2.2).bind fun t230 => (if t230 = 0 then (some ((strOfNums bt224.2.1).toList == (strOfNums l1).toList)) else (none))))
theorem w_add (a j : Nat) (h : a + j < 1000000) : wrap64 ((a : Int) + (j : Int)) = ((a + j : Nat) : Int) := by unfold wrap64; omega
theorem w_u (j : Nat) (h : j < 1000000) : IntKind.u64.wrap (j : Int) = (j : Int) := by
  show (j : Int) % 18446744073709551616 = j
  omega
theorem w_inc (j : Nat) (h : j < 1000000) : wrap64 ((j : Int) + 1) = ((j + 1 : Nat) : Int) := by unfold wrap64; omega
theorem w_quo (p : Nat) (h : p < 1000000) : wrap64 (5 + wrap64 (Int.tdiv (p : Int) 8)) = ((5 + p / 8 : Nat) : Int) := by
  rw [Int.tdiv_eq_ediv_of_nonneg (by omega), show wrap64 ((p : Int) / 8) = ((p / 8 : Nat) : Int) by unfold wrap64; omega]
  unfold wrap64
  omega
theorem w_rem (p : Nat) (h : p < 1000000) : IntKind.u64.wrap (Int.tmod (p : Int) 8) = ((p % 8 : Nat) : Int) := by
  rw [Int.tmod_eq_emod_of_nonneg (by omega)]
  show ((p : Int) % 8) % 18446744073709551616 = _
  omega
theorem tloop {hd T : List Int} (l1 : List Int) (hhd : hd.length = 5) (a : Nat) (mask : Int) (m : Nat) (hm : T.length = m) (hm4 : m ≤ 4000) (ha : a < 8 * m) (b : Nat) :
    ∀ n j : Nat, j + n = 32 → ∀ (T' : List Int) (s : Bool), TI T a j T' s → ∃ k' T'' s'', b ≤ k' ∧ TI T a 32 T'' s'' ∧ glebelaw01_WireTurned.l0 (b + 2 * n + 2) l1 (a : Int) mask (hd ++ T') ((8 * m : Nat) : Int) s (j : Int) = fin k' l1 (hd ++ T'') s'' := by
  intro n
  induction n with
  | zero =>
    intro j hj T' s h
    obtain rfl : j = 32 := by omega
    refine ⟨b, T', s, Nat.le_refl _, h, ?_⟩
    rw [show b + 2 * 0 + 2 = (b + 1) + 1 from rfl, glebelaw01_WireTurned.l0, if_neg (by omega), glebelaw01_WireTurned.j2, if_neg (by decide)]
    rfl
  | succ n ih =>
    intro j hj T' s h
    have hl := h.2.1
    have b1 : a + j < 1000000 := by omega
    have b2 : j < 1000000 := by omega
    have b3 : (j : Int) < 32 := by omega
    have b4 : 0 ≤ (j : Int) := by omega
    have z6 : j + 1 + n = 32 := by omega
    have z7 := h.mono (show j ≤ j + 1 by omega)
    rw [show b + 2 * (n + 1) + 2 = ((b + 2 * n + 2) + 1) + 1 by omega, glebelaw01_WireTurned.l0, if_pos b3, w_add a j b1]
    by_cases hp : a + j < 8 * m
    · have hp' : ((a + j : Nat) : Int) < ((8 * m : Nat) : Int) := by omega
      have hq : (a + j) / 8 < T'.length := by omega
      have z1 : 0 ≤ ((5 + (a + j) / 8 : Nat) : Int) := by omega
      have z0 : 5 + (a + j) / 8 < (hd ++ T').length := by rw [List.length_append]; omega
      have z2 : ((5 + (a + j) / 8 : Nat) : Int) < ((hd ++ T').length : Int) := by omega
      have z3 : 0 ≤ (((a + j) % 8 : Nat) : Int) := by omega
      have z8 : (a + j) % 8 < 8 := by omega
      have z9 : a + j = 8 * ((a + j) / 8) + (a + j) % 8 := by omega
      have z10 : 5 + (a + j) / 8 - hd.length = (a + j) / 8 := by omega
      have z11 : hd.length ≤ 5 + (a + j) / 8 := by omega
      have q3 : rd (hd ++ T') ((5 + (a + j) / 8 : Nat) : Int) = T'[(a + j) / 8] := by
        rw [rd_nat _ _ z0, List.getElem_append_right z11]
        simp only [z10]
      have q4 : ∀ v : Int, (hd ++ T').set (5 + (a + j) / 8) v = hd ++ T'.set ((a + j) / 8) v := by
        intro v
        rw [List.set_append_right _ _ z11, z10]
      have z4 := flip_eq (h.1 _ (List.getElem_mem hq)) ((a + j) % 8) z8
      have z5 := h.step ((a + j) / 8) ((a + j) % 8) z8 hq z9
      rw [decide_eq_true hp', glebelaw01_WireTurned.j2, if_pos rfl, w_u j b2, if_pos b4]
      by_cases hit : Go.bits .and .u32 (shr .u32 mask (j : Int)) 1 = 1
      · rw [if_pos hit, w_add a j b1, w_quo _ b1, if_pos z1, if_pos z2, w_rem _ b1, if_pos z3, Int.toNat_natCast, q3, z4, q4, w_inc j b2]
        exact ih (j + 1) z6 _ true z5
      · rw [if_neg hit, w_inc j b2]
        exact ih (j + 1) z6 T' s z7
    · have hp' : ¬ ((a + j : Nat) : Int) < ((8 * m : Nat) : Int) := by omega
      have hk : b ≤ b + 2 * n + 2 := by omega
      have hm2 := h.mono (show j ≤ 32 by omega)
      rw [decide_eq_false hp', glebelaw01_WireTurned.j2, if_neg (by decide)]
      exact ⟨b + 2 * n + 2, T', s, hk, hm2, rfl⟩
/-- The head of a frame. -/
def hdB (kind : Nat) (n : Nat) : List Int := [3, (kind : Int) % 256, (n : Int) % 256, (n : Int) / 256 % 256, (n : Int) / 65536 % 256]
theorem hdB_byt (kind n : Nat) (hn : n < 16777216) : Byt (hdB kind n) := by
  intro z hz
  simp [hdB] at hz
  omega
theorem frameB_eq (kind : Nat) (l : List Int) (hl : Byt l) (hn : l.length < 16777216) : frameB kind l = hdB kind l.length ++ (l ++ sumB ((sumN (hdB kind l.length ++ l) : Nat) : Int)) := by
  have hb : Byt (hdB kind l.length ++ l) := fun z hz => (List.mem_append.mp hz).elim (hdB_byt kind l.length hn z) (hl z)
  have e : sumI (hdB kind l.length ++ l) = ((sumN (hdB kind l.length ++ l) : Nat) : Int) := Option.some.inj ((wsum_eq _).symm.trans (wsum_nat hb))
  have e2 : headB kind l = hdB kind l.length ++ l := rfl
  unfold frameB
  rw [e2, e, List.append_assoc]
/-- A frame of the right head and length. -/
theorem unf_frame (kind n : Nat) (T : List Int) (hn : n ≤ 131072) (hk : kind < 256) (hl : T.length = n + 4) : unf (hdB kind n ++ T) = if sumB ((sumN (hdB kind n ++ T.take n) : Nat) : Int) = T.drop n then ((kind : Int), T.take n, 0) else (0, [], 22) := by
  have hlen : (hdB kind n ++ T).length = n + 9 := by simp [hdB, hl]
  have r0 : rd (hdB kind n ++ T) 0 = 3 := rfl
  have r1 : rd (hdB kind n ++ T) 1 = (kind : Int) % 256 := rfl
  have r2 : rd (hdB kind n ++ T) 2 = (n : Int) % 256 := rfl
  have r3 : rd (hdB kind n ++ T) 3 = (n : Int) / 256 % 256 := rfl
  have r4 : rd (hdB kind n ++ T) 4 = (n : Int) / 65536 % 256 := rfl
  have hN : rd (hdB kind n ++ T) 2 + rd (hdB kind n ++ T) 3 * 256 + rd (hdB kind n ++ T) 4 * 65536 = (n : Int) := by
    rw [r2, r3, r4]
    omega
  have h5 : (hdB kind n).length = 5 := rfl
  have e1 : (hdB kind n ++ T).take ((n : Int) + 5).toNat = hdB kind n ++ T.take n := by
    rw [show ((n : Int) + 5).toNat = (hdB kind n).length + n by rw [h5]; omega, List.take_length_add_append]
  have e2 : (hdB kind n ++ T).drop ((n : Int) + 5).toNat = T.drop n := by
    rw [show ((n : Int) + 5).toNat = (hdB kind n).length + n by rw [h5]; omega, List.drop_length_add_append]
  unfold unf
  rw [hN, e1, e2, r0, r1, hlen, if_neg (by omega), if_neg (by omega), if_neg (by omega), if_neg (by omega)]
  by_cases c : sumB ((sumN (hdB kind n ++ T.take n) : Nat) : Int) = T.drop n
  · rw [if_pos c, if_pos c, show (kind : Int) % 256 = kind by omega]
    rfl
  · rw [if_neg c, if_neg c]
theorem wireTurned_pure : WireTurned_Pure := by
  intro a0 l a2 mask h0 hlen hwf h2 hmk
  have hB : Byt l := byt_wf hwf
  by_cases h : (l.length : Int) > 3000
  · refine ⟨0, ?_⟩
    unfold glebelaw01_WireTurned.f
    rw [if_pos h]
    rfl
  · have hn : l.length ≤ 3000 := by omega
    refine ⟨7 + 2 * 32 + 2 + 1, ?_⟩
    unfold glebelaw01_WireTurned.f
    obtain ⟨kind, hk, hk2⟩ := placed a0 256 (by omega) (by omega)
    have hk' : Int.tmod (wrap64 (Int.tmod a0 256 + 256)) 256 = (kind : Int) := hk
    have hf := wframe_yes (kind : Int) l (by omega) (by omega) (2 * 32 + 2 + 2)
    have hf' : wire_Frame.f (7 + 2 * 32 + 2 + 1) (kind : Int) l = some (frameB kind l, 0) := hf
    rw [if_neg h, Option.bind_some, if_pos (by simp; omega), hk', List.nil_append, hf', Option.bind_some]
    have hnum : ∀ x, glebelaw01_num.f x = some x := fun _ => rfl
    have hkn : ∀ k, glebelaw01_knows.f k = some true := fun _ => rfl
    dsimp only
    rw [hnum, Option.bind_some, if_pos rfl, if_pos (show ((frameB (kind : Int) l).length : Int) = wrap64 ((l.length : Int) + 9) by rw [frameB_len]; clear hk hk' hf hf'; unfold wrap64; omega), hkn, Option.bind_some, Bool.not_true]
    clear hk hk' hf hf'
    rw [glebelaw01_WireTurned.j0, if_neg (by decide), frameB_len, show wrap64 (8 * wrap64 (((l.length + 9 : Nat) : Int) - 5)) = ((8 * (l.length + 4) : Nat) : Int) by unfold wrap64; omega, if_neg (by omega)]
    obtain ⟨a, ha, ha2⟩ := placed a2 (8 * (l.length + 4)) (by omega) (by omega)
    rw [ha, frameB_eq kind l hB (by omega)]
    have hhB := hdB_byt kind l.length (by omega)
    have hbl : Byt (hdB kind l.length ++ l) := fun z hz => (List.mem_append.mp hz).elim (hhB z) (hB z)
    have hfit := fits hhB hB
    have hTB : Byt (l ++ sumB ((sumN (hdB kind l.length ++ l) : Nat) : Int)) := fun z hz => (List.mem_append.mp hz).elim (hB z) (sumB_byt _ z)
    have hTl : (l ++ sumB ((sumN (hdB kind l.length ++ l) : Nat) : Int)).length = l.length + 4 := by simp [sumB]
    have hTt : (l ++ sumB ((sumN (hdB kind l.length ++ l) : Nat) : Int)).take l.length = l := by simp
    have hTd : (l ++ sumB ((sumN (hdB kind l.length ++ l) : Nat) : Int)).drop l.length = sumB ((sumN (hdB kind l.length ++ l) : Nat) : Int) := by simp
    generalize hT : l ++ sumB ((sumN (hdB kind l.length ++ l) : Nat) : Int) = T at hfit hTB hTl hTt hTd
    obtain ⟨k', T', s, hk3, ⟨i1, i2, M, i3, i4, i5, i6⟩, hr⟩ := tloop (hd := hdB kind l.length) (T := T) l rfl a mask (l.length + 4) hTl (by omega) ha2 7 32 0 rfl T false ⟨hTB, rfl, 0, by simp, by simp, (fun q => by cases q), fun _ => rfl⟩
    refine hr.trans ?_
    obtain ⟨k, rfl⟩ : ∃ k, k' = k + 7 := ⟨k' - 7, by omega⟩
    have hFB : Byt (hdB kind l.length ++ T') := fun z hz => (List.mem_append.mp hz).elim (hhB z) (i1 z)
    unfold fin
    rw [wunf hFB (by rw [List.length_append, i2, hTl]; show 5 + _ ≤ _; omega), Option.bind_some, unf_frame kind l.length T' (by omega) hk2 (by omega)]
    cases s with
    | false =>
      rw [i6 rfl, hTt, hTd, if_pos rfl]
      show (if (0 : Int) = 0 then some ((strOfNums l).toList == (strOfNums l).toList) else none) = some true
      rw [if_pos rfl, beq_self_eq_true]
    | true =>
      have c : ¬ sumB ((sumN (hdB kind l.length ++ T'.take l.length) : Nat) : Int) = T'.drop l.length := by
        intro c
        have hC : Byt (T'.take l.length) := fun y hy => i1 y (List.mem_of_mem_take hy)
        have h1 := fits hhB hC
        rw [c, List.take_append_drop] at h1
        exact i5 rfl (burst hTB i1 i2 _ a M (by omega) (by omega) i4 (h1.trans hfit.symm))
      rw [if_neg c]
      rfl
end Go.Proofs.Ytimfeiobdcmhnaa.PR
namespace Go.Proofs.Ytimfeiobdcmhnaa.Pure
theorem WireTurned : Go.Proofs.Ytimfeiobdcmhnaa.PR.WireTurned_Pure := Go.Proofs.Ytimfeiobdcmhnaa.PR.wireTurned_pure
end Go.Proofs.Ytimfeiobdcmhnaa.Pure
