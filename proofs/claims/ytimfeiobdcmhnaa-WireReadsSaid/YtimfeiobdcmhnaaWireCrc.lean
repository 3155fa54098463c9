/- The checksum as plain numbers: by table and bit by bit it is one; a byte changed changes it. -/
import Derived.Test.YtimfeiobdcmhnaaPRx2
import Derived.Test.YtimfeiobdcmhnaaPRx11
namespace Go.Proofs.Ytimfeiobdcmhnaa.PR
open Go.RowKit Go.Proofs.YtimfeiobdcmhnaaW.PrintWords Go.Proofs.YtimfeiobdcmhnaaW.PrintLast Go.Proofs.YtimfeiobdcmhnaaW.PrintMore
theorem xor_mod2 (a b : Nat) : (a ^^^ b) % 2 = (a + b) % 2 := by
  have h := Nat.testBit_xor a b 0
  simp only [Nat.testBit_zero] at h
  rcases Nat.mod_two_eq_zero_or_one a with ha | ha <;> rcases Nat.mod_two_eq_zero_or_one b with hb | hb <;> rcases Nat.mod_two_eq_zero_or_one (a ^^^ b) with hc | hc <;> rw [ha, hb, hc] at h <;> first | (rw [hc]; omega) | exact absurd h (by decide)
theorem rd_nat (l : List Int) (i : Nat) (hi : i < l.length) : rd l (i : Int) = l[i] := by
  unfold rd
  rw [Int.toNat_natCast]
  simp [hi]
def cP : Nat := 3988292384
def stp (x : Nat) : Nat := if x % 2 = 1 then x / 2 ^^^ cP else x / 2
def itr : Nat → Nat → Nat
  | 0, x => x
  | n + 1, x => stp (itr n x)
def rstp (c d : Nat) : Nat := if c % 2 = d % 2 then c / 2 else c / 2 ^^^ cP
def rK : Nat → Nat → Nat → Nat
  | 0, c, _ => c
  | k + 1, c, b => rstp (rK k c b) (b / 2 ^ k)
theorem stp_xor (r d : Nat) : stp (r ^^^ d) = rstp r d ^^^ (d / 2) := by
  unfold stp rstp
  rw [xor_mod2, Nat.xor_div_two]
  by_cases h : r % 2 = d % 2
  · rw [if_neg (by omega), if_pos h]
  · rw [if_pos (by omega), if_neg h, Nat.xor_assoc, Nat.xor_comm (d / 2), ← Nat.xor_assoc]
theorem itr_xor (c b : Nat) : ∀ k, itr k (c ^^^ b) = rK k c b ^^^ (b / 2 ^ k)
  | 0 => by simp [itr, rK]
  | k + 1 => by rw [itr, itr_xor c b k, stp_xor, rK, Nat.div_div_eq_div_mul, Nat.pow_succ]
theorem itr_ref (c : Nat) {b : Nat} (hb : b < 256) : itr 8 (c ^^^ b) = rK 8 c b := by
  rw [itr_xor, Nat.div_eq_of_lt (show b < 2 ^ 8 by omega), Nat.xor_zero]
theorem stp_high (x z : Nat) : stp (x ^^^ 2 * z) = stp x ^^^ z := by
  unfold stp
  rw [xor_mod2, Nat.xor_div_two, show 2 * z / 2 = z by omega]
  by_cases h : x % 2 = 1
  · rw [if_pos (by omega), if_pos h, Nat.xor_assoc, Nat.xor_comm z, ← Nat.xor_assoc]
  · rw [if_neg (by omega), if_neg h]
theorem itr_high (x : Nat) : ∀ k z, itr k (x ^^^ 2 ^ k * z) = itr k x ^^^ z
  | 0, z => by simp [itr]
  | k + 1, z => by rw [itr, Nat.pow_succ, Nat.mul_assoc, itr_high x k (2 * z), stp_high, itr]
theorem xor_low : ∀ k a y, a < 2 ^ k → a ^^^ 2 ^ k * y = a + 2 ^ k * y
  | 0, a, y, h => by
    have : a = 0 := by omega
    subst this
    simp
  | k + 1, a, y, h => by
    have h1 := xor_low k (a / 2) y (by rw [Nat.pow_succ] at h; omega)
    have h2 := xor_mod2 a (2 ^ (k + 1) * y)
    have h3 := @Nat.xor_div_two a (2 ^ (k + 1) * y)
    have e : 2 ^ (k + 1) * y = 2 * (2 ^ k * y) := by rw [Nat.pow_succ, Nat.mul_comm (2 ^ k) 2, Nat.mul_assoc]
    rw [e] at h2 h3 ⊢
    generalize 2 ^ k * y = t at *
    rw [show 2 * t / 2 = t by omega, h1] at h3
    generalize a ^^^ 2 * t = u at *
    omega
theorem itr_byte (c b : Nat) : itr 8 ((c % 256) ^^^ b) ^^^ (c / 256) = itr 8 (c ^^^ b) := by
  have h := xor_low 8 (c % 256) (c / 256) (by omega)
  rw [← itr_high]
  congr 1
  rw [Nat.xor_assoc, Nat.xor_comm b, ← Nat.xor_assoc, h]
  congr 1
  omega
theorem stp_bd {x : Nat} (h : x < 4294967296) : stp x < 4294967296 := by
  unfold stp cP
  split
  · exact Nat.xor_lt_two_pow (n := 32) (by omega) (by omega)
  · omega
theorem itr_bd {x : Nat} (h : x < 4294967296) : ∀ k, itr k x < 4294967296
  | 0 => h
  | k + 1 => stp_bd (itr_bd h k)
theorem xor_cancel {a b p : Nat} (h : a ^^^ p = b ^^^ p) : a = b := by
  have h1 := congrArg (fun z => z ^^^ p) h
  simpa [Nat.xor_assoc] using h1
theorem stp_inj {x y : Nat} (hx : x < 4294967296) (hy : y < 4294967296) (h : stp x = stp y) : x = y := by
  have odd : ∀ a : Nat, a < 2147483648 → (a ^^^ cP).testBit 31 = true := by
    intro a ha
    rw [Nat.testBit_xor, Nat.testBit_lt_two_pow (show a < 2 ^ 31 by omega)]
    decide
  have even : ∀ a : Nat, a < 2147483648 → a.testBit 31 = false := fun a ha => Nat.testBit_lt_two_pow (by omega)
  unfold stp at h
  split at h <;> split at h
  · have := xor_cancel h
    omega
  · have h1 := odd (x / 2) (by omega)
    rw [h, even (y / 2) (by omega)] at h1
    cases h1
  · have h1 := odd (y / 2) (by omega)
    rw [← h, even (x / 2) (by omega)] at h1
    cases h1
  · omega
theorem itr_inj {x y : Nat} (hx : x < 4294967296) (hy : y < 4294967296) : ∀ k, itr k x = itr k y → x = y
  | 0, h => h
  | k + 1, h => itr_inj hx hy k (stp_inj (itr_bd hx k) (itr_bd hy k) h)
/-! ### the program's words -/
theorem xor_u32 {a b : Nat} (ha : a < 4294967296) (hb : b < 4294967296) : Go.bits .xor .u32 (a : Int) (b : Int) = ((a ^^^ b : Nat) : Int) := by
  unfold Go.bits
  dsimp only
  have ha' : (BitVec.ofInt (IntKind.bits .u32) (a : Int)).toNat = a := by
    show ((a : Int) % (2 ^ 32 : Nat)).toNat = a
    omega
  have hb' : (BitVec.ofInt (IntKind.bits .u32) (b : Int)).toNat = b := by
    show ((b : Int) % (2 ^ 32 : Nat)).toNat = b
    omega
  rw [BitVec.toNat_xor, ha', hb']
  have h := Nat.xor_lt_two_pow (n := 32) (x := a) (y := b) (by omega) (by omega)
  generalize a ^^^ b = z at h
  show ((z : Nat) : Int) % 4294967296 = _
  omega
theorem xor_i64 {a b : Nat} (ha : a < 4294967296) (hb : b < 4294967296) : Go.bits .xor .i64 (a : Int) (b : Int) = ((a ^^^ b : Nat) : Int) := by
  unfold Go.bits
  dsimp only
  have ha' : (BitVec.ofInt (IntKind.bits .i64) (a : Int)).toNat = a := by
    show ((a : Int) % (2 ^ 64 : Nat)).toNat = a
    omega
  have hb' : (BitVec.ofInt (IntKind.bits .i64) (b : Int)).toNat = b := by
    show ((b : Int) % (2 ^ 64 : Nat)).toNat = b
    omega
  rw [BitVec.toNat_xor, ha', hb']
  have h := Nat.xor_lt_two_pow (n := 32) (x := a) (y := b) (by omega) (by omega)
  generalize a ^^^ b = z at h
  rw [IntKind.wrap_i64]
  omega
theorem xor_u8 {a b : Nat} (ha : a < 256) (hb : b < 256) : Go.bits .xor .u8 (a : Int) (b : Int) = ((a ^^^ b : Nat) : Int) := by
  unfold Go.bits
  dsimp only
  have ha' : (BitVec.ofInt (IntKind.bits .u8) (a : Int)).toNat = a := by
    show ((a : Int) % (2 ^ 8 : Nat)).toNat = a
    omega
  have hb' : (BitVec.ofInt (IntKind.bits .u8) (b : Int)).toNat = b := by
    show ((b : Int) % (2 ^ 8 : Nat)).toNat = b
    omega
  rw [BitVec.toNat_xor, ha', hb']
  have h := Nat.xor_lt_two_pow (n := 8) (x := a) (y := b) (by omega) (by omega)
  generalize a ^^^ b = z at h
  show ((z : Nat) : Int) % 256 = _
  omega
theorem and1_u32 {a : Nat} (ha : a < 4294967296) : Go.bits .and .u32 (a : Int) 1 = ((a % 2 : Nat) : Int) := by
  unfold Go.bits
  dsimp only
  have ha' : (BitVec.ofInt (IntKind.bits .u32) (a : Int)).toNat = a := by
    show ((a : Int) % (2 ^ 32 : Nat)).toNat = a
    omega
  have hb' : (BitVec.ofInt (IntKind.bits .u32) 1).toNat = 1 := by decide
  rw [BitVec.toNat_and, ha', hb', Nat.and_one_is_mod]
  show ((a % 2 : Nat) : Int) % 4294967296 = _
  omega
theorem crcStep_nat {a : Nat} (ha : a < 4294967296) : crcStep (a : Int) = (stp a : Nat) := by
  unfold crcStep stp
  rw [and1_u32 ha]
  by_cases h : a % 2 = 1
  · rw [if_pos h, if_pos (by rw [h]; rfl), show (a : Int) / 2 = ((a / 2 : Nat) : Int) by omega, show (3988292384 : Int) = ((cP : Nat) : Int) from rfl, xor_u32 (by omega) (by decide)]
  · rw [if_neg h, if_neg (by rw [show a % 2 = 0 by omega]; decide)]
    omega
theorem crcIter_nat {a : Nat} (ha : a < 4294967296) : ∀ k, crcIter k (a : Int) = (itr k a : Nat)
  | 0 => rfl
  | k + 1 => by rw [crcIter, crcIter_nat ha k, crcStep_nat (itr_bd ha k), itr]
theorem crcByte_nat {c b : Nat} (hc : c < 4294967296) (hb : b < 256) : crcByte (c : Int) (b : Int) = (itr 8 (c ^^^ b) : Nat) := by
  unfold crcByte
  have hx := Nat.xor_lt_two_pow (n := 8) (x := c % 256) (y := b) (by omega) (by omega)
  have hi := itr_bd (x := (c % 256) ^^^ b) (by omega) 8
  rw [show (c : Int) % 256 = ((c % 256 : Nat) : Int) by omega, xor_u8 (by omega) hb, crcIter_nat (by omega), show (c : Int) / 256 = ((c / 256 : Nat) : Int) by omega, xor_u32 hi (by omega), itr_byte]
/-- Bytes. -/
def Byt (l : List Int) : Prop := ∀ z ∈ l, 0 ≤ z ∧ z < 256
def nxt (c : Nat) (z : Int) : Nat := itr 8 (c ^^^ z.toNat)
def crcN (c : Nat) (l : List Int) : Nat := l.foldl nxt c
theorem nxt_bd {c : Nat} (hc : c < 4294967296) {z : Int} (hz : 0 ≤ z ∧ z < 256) : nxt c z < 4294967296 := itr_bd (Nat.xor_lt_two_pow (n := 32) (by omega) (by omega)) 8
theorem crcN_bd : ∀ (l : List Int) (c : Nat), c < 4294967296 → Byt l → crcN c l < 4294967296
  | [], c, hc, _ => hc
  | z :: l, c, hc, hl => crcN_bd l _ (nxt_bd hc (hl z (by simp))) (fun y hy => hl y (by simp [hy]))
theorem crcOf_nat : ∀ (l : List Int) (c : Nat), c < 4294967296 → Byt l → l.foldl crcByte (c : Int) = (crcN c l : Nat)
  | [], c, hc, _ => rfl
  | z :: l, c, hc, hl => by
    have hz := hl z (by simp)
    have e : crcByte (c : Int) z = (nxt c z : Nat) := by
      have := crcByte_nat (c := c) (b := z.toNat) hc (by omega)
      rw [Int.toNat_of_nonneg hz.1] at this
      exact this
    rw [List.foldl_cons, e]
    exact crcOf_nat l _ (nxt_bd hc hz) (fun y hy => hl y (by simp [hy]))
/-- The sum as a number. -/
def sumN (l : List Int) : Nat := crcN 4294967295 l ^^^ 4294967295
theorem sumN_bd {l : List Int} (hl : Byt l) : sumN l < 4294967296 := Nat.xor_lt_two_pow (n := 32) (crcN_bd l _ (by decide) hl) (by decide)
theorem wsum_nat {l : List Int} (hl : Byt l) : wire_Sum.f l = some ((sumN l : Nat) : Int) := by
  unfold wire_Sum.f crcOf
  rw [show (4294967295 : Int) = ((4294967295 : Nat) : Int) from rfl, crcOf_nat l _ (by decide) hl, show IntKind.u32.max = ((4294967295 : Nat) : Int) from rfl, xor_u32 (by decide) (crcN_bd l _ (by decide) hl), Nat.xor_comm]
  rfl
/-! ### the reference -/
theorem tmod_two (a : Nat) : Int.tmod (a : Int) 2 = ((a % 2 : Nat) : Int) := by
  rw [Int.tmod_eq_emod_of_nonneg (by omega)]
  omega
theorem rK_bd {c : Nat} (hc : c < 4294967296) (b : Nat) : ∀ k, rK k c b < 4294967296
  | 0 => hc
  | k + 1 => by
    have := rK_bd hc b k
    unfold rK rstp cP
    split
    · omega
    · exact Nat.xor_lt_two_pow (n := 32) (by omega) (by omega)
theorem rsum_bits (l : List Int) (i : Nat) (hi : i < l.length) (hl : Byt l) (hn : l.length < 1000000000) (c : Nat) (hc : c < 4294967296) (m : Nat) :
    ∀ n j : Nat, j + n = 8 → gleberef01_Sum.l1 (m + n + 1) l ((rK j c (rd l i).toNat : Nat) : Int) i j = gleberef01_Sum.l0 m l ((rK 8 c (rd l i).toNat : Nat) : Int) ((i + 1 : Nat) : Int) := by
  intro n
  induction n with
  | zero =>
    intro j hj
    obtain rfl : j = 8 := by omega
    unfold gleberef01_Sum.l1
    rw [if_neg (by omega), show wrap64 ((i : Int) + 1) = ((i + 1 : Nat) : Int) by unfold wrap64; omega]
  | succ n ih =>
    intro j hj
    have hb : 0 ≤ rd l i ∧ rd l i < 256 := by
      rw [rd_nat l i hi]
      exact hl _ (List.getElem_mem hi)
    have hr := rK_bd hc (rd l i).toNat j
    obtain ⟨b, hbb⟩ : ∃ b : Nat, rd l i = (b : Int) := ⟨(rd l i).toNat, by omega⟩
    have ih := ih (j + 1) (by omega)
    rw [rK] at ih
    rw [hbb] at hb ih hr ⊢
    rw [Int.toNat_natCast] at ih hr ⊢
    generalize rK j c b = r at hr ih ⊢
    have hu : IntKind.u64.wrap (j : Int) = (j : Int) := by
      show (j : Int) % 18446744073709551616 = j
      omega
    have hs : wrap64 (shr .u8 (b : Int) (j : Int)) = ((b / 2 ^ j : Nat) : Int) := by
      have h1 : shr .u8 (b : Int) (j : Int) = ((b / 2 ^ j : Nat) : Int) := by
        unfold shr
        have h8 : j = 0 ∨ j = 1 ∨ j = 2 ∨ j = 3 ∨ j = 4 ∨ j = 5 ∨ j = 6 ∨ j = 7 := by omega
        rcases h8 with rfl | rfl | rfl | rfl | rfl | rfl | rfl | rfl <;> simp [IntKind.bits] <;> omega
      rw [h1]
      have hq : b / 2 ^ j ≤ b := Nat.div_le_self _ _
      clear h1
      generalize b / 2 ^ j = q at hq ⊢
      unfold wrap64
      omega
    have h2 : wrap64 (Int.tdiv (r : Int) 2) = ((r / 2 : Nat) : Int) := by
      rw [Int.tdiv_eq_ediv_of_nonneg (by omega)]
      unfold wrap64
      omega
    rw [show m + (n + 1) + 1 = (m + n + 1) + 1 from rfl]
    unfold gleberef01_Sum.l1
    rw [if_pos (show (j : Int) < 8 by omega), if_pos (show 0 ≤ (i : Int) by omega), if_pos (show (i : Int) < (l.length : Int) by omega), hu, if_pos (show 0 ≤ (j : Int) by omega), hbb, hs, tmod_two, tmod_two, h2, show wrap64 ((j : Int) + 1) = ((j + 1 : Nat) : Int) by unfold wrap64; omega]
    unfold rstp at ih
    by_cases q : r % 2 = b / 2 ^ j % 2
    · rw [if_pos q] at ih
      rw [if_pos (by rw [q]), ih]
    · rw [if_neg q] at ih
      rw [if_neg (by omega), show (3988292384 : Int) = ((cP : Nat) : Int) from rfl, xor_i64 (by omega) (by decide), ih]
theorem rsum_run (l : List Int) (hl : Byt l) (hn : l.length < 1000000000) (m : Nat) : ∀ n i : Nat, i + n = l.length → gleberef01_Sum.l0 (m + 10 * n + 1) l ((crcN 4294967295 (l.take i) : Nat) : Int) i = some ((sumN l : Nat) : Int) := by
  intro n
  induction n with
  | zero =>
    intro i hi
    obtain rfl : i = l.length := by omega
    unfold gleberef01_Sum.l0
    rw [if_neg (by omega), List.take_length, show (4294967295 : Int) = ((4294967295 : Nat) : Int) from rfl, xor_i64 (crcN_bd l _ (by decide) hl) (by decide)]
    rfl
  | succ n ih =>
    intro i hi
    have hil : i < l.length := by omega
    have hb : 0 ≤ rd l i ∧ rd l i < 256 := by
      rw [rd_nat l i hil]
      exact hl _ (List.getElem_mem hil)
    have hc := crcN_bd (l.take i) 4294967295 (by decide) (fun y hy => hl y (List.mem_of_mem_take hy))
    have e : crcN 4294967295 (l.take (i + 1)) = rK 8 (crcN 4294967295 (l.take i)) (rd l i).toNat := by
      have e1 : crcN 4294967295 (l.take (i + 1)) = nxt (crcN 4294967295 (l.take i)) (rd l i) := by
        unfold crcN rd
        rw [List.take_succ_eq_append_getElem hil, List.foldl_append]
        simp [hil]
      rw [e1]
      exact itr_ref _ (by omega)
    have h := rsum_bits l i hil hl hn _ hc (m + 10 * n + 1) 8 0 (by omega)
    rw [← e, rK] at h
    rw [show m + 10 * (n + 1) + 1 = (m + 10 * n + 10) + 1 by omega]
    unfold gleberef01_Sum.l0
    rw [if_pos (show (i : Int) < (l.length : Int) by omega)]
    have h0 : gleberef01_Sum.l1 (m + 10 * n + 10) l ((crcN 4294967295 (l.take i) : Nat) : Int) i 0 = _ := h
    rw [h0]
    exact ih (i + 1) (by omega)
theorem rsum_nat {l : List Int} (hl : Byt l) (hn : l.length < 1000000000) (m : Nat) : gleberef01_Sum.f (m + 10 * l.length + 1) l = some ((sumN l : Nat) : Int) := rsum_run l hl hn m l.length 0 (by omega)
/-! ### a byte changed -/
theorem crcN_inj : ∀ (l : List Int) (c d : Nat), c < 4294967296 → d < 4294967296 → Byt l → crcN c l = crcN d l → c = d
  | [], c, d, _, _, _, h => h
  | z :: l, c, d, hc, hd, hl, h => by
    have hz := hl z (by simp)
    have h1 := crcN_inj l (nxt c z) (nxt d z) (nxt_bd hc hz) (nxt_bd hd hz) (fun y hy => hl y (by simp [hy])) h
    exact xor_cancel (itr_inj (Nat.xor_lt_two_pow (n := 32) (by omega) (by omega)) (Nat.xor_lt_two_pow (n := 32) (by omega) (by omega)) 8 h1)
theorem sumN_set {l : List Int} (hl : Byt l) {i : Nat} (hi : i < l.length) {b : Int} (hb : 0 ≤ b ∧ b < 256) (hne : b ≠ l[i]) : sumN (l.set i b) ≠ sumN l := by
  intro h
  have h := xor_cancel h
  have e : l = l.take i ++ l[i] :: l.drop (i + 1) := by simp
  have e2 : l.set i b = l.take i ++ b :: l.drop (i + 1) := by rw [List.set_eq_take_append_cons_drop, if_pos hi]
  have hc := crcN_bd (l.take i) 4294967295 (by decide) (fun y hy => hl y (List.mem_of_mem_take hy))
  have hcc : List.foldl nxt 4294967295 (l.take i) < 4294967296 := hc
  have hz := hl _ (List.getElem_mem hi)
  rw [e2] at h
  have h' : crcN 4294967295 (l.take i ++ b :: l.drop (i + 1)) = crcN 4294967295 (l.take i ++ l[i] :: l.drop (i + 1)) := h.trans (congrArg (crcN 4294967295) e)
  unfold crcN at h'
  rw [List.foldl_append, List.foldl_append, List.foldl_cons, List.foldl_cons] at h'
  have h1 := crcN_inj (l.drop (i + 1)) _ _ (nxt_bd hc hb) (nxt_bd hc hz) (fun y hy => hl y (List.mem_of_mem_drop hy)) h'
  have h2 := itr_inj (Nat.xor_lt_two_pow (n := 32) (by first | exact hc | exact hcc) (by omega)) (Nat.xor_lt_two_pow (n := 32) (by first | exact hc | exact hcc) (by omega)) 8 h1
  rw [Nat.xor_comm, Nat.xor_comm _ (l[i].toNat)] at h2
  have h3 := xor_cancel h2
  omega
end Go.Proofs.Ytimfeiobdcmhnaa.PR
