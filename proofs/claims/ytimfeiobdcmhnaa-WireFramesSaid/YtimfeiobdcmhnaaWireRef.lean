/- The document's Frame and Unframe are the program's. -/
import Derived.Test.YtimfeiobdcmhnaaWireHead
import Derived.Test.YtimfeiobdcmhnaaWireBurst
import Derived.Test.YtimfeiobdcmhnaaPRx14
import Derived.Test.YtimfeiobdcmhnaaPRx15
namespace Go.Proofs.Ytimfeiobdcmhnaa.PR
open Go.RowKit Go.Proofs.YtimfeiobdcmhnaaW.PrintWords Go.Proofs.YtimfeiobdcmhnaaW.PrintLast Go.Proofs.YtimfeiobdcmhnaaW.PrintMore
set_option linter.unusedVariables false
theorem str_list (xs : List Int) : (strOfNums xs).toList = xs.map fun n => UInt8.ofNat n.toNat := by
  rw [ByteArray.toList_eq]
  rfl
/-- Bytes are told by their string. -/
theorem str_inj : ∀ {x y : List Int}, Byt x → Byt y → (strOfNums x).toList = (strOfNums y).toList → x = y := by
  intro x y hx hy h
  rw [str_list, str_list] at h
  revert y
  induction x with
  | nil => intro y hy h; cases y with
    | nil => rfl
    | cons b y => simp at h
  | cons a x ih => intro y hy h; cases y with
    | nil => simp at h
    | cons b y =>
      simp only [List.map_cons, List.cons.injEq] at h
      have ha := hx a (by simp)
      have hb := hy b (by simp)
      have e1 : a.toNat = b.toNat := by
        have h1 := congrArg UInt8.toNat h.1
        simp only [UInt8.toNat_ofNat'] at h1
        omega
      rw [show a = b by omega, ih (fun z hz => hx z (by simp [hz])) (fun z hz => hy z (by simp [hz])) h.2]
theorem w_mod (n : Nat) (h : n < 4294967296) (d : Nat) (hd : 0 < d) : wrap64 ((n : Int) / (d : Int)) = ((n / d : Nat) : Int) := by
  have h1 : (n : Int) / (d : Int) = ((n / d : Nat) : Int) := by simp
  have h2 : n / d ≤ n := Nat.div_le_self _ _
  rw [h1]
  generalize n / d = q at h2
  unfold wrap64
  omega
theorem w_tdiv (n : Nat) (h : n < 4294967296) (d : Nat) (hd : 0 < d) : wrap64 (Int.tdiv (n : Int) (d : Int)) = ((n / d : Nat) : Int) := by
  rw [Int.tdiv_eq_ediv_of_nonneg (by omega)]
  exact w_mod n h d hd
theorem w_tmod (n : Nat) : Int.tmod (n : Int) 256 = ((n % 256 : Nat) : Int) := by
  rw [Int.tmod_eq_emod_of_nonneg (by omega)]
  omega
theorem rframe (kind : Nat) (hk : kind < 256) {l : List Int} (hl : Byt l) (hn : l.length ≤ 1000000) (K : Nat) (hK : 10 * (l.length + 5) + 1 ≤ K) : gleberef01_Frame.f K (kind : Int) l = some (frameB kind l) := by
  obtain ⟨m, rfl⟩ : ∃ m, K = m + 10 * (l.length + 5) + 1 := ⟨K - (10 * (l.length + 5) + 1), by omega⟩
  have hb : Byt (hdB kind l.length ++ l) := fun z hz => (List.mem_append.mp hz).elim (hdB_byt kind l.length (by omega) z) (hl z)
  have hlen : (hdB kind l.length ++ l).length = l.length + 5 := by simp [hdB]
  have hs := rsum_nat hb (by omega) m
  rw [hlen] at hs
  have hbd := sumN_bd hb
  have e1 : ([3, (kind : Int) % 256, (l.length : Int) % 256, (Int.tmod (wrap64 ((l.length : Int) / 256)) 256) % 256, (wrap64 ((l.length : Int) / 65536)) % 256] : List Int) = hdB kind l.length := by
    have a1 := w_mod l.length (by omega) 256 (by decide)
    have a2 := w_mod l.length (by omega) 65536 (by decide)
    have a1' : wrap64 ((l.length : Int) / 256) = ((l.length / 256 : Nat) : Int) := a1
    have a2' : wrap64 ((l.length : Int) / 65536) = ((l.length / 65536 : Nat) : Int) := a2
    rw [a1', a2', w_tmod]
    clear a1 a2 a1' a2'
    unfold hdB
    simp only [List.cons.injEq, true_and, and_true]
    constructor <;> omega
  rw [frameB_eq kind l hl (by omega)]
  unfold gleberef01_Frame.f
  rw [e1, Option.bind_some, if_pos (show (hdB kind l.length).length + l.length < 140737488355328 by show 5 + _ < _; omega), Option.bind_some, hs, Option.bind_some]
  generalize sumN (hdB kind l.length ++ l) = s at hbd
  have b1 : wrap64 (Int.tdiv (s : Int) 256) = ((s / 256 : Nat) : Int) := w_tdiv s hbd 256 (by decide)
  have b2 : wrap64 (Int.tdiv (s : Int) 65536) = ((s / 65536 : Nat) : Int) := w_tdiv s hbd 65536 (by decide)
  have b3 : wrap64 (Int.tdiv (s : Int) 16777216) = ((s / 16777216 : Nat) : Int) := w_tdiv s hbd 16777216 (by decide)
  have e2 : ([(Int.tmod (s : Int) 256) % 256, (Int.tmod (wrap64 (Int.tdiv (s : Int) 256)) 256) % 256, (Int.tmod (wrap64 (Int.tdiv (s : Int) 65536)) 256) % 256, (wrap64 (Int.tdiv (s : Int) 16777216)) % 256] : List Int) = sumB (s : Int) := by
    rw [b1, b2, b3, w_tmod, w_tmod, w_tmod]
    clear b1 b2 b3
    unfold sumB
    simp only [List.cons.injEq, and_true]
    refine ⟨?_, ?_, ?_, ?_⟩ <;> omega
  rw [e2, Option.bind_some, hlen, if_pos (show l.length + 5 + (sumB (s : Int)).length < 140737488355328 by show _ + 4 < _; omega), List.append_assoc]
/-- A row of five bytes and more. -/
theorem five {l : List Int} (h : 5 ≤ l.length) : l.take 5 = [rd l 0, rd l 1, rd l 2, rd l 3, rd l 4] := by
  match l, h with
  | a :: b :: c :: d :: e :: l, _ => rfl
theorem three_sum {x y z : Int} (hx : 0 ≤ x ∧ x < 256) (hy : 0 ≤ y ∧ y < 256) (hz : 0 ≤ z ∧ z < 256) : wrap64 ((wrap64 ((wrap64 x) + (wrap64 ((wrap64 y) * 256)))) + (wrap64 ((wrap64 z) * 65536))) = x + y * 256 + z * 65536 := by
  rw [w64_small (x := x) (by omega) (by omega), w64_small (x := y) (by omega) (by omega), w64_small (x := z) (by omega) (by omega), w64_small (x := y * 256) (by omega) (by omega), w64_small (x := z * 65536) (by omega) (by omega), w64_small (x := x + y * 256) (by omega) (by omega), w64_small (by omega) (by omega)]
theorem runf {l : List Int} (hl : Byt l) (hn : l.length ≤ 1000000) (K : Nat) (hK : 10 * l.length + 2 ≤ K) : gleberef01_Unframe.f K l = some (unf l) := by
  obtain ⟨k, rfl⟩ : ∃ k, K = k + 1 := ⟨K - 1, by omega⟩
  unfold gleberef01_Unframe.f unf
  by_cases h5 : l.length < 5
  · rw [if_pos (by omega), if_pos h5]
  · have r0 : 0 ≤ rd l 0 ∧ rd l 0 < 256 := rd_byt hl 0 (by omega)
    have r1 : 0 ≤ rd l 1 ∧ rd l 1 < 256 := rd_byt hl 1 (by omega)
    have r2 : 0 ≤ rd l 2 ∧ rd l 2 < 256 := rd_byt hl 2 (by omega)
    have r3 : 0 ≤ rd l 3 ∧ rd l 3 < 256 := rd_byt hl 3 (by omega)
    have r4 : 0 ≤ rd l 4 ∧ rd l 4 < 256 := rd_byt hl 4 (by omega)
    rw [if_neg (by omega), if_neg h5, if_pos (by omega), if_pos (by omega), if_pos (by omega), if_pos (by omega), three_sum r2 r3 r4]
    have hfive := five (l := l) (by omega)
    have hn0 : 0 ≤ rd l 2 + rd l 3 * 256 + rd l 4 * 65536 := by omega
    have hn1 : rd l 2 + rd l 3 * 256 + rd l 4 * 65536 < 16777216 := by omega
    have hm2 : (rd l 2 + rd l 3 * 256 + rd l 4 * 65536) % 256 = rd l 2 := by omega
    have hm3 : (rd l 2 + rd l 3 * 256 + rd l 4 * 65536) / 256 % 256 = rd l 3 := by omega
    have hm4 : (rd l 2 + rd l 3 * 256 + rd l 4 * 65536) / 65536 % 256 = rd l 4 := by omega
    generalize hN : rd l 2 + rd l 3 * 256 + rd l 4 * 65536 = N at hn0 hn1 hm2 hm3 hm4 ⊢
    by_cases h3 : rd l 0 = 3
    · rw [if_pos h3]
      by_cases hb : N > 131072
      · rw [decide_eq_true hb, gleberef01_Unframe.j0, if_pos rfl, if_pos (Or.inr hb)]
      · rw [decide_eq_false hb, gleberef01_Unframe.j0, if_neg (by decide), if_neg (show ¬ (rd l 0 ≠ 3 ∨ N > 131072) from fun q => q.elim (fun q => q h3) hb), w64_small (x := N + 9) (by omega) (by omega), w64_small (x := N + 5) (by omega) (by omega)]
        by_cases c1 : (l.length : Int) < N + 9
        · rw [if_pos c1, if_pos c1]
        · rw [if_neg c1, if_neg c1]
          by_cases c2 : (l.length : Int) > N + 9
          · rw [if_pos c2, if_pos c2]
          · rw [if_neg c2, if_neg c2, if_pos (show 1 < (l.length : Int) by omega), if_pos (show 5 ≤ N + 5 by omega), if_pos (show N + 5 ≤ (l.length : Int) by omega), w64_small (x := rd l 1) (by omega) (by omega)]
            obtain ⟨n, rfl⟩ := Int.eq_ofNat_of_zero_le hn0
            obtain ⟨kd, hkd⟩ := Int.eq_ofNat_of_zero_le r1.1
            have ht5 : ((n : Int) + 5).toNat = n + 5 := by omega
            rw [ht5]
            have hCl : ((l.take (n + 5)).drop 5).length = n := by rw [List.length_drop, List.length_take]; omega
            have hCB : Byt ((l.take (n + 5)).drop 5) := fun y hy => hl y (List.mem_of_mem_take (List.mem_of_mem_drop hy))
            have hhd : hdB kd n ++ (l.take (n + 5)).drop 5 = l.take (n + 5) := by
              have e1 : (l.take (n + 5)).take 5 = hdB kd n := by
                rw [List.take_take, show min 5 (n + 5) = 5 by omega, hfive, h3, hkd, ← hm2, ← hm3, ← hm4]
                unfold hdB
                simp only [List.cons.injEq, true_and, and_true]
                omega
              rw [← e1, List.take_append_drop]
            have hf := rframe kd (by omega) hCB (by omega) k (by rw [hCl]; omega)
            have hfe := frameB_eq kd _ hCB (by omega)
            rw [hCl, ← List.append_assoc, hhd] at hfe
            rw [hkd, hf, Option.bind_some, hfe]
            by_cases c3 : sumB ((sumN (l.take (n + 5)) : Nat) : Int) = l.drop (n + 5)
            · rw [if_pos c3, c3, List.take_append_drop, if_pos rfl, Option.bind_some, if_pos (by rw [hCl]; show 0 + n < _; omega), List.nil_append]
            · rw [if_neg c3, if_neg]
              intro q
              have hFB : Byt (l.take (n + 5) ++ sumB ((sumN (l.take (n + 5)) : Nat) : Int)) := fun z hz => (List.mem_append.mp hz).elim (fun hz => hl z (List.mem_of_mem_take hz)) (sumB_byt _ z)
              have q2 := str_inj hFB hl q
              refine c3 ?_
              have q3 : l.take (n + 5) ++ sumB ((sumN (l.take (n + 5)) : Nat) : Int) = l.take (n + 5) ++ l.drop (n + 5) := q2.trans (List.take_append_drop _ _).symm
              exact List.append_cancel_left q3
    · rw [if_neg h3, gleberef01_Unframe.j0, if_pos rfl, if_pos (Or.inl h3)]
end Go.Proofs.Ytimfeiobdcmhnaa.PR
