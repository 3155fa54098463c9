-- Written by a program of this session (wip/tools/hp.py) over the kit's print; nothing here is trusted: Lean checks it.
import Derived.RegionTactic
import Derived.BigRegion
import Derived.Great.Walk
import Derived.Laws.Rows
import Derived.Test.YtimfeiobdcmhnaaPRx0
namespace Go.Proofs.Ytimfeiobdcmhnaa.PR
open Go.RowKit Go.Proofs.YtimfeiobdcmhnaaW.PrintWords Go.Proofs.YtimfeiobdcmhnaaW.PrintLast Go.Proofs.YtimfeiobdcmhnaaW.PrintMore
attribute [local go_sem] max2_int min2_int max_two min_two max_three min_three max_four min_four   -- for this text's walks alone
set_option linter.unusedVariables false
set_option linter.unusedSimpArgs false

--OWN Derived.RegionTactic,Derived.BigRegion,Derived.Great.Walk,Derived.Laws.Rows
/-! ### wire_Sum: function 22 -/
theorem run_alloc_arr {P : Program} (t : TypeId) (Z : Array Value) (hz : (P.info? t).map (·.zero) = some (some (.agg Z))) (w : World) (ρ : Operand → Value) (o : Oper) (ho : o.op = .alloc t) :
    (execOp ρ o).run P w = .ok (.value (.pointer (some ⟨w.heap.size, 0, none⟩))) (w.alloc (.cells Z t)) := by
  cases hq : P.info? t with
  | none => simp [hq] at hz
  | some i =>
    have hs : i.zero = some (.agg Z) := by simpa [hq] using hz
    simp [execOp, ho, Instr.alloc, zeroValue, typeInfo, hq, hs, newVar, newRow, newObj, Value.cells, Sem.run_bind]
    rfl
theorem below_setRow {B g : Nat} {w W : World} (h : Below B w W) (hg : B ≤ g) (cs : Array Value) : Below B w (W.setRow g cs) :=
  ⟨h.os, h.tape, h.output, by have := h.size; simp; omega, fun k hk => (setRow_other _ _ _ _ (by omega)).trans (h.block k hk)⟩
def crcStep (c : Int) : Int := if Go.bits .and .u32 c 1 == 1 then Go.bits .xor .u32 (c / 2) 3988292384 else c / 2
def crcIter : Nat → Int → Int
  | 0, c => c
  | n + 1, c => crcStep (crcIter n c)
theorem bits_u32 (op) (a b : Int) : 0 ≤ Go.bits op .u32 a b ∧ Go.bits op .u32 a b ≤ 4294967295 := by
  unfold Go.bits
  simp only [IntKind.wrap, IntKind.bits, IntKind.signed, Bool.false_and, Bool.false_eq_true, if_false]
  generalize (BitVec.toNat _ : Int) = z
  omega
theorem crcStep_bd {c : Int} (h : 0 ≤ c ∧ c ≤ 4294967295) : 0 ≤ crcStep c ∧ crcStep c ≤ 4294967295 := by
  unfold crcStep
  split
  · exact bits_u32 _ _ _
  · omega
theorem crcIter_bd {c : Int} (h : 0 ≤ c ∧ c ≤ 4294967295) (n : Nat) : 0 ≤ crcIter n c ∧ crcIter n c ≤ 4294967295 := by
  induction n with
  | zero => exact h
  | succ n ih => exact crcStep_bd ih
/-- The table's cells behind k rounds. -/
def tabA (k : Nat) : Array Value := ((List.range 256).map fun j => Value.int .u32 (if j < k then crcIter 8 j else 0)).toArray
theorem tabA_size (k : Nat) : (tabA k).size = 256 := by simp [tabA]
theorem tabA_get (k j : Nat) (h : j < 256) : (tabA k)[j]? = some (.int .u32 (if j < k then crcIter 8 j else 0)) := by
  simp [tabA, h]
theorem tabA_set (k : Nat) (h : k < 256) : (tabA k).setIfInBounds k (.int .u32 (crcIter 8 k)) = tabA (k + 1) := by
  apply Array.ext_getElem?
  intro j
  rw [Array.getElem?_setIfInBounds]
  by_cases hj : j < 256
  · rw [tabA_get _ _ hj, tabA_get _ _ hj, tabA_size]
    by_cases he : k = j
    · subst he
      rw [if_pos rfl, if_pos h, if_pos (by omega)]
    · rw [if_neg he]
      congr 2
      by_cases hl : j < k
      · rw [if_pos hl, if_pos (by omega)]
      · rw [if_neg hl, if_neg (by omega)]
  · have : ∀ n, (tabA n)[j]? = none := fun n => by simp [tabA_size]; omega
    rw [this, this, if_neg (by omega)]
theorem tab_zero : (Try.prog.info? 99).map (·.zero) = some (some (.agg (tabA 0))) := by kernel_rfl
theorem tab_size : (Try.prog.info? 99).map (·.size) = some 256 := by kernel_rfl
set_option maxHeartbeats 2000000 in
set_option maxRecDepth 100000 in
theorem wire_table.calls (w : World) : Calls Try.prog 68 #[] w fun e w' => e = .returned (.agg (tabA 256)) ∧ Below w.heap.size w w' := by
  have hu := Try.underlying99
  go_enter Try.func68, Try.ntmps68
  go_wp2_with (first | ((with_reducible refine gate_dst (N := 0) rfl ?_); refine wpList_allocTo rfl (some 0) rfl _ _ (run_alloc_arr 99 (tabA 0) tab_zero w _ _ rfl) ?_))
  obtain ⟨B, hB⟩ : ∃ B, B = w.heap.size := ⟨_, rfl⟩
  have HB0 := Aside0.mk (below_alloc (Below.refl w.heap.size w) (.cells (tabA 0) 99))
  go_wp2
  go_loopw [3] (fun i wr => ∃ k : Nat, k ≤ 256 ∧ i = .int .i64 k ∧ Aside0 (wr.heap[w.heap.size]? = some (.cells (tabA k) 99 (0, 0))) ∧ Aside0 (Below w.heap.size w wr)) (fun i _ => 256 - (intOf i).toNat)
  case atStart => exact ⟨0, by omega, rfl, ⟨Go.heap_alloc_new _ _⟩, HB0⟩
  case round =>
    obtain ⟨k, hk, rfl, HK, HB⟩ := hrel
    by_cases hlt : k < 256
    · go_wp2
      rename World => wo
      go_loop [8, 2] (fun i c => ∃ j : Nat, j ≤ 8 ∧ i = .int .i64 j ∧ c = .int .u32 (crcIter j k)) (fun i _ => 8 - (intOf i).toNat)
      case atStart => exact ⟨0, by omega, rfl, rfl⟩
      case round =>
        obtain ⟨j, hj, rfl, rfl⟩ := hrel
        have hc := crcIter_bd (c := k) (by omega) j
        by_cases hlt2 : j < 8
        · have hs : Hid (crcIter (j + 1) k = if Go.bits .and .u32 (crcIter j k) 1 == 1 then Go.bits .xor .u32 (crcIter j k / 2) 3988292384 else crcIter j k / 2) := rfl
          generalize crcIter j k = c at *
          cases hb : Go.bits .and .u32 c 1 == 1 with
          | true =>
            rw [hb] at hs
            go_wp2
            go_round
            case rel => exact ⟨j + 1, by omega, by go_num, by rw [hs.out]; rfl⟩
            case measure => simp [intOf]; omega
          | false =>
            rw [hb] at hs
            go_wp2
            go_round
            case rel => exact ⟨j + 1, by omega, by go_num, by rw [hs.out]; rfl⟩
            case measure => simp [intOf]; omega
        · have hj8 : j = 8 := by omega
          subst hj8
          have hcell : wo.cell? ⟨w.heap.size, k, none⟩ = some (.int .u32 0) := by rw [cell_of_row _ _ _ _ _ _ HK.out, tabA_get _ _ hlt, if_neg (by omega)]
          have hfr := frozen_of_row _ _ k _ _ HK.out
          go_wp2
          go_roundw
          case rel =>
            refine ⟨k + 1, by omega, by go_num, ⟨?_⟩, ⟨Below.setCell HB.out (Nat.le_refl _) _⟩⟩
            rw [← tabA_set _ hlt]
            exact heap_setCell_same _ _ _ _ _ _ HK.out
          case measure => simp [intOf]; omega
    · have hk8 : k = 256 := by omega
      subst hk8
      go_wp2_with (first | refine wpList_load_row rfl 99 (.tmp 0) rfl w.heap.size rfl 99 (tabA 256) (0, 0) _ HK.out hu rfl tab_size ?_ | refine wpList_store_row rfl 99 (.tmp 0) (.tmp 23) rfl w.heap.size (tabA 256) rfl rfl 99 (tabA 256) HK.out tab_size rfl (by kernel_rfl) ?_)
      exact bodyPost_ret (results_cell_row rfl _ _ w.heap.size 99 (tabA 256) (0, 0) _ rfl (setRow_heap _ _ _ _ _ _ HK.out) hu rfl tab_size) rfl ⟨rfl, below_setRow HB.out (Nat.le_refl _) _⟩
/-- A byte more. -/
def crcByte (c b : Int) : Int := Go.bits .xor .u32 (crcIter 8 (Go.bits .xor .u8 (c % 256) b)) (c / 256)
theorem bits_u8 (op) (a b : Int) : 0 ≤ Go.bits op .u8 a b ∧ Go.bits op .u8 a b ≤ 255 := by
  unfold Go.bits
  simp only [IntKind.wrap, IntKind.bits, IntKind.signed, Bool.false_and, Bool.false_eq_true, if_false]
  generalize (BitVec.toNat _ : Int) = z
  omega
theorem crcByte_bd (c b : Int) : 0 ≤ crcByte c b ∧ crcByte c b ≤ 4294967295 := bits_u32 _ _ _
def crcOf (l : List Int) : Int := l.foldl crcByte 4294967295
theorem crcOf_bd (l : List Int) : 0 ≤ crcOf l ∧ crcOf l ≤ 4294967295 := by
  unfold crcOf
  rcases List.eq_nil_or_concat l with rfl | ⟨l', x, rfl⟩
  · decide
  · rw [List.concat_eq_append, List.foldl_append]
    exact crcByte_bd _ _
theorem crcOf_take (l : List Int) (k : Nat) (h : k < l.length) : crcOf (l.take (k + 1)) = crcByte (crcOf (l.take k)) (rd l k) := by
  unfold crcOf rd
  rw [List.take_succ_eq_append_getElem h, List.foldl_append]
  simp [h]
def wire_Sum.f (l0 : List Int) : Option Int := some (Go.bits .xor .u32 IntKind.u32.max (crcOf l0))
set_option maxHeartbeats 2000000 in
set_option maxRecDepth 100000 in
theorem wire_Sum.calls (A0 : Option Addr) (c0 : Nat) (l0 : List Int) (r : Int) (w : World) (hr0 : Kd.C (Kd.int .u8) w A0 l0.length l0) (_hc0 : l0.length ≤ c0) (h : wire_Sum.f l0 = some r) :
    Calls Try.prog 22 #[.slice A0 l0.length c0] w fun e w' => e = .returned (.int .i64 r) ∧ Below w.heap.size w w' := by
  have hm := hr0.2.1
  have HR0 := Aside0.mk hr0
  clear hr0
  have hu := Try.underlying99
  have HH := Aside0.mk (Option.some.inj h)
  clear h
  go_enter Try.func22, Try.ntmps22
  go_wp2_with fail
  refine (wire_table.calls _).mono ?_
  rintro e w1 ⟨rfl, hb⟩
  have HB1 := Aside0.mk hb
  clear hb
  go_wp2_with (first | ((with_reducible refine gate_dst (N := 3) rfl ?_); refine wpList_allocTo rfl (some 3) rfl _ _ (run_alloc_arr 99 (tabA 0) tab_zero w1 _ _ rfl) ?_) | refine wpList_store_row rfl 99 (.tmp 3) (.tmp 7) rfl w1.heap.size (tabA 256) rfl rfl 99 (tabA 0) (Go.heap_alloc_new _ _) tab_size rfl (by kernel_rfl) ?_)
  have HT : Aside0 (((w1.alloc (.cells (tabA 0) 99)).setRow w1.heap.size (tabA 256)).heap[w1.heap.size]? = some (.cells (tabA 256) 99 (0, 0))) := ⟨setRow_heap _ _ _ _ _ _ (Go.heap_alloc_new _ _)⟩
  have HB2 : Aside0 (Below w.heap.size w ((w1.alloc (.cells (tabA 0) 99)).setRow w1.heap.size (tabA 256))) := ⟨below_setRow (below_alloc HB1.out _) HB1.out.size _⟩
  have HW := HT
  generalize hW : (w1.alloc (.cells (tabA 0) 99)).setRow w1.heap.size (tabA 256) = W at HT HB2
  rw [show (w1.alloc (Obj.cells Try.zeroCells99 99)).setRow w1.heap.size (tabA 256) = W from hW]
  clear hW HW
  have HR := Aside0.mk (Kd.C_below HR0.out (Below.mono HB2.out (Nat.le_refl _)))
  generalize w1.heap.size = G at HT ⊢
  go_loopw [10, 4] (fun i c wr => ∃ k : Nat, k ≤ l0.length ∧ i = .int .i64 k ∧ c = .int .u32 (crcOf (l0.take k)) ∧ wr = W) (fun i _ _ => l0.length - (intOf i).toNat)
  case atStart => exact ⟨0, by omega, rfl, rfl, rfl⟩
  case round =>
    obtain ⟨k, hk, rfl, rfl, rfl⟩ := hrel
    have hc := crcOf_bd (l0.take k)
    by_cases hlt : k < l0.length
    · have HN := Aside0.mk (crcOf_take l0 k hlt)
      generalize crcOf (l0.take k) = c at *
      obtain ⟨ad, e1, hx⟩ := Kd.at_int HR.out k (by omega) (by omega)
      cases e1
      rw [Int.toNat_natCast] at hx
      have hb8 := bits_u8 .xor (c % 256) (rd l0 k)
      have htab := tabA_get 256 (Go.bits .xor .u8 (c % 256) (rd l0 k)).toNat (by omega)
      rw [if_pos (by omega), Int.toNat_of_nonneg hb8.1] at htab
      have hcell := (cell_of_row _ _ (Go.bits .xor .u8 (c % 256) (rd l0 k)).toNat _ _ _ HT.out).trans htab
      clear htab
      unfold crcByte at HN
      go_wp2
      go_roundw
      case rel => exact ⟨k + 1, by omega, by go_num, by rw [HN.out], trivial⟩
      case measure => simp [intOf]; omega
    · have hk : k = l0.length := by omega
      subst hk
      rw [List.take_length] at *
      go_wp2
      go_ret
      refine ⟨?_, HB2.out⟩
      have hbd := bits_u32 .xor IntKind.u32.max (crcOf l0)
      rw [← HH.out]
      exact congrArg (fun z => Ending.returned (.int .i64 z)) (show wrap64 _ = _ by unfold wrap64; omega)

end Go.Proofs.Ytimfeiobdcmhnaa.PR
