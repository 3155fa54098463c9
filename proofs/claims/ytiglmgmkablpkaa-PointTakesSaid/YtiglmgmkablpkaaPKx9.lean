-- Written by a program of this session (wip/tools/hp.py) over the kit's print; nothing here is trusted: Lean checks it.
import Derived.Test.YtiglmgmkablpkaaPKx0
import Derived.Test.YtiglmgmkablpkaaPKx4
import Derived.Test.YtiglmgmkablpkaaPKx6
import Derived.RegionTactic
import Derived.BigRegion
import Derived.Test.YtiglmgmkablpkaaPointTake
import Derived.Test.YtiglmgmkablpkaaPKx2
import Derived.Test.YtiglmgmkablpkaaPKx7
import Derived.Test.YtiglmgmkablpkaaPKx8
namespace Go.Proofs.Ytiglmgmkablpkaa.PK
section
open Go.RowKit Go.Proofs.YtiglmgmkablpkaaW.PrintWords Go.Proofs.YtiglmgmkablpkaaW.PrintLast Go.Proofs.YtiglmgmkablpkaaW.PrintMore
attribute [local go_sem] max2_int min2_int max_two min_two max_three min_three max_four min_four   -- for this text's walks alone
set_option linter.unusedVariables false
set_option linter.unusedSimpArgs false

--OWN Derived.RegionTactic,Derived.BigRegion,Derived.Test.YtiglmgmkablpkaaPointTake
/-! ### glebelaw07_PointTakes: function 3 -/
def glebelaw07_PointTakes.T6 : Bool × List (List Nat × List Nat) := (true, [([], []), ([0], [0]), ([1, 1], [1]), ([], []), ([3, 2], [3]), ([2, 4], [2, 4]), ([5, 4], [5]), ([6], [6]), ([7, 6, 6], [6, 7]), ([8, 8, 6], [6, 8]), ([6], [6]), ([10, 6], [6, 10]), ([11, 6], [6, 11]), ([12, 6], [6, 12]), ([9, 13, 6], [6, 9, 13]), ([6, 14], [6, 14]), ([15, 9], [15]), ([16], [16]), ([17, 16, 16], [16, 17]), ([16], [16]), ([19, 18, 16], [16, 19]), ([18, 20, 16], [16, 18, 20]), ([16, 21], [16, 21])])
def glebelaw07_PointTakes.B6 : List Nat := [0, 1, 3, 0, 15, 31, 63, 127, 255, 511, 127, 1151, 3199, 7295, 16383, 32767, 65535, 131071, 262143, 131071, 1048575, 2097151, 4194303]
theorem glebelaw07_PointTakes.tab6 : rtab .any (opsOf Try.f3 6) = glebelaw07_PointTakes.T6 := by kernel_rfl
theorem glebelaw07_PointTakes.bits6 : waitsOk glebelaw07_PointTakes.T6.2 glebelaw07_PointTakes.B6 = true := by kernel_rfl
def glebelaw07_PointTakes.T10 : Bool × List (List Nat × List Nat) := (true, [([], []), ([0], [0]), ([1, 1], [1]), ([], []), ([3, 2], [3]), ([2, 4], [2, 4]), ([5, 4], [5]), ([6], [6]), ([7, 6, 6], [6, 7]), ([8, 8, 6], [6, 8]), ([6], [6]), ([10, 6], [6, 10]), ([11, 6], [6, 11]), ([12, 6], [6, 12]), ([9, 13, 6], [6, 9, 13]), ([6, 14], [6, 14]), ([15, 9], [15]), ([16], [16]), ([17, 16, 16], [16, 17]), ([16], [16]), ([19, 18, 16], [16, 19]), ([18, 20, 16], [16, 18, 20]), ([16, 21], [16, 21])])
def glebelaw07_PointTakes.B10 : List Nat := [0, 1, 3, 0, 15, 31, 63, 127, 255, 511, 127, 1151, 3199, 7295, 16383, 32767, 65535, 131071, 262143, 131071, 1048575, 2097151, 4194303]
theorem glebelaw07_PointTakes.tab10 : rtab .any (opsOf Try.f3 10) = glebelaw07_PointTakes.T10 := by kernel_rfl
theorem glebelaw07_PointTakes.bits10 : waitsOk glebelaw07_PointTakes.T10.2 glebelaw07_PointTakes.B10 = true := by kernel_rfl
def glebelaw07_PointTakes.T14 : Bool × List (List Nat × List Nat) := (true, [([], []), ([0], [0]), ([1, 1], [1]), ([], []), ([3, 2], [3]), ([2, 4], [2, 4]), ([5, 4], [5]), ([6], [6]), ([7, 6, 6], [6, 7]), ([8, 8, 6], [6, 8]), ([6], [6]), ([10, 6], [6, 10]), ([11, 6], [6, 11]), ([12, 6], [6, 12]), ([9, 13, 6], [6, 9, 13]), ([6, 14], [6, 14]), ([15, 9], [15]), ([16], [16]), ([17, 16, 16], [16, 17]), ([16], [16]), ([19, 18, 16], [16, 19]), ([18, 20, 16], [16, 18, 20]), ([16, 21], [16, 21]), ([22, 20], [22]), ([23], [23]), ([23], [23]), ([24, 25, 23, 23], [23, 24, 25]), ([23, 26], [23, 26]), ([27, 26], [27]), ([28, 28], [28]), ([28, 29], [28, 29]), ([30, 29, 0, 1, 2, 3, 4, 5, 6, 7, 8, 9, 10, 11, 12, 13, 14, 15, 16, 17, 18, 19, 20, 21, 22, 23, 24, 25, 26, 27, 28, 29, 30], [30])])
def glebelaw07_PointTakes.B14 : List Nat := [0, 1, 3, 0, 15, 31, 63, 127, 255, 511, 127, 1151, 3199, 7295, 16383, 32767, 65535, 131071, 262143, 131071, 1048575, 2097151, 4194303, 8388607, 16777215, 16777215, 67108863, 134217727, 268435455, 536870911, 1073741823, 2147483647]
theorem glebelaw07_PointTakes.tab14 : rtab .any (opsOf Try.f3 14) = glebelaw07_PointTakes.T14 := by kernel_rfl
theorem glebelaw07_PointTakes.bits14 : waitsOk glebelaw07_PointTakes.T14.2 glebelaw07_PointTakes.B14 = true := by kernel_rfl
/-- Bytes in a block of bytes. -/
structure TB (w : World) (A : Option Addr) (n : Nat) (l : List Int) : Prop where
 c : (Kd.int .u8).C w A n l
 t : ∀ ad, A = some ad → ∃ (cells : Array Value) (fz : Nat × Nat), w.heap[ad.block]? = some (.cells cells 5 fz)
theorem TB.move {w w' : World} {A : Option Addr} {n : Nat} {l : List Int} (h : TB w A n l) (h2 : ∀ (k : Nat) (cells : Array Value) (fz : Nat × Nat), w.heap[k]? = some (.cells cells 5 fz) → w'.heap[k]? = w.heap[k]?) : TB w' A n l :=
 ⟨C_block h.c fun ad hA => by
  obtain ⟨cells, fz, hc⟩ := h.t ad hA
  exact h2 _ _ _ hc, fun ad hA => by
  obtain ⟨cells, fz, hc⟩ := h.t ad hA
  exact ⟨cells, fz, (h2 _ _ _ hc).trans hc⟩⟩
theorem TB.below {w w' : World} {A : Option Addr} {n : Nat} {l : List Int} (h : TB w A n l) (hb : Below w.heap.size w w') : TB w' A n l := h.move fun k _ _ hk => hb.block k (heap_lt hk)
theorem TB.drew {w : World} {A : Option Addr} {n : Nat} {l : List Int} (h : TB w A n l) : TB w.drew A n l := h.below (below_drew (Below.refl _ _))
theorem TB.keep {w w' : World} {A : Option Addr} {n : Nat} {l : List Int} (h : TB w A n l) {g' : Nat} (hk : KeepBut w w' g' none) {cells' : Array Value} {t : TypeId} (hg : w.heap[g']? = some (.cells cells' t (0, 0))) (ht : t ≠ 5) : TB w' A n l :=
 h.move fun k cells fz hc => hk.2 k (heap_lt hc) (by
  rintro rfl
  rw [hg] at hc
  injection hc with hc
  injection hc with _ hc
  exact ht hc) (by simp)
theorem IsRdr.blk1 {w0 w : World} {g : Nat} {l : List Int} {e : Int} {m : Bool} (h : IsRdr w0 w g l e m) : ∃ cs, w.heap[g]? = some (.cells cs 81 (0, 0)) := by
 obtain ⟨A, c, q, _⟩ := h.blk
 exact ⟨_, q⟩
theorem IsS41.blk1 {w0 w : World} {g : Nat} {l : List Int} {a e : Int} (h : IsS41 w0 w g l a e) : ∃ cs, w.heap[g]? = some (.cells cs 41 (0, 0)) := by
 obtain ⟨A, c, q, _⟩ := h
 exact ⟨_, q⟩
theorem IsS41.keep {w0 W W1 : World} {g g' : Nat} {f0 : List Int} {f1 f2 : Int} (h : IsS41 w0 W g f0 f1 f2) (hk : KeepBut W W1 g' none) (hne : g ≠ g') : IsS41 w0 W1 g f0 f1 f2 := by
 obtain ⟨A0, c0, hb, hg, hr0⟩ := h
 exact ⟨A0, c0, hk.blk hb hne (by simp), hg, hr0⟩
theorem IsS41.cell2 {w0 W : World} {g : Nat} {f0 : List Int} {f1 f2 : Int} (h : IsS41 w0 W g f0 f1 f2) : W.cell? ⟨g, 2, none⟩ = some (.int .i64 f2) := by
 obtain ⟨A0, c0, hb, hg, hr0⟩ := h
 exact cellS41_2 hb
theorem rs_ne {w0 w : World} {g q : Nat} {l l2 : List Int} {e a2 e2 : Int} {m : Bool} (h : IsRdr w0 w g l e m) (hq : IsS41 w0 w q l2 a2 e2) : q ≠ g := by
 obtain ⟨c1, h1⟩ := h.blk1
 obtain ⟨c2, h2⟩ := IsS41.blk1 hq
 exact blk_ne h2 h1 (by decide)
/-- A reader stays while the document's one reads. -/
theorem rdr_keep {w0 w w' : World} {g q : Nat} {l l2 : List Int} {e a2 e2 : Int} {m : Bool} (h : IsRdr w0 w g l e m) (hq : IsS41 w0 w q l2 a2 e2) (hk : KeepBut w w' q none) : IsRdr w0 w' g l e m := by
 obtain ⟨c2, h2⟩ := IsS41.blk1 hq
 exact h.keep hk (rs_ne h hq) h2 (by decide)
theorem rec_same (v0 : Int) (v1 : Int) (v2 : ByteArray) (v3 : ByteArray) (v4 : Int) (W : World) : (Op.equalIn 10000 32 (.agg #[.int .i64 v0, .int .i64 v1, .string v2, .string v3, .int .i64 v4]) (.agg #[.int .i64 v0, .int .i64 v1, .string v2, .string v3, .int .i64 v4])).run Try.prog W = .ok true W := by
 have u0 := Try.underlying32
 have u30 := Try.underlying30
 have u3 := Try.underlying3
 have u4 := Try.underlying4
 have u9 := Try.underlying9
 rw [run_equalIn_struct W 9999 32 _ _ (by kernel_rfl) (by kernel_rfl)]
 go_simp
theorem op_same (v0 : Int) (v1 : Int) (v2 : Int) (v3 : ByteArray) (v4 : ByteArray) (v5 : Int) (v6 : Int) (W : World) : (Op.equalIn 10000 44 (.agg #[.int .i64 v0, .int .i64 v1, .int .i64 v2, .string v3, .string v4, .int .i64 v5, .int .i64 v6]) (.agg #[.int .i64 v0, .int .i64 v1, .int .i64 v2, .string v3, .string v4, .int .i64 v5, .int .i64 v6])).run Try.prog W = .ok true W := by
 have u0 := Try.underlying44
 have u30 := Try.underlying30
 have u3 := Try.underlying3
 have u4 := Try.underlying4
 have u9 := Try.underlying9
 rw [run_equalIn_struct W 9999 44 _ _ (by kernel_rfl) (by kernel_rfl)]
 go_simp
theorem ans_same (v0 : Int) (v1 : Bool) (v2 : ByteArray) (v3 : Int) (W : World) : (Op.equalIn 10000 50 (.agg #[.int .i64 v0, .bool v1, .string v2, .int .i64 v3]) (.agg #[.int .i64 v0, .bool v1, .string v2, .int .i64 v3])).run Try.prog W = .ok true W := by
 have u0 := Try.underlying50
 have u30 := Try.underlying30
 have u3 := Try.underlying3
 have u4 := Try.underlying4
 have u9 := Try.underlying9
 rw [run_equalIn_struct W 9999 50 _ _ (by kernel_rfl) (by kernel_rfl)]
 go_simp
def glebelaw07_PointTakes.f (k : Nat) (l0 : List Int) : Option Bool := if ∀ z ∈ l0, 0 ≤ z ∧ z < 256 then some true else none
set_option maxHeartbeats 16000000 in
set_option maxRecDepth 100000 in
theorem glebelaw07_PointTakes.calls (k : Nat) (A0 : Option Addr) (c0 : Nat) (l0 : List Int) (r : Bool) (w : World) (hr0 : Kd.C (Kd.int .u8) w A0 l0.length l0) (hc0 : l0.length ≤ c0) (h : glebelaw07_PointTakes.f k l0 = some r) :
  Calls Try.prog 3 #[.slice A0 l0.length c0] w fun e w' => e = .returned (.bool r) ∧ Below w.heap.size w w' := by
 unfold glebelaw07_PointTakes.f at h
 by_cases hb0 : ∀ z ∈ l0, 0 ≤ z ∧ z < 256
 rotate_left
 ·rw [if_neg hb0] at h
  cases h
 rw [if_pos hb0] at h
 obtain rfl := Option.some.inj h
 clear h
 have H0 := Aside0.mk hr0
 have HBY := Aside0.mk hb0
 clear hr0 hb0
 by_cases z : l0.length > 3000
 ·have zb : decide ((3000 : Int) < (l0.length : Int)) = true := decide_eq_true (by omega)
  have zn : decide (3000 < l0.length) = true := decide_eq_true z
  clear z
  go_enter Try.func3, Try.ntmps3
  go_wp2_with fail
  refine (glebelaw07_knows.calls true _ rfl).mono ?_
  rintro e w1 ⟨rfl, hb⟩
  have HB := Aside0.mk hb
  clear hb
  go_wp2
  go_ret
  exact ⟨rfl, HB.out⟩
 have zb : decide ((3000 : Int) < (l0.length : Int)) = false := decide_eq_false (by omega)
 have zn : decide (3000 < l0.length) = false := decide_eq_false z
 have HLE := Aside0.mk (show l0.length ≤ 3000 by omega)
 clear z
 go_enter Try.func3, Try.ntmps3
 go_wp2_with fail
 refine (glebelaw01_Lent.calls A0 c0 l0 l0 _ H0.out hc0 (if_pos (by have := HLE.out; omega))).mono ?_
 rintro e w1 ⟨v, rfl, ⟨hv, AL, cL, eL, hcL, hC⟩, hb⟩
 subst eL
 have HT := Aside0.mk (show TB w1 AL (l0.length + 2) (l0 ++ [71, 72]) from ⟨hC, fun ad hA => by
  obtain ⟨cells, hx⟩ := Kd.R_typed hv ad.block (by rw [hA]; simp [Value.ownBlock])
  exact ⟨cells, _, hx⟩⟩)
 have HV := Aside0.mk (show TB w1 AL l0.length l0 from ⟨(Kd.R_reads' hv).2.2, HT.out.t⟩)
 have HCL := Aside0.mk hcL
 have HB := Aside0.mk hb
 clear hv hC hb hcL zb zn
 go_wp2_with fail
 refine (wire_Open.calls AL cL l0 _ HV.out.c (by have := HCL.out; omega) (by have := HLE.out; omega)).mono ?_
 rintro e wo ⟨g, A2, c2, rfl, hg, hblk, hc2, hC2, hty, hb⟩
 have HI := Aside0.mk (show IsRdr w wo g l0 0 true from ⟨Nat.le_trans HB.out.size hg, A2, c2, hblk, hc2, hC2, hty⟩)
 replace HT := Aside0.mk (HT.out.below hb)
 replace HV := Aside0.mk (HV.out.below hb)
 replace HB := Aside0.mk (below_step HB.out hb)
 clear hg hblk hc2 hC2 hty hb
 go_wp2_with fail
 refine (gleberef01_Open.calls A0 c0 l0 l0 0 0 w _ HB.out H0.out hc0 rfl).mono ?_
 rintro e wq ⟨q, rfl, hq, hbw, hb⟩
 have HQ := Aside0.mk hq
 replace HI := Aside0.mk (HI.out.below hb)
 replace HT := Aside0.mk (HT.out.below hb)
 replace HV := Aside0.mk (HV.out.below hb)
 replace HB := Aside0.mk hbw
 clear hq hbw hb
 obtain ⟨px, l1, e1, py, l2, e2, key, l3, e3, val, l4, e4, ver, l5, e5, r, pa, k1, k2, k3, k4, k5, hrr, hag, hf⟩ := stage_rec (by have := HLE.out; omega) HBY.out
 have hzr := zero_row5 (tkE r e5) px py (strOfNums key) (strOfNums val) ver
 have hlf := ref_left (by have := HLE.out; omega) hag
 generalize (if tkE r e5 = 0 then px else 0) = v0 at hzr hf
 generalize (if tkE r e5 = 0 then py else 0) = v1 at hzr hf
 generalize (if tkE r e5 = 0 then (strOfNums key) else (⟨#[]⟩ : ByteArray)) = v2 at hzr hf
 generalize (if tkE r e5 = 0 then (strOfNums val) else (⟨#[]⟩ : ByteArray)) = v3 at hzr hf
 generalize (if tkE r e5 = 0 then ver else 0) = v4 at hzr hf
 obtain ⟨z, hz⟩ : ∃ z, z = tkE r e5 := ⟨_, rfl⟩
 rw [← hz] at hf hlf hzr
 obtain ⟨lf, hlx⟩ : ∃ x, x = (if rdOk z true then (l5.length : Int) else 0) := ⟨_, rfl⟩
 rw [← hlx] at hlf
 have HZ := Aside0.mk hz
 have HZR := Aside0.mk hzr
 have HF := Aside0.mk hf
 have HLF := Aside0.mk hlf
 have HLX := Aside0.mk hlx
 have HRR := Aside0.mk hrr
 have HKS := Aside0.mk (show rdNum l0 0 true = (px, l1, e1) ∧ rdNum l1 e1 true = (py, l2, e2) ∧ rdText l2 e2 true 32 = (key, l3, e3) ∧ rdText l3 e3 true 32 = (val, l4, e4) ∧ rdNum l4 e4 true = (ver, l5, e5) from ⟨k1, k2, k3, k4, k5⟩)
 have hpe := rec_same v0 v1 v2 v3 v4
 obtain ⟨pz, hpz⟩ : ∃ x : Int, x = (pa : Int) := ⟨_, rfl⟩
 rw [← hpz] at HF HLF
 clear hz hzr hf hlf hlx hrr hag hpz k1 k2 k3 k4 k5
 go_wp2_with fail
 refine start_ (n := 23) (S := fun w' => True) (ds := []) #[false, false, false, false, false, false, false, false, false, false, false, false, false, false, false, false, false, false, false, false, false, false, false] (by kernel_rfl) rfl rfl trivial (fun hHeld => ?_)
 refine with_tabW glebelaw07_PointTakes.tab6 glebelaw07_PointTakes.bits6 (fun HT_ HW_ => ?_)
 refine pure_ (i := 0) (N := some 16) (v := ?_) (a' := ?_) #[true, false, false, false, false, false, false, false, false, false, false, false, false, false, false, false, false, false, false, false, false, false, false] rfl rfl (any_of HT_.out (by kernel_rfl)) (fun _ _ _ h => h) (Or.inl ⟨by rfl, ?_⟩) ?_ ?_
 rotate_left
 ·intro w'
  go_simp
  with_reducible rfl
 rotate_left
 ·simp only [Act.put, List.setIfInBounds_toArray, List.set_cons_zero, List.set_cons_succ, i64_w, i32_w]
  rfl
 refine pure_ (i := 3) (N := some 19) (v := ?_) (a' := ?_) #[true, false, false, true, false, false, false, false, false, false, false, false, false, false, false, false, false, false, false, false, false, false, false] rfl rfl (any_of HT_.out (by kernel_rfl)) (fun _ _ _ h => h) (Or.inl ⟨by rfl, ?_⟩) ?_ ?_
 rotate_left
 ·intro w'
  go_simp
  with_reducible rfl
 rotate_left
 ·simp only [Act.put, List.setIfInBounds_toArray, List.set_cons_zero, List.set_cons_succ, i64_w, i32_w]
  rfl
 refine one_ (i := 1) (N := some 17) #[true, true, false, true, false, false, false, false, false, false, false, false, false, false, false, false, false, false, false, false, false, false, false] rfl rfl (one_of HT_.out (by kernel_rfl)) (by decide) (fun K hK => ?_)
 refine goes_ Try.func12 (by kernel_rfl) rfl #[.pointer (some ⟨g, 0, none⟩)] (by rfl) rfl rfl (by simp only [List.map_toArray, List.map_cons, List.map_nil]; rfl) ?_
 with_reducible refine (point_TakeRec.calls 100 g l0 0 px l1 e1 HKS.out.1 py l2 e2 HKS.out.2.1 key l3 e3 HKS.out.2.2.1 val l4 e4 HKS.out.2.2.2.1 ver l5 e5 HKS.out.2.2.2.2 r HRR.out w _ (by first | exact HI.out | exact HI.out.drew) (by first | exact HB.out | exact below_drew HB.out)).mono ?_
 rintro e wx ⟨rfl, hi, hbx, hk⟩
 refine ⟨_, rfl, ?_⟩
 rw [← HZ.out] at hi ⊢
 rw [HZR.out]
 replace HQ := Aside0.mk (IsS41.keep (by first | exact HQ.out | exact IsS41.drew HQ.out) hk (rs_ne HI.out HQ.out))
 obtain ⟨cs1, hcs1⟩ := HI.out.blk1
 replace HT := Aside0.mk (TB.keep (by first | exact HT.out | exact HT.out.drew) hk (by first | exact hcs1 | exact blk_drew hcs1) (by decide))
 replace HV := Aside0.mk (TB.keep (by first | exact HV.out | exact HV.out.drew) hk (by first | exact hcs1 | exact blk_drew hcs1) (by decide))
 replace HI := Aside0.mk hi
 replace HB := Aside0.mk hbx
 clear hi hbx hk hcs1
 refine hK.out _ _ trivial (fun hHeld => ?_)
 clear hK K
 refine norm_ (a' := ?_) ?_ ?_
 rotate_left
 ·show Act.put _ (some 17) _ = _
  simp only [Act.put, List.setIfInBounds_toArray, List.set_cons_zero, List.set_cons_succ, i64_w, i32_w]
  rfl
 refine one_ (i := 2) (N := some 18) #[true, true, true, true, false, false, false, false, false, false, false, false, false, false, false, false, false, false, false, false, false, false, false] rfl rfl (one_of HT_.out (by kernel_rfl)) (by decide) (fun K hK => ?_)
 refine goes_ Try.func11 (by kernel_rfl) rfl #[.agg #[.int .i64 v0, .int .i64 v1, .string v2, .string v3, .int .i64 v4]] (by rfl) rfl rfl (by simp only [List.map_toArray, List.map_cons, List.map_nil]; rfl) ?_
 with_reducible refine (glebelaw07_RefRec.calls v0 v1 v2 v3 v4 v0 v1 v2 v3 v4 _ rfl).mono ?_
 rintro e wx ⟨rfl, hbx⟩
 refine ⟨_, rfl, ?_⟩
 replace HI := Aside0.mk (IsRdr.below (by first | exact HI.out | exact HI.out.drew) hbx)
 replace HQ := Aside0.mk (IsS41.below (by first | exact HQ.out | exact IsS41.drew HQ.out) hbx)
 replace HT := Aside0.mk (TB.below (by first | exact HT.out | exact HT.out.drew) hbx)
 replace HV := Aside0.mk (TB.below (by first | exact HV.out | exact HV.out.drew) hbx)
 replace HB := Aside0.mk (show Below w.heap.size w wx from by first | exact below_step HB.out hbx | exact below_step (below_drew HB.out) hbx)
 clear hbx
 refine hK.out _ _ trivial (fun hHeld => ?_)
 clear hK K
 refine norm_ (a' := ?_) ?_ ?_
 rotate_left
 ·show Act.put _ (some 18) _ = _
  simp only [Act.put, List.setIfInBounds_toArray, List.set_cons_zero, List.set_cons_succ, i64_w, i32_w]
  rfl
 refine one_ (i := 4) (N := some 20) #[true, true, true, true, true, false, false, false, false, false, false, false, false, false, false, false, false, false, false, false, false, false, false] rfl rfl (one_of HT_.out (by kernel_rfl)) (by decide) (fun K hK => ?_)
 refine goes_ Try.func13 (by kernel_rfl) rfl #[.pointer (some ⟨q, 0, none⟩)] (by rfl) rfl rfl (by simp only [List.map_toArray, List.map_cons, List.map_nil]; rfl) ?_
 with_reducible refine (gleberef07_TakeRec.calls 100 q l0 0 0 v0 v1 v2 v3 v4 pz z w _ HQ.out HB.out HF.out).mono ?_
 rintro e wx ⟨rfl, hq, hb, hk⟩
 refine ⟨_, rfl, ?_⟩
 replace HI := Aside0.mk (rdr_keep HI.out HQ.out hk)
 obtain ⟨cs1, hcs1⟩ := IsS41.blk1 HQ.out
 replace HT := Aside0.mk (HT.out.keep hk hcs1 (by decide))
 replace HV := Aside0.mk (HV.out.keep hk hcs1 (by decide))
 replace HQ := Aside0.mk hq
 replace HB := Aside0.mk hb
 clear hq hb hk hcs1
 refine hK.out _ _ trivial (fun hHeld => ?_)
 clear hK K
 refine norm_ (a' := ?_) ?_ ?_
 rotate_left
 ·show Act.put _ (some 20) _ = _
  simp only [Act.put, List.setIfInBounds_toArray, List.set_cons_zero, List.set_cons_succ, i64_w, i32_w]
  rfl
 refine pure_ (i := 5) (N := some 21) (v := ?_) (a' := ?_) #[true, true, true, true, true, true, false, false, false, false, false, false, false, false, false, false, false, false, false, false, false, false, false] rfl rfl (any_of HT_.out (by kernel_rfl)) (fun _ _ _ h => h) (Or.inl ⟨by rfl, ?_⟩) ?_ ?_
 rotate_left
 ·intro w'
  go_simp
  with_reducible rfl
 rotate_left
 ·simp only [Act.put, List.setIfInBounds_toArray, List.set_cons_zero, List.set_cons_succ, i64_w, i32_w]
  rfl
 refine pure_ (i := 6) (N := some 22) (v := ?_) (a' := ?_) #[true, true, true, true, true, true, true, false, false, false, false, false, false, false, false, false, false, false, false, false, false, false, false] rfl rfl (any_of HT_.out (by kernel_rfl)) (fun _ _ _ h => h) (Or.inl ⟨by rfl, ?_⟩) ?_ ?_
 rotate_left
 ·intro w'
  go_simp
  with_reducible rfl
 rotate_left
 ·simp only [Act.put, List.setIfInBounds_toArray, List.set_cons_zero, List.set_cons_succ, i64_w, i32_w]
  rfl
 refine pure_ (i := 7) (N := some 23) (v := ?_) (a' := ?_) #[true, true, true, true, true, true, true, true, false, false, false, false, false, false, false, false, false, false, false, false, false, false, false] rfl rfl (any_of HT_.out (by kernel_rfl)) (fun _ _ _ h => h) (Or.inl ⟨by rfl, ?_⟩) ?_ ?_
 rotate_left
 ·intro w'
  go_simp
  with_reducible rfl
 rotate_left
 ·simp only [Act.put, List.setIfInBounds_toArray, List.set_cons_zero, List.set_cons_succ, i64_w, i32_w]
  rfl
 refine pure_ (i := 10) (N := some 26) (v := ?_) (a' := ?_) #[true, true, true, true, true, true, true, true, false, false, true, false, false, false, false, false, false, false, false, false, false, false, false] rfl rfl (any_of HT_.out (by kernel_rfl)) (fun _ _ _ h => h) (Or.inl ⟨by rfl, ?_⟩) ?_ ?_
 rotate_left
 ·intro w'
  go_simp
  with_reducible rfl
 rotate_left
 ·simp only [Act.put, List.setIfInBounds_toArray, List.set_cons_zero, List.set_cons_succ, i64_w, i32_w]
  rfl
 refine pure_ (i := 11) (N := some 27) (v := ?_) (a' := ?_) #[true, true, true, true, true, true, true, true, false, false, true, true, false, false, false, false, false, false, false, false, false, false, false] rfl rfl (any_of HT_.out (by kernel_rfl)) (fun _ _ _ h => h) (Or.inl ⟨by rfl, ?_⟩) ?_ ?_
 rotate_left
 ·intro w'
  go_simp
  with_reducible rfl
 rotate_left
 ·simp only [Act.put, List.setIfInBounds_toArray, List.set_cons_zero, List.set_cons_succ, i64_w, i32_w]
  rfl
 refine pure_ (i := 12) (N := some 28) (v := ?_) (a' := ?_) #[true, true, true, true, true, true, true, true, false, false, true, true, true, false, false, false, false, false, false, false, false, false, false] rfl rfl (any_of HT_.out (by kernel_rfl)) (fun _ _ _ h => h) (Or.inl ⟨by rfl, ?_⟩) ?_ ?_
 rotate_left
 ·intro w'
  go_simp
  with_reducible rfl
 rotate_left
 ·simp only [Act.put, List.setIfInBounds_toArray, List.set_cons_zero, List.set_cons_succ, i64_w, i32_w]
  rfl
 refine join_ (σ := Unit) 9 #[true, true, true, true, true, true, true, true, true, true, true, true, true, true, false, false, false, false, false, false, false, false, false] (fun _ => [(24, .int .i64 z), (25, .int .i64 z), (29, .int .i64 z)]) (fun (_ : Unit) (wj : World) => IsRdr w wj g l5 z true ∧ IsS41 w wj q l0 pz z ∧ TB wj AL (l0.length + 2) (l0 ++ [71, 72]) ∧ TB wj AL l0.length l0 ∧ Below w.heap.size w wj) ?_ ?_
 rotate_left
 ·intro hCont
  refine two_ (i := 8) (j := 13) (Ni := some 24) (Nj := some 29) #[true, true, true, true, true, true, true, true, true, false, true, true, true, false, false, false, false, false, false, false, false, false, false] #[true, true, true, true, true, true, true, true, false, false, true, true, true, true, false, false, false, false, false, false, false, false, false] rfl rfl rfl rfl (two_of HT_.out (by kernel_rfl)) (by decide) (by decide) (fun K hK => ?_) (fun K hK => ?_)
  ·skip
   refine goes_ Try.func15 (by kernel_rfl) rfl #[.pointer (some ⟨g, 0, none⟩)] (by rfl) rfl rfl (by simp only [List.map_toArray, List.map_cons, List.map_nil]; rfl) ?_
   with_reducible refine (wire_Reader_Err.calls g l5 z true w _ HI.out).mono ?_
   rintro e wx ⟨rfl, rfl⟩
   refine ⟨_, rfl, ?_⟩
   rw [if_pos (rfl : true = true)]
   refine hK.out _ _ trivial (fun hHeld => ?_)
   clear hK K
   refine norm_ (a' := ?_) ?_ ?_
   rotate_left
   ·show Act.put _ (some 24) _ = _
    simp only [Act.put, List.setIfInBounds_toArray, List.set_cons_zero, List.set_cons_succ, i64_w, i32_w]
    rfl
   refine two_ (i := 9) (j := 13) (Ni := some 25) (Nj := some 29) #[true, true, true, true, true, true, true, true, true, true, true, true, true, false, false, false, false, false, false, false, false, false, false] #[true, true, true, true, true, true, true, true, true, false, true, true, true, true, false, false, false, false, false, false, false, false, false] rfl rfl rfl rfl (two_of HT_.out (by kernel_rfl)) (by decide) (by decide) (fun K hK => ?_) (fun K hK => ?_)
   ·skip
    refine goes_ Try.func14 (by kernel_rfl) rfl #[.int .i64 z] (by rfl) rfl rfl (by simp only [List.map_toArray, List.map_cons, List.map_nil]; rfl) ?_
    with_reducible refine (glebelaw07_num.calls z z _ rfl).mono ?_
    rintro e wx ⟨rfl, hbx0⟩
    refine ⟨_, rfl, ?_⟩
    have hbx := drawn_below hbx0
    replace HI := Aside0.mk (IsRdr.below (by first | exact HI.out | exact HI.out.drew) hbx)
    replace HQ := Aside0.mk (IsS41.below (by first | exact HQ.out | exact IsS41.drew HQ.out) hbx)
    replace HT := Aside0.mk (TB.below (by first | exact HT.out | exact HT.out.drew) hbx)
    replace HV := Aside0.mk (TB.below (by first | exact HV.out | exact HV.out.drew) hbx)
    replace HB := Aside0.mk (show Below w.heap.size w wx from by first | exact below_step HB.out hbx | exact below_step (below_drew HB.out) hbx)
    clear hbx
    clear hbx0
    have hE := IsS41.cell2 HQ.out
    refine hK.out _ _ trivial (fun hHeld => ?_)
    clear hK K
    refine norm_ (a' := ?_) ?_ ?_
    rotate_left
    ·show Act.put _ (some 25) _ = _
     simp only [Act.put, List.setIfInBounds_toArray, List.set_cons_zero, List.set_cons_succ, i64_w, i32_w]
     rfl
    refine one_ (i := 13) (N := some 29) #[true, true, true, true, true, true, true, true, true, true, true, true, true, true, false, false, false, false, false, false, false, false, false] rfl rfl (one_of HT_.out (by kernel_rfl)) (by decide) (fun K hK => ?_)
    have hE := IsS41.cell2 HQ.out
    refine value_ (w1 := ?_) (v := ?_) (by rfl) rfl ?_ ?_
    rotate_left 2
    ·go_simp
     constructor
     ·rfl
     ·rfl
    refine hK.out _ _ trivial (fun hHeld => ?_)
    clear hK K
    refine norm_ (a' := ?_) ?_ ?_
    rotate_left
    ·show Act.put _ (some 29) _ = _
     simp only [Act.put, List.setIfInBounds_toArray, List.set_cons_zero, List.set_cons_succ, i64_w, i32_w]
     rfl
    exact norm_ (by simp only [putAll, Act.put, List.setIfInBounds_toArray, List.set_cons_zero, List.set_cons_succ]) (hCont () _ ⟨HI.out, HQ.out, HT.out, HV.out, HB.out⟩)
   ·skip
    have hE := IsS41.cell2 HQ.out
    refine value_ (w1 := ?_) (v := ?_) (by rfl) rfl ?_ ?_
    rotate_left 2
    ·go_simp
     constructor
     ·rfl
     ·rfl
    refine hK.out _ _ trivial (fun hHeld => ?_)
    clear hK K
    refine norm_ (a' := ?_) ?_ ?_
    rotate_left
    ·show Act.put _ (some 29) _ = _
     simp only [Act.put, List.setIfInBounds_toArray, List.set_cons_zero, List.set_cons_succ, i64_w, i32_w]
     rfl
    refine one_ (i := 9) (N := some 25) #[true, true, true, true, true, true, true, true, true, true, true, true, true, true, false, false, false, false, false, false, false, false, false] rfl rfl (one_of HT_.out (by kernel_rfl)) (by decide) (fun K hK => ?_)
    refine goes_ Try.func14 (by kernel_rfl) rfl #[.int .i64 z] (by rfl) rfl rfl (by simp only [List.map_toArray, List.map_cons, List.map_nil]; rfl) ?_
    with_reducible refine (glebelaw07_num.calls z z _ rfl).mono ?_
    rintro e wx ⟨rfl, hbx0⟩
    refine ⟨_, rfl, ?_⟩
    have hbx := drawn_below hbx0
    replace HI := Aside0.mk (IsRdr.below (by first | exact HI.out | exact HI.out.drew) hbx)
    replace HQ := Aside0.mk (IsS41.below (by first | exact HQ.out | exact IsS41.drew HQ.out) hbx)
    replace HT := Aside0.mk (TB.below (by first | exact HT.out | exact HT.out.drew) hbx)
    replace HV := Aside0.mk (TB.below (by first | exact HV.out | exact HV.out.drew) hbx)
    replace HB := Aside0.mk (show Below w.heap.size w wx from by first | exact below_step HB.out hbx | exact below_step (below_drew HB.out) hbx)
    clear hbx
    clear hbx0
    have hE := IsS41.cell2 HQ.out
    refine hK.out _ _ trivial (fun hHeld => ?_)
    clear hK K
    refine norm_ (a' := ?_) ?_ ?_
    rotate_left
    ·show Act.put _ (some 25) _ = _
     simp only [Act.put, List.setIfInBounds_toArray, List.set_cons_zero, List.set_cons_succ, i64_w, i32_w]
     rfl
    exact norm_ (by simp only [putAll, Act.put, List.setIfInBounds_toArray, List.set_cons_zero, List.set_cons_succ]) (hCont () _ ⟨HI.out, HQ.out, HT.out, HV.out, HB.out⟩)
  ·skip
   have hE := IsS41.cell2 HQ.out
   refine value_ (w1 := ?_) (v := ?_) (by rfl) rfl ?_ ?_
   rotate_left 2
   ·go_simp
    constructor
    ·rfl
    ·rfl
   refine hK.out _ _ trivial (fun hHeld => ?_)
   clear hK K
   refine norm_ (a' := ?_) ?_ ?_
   rotate_left
   ·show Act.put _ (some 29) _ = _
    simp only [Act.put, List.setIfInBounds_toArray, List.set_cons_zero, List.set_cons_succ, i64_w, i32_w]
    rfl
   refine one_ (i := 8) (N := some 24) #[true, true, true, true, true, true, true, true, true, false, true, true, true, true, false, false, false, false, false, false, false, false, false] rfl rfl (one_of HT_.out (by kernel_rfl)) (by decide) (fun K hK => ?_)
   refine goes_ Try.func15 (by kernel_rfl) rfl #[.pointer (some ⟨g, 0, none⟩)] (by rfl) rfl rfl (by simp only [List.map_toArray, List.map_cons, List.map_nil]; rfl) ?_
   with_reducible refine (wire_Reader_Err.calls g l5 z true w _ HI.out).mono ?_
   rintro e wx ⟨rfl, rfl⟩
   refine ⟨_, rfl, ?_⟩
   rw [if_pos (rfl : true = true)]
   refine hK.out _ _ trivial (fun hHeld => ?_)
   clear hK K
   refine norm_ (a' := ?_) ?_ ?_
   rotate_left
   ·show Act.put _ (some 24) _ = _
    simp only [Act.put, List.setIfInBounds_toArray, List.set_cons_zero, List.set_cons_succ, i64_w, i32_w]
    rfl
   refine one_ (i := 9) (N := some 25) #[true, true, true, true, true, true, true, true, true, true, true, true, true, true, false, false, false, false, false, false, false, false, false] rfl rfl (one_of HT_.out (by kernel_rfl)) (by decide) (fun K hK => ?_)
   refine goes_ Try.func14 (by kernel_rfl) rfl #[.int .i64 z] (by rfl) rfl rfl (by simp only [List.map_toArray, List.map_cons, List.map_nil]; rfl) ?_
   with_reducible refine (glebelaw07_num.calls z z _ rfl).mono ?_
   rintro e wx ⟨rfl, hbx0⟩
   refine ⟨_, rfl, ?_⟩
   have hbx := drawn_below hbx0
   replace HI := Aside0.mk (IsRdr.below (by first | exact HI.out | exact HI.out.drew) hbx)
   replace HQ := Aside0.mk (IsS41.below (by first | exact HQ.out | exact IsS41.drew HQ.out) hbx)
   replace HT := Aside0.mk (TB.below (by first | exact HT.out | exact HT.out.drew) hbx)
   replace HV := Aside0.mk (TB.below (by first | exact HV.out | exact HV.out.drew) hbx)
   replace HB := Aside0.mk (show Below w.heap.size w wx from by first | exact below_step HB.out hbx | exact below_step (below_drew HB.out) hbx)
   clear hbx
   clear hbx0
   have hE := IsS41.cell2 HQ.out
   refine hK.out _ _ trivial (fun hHeld => ?_)
   clear hK K
   refine norm_ (a' := ?_) ?_ ?_
   rotate_left
   ·show Act.put _ (some 25) _ = _
    simp only [Act.put, List.setIfInBounds_toArray, List.set_cons_zero, List.set_cons_succ, i64_w, i32_w]
    rfl
   exact norm_ (by simp only [putAll, Act.put, List.setIfInBounds_toArray, List.set_cons_zero, List.set_cons_succ]) (hCont () _ ⟨HI.out, HQ.out, HT.out, HV.out, HB.out⟩)
 rintro s_ wx ⟨hI_, hQ_, hT_, hV_, hB_⟩
 clear HI HQ HT HV HB
 have HI := Aside0.mk hI_
 have HQ := Aside0.mk hQ_
 have HT := Aside0.mk hT_
 have HV := Aside0.mk hV_
 have HB := Aside0.mk hB_
 clear hI_ hQ_ hT_ hV_ hB_ s_
 have hHeld : True := trivial
 refine norm_ (a' := ?_) ?_ ?_
 rotate_left
 ·simp only [putAll, Act.put, List.setIfInBounds_toArray, List.set_cons_zero, List.set_cons_succ]
  rfl
 refine pure_ (i := 14) (N := some 30) (v := ?_) (a' := ?_) #[true, true, true, true, true, true, true, true, true, true, true, true, true, true, true, false, false, false, false, false, false, false, false] rfl rfl (any_of HT_.out (by kernel_rfl)) (fun _ _ _ h => h) (Or.inl ⟨by rfl, ?_⟩) ?_ ?_
 rotate_left
 ·intro w'
  go_simp
  with_reducible rfl
 rotate_left
 ·simp only [Act.put, List.setIfInBounds_toArray, List.set_cons_zero, List.set_cons_succ, i64_w, i32_w]
  rfl
 refine pure_ (i := 15) (N := some 31) (v := ?_) (a' := ?_) #[true, true, true, true, true, true, true, true, true, true, true, true, true, true, true, true, false, false, false, false, false, false, false] rfl rfl (any_of HT_.out (by kernel_rfl)) (fun _ _ _ h => h) (Or.inl ⟨by rfl, ?_⟩) ?_ ?_
 rotate_left
 ·intro w'
  go_simp
  with_reducible rfl
 rotate_left
 ·simp only [Act.put, List.setIfInBounds_toArray, List.set_cons_zero, List.set_cons_succ, i64_w, i32_w]
  rfl
 refine pure_ (i := 16) (N := some 32) (v := ?_) (a' := ?_) #[true, true, true, true, true, true, true, true, true, true, true, true, true, true, true, true, true, false, false, false, false, false, false] rfl rfl (any_of HT_.out (by kernel_rfl)) (fun _ _ _ h => h) (Or.inl ⟨by rfl, ?_⟩) ?_ ?_
 rotate_left
 ·intro w'
  go_simp
  with_reducible rfl
 rotate_left
 ·simp only [Act.put, List.setIfInBounds_toArray, List.set_cons_zero, List.set_cons_succ, i64_w, i32_w]
  rfl
 refine pure_ (i := 17) (N := some 33) (v := ?_) (a' := ?_) #[true, true, true, true, true, true, true, true, true, true, true, true, true, true, true, true, true, true, false, false, false, false, false] rfl rfl (any_of HT_.out (by kernel_rfl)) (fun _ _ _ h => h) (Or.inl ⟨by rfl, ?_⟩) ?_ ?_
 rotate_left
 ·intro w'
  go_simp
  with_reducible rfl
 rotate_left
 ·simp only [Act.put, List.setIfInBounds_toArray, List.set_cons_zero, List.set_cons_succ, i64_w, i32_w]
  rfl
 refine pure_ (i := 19) (N := some 35) (v := ?_) (a' := ?_) #[true, true, true, true, true, true, true, true, true, true, true, true, true, true, true, true, true, true, false, true, false, false, false] rfl rfl (any_of HT_.out (by kernel_rfl)) (fun _ _ _ h => h) (Or.inl ⟨by rfl, ?_⟩) ?_ ?_
 rotate_left
 ·intro w'
  go_simp
  with_reducible rfl
 rotate_left
 ·simp only [Act.put, List.setIfInBounds_toArray, List.set_cons_zero, List.set_cons_succ, i64_w, i32_w]
  rfl
 refine one_ (i := 18) (N := some 34) #[true, true, true, true, true, true, true, true, true, true, true, true, true, true, true, true, true, true, true, true, false, false, false] rfl rfl (one_of HT_.out (by kernel_rfl)) (by decide) (fun K hK => ?_)
 refine goes_ Try.func16 (by kernel_rfl) rfl #[.pointer (some ⟨g, 0, none⟩)] (by rfl) rfl rfl (by simp only [List.map_toArray, List.map_cons, List.map_nil]; rfl) ?_
 with_reducible refine (wire_Reader_Left.calls g l5 z true w _ HI.out).mono ?_
 rintro e wx ⟨rfl, rfl⟩
 refine ⟨_, rfl, ?_⟩
 rw [← HLX.out]
 refine hK.out _ _ trivial (fun hHeld => ?_)
 clear hK K
 refine norm_ (a' := ?_) ?_ ?_
 rotate_left
 ·show Act.put _ (some 34) _ = _
  simp only [Act.put, List.setIfInBounds_toArray, List.set_cons_zero, List.set_cons_succ, i64_w, i32_w]
  rfl
 refine one_ (i := 20) (N := some 36) #[true, true, true, true, true, true, true, true, true, true, true, true, true, true, true, true, true, true, true, true, true, false, false] rfl rfl (one_of HT_.out (by kernel_rfl)) (by decide) (fun K hK => ?_)
 refine goes_ Try.func17 (by kernel_rfl) rfl #[.pointer (some ⟨q, 0, none⟩)] (by rfl) rfl rfl (by simp only [List.map_toArray, List.map_cons, List.map_nil]; rfl) ?_
 with_reducible refine (gleberef01_Reader_Left.calls q l0 pz z lf pz z w _ HQ.out HB.out HLF.out).mono ?_
 rintro e wx ⟨rfl, hq, hb, hk⟩
 refine ⟨_, rfl, ?_⟩
 replace HI := Aside0.mk (rdr_keep HI.out HQ.out hk)
 obtain ⟨cs1, hcs1⟩ := IsS41.blk1 HQ.out
 replace HT := Aside0.mk (HT.out.keep hk hcs1 (by decide))
 replace HV := Aside0.mk (HV.out.keep hk hcs1 (by decide))
 replace HQ := Aside0.mk hq
 replace HB := Aside0.mk hb
 clear hq hb hk hcs1
 refine hK.out _ _ trivial (fun hHeld => ?_)
 clear hK K
 refine norm_ (a' := ?_) ?_ ?_
 rotate_left
 ·show Act.put _ (some 36) _ = _
  simp only [Act.put, List.setIfInBounds_toArray, List.set_cons_zero, List.set_cons_succ, i64_w, i32_w]
  rfl
 refine pure_ (i := 21) (N := some 37) (v := ?_) (a' := ?_) #[true, true, true, true, true, true, true, true, true, true, true, true, true, true, true, true, true, true, true, true, true, true, false] rfl rfl (any_of HT_.out (by kernel_rfl)) (fun _ _ _ h => h) (Or.inl ⟨by rfl, ?_⟩) ?_ ?_
 rotate_left
 ·intro w'
  go_simp
  with_reducible rfl
 rotate_left
 ·simp only [Act.put, List.setIfInBounds_toArray, List.set_cons_zero, List.set_cons_succ, i64_w, i32_w]
  rfl
 refine pure_ (i := 22) (N := some 38) (v := ?_) (a' := ?_) #[true, true, true, true, true, true, true, true, true, true, true, true, true, true, true, true, true, true, true, true, true, true, true] rfl rfl (any_of HT_.out (by kernel_rfl)) (fun _ _ _ h => h) (Or.inl ⟨by rfl, ?_⟩) ?_ ?_
 rotate_left
 ·intro w'
  go_simp
  with_reducible rfl
 rotate_left
 ·simp only [Act.put, List.setIfInBounds_toArray, List.set_cons_zero, List.set_cons_succ, i64_w, i32_w]
  rfl
 refine done_ (done_of HT_.out (by kernel_rfl)) ?_
 clear HI HQ HZ HZR HF HLF HLX HRR HKS hpe
 go_wp2_with fail
 refine (wire_Open.calls AL cL l0 _ HV.out.c (by have := HCL.out; omega) (by have := HLE.out; omega)).mono ?_
 rintro e wo ⟨g, A2, c2, rfl, hg, hblk, hc2, hC2, hty, hb⟩
 have HI := Aside0.mk (show IsRdr w wo g l0 0 true from ⟨Nat.le_trans HB.out.size hg, A2, c2, hblk, hc2, hC2, hty⟩)
 replace HT := Aside0.mk (HT.out.below hb)
 replace HV := Aside0.mk (HV.out.below hb)
 replace HB := Aside0.mk (below_step HB.out hb)
 clear hg hblk hc2 hC2 hty hb
 go_wp2_with fail
 refine (gleberef01_Open.calls A0 c0 l0 l0 0 0 w _ HB.out H0.out hc0 rfl).mono ?_
 rintro e wq ⟨q, rfl, hq, hbw, hb⟩
 have HQ := Aside0.mk hq
 replace HI := Aside0.mk (HI.out.below hb)
 replace HT := Aside0.mk (HT.out.below hb)
 replace HV := Aside0.mk (HV.out.below hb)
 replace HB := Aside0.mk hbw
 clear hq hbw hb
 obtain ⟨kd, l1, e1, px, l2, e2, py, l3, e3, key, l4, e4, val, l5, e5, cli, l6, e6, seq, l7, e7, r, pa, k1, k2, k3, k4, k5, k6, k7, hrr, hag, hf⟩ := stage_op (by have := HLE.out; omega) HBY.out
 have hzr := zero_row7 (tkE r e7) kd px py (strOfNums key) (strOfNums val) cli seq
 have hlf := ref_left (by have := HLE.out; omega) hag
 generalize (if tkE r e7 = 0 then kd else 0) = v0 at hzr hf
 generalize (if tkE r e7 = 0 then px else 0) = v1 at hzr hf
 generalize (if tkE r e7 = 0 then py else 0) = v2 at hzr hf
 generalize (if tkE r e7 = 0 then (strOfNums key) else (⟨#[]⟩ : ByteArray)) = v3 at hzr hf
 generalize (if tkE r e7 = 0 then (strOfNums val) else (⟨#[]⟩ : ByteArray)) = v4 at hzr hf
 generalize (if tkE r e7 = 0 then cli else 0) = v5 at hzr hf
 generalize (if tkE r e7 = 0 then seq else 0) = v6 at hzr hf
 obtain ⟨z, hz⟩ : ∃ z, z = tkE r e7 := ⟨_, rfl⟩
 rw [← hz] at hf hlf hzr
 obtain ⟨lf, hlx⟩ : ∃ x, x = (if rdOk z true then (l7.length : Int) else 0) := ⟨_, rfl⟩
 rw [← hlx] at hlf
 have HZ := Aside0.mk hz
 have HZR := Aside0.mk hzr
 have HF := Aside0.mk hf
 have HLF := Aside0.mk hlf
 have HLX := Aside0.mk hlx
 have HRR := Aside0.mk hrr
 have HKS := Aside0.mk (show rdNum l0 0 true = (kd, l1, e1) ∧ rdNum l1 e1 true = (px, l2, e2) ∧ rdNum l2 e2 true = (py, l3, e3) ∧ rdText l3 e3 true 32 = (key, l4, e4) ∧ rdText l4 e4 true 32 = (val, l5, e5) ∧ rdNum l5 e5 true = (cli, l6, e6) ∧ rdNum l6 e6 true = (seq, l7, e7) from ⟨k1, k2, k3, k4, k5, k6, k7⟩)
 have hpe := op_same v0 v1 v2 v3 v4 v5 v6
 obtain ⟨pz, hpz⟩ : ∃ x : Int, x = (pa : Int) := ⟨_, rfl⟩
 rw [← hpz] at HF HLF
 clear hz hzr hf hlf hlx hrr hag hpz k1 k2 k3 k4 k5 k6 k7
 go_wp2_with fail
 refine start_ (n := 23) (S := fun w' => True) (ds := []) #[false, false, false, false, false, false, false, false, false, false, false, false, false, false, false, false, false, false, false, false, false, false, false] (by kernel_rfl) rfl rfl trivial (fun hHeld => ?_)
 refine with_tabW glebelaw07_PointTakes.tab10 glebelaw07_PointTakes.bits10 (fun HT_ HW_ => ?_)
 refine pure_ (i := 0) (N := some 43) (v := ?_) (a' := ?_) #[true, false, false, false, false, false, false, false, false, false, false, false, false, false, false, false, false, false, false, false, false, false, false] rfl rfl (any_of HT_.out (by kernel_rfl)) (fun _ _ _ h => h) (Or.inl ⟨by rfl, ?_⟩) ?_ ?_
 rotate_left
 ·intro w'
  go_simp
  with_reducible rfl
 rotate_left
 ·simp only [Act.put, List.setIfInBounds_toArray, List.set_cons_zero, List.set_cons_succ, i64_w, i32_w]
  rfl
 refine pure_ (i := 3) (N := some 46) (v := ?_) (a' := ?_) #[true, false, false, true, false, false, false, false, false, false, false, false, false, false, false, false, false, false, false, false, false, false, false] rfl rfl (any_of HT_.out (by kernel_rfl)) (fun _ _ _ h => h) (Or.inl ⟨by rfl, ?_⟩) ?_ ?_
 rotate_left
 ·intro w'
  go_simp
  with_reducible rfl
 rotate_left
 ·simp only [Act.put, List.setIfInBounds_toArray, List.set_cons_zero, List.set_cons_succ, i64_w, i32_w]
  rfl
 refine one_ (i := 1) (N := some 44) #[true, true, false, true, false, false, false, false, false, false, false, false, false, false, false, false, false, false, false, false, false, false, false] rfl rfl (one_of HT_.out (by kernel_rfl)) (by decide) (fun K hK => ?_)
 refine goes_ Try.func19 (by kernel_rfl) rfl #[.pointer (some ⟨g, 0, none⟩)] (by rfl) rfl rfl (by simp only [List.map_toArray, List.map_cons, List.map_nil]; rfl) ?_
 with_reducible refine (point_TakeOp.calls 100 g l0 0 kd l1 e1 HKS.out.1 px l2 e2 HKS.out.2.1 py l3 e3 HKS.out.2.2.1 key l4 e4 HKS.out.2.2.2.1 val l5 e5 HKS.out.2.2.2.2.1 cli l6 e6 HKS.out.2.2.2.2.2.1 seq l7 e7 HKS.out.2.2.2.2.2.2 r HRR.out w _ (by first | exact HI.out | exact HI.out.drew) (by first | exact HB.out | exact below_drew HB.out)).mono ?_
 rintro e wx ⟨rfl, hi, hbx, hk⟩
 refine ⟨_, rfl, ?_⟩
 rw [← HZ.out] at hi ⊢
 rw [HZR.out]
 replace HQ := Aside0.mk (IsS41.keep (by first | exact HQ.out | exact IsS41.drew HQ.out) hk (rs_ne HI.out HQ.out))
 obtain ⟨cs1, hcs1⟩ := HI.out.blk1
 replace HT := Aside0.mk (TB.keep (by first | exact HT.out | exact HT.out.drew) hk (by first | exact hcs1 | exact blk_drew hcs1) (by decide))
 replace HV := Aside0.mk (TB.keep (by first | exact HV.out | exact HV.out.drew) hk (by first | exact hcs1 | exact blk_drew hcs1) (by decide))
 replace HI := Aside0.mk hi
 replace HB := Aside0.mk hbx
 clear hi hbx hk hcs1
 refine hK.out _ _ trivial (fun hHeld => ?_)
 clear hK K
 refine norm_ (a' := ?_) ?_ ?_
 rotate_left
 ·show Act.put _ (some 44) _ = _
  simp only [Act.put, List.setIfInBounds_toArray, List.set_cons_zero, List.set_cons_succ, i64_w, i32_w]
  rfl
 refine one_ (i := 2) (N := some 45) #[true, true, true, true, false, false, false, false, false, false, false, false, false, false, false, false, false, false, false, false, false, false, false] rfl rfl (one_of HT_.out (by kernel_rfl)) (by decide) (fun K hK => ?_)
 refine goes_ Try.func18 (by kernel_rfl) rfl #[.agg #[.int .i64 v0, .int .i64 v1, .int .i64 v2, .string v3, .string v4, .int .i64 v5, .int .i64 v6]] (by rfl) rfl rfl (by simp only [List.map_toArray, List.map_cons, List.map_nil]; rfl) ?_
 with_reducible refine (glebelaw07_RefOp.calls v0 v1 v2 v3 v4 v5 v6 v0 v1 v2 v3 v4 v5 v6 _ rfl).mono ?_
 rintro e wx ⟨rfl, hbx⟩
 refine ⟨_, rfl, ?_⟩
 replace HI := Aside0.mk (IsRdr.below (by first | exact HI.out | exact HI.out.drew) hbx)
 replace HQ := Aside0.mk (IsS41.below (by first | exact HQ.out | exact IsS41.drew HQ.out) hbx)
 replace HT := Aside0.mk (TB.below (by first | exact HT.out | exact HT.out.drew) hbx)
 replace HV := Aside0.mk (TB.below (by first | exact HV.out | exact HV.out.drew) hbx)
 replace HB := Aside0.mk (show Below w.heap.size w wx from by first | exact below_step HB.out hbx | exact below_step (below_drew HB.out) hbx)
 clear hbx
 refine hK.out _ _ trivial (fun hHeld => ?_)
 clear hK K
 refine norm_ (a' := ?_) ?_ ?_
 rotate_left
 ·show Act.put _ (some 45) _ = _
  simp only [Act.put, List.setIfInBounds_toArray, List.set_cons_zero, List.set_cons_succ, i64_w, i32_w]
  rfl
 refine one_ (i := 4) (N := some 47) #[true, true, true, true, true, false, false, false, false, false, false, false, false, false, false, false, false, false, false, false, false, false, false] rfl rfl (one_of HT_.out (by kernel_rfl)) (by decide) (fun K hK => ?_)
 refine goes_ Try.func20 (by kernel_rfl) rfl #[.pointer (some ⟨q, 0, none⟩)] (by rfl) rfl rfl (by simp only [List.map_toArray, List.map_cons, List.map_nil]; rfl) ?_
 with_reducible refine (gleberef07_TakeOp.calls 100 q l0 0 0 v0 v1 v2 v3 v4 v5 v6 pz z w _ HQ.out HB.out HF.out).mono ?_
 rintro e wx ⟨rfl, hq, hb, hk⟩
 refine ⟨_, rfl, ?_⟩
 replace HI := Aside0.mk (rdr_keep HI.out HQ.out hk)
 obtain ⟨cs1, hcs1⟩ := IsS41.blk1 HQ.out
 replace HT := Aside0.mk (HT.out.keep hk hcs1 (by decide))
 replace HV := Aside0.mk (HV.out.keep hk hcs1 (by decide))
 replace HQ := Aside0.mk hq
 replace HB := Aside0.mk hb
 clear hq hb hk hcs1
 refine hK.out _ _ trivial (fun hHeld => ?_)
 clear hK K
 refine norm_ (a' := ?_) ?_ ?_
 rotate_left
 ·show Act.put _ (some 47) _ = _
  simp only [Act.put, List.setIfInBounds_toArray, List.set_cons_zero, List.set_cons_succ, i64_w, i32_w]
  rfl
 refine pure_ (i := 5) (N := some 48) (v := ?_) (a' := ?_) #[true, true, true, true, true, true, false, false, false, false, false, false, false, false, false, false, false, false, false, false, false, false, false] rfl rfl (any_of HT_.out (by kernel_rfl)) (fun _ _ _ h => h) (Or.inl ⟨by rfl, ?_⟩) ?_ ?_
 rotate_left
 ·intro w'
  go_simp
  with_reducible rfl
 rotate_left
 ·simp only [Act.put, List.setIfInBounds_toArray, List.set_cons_zero, List.set_cons_succ, i64_w, i32_w]
  rfl
 refine pure_ (i := 6) (N := some 49) (v := ?_) (a' := ?_) #[true, true, true, true, true, true, true, false, false, false, false, false, false, false, false, false, false, false, false, false, false, false, false] rfl rfl (any_of HT_.out (by kernel_rfl)) (fun _ _ _ h => h) (Or.inl ⟨by rfl, ?_⟩) ?_ ?_
 rotate_left
 ·intro w'
  go_simp
  with_reducible rfl
 rotate_left
 ·simp only [Act.put, List.setIfInBounds_toArray, List.set_cons_zero, List.set_cons_succ, i64_w, i32_w]
  rfl
 refine pure_ (i := 7) (N := some 50) (v := ?_) (a' := ?_) #[true, true, true, true, true, true, true, true, false, false, false, false, false, false, false, false, false, false, false, false, false, false, false] rfl rfl (any_of HT_.out (by kernel_rfl)) (fun _ _ _ h => h) (Or.inl ⟨by rfl, ?_⟩) ?_ ?_
 rotate_left
 ·intro w'
  go_simp
  with_reducible rfl
 rotate_left
 ·simp only [Act.put, List.setIfInBounds_toArray, List.set_cons_zero, List.set_cons_succ, i64_w, i32_w]
  rfl
 refine pure_ (i := 10) (N := some 53) (v := ?_) (a' := ?_) #[true, true, true, true, true, true, true, true, false, false, true, false, false, false, false, false, false, false, false, false, false, false, false] rfl rfl (any_of HT_.out (by kernel_rfl)) (fun _ _ _ h => h) (Or.inl ⟨by rfl, ?_⟩) ?_ ?_
 rotate_left
 ·intro w'
  go_simp
  with_reducible rfl
 rotate_left
 ·simp only [Act.put, List.setIfInBounds_toArray, List.set_cons_zero, List.set_cons_succ, i64_w, i32_w]
  rfl
 refine pure_ (i := 11) (N := some 54) (v := ?_) (a' := ?_) #[true, true, true, true, true, true, true, true, false, false, true, true, false, false, false, false, false, false, false, false, false, false, false] rfl rfl (any_of HT_.out (by kernel_rfl)) (fun _ _ _ h => h) (Or.inl ⟨by rfl, ?_⟩) ?_ ?_
 rotate_left
 ·intro w'
  go_simp
  with_reducible rfl
 rotate_left
 ·simp only [Act.put, List.setIfInBounds_toArray, List.set_cons_zero, List.set_cons_succ, i64_w, i32_w]
  rfl
 refine pure_ (i := 12) (N := some 55) (v := ?_) (a' := ?_) #[true, true, true, true, true, true, true, true, false, false, true, true, true, false, false, false, false, false, false, false, false, false, false] rfl rfl (any_of HT_.out (by kernel_rfl)) (fun _ _ _ h => h) (Or.inl ⟨by rfl, ?_⟩) ?_ ?_
 rotate_left
 ·intro w'
  go_simp
  with_reducible rfl
 rotate_left
 ·simp only [Act.put, List.setIfInBounds_toArray, List.set_cons_zero, List.set_cons_succ, i64_w, i32_w]
  rfl
 refine join_ (σ := Unit) 9 #[true, true, true, true, true, true, true, true, true, true, true, true, true, true, false, false, false, false, false, false, false, false, false] (fun _ => [(51, .int .i64 z), (52, .int .i64 z), (56, .int .i64 z)]) (fun (_ : Unit) (wj : World) => IsRdr w wj g l7 z true ∧ IsS41 w wj q l0 pz z ∧ TB wj AL (l0.length + 2) (l0 ++ [71, 72]) ∧ TB wj AL l0.length l0 ∧ Below w.heap.size w wj) ?_ ?_
 rotate_left
 ·intro hCont
  refine two_ (i := 8) (j := 13) (Ni := some 51) (Nj := some 56) #[true, true, true, true, true, true, true, true, true, false, true, true, true, false, false, false, false, false, false, false, false, false, false] #[true, true, true, true, true, true, true, true, false, false, true, true, true, true, false, false, false, false, false, false, false, false, false] rfl rfl rfl rfl (two_of HT_.out (by kernel_rfl)) (by decide) (by decide) (fun K hK => ?_) (fun K hK => ?_)
  ·skip
   refine goes_ Try.func15 (by kernel_rfl) rfl #[.pointer (some ⟨g, 0, none⟩)] (by rfl) rfl rfl (by simp only [List.map_toArray, List.map_cons, List.map_nil]; rfl) ?_
   with_reducible refine (wire_Reader_Err.calls g l7 z true w _ HI.out).mono ?_
   rintro e wx ⟨rfl, rfl⟩
   refine ⟨_, rfl, ?_⟩
   rw [if_pos (rfl : true = true)]
   refine hK.out _ _ trivial (fun hHeld => ?_)
   clear hK K
   refine norm_ (a' := ?_) ?_ ?_
   rotate_left
   ·show Act.put _ (some 51) _ = _
    simp only [Act.put, List.setIfInBounds_toArray, List.set_cons_zero, List.set_cons_succ, i64_w, i32_w]
    rfl
   refine two_ (i := 9) (j := 13) (Ni := some 52) (Nj := some 56) #[true, true, true, true, true, true, true, true, true, true, true, true, true, false, false, false, false, false, false, false, false, false, false] #[true, true, true, true, true, true, true, true, true, false, true, true, true, true, false, false, false, false, false, false, false, false, false] rfl rfl rfl rfl (two_of HT_.out (by kernel_rfl)) (by decide) (by decide) (fun K hK => ?_) (fun K hK => ?_)
   ·skip
    refine goes_ Try.func14 (by kernel_rfl) rfl #[.int .i64 z] (by rfl) rfl rfl (by simp only [List.map_toArray, List.map_cons, List.map_nil]; rfl) ?_
    with_reducible refine (glebelaw07_num.calls z z _ rfl).mono ?_
    rintro e wx ⟨rfl, hbx0⟩
    refine ⟨_, rfl, ?_⟩
    have hbx := drawn_below hbx0
    replace HI := Aside0.mk (IsRdr.below (by first | exact HI.out | exact HI.out.drew) hbx)
    replace HQ := Aside0.mk (IsS41.below (by first | exact HQ.out | exact IsS41.drew HQ.out) hbx)
    replace HT := Aside0.mk (TB.below (by first | exact HT.out | exact HT.out.drew) hbx)
    replace HV := Aside0.mk (TB.below (by first | exact HV.out | exact HV.out.drew) hbx)
    replace HB := Aside0.mk (show Below w.heap.size w wx from by first | exact below_step HB.out hbx | exact below_step (below_drew HB.out) hbx)
    clear hbx
    clear hbx0
    have hE := IsS41.cell2 HQ.out
    refine hK.out _ _ trivial (fun hHeld => ?_)
    clear hK K
    refine norm_ (a' := ?_) ?_ ?_
    rotate_left
    ·show Act.put _ (some 52) _ = _
     simp only [Act.put, List.setIfInBounds_toArray, List.set_cons_zero, List.set_cons_succ, i64_w, i32_w]
     rfl
    refine one_ (i := 13) (N := some 56) #[true, true, true, true, true, true, true, true, true, true, true, true, true, true, false, false, false, false, false, false, false, false, false] rfl rfl (one_of HT_.out (by kernel_rfl)) (by decide) (fun K hK => ?_)
    have hE := IsS41.cell2 HQ.out
    refine value_ (w1 := ?_) (v := ?_) (by rfl) rfl ?_ ?_
    rotate_left 2
    ·go_simp
     constructor
     ·rfl
     ·rfl
    refine hK.out _ _ trivial (fun hHeld => ?_)
    clear hK K
    refine norm_ (a' := ?_) ?_ ?_
    rotate_left
    ·show Act.put _ (some 56) _ = _
     simp only [Act.put, List.setIfInBounds_toArray, List.set_cons_zero, List.set_cons_succ, i64_w, i32_w]
     rfl
    exact norm_ (by simp only [putAll, Act.put, List.setIfInBounds_toArray, List.set_cons_zero, List.set_cons_succ]) (hCont () _ ⟨HI.out, HQ.out, HT.out, HV.out, HB.out⟩)
   ·skip
    have hE := IsS41.cell2 HQ.out
    refine value_ (w1 := ?_) (v := ?_) (by rfl) rfl ?_ ?_
    rotate_left 2
    ·go_simp
     constructor
     ·rfl
     ·rfl
    refine hK.out _ _ trivial (fun hHeld => ?_)
    clear hK K
    refine norm_ (a' := ?_) ?_ ?_
    rotate_left
    ·show Act.put _ (some 56) _ = _
     simp only [Act.put, List.setIfInBounds_toArray, List.set_cons_zero, List.set_cons_succ, i64_w, i32_w]
     rfl
    refine one_ (i := 9) (N := some 52) #[true, true, true, true, true, true, true, true, true, true, true, true, true, true, false, false, false, false, false, false, false, false, false] rfl rfl (one_of HT_.out (by kernel_rfl)) (by decide) (fun K hK => ?_)
    refine goes_ Try.func14 (by kernel_rfl) rfl #[.int .i64 z] (by rfl) rfl rfl (by simp only [List.map_toArray, List.map_cons, List.map_nil]; rfl) ?_
    with_reducible refine (glebelaw07_num.calls z z _ rfl).mono ?_
    rintro e wx ⟨rfl, hbx0⟩
    refine ⟨_, rfl, ?_⟩
    have hbx := drawn_below hbx0
    replace HI := Aside0.mk (IsRdr.below (by first | exact HI.out | exact HI.out.drew) hbx)
    replace HQ := Aside0.mk (IsS41.below (by first | exact HQ.out | exact IsS41.drew HQ.out) hbx)
    replace HT := Aside0.mk (TB.below (by first | exact HT.out | exact HT.out.drew) hbx)
    replace HV := Aside0.mk (TB.below (by first | exact HV.out | exact HV.out.drew) hbx)
    replace HB := Aside0.mk (show Below w.heap.size w wx from by first | exact below_step HB.out hbx | exact below_step (below_drew HB.out) hbx)
    clear hbx
    clear hbx0
    have hE := IsS41.cell2 HQ.out
    refine hK.out _ _ trivial (fun hHeld => ?_)
    clear hK K
    refine norm_ (a' := ?_) ?_ ?_
    rotate_left
    ·show Act.put _ (some 52) _ = _
     simp only [Act.put, List.setIfInBounds_toArray, List.set_cons_zero, List.set_cons_succ, i64_w, i32_w]
     rfl
    exact norm_ (by simp only [putAll, Act.put, List.setIfInBounds_toArray, List.set_cons_zero, List.set_cons_succ]) (hCont () _ ⟨HI.out, HQ.out, HT.out, HV.out, HB.out⟩)
  ·skip
   have hE := IsS41.cell2 HQ.out
   refine value_ (w1 := ?_) (v := ?_) (by rfl) rfl ?_ ?_
   rotate_left 2
   ·go_simp
    constructor
    ·rfl
    ·rfl
   refine hK.out _ _ trivial (fun hHeld => ?_)
   clear hK K
   refine norm_ (a' := ?_) ?_ ?_
   rotate_left
   ·show Act.put _ (some 56) _ = _
    simp only [Act.put, List.setIfInBounds_toArray, List.set_cons_zero, List.set_cons_succ, i64_w, i32_w]
    rfl
   refine one_ (i := 8) (N := some 51) #[true, true, true, true, true, true, true, true, true, false, true, true, true, true, false, false, false, false, false, false, false, false, false] rfl rfl (one_of HT_.out (by kernel_rfl)) (by decide) (fun K hK => ?_)
   refine goes_ Try.func15 (by kernel_rfl) rfl #[.pointer (some ⟨g, 0, none⟩)] (by rfl) rfl rfl (by simp only [List.map_toArray, List.map_cons, List.map_nil]; rfl) ?_
   with_reducible refine (wire_Reader_Err.calls g l7 z true w _ HI.out).mono ?_
   rintro e wx ⟨rfl, rfl⟩
   refine ⟨_, rfl, ?_⟩
   rw [if_pos (rfl : true = true)]
   refine hK.out _ _ trivial (fun hHeld => ?_)
   clear hK K
   refine norm_ (a' := ?_) ?_ ?_
   rotate_left
   ·show Act.put _ (some 51) _ = _
    simp only [Act.put, List.setIfInBounds_toArray, List.set_cons_zero, List.set_cons_succ, i64_w, i32_w]
    rfl
   refine one_ (i := 9) (N := some 52) #[true, true, true, true, true, true, true, true, true, true, true, true, true, true, false, false, false, false, false, false, false, false, false] rfl rfl (one_of HT_.out (by kernel_rfl)) (by decide) (fun K hK => ?_)
   refine goes_ Try.func14 (by kernel_rfl) rfl #[.int .i64 z] (by rfl) rfl rfl (by simp only [List.map_toArray, List.map_cons, List.map_nil]; rfl) ?_
   with_reducible refine (glebelaw07_num.calls z z _ rfl).mono ?_
   rintro e wx ⟨rfl, hbx0⟩
   refine ⟨_, rfl, ?_⟩
   have hbx := drawn_below hbx0
   replace HI := Aside0.mk (IsRdr.below (by first | exact HI.out | exact HI.out.drew) hbx)
   replace HQ := Aside0.mk (IsS41.below (by first | exact HQ.out | exact IsS41.drew HQ.out) hbx)
   replace HT := Aside0.mk (TB.below (by first | exact HT.out | exact HT.out.drew) hbx)
   replace HV := Aside0.mk (TB.below (by first | exact HV.out | exact HV.out.drew) hbx)
   replace HB := Aside0.mk (show Below w.heap.size w wx from by first | exact below_step HB.out hbx | exact below_step (below_drew HB.out) hbx)
   clear hbx
   clear hbx0
   have hE := IsS41.cell2 HQ.out
   refine hK.out _ _ trivial (fun hHeld => ?_)
   clear hK K
   refine norm_ (a' := ?_) ?_ ?_
   rotate_left
   ·show Act.put _ (some 52) _ = _
    simp only [Act.put, List.setIfInBounds_toArray, List.set_cons_zero, List.set_cons_succ, i64_w, i32_w]
    rfl
   exact norm_ (by simp only [putAll, Act.put, List.setIfInBounds_toArray, List.set_cons_zero, List.set_cons_succ]) (hCont () _ ⟨HI.out, HQ.out, HT.out, HV.out, HB.out⟩)
 rintro s_ wx ⟨hI_, hQ_, hT_, hV_, hB_⟩
 clear HI HQ HT HV HB
 have HI := Aside0.mk hI_
 have HQ := Aside0.mk hQ_
 have HT := Aside0.mk hT_
 have HV := Aside0.mk hV_
 have HB := Aside0.mk hB_
 clear hI_ hQ_ hT_ hV_ hB_ s_
 have hHeld : True := trivial
 refine norm_ (a' := ?_) ?_ ?_
 rotate_left
 ·simp only [putAll, Act.put, List.setIfInBounds_toArray, List.set_cons_zero, List.set_cons_succ]
  rfl
 refine pure_ (i := 14) (N := some 57) (v := ?_) (a' := ?_) #[true, true, true, true, true, true, true, true, true, true, true, true, true, true, true, false, false, false, false, false, false, false, false] rfl rfl (any_of HT_.out (by kernel_rfl)) (fun _ _ _ h => h) (Or.inl ⟨by rfl, ?_⟩) ?_ ?_
 rotate_left
 ·intro w'
  go_simp
  with_reducible rfl
 rotate_left
 ·simp only [Act.put, List.setIfInBounds_toArray, List.set_cons_zero, List.set_cons_succ, i64_w, i32_w]
  rfl
 refine pure_ (i := 15) (N := some 58) (v := ?_) (a' := ?_) #[true, true, true, true, true, true, true, true, true, true, true, true, true, true, true, true, false, false, false, false, false, false, false] rfl rfl (any_of HT_.out (by kernel_rfl)) (fun _ _ _ h => h) (Or.inl ⟨by rfl, ?_⟩) ?_ ?_
 rotate_left
 ·intro w'
  go_simp
  with_reducible rfl
 rotate_left
 ·simp only [Act.put, List.setIfInBounds_toArray, List.set_cons_zero, List.set_cons_succ, i64_w, i32_w]
  rfl
 refine pure_ (i := 16) (N := some 59) (v := ?_) (a' := ?_) #[true, true, true, true, true, true, true, true, true, true, true, true, true, true, true, true, true, false, false, false, false, false, false] rfl rfl (any_of HT_.out (by kernel_rfl)) (fun _ _ _ h => h) (Or.inl ⟨by rfl, ?_⟩) ?_ ?_
 rotate_left
 ·intro w'
  go_simp
  with_reducible rfl
 rotate_left
 ·simp only [Act.put, List.setIfInBounds_toArray, List.set_cons_zero, List.set_cons_succ, i64_w, i32_w]
  rfl
 refine pure_ (i := 17) (N := some 60) (v := ?_) (a' := ?_) #[true, true, true, true, true, true, true, true, true, true, true, true, true, true, true, true, true, true, false, false, false, false, false] rfl rfl (any_of HT_.out (by kernel_rfl)) (fun _ _ _ h => h) (Or.inl ⟨by rfl, ?_⟩) ?_ ?_
 rotate_left
 ·intro w'
  go_simp
  with_reducible rfl
 rotate_left
 ·simp only [Act.put, List.setIfInBounds_toArray, List.set_cons_zero, List.set_cons_succ, i64_w, i32_w]
  rfl
 refine pure_ (i := 19) (N := some 62) (v := ?_) (a' := ?_) #[true, true, true, true, true, true, true, true, true, true, true, true, true, true, true, true, true, true, false, true, false, false, false] rfl rfl (any_of HT_.out (by kernel_rfl)) (fun _ _ _ h => h) (Or.inl ⟨by rfl, ?_⟩) ?_ ?_
 rotate_left
 ·intro w'
  go_simp
  with_reducible rfl
 rotate_left
 ·simp only [Act.put, List.setIfInBounds_toArray, List.set_cons_zero, List.set_cons_succ, i64_w, i32_w]
  rfl
 refine one_ (i := 18) (N := some 61) #[true, true, true, true, true, true, true, true, true, true, true, true, true, true, true, true, true, true, true, true, false, false, false] rfl rfl (one_of HT_.out (by kernel_rfl)) (by decide) (fun K hK => ?_)
 refine goes_ Try.func16 (by kernel_rfl) rfl #[.pointer (some ⟨g, 0, none⟩)] (by rfl) rfl rfl (by simp only [List.map_toArray, List.map_cons, List.map_nil]; rfl) ?_
 with_reducible refine (wire_Reader_Left.calls g l7 z true w _ HI.out).mono ?_
 rintro e wx ⟨rfl, rfl⟩
 refine ⟨_, rfl, ?_⟩
 rw [← HLX.out]
 refine hK.out _ _ trivial (fun hHeld => ?_)
 clear hK K
 refine norm_ (a' := ?_) ?_ ?_
 rotate_left
 ·show Act.put _ (some 61) _ = _
  simp only [Act.put, List.setIfInBounds_toArray, List.set_cons_zero, List.set_cons_succ, i64_w, i32_w]
  rfl
 refine one_ (i := 20) (N := some 63) #[true, true, true, true, true, true, true, true, true, true, true, true, true, true, true, true, true, true, true, true, true, false, false] rfl rfl (one_of HT_.out (by kernel_rfl)) (by decide) (fun K hK => ?_)
 refine goes_ Try.func17 (by kernel_rfl) rfl #[.pointer (some ⟨q, 0, none⟩)] (by rfl) rfl rfl (by simp only [List.map_toArray, List.map_cons, List.map_nil]; rfl) ?_
 with_reducible refine (gleberef01_Reader_Left.calls q l0 pz z lf pz z w _ HQ.out HB.out HLF.out).mono ?_
 rintro e wx ⟨rfl, hq, hb, hk⟩
 refine ⟨_, rfl, ?_⟩
 replace HI := Aside0.mk (rdr_keep HI.out HQ.out hk)
 obtain ⟨cs1, hcs1⟩ := IsS41.blk1 HQ.out
 replace HT := Aside0.mk (HT.out.keep hk hcs1 (by decide))
 replace HV := Aside0.mk (HV.out.keep hk hcs1 (by decide))
 replace HQ := Aside0.mk hq
 replace HB := Aside0.mk hb
 clear hq hb hk hcs1
 refine hK.out _ _ trivial (fun hHeld => ?_)
 clear hK K
 refine norm_ (a' := ?_) ?_ ?_
 rotate_left
 ·show Act.put _ (some 63) _ = _
  simp only [Act.put, List.setIfInBounds_toArray, List.set_cons_zero, List.set_cons_succ, i64_w, i32_w]
  rfl
 refine pure_ (i := 21) (N := some 64) (v := ?_) (a' := ?_) #[true, true, true, true, true, true, true, true, true, true, true, true, true, true, true, true, true, true, true, true, true, true, false] rfl rfl (any_of HT_.out (by kernel_rfl)) (fun _ _ _ h => h) (Or.inl ⟨by rfl, ?_⟩) ?_ ?_
 rotate_left
 ·intro w'
  go_simp
  with_reducible rfl
 rotate_left
 ·simp only [Act.put, List.setIfInBounds_toArray, List.set_cons_zero, List.set_cons_succ, i64_w, i32_w]
  rfl
 refine pure_ (i := 22) (N := some 65) (v := ?_) (a' := ?_) #[true, true, true, true, true, true, true, true, true, true, true, true, true, true, true, true, true, true, true, true, true, true, true] rfl rfl (any_of HT_.out (by kernel_rfl)) (fun _ _ _ h => h) (Or.inl ⟨by rfl, ?_⟩) ?_ ?_
 rotate_left
 ·intro w'
  go_simp
  with_reducible rfl
 rotate_left
 ·simp only [Act.put, List.setIfInBounds_toArray, List.set_cons_zero, List.set_cons_succ, i64_w, i32_w]
  rfl
 refine done_ (done_of HT_.out (by kernel_rfl)) ?_
 clear HI HQ HZ HZR HF HLF HLX HRR HKS hpe
 go_wp2_with fail
 refine (wire_Open.calls AL cL l0 _ HV.out.c (by have := HCL.out; omega) (by have := HLE.out; omega)).mono ?_
 rintro e wo ⟨g, A2, c2, rfl, hg, hblk, hc2, hC2, hty, hb⟩
 have HI := Aside0.mk (show IsRdr w wo g l0 0 true from ⟨Nat.le_trans HB.out.size hg, A2, c2, hblk, hc2, hC2, hty⟩)
 replace HT := Aside0.mk (HT.out.below hb)
 replace HV := Aside0.mk (HV.out.below hb)
 replace HB := Aside0.mk (below_step HB.out hb)
 clear hg hblk hc2 hC2 hty hb
 go_wp2_with fail
 refine (gleberef01_Open.calls A0 c0 l0 l0 0 0 w _ HB.out H0.out hc0 rfl).mono ?_
 rintro e wq ⟨q, rfl, hq, hbw, hb⟩
 have HQ := Aside0.mk hq
 replace HI := Aside0.mk (HI.out.below hb)
 replace HT := Aside0.mk (HT.out.below hb)
 replace HV := Aside0.mk (HV.out.below hb)
 replace HB := Aside0.mk hbw
 clear hq hbw hb
 obtain ⟨ae, l1, e1, fo, l2, e2, av, l3, e3, an, l4, e4, r, pa, k1, k2, k3, k4, hrr, hag, hf⟩ := stage_ans (by have := HLE.out; omega) HBY.out
 have hzr := zero_row4 (tkE (decide (fo ≤ 1) && r) e4) ae (fo == 1) (strOfNums av) an
 have hlf := ref_left (by have := HLE.out; omega) hag
 generalize (if tkE (decide (fo ≤ 1) && r) e4 = 0 then ae else 0) = v0 at hzr hf
 generalize (if tkE (decide (fo ≤ 1) && r) e4 = 0 then (fo == 1) else false) = v1 at hzr hf
 generalize (if tkE (decide (fo ≤ 1) && r) e4 = 0 then (strOfNums av) else (⟨#[]⟩ : ByteArray)) = v2 at hzr hf
 generalize (if tkE (decide (fo ≤ 1) && r) e4 = 0 then an else 0) = v3 at hzr hf
 obtain ⟨z, hz⟩ : ∃ z, z = tkE (decide (fo ≤ 1) && r) e4 := ⟨_, rfl⟩
 rw [← hz] at hf hlf hzr
 obtain ⟨lf, hlx⟩ : ∃ x, x = (if rdOk z true then (l4.length : Int) else 0) := ⟨_, rfl⟩
 rw [← hlx] at hlf
 have HZ := Aside0.mk hz
 have HZR := Aside0.mk hzr
 have HF := Aside0.mk hf
 have HLF := Aside0.mk hlf
 have HLX := Aside0.mk hlx
 have HRR := Aside0.mk hrr
 have HKS := Aside0.mk (show rdNum l0 0 true = (ae, l1, e1) ∧ rdNum l1 e1 true = (fo, l2, e2) ∧ rdText l2 e2 true 32 = (av, l3, e3) ∧ rdNum l3 e3 true = (an, l4, e4) from ⟨k1, k2, k3, k4⟩)
 have hpe := ans_same v0 v1 v2 v3
 obtain ⟨pz, hpz⟩ : ∃ x : Int, x = (pa : Int) := ⟨_, rfl⟩
 rw [← hpz] at HF HLF
 clear hz hzr hf hlf hlx hrr hag hpz k1 k2 k3 k4
 go_wp2_with fail
 refine start_ (n := 32) (S := fun w' => True) (ds := []) #[false, false, false, false, false, false, false, false, false, false, false, false, false, false, false, false, false, false, false, false, false, false, false, false, false, false, false, false, false, false, false, false] (by kernel_rfl) rfl rfl trivial (fun hHeld => ?_)
 refine with_tabW glebelaw07_PointTakes.tab14 glebelaw07_PointTakes.bits14 (fun HT_ HW_ => ?_)
 refine pure_ (i := 0) (N := some 70) (v := ?_) (a' := ?_) #[true, false, false, false, false, false, false, false, false, false, false, false, false, false, false, false, false, false, false, false, false, false, false, false, false, false, false, false, false, false, false, false] rfl rfl (any_of HT_.out (by kernel_rfl)) (fun _ _ _ h => h) (Or.inl ⟨by rfl, ?_⟩) ?_ ?_
 rotate_left
 ·intro w'
  go_simp
  with_reducible rfl
 rotate_left
 ·simp only [Act.put, List.setIfInBounds_toArray, List.set_cons_zero, List.set_cons_succ, i64_w, i32_w]
  rfl
 refine pure_ (i := 3) (N := some 73) (v := ?_) (a' := ?_) #[true, false, false, true, false, false, false, false, false, false, false, false, false, false, false, false, false, false, false, false, false, false, false, false, false, false, false, false, false, false, false, false] rfl rfl (any_of HT_.out (by kernel_rfl)) (fun _ _ _ h => h) (Or.inl ⟨by rfl, ?_⟩) ?_ ?_
 rotate_left
 ·intro w'
  go_simp
  with_reducible rfl
 rotate_left
 ·simp only [Act.put, List.setIfInBounds_toArray, List.set_cons_zero, List.set_cons_succ, i64_w, i32_w]
  rfl
 refine one_ (i := 1) (N := some 71) #[true, true, false, true, false, false, false, false, false, false, false, false, false, false, false, false, false, false, false, false, false, false, false, false, false, false, false, false, false, false, false, false] rfl rfl (one_of HT_.out (by kernel_rfl)) (by decide) (fun K hK => ?_)
 refine goes_ Try.func22 (by kernel_rfl) rfl #[.pointer (some ⟨g, 0, none⟩)] (by rfl) rfl rfl (by simp only [List.map_toArray, List.map_cons, List.map_nil]; rfl) ?_
 with_reducible refine (point_TakeAns.calls 100 g l0 0 ae l1 e1 HKS.out.1 fo l2 e2 HKS.out.2.1 av l3 e3 HKS.out.2.2.1 an l4 e4 HKS.out.2.2.2 r _ rfl HRR.out w _ (by first | exact HI.out | exact HI.out.drew) (by first | exact HB.out | exact below_drew HB.out)).mono ?_
 rintro e wx ⟨rfl, hi, hbx, hk⟩
 refine ⟨_, rfl, ?_⟩
 rw [← HZ.out] at hi ⊢
 rw [HZR.out]
 replace HQ := Aside0.mk (IsS41.keep (by first | exact HQ.out | exact IsS41.drew HQ.out) hk (rs_ne HI.out HQ.out))
 obtain ⟨cs1, hcs1⟩ := HI.out.blk1
 replace HT := Aside0.mk (TB.keep (by first | exact HT.out | exact HT.out.drew) hk (by first | exact hcs1 | exact blk_drew hcs1) (by decide))
 replace HV := Aside0.mk (TB.keep (by first | exact HV.out | exact HV.out.drew) hk (by first | exact hcs1 | exact blk_drew hcs1) (by decide))
 replace HI := Aside0.mk hi
 replace HB := Aside0.mk hbx
 clear hi hbx hk hcs1
 refine hK.out _ _ trivial (fun hHeld => ?_)
 clear hK K
 refine norm_ (a' := ?_) ?_ ?_
 rotate_left
 ·show Act.put _ (some 71) _ = _
  simp only [Act.put, List.setIfInBounds_toArray, List.set_cons_zero, List.set_cons_succ, i64_w, i32_w]
  rfl
 refine one_ (i := 2) (N := some 72) #[true, true, true, true, false, false, false, false, false, false, false, false, false, false, false, false, false, false, false, false, false, false, false, false, false, false, false, false, false, false, false, false] rfl rfl (one_of HT_.out (by kernel_rfl)) (by decide) (fun K hK => ?_)
 refine goes_ Try.func21 (by kernel_rfl) rfl #[.agg #[.int .i64 v0, .bool v1, .string v2, .int .i64 v3]] (by rfl) rfl rfl (by simp only [List.map_toArray, List.map_cons, List.map_nil]; rfl) ?_
 with_reducible refine (glebelaw07_RefAns.calls v0 v1 v2 v3 v0 v1 v2 v3 _ rfl).mono ?_
 rintro e wx ⟨rfl, hbx⟩
 refine ⟨_, rfl, ?_⟩
 replace HI := Aside0.mk (IsRdr.below (by first | exact HI.out | exact HI.out.drew) hbx)
 replace HQ := Aside0.mk (IsS41.below (by first | exact HQ.out | exact IsS41.drew HQ.out) hbx)
 replace HT := Aside0.mk (TB.below (by first | exact HT.out | exact HT.out.drew) hbx)
 replace HV := Aside0.mk (TB.below (by first | exact HV.out | exact HV.out.drew) hbx)
 replace HB := Aside0.mk (show Below w.heap.size w wx from by first | exact below_step HB.out hbx | exact below_step (below_drew HB.out) hbx)
 clear hbx
 refine hK.out _ _ trivial (fun hHeld => ?_)
 clear hK K
 refine norm_ (a' := ?_) ?_ ?_
 rotate_left
 ·show Act.put _ (some 72) _ = _
  simp only [Act.put, List.setIfInBounds_toArray, List.set_cons_zero, List.set_cons_succ, i64_w, i32_w]
  rfl
 refine one_ (i := 4) (N := some 74) #[true, true, true, true, true, false, false, false, false, false, false, false, false, false, false, false, false, false, false, false, false, false, false, false, false, false, false, false, false, false, false, false] rfl rfl (one_of HT_.out (by kernel_rfl)) (by decide) (fun K hK => ?_)
 refine goes_ Try.func23 (by kernel_rfl) rfl #[.pointer (some ⟨q, 0, none⟩)] (by rfl) rfl rfl (by simp only [List.map_toArray, List.map_cons, List.map_nil]; rfl) ?_
 with_reducible refine (gleberef07_TakeAns.calls 100 q l0 0 0 v0 v1 v2 v3 pz z w _ HQ.out HB.out HF.out).mono ?_
 rintro e wx ⟨rfl, hq, hb, hk⟩
 refine ⟨_, rfl, ?_⟩
 replace HI := Aside0.mk (rdr_keep HI.out HQ.out hk)
 obtain ⟨cs1, hcs1⟩ := IsS41.blk1 HQ.out
 replace HT := Aside0.mk (HT.out.keep hk hcs1 (by decide))
 replace HV := Aside0.mk (HV.out.keep hk hcs1 (by decide))
 replace HQ := Aside0.mk hq
 replace HB := Aside0.mk hb
 clear hq hb hk hcs1
 refine hK.out _ _ trivial (fun hHeld => ?_)
 clear hK K
 refine norm_ (a' := ?_) ?_ ?_
 rotate_left
 ·show Act.put _ (some 74) _ = _
  simp only [Act.put, List.setIfInBounds_toArray, List.set_cons_zero, List.set_cons_succ, i64_w, i32_w]
  rfl
 refine pure_ (i := 5) (N := some 75) (v := ?_) (a' := ?_) #[true, true, true, true, true, true, false, false, false, false, false, false, false, false, false, false, false, false, false, false, false, false, false, false, false, false, false, false, false, false, false, false] rfl rfl (any_of HT_.out (by kernel_rfl)) (fun _ _ _ h => h) (Or.inl ⟨by rfl, ?_⟩) ?_ ?_
 rotate_left
 ·intro w'
  go_simp
  with_reducible rfl
 rotate_left
 ·simp only [Act.put, List.setIfInBounds_toArray, List.set_cons_zero, List.set_cons_succ, i64_w, i32_w]
  rfl
 refine pure_ (i := 6) (N := some 76) (v := ?_) (a' := ?_) #[true, true, true, true, true, true, true, false, false, false, false, false, false, false, false, false, false, false, false, false, false, false, false, false, false, false, false, false, false, false, false, false] rfl rfl (any_of HT_.out (by kernel_rfl)) (fun _ _ _ h => h) (Or.inl ⟨by rfl, ?_⟩) ?_ ?_
 rotate_left
 ·intro w'
  go_simp
  with_reducible rfl
 rotate_left
 ·simp only [Act.put, List.setIfInBounds_toArray, List.set_cons_zero, List.set_cons_succ, i64_w, i32_w]
  rfl
 refine pure_ (i := 7) (N := some 77) (v := ?_) (a' := ?_) #[true, true, true, true, true, true, true, true, false, false, false, false, false, false, false, false, false, false, false, false, false, false, false, false, false, false, false, false, false, false, false, false] rfl rfl (any_of HT_.out (by kernel_rfl)) (fun _ _ _ h => h) (Or.inl ⟨by rfl, ?_⟩) ?_ ?_
 rotate_left
 ·intro w'
  go_simp
  with_reducible rfl
 rotate_left
 ·simp only [Act.put, List.setIfInBounds_toArray, List.set_cons_zero, List.set_cons_succ, i64_w, i32_w]
  rfl
 refine pure_ (i := 10) (N := some 80) (v := ?_) (a' := ?_) #[true, true, true, true, true, true, true, true, false, false, true, false, false, false, false, false, false, false, false, false, false, false, false, false, false, false, false, false, false, false, false, false] rfl rfl (any_of HT_.out (by kernel_rfl)) (fun _ _ _ h => h) (Or.inl ⟨by rfl, ?_⟩) ?_ ?_
 rotate_left
 ·intro w'
  go_simp
  with_reducible rfl
 rotate_left
 ·simp only [Act.put, List.setIfInBounds_toArray, List.set_cons_zero, List.set_cons_succ, i64_w, i32_w]
  rfl
 refine pure_ (i := 11) (N := some 81) (v := ?_) (a' := ?_) #[true, true, true, true, true, true, true, true, false, false, true, true, false, false, false, false, false, false, false, false, false, false, false, false, false, false, false, false, false, false, false, false] rfl rfl (any_of HT_.out (by kernel_rfl)) (fun _ _ _ h => h) (Or.inl ⟨by rfl, ?_⟩) ?_ ?_
 rotate_left
 ·intro w'
  go_simp
  with_reducible rfl
 rotate_left
 ·simp only [Act.put, List.setIfInBounds_toArray, List.set_cons_zero, List.set_cons_succ, i64_w, i32_w]
  rfl
 refine pure_ (i := 12) (N := some 82) (v := ?_) (a' := ?_) #[true, true, true, true, true, true, true, true, false, false, true, true, true, false, false, false, false, false, false, false, false, false, false, false, false, false, false, false, false, false, false, false] rfl rfl (any_of HT_.out (by kernel_rfl)) (fun _ _ _ h => h) (Or.inl ⟨by rfl, ?_⟩) ?_ ?_
 rotate_left
 ·intro w'
  go_simp
  with_reducible rfl
 rotate_left
 ·simp only [Act.put, List.setIfInBounds_toArray, List.set_cons_zero, List.set_cons_succ, i64_w, i32_w]
  rfl
 refine join_ (σ := Unit) 18 #[true, true, true, true, true, true, true, true, true, true, true, true, true, true, false, false, false, false, false, false, false, false, false, false, false, false, false, false, false, false, false, false] (fun _ => [(78, .int .i64 z), (79, .int .i64 z), (83, .int .i64 z)]) (fun (_ : Unit) (wj : World) => IsRdr w wj g l4 z true ∧ IsS41 w wj q l0 pz z ∧ TB wj AL (l0.length + 2) (l0 ++ [71, 72]) ∧ TB wj AL l0.length l0 ∧ Below w.heap.size w wj) ?_ ?_
 rotate_left
 ·intro hCont
  refine two_ (i := 8) (j := 13) (Ni := some 78) (Nj := some 83) #[true, true, true, true, true, true, true, true, true, false, true, true, true, false, false, false, false, false, false, false, false, false, false, false, false, false, false, false, false, false, false, false] #[true, true, true, true, true, true, true, true, false, false, true, true, true, true, false, false, false, false, false, false, false, false, false, false, false, false, false, false, false, false, false, false] rfl rfl rfl rfl (two_of HT_.out (by kernel_rfl)) (by decide) (by decide) (fun K hK => ?_) (fun K hK => ?_)
  ·skip
   refine goes_ Try.func15 (by kernel_rfl) rfl #[.pointer (some ⟨g, 0, none⟩)] (by rfl) rfl rfl (by simp only [List.map_toArray, List.map_cons, List.map_nil]; rfl) ?_
   with_reducible refine (wire_Reader_Err.calls g l4 z true w _ HI.out).mono ?_
   rintro e wx ⟨rfl, rfl⟩
   refine ⟨_, rfl, ?_⟩
   rw [if_pos (rfl : true = true)]
   refine hK.out _ _ trivial (fun hHeld => ?_)
   clear hK K
   refine norm_ (a' := ?_) ?_ ?_
   rotate_left
   ·show Act.put _ (some 78) _ = _
    simp only [Act.put, List.setIfInBounds_toArray, List.set_cons_zero, List.set_cons_succ, i64_w, i32_w]
    rfl
   refine two_ (i := 9) (j := 13) (Ni := some 79) (Nj := some 83) #[true, true, true, true, true, true, true, true, true, true, true, true, true, false, false, false, false, false, false, false, false, false, false, false, false, false, false, false, false, false, false, false] #[true, true, true, true, true, true, true, true, true, false, true, true, true, true, false, false, false, false, false, false, false, false, false, false, false, false, false, false, false, false, false, false] rfl rfl rfl rfl (two_of HT_.out (by kernel_rfl)) (by decide) (by decide) (fun K hK => ?_) (fun K hK => ?_)
   ·skip
    refine goes_ Try.func14 (by kernel_rfl) rfl #[.int .i64 z] (by rfl) rfl rfl (by simp only [List.map_toArray, List.map_cons, List.map_nil]; rfl) ?_
    with_reducible refine (glebelaw07_num.calls z z _ rfl).mono ?_
    rintro e wx ⟨rfl, hbx0⟩
    refine ⟨_, rfl, ?_⟩
    have hbx := drawn_below hbx0
    replace HI := Aside0.mk (IsRdr.below (by first | exact HI.out | exact HI.out.drew) hbx)
    replace HQ := Aside0.mk (IsS41.below (by first | exact HQ.out | exact IsS41.drew HQ.out) hbx)
    replace HT := Aside0.mk (TB.below (by first | exact HT.out | exact HT.out.drew) hbx)
    replace HV := Aside0.mk (TB.below (by first | exact HV.out | exact HV.out.drew) hbx)
    replace HB := Aside0.mk (show Below w.heap.size w wx from by first | exact below_step HB.out hbx | exact below_step (below_drew HB.out) hbx)
    clear hbx
    clear hbx0
    have hE := IsS41.cell2 HQ.out
    refine hK.out _ _ trivial (fun hHeld => ?_)
    clear hK K
    refine norm_ (a' := ?_) ?_ ?_
    rotate_left
    ·show Act.put _ (some 79) _ = _
     simp only [Act.put, List.setIfInBounds_toArray, List.set_cons_zero, List.set_cons_succ, i64_w, i32_w]
     rfl
    refine one_ (i := 13) (N := some 83) #[true, true, true, true, true, true, true, true, true, true, true, true, true, true, false, false, false, false, false, false, false, false, false, false, false, false, false, false, false, false, false, false] rfl rfl (one_of HT_.out (by kernel_rfl)) (by decide) (fun K hK => ?_)
    have hE := IsS41.cell2 HQ.out
    refine value_ (w1 := ?_) (v := ?_) (by rfl) rfl ?_ ?_
    rotate_left 2
    ·go_simp
     constructor
     ·rfl
     ·rfl
    refine hK.out _ _ trivial (fun hHeld => ?_)
    clear hK K
    refine norm_ (a' := ?_) ?_ ?_
    rotate_left
    ·show Act.put _ (some 83) _ = _
     simp only [Act.put, List.setIfInBounds_toArray, List.set_cons_zero, List.set_cons_succ, i64_w, i32_w]
     rfl
    exact norm_ (by simp only [putAll, Act.put, List.setIfInBounds_toArray, List.set_cons_zero, List.set_cons_succ]) (hCont () _ ⟨HI.out, HQ.out, HT.out, HV.out, HB.out⟩)
   ·skip
    have hE := IsS41.cell2 HQ.out
    refine value_ (w1 := ?_) (v := ?_) (by rfl) rfl ?_ ?_
    rotate_left 2
    ·go_simp
     constructor
     ·rfl
     ·rfl
    refine hK.out _ _ trivial (fun hHeld => ?_)
    clear hK K
    refine norm_ (a' := ?_) ?_ ?_
    rotate_left
    ·show Act.put _ (some 83) _ = _
     simp only [Act.put, List.setIfInBounds_toArray, List.set_cons_zero, List.set_cons_succ, i64_w, i32_w]
     rfl
    refine one_ (i := 9) (N := some 79) #[true, true, true, true, true, true, true, true, true, true, true, true, true, true, false, false, false, false, false, false, false, false, false, false, false, false, false, false, false, false, false, false] rfl rfl (one_of HT_.out (by kernel_rfl)) (by decide) (fun K hK => ?_)
    refine goes_ Try.func14 (by kernel_rfl) rfl #[.int .i64 z] (by rfl) rfl rfl (by simp only [List.map_toArray, List.map_cons, List.map_nil]; rfl) ?_
    with_reducible refine (glebelaw07_num.calls z z _ rfl).mono ?_
    rintro e wx ⟨rfl, hbx0⟩
    refine ⟨_, rfl, ?_⟩
    have hbx := drawn_below hbx0
    replace HI := Aside0.mk (IsRdr.below (by first | exact HI.out | exact HI.out.drew) hbx)
    replace HQ := Aside0.mk (IsS41.below (by first | exact HQ.out | exact IsS41.drew HQ.out) hbx)
    replace HT := Aside0.mk (TB.below (by first | exact HT.out | exact HT.out.drew) hbx)
    replace HV := Aside0.mk (TB.below (by first | exact HV.out | exact HV.out.drew) hbx)
    replace HB := Aside0.mk (show Below w.heap.size w wx from by first | exact below_step HB.out hbx | exact below_step (below_drew HB.out) hbx)
    clear hbx
    clear hbx0
    have hE := IsS41.cell2 HQ.out
    refine hK.out _ _ trivial (fun hHeld => ?_)
    clear hK K
    refine norm_ (a' := ?_) ?_ ?_
    rotate_left
    ·show Act.put _ (some 79) _ = _
     simp only [Act.put, List.setIfInBounds_toArray, List.set_cons_zero, List.set_cons_succ, i64_w, i32_w]
     rfl
    exact norm_ (by simp only [putAll, Act.put, List.setIfInBounds_toArray, List.set_cons_zero, List.set_cons_succ]) (hCont () _ ⟨HI.out, HQ.out, HT.out, HV.out, HB.out⟩)
  ·skip
   have hE := IsS41.cell2 HQ.out
   refine value_ (w1 := ?_) (v := ?_) (by rfl) rfl ?_ ?_
   rotate_left 2
   ·go_simp
    constructor
    ·rfl
    ·rfl
   refine hK.out _ _ trivial (fun hHeld => ?_)
   clear hK K
   refine norm_ (a' := ?_) ?_ ?_
   rotate_left
   ·show Act.put _ (some 83) _ = _
    simp only [Act.put, List.setIfInBounds_toArray, List.set_cons_zero, List.set_cons_succ, i64_w, i32_w]
    rfl
   refine one_ (i := 8) (N := some 78) #[true, true, true, true, true, true, true, true, true, false, true, true, true, true, false, false, false, false, false, false, false, false, false, false, false, false, false, false, false, false, false, false] rfl rfl (one_of HT_.out (by kernel_rfl)) (by decide) (fun K hK => ?_)
   refine goes_ Try.func15 (by kernel_rfl) rfl #[.pointer (some ⟨g, 0, none⟩)] (by rfl) rfl rfl (by simp only [List.map_toArray, List.map_cons, List.map_nil]; rfl) ?_
   with_reducible refine (wire_Reader_Err.calls g l4 z true w _ HI.out).mono ?_
   rintro e wx ⟨rfl, rfl⟩
   refine ⟨_, rfl, ?_⟩
   rw [if_pos (rfl : true = true)]
   refine hK.out _ _ trivial (fun hHeld => ?_)
   clear hK K
   refine norm_ (a' := ?_) ?_ ?_
   rotate_left
   ·show Act.put _ (some 78) _ = _
    simp only [Act.put, List.setIfInBounds_toArray, List.set_cons_zero, List.set_cons_succ, i64_w, i32_w]
    rfl
   refine one_ (i := 9) (N := some 79) #[true, true, true, true, true, true, true, true, true, true, true, true, true, true, false, false, false, false, false, false, false, false, false, false, false, false, false, false, false, false, false, false] rfl rfl (one_of HT_.out (by kernel_rfl)) (by decide) (fun K hK => ?_)
   refine goes_ Try.func14 (by kernel_rfl) rfl #[.int .i64 z] (by rfl) rfl rfl (by simp only [List.map_toArray, List.map_cons, List.map_nil]; rfl) ?_
   with_reducible refine (glebelaw07_num.calls z z _ rfl).mono ?_
   rintro e wx ⟨rfl, hbx0⟩
   refine ⟨_, rfl, ?_⟩
   have hbx := drawn_below hbx0
   replace HI := Aside0.mk (IsRdr.below (by first | exact HI.out | exact HI.out.drew) hbx)
   replace HQ := Aside0.mk (IsS41.below (by first | exact HQ.out | exact IsS41.drew HQ.out) hbx)
   replace HT := Aside0.mk (TB.below (by first | exact HT.out | exact HT.out.drew) hbx)
   replace HV := Aside0.mk (TB.below (by first | exact HV.out | exact HV.out.drew) hbx)
   replace HB := Aside0.mk (show Below w.heap.size w wx from by first | exact below_step HB.out hbx | exact below_step (below_drew HB.out) hbx)
   clear hbx
   clear hbx0
   have hE := IsS41.cell2 HQ.out
   refine hK.out _ _ trivial (fun hHeld => ?_)
   clear hK K
   refine norm_ (a' := ?_) ?_ ?_
   rotate_left
   ·show Act.put _ (some 79) _ = _
    simp only [Act.put, List.setIfInBounds_toArray, List.set_cons_zero, List.set_cons_succ, i64_w, i32_w]
    rfl
   exact norm_ (by simp only [putAll, Act.put, List.setIfInBounds_toArray, List.set_cons_zero, List.set_cons_succ]) (hCont () _ ⟨HI.out, HQ.out, HT.out, HV.out, HB.out⟩)
 rintro s_ wx ⟨hI_, hQ_, hT_, hV_, hB_⟩
 clear HI HQ HT HV HB
 have HI := Aside0.mk hI_
 have HQ := Aside0.mk hQ_
 have HT := Aside0.mk hT_
 have HV := Aside0.mk hV_
 have HB := Aside0.mk hB_
 clear hI_ hQ_ hT_ hV_ hB_ s_
 have hHeld : True := trivial
 refine norm_ (a' := ?_) ?_ ?_
 rotate_left
 ·simp only [putAll, Act.put, List.setIfInBounds_toArray, List.set_cons_zero, List.set_cons_succ]
  rfl
 refine pure_ (i := 14) (N := some 84) (v := ?_) (a' := ?_) #[true, true, true, true, true, true, true, true, true, true, true, true, true, true, true, false, false, false, false, false, false, false, false, false, false, false, false, false, false, false, false, false] rfl rfl (any_of HT_.out (by kernel_rfl)) (fun _ _ _ h => h) (Or.inl ⟨by rfl, ?_⟩) ?_ ?_
 rotate_left
 ·intro w'
  go_simp
  with_reducible rfl
 rotate_left
 ·simp only [Act.put, List.setIfInBounds_toArray, List.set_cons_zero, List.set_cons_succ, i64_w, i32_w]
  rfl
 refine pure_ (i := 15) (N := some 85) (v := ?_) (a' := ?_) #[true, true, true, true, true, true, true, true, true, true, true, true, true, true, true, true, false, false, false, false, false, false, false, false, false, false, false, false, false, false, false, false] rfl rfl (any_of HT_.out (by kernel_rfl)) (fun _ _ _ h => h) (Or.inl ⟨by rfl, ?_⟩) ?_ ?_
 rotate_left
 ·intro w'
  go_simp
  with_reducible rfl
 rotate_left
 ·simp only [Act.put, List.setIfInBounds_toArray, List.set_cons_zero, List.set_cons_succ, i64_w, i32_w]
  rfl
 refine pure_ (i := 16) (N := some 86) (v := ?_) (a' := ?_) #[true, true, true, true, true, true, true, true, true, true, true, true, true, true, true, true, true, false, false, false, false, false, false, false, false, false, false, false, false, false, false, false] rfl rfl (any_of HT_.out (by kernel_rfl)) (fun _ _ _ h => h) (Or.inl ⟨by rfl, ?_⟩) ?_ ?_
 rotate_left
 ·intro w'
  go_simp
  with_reducible rfl
 rotate_left
 ·simp only [Act.put, List.setIfInBounds_toArray, List.set_cons_zero, List.set_cons_succ, i64_w, i32_w]
  rfl
 refine pure_ (i := 17) (N := some 87) (v := ?_) (a' := ?_) #[true, true, true, true, true, true, true, true, true, true, true, true, true, true, true, true, true, true, false, false, false, false, false, false, false, false, false, false, false, false, false, false] rfl rfl (any_of HT_.out (by kernel_rfl)) (fun _ _ _ h => h) (Or.inl ⟨by rfl, ?_⟩) ?_ ?_
 rotate_left
 ·intro w'
  go_simp
  with_reducible rfl
 rotate_left
 ·simp only [Act.put, List.setIfInBounds_toArray, List.set_cons_zero, List.set_cons_succ, i64_w, i32_w]
  rfl
 refine pure_ (i := 19) (N := some 89) (v := ?_) (a' := ?_) #[true, true, true, true, true, true, true, true, true, true, true, true, true, true, true, true, true, true, false, true, false, false, false, false, false, false, false, false, false, false, false, false] rfl rfl (any_of HT_.out (by kernel_rfl)) (fun _ _ _ h => h) (Or.inl ⟨by rfl, ?_⟩) ?_ ?_
 rotate_left
 ·intro w'
  go_simp
  with_reducible rfl
 rotate_left
 ·simp only [Act.put, List.setIfInBounds_toArray, List.set_cons_zero, List.set_cons_succ, i64_w, i32_w]
  rfl
 refine one_ (i := 18) (N := some 88) #[true, true, true, true, true, true, true, true, true, true, true, true, true, true, true, true, true, true, true, true, false, false, false, false, false, false, false, false, false, false, false, false] rfl rfl (one_of HT_.out (by kernel_rfl)) (by decide) (fun K hK => ?_)
 refine goes_ Try.func16 (by kernel_rfl) rfl #[.pointer (some ⟨g, 0, none⟩)] (by rfl) rfl rfl (by simp only [List.map_toArray, List.map_cons, List.map_nil]; rfl) ?_
 with_reducible refine (wire_Reader_Left.calls g l4 z true w _ HI.out).mono ?_
 rintro e wx ⟨rfl, rfl⟩
 refine ⟨_, rfl, ?_⟩
 rw [← HLX.out]
 refine hK.out _ _ trivial (fun hHeld => ?_)
 clear hK K
 refine norm_ (a' := ?_) ?_ ?_
 rotate_left
 ·show Act.put _ (some 88) _ = _
  simp only [Act.put, List.setIfInBounds_toArray, List.set_cons_zero, List.set_cons_succ, i64_w, i32_w]
  rfl
 refine one_ (i := 20) (N := some 90) #[true, true, true, true, true, true, true, true, true, true, true, true, true, true, true, true, true, true, true, true, true, false, false, false, false, false, false, false, false, false, false, false] rfl rfl (one_of HT_.out (by kernel_rfl)) (by decide) (fun K hK => ?_)
 refine goes_ Try.func17 (by kernel_rfl) rfl #[.pointer (some ⟨q, 0, none⟩)] (by rfl) rfl rfl (by simp only [List.map_toArray, List.map_cons, List.map_nil]; rfl) ?_
 with_reducible refine (gleberef01_Reader_Left.calls q l0 pz z lf pz z w _ HQ.out HB.out HLF.out).mono ?_
 rintro e wx ⟨rfl, hq, hb, hk⟩
 refine ⟨_, rfl, ?_⟩
 replace HI := Aside0.mk (rdr_keep HI.out HQ.out hk)
 obtain ⟨cs1, hcs1⟩ := IsS41.blk1 HQ.out
 replace HT := Aside0.mk (HT.out.keep hk hcs1 (by decide))
 replace HV := Aside0.mk (HV.out.keep hk hcs1 (by decide))
 replace HQ := Aside0.mk hq
 replace HB := Aside0.mk hb
 clear hq hb hk hcs1
 refine hK.out _ _ trivial (fun hHeld => ?_)
 clear hK K
 refine norm_ (a' := ?_) ?_ ?_
 rotate_left
 ·show Act.put _ (some 90) _ = _
  simp only [Act.put, List.setIfInBounds_toArray, List.set_cons_zero, List.set_cons_succ, i64_w, i32_w]
  rfl
 refine pure_ (i := 21) (N := some 91) (v := ?_) (a' := ?_) #[true, true, true, true, true, true, true, true, true, true, true, true, true, true, true, true, true, true, true, true, true, true, false, false, false, false, false, false, false, false, false, false] rfl rfl (any_of HT_.out (by kernel_rfl)) (fun _ _ _ h => h) (Or.inl ⟨by rfl, ?_⟩) ?_ ?_
 rotate_left
 ·intro w'
  go_simp
  with_reducible rfl
 rotate_left
 ·simp only [Act.put, List.setIfInBounds_toArray, List.set_cons_zero, List.set_cons_succ, i64_w, i32_w]
  rfl
 refine pure_ (i := 22) (N := some 92) (v := ?_) (a' := ?_) #[true, true, true, true, true, true, true, true, true, true, true, true, true, true, true, true, true, true, true, true, true, true, true, false, false, false, false, false, false, false, false, false] rfl rfl (any_of HT_.out (by kernel_rfl)) (fun _ _ _ h => h) (Or.inl ⟨by rfl, ?_⟩) ?_ ?_
 rotate_left
 ·intro w'
  go_simp
  with_reducible rfl
 rotate_left
 ·simp only [Act.put, List.setIfInBounds_toArray, List.set_cons_zero, List.set_cons_succ, i64_w, i32_w]
  rfl
 refine pure_ (i := 23) (N := some 93) (v := ?_) (a' := ?_) #[true, true, true, true, true, true, true, true, true, true, true, true, true, true, true, true, true, true, true, true, true, true, true, true, false, false, false, false, false, false, false, false] rfl rfl (any_of HT_.out (by kernel_rfl)) (fun _ _ _ h => h) (Or.inl ⟨by rfl, ?_⟩) ?_ ?_
 rotate_left
 ·intro w'
  go_simp
  with_reducible rfl
 rotate_left
 ·simp only [Act.put, List.setIfInBounds_toArray, List.set_cons_zero, List.set_cons_succ, i64_w, i32_w]
  rfl
 refine pure_ (i := 24) (N := some 94) (v := ?_) (a' := ?_) #[true, true, true, true, true, true, true, true, true, true, true, true, true, true, true, true, true, true, true, true, true, true, true, true, true, false, false, false, false, false, false, false] rfl rfl (any_of HT_.out (by kernel_rfl)) (fun _ _ _ h => h) (Or.inl ⟨by rfl, ?_⟩) ?_ ?_
 rotate_left
 ·intro w'
  go_simp
  with_reducible rfl
 rotate_left
 ·simp only [Act.put, List.setIfInBounds_toArray, List.set_cons_zero, List.set_cons_succ, i64_w, i32_w]
  rfl
 refine pure_ (i := 25) (N := some 95) (v := ?_) (a' := ?_) #[true, true, true, true, true, true, true, true, true, true, true, true, true, true, true, true, true, true, true, true, true, true, true, true, true, true, false, false, false, false, false, false] rfl rfl (any_of HT_.out (by kernel_rfl)) (fun _ _ _ h => h) (Or.inl ⟨by rfl, ?_⟩) ?_ ?_
 rotate_left
 ·intro w'
  go_simp
  with_reducible rfl
 rotate_left
 ·simp only [Act.put, List.setIfInBounds_toArray, List.set_cons_zero, List.set_cons_succ, i64_w, i32_w]
  rfl
 refine one_ (i := 26) (N := some 96) #[true, true, true, true, true, true, true, true, true, true, true, true, true, true, true, true, true, true, true, true, true, true, true, true, true, true, true, false, false, false, false, false] rfl rfl (one_of HT_.out (by kernel_rfl)) (by decide) (fun K hK => ?_)
 refine goes_ Try.func24 (by kernel_rfl) rfl #[.slice AL l0.length cL, .slice A0 l0.length c0] (by rfl) rfl rfl (by simp only [List.map_toArray, List.map_cons, List.map_nil]; rfl) ?_
 with_reducible refine (glebelaw01_Stays.calls AL cL l0 A0 c0 l0 true _ HT.out.c HCL.out (Kd.C_below H0.out HB.out) hc0 (by unfold glebelaw01_Stays.f; rw [if_pos rfl])).mono ?_
 rintro e wx ⟨rfl, hbx0⟩
 refine ⟨_, rfl, ?_⟩
 have hbx := drawn_below hbx0
 replace HB := Aside0.mk (below_step HB.out hbx)
 clear hbx hbx0
 refine hK.out _ _ trivial (fun hHeld => ?_)
 clear hK K
 refine norm_ (a' := ?_) ?_ ?_
 rotate_left
 ·show Act.put _ (some 96) _ = _
  simp only [Act.put, List.setIfInBounds_toArray, List.set_cons_zero, List.set_cons_succ, i64_w, i32_w]
  rfl
 refine pure_ (i := 27) (N := some 97) (v := ?_) (a' := ?_) #[true, true, true, true, true, true, true, true, true, true, true, true, true, true, true, true, true, true, true, true, true, true, true, true, true, true, true, true, false, false, false, false] rfl rfl (any_of HT_.out (by kernel_rfl)) (fun _ _ _ h => h) (Or.inl ⟨by rfl, ?_⟩) ?_ ?_
 rotate_left
 ·intro w'
  go_simp
  with_reducible rfl
 rotate_left
 ·simp only [Act.put, List.setIfInBounds_toArray, List.set_cons_zero, List.set_cons_succ, i64_w, i32_w]
  rfl
 refine pure_ (i := 28) (N := some 98) (v := ?_) (a' := ?_) #[true, true, true, true, true, true, true, true, true, true, true, true, true, true, true, true, true, true, true, true, true, true, true, true, true, true, true, true, true, false, false, false] rfl rfl (any_of HT_.out (by kernel_rfl)) (fun _ _ _ h => h) (Or.inl ⟨by rfl, ?_⟩) ?_ ?_
 rotate_left
 ·intro w'
  go_simp
  with_reducible rfl
 rotate_left
 ·simp only [Act.put, List.setIfInBounds_toArray, List.set_cons_zero, List.set_cons_succ, i64_w, i32_w]
  rfl
 refine one_ (i := 29) (N := some 99) #[true, true, true, true, true, true, true, true, true, true, true, true, true, true, true, true, true, true, true, true, true, true, true, true, true, true, true, true, true, true, false, false] rfl rfl (one_of HT_.out (by kernel_rfl)) (by decide) (fun K hK => ?_)
 refine goes_ Try.func7 (by kernel_rfl) rfl #[] (by rfl) rfl rfl (by simp only [List.map_toArray, List.map_cons, List.map_nil]) ?_
 with_reducible refine (glebelaw07_knows.calls true _ rfl).mono ?_
 rintro e wx ⟨rfl, hbx⟩
 refine ⟨_, rfl, ?_⟩
 replace HB := Aside0.mk (below_step HB.out hbx)
 clear hbx
 refine hK.out _ _ trivial (fun hHeld => ?_)
 clear hK K
 refine norm_ (a' := ?_) ?_ ?_
 rotate_left
 ·show Act.put _ (some 99) _ = _
  simp only [Act.put, List.setIfInBounds_toArray, List.set_cons_zero, List.set_cons_succ, i64_w, i32_w]
  rfl
 refine pure_ (i := 30) (N := some 100) (v := ?_) (a' := ?_) #[true, true, true, true, true, true, true, true, true, true, true, true, true, true, true, true, true, true, true, true, true, true, true, true, true, true, true, true, true, true, true, false] rfl rfl (any_of HT_.out (by kernel_rfl)) (fun _ _ _ h => h) (Or.inl ⟨by rfl, ?_⟩) ?_ ?_
 rotate_left
 ·intro w'
  go_simp
  with_reducible rfl
 rotate_left
 ·simp only [Act.put, List.setIfInBounds_toArray, List.set_cons_zero, List.set_cons_succ, i64_w, i32_w]
  rfl
 refine pure_ (i := 31) (N := some 2) (v := ?_) (a' := ?_) #[true, true, true, true, true, true, true, true, true, true, true, true, true, true, true, true, true, true, true, true, true, true, true, true, true, true, true, true, true, true, true, true] rfl rfl (any_of HT_.out (by kernel_rfl)) (fun _ _ _ h => h) (Or.inl ⟨by rfl, ?_⟩) ?_ ?_
 rotate_left
 ·intro w'
  go_simp
  with_reducible rfl
 rotate_left
 ·simp only [Act.put, List.setIfInBounds_toArray, List.set_cons_zero, List.set_cons_succ, i64_w, i32_w]
  rfl
 refine done_ (done_of HT_.out (by kernel_rfl)) ?_
 go_wp2
 go_ret
 exact ⟨rfl, HB.out⟩

end
end Go.Proofs.Ytiglmgmkablpkaa.PK
