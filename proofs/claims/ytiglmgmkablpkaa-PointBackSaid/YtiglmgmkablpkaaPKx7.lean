-- Written by a program of this session (wip/tools/hp.py) over the kit's print; nothing here is trusted: Lean checks it.
import Derived.RegionTactic
import Derived.BigRegion
import Derived.Deep.DeepCutAuto
import Derived.Test.YtiglmgmkablpkaaPointBack
import Derived.Test.YtiglmgmkablpkaaPKx0
import Derived.Test.YtiglmgmkablpkaaPKx1
import Derived.Test.YtiglmgmkablpkaaPKx3
import Derived.Test.YtiglmgmkablpkaaPKx6
namespace Go.Proofs.Ytiglmgmkablpkaa.PK
open Go.RowKit Go.Proofs.YtiglmgmkablpkaaW.PrintWords Go.Proofs.YtiglmgmkablpkaaW.PrintLast Go.Proofs.YtiglmgmkablpkaaW.PrintMore
attribute [local go_sem] max2_int min2_int max_two min_two max_three min_three max_four min_four   -- for this text's walks alone
set_option linter.unusedVariables false
set_option linter.unusedSimpArgs false

--OWN Derived.RegionTactic,Derived.BigRegion,Derived.Deep.DeepCutAuto,Derived.Test.YtiglmgmkablpkaaPointBack
/-! ### glebelaw07_PointBack: function 4 -/
def glebelaw07_PointBack.T8 : Bool × List (List Nat × List Nat) := (true, [([], []), ([0], [0]), ([1, 1], [1]), ([], []), ([2, 3], [2, 3]), ([4, 2], [4]), ([5], [5]), ([6, 5, 5], [5, 6]), ([5], [5]), ([8, 5], [5, 8]), ([7, 9, 5], [5, 7, 9]), ([5, 10], [5, 10])])
def glebelaw07_PointBack.B8 : List Nat := [0, 1, 3, 0, 15, 31, 63, 127, 63, 319, 1023, 2047]
theorem glebelaw07_PointBack.tab8 : rtab .any (opsOf Try.f4 8) = glebelaw07_PointBack.T8 := by kernel_rfl
theorem glebelaw07_PointBack.bits8 : waitsOk glebelaw07_PointBack.T8.2 glebelaw07_PointBack.B8 = true := by kernel_rfl
def glebelaw07_PointBack.T12 : Bool × List (List Nat × List Nat) := (true, [([], []), ([0], [0]), ([1, 1], [1]), ([], []), ([2, 3], [2, 3]), ([4, 2], [4]), ([5], [5]), ([6, 5, 5], [5, 6]), ([5], [5]), ([8, 5], [5, 8]), ([7, 9, 5], [5, 7, 9]), ([5, 10], [5, 10])])
def glebelaw07_PointBack.B12 : List Nat := [0, 1, 3, 0, 15, 31, 63, 127, 63, 319, 1023, 2047]
theorem glebelaw07_PointBack.tab12 : rtab .any (opsOf Try.f4 12) = glebelaw07_PointBack.T12 := by kernel_rfl
theorem glebelaw07_PointBack.bits12 : waitsOk glebelaw07_PointBack.T12.2 glebelaw07_PointBack.B12 = true := by kernel_rfl
def glebelaw07_PointBack.T16 : Bool × List (List Nat × List Nat) := (true, [([], []), ([0], [0]), ([1, 1], [1]), ([], []), ([2, 3], [2, 3]), ([4, 2], [4]), ([5], [5]), ([6, 5, 5], [5, 6]), ([5], [5]), ([8, 5], [5, 8]), ([7, 9, 5], [5, 7, 9]), ([5, 10], [5, 10])])
def glebelaw07_PointBack.B16 : List Nat := [0, 1, 3, 0, 15, 31, 63, 127, 63, 319, 1023, 2047]
theorem glebelaw07_PointBack.tab16 : rtab .any (opsOf Try.f4 16) = glebelaw07_PointBack.T16 := by kernel_rfl
theorem glebelaw07_PointBack.bits16 : waitsOk glebelaw07_PointBack.T16.2 glebelaw07_PointBack.B16 = true := by kernel_rfl
def glebelaw07_PointBack.T20 : Bool × List (List Nat × List Nat) := (true, [([], []), ([0], [0]), ([1, 1], [1]), ([2], [2]), ([3, 2], [3]), ([4], [4]), ([5, 4, 4], [4, 5]), ([6, 4], [4, 6]), ([7, 6, 4], [4, 7]), ([8], [8]), ([9, 8, 8], [8, 9]), ([8], [8]), ([11, 8], [8, 11]), ([10, 12, 8], [8, 10, 12]), ([8, 13, 4], [4, 8, 13]), ([14, 10, 4], [4, 14]), ([15], [15]), ([16, 15], [15, 16]), ([15], [15]), ([15], [15]), ([19, 15], [15, 19]), ([15], [15]), ([21, 15, 15], [15, 21]), ([20, 22, 15], [15, 20, 22]), ([18, 23, 15], [15, 18, 23]), ([24, 15], [15, 24]), ([17, 25, 15], [15, 17, 25]), ([15, 26, 4], [4, 15, 26]), ([4, 27], [4, 27])])
def glebelaw07_PointBack.B20 : List Nat := [0, 1, 3, 7, 15, 31, 63, 127, 255, 511, 1023, 511, 2559, 8191, 16383, 32767, 65535, 131071, 65535, 65535, 589823, 65535, 2162687, 7929855, 16580607, 33357823, 67108863, 134217727, 268435455]
theorem glebelaw07_PointBack.tab20 : rtab .any (opsOf Try.f4 20) = glebelaw07_PointBack.T20 := by kernel_rfl
theorem glebelaw07_PointBack.bits20 : waitsOk glebelaw07_PointBack.T20.2 glebelaw07_PointBack.B20 = true := by kernel_rfl
def glebelaw07_PointBack.T24 : Bool × List (List Nat × List Nat) := (true, [([], []), ([0], [0]), ([1, 1], [1]), ([2], [2]), ([3, 2], [3]), ([4], [4]), ([5, 4, 4], [4, 5]), ([6, 4], [4, 6]), ([7, 6, 4], [4, 7]), ([8], [8]), ([9, 8, 8], [8, 9]), ([8], [8]), ([11, 8], [8, 11]), ([10, 12, 8], [8, 10, 12]), ([8, 13, 4], [4, 8, 13]), ([14, 10, 4], [4, 14]), ([15], [15]), ([16, 15], [15, 16]), ([15], [15]), ([15], [15]), ([19, 15], [15, 19]), ([15], [15]), ([21, 15, 15], [15, 21]), ([20, 22, 15], [15, 20, 22]), ([18, 23, 15], [15, 18, 23]), ([24, 15], [15, 24]), ([17, 25, 15], [15, 17, 25]), ([15, 26, 4], [4, 15, 26]), ([4, 27], [4, 27]), ([28, 22], [28]), ([29, 29], [29]), ([29, 30], [29, 30]), ([31, 30, 0, 1, 2, 3, 4, 5, 6, 7, 8, 9, 10, 11, 12, 13, 14, 15, 16, 17, 18, 19, 20, 21, 22, 23, 24, 25, 26, 27, 28, 29, 30, 31], [31])])
def glebelaw07_PointBack.B24 : List Nat := [0, 1, 3, 7, 15, 31, 63, 127, 255, 511, 1023, 511, 2559, 8191, 16383, 32767, 65535, 131071, 65535, 65535, 589823, 65535, 2162687, 7929855, 16580607, 33357823, 67108863, 134217727, 268435455, 536870911, 1073741823, 2147483647, 4294967295]
theorem glebelaw07_PointBack.tab24 : rtab .any (opsOf Try.f4 24) = glebelaw07_PointBack.T24 := by kernel_rfl
theorem glebelaw07_PointBack.bits24 : waitsOk glebelaw07_PointBack.T24.2 glebelaw07_PointBack.B24 = true := by kernel_rfl
theorem r_self (v0 : Int) (v1 : Int) (v2 : ByteArray) (v3 : ByteArray) (v4 : Int) (W : World) : (Op.equalIn 10000 32 (.agg #[.int .i64 v0, .int .i64 v1, .string v2, .string v3, .int .i64 v4]) (.agg #[.int .i64 v0, .int .i64 v1, .string v2, .string v3, .int .i64 v4])).run Try.prog W = .ok true W := by
  have u0 := Try.underlying32
  have u30 := Try.underlying30
  have u3 := Try.underlying3
  have u4 := Try.underlying4
  have u9 := Try.underlying9
  rw [run_equalIn_struct W 9999 32 _ _ (by kernel_rfl) (by kernel_rfl)]
  go_simp
theorem o_self (v0 : Int) (v1 : Int) (v2 : Int) (v3 : ByteArray) (v4 : ByteArray) (v5 : Int) (v6 : Int) (W : World) : (Op.equalIn 10000 44 (.agg #[.int .i64 v0, .int .i64 v1, .int .i64 v2, .string v3, .string v4, .int .i64 v5, .int .i64 v6]) (.agg #[.int .i64 v0, .int .i64 v1, .int .i64 v2, .string v3, .string v4, .int .i64 v5, .int .i64 v6])).run Try.prog W = .ok true W := by
  have u0 := Try.underlying44
  have u30 := Try.underlying30
  have u3 := Try.underlying3
  have u4 := Try.underlying4
  have u9 := Try.underlying9
  rw [run_equalIn_struct W 9999 44 _ _ (by kernel_rfl) (by kernel_rfl)]
  go_simp
theorem a_self (v0 : Int) (v1 : Bool) (v2 : ByteArray) (v3 : Int) (W : World) : (Op.equalIn 10000 50 (.agg #[.int .i64 v0, .bool v1, .string v2, .int .i64 v3]) (.agg #[.int .i64 v0, .bool v1, .string v2, .int .i64 v3])).run Try.prog W = .ok true W := by
  have u0 := Try.underlying50
  have u30 := Try.underlying30
  have u3 := Try.underlying3
  have u4 := Try.underlying4
  have u9 := Try.underlying9
  rw [run_equalIn_struct W 9999 50 _ _ (by kernel_rfl) (by kernel_rfl)]
  go_simp
def glebelaw07_PointBack.f (k : Nat) (r0 : Int) (r1 : Int) (r2 : ByteArray) (r3 : ByteArray) (r4 : Int) (o0 : Int) (o1 : Int) (o2 : Int) (o3 : ByteArray) (o4 : ByteArray) (o5 : Int) (o6 : Int) (a0 : Int) (a1 : Bool) (a2 : ByteArray) (a3 : Int) (l0 : List Int) : Option Bool := if ∀ z ∈ l0, 0 ≤ z ∧ z < 256 then some true else none
set_option maxHeartbeats 32000000 in
set_option maxRecDepth 100000 in
theorem glebelaw07_PointBack.calls (k : Nat) (r0 : Int) (r1 : Int) (r2 : ByteArray) (r3 : ByteArray) (r4 : Int) (o0 : Int) (o1 : Int) (o2 : Int) (o3 : ByteArray) (o4 : ByteArray) (o5 : Int) (o6 : Int) (a0 : Int) (a1 : Bool) (a2 : ByteArray) (a3 : Int) (A0 : Option Addr) (c0 : Nat) (l0 : List Int) (r : Bool) (w : World) (hr0 : Kd.C (Kd.int .u8) w A0 l0.length l0) (hc0 : l0.length ≤ c0) (h : glebelaw07_PointBack.f k r0 r1 r2 r3 r4 o0 o1 o2 o3 o4 o5 o6 a0 a1 a2 a3 l0 = some r) :
    Calls Try.prog 4 #[.agg #[.int .i64 r0, .int .i64 r1, .string r2, .string r3, .int .i64 r4], .agg #[.int .i64 o0, .int .i64 o1, .int .i64 o2, .string o3, .string o4, .int .i64 o5, .int .i64 o6], .agg #[.int .i64 a0, .bool a1, .string a2, .int .i64 a3], .slice A0 l0.length c0] w fun e w' => e = .returned (.bool r) ∧ Below w.heap.size w w' := by
  unfold glebelaw07_PointBack.f at h
  by_cases hb0 : ∀ z ∈ l0, 0 ≤ z ∧ z < 256
  rotate_left
  · rw [if_neg hb0] at h
    cases h
  rw [if_pos hb0] at h
  obtain rfl := Option.some.inj h
  clear h
  have H0 := Aside0.mk hr0
  have HBY := Aside0.mk hb0
  clear hr0 hb0
  obtain ⟨lb, hlb, hlq⟩ := long_all [r2, r3, o3, o4, a2] (by simp)
  have HLB := Aside0.mk hlb
  have HLQ := Aside0.mk hlq
  clear hlb hlq
  have HB := Aside0.mk (Below.refl w.heap.size w)
  go_enter Try.func4, Try.ntmps4
  go_wp2_with (first | ((with_reducible refine gate_dst (N := 4) rfl ?_); refine box_event ?hg (N := 4) ?hd (cs := #[.int .i64 r0, .int .i64 r1, .string r2, .string r3, .int .i64 r4]) (t := 32) ?hr ?_; (case hd => rfl); (case hg => rfl); (case hr => first | (go_simp; done) | (go_simp; rfl)); intro gr hg w4 hbox hb; have Xr := Aside0.mk hbox; replace HB := Aside0.mk (below_step HB.out hb); clear hbox hb hg) | ((with_reducible refine gate_dst (N := 5) rfl ?_); refine box_event ?hg (N := 5) ?hd (cs := #[.int .i64 o0, .int .i64 o1, .int .i64 o2, .string o3, .string o4, .int .i64 o5, .int .i64 o6]) (t := 44) ?hr ?_; (case hd => rfl); (case hg => rfl); (case hr => first | (go_simp; done) | (go_simp; rfl)); intro go hg w5 hbox hb; have Xo := Aside0.mk hbox; replace Xr := Aside0.mk (blk_below Xr.out hb); replace HB := Aside0.mk (below_step HB.out hb); clear hbox hb hg) | ((with_reducible refine gate_dst (N := 6) rfl ?_); refine box_event ?hg (N := 6) ?hd (cs := #[.int .i64 a0, .bool a1, .string a2, .int .i64 a3]) (t := 50) ?hr ?_; (case hd => rfl); (case hg => rfl); (case hr => first | (go_simp; done) | (go_simp; rfl)); intro ga hg w6 hbox hb; have Xa := Aside0.mk hbox; replace Xr := Aside0.mk (blk_below Xr.out hb); replace Xo := Aside0.mk (blk_below Xo.out hb); replace HB := Aside0.mk (below_step HB.out hb); have kr2 := blk_cell Xr.out 2; have kr3 := blk_cell Xr.out 3; have ko3 := blk_cell Xo.out 3; have ko4 := blk_cell Xo.out 4; have ka2 := blk_cell hbox 2; clear hbox hb hg) | ((with_reducible refine gate_dst (N := 31) rfl ?_); refine Kd.R_lit Kd.string _ 9 ?hg (N := 31) ?hd (xs := ([r2, r3, o3, o4, a2] : List ByteArray)) (inner := [.string r2, .string r3, .string o3, .string o4, .string a2]) (ok := fun _ => True) (okp := fun _ => True) ?hr ?hp (fun _ hk => hk) trivial (Below.refl _ _) (Nat.le_refl _) (by simp) ?_; (case hd => rfl); (case hg => rfl); (case hr => first | (go_simp; done) | (go_simp; rfl)); (case hp => exact (Reps.one (show Kd.M Kd.string _ _ _ r2 [.string r2] from rfl) (Reps.one (show Kd.M Kd.string _ _ _ r3 [.string r3] from rfl) (Reps.one (show Kd.M Kd.string _ _ _ o3 [.string o3] from rfl) (Reps.one (show Kd.M Kd.string _ _ _ o4 [.string o4] from rfl) (Reps.one (show Kd.M Kd.string _ _ _ a2 [.string a2] from rfl) (Reps.none _ _))))))); intro vl wl hol hb hg_ hnew_; clear hg_ hnew_; obtain ⟨Al, cl, rfl⟩ := Kd.R_slice hol; have HLL := Aside0.mk (Kd.R_reads' hol); replace Xr := Aside0.mk (blk_below Xr.out hb); replace Xo := Aside0.mk (blk_below Xo.out hb); replace Xa := Aside0.mk (blk_below Xa.out hb); replace HB := Aside0.mk (below_step HB.out hb); clear hol hb) | fail)
  refine (glebelaw07_long.calls 200 Al cl [r2, r3, o3, o4, a2] lb _ HLL.out.2.2 HLL.out.2.1 HLB.out).mono ?_
  rintro e wg ⟨rfl, hd⟩
  have hb := drawn_below hd
  replace Xr := Aside0.mk (blk_below Xr.out hb)
  replace Xo := Aside0.mk (blk_below Xo.out hb)
  replace Xa := Aside0.mk (blk_below Xa.out hb)
  replace HB := Aside0.mk (below_step HB.out hb)
  clear hd hb HLL HLB kr2 kr3 ko3 ko4 ka2
  rcases (show lb = true ∨ (lb = false ∧ 500 < l0.length) ∨ (lb = false ∧ ¬ 500 < l0.length) by
    cases lb <;> simp <;> omega) with q | ⟨q, y⟩ | ⟨q, y⟩
  focus
    subst q
    go_wp2_with fail
    refine (glebelaw07_knows.calls true _ rfl).mono ?_
    rintro e wk ⟨rfl, hb⟩
    replace HB := Aside0.mk (below_step HB.out hb)
    clear hb
    go_wp2
    go_ret
    exact ⟨rfl, HB.out⟩
  focus
    subst q
    have zb : decide ((500 : Int) < (l0.length : Int)) = true := decide_eq_true (by omega)
    have zn : decide (500 < l0.length) = true := decide_eq_true y
    clear y
    go_wp2_with fail
    refine (glebelaw07_knows.calls true _ rfl).mono ?_
    rintro e wk ⟨rfl, hb⟩
    replace HB := Aside0.mk (below_step HB.out hb)
    clear hb
    go_wp2
    go_ret
    exact ⟨rfl, HB.out⟩
  subst q
  have zb : decide ((500 : Int) < (l0.length : Int)) = false := decide_eq_false (by omega)
  have zn : decide (500 < l0.length) = false := decide_eq_false y
  have HLE := Aside0.mk (show l0.length ≤ 500 by omega)
  clear y
  have hsz := HLQ.out rfl
  clear HLQ
  have zr2 : r2.size ≤ 500 := hsz r2 (by simp)
  have zr3 : r3.size ≤ 500 := hsz r3 (by simp)
  have zo3 : o3.size ≤ 500 := hsz o3 (by simp)
  have zo4 : o4.size ≤ 500 := hsz o4 (by simp)
  have za2 : a2.size ≤ 500 := hsz a2 (by simp)
  clear hsz
  obtain ⟨br, pr, qr, ir⟩ := right_rec r0 r1 r2 r3 r4
  obtain ⟨Lr, hLr⟩ : ∃ x, x = (if br then ([r0, r1] : List Int).flatMap wB ++ ([r2, r3] : List ByteArray).flatMap wT ++ ([r4] : List Int).flatMap wB else []) := ⟨_, rfl⟩
  obtain ⟨er, her⟩ : ∃ x, x = (if br then (0 : Int) else 1) := ⟨_, rfl⟩
  have HUr := Aside0.mk (show (er == 0) = br by rw [her]; cases br <;> rfl)
  have HPr := Aside0.mk pr
  have HIr := Aside0.mk ir
  have HLr := Aside0.mk hLr
  have HEr := Aside0.mk her
  clear pr qr ir hLr her
  obtain ⟨bo, po, qo, io⟩ := right_op o0 o1 o2 o3 o4 o5 o6
  obtain ⟨Lo, hLo⟩ : ∃ x, x = (if bo then ([o0, o1, o2] : List Int).flatMap wB ++ ([o3, o4] : List ByteArray).flatMap wT ++ ([o5, o6] : List Int).flatMap wB else []) := ⟨_, rfl⟩
  obtain ⟨eo, heo⟩ : ∃ x, x = (if bo then (0 : Int) else 1) := ⟨_, rfl⟩
  have HUo := Aside0.mk (show (eo == 0) = bo by rw [heo]; cases bo <;> rfl)
  have HPo := Aside0.mk po
  have HIo := Aside0.mk io
  have HLo := Aside0.mk hLo
  have HEo := Aside0.mk heo
  clear po qo io hLo heo
  obtain ⟨ba, pa, qa, ia⟩ := right_ans a0 a1 a2 a3
  obtain ⟨La, hLa⟩ : ∃ x, x = (if ba then ([a0, pbit a1] : List Int).flatMap wB ++ ([a2] : List ByteArray).flatMap wT ++ ([a3] : List Int).flatMap wB else []) := ⟨_, rfl⟩
  obtain ⟨ea, hea⟩ : ∃ x, x = (if ba then (0 : Int) else 1) := ⟨_, rfl⟩
  have HUa := Aside0.mk (show (ea == 0) = ba by rw [hea]; cases ba <;> rfl)
  have HPa := Aside0.mk pa
  have HIa := Aside0.mk ia
  have HLa := Aside0.mk hLa
  have HEa := Aside0.mk hea
  clear pa qa ia hLa hea
  have HTr := Aside0.mk (show ∀ s ∈ ([r2, r3] : List ByteArray), wire_Text.f 100 s = some (wT s, (fun _ => 0) s) by
    intro s hs
    simp only [List.mem_cons, List.not_mem_nil, or_false] at hs
    rcases hs with h | h
    · rw [h]; exact wT_f _ zr2
    · rw [h]; exact wT_f _ zr3)
  have HNr := Aside0.mk (show (([r0, r1] : List Int).flatMap wB ++ ([r2, r3] : List ByteArray).flatMap wT ++ ([r4] : List Int).flatMap wB).length ≤ 2000 by have := wB_len r0; have := wB_len r1; have := wT_len r2 zr2; have := wT_len r3 zr3; have := wB_len r4; simp; omega)
  have HMr := Aside0.mk (show Lr.length ≤ 2000 by rw [HLr.out]; cases br; exact Nat.zero_le _; exact HNr.out)
  have HTo := Aside0.mk (show ∀ s ∈ ([o3, o4] : List ByteArray), wire_Text.f 100 s = some (wT s, (fun _ => 0) s) by
    intro s hs
    simp only [List.mem_cons, List.not_mem_nil, or_false] at hs
    rcases hs with h | h
    · rw [h]; exact wT_f _ zo3
    · rw [h]; exact wT_f _ zo4)
  have HNo := Aside0.mk (show (([o0, o1, o2] : List Int).flatMap wB ++ ([o3, o4] : List ByteArray).flatMap wT ++ ([o5, o6] : List Int).flatMap wB).length ≤ 2000 by have := wB_len o0; have := wB_len o1; have := wB_len o2; have := wT_len o3 zo3; have := wT_len o4 zo4; have := wB_len o5; have := wB_len o6; simp; omega)
  have HMo := Aside0.mk (show Lo.length ≤ 2000 by rw [HLo.out]; cases bo; exact Nat.zero_le _; exact HNo.out)
  have HTa := Aside0.mk (show ∀ s ∈ ([a2] : List ByteArray), wire_Text.f 100 s = some (wT s, (fun _ => 0) s) by
    intro s hs
    simp only [List.mem_cons, List.not_mem_nil, or_false] at hs
    rw [hs]
    exact wT_f _ za2)
  have HNa := Aside0.mk (show (([a0, pbit a1] : List Int).flatMap wB ++ ([a2] : List ByteArray).flatMap wT ++ ([a3] : List Int).flatMap wB).length ≤ 2000 by have := wB_len a0; have := wB_len (pbit a1); have := wT_len a2 za2; have := wB_len a3; simp; omega)
  have HMa := Aside0.mk (show La.length ≤ 2000 by rw [HLa.out]; cases ba; exact Nat.zero_le _; exact HNa.out)
  clear zr2 zr3 zo3 zo4 za2
  have h0 := blk_cell Xr.out 0
  have h1 := blk_cell Xr.out 1
  have h2 := blk_cell Xr.out 2
  have h3 := blk_cell Xr.out 3
  have h4 := blk_cell Xr.out 4
  go_wp2_with fail
  refine (glebelaw07_Rec.calls r0 r1 r2 r3 r4 r0 r1 r2 r3 r4 _ rfl).mono ?_
  rintro e wc ⟨rfl, hb⟩
  replace Xr := Aside0.mk (blk_below Xr.out hb)
  replace Xo := Aside0.mk (blk_below Xo.out hb)
  replace Xa := Aside0.mk (blk_below Xa.out hb)
  replace HB := Aside0.mk (below_step HB.out hb)
  clear hb h0 h1 h2 h3 h4
  go_wp2_with fail
  refine (point_PutRec.calls 100 wB wE wT (fun _ => 0) r0 r1 r2 r3 r4 br _ HPr.out (fun n _ => wB_f n) HTr.out (fun n _ => wB_f n) (by have := HNr.out; omega)).mono ?_
  rintro e wd ⟨v, rfl, hv, hb⟩
  rw [← HEr.out]
  rw [← HLr.out] at hv
  obtain ⟨Br, Dr, rfl⟩ := Kd.R_slice hv
  replace Xr := Aside0.mk (blk_below Xr.out hb)
  replace Xo := Aside0.mk (blk_below Xo.out hb)
  replace Xa := Aside0.mk (blk_below Xa.out hb)
  replace HB := Aside0.mk (below_step HB.out hb)
  have Yr := Aside0.mk (show TB wd Br Lr.length Lr from ⟨(Kd.R_reads' hv).2.2, fun ad hA => by
    obtain ⟨cells, hx⟩ := Kd.R_typed hv ad.block (by rw [hA]; simp [Value.ownBlock])
    exact ⟨cells, _, hx⟩⟩)
  clear hb hv
  have h0 := blk_cell Xo.out 0
  have h1 := blk_cell Xo.out 1
  have h2 := blk_cell Xo.out 2
  have h3 := blk_cell Xo.out 3
  have h4 := blk_cell Xo.out 4
  have h5 := blk_cell Xo.out 5
  have h6 := blk_cell Xo.out 6
  go_wp2_with fail
  refine (glebelaw07_Op.calls o0 o1 o2 o3 o4 o5 o6 o0 o1 o2 o3 o4 o5 o6 _ rfl).mono ?_
  rintro e wc ⟨rfl, hb⟩
  replace Xr := Aside0.mk (blk_below Xr.out hb)
  replace Xo := Aside0.mk (blk_below Xo.out hb)
  replace Xa := Aside0.mk (blk_below Xa.out hb)
  replace Yr := Aside0.mk (Yr.out.below hb)
  replace HB := Aside0.mk (below_step HB.out hb)
  clear hb h0 h1 h2 h3 h4 h5 h6
  go_wp2_with fail
  refine (point_PutOp.calls 100 wB wE wT (fun _ => 0) o0 o1 o2 o3 o4 o5 o6 bo _ HPo.out (fun n _ => wB_f n) HTo.out (fun n _ => wB_f n) (by have := HNo.out; omega)).mono ?_
  rintro e wd ⟨v, rfl, hv, hb⟩
  rw [← HEo.out]
  rw [← HLo.out] at hv
  obtain ⟨Bo, Do, rfl⟩ := Kd.R_slice hv
  replace Xr := Aside0.mk (blk_below Xr.out hb)
  replace Xo := Aside0.mk (blk_below Xo.out hb)
  replace Xa := Aside0.mk (blk_below Xa.out hb)
  replace Yr := Aside0.mk (Yr.out.below hb)
  replace HB := Aside0.mk (below_step HB.out hb)
  have Yo := Aside0.mk (show TB wd Bo Lo.length Lo from ⟨(Kd.R_reads' hv).2.2, fun ad hA => by
    obtain ⟨cells, hx⟩ := Kd.R_typed hv ad.block (by rw [hA]; simp [Value.ownBlock])
    exact ⟨cells, _, hx⟩⟩)
  clear hb hv
  have h0 := blk_cell Xa.out 0
  have h1 := blk_cell Xa.out 1
  have h2 := blk_cell Xa.out 2
  have h3 := blk_cell Xa.out 3
  go_wp2_with fail
  refine (glebelaw07_Ans.calls a0 a1 a2 a3 a0 a1 a2 a3 _ rfl).mono ?_
  rintro e wc ⟨rfl, hb⟩
  replace Xr := Aside0.mk (blk_below Xr.out hb)
  replace Xo := Aside0.mk (blk_below Xo.out hb)
  replace Xa := Aside0.mk (blk_below Xa.out hb)
  replace Yr := Aside0.mk (Yr.out.below hb)
  replace Yo := Aside0.mk (Yo.out.below hb)
  replace HB := Aside0.mk (below_step HB.out hb)
  clear hb h0 h1 h2 h3
  go_wp2_with fail
  refine (point_PutAns.calls 100 wB wE wT (fun _ => 0) a0 a1 a2 a3 ba _ HPa.out (fun n _ => wB_f n) HTa.out (fun n _ => wB_f n) (by have := HNa.out; omega)).mono ?_
  rintro e wd ⟨v, rfl, hv, hb⟩
  rw [← HEa.out]
  rw [← HLa.out] at hv
  obtain ⟨Ba, Da, rfl⟩ := Kd.R_slice hv
  replace Xr := Aside0.mk (blk_below Xr.out hb)
  replace Xo := Aside0.mk (blk_below Xo.out hb)
  replace Xa := Aside0.mk (blk_below Xa.out hb)
  replace Yr := Aside0.mk (Yr.out.below hb)
  replace Yo := Aside0.mk (Yo.out.below hb)
  replace HB := Aside0.mk (below_step HB.out hb)
  have Ya := Aside0.mk (show TB wd Ba La.length La from ⟨(Kd.R_reads' hv).2.2, fun ad hA => by
    obtain ⟨cells, hx⟩ := Kd.R_typed hv ad.block (by rw [hA]; simp [Value.ownBlock])
    exact ⟨cells, _, hx⟩⟩)
  clear hb hv
  go_wp2_with fail
  refine (glebelaw07_num.calls er er _ rfl).mono ?_
  rintro e wn ⟨rfl, hd⟩
  have hb := drawn_below hd
  replace Xr := Aside0.mk (blk_below Xr.out hb)
  replace Xo := Aside0.mk (blk_below Xo.out hb)
  replace Xa := Aside0.mk (blk_below Xa.out hb)
  replace Yr := Aside0.mk (Yr.out.below hb)
  replace Yo := Aside0.mk (Yo.out.below hb)
  replace Ya := Aside0.mk (Ya.out.below hb)
  replace HB := Aside0.mk (below_step HB.out hb)
  clear hb hd
  go_upto_if 59 with fail
  (try simp only [Act.put, List.setIfInBounds_toArray, List.set_cons_zero, List.set_cons_succ])
  go_cut [15] (fun _ wc => Aside0 (wc.heap[gr]? = some (.cells #[.int .i64 r0, .int .i64 r1, .string r2, .string r3, .int .i64 r4] 32 (0, 0))) ∧ Aside0 (wc.heap[go]? = some (.cells #[.int .i64 o0, .int .i64 o1, .int .i64 o2, .string o3, .string o4, .int .i64 o5, .int .i64 o6] 44 (0, 0))) ∧ Aside0 (wc.heap[ga]? = some (.cells #[.int .i64 a0, .bool a1, .string a2, .int .i64 a3] 50 (0, 0))) ∧ Aside0 (TB wc Br Lr.length Lr) ∧ Aside0 (TB wc Bo Lo.length Lo) ∧ Aside0 (TB wc Ba La.length La) ∧ Aside0 (Below w.heap.size w wc))
  case first =>
    as_aux_lemma =>
    have hu := HUr.out
    cases hbp : br
    focus
      rw [hbp] at hu
      clear hbp
      go_wp2
      go_meet
      case rel => exact ⟨Xr, Xo, Xa, Yr, Yo, Ya, HB⟩
    rw [hbp] at hu
    have hL2 := HLr.out
    rw [hbp, if_pos rfl] at hL2
    obtain ⟨l1, l2, l3, l4, k1, k2, k3, k4, k5⟩ := back_rec r0 r1 r2 r3 r4 (HIr.out hbp) l0
    rw [← hL2] at k1
    have HKS := Aside0.mk (show rdNum (Lr ++ l0) 0 true = (r0, l1, 0) ∧ rdNum l1 0 true = (r1, l2, 0) ∧ rdText l2 0 true 32 = (bytesOf r2, l3, 0) ∧ rdText l3 0 true 32 = (bytesOf r3, l4, 0) ∧ rdNum l4 0 true = (r4, l0, 0) from ⟨k1, k2, k3, k4, k5⟩)
    have hR := HPr.out
    rw [hbp] at hR
    have HRR := Aside0.mk (show point_RightRec.f 100 r0 r1 (strOfNums (bytesOf r2)) (strOfNums (bytesOf r3)) r4 = some true by rw [str_bytes, str_bytes]; exact hR)
    have HAL := Aside0.mk (show (([] : List Int).length + Lr.length) * 1 ≤ 140737488355328 by have := HMr.out; simp; omega)
    have HAL2 := Aside0.mk (show (([] ++ Lr).length + l0.length) * 1 ≤ 140737488355328 by have := HMr.out; have := HLE.out; simp; omega)
    have hpe := r_self r0 r1 r2 r3 r4
    obtain ⟨LX, hLX⟩ : ∃ x, x = Lr ++ l0 := ⟨_, rfl⟩
    rw [← hLX] at HKS
    have HLX := Aside0.mk hLX
    have HLN := Aside0.mk (show LX.length ≤ 2500 by have := HMr.out; have := HLE.out; rw [hLX, List.length_append]; omega)
    clear hbp hL2 hR hLX k1 k2 k3 k4 k5
    go_wp2_with (first | ((with_reducible refine gate_dst (N := 60) rfl ?_); refine Kd.R_lit (Kd.int .u8) _ 5 ?hg (N := 60) ?hd (xs := ([] : List Int)) (inner := []) (ok := fun _ => True) (okp := fun _ => True) ?hr ?hp (fun _ hk => hk) trivial (Below.refl _ _) (Nat.le_refl _) (by simp) ?_; (case hd => rfl); (case hg => rfl); (case hr => first | (go_simp; done) | (go_simp; rfl)); (case hp => exact (Reps.none _ _)); intro vL wL hoL hb hg_ hnew_; clear hg_ hnew_; have HOL := Aside0.mk hoL; have HBN := Aside0.mk hb; clear hb hoL) | ((with_reducible refine gate_builtin (b := .append) (xs := #[.tmp 60, .tmp 61]) rfl ?_); at_builtin; refine Kd.R_append_rows (Kd.int .u8) (w0 := wn) wn.heap.size rfl (.tmp 60) (.tmp 61) 22 5 (.int .u8 0) 1 rfl Try.underlying22 info5 rfl (by decide) (by omega) _ [] Lr _ _ _ (fun _ => True) (fun _ => False) rfl rfl ?aO ?aR (fun _ _ h => h) (fun _ h => h.elim) ?aF ?aB ?aS ?aL ?_; (case aO => exact HOL.out); (case aR => exact Kd.C_below Yr.out.c HBN.out); (case aB => exact HBN.out); (case aF => exact (fun _ _ => trivial)); (case aS => exact (below_size HBN.out)); (case aL => exact HAL.out); intro vM wM ho hb hg hat; replace HOL := Aside0.mk ho; replace HBN := Aside0.mk hb; clear ho hb hg hat) | ((with_reducible refine gate_builtin (b := .append) (xs := #[.tmp 62, .tmp 63]) rfl ?_); at_builtin; refine Kd.R_append_rows (Kd.int .u8) (w0 := wn) wn.heap.size rfl (.tmp 62) (.tmp 63) 22 5 (.int .u8 0) 1 rfl Try.underlying22 info5 rfl (by decide) (by omega) _ ([] ++ Lr) l0 _ _ _ (fun _ => True) (fun _ => False) rfl rfl ?aO ?aR (fun _ _ h => h) (fun _ h => h.elim) ?aF ?aB ?aS ?aL ?_; (case aO => exact HOL.out); (case aR => exact Kd.C_below (Kd.C_below H0.out HB.out) HBN.out); (case aB => exact HBN.out); (case aF => exact (fun _ _ => trivial)); (case aS => exact (below_size HBN.out)); (case aL => exact HAL2.out); intro vM wM ho hb hg hat; replace HOL := Aside0.mk ho; replace HBN := Aside0.mk hb; clear ho hb hg hat) | fail)
    have hol := HOL.out
    rw [List.nil_append, ← HLX.out] at hol
    obtain ⟨Ax, cx, rfl⟩ := Kd.R_slice hol
    have HCX := Aside0.mk (Kd.R_reads' hol)
    have hb := HBN.out
    replace Xr := Aside0.mk (blk_below Xr.out hb)
    replace Xo := Aside0.mk (blk_below Xo.out hb)
    replace Xa := Aside0.mk (blk_below Xa.out hb)
    replace Yr := Aside0.mk (Yr.out.below hb)
    replace Yo := Aside0.mk (Yo.out.below hb)
    replace Ya := Aside0.mk (Ya.out.below hb)
    replace HB := Aside0.mk (below_step HB.out hb)
    clear hb hol HOL HBN HAL HAL2
    go_wp2_with fail
    refine (wire_Open.calls Ax cx LX _ HCX.out.2.2 HCX.out.2.1 (by have := HLN.out; omega)).mono ?_
    rintro e wo ⟨g, A2, c2, rfl, hg, hblk, hc2, hC2, hty, hb⟩
    have HI := Aside0.mk (show IsRdr w wo g LX 0 true from ⟨Nat.le_trans HB.out.size hg, A2, c2, hblk, hc2, hC2, hty⟩)
    replace Xr := Aside0.mk (blk_below Xr.out hb)
    replace Xo := Aside0.mk (blk_below Xo.out hb)
    replace Xa := Aside0.mk (blk_below Xa.out hb)
    replace Yr := Aside0.mk (Yr.out.below hb)
    replace Yo := Aside0.mk (Yo.out.below hb)
    replace Ya := Aside0.mk (Ya.out.below hb)
    replace HB := Aside0.mk (below_step HB.out hb)
    clear hg hblk hc2 hC2 hty hb HCX
    go_wp2_with fail
    refine start_ (n := 12) (S := fun w' => w'.cell? ⟨gr, 0, none⟩ = some (.int .i64 r0) ∧ w'.cell? ⟨gr, 1, none⟩ = some (.int .i64 r1) ∧ w'.cell? ⟨gr, 2, none⟩ = some (.string r2) ∧ w'.cell? ⟨gr, 3, none⟩ = some (.string r3) ∧ w'.cell? ⟨gr, 4, none⟩ = some (.int .i64 r4)) (ds := []) #[false, false, false, false, false, false, false, false, false, false, false, false] (by kernel_rfl) rfl rfl ⟨(blk_cell Xr.out 0), (blk_cell Xr.out 1), (blk_cell Xr.out 2), (blk_cell Xr.out 3), (blk_cell Xr.out 4)⟩ (fun hHeld => ?_)
    refine with_tabW glebelaw07_PointBack.tab8 glebelaw07_PointBack.bits8 (fun HT_ HW_ => ?_)
    refine pure_ (i := 0) (N := some 66) (v := ?_) (a' := ?_) #[true, false, false, false, false, false, false, false, false, false, false, false] rfl rfl (any_of HT_.out (by kernel_rfl)) (fun _ _ _ h => h) (Or.inl ⟨by rfl, ?_⟩) ?_ ?_
    rotate_left
    · intro w'
      go_simp
      with_reducible rfl
    rotate_left
    · simp only [Act.put, List.setIfInBounds_toArray, List.set_cons_zero, List.set_cons_succ, i64_w, i32_w]
      rfl
    refine take_ (i := 3) (N := some 69) (v := ?_) (a' := ?_) #[true, false, false, true, false, false, false, false, false, false, false, false] rfl rfl (take_ofW HT_.out HW_.out (by kernel_rfl)) (fun _ _ _ h => h) (Or.inl ⟨by rfl, ?_⟩) hHeld ?_ ?_
    rotate_left
    · rintro w' ⟨s0, s1, s2, s3, s4⟩
      go_simp
      with_reducible rfl
    rotate_left
    · simp only [Act.put, List.setIfInBounds_toArray, List.set_cons_zero, List.set_cons_succ, i64_w, i32_w]
      rfl
    refine one_ (i := 1) (N := some 67) #[true, true, false, true, false, false, false, false, false, false, false, false] rfl rfl (one_of HT_.out (by kernel_rfl)) (by decide) (fun K hK => ?_)
    refine goes_ Try.func12 (by kernel_rfl) rfl #[.pointer (some ⟨g, 0, none⟩)] (by rfl) rfl rfl (by simp only [List.map_toArray, List.map_cons, List.map_nil]; rfl) ?_
    with_reducible refine (point_TakeRec.calls 100 g LX 0 r0 l1 0 HKS.out.1 r1 l2 0 HKS.out.2.1 (bytesOf r2) l3 0 HKS.out.2.2.1 (bytesOf r3) l4 0 HKS.out.2.2.2.1 r4 l0 0 HKS.out.2.2.2.2 true HRR.out w _ (by first | exact HI.out | exact HI.out.drew) (by first | exact HB.out | exact below_drew HB.out)).mono ?_
    rintro e wx ⟨rfl, hi, hbx, hk⟩
    refine ⟨_, rfl, ?_⟩
    rw [show tkE true 0 = 0 from rfl] at hi ⊢
    rw [if_pos (rfl : (0 : Int) = 0), str_bytes, str_bytes]
    obtain ⟨cs1, hcs1⟩ := HI.out.blk1
    replace Xr := Aside0.mk (hk.blk (by first | exact Xr.out | exact blk_drew Xr.out) (HI.out.at_ne Xr.out (by decide)) (by simp))
    replace Xo := Aside0.mk (hk.blk (by first | exact Xo.out | exact blk_drew Xo.out) (HI.out.at_ne Xo.out (by decide)) (by simp))
    replace Xa := Aside0.mk (hk.blk (by first | exact Xa.out | exact blk_drew Xa.out) (HI.out.at_ne Xa.out (by decide)) (by simp))
    replace Yr := Aside0.mk (TB.keep (by first | exact Yr.out | exact Yr.out.drew) hk (by first | exact hcs1 | exact blk_drew hcs1) (by decide))
    replace Yo := Aside0.mk (TB.keep (by first | exact Yo.out | exact Yo.out.drew) hk (by first | exact hcs1 | exact blk_drew hcs1) (by decide))
    replace Ya := Aside0.mk (TB.keep (by first | exact Ya.out | exact Ya.out.drew) hk (by first | exact hcs1 | exact blk_drew hcs1) (by decide))
    replace HI := Aside0.mk hi
    replace HB := Aside0.mk hbx
    clear hi hbx hk hcs1
    refine hK.out _ _ ⟨(blk_cell Xr.out 0), (blk_cell Xr.out 1), (blk_cell Xr.out 2), (blk_cell Xr.out 3), (blk_cell Xr.out 4)⟩ (fun hHeld => ?_)
    clear hK K
    refine norm_ (a' := ?_) ?_ ?_
    rotate_left
    · show Act.put _ (some 67) _ = _
      simp only [Act.put, List.setIfInBounds_toArray, List.set_cons_zero, List.set_cons_succ, i64_w, i32_w]
      rfl
    refine one_ (i := 2) (N := some 68) #[true, true, true, true, false, false, false, false, false, false, false, false] rfl rfl (one_of HT_.out (by kernel_rfl)) (by decide) (fun K hK => ?_)
    refine goes_ Try.func11 (by kernel_rfl) rfl #[.agg #[.int .i64 r0, .int .i64 r1, .string r2, .string r3, .int .i64 r4]] (by rfl) rfl rfl (by simp only [List.map_toArray, List.map_cons, List.map_nil]; rfl) ?_
    with_reducible refine (glebelaw07_RefRec.calls r0 r1 r2 r3 r4 r0 r1 r2 r3 r4 _ rfl).mono ?_
    rintro e wx ⟨rfl, hbx⟩
    refine ⟨_, rfl, ?_⟩
    replace Xr := Aside0.mk (blk_below (by first | exact Xr.out | exact blk_drew Xr.out) hbx)
    replace Xo := Aside0.mk (blk_below (by first | exact Xo.out | exact blk_drew Xo.out) hbx)
    replace Xa := Aside0.mk (blk_below (by first | exact Xa.out | exact blk_drew Xa.out) hbx)
    replace Yr := Aside0.mk (TB.below (by first | exact Yr.out | exact Yr.out.drew) hbx)
    replace Yo := Aside0.mk (TB.below (by first | exact Yo.out | exact Yo.out.drew) hbx)
    replace Ya := Aside0.mk (TB.below (by first | exact Ya.out | exact Ya.out.drew) hbx)
    replace HI := Aside0.mk (IsRdr.below (by first | exact HI.out | exact HI.out.drew) hbx)
    replace HB := Aside0.mk (show Below w.heap.size w wx from by first | exact below_step HB.out hbx | exact below_step (below_drew HB.out) hbx)
    clear hbx
    refine hK.out _ _ ⟨(blk_cell Xr.out 0), (blk_cell Xr.out 1), (blk_cell Xr.out 2), (blk_cell Xr.out 3), (blk_cell Xr.out 4)⟩ (fun hHeld => ?_)
    clear hK K
    refine norm_ (a' := ?_) ?_ ?_
    rotate_left
    · show Act.put _ (some 68) _ = _
      simp only [Act.put, List.setIfInBounds_toArray, List.set_cons_zero, List.set_cons_succ, i64_w, i32_w]
      rfl
    refine pure_ (i := 4) (N := some 70) (v := ?_) (a' := ?_) #[true, true, true, true, true, false, false, false, false, false, false, false] rfl rfl (any_of HT_.out (by kernel_rfl)) (fun _ _ _ h => h) (Or.inl ⟨by rfl, ?_⟩) ?_ ?_
    rotate_left
    · intro w'
      go_simp
      with_reducible rfl
    rotate_left
    · simp only [Act.put, List.setIfInBounds_toArray, List.set_cons_zero, List.set_cons_succ, i64_w, i32_w]
      rfl
    refine pure_ (i := 5) (N := some 71) (v := ?_) (a' := ?_) #[true, true, true, true, true, true, false, false, false, false, false, false] rfl rfl (any_of HT_.out (by kernel_rfl)) (fun _ _ _ h => h) (Or.inl ⟨by rfl, ?_⟩) ?_ ?_
    rotate_left
    · intro w'
      go_simp
      with_reducible rfl
    rotate_left
    · simp only [Act.put, List.setIfInBounds_toArray, List.set_cons_zero, List.set_cons_succ, i64_w, i32_w]
      rfl
    refine pure_ (i := 6) (N := some 72) (v := ?_) (a' := ?_) #[true, true, true, true, true, true, true, false, false, false, false, false] rfl rfl (any_of HT_.out (by kernel_rfl)) (fun _ _ _ h => h) (Or.inl ⟨by rfl, ?_⟩) ?_ ?_
    rotate_left
    · intro w'
      go_simp
      with_reducible rfl
    rotate_left
    · simp only [Act.put, List.setIfInBounds_toArray, List.set_cons_zero, List.set_cons_succ, i64_w, i32_w]
      rfl
    refine pure_ (i := 8) (N := some 74) (v := ?_) (a' := ?_) #[true, true, true, true, true, true, true, false, true, false, false, false] rfl rfl (any_of HT_.out (by kernel_rfl)) (fun _ _ _ h => h) (Or.inl ⟨by rfl, ?_⟩) ?_ ?_
    rotate_left
    · intro w'
      go_simp
      with_reducible rfl
    rotate_left
    · simp only [Act.put, List.setIfInBounds_toArray, List.set_cons_zero, List.set_cons_succ, i64_w, i32_w]
      rfl
    refine pure_ (i := 9) (N := some 75) (v := ?_) (a' := ?_) #[true, true, true, true, true, true, true, false, true, true, false, false] rfl rfl (any_of HT_.out (by kernel_rfl)) (fun _ _ _ h => h) (Or.inl ⟨by rfl, ?_⟩) ?_ ?_
    rotate_left
    · intro w'
      go_simp
      with_reducible rfl
    rotate_left
    · simp only [Act.put, List.setIfInBounds_toArray, List.set_cons_zero, List.set_cons_succ, i64_w, i32_w]
      rfl
    refine one_ (i := 7) (N := some 73) #[true, true, true, true, true, true, true, true, true, true, false, false] rfl rfl (one_of HT_.out (by kernel_rfl)) (by decide) (fun K hK => ?_)
    refine goes_ Try.func16 (by kernel_rfl) rfl #[.pointer (some ⟨g, 0, none⟩)] (by rfl) rfl rfl (by simp only [List.map_toArray, List.map_cons, List.map_nil]; rfl) ?_
    with_reducible refine (wire_Reader_Left.calls g l0 0 true w _ HI.out).mono ?_
    rintro e wx ⟨rfl, rfl⟩
    refine ⟨_, rfl, ?_⟩
    rw [if_pos (show rdOk 0 true = true from rfl)]
    refine hK.out _ _ ⟨(blk_cell Xr.out 0), (blk_cell Xr.out 1), (blk_cell Xr.out 2), (blk_cell Xr.out 3), (blk_cell Xr.out 4)⟩ (fun hHeld => ?_)
    clear hK K
    refine norm_ (a' := ?_) ?_ ?_
    rotate_left
    · show Act.put _ (some 73) _ = _
      simp only [Act.put, List.setIfInBounds_toArray, List.set_cons_zero, List.set_cons_succ, i64_w, i32_w]
      rfl
    refine pure_ (i := 10) (N := some 76) (v := ?_) (a' := ?_) #[true, true, true, true, true, true, true, true, true, true, true, false] rfl rfl (any_of HT_.out (by kernel_rfl)) (fun _ _ _ h => h) (Or.inl ⟨by rfl, ?_⟩) ?_ ?_
    rotate_left
    · intro w'
      go_simp
      with_reducible rfl
    rotate_left
    · simp only [Act.put, List.setIfInBounds_toArray, List.set_cons_zero, List.set_cons_succ, i64_w, i32_w]
      rfl
    refine pure_ (i := 11) (N := some 77) (v := ?_) (a' := ?_) #[true, true, true, true, true, true, true, true, true, true, true, true] rfl rfl (any_of HT_.out (by kernel_rfl)) (fun _ _ _ h => h) (Or.inl ⟨by rfl, ?_⟩) ?_ ?_
    rotate_left
    · intro w'
      go_simp
      with_reducible rfl
    rotate_left
    · simp only [Act.put, List.setIfInBounds_toArray, List.set_cons_zero, List.set_cons_succ, i64_w, i32_w]
      rfl
    refine done_ (done_of HT_.out (by kernel_rfl)) ?_
    go_wp2
    go_meet
    case rel => exact ⟨Xr, Xo, Xa, Yr, Yo, Ya, HB⟩
  case rest =>
  obtain ⟨Xr, Xo, Xa, Yr, Yo, Ya, HB⟩ := hcut
  as_aux_lemma =>
  go_wp2_with fail
  refine (glebelaw07_num.calls eo eo _ rfl).mono ?_
  rintro e wn ⟨rfl, hd⟩
  have hb := drawn_below hd
  replace Xr := Aside0.mk (blk_below Xr.out hb)
  replace Xo := Aside0.mk (blk_below Xo.out hb)
  replace Xa := Aside0.mk (blk_below Xa.out hb)
  replace Yr := Aside0.mk (Yr.out.below hb)
  replace Yo := Aside0.mk (Yo.out.below hb)
  replace Ya := Aside0.mk (Ya.out.below hb)
  replace HB := Aside0.mk (below_step HB.out hb)
  clear hb hd
  go_upto_if 80 with fail
  (try simp only [Act.put, List.setIfInBounds_toArray, List.set_cons_zero, List.set_cons_succ])
  go_cut [16] (fun _ wc => Aside0 (wc.heap[gr]? = some (.cells #[.int .i64 r0, .int .i64 r1, .string r2, .string r3, .int .i64 r4] 32 (0, 0))) ∧ Aside0 (wc.heap[go]? = some (.cells #[.int .i64 o0, .int .i64 o1, .int .i64 o2, .string o3, .string o4, .int .i64 o5, .int .i64 o6] 44 (0, 0))) ∧ Aside0 (wc.heap[ga]? = some (.cells #[.int .i64 a0, .bool a1, .string a2, .int .i64 a3] 50 (0, 0))) ∧ Aside0 (TB wc Br Lr.length Lr) ∧ Aside0 (TB wc Bo Lo.length Lo) ∧ Aside0 (TB wc Ba La.length La) ∧ Aside0 (Below w.heap.size w wc))
  case first =>
    as_aux_lemma =>
    have hu := HUo.out
    cases hbp : bo
    focus
      rw [hbp] at hu
      clear hbp
      go_wp2
      go_meet
      case rel => exact ⟨Xr, Xo, Xa, Yr, Yo, Ya, HB⟩
    rw [hbp] at hu
    have hL2 := HLo.out
    rw [hbp, if_pos rfl] at hL2
    obtain ⟨m0, l1, l2, l3, l4, l5, k0, k1, k2, k3, k4, k5, k6⟩ := back_op o0 o1 o2 o3 o4 o5 o6 (HIo.out hbp) l0
    rw [← hL2] at k0
    have HKS := Aside0.mk (show rdNum (Lo ++ l0) 0 true = (o0, m0, 0) ∧ rdNum m0 0 true = (o1, l1, 0) ∧ rdNum l1 0 true = (o2, l2, 0) ∧ rdText l2 0 true 32 = (bytesOf o3, l3, 0) ∧ rdText l3 0 true 32 = (bytesOf o4, l4, 0) ∧ rdNum l4 0 true = (o5, l5, 0) ∧ rdNum l5 0 true = (o6, l0, 0) from ⟨k0, k1, k2, k3, k4, k5, k6⟩)
    have hR := HPo.out
    rw [hbp] at hR
    have HRR := Aside0.mk (show point_RightOp.f 100 o0 o1 o2 (strOfNums (bytesOf o3)) (strOfNums (bytesOf o4)) o5 o6 = some true by rw [str_bytes, str_bytes]; exact hR)
    have HAL := Aside0.mk (show (([] : List Int).length + Lo.length) * 1 ≤ 140737488355328 by have := HMo.out; simp; omega)
    have HAL2 := Aside0.mk (show (([] ++ Lo).length + l0.length) * 1 ≤ 140737488355328 by have := HMo.out; have := HLE.out; simp; omega)
    have hpe := o_self o0 o1 o2 o3 o4 o5 o6
    obtain ⟨LX, hLX⟩ : ∃ x, x = Lo ++ l0 := ⟨_, rfl⟩
    rw [← hLX] at HKS
    have HLX := Aside0.mk hLX
    have HLN := Aside0.mk (show LX.length ≤ 2500 by have := HMo.out; have := HLE.out; rw [hLX, List.length_append]; omega)
    clear hbp hL2 hR hLX k0 k1 k2 k3 k4 k5 k6
    go_wp2_with (first | ((with_reducible refine gate_dst (N := 81) rfl ?_); refine Kd.R_lit (Kd.int .u8) _ 5 ?hg (N := 81) ?hd (xs := ([] : List Int)) (inner := []) (ok := fun _ => True) (okp := fun _ => True) ?hr ?hp (fun _ hk => hk) trivial (Below.refl _ _) (Nat.le_refl _) (by simp) ?_; (case hd => rfl); (case hg => rfl); (case hr => first | (go_simp; done) | (go_simp; rfl)); (case hp => exact (Reps.none _ _)); intro vL wL hoL hb hg_ hnew_; clear hg_ hnew_; have HOL := Aside0.mk hoL; have HBN := Aside0.mk hb; clear hb hoL) | ((with_reducible refine gate_builtin (b := .append) (xs := #[.tmp 81, .tmp 82]) rfl ?_); at_builtin; refine Kd.R_append_rows (Kd.int .u8) (w0 := wn) wn.heap.size rfl (.tmp 81) (.tmp 82) 22 5 (.int .u8 0) 1 rfl Try.underlying22 info5 rfl (by decide) (by omega) _ [] Lo _ _ _ (fun _ => True) (fun _ => False) rfl rfl ?aO ?aR (fun _ _ h => h) (fun _ h => h.elim) ?aF ?aB ?aS ?aL ?_; (case aO => exact HOL.out); (case aR => exact Kd.C_below Yo.out.c HBN.out); (case aB => exact HBN.out); (case aF => exact (fun _ _ => trivial)); (case aS => exact (below_size HBN.out)); (case aL => exact HAL.out); intro vM wM ho hb hg hat; replace HOL := Aside0.mk ho; replace HBN := Aside0.mk hb; clear ho hb hg hat) | ((with_reducible refine gate_builtin (b := .append) (xs := #[.tmp 83, .tmp 84]) rfl ?_); at_builtin; refine Kd.R_append_rows (Kd.int .u8) (w0 := wn) wn.heap.size rfl (.tmp 83) (.tmp 84) 22 5 (.int .u8 0) 1 rfl Try.underlying22 info5 rfl (by decide) (by omega) _ ([] ++ Lo) l0 _ _ _ (fun _ => True) (fun _ => False) rfl rfl ?aO ?aR (fun _ _ h => h) (fun _ h => h.elim) ?aF ?aB ?aS ?aL ?_; (case aO => exact HOL.out); (case aR => exact Kd.C_below (Kd.C_below H0.out HB.out) HBN.out); (case aB => exact HBN.out); (case aF => exact (fun _ _ => trivial)); (case aS => exact (below_size HBN.out)); (case aL => exact HAL2.out); intro vM wM ho hb hg hat; replace HOL := Aside0.mk ho; replace HBN := Aside0.mk hb; clear ho hb hg hat) | fail)
    have hol := HOL.out
    rw [List.nil_append, ← HLX.out] at hol
    obtain ⟨Ax, cx, rfl⟩ := Kd.R_slice hol
    have HCX := Aside0.mk (Kd.R_reads' hol)
    have hb := HBN.out
    replace Xr := Aside0.mk (blk_below Xr.out hb)
    replace Xo := Aside0.mk (blk_below Xo.out hb)
    replace Xa := Aside0.mk (blk_below Xa.out hb)
    replace Yr := Aside0.mk (Yr.out.below hb)
    replace Yo := Aside0.mk (Yo.out.below hb)
    replace Ya := Aside0.mk (Ya.out.below hb)
    replace HB := Aside0.mk (below_step HB.out hb)
    clear hb hol HOL HBN HAL HAL2
    go_wp2_with fail
    refine (wire_Open.calls Ax cx LX _ HCX.out.2.2 HCX.out.2.1 (by have := HLN.out; omega)).mono ?_
    rintro e wo ⟨g, A2, c2, rfl, hg, hblk, hc2, hC2, hty, hb⟩
    have HI := Aside0.mk (show IsRdr w wo g LX 0 true from ⟨Nat.le_trans HB.out.size hg, A2, c2, hblk, hc2, hC2, hty⟩)
    replace Xr := Aside0.mk (blk_below Xr.out hb)
    replace Xo := Aside0.mk (blk_below Xo.out hb)
    replace Xa := Aside0.mk (blk_below Xa.out hb)
    replace Yr := Aside0.mk (Yr.out.below hb)
    replace Yo := Aside0.mk (Yo.out.below hb)
    replace Ya := Aside0.mk (Ya.out.below hb)
    replace HB := Aside0.mk (below_step HB.out hb)
    clear hg hblk hc2 hC2 hty hb HCX
    go_wp2_with fail
    refine start_ (n := 12) (S := fun w' => w'.cell? ⟨go, 0, none⟩ = some (.int .i64 o0) ∧ w'.cell? ⟨go, 1, none⟩ = some (.int .i64 o1) ∧ w'.cell? ⟨go, 2, none⟩ = some (.int .i64 o2) ∧ w'.cell? ⟨go, 3, none⟩ = some (.string o3) ∧ w'.cell? ⟨go, 4, none⟩ = some (.string o4) ∧ w'.cell? ⟨go, 5, none⟩ = some (.int .i64 o5) ∧ w'.cell? ⟨go, 6, none⟩ = some (.int .i64 o6)) (ds := []) #[false, false, false, false, false, false, false, false, false, false, false, false] (by kernel_rfl) rfl rfl ⟨(blk_cell Xo.out 0), (blk_cell Xo.out 1), (blk_cell Xo.out 2), (blk_cell Xo.out 3), (blk_cell Xo.out 4), (blk_cell Xo.out 5), (blk_cell Xo.out 6)⟩ (fun hHeld => ?_)
    refine with_tabW glebelaw07_PointBack.tab12 glebelaw07_PointBack.bits12 (fun HT_ HW_ => ?_)
    refine pure_ (i := 0) (N := some 87) (v := ?_) (a' := ?_) #[true, false, false, false, false, false, false, false, false, false, false, false] rfl rfl (any_of HT_.out (by kernel_rfl)) (fun _ _ _ h => h) (Or.inl ⟨by rfl, ?_⟩) ?_ ?_
    rotate_left
    · intro w'
      go_simp
      with_reducible rfl
    rotate_left
    · simp only [Act.put, List.setIfInBounds_toArray, List.set_cons_zero, List.set_cons_succ, i64_w, i32_w]
      rfl
    refine take_ (i := 3) (N := some 90) (v := ?_) (a' := ?_) #[true, false, false, true, false, false, false, false, false, false, false, false] rfl rfl (take_ofW HT_.out HW_.out (by kernel_rfl)) (fun _ _ _ h => h) (Or.inl ⟨by rfl, ?_⟩) hHeld ?_ ?_
    rotate_left
    · rintro w' ⟨s0, s1, s2, s3, s4, s5, s6⟩
      go_simp
      with_reducible rfl
    rotate_left
    · simp only [Act.put, List.setIfInBounds_toArray, List.set_cons_zero, List.set_cons_succ, i64_w, i32_w]
      rfl
    refine one_ (i := 1) (N := some 88) #[true, true, false, true, false, false, false, false, false, false, false, false] rfl rfl (one_of HT_.out (by kernel_rfl)) (by decide) (fun K hK => ?_)
    refine goes_ Try.func19 (by kernel_rfl) rfl #[.pointer (some ⟨g, 0, none⟩)] (by rfl) rfl rfl (by simp only [List.map_toArray, List.map_cons, List.map_nil]; rfl) ?_
    with_reducible refine (point_TakeOp.calls 100 g LX 0 o0 m0 0 HKS.out.1 o1 l1 0 HKS.out.2.1 o2 l2 0 HKS.out.2.2.1 (bytesOf o3) l3 0 HKS.out.2.2.2.1 (bytesOf o4) l4 0 HKS.out.2.2.2.2.1 o5 l5 0 HKS.out.2.2.2.2.2.1 o6 l0 0 HKS.out.2.2.2.2.2.2 true HRR.out w _ (by first | exact HI.out | exact HI.out.drew) (by first | exact HB.out | exact below_drew HB.out)).mono ?_
    rintro e wx ⟨rfl, hi, hbx, hk⟩
    refine ⟨_, rfl, ?_⟩
    rw [show tkE true 0 = 0 from rfl] at hi ⊢
    rw [if_pos (rfl : (0 : Int) = 0), str_bytes, str_bytes]
    obtain ⟨cs1, hcs1⟩ := HI.out.blk1
    replace Xr := Aside0.mk (hk.blk (by first | exact Xr.out | exact blk_drew Xr.out) (HI.out.at_ne Xr.out (by decide)) (by simp))
    replace Xo := Aside0.mk (hk.blk (by first | exact Xo.out | exact blk_drew Xo.out) (HI.out.at_ne Xo.out (by decide)) (by simp))
    replace Xa := Aside0.mk (hk.blk (by first | exact Xa.out | exact blk_drew Xa.out) (HI.out.at_ne Xa.out (by decide)) (by simp))
    replace Yr := Aside0.mk (TB.keep (by first | exact Yr.out | exact Yr.out.drew) hk (by first | exact hcs1 | exact blk_drew hcs1) (by decide))
    replace Yo := Aside0.mk (TB.keep (by first | exact Yo.out | exact Yo.out.drew) hk (by first | exact hcs1 | exact blk_drew hcs1) (by decide))
    replace Ya := Aside0.mk (TB.keep (by first | exact Ya.out | exact Ya.out.drew) hk (by first | exact hcs1 | exact blk_drew hcs1) (by decide))
    replace HI := Aside0.mk hi
    replace HB := Aside0.mk hbx
    clear hi hbx hk hcs1
    refine hK.out _ _ ⟨(blk_cell Xo.out 0), (blk_cell Xo.out 1), (blk_cell Xo.out 2), (blk_cell Xo.out 3), (blk_cell Xo.out 4), (blk_cell Xo.out 5), (blk_cell Xo.out 6)⟩ (fun hHeld => ?_)
    clear hK K
    refine norm_ (a' := ?_) ?_ ?_
    rotate_left
    · show Act.put _ (some 88) _ = _
      simp only [Act.put, List.setIfInBounds_toArray, List.set_cons_zero, List.set_cons_succ, i64_w, i32_w]
      rfl
    refine one_ (i := 2) (N := some 89) #[true, true, true, true, false, false, false, false, false, false, false, false] rfl rfl (one_of HT_.out (by kernel_rfl)) (by decide) (fun K hK => ?_)
    refine goes_ Try.func18 (by kernel_rfl) rfl #[.agg #[.int .i64 o0, .int .i64 o1, .int .i64 o2, .string o3, .string o4, .int .i64 o5, .int .i64 o6]] (by rfl) rfl rfl (by simp only [List.map_toArray, List.map_cons, List.map_nil]; rfl) ?_
    with_reducible refine (glebelaw07_RefOp.calls o0 o1 o2 o3 o4 o5 o6 o0 o1 o2 o3 o4 o5 o6 _ rfl).mono ?_
    rintro e wx ⟨rfl, hbx⟩
    refine ⟨_, rfl, ?_⟩
    replace Xr := Aside0.mk (blk_below (by first | exact Xr.out | exact blk_drew Xr.out) hbx)
    replace Xo := Aside0.mk (blk_below (by first | exact Xo.out | exact blk_drew Xo.out) hbx)
    replace Xa := Aside0.mk (blk_below (by first | exact Xa.out | exact blk_drew Xa.out) hbx)
    replace Yr := Aside0.mk (TB.below (by first | exact Yr.out | exact Yr.out.drew) hbx)
    replace Yo := Aside0.mk (TB.below (by first | exact Yo.out | exact Yo.out.drew) hbx)
    replace Ya := Aside0.mk (TB.below (by first | exact Ya.out | exact Ya.out.drew) hbx)
    replace HI := Aside0.mk (IsRdr.below (by first | exact HI.out | exact HI.out.drew) hbx)
    replace HB := Aside0.mk (show Below w.heap.size w wx from by first | exact below_step HB.out hbx | exact below_step (below_drew HB.out) hbx)
    clear hbx
    refine hK.out _ _ ⟨(blk_cell Xo.out 0), (blk_cell Xo.out 1), (blk_cell Xo.out 2), (blk_cell Xo.out 3), (blk_cell Xo.out 4), (blk_cell Xo.out 5), (blk_cell Xo.out 6)⟩ (fun hHeld => ?_)
    clear hK K
    refine norm_ (a' := ?_) ?_ ?_
    rotate_left
    · show Act.put _ (some 89) _ = _
      simp only [Act.put, List.setIfInBounds_toArray, List.set_cons_zero, List.set_cons_succ, i64_w, i32_w]
      rfl
    refine pure_ (i := 4) (N := some 91) (v := ?_) (a' := ?_) #[true, true, true, true, true, false, false, false, false, false, false, false] rfl rfl (any_of HT_.out (by kernel_rfl)) (fun _ _ _ h => h) (Or.inl ⟨by rfl, ?_⟩) ?_ ?_
    rotate_left
    · intro w'
      go_simp
      with_reducible rfl
    rotate_left
    · simp only [Act.put, List.setIfInBounds_toArray, List.set_cons_zero, List.set_cons_succ, i64_w, i32_w]
      rfl
    refine pure_ (i := 5) (N := some 92) (v := ?_) (a' := ?_) #[true, true, true, true, true, true, false, false, false, false, false, false] rfl rfl (any_of HT_.out (by kernel_rfl)) (fun _ _ _ h => h) (Or.inl ⟨by rfl, ?_⟩) ?_ ?_
    rotate_left
    · intro w'
      go_simp
      with_reducible rfl
    rotate_left
    · simp only [Act.put, List.setIfInBounds_toArray, List.set_cons_zero, List.set_cons_succ, i64_w, i32_w]
      rfl
    refine pure_ (i := 6) (N := some 93) (v := ?_) (a' := ?_) #[true, true, true, true, true, true, true, false, false, false, false, false] rfl rfl (any_of HT_.out (by kernel_rfl)) (fun _ _ _ h => h) (Or.inl ⟨by rfl, ?_⟩) ?_ ?_
    rotate_left
    · intro w'
      go_simp
      with_reducible rfl
    rotate_left
    · simp only [Act.put, List.setIfInBounds_toArray, List.set_cons_zero, List.set_cons_succ, i64_w, i32_w]
      rfl
    refine pure_ (i := 8) (N := some 95) (v := ?_) (a' := ?_) #[true, true, true, true, true, true, true, false, true, false, false, false] rfl rfl (any_of HT_.out (by kernel_rfl)) (fun _ _ _ h => h) (Or.inl ⟨by rfl, ?_⟩) ?_ ?_
    rotate_left
    · intro w'
      go_simp
      with_reducible rfl
    rotate_left
    · simp only [Act.put, List.setIfInBounds_toArray, List.set_cons_zero, List.set_cons_succ, i64_w, i32_w]
      rfl
    refine pure_ (i := 9) (N := some 96) (v := ?_) (a' := ?_) #[true, true, true, true, true, true, true, false, true, true, false, false] rfl rfl (any_of HT_.out (by kernel_rfl)) (fun _ _ _ h => h) (Or.inl ⟨by rfl, ?_⟩) ?_ ?_
    rotate_left
    · intro w'
      go_simp
      with_reducible rfl
    rotate_left
    · simp only [Act.put, List.setIfInBounds_toArray, List.set_cons_zero, List.set_cons_succ, i64_w, i32_w]
      rfl
    refine one_ (i := 7) (N := some 94) #[true, true, true, true, true, true, true, true, true, true, false, false] rfl rfl (one_of HT_.out (by kernel_rfl)) (by decide) (fun K hK => ?_)
    refine goes_ Try.func16 (by kernel_rfl) rfl #[.pointer (some ⟨g, 0, none⟩)] (by rfl) rfl rfl (by simp only [List.map_toArray, List.map_cons, List.map_nil]; rfl) ?_
    with_reducible refine (wire_Reader_Left.calls g l0 0 true w _ HI.out).mono ?_
    rintro e wx ⟨rfl, rfl⟩
    refine ⟨_, rfl, ?_⟩
    rw [if_pos (show rdOk 0 true = true from rfl)]
    refine hK.out _ _ ⟨(blk_cell Xo.out 0), (blk_cell Xo.out 1), (blk_cell Xo.out 2), (blk_cell Xo.out 3), (blk_cell Xo.out 4), (blk_cell Xo.out 5), (blk_cell Xo.out 6)⟩ (fun hHeld => ?_)
    clear hK K
    refine norm_ (a' := ?_) ?_ ?_
    rotate_left
    · show Act.put _ (some 94) _ = _
      simp only [Act.put, List.setIfInBounds_toArray, List.set_cons_zero, List.set_cons_succ, i64_w, i32_w]
      rfl
    refine pure_ (i := 10) (N := some 97) (v := ?_) (a' := ?_) #[true, true, true, true, true, true, true, true, true, true, true, false] rfl rfl (any_of HT_.out (by kernel_rfl)) (fun _ _ _ h => h) (Or.inl ⟨by rfl, ?_⟩) ?_ ?_
    rotate_left
    · intro w'
      go_simp
      with_reducible rfl
    rotate_left
    · simp only [Act.put, List.setIfInBounds_toArray, List.set_cons_zero, List.set_cons_succ, i64_w, i32_w]
      rfl
    refine pure_ (i := 11) (N := some 98) (v := ?_) (a' := ?_) #[true, true, true, true, true, true, true, true, true, true, true, true] rfl rfl (any_of HT_.out (by kernel_rfl)) (fun _ _ _ h => h) (Or.inl ⟨by rfl, ?_⟩) ?_ ?_
    rotate_left
    · intro w'
      go_simp
      with_reducible rfl
    rotate_left
    · simp only [Act.put, List.setIfInBounds_toArray, List.set_cons_zero, List.set_cons_succ, i64_w, i32_w]
      rfl
    refine done_ (done_of HT_.out (by kernel_rfl)) ?_
    go_wp2
    go_meet
    case rel => exact ⟨Xr, Xo, Xa, Yr, Yo, Ya, HB⟩
  case rest =>
  obtain ⟨Xr, Xo, Xa, Yr, Yo, Ya, HB⟩ := hcut
  as_aux_lemma =>
  go_wp2_with fail
  refine (glebelaw07_num.calls ea ea _ rfl).mono ?_
  rintro e wn ⟨rfl, hd⟩
  have hb := drawn_below hd
  replace Xr := Aside0.mk (blk_below Xr.out hb)
  replace Xo := Aside0.mk (blk_below Xo.out hb)
  replace Xa := Aside0.mk (blk_below Xa.out hb)
  replace Yr := Aside0.mk (Yr.out.below hb)
  replace Yo := Aside0.mk (Yo.out.below hb)
  replace Ya := Aside0.mk (Ya.out.below hb)
  replace HB := Aside0.mk (below_step HB.out hb)
  clear hb hd
  go_upto_if 101 with fail
  (try simp only [Act.put, List.setIfInBounds_toArray, List.set_cons_zero, List.set_cons_succ])
  go_cut [17] (fun _ wc => Aside0 (wc.heap[gr]? = some (.cells #[.int .i64 r0, .int .i64 r1, .string r2, .string r3, .int .i64 r4] 32 (0, 0))) ∧ Aside0 (wc.heap[go]? = some (.cells #[.int .i64 o0, .int .i64 o1, .int .i64 o2, .string o3, .string o4, .int .i64 o5, .int .i64 o6] 44 (0, 0))) ∧ Aside0 (wc.heap[ga]? = some (.cells #[.int .i64 a0, .bool a1, .string a2, .int .i64 a3] 50 (0, 0))) ∧ Aside0 (TB wc Br Lr.length Lr) ∧ Aside0 (TB wc Bo Lo.length Lo) ∧ Aside0 (TB wc Ba La.length La) ∧ Aside0 (Below w.heap.size w wc))
  case first =>
    as_aux_lemma =>
    have hu := HUa.out
    cases hbp : ba
    focus
      rw [hbp] at hu
      clear hbp
      go_wp2
      go_meet
      case rel => exact ⟨Xr, Xo, Xa, Yr, Yo, Ya, HB⟩
    rw [hbp] at hu
    have hL2 := HLa.out
    rw [hbp, if_pos rfl] at hL2
    obtain ⟨l1, l2, l3, k1, k2, k3, k4⟩ := back_ans a0 a1 a2 a3 (HIa.out hbp) l0
    rw [← hL2] at k1
    have HKS := Aside0.mk (show rdNum (La ++ l0) 0 true = (a0, l1, 0) ∧ rdNum l1 0 true = (pbit a1, l2, 0) ∧ rdText l2 0 true 32 = (bytesOf a2, l3, 0) ∧ rdNum l3 0 true = (a3, l0, 0) from ⟨k1, k2, k3, k4⟩)
    have hR := HPa.out
    rw [hbp] at hR
    have hpb : (pbit a1 == 1) = a1 := by cases a1 <;> rfl
    have HPB := Aside0.mk (show tkE (decide (pbit a1 ≤ 1) && true) 0 = 0 by cases a1 <;> rfl)
    have HPE := Aside0.mk hpb
    clear hpb
    have HRR := Aside0.mk (show point_RightAns.f 100 a0 a1 (strOfNums (bytesOf a2)) a3 = some true by rw [str_bytes]; exact hR)
    have HAL := Aside0.mk (show (([] : List Int).length + La.length) * 1 ≤ 140737488355328 by have := HMa.out; simp; omega)
    have HAL2 := Aside0.mk (show (([] ++ La).length + l0.length) * 1 ≤ 140737488355328 by have := HMa.out; have := HLE.out; simp; omega)
    have hpe := a_self a0 a1 a2 a3
    obtain ⟨LX, hLX⟩ : ∃ x, x = La ++ l0 := ⟨_, rfl⟩
    rw [← hLX] at HKS
    have HLX := Aside0.mk hLX
    have HLN := Aside0.mk (show LX.length ≤ 2500 by have := HMa.out; have := HLE.out; rw [hLX, List.length_append]; omega)
    clear hbp hL2 hR hLX k1 k2 k3 k4
    go_wp2_with (first | ((with_reducible refine gate_dst (N := 102) rfl ?_); refine Kd.R_lit (Kd.int .u8) _ 5 ?hg (N := 102) ?hd (xs := ([] : List Int)) (inner := []) (ok := fun _ => True) (okp := fun _ => True) ?hr ?hp (fun _ hk => hk) trivial (Below.refl _ _) (Nat.le_refl _) (by simp) ?_; (case hd => rfl); (case hg => rfl); (case hr => first | (go_simp; done) | (go_simp; rfl)); (case hp => exact (Reps.none _ _)); intro vL wL hoL hb hg_ hnew_; clear hg_ hnew_; have HOL := Aside0.mk hoL; have HBN := Aside0.mk hb; clear hb hoL) | ((with_reducible refine gate_builtin (b := .append) (xs := #[.tmp 102, .tmp 103]) rfl ?_); at_builtin; refine Kd.R_append_rows (Kd.int .u8) (w0 := wn) wn.heap.size rfl (.tmp 102) (.tmp 103) 22 5 (.int .u8 0) 1 rfl Try.underlying22 info5 rfl (by decide) (by omega) _ [] La _ _ _ (fun _ => True) (fun _ => False) rfl rfl ?aO ?aR (fun _ _ h => h) (fun _ h => h.elim) ?aF ?aB ?aS ?aL ?_; (case aO => exact HOL.out); (case aR => exact Kd.C_below Ya.out.c HBN.out); (case aB => exact HBN.out); (case aF => exact (fun _ _ => trivial)); (case aS => exact (below_size HBN.out)); (case aL => exact HAL.out); intro vM wM ho hb hg hat; replace HOL := Aside0.mk ho; replace HBN := Aside0.mk hb; clear ho hb hg hat) | ((with_reducible refine gate_builtin (b := .append) (xs := #[.tmp 104, .tmp 105]) rfl ?_); at_builtin; refine Kd.R_append_rows (Kd.int .u8) (w0 := wn) wn.heap.size rfl (.tmp 104) (.tmp 105) 22 5 (.int .u8 0) 1 rfl Try.underlying22 info5 rfl (by decide) (by omega) _ ([] ++ La) l0 _ _ _ (fun _ => True) (fun _ => False) rfl rfl ?aO ?aR (fun _ _ h => h) (fun _ h => h.elim) ?aF ?aB ?aS ?aL ?_; (case aO => exact HOL.out); (case aR => exact Kd.C_below (Kd.C_below H0.out HB.out) HBN.out); (case aB => exact HBN.out); (case aF => exact (fun _ _ => trivial)); (case aS => exact (below_size HBN.out)); (case aL => exact HAL2.out); intro vM wM ho hb hg hat; replace HOL := Aside0.mk ho; replace HBN := Aside0.mk hb; clear ho hb hg hat) | fail)
    have hol := HOL.out
    rw [List.nil_append, ← HLX.out] at hol
    obtain ⟨Ax, cx, rfl⟩ := Kd.R_slice hol
    have HCX := Aside0.mk (Kd.R_reads' hol)
    have hb := HBN.out
    replace Xr := Aside0.mk (blk_below Xr.out hb)
    replace Xo := Aside0.mk (blk_below Xo.out hb)
    replace Xa := Aside0.mk (blk_below Xa.out hb)
    replace Yr := Aside0.mk (Yr.out.below hb)
    replace Yo := Aside0.mk (Yo.out.below hb)
    replace Ya := Aside0.mk (Ya.out.below hb)
    replace HB := Aside0.mk (below_step HB.out hb)
    clear hb hol HOL HBN HAL HAL2
    go_wp2_with fail
    refine (wire_Open.calls Ax cx LX _ HCX.out.2.2 HCX.out.2.1 (by have := HLN.out; omega)).mono ?_
    rintro e wo ⟨g, A2, c2, rfl, hg, hblk, hc2, hC2, hty, hb⟩
    have HI := Aside0.mk (show IsRdr w wo g LX 0 true from ⟨Nat.le_trans HB.out.size hg, A2, c2, hblk, hc2, hC2, hty⟩)
    replace Xr := Aside0.mk (blk_below Xr.out hb)
    replace Xo := Aside0.mk (blk_below Xo.out hb)
    replace Xa := Aside0.mk (blk_below Xa.out hb)
    replace Yr := Aside0.mk (Yr.out.below hb)
    replace Yo := Aside0.mk (Yo.out.below hb)
    replace Ya := Aside0.mk (Ya.out.below hb)
    replace HB := Aside0.mk (below_step HB.out hb)
    clear hg hblk hc2 hC2 hty hb HCX
    go_wp2_with fail
    refine start_ (n := 12) (S := fun w' => w'.cell? ⟨ga, 0, none⟩ = some (.int .i64 a0) ∧ w'.cell? ⟨ga, 1, none⟩ = some (.bool a1) ∧ w'.cell? ⟨ga, 2, none⟩ = some (.string a2) ∧ w'.cell? ⟨ga, 3, none⟩ = some (.int .i64 a3)) (ds := []) #[false, false, false, false, false, false, false, false, false, false, false, false] (by kernel_rfl) rfl rfl ⟨(blk_cell Xa.out 0), (blk_cell Xa.out 1), (blk_cell Xa.out 2), (blk_cell Xa.out 3)⟩ (fun hHeld => ?_)
    refine with_tabW glebelaw07_PointBack.tab16 glebelaw07_PointBack.bits16 (fun HT_ HW_ => ?_)
    refine pure_ (i := 0) (N := some 108) (v := ?_) (a' := ?_) #[true, false, false, false, false, false, false, false, false, false, false, false] rfl rfl (any_of HT_.out (by kernel_rfl)) (fun _ _ _ h => h) (Or.inl ⟨by rfl, ?_⟩) ?_ ?_
    rotate_left
    · intro w'
      go_simp
      with_reducible rfl
    rotate_left
    · simp only [Act.put, List.setIfInBounds_toArray, List.set_cons_zero, List.set_cons_succ, i64_w, i32_w]
      rfl
    refine take_ (i := 3) (N := some 111) (v := ?_) (a' := ?_) #[true, false, false, true, false, false, false, false, false, false, false, false] rfl rfl (take_ofW HT_.out HW_.out (by kernel_rfl)) (fun _ _ _ h => h) (Or.inl ⟨by rfl, ?_⟩) hHeld ?_ ?_
    rotate_left
    · rintro w' ⟨s0, s1, s2, s3⟩
      go_simp
      with_reducible rfl
    rotate_left
    · simp only [Act.put, List.setIfInBounds_toArray, List.set_cons_zero, List.set_cons_succ, i64_w, i32_w]
      rfl
    refine one_ (i := 1) (N := some 109) #[true, true, false, true, false, false, false, false, false, false, false, false] rfl rfl (one_of HT_.out (by kernel_rfl)) (by decide) (fun K hK => ?_)
    refine goes_ Try.func22 (by kernel_rfl) rfl #[.pointer (some ⟨g, 0, none⟩)] (by rfl) rfl rfl (by simp only [List.map_toArray, List.map_cons, List.map_nil]; rfl) ?_
    with_reducible refine (point_TakeAns.calls 100 g LX 0 a0 l1 0 HKS.out.1 (pbit a1) l2 0 HKS.out.2.1 (bytesOf a2) l3 0 HKS.out.2.2.1 a3 l0 0 HKS.out.2.2.2 true a1 HPE.out HRR.out w _ (by first | exact HI.out | exact HI.out.drew) (by first | exact HB.out | exact below_drew HB.out)).mono ?_
    rintro e wx ⟨rfl, hi, hbx, hk⟩
    refine ⟨_, rfl, ?_⟩
    rw [show tkE (decide (pbit a1 ≤ 1) && true) 0 = 0 from HPB.out] at hi ⊢
    rw [if_pos (rfl : (0 : Int) = 0), str_bytes]
    obtain ⟨cs1, hcs1⟩ := HI.out.blk1
    replace Xr := Aside0.mk (hk.blk (by first | exact Xr.out | exact blk_drew Xr.out) (HI.out.at_ne Xr.out (by decide)) (by simp))
    replace Xo := Aside0.mk (hk.blk (by first | exact Xo.out | exact blk_drew Xo.out) (HI.out.at_ne Xo.out (by decide)) (by simp))
    replace Xa := Aside0.mk (hk.blk (by first | exact Xa.out | exact blk_drew Xa.out) (HI.out.at_ne Xa.out (by decide)) (by simp))
    replace Yr := Aside0.mk (TB.keep (by first | exact Yr.out | exact Yr.out.drew) hk (by first | exact hcs1 | exact blk_drew hcs1) (by decide))
    replace Yo := Aside0.mk (TB.keep (by first | exact Yo.out | exact Yo.out.drew) hk (by first | exact hcs1 | exact blk_drew hcs1) (by decide))
    replace Ya := Aside0.mk (TB.keep (by first | exact Ya.out | exact Ya.out.drew) hk (by first | exact hcs1 | exact blk_drew hcs1) (by decide))
    replace HI := Aside0.mk hi
    replace HB := Aside0.mk hbx
    clear hi hbx hk hcs1
    refine hK.out _ _ ⟨(blk_cell Xa.out 0), (blk_cell Xa.out 1), (blk_cell Xa.out 2), (blk_cell Xa.out 3)⟩ (fun hHeld => ?_)
    clear hK K
    refine norm_ (a' := ?_) ?_ ?_
    rotate_left
    · show Act.put _ (some 109) _ = _
      simp only [Act.put, List.setIfInBounds_toArray, List.set_cons_zero, List.set_cons_succ, i64_w, i32_w]
      rfl
    refine one_ (i := 2) (N := some 110) #[true, true, true, true, false, false, false, false, false, false, false, false] rfl rfl (one_of HT_.out (by kernel_rfl)) (by decide) (fun K hK => ?_)
    refine goes_ Try.func21 (by kernel_rfl) rfl #[.agg #[.int .i64 a0, .bool a1, .string a2, .int .i64 a3]] (by rfl) rfl rfl (by simp only [List.map_toArray, List.map_cons, List.map_nil]; rfl) ?_
    with_reducible refine (glebelaw07_RefAns.calls a0 a1 a2 a3 a0 a1 a2 a3 _ rfl).mono ?_
    rintro e wx ⟨rfl, hbx⟩
    refine ⟨_, rfl, ?_⟩
    replace Xr := Aside0.mk (blk_below (by first | exact Xr.out | exact blk_drew Xr.out) hbx)
    replace Xo := Aside0.mk (blk_below (by first | exact Xo.out | exact blk_drew Xo.out) hbx)
    replace Xa := Aside0.mk (blk_below (by first | exact Xa.out | exact blk_drew Xa.out) hbx)
    replace Yr := Aside0.mk (TB.below (by first | exact Yr.out | exact Yr.out.drew) hbx)
    replace Yo := Aside0.mk (TB.below (by first | exact Yo.out | exact Yo.out.drew) hbx)
    replace Ya := Aside0.mk (TB.below (by first | exact Ya.out | exact Ya.out.drew) hbx)
    replace HI := Aside0.mk (IsRdr.below (by first | exact HI.out | exact HI.out.drew) hbx)
    replace HB := Aside0.mk (show Below w.heap.size w wx from by first | exact below_step HB.out hbx | exact below_step (below_drew HB.out) hbx)
    clear hbx
    refine hK.out _ _ ⟨(blk_cell Xa.out 0), (blk_cell Xa.out 1), (blk_cell Xa.out 2), (blk_cell Xa.out 3)⟩ (fun hHeld => ?_)
    clear hK K
    refine norm_ (a' := ?_) ?_ ?_
    rotate_left
    · show Act.put _ (some 110) _ = _
      simp only [Act.put, List.setIfInBounds_toArray, List.set_cons_zero, List.set_cons_succ, i64_w, i32_w]
      rfl
    refine pure_ (i := 4) (N := some 112) (v := ?_) (a' := ?_) #[true, true, true, true, true, false, false, false, false, false, false, false] rfl rfl (any_of HT_.out (by kernel_rfl)) (fun _ _ _ h => h) (Or.inl ⟨by rfl, ?_⟩) ?_ ?_
    rotate_left
    · intro w'
      go_simp
      with_reducible rfl
    rotate_left
    · simp only [Act.put, List.setIfInBounds_toArray, List.set_cons_zero, List.set_cons_succ, i64_w, i32_w]
      rfl
    refine pure_ (i := 5) (N := some 113) (v := ?_) (a' := ?_) #[true, true, true, true, true, true, false, false, false, false, false, false] rfl rfl (any_of HT_.out (by kernel_rfl)) (fun _ _ _ h => h) (Or.inl ⟨by rfl, ?_⟩) ?_ ?_
    rotate_left
    · intro w'
      go_simp
      with_reducible rfl
    rotate_left
    · simp only [Act.put, List.setIfInBounds_toArray, List.set_cons_zero, List.set_cons_succ, i64_w, i32_w]
      rfl
    refine pure_ (i := 6) (N := some 114) (v := ?_) (a' := ?_) #[true, true, true, true, true, true, true, false, false, false, false, false] rfl rfl (any_of HT_.out (by kernel_rfl)) (fun _ _ _ h => h) (Or.inl ⟨by rfl, ?_⟩) ?_ ?_
    rotate_left
    · intro w'
      go_simp
      with_reducible rfl
    rotate_left
    · simp only [Act.put, List.setIfInBounds_toArray, List.set_cons_zero, List.set_cons_succ, i64_w, i32_w]
      rfl
    refine pure_ (i := 8) (N := some 116) (v := ?_) (a' := ?_) #[true, true, true, true, true, true, true, false, true, false, false, false] rfl rfl (any_of HT_.out (by kernel_rfl)) (fun _ _ _ h => h) (Or.inl ⟨by rfl, ?_⟩) ?_ ?_
    rotate_left
    · intro w'
      go_simp
      with_reducible rfl
    rotate_left
    · simp only [Act.put, List.setIfInBounds_toArray, List.set_cons_zero, List.set_cons_succ, i64_w, i32_w]
      rfl
    refine pure_ (i := 9) (N := some 117) (v := ?_) (a' := ?_) #[true, true, true, true, true, true, true, false, true, true, false, false] rfl rfl (any_of HT_.out (by kernel_rfl)) (fun _ _ _ h => h) (Or.inl ⟨by rfl, ?_⟩) ?_ ?_
    rotate_left
    · intro w'
      go_simp
      with_reducible rfl
    rotate_left
    · simp only [Act.put, List.setIfInBounds_toArray, List.set_cons_zero, List.set_cons_succ, i64_w, i32_w]
      rfl
    refine one_ (i := 7) (N := some 115) #[true, true, true, true, true, true, true, true, true, true, false, false] rfl rfl (one_of HT_.out (by kernel_rfl)) (by decide) (fun K hK => ?_)
    refine goes_ Try.func16 (by kernel_rfl) rfl #[.pointer (some ⟨g, 0, none⟩)] (by rfl) rfl rfl (by simp only [List.map_toArray, List.map_cons, List.map_nil]; rfl) ?_
    with_reducible refine (wire_Reader_Left.calls g l0 0 true w _ HI.out).mono ?_
    rintro e wx ⟨rfl, rfl⟩
    refine ⟨_, rfl, ?_⟩
    rw [if_pos (show rdOk 0 true = true from rfl)]
    refine hK.out _ _ ⟨(blk_cell Xa.out 0), (blk_cell Xa.out 1), (blk_cell Xa.out 2), (blk_cell Xa.out 3)⟩ (fun hHeld => ?_)
    clear hK K
    refine norm_ (a' := ?_) ?_ ?_
    rotate_left
    · show Act.put _ (some 115) _ = _
      simp only [Act.put, List.setIfInBounds_toArray, List.set_cons_zero, List.set_cons_succ, i64_w, i32_w]
      rfl
    refine pure_ (i := 10) (N := some 118) (v := ?_) (a' := ?_) #[true, true, true, true, true, true, true, true, true, true, true, false] rfl rfl (any_of HT_.out (by kernel_rfl)) (fun _ _ _ h => h) (Or.inl ⟨by rfl, ?_⟩) ?_ ?_
    rotate_left
    · intro w'
      go_simp
      with_reducible rfl
    rotate_left
    · simp only [Act.put, List.setIfInBounds_toArray, List.set_cons_zero, List.set_cons_succ, i64_w, i32_w]
      rfl
    refine pure_ (i := 11) (N := some 119) (v := ?_) (a' := ?_) #[true, true, true, true, true, true, true, true, true, true, true, true] rfl rfl (any_of HT_.out (by kernel_rfl)) (fun _ _ _ h => h) (Or.inl ⟨by rfl, ?_⟩) ?_ ?_
    rotate_left
    · intro w'
      go_simp
      with_reducible rfl
    rotate_left
    · simp only [Act.put, List.setIfInBounds_toArray, List.set_cons_zero, List.set_cons_succ, i64_w, i32_w]
      rfl
    refine done_ (done_of HT_.out (by kernel_rfl)) ?_
    go_wp2
    go_meet
    case rel => exact ⟨Xr, Xo, Xa, Yr, Yo, Ya, HB⟩
  case rest =>
  obtain ⟨Xr, Xo, Xa, Yr, Yo, Ya, HB⟩ := hcut
  as_aux_lemma =>
  clear Xr Xo Xa Yr Yo Ya HUr HUo HUa HPr HPo HPa HIr HIo HIa HLr HLo HLa HEr HEo HEa HTr HTo HTa HNr HNo HNa HMr HMo HMa
  obtain ⟨px, l1, e1, py, l2, e2, key, l3, e3, val, l4, e4, ver, l5, e5, r, k1, k2, k3, k4, k5, hrr⟩ := chain_rec l0
  have hzr := zero_row5 (tkE r e5) px py (strOfNums key) (strOfNums val) ver
  obtain ⟨z, hz⟩ : ∃ z, z = tkE r e5 := ⟨_, rfl⟩
  rw [← hz] at hzr
  obtain ⟨v0, hv0⟩ : ∃ v, v = (if z = 0 then px else 0) := ⟨_, rfl⟩
  obtain ⟨v1, hv1⟩ : ∃ v, v = (if z = 0 then py else 0) := ⟨_, rfl⟩
  obtain ⟨v2, hv2⟩ : ∃ v, v = (if z = 0 then (strOfNums key) else (⟨#[]⟩ : ByteArray)) := ⟨_, rfl⟩
  obtain ⟨v3, hv3⟩ : ∃ v, v = (if z = 0 then (strOfNums val) else (⟨#[]⟩ : ByteArray)) := ⟨_, rfl⟩
  obtain ⟨v4, hv4⟩ : ∃ v, v = (if z = 0 then ver else 0) := ⟨_, rfl⟩
  rw [← hv0, ← hv1, ← hv2, ← hv3, ← hv4] at hzr
  have zv2 : v2.size ≤ 500 := by rw [hv2]; exact if_size z k3
  have zv3 : v3.size ≤ 500 := by rw [hv3]; exact if_size z k4
  obtain ⟨bv, pv, qv, iv⟩ := right_rec v0 v1 v2 v3 v4
  obtain ⟨Lv, hLv⟩ : ∃ x, x = (if bv then ([v0, v1] : List Int).flatMap wB ++ ([v2, v3] : List ByteArray).flatMap wT ++ ([v4] : List Int).flatMap wB else []) := ⟨_, rfl⟩
  obtain ⟨ev, hev⟩ : ∃ x, x = (if bv then (0 : Int) else 1) := ⟨_, rfl⟩
  have HFV := Aside0.mk (show z = 0 → bv = true ∧ ev = 0 ∧ l0 = Lv ++ l5 by
    intro q
    rw [hz] at q
    obtain ⟨q1, q2⟩ := tkE_zero q
    have q3 : z = 0 := hz.trans q
    simp only [q3, if_true] at hv0 hv1 hv2 hv3 hv4
    subst q1 hv0 hv1 hv2 hv3 hv4
    rw [hrr] at pv
    obtain rfl := Option.some.inj pv
    refine ⟨rfl, hev, ?_⟩
    rw [hLv, if_pos rfl]
    exact taken_rec HBY.out k1 k2 k3 k4 k5 q2)
  have HPV := Aside0.mk pv
  have HLV := Aside0.mk hLv
  have HEV := Aside0.mk hev
  have HZ := Aside0.mk hz
  have HZR := Aside0.mk hzr
  have HRR := Aside0.mk hrr
  have HKS := Aside0.mk (show rdNum l0 0 true = (px, l1, e1) ∧ rdNum l1 e1 true = (py, l2, e2) ∧ rdText l2 e2 true 32 = (key, l3, e3) ∧ rdText l3 e3 true 32 = (val, l4, e4) ∧ rdNum l4 e4 true = (ver, l5, e5) from ⟨k1, k2, k3, k4, k5⟩)
  have HTV := Aside0.mk (show ∀ s ∈ ([v2, v3] : List ByteArray), wire_Text.f 100 s = some (wT s, (fun _ => 0) s) by
    intro s hs
    simp only [List.mem_cons, List.not_mem_nil, or_false] at hs
    rcases hs with h | h
    · rw [h]; exact wT_f _ zv2
    · rw [h]; exact wT_f _ zv3)
  have HNV := Aside0.mk (show (([v0, v1] : List Int).flatMap wB ++ ([v2, v3] : List ByteArray).flatMap wT ++ ([v4] : List Int).flatMap wB).length ≤ 2000 by have := wB_len v0; have := wB_len v1; have := wT_len v2 zv2; have := wT_len v3 zv3; have := wB_len v4; simp; omega)
  have HAL := Aside0.mk (show (([] : List Int).length + l0.length) * 1 ≤ 140737488355328 by have := HLE.out; simp; omega)
  clear pv qv iv hLv hev hz hzr hrr k1 k2 k3 k4 k5 hv0 hv1 hv2 hv3 hv4 zv2 zv3
  go_wp2_with (first | ((with_reducible refine gate_dst (N := 120) rfl ?_); refine Kd.R_lit (Kd.int .u8) _ 5 ?hg (N := 120) ?hd (xs := ([] : List Int)) (inner := []) (ok := fun _ => True) (okp := fun _ => True) ?hr ?hp (fun _ hk => hk) trivial (Below.refl _ _) (Nat.le_refl _) (by simp) ?_; (case hd => rfl); (case hg => rfl); (case hr => first | (go_simp; done) | (go_simp; rfl)); (case hp => exact (Reps.none _ _)); intro vL wL hoL hb hg_ hnew_; clear hg_ hnew_; have HOL := Aside0.mk hoL; have HBN := Aside0.mk hb; clear hb hoL) | ((with_reducible refine gate_builtin (b := .append) (xs := #[.tmp 120, .tmp 121]) rfl ?_); at_builtin; refine Kd.R_append_rows (Kd.int .u8) (w0 := wc) wc.heap.size rfl (.tmp 120) (.tmp 121) 22 5 (.int .u8 0) 1 rfl Try.underlying22 info5 rfl (by decide) (by omega) _ [] l0 _ _ _ (fun _ => True) (fun _ => False) rfl rfl ?aO ?aR (fun _ _ h => h) (fun _ h => h.elim) ?aF ?aB ?aS ?aL ?_; (case aO => exact HOL.out); (case aR => exact Kd.C_below (Kd.C_below H0.out HB.out) HBN.out); (case aB => exact HBN.out); (case aF => exact (fun _ _ => trivial)); (case aS => exact (below_size HBN.out)); (case aL => exact HAL.out); intro vM wM ho hb hg hat; replace HOL := Aside0.mk ho; replace HBN := Aside0.mk hb; clear ho hb hg hat) | fail)
  have hol := HOL.out
  rw [List.nil_append] at hol
  obtain ⟨Ax, cx, rfl⟩ := Kd.R_slice hol
  have HCX := Aside0.mk (Kd.R_reads' hol)
  replace HB := Aside0.mk (below_step HB.out HBN.out)
  clear hol HOL HBN HAL
  go_wp2_with fail
  refine (wire_Open.calls Ax cx l0 _ HCX.out.2.2 HCX.out.2.1 (by have := HLE.out; omega)).mono ?_
  rintro e wo ⟨g, A2, c2, rfl, hg, hblk, hc2, hC2, hty, hb⟩
  have HI := Aside0.mk (show IsRdr w wo g l0 0 true from ⟨Nat.le_trans HB.out.size hg, A2, c2, hblk, hc2, hC2, hty⟩)
  replace HB := Aside0.mk (below_step HB.out hb)
  clear hg hblk hc2 hC2 hty hb HCX
  go_wp2_with fail
  refine (point_TakeRec.calls 100 g l0 0 px l1 e1 HKS.out.1 py l2 e2 HKS.out.2.1 key l3 e3 HKS.out.2.2.1 val l4 e4 HKS.out.2.2.2.1 ver l5 e5 HKS.out.2.2.2.2 r HRR.out w _ HI.out HB.out).mono ?_
  rintro e wt ⟨rfl, hi, hbx, hk⟩
  rw [← HZ.out] at hi ⊢
  rw [HZR.out]
  replace HI := Aside0.mk hi
  replace HB := Aside0.mk hbx
  clear hi hbx hk
  go_wp2_with fail
  refine (point_PutRec.calls 100 wB wE wT (fun _ => 0) v0 v1 v2 v3 v4 bv _ HPV.out (fun n _ => wB_f n) HTV.out (fun n _ => wB_f n) (by have := HNV.out; omega)).mono ?_
  rintro e wd ⟨v, rfl, hv, hb⟩
  rw [← HEV.out]
  rw [← HLV.out] at hv
  obtain ⟨Bv, dv, rfl⟩ := Kd.R_slice hv
  have HV := Aside0.mk (Kd.R_reads' hv).2.2
  replace HI := Aside0.mk (HI.out.below hb)
  replace HB := Aside0.mk (below_step HB.out hb)
  clear hb hv
  go_upto_region 20 with fail
  (try simp only [Act.put, List.setIfInBounds_toArray, List.set_cons_zero, List.set_cons_succ])
  go_cut [158] (fun s158 wc => s158 = .bool false ∧ Aside0 (Below w.heap.size w wc))
  case first =>
    by_cases h0 : z = 0
    focus
      as_aux_lemma =>
      obtain ⟨hbv, hev, hl0⟩ := HFV.out h0
      have hjl : l0.length = Lv.length + l5.length := by
        have := congrArg List.length hl0
        rw [List.length_append] at this
        exact this
      have HSL := Aside0.mk (show ∀ W : World, (Instr.slice 22 (.slice A0 l0.length c0) none (some (.int .i64 (Lv.length : Int))) none).run Try.prog W = .ok (.slice A0 Lv.length c0) W from fun W => by
        have := bytes_to A0 l0.length c0 (Lv.length : Int) (by omega) (by omega) hc0 W
        rwa [Int.toNat_natCast] at this)
      have HCT := Aside0.mk (show (Kd.int .u8).C w A0 Lv.length Lv by
        have q := Kd.C_take (m := Lv.length) H0.out (by omega)
        rw [show l0.take Lv.length = Lv by rw [hl0]; simp] at q
        exact q)
      have g1 : decide ((l0.length : Int) < (l5.length : Int)) = false := decide_eq_false (by omega)
      have g2 : decide ((l5.length : Int) ≤ (l0.length : Int)) = true := decide_eq_true (by omega)
      have g3 : decide (l0.length < l5.length) = false := decide_eq_false (by omega)
      have g4 : decide (l5.length ≤ l0.length) = true := decide_eq_true (by omega)
      have hq1 : (l0.length : Int) - (l5.length : Int) = (Lv.length : Int) := by omega
      have hw1 : wrap64 ((l0.length : Int) - (l5.length : Int)) = (Lv.length : Int) := by
        rw [hq1]
        exact Go.IntWalk.wrap64_in _ (by have := HLE.out; omega)
      have hw2 : IntKind.i64.wrap ((l0.length : Int) - (l5.length : Int)) = (Lv.length : Int) := (i64_w _).trans hw1
      have HI2 := Aside0.mk (show IsRdr w _ g l5 0 true by have q := HI.out; rw [h0] at q; exact q)
      clear HI
      have HI := HI2
      clear HI2 hl0 hjl hbv h0 hq1 HZ HZR HFV
      subst hev
      refine start_ (n := 29) (S := fun w' => (convert 22 9 (.slice Bv Lv.length dv)).run Try.prog w' = .ok (.string (strOfNums Lv)) w' ∧ (convert 22 9 (.slice A0 Lv.length c0)).run Try.prog w' = .ok (.string (strOfNums Lv)) w' ∧ (Instr.slice 22 (.slice A0 l0.length c0) none (some (.int .i64 (Lv.length : Int))) none).run Try.prog w' = .ok (.slice A0 Lv.length c0) w') (ds := []) #[false, false, false, false, false, false, false, false, false, false, false, false, false, false, false, false, false, false, false, false, false, false, false, false, false, false, false, false, false] (by kernel_rfl) rfl rfl ⟨(Kd.C_string Try.underlying22 Try.underlying5 Try.underlying9 (by first | exact HV.out | exact Kd.C_drew HV.out)), (Kd.C_string Try.underlying22 Try.underlying5 Try.underlying9 (by first | exact Kd.C_below HCT.out HB.out | exact Kd.C_drew (Kd.C_below HCT.out HB.out))), (HSL.out _)⟩ (fun hHeld => ?_)
      refine with_tabW glebelaw07_PointBack.tab20 glebelaw07_PointBack.bits20 (fun HT_ HW_ => ?_)
      refine pure_ (i := 0) (N := some 130) (v := ?_) (a' := ?_) #[true, false, false, false, false, false, false, false, false, false, false, false, false, false, false, false, false, false, false, false, false, false, false, false, false, false, false, false, false] rfl rfl (any_of HT_.out (by kernel_rfl)) (fun _ _ _ h => h) (Or.inl ⟨by rfl, ?_⟩) ?_ ?_
      rotate_left
      · intro w'
        go_simp
        with_reducible rfl
      rotate_left
      · simp only [Act.put, List.setIfInBounds_toArray, List.set_cons_zero, List.set_cons_succ, i64_w, i32_w]
        rfl
      refine one_ (i := 1) (N := some 131) #[true, true, false, false, false, false, false, false, false, false, false, false, false, false, false, false, false, false, false, false, false, false, false, false, false, false, false, false, false] rfl rfl (one_of HT_.out (by kernel_rfl)) (by decide) (fun K hK => ?_)
      refine goes_ Try.func15 (by kernel_rfl) rfl #[.pointer (some ⟨g, 0, none⟩)] (by rfl) rfl rfl (by simp only [List.map_toArray, List.map_cons, List.map_nil]; rfl) ?_
      with_reducible refine (wire_Reader_Err.calls g l5 0 true w _ (by first | exact HI.out | exact HI.out.drew)).mono ?_
      rintro e wx ⟨rfl, rfl⟩
      refine ⟨_, rfl, ?_⟩
      rw [if_pos (rfl : true = true)]
      refine hK.out _ _ ⟨(Kd.C_string Try.underlying22 Try.underlying5 Try.underlying9 (by first | exact HV.out | exact Kd.C_drew HV.out)), (Kd.C_string Try.underlying22 Try.underlying5 Try.underlying9 (by first | exact Kd.C_below HCT.out HB.out | exact Kd.C_drew (Kd.C_below HCT.out HB.out))), (HSL.out _)⟩ (fun hHeld => ?_)
      clear hK K
      refine norm_ (a' := ?_) ?_ ?_
      rotate_left
      · show Act.put _ (some 131) _ = _
        simp only [Act.put, List.setIfInBounds_toArray, List.set_cons_zero, List.set_cons_succ, i64_w, i32_w]
        rfl
      refine one_ (i := 2) (N := some 132) #[true, true, true, false, false, false, false, false, false, false, false, false, false, false, false, false, false, false, false, false, false, false, false, false, false, false, false, false, false] rfl rfl (one_of HT_.out (by kernel_rfl)) (by decide) (fun K hK => ?_)
      refine goes_ Try.func14 (by kernel_rfl) rfl #[.int .i64 0] (by rfl) rfl rfl (by simp only [List.map_toArray, List.map_cons, List.map_nil]; rfl) ?_
      with_reducible refine (glebelaw07_num.calls 0 0 _ rfl).mono ?_
      rintro e wx ⟨rfl, hbx0⟩
      refine ⟨_, rfl, ?_⟩
      have hbx := drawn_below hbx0
      replace HI := Aside0.mk (IsRdr.below (by first | exact HI.out | exact HI.out.drew) hbx)
      replace HV := Aside0.mk (Kd.C_below (by first | exact HV.out | exact Kd.C_drew HV.out) hbx)
      replace HB := Aside0.mk (show Below w.heap.size w wx from by first | exact below_step HB.out hbx | exact below_step (below_drew HB.out) hbx)
      clear hbx
      clear hbx0
      refine hK.out _ _ ⟨(Kd.C_string Try.underlying22 Try.underlying5 Try.underlying9 HV.out), (Kd.C_string Try.underlying22 Try.underlying5 Try.underlying9 (Kd.C_below HCT.out HB.out)), (HSL.out _)⟩ (fun hHeld => ?_)
      clear hK K
      refine norm_ (a' := ?_) ?_ ?_
      rotate_left
      · show Act.put _ (some 132) _ = _
        simp only [Act.put, List.setIfInBounds_toArray, List.set_cons_zero, List.set_cons_succ, i64_w, i32_w]
        rfl
      refine pure_ (i := 3) (N := some 133) (v := ?_) (a' := ?_) #[true, true, true, true, false, false, false, false, false, false, false, false, false, false, false, false, false, false, false, false, false, false, false, false, false, false, false, false, false] rfl rfl (any_of HT_.out (by kernel_rfl)) (fun _ _ _ h => h) (Or.inl ⟨by rfl, ?_⟩) ?_ ?_
      rotate_left
      · intro w'
        go_simp
        with_reducible rfl
      rotate_left
      · simp only [Act.put, List.setIfInBounds_toArray, List.set_cons_zero, List.set_cons_succ, i64_w, i32_w]
        rfl
      refine pure_ (i := 4) (N := some 134) (v := ?_) (a' := ?_) #[true, true, true, true, true, false, false, false, false, false, false, false, false, false, false, false, false, false, false, false, false, false, false, false, false, false, false, false, false] rfl rfl (any_of HT_.out (by kernel_rfl)) (fun _ _ _ h => h) (Or.inl ⟨by rfl, ?_⟩) ?_ ?_
      rotate_left
      · intro w'
        go_simp
        with_reducible rfl
      rotate_left
      · simp only [Act.put, List.setIfInBounds_toArray, List.set_cons_zero, List.set_cons_succ, i64_w, i32_w]
        rfl
      refine pure_ (i := 5) (N := some 135) (v := ?_) (a' := ?_) #[true, true, true, true, true, true, false, false, false, false, false, false, false, false, false, false, false, false, false, false, false, false, false, false, false, false, false, false, false] rfl rfl (any_of HT_.out (by kernel_rfl)) (fun _ _ _ h => h) (Or.inl ⟨by rfl, ?_⟩) ?_ ?_
      rotate_left
      · intro w'
        go_simp
        with_reducible rfl
      rotate_left
      · simp only [Act.put, List.setIfInBounds_toArray, List.set_cons_zero, List.set_cons_succ, i64_w, i32_w]
        rfl
      refine one_ (i := 6) (N := some 136) #[true, true, true, true, true, true, true, false, false, false, false, false, false, false, false, false, false, false, false, false, false, false, false, false, false, false, false, false, false] rfl rfl (one_of HT_.out (by kernel_rfl)) (by decide) (fun K hK => ?_)
      refine goes_ Try.func14 (by kernel_rfl) rfl #[.int .i64 0] (by rfl) rfl rfl (by simp only [List.map_toArray, List.map_cons, List.map_nil]; rfl) ?_
      with_reducible refine (glebelaw07_num.calls 0 0 _ rfl).mono ?_
      rintro e wx ⟨rfl, hbx0⟩
      refine ⟨_, rfl, ?_⟩
      have hbx := drawn_below hbx0
      replace HI := Aside0.mk (IsRdr.below (by first | exact HI.out | exact HI.out.drew) hbx)
      replace HV := Aside0.mk (Kd.C_below (by first | exact HV.out | exact Kd.C_drew HV.out) hbx)
      replace HB := Aside0.mk (show Below w.heap.size w wx from by first | exact below_step HB.out hbx | exact below_step (below_drew HB.out) hbx)
      clear hbx
      clear hbx0
      refine hK.out _ _ ⟨(Kd.C_string Try.underlying22 Try.underlying5 Try.underlying9 HV.out), (Kd.C_string Try.underlying22 Try.underlying5 Try.underlying9 (Kd.C_below HCT.out HB.out)), (HSL.out _)⟩ (fun hHeld => ?_)
      clear hK K
      refine norm_ (a' := ?_) ?_ ?_
      rotate_left
      · show Act.put _ (some 136) _ = _
        simp only [Act.put, List.setIfInBounds_toArray, List.set_cons_zero, List.set_cons_succ, i64_w, i32_w]
        rfl
      refine pure_ (i := 7) (N := some 137) (v := ?_) (a' := ?_) #[true, true, true, true, true, true, true, true, false, false, false, false, false, false, false, false, false, false, false, false, false, false, false, false, false, false, false, false, false] rfl rfl (any_of HT_.out (by kernel_rfl)) (fun _ _ _ h => h) (Or.inl ⟨by rfl, ?_⟩) ?_ ?_
      rotate_left
      · intro w'
        go_simp
        with_reducible rfl
      rotate_left
      · simp only [Act.put, List.setIfInBounds_toArray, List.set_cons_zero, List.set_cons_succ, i64_w, i32_w]
        rfl
      refine pure_ (i := 8) (N := some 138) (v := ?_) (a' := ?_) #[true, true, true, true, true, true, true, true, true, false, false, false, false, false, false, false, false, false, false, false, false, false, false, false, false, false, false, false, false] rfl rfl (any_of HT_.out (by kernel_rfl)) (fun _ _ _ h => h) (Or.inl ⟨by rfl, ?_⟩) ?_ ?_
      rotate_left
      · intro w'
        go_simp
        with_reducible rfl
      rotate_left
      · simp only [Act.put, List.setIfInBounds_toArray, List.set_cons_zero, List.set_cons_succ, i64_w, i32_w]
        rfl
      refine pure_ (i := 9) (N := some 139) (v := ?_) (a' := ?_) #[true, true, true, true, true, true, true, true, true, true, false, false, false, false, false, false, false, false, false, false, false, false, false, false, false, false, false, false, false] rfl rfl (any_of HT_.out (by kernel_rfl)) (fun _ _ _ h => h) (Or.inl ⟨by rfl, ?_⟩) ?_ ?_
      rotate_left
      · intro w'
        go_simp
        with_reducible rfl
      rotate_left
      · simp only [Act.put, List.setIfInBounds_toArray, List.set_cons_zero, List.set_cons_succ, i64_w, i32_w]
        rfl
      refine pure_ (i := 11) (N := some 141) (v := ?_) (a' := ?_) #[true, true, true, true, true, true, true, true, true, true, false, true, false, false, false, false, false, false, false, false, false, false, false, false, false, false, false, false, false] rfl rfl (any_of HT_.out (by kernel_rfl)) (fun _ _ _ h => h) (Or.inl ⟨by rfl, ?_⟩) ?_ ?_
      rotate_left
      · intro w'
        go_simp
        with_reducible rfl
      rotate_left
      · simp only [Act.put, List.setIfInBounds_toArray, List.set_cons_zero, List.set_cons_succ, i64_w, i32_w]
        rfl
      refine pure_ (i := 12) (N := some 142) (v := ?_) (a' := ?_) #[true, true, true, true, true, true, true, true, true, true, false, true, true, false, false, false, false, false, false, false, false, false, false, false, false, false, false, false, false] rfl rfl (any_of HT_.out (by kernel_rfl)) (fun _ _ _ h => h) (Or.inl ⟨by rfl, ?_⟩) ?_ ?_
      rotate_left
      · intro w'
        go_simp
        with_reducible rfl
      rotate_left
      · simp only [Act.put, List.setIfInBounds_toArray, List.set_cons_zero, List.set_cons_succ, i64_w, i32_w]
        rfl
      refine one_ (i := 10) (N := some 140) #[true, true, true, true, true, true, true, true, true, true, true, true, true, false, false, false, false, false, false, false, false, false, false, false, false, false, false, false, false] rfl rfl (one_of HT_.out (by kernel_rfl)) (by decide) (fun K hK => ?_)
      refine goes_ Try.func16 (by kernel_rfl) rfl #[.pointer (some ⟨g, 0, none⟩)] (by rfl) rfl rfl (by simp only [List.map_toArray, List.map_cons, List.map_nil]; rfl) ?_
      with_reducible refine (wire_Reader_Left.calls g l5 0 true w _ HI.out).mono ?_
      rintro e wx ⟨rfl, rfl⟩
      refine ⟨_, rfl, ?_⟩
      rw [if_pos (show rdOk 0 true = true from rfl)]
      refine hK.out _ _ ⟨(Kd.C_string Try.underlying22 Try.underlying5 Try.underlying9 HV.out), (Kd.C_string Try.underlying22 Try.underlying5 Try.underlying9 (Kd.C_below HCT.out HB.out)), (HSL.out _)⟩ (fun hHeld => ?_)
      clear hK K
      refine norm_ (a' := ?_) ?_ ?_
      rotate_left
      · show Act.put _ (some 140) _ = _
        simp only [Act.put, List.setIfInBounds_toArray, List.set_cons_zero, List.set_cons_succ, i64_w, i32_w]
        rfl
      refine pure_ (i := 13) (N := some 143) (v := ?_) (a' := ?_) #[true, true, true, true, true, true, true, true, true, true, true, true, true, true, false, false, false, false, false, false, false, false, false, false, false, false, false, false, false] rfl rfl (any_of HT_.out (by kernel_rfl)) (fun _ _ _ h => h) (Or.inl ⟨by rfl, ?_⟩) ?_ ?_
      rotate_left
      · intro w'
        go_simp
        with_reducible rfl
      rotate_left
      · simp only [Act.put, List.setIfInBounds_toArray, List.set_cons_zero, List.set_cons_succ, i64_w, i32_w]
        rfl
      refine pure_ (i := 14) (N := some 144) (v := ?_) (a' := ?_) #[true, true, true, true, true, true, true, true, true, true, true, true, true, true, true, false, false, false, false, false, false, false, false, false, false, false, false, false, false] rfl rfl (any_of HT_.out (by kernel_rfl)) (fun _ _ _ h => h) (Or.inl ⟨by rfl, ?_⟩) ?_ ?_
      rotate_left
      · intro w'
        go_simp
        with_reducible rfl
      rotate_left
      · simp only [Act.put, List.setIfInBounds_toArray, List.set_cons_zero, List.set_cons_succ, i64_w, i32_w]
        rfl
      refine pure_ (i := 15) (N := some 145) (v := ?_) (a' := ?_) #[true, true, true, true, true, true, true, true, true, true, true, true, true, true, true, true, false, false, false, false, false, false, false, false, false, false, false, false, false] rfl rfl (any_of HT_.out (by kernel_rfl)) (fun _ _ _ h => h) (Or.inl ⟨by rfl, ?_⟩) ?_ ?_
      rotate_left
      · intro w'
        go_simp
        with_reducible rfl
      rotate_left
      · simp only [Act.put, List.setIfInBounds_toArray, List.set_cons_zero, List.set_cons_succ, i64_w, i32_w]
        rfl
      refine pure_ (i := 16) (N := some 146) (v := ?_) (a' := ?_) #[true, true, true, true, true, true, true, true, true, true, true, true, true, true, true, true, true, false, false, false, false, false, false, false, false, false, false, false, false] rfl rfl (any_of HT_.out (by kernel_rfl)) (fun _ _ _ h => h) (Or.inl ⟨by rfl, ?_⟩) ?_ ?_
      rotate_left
      · intro w'
        go_simp
        with_reducible rfl
      rotate_left
      · simp only [Act.put, List.setIfInBounds_toArray, List.set_cons_zero, List.set_cons_succ, i64_w, i32_w]
        rfl
      refine pure_ (i := 18) (N := some 148) (v := ?_) (a' := ?_) #[true, true, true, true, true, true, true, true, true, true, true, true, true, true, true, true, true, false, true, false, false, false, false, false, false, false, false, false, false] rfl rfl (any_of HT_.out (by kernel_rfl)) (fun _ _ _ h => h) (Or.inl ⟨by rfl, ?_⟩) ?_ ?_
      rotate_left
      · intro w'
        go_simp
        with_reducible rfl
      rotate_left
      · simp only [Act.put, List.setIfInBounds_toArray, List.set_cons_zero, List.set_cons_succ, i64_w, i32_w]
        rfl
      refine pure_ (i := 19) (N := some 149) (v := ?_) (a' := ?_) #[true, true, true, true, true, true, true, true, true, true, true, true, true, true, true, true, true, false, true, true, false, false, false, false, false, false, false, false, false] rfl rfl (any_of HT_.out (by kernel_rfl)) (fun _ _ _ h => h) (Or.inl ⟨by rfl, ?_⟩) ?_ ?_
      rotate_left
      · intro w'
        go_simp
        with_reducible rfl
      rotate_left
      · simp only [Act.put, List.setIfInBounds_toArray, List.set_cons_zero, List.set_cons_succ, i64_w, i32_w]
        rfl
      refine pure_ (i := 20) (N := some 150) (v := ?_) (a' := ?_) #[true, true, true, true, true, true, true, true, true, true, true, true, true, true, true, true, true, false, true, true, true, false, false, false, false, false, false, false, false] rfl rfl (any_of HT_.out (by kernel_rfl)) (fun _ _ _ h => h) (Or.inl ⟨by rfl, ?_⟩) ?_ ?_
      rotate_left
      · intro w'
        go_simp
        with_reducible rfl
      rotate_left
      · simp only [Act.put, List.setIfInBounds_toArray, List.set_cons_zero, List.set_cons_succ, i64_w, i32_w]
        rfl
      refine pure_ (i := 21) (N := some 151) (v := ?_) (a' := ?_) #[true, true, true, true, true, true, true, true, true, true, true, true, true, true, true, true, true, false, true, true, true, true, false, false, false, false, false, false, false] rfl rfl (any_of HT_.out (by kernel_rfl)) (fun _ _ _ h => h) (Or.inl ⟨by rfl, ?_⟩) ?_ ?_
      rotate_left
      · intro w'
        go_simp
        with_reducible rfl
      rotate_left
      · simp only [Act.put, List.setIfInBounds_toArray, List.set_cons_zero, List.set_cons_succ, i64_w, i32_w]
        rfl
      refine take_ (i := 17) (N := some 147) (v := ?_) (a' := ?_) #[true, true, true, true, true, true, true, true, true, true, true, true, true, true, true, true, true, true, true, true, true, true, false, false, false, false, false, false, false] rfl rfl (take_ofW HT_.out HW_.out (by kernel_rfl)) (fun _ _ _ h => h) (Or.inl ⟨by rfl, ?_⟩) hHeld ?_ ?_
      rotate_left
      · rintro w' ⟨s0, s1, s2⟩
        go_simp
        with_reducible rfl
      rotate_left
      · simp only [Act.put, List.setIfInBounds_toArray, List.set_cons_zero, List.set_cons_succ, i64_w, i32_w]
        rfl
      refine one_ (i := 22) (N := some 152) #[true, true, true, true, true, true, true, true, true, true, true, true, true, true, true, true, true, true, true, true, true, true, true, false, false, false, false, false, false] rfl rfl (one_of HT_.out (by kernel_rfl)) (by decide) (fun K hK => ?_)
      refine goes_ Try.func16 (by kernel_rfl) rfl #[.pointer (some ⟨g, 0, none⟩)] (by rfl) rfl rfl (by simp only [List.map_toArray, List.map_cons, List.map_nil]; rfl) ?_
      with_reducible refine (wire_Reader_Left.calls g l5 0 true w _ HI.out).mono ?_
      rintro e wx ⟨rfl, rfl⟩
      refine ⟨_, rfl, ?_⟩
      rw [if_pos (show rdOk 0 true = true from rfl)]
      refine hK.out _ _ ⟨(Kd.C_string Try.underlying22 Try.underlying5 Try.underlying9 HV.out), (Kd.C_string Try.underlying22 Try.underlying5 Try.underlying9 (Kd.C_below HCT.out HB.out)), (HSL.out _)⟩ (fun hHeld => ?_)
      clear hK K
      refine norm_ (a' := ?_) ?_ ?_
      rotate_left
      · show Act.put _ (some 152) _ = _
        simp only [Act.put, List.setIfInBounds_toArray, List.set_cons_zero, List.set_cons_succ, i64_w, i32_w]
        rfl
      refine pure_ (i := 23) (N := some 153) (v := ?_) (a' := ?_) #[true, true, true, true, true, true, true, true, true, true, true, true, true, true, true, true, true, true, true, true, true, true, true, true, false, false, false, false, false] rfl rfl (any_of HT_.out (by kernel_rfl)) (fun _ _ _ h => h) (Or.inl ⟨by rfl, ?_⟩) ?_ ?_
      rotate_left
      · intro w'
        go_simp
        with_reducible rfl
      rotate_left
      · simp only [Act.put, List.setIfInBounds_toArray, List.set_cons_zero, List.set_cons_succ, i64_w, i32_w]
        rfl
      refine take_ (i := 24) (N := some 154) (v := ?_) (a' := ?_) #[true, true, true, true, true, true, true, true, true, true, true, true, true, true, true, true, true, true, true, true, true, true, true, true, true, false, false, false, false] rfl rfl (take_ofW HT_.out HW_.out (by kernel_rfl)) (fun _ _ _ h => h) (Or.inl ⟨by rfl, ?_⟩) hHeld ?_ ?_
      rotate_left
      · rintro w' ⟨s0, s1, s2⟩
        go_simp
        with_reducible rfl
      rotate_left
      · simp only [Act.put, List.setIfInBounds_toArray, List.set_cons_zero, List.set_cons_succ, i64_w, i32_w]
        rfl
      refine take_ (i := 25) (N := some 155) (v := ?_) (a' := ?_) #[true, true, true, true, true, true, true, true, true, true, true, true, true, true, true, true, true, true, true, true, true, true, true, true, true, true, false, false, false] rfl rfl (take_ofW HT_.out HW_.out (by kernel_rfl)) (fun _ _ _ h => h) (Or.inl ⟨by rfl, ?_⟩) hHeld ?_ ?_
      rotate_left
      · rintro w' ⟨s0, s1, s2⟩
        go_simp
        with_reducible rfl
      rotate_left
      · simp only [Act.put, List.setIfInBounds_toArray, List.set_cons_zero, List.set_cons_succ, i64_w, i32_w]
        rfl
      refine pure_ (i := 26) (N := some 156) (v := ?_) (a' := ?_) #[true, true, true, true, true, true, true, true, true, true, true, true, true, true, true, true, true, true, true, true, true, true, true, true, true, true, true, false, false] rfl rfl (any_of HT_.out (by kernel_rfl)) (fun _ _ _ h => h) (Or.inl ⟨by rfl, ?_⟩) ?_ ?_
      rotate_left
      · intro w'
        go_simp
        with_reducible rfl
      rotate_left
      · simp only [Act.put, List.setIfInBounds_toArray, List.set_cons_zero, List.set_cons_succ, i64_w, i32_w]
        rfl
      refine pure_ (i := 27) (N := some 157) (v := ?_) (a' := ?_) #[true, true, true, true, true, true, true, true, true, true, true, true, true, true, true, true, true, true, true, true, true, true, true, true, true, true, true, true, false] rfl rfl (any_of HT_.out (by kernel_rfl)) (fun _ _ _ h => h) (Or.inl ⟨by rfl, ?_⟩) ?_ ?_
      rotate_left
      · intro w'
        go_simp
        with_reducible rfl
      rotate_left
      · simp only [Act.put, List.setIfInBounds_toArray, List.set_cons_zero, List.set_cons_succ, i64_w, i32_w]
        rfl
      refine pure_ (i := 28) (N := some 158) (v := ?_) (a' := ?_) #[true, true, true, true, true, true, true, true, true, true, true, true, true, true, true, true, true, true, true, true, true, true, true, true, true, true, true, true, true] rfl rfl (any_of HT_.out (by kernel_rfl)) (fun _ _ _ h => h) (Or.inl ⟨by rfl, ?_⟩) ?_ ?_
      rotate_left
      · intro w'
        go_simp
        with_reducible rfl
      rotate_left
      · simp only [Act.put, List.setIfInBounds_toArray, List.set_cons_zero, List.set_cons_succ, i64_w, i32_w]
        rfl
      refine done_ (done_of HT_.out (by kernel_rfl)) ?_
      go_wp2
      go_meet
      case rel => exact ⟨rfl, HB⟩
    as_aux_lemma =>
    have zn : (z == 0) = false := beq_eq_false_iff_ne.mpr h0
    have zn2 : (z != 0) = true := bne_iff_ne.mpr h0
    have zn3 : (z = 0) = False := eq_false h0
    clear h0 HZ HZR HFV
    refine start_ (n := 29) (S := fun w' => True) (ds := []) #[false, false, false, false, false, false, false, false, false, false, false, false, false, false, false, false, false, false, false, false, false, false, false, false, false, false, false, false, false] (by kernel_rfl) rfl rfl trivial (fun hHeld => ?_)
    refine with_tabW glebelaw07_PointBack.tab20 glebelaw07_PointBack.bits20 (fun HT_ HW_ => ?_)
    refine pure_ (i := 0) (N := some 130) (v := ?_) (a' := ?_) #[true, false, false, false, false, false, false, false, false, false, false, false, false, false, false, false, false, false, false, false, false, false, false, false, false, false, false, false, false] rfl rfl (any_of HT_.out (by kernel_rfl)) (fun _ _ _ h => h) (Or.inl ⟨by rfl, ?_⟩) ?_ ?_
    rotate_left
    · intro w'
      go_simp
      with_reducible rfl
    rotate_left
    · simp only [Act.put, List.setIfInBounds_toArray, List.set_cons_zero, List.set_cons_succ, i64_w, i32_w]
      rfl
    refine one_ (i := 1) (N := some 131) #[true, true, false, false, false, false, false, false, false, false, false, false, false, false, false, false, false, false, false, false, false, false, false, false, false, false, false, false, false] rfl rfl (one_of HT_.out (by kernel_rfl)) (by decide) (fun K hK => ?_)
    refine goes_ Try.func15 (by kernel_rfl) rfl #[.pointer (some ⟨g, 0, none⟩)] (by rfl) rfl rfl (by simp only [List.map_toArray, List.map_cons, List.map_nil]; rfl) ?_
    with_reducible refine (wire_Reader_Err.calls g l5 z true w _ (by first | exact HI.out | exact HI.out.drew)).mono ?_
    rintro e wx ⟨rfl, rfl⟩
    refine ⟨_, rfl, ?_⟩
    rw [if_pos (rfl : true = true)]
    refine hK.out _ _ trivial (fun hHeld => ?_)
    clear hK K
    refine norm_ (a' := ?_) ?_ ?_
    rotate_left
    · show Act.put _ (some 131) _ = _
      simp only [Act.put, List.setIfInBounds_toArray, List.set_cons_zero, List.set_cons_succ, i64_w, i32_w]
      rfl
    refine one_ (i := 2) (N := some 132) #[true, true, true, false, false, false, false, false, false, false, false, false, false, false, false, false, false, false, false, false, false, false, false, false, false, false, false, false, false] rfl rfl (one_of HT_.out (by kernel_rfl)) (by decide) (fun K hK => ?_)
    refine goes_ Try.func14 (by kernel_rfl) rfl #[.int .i64 z] (by rfl) rfl rfl (by simp only [List.map_toArray, List.map_cons, List.map_nil]; rfl) ?_
    with_reducible refine (glebelaw07_num.calls z z _ rfl).mono ?_
    rintro e wx ⟨rfl, hbx0⟩
    refine ⟨_, rfl, ?_⟩
    have hbx := drawn_below hbx0
    replace HI := Aside0.mk (IsRdr.below (by first | exact HI.out | exact HI.out.drew) hbx)
    replace HV := Aside0.mk (Kd.C_below (by first | exact HV.out | exact Kd.C_drew HV.out) hbx)
    replace HB := Aside0.mk (show Below w.heap.size w wx from by first | exact below_step HB.out hbx | exact below_step (below_drew HB.out) hbx)
    clear hbx
    clear hbx0
    refine hK.out _ _ trivial (fun hHeld => ?_)
    clear hK K
    refine norm_ (a' := ?_) ?_ ?_
    rotate_left
    · show Act.put _ (some 132) _ = _
      simp only [Act.put, List.setIfInBounds_toArray, List.set_cons_zero, List.set_cons_succ, i64_w, i32_w]
      rfl
    refine pure_ (i := 3) (N := some 133) (v := ?_) (a' := ?_) #[true, true, true, true, false, false, false, false, false, false, false, false, false, false, false, false, false, false, false, false, false, false, false, false, false, false, false, false, false] rfl rfl (any_of HT_.out (by kernel_rfl)) (fun _ _ _ h => h) (Or.inl ⟨by rfl, ?_⟩) ?_ ?_
    rotate_left
    · intro w'
      go_simp
      with_reducible rfl
    rotate_left
    · simp only [Act.put, List.setIfInBounds_toArray, List.set_cons_zero, List.set_cons_succ, i64_w, i32_w]
      rfl
    refine pure_ (i := 4) (N := some 134) (v := ?_) (a' := ?_) #[true, true, true, true, true, false, false, false, false, false, false, false, false, false, false, false, false, false, false, false, false, false, false, false, false, false, false, false, false] rfl rfl (any_of HT_.out (by kernel_rfl)) (fun _ _ _ h => h) (Or.inl ⟨by rfl, ?_⟩) ?_ ?_
    rotate_left
    · intro w'
      go_simp
      with_reducible rfl
    rotate_left
    · simp only [Act.put, List.setIfInBounds_toArray, List.set_cons_zero, List.set_cons_succ, i64_w, i32_w]
      rfl
    refine pure_ (i := 5) (N := some 135) (v := undef) (a' := ?_) #[true, true, true, true, true, true, false, false, false, false, false, false, false, false, false, false, false, false, false, false, false, false, false, false, false, false, false, false, false] rfl rfl (any_of HT_.out (by kernel_rfl)) (fun _ _ _ h => h) (Or.inr ⟨by rfl, rfl⟩) ?_ ?_
    rotate_left
    · simp only [Act.put, List.setIfInBounds_toArray, List.set_cons_zero, List.set_cons_succ, i64_w, i32_w]
      rfl
    refine pure_ (i := 6) (N := some 136) (v := undef) (a' := ?_) #[true, true, true, true, true, true, true, false, false, false, false, false, false, false, false, false, false, false, false, false, false, false, false, false, false, false, false, false, false] rfl rfl (any_of HT_.out (by kernel_rfl)) (fun _ _ _ h => h) (Or.inr ⟨by rfl, rfl⟩) ?_ ?_
    rotate_left
    · simp only [Act.put, List.setIfInBounds_toArray, List.set_cons_zero, List.set_cons_succ, i64_w, i32_w]
      rfl
    refine pure_ (i := 7) (N := some 137) (v := undef) (a' := ?_) #[true, true, true, true, true, true, true, true, false, false, false, false, false, false, false, false, false, false, false, false, false, false, false, false, false, false, false, false, false] rfl rfl (any_of HT_.out (by kernel_rfl)) (fun _ _ _ h => h) (Or.inr ⟨by rfl, rfl⟩) ?_ ?_
    rotate_left
    · simp only [Act.put, List.setIfInBounds_toArray, List.set_cons_zero, List.set_cons_succ, i64_w, i32_w]
      rfl
    refine pure_ (i := 8) (N := some 138) (v := undef) (a' := ?_) #[true, true, true, true, true, true, true, true, true, false, false, false, false, false, false, false, false, false, false, false, false, false, false, false, false, false, false, false, false] rfl rfl (any_of HT_.out (by kernel_rfl)) (fun _ _ _ h => h) (Or.inr ⟨by rfl, rfl⟩) ?_ ?_
    rotate_left
    · simp only [Act.put, List.setIfInBounds_toArray, List.set_cons_zero, List.set_cons_succ, i64_w, i32_w]
      rfl
    refine pure_ (i := 9) (N := some 139) (v := undef) (a' := ?_) #[true, true, true, true, true, true, true, true, true, true, false, false, false, false, false, false, false, false, false, false, false, false, false, false, false, false, false, false, false] rfl rfl (any_of HT_.out (by kernel_rfl)) (fun _ _ _ h => h) (Or.inr ⟨by rfl, rfl⟩) ?_ ?_
    rotate_left
    · simp only [Act.put, List.setIfInBounds_toArray, List.set_cons_zero, List.set_cons_succ, i64_w, i32_w]
      rfl
    refine pure_ (i := 10) (N := some 140) (v := undef) (a' := ?_) #[true, true, true, true, true, true, true, true, true, true, true, false, false, false, false, false, false, false, false, false, false, false, false, false, false, false, false, false, false] rfl rfl (any_of HT_.out (by kernel_rfl)) (fun _ _ _ h => h) (Or.inr ⟨by rfl, rfl⟩) ?_ ?_
    rotate_left
    · simp only [Act.put, List.setIfInBounds_toArray, List.set_cons_zero, List.set_cons_succ, i64_w, i32_w]
      rfl
    refine pure_ (i := 11) (N := some 141) (v := undef) (a' := ?_) #[true, true, true, true, true, true, true, true, true, true, true, true, false, false, false, false, false, false, false, false, false, false, false, false, false, false, false, false, false] rfl rfl (any_of HT_.out (by kernel_rfl)) (fun _ _ _ h => h) (Or.inr ⟨by rfl, rfl⟩) ?_ ?_
    rotate_left
    · simp only [Act.put, List.setIfInBounds_toArray, List.set_cons_zero, List.set_cons_succ, i64_w, i32_w]
      rfl
    refine pure_ (i := 12) (N := some 142) (v := undef) (a' := ?_) #[true, true, true, true, true, true, true, true, true, true, true, true, true, false, false, false, false, false, false, false, false, false, false, false, false, false, false, false, false] rfl rfl (any_of HT_.out (by kernel_rfl)) (fun _ _ _ h => h) (Or.inr ⟨by rfl, rfl⟩) ?_ ?_
    rotate_left
    · simp only [Act.put, List.setIfInBounds_toArray, List.set_cons_zero, List.set_cons_succ, i64_w, i32_w]
      rfl
    refine pure_ (i := 13) (N := some 143) (v := undef) (a' := ?_) #[true, true, true, true, true, true, true, true, true, true, true, true, true, true, false, false, false, false, false, false, false, false, false, false, false, false, false, false, false] rfl rfl (any_of HT_.out (by kernel_rfl)) (fun _ _ _ h => h) (Or.inr ⟨by rfl, rfl⟩) ?_ ?_
    rotate_left
    · simp only [Act.put, List.setIfInBounds_toArray, List.set_cons_zero, List.set_cons_succ, i64_w, i32_w]
      rfl
    refine pure_ (i := 14) (N := some 144) (v := undef) (a' := ?_) #[true, true, true, true, true, true, true, true, true, true, true, true, true, true, true, false, false, false, false, false, false, false, false, false, false, false, false, false, false] rfl rfl (any_of HT_.out (by kernel_rfl)) (fun _ _ _ h => h) (Or.inr ⟨by rfl, rfl⟩) ?_ ?_
    rotate_left
    · simp only [Act.put, List.setIfInBounds_toArray, List.set_cons_zero, List.set_cons_succ, i64_w, i32_w]
      rfl
    refine pure_ (i := 15) (N := some 145) (v := undef) (a' := ?_) #[true, true, true, true, true, true, true, true, true, true, true, true, true, true, true, true, false, false, false, false, false, false, false, false, false, false, false, false, false] rfl rfl (any_of HT_.out (by kernel_rfl)) (fun _ _ _ h => h) (Or.inr ⟨by rfl, rfl⟩) ?_ ?_
    rotate_left
    · simp only [Act.put, List.setIfInBounds_toArray, List.set_cons_zero, List.set_cons_succ, i64_w, i32_w]
      rfl
    refine pure_ (i := 16) (N := some 146) (v := undef) (a' := ?_) #[true, true, true, true, true, true, true, true, true, true, true, true, true, true, true, true, true, false, false, false, false, false, false, false, false, false, false, false, false] rfl rfl (any_of HT_.out (by kernel_rfl)) (fun _ _ _ h => h) (Or.inr ⟨by rfl, rfl⟩) ?_ ?_
    rotate_left
    · simp only [Act.put, List.setIfInBounds_toArray, List.set_cons_zero, List.set_cons_succ, i64_w, i32_w]
      rfl
    refine pure_ (i := 17) (N := some 147) (v := undef) (a' := ?_) #[true, true, true, true, true, true, true, true, true, true, true, true, true, true, true, true, true, true, false, false, false, false, false, false, false, false, false, false, false] rfl rfl (any_of HT_.out (by kernel_rfl)) (fun _ _ _ h => h) (Or.inr ⟨by rfl, rfl⟩) ?_ ?_
    rotate_left
    · simp only [Act.put, List.setIfInBounds_toArray, List.set_cons_zero, List.set_cons_succ, i64_w, i32_w]
      rfl
    refine pure_ (i := 18) (N := some 148) (v := undef) (a' := ?_) #[true, true, true, true, true, true, true, true, true, true, true, true, true, true, true, true, true, true, true, false, false, false, false, false, false, false, false, false, false] rfl rfl (any_of HT_.out (by kernel_rfl)) (fun _ _ _ h => h) (Or.inr ⟨by rfl, rfl⟩) ?_ ?_
    rotate_left
    · simp only [Act.put, List.setIfInBounds_toArray, List.set_cons_zero, List.set_cons_succ, i64_w, i32_w]
      rfl
    refine pure_ (i := 19) (N := some 149) (v := undef) (a' := ?_) #[true, true, true, true, true, true, true, true, true, true, true, true, true, true, true, true, true, true, true, true, false, false, false, false, false, false, false, false, false] rfl rfl (any_of HT_.out (by kernel_rfl)) (fun _ _ _ h => h) (Or.inr ⟨by rfl, rfl⟩) ?_ ?_
    rotate_left
    · simp only [Act.put, List.setIfInBounds_toArray, List.set_cons_zero, List.set_cons_succ, i64_w, i32_w]
      rfl
    refine pure_ (i := 20) (N := some 150) (v := undef) (a' := ?_) #[true, true, true, true, true, true, true, true, true, true, true, true, true, true, true, true, true, true, true, true, true, false, false, false, false, false, false, false, false] rfl rfl (any_of HT_.out (by kernel_rfl)) (fun _ _ _ h => h) (Or.inr ⟨by rfl, rfl⟩) ?_ ?_
    rotate_left
    · simp only [Act.put, List.setIfInBounds_toArray, List.set_cons_zero, List.set_cons_succ, i64_w, i32_w]
      rfl
    refine pure_ (i := 21) (N := some 151) (v := undef) (a' := ?_) #[true, true, true, true, true, true, true, true, true, true, true, true, true, true, true, true, true, true, true, true, true, true, false, false, false, false, false, false, false] rfl rfl (any_of HT_.out (by kernel_rfl)) (fun _ _ _ h => h) (Or.inr ⟨by rfl, rfl⟩) ?_ ?_
    rotate_left
    · simp only [Act.put, List.setIfInBounds_toArray, List.set_cons_zero, List.set_cons_succ, i64_w, i32_w]
      rfl
    refine pure_ (i := 22) (N := some 152) (v := undef) (a' := ?_) #[true, true, true, true, true, true, true, true, true, true, true, true, true, true, true, true, true, true, true, true, true, true, true, false, false, false, false, false, false] rfl rfl (any_of HT_.out (by kernel_rfl)) (fun _ _ _ h => h) (Or.inr ⟨by rfl, rfl⟩) ?_ ?_
    rotate_left
    · simp only [Act.put, List.setIfInBounds_toArray, List.set_cons_zero, List.set_cons_succ, i64_w, i32_w]
      rfl
    refine pure_ (i := 23) (N := some 153) (v := undef) (a' := ?_) #[true, true, true, true, true, true, true, true, true, true, true, true, true, true, true, true, true, true, true, true, true, true, true, true, false, false, false, false, false] rfl rfl (any_of HT_.out (by kernel_rfl)) (fun _ _ _ h => h) (Or.inr ⟨by rfl, rfl⟩) ?_ ?_
    rotate_left
    · simp only [Act.put, List.setIfInBounds_toArray, List.set_cons_zero, List.set_cons_succ, i64_w, i32_w]
      rfl
    refine pure_ (i := 24) (N := some 154) (v := undef) (a' := ?_) #[true, true, true, true, true, true, true, true, true, true, true, true, true, true, true, true, true, true, true, true, true, true, true, true, true, false, false, false, false] rfl rfl (any_of HT_.out (by kernel_rfl)) (fun _ _ _ h => h) (Or.inr ⟨by rfl, rfl⟩) ?_ ?_
    rotate_left
    · simp only [Act.put, List.setIfInBounds_toArray, List.set_cons_zero, List.set_cons_succ, i64_w, i32_w]
      rfl
    refine pure_ (i := 25) (N := some 155) (v := undef) (a' := ?_) #[true, true, true, true, true, true, true, true, true, true, true, true, true, true, true, true, true, true, true, true, true, true, true, true, true, true, false, false, false] rfl rfl (any_of HT_.out (by kernel_rfl)) (fun _ _ _ h => h) (Or.inr ⟨by rfl, rfl⟩) ?_ ?_
    rotate_left
    · simp only [Act.put, List.setIfInBounds_toArray, List.set_cons_zero, List.set_cons_succ, i64_w, i32_w]
      rfl
    refine pure_ (i := 26) (N := some 156) (v := undef) (a' := ?_) #[true, true, true, true, true, true, true, true, true, true, true, true, true, true, true, true, true, true, true, true, true, true, true, true, true, true, true, false, false] rfl rfl (any_of HT_.out (by kernel_rfl)) (fun _ _ _ h => h) (Or.inr ⟨by rfl, rfl⟩) ?_ ?_
    rotate_left
    · simp only [Act.put, List.setIfInBounds_toArray, List.set_cons_zero, List.set_cons_succ, i64_w, i32_w]
      rfl
    refine pure_ (i := 27) (N := some 157) (v := undef) (a' := ?_) #[true, true, true, true, true, true, true, true, true, true, true, true, true, true, true, true, true, true, true, true, true, true, true, true, true, true, true, true, false] rfl rfl (any_of HT_.out (by kernel_rfl)) (fun _ _ _ h => h) (Or.inr ⟨by rfl, rfl⟩) ?_ ?_
    rotate_left
    · simp only [Act.put, List.setIfInBounds_toArray, List.set_cons_zero, List.set_cons_succ, i64_w, i32_w]
      rfl
    refine pure_ (i := 28) (N := some 158) (v := ?_) (a' := ?_) #[true, true, true, true, true, true, true, true, true, true, true, true, true, true, true, true, true, true, true, true, true, true, true, true, true, true, true, true, true] rfl rfl (any_of HT_.out (by kernel_rfl)) (fun _ _ _ h => h) (Or.inl ⟨by rfl, ?_⟩) ?_ ?_
    rotate_left
    · intro w'
      go_simp
      with_reducible rfl
    rotate_left
    · simp only [Act.put, List.setIfInBounds_toArray, List.set_cons_zero, List.set_cons_succ, i64_w, i32_w]
      rfl
    refine done_ (done_of HT_.out (by kernel_rfl)) ?_
    go_wp2
    go_meet
    case rel => exact ⟨rfl, HB⟩
  case rest =>
  obtain ⟨hs158, HB⟩ := hcut
  subst hs158
  clear HV HI HLV HEV HPV HRR HKS HTV HNV HZ HZR HFV
  as_aux_lemma =>
  obtain ⟨kd, l1, e1, px, l2, e2, py, l3, e3, key, l4, e4, val, l5, e5, cli, l6, e6, seq, l7, e7, r, k1, k2, k3, k4, k5, k6, k7, hrr⟩ := chain_op l0
  have hzr := zero_row7 (tkE r e7) kd px py (strOfNums key) (strOfNums val) cli seq
  obtain ⟨z, hz⟩ : ∃ z, z = tkE r e7 := ⟨_, rfl⟩
  rw [← hz] at hzr
  obtain ⟨v0, hv0⟩ : ∃ v, v = (if z = 0 then kd else 0) := ⟨_, rfl⟩
  obtain ⟨v1, hv1⟩ : ∃ v, v = (if z = 0 then px else 0) := ⟨_, rfl⟩
  obtain ⟨v2, hv2⟩ : ∃ v, v = (if z = 0 then py else 0) := ⟨_, rfl⟩
  obtain ⟨v3, hv3⟩ : ∃ v, v = (if z = 0 then (strOfNums key) else (⟨#[]⟩ : ByteArray)) := ⟨_, rfl⟩
  obtain ⟨v4, hv4⟩ : ∃ v, v = (if z = 0 then (strOfNums val) else (⟨#[]⟩ : ByteArray)) := ⟨_, rfl⟩
  obtain ⟨v5, hv5⟩ : ∃ v, v = (if z = 0 then cli else 0) := ⟨_, rfl⟩
  obtain ⟨v6, hv6⟩ : ∃ v, v = (if z = 0 then seq else 0) := ⟨_, rfl⟩
  rw [← hv0, ← hv1, ← hv2, ← hv3, ← hv4, ← hv5, ← hv6] at hzr
  have zv3 : v3.size ≤ 500 := by rw [hv3]; exact if_size z k4
  have zv4 : v4.size ≤ 500 := by rw [hv4]; exact if_size z k5
  obtain ⟨bv, pv, qv, iv⟩ := right_op v0 v1 v2 v3 v4 v5 v6
  obtain ⟨Lv, hLv⟩ : ∃ x, x = (if bv then ([v0, v1, v2] : List Int).flatMap wB ++ ([v3, v4] : List ByteArray).flatMap wT ++ ([v5, v6] : List Int).flatMap wB else []) := ⟨_, rfl⟩
  obtain ⟨ev, hev⟩ : ∃ x, x = (if bv then (0 : Int) else 1) := ⟨_, rfl⟩
  have HFV := Aside0.mk (show z = 0 → bv = true ∧ ev = 0 ∧ l0 = Lv ++ l7 by
    intro q
    rw [hz] at q
    obtain ⟨q1, q2⟩ := tkE_zero q
    have q3 : z = 0 := hz.trans q
    simp only [q3, if_true] at hv0 hv1 hv2 hv3 hv4 hv5 hv6
    subst q1 hv0 hv1 hv2 hv3 hv4 hv5 hv6
    rw [hrr] at pv
    obtain rfl := Option.some.inj pv
    refine ⟨rfl, hev, ?_⟩
    rw [hLv, if_pos rfl]
    exact taken_op HBY.out k1 k2 k3 k4 k5 k6 k7 q2)
  have HPV := Aside0.mk pv
  have HLV := Aside0.mk hLv
  have HEV := Aside0.mk hev
  have HZ := Aside0.mk hz
  have HZR := Aside0.mk hzr
  have HRR := Aside0.mk hrr
  have HKS := Aside0.mk (show rdNum l0 0 true = (kd, l1, e1) ∧ rdNum l1 e1 true = (px, l2, e2) ∧ rdNum l2 e2 true = (py, l3, e3) ∧ rdText l3 e3 true 32 = (key, l4, e4) ∧ rdText l4 e4 true 32 = (val, l5, e5) ∧ rdNum l5 e5 true = (cli, l6, e6) ∧ rdNum l6 e6 true = (seq, l7, e7) from ⟨k1, k2, k3, k4, k5, k6, k7⟩)
  have HTV := Aside0.mk (show ∀ s ∈ ([v3, v4] : List ByteArray), wire_Text.f 100 s = some (wT s, (fun _ => 0) s) by
    intro s hs
    simp only [List.mem_cons, List.not_mem_nil, or_false] at hs
    rcases hs with h | h
    · rw [h]; exact wT_f _ zv3
    · rw [h]; exact wT_f _ zv4)
  have HNV := Aside0.mk (show (([v0, v1, v2] : List Int).flatMap wB ++ ([v3, v4] : List ByteArray).flatMap wT ++ ([v5, v6] : List Int).flatMap wB).length ≤ 2000 by have := wB_len v0; have := wB_len v1; have := wB_len v2; have := wT_len v3 zv3; have := wT_len v4 zv4; have := wB_len v5; have := wB_len v6; simp; omega)
  have HAL := Aside0.mk (show (([] : List Int).length + l0.length) * 1 ≤ 140737488355328 by have := HLE.out; simp; omega)
  clear pv qv iv hLv hev hz hzr hrr k1 k2 k3 k4 k5 k6 k7 hv0 hv1 hv2 hv3 hv4 hv5 hv6 zv3 zv4
  go_wp2_with (first | ((with_reducible refine gate_dst (N := 159) rfl ?_); refine Kd.R_lit (Kd.int .u8) _ 5 ?hg (N := 159) ?hd (xs := ([] : List Int)) (inner := []) (ok := fun _ => True) (okp := fun _ => True) ?hr ?hp (fun _ hk => hk) trivial (Below.refl _ _) (Nat.le_refl _) (by simp) ?_; (case hd => rfl); (case hg => rfl); (case hr => first | (go_simp; done) | (go_simp; rfl)); (case hp => exact (Reps.none _ _)); intro vL wL hoL hb hg_ hnew_; clear hg_ hnew_; have HOL := Aside0.mk hoL; have HBN := Aside0.mk hb; clear hb hoL) | ((with_reducible refine gate_builtin (b := .append) (xs := #[.tmp 159, .tmp 160]) rfl ?_); at_builtin; refine Kd.R_append_rows (Kd.int .u8) (w0 := wc) wc.heap.size rfl (.tmp 159) (.tmp 160) 22 5 (.int .u8 0) 1 rfl Try.underlying22 info5 rfl (by decide) (by omega) _ [] l0 _ _ _ (fun _ => True) (fun _ => False) rfl rfl ?aO ?aR (fun _ _ h => h) (fun _ h => h.elim) ?aF ?aB ?aS ?aL ?_; (case aO => exact HOL.out); (case aR => exact Kd.C_below (Kd.C_below H0.out HB.out) HBN.out); (case aB => exact HBN.out); (case aF => exact (fun _ _ => trivial)); (case aS => exact (below_size HBN.out)); (case aL => exact HAL.out); intro vM wM ho hb hg hat; replace HOL := Aside0.mk ho; replace HBN := Aside0.mk hb; clear ho hb hg hat) | fail)
  have hol := HOL.out
  rw [List.nil_append] at hol
  obtain ⟨Ax, cx, rfl⟩ := Kd.R_slice hol
  have HCX := Aside0.mk (Kd.R_reads' hol)
  replace HB := Aside0.mk (below_step HB.out HBN.out)
  clear hol HOL HBN HAL
  go_wp2_with fail
  refine (wire_Open.calls Ax cx l0 _ HCX.out.2.2 HCX.out.2.1 (by have := HLE.out; omega)).mono ?_
  rintro e wo ⟨g, A2, c2, rfl, hg, hblk, hc2, hC2, hty, hb⟩
  have HI := Aside0.mk (show IsRdr w wo g l0 0 true from ⟨Nat.le_trans HB.out.size hg, A2, c2, hblk, hc2, hC2, hty⟩)
  replace HB := Aside0.mk (below_step HB.out hb)
  clear hg hblk hc2 hC2 hty hb HCX
  go_wp2_with fail
  refine (point_TakeOp.calls 100 g l0 0 kd l1 e1 HKS.out.1 px l2 e2 HKS.out.2.1 py l3 e3 HKS.out.2.2.1 key l4 e4 HKS.out.2.2.2.1 val l5 e5 HKS.out.2.2.2.2.1 cli l6 e6 HKS.out.2.2.2.2.2.1 seq l7 e7 HKS.out.2.2.2.2.2.2 r HRR.out w _ HI.out HB.out).mono ?_
  rintro e wt ⟨rfl, hi, hbx, hk⟩
  rw [← HZ.out] at hi ⊢
  rw [HZR.out]
  replace HI := Aside0.mk hi
  replace HB := Aside0.mk hbx
  clear hi hbx hk
  go_wp2_with fail
  refine (point_PutOp.calls 100 wB wE wT (fun _ => 0) v0 v1 v2 v3 v4 v5 v6 bv _ HPV.out (fun n _ => wB_f n) HTV.out (fun n _ => wB_f n) (by have := HNV.out; omega)).mono ?_
  rintro e wd ⟨v, rfl, hv, hb⟩
  rw [← HEV.out]
  rw [← HLV.out] at hv
  obtain ⟨Bv, dv, rfl⟩ := Kd.R_slice hv
  have HV := Aside0.mk (Kd.R_reads' hv).2.2
  replace HI := Aside0.mk (HI.out.below hb)
  replace HB := Aside0.mk (below_step HB.out hb)
  clear hb hv
  go_wp2_with fail
  by_cases h0 : z = 0
  focus
    as_aux_lemma =>
    obtain ⟨hbv, hev, hl0⟩ := HFV.out h0
    have hjl : l0.length = Lv.length + l7.length := by
      have := congrArg List.length hl0
      rw [List.length_append] at this
      exact this
    have HSL := Aside0.mk (show ∀ W : World, (Instr.slice 22 (.slice A0 l0.length c0) none (some (.int .i64 (Lv.length : Int))) none).run Try.prog W = .ok (.slice A0 Lv.length c0) W from fun W => by
      have := bytes_to A0 l0.length c0 (Lv.length : Int) (by omega) (by omega) hc0 W
      rwa [Int.toNat_natCast] at this)
    have HCT := Aside0.mk (show (Kd.int .u8).C w A0 Lv.length Lv by
      have q := Kd.C_take (m := Lv.length) H0.out (by omega)
      rw [show l0.take Lv.length = Lv by rw [hl0]; simp] at q
      exact q)
    have g1 : decide ((l0.length : Int) < (l7.length : Int)) = false := decide_eq_false (by omega)
    have g2 : decide ((l7.length : Int) ≤ (l0.length : Int)) = true := decide_eq_true (by omega)
    have g3 : decide (l0.length < l7.length) = false := decide_eq_false (by omega)
    have g4 : decide (l7.length ≤ l0.length) = true := decide_eq_true (by omega)
    have hq1 : (l0.length : Int) - (l7.length : Int) = (Lv.length : Int) := by omega
    have hw1 : wrap64 ((l0.length : Int) - (l7.length : Int)) = (Lv.length : Int) := by
      rw [hq1]
      exact Go.IntWalk.wrap64_in _ (by have := HLE.out; omega)
    have hw2 : IntKind.i64.wrap ((l0.length : Int) - (l7.length : Int)) = (Lv.length : Int) := (i64_w _).trans hw1
    have HI2 := Aside0.mk (show IsRdr w _ g l7 0 true by have q := HI.out; rw [h0] at q; exact q)
    clear HI
    have HI := HI2
    clear HI2 hl0 hjl hbv h0 hq1 HZ HZR HFV
    subst hev
    refine start_ (n := 33) (S := fun w' => (convert 22 9 (.slice Bv Lv.length dv)).run Try.prog w' = .ok (.string (strOfNums Lv)) w' ∧ (convert 22 9 (.slice A0 Lv.length c0)).run Try.prog w' = .ok (.string (strOfNums Lv)) w' ∧ (Instr.slice 22 (.slice A0 l0.length c0) none (some (.int .i64 (Lv.length : Int))) none).run Try.prog w' = .ok (.slice A0 Lv.length c0) w') (ds := []) #[false, false, false, false, false, false, false, false, false, false, false, false, false, false, false, false, false, false, false, false, false, false, false, false, false, false, false, false, false, false, false, false, false] (by kernel_rfl) rfl rfl ⟨(Kd.C_string Try.underlying22 Try.underlying5 Try.underlying9 (by first | exact HV.out | exact Kd.C_drew HV.out)), (Kd.C_string Try.underlying22 Try.underlying5 Try.underlying9 (by first | exact Kd.C_below HCT.out HB.out | exact Kd.C_drew (Kd.C_below HCT.out HB.out))), (HSL.out _)⟩ (fun hHeld => ?_)
    refine with_tabW glebelaw07_PointBack.tab24 glebelaw07_PointBack.bits24 (fun HT_ HW_ => ?_)
    refine pure_ (i := 0) (N := some 169) (v := ?_) (a' := ?_) #[true, false, false, false, false, false, false, false, false, false, false, false, false, false, false, false, false, false, false, false, false, false, false, false, false, false, false, false, false, false, false, false, false] rfl rfl (any_of HT_.out (by kernel_rfl)) (fun _ _ _ h => h) (Or.inl ⟨by rfl, ?_⟩) ?_ ?_
    rotate_left
    · intro w'
      go_simp
      with_reducible rfl
    rotate_left
    · simp only [Act.put, List.setIfInBounds_toArray, List.set_cons_zero, List.set_cons_succ, i64_w, i32_w]
      rfl
    refine one_ (i := 1) (N := some 170) #[true, true, false, false, false, false, false, false, false, false, false, false, false, false, false, false, false, false, false, false, false, false, false, false, false, false, false, false, false, false, false, false, false] rfl rfl (one_of HT_.out (by kernel_rfl)) (by decide) (fun K hK => ?_)
    refine goes_ Try.func15 (by kernel_rfl) rfl #[.pointer (some ⟨g, 0, none⟩)] (by rfl) rfl rfl (by simp only [List.map_toArray, List.map_cons, List.map_nil]; rfl) ?_
    with_reducible refine (wire_Reader_Err.calls g l7 0 true w _ (by first | exact HI.out | exact HI.out.drew)).mono ?_
    rintro e wx ⟨rfl, rfl⟩
    refine ⟨_, rfl, ?_⟩
    rw [if_pos (rfl : true = true)]
    refine hK.out _ _ ⟨(Kd.C_string Try.underlying22 Try.underlying5 Try.underlying9 (by first | exact HV.out | exact Kd.C_drew HV.out)), (Kd.C_string Try.underlying22 Try.underlying5 Try.underlying9 (by first | exact Kd.C_below HCT.out HB.out | exact Kd.C_drew (Kd.C_below HCT.out HB.out))), (HSL.out _)⟩ (fun hHeld => ?_)
    clear hK K
    refine norm_ (a' := ?_) ?_ ?_
    rotate_left
    · show Act.put _ (some 170) _ = _
      simp only [Act.put, List.setIfInBounds_toArray, List.set_cons_zero, List.set_cons_succ, i64_w, i32_w]
      rfl
    refine one_ (i := 2) (N := some 171) #[true, true, true, false, false, false, false, false, false, false, false, false, false, false, false, false, false, false, false, false, false, false, false, false, false, false, false, false, false, false, false, false, false] rfl rfl (one_of HT_.out (by kernel_rfl)) (by decide) (fun K hK => ?_)
    refine goes_ Try.func14 (by kernel_rfl) rfl #[.int .i64 0] (by rfl) rfl rfl (by simp only [List.map_toArray, List.map_cons, List.map_nil]; rfl) ?_
    with_reducible refine (glebelaw07_num.calls 0 0 _ rfl).mono ?_
    rintro e wx ⟨rfl, hbx0⟩
    refine ⟨_, rfl, ?_⟩
    have hbx := drawn_below hbx0
    replace HI := Aside0.mk (IsRdr.below (by first | exact HI.out | exact HI.out.drew) hbx)
    replace HV := Aside0.mk (Kd.C_below (by first | exact HV.out | exact Kd.C_drew HV.out) hbx)
    replace HB := Aside0.mk (show Below w.heap.size w wx from by first | exact below_step HB.out hbx | exact below_step (below_drew HB.out) hbx)
    clear hbx
    clear hbx0
    refine hK.out _ _ ⟨(Kd.C_string Try.underlying22 Try.underlying5 Try.underlying9 HV.out), (Kd.C_string Try.underlying22 Try.underlying5 Try.underlying9 (Kd.C_below HCT.out HB.out)), (HSL.out _)⟩ (fun hHeld => ?_)
    clear hK K
    refine norm_ (a' := ?_) ?_ ?_
    rotate_left
    · show Act.put _ (some 171) _ = _
      simp only [Act.put, List.setIfInBounds_toArray, List.set_cons_zero, List.set_cons_succ, i64_w, i32_w]
      rfl
    refine pure_ (i := 3) (N := some 172) (v := ?_) (a' := ?_) #[true, true, true, true, false, false, false, false, false, false, false, false, false, false, false, false, false, false, false, false, false, false, false, false, false, false, false, false, false, false, false, false, false] rfl rfl (any_of HT_.out (by kernel_rfl)) (fun _ _ _ h => h) (Or.inl ⟨by rfl, ?_⟩) ?_ ?_
    rotate_left
    · intro w'
      go_simp
      with_reducible rfl
    rotate_left
    · simp only [Act.put, List.setIfInBounds_toArray, List.set_cons_zero, List.set_cons_succ, i64_w, i32_w]
      rfl
    refine pure_ (i := 4) (N := some 173) (v := ?_) (a' := ?_) #[true, true, true, true, true, false, false, false, false, false, false, false, false, false, false, false, false, false, false, false, false, false, false, false, false, false, false, false, false, false, false, false, false] rfl rfl (any_of HT_.out (by kernel_rfl)) (fun _ _ _ h => h) (Or.inl ⟨by rfl, ?_⟩) ?_ ?_
    rotate_left
    · intro w'
      go_simp
      with_reducible rfl
    rotate_left
    · simp only [Act.put, List.setIfInBounds_toArray, List.set_cons_zero, List.set_cons_succ, i64_w, i32_w]
      rfl
    refine pure_ (i := 5) (N := some 174) (v := ?_) (a' := ?_) #[true, true, true, true, true, true, false, false, false, false, false, false, false, false, false, false, false, false, false, false, false, false, false, false, false, false, false, false, false, false, false, false, false] rfl rfl (any_of HT_.out (by kernel_rfl)) (fun _ _ _ h => h) (Or.inl ⟨by rfl, ?_⟩) ?_ ?_
    rotate_left
    · intro w'
      go_simp
      with_reducible rfl
    rotate_left
    · simp only [Act.put, List.setIfInBounds_toArray, List.set_cons_zero, List.set_cons_succ, i64_w, i32_w]
      rfl
    refine one_ (i := 6) (N := some 175) #[true, true, true, true, true, true, true, false, false, false, false, false, false, false, false, false, false, false, false, false, false, false, false, false, false, false, false, false, false, false, false, false, false] rfl rfl (one_of HT_.out (by kernel_rfl)) (by decide) (fun K hK => ?_)
    refine goes_ Try.func14 (by kernel_rfl) rfl #[.int .i64 0] (by rfl) rfl rfl (by simp only [List.map_toArray, List.map_cons, List.map_nil]; rfl) ?_
    with_reducible refine (glebelaw07_num.calls 0 0 _ rfl).mono ?_
    rintro e wx ⟨rfl, hbx0⟩
    refine ⟨_, rfl, ?_⟩
    have hbx := drawn_below hbx0
    replace HI := Aside0.mk (IsRdr.below (by first | exact HI.out | exact HI.out.drew) hbx)
    replace HV := Aside0.mk (Kd.C_below (by first | exact HV.out | exact Kd.C_drew HV.out) hbx)
    replace HB := Aside0.mk (show Below w.heap.size w wx from by first | exact below_step HB.out hbx | exact below_step (below_drew HB.out) hbx)
    clear hbx
    clear hbx0
    refine hK.out _ _ ⟨(Kd.C_string Try.underlying22 Try.underlying5 Try.underlying9 HV.out), (Kd.C_string Try.underlying22 Try.underlying5 Try.underlying9 (Kd.C_below HCT.out HB.out)), (HSL.out _)⟩ (fun hHeld => ?_)
    clear hK K
    refine norm_ (a' := ?_) ?_ ?_
    rotate_left
    · show Act.put _ (some 175) _ = _
      simp only [Act.put, List.setIfInBounds_toArray, List.set_cons_zero, List.set_cons_succ, i64_w, i32_w]
      rfl
    refine pure_ (i := 7) (N := some 176) (v := ?_) (a' := ?_) #[true, true, true, true, true, true, true, true, false, false, false, false, false, false, false, false, false, false, false, false, false, false, false, false, false, false, false, false, false, false, false, false, false] rfl rfl (any_of HT_.out (by kernel_rfl)) (fun _ _ _ h => h) (Or.inl ⟨by rfl, ?_⟩) ?_ ?_
    rotate_left
    · intro w'
      go_simp
      with_reducible rfl
    rotate_left
    · simp only [Act.put, List.setIfInBounds_toArray, List.set_cons_zero, List.set_cons_succ, i64_w, i32_w]
      rfl
    refine pure_ (i := 8) (N := some 177) (v := ?_) (a' := ?_) #[true, true, true, true, true, true, true, true, true, false, false, false, false, false, false, false, false, false, false, false, false, false, false, false, false, false, false, false, false, false, false, false, false] rfl rfl (any_of HT_.out (by kernel_rfl)) (fun _ _ _ h => h) (Or.inl ⟨by rfl, ?_⟩) ?_ ?_
    rotate_left
    · intro w'
      go_simp
      with_reducible rfl
    rotate_left
    · simp only [Act.put, List.setIfInBounds_toArray, List.set_cons_zero, List.set_cons_succ, i64_w, i32_w]
      rfl
    refine pure_ (i := 9) (N := some 178) (v := ?_) (a' := ?_) #[true, true, true, true, true, true, true, true, true, true, false, false, false, false, false, false, false, false, false, false, false, false, false, false, false, false, false, false, false, false, false, false, false] rfl rfl (any_of HT_.out (by kernel_rfl)) (fun _ _ _ h => h) (Or.inl ⟨by rfl, ?_⟩) ?_ ?_
    rotate_left
    · intro w'
      go_simp
      with_reducible rfl
    rotate_left
    · simp only [Act.put, List.setIfInBounds_toArray, List.set_cons_zero, List.set_cons_succ, i64_w, i32_w]
      rfl
    refine pure_ (i := 11) (N := some 180) (v := ?_) (a' := ?_) #[true, true, true, true, true, true, true, true, true, true, false, true, false, false, false, false, false, false, false, false, false, false, false, false, false, false, false, false, false, false, false, false, false] rfl rfl (any_of HT_.out (by kernel_rfl)) (fun _ _ _ h => h) (Or.inl ⟨by rfl, ?_⟩) ?_ ?_
    rotate_left
    · intro w'
      go_simp
      with_reducible rfl
    rotate_left
    · simp only [Act.put, List.setIfInBounds_toArray, List.set_cons_zero, List.set_cons_succ, i64_w, i32_w]
      rfl
    refine pure_ (i := 12) (N := some 181) (v := ?_) (a' := ?_) #[true, true, true, true, true, true, true, true, true, true, false, true, true, false, false, false, false, false, false, false, false, false, false, false, false, false, false, false, false, false, false, false, false] rfl rfl (any_of HT_.out (by kernel_rfl)) (fun _ _ _ h => h) (Or.inl ⟨by rfl, ?_⟩) ?_ ?_
    rotate_left
    · intro w'
      go_simp
      with_reducible rfl
    rotate_left
    · simp only [Act.put, List.setIfInBounds_toArray, List.set_cons_zero, List.set_cons_succ, i64_w, i32_w]
      rfl
    refine one_ (i := 10) (N := some 179) #[true, true, true, true, true, true, true, true, true, true, true, true, true, false, false, false, false, false, false, false, false, false, false, false, false, false, false, false, false, false, false, false, false] rfl rfl (one_of HT_.out (by kernel_rfl)) (by decide) (fun K hK => ?_)
    refine goes_ Try.func16 (by kernel_rfl) rfl #[.pointer (some ⟨g, 0, none⟩)] (by rfl) rfl rfl (by simp only [List.map_toArray, List.map_cons, List.map_nil]; rfl) ?_
    with_reducible refine (wire_Reader_Left.calls g l7 0 true w _ HI.out).mono ?_
    rintro e wx ⟨rfl, rfl⟩
    refine ⟨_, rfl, ?_⟩
    rw [if_pos (show rdOk 0 true = true from rfl)]
    refine hK.out _ _ ⟨(Kd.C_string Try.underlying22 Try.underlying5 Try.underlying9 HV.out), (Kd.C_string Try.underlying22 Try.underlying5 Try.underlying9 (Kd.C_below HCT.out HB.out)), (HSL.out _)⟩ (fun hHeld => ?_)
    clear hK K
    refine norm_ (a' := ?_) ?_ ?_
    rotate_left
    · show Act.put _ (some 179) _ = _
      simp only [Act.put, List.setIfInBounds_toArray, List.set_cons_zero, List.set_cons_succ, i64_w, i32_w]
      rfl
    refine pure_ (i := 13) (N := some 182) (v := ?_) (a' := ?_) #[true, true, true, true, true, true, true, true, true, true, true, true, true, true, false, false, false, false, false, false, false, false, false, false, false, false, false, false, false, false, false, false, false] rfl rfl (any_of HT_.out (by kernel_rfl)) (fun _ _ _ h => h) (Or.inl ⟨by rfl, ?_⟩) ?_ ?_
    rotate_left
    · intro w'
      go_simp
      with_reducible rfl
    rotate_left
    · simp only [Act.put, List.setIfInBounds_toArray, List.set_cons_zero, List.set_cons_succ, i64_w, i32_w]
      rfl
    refine pure_ (i := 14) (N := some 183) (v := ?_) (a' := ?_) #[true, true, true, true, true, true, true, true, true, true, true, true, true, true, true, false, false, false, false, false, false, false, false, false, false, false, false, false, false, false, false, false, false] rfl rfl (any_of HT_.out (by kernel_rfl)) (fun _ _ _ h => h) (Or.inl ⟨by rfl, ?_⟩) ?_ ?_
    rotate_left
    · intro w'
      go_simp
      with_reducible rfl
    rotate_left
    · simp only [Act.put, List.setIfInBounds_toArray, List.set_cons_zero, List.set_cons_succ, i64_w, i32_w]
      rfl
    refine pure_ (i := 15) (N := some 184) (v := ?_) (a' := ?_) #[true, true, true, true, true, true, true, true, true, true, true, true, true, true, true, true, false, false, false, false, false, false, false, false, false, false, false, false, false, false, false, false, false] rfl rfl (any_of HT_.out (by kernel_rfl)) (fun _ _ _ h => h) (Or.inl ⟨by rfl, ?_⟩) ?_ ?_
    rotate_left
    · intro w'
      go_simp
      with_reducible rfl
    rotate_left
    · simp only [Act.put, List.setIfInBounds_toArray, List.set_cons_zero, List.set_cons_succ, i64_w, i32_w]
      rfl
    refine pure_ (i := 16) (N := some 185) (v := ?_) (a' := ?_) #[true, true, true, true, true, true, true, true, true, true, true, true, true, true, true, true, true, false, false, false, false, false, false, false, false, false, false, false, false, false, false, false, false] rfl rfl (any_of HT_.out (by kernel_rfl)) (fun _ _ _ h => h) (Or.inl ⟨by rfl, ?_⟩) ?_ ?_
    rotate_left
    · intro w'
      go_simp
      with_reducible rfl
    rotate_left
    · simp only [Act.put, List.setIfInBounds_toArray, List.set_cons_zero, List.set_cons_succ, i64_w, i32_w]
      rfl
    refine pure_ (i := 18) (N := some 187) (v := ?_) (a' := ?_) #[true, true, true, true, true, true, true, true, true, true, true, true, true, true, true, true, true, false, true, false, false, false, false, false, false, false, false, false, false, false, false, false, false] rfl rfl (any_of HT_.out (by kernel_rfl)) (fun _ _ _ h => h) (Or.inl ⟨by rfl, ?_⟩) ?_ ?_
    rotate_left
    · intro w'
      go_simp
      with_reducible rfl
    rotate_left
    · simp only [Act.put, List.setIfInBounds_toArray, List.set_cons_zero, List.set_cons_succ, i64_w, i32_w]
      rfl
    refine pure_ (i := 19) (N := some 188) (v := ?_) (a' := ?_) #[true, true, true, true, true, true, true, true, true, true, true, true, true, true, true, true, true, false, true, true, false, false, false, false, false, false, false, false, false, false, false, false, false] rfl rfl (any_of HT_.out (by kernel_rfl)) (fun _ _ _ h => h) (Or.inl ⟨by rfl, ?_⟩) ?_ ?_
    rotate_left
    · intro w'
      go_simp
      with_reducible rfl
    rotate_left
    · simp only [Act.put, List.setIfInBounds_toArray, List.set_cons_zero, List.set_cons_succ, i64_w, i32_w]
      rfl
    refine pure_ (i := 20) (N := some 189) (v := ?_) (a' := ?_) #[true, true, true, true, true, true, true, true, true, true, true, true, true, true, true, true, true, false, true, true, true, false, false, false, false, false, false, false, false, false, false, false, false] rfl rfl (any_of HT_.out (by kernel_rfl)) (fun _ _ _ h => h) (Or.inl ⟨by rfl, ?_⟩) ?_ ?_
    rotate_left
    · intro w'
      go_simp
      with_reducible rfl
    rotate_left
    · simp only [Act.put, List.setIfInBounds_toArray, List.set_cons_zero, List.set_cons_succ, i64_w, i32_w]
      rfl
    refine pure_ (i := 21) (N := some 190) (v := ?_) (a' := ?_) #[true, true, true, true, true, true, true, true, true, true, true, true, true, true, true, true, true, false, true, true, true, true, false, false, false, false, false, false, false, false, false, false, false] rfl rfl (any_of HT_.out (by kernel_rfl)) (fun _ _ _ h => h) (Or.inl ⟨by rfl, ?_⟩) ?_ ?_
    rotate_left
    · intro w'
      go_simp
      with_reducible rfl
    rotate_left
    · simp only [Act.put, List.setIfInBounds_toArray, List.set_cons_zero, List.set_cons_succ, i64_w, i32_w]
      rfl
    refine take_ (i := 17) (N := some 186) (v := ?_) (a' := ?_) #[true, true, true, true, true, true, true, true, true, true, true, true, true, true, true, true, true, true, true, true, true, true, false, false, false, false, false, false, false, false, false, false, false] rfl rfl (take_ofW HT_.out HW_.out (by kernel_rfl)) (fun _ _ _ h => h) (Or.inl ⟨by rfl, ?_⟩) hHeld ?_ ?_
    rotate_left
    · rintro w' ⟨s0, s1, s2⟩
      go_simp
      with_reducible rfl
    rotate_left
    · simp only [Act.put, List.setIfInBounds_toArray, List.set_cons_zero, List.set_cons_succ, i64_w, i32_w]
      rfl
    refine one_ (i := 22) (N := some 191) #[true, true, true, true, true, true, true, true, true, true, true, true, true, true, true, true, true, true, true, true, true, true, true, false, false, false, false, false, false, false, false, false, false] rfl rfl (one_of HT_.out (by kernel_rfl)) (by decide) (fun K hK => ?_)
    refine goes_ Try.func16 (by kernel_rfl) rfl #[.pointer (some ⟨g, 0, none⟩)] (by rfl) rfl rfl (by simp only [List.map_toArray, List.map_cons, List.map_nil]; rfl) ?_
    with_reducible refine (wire_Reader_Left.calls g l7 0 true w _ HI.out).mono ?_
    rintro e wx ⟨rfl, rfl⟩
    refine ⟨_, rfl, ?_⟩
    rw [if_pos (show rdOk 0 true = true from rfl)]
    refine hK.out _ _ ⟨(Kd.C_string Try.underlying22 Try.underlying5 Try.underlying9 HV.out), (Kd.C_string Try.underlying22 Try.underlying5 Try.underlying9 (Kd.C_below HCT.out HB.out)), (HSL.out _)⟩ (fun hHeld => ?_)
    clear hK K
    refine norm_ (a' := ?_) ?_ ?_
    rotate_left
    · show Act.put _ (some 191) _ = _
      simp only [Act.put, List.setIfInBounds_toArray, List.set_cons_zero, List.set_cons_succ, i64_w, i32_w]
      rfl
    refine pure_ (i := 23) (N := some 192) (v := ?_) (a' := ?_) #[true, true, true, true, true, true, true, true, true, true, true, true, true, true, true, true, true, true, true, true, true, true, true, true, false, false, false, false, false, false, false, false, false] rfl rfl (any_of HT_.out (by kernel_rfl)) (fun _ _ _ h => h) (Or.inl ⟨by rfl, ?_⟩) ?_ ?_
    rotate_left
    · intro w'
      go_simp
      with_reducible rfl
    rotate_left
    · simp only [Act.put, List.setIfInBounds_toArray, List.set_cons_zero, List.set_cons_succ, i64_w, i32_w]
      rfl
    refine take_ (i := 24) (N := some 193) (v := ?_) (a' := ?_) #[true, true, true, true, true, true, true, true, true, true, true, true, true, true, true, true, true, true, true, true, true, true, true, true, true, false, false, false, false, false, false, false, false] rfl rfl (take_ofW HT_.out HW_.out (by kernel_rfl)) (fun _ _ _ h => h) (Or.inl ⟨by rfl, ?_⟩) hHeld ?_ ?_
    rotate_left
    · rintro w' ⟨s0, s1, s2⟩
      go_simp
      with_reducible rfl
    rotate_left
    · simp only [Act.put, List.setIfInBounds_toArray, List.set_cons_zero, List.set_cons_succ, i64_w, i32_w]
      rfl
    refine take_ (i := 25) (N := some 194) (v := ?_) (a' := ?_) #[true, true, true, true, true, true, true, true, true, true, true, true, true, true, true, true, true, true, true, true, true, true, true, true, true, true, false, false, false, false, false, false, false] rfl rfl (take_ofW HT_.out HW_.out (by kernel_rfl)) (fun _ _ _ h => h) (Or.inl ⟨by rfl, ?_⟩) hHeld ?_ ?_
    rotate_left
    · rintro w' ⟨s0, s1, s2⟩
      go_simp
      with_reducible rfl
    rotate_left
    · simp only [Act.put, List.setIfInBounds_toArray, List.set_cons_zero, List.set_cons_succ, i64_w, i32_w]
      rfl
    refine pure_ (i := 26) (N := some 195) (v := ?_) (a' := ?_) #[true, true, true, true, true, true, true, true, true, true, true, true, true, true, true, true, true, true, true, true, true, true, true, true, true, true, true, false, false, false, false, false, false] rfl rfl (any_of HT_.out (by kernel_rfl)) (fun _ _ _ h => h) (Or.inl ⟨by rfl, ?_⟩) ?_ ?_
    rotate_left
    · intro w'
      go_simp
      with_reducible rfl
    rotate_left
    · simp only [Act.put, List.setIfInBounds_toArray, List.set_cons_zero, List.set_cons_succ, i64_w, i32_w]
      rfl
    refine pure_ (i := 27) (N := some 196) (v := ?_) (a' := ?_) #[true, true, true, true, true, true, true, true, true, true, true, true, true, true, true, true, true, true, true, true, true, true, true, true, true, true, true, true, false, false, false, false, false] rfl rfl (any_of HT_.out (by kernel_rfl)) (fun _ _ _ h => h) (Or.inl ⟨by rfl, ?_⟩) ?_ ?_
    rotate_left
    · intro w'
      go_simp
      with_reducible rfl
    rotate_left
    · simp only [Act.put, List.setIfInBounds_toArray, List.set_cons_zero, List.set_cons_succ, i64_w, i32_w]
      rfl
    refine pure_ (i := 28) (N := some 197) (v := ?_) (a' := ?_) #[true, true, true, true, true, true, true, true, true, true, true, true, true, true, true, true, true, true, true, true, true, true, true, true, true, true, true, true, true, false, false, false, false] rfl rfl (any_of HT_.out (by kernel_rfl)) (fun _ _ _ h => h) (Or.inl ⟨by rfl, ?_⟩) ?_ ?_
    rotate_left
    · intro w'
      go_simp
      with_reducible rfl
    rotate_left
    · simp only [Act.put, List.setIfInBounds_toArray, List.set_cons_zero, List.set_cons_succ, i64_w, i32_w]
      rfl
    refine pure_ (i := 29) (N := some 198) (v := ?_) (a' := ?_) #[true, true, true, true, true, true, true, true, true, true, true, true, true, true, true, true, true, true, true, true, true, true, true, true, true, true, true, true, true, true, false, false, false] rfl rfl (any_of HT_.out (by kernel_rfl)) (fun _ _ _ h => h) (Or.inl ⟨by rfl, ?_⟩) ?_ ?_
    rotate_left
    · intro w'
      go_simp
      with_reducible rfl
    rotate_left
    · simp only [Act.put, List.setIfInBounds_toArray, List.set_cons_zero, List.set_cons_succ, i64_w, i32_w]
      rfl
    refine one_ (i := 30) (N := some 199) #[true, true, true, true, true, true, true, true, true, true, true, true, true, true, true, true, true, true, true, true, true, true, true, true, true, true, true, true, true, true, true, false, false] rfl rfl (one_of HT_.out (by kernel_rfl)) (by decide) (fun K hK => ?_)
    refine goes_ Try.func7 (by kernel_rfl) rfl #[] (by rfl) rfl rfl (by simp only [List.map_toArray, List.map_cons, List.map_nil]) ?_
    with_reducible refine (glebelaw07_knows.calls true _ rfl).mono ?_
    rintro e wx ⟨rfl, hbx⟩
    refine ⟨_, rfl, ?_⟩
    replace HB := Aside0.mk (show Below w.heap.size w wx from by first | exact below_step HB.out hbx | exact below_step (below_drew HB.out) hbx)
    replace HV := Aside0.mk (Kd.C_below HV.out hbx)
    clear hbx
    refine hK.out _ _ ⟨(Kd.C_string Try.underlying22 Try.underlying5 Try.underlying9 HV.out), (Kd.C_string Try.underlying22 Try.underlying5 Try.underlying9 (Kd.C_below HCT.out HB.out)), (HSL.out _)⟩ (fun hHeld => ?_)
    clear hK K
    refine norm_ (a' := ?_) ?_ ?_
    rotate_left
    · show Act.put _ (some 199) _ = _
      simp only [Act.put, List.setIfInBounds_toArray, List.set_cons_zero, List.set_cons_succ, i64_w, i32_w]
      rfl
    refine pure_ (i := 31) (N := some 200) (v := ?_) (a' := ?_) #[true, true, true, true, true, true, true, true, true, true, true, true, true, true, true, true, true, true, true, true, true, true, true, true, true, true, true, true, true, true, true, true, false] rfl rfl (any_of HT_.out (by kernel_rfl)) (fun _ _ _ h => h) (Or.inl ⟨by rfl, ?_⟩) ?_ ?_
    rotate_left
    · intro w'
      go_simp
      with_reducible rfl
    rotate_left
    · simp only [Act.put, List.setIfInBounds_toArray, List.set_cons_zero, List.set_cons_succ, i64_w, i32_w]
      rfl
    refine pure_ (i := 32) (N := some 8) (v := ?_) (a' := ?_) #[true, true, true, true, true, true, true, true, true, true, true, true, true, true, true, true, true, true, true, true, true, true, true, true, true, true, true, true, true, true, true, true, true] rfl rfl (any_of HT_.out (by kernel_rfl)) (fun _ _ _ h => h) (Or.inl ⟨by rfl, ?_⟩) ?_ ?_
    rotate_left
    · intro w'
      go_simp
      with_reducible rfl
    rotate_left
    · simp only [Act.put, List.setIfInBounds_toArray, List.set_cons_zero, List.set_cons_succ, i64_w, i32_w]
      rfl
    refine done_ (done_of HT_.out (by kernel_rfl)) ?_
    go_wp2
    go_ret
    exact ⟨rfl, HB.out⟩
  as_aux_lemma =>
  have zn : (z == 0) = false := beq_eq_false_iff_ne.mpr h0
  have zn2 : (z != 0) = true := bne_iff_ne.mpr h0
  have zn3 : (z = 0) = False := eq_false h0
  clear h0 HZ HZR HFV
  refine start_ (n := 33) (S := fun w' => True) (ds := []) #[false, false, false, false, false, false, false, false, false, false, false, false, false, false, false, false, false, false, false, false, false, false, false, false, false, false, false, false, false, false, false, false, false] (by kernel_rfl) rfl rfl trivial (fun hHeld => ?_)
  refine with_tabW glebelaw07_PointBack.tab24 glebelaw07_PointBack.bits24 (fun HT_ HW_ => ?_)
  refine pure_ (i := 0) (N := some 169) (v := ?_) (a' := ?_) #[true, false, false, false, false, false, false, false, false, false, false, false, false, false, false, false, false, false, false, false, false, false, false, false, false, false, false, false, false, false, false, false, false] rfl rfl (any_of HT_.out (by kernel_rfl)) (fun _ _ _ h => h) (Or.inl ⟨by rfl, ?_⟩) ?_ ?_
  rotate_left
  · intro w'
    go_simp
    with_reducible rfl
  rotate_left
  · simp only [Act.put, List.setIfInBounds_toArray, List.set_cons_zero, List.set_cons_succ, i64_w, i32_w]
    rfl
  refine one_ (i := 1) (N := some 170) #[true, true, false, false, false, false, false, false, false, false, false, false, false, false, false, false, false, false, false, false, false, false, false, false, false, false, false, false, false, false, false, false, false] rfl rfl (one_of HT_.out (by kernel_rfl)) (by decide) (fun K hK => ?_)
  refine goes_ Try.func15 (by kernel_rfl) rfl #[.pointer (some ⟨g, 0, none⟩)] (by rfl) rfl rfl (by simp only [List.map_toArray, List.map_cons, List.map_nil]; rfl) ?_
  with_reducible refine (wire_Reader_Err.calls g l7 z true w _ (by first | exact HI.out | exact HI.out.drew)).mono ?_
  rintro e wx ⟨rfl, rfl⟩
  refine ⟨_, rfl, ?_⟩
  rw [if_pos (rfl : true = true)]
  refine hK.out _ _ trivial (fun hHeld => ?_)
  clear hK K
  refine norm_ (a' := ?_) ?_ ?_
  rotate_left
  · show Act.put _ (some 170) _ = _
    simp only [Act.put, List.setIfInBounds_toArray, List.set_cons_zero, List.set_cons_succ, i64_w, i32_w]
    rfl
  refine one_ (i := 2) (N := some 171) #[true, true, true, false, false, false, false, false, false, false, false, false, false, false, false, false, false, false, false, false, false, false, false, false, false, false, false, false, false, false, false, false, false] rfl rfl (one_of HT_.out (by kernel_rfl)) (by decide) (fun K hK => ?_)
  refine goes_ Try.func14 (by kernel_rfl) rfl #[.int .i64 z] (by rfl) rfl rfl (by simp only [List.map_toArray, List.map_cons, List.map_nil]; rfl) ?_
  with_reducible refine (glebelaw07_num.calls z z _ rfl).mono ?_
  rintro e wx ⟨rfl, hbx0⟩
  refine ⟨_, rfl, ?_⟩
  have hbx := drawn_below hbx0
  replace HI := Aside0.mk (IsRdr.below (by first | exact HI.out | exact HI.out.drew) hbx)
  replace HV := Aside0.mk (Kd.C_below (by first | exact HV.out | exact Kd.C_drew HV.out) hbx)
  replace HB := Aside0.mk (show Below w.heap.size w wx from by first | exact below_step HB.out hbx | exact below_step (below_drew HB.out) hbx)
  clear hbx
  clear hbx0
  refine hK.out _ _ trivial (fun hHeld => ?_)
  clear hK K
  refine norm_ (a' := ?_) ?_ ?_
  rotate_left
  · show Act.put _ (some 171) _ = _
    simp only [Act.put, List.setIfInBounds_toArray, List.set_cons_zero, List.set_cons_succ, i64_w, i32_w]
    rfl
  refine pure_ (i := 3) (N := some 172) (v := ?_) (a' := ?_) #[true, true, true, true, false, false, false, false, false, false, false, false, false, false, false, false, false, false, false, false, false, false, false, false, false, false, false, false, false, false, false, false, false] rfl rfl (any_of HT_.out (by kernel_rfl)) (fun _ _ _ h => h) (Or.inl ⟨by rfl, ?_⟩) ?_ ?_
  rotate_left
  · intro w'
    go_simp
    with_reducible rfl
  rotate_left
  · simp only [Act.put, List.setIfInBounds_toArray, List.set_cons_zero, List.set_cons_succ, i64_w, i32_w]
    rfl
  refine pure_ (i := 4) (N := some 173) (v := ?_) (a' := ?_) #[true, true, true, true, true, false, false, false, false, false, false, false, false, false, false, false, false, false, false, false, false, false, false, false, false, false, false, false, false, false, false, false, false] rfl rfl (any_of HT_.out (by kernel_rfl)) (fun _ _ _ h => h) (Or.inl ⟨by rfl, ?_⟩) ?_ ?_
  rotate_left
  · intro w'
    go_simp
    with_reducible rfl
  rotate_left
  · simp only [Act.put, List.setIfInBounds_toArray, List.set_cons_zero, List.set_cons_succ, i64_w, i32_w]
    rfl
  refine pure_ (i := 5) (N := some 174) (v := undef) (a' := ?_) #[true, true, true, true, true, true, false, false, false, false, false, false, false, false, false, false, false, false, false, false, false, false, false, false, false, false, false, false, false, false, false, false, false] rfl rfl (any_of HT_.out (by kernel_rfl)) (fun _ _ _ h => h) (Or.inr ⟨by rfl, rfl⟩) ?_ ?_
  rotate_left
  · simp only [Act.put, List.setIfInBounds_toArray, List.set_cons_zero, List.set_cons_succ, i64_w, i32_w]
    rfl
  refine pure_ (i := 6) (N := some 175) (v := undef) (a' := ?_) #[true, true, true, true, true, true, true, false, false, false, false, false, false, false, false, false, false, false, false, false, false, false, false, false, false, false, false, false, false, false, false, false, false] rfl rfl (any_of HT_.out (by kernel_rfl)) (fun _ _ _ h => h) (Or.inr ⟨by rfl, rfl⟩) ?_ ?_
  rotate_left
  · simp only [Act.put, List.setIfInBounds_toArray, List.set_cons_zero, List.set_cons_succ, i64_w, i32_w]
    rfl
  refine pure_ (i := 7) (N := some 176) (v := undef) (a' := ?_) #[true, true, true, true, true, true, true, true, false, false, false, false, false, false, false, false, false, false, false, false, false, false, false, false, false, false, false, false, false, false, false, false, false] rfl rfl (any_of HT_.out (by kernel_rfl)) (fun _ _ _ h => h) (Or.inr ⟨by rfl, rfl⟩) ?_ ?_
  rotate_left
  · simp only [Act.put, List.setIfInBounds_toArray, List.set_cons_zero, List.set_cons_succ, i64_w, i32_w]
    rfl
  refine pure_ (i := 8) (N := some 177) (v := undef) (a' := ?_) #[true, true, true, true, true, true, true, true, true, false, false, false, false, false, false, false, false, false, false, false, false, false, false, false, false, false, false, false, false, false, false, false, false] rfl rfl (any_of HT_.out (by kernel_rfl)) (fun _ _ _ h => h) (Or.inr ⟨by rfl, rfl⟩) ?_ ?_
  rotate_left
  · simp only [Act.put, List.setIfInBounds_toArray, List.set_cons_zero, List.set_cons_succ, i64_w, i32_w]
    rfl
  refine pure_ (i := 9) (N := some 178) (v := undef) (a' := ?_) #[true, true, true, true, true, true, true, true, true, true, false, false, false, false, false, false, false, false, false, false, false, false, false, false, false, false, false, false, false, false, false, false, false] rfl rfl (any_of HT_.out (by kernel_rfl)) (fun _ _ _ h => h) (Or.inr ⟨by rfl, rfl⟩) ?_ ?_
  rotate_left
  · simp only [Act.put, List.setIfInBounds_toArray, List.set_cons_zero, List.set_cons_succ, i64_w, i32_w]
    rfl
  refine pure_ (i := 10) (N := some 179) (v := undef) (a' := ?_) #[true, true, true, true, true, true, true, true, true, true, true, false, false, false, false, false, false, false, false, false, false, false, false, false, false, false, false, false, false, false, false, false, false] rfl rfl (any_of HT_.out (by kernel_rfl)) (fun _ _ _ h => h) (Or.inr ⟨by rfl, rfl⟩) ?_ ?_
  rotate_left
  · simp only [Act.put, List.setIfInBounds_toArray, List.set_cons_zero, List.set_cons_succ, i64_w, i32_w]
    rfl
  refine pure_ (i := 11) (N := some 180) (v := undef) (a' := ?_) #[true, true, true, true, true, true, true, true, true, true, true, true, false, false, false, false, false, false, false, false, false, false, false, false, false, false, false, false, false, false, false, false, false] rfl rfl (any_of HT_.out (by kernel_rfl)) (fun _ _ _ h => h) (Or.inr ⟨by rfl, rfl⟩) ?_ ?_
  rotate_left
  · simp only [Act.put, List.setIfInBounds_toArray, List.set_cons_zero, List.set_cons_succ, i64_w, i32_w]
    rfl
  refine pure_ (i := 12) (N := some 181) (v := undef) (a' := ?_) #[true, true, true, true, true, true, true, true, true, true, true, true, true, false, false, false, false, false, false, false, false, false, false, false, false, false, false, false, false, false, false, false, false] rfl rfl (any_of HT_.out (by kernel_rfl)) (fun _ _ _ h => h) (Or.inr ⟨by rfl, rfl⟩) ?_ ?_
  rotate_left
  · simp only [Act.put, List.setIfInBounds_toArray, List.set_cons_zero, List.set_cons_succ, i64_w, i32_w]
    rfl
  refine pure_ (i := 13) (N := some 182) (v := undef) (a' := ?_) #[true, true, true, true, true, true, true, true, true, true, true, true, true, true, false, false, false, false, false, false, false, false, false, false, false, false, false, false, false, false, false, false, false] rfl rfl (any_of HT_.out (by kernel_rfl)) (fun _ _ _ h => h) (Or.inr ⟨by rfl, rfl⟩) ?_ ?_
  rotate_left
  · simp only [Act.put, List.setIfInBounds_toArray, List.set_cons_zero, List.set_cons_succ, i64_w, i32_w]
    rfl
  refine pure_ (i := 14) (N := some 183) (v := undef) (a' := ?_) #[true, true, true, true, true, true, true, true, true, true, true, true, true, true, true, false, false, false, false, false, false, false, false, false, false, false, false, false, false, false, false, false, false] rfl rfl (any_of HT_.out (by kernel_rfl)) (fun _ _ _ h => h) (Or.inr ⟨by rfl, rfl⟩) ?_ ?_
  rotate_left
  · simp only [Act.put, List.setIfInBounds_toArray, List.set_cons_zero, List.set_cons_succ, i64_w, i32_w]
    rfl
  refine pure_ (i := 15) (N := some 184) (v := undef) (a' := ?_) #[true, true, true, true, true, true, true, true, true, true, true, true, true, true, true, true, false, false, false, false, false, false, false, false, false, false, false, false, false, false, false, false, false] rfl rfl (any_of HT_.out (by kernel_rfl)) (fun _ _ _ h => h) (Or.inr ⟨by rfl, rfl⟩) ?_ ?_
  rotate_left
  · simp only [Act.put, List.setIfInBounds_toArray, List.set_cons_zero, List.set_cons_succ, i64_w, i32_w]
    rfl
  refine pure_ (i := 16) (N := some 185) (v := undef) (a' := ?_) #[true, true, true, true, true, true, true, true, true, true, true, true, true, true, true, true, true, false, false, false, false, false, false, false, false, false, false, false, false, false, false, false, false] rfl rfl (any_of HT_.out (by kernel_rfl)) (fun _ _ _ h => h) (Or.inr ⟨by rfl, rfl⟩) ?_ ?_
  rotate_left
  · simp only [Act.put, List.setIfInBounds_toArray, List.set_cons_zero, List.set_cons_succ, i64_w, i32_w]
    rfl
  refine pure_ (i := 17) (N := some 186) (v := undef) (a' := ?_) #[true, true, true, true, true, true, true, true, true, true, true, true, true, true, true, true, true, true, false, false, false, false, false, false, false, false, false, false, false, false, false, false, false] rfl rfl (any_of HT_.out (by kernel_rfl)) (fun _ _ _ h => h) (Or.inr ⟨by rfl, rfl⟩) ?_ ?_
  rotate_left
  · simp only [Act.put, List.setIfInBounds_toArray, List.set_cons_zero, List.set_cons_succ, i64_w, i32_w]
    rfl
  refine pure_ (i := 18) (N := some 187) (v := undef) (a' := ?_) #[true, true, true, true, true, true, true, true, true, true, true, true, true, true, true, true, true, true, true, false, false, false, false, false, false, false, false, false, false, false, false, false, false] rfl rfl (any_of HT_.out (by kernel_rfl)) (fun _ _ _ h => h) (Or.inr ⟨by rfl, rfl⟩) ?_ ?_
  rotate_left
  · simp only [Act.put, List.setIfInBounds_toArray, List.set_cons_zero, List.set_cons_succ, i64_w, i32_w]
    rfl
  refine pure_ (i := 19) (N := some 188) (v := undef) (a' := ?_) #[true, true, true, true, true, true, true, true, true, true, true, true, true, true, true, true, true, true, true, true, false, false, false, false, false, false, false, false, false, false, false, false, false] rfl rfl (any_of HT_.out (by kernel_rfl)) (fun _ _ _ h => h) (Or.inr ⟨by rfl, rfl⟩) ?_ ?_
  rotate_left
  · simp only [Act.put, List.setIfInBounds_toArray, List.set_cons_zero, List.set_cons_succ, i64_w, i32_w]
    rfl
  refine pure_ (i := 20) (N := some 189) (v := undef) (a' := ?_) #[true, true, true, true, true, true, true, true, true, true, true, true, true, true, true, true, true, true, true, true, true, false, false, false, false, false, false, false, false, false, false, false, false] rfl rfl (any_of HT_.out (by kernel_rfl)) (fun _ _ _ h => h) (Or.inr ⟨by rfl, rfl⟩) ?_ ?_
  rotate_left
  · simp only [Act.put, List.setIfInBounds_toArray, List.set_cons_zero, List.set_cons_succ, i64_w, i32_w]
    rfl
  refine pure_ (i := 21) (N := some 190) (v := undef) (a' := ?_) #[true, true, true, true, true, true, true, true, true, true, true, true, true, true, true, true, true, true, true, true, true, true, false, false, false, false, false, false, false, false, false, false, false] rfl rfl (any_of HT_.out (by kernel_rfl)) (fun _ _ _ h => h) (Or.inr ⟨by rfl, rfl⟩) ?_ ?_
  rotate_left
  · simp only [Act.put, List.setIfInBounds_toArray, List.set_cons_zero, List.set_cons_succ, i64_w, i32_w]
    rfl
  refine pure_ (i := 22) (N := some 191) (v := undef) (a' := ?_) #[true, true, true, true, true, true, true, true, true, true, true, true, true, true, true, true, true, true, true, true, true, true, true, false, false, false, false, false, false, false, false, false, false] rfl rfl (any_of HT_.out (by kernel_rfl)) (fun _ _ _ h => h) (Or.inr ⟨by rfl, rfl⟩) ?_ ?_
  rotate_left
  · simp only [Act.put, List.setIfInBounds_toArray, List.set_cons_zero, List.set_cons_succ, i64_w, i32_w]
    rfl
  refine pure_ (i := 23) (N := some 192) (v := undef) (a' := ?_) #[true, true, true, true, true, true, true, true, true, true, true, true, true, true, true, true, true, true, true, true, true, true, true, true, false, false, false, false, false, false, false, false, false] rfl rfl (any_of HT_.out (by kernel_rfl)) (fun _ _ _ h => h) (Or.inr ⟨by rfl, rfl⟩) ?_ ?_
  rotate_left
  · simp only [Act.put, List.setIfInBounds_toArray, List.set_cons_zero, List.set_cons_succ, i64_w, i32_w]
    rfl
  refine pure_ (i := 24) (N := some 193) (v := undef) (a' := ?_) #[true, true, true, true, true, true, true, true, true, true, true, true, true, true, true, true, true, true, true, true, true, true, true, true, true, false, false, false, false, false, false, false, false] rfl rfl (any_of HT_.out (by kernel_rfl)) (fun _ _ _ h => h) (Or.inr ⟨by rfl, rfl⟩) ?_ ?_
  rotate_left
  · simp only [Act.put, List.setIfInBounds_toArray, List.set_cons_zero, List.set_cons_succ, i64_w, i32_w]
    rfl
  refine pure_ (i := 25) (N := some 194) (v := undef) (a' := ?_) #[true, true, true, true, true, true, true, true, true, true, true, true, true, true, true, true, true, true, true, true, true, true, true, true, true, true, false, false, false, false, false, false, false] rfl rfl (any_of HT_.out (by kernel_rfl)) (fun _ _ _ h => h) (Or.inr ⟨by rfl, rfl⟩) ?_ ?_
  rotate_left
  · simp only [Act.put, List.setIfInBounds_toArray, List.set_cons_zero, List.set_cons_succ, i64_w, i32_w]
    rfl
  refine pure_ (i := 26) (N := some 195) (v := undef) (a' := ?_) #[true, true, true, true, true, true, true, true, true, true, true, true, true, true, true, true, true, true, true, true, true, true, true, true, true, true, true, false, false, false, false, false, false] rfl rfl (any_of HT_.out (by kernel_rfl)) (fun _ _ _ h => h) (Or.inr ⟨by rfl, rfl⟩) ?_ ?_
  rotate_left
  · simp only [Act.put, List.setIfInBounds_toArray, List.set_cons_zero, List.set_cons_succ, i64_w, i32_w]
    rfl
  refine pure_ (i := 27) (N := some 196) (v := undef) (a' := ?_) #[true, true, true, true, true, true, true, true, true, true, true, true, true, true, true, true, true, true, true, true, true, true, true, true, true, true, true, true, false, false, false, false, false] rfl rfl (any_of HT_.out (by kernel_rfl)) (fun _ _ _ h => h) (Or.inr ⟨by rfl, rfl⟩) ?_ ?_
  rotate_left
  · simp only [Act.put, List.setIfInBounds_toArray, List.set_cons_zero, List.set_cons_succ, i64_w, i32_w]
    rfl
  refine pure_ (i := 28) (N := some 197) (v := ?_) (a' := ?_) #[true, true, true, true, true, true, true, true, true, true, true, true, true, true, true, true, true, true, true, true, true, true, true, true, true, true, true, true, true, false, false, false, false] rfl rfl (any_of HT_.out (by kernel_rfl)) (fun _ _ _ h => h) (Or.inl ⟨by rfl, ?_⟩) ?_ ?_
  rotate_left
  · intro w'
    go_simp
    with_reducible rfl
  rotate_left
  · simp only [Act.put, List.setIfInBounds_toArray, List.set_cons_zero, List.set_cons_succ, i64_w, i32_w]
    rfl
  refine pure_ (i := 29) (N := some 198) (v := ?_) (a' := ?_) #[true, true, true, true, true, true, true, true, true, true, true, true, true, true, true, true, true, true, true, true, true, true, true, true, true, true, true, true, true, true, false, false, false] rfl rfl (any_of HT_.out (by kernel_rfl)) (fun _ _ _ h => h) (Or.inl ⟨by rfl, ?_⟩) ?_ ?_
  rotate_left
  · intro w'
    go_simp
    with_reducible rfl
  rotate_left
  · simp only [Act.put, List.setIfInBounds_toArray, List.set_cons_zero, List.set_cons_succ, i64_w, i32_w]
    rfl
  refine one_ (i := 30) (N := some 199) #[true, true, true, true, true, true, true, true, true, true, true, true, true, true, true, true, true, true, true, true, true, true, true, true, true, true, true, true, true, true, true, false, false] rfl rfl (one_of HT_.out (by kernel_rfl)) (by decide) (fun K hK => ?_)
  refine goes_ Try.func7 (by kernel_rfl) rfl #[] (by rfl) rfl rfl (by simp only [List.map_toArray, List.map_cons, List.map_nil]) ?_
  with_reducible refine (glebelaw07_knows.calls true _ rfl).mono ?_
  rintro e wx ⟨rfl, hbx⟩
  refine ⟨_, rfl, ?_⟩
  replace HB := Aside0.mk (show Below w.heap.size w wx from by first | exact below_step HB.out hbx | exact below_step (below_drew HB.out) hbx)
  replace HV := Aside0.mk (Kd.C_below HV.out hbx)
  clear hbx
  refine hK.out _ _ trivial (fun hHeld => ?_)
  clear hK K
  refine norm_ (a' := ?_) ?_ ?_
  rotate_left
  · show Act.put _ (some 199) _ = _
    simp only [Act.put, List.setIfInBounds_toArray, List.set_cons_zero, List.set_cons_succ, i64_w, i32_w]
    rfl
  refine pure_ (i := 31) (N := some 200) (v := ?_) (a' := ?_) #[true, true, true, true, true, true, true, true, true, true, true, true, true, true, true, true, true, true, true, true, true, true, true, true, true, true, true, true, true, true, true, true, false] rfl rfl (any_of HT_.out (by kernel_rfl)) (fun _ _ _ h => h) (Or.inl ⟨by rfl, ?_⟩) ?_ ?_
  rotate_left
  · intro w'
    go_simp
    with_reducible rfl
  rotate_left
  · simp only [Act.put, List.setIfInBounds_toArray, List.set_cons_zero, List.set_cons_succ, i64_w, i32_w]
    rfl
  refine pure_ (i := 32) (N := some 8) (v := ?_) (a' := ?_) #[true, true, true, true, true, true, true, true, true, true, true, true, true, true, true, true, true, true, true, true, true, true, true, true, true, true, true, true, true, true, true, true, true] rfl rfl (any_of HT_.out (by kernel_rfl)) (fun _ _ _ h => h) (Or.inl ⟨by rfl, ?_⟩) ?_ ?_
  rotate_left
  · intro w'
    go_simp
    with_reducible rfl
  rotate_left
  · simp only [Act.put, List.setIfInBounds_toArray, List.set_cons_zero, List.set_cons_succ, i64_w, i32_w]
    rfl
  refine done_ (done_of HT_.out (by kernel_rfl)) ?_
  go_wp2
  go_ret
  exact ⟨rfl, HB.out⟩

end Go.Proofs.Ytiglmgmkablpkaa.PK
