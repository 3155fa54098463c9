-- Written by a program of this session (wip/tools/hp.py) over the kit's print; nothing here is trusted: Lean checks it.
import Derived.Test.YtimfeiobdcmhnaaPRx0
import Derived.Test.YtimfeiobdcmhnaaPRx4
import Derived.Test.YtimfeiobdcmhnaaPRx5
import Derived.Test.YtimfeiobdcmhnaaPRx8
import Derived.Test.YtimfeiobdcmhnaaPRx9
namespace Go.Proofs.Ytimfeiobdcmhnaa.PR
open Go.RowKit Go.Proofs.YtimfeiobdcmhnaaW.PrintWords Go.Proofs.YtimfeiobdcmhnaaW.PrintLast Go.Proofs.YtimfeiobdcmhnaaW.PrintMore
attribute [local go_sem] max2_int min2_int max_two min_two max_three min_three max_four min_four   -- for this text's walks alone
set_option linter.unusedVariables false
set_option linter.unusedSimpArgs false

/-! ### glebelaw01_WireTurned: function 6 -/
mutual
def glebelaw01_WireTurned.j0 : Nat → List Int → Int → Int → List Int → Bool → Option (Bool)
  | 0, _, _, _, _, _ => none
  | k + 1, x1, x2, x3, x9, x47 => if x47 = true then (none) else (if (wrap64 (8 * (wrap64 ((x9.length : Int) - 5)))) = 0 then (none) else (glebelaw01_WireTurned.l0 k x1 (Int.tmod (wrap64 ((Int.tmod x2 (wrap64 (8 * (wrap64 ((x9.length : Int) - 5))))) + (wrap64 (8 * (wrap64 ((x9.length : Int) - 5)))))) (wrap64 (8 * (wrap64 ((x9.length : Int) - 5))))) x3 x9 (wrap64 (8 * (wrap64 ((x9.length : Int) - 5)))) false 0))
def glebelaw01_WireTurned.l0 : Nat → List Int → Int → Int → List Int → Int → Bool → Int → Option (Bool)
  | 0, _, _, _, _, _, _, _ => none
  | k + 1, x1, x2, x3, x9, x11, x12, x13 => if x13 < 32 then (glebelaw01_WireTurned.j2 k x1 x2 x3 x9 x11 x12 x13 (decide ((wrap64 (x2 + x13)) < x11))) else (glebelaw01_WireTurned.j2 k x1 x2 x3 x9 x11 x12 x13 false)
def glebelaw01_WireTurned.j2 : Nat → List Int → Int → Int → List Int → Int → Bool → Int → Bool → Option (Bool)
  | 0, _, _, _, _, _, _, _, _ => none
  | k + 1, x1, x2, x3, x9, x11, x12, x13, x67 => if x67 = true then (if 0 ≤ (IntKind.u64.wrap (x13)) then (if (Go.bits .and .u32 (shr .u32 x3 (IntKind.u64.wrap (x13))) 1) = 1 then (if 0 ≤ (wrap64 (5 + (wrap64 (Int.tdiv (wrap64 (x2 + x13)) 8)))) then (if (wrap64 (5 + (wrap64 (Int.tdiv (wrap64 (x2 + x13)) 8)))) < (x9.length : Int) then (if 0 ≤ (IntKind.u64.wrap (Int.tmod (wrap64 (x2 + x13)) 8)) then (glebelaw01_WireTurned.l0 k x1 x2 x3 (x9.set ((wrap64 (5 + (wrap64 (Int.tdiv (wrap64 (x2 + x13)) 8)))) : Int).toNat (Go.bits .xor .u8 (rd x9 (wrap64 (5 + (wrap64 (Int.tdiv (wrap64 (x2 + x13)) 8))))) (shl .u8 1 (IntKind.u64.wrap (Int.tmod (wrap64 (x2 + x13)) 8))))) x11 true (wrap64 (x13 + 1))) else (none)) else (none)) else (none)) else (glebelaw01_WireTurned.l0 k x1 x2 x3 x9 x11 x12 (wrap64 (x13 + 1)))) else (none)) else ((wire_Unframe.f k x9).bind fun bt224 => (if x12 = true then ((glebelaw01_num.f bt224.2.2).bind fun t229 => (if t229 = 22 then (some ((bt224.2.1.length : Int) == 0)) else (none))) else ((glebelaw01_num.f bt224.2.2).bind fun t230 => (if t230 = 0 then (some ((strOfNums bt224.2.1).toList == (strOfNums x1).toList)) else (none)))))
end
def glebelaw01_WireTurned.f (k : Nat) (a0 : Int) (l1 : List Int) (a2 : Int) (a3 : Int) : Option (Bool) := if (l1.length : Int) > 3000 then ((glebelaw01_knows.f k).bind fun t209 => (some t209)) else ((some (([] : List Int) : List Int)).bind fun y210 => (if y210.length + l1.length < 140737488355328 then ((wire_Frame.f k (Int.tmod (wrap64 ((Int.tmod a0 256) + 256)) 256) (y210 ++ l1)).bind fun bt216 => ((glebelaw01_num.f bt216.2).bind fun t220 => (if t220 = 0 then (if (bt216.1.length : Int) = (wrap64 ((l1.length : Int) + 9)) then ((glebelaw01_knows.f k).bind fun t221 => (glebelaw01_WireTurned.j0 k l1 a2 a3 bt216.1 (!t221))) else (glebelaw01_WireTurned.j0 k l1 a2 a3 bt216.1 true)) else (glebelaw01_WireTurned.j0 k l1 a2 a3 bt216.1 true)))) else (none)))
theorem glebelaw01_WireTurned.mono_l : ∀ k, (∀ y0 y1 y2 y3 y4, LeO (glebelaw01_WireTurned.j0 k y0 y1 y2 y3 y4) (glebelaw01_WireTurned.j0 (k + 1) y0 y1 y2 y3 y4)) ∧ (∀ y0 y1 y2 y3 y4 y5 y6, LeO (glebelaw01_WireTurned.l0 k y0 y1 y2 y3 y4 y5 y6) (glebelaw01_WireTurned.l0 (k + 1) y0 y1 y2 y3 y4 y5 y6)) ∧ (∀ y0 y1 y2 y3 y4 y5 y6 y7, LeO (glebelaw01_WireTurned.j2 k y0 y1 y2 y3 y4 y5 y6 y7) (glebelaw01_WireTurned.j2 (k + 1) y0 y1 y2 y3 y4 y5 y6 y7))
  | 0 => ⟨fun _ _ _ _ _ r h => by simp [glebelaw01_WireTurned.j0] at h, fun _ _ _ _ _ _ _ r h => by simp [glebelaw01_WireTurned.l0] at h, fun _ _ _ _ _ _ _ _ r h => by simp [glebelaw01_WireTurned.j2] at h⟩
  | k + 1 => by
    obtain ⟨ih0, ih1, ih2⟩ := glebelaw01_WireTurned.mono_l k
    refine ⟨?_, ?_, ?_⟩
    · intro y0 y1 y2 y3 y4
      unfold glebelaw01_WireTurned.j0
      repeat' first
      | (with_reducible exact ih0 _ _ _ _ _)
      | (with_reducible exact ih1 _ _ _ _ _ _ _)
      | (with_reducible exact ih2 _ _ _ _ _ _ _ _)
      | (with_reducible exact glebelaw01_knows.mono _)
      | (with_reducible exact wire_Frame.mono _ _ _)
      | (with_reducible exact wire_Unframe.mono _ _)
      | (with_reducible exact LeO.refl _)
      | (with_reducible exact LeO.none _)
      | (with_reducible refine LeO.ite ?_ ?_)
      | (with_reducible refine LeO.bind ?_ (fun _ => ?_))
      | exact ih0 _ _ _ _ _
      | exact ih1 _ _ _ _ _ _ _
      | exact ih2 _ _ _ _ _ _ _ _
      | exact glebelaw01_knows.mono _
      | exact wire_Frame.mono _ _ _
      | exact wire_Unframe.mono _ _
      | exact LeO.none _
      | refine LeO.ite ?_ ?_
      | refine LeO.bind ?_ (fun _ => ?_)
    · intro y0 y1 y2 y3 y4 y5 y6
      unfold glebelaw01_WireTurned.l0
      repeat' first
      | (with_reducible exact ih0 _ _ _ _ _)
      | (with_reducible exact ih1 _ _ _ _ _ _ _)
      | (with_reducible exact ih2 _ _ _ _ _ _ _ _)
      | (with_reducible exact glebelaw01_knows.mono _)
      | (with_reducible exact wire_Frame.mono _ _ _)
      | (with_reducible exact wire_Unframe.mono _ _)
      | (with_reducible exact LeO.refl _)
      | (with_reducible exact LeO.none _)
      | (with_reducible refine LeO.ite ?_ ?_)
      | (with_reducible refine LeO.bind ?_ (fun _ => ?_))
      | exact ih0 _ _ _ _ _
      | exact ih1 _ _ _ _ _ _ _
      | exact ih2 _ _ _ _ _ _ _ _
      | exact glebelaw01_knows.mono _
      | exact wire_Frame.mono _ _ _
      | exact wire_Unframe.mono _ _
      | exact LeO.none _
      | refine LeO.ite ?_ ?_
      | refine LeO.bind ?_ (fun _ => ?_)
    · intro y0 y1 y2 y3 y4 y5 y6 y7
      unfold glebelaw01_WireTurned.j2
      repeat' first
      | (with_reducible exact ih0 _ _ _ _ _)
      | (with_reducible exact ih1 _ _ _ _ _ _ _)
      | (with_reducible exact ih2 _ _ _ _ _ _ _ _)
      | (with_reducible exact glebelaw01_knows.mono _)
      | (with_reducible exact wire_Frame.mono _ _ _)
      | (with_reducible exact wire_Unframe.mono _ _)
      | (with_reducible exact LeO.refl _)
      | (with_reducible exact LeO.none _)
      | (with_reducible refine LeO.ite ?_ ?_)
      | (with_reducible refine LeO.bind ?_ (fun _ => ?_))
      | exact ih0 _ _ _ _ _
      | exact ih1 _ _ _ _ _ _ _
      | exact ih2 _ _ _ _ _ _ _ _
      | exact glebelaw01_knows.mono _
      | exact wire_Frame.mono _ _ _
      | exact wire_Unframe.mono _ _
      | exact LeO.none _
      | refine LeO.ite ?_ ?_
      | refine LeO.bind ?_ (fun _ => ?_)
theorem glebelaw01_WireTurned.mono : ∀ a0 a1 a2 a3 k, LeO (glebelaw01_WireTurned.f k a0 a1 a2 a3) (glebelaw01_WireTurned.f (k + 1) a0 a1 a2 a3) := by
  intro a0 a1 a2 a3 k
  obtain ⟨ih0, ih1, ih2⟩ := glebelaw01_WireTurned.mono_l k
  unfold glebelaw01_WireTurned.f
  repeat' first
      | (with_reducible exact ih0 _ _ _ _ _)
      | (with_reducible exact ih1 _ _ _ _ _ _ _)
      | (with_reducible exact ih2 _ _ _ _ _ _ _ _)
      | (with_reducible exact glebelaw01_knows.mono _)
      | (with_reducible exact wire_Frame.mono _ _ _)
      | (with_reducible exact wire_Unframe.mono _ _)
      | (with_reducible exact LeO.refl _)
      | (with_reducible exact LeO.none _)
      | (with_reducible refine LeO.ite ?_ ?_)
      | (with_reducible refine LeO.bind ?_ (fun _ => ?_))
      | exact ih0 _ _ _ _ _
      | exact ih1 _ _ _ _ _ _ _
      | exact ih2 _ _ _ _ _ _ _ _
      | exact glebelaw01_knows.mono _
      | exact wire_Frame.mono _ _ _
      | exact wire_Unframe.mono _ _
      | exact LeO.none _
      | refine LeO.ite ?_ ?_
      | refine LeO.bind ?_ (fun _ => ?_)
set_option maxHeartbeats 8000000 in
set_option maxRecDepth 100000 in
theorem glebelaw01_WireTurned.calls (k : Nat) (a0 : Int) (A1 : Option Addr) (c1 : Nat) (l1 : List Int) (a2 : Int) (a3 : Int) (r : Bool) (w : World) (hr1 : Kd.C (Kd.int .u8) w A1 l1.length l1) (hc1 : l1.length ≤ c1) (h : glebelaw01_WireTurned.f k a0 l1 a2 a3 = some r) :
    Calls Try.prog 6 #[.int .i64 a0, .slice A1 l1.length c1, .int .i64 a2, .int .u32 a3] w fun e w' => e = .returned (.bool r) ∧ Below w.heap.size w w' := by
  have HR1 := Aside0.mk hr1
  have HC1 := Aside0.mk hc1
  clear hr1 hc1
  have HB := Aside0.mk (Below.refl w.heap.size w)
  have H : (if (l1.length : Int) > 3000 then ((glebelaw01_knows.f k).bind fun t209 => (some t209)) else ((some (([] : List Int) : List Int)).bind fun y210 => (if y210.length + l1.length < 140737488355328 then ((wire_Frame.f k (Int.tmod (wrap64 ((Int.tmod a0 256) + 256)) 256) (y210 ++ l1)).bind fun bt216 => ((glebelaw01_num.f bt216.2).bind fun t220 => (if t220 = 0 then (if (bt216.1.length : Int) = (wrap64 ((l1.length : Int) + 9)) then ((glebelaw01_knows.f k).bind fun t221 => (glebelaw01_WireTurned.j0 k l1 a2 a3 bt216.1 (!t221))) else (glebelaw01_WireTurned.j0 k l1 a2 a3 bt216.1 true)) else (glebelaw01_WireTurned.j0 k l1 a2 a3 bt216.1 true)))) else (none)))) = some r := h
  clear h
  by_cases c5 : (l1.length : Int) > 3000
  · rw [if_pos c5] at H
    have c5b0 : decide (3000 < (l1.length : Int)) = true := decide_eq_true c5
    have c5b1 : decide (3000 < l1.length) = true := decide_eq_true (by omega)
    clear c5
    replace H := Option.bind_eq_some_iff.mp H
    obtain ⟨t209, A60, H⟩ := H
    replace H : (some t209) = some r := H
    have A6 := Aside0.mk A60
    clear A60
    obtain rfl := Option.some.inj H
    go_enter Try.func6, Try.ntmps6
    go_wp2_with (first | ((with_reducible refine gate_callee (f := 20) rfl ?_); refine goesL_ (some 21) rfl rfl Try.func20 (by kernel_rfl) rfl #[] rfl (by (try simp only [List.map_toArray, List.map_cons, List.map_nil]); first | done | rfl | (simp only [List.length_drop, List.length_take]; rfl)) ?_; (with_reducible refine (glebelaw01_knows.calls k  t209 _ A6.out).mono ?_); rintro e w7 ⟨rfl, hb⟩; refine ⟨_, rfl, ?_⟩; have n0_ := Aside0.mk (below_step (by repeat (first | (with_reducible first | exact HB.out | apply below_alloc | apply pw_below_drewN | apply below_drew1) | exact HB.out)) hb); clear HB; have HB := n0_; clear n0_; (try clear hb); (try clear hb2); (try clear hk); (try clear hi)))
    go_ret
    exact ⟨by first | rfl | (simp [errW_none, errW_some] <;> rfl) | (simp [*, errW_none, errW_some] <;> rfl), by repeat (first | (with_reducible first | exact HB.out | apply below_alloc | apply pw_below_drewN | apply below_drew1) | exact HB.out)⟩
  · rw [if_neg c5] at H
    have c5b0 : decide (3000 < (l1.length : Int)) = false := decide_eq_false c5
    have c5b1 : decide (3000 < l1.length) = false := decide_eq_false (by omega)
    clear c5
    obtain ⟨y210, hy210⟩ : ∃ y_ : List Int, y_ = (([] : List Int)) := ⟨_, rfl⟩
    replace H : (if y210.length + l1.length < 140737488355328 then ((wire_Frame.f k (Int.tmod (wrap64 ((Int.tmod a0 256) + 256)) 256) (y210 ++ l1)).bind fun bt216 => ((glebelaw01_num.f bt216.2).bind fun t220 => (if t220 = 0 then (if (bt216.1.length : Int) = (wrap64 ((l1.length : Int) + 9)) then ((glebelaw01_knows.f k).bind fun t221 => (glebelaw01_WireTurned.j0 k l1 a2 a3 bt216.1 (!t221))) else (glebelaw01_WireTurned.j0 k l1 a2 a3 bt216.1 true)) else (glebelaw01_WireTurned.j0 k l1 a2 a3 bt216.1 true)))) else (none)) = some r := by first | (rw [hy210]; with_reducible exact H) | (have H2_ := (Option.bind_some _ _).symm.trans H; rw [hy210]; with_reducible exact H2_) | (have H2_ := (Option.bind_some _ _).symm.trans H; with_reducible exact H2_) | with_reducible exact H | (rw [hy210]; exact H) | exact H
    have Ny210 := Aside0.mk hy210
    clear hy210
    by_cases c8 : y210.length + l1.length < 140737488355328
    · rw [if_pos c8] at H
      have LMc8 := Aside0.mk c8
      clear c8
      obtain ⟨y213, hy213⟩ : ∃ y_ : List Int, y_ = (y210 ++ l1) := ⟨_, rfl⟩
      replace H : ((wire_Frame.f k (Int.tmod (wrap64 ((Int.tmod a0 256) + 256)) 256) y213).bind fun bt216 => ((glebelaw01_num.f bt216.2).bind fun t220 => (if t220 = 0 then (if (bt216.1.length : Int) = (wrap64 ((l1.length : Int) + 9)) then ((glebelaw01_knows.f k).bind fun t221 => (glebelaw01_WireTurned.j0 k l1 a2 a3 bt216.1 (!t221))) else (glebelaw01_WireTurned.j0 k l1 a2 a3 bt216.1 true)) else (glebelaw01_WireTurned.j0 k l1 a2 a3 bt216.1 true)))) = some r := by first | (rw [hy213]; with_reducible exact H) | (have H2_ := (Option.bind_some _ _).symm.trans H; rw [hy213]; with_reducible exact H2_) | (have H2_ := (Option.bind_some _ _).symm.trans H; with_reducible exact H2_) | with_reducible exact H | (rw [hy213]; exact H) | exact H
      have Ny213 := Aside0.mk hy213
      clear hy213
      replace H := Option.bind_eq_some_iff.mp H
      obtain ⟨⟨t216, t217⟩, A90, H⟩ := H
      replace H : ((glebelaw01_num.f t217).bind fun t220 => (if t220 = 0 then (if (t216.length : Int) = (wrap64 ((l1.length : Int) + 9)) then ((glebelaw01_knows.f k).bind fun t221 => (glebelaw01_WireTurned.j0 k l1 a2 a3 t216 (!t221))) else (glebelaw01_WireTurned.j0 k l1 a2 a3 t216 true)) else (glebelaw01_WireTurned.j0 k l1 a2 a3 t216 true))) = some r := H
      have A9 := Aside0.mk A90
      clear A90
      have HC10 := Aside0.mk H
      clear H
      go_enter Try.func6, Try.ntmps6
      go_upto_region 4 with (first | ((with_reducible refine gate_dst (N := 27) rfl ?_); (try (refine gate_guard (by rfl) ?_; dsimp only)); refine Kd.R_lit (Kd.int .u8) _ 5 ?hg (N := 27) ?hd (xs := ([] : List Int)) (inner := []) (ok := fun _ => True) (okp := fun _ => True) ?hr ?hp (fun _ hk => hk) trivial (Below.refl _ _) (Nat.le_refl _) (by simp) ?_; (case hd => rfl); (case hg => rfl); (case hr => first | (go_simp; done) | (go_simp; rfl)); (case hp => exact (Reps.none _ _)); intro v211 w11 ho12 hb hg_ hnew_; clear hg_ hnew_; (first | rw [← Ny210.out] at ho12 | (simp only [Int.reduceToNat] at ho12; rw [← Ny210.out] at ho12)); have n0_ := Aside0.mk (Kd.R_lower ho12 (below_size (by repeat (first | (with_reducible first | exact HB.out | apply below_alloc | apply pw_below_drewN | apply below_drew1) | exact HB.out)))); have n1_ := Aside0.mk (below_step (by repeat (first | (with_reducible first | exact HB.out | apply below_alloc | apply pw_below_drewN | apply below_drew1) | exact HB.out)) hb); clear HB; have HO212 := n0_; have HB := n1_; clear n0_ n1_; clear hb ho12) | ((with_reducible refine gate_builtin (b := .append) (xs := #[.tmp 27, .tmp 28]) rfl ?_); (try (refine gate_guard (by rfl) ?_; dsimp only)); at_builtin; refine Kd.R_append_rows (Kd.int .u8) (w0 := w) w.heap.size rfl (.tmp 27) (.tmp 28) 33 5 (.int .u8 0) 1 rfl Try.underlying33 info5 rfl (by decide) (by omega) v211 y210 l1 _ _ _ (fun _ => True) (fun _ => False) rfl rfl ?aO ?aR (fun _ _ h => h) (fun _ h => h.elim) ?aF ?aB ?aS ?aL ?_; (case aR => repeat (first | exact (Kd.C_below HR1.out HB.out) | (with_reducible refine Kd.C_alloc ?_ _) | (with_reducible refine Kd.C_drewN ?_ _) | (with_reducible refine Kd.C_drew ?_))); (case aB => exact (by repeat (first | (with_reducible first | exact HB.out | apply below_alloc | apply pw_below_drewN | apply below_drew1) | exact HB.out))); (case aF => exact (fun _ _ => trivial)); (case aO => exact (by (with_reducible repeat (first | apply Kd.R_alloc | apply Kd.R_drewN | apply Kd.R_drew)); exact HO212.out)); (case aS => exact (below_size (by repeat (first | (with_reducible first | exact HB.out | apply below_alloc | apply pw_below_drewN | apply below_drew1) | exact HB.out)))); (case aL => have := LMc8.out; omega); intro v214 w13 ho hb hg hat; rw [← Ny213.out] at ho; have n0_ := Aside0.mk (hb); have n1_ := Aside0.mk (ho); clear HB; clear HO212; have HB := n0_; have HO215 := n1_; clear n0_ n1_; clear ho hb hg hat; obtain ⟨Ao14, co14, eo14⟩ := Kd.R_slice HO215.out; subst eo14) | ((with_reducible refine gate_callee (f := 25) rfl ?_); refine goesL_ (some 30) rfl rfl Try.func25 (by kernel_rfl) rfl #[.int .i64 (Int.tmod (wrap64 ((Int.tmod a0 256) + 256)) 256), .slice Ao14 y213.length co14] rfl (by (try simp only [List.map_toArray, List.map_cons, List.map_nil]); first | done | rfl | (simp only [List.length_drop, List.length_take]; rfl)) ?_; (with_reducible refine (wire_Frame.calls k (Int.tmod (wrap64 ((Int.tmod a0 256) + 256)) 256) _ _ y213 t216 t217 _ ?side1 ?side2 A9.out).mono ?_); (case side1 => repeat (first | exact (Kd.R_reads' HO215.out).2.2 | (with_reducible refine Kd.C_alloc ?_ _) | (with_reducible refine Kd.C_drewN ?_ _) | (with_reducible refine Kd.C_drew ?_))); (case side2 => exact (Kd.R_reads' HO215.out).2.1); rintro e w15 ⟨v218, rfl, ho0, hb⟩; refine ⟨_, rfl, ?_⟩; have n0_ := Aside0.mk (Kd.R_elder' (by (with_reducible repeat (first | apply Kd.R_alloc | apply Kd.R_drewN | apply Kd.R_drew)); exact HO215.out) (Kd.R_base ho0) hb); have n1_ := Aside0.mk (Kd.R_lower (Kd.R_new' ho0 (Kd.R_lt (by (with_reducible repeat (first | apply Kd.R_alloc | apply Kd.R_drewN | apply Kd.R_drew)); exact HO215.out))) (below_size (by repeat (first | (with_reducible first | exact HB.out | apply below_alloc | apply pw_below_drewN | apply below_drew1) | exact HB.out)))); have n2_ := Aside0.mk (below_step (by repeat (first | (with_reducible first | exact HB.out | apply below_alloc | apply pw_below_drewN | apply below_drew1) | exact HB.out)) hb); clear HO215; clear HB; have HO215 := n0_; have HO219 := n1_; have HB := n2_; clear n0_ n1_ n2_; (try clear hb); (try clear hb2); (try clear hk); (try clear hi); (try clear ho0)))
      (try simp only [Act.put, List.setIfInBounds_toArray, List.set_cons_zero, List.set_cons_succ])
      go_cut [47] (fun v47 wc => ∃ (kq : Nat) (x47_9 : Bool), v47 = .bool x47_9 ∧ Aside0 (glebelaw01_WireTurned.j0 kq l1 a2 a3 t216 x47_9 = some r) ∧ Aside0 (kq ≤ k) ∧ Aside0 (Kd.R (Kd.int .u8) 5 wc w.heap.size (fun _ => True) v218 t216) ∧ Aside0 (Below w.heap.size w wc))
      case first =>
        have H := HC10.out
        clear HC10
        replace H := Option.bind_eq_some_iff.mp H
        obtain ⟨t220, A160, H⟩ := H
        replace H : (if t220 = 0 then (if (t216.length : Int) = (wrap64 ((l1.length : Int) + 9)) then ((glebelaw01_knows.f k).bind fun t221 => (glebelaw01_WireTurned.j0 k l1 a2 a3 t216 (!t221))) else (glebelaw01_WireTurned.j0 k l1 a2 a3 t216 true)) else (glebelaw01_WireTurned.j0 k l1 a2 a3 t216 true)) = some r := H
        have A16 := Aside0.mk A160
        clear A160
        by_cases c17 : t220 = 0
        · rw [if_pos c17] at H
          have c17b0 : (t220 == 0) = true := beq_iff_eq.mpr c17
          have c17b1 : (t220 != 0) = false := bne_eq_false_iff_eq.mpr c17
          clear c17
          (first | rw [c17b0] | (simp only [i64_w, i32_w]; rw [c17b0]) | skip)
          by_cases c18 : (t216.length : Int) = (wrap64 ((l1.length : Int) + 9))
          · rw [if_pos c18] at H
            have c18b0 : ((t216.length : Int) == (wrap64 ((l1.length : Int) + 9))) = true := beq_iff_eq.mpr c18
            have c18b1 : ((t216.length : Int) != (wrap64 ((l1.length : Int) + 9))) = false := bne_eq_false_iff_eq.mpr c18
            clear c18
            replace H := Option.bind_eq_some_iff.mp H
            obtain ⟨t221, A190, H⟩ := H
            replace H : (glebelaw01_WireTurned.j0 k l1 a2 a3 t216 (!t221)) = some r := H
            have A19 := Aside0.mk A190
            clear A190
            have H' := Aside0.mk H
            clear H
            go_wp2_with (first | ((with_reducible refine gate_callee (f := 26) rfl ?_); refine goesL_ (some 34) rfl rfl Try.func26 (by kernel_rfl) rfl #[.int .i64 t217] rfl (by (try simp only [List.map_toArray, List.map_cons, List.map_nil]); first | done | rfl | (simp only [List.length_drop, List.length_take]; rfl)) ?_; (with_reducible refine (glebelaw01_num.calls t217 t220 _ A16.out).mono ?_); rintro e w' ⟨rfl, ⟨nd, rfl⟩⟩; refine ⟨_, rfl, ?_⟩; obtain ⟨Ao20, co20, eo20⟩ := Kd.R_slice HO219.out; subst eo20) | (go_at_call 20; (with_reducible refine (glebelaw01_knows.calls k  t221 _ A19.out).mono ?_); rintro e w21 ⟨rfl, hb⟩; have n0_ := Aside0.mk (Kd.R_below (by (with_reducible repeat (first | apply Kd.R_alloc | apply Kd.R_drewN | apply Kd.R_drew)); exact HO215.out) hb); have n1_ := Aside0.mk (Kd.R_below (by (with_reducible repeat (first | apply Kd.R_alloc | apply Kd.R_drewN | apply Kd.R_drew)); exact HO219.out) hb); have n2_ := Aside0.mk (below_step (by repeat (first | (with_reducible first | exact HB.out | apply below_alloc | apply pw_below_drewN | apply below_drew1) | exact HB.out)) hb); clear HO215; clear HO219; clear HB; have HO215 := n0_; have HO219 := n1_; have HB := n2_; clear n0_ n1_ n2_; (try clear hb); (try clear hb2); (try clear hk); (try clear hi)))
            go_meet
            case rel => exact ⟨_, (!t221), (by first | rfl | (simp; done) | (simp [*]; done)), H', ⟨by first | omega | exact Nat.le_refl _⟩, ⟨by (with_reducible repeat (first | apply Kd.R_alloc | apply Kd.R_drewN | apply Kd.R_drew)); exact Kd.R_mono HO219.out (fun _ hk => trivial)⟩, ⟨by repeat (first | (with_reducible first | exact HB.out | apply below_alloc | apply pw_below_drewN | apply below_drew1) | exact HB.out)⟩⟩
          · rw [if_neg c18] at H
            have c18b0 : ((t216.length : Int) == (wrap64 ((l1.length : Int) + 9))) = false := beq_eq_false_iff_ne.mpr c18
            have c18b1 : ((t216.length : Int) != (wrap64 ((l1.length : Int) + 9))) = true := bne_iff_ne.mpr c18
            have H' := Aside0.mk H
            clear H
            go_wp2_with (first | ((with_reducible refine gate_callee (f := 26) rfl ?_); refine goesL_ (some 34) rfl rfl Try.func26 (by kernel_rfl) rfl #[.int .i64 t217] rfl (by (try simp only [List.map_toArray, List.map_cons, List.map_nil]); first | done | rfl | (simp only [List.length_drop, List.length_take]; rfl)) ?_; (with_reducible refine (glebelaw01_num.calls t217 t220 _ A16.out).mono ?_); rintro e w' ⟨rfl, ⟨nd, rfl⟩⟩; refine ⟨_, rfl, ?_⟩; obtain ⟨Ao22, co22, eo22⟩ := Kd.R_slice HO219.out; subst eo22))
            go_meet
            case rel => exact ⟨_, (true), (by first | rfl | (simp; done) | (simp [*]; done)), H', ⟨by first | omega | exact Nat.le_refl _⟩, ⟨by (with_reducible repeat (first | apply Kd.R_alloc | apply Kd.R_drewN | apply Kd.R_drew)); exact Kd.R_mono HO219.out (fun _ hk => trivial)⟩, ⟨by repeat (first | (with_reducible first | exact HB.out | apply below_alloc | apply pw_below_drewN | apply below_drew1) | exact HB.out)⟩⟩
        · rw [if_neg c17] at H
          have c17b0 : (t220 == 0) = false := beq_eq_false_iff_ne.mpr c17
          have c17b1 : (t220 != 0) = true := bne_iff_ne.mpr c17
          (first | rw [c17b0] | (simp only [i64_w, i32_w]; rw [c17b0]) | skip)
          have H' := Aside0.mk H
          clear H
          go_wp2_with (first | ((with_reducible refine gate_callee (f := 26) rfl ?_); refine goesL_ (some 34) rfl rfl Try.func26 (by kernel_rfl) rfl #[.int .i64 t217] rfl (by (try simp only [List.map_toArray, List.map_cons, List.map_nil]); first | done | rfl | (simp only [List.length_drop, List.length_take]; rfl)) ?_; (with_reducible refine (glebelaw01_num.calls t217 t220 _ A16.out).mono ?_); rintro e w' ⟨rfl, ⟨nd, rfl⟩⟩; refine ⟨_, rfl, ?_⟩))
          go_meet
          case rel => exact ⟨_, (true), (by first | rfl | (simp; done) | (simp [*]; done)), H', ⟨by first | omega | exact Nat.le_refl _⟩, ⟨by (with_reducible repeat (first | apply Kd.R_alloc | apply Kd.R_drewN | apply Kd.R_drew)); exact Kd.R_mono HO219.out (fun _ hk => trivial)⟩, ⟨by repeat (first | (with_reducible first | exact HB.out | apply below_alloc | apply pw_below_drewN | apply below_drew1) | exact HB.out)⟩⟩
      case rest =>
        clear HC10
        try clear c1
        try clear c2
        try clear p2
        try clear c5
        try clear c5b0
        try clear c5b1
        try clear c6
        try clear p6
        try clear c8
        try clear c17
        try clear c17b0
        try clear c17b1
        try clear c18
        try clear c18b0
        try clear c18b1
        try clear c20
        obtain ⟨kq, x47_9, rfl, HA, HJ9, HO_9, HB⟩ := hcut
        cases kq with
        | zero => exact absurd HA.out (by simp [glebelaw01_WireTurned.j0])
        | succ kj9 =>
          have H := HA.out
          clear HA
          simp only [glebelaw01_WireTurned.j0] at H
          by_cases c23 : x47_9 = true
          · subst c23
            have H1 : (none) = some r := by rw [if_pos rfl] at H; exact H
            clear H
            have H := H1
            clear H1
            exact absurd H (by simp)
          · replace c23 := Bool.eq_false_iff.mpr c23
            subst c23
            have H1 : (if (wrap64 (8 * (wrap64 ((t216.length : Int) - 5)))) = 0 then (none) else (glebelaw01_WireTurned.l0 kj9 l1 (Int.tmod (wrap64 ((Int.tmod a2 (wrap64 (8 * (wrap64 ((t216.length : Int) - 5))))) + (wrap64 (8 * (wrap64 ((t216.length : Int) - 5)))))) (wrap64 (8 * (wrap64 ((t216.length : Int) - 5))))) a3 t216 (wrap64 (8 * (wrap64 ((t216.length : Int) - 5)))) false 0)) = some r := by rw [if_neg (show ¬ (false = true) by decide)] at H; exact H
            clear H
            have H := H1
            clear H1
            by_cases c24 : (wrap64 (8 * (wrap64 ((t216.length : Int) - 5)))) = 0
            · rw [if_pos c24] at H
              exact absurd H (by simp)
            · rw [if_neg c24] at H
              have c24b0 : ((wrap64 (8 * (wrap64 ((t216.length : Int) - 5)))) == 0) = false := beq_eq_false_iff_ne.mpr c24
              have c24b1 : ((wrap64 (8 * (wrap64 ((t216.length : Int) - 5)))) != 0) = true := bne_iff_ne.mpr c24
              have H' := Aside0.mk H
              clear H
              obtain ⟨Ao25, co25, eo25⟩ := Kd.R_slice HO_9.out
              subst eo25
              go_wp2
              go_loopg [12, 13] kj9 (fun kq v12 v13 w' => ∃ (x9_2 : List Int) (x12_2 : Bool) (x13_2 : Int), v12 = .bool x12_2 ∧ v13 = .int .i64 x13_2 ∧ Aside0 (glebelaw01_WireTurned.l0 kq l1 (Int.tmod (wrap64 ((Int.tmod a2 (wrap64 (8 * (wrap64 ((t216.length : Int) - 5))))) + (wrap64 (8 * (wrap64 ((t216.length : Int) - 5)))))) (wrap64 (8 * (wrap64 ((t216.length : Int) - 5))))) a3 x9_2 (wrap64 (8 * (wrap64 ((t216.length : Int) - 5)))) x12_2 x13_2 = some r) ∧ Aside0 (kq ≤ kj9) ∧ Aside0 (Kd.R (Kd.int .u8) 5 w' w.heap.size (fun _ => True) (.slice Ao25 t216.length co25) x9_2) ∧ Aside0 (Below w.heap.size w w'))
              case atStart => exact ⟨(t216), (false), (0), (by first | rfl | (simp; done) | (simp [*]; done)), (by first | rfl | (simp; done) | (simp [*]; done)), H', ⟨Nat.le_refl _⟩, ⟨by (with_reducible repeat (first | apply Kd.R_alloc | apply Kd.R_drewN | apply Kd.R_drew)); exact HO_9.out⟩, ⟨by repeat (first | (with_reducible first | exact HB.out | apply below_alloc | apply pw_below_drewN | apply below_drew1) | exact HB.out)⟩⟩
              case round =>
                clear H'
                try clear c1
                try clear c2
                try clear p2
                try clear c5
                try clear c5b0
                try clear c5b1
                try clear c6
                try clear p6
                try clear c8
                try clear c17
                try clear c17b0
                try clear c17b1
                try clear c18
                try clear c18b0
                try clear c18b1
                try clear c20
                try clear c23
                try clear c24
                try clear c24b0
                try clear c24b1
                try clear c25
                try clear p2
                try clear p6
                obtain ⟨x9_2, x12_2, x13_2, rfl, rfl, HA, HK2, HO_9, HB⟩ := hrel
                have hl9_2 := (Kd.R_reads' HO_9.out).1
                rw [hl9_2] at HO_9
                (try simp only [hl9_2])
                cases gk with
                | zero => exact absurd HA.out (by simp [glebelaw01_WireTurned.l0])
                | succ k2 =>
                  have H := HA.out
                  clear HA
                  simp only [glebelaw01_WireTurned.l0] at H
                  have HC26 := Aside0.mk H
                  clear H
                  go_upto_region 10 with (fail)
                  go_cut [67] (fun v67 wc => ∃ (kq : Nat) (x67_25 : Bool), v67 = .bool x67_25 ∧ Aside0 (glebelaw01_WireTurned.j2 kq l1 (Int.tmod (wrap64 ((Int.tmod a2 (wrap64 (8 * (wrap64 ((t216.length : Int) - 5))))) + (wrap64 (8 * (wrap64 ((t216.length : Int) - 5)))))) (wrap64 (8 * (wrap64 ((t216.length : Int) - 5))))) a3 x9_2 (wrap64 (8 * (wrap64 ((t216.length : Int) - 5)))) x12_2 x13_2 x67_25 = some r) ∧ Aside0 (kq ≤ k2) ∧ Aside0 (Kd.R (Kd.int .u8) 5 wc w.heap.size (fun _ => True) (.slice Ao25 x9_2.length co25) x9_2) ∧ Aside0 (Below w.heap.size w wc))
                  case first =>
                    have H := HC26.out
                    clear HC26
                    by_cases c27 : x13_2 < 32
                    · rw [if_pos c27] at H
                      have c27b0 : decide (x13_2 < 32) = true := decide_eq_true c27
                      clear c27
                      (first | rw [c27b0] | (simp only [i64_w, i32_w]; rw [c27b0]) | skip)
                      have H' := Aside0.mk H
                      clear H
                      go_wp2
                      go_meet
                      case rel => exact ⟨_, (decide ((wrap64 ((Int.tmod (wrap64 ((Int.tmod a2 (wrap64 (8 * (wrap64 ((t216.length : Int) - 5))))) + (wrap64 (8 * (wrap64 ((t216.length : Int) - 5)))))) (wrap64 (8 * (wrap64 ((t216.length : Int) - 5))))) + x13_2)) < (wrap64 (8 * (wrap64 ((t216.length : Int) - 5)))))), (by first | rfl | (simp; done) | (simp [*]; done)), H', ⟨by have := HJ9.out; have := HK2.out; first | omega | exact Nat.le_refl _⟩, ⟨by (try simp only [hl9_2]); (with_reducible repeat (first | apply Kd.R_alloc | apply Kd.R_drewN | apply Kd.R_drew)); exact HO_9.out⟩, ⟨by repeat (first | (with_reducible first | exact HB.out | apply below_alloc | apply pw_below_drewN | apply below_drew1) | exact HB.out)⟩⟩
                    · rw [if_neg c27] at H
                      have c27b0 : decide (x13_2 < 32) = false := decide_eq_false c27
                      clear c27
                      (first | rw [c27b0] | (simp only [i64_w, i32_w]; rw [c27b0]) | skip)
                      have H' := Aside0.mk H
                      clear H
                      go_wp2
                      go_meet
                      case rel => exact ⟨_, (false), (by first | rfl | (simp; done) | (simp [*]; done)), H', ⟨by have := HJ9.out; have := HK2.out; first | omega | exact Nat.le_refl _⟩, ⟨by (try simp only [hl9_2]); (with_reducible repeat (first | apply Kd.R_alloc | apply Kd.R_drewN | apply Kd.R_drew)); exact HO_9.out⟩, ⟨by repeat (first | (with_reducible first | exact HB.out | apply below_alloc | apply pw_below_drewN | apply below_drew1) | exact HB.out)⟩⟩
                  case rest =>
                    clear HC26
                    try clear c1
                    try clear c2
                    try clear p2
                    try clear c5
                    try clear c5b0
                    try clear c5b1
                    try clear c6
                    try clear p6
                    try clear c8
                    try clear c17
                    try clear c17b0
                    try clear c17b1
                    try clear c18
                    try clear c18b0
                    try clear c18b1
                    try clear c20
                    try clear c23
                    try clear c24
                    try clear c24b0
                    try clear c24b1
                    try clear c25
                    try clear c26
                    try clear c27
                    try clear c27b0
                    try clear p2
                    try clear p6
                    obtain ⟨kq, x67_25, rfl, HA, HJ25, HO_9, HB⟩ := hcut
                    cases kq with
                    | zero => exact absurd HA.out (by simp [glebelaw01_WireTurned.j2])
                    | succ kj25 =>
                      have H := HA.out
                      clear HA
                      simp only [glebelaw01_WireTurned.j2] at H
                      by_cases c28 : x67_25 = true
                      · subst c28
                        have H1 : (if 0 ≤ (IntKind.u64.wrap (x13_2)) then (if (Go.bits .and .u32 (shr .u32 a3 (IntKind.u64.wrap (x13_2))) 1) = 1 then (if 0 ≤ (wrap64 (5 + (wrap64 (Int.tdiv (wrap64 ((Int.tmod (wrap64 ((Int.tmod a2 (wrap64 (8 * (wrap64 ((t216.length : Int) - 5))))) + (wrap64 (8 * (wrap64 ((t216.length : Int) - 5)))))) (wrap64 (8 * (wrap64 ((t216.length : Int) - 5))))) + x13_2)) 8)))) then (if (wrap64 (5 + (wrap64 (Int.tdiv (wrap64 ((Int.tmod (wrap64 ((Int.tmod a2 (wrap64 (8 * (wrap64 ((t216.length : Int) - 5))))) + (wrap64 (8 * (wrap64 ((t216.length : Int) - 5)))))) (wrap64 (8 * (wrap64 ((t216.length : Int) - 5))))) + x13_2)) 8)))) < (x9_2.length : Int) then (if 0 ≤ (IntKind.u64.wrap (Int.tmod (wrap64 ((Int.tmod (wrap64 ((Int.tmod a2 (wrap64 (8 * (wrap64 ((t216.length : Int) - 5))))) + (wrap64 (8 * (wrap64 ((t216.length : Int) - 5)))))) (wrap64 (8 * (wrap64 ((t216.length : Int) - 5))))) + x13_2)) 8)) then (glebelaw01_WireTurned.l0 kj25 l1 (Int.tmod (wrap64 ((Int.tmod a2 (wrap64 (8 * (wrap64 ((t216.length : Int) - 5))))) + (wrap64 (8 * (wrap64 ((t216.length : Int) - 5)))))) (wrap64 (8 * (wrap64 ((t216.length : Int) - 5))))) a3 (x9_2.set ((wrap64 (5 + (wrap64 (Int.tdiv (wrap64 ((Int.tmod (wrap64 ((Int.tmod a2 (wrap64 (8 * (wrap64 ((t216.length : Int) - 5))))) + (wrap64 (8 * (wrap64 ((t216.length : Int) - 5)))))) (wrap64 (8 * (wrap64 ((t216.length : Int) - 5))))) + x13_2)) 8)))) : Int).toNat (Go.bits .xor .u8 (rd x9_2 (wrap64 (5 + (wrap64 (Int.tdiv (wrap64 ((Int.tmod (wrap64 ((Int.tmod a2 (wrap64 (8 * (wrap64 ((t216.length : Int) - 5))))) + (wrap64 (8 * (wrap64 ((t216.length : Int) - 5)))))) (wrap64 (8 * (wrap64 ((t216.length : Int) - 5))))) + x13_2)) 8))))) (shl .u8 1 (IntKind.u64.wrap (Int.tmod (wrap64 ((Int.tmod (wrap64 ((Int.tmod a2 (wrap64 (8 * (wrap64 ((t216.length : Int) - 5))))) + (wrap64 (8 * (wrap64 ((t216.length : Int) - 5)))))) (wrap64 (8 * (wrap64 ((t216.length : Int) - 5))))) + x13_2)) 8))))) (wrap64 (8 * (wrap64 ((t216.length : Int) - 5)))) true (wrap64 (x13_2 + 1))) else (none)) else (none)) else (none)) else (glebelaw01_WireTurned.l0 kj25 l1 (Int.tmod (wrap64 ((Int.tmod a2 (wrap64 (8 * (wrap64 ((t216.length : Int) - 5))))) + (wrap64 (8 * (wrap64 ((t216.length : Int) - 5)))))) (wrap64 (8 * (wrap64 ((t216.length : Int) - 5))))) a3 x9_2 (wrap64 (8 * (wrap64 ((t216.length : Int) - 5)))) x12_2 (wrap64 (x13_2 + 1)))) else (none)) = some r := by rw [if_pos rfl] at H; exact H
                        clear H
                        have H := H1
                        clear H1
                        obtain ⟨ji29, hji29⟩ : ∃ j_ : Int, (IntKind.u64.wrap (x13_2)) = j_ := ⟨_, rfl⟩
                        replace H : (if 0 ≤ (ji29) then (if (Go.bits .and .u32 (shr .u32 a3 (ji29)) 1) = 1 then (if 0 ≤ (wrap64 (5 + (wrap64 (Int.tdiv (wrap64 ((Int.tmod (wrap64 ((Int.tmod a2 (wrap64 (8 * (wrap64 ((t216.length : Int) - 5))))) + (wrap64 (8 * (wrap64 ((t216.length : Int) - 5)))))) (wrap64 (8 * (wrap64 ((t216.length : Int) - 5))))) + x13_2)) 8)))) then (if (wrap64 (5 + (wrap64 (Int.tdiv (wrap64 ((Int.tmod (wrap64 ((Int.tmod a2 (wrap64 (8 * (wrap64 ((t216.length : Int) - 5))))) + (wrap64 (8 * (wrap64 ((t216.length : Int) - 5)))))) (wrap64 (8 * (wrap64 ((t216.length : Int) - 5))))) + x13_2)) 8)))) < (x9_2.length : Int) then (if 0 ≤ (IntKind.u64.wrap (Int.tmod (wrap64 ((Int.tmod (wrap64 ((Int.tmod a2 (wrap64 (8 * (wrap64 ((t216.length : Int) - 5))))) + (wrap64 (8 * (wrap64 ((t216.length : Int) - 5)))))) (wrap64 (8 * (wrap64 ((t216.length : Int) - 5))))) + x13_2)) 8)) then (glebelaw01_WireTurned.l0 kj25 l1 (Int.tmod (wrap64 ((Int.tmod a2 (wrap64 (8 * (wrap64 ((t216.length : Int) - 5))))) + (wrap64 (8 * (wrap64 ((t216.length : Int) - 5)))))) (wrap64 (8 * (wrap64 ((t216.length : Int) - 5))))) a3 (x9_2.set ((wrap64 (5 + (wrap64 (Int.tdiv (wrap64 ((Int.tmod (wrap64 ((Int.tmod a2 (wrap64 (8 * (wrap64 ((t216.length : Int) - 5))))) + (wrap64 (8 * (wrap64 ((t216.length : Int) - 5)))))) (wrap64 (8 * (wrap64 ((t216.length : Int) - 5))))) + x13_2)) 8)))) : Int).toNat (Go.bits .xor .u8 (rd x9_2 (wrap64 (5 + (wrap64 (Int.tdiv (wrap64 ((Int.tmod (wrap64 ((Int.tmod a2 (wrap64 (8 * (wrap64 ((t216.length : Int) - 5))))) + (wrap64 (8 * (wrap64 ((t216.length : Int) - 5)))))) (wrap64 (8 * (wrap64 ((t216.length : Int) - 5))))) + x13_2)) 8))))) (shl .u8 1 (IntKind.u64.wrap (Int.tmod (wrap64 ((Int.tmod (wrap64 ((Int.tmod a2 (wrap64 (8 * (wrap64 ((t216.length : Int) - 5))))) + (wrap64 (8 * (wrap64 ((t216.length : Int) - 5)))))) (wrap64 (8 * (wrap64 ((t216.length : Int) - 5))))) + x13_2)) 8))))) (wrap64 (8 * (wrap64 ((t216.length : Int) - 5)))) true (wrap64 (x13_2 + 1))) else (none)) else (none)) else (none)) else (glebelaw01_WireTurned.l0 kj25 l1 (Int.tmod (wrap64 ((Int.tmod a2 (wrap64 (8 * (wrap64 ((t216.length : Int) - 5))))) + (wrap64 (8 * (wrap64 ((t216.length : Int) - 5)))))) (wrap64 (8 * (wrap64 ((t216.length : Int) - 5))))) a3 x9_2 (wrap64 (8 * (wrap64 ((t216.length : Int) - 5)))) x12_2 (wrap64 (x13_2 + 1)))) else (none)) = some r := by first | (rw [hji29] at H; exact H) | (simp only [hji29] at H ⊢; exact H)
                        by_cases c30 : 0 ≤ (ji29)
                        · rw [if_pos c30] at H
                          have c30b0 := eq_true c30
                          have c30b1 : decide (0 ≤ (ji29)) = true := decide_eq_true c30
                          clear c30
                          obtain ⟨ji31, hji31⟩ : ∃ j_ : Int, (shr .u32 a3 (ji29)) = j_ := ⟨_, rfl⟩
                          replace H : (if (Go.bits .and .u32 (ji31) 1) = 1 then (if 0 ≤ (wrap64 (5 + (wrap64 (Int.tdiv (wrap64 ((Int.tmod (wrap64 ((Int.tmod a2 (wrap64 (8 * (wrap64 ((t216.length : Int) - 5))))) + (wrap64 (8 * (wrap64 ((t216.length : Int) - 5)))))) (wrap64 (8 * (wrap64 ((t216.length : Int) - 5))))) + x13_2)) 8)))) then (if (wrap64 (5 + (wrap64 (Int.tdiv (wrap64 ((Int.tmod (wrap64 ((Int.tmod a2 (wrap64 (8 * (wrap64 ((t216.length : Int) - 5))))) + (wrap64 (8 * (wrap64 ((t216.length : Int) - 5)))))) (wrap64 (8 * (wrap64 ((t216.length : Int) - 5))))) + x13_2)) 8)))) < (x9_2.length : Int) then (if 0 ≤ (IntKind.u64.wrap (Int.tmod (wrap64 ((Int.tmod (wrap64 ((Int.tmod a2 (wrap64 (8 * (wrap64 ((t216.length : Int) - 5))))) + (wrap64 (8 * (wrap64 ((t216.length : Int) - 5)))))) (wrap64 (8 * (wrap64 ((t216.length : Int) - 5))))) + x13_2)) 8)) then (glebelaw01_WireTurned.l0 kj25 l1 (Int.tmod (wrap64 ((Int.tmod a2 (wrap64 (8 * (wrap64 ((t216.length : Int) - 5))))) + (wrap64 (8 * (wrap64 ((t216.length : Int) - 5)))))) (wrap64 (8 * (wrap64 ((t216.length : Int) - 5))))) a3 (x9_2.set ((wrap64 (5 + (wrap64 (Int.tdiv (wrap64 ((Int.tmod (wrap64 ((Int.tmod a2 (wrap64 (8 * (wrap64 ((t216.length : Int) - 5))))) + (wrap64 (8 * (wrap64 ((t216.length : Int) - 5)))))) (wrap64 (8 * (wrap64 ((t216.length : Int) - 5))))) + x13_2)) 8)))) : Int).toNat (Go.bits .xor .u8 (rd x9_2 (wrap64 (5 + (wrap64 (Int.tdiv (wrap64 ((Int.tmod (wrap64 ((Int.tmod a2 (wrap64 (8 * (wrap64 ((t216.length : Int) - 5))))) + (wrap64 (8 * (wrap64 ((t216.length : Int) - 5)))))) (wrap64 (8 * (wrap64 ((t216.length : Int) - 5))))) + x13_2)) 8))))) (shl .u8 1 (IntKind.u64.wrap (Int.tmod (wrap64 ((Int.tmod (wrap64 ((Int.tmod a2 (wrap64 (8 * (wrap64 ((t216.length : Int) - 5))))) + (wrap64 (8 * (wrap64 ((t216.length : Int) - 5)))))) (wrap64 (8 * (wrap64 ((t216.length : Int) - 5))))) + x13_2)) 8))))) (wrap64 (8 * (wrap64 ((t216.length : Int) - 5)))) true (wrap64 (x13_2 + 1))) else (none)) else (none)) else (none)) else (glebelaw01_WireTurned.l0 kj25 l1 (Int.tmod (wrap64 ((Int.tmod a2 (wrap64 (8 * (wrap64 ((t216.length : Int) - 5))))) + (wrap64 (8 * (wrap64 ((t216.length : Int) - 5)))))) (wrap64 (8 * (wrap64 ((t216.length : Int) - 5))))) a3 x9_2 (wrap64 (8 * (wrap64 ((t216.length : Int) - 5)))) x12_2 (wrap64 (x13_2 + 1)))) = some r := by first | (rw [hji31] at H; exact H) | (simp only [hji31] at H ⊢; exact H)
                          have hji31_ : (a3 / 2 ^ min (ji29).toNat 32) = ji31 := hji31
                          have hji31z : (ji29) ≤ 32 → (a3 / 2 ^ (ji29).toNat) = ji31 := shr_small hji31
                          by_cases c32 : (Go.bits .and .u32 (ji31) 1) = 1
                          · rw [if_pos c32] at H
                            have c32b0 : ((Go.bits .and .u32 (ji31) 1) == 1) = true := beq_iff_eq.mpr c32
                            have c32b1 : ((Go.bits .and .u32 (ji31) 1) != 1) = false := bne_eq_false_iff_eq.mpr c32
                            clear c32
                            obtain ⟨ji33, hji33⟩ : ∃ j_ : Int, (wrap64 (5 + (wrap64 (Int.tdiv (wrap64 ((Int.tmod (wrap64 ((Int.tmod a2 (wrap64 (8 * (wrap64 ((t216.length : Int) - 5))))) + (wrap64 (8 * (wrap64 ((t216.length : Int) - 5)))))) (wrap64 (8 * (wrap64 ((t216.length : Int) - 5))))) + x13_2)) 8)))) = j_ := ⟨_, rfl⟩
                            replace H : (if 0 ≤ (ji33) then (if (ji33) < (x9_2.length : Int) then (if 0 ≤ (IntKind.u64.wrap (Int.tmod (wrap64 ((Int.tmod (wrap64 ((Int.tmod a2 (wrap64 (8 * (wrap64 ((t216.length : Int) - 5))))) + (wrap64 (8 * (wrap64 ((t216.length : Int) - 5)))))) (wrap64 (8 * (wrap64 ((t216.length : Int) - 5))))) + x13_2)) 8)) then (glebelaw01_WireTurned.l0 kj25 l1 (Int.tmod (wrap64 ((Int.tmod a2 (wrap64 (8 * (wrap64 ((t216.length : Int) - 5))))) + (wrap64 (8 * (wrap64 ((t216.length : Int) - 5)))))) (wrap64 (8 * (wrap64 ((t216.length : Int) - 5))))) a3 (x9_2.set ((ji33) : Int).toNat (Go.bits .xor .u8 (rd x9_2 (ji33)) (shl .u8 1 (IntKind.u64.wrap (Int.tmod (wrap64 ((Int.tmod (wrap64 ((Int.tmod a2 (wrap64 (8 * (wrap64 ((t216.length : Int) - 5))))) + (wrap64 (8 * (wrap64 ((t216.length : Int) - 5)))))) (wrap64 (8 * (wrap64 ((t216.length : Int) - 5))))) + x13_2)) 8))))) (wrap64 (8 * (wrap64 ((t216.length : Int) - 5)))) true (wrap64 (x13_2 + 1))) else (none)) else (none)) else (none)) = some r := by first | (rw [hji33] at H; exact H) | (simp only [hji33] at H ⊢; exact H)
                            have hji33w : (IntKind.i64.wrap (5 + (wrap64 (Int.tdiv (wrap64 ((Int.tmod (wrap64 ((Int.tmod a2 (wrap64 (8 * (wrap64 ((t216.length : Int) - 5))))) + (wrap64 (8 * (wrap64 ((t216.length : Int) - 5)))))) (wrap64 (8 * (wrap64 ((t216.length : Int) - 5))))) + x13_2)) 8)))) = ji33 := (i64_w _).trans hji33
                            by_cases c34 : 0 ≤ (ji33)
                            · rw [if_pos c34] at H
                              have c34b0 : decide (0 ≤ (ji33)) = true := decide_eq_true c34
                              clear c34
                              by_cases c35 : (ji33) < (x9_2.length : Int)
                              · rw [if_pos c35] at H
                                have c35b0 : decide ((ji33) < (x9_2.length : Int)) = true := decide_eq_true c35
                                clear c35
                                obtain ⟨ji36, hji36⟩ : ∃ j_ : Int, (IntKind.u64.wrap (Int.tmod (wrap64 ((Int.tmod (wrap64 ((Int.tmod a2 (wrap64 (8 * (wrap64 ((t216.length : Int) - 5))))) + (wrap64 (8 * (wrap64 ((t216.length : Int) - 5)))))) (wrap64 (8 * (wrap64 ((t216.length : Int) - 5))))) + x13_2)) 8)) = j_ := ⟨_, rfl⟩
                                replace H : (if 0 ≤ (ji36) then (glebelaw01_WireTurned.l0 kj25 l1 (Int.tmod (wrap64 ((Int.tmod a2 (wrap64 (8 * (wrap64 ((t216.length : Int) - 5))))) + (wrap64 (8 * (wrap64 ((t216.length : Int) - 5)))))) (wrap64 (8 * (wrap64 ((t216.length : Int) - 5))))) a3 (x9_2.set ((ji33) : Int).toNat (Go.bits .xor .u8 (rd x9_2 (ji33)) (shl .u8 1 (ji36)))) (wrap64 (8 * (wrap64 ((t216.length : Int) - 5)))) true (wrap64 (x13_2 + 1))) else (none)) = some r := by first | (rw [hji36] at H; exact H) | (simp only [hji36] at H ⊢; exact H)
                                by_cases c37 : 0 ≤ (ji36)
                                · rw [if_pos c37] at H
                                  have c37b0 := eq_true c37
                                  have c37b1 : decide (0 ≤ (ji36)) = true := decide_eq_true c37
                                  clear c37
                                  obtain ⟨ji38, hji38⟩ : ∃ j_ : Int, (shl .u8 1 (ji36)) = j_ := ⟨_, rfl⟩
                                  replace H : (glebelaw01_WireTurned.l0 kj25 l1 (Int.tmod (wrap64 ((Int.tmod a2 (wrap64 (8 * (wrap64 ((t216.length : Int) - 5))))) + (wrap64 (8 * (wrap64 ((t216.length : Int) - 5)))))) (wrap64 (8 * (wrap64 ((t216.length : Int) - 5))))) a3 (x9_2.set ((ji33) : Int).toNat (Go.bits .xor .u8 (rd x9_2 (ji33)) (ji38))) (wrap64 (8 * (wrap64 ((t216.length : Int) - 5)))) true (wrap64 (x13_2 + 1))) = some r := by first | (rw [hji38] at H; exact H) | (simp only [hji38] at H ⊢; exact H)
                                  have hji38_ : (IntKind.u8.wrap (1 * 2 ^ min (ji36).toNat 8)) = ji38 := hji38
                                  have hji38z : (ji36) ≤ 8 → (IntKind.u8.wrap (1 * 2 ^ (ji36).toNat)) = ji38 := shl_small hji38
                                  have hji38u : (IntKind.u8.wrap (2 ^ min (ji36).toNat 8)) = ji38 := by have h_ := hji38_; rw [Int.one_mul] at h_; exact h_
                                  have hji38v : (ji36) ≤ 8 → (IntKind.u8.wrap (2 ^ (ji36).toNat)) = ji38 := fun hle_ => by have h_ := hji38z hle_; rw [Int.one_mul] at h_; exact h_
                                  obtain ⟨y223, hy223⟩ : ∃ y_ : List Int, y_ = (x9_2.set ((ji33) : Int).toNat (Go.bits .xor .u8 (rd x9_2 (ji33)) (ji38))) := ⟨_, rfl⟩
                                  replace H : (glebelaw01_WireTurned.l0 kj25 l1 (Int.tmod (wrap64 ((Int.tmod a2 (wrap64 (8 * (wrap64 ((t216.length : Int) - 5))))) + (wrap64 (8 * (wrap64 ((t216.length : Int) - 5)))))) (wrap64 (8 * (wrap64 ((t216.length : Int) - 5))))) a3 y223 (wrap64 (8 * (wrap64 ((t216.length : Int) - 5)))) true (wrap64 (x13_2 + 1))) = some r := by first | (rw [hy223]; with_reducible exact H) | (have H2_ := (Option.bind_some _ _).symm.trans H; rw [hy223]; with_reducible exact H2_) | (have H2_ := (Option.bind_some _ _).symm.trans H; with_reducible exact H2_) | with_reducible exact H | (rw [hy223]; exact H) | exact H
                                  have Ny223 := Aside0.mk hy223
                                  clear hy223
                                  have H' := Aside0.mk H
                                  clear H
                                  have p222 : 0 ≤ ((ji33) : Int) := of_decide_eq_true (by first | (with_reducible assumption) | assumption)
                                  have q222 : (ji33) < (x9_2.length : Int) := of_decide_eq_true (by first | (with_reducible assumption) | assumption)
                                  obtain ⟨ad222, e222, hx222_0⟩ := Kd.at_int (Kd.R_reads' HO_9.out).2.2 (ji33) p222 q222
                                  cases e222
                                  replace p222 := eq_true p222
                                  replace q222 := eq_true q222
                                  have p39 : 0 ≤ ((ji33) : Int) := of_decide_eq_true (by first | (with_reducible assumption) | assumption)
                                  have q39 : ((ji33) : Int) < ((x9_2.length : Int) : Int) := of_decide_eq_true (by first | (with_reducible assumption) | assumption)
                                  obtain ⟨go39, co39, eo39, gb39, gl39, cl39, HG39⟩ := Kd.R_form HO_9.out (by omega)
                                  (first | cases eo39 | (injection eo39 with ea_ en_ ec_; (first | subst ea_ | (injection ea_ with ea_; subst ea_)); subst ec_; clear en_))
                                  have GB39 := Aside0.mk gb39
                                  have GG39 := Aside0.mk HG39
                                  clear gb39 gl39 HG39
                                  (first | simp only [add_plain] at hx222_0 | skip)
                                  obtain ⟨hx39_0, hf39_0⟩ := Kd.R_celln 0 HO_9.out ((ji33) : Int) p39 q39
                                  replace p39 := eq_true p39
                                  replace q39 := eq_true q39
                                  have HP40 := Kd.R_putg HO_9.out ((ji33) : Int) (Go.bits .xor .u8 (rd x9_2 (ji33)) (ji38))
                                  simp only [hl9_2] at hji33 hji33w hji36
                                  go_wp2_with (first | ((with_reducible refine gate_store (t := 5) (p := 94) rfl ?_); refine store_event (t := 5) (p := 94) (v := ?vo_w41) (w1 := (wc.setCell ⟨go39, ((ji33) : Int).toNat, none⟩ (.int .u8 (Go.bits .xor .u8 (rd x9_2 (ji33)) (ji38))))) ?hg ?ho ?hn ?hr ?_; (case ho => rfl); (case hg => rfl); (case hn => rfl); (case hr => first | (go_simp; done) | (go_simp; rfl)); intro w41 hw; have hg : wc.grownBy w41 (some go39) := (by rw [hw]; exact HP40.2); have hp_ : Kd.R (Kd.int .u8) 5 w41 w.heap.size (fun _ => True) (.slice (some ⟨go39, 0, none⟩) x9_2.length co25) y223 := (by rw [hw, Ny223.out]; exact HP40.1); clear HP40; have n0_ := Aside0.mk (hp_); have n1_ := Aside0.mk ((by rw [hw]; exact below_set (HB.out) GB39.out : Below w.heap.size w w41)); clear HO_9; clear HB; have HO_9 := n0_; have HB := n1_; clear n0_ n1_; clear hg hw hp_))
                                  (try simp only [← hl9_2])
                                  go_roundg kj25
                                  case measure => have := HJ9.out; have := HK2.out; have := HJ25.out; omega
                                  case rel => exact ⟨(y223), (true), (wrap64 (x13_2 + 1)), (by first | rfl | (simp; done) | (simp [*]; done)), (by first | rfl | (simp; done) | (simp [*]; done)), H', ⟨by have := HJ9.out; have := HK2.out; have := HJ25.out; omega⟩, ⟨by (try simp only [hl9_2]); (with_reducible repeat (first | apply Kd.R_alloc | apply Kd.R_drewN | apply Kd.R_drew)); exact HO_9.out⟩, ⟨by repeat (first | (with_reducible first | exact HB.out | apply below_alloc | apply pw_below_drewN | apply below_drew1) | exact HB.out)⟩⟩
                                · rw [if_neg c37] at H
                                  exact absurd H (by simp)
                              · rw [if_neg c35] at H
                                exact absurd H (by simp)
                            · rw [if_neg c34] at H
                              exact absurd H (by simp)
                          · rw [if_neg c32] at H
                            have c32b0 : ((Go.bits .and .u32 (ji31) 1) == 1) = false := beq_eq_false_iff_ne.mpr c32
                            have c32b1 : ((Go.bits .and .u32 (ji31) 1) != 1) = true := bne_iff_ne.mpr c32
                            have H' := Aside0.mk H
                            clear H
                            go_wp2
                            (try simp only [← hl9_2])
                            go_roundg kj25
                            case measure => have := HJ9.out; have := HK2.out; have := HJ25.out; omega
                            case rel => exact ⟨(x9_2), (x12_2), (wrap64 (x13_2 + 1)), (by first | rfl | (simp; done) | (simp [*]; done)), (by first | rfl | (simp; done) | (simp [*]; done)), H', ⟨by have := HJ9.out; have := HK2.out; have := HJ25.out; omega⟩, ⟨by (try simp only [hl9_2]); (with_reducible repeat (first | apply Kd.R_alloc | apply Kd.R_drewN | apply Kd.R_drew)); exact HO_9.out⟩, ⟨by repeat (first | (with_reducible first | exact HB.out | apply below_alloc | apply pw_below_drewN | apply below_drew1) | exact HB.out)⟩⟩
                        · rw [if_neg c30] at H
                          exact absurd H (by simp)
                      · replace c28 := Bool.eq_false_iff.mpr c28
                        subst c28
                        have H1 : ((wire_Unframe.f kj25 x9_2).bind fun bt224 => (if x12_2 = true then ((glebelaw01_num.f bt224.2.2).bind fun t229 => (if t229 = 22 then (some ((bt224.2.1.length : Int) == 0)) else (none))) else ((glebelaw01_num.f bt224.2.2).bind fun t230 => (if t230 = 0 then (some ((strOfNums bt224.2.1).toList == (strOfNums l1).toList)) else (none))))) = some r := by rw [if_neg (show ¬ (false = true) by decide)] at H; exact H
                        clear H
                        have H := H1
                        clear H1
                        replace H := Option.bind_eq_some_iff.mp H
                        obtain ⟨⟨t224, t225, t226⟩, A420, H⟩ := H
                        replace H : (if x12_2 = true then ((glebelaw01_num.f t226).bind fun t229 => (if t229 = 22 then (some ((t225.length : Int) == 0)) else (none))) else ((glebelaw01_num.f t226).bind fun t230 => (if t230 = 0 then (some ((strOfNums t225).toList == (strOfNums l1).toList)) else (none)))) = some r := H
                        have A42 := Aside0.mk A420
                        clear A420
                        by_cases c43 : x12_2 = true
                        · subst c43
                          have H1 : ((glebelaw01_num.f t226).bind fun t229 => (if t229 = 22 then (some ((t225.length : Int) == 0)) else (none))) = some r := by rw [if_pos rfl] at H; exact H
                          clear H
                          have H := H1
                          clear H1
                          replace H := Option.bind_eq_some_iff.mp H
                          obtain ⟨t229, A440, H⟩ := H
                          replace H : (if t229 = 22 then (some ((t225.length : Int) == 0)) else (none)) = some r := H
                          have A44 := Aside0.mk A440
                          clear A440
                          by_cases c45 : t229 = 22
                          · rw [if_pos c45] at H
                            have c45b0 : (t229 == 22) = true := beq_iff_eq.mpr c45
                            have c45b1 : (t229 != 22) = false := bne_eq_false_iff_eq.mpr c45
                            clear c45
                            obtain rfl := Option.some.inj H
                            go_wp2_with (first | ((with_reducible refine gate_callee (f := 28) rfl ?_); refine goesL_ (some 97) rfl rfl Try.func28 (by kernel_rfl) rfl #[.slice Ao25 x9_2.length co25] rfl (by (try simp only [List.map_toArray, List.map_cons, List.map_nil]); first | done | rfl | (simp only [List.length_drop, List.length_take]; rfl)) ?_; (with_reducible refine (wire_Unframe.calls kj25 _ _ x9_2 t224 t225 t226 _ ?side1 ?side2 A42.out).mono ?_); (case side1 => repeat (first | exact (Kd.R_reads' HO_9.out).2.2 | (with_reducible refine Kd.C_alloc ?_ _) | (with_reducible refine Kd.C_drewN ?_ _) | (with_reducible refine Kd.C_drew ?_))); (case side2 => exact (Kd.R_reads' HO_9.out).2.1); rintro e w46 ⟨v227, rfl, ho0, hb⟩; refine ⟨_, rfl, ?_⟩; have n0_ := Aside0.mk (Kd.R_elder' (by (with_reducible repeat (first | apply Kd.R_alloc | apply Kd.R_drewN | apply Kd.R_drew)); exact HO_9.out) (Kd.R_base ho0) hb); have n1_ := Aside0.mk (Kd.R_lower (Kd.R_new' ho0 (Kd.R_lt (by (with_reducible repeat (first | apply Kd.R_alloc | apply Kd.R_drewN | apply Kd.R_drew)); exact HO_9.out))) (below_size (by repeat (first | (with_reducible first | exact HB.out | apply below_alloc | apply pw_below_drewN | apply below_drew1) | exact HB.out)))); have n2_ := Aside0.mk (below_step (by repeat (first | (with_reducible first | exact HB.out | apply below_alloc | apply pw_below_drewN | apply below_drew1) | exact HB.out)) hb); clear HO_9; clear HB; have HO_9 := n0_; have HO228 := n1_; have HB := n2_; clear n0_ n1_ n2_; (try clear hb); (try clear hb2); (try clear hk); (try clear hi); (try clear ho0)) | ((with_reducible refine gate_callee (f := 26) rfl ?_); refine goesL_ (some 114) rfl rfl Try.func26 (by kernel_rfl) rfl #[.int .i64 t226] rfl (by (try simp only [List.map_toArray, List.map_cons, List.map_nil]); first | done | rfl | (simp only [List.length_drop, List.length_take]; rfl)) ?_; (with_reducible refine (glebelaw01_num.calls t226 t229 _ A44.out).mono ?_); rintro e w' ⟨rfl, ⟨nd, rfl⟩⟩; refine ⟨_, rfl, ?_⟩; obtain ⟨Ao47, co47, eo47⟩ := Kd.R_slice HO228.out; subst eo47))
                            go_ret
                            exact ⟨by first | rfl | (simp [errW_none, errW_some] <;> rfl) | (simp [*, errW_none, errW_some] <;> rfl), by repeat (first | (with_reducible first | exact HB.out | apply below_alloc | apply pw_below_drewN | apply below_drew1) | exact HB.out)⟩
                          · rw [if_neg c45] at H
                            exact absurd H (by simp)
                        · replace c43 := Bool.eq_false_iff.mpr c43
                          subst c43
                          have H1 : ((glebelaw01_num.f t226).bind fun t230 => (if t230 = 0 then (some ((strOfNums t225).toList == (strOfNums l1).toList)) else (none))) = some r := by rw [if_neg (show ¬ (false = true) by decide)] at H; exact H
                          clear H
                          have H := H1
                          clear H1
                          replace H := Option.bind_eq_some_iff.mp H
                          obtain ⟨t230, A480, H⟩ := H
                          replace H : (if t230 = 0 then (some ((strOfNums t225).toList == (strOfNums l1).toList)) else (none)) = some r := H
                          have A48 := Aside0.mk A480
                          clear A480
                          by_cases c49 : t230 = 0
                          · rw [if_pos c49] at H
                            have c49b0 : (t230 == 0) = true := beq_iff_eq.mpr c49
                            have c49b1 : (t230 != 0) = false := bne_eq_false_iff_eq.mpr c49
                            clear c49
                            obtain rfl := Option.some.inj H
                            go_wp2_with (first | ((with_reducible refine gate_callee (f := 28) rfl ?_); refine goesL_ (some 97) rfl rfl Try.func28 (by kernel_rfl) rfl #[.slice Ao25 x9_2.length co25] rfl (by (try simp only [List.map_toArray, List.map_cons, List.map_nil]); first | done | rfl | (simp only [List.length_drop, List.length_take]; rfl)) ?_; (with_reducible refine (wire_Unframe.calls kj25 _ _ x9_2 t224 t225 t226 _ ?side1 ?side2 A42.out).mono ?_); (case side1 => repeat (first | exact (Kd.R_reads' HO_9.out).2.2 | (with_reducible refine Kd.C_alloc ?_ _) | (with_reducible refine Kd.C_drewN ?_ _) | (with_reducible refine Kd.C_drew ?_))); (case side2 => exact (Kd.R_reads' HO_9.out).2.1); rintro e w50 ⟨v227, rfl, ho0, hb⟩; refine ⟨_, rfl, ?_⟩; have n0_ := Aside0.mk (Kd.R_elder' (by (with_reducible repeat (first | apply Kd.R_alloc | apply Kd.R_drewN | apply Kd.R_drew)); exact HO_9.out) (Kd.R_base ho0) hb); have n1_ := Aside0.mk (Kd.R_lower (Kd.R_new' ho0 (Kd.R_lt (by (with_reducible repeat (first | apply Kd.R_alloc | apply Kd.R_drewN | apply Kd.R_drew)); exact HO_9.out))) (below_size (by repeat (first | (with_reducible first | exact HB.out | apply below_alloc | apply pw_below_drewN | apply below_drew1) | exact HB.out)))); have n2_ := Aside0.mk (below_step (by repeat (first | (with_reducible first | exact HB.out | apply below_alloc | apply pw_below_drewN | apply below_drew1) | exact HB.out)) hb); clear HO_9; clear HB; have HO_9 := n0_; have HO228 := n1_; have HB := n2_; clear n0_ n1_ n2_; (try clear hb); (try clear hb2); (try clear hk); (try clear hi); (try clear ho0)) | ((with_reducible refine gate_callee (f := 26) rfl ?_); refine goesL_ (some 104) rfl rfl Try.func26 (by kernel_rfl) rfl #[.int .i64 t226] rfl (by (try simp only [List.map_toArray, List.map_cons, List.map_nil]); first | done | rfl | (simp only [List.length_drop, List.length_take]; rfl)) ?_; (with_reducible refine (glebelaw01_num.calls t226 t230 _ A48.out).mono ?_); rintro e w' ⟨rfl, ⟨nd, rfl⟩⟩; have hcvx := own_string (P := Try.prog) Try.underlying33 Try.underlying5 Try.underlying9 (Kd.own_of_R (Kd.R_drewN HO228.out nd)); have hcvy := Kd.C_string (P := Try.prog) (A := A1) (c := c1) Try.underlying33 Try.underlying5 Try.underlying9 (Kd.C_drewN (Kd.C_below HR1.out HB.out) nd); refine ⟨_, rfl, ?_⟩; have hcv51 := own_string (P := Try.prog) Try.underlying33 Try.underlying5 Try.underlying9 (Kd.own_of_R HO228.out); have hcv52 := Kd.C_string (P := Try.prog) (A := A1) (c := c1) Try.underlying33 Try.underlying5 Try.underlying9 (Kd.C_below HR1.out HB.out)))
                            go_ret
                            exact ⟨by first | rfl | (simp [errW_none, errW_some] <;> rfl) | (simp [*, errW_none, errW_some] <;> rfl), by repeat (first | (with_reducible first | exact HB.out | apply below_alloc | apply pw_below_drewN | apply below_drew1) | exact HB.out)⟩
                          · rw [if_neg c49] at H
                            exact absurd H (by simp)
    · rw [if_neg c8] at H
      exact absurd H (by simp)

/-- THE ONE PURE STATEMENT of glebelaw01_WireTurned: yours. -/
def glebelaw01_WireTurned.Pure : Prop := ∀ (a0 : Int) (l1 : List Int) (a2 : Int) (a3 : Int), (Lit.int .i64 a0).wf = true → l1.length ≤ maxLen → l1.length * 1 ≤ 140737488351232 → (∀ x ∈ l1, (Lit.int .u8 x).wf = true) → (Lit.int .i64 a2).wf = true → (Lit.int .u32 a3).wf = true → ∃ k, glebelaw01_WireTurned.f k a0 l1 a2 a3 = some true
theorem glebelaw01_WireTurned.walk (P : glebelaw01_WireTurned.Pure) (a0 : Int) (a1 : Option Addr) (len1 cap1 : Nat) (z1 : List Int) (a2 : Int) (a3 : Int) (w : World) (w0 : (Lit.int .i64 a0).wf = true) (w1 : (a1 = none ∧ len1 = 0 ∧ cap1 = 0 ∧ z1 = []) ∨ ∃ x, a1 = some x ∧ len1 ≤ cap1 ∧ cap1 ≤ maxLen ∧ z1.length = cap1 ∧ (∀ i, i < z1.length → w.cell? (x.add i) = some (.int .u8 (z1.getD i 0))) ∧ ∀ n ∈ z1, (Lit.int .u8 n).wf = true) (y1 : len1 * 1 ≤ 140737488351232) (w2 : (Lit.int .i64 a2).wf = true) (w3 : (Lit.int .u32 a3).wf = true) :
    Calls Try.prog 6 #[.int .i64 a0, .slice a1 len1 cap1, .int .i64 a2, .int .u32 a3] w fun e w' => e = .returned (.bool true) ∧ Below w.heap.size w w' := by
  obtain ⟨l1, rfl, hr1, hm1, hw1, hc1⟩ := ReadsInt.ofRowC w1
  obtain ⟨k, h⟩ := P a0 l1 a2 a3 w0 hm1 y1 hw1 w2 w3
  refine (glebelaw01_WireTurned.calls k a0 _ _ l1 a2 a3 true w (Kd.C_of_reads (d := (0 : Int)) (h1 := fun _ => rfl) hr1) hc1 h).mono ?_
  rintro e w' ⟨rfl, hd⟩
  exact ⟨rfl, hd⟩

end Go.Proofs.Ytimfeiobdcmhnaa.PR
