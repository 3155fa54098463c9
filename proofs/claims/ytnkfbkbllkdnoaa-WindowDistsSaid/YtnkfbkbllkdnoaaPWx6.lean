-- Written by a program of this session (wip/tools/hp.py) over the kit's print; nothing here is trusted: Lean checks it.
import Derived.RegionTactic
import Derived.BigRegion
import Derived.Deep.RegionWith
import Derived.Deep.RegionHeld3
import Derived.Test.YtnkfbkbllkdnoaaPWx0
import Derived.Test.YtnkfbkbllkdnoaaPWx3
import Derived.Test.YtnkfbkbllkdnoaaPWx4
import Derived.Test.YtnkfbkbllkdnoaaPWx5
namespace Go.Proofs.Ytnkfbkbllkdnoaa.PW
open Go.RowKit Go.Proofs.YtnkfbkbllkdnoaaW.PrintWords Go.Proofs.YtnkfbkbllkdnoaaW.PrintLast Go.Proofs.YtnkfbkbllkdnoaaW.PrintMore
attribute [local go_sem] max2_int min2_int max_two min_two max_three min_three max_four min_four   -- for this text's walks alone
set_option linter.unusedVariables false
set_option linter.unusedSimpArgs false

--OWN Derived.RegionTactic,Derived.BigRegion,Derived.Deep.RegionWith,Derived.Deep.RegionHeld3
/-! ### window_Dist: function 11 -/
def window_off.f (k : Nat) (K n lo hi : Int) : Option Int := if lo ≤ n ∧ n < hi then some 0 else (torus_Torus_Apart.f k K n lo).bind fun a => (torus_Torus_Apart.f k K n (wrap64 (hi - 1))).bind fun b => some (mn a b)
theorem window_off.mono : ∀ K n lo hi k, LeO (window_off.f k K n lo hi) (window_off.f (k + 1) K n lo hi) := by
  intro K n lo hi k
  unfold window_off.f
  refine LeO.ite (LeO.refl _) (LeO.bind (torus_Torus_Apart.mono _ _ _ _) fun _ => LeO.bind (torus_Torus_Apart.mono _ _ _ _) fun _ => LeO.refl _)
def window_Dist.f (k : Nat) (a0_0 : Int) (a1_0 : Int) (a1_1 : Int) (a1_2 : Int) (a1_3 : Int) (a2_0 : Int) (a2_1 : Int) : Option (Int) :=
  (window_Right.f a0_0 a1_0 a1_1 a1_2 a1_3).bind fun b1 => if b1 = true then ((window_Rect_empty.f a1_0 a1_1 a1_2 a1_3).bind fun b2 => if b2 = true then some (-1) else ((torus_Torus_Has.f a0_0 a2_0 a2_1).bind fun b3 => if b3 = true then
    ((window_off.f k a0_0 a2_0 a1_0 (wrap64 (a1_0 + a1_2))).bind fun o1 => (window_off.f k a0_0 a2_1 a1_1 (wrap64 (a1_1 + a1_3))).bind fun o2 => some (wrap64 (o1 + o2))) else some (-1))) else some (-1)
theorem window_Dist.mono : ∀ a0 a1 a2 a3 a4 a5 a6 k, LeO (window_Dist.f k a0 a1 a2 a3 a4 a5 a6) (window_Dist.f (k + 1) a0 a1 a2 a3 a4 a5 a6) := by
  intro a0 a1 a2 a3 a4 a5 a6 k
  unfold window_Dist.f
  exact LeO.bind (LeO.refl _) fun _ => LeO.ite (LeO.bind (LeO.refl _) fun _ => LeO.ite (LeO.refl _) (LeO.bind (LeO.refl _) fun _ => LeO.ite (LeO.bind (window_off.mono _ _ _ _ _) fun _ => LeO.bind (window_off.mono _ _ _ _ _) fun _ => LeO.refl _) (LeO.refl _))) (LeO.refl _)
theorem window_in {lo n hi : Int} (h : ¬ (lo ≤ n ∧ n < hi)) : n < lo ∨ (lo ≤ n ∧ hi ≤ n) := by omega
set_option maxHeartbeats 1000000 in
set_option maxRecDepth 100000 in
theorem window_off.calls (k : Nat) (K n lo hi r : Int) (g : Nat) (w : World) (hg : g < w.heap.size) (hc : w.cell? ⟨g, 0, none⟩ = some (.int .i64 K)) (h : window_off.f k K n lo hi = some r) :
    Calls Try.prog 35 #[.int .i64 n, .int .i64 lo, .int .i64 hi, .pointer (some ⟨g, 0, none⟩)] w fun e w' => e = .returned (.int .i64 r) ∧ Below w.heap.size w w' := by
  unfold window_off.f at h
  by_cases hin : lo ≤ n ∧ n < hi
  · rw [if_pos hin] at h
    obtain rfl := Option.some.inj h
    obtain ⟨h1, h2⟩ := hin
    clear h
    go_enter Try.func35, Try.ntmps35
    go_wp2
    go_ret
    exact ⟨rfl, Below.refl _ _⟩
  · rw [if_neg hin] at h
    obtain ⟨a, ha, h⟩ := Option.bind_eq_some_iff.mp h
    obtain ⟨b, hb, h⟩ := Option.bind_eq_some_iff.mp h
    obtain rfl := Option.some.inj h
    have Ha := Aside0.mk ha
    have Hb := Aside0.mk hb
    clear ha hb h
    obtain ⟨m, hm⟩ : ∃ m, wrap64 (hi - 1) = m := ⟨_, rfl⟩
    rw [hm] at Hb
    have hm2 : IntKind.i64.wrap (hi - 1) = m := by rw [← hm]; first | rfl | (unfold wrap64; rw [IntKind.wrap_i64])
    have HB := Aside0.mk (Below.refl w.heap.size w)
    have HG := Aside0.mk hg
    rcases window_in hin with h1 | ⟨h1, h2⟩
    all_goals
      clear hin
      go_enter Try.func35, Try.ntmps35
      go_wp2_with fail
      go_region_with (first | (go_at_call 33; (with_reducible refine (torus_Torus_Apart.calls _ _ _ _ _ _ Ha.out).mono ?_); rintro e wx ⟨rfl, hbx⟩; have hc : wx.cell? ⟨g, 0, none⟩ = some (.int .i64 K) := (hbx.cell (p := ⟨g, 0, none⟩) (by have := HG.out; have := HB.out.size; simp; omega)).trans hc; have HB := Aside0.mk (below_step (by first | exact HB.out | exact below_drew HB.out) hbx); clear hbx) | (go_at_call 33; (with_reducible refine (torus_Torus_Apart.calls _ _ _ _ _ _ Hb.out).mono ?_); rintro e wx ⟨rfl, hbx⟩; have HB := Aside0.mk (below_step (by first | exact HB.out | exact below_drew HB.out) hbx); clear hbx))
      all_goals go_wp2
      all_goals
        go_ret
        refine ⟨?_, HB.out⟩
        unfold mn
        first | (rw [if_pos (by assumption)]; rfl) | (rw [if_neg (by omega)]; rfl)
structure DMem (w W : World) (k x y u v p q : Int) : Prop where
  hz : w.heap.size + 3 ≤ W.heap.size
  c0 : W.cell? ⟨w.heap.size, 0, none⟩ = some (.int .i64 k)
  r0 : W.cell? ⟨w.heap.size + 1, 0, none⟩ = some (.int .i64 x)
  r1 : W.cell? ⟨w.heap.size + 1, 1, none⟩ = some (.int .i64 y)
  r2 : W.cell? ⟨w.heap.size + 1, 2, none⟩ = some (.int .i64 u)
  r3 : W.cell? ⟨w.heap.size + 1, 3, none⟩ = some (.int .i64 v)
  p0 : W.cell? ⟨w.heap.size + 1 + 1, 0, none⟩ = some (.int .i64 p)
  p1 : W.cell? ⟨w.heap.size + 1 + 1, 1, none⟩ = some (.int .i64 q)
  hb : Below w.heap.size w W
theorem DMem.step {w W W' : World} {k x y u v p q : Int} (h : DMem w W k x y u v p q) (hb : Below W.heap.size W W') : DMem w W' k x y u v p q := by
  have hz := h.hz
  have cell : ∀ g o, g < w.heap.size + 3 → W'.cell? ⟨g, o, none⟩ = W.cell? ⟨g, o, none⟩ := fun g o hg => hb.cell (p := ⟨g, o, none⟩) (by simp; omega)
  exact ⟨by have := hb.size; omega, (cell _ _ (by omega)).trans h.c0, (cell _ _ (by omega)).trans h.r0, (cell _ _ (by omega)).trans h.r1, (cell _ _ (by omega)).trans h.r2, (cell _ _ (by omega)).trans h.r3, (cell _ _ (by omega)).trans h.p0, (cell _ _ (by omega)).trans h.p1, below_step h.hb hb⟩
theorem DMem.drewN {w W : World} {k x y u v p q : Int} (h : DMem w W k x y u v p q) (n : Nat) : DMem w (W.drewN n) k x y u v p q := ⟨h.hz, h.c0, h.r0, h.r1, h.r2, h.r3, h.p0, h.p1, pw_below_drewN h.hb n⟩
theorem DMem.drew {w W : World} {k x y u v p q : Int} (h : DMem w W k x y u v p q) : DMem w W.drew k x y u v p q := ⟨h.hz, h.c0, h.r0, h.r1, h.r2, h.r3, h.p0, h.p1, below_drew h.hb⟩
theorem DMem.first (w : World) (k x y u v p q : Int) : DMem w (((w.alloc (.cells #[.int .i64 k] 27)).alloc (.cells #[.int .i64 x, .int .i64 y, .int .i64 u, .int .i64 v] 29)).alloc (.cells #[.int .i64 p, .int .i64 q] 25)) k x y u v p q := by
  refine ⟨by simp, ?_, ?_, ?_, ?_, ?_, ?_, ?_, below_alloc (below_alloc (below_alloc (Below.refl _ w) _) _) _⟩ <;> go_simp
set_option maxHeartbeats 2000000 in
set_option maxRecDepth 100000 in
theorem window_Dist.calls (k : Nat) (a0_0 : Int) (a1_0 : Int) (a1_1 : Int) (a1_2 : Int) (a1_3 : Int) (a2_0 : Int) (a2_1 : Int) (r : Int) (w : World) (h : window_Dist.f k a0_0 a1_0 a1_1 a1_2 a1_3 a2_0 a2_1 = some r) :
    Calls Try.prog 11 #[.agg #[.int .i64 a0_0], .agg #[.int .i64 a1_0, .int .i64 a1_1, .int .i64 a1_2, .int .i64 a1_3], .agg #[.int .i64 a2_0, .int .i64 a2_1]] w fun e w' => e = .returned (.int .i64 r) ∧ Below w.heap.size w w' := by
  obtain ⟨b1, hb1, h⟩ := Option.bind_eq_some_iff.mp h
  have Hb1 := Aside0.mk hb1
  have Hh := Aside0.mk h
  clear hb1 h
  go_enter Try.func11, Try.ntmps11
  go_wp2_with fail
  refine (window_Right.calls _ _ _ _ _ _ _ Hb1.out).mono ?_
  rintro e w1 ⟨rfl, hb1⟩
  have HM := Aside0.mk ((DMem.first w a0_0 a1_0 a1_1 a1_2 a1_3 a2_0 a2_1).step hb1)
  clear hb1
  obtain ⟨hz, c0, r0, r1, r2, r3, p0, p1, hb⟩ := HM.out
  clear hb
  cases b1 with
  | false =>
    have hr : r = -1 := by have := Hh.out; simp at this; exact this.symm
    subst hr
    go_wp2
    go_ret
    exact ⟨rfl, HM.out.hb⟩
  | true =>
    obtain ⟨b2, hb2, h⟩ := Option.bind_eq_some_iff.mp (show _ = some r by have := Hh.out; rw [if_pos rfl] at this; exact this)
    have Hb2 := Aside0.mk hb2
    replace Hh := Aside0.mk h
    clear hb2 h
    go_wp2_with fail
    refine (window_Rect_empty.calls _ _ _ _ _ _ Hb2.out).mono ?_
    rintro e w2 ⟨rfl, hb1⟩
    replace HM := Aside0.mk (HM.out.step hb1)
    clear hb1 hz c0 r0 r1 r2 r3 p0 p1
    obtain ⟨hz, c0, r0, r1, r2, r3, p0, p1, hb⟩ := HM.out
    clear hb
    cases b2 with
    | true =>
      have hr : r = -1 := by have := Hh.out; simp at this; exact this.symm
      subst hr
      go_wp2
      go_ret
      exact ⟨rfl, HM.out.hb⟩
    | false =>
      obtain ⟨b3, hb3, h⟩ := Option.bind_eq_some_iff.mp (show _ = some r by have := Hh.out; rw [if_neg (by decide)] at this; exact this)
      have Hb3 := Aside0.mk hb3
      replace Hh := Aside0.mk h
      clear hb3 h
      go_wp2_with fail
      refine (torus_Torus_Has.calls _ _ _ _ _ Hb3.out).mono ?_
      rintro e w3 ⟨rfl, hb1⟩
      replace HM := Aside0.mk (HM.out.step hb1)
      clear hb1 hz c0 r0 r1 r2 r3 p0 p1
      obtain ⟨hz, c0, r0, r1, r2, r3, p0, p1, hb⟩ := HM.out
      clear hb
      cases b3 with
      | false =>
        have hr : r = -1 := by have := Hh.out; simp at this; exact this.symm
        subst hr
        go_wp2
        go_ret
        exact ⟨rfl, HM.out.hb⟩
      | true =>
        obtain ⟨o1, ho1, h⟩ := Option.bind_eq_some_iff.mp (show _ = some r by have := Hh.out; rw [if_pos rfl] at this; exact this)
        obtain ⟨o2, ho2, h⟩ := Option.bind_eq_some_iff.mp h
        obtain rfl := Option.some.inj h
        have Ho1 := Aside0.mk ho1
        have Ho2 := Aside0.mk ho2
        clear ho1 ho2 h Hh
        go_wp2_with fail
        go_region_held3 (fun W => W.cell? ⟨w.heap.size, 0, none⟩ = some (.int .i64 a0_0) ∧ W.cell? ⟨w.heap.size + 1, 0, none⟩ = some (.int .i64 a1_0) ∧ W.cell? ⟨w.heap.size + 1, 1, none⟩ = some (.int .i64 a1_1) ∧ W.cell? ⟨w.heap.size + 1, 2, none⟩ = some (.int .i64 a1_2) ∧ W.cell? ⟨w.heap.size + 1, 3, none⟩ = some (.int .i64 a1_3) ∧ W.cell? ⟨w.heap.size + 1 + 1, 0, none⟩ = some (.int .i64 a2_0) ∧ W.cell? ⟨w.heap.size + 1 + 1, 1, none⟩ = some (.int .i64 a2_1)) (first | go_keep | exact ⟨c0, r0, r1, r2, r3, p0, p1⟩)
          (first | (go_at_call 36; (with_reducible refine (window_Rect_right.calls _ _ _ _ _ _ rfl).mono ?_); rintro e wx ⟨rfl, hbx⟩; have HM := Aside0.mk (show DMem w wx a0_0 a1_0 a1_1 a1_2 a1_3 a2_0 a2_1 from by first | exact HM.out.step hbx | exact HM.out.drew.step hbx | exact (HM.out.drewN _).step hbx); clear hbx; obtain ⟨hz, c0, r0, r1, r2, r3, p0, p1, hb⟩ := HM.out; clear hb) | (go_at_call 37; (with_reducible refine (window_Rect_low.calls _ _ _ _ _ _ rfl).mono ?_); rintro e wx ⟨rfl, hbx⟩; have HM := Aside0.mk (show DMem w wx a0_0 a1_0 a1_1 a1_2 a1_3 a2_0 a2_1 from by first | exact HM.out.step hbx | exact HM.out.drew.step hbx | exact (HM.out.drewN _).step hbx); clear hbx; obtain ⟨hz, c0, r0, r1, r2, r3, p0, p1, hb⟩ := HM.out; clear hb) | (go_at_call 35; (with_reducible refine (window_off.calls k a0_0 a2_0 a1_0 _ o1 _ _ ?_ ?_ Ho1.out).mono ?_); (first | omega | (simp; omega) | simp); (first | exact c0 | simp [*]); rintro e wx ⟨rfl, hbx⟩; have HM := Aside0.mk (show DMem w wx a0_0 a1_0 a1_1 a1_2 a1_3 a2_0 a2_1 from by first | exact HM.out.step hbx | exact HM.out.drew.step hbx | exact (HM.out.drewN _).step hbx); clear hbx; obtain ⟨hz, c0, r0, r1, r2, r3, p0, p1, hb⟩ := HM.out; clear hb) | (go_at_call 35; (with_reducible refine (window_off.calls k a0_0 a2_1 a1_1 _ o2 _ _ ?_ ?_ Ho2.out).mono ?_); (first | omega | (simp; omega) | simp); (first | exact c0 | simp [*]); rintro e wx ⟨rfl, hbx⟩; have HM := Aside0.mk (show DMem w wx a0_0 a1_0 a1_1 a1_2 a1_3 a2_0 a2_1 from by first | exact HM.out.step hbx | exact HM.out.drew.step hbx | exact (HM.out.drewN _).step hbx); clear hbx; obtain ⟨hz, c0, r0, r1, r2, r3, p0, p1, hb⟩ := HM.out; clear hb))
        go_wp2
        go_ret
        refine ⟨?_, HM.out.hb⟩
        have e1 : IntKind.i64.wrap (o1 + o2) = wrap64 (o1 + o2) := by first | rfl | (unfold wrap64; rw [IntKind.wrap_i64])
        rw [← e1]
        rfl

end Go.Proofs.Ytnkfbkbllkdnoaa.PW
