-- Written by a program of this session (wip/tools/hp.py) over the kit's print; nothing here is trusted: Lean checks it.
import Derived.RegionTactic
import Derived.BigRegion
import Derived.Test.YtnkfbkbllkdnoaaPWx0
import Derived.Test.YtnkfbkbllkdnoaaPWx3
import Derived.Test.YtnkfbkbllkdnoaaPWx7
namespace Go.Proofs.Ytnkfbkbllkdnoaa.PW
open Go.RowKit Go.Proofs.YtnkfbkbllkdnoaaW.PrintWords Go.Proofs.YtnkfbkbllkdnoaaW.PrintLast Go.Proofs.YtnkfbkbllkdnoaaW.PrintMore
attribute [local go_sem] max2_int min2_int max_two min_two max_three min_three max_four min_four   -- for this text's walks alone
set_option linter.unusedVariables false
set_option linter.unusedSimpArgs false

--OWN Derived.RegionTactic,Derived.BigRegion
/-! ### window_Plain: function 13 -/
attribute [local go_sem] max2_int min2_int max_two min_two max_three min_three max_four min_four
theorem idxP_0 (x y z u : Value) (W : World) : (Instr.index 66 (.agg #[x, y, z, u]) (.int .i64 0)).run Try.prog W = .ok (.agg #[x, y]) W := by kernel_rfl
theorem idxP_1 (x y z u : Value) (W : World) : (Instr.index 66 (.agg #[x, y, z, u]) (.int .i64 1)).run Try.prog W = .ok (.agg #[z, u]) W := by kernel_rfl
attribute [local go_sem] idxP_0 idxP_1
theorem lit_R (x : S29) (W : World) : Kd.R k29 29 (W.alloc (.cells #[.int .i64 x.f0, .int .i64 x.f1, .int .i64 x.f2, .int .i64 x.f3] 29)) W.heap.size (fun _ => True) (.slice (some ⟨W.heap.size, 0, none⟩) 1 1) [x] := by
  refine ⟨fun _ _ => trivial, [.int .i64 x.f0, .int .i64 x.f1, .int .i64 x.f2, .int .i64 x.f3], ?_, ?_⟩
  · have h2 := World.ownsRow_lit (base := W.heap.size) (e := 29) (size := 4) W #[.int .i64 x.f0, .int .i64 x.f1, .int .i64 x.f2, .int .i64 x.f3] 1 (Nat.le_refl _) (by simp [maxLen]) rfl
    exact h2
  · exact Reps.c4 (k29_mkM _ _ _ x) (Reps.none _ _)

attribute [local go_sem] max2_int min2_int max_two min_two max_three min_three max_four min_four   -- for this text's walks alone
set_option linter.unusedVariables false
set_option linter.unusedSimpArgs false

set_option maxHeartbeats 1000000 in
set_option maxRecDepth 100000 in
theorem window_part.calls (n count z : Int) (g : Nat) (w : World) (hg : g < w.heap.size) (hc : w.cell? ⟨g, 0, none⟩ = some (.int .i64 n)) (m : Int) (hm : wrap64 (n - z) = m) (f : Int) (hf : mn count m = f) (q : Int) (hq : wrap64 (count - f) = q) :
    Calls Try.prog 38 #[.int .i64 z, .int .i64 count, .pointer (some ⟨g, 0, none⟩)] w fun e w' => e = .returned (.agg #[.int .i64 z, .int .i64 f, .int .i64 0, .int .i64 q]) ∧ Below w.heap.size w w' := by
  have hB := Aside0.mk (Below.refl w.heap.size w)
  unfold mn at hf
  by_cases h : m < count
  · rw [if_pos h] at hf
    subst hf
    go_enter Try.func38, Try.ntmps38
    go_wp2
    refine bodyPost_ret (results_cell_row rfl _ _ w.heap.size 66 #[.int .i64 z, .int .i64 m, .int .i64 0, .int .i64 q] (0, 0) _ rfl (heap_alloc_new w _) Try.underlying66 rfl (by kernel_rfl)) rfl ?_
    exact ⟨rfl, below_alloc (Below.refl _ _) _⟩
  · rw [if_neg h] at hf
    subst hf
    obtain rfl : q = 0 := by rw [← hq, Int.sub_self]; unfold wrap64; omega
    clear hq
    go_enter Try.func38, Try.ntmps38
    go_wp2
    refine bodyPost_ret (results_cell_row rfl _ _ w.heap.size 66 #[.int .i64 z, .int .i64 count, .int .i64 0, .int .i64 0] (0, 0) _ rfl (heap_alloc_new w _) Try.underlying66 rfl (by kernel_rfl)) rfl ?_
    exact ⟨rfl, below_alloc (Below.refl _ _) _⟩
structure PMem (w W : World) (x y u v : Int) (g : Nat) (n : Int) : Prop where
  hz : w.heap.size + 2 ≤ g
  hg : g < W.heap.size
  r0 : W.cell? ⟨w.heap.size + 1, 0, none⟩ = some (.int .i64 x)
  r1 : W.cell? ⟨w.heap.size + 1, 1, none⟩ = some (.int .i64 y)
  r2 : W.cell? ⟨w.heap.size + 1, 2, none⟩ = some (.int .i64 u)
  r3 : W.cell? ⟨w.heap.size + 1, 3, none⟩ = some (.int .i64 v)
  c0 : W.cell? ⟨g, 0, none⟩ = some (.int .i64 n)
theorem PMem.step {w W W' : World} {x y u v n : Int} {g B : Nat} (h : PMem w W x y u v g n) (hB : g < B) (hW : B ≤ W.heap.size) (hb : Below B W W') : PMem w W' x y u v g n := by
  have hz := h.hz
  have hg := h.hg
  have cell : ∀ k o, k ≤ g → W'.cell? ⟨k, o, none⟩ = W.cell? ⟨k, o, none⟩ := fun k o hk => hb.cell (p := ⟨k, o, none⟩) (by simp; omega)
  exact ⟨hz, by have := hb.size; omega, (cell _ _ (by omega)).trans h.r0, (cell _ _ (by omega)).trans h.r1, (cell _ _ (by omega)).trans h.r2, (cell _ _ (by omega)).trans h.r3, (cell _ _ (by omega)).trans h.c0⟩
def window_Plain.parts (n from_ count : Int) : List (Int × Int) := [(from_, mn count (wrap64 (n - from_))), (0, wrap64 (count - mn count (wrap64 (n - from_))))]
/-- What the four parts leave, in order; no answer where there would be no room (there always is). -/
def window_Plain.f (k : Nat) (a0_0 : Int) (a1_0 : Int) (a1_1 : Int) (a1_2 : Int) (a1_3 : Int) : Option (List S29 × Int) :=
  (torus_Torus_Side.f a0_0).bind fun n => (torus_Torus_Has.f a0_0 a1_0 a1_1).bind fun b =>
    if b = true then (if mn a1_2 a1_3 < 0 then some ([], 1) else if mx a1_2 a1_3 > n then some ([], 1) else
      (window_full.f k [⟨a1_0, a1_1, mn a1_2 (wrap64 (n - a1_0)), mn a1_3 (wrap64 (n - a1_1))⟩]).bind fun r1 =>
      (window_full.f k [⟨a1_0, 0, mn a1_2 (wrap64 (n - a1_0)), wrap64 (a1_3 - mn a1_3 (wrap64 (n - a1_1)))⟩]).bind fun r2 =>
      (window_full.f k [⟨0, a1_1, wrap64 (a1_2 - mn a1_2 (wrap64 (n - a1_0))), mn a1_3 (wrap64 (n - a1_1))⟩]).bind fun r3 =>
      (window_full.f k [⟨0, 0, wrap64 (a1_2 - mn a1_2 (wrap64 (n - a1_0))), wrap64 (a1_3 - mn a1_3 (wrap64 (n - a1_1)))⟩]).bind fun r4 =>
      if r1.length + r2.length + r3.length + r4.length ≤ 1000 then some (r1 ++ r2 ++ r3 ++ r4, 0) else none)
    else some ([], 1)
theorem window_Plain.mono : ∀ a0 a1 a2 a3 a4 k, LeO (window_Plain.f k a0 a1 a2 a3 a4) (window_Plain.f (k + 1) a0 a1 a2 a3 a4) := by
  intro a0 a1 a2 a3 a4 k
  unfold window_Plain.f
  exact LeO.bind (LeO.refl _) fun _ => LeO.bind (LeO.refl _) fun _ => LeO.ite (LeO.ite (LeO.refl _) (LeO.ite (LeO.refl _) (LeO.bind (window_full.mono _ _) fun _ => LeO.bind (window_full.mono _ _) fun _ => LeO.bind (window_full.mono _ _) fun _ => LeO.bind (window_full.mono _ _) fun _ => LeO.refl _))) (LeO.refl _)
/-- What is laid up behind i whole columns and j parts of the next. -/
def window_Plain.upto (l1 l2 l3 l4 : List S29) : Nat → Nat → List S29
  | 0, 0 => []
  | 0, 1 => l1
  | 0, _ => l1 ++ l2
  | 1, 0 => l1 ++ l2
  | 1, 1 => l1 ++ l2 ++ l3
  | _, _ => l1 ++ l2 ++ l3 ++ l4
set_option maxHeartbeats 2000000 in
set_option maxRecDepth 100000 in
theorem window_Plain.calls (k : Nat) (a0_0 : Int) (a1_0 : Int) (a1_1 : Int) (a1_2 : Int) (a1_3 : Int) (r1 : List S29) (r2 : Int) (w : World) (h : window_Plain.f k a0_0 a1_0 a1_1 a1_2 a1_3 = some (r1, r2)) :
    Calls Try.prog 13 #[.agg #[.int .i64 a0_0], .agg #[.int .i64 a1_0, .int .i64 a1_1, .int .i64 a1_2, .int .i64 a1_3]] w fun e w' => ∃ v0_ : Value, e = .returned (.tuple #[v0_, .int .i64 r2]) ∧ Kd.R k29 29 w' w.heap.size (fun _ => True) v0_ r1 ∧ Below w.heap.size w w' := by
  obtain ⟨n, hn, h⟩ := Option.bind_eq_some_iff.mp h
  obtain ⟨b, hb, h⟩ := Option.bind_eq_some_iff.mp h
  have Hn := Aside0.mk hn
  have Hb := Aside0.mk hb
  have Hh := Aside0.mk h
  clear hn hb h
  go_enter Try.func13, Try.ntmps13
  go_wp2_with fail
  refine (torus_Torus_Side.calls _ _ _ Hn.out).mono ?_
  rintro e w1 ⟨rfl, hb1⟩
  have hz : w.heap.size < w1.heap.size := by have := hb1.size; simp at this; omega
  have hz' : w.heap.size + 1 < w1.heap.size := by have := hb1.size; simp at this; omega
  have c0 : w1.cell? ⟨w.heap.size, 0, none⟩ = some (.int .i64 a0_0) := (hb1.cell (p := ⟨w.heap.size, 0, none⟩) (by simp; omega)).trans (by go_simp)
  have r0 : w1.cell? ⟨w.heap.size + 1, 0, none⟩ = some (.int .i64 a1_0) := (hb1.cell (p := ⟨w.heap.size + 1, 0, none⟩) (by simp)).trans (by go_simp)
  have r1' : w1.cell? ⟨w.heap.size + 1, 1, none⟩ = some (.int .i64 a1_1) := (hb1.cell (p := ⟨w.heap.size + 1, 1, none⟩) (by simp)).trans (by go_simp)
  have r2' : w1.cell? ⟨w.heap.size + 1, 2, none⟩ = some (.int .i64 a1_2) := (hb1.cell (p := ⟨w.heap.size + 1, 2, none⟩) (by simp)).trans (by go_simp)
  have r3 : w1.cell? ⟨w.heap.size + 1, 3, none⟩ = some (.int .i64 a1_3) := (hb1.cell (p := ⟨w.heap.size + 1, 3, none⟩) (by simp)).trans (by go_simp)
  have HB1 := Aside0.mk (below_step (below_alloc (below_alloc (Below.refl _ w) _) _) hb1)
  clear hb1
  go_wp2_with fail
  refine (torus_Torus_Has.calls _ _ _ _ _ Hb.out).mono ?_
  rintro e w2 ⟨rfl, hb2⟩
  have hz2 : w1.heap.size < w2.heap.size := by have := hb2.size; simp at this; omega
  have pm : PMem w w2 a1_0 a1_1 a1_2 a1_3 w1.heap.size n := by
    have cell : ∀ g o, g < w1.heap.size → w2.cell? ⟨g, o, none⟩ = w1.cell? ⟨g, o, none⟩ := fun g o hg => ((hb2.cell (p := ⟨g, o, none⟩) (by simp; omega)).trans (World.cell?_alloc_lt w1 _ _ (by simpa using hg)))
    exact ⟨by omega, hz2, (cell _ _ hz').trans r0, (cell _ _ hz').trans r1', (cell _ _ hz').trans r2', (cell _ _ hz').trans r3, (hb2.cell (p := ⟨w1.heap.size, 0, none⟩) (by simp)).trans (by go_simp)⟩
  have HB2 := Aside0.mk (below_step (below_alloc HB1.out _) hb2)
  clear hb2 c0 r0 r1' r2' r3 HB1
  have HP := Aside0.mk pm
  obtain ⟨gz, gg, r0, r1', r2', r3, c0⟩ := pm
  cases b with
  | false =>
    have hr := Hh.out
    simp at hr
    obtain ⟨rfl, rfl⟩ := hr
    go_wp2
    go_ret2
    exact ⟨_, rfl, Kd.R_nil _ _ _ _ _, HB2.out⟩
  | true =>
    have hh := Hh.out
    rw [if_pos rfl] at hh
    obtain ⟨p, hp⟩ : ∃ p, mn a1_2 a1_3 = p := ⟨_, rfl⟩
    obtain ⟨q, hq⟩ : ∃ q, mx a1_2 a1_3 = q := ⟨_, rfl⟩
    rw [hp, hq] at hh
    replace Hh := Aside0.mk hh
    clear hh
    have hp' : (if a1_3 < a1_2 then a1_3 else a1_2) = p := hp
    have hq' : (if a1_2 < a1_3 then a1_3 else a1_2) = q := hq
    clear hp hq
    by_cases h1 : p < 0
    · have hr := Hh.out
      rw [if_pos h1] at hr
      simp at hr
      obtain ⟨rfl, rfl⟩ := hr
      go_wp2
      go_ret2
      exact ⟨_, rfl, Kd.R_nil _ _ _ _ _, HB2.out⟩
    · by_cases h2 : n < q
      · have hr := Hh.out
        rw [if_neg h1, if_pos h2] at hr
        simp at hr
        obtain ⟨rfl, rfl⟩ := hr
        go_wp2
        go_ret2
        exact ⟨_, rfl, Kd.R_nil _ _ _ _ _, HB2.out⟩
      · have hr := Hh.out
        rw [if_neg h1, if_neg h2] at hr
        obtain ⟨l1, hl1, hr⟩ := Option.bind_eq_some_iff.mp hr
        obtain ⟨l2, hl2, hr⟩ := Option.bind_eq_some_iff.mp hr
        obtain ⟨l3, hl3, hr⟩ := Option.bind_eq_some_iff.mp hr
        obtain ⟨l4, hl4, hr⟩ := Option.bind_eq_some_iff.mp hr
        by_cases hlen : l1.length + l2.length + l3.length + l4.length ≤ 1000
        · rw [if_pos hlen] at hr
          simp only [Option.some.injEq, Prod.mk.injEq] at hr
          obtain ⟨rfl, rfl⟩ := hr
          clear Hh
          obtain ⟨m1, hm1⟩ : ∃ m, wrap64 (n - a1_0) = m := ⟨_, rfl⟩
          obtain ⟨f1, hf1⟩ : ∃ m, mn a1_2 m1 = m := ⟨_, rfl⟩
          obtain ⟨g1, hg1⟩ : ∃ m, wrap64 (a1_2 - f1) = m := ⟨_, rfl⟩
          obtain ⟨m2, hm2⟩ : ∃ m, wrap64 (n - a1_1) = m := ⟨_, rfl⟩
          obtain ⟨f2, hf2⟩ : ∃ m, mn a1_3 m2 = m := ⟨_, rfl⟩
          obtain ⟨g2, hg2⟩ : ∃ m, wrap64 (a1_3 - f2) = m := ⟨_, rfl⟩
          rw [hm1, hf1, hm2, hf2] at hl1
          rw [hm1, hf1, hm2, hf2, hg2] at hl2
          rw [hm1, hf1, hm2, hf2, hg1] at hl3
          rw [hm1, hf1, hm2, hf2, hg1, hg2] at hl4
          have H1 := Aside0.mk (And.intro hm1 (And.intro hf1 hg1))
          have H2 := Aside0.mk (And.intro hm2 (And.intro hf2 hg2))
          have L1 := Aside0.mk hl1
          have L2 := Aside0.mk hl2
          have L3 := Aside0.mk hl3
          have L4 := Aside0.mk hl4
          have LL := Aside0.mk hlen
          clear hm1 hf1 hg1 hm2 hf2 hg2 hl1 hl2 hl3 hl4 hlen
          go_wp2_with fail
          refine (window_part.calls n a1_2 a1_0 w1.heap.size w2 gg c0 m1 H1.out.1 f1 H1.out.2.1 g1 H1.out.2.2).mono ?_
          rintro e w3 ⟨rfl, hb3⟩
          have HP3 := Aside0.mk (HP.out.step gg (Nat.le_refl _) hb3)
          have HB3 := Aside0.mk (below_step HB2.out hb3)
          clear hb3 r0 r1' r2' r3 c0 gz gg HP
          obtain ⟨gz, gg, r0, r1', r2', r3, c0⟩ := HP3.out
          go_wp2_with fail
          have LW : w1.heap.size < w3.heap.size := gg
          go_loopw [8, 47] (fun v c wr => ∃ i : Nat, i ≤ 2 ∧ c = .int .i64 i ∧ Kd.R k29 29 wr w3.heap.size (fun _ => True) v (window_Plain.upto l1 l2 l3 l4 i 0) ∧ Below w3.heap.size w3 wr) (fun _ c _ => (2 - intOf c).toNat)
          case atStart => exact ⟨0, by omega, rfl, Kd.R_nil _ _ _ _ _, Below.refl _ _⟩
          case round =>
            rename World => wo
            obtain ⟨i, hi, rfl, hR, hBr⟩ := hrel
            have HR := Aside0.mk hR
            have HBr := Aside0.mk hBr
            clear hR
            have lv : ∀ g o, g < w3.heap.size → wo.cell? ⟨g, o, none⟩ = w3.cell? ⟨g, o, none⟩ := fun g o hg => hBr.cell (p := ⟨g, o, none⟩) (by simpa using hg)
            have r0a := (lv _ 0 (by omega)).trans r0
            have r1a := (lv _ 1 (by omega)).trans r1'
            have r2a := (lv _ 2 (by omega)).trans r2'
            have r3a := (lv _ 3 (by omega)).trans r3
            have c0a := (lv _ 0 gg).trans c0
            have hsz := hBr.size
            have hz4 : w.heap.size < wo.heap.size := by omega
            have hz4' : w.heap.size + 1 < wo.heap.size := by omega
            have gg4 : w1.heap.size < wo.heap.size := by omega
            clear lv hBr
            rcases (by omega : i = 0 ∨ i = 1 ∨ i = 2) with rfl | rfl | rfl
            · go_wp2_with fail
              refine (window_part.calls n a1_3 a1_1 w1.heap.size _ (by simp; omega) ((World.cell?_alloc_lt wo _ _ (by simpa using gg4)).trans c0a) m2 H2.out.1 f2 H2.out.2.1 g2 H2.out.2.2).mono ?_
              rintro e w4 ⟨rfl, hb4⟩
              have BX := Aside0.mk (blk_below (g := wo.heap.size) (blk_new wo (.cells #[.int .i64 a1_0, .int .i64 f1] 65)) hb4)
              have HR4 := Aside0.mk (Kd.R_below (Kd.R_alloc HR.out (.cells #[.int .i64 a1_0, .int .i64 f1] 65)) hb4)
              have HB4 := Aside0.mk (below_step (below_alloc HBr.out (.cells #[.int .i64 a1_0, .int .i64 f1] 65)) hb4)
              clear hb4
              go_wp2_with fail
              go_loopw [8, 56] (fun v c wq => ∃ i : Nat, i ≤ 2 ∧ c = .int .i64 i ∧ Kd.R k29 29 wq w3.heap.size (fun _ => True) v (window_Plain.upto l1 l2 l3 l4 0 i) ∧ Below w3.heap.size w3 wq ∧ wq.heap[wo.heap.size]? = some (.cells #[.int .i64 a1_0, .int .i64 f1] 65 (0, 0))) (fun _ c _ => (2 - intOf c).toNat)
              case atStart => exact ⟨0, by omega, rfl, HR4.out, HB4.out, BX.out⟩
              case round =>
                obtain ⟨i, hi, rfl, hR, hBq, hbx⟩ := hrel
                have HQ := Aside0.mk hR
                have HBq := Aside0.mk hBq
                have BX2 := Aside0.mk hbx
                clear hR HR4 HB4 BX
                have x0 : wr.cell? ⟨wo.heap.size, 0, none⟩ = some (.int .i64 a1_0) := (blk_cell hbx 0).trans rfl
                have x1 : wr.cell? ⟨wo.heap.size, 1, none⟩ = some (.int .i64 f1) := (blk_cell hbx 1).trans rfl
                have hzx : wo.heap.size < wr.heap.size := blk_lt hbx
                have hsz5 := hBq.size
                clear hbx hBq
                rcases (by omega : i = 0 ∨ i = 1 ∨ i = 2) with rfl | rfl | rfl
                · go_wp2_with fail
                  have HO5 := Aside0.mk (lit_R (⟨a1_0, a1_1, f1, f2⟩ : S29) (wr.alloc (.cells #[.int .i64 a1_1, .int .i64 f2] 65)))
                  refine (window_full.calls k _ _ [(⟨a1_0, a1_1, f1, f2⟩ : S29)] l1 _ (by simpa using (Kd.R_reads' HO5.out).2.2) (Kd.R_reads' HO5.out).2.1 L1.out).mono ?_
                  rintro e w6 ⟨v6, rfl, ho6, hb6⟩
                  have HO6 := Aside0.mk ho6
                  have n0_ := Aside0.mk (Kd.R_below (Kd.R_alloc (Kd.R_alloc HQ.out (.cells #[.int .i64 a1_1, .int .i64 f2] 65)) (.cells #[.int .i64 a1_0, .int .i64 a1_1, .int .i64 f1, .int .i64 f2] 29)) hb6)
                  have n1_ := Aside0.mk (blk_below (g := wo.heap.size) (blk_alloc (blk_alloc BX2.out (.cells #[.int .i64 a1_1, .int .i64 f2] 65)) (.cells #[.int .i64 a1_0, .int .i64 a1_1, .int .i64 f1, .int .i64 f2] 29)) hb6)
                  have n2_ := Aside0.mk (below_step (below_alloc (below_alloc HBq.out (.cells #[.int .i64 a1_1, .int .i64 f2] 65)) (.cells #[.int .i64 a1_0, .int .i64 a1_1, .int .i64 f1, .int .i64 f2] 29)) hb6)
                  clear HQ BX2 HBq ho6 hb6 HO5
                  obtain ⟨A6, c6, e6⟩ := Kd.R_slice HO6.out
                  subst e6
                  go_wp2_with ((with_reducible refine gate_builtin (b := .append) (xs := #[.tmp 59, .tmp 70]) rfl ?_); at_builtin; refine Kd.R_append_rows k29 (w0 := w3) w3.heap.size rfl (.tmp 59) (.tmp 70) 36 29 (.agg #[(.int .i64 0), (.int .i64 0), (.int .i64 0), (.int .i64 0)]) 32 rfl Try.underlying36 info29 rfl (by decide) (by omega) u8 (window_Plain.upto l1 l2 l3 l4 0 0) l1 _ _ _ (fun _ => True) (fun _ => False) rfl rfl ?aO ?aR (fun _ _ h => h) (fun _ h => h.elim) ?aF ?aB ?aS ?aL ?_; (case aR => exact (Kd.R_reads' HO6.out).2.2); (case aB => exact n2_.out); (case aF => exact (fun _ _ => trivial)); (case aO => exact n0_.out); (case aS => exact (below_size n2_.out)); (case aL => have := LL.out; simp only [window_Plain.upto, List.length_append, List.length_nil]; omega); intro v7 w7 ho hb hg hat; have m0_ := Aside0.mk ho; have m1_ := Aside0.mk (blk_grown (g := wo.heap.size) n1_.out hg (Kd.R_ne n0_.out n1_.out (by decide))); have m2_ := Aside0.mk hb; clear n0_ n1_ n2_ HO6 ho hb hg hat)
                  go_roundw
                  case rel => exact ⟨1, by omega, by rfl, m0_.out, m2_.out, m1_.out⟩
                  case measure => simp [intOf]
                · go_wp2_with fail
                  have HO5 := Aside0.mk (lit_R (⟨a1_0, 0, f1, g2⟩ : S29) (wr.alloc (.cells #[.int .i64 0, .int .i64 g2] 65)))
                  refine (window_full.calls k _ _ [(⟨a1_0, 0, f1, g2⟩ : S29)] l2 _ (by simpa using (Kd.R_reads' HO5.out).2.2) (Kd.R_reads' HO5.out).2.1 L2.out).mono ?_
                  rintro e w6 ⟨v6, rfl, ho6, hb6⟩
                  have HO6 := Aside0.mk ho6
                  have n0_ := Aside0.mk (Kd.R_below (Kd.R_alloc (Kd.R_alloc HQ.out (.cells #[.int .i64 0, .int .i64 g2] 65)) (.cells #[.int .i64 a1_0, .int .i64 0, .int .i64 f1, .int .i64 g2] 29)) hb6)
                  have n1_ := Aside0.mk (blk_below (g := wo.heap.size) (blk_alloc (blk_alloc BX2.out (.cells #[.int .i64 0, .int .i64 g2] 65)) (.cells #[.int .i64 a1_0, .int .i64 0, .int .i64 f1, .int .i64 g2] 29)) hb6)
                  have n2_ := Aside0.mk (below_step (below_alloc (below_alloc HBq.out (.cells #[.int .i64 0, .int .i64 g2] 65)) (.cells #[.int .i64 a1_0, .int .i64 0, .int .i64 f1, .int .i64 g2] 29)) hb6)
                  clear HQ BX2 HBq ho6 hb6 HO5
                  obtain ⟨A6, c6, e6⟩ := Kd.R_slice HO6.out
                  subst e6
                  go_wp2_with ((with_reducible refine gate_builtin (b := .append) (xs := #[.tmp 59, .tmp 70]) rfl ?_); at_builtin; refine Kd.R_append_rows k29 (w0 := w3) w3.heap.size rfl (.tmp 59) (.tmp 70) 36 29 (.agg #[(.int .i64 0), (.int .i64 0), (.int .i64 0), (.int .i64 0)]) 32 rfl Try.underlying36 info29 rfl (by decide) (by omega) u8 (window_Plain.upto l1 l2 l3 l4 0 1) l2 _ _ _ (fun _ => True) (fun _ => False) rfl rfl ?aO ?aR (fun _ _ h => h) (fun _ h => h.elim) ?aF ?aB ?aS ?aL ?_; (case aR => exact (Kd.R_reads' HO6.out).2.2); (case aB => exact n2_.out); (case aF => exact (fun _ _ => trivial)); (case aO => exact n0_.out); (case aS => exact (below_size n2_.out)); (case aL => have := LL.out; simp only [window_Plain.upto, List.length_append, List.length_nil]; omega); intro v7 w7 ho hb hg hat; have m0_ := Aside0.mk ho; have m1_ := Aside0.mk (blk_grown (g := wo.heap.size) n1_.out hg (Kd.R_ne n0_.out n1_.out (by decide))); have m2_ := Aside0.mk hb; clear n0_ n1_ n2_ HO6 ho hb hg hat)
                  go_roundw
                  case rel => exact ⟨2, by omega, by rfl, m0_.out, m2_.out, m1_.out⟩
                  case measure => simp [intOf]
                · go_wp2_with fail
                  go_roundw
                  case rel => exact ⟨1, by omega, by rfl, HQ.out, HBq.out⟩
                  case measure => simp [intOf]
            · go_wp2_with fail
              refine (window_part.calls n a1_3 a1_1 w1.heap.size _ (by simp; omega) ((World.cell?_alloc_lt wo _ _ (by simpa using gg4)).trans c0a) m2 H2.out.1 f2 H2.out.2.1 g2 H2.out.2.2).mono ?_
              rintro e w4 ⟨rfl, hb4⟩
              have BX := Aside0.mk (blk_below (g := wo.heap.size) (blk_new wo (.cells #[.int .i64 0, .int .i64 g1] 65)) hb4)
              have HR4 := Aside0.mk (Kd.R_below (Kd.R_alloc HR.out (.cells #[.int .i64 0, .int .i64 g1] 65)) hb4)
              have HB4 := Aside0.mk (below_step (below_alloc HBr.out (.cells #[.int .i64 0, .int .i64 g1] 65)) hb4)
              clear hb4
              go_wp2_with fail
              go_loopw [8, 56] (fun v c wq => ∃ i : Nat, i ≤ 2 ∧ c = .int .i64 i ∧ Kd.R k29 29 wq w3.heap.size (fun _ => True) v (window_Plain.upto l1 l2 l3 l4 1 i) ∧ Below w3.heap.size w3 wq ∧ wq.heap[wo.heap.size]? = some (.cells #[.int .i64 0, .int .i64 g1] 65 (0, 0))) (fun _ c _ => (2 - intOf c).toNat)
              case atStart => exact ⟨0, by omega, rfl, HR4.out, HB4.out, BX.out⟩
              case round =>
                obtain ⟨i, hi, rfl, hR, hBq, hbx⟩ := hrel
                have HQ := Aside0.mk hR
                have HBq := Aside0.mk hBq
                have BX2 := Aside0.mk hbx
                clear hR HR4 HB4 BX
                have x0 : wr.cell? ⟨wo.heap.size, 0, none⟩ = some (.int .i64 0) := (blk_cell hbx 0).trans rfl
                have x1 : wr.cell? ⟨wo.heap.size, 1, none⟩ = some (.int .i64 g1) := (blk_cell hbx 1).trans rfl
                have hzx : wo.heap.size < wr.heap.size := blk_lt hbx
                have hsz5 := hBq.size
                clear hbx hBq
                rcases (by omega : i = 0 ∨ i = 1 ∨ i = 2) with rfl | rfl | rfl
                · go_wp2_with fail
                  have HO5 := Aside0.mk (lit_R (⟨0, a1_1, g1, f2⟩ : S29) (wr.alloc (.cells #[.int .i64 a1_1, .int .i64 f2] 65)))
                  refine (window_full.calls k _ _ [(⟨0, a1_1, g1, f2⟩ : S29)] l3 _ (by simpa using (Kd.R_reads' HO5.out).2.2) (Kd.R_reads' HO5.out).2.1 L3.out).mono ?_
                  rintro e w6 ⟨v6, rfl, ho6, hb6⟩
                  have HO6 := Aside0.mk ho6
                  have n0_ := Aside0.mk (Kd.R_below (Kd.R_alloc (Kd.R_alloc HQ.out (.cells #[.int .i64 a1_1, .int .i64 f2] 65)) (.cells #[.int .i64 0, .int .i64 a1_1, .int .i64 g1, .int .i64 f2] 29)) hb6)
                  have n1_ := Aside0.mk (blk_below (g := wo.heap.size) (blk_alloc (blk_alloc BX2.out (.cells #[.int .i64 a1_1, .int .i64 f2] 65)) (.cells #[.int .i64 0, .int .i64 a1_1, .int .i64 g1, .int .i64 f2] 29)) hb6)
                  have n2_ := Aside0.mk (below_step (below_alloc (below_alloc HBq.out (.cells #[.int .i64 a1_1, .int .i64 f2] 65)) (.cells #[.int .i64 0, .int .i64 a1_1, .int .i64 g1, .int .i64 f2] 29)) hb6)
                  clear HQ BX2 HBq ho6 hb6 HO5
                  obtain ⟨A6, c6, e6⟩ := Kd.R_slice HO6.out
                  subst e6
                  go_wp2_with ((with_reducible refine gate_builtin (b := .append) (xs := #[.tmp 59, .tmp 70]) rfl ?_); at_builtin; refine Kd.R_append_rows k29 (w0 := w3) w3.heap.size rfl (.tmp 59) (.tmp 70) 36 29 (.agg #[(.int .i64 0), (.int .i64 0), (.int .i64 0), (.int .i64 0)]) 32 rfl Try.underlying36 info29 rfl (by decide) (by omega) u8 (window_Plain.upto l1 l2 l3 l4 1 0) l3 _ _ _ (fun _ => True) (fun _ => False) rfl rfl ?aO ?aR (fun _ _ h => h) (fun _ h => h.elim) ?aF ?aB ?aS ?aL ?_; (case aR => exact (Kd.R_reads' HO6.out).2.2); (case aB => exact n2_.out); (case aF => exact (fun _ _ => trivial)); (case aO => exact n0_.out); (case aS => exact (below_size n2_.out)); (case aL => have := LL.out; simp only [window_Plain.upto, List.length_append, List.length_nil]; omega); intro v7 w7 ho hb hg hat; have m0_ := Aside0.mk ho; have m1_ := Aside0.mk (blk_grown (g := wo.heap.size) n1_.out hg (Kd.R_ne n0_.out n1_.out (by decide))); have m2_ := Aside0.mk hb; clear n0_ n1_ n2_ HO6 ho hb hg hat)
                  go_roundw
                  case rel => exact ⟨1, by omega, by rfl, m0_.out, m2_.out, m1_.out⟩
                  case measure => simp [intOf]
                · go_wp2_with fail
                  have HO5 := Aside0.mk (lit_R (⟨0, 0, g1, g2⟩ : S29) (wr.alloc (.cells #[.int .i64 0, .int .i64 g2] 65)))
                  refine (window_full.calls k _ _ [(⟨0, 0, g1, g2⟩ : S29)] l4 _ (by simpa using (Kd.R_reads' HO5.out).2.2) (Kd.R_reads' HO5.out).2.1 L4.out).mono ?_
                  rintro e w6 ⟨v6, rfl, ho6, hb6⟩
                  have HO6 := Aside0.mk ho6
                  have n0_ := Aside0.mk (Kd.R_below (Kd.R_alloc (Kd.R_alloc HQ.out (.cells #[.int .i64 0, .int .i64 g2] 65)) (.cells #[.int .i64 0, .int .i64 0, .int .i64 g1, .int .i64 g2] 29)) hb6)
                  have n1_ := Aside0.mk (blk_below (g := wo.heap.size) (blk_alloc (blk_alloc BX2.out (.cells #[.int .i64 0, .int .i64 g2] 65)) (.cells #[.int .i64 0, .int .i64 0, .int .i64 g1, .int .i64 g2] 29)) hb6)
                  have n2_ := Aside0.mk (below_step (below_alloc (below_alloc HBq.out (.cells #[.int .i64 0, .int .i64 g2] 65)) (.cells #[.int .i64 0, .int .i64 0, .int .i64 g1, .int .i64 g2] 29)) hb6)
                  clear HQ BX2 HBq ho6 hb6 HO5
                  obtain ⟨A6, c6, e6⟩ := Kd.R_slice HO6.out
                  subst e6
                  go_wp2_with ((with_reducible refine gate_builtin (b := .append) (xs := #[.tmp 59, .tmp 70]) rfl ?_); at_builtin; refine Kd.R_append_rows k29 (w0 := w3) w3.heap.size rfl (.tmp 59) (.tmp 70) 36 29 (.agg #[(.int .i64 0), (.int .i64 0), (.int .i64 0), (.int .i64 0)]) 32 rfl Try.underlying36 info29 rfl (by decide) (by omega) u8 (window_Plain.upto l1 l2 l3 l4 1 1) l4 _ _ _ (fun _ => True) (fun _ => False) rfl rfl ?aO ?aR (fun _ _ h => h) (fun _ h => h.elim) ?aF ?aB ?aS ?aL ?_; (case aR => exact (Kd.R_reads' HO6.out).2.2); (case aB => exact n2_.out); (case aF => exact (fun _ _ => trivial)); (case aO => exact n0_.out); (case aS => exact (below_size n2_.out)); (case aL => have := LL.out; simp only [window_Plain.upto, List.length_append, List.length_nil]; omega); intro v7 w7 ho hb hg hat; have m0_ := Aside0.mk ho; have m1_ := Aside0.mk (blk_grown (g := wo.heap.size) n1_.out hg (Kd.R_ne n0_.out n1_.out (by decide))); have m2_ := Aside0.mk hb; clear n0_ n1_ n2_ HO6 ho hb hg hat)
                  go_roundw
                  case rel => exact ⟨2, by omega, by rfl, m0_.out, m2_.out, m1_.out⟩
                  case measure => simp [intOf]
                · go_wp2_with fail
                  go_roundw
                  case rel => exact ⟨2, by omega, by rfl, HQ.out, HBq.out⟩
                  case measure => simp [intOf]
            · go_wp2_with fail
              go_ret2
              exact ⟨_, rfl, Kd.R_lower HR.out (by have := HB3.out.size; omega), below_step HB3.out HBr.out⟩
        · rw [if_neg hlen] at hr
          simp at hr

end Go.Proofs.Ytnkfbkbllkdnoaa.PW
