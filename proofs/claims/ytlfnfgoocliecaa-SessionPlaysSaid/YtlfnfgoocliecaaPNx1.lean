-- Written by a program of this session (wip/tools/hp.py) over the kit's print; nothing here is trusted: Lean checks it.
import Derived.Test.YtlfnfgoocliecaaPNx0
import Derived.RegionTactic
import Derived.BigRegion
import Derived.Laws.Rows
import Derived.Laws.Tables
import Derived.Laws.Cells
namespace Go.Proofs.Ytlfnfgoocliecaa.PN
open Go.RowKit Go.Proofs.YtlfnfgoocliecaaW.PrintWords Go.Proofs.YtlfnfgoocliecaaW.PrintLast Go.Proofs.YtlfnfgoocliecaaW.PrintMore
attribute [local go_sem] max2_int min2_int max_two min_two max_three min_three max_four min_four   -- for this text's walks alone
set_option linter.unusedVariables false
set_option linter.unusedSimpArgs false

/-! ### wire_Num: function 42 -/
mutual
def wire_Num.j0 : Nat → Int → Bool → Option (List Int × Int)
  | 0, _, _ => none
  | k + 1, x0, x10 => if x10 = true then (some (([] : List Int), 1)) else (wire_Num.l0 k x0 ([] : List Int))
def wire_Num.l0 : Nat → Int → List Int → Option (List Int × Int)
  | 0, _, _ => none
  | k + 1, x0, x4 => if x0 > 127 then (if x4.length < 140737488355328 then (wire_Num.l0 k (x0 / 128) (x4 ++ [Go.bits .or .u8 ((x0) % 256) 128])) else (none)) else (if x4.length < 140737488355328 then (some ((x4 ++ [(x0) % 256]), 0)) else (none))
end
def wire_Num.f (k : Nat) (a0 : Int) : Option (List Int × Int) := if a0 < 0 then (wire_Num.j0 k a0 true) else (wire_Num.j0 k a0 (decide (a0 > 9007199254740992)))
theorem wire_Num.mono_l : ∀ k, (∀ y0 y1, LeO (wire_Num.j0 k y0 y1) (wire_Num.j0 (k + 1) y0 y1)) ∧ (∀ y0 y1, LeO (wire_Num.l0 k y0 y1) (wire_Num.l0 (k + 1) y0 y1))
  | 0 => ⟨fun _ _ r h => by simp [wire_Num.j0] at h, fun _ _ r h => by simp [wire_Num.l0] at h⟩
  | k + 1 => by
    obtain ⟨ih0, ih1⟩ := wire_Num.mono_l k
    refine ⟨?_, ?_⟩
    · intro y0 y1
      unfold wire_Num.j0
      repeat' first
      | (with_reducible exact ih0 _ _)
      | (with_reducible exact ih1 _ _)
      | (with_reducible exact LeO.refl _)
      | (with_reducible exact LeO.none _)
      | (with_reducible refine LeO.ite ?_ ?_)
      | (with_reducible refine LeO.bind ?_ (fun _ => ?_))
      | exact ih0 _ _
      | exact ih1 _ _
      | exact LeO.none _
      | refine LeO.ite ?_ ?_
      | refine LeO.bind ?_ (fun _ => ?_)
    · intro y0 y1
      unfold wire_Num.l0
      repeat' first
      | (with_reducible exact ih0 _ _)
      | (with_reducible exact ih1 _ _)
      | (with_reducible exact LeO.refl _)
      | (with_reducible exact LeO.none _)
      | (with_reducible refine LeO.ite ?_ ?_)
      | (with_reducible refine LeO.bind ?_ (fun _ => ?_))
      | exact ih0 _ _
      | exact ih1 _ _
      | exact LeO.none _
      | refine LeO.ite ?_ ?_
      | refine LeO.bind ?_ (fun _ => ?_)
theorem wire_Num.mono : ∀ a0 k, LeO (wire_Num.f k a0) (wire_Num.f (k + 1) a0) := by
  intro a0 k
  obtain ⟨ih0, ih1⟩ := wire_Num.mono_l k
  unfold wire_Num.f
  repeat' first
      | (with_reducible exact ih0 _ _)
      | (with_reducible exact ih1 _ _)
      | (with_reducible exact LeO.refl _)
      | (with_reducible exact LeO.none _)
      | (with_reducible refine LeO.ite ?_ ?_)
      | (with_reducible refine LeO.bind ?_ (fun _ => ?_))
      | exact ih0 _ _
      | exact ih1 _ _
      | exact LeO.none _
      | refine LeO.ite ?_ ?_
      | refine LeO.bind ?_ (fun _ => ?_)
set_option maxHeartbeats 8000000 in
set_option maxRecDepth 100000 in
theorem wire_Num.calls (k : Nat) (a0 : Int) (r1 : List Int) (r2 : Int) (w : World) (h : wire_Num.f k a0 = some (r1, r2)) :
    Calls Try.prog 42 #[.int .i64 a0] w fun e w' => ∃ v0_ : Value, e = .returned (.tuple #[v0_, .int .i64 r2]) ∧ Kd.R (Kd.int .u8) 5 w' w.heap.size (fun _ => True) v0_ r1 ∧ Below w.heap.size w w' := by
  have HB := Aside0.mk (Below.refl w.heap.size w)
  have H : (if a0 < 0 then (wire_Num.j0 k a0 true) else (wire_Num.j0 k a0 (decide (a0 > 9007199254740992)))) = some (r1, r2) := h
  clear h
  have HC2 := Aside0.mk H
  clear H
  go_enter Try.func42, Try.ntmps42
  go_upto_region 1 with (fail)
  go_cut [10] (fun v10 wc => ∃ (kq : Nat) (x10_1 : Bool), v10 = .bool x10_1 ∧ Aside0 (wire_Num.j0 kq a0 x10_1 = some (r1, r2)) ∧ Aside0 (kq ≤ k) ∧ Aside0 (Below w.heap.size w wc))
  case first =>
    have H := HC2.out
    clear HC2
    by_cases c3 : a0 < 0
    · rw [if_pos c3] at H
      have c3b0 : decide (a0 < 0) = true := decide_eq_true c3
      clear c3
      (first | rw [c3b0] | (simp only [i64_w, i32_w]; rw [c3b0]) | skip)
      have H' := Aside0.mk H
      clear H
      go_wp2
      go_meet
      case rel => exact ⟨_, (true), (by first | rfl | (simp; done) | (simp [*]; done)), H', ⟨by first | omega | exact Nat.le_refl _⟩, ⟨by repeat (first | (with_reducible first | exact HB.out | apply below_alloc | apply pw_below_drewN | apply below_drew1) | exact HB.out)⟩⟩
    · rw [if_neg c3] at H
      have c3b0 : decide (a0 < 0) = false := decide_eq_false c3
      clear c3
      (first | rw [c3b0] | (simp only [i64_w, i32_w]; rw [c3b0]) | skip)
      have H' := Aside0.mk H
      clear H
      go_wp2
      go_meet
      case rel => exact ⟨_, (decide (a0 > 9007199254740992)), (by first | rfl | (simp; done) | (simp [*]; done)), H', ⟨by first | omega | exact Nat.le_refl _⟩, ⟨by repeat (first | (with_reducible first | exact HB.out | apply below_alloc | apply pw_below_drewN | apply below_drew1) | exact HB.out)⟩⟩
  case rest =>
    clear HC2
    try clear p2
    try clear c3
    try clear c3b0
    obtain ⟨kq, x10_1, rfl, HA, HJ1, HB⟩ := hcut
    cases kq with
    | zero => exact absurd HA.out (by simp [wire_Num.j0])
    | succ kj1 =>
      have H := HA.out
      clear HA
      simp only [wire_Num.j0] at H
      by_cases c4 : x10_1 = true
      · subst c4
        have H1 : (some (([] : List Int), 1)) = some (r1, r2) := by rw [if_pos rfl] at H; exact H
        clear H
        have H := H1
        clear H1
        simp only [Option.some.injEq, Prod.mk.injEq] at H
        obtain ⟨rfl, rfl⟩ := H
        go_wp2
        go_ret2
        exact ⟨_, by first | rfl | (simp [errW_none, errW_some] <;> rfl) | (simp [*, errW_none, errW_some] <;> rfl), by first | exact Kd.R_nil _ _ _ _ _ | exact Kd.N_nil _ _ _ _ _ | exact Kd.V_nil _ _ _ _ _ | exact Kd.Q_nil _ _ _ _ _ | exact Kd.S_nil _ _ _ _ _, by repeat (first | (with_reducible first | exact HB.out | apply below_alloc | apply pw_below_drewN | apply below_drew1) | exact HB.out)⟩
      · replace c4 := Bool.eq_false_iff.mpr c4
        subst c4
        have H1 : (wire_Num.l0 kj1 a0 ([] : List Int)) = some (r1, r2) := by rw [if_neg (show ¬ (false = true) by decide)] at H; exact H
        clear H
        have H := H1
        clear H1
        have H' := Aside0.mk H
        clear H
        go_wp2
        go_loopg [0, 4] kj1 (fun kq v0 v4 w' => ∃ (x0_2 : Int) (x4_2 : List Int), v0 = .int .i64 x0_2 ∧ Aside0 (wire_Num.l0 kq x0_2 x4_2 = some (r1, r2)) ∧ Aside0 (kq ≤ kj1) ∧ Aside0 (Kd.R (Kd.int .u8) 5 w' w.heap.size (fun _ => True) v4 x4_2) ∧ Aside0 (Below w.heap.size w w'))
        case atStart => exact ⟨(a0), (([] : List Int)), (by first | rfl | (simp; done) | (simp [*]; done)), H', ⟨Nat.le_refl _⟩, ⟨by first | exact Kd.R_nil _ _ _ _ _ | exact Kd.N_nil _ _ _ _ _ | exact Kd.V_nil _ _ _ _ _ | exact Kd.Q_nil _ _ _ _ _ | exact Kd.S_nil _ _ _ _ _⟩, ⟨by repeat (first | (with_reducible first | exact HB.out | apply below_alloc | apply pw_below_drewN | apply below_drew1) | exact HB.out)⟩⟩
        case round =>
          clear H'
          try clear p2
          try clear c3
          try clear c3b0
          try clear c4
          try clear p2
          obtain ⟨x0_2, x4_2, rfl, HA, HK2, HO_4, HB⟩ := hrel
          cases gk with
          | zero => exact absurd HA.out (by simp [wire_Num.l0])
          | succ k2 =>
            have H := HA.out
            clear HA
            simp only [wire_Num.l0] at H
            by_cases c5 : x0_2 > 127
            · rw [if_pos c5] at H
              have c5b0 : decide (127 < x0_2) = true := decide_eq_true c5
              clear c5
              by_cases c6 : x4_2.length < 140737488355328
              · rw [if_pos c6] at H
                have LMc6 := Aside0.mk c6
                clear c6
                obtain ⟨y101, hy101⟩ : ∃ y_ : List Int, y_ = (x4_2 ++ [Go.bits .or .u8 ((x0_2) % 256) 128]) := ⟨_, rfl⟩
                replace H : (wire_Num.l0 k2 (x0_2 / 128) y101) = some (r1, r2) := by first | (rw [hy101]; with_reducible exact H) | (have H2_ := (Option.bind_some _ _).symm.trans H; rw [hy101]; with_reducible exact H2_) | (have H2_ := (Option.bind_some _ _).symm.trans H; with_reducible exact H2_) | with_reducible exact H | (rw [hy101]; exact H) | exact H
                have Ny101 := Aside0.mk hy101
                clear hy101
                have H' := Aside0.mk H
                clear H
                go_wp2_with (first | ((with_reducible refine gate_builtin (b := .append) (xs := #[.tmp 15, .tmp 19]) rfl ?_); at_builtin; refine Kd.R_append (Kd.int .u8) (w0 := w) w.heap.size rfl (.tmp 15) (.tmp 19) 49 5 (.int .u8 0) 1 rfl Try.underlying49 info5 rfl (by decide) (by omega) u4 x4_2 (Go.bits .or .u8 ((x0_2) % 256) 128) [.int .u8 (Go.bits .or .u8 ((x0_2) % 256) 128)] (fun _ => True) (fun _ => False) rfl rfl ?aP (fun _ hk => hk.elim) ?aF ?aO ?aB ?aS ?aL ?_; (case aP => exact rfl); (case aB => exact (by repeat (first | (with_reducible first | exact HB.out | apply below_alloc | apply pw_below_drewN | apply below_drew1) | exact HB.out))); (case aF => exact (fun _ _ => trivial)); (case aO => exact (by (with_reducible repeat (first | apply Kd.R_alloc | apply Kd.R_drewN | apply Kd.R_drew)); exact HO_4.out)); (case aS => exact (below_size (by repeat (first | (with_reducible first | exact HB.out | apply below_alloc | apply pw_below_drewN | apply below_drew1) | exact HB.out)))); (case aL => have := LMc6.out; omega); intro v102 w7 ho hb hg hat; rw [← Ny101.out] at ho; have n0_ := Aside0.mk (hb); have n1_ := Aside0.mk (ho); clear HB; clear HO_4; have HB := n0_; have HO103 := n1_; clear n0_ n1_; clear ho hb hg hat))
                go_roundg k2
                case measure => have := HJ1.out; have := HK2.out; omega
                case rel => exact ⟨(x0_2 / 128), (y101), (by first | rfl | (simp; done) | (simp [*]; done)), H', ⟨by have := HJ1.out; have := HK2.out; omega⟩, ⟨by (with_reducible repeat (first | apply Kd.R_alloc | apply Kd.R_drewN | apply Kd.R_drew)); exact HO103.out⟩, ⟨by repeat (first | (with_reducible first | exact HB.out | apply below_alloc | apply pw_below_drewN | apply below_drew1) | exact HB.out)⟩⟩
              · rw [if_neg c6] at H
                exact absurd H (by simp)
            · rw [if_neg c5] at H
              have c5b0 : decide (127 < x0_2) = false := decide_eq_false c5
              clear c5
              by_cases c8 : x4_2.length < 140737488355328
              · rw [if_pos c8] at H
                have LMc8 := Aside0.mk c8
                clear c8
                obtain ⟨y104, hy104⟩ : ∃ y_ : List Int, y_ = (x4_2 ++ [(x0_2) % 256]) := ⟨_, rfl⟩
                replace H : (some (y104, 0)) = some (r1, r2) := by first | (rw [hy104]; with_reducible exact H) | (have H2_ := (Option.bind_some _ _).symm.trans H; rw [hy104]; with_reducible exact H2_) | (have H2_ := (Option.bind_some _ _).symm.trans H; with_reducible exact H2_) | with_reducible exact H | (rw [hy104]; exact H) | exact H
                have Ny104 := Aside0.mk hy104
                clear hy104
                simp only [Option.some.injEq, Prod.mk.injEq] at H
                obtain ⟨rfl, rfl⟩ := H
                go_wp2_with (first | ((with_reducible refine gate_builtin (b := .append) (xs := #[.tmp 21, .tmp 24]) rfl ?_); at_builtin; refine Kd.R_append (Kd.int .u8) (w0 := w) w.heap.size rfl (.tmp 21) (.tmp 24) 49 5 (.int .u8 0) 1 rfl Try.underlying49 info5 rfl (by decide) (by omega) u4 x4_2 ((x0_2) % 256) [.int .u8 ((x0_2) % 256)] (fun _ => True) (fun _ => False) rfl rfl ?aP (fun _ hk => hk.elim) ?aF ?aO ?aB ?aS ?aL ?_; (case aP => exact rfl); (case aB => exact (by repeat (first | (with_reducible first | exact HB.out | apply below_alloc | apply pw_below_drewN | apply below_drew1) | exact HB.out))); (case aF => exact (fun _ _ => trivial)); (case aO => exact (by (with_reducible repeat (first | apply Kd.R_alloc | apply Kd.R_drewN | apply Kd.R_drew)); exact HO_4.out)); (case aS => exact (below_size (by repeat (first | (with_reducible first | exact HB.out | apply below_alloc | apply pw_below_drewN | apply below_drew1) | exact HB.out)))); (case aL => have := LMc8.out; omega); intro v105 w9 ho hb hg hat; rw [← Ny104.out] at ho; have n0_ := Aside0.mk (hb); have n1_ := Aside0.mk (ho); clear HB; clear HO_4; have HB := n0_; have HO106 := n1_; clear n0_ n1_; clear ho hb hg hat))
                go_ret2
                exact ⟨_, by first | rfl | (simp [errW_none, errW_some] <;> rfl) | (simp [*, errW_none, errW_some] <;> rfl), by (with_reducible repeat (first | apply Kd.R_alloc | apply Kd.R_drewN | apply Kd.R_drew)); exact HO106.out, by repeat (first | (with_reducible first | exact HB.out | apply below_alloc | apply pw_below_drewN | apply below_drew1) | exact HB.out)⟩
              · rw [if_neg c8] at H
                exact absurd H (by simp)

section
open Go.RowKit Go.Proofs.YtlfnfgoocliecaaW.PrintWords Go.Proofs.YtlfnfgoocliecaaW.PrintLast Go.Proofs.YtlfnfgoocliecaaW.PrintMore
attribute [local go_sem] max2_int min2_int max_two min_two max_three min_three max_four min_four   -- for this text's walks alone
set_option linter.unusedVariables false
set_option linter.unusedSimpArgs false

/-! ### wire_Text: function 68 -/
def wire_Text.f (k : Nat) (a0 : ByteArray) : Option (List Int × Int) := if (a0.size : Int) > 131072 then (some (([] : List Int), 6)) else ((wire_Num.f k (a0.size : Int)).bind fun bt107 => (if bt107.1.length + a0.size < 140737488355328 then (some ((bt107.1 ++ bytesOf a0), bt107.2)) else (none)))
theorem wire_Text.mono : ∀ a0 k, LeO (wire_Text.f k a0) (wire_Text.f (k + 1) a0) := by
  intro a0 k
  unfold wire_Text.f
  repeat' first
      | (with_reducible exact wire_Num.mono _ _)
      | (with_reducible exact LeO.refl _)
      | (with_reducible exact LeO.none _)
      | (with_reducible refine LeO.ite ?_ ?_)
      | (with_reducible refine LeO.bind ?_ (fun _ => ?_))
      | exact wire_Num.mono _ _
      | exact LeO.none _
      | refine LeO.ite ?_ ?_
      | refine LeO.bind ?_ (fun _ => ?_)
set_option maxHeartbeats 8000000 in
set_option maxRecDepth 100000 in
theorem wire_Text.calls (k : Nat) (a0 : ByteArray) (r1 : List Int) (r2 : Int) (w : World) (h : wire_Text.f k a0 = some (r1, r2)) :
    Calls Try.prog 68 #[.string a0] w fun e w' => ∃ v0_ : Value, e = .returned (.tuple #[v0_, .int .i64 r2]) ∧ Kd.R (Kd.int .u8) 5 w' w.heap.size (fun _ => True) v0_ r1 ∧ Below w.heap.size w w' := by
  have HB := Aside0.mk (Below.refl w.heap.size w)
  have H : (if (a0.size : Int) > 131072 then (some (([] : List Int), 6)) else ((wire_Num.f k (a0.size : Int)).bind fun bt107 => (if bt107.1.length + a0.size < 140737488355328 then (some ((bt107.1 ++ bytesOf a0), bt107.2)) else (none)))) = some (r1, r2) := h
  clear h
  by_cases c2 : (a0.size : Int) > 131072
  · rw [if_pos c2] at H
    have c2b0 : decide (131072 < (a0.size : Int)) = true := decide_eq_true c2
    have c2b1 : decide (131072 < a0.size) = true := decide_eq_true (by omega)
    clear c2
    simp only [Option.some.injEq, Prod.mk.injEq] at H
    obtain ⟨rfl, rfl⟩ := H
    go_enter Try.func68, Try.ntmps68
    go_wp2
    go_ret2
    exact ⟨_, by first | rfl | (simp [errW_none, errW_some] <;> rfl) | (simp [*, errW_none, errW_some] <;> rfl), by first | exact Kd.R_nil _ _ _ _ _ | exact Kd.N_nil _ _ _ _ _ | exact Kd.V_nil _ _ _ _ _ | exact Kd.Q_nil _ _ _ _ _ | exact Kd.S_nil _ _ _ _ _, by repeat (first | (with_reducible first | exact HB.out | apply below_alloc | apply pw_below_drewN | apply below_drew1) | exact HB.out)⟩
  · rw [if_neg c2] at H
    have c2b0 : decide (131072 < (a0.size : Int)) = false := decide_eq_false c2
    have c2b1 : decide (131072 < a0.size) = false := decide_eq_false (by omega)
    clear c2
    replace H := Option.bind_eq_some_iff.mp H
    obtain ⟨⟨t107, t108⟩, A30, H⟩ := H
    replace H : (if t107.length + a0.size < 140737488355328 then (some ((t107 ++ bytesOf a0), t108)) else (none)) = some (r1, r2) := H
    have A3 := Aside0.mk A30
    clear A30
    by_cases c4 : t107.length + a0.size < 140737488355328
    · rw [if_pos c4] at H
      have LMc4 := Aside0.mk c4
      clear c4
      obtain ⟨y111, hy111⟩ : ∃ y_ : List Int, y_ = (t107 ++ bytesOf a0) := ⟨_, rfl⟩
      replace H : (some (y111, t108)) = some (r1, r2) := by first | (rw [hy111]; with_reducible exact H) | (have H2_ := (Option.bind_some _ _).symm.trans H; rw [hy111]; with_reducible exact H2_) | (have H2_ := (Option.bind_some _ _).symm.trans H; with_reducible exact H2_) | with_reducible exact H | (rw [hy111]; exact H) | exact H
      have Ny111 := Aside0.mk hy111
      clear hy111
      simp only [Option.some.injEq, Prod.mk.injEq] at H
      obtain ⟨rfl, rfl⟩ := H
      go_enter Try.func68, Try.ntmps68
      go_wp2_with (first | ((with_reducible refine gate_callee (f := 42) rfl ?_); refine goesL_ (some 12) rfl rfl Try.func42 (by kernel_rfl) rfl #[.int .i64 (a0.size : Int)] rfl (by (try simp only [List.map_toArray, List.map_cons, List.map_nil]); first | done | rfl | (simp only [List.length_drop, List.length_take]; rfl)) ?_; (with_reducible refine (wire_Num.calls k (a0.size : Int) t107 t108 _ A3.out).mono ?_); rintro e w5 ⟨v109, rfl, ho0, hb⟩; refine ⟨_, rfl, ?_⟩; have n0_ := Aside0.mk (Kd.R_lower ho0 (below_size (by repeat (first | (with_reducible first | exact HB.out | apply below_alloc | apply pw_below_drewN | apply below_drew1) | exact HB.out)))); have n1_ := Aside0.mk (below_step (by repeat (first | (with_reducible first | exact HB.out | apply below_alloc | apply pw_below_drewN | apply below_drew1) | exact HB.out)) hb); clear HB; have HO110 := n0_; have HB := n1_; clear n0_ n1_; (try clear hb); (try clear hb2); (try clear hk); (try clear hi); (try clear ho0)) | (at_builtin; refine print_append_str (w0 := w) w.heap.size rfl (.tmp 15) _ 49 9 5 rfl Try.underlying49 Try.underlying9 info5 v109 t107 a0 rfl rfl ?aO ?aB ?aS ?aL ?_; (case aB => exact (by repeat (first | (with_reducible first | exact HB.out | apply below_alloc | apply pw_below_drewN | apply below_drew1) | exact HB.out))); (case aO => exact (Kd.own_of_R (by (with_reducible repeat (first | apply Kd.R_alloc | apply Kd.R_drewN | apply Kd.R_drew)); exact HO110.out))); (case aS => exact (below_size (by repeat (first | (with_reducible first | exact HB.out | apply below_alloc | apply pw_below_drewN | apply below_drew1) | exact HB.out)))); (case aL => have := LMc4.out; omega); intro v112 w6 ho0 hb hg; have ho := Kd.R_of_own (h1 := fun _ => rfl) (ok := fun _ => True) ho0 (fun _ _ => trivial); clear ho0; have hat := True.intro; rw [← Ny111.out] at ho; change Kd.R (Kd.int .u8) 5 w6 w.heap.size (fun _ => True) v112 y111 at ho; have n0_ := Aside0.mk (hb); have n1_ := Aside0.mk (ho); clear HB; clear HO110; have HB := n0_; have HO113 := n1_; clear n0_ n1_; clear ho hb hg hat))
      go_ret2
      exact ⟨_, by first | rfl | (simp [errW_none, errW_some] <;> rfl) | (simp [*, errW_none, errW_some] <;> rfl), by (with_reducible repeat (first | apply Kd.R_alloc | apply Kd.R_drewN | apply Kd.R_drew)); exact HO113.out, by repeat (first | (with_reducible first | exact HB.out | apply below_alloc | apply pw_below_drewN | apply below_drew1) | exact HB.out)⟩
    · rw [if_neg c4] at H
      exact absurd H (by simp)

end
section
open Go.RowKit Go.Proofs.YtlfnfgoocliecaaW.PrintWords Go.Proofs.YtlfnfgoocliecaaW.PrintLast Go.Proofs.YtlfnfgoocliecaaW.PrintMore
attribute [local go_sem] max2_int min2_int max_two min_two max_three min_three max_four min_four   -- for this text's walks alone
set_option linter.unusedVariables false
set_option linter.unusedSimpArgs false

--OWN Derived.RegionTactic,Derived.BigRegion
/-! ### point_bytes_num: function 56 -/
/-- A writer at block g: its bytes, and whether what it writes may be. -/
structure IsWr (w0 w : World) (g : Nat) (l : List Int) (ok : Bool) : Prop where
  base : w0.heap.size ≤ g
  row : ∃ A c, w.heap[g]? = some (.cells #[.slice A l.length c, .bool ok] 102 (0, 0)) ∧ (Kd.int .u8).R 5 w w0.heap.size (fun _ => True) (.slice A l.length c) l
/-- All blocks that hold no bytes stay, but one. -/
def KeepT (g : Nat) (w w' : World) : Prop := w.heap.size ≤ w'.heap.size ∧ ∀ (k : Nat) (cs : Array Value) (t : TypeId) (fz : Nat × Nat), w.heap[k]? = some (.cells cs t fz) → t ≠ 5 → k ≠ g → w'.heap[k]? = some (.cells cs t fz)
theorem KeepT.refl (g : Nat) (w : World) : KeepT g w w := ⟨Nat.le_refl _, fun _ _ _ _ h _ _ => h⟩
theorem KeepT.trans {g : Nat} {w w1 w2 : World} (h : KeepT g w w1) (k : KeepT g w1 w2) : KeepT g w w2 := ⟨Nat.le_trans h.1 k.1, fun i cs t fz hi ht hg => k.2 i cs t fz (h.2 i cs t fz hi ht hg) ht hg⟩
theorem KeepT.of_below {g : Nat} {w w1 : World} (h : Below w.heap.size w w1) : KeepT g w w1 := ⟨h.size, fun k _ _ _ hk _ _ => (h.block k (blk_lt hk)).trans hk⟩
theorem KeepT.of_grown {g : Nat} {w w1 : World} {v : Value} {base : Nat} {ok : Nat → Prop} {xs : List Int} (hr : (Kd.int .u8).R 5 w base ok v xs) (h : w.grownBy w1 v.ownBlock) : KeepT g w w1 := ⟨h.size, fun k cs t fz hk ht _ => (h.block k (blk_lt hk) (fun e => by
  obtain ⟨cells, hx⟩ := Kd.R_typed hr k e.symm
  rw [hx] at hk
  injection hk with hk
  injection hk with _ hk
  exact ht hk.symm)).trans hk⟩
theorem KeepT.of_set {g : Nat} (w : World) (j : Nat) (u : Value) : KeepT g w (w.setCell ⟨g, j, none⟩ u) := ⟨(KeepBut.refl w g none |>.set_ j u).1, fun k _ _ _ hk _ hg => (Below.heap_setCell w ⟨g, j, none⟩ u k hg).trans hk⟩
theorem IsWr.lt {w0 w : World} {g : Nat} {l : List Int} {ok : Bool} (h : IsWr w0 w g l ok) : g < w.heap.size := by
  obtain ⟨A, c, hb, _⟩ := h.row
  exact blk_lt hb
theorem IsWr.below {w0 w w1 : World} {g : Nat} {l : List Int} {ok : Bool} (h : IsWr w0 w g l ok) (hb : Below w.heap.size w w1) : IsWr w0 w1 g l ok := by
  obtain ⟨A, c, h1, h2⟩ := h.row
  exact ⟨h.base, A, c, blk_below h1 hb, Kd.R_below h2 hb⟩
theorem IsWr.drew {w0 w : World} {g : Nat} {l : List Int} {ok : Bool} (h : IsWr w0 w g l ok) : IsWr w0 w.drew g l ok := h.below (below_drew (Below.refl _ _))
/-- A row of another type stays. -/
theorem KeepT.row {α : Type} {d : Kd α} {e base : Nat} {ok : Nat → Prop} {g : Nat} {w w1 : World} {v : Value} {xs : List α} (h : KeepT g w w1) (hr : d.R e w base ok v xs) (h5 : ∀ q, q ∈ e :: d.E → q ≠ 5) (hg : ∀ k, (∃ q, q ∈ e :: d.E ∧ ∃ cells, w.heap[k]? = some (.cells cells q (0, 0))) → k ≠ g) : d.R e w1 base ok v xs :=
  Kd.R_mono (Kd.R_move (Kd.R_bound hr) (fun k hk => by
    obtain ⟨_, _, _, q, hq, cells, hc⟩ := hk
    rw [hc]
    exact h.2 k _ _ _ hc (h5 q hq) (hg k ⟨q, hq, cells, hc⟩))) (fun _ hk => hk.1)
theorem flat_step {α : Type} (B : α → List Int) (ns : List α) (d : α) (j : Nat) (h : j < ns.length) : (ns.take (j + 1)).flatMap B = (ns.take j).flatMap B ++ B (rdOf d ns j) := by
  rw [← List.take_append_getElem h, List.flatMap_append]
  congr 1
  unfold rdOf
  simp [List.getD, h]
theorem flat_le {α : Type} (B : α → List Int) (ns : List α) (j : Nat) : ((ns.take j).flatMap B).length ≤ (ns.flatMap B).length := by
  have h : ns.flatMap B = (ns.take j).flatMap B ++ (ns.drop j).flatMap B := by rw [← List.flatMap_append, List.take_append_drop]
  rw [h, List.length_append]
  omega
theorem rdOf_mem {α : Type} (d : α) (ns : List α) (j : Nat) (h : j < ns.length) : rdOf d ns j ∈ ns := by
  unfold rdOf
  simp [List.getD, h]
set_option maxHeartbeats 4000000 in
set_option maxRecDepth 100000 in
theorem point_bytes_num.calls (k : Nat) (B : Int → List Int) (E : Int → Int) (A0 : Option Addr) (c0 : Nat) (ns : List Int) (g : Nat) (l : List Int) (ok : Bool) (base : Nat) (ok0 : Nat → Prop) (w0 w : World) (hI : IsWr w0 w g l ok) (hB : Below w0.heap.size w0 w) (hr : (Kd.int .i64).R 3 w base ok0 (.slice A0 ns.length c0) ns) (hN : ∀ n ∈ ns, wire_Num.f k n = some (B n, E n)) (hL : l.length + (ns.flatMap B).length ≤ 140737488355328) :
    Calls Try.prog 56 #[.pointer (some ⟨g, 0, none⟩), .slice A0 ns.length c0] w fun e w' => e = .returned (.tuple #[]) ∧ IsWr w0 w' g (l ++ ns.flatMap B) ok ∧ Below w0.heap.size w0 w' ∧ KeepT g w w' := by
  have HR := Aside0.mk hr
  have HI0 := Aside0.mk hI
  have HI := Aside0.mk (show IsWr w0 w g (l ++ (ns.take 0).flatMap B) ok by simpa using hI)
  have HB := Aside0.mk hB
  have HK := Aside0.mk (KeepT.refl g w)
  have HN := Aside0.mk hN
  have HL := Aside0.mk hL
  clear hr hI hB hN hL
  go_enter Try.func56, Try.ntmps56
  go_wp2
  go_loopw [10] (fun i wr => ∃ j : Nat, j ≤ ns.length ∧ i = .int .i64 j ∧ Aside0 (IsWr w0 wr g (l ++ (ns.take j).flatMap B) ok) ∧ Aside0 (Below w0.heap.size w0 wr) ∧ Aside0 (KeepT g w wr)) (fun i _ => ns.length - (intOf i).toNat)
  case atStart => exact ⟨0, by omega, rfl, HI, HB, HK⟩
  case round =>
    obtain ⟨j, hj, rfl, HJ, HBJ, HKJ⟩ := hrel
    clear HI HB HK
    by_cases hlt : j < ns.length
    · have hlt2 : decide ((j : Int) < ns.length) = true := decide_eq_true (by omega)
      have hlt3 : (j : Int) < ns.length := by omega
      have HRJ := Aside0.mk (HKJ.out.row HR.out (by decide) (by
        rintro k ⟨q, hq, cells, hc⟩ rfl
        obtain ⟨A, c, hb, _⟩ := HI0.out.row
        rw [hb] at hc
        injection hc with hc
        injection hc with _ hc
        subst hc
        revert hq
        decide))
      obtain ⟨ad, e1, hx⟩ := Kd.at_int (Kd.R_reads' HRJ.out).2.2 j (by omega) hlt3
      subst e1
      rw [Int.toNat_natCast] at hx
      have hf := flat_step B ns (0 : Int) j hlt
      have HF := Aside0.mk (show l ++ (ns.take (j + 1)).flatMap B = (l ++ (ns.take j).flatMap B) ++ B (rd ns j) by rw [hf, List.append_assoc]; try rfl)
      have HQ := Aside0.mk (show wire_Num.f k (rd ns j) = some (B (rd ns j), E (rd ns j)) from HN.out _ (rdOf_mem (0 : Int) ns j hlt))
      have HZ := Aside0.mk (show (l ++ (ns.take (j + 1)).flatMap B).length ≤ 140737488355328 by have := flat_le B ns (j + 1); have := HL.out; rw [List.length_append]; omega)
      have HZ2 := Aside0.mk (show ((l ++ (ns.take j).flatMap B).length + (B (rd ns j)).length) * 1 ≤ 140737488355328 by have := HZ.out; rw [HF.out, List.length_append] at this; omega)
      have hj1 : j + 1 ≤ ns.length := by omega
      clear hf HZ
      have hw : wrap64 ((j : Int) + 1) = (j : Int) + 1 := Go.IntWalk.wrap64_in _ (by have := (Kd.R_reads' HR.out).2.2.2.1; omega)
      obtain ⟨LN, hLN⟩ : ∃ x, x = l ++ (ns.take (j + 1)).flatMap B := ⟨_, rfl⟩
      rw [← hLN] at HF
      have HLN := Aside0.mk hLN
      clear hLN
      go_wp2_with fail
      refine (wire_Num.calls k (rd ns j) _ _ _ HQ.out).mono ?_
      rintro e wN ⟨v, rfl, ho, hb⟩
      obtain ⟨A2, c2, rfl⟩ := Kd.R_slice ho
      replace HJ := Aside0.mk (HJ.out.below hb)
      replace HBJ := Aside0.mk (below_then HBJ.out HBJ.out.size hb)
      replace HKJ := Aside0.mk (HKJ.out.trans (KeepT.of_below hb))
      have HV := Aside0.mk (Kd.R_reads' ho).2.2
      clear hb ho HRJ hx
      obtain ⟨AB, cB, hblk, hrow⟩ := HJ.out.row
      have hc0 := blk_cell hblk 0
      have HBK := Aside0.mk hblk
      have HRW := Aside0.mk hrow
      clear hblk hrow
      generalize hLL : l ++ (ns.take j).flatMap B = LL at HJ HBK HRW hc0 HF HZ2
      go_wp2_with ((with_reducible refine gate_builtin (b := .append) (xs := #[.tmp 23, .tmp 24]) rfl ?_); at_builtin; refine Kd.R_append_rows (Kd.int .u8) (w0 := w0) w0.heap.size rfl (.tmp 23) (.tmp 24) 49 5 (.int .u8 0) 1 rfl Try.underlying49 info5 rfl (by decide) (by omega) (.slice AB LL.length cB) LL (B (rd ns j)) _ _ _ (fun _ => True) (fun _ => False) rfl rfl ?aO ?aR (fun _ _ h => h) (fun _ h => h.elim) ?aF ?aB ?aS ?aL ?_; (case aR => exact HV.out); (case aB => exact HBJ.out); (case aF => exact (fun _ _ => trivial)); (case aO => exact HRW.out); (case aS => exact (below_size HBJ.out)); (case aL => exact HZ2.out); intro v3 w3 ho hb hg hat; rw [← HF.out] at ho; obtain ⟨A3, c3, rfl⟩ := Kd.R_slice ho; have hb3 := blk_grown HBK.out hg (Kd.R_ne HRW.out HBK.out (by decide)); have hc3 := blk_cell hb3 0; have hf3 := blk_frozen hb3 0; have HR3 := Aside0.mk ho; have HB3 := Aside0.mk hb; have HK3 := Aside0.mk (HKJ.out.trans (KeepT.of_grown HRW.out hg)); have HBL := Aside0.mk hb3; clear ho hb hg hat hb3)
      go_roundw
      case rel => exact ⟨j + 1, hj1, by first | rfl | go_num, ⟨⟨HJ.out.base, A3, c3, by rw [← HLN.out]; exact blk_put HBL.out 0 _ rfl, by rw [← HLN.out]; exact Kd.R_set HR3.out HBL.out (by decide) 0 _⟩⟩, ⟨below_set HB3.out HJ.out.base⟩, ⟨HK3.out.trans (KeepT.of_set _ _ _)⟩⟩
      case measure => (try rw [hw]); clear hw; simp [intOf]; omega
    · obtain rfl : j = ns.length := by omega
      have hlt2 : decide (((ns.length : Nat) : Int) < ns.length) = false := decide_eq_false (by omega)
      go_wp2
      have hx := HJ.out
      rw [List.take_length] at hx
      exact bodyPost_end (results_none rfl _ _ _) rfl ⟨rfl, hx, HBJ.out, HKJ.out⟩

end
section
open Go.RowKit Go.Proofs.YtlfnfgoocliecaaW.PrintWords Go.Proofs.YtlfnfgoocliecaaW.PrintLast Go.Proofs.YtlfnfgoocliecaaW.PrintMore
attribute [local go_sem] max2_int min2_int max_two min_two max_three min_three max_four min_four   -- for this text's walks alone
set_option linter.unusedVariables false
set_option linter.unusedSimpArgs false

--OWN Derived.RegionTactic,Derived.BigRegion
/-! ### point_bytes_text: function 57 -/
set_option maxHeartbeats 4000000 in
set_option maxRecDepth 100000 in
theorem point_bytes_text.calls (k : Nat) (B : ByteArray → List Int) (E : ByteArray → Int) (A0 : Option Addr) (c0 : Nat) (ns : List ByteArray) (g : Nat) (l : List Int) (ok : Bool) (base : Nat) (ok0 : Nat → Prop) (w0 w : World) (hI : IsWr w0 w g l ok) (hB : Below w0.heap.size w0 w) (hr : Kd.string.R 9 w base ok0 (.slice A0 ns.length c0) ns) (hN : ∀ n ∈ ns, wire_Text.f k n = some (B n, E n)) (hL : l.length + (ns.flatMap B).length ≤ 140737488355328) :
    Calls Try.prog 57 #[.pointer (some ⟨g, 0, none⟩), .slice A0 ns.length c0] w fun e w' => e = .returned (.tuple #[]) ∧ IsWr w0 w' g (l ++ ns.flatMap B) ok ∧ Below w0.heap.size w0 w' ∧ KeepT g w w' := by
  have HR := Aside0.mk hr
  have HI0 := Aside0.mk hI
  have HI := Aside0.mk (show IsWr w0 w g (l ++ (ns.take 0).flatMap B) ok by simpa using hI)
  have HB := Aside0.mk hB
  have HK := Aside0.mk (KeepT.refl g w)
  have HN := Aside0.mk hN
  have HL := Aside0.mk hL
  clear hr hI hB hN hL
  go_enter Try.func57, Try.ntmps57
  go_wp2
  go_loopw [10] (fun i wr => ∃ j : Nat, j ≤ ns.length ∧ i = .int .i64 j ∧ Aside0 (IsWr w0 wr g (l ++ (ns.take j).flatMap B) ok) ∧ Aside0 (Below w0.heap.size w0 wr) ∧ Aside0 (KeepT g w wr)) (fun i _ => ns.length - (intOf i).toNat)
  case atStart => exact ⟨0, by omega, rfl, HI, HB, HK⟩
  case round =>
    obtain ⟨j, hj, rfl, HJ, HBJ, HKJ⟩ := hrel
    clear HI HB HK
    by_cases hlt : j < ns.length
    · have hlt2 : decide ((j : Int) < ns.length) = true := decide_eq_true (by omega)
      have hlt3 : (j : Int) < ns.length := by omega
      have HRJ := Aside0.mk (HKJ.out.row HR.out (by decide) (by
        rintro k ⟨q, hq, cells, hc⟩ rfl
        obtain ⟨A, c, hb, _⟩ := HI0.out.row
        rw [hb] at hc
        injection hc with hc
        injection hc with _ hc
        subst hc
        revert hq
        decide))
      obtain ⟨ad, e1, hx⟩ := Kd.at_string (Kd.R_reads' HRJ.out).2.2 j (by omega) hlt3
      subst e1
      rw [Int.toNat_natCast] at hx
      have hf := flat_step B ns ByteArray.empty j hlt
      have HF := Aside0.mk (show l ++ (ns.take (j + 1)).flatMap B = (l ++ (ns.take j).flatMap B) ++ B (rdOf ByteArray.empty ns j) by rw [hf, List.append_assoc]; try rfl)
      have HQ := Aside0.mk (show wire_Text.f k (rdOf ByteArray.empty ns j) = some (B (rdOf ByteArray.empty ns j), E (rdOf ByteArray.empty ns j)) from HN.out _ (rdOf_mem ByteArray.empty ns j hlt))
      have HZ := Aside0.mk (show (l ++ (ns.take (j + 1)).flatMap B).length ≤ 140737488355328 by have := flat_le B ns (j + 1); have := HL.out; rw [List.length_append]; omega)
      have HZ2 := Aside0.mk (show ((l ++ (ns.take j).flatMap B).length + (B (rdOf ByteArray.empty ns j)).length) * 1 ≤ 140737488355328 by have := HZ.out; rw [HF.out, List.length_append] at this; omega)
      have hj1 : j + 1 ≤ ns.length := by omega
      clear hf HZ
      have hw : wrap64 ((j : Int) + 1) = (j : Int) + 1 := Go.IntWalk.wrap64_in _ (by have := (Kd.R_reads' HR.out).2.2.2.1; omega)
      obtain ⟨LN, hLN⟩ : ∃ x, x = l ++ (ns.take (j + 1)).flatMap B := ⟨_, rfl⟩
      rw [← hLN] at HF
      have HLN := Aside0.mk hLN
      clear hLN
      go_wp2_with fail
      refine (wire_Text.calls k (rdOf ByteArray.empty ns j) _ _ _ HQ.out).mono ?_
      rintro e wN ⟨v, rfl, ho, hb⟩
      obtain ⟨A2, c2, rfl⟩ := Kd.R_slice ho
      replace HJ := Aside0.mk (HJ.out.below hb)
      replace HBJ := Aside0.mk (below_then HBJ.out HBJ.out.size hb)
      replace HKJ := Aside0.mk (HKJ.out.trans (KeepT.of_below hb))
      have HV := Aside0.mk (Kd.R_reads' ho).2.2
      clear hb ho HRJ hx
      obtain ⟨AB, cB, hblk, hrow⟩ := HJ.out.row
      have hc0 := blk_cell hblk 0
      have HBK := Aside0.mk hblk
      have HRW := Aside0.mk hrow
      clear hblk hrow
      generalize hLL : l ++ (ns.take j).flatMap B = LL at HJ HBK HRW hc0 HF HZ2
      go_wp2_with ((with_reducible refine gate_builtin (b := .append) (xs := #[.tmp 23, .tmp 24]) rfl ?_); at_builtin; refine Kd.R_append_rows (Kd.int .u8) (w0 := w0) w0.heap.size rfl (.tmp 23) (.tmp 24) 49 5 (.int .u8 0) 1 rfl Try.underlying49 info5 rfl (by decide) (by omega) (.slice AB LL.length cB) LL (B (rdOf ByteArray.empty ns j)) _ _ _ (fun _ => True) (fun _ => False) rfl rfl ?aO ?aR (fun _ _ h => h) (fun _ h => h.elim) ?aF ?aB ?aS ?aL ?_; (case aR => exact HV.out); (case aB => exact HBJ.out); (case aF => exact (fun _ _ => trivial)); (case aO => exact HRW.out); (case aS => exact (below_size HBJ.out)); (case aL => exact HZ2.out); intro v3 w3 ho hb hg hat; rw [← HF.out] at ho; obtain ⟨A3, c3, rfl⟩ := Kd.R_slice ho; have hb3 := blk_grown HBK.out hg (Kd.R_ne HRW.out HBK.out (by decide)); have hc3 := blk_cell hb3 0; have hf3 := blk_frozen hb3 0; have HR3 := Aside0.mk ho; have HB3 := Aside0.mk hb; have HK3 := Aside0.mk (HKJ.out.trans (KeepT.of_grown HRW.out hg)); have HBL := Aside0.mk hb3; clear ho hb hg hat hb3)
      go_roundw
      case rel => exact ⟨j + 1, hj1, by first | rfl | go_num, ⟨⟨HJ.out.base, A3, c3, by rw [← HLN.out]; exact blk_put HBL.out 0 _ rfl, by rw [← HLN.out]; exact Kd.R_set HR3.out HBL.out (by decide) 0 _⟩⟩, ⟨below_set HB3.out HJ.out.base⟩, ⟨HK3.out.trans (KeepT.of_set _ _ _)⟩⟩
      case measure => (try rw [hw]); clear hw; simp [intOf]; omega
    · obtain rfl : j = ns.length := by omega
      have hlt2 : decide (((ns.length : Nat) : Int) < ns.length) = false := decide_eq_false (by omega)
      go_wp2
      have hx := HJ.out
      rw [List.take_length] at hx
      exact bodyPost_end (results_none rfl _ _ _) rfl ⟨rfl, hx, HBJ.out, HKJ.out⟩

end
section
open Go.RowKit Go.Proofs.YtlfnfgoocliecaaW.PrintWords Go.Proofs.YtlfnfgoocliecaaW.PrintLast Go.Proofs.YtlfnfgoocliecaaW.PrintMore
attribute [local go_sem] max2_int min2_int max_two min_two max_three min_three max_four min_four   -- for this text's walks alone
set_option linter.unusedVariables false
set_option linter.unusedSimpArgs false

/-! ### glebelaw09_Light: function 9 -/
mutual
def glebelaw09_Light.l0 : Nat → List (S26) → Int → Option (Bool)
  | 0, _, _ => none
  | k + 1, x0, x3 => if x3 < (x0.length : Int) then (glebelaw09_Light.j1 k x0 x3 (decide (x3 < 60))) else (glebelaw09_Light.j1 k x0 x3 false)
def glebelaw09_Light.j1 : Nat → List (S26) → Int → Bool → Option (Bool)
  | 0, _, _, _ => none
  | k + 1, x0, x3, x11 => if x11 = true then (if 0 ≤ x3 then (if x3 < (x0.length : Int) then (if (((rd_T26 x0 x3).f2.f2).size : Int) > 300 then (some false) else (glebelaw09_Light.l0 k x0 (wrap64 (x3 + 1)))) else (none)) else (none)) else (some (decide ((x0.length : Int) ≤ 50)))
end
def glebelaw09_Light.f (k : Nat) (l0 : List (S26)) : Option (Bool) := glebelaw09_Light.l0 k l0 0
theorem glebelaw09_Light.mono_l : ∀ k, (∀ y0 y1, LeO (glebelaw09_Light.l0 k y0 y1) (glebelaw09_Light.l0 (k + 1) y0 y1)) ∧ (∀ y0 y1 y2, LeO (glebelaw09_Light.j1 k y0 y1 y2) (glebelaw09_Light.j1 (k + 1) y0 y1 y2))
  | 0 => ⟨fun _ _ r h => by simp [glebelaw09_Light.l0] at h, fun _ _ _ r h => by simp [glebelaw09_Light.j1] at h⟩
  | k + 1 => by
    obtain ⟨ih0, ih1⟩ := glebelaw09_Light.mono_l k
    refine ⟨?_, ?_⟩
    · intro y0 y1
      unfold glebelaw09_Light.l0
      repeat' first
      | (with_reducible exact ih0 _ _)
      | (with_reducible exact ih1 _ _ _)
      | (with_reducible exact LeO.refl _)
      | (with_reducible exact LeO.none _)
      | (with_reducible refine LeO.ite ?_ ?_)
      | (with_reducible refine LeO.bind ?_ (fun _ => ?_))
      | exact ih0 _ _
      | exact ih1 _ _ _
      | exact LeO.none _
      | refine LeO.ite ?_ ?_
      | refine LeO.bind ?_ (fun _ => ?_)
    · intro y0 y1 y2
      unfold glebelaw09_Light.j1
      repeat' first
      | (with_reducible exact ih0 _ _)
      | (with_reducible exact ih1 _ _ _)
      | (with_reducible exact LeO.refl _)
      | (with_reducible exact LeO.none _)
      | (with_reducible refine LeO.ite ?_ ?_)
      | (with_reducible refine LeO.bind ?_ (fun _ => ?_))
      | exact ih0 _ _
      | exact ih1 _ _ _
      | exact LeO.none _
      | refine LeO.ite ?_ ?_
      | refine LeO.bind ?_ (fun _ => ?_)
theorem glebelaw09_Light.mono : ∀ a0 k, LeO (glebelaw09_Light.f k a0) (glebelaw09_Light.f (k + 1) a0) := by
  intro a0 k
  obtain ⟨ih0, ih1⟩ := glebelaw09_Light.mono_l k
  unfold glebelaw09_Light.f
  repeat' first
      | (with_reducible exact ih0 _ _)
      | (with_reducible exact ih1 _ _ _)
      | (with_reducible exact LeO.refl _)
      | (with_reducible exact LeO.none _)
      | (with_reducible refine LeO.ite ?_ ?_)
      | (with_reducible refine LeO.bind ?_ (fun _ => ?_))
      | exact ih0 _ _
      | exact ih1 _ _ _
      | exact LeO.none _
      | refine LeO.ite ?_ ?_
      | refine LeO.bind ?_ (fun _ => ?_)
set_option maxHeartbeats 8000000 in
set_option maxRecDepth 100000 in
theorem glebelaw09_Light.calls (k : Nat) (A0 : Option Addr) (c0 : Nat) (l0 : List (S26)) (r : Bool) (w : World) (hr0 : Kd.C k26 w A0 l0.length l0) (hc0 : l0.length ≤ c0) (h : glebelaw09_Light.f k l0 = some r) :
    Calls Try.prog 9 #[.slice A0 l0.length c0] w fun e w' => e = .returned (.bool r) ∧ Drawn0 w w' := by
  have HR0 := Aside0.mk hr0
  have HC0 := Aside0.mk hc0
  clear hr0 hc0
  have H : (glebelaw09_Light.l0 k l0 0) = some r := h
  clear h
  have H' := Aside0.mk H
  clear H
  go_enter Try.func9, Try.ntmps9
  go_wp2
  go_loopg [3] k (fun kq v3 w' => ∃ (x3_1 : Int), v3 = .int .i64 x3_1 ∧ Aside0 (glebelaw09_Light.l0 kq l0 x3_1 = some r) ∧ Aside0 (kq ≤ k) ∧ Drawn0 w w')
  case atStart => exact ⟨(0), (by first | rfl | (simp; done) | (simp [*]; done)), H', ⟨Nat.le_refl _⟩, by repeat (first | exact Drawn0.refl _ | apply Drawn0.step)⟩
  case round =>
    clear H'
    obtain ⟨x3_1, rfl, HA, HK1, ⟨m1, rfl⟩⟩ := hrel
    cases gk with
    | zero => exact absurd HA.out (by simp [glebelaw09_Light.l0])
    | succ k1 =>
      have H := HA.out
      clear HA
      simp only [glebelaw09_Light.l0] at H
      have HC2 := Aside0.mk H
      clear H
      go_upto_region 2 with (fail)
      go_cut [11] (fun v11 wc => ∃ (kq : Nat) (x11_1 : Bool), v11 = .bool x11_1 ∧ Aside0 (glebelaw09_Light.j1 kq l0 x3_1 x11_1 = some r) ∧ Aside0 (kq ≤ k1) ∧ Drawn0 w wc)
      case first =>
        have H := HC2.out
        clear HC2
        by_cases c3 : x3_1 < (l0.length : Int)
        · rw [if_pos c3] at H
          have c3b0 : decide (x3_1 < (l0.length : Int)) = true := decide_eq_true c3
          clear c3
          (first | rw [c3b0] | (simp only [i64_w, i32_w]; rw [c3b0]) | skip)
          have H' := Aside0.mk H
          clear H
          go_wp2
          go_meet
          case rel => exact ⟨_, (decide (x3_1 < 60)), (by first | rfl | (simp; done) | (simp [*]; done)), H', ⟨by have := HK1.out; first | omega | exact Nat.le_refl _⟩, by repeat (first | exact Drawn0.refl _ | apply Drawn0.step)⟩
        · rw [if_neg c3] at H
          have c3b0 : decide (x3_1 < (l0.length : Int)) = false := decide_eq_false c3
          clear c3
          (first | rw [c3b0] | (simp only [i64_w, i32_w]; rw [c3b0]) | skip)
          have H' := Aside0.mk H
          clear H
          go_wp2
          go_meet
          case rel => exact ⟨_, (false), (by first | rfl | (simp; done) | (simp [*]; done)), H', ⟨by have := HK1.out; first | omega | exact Nat.le_refl _⟩, by repeat (first | exact Drawn0.refl _ | apply Drawn0.step)⟩
      case rest =>
        clear HC2
        try clear p2
        try clear c3
        try clear c3b0
        obtain ⟨kq, x11_1, rfl, HA, HJ1, ⟨mc1, rfl⟩⟩ := hcut
        cases kq with
        | zero => exact absurd HA.out (by simp [glebelaw09_Light.j1])
        | succ kj1 =>
          have H := HA.out
          clear HA
          simp only [glebelaw09_Light.j1] at H
          by_cases c4 : x11_1 = true
          · subst c4
            have H1 : (if 0 ≤ x3_1 then (if x3_1 < (l0.length : Int) then (if (((rd_T26 l0 x3_1).f2.f2).size : Int) > 300 then (some false) else (glebelaw09_Light.l0 kj1 l0 (wrap64 (x3_1 + 1)))) else (none)) else (none)) = some r := by rw [if_pos rfl] at H; exact H
            clear H
            have H := H1
            clear H1
            by_cases c5 : 0 ≤ x3_1
            · rw [if_pos c5] at H
              have c5b0 : decide (0 ≤ x3_1) = true := decide_eq_true c5
              clear c5
              by_cases c6 : x3_1 < (l0.length : Int)
              · rw [if_pos c6] at H
                have c6b0 : decide (x3_1 < (l0.length : Int)) = true := decide_eq_true c6
                clear c6
                by_cases c7 : (((rd_T26 l0 x3_1).f2.f2).size : Int) > 300
                · rw [if_pos c7] at H
                  have c7b0 : decide (300 < (((rd_T26 l0 x3_1).f2.f2).size : Int)) = true := decide_eq_true c7
                  have c7b1 : decide (300 < ((rd_T26 l0 x3_1).f2.f2).size) = true := decide_eq_true (by omega)
                  clear c7
                  obtain rfl := Option.some.inj H
                  have p114 : 0 ≤ (x3_1 : Int) := of_decide_eq_true (by first | (with_reducible assumption) | assumption)
                  have q114 : x3_1 < (l0.length : Int) := of_decide_eq_true (by first | (with_reducible assumption) | assumption)
                  obtain ⟨ad114, e114, hx114_0, hx114_1, hx114_2, hx114_3, hx114_4, hx114_5⟩ := at_T26 HR0.out x3_1 p114 q114
                  cases e114
                  replace p114 := eq_true p114
                  replace q114 := eq_true q114
                  go_wp2
                  go_ret
                  exact ⟨by first | rfl | (simp; done) | (simp [*]; done), by repeat (first | exact Drawn0.refl _ | apply Drawn0.step)⟩
                · rw [if_neg c7] at H
                  have c7b0 : decide (300 < (((rd_T26 l0 x3_1).f2.f2).size : Int)) = false := decide_eq_false c7
                  have c7b1 : decide (300 < ((rd_T26 l0 x3_1).f2.f2).size) = false := decide_eq_false (by omega)
                  clear c7
                  have H' := Aside0.mk H
                  clear H
                  have p114 : 0 ≤ (x3_1 : Int) := of_decide_eq_true (by first | (with_reducible assumption) | assumption)
                  have q114 : x3_1 < (l0.length : Int) := of_decide_eq_true (by first | (with_reducible assumption) | assumption)
                  obtain ⟨ad114, e114, hx114_0, hx114_1, hx114_2, hx114_3, hx114_4, hx114_5⟩ := at_T26 HR0.out x3_1 p114 q114
                  cases e114
                  replace p114 := eq_true p114
                  replace q114 := eq_true q114
                  go_wp2
                  go_roundg kj1
                  case measure => have := HK1.out; have := HJ1.out; omega
                  case rel => exact ⟨(wrap64 (x3_1 + 1)), (by first | rfl | (simp; done) | (simp [*]; done)), H', ⟨by have := HK1.out; have := HJ1.out; omega⟩, by repeat (first | exact Drawn0.refl _ | apply Drawn0.step)⟩
              · rw [if_neg c6] at H
                exact absurd H (by simp)
            · rw [if_neg c5] at H
              exact absurd H (by simp)
          · replace c4 := Bool.eq_false_iff.mpr c4
            subst c4
            have H1 : (some (decide ((l0.length : Int) ≤ 50))) = some r := by rw [if_neg (show ¬ (false = true) by decide)] at H; exact H
            clear H
            have H := H1
            clear H1
            obtain rfl := Option.some.inj H
            go_wp2
            go_ret
            exact ⟨by first | rfl | (simp; done) | (simp [*]; done), by repeat (first | exact Drawn0.refl _ | apply Drawn0.step)⟩

end
section
open Go.RowKit Go.Proofs.YtlfnfgoocliecaaW.PrintWords Go.Proofs.YtlfnfgoocliecaaW.PrintLast Go.Proofs.YtlfnfgoocliecaaW.PrintMore
attribute [local go_sem] max2_int min2_int max_two min_two max_three min_three max_four min_four   -- for this text's walks alone
set_option linter.unusedVariables false
set_option linter.unusedSimpArgs false

--OWN Derived.RegionTactic,Derived.BigRegion
/-! ### session_New: function 11 -/
theorem drawn_below {w w' : World} (h : Drawn0 w w') : Below w.heap.size w w' := h.below
/-- A row of the table: E, Found, Value, Ver, Seq. -/
structure SRow where
  e : Int
  f : Bool
  v : ByteArray
  n : Int
  q : Int
def SRow.cells (r : SRow) : List Value := [.int .i64 r.e, .bool r.f, .string r.v, .int .i64 r.n, .int .i64 r.q]
def SRow.none : SRow := ⟨0, false, ⟨#[]⟩, 0, 0⟩
def tabCells (R : Nat → SRow) : Array Value := #[.int .i64 (R 0).e, .bool (R 0).f, .string (R 0).v, .int .i64 (R 0).n, .int .i64 (R 0).q, .int .i64 (R 1).e, .bool (R 1).f, .string (R 1).v, .int .i64 (R 1).n, .int .i64 (R 1).q, .int .i64 (R 2).e, .bool (R 2).f, .string (R 2).v, .int .i64 (R 2).n, .int .i64 (R 2).q, .int .i64 (R 3).e, .bool (R 3).f, .string (R 3).v, .int .i64 (R 3).n, .int .i64 (R 3).q, .int .i64 (R 4).e, .bool (R 4).f, .string (R 4).v, .int .i64 (R 4).n, .int .i64 (R 4).q, .int .i64 (R 5).e, .bool (R 5).f, .string (R 5).v, .int .i64 (R 5).n, .int .i64 (R 5).q, .int .i64 (R 6).e, .bool (R 6).f, .string (R 6).v, .int .i64 (R 6).n, .int .i64 (R 6).q, .int .i64 (R 7).e, .bool (R 7).f, .string (R 7).v, .int .i64 (R 7).n, .int .i64 (R 7).q, .bool true]
theorem lt8 {c : Nat} (h : c < 8) : c = 0 ∨ c = 1 ∨ c = 2 ∨ c = 3 ∨ c = 4 ∨ c = 5 ∨ c = 6 ∨ c = 7 := by omega
theorem tab_cells (R : Nat → SRow) {c : Nat} (h : c < 8) : (tabCells R)[c * 5]? = some (.int .i64 (R c).e) ∧ (tabCells R)[c * 5 + 1]? = some (.bool (R c).f) ∧ (tabCells R)[c * 5 + 2]? = some (.string (R c).v) ∧ (tabCells R)[c * 5 + 3]? = some (.int .i64 (R c).n) ∧ (tabCells R)[c * 5 + 4]? = some (.int .i64 (R c).q) := by
  rcases lt8 h with rfl | rfl | rfl | rfl | rfl | rfl | rfl | rfl <;> exact ⟨rfl, rfl, rfl, rfl, rfl⟩
theorem tab_made (R : Nat → SRow) : (tabCells R)[40]? = some (.bool true) := rfl
def upd (R : Nat → SRow) (c : Nat) (r : SRow) : Nat → SRow := fun i => if i = c then r else R i
set_option maxHeartbeats 2000000 in
theorem tab_upd (R : Nat → SRow) {c : Nat} (h : c < 8) (r : SRow) : (((((tabCells R).setIfInBounds (c * 5) (.int .i64 r.e)).setIfInBounds (c * 5 + 1) (.bool r.f)).setIfInBounds (c * 5 + 2) (.string r.v)).setIfInBounds (c * 5 + 3) (.int .i64 r.n)).setIfInBounds (c * 5 + 4) (.int .i64 r.q) = tabCells (upd R c r) := by
  rcases lt8 h with rfl | rfl | rfl | rfl | rfl | rfl | rfl | rfl <;> simp [tabCells, upd]
/-- A table that was made. -/
structure IsTab (w0 w : World) (g : Nat) (R : Nat → SRow) : Prop where
  base : w0.heap.size ≤ g
  blk : w.heap[g]? = some (.cells (tabCells R) 56 (0, 0))
namespace IsTab
variable {w0 w w' : World} {g : Nat} {R : Nat → SRow}
theorem lt (h : IsTab w0 w g R) : g < w.heap.size := blk_lt h.blk
theorem below (h : IsTab w0 w g R) (hb : Below w.heap.size w w') : IsTab w0 w' g R := ⟨h.base, blk_below h.blk hb⟩
theorem keep (h : IsTab w0 w g R) {g' : Nat} (hk : KeepBut w w' g' none) (hne : g ≠ g') : IsTab w0 w' g R := ⟨h.base, hk.blk h.blk hne (by simp)⟩
theorem made_ (h : IsTab w0 w g R) : w.cell? ⟨g, 40, none⟩ = some (.bool true) := (blk_cell h.blk 40).trans (tab_made R)
theorem cells_ (h : IsTab w0 w g R) {c : Nat} (hc : c < 8) : w.cell? ⟨g, c * 5, none⟩ = some (.int .i64 (R c).e) ∧ w.cell? ⟨g, c * 5 + 1, none⟩ = some (.bool (R c).f) ∧ w.cell? ⟨g, c * 5 + 2, none⟩ = some (.string (R c).v) ∧ w.cell? ⟨g, c * 5 + 3, none⟩ = some (.int .i64 (R c).n) ∧ w.cell? ⟨g, c * 5 + 4, none⟩ = some (.int .i64 (R c).q) := by
  obtain ⟨h0, h1, h2, h3, h4⟩ := tab_cells R hc
  exact ⟨(blk_cell h.blk _).trans h0, (blk_cell h.blk _).trans h1, (blk_cell h.blk _).trans h2, (blk_cell h.blk _).trans h3, (blk_cell h.blk _).trans h4⟩
end IsTab
set_option maxHeartbeats 2000000 in
set_option maxRecDepth 100000 in
theorem session_New.calls (w0 w : World) (hB : Below w0.heap.size w0 w) :
    Calls Try.prog 11 #[] w fun e w' => ∃ g, e = .returned (.pointer (some ⟨g, 0, none⟩)) ∧ w.heap.size ≤ g ∧ IsTab w0 w' g (fun _ => SRow.none) ∧ Below w.heap.size w w' := by
  have HB := Aside0.mk hB
  clear hB
  go_enter Try.func11, Try.ntmps11
  go_wp2
  go_ret
  refine ⟨w.heap.size, rfl, Nat.le_refl _, ⟨HB.out.size, ?_⟩, below_alloc (Below.refl _ _) _⟩
  exact Go.heap_alloc_new _ _
/-- No table, or one that nobody made. -/
def DeadT (w : World) (p : Option Addr) : Prop := p = none ∨ ∃ g, p = some ⟨g, 0, none⟩ ∧ w.cell? ⟨g, 40, none⟩ = some (.bool false)
theorem DeadT.below {w w' : World} {p : Option Addr} (h : DeadT w p) (hb : Below w.heap.size w w') : DeadT w' p := by
  rcases h with h | ⟨g, h, hc⟩
  · exact .inl h
  · exact .inr ⟨g, h, (hb.cell (World.block_lt_of_cell? w _ hc)).trans hc⟩
def rtabCells (R : Nat → SRow) : Array Value := #[.int .i64 (R 0).q, .int .i64 (R 1).q, .int .i64 (R 2).q, .int .i64 (R 3).q, .int .i64 (R 4).q, .int .i64 (R 5).q, .int .i64 (R 6).q, .int .i64 (R 7).q, .int .i64 (R 0).e, .bool (R 0).f, .string (R 0).v, .int .i64 (R 0).n, .int .i64 (R 1).e, .bool (R 1).f, .string (R 1).v, .int .i64 (R 1).n, .int .i64 (R 2).e, .bool (R 2).f, .string (R 2).v, .int .i64 (R 2).n, .int .i64 (R 3).e, .bool (R 3).f, .string (R 3).v, .int .i64 (R 3).n, .int .i64 (R 4).e, .bool (R 4).f, .string (R 4).v, .int .i64 (R 4).n, .int .i64 (R 5).e, .bool (R 5).f, .string (R 5).v, .int .i64 (R 5).n, .int .i64 (R 6).e, .bool (R 6).f, .string (R 6).v, .int .i64 (R 6).n, .int .i64 (R 7).e, .bool (R 7).f, .string (R 7).v, .int .i64 (R 7).n]
theorem rtab_cells (R : Nat → SRow) {c : Nat} (h : c < 8) : (rtabCells R)[c]? = some (.int .i64 (R c).q) ∧ (rtabCells R)[8 + c * 4]? = some (.int .i64 (R c).e) ∧ (rtabCells R)[8 + c * 4 + 1]? = some (.bool (R c).f) ∧ (rtabCells R)[8 + c * 4 + 2]? = some (.string (R c).v) ∧ (rtabCells R)[8 + c * 4 + 3]? = some (.int .i64 (R c).n) := by
  rcases lt8 h with rfl | rfl | rfl | rfl | rfl | rfl | rfl | rfl <;> exact ⟨rfl, rfl, rfl, rfl, rfl⟩
set_option maxHeartbeats 2000000 in
theorem rtab_upd (R : Nat → SRow) {c : Nat} (h : c < 8) (r : SRow) : (((((rtabCells R).setIfInBounds c (.int .i64 r.q)).setIfInBounds (8 + c * 4) (.int .i64 r.e)).setIfInBounds (8 + c * 4 + 1) (.bool r.f)).setIfInBounds (8 + c * 4 + 2) (.string r.v)).setIfInBounds (8 + c * 4 + 3) (.int .i64 r.n) = rtabCells (upd R c r) := by
  rcases lt8 h with rfl | rfl | rfl | rfl | rfl | rfl | rfl | rfl <;> simp [rtabCells, upd]
/-- The document's table. -/
structure IsRTab (w0 w : World) (g : Nat) (R : Nat → SRow) : Prop where
  base : w0.heap.size ≤ g
  blk : w.heap[g]? = some (.cells (rtabCells R) 78 (0, 0))
theorem IsRTab.below {w0 w w' : World} {g : Nat} {R : Nat → SRow} (h : IsRTab w0 w g R) (hb : Below w.heap.size w w') : IsRTab w0 w' g R := ⟨h.base, blk_below h.blk hb⟩
theorem IsRTab.keep {w0 w w' : World} {g : Nat} {R : Nat → SRow} (h : IsRTab w0 w g R) {g' : Nat} (hk : KeepBut w w' g' none) (hne : g ≠ g') : IsRTab w0 w' g R := ⟨h.base, hk.blk h.blk hne (by simp)⟩
theorem IsRTab.cells_ {w0 w : World} {g : Nat} {R : Nat → SRow} (h : IsRTab w0 w g R) {c : Nat} (hc : c < 8) : w.cell? ⟨g, c, none⟩ = some (.int .i64 (R c).q) ∧ w.cell? ⟨g, 8 + c * 4, none⟩ = some (.int .i64 (R c).e) ∧ w.cell? ⟨g, 8 + c * 4 + 1, none⟩ = some (.bool (R c).f) ∧ w.cell? ⟨g, 8 + c * 4 + 2, none⟩ = some (.string (R c).v) ∧ w.cell? ⟨g, 8 + c * 4 + 3, none⟩ = some (.int .i64 (R c).n) := by
  obtain ⟨h0, h1, h2, h3, h4⟩ := rtab_cells R hc
  exact ⟨(blk_cell h.blk _).trans h0, (blk_cell h.blk _).trans h1, (blk_cell h.blk _).trans h2, (blk_cell h.blk _).trans h3, (blk_cell h.blk _).trans h4⟩
theorem IsRTab.put {w0 W : World} {g : Nat} {R : Nat → SRow} (h : IsRTab w0 W g R) {c : Nat} (hc : c < 8) (r : SRow) : IsRTab w0 (((((W.setCell ⟨g, c, none⟩ (.int .i64 r.q)).setCell ⟨g, 8 + c * 4, none⟩ (.int .i64 r.e)).setCell ⟨g, 8 + c * 4 + 1, none⟩ (.bool r.f)).setCell ⟨g, 8 + c * 4 + 2, none⟩ (.string r.v)).setCell ⟨g, 8 + c * 4 + 3, none⟩ (.int .i64 r.n)) g (upd R c r) := by
  have q := blk_set (blk_set (blk_set (blk_set (blk_set h.blk c (.int .i64 r.q)) (8 + c * 4) (.int .i64 r.e)) (8 + c * 4 + 1) (.bool r.f)) (8 + c * 4 + 2) (.string r.v)) (8 + c * 4 + 3) (.int .i64 r.n)
  rw [rtab_upd R hc r] at q
  exact ⟨h.base, q⟩
/-- A right answer. -/
def RightP (e : Int) (f : Bool) (v : ByteArray) (n : Int) : Prop := 0 ≤ e ∧ e ≤ 255 ∧ (v.size : Int) ≤ 32 ∧ 0 ≤ n ∧ n ≤ 1099511627776 ∧ (f = true ∨ (v.toList = [] ∧ n = 0))
/-- A row that a table holds. -/
def GoodRow (r : SRow) : Prop := r = SRow.none ∨ (1 ≤ r.q ∧ r.q ≤ 1099511627776 ∧ RightP r.e r.f r.v r.n)

end
section
open Go.RowKit Go.Proofs.YtlfnfgoocliecaaW.PrintWords Go.Proofs.YtlfnfgoocliecaaW.PrintLast Go.Proofs.YtlfnfgoocliecaaW.PrintMore
attribute [local go_sem] max2_int min2_int max_two min_two max_three min_three max_four min_four   -- for this text's walks alone
set_option linter.unusedVariables false
set_option linter.unusedSimpArgs false

--OWN Derived.RegionTactic,Derived.BigRegion
/-! ### session_Table_none: function 39 -/
set_option maxHeartbeats 2000000 in
set_option maxRecDepth 100000 in
theorem session_Table_none.calls (g : Nat) (R : Nat → SRow) (w0 w : World) (hI : IsTab w0 w g R) :
    Calls Try.prog 39 #[.pointer (some ⟨g, 0, none⟩)] w fun e w' => e = .returned (.bool false) ∧ w = w' := by
  have hm := hI.made_
  clear hI
  go_enter Try.func39, Try.ntmps39
  go_wp2
  go_ret
  exact ⟨rfl, rfl⟩
theorem session_Table_none.nil (w : World) :
    Calls Try.prog 39 #[.pointer none] w fun e w' => e = .returned (.bool true) ∧ w = w' := by
  go_enter Try.func39, Try.ntmps39
  go_wp2
  go_ret
  exact ⟨rfl, rfl⟩
theorem session_Table_none.dead {p : Option Addr} (w : World) (h : DeadT w p) :
    Calls Try.prog 39 #[.pointer p] w fun e w' => e = .returned (.bool true) ∧ w = w' := by
  rcases h with rfl | ⟨g, rfl, hm⟩
  · exact session_Table_none.nil w
  · go_enter Try.func39, Try.ntmps39
    go_wp2
    go_ret
    exact ⟨rfl, rfl⟩

end
section
open Go.RowKit Go.Proofs.YtlfnfgoocliecaaW.PrintWords Go.Proofs.YtlfnfgoocliecaaW.PrintLast Go.Proofs.YtlfnfgoocliecaaW.PrintMore
attribute [local go_sem] max2_int min2_int max_two min_two max_three min_three max_four min_four   -- for this text's walks alone
set_option linter.unusedVariables false
set_option linter.unusedSimpArgs false

--OWN Derived.RegionTactic,Derived.BigRegion
/-! ### session_Table_row: function 36 -/
set_option maxHeartbeats 2000000 in
set_option maxRecDepth 100000 in
theorem session_Table_row.calls (g : Nat) (R : Nat → SRow) (c : Int) (w0 w : World) (hI : IsTab w0 w g R) :
    Calls Try.prog 36 #[.pointer (some ⟨g, 0, none⟩), .int .i64 c] w fun e w' => e = .returned (.pointer (if 0 ≤ c ∧ c < 8 then some ⟨g, c.toNat * 5, none⟩ else none)) ∧ w = w' := by
  have HI := Aside0.mk hI
  clear hI
  rcases (show c < 0 ∨ (¬ c < 0 ∧ 8 ≤ c) ∨ (¬ c < 0 ∧ ¬ 8 ≤ c) by omega) with a | ⟨a, b⟩ | ⟨a, b⟩
  · have a1 : decide (c < 0) = true := decide_eq_true a
    rw [if_neg (by omega)]
    clear a
    go_enter Try.func36, Try.ntmps36
    go_wp2_with fail
    refine (session_Table_none.calls g R w0 w HI.out).mono ?_
    rintro e w1 ⟨rfl, rfl⟩
    go_wp2
    go_ret
    exact ⟨rfl, rfl⟩
  · have a1 : decide (c < 0) = false := decide_eq_false a
    have b1 : decide (8 ≤ c) = true := decide_eq_true b
    rw [if_neg (by omega)]
    clear a b
    go_enter Try.func36, Try.ntmps36
    go_wp2_with fail
    refine (session_Table_none.calls g R w0 w HI.out).mono ?_
    rintro e w1 ⟨rfl, rfl⟩
    go_wp2
    go_ret
    exact ⟨rfl, rfl⟩
  · have a1 : decide (c < 0) = false := decide_eq_false a
    have b1 : decide (8 ≤ c) = false := decide_eq_false b
    rw [if_pos (by omega)]
    obtain ⟨n, rfl⟩ := Int.eq_ofNat_of_zero_le (show 0 ≤ c by omega)
    rw [Int.toNat_natCast]
    have hn : n < 8 := by omega
    clear a b
    go_enter Try.func36, Try.ntmps36
    go_wp2_with fail
    refine (session_Table_none.calls g R w0 w HI.out).mono ?_
    rintro e w1 ⟨rfl, rfl⟩
    go_wp2
    go_ret
    exact ⟨rfl, rfl⟩
theorem session_Table_row.dead {p : Option Addr} (c : Int) (w : World) (h : DeadT w p) :
    Calls Try.prog 36 #[.pointer p, .int .i64 c] w fun e w' => e = .returned (.pointer none) ∧ w = w' := by
  have H := Aside0.mk h
  clear h
  go_enter Try.func36, Try.ntmps36
  go_wp2_with fail
  refine (session_Table_none.dead w H.out).mono ?_
  rintro e w1 ⟨rfl, rfl⟩
  go_wp2
  go_ret
  exact ⟨rfl, rfl⟩

end
section
open Go.RowKit Go.Proofs.YtlfnfgoocliecaaW.PrintWords Go.Proofs.YtlfnfgoocliecaaW.PrintLast Go.Proofs.YtlfnfgoocliecaaW.PrintMore
attribute [local go_sem] max2_int min2_int max_two min_two max_three min_three max_four min_four   -- for this text's walks alone
set_option linter.unusedVariables false
set_option linter.unusedSimpArgs false

--OWN Derived.RegionTactic,Derived.BigRegion
/-! ### session_Table_Look: function 16 -/
def tLook (R : Nat → SRow) (c s : Int) : Int := if 0 ≤ c ∧ c < 8 ∧ 1 ≤ s ∧ s ≤ 1099511627776 then (if (R c.toNat).q < s then 1 else if s < (R c.toNat).q then 3 else 2) else 0
set_option maxHeartbeats 2000000 in
set_option maxRecDepth 100000 in
theorem session_Table_Look.calls (g : Nat) (R : Nat → SRow) (c s : Int) (w0 w : World) (hI : IsTab w0 w g R) :
    Calls Try.prog 16 #[.pointer (some ⟨g, 0, none⟩), .int .i64 c, .int .i64 s] w fun e w' => e = .returned (.int .i64 (tLook R c s)) ∧ w = w' := by
  have HI := Aside0.mk hI
  have HR := Aside0.mk (session_Table_row.calls g R c w0 w hI)
  clear hI
  unfold tLook
  by_cases hc : 0 ≤ c ∧ c < 8
  rotate_left
  · rw [if_neg hc] at HR
    rw [if_neg (by omega)]
    clear hc
    go_enter Try.func16, Try.ntmps16
    go_wp2_with fail
    go_at_call 36
    refine HR.out.mono ?_
    rintro e w1 ⟨rfl, rfl⟩
    clear HR
    go_wp2
    go_ret
    exact ⟨rfl, rfl⟩
  · rw [if_pos hc] at HR
    obtain ⟨n, rfl⟩ := Int.eq_ofNat_of_zero_le hc.1
    rw [Int.toNat_natCast] at HR ⊢
    have hn : n < 8 := by omega
    have hq := (HI.out.cells_ hn).2.2.2.2
    generalize (R n).q = q at hq ⊢
    rcases (show s < 1 ∨ (¬ s < 1 ∧ 1099511627776 < s) ∨ (¬ s < 1 ∧ ¬ 1099511627776 < s) by omega) with a | ⟨a, b⟩ | ⟨a, b⟩
    · have a1 : decide (s < 1) = true := decide_eq_true a
      rw [if_neg (by omega)]
      clear a hc
      go_enter Try.func16, Try.ntmps16
      go_wp2_with fail
      go_at_call 36
      refine HR.out.mono ?_
      rintro e w1 ⟨rfl, rfl⟩
      clear HR
      go_wp2
      go_ret
      exact ⟨rfl, rfl⟩
    · have a1 : decide (s < 1) = false := decide_eq_false a
      have b1 : decide (1099511627776 < s) = true := decide_eq_true b
      rw [if_neg (by omega)]
      clear a b hc
      go_enter Try.func16, Try.ntmps16
      go_wp2_with fail
      go_at_call 36
      refine HR.out.mono ?_
      rintro e w1 ⟨rfl, rfl⟩
      clear HR
      go_wp2
      go_ret
      exact ⟨rfl, rfl⟩
    · have a1 : decide (s < 1) = false := decide_eq_false a
      have b1 : decide (1099511627776 < s) = false := decide_eq_false b
      rw [if_pos (by omega)]
      rcases (show q < s ∨ (¬ q < s ∧ s < q) ∨ (¬ q < s ∧ ¬ s < q) by omega) with x | ⟨x, y⟩ | ⟨x, y⟩
      · have x1 : decide (q < s) = true := decide_eq_true x
        rw [if_pos x]
        clear a b hc x
        go_enter Try.func16, Try.ntmps16
        go_wp2_with fail
        go_at_call 36
        refine HR.out.mono ?_
        rintro e w1 ⟨rfl, rfl⟩
        clear HR
        go_wp2
        go_ret
        exact ⟨rfl, rfl⟩
      · have x1 : decide (q < s) = false := decide_eq_false x
        have y1 : decide (s < q) = true := decide_eq_true y
        rw [if_neg x, if_pos y]
        clear a b hc x y
        go_enter Try.func16, Try.ntmps16
        go_wp2_with fail
        go_at_call 36
        refine HR.out.mono ?_
        rintro e w1 ⟨rfl, rfl⟩
        clear HR
        go_wp2
        go_ret
        exact ⟨rfl, rfl⟩
      · have x1 : decide (q < s) = false := decide_eq_false x
        have y1 : decide (s < q) = false := decide_eq_false y
        rw [if_neg x, if_neg y]
        clear a b hc x y
        go_enter Try.func16, Try.ntmps16
        go_wp2_with fail
        go_at_call 36
        refine HR.out.mono ?_
        rintro e w1 ⟨rfl, rfl⟩
        clear HR
        go_wp2
        go_ret
        exact ⟨rfl, rfl⟩
theorem session_Table_Look.dead {p : Option Addr} (c s : Int) (w : World) (h : DeadT w p) :
    Calls Try.prog 16 #[.pointer p, .int .i64 c, .int .i64 s] w fun e w' => e = .returned (.int .i64 0) ∧ w = w' := by
  have H := Aside0.mk h
  clear h
  go_enter Try.func16, Try.ntmps16
  go_wp2_with fail
  go_at_call 36
  refine (session_Table_row.dead c w H.out).mono ?_
  rintro e w1 ⟨rfl, rfl⟩
  go_wp2
  go_ret
  exact ⟨rfl, rfl⟩

end
section
open Go.RowKit Go.Proofs.YtlfnfgoocliecaaW.PrintWords Go.Proofs.YtlfnfgoocliecaaW.PrintLast Go.Proofs.YtlfnfgoocliecaaW.PrintMore
attribute [local go_sem] max2_int min2_int max_two min_two max_three min_three max_four min_four   -- for this text's walks alone
set_option linter.unusedVariables false
set_option linter.unusedSimpArgs false

/-! ### point_all: function 52 -/
def point_all.l0 : Nat → List Bool → Int → Int → Option (Bool)
  | 0, _, _, _ => none
  | k + 1, x5, x6, x7 => if x7 < x6 then (if 0 ≤ x7 then (if x7 < (x5.length : Int) then (if rdOf false x5 x7 = true then (point_all.l0 k x5 x6 (wrap64 (x7 + 1))) else (some false)) else (none)) else (none)) else (some true)
def point_all.f (k : Nat) (l0 : List Bool) : Option (Bool) := point_all.l0 k l0 (l0.length : Int) 0
theorem point_all.mono_l : ∀ k, (∀ y0 y1 y2, LeO (point_all.l0 k y0 y1 y2) (point_all.l0 (k + 1) y0 y1 y2))
  | 0 => fun _ _ _ r h => by simp [point_all.l0] at h
  | k + 1 => by
    have ih0 := point_all.mono_l k
    · intro y0 y1 y2
      unfold point_all.l0
      repeat' first
      | (with_reducible exact ih0 _ _ _)
      | (with_reducible exact LeO.refl _)
      | (with_reducible exact LeO.none _)
      | (with_reducible refine LeO.ite ?_ ?_)
      | (with_reducible refine LeO.bind ?_ (fun _ => ?_))
      | exact ih0 _ _ _
      | exact LeO.none _
      | refine LeO.ite ?_ ?_
      | refine LeO.bind ?_ (fun _ => ?_)
theorem point_all.mono : ∀ a0 k, LeO (point_all.f k a0) (point_all.f (k + 1) a0) := by
  intro a0 k
  have ih0 := point_all.mono_l k
  unfold point_all.f
  repeat' first
      | (with_reducible exact ih0 _ _ _)
      | (with_reducible exact LeO.refl _)
      | (with_reducible exact LeO.none _)
      | (with_reducible refine LeO.ite ?_ ?_)
      | (with_reducible refine LeO.bind ?_ (fun _ => ?_))
      | exact ih0 _ _ _
      | exact LeO.none _
      | refine LeO.ite ?_ ?_
      | refine LeO.bind ?_ (fun _ => ?_)
set_option maxHeartbeats 8000000 in
set_option maxRecDepth 100000 in
theorem point_all.calls (k : Nat) (A0 : Option Addr) (c0 : Nat) (l0 : List Bool) (r : Bool) (w : World) (hr0 : Kd.C Kd.bool w A0 l0.length l0) (hc0 : l0.length ≤ c0) (h : point_all.f k l0 = some r) :
    Calls Try.prog 52 #[.slice A0 l0.length c0] w fun e w' => e = .returned (.bool r) ∧ Drawn0 w w' := by
  have HR0 := Aside0.mk hr0
  have HC0 := Aside0.mk hc0
  clear hr0 hc0
  have H : (point_all.l0 k l0 (l0.length : Int) 0) = some r := h
  clear h
  have H' := Aside0.mk H
  clear H
  go_enter Try.func52, Try.ntmps52
  go_wp2
  go_loopg [7] k (fun kq v7 w' => ∃ (x7_1 : Int), v7 = .int .i64 x7_1 ∧ Aside0 (point_all.l0 kq l0 (l0.length : Int) x7_1 = some r) ∧ Aside0 (kq ≤ k) ∧ Drawn0 w w')
  case atStart => exact ⟨(0), (by first | rfl | (simp; done) | (simp [*]; done)), H', ⟨Nat.le_refl _⟩, by repeat (first | exact Drawn0.refl _ | apply Drawn0.step)⟩
  case round =>
    clear H'
    obtain ⟨x7_1, rfl, HA, HK1, ⟨m1, rfl⟩⟩ := hrel
    cases gk with
    | zero => exact absurd HA.out (by simp [point_all.l0])
    | succ k1 =>
      have H := HA.out
      clear HA
      simp only [point_all.l0] at H
      by_cases c2 : x7_1 < (l0.length : Int)
      · rw [if_pos c2] at H
        have c2b0 : decide (x7_1 < (l0.length : Int)) = true := decide_eq_true c2
        clear c2
        by_cases c3 : 0 ≤ x7_1
        · rw [if_pos c3] at H
          have c3b0 : decide (0 ≤ x7_1) = true := decide_eq_true c3
          clear c3
          by_cases c4 : x7_1 < (l0.length : Int)
          · rw [if_pos c4] at H
            have c4b0 : decide (x7_1 < (l0.length : Int)) = true := decide_eq_true c4
            clear c4
            obtain ⟨bq5, hbq5⟩ : ∃ b_ : Bool, b_ = (rdOf false l0 x7_1) := ⟨_, rfl⟩
            replace H : (if bq5 = true then (point_all.l0 k1 l0 (l0.length : Int) (wrap64 (x7_1 + 1))) else (some false)) = some r := by rw [← hbq5] at H; exact H
            have Nbq5 := Aside0.mk hbq5
            clear hbq5
            by_cases c6 : bq5 = true
            · subst c6
              have H1 : (point_all.l0 k1 l0 (l0.length : Int) (wrap64 (x7_1 + 1))) = some r := by rw [if_pos rfl] at H; exact H
              clear H
              have H := H1
              clear H1
              have H' := Aside0.mk H
              clear H
              have p115 : 0 ≤ (x7_1 : Int) := of_decide_eq_true (by first | (with_reducible assumption) | assumption)
              have q115 : x7_1 < (l0.length : Int) := of_decide_eq_true (by first | (with_reducible assumption) | assumption)
              obtain ⟨ad115, e115, hx115_0⟩ := Kd.at_bool HR0.out x7_1 p115 q115
              (try rw [← Nbq5.out] at hx115_0)
              cases e115
              replace p115 := eq_true p115
              replace q115 := eq_true q115
              go_wp2
              go_roundg k1
              case measure => have := HK1.out; omega
              case rel => exact ⟨(wrap64 (x7_1 + 1)), (by first | rfl | (simp; done) | (simp [*]; done)), H', ⟨by have := HK1.out; omega⟩, by repeat (first | exact Drawn0.refl _ | apply Drawn0.step)⟩
            · replace c6 := Bool.eq_false_iff.mpr c6
              subst c6
              have H1 : (some false) = some r := by rw [if_neg (show ¬ (false = true) by decide)] at H; exact H
              clear H
              have H := H1
              clear H1
              obtain rfl := Option.some.inj H
              have p115 : 0 ≤ (x7_1 : Int) := of_decide_eq_true (by first | (with_reducible assumption) | assumption)
              have q115 : x7_1 < (l0.length : Int) := of_decide_eq_true (by first | (with_reducible assumption) | assumption)
              obtain ⟨ad115, e115, hx115_0⟩ := Kd.at_bool HR0.out x7_1 p115 q115
              (try rw [← Nbq5.out] at hx115_0)
              cases e115
              replace p115 := eq_true p115
              replace q115 := eq_true q115
              go_wp2
              go_ret
              exact ⟨by first | rfl | (simp; done) | (simp [*]; done), by repeat (first | exact Drawn0.refl _ | apply Drawn0.step)⟩
          · rw [if_neg c4] at H
            exact absurd H (by simp)
        · rw [if_neg c3] at H
          exact absurd H (by simp)
      · rw [if_neg c2] at H
        have c2b0 : decide (x7_1 < (l0.length : Int)) = false := decide_eq_false c2
        clear c2
        obtain rfl := Option.some.inj H
        go_wp2
        go_ret
        exact ⟨by first | rfl | (simp; done) | (simp [*]; done), by repeat (first | exact Drawn0.refl _ | apply Drawn0.step)⟩

end
section
open Go.RowKit Go.Proofs.YtlfnfgoocliecaaW.PrintWords Go.Proofs.YtlfnfgoocliecaaW.PrintLast Go.Proofs.YtlfnfgoocliecaaW.PrintMore
attribute [local go_sem] max2_int min2_int max_two min_two max_three min_three max_four min_four   -- for this text's walks alone
set_option linter.unusedVariables false
set_option linter.unusedSimpArgs false

/-! ### point_from: function 53 -/
def point_from.f (a0 : Int) (a1 : Int) (a2 : Int) : Option (Bool) := if a1 ≥ a0 then (some (decide (a1 ≤ a2))) else (some false)
set_option maxHeartbeats 8000000 in
set_option maxRecDepth 100000 in
theorem point_from.calls (a0 : Int) (a1 : Int) (a2 : Int) (r : Bool) (w : World) (h : point_from.f a0 a1 a2 = some r) :
    Calls Try.prog 53 #[.int .i64 a0, .int .i64 a1, .int .i64 a2] w fun e w' => e = .returned (.bool r) ∧ Drawn0 w w' := by
  have H : (if a1 ≥ a0 then (some (decide (a1 ≤ a2))) else (some false)) = some r := h
  clear h
  by_cases c4 : a1 ≥ a0
  · rw [if_pos c4] at H
    have c4b0 : decide (a0 ≤ a1) = true := decide_eq_true c4
    clear c4
    obtain rfl := Option.some.inj H
    go_enter Try.func53, Try.ntmps53
    go_wp2
    go_ret
    exact ⟨by first | rfl | (simp; done) | (simp [*]; done), by repeat (first | exact Drawn0.refl _ | apply Drawn0.step)⟩
  · rw [if_neg c4] at H
    have c4b0 : decide (a0 ≤ a1) = false := decide_eq_false c4
    clear c4
    obtain rfl := Option.some.inj H
    go_enter Try.func53, Try.ntmps53
    go_wp2
    go_ret
    exact ⟨by first | rfl | (simp; done) | (simp [*]; done), by repeat (first | exact Drawn0.refl _ | apply Drawn0.step)⟩

end
section
open Go.RowKit Go.Proofs.YtlfnfgoocliecaaW.PrintWords Go.Proofs.YtlfnfgoocliecaaW.PrintLast Go.Proofs.YtlfnfgoocliecaaW.PrintMore
attribute [local go_sem] max2_int min2_int max_two min_two max_three min_three max_four min_four   -- for this text's walks alone
set_option linter.unusedVariables false
set_option linter.unusedSimpArgs false

/-! ### point_RightAns: function 35 -/
def point_RightAns.f (k : Nat) (a0_0 : Int) (a0_1 : Bool) (a0_2 : ByteArray) (a0_3 : Int) : Option (Bool) := (point_from.f 0 a0_0 255).bind fun t117 => ((point_from.f 0 a0_3 1099511627776).bind fun t118 => (if a0_1 = true then ((point_all.f k (([t117, decide ((a0_2.size : Int) ≤ 32), t118, true] : List Bool))).bind fun t122 => (some t122)) else (if a0_2.toList = ([] : List UInt8) then ((point_all.f k (([t117, decide ((a0_2.size : Int) ≤ 32), t118, (a0_3 == 0)] : List Bool))).bind fun t126 => (some t126)) else ((point_all.f k (([t117, decide ((a0_2.size : Int) ≤ 32), t118, false] : List Bool))).bind fun t130 => (some t130)))))
theorem point_RightAns.mono : ∀ a0 a1 a2 a3 k, LeO (point_RightAns.f k a0 a1 a2 a3) (point_RightAns.f (k + 1) a0 a1 a2 a3) := by
  intro a0 a1 a2 a3 k
  unfold point_RightAns.f
  repeat' first
      | (with_reducible exact point_all.mono _ _)
      | (with_reducible exact LeO.refl _)
      | (with_reducible exact LeO.none _)
      | (with_reducible refine LeO.ite ?_ ?_)
      | (with_reducible refine LeO.bind ?_ (fun _ => ?_))
      | exact point_all.mono _ _
      | exact LeO.none _
      | refine LeO.ite ?_ ?_
      | refine LeO.bind ?_ (fun _ => ?_)
def point_RightAns.T1 : Bool × List (List Nat × List Nat) := (true, [([], []), ([0], [0]), ([1], [1]), ([], []), ([3], [3]), ([4], [4]), ([5], [5]), ([], []), ([7], [7]), ([8, 2], [8]), ([], []), ([10], [10]), ([11, 9], [11]), ([12], [12]), ([13, 12], [12, 13]), ([14, 12], [12, 14]), ([15, 12, 12], [12, 15]), ([16], [16]), ([17, 16], [16, 17]), ([18, 16], [16, 18]), ([16, 19, 12], [12, 16, 19]), ([12, 20], [12, 20]), ([2, 6, 9, 21], [2, 6, 9, 21]), ([22, 16], [22]), ([23, 23, 0, 1, 2, 3, 4, 5, 6, 7, 8, 9, 10, 11, 12, 13, 14, 15, 16, 17, 18, 19, 20, 21, 22, 23], [23])])
def point_RightAns.B1 : List Nat := [0, 1, 3, 0, 8, 24, 56, 0, 128, 391, 0, 1024, 3975, 8071, 16263, 32647, 65415, 130951, 262023, 524167, 1048455, 2097031, 4194303, 8388607, 16777215]
theorem point_RightAns.tab1 : rtab .any (opsOf Try.f35 1) = point_RightAns.T1 := by kernel_rfl
theorem point_RightAns.bits1 : waitsOk point_RightAns.T1.2 point_RightAns.B1 = true := by kernel_rfl
set_option maxHeartbeats 8000000 in
set_option maxRecDepth 100000 in
theorem point_RightAns.calls (k : Nat) (a0_0 : Int) (a0_1 : Bool) (a0_2 : ByteArray) (a0_3 : Int) (r : Bool) (w : World) (h : point_RightAns.f k a0_0 a0_1 a0_2 a0_3 = some r) :
    Calls Try.prog 35 #[.agg #[.int .i64 a0_0, .bool a0_1, .string a0_2, .int .i64 a0_3]] w fun e w' => e = .returned (.bool r) ∧ Below w.heap.size w w' := by
  have hu34 := Try.underlying34
  have HB := Aside0.mk (Below.refl w.heap.size w)
  have H : ((point_from.f 0 a0_0 255).bind fun t117 => ((point_from.f 0 a0_3 1099511627776).bind fun t118 => (if a0_1 = true then ((point_all.f k (([t117, decide ((a0_2.size : Int) ≤ 32), t118, true] : List Bool))).bind fun t122 => (some t122)) else (if a0_2.toList = ([] : List UInt8) then ((point_all.f k (([t117, decide ((a0_2.size : Int) ≤ 32), t118, (a0_3 == 0)] : List Bool))).bind fun t126 => (some t126)) else ((point_all.f k (([t117, decide ((a0_2.size : Int) ≤ 32), t118, false] : List Bool))).bind fun t130 => (some t130)))))) = some r := h
  clear h
  replace H := Option.bind_eq_some_iff.mp H
  obtain ⟨t117, A20, H⟩ := H
  replace H : ((point_from.f 0 a0_3 1099511627776).bind fun t118 => (if a0_1 = true then ((point_all.f k (([t117, decide ((a0_2.size : Int) ≤ 32), t118, true] : List Bool))).bind fun t122 => (some t122)) else (if a0_2.toList = ([] : List UInt8) then ((point_all.f k (([t117, decide ((a0_2.size : Int) ≤ 32), t118, (a0_3 == 0)] : List Bool))).bind fun t126 => (some t126)) else ((point_all.f k (([t117, decide ((a0_2.size : Int) ≤ 32), t118, false] : List Bool))).bind fun t130 => (some t130))))) = some r := H
  have A2 := Aside0.mk A20
  clear A20
  replace H := Option.bind_eq_some_iff.mp H
  obtain ⟨t118, A30, H⟩ := H
  replace H : (if a0_1 = true then ((point_all.f k (([t117, decide ((a0_2.size : Int) ≤ 32), t118, true] : List Bool))).bind fun t122 => (some t122)) else (if a0_2.toList = ([] : List UInt8) then ((point_all.f k (([t117, decide ((a0_2.size : Int) ≤ 32), t118, (a0_3 == 0)] : List Bool))).bind fun t126 => (some t126)) else ((point_all.f k (([t117, decide ((a0_2.size : Int) ≤ 32), t118, false] : List Bool))).bind fun t130 => (some t130)))) = some r := H
  have A3 := Aside0.mk A30
  clear A30
  by_cases c4 : a0_1 = true
  · subst c4
    have H1 : ((point_all.f k (([t117, decide ((a0_2.size : Int) ≤ 32), t118, true] : List Bool))).bind fun t122 => (some t122)) = some r := by rw [if_pos rfl] at H; exact H
    clear H
    have H := H1
    clear H1
    obtain ⟨y119, hy119⟩ : ∃ y_ : List Bool, y_ = (([t117, decide ((a0_2.size : Int) ≤ 32), t118, true] : List Bool)) := ⟨_, rfl⟩
    replace H : ((point_all.f k y119).bind fun t122 => (some t122)) = some r := by first | (rw [hy119]; with_reducible exact H) | (have H2_ := (Option.bind_some _ _).symm.trans H; rw [hy119]; with_reducible exact H2_) | (have H2_ := (Option.bind_some _ _).symm.trans H; with_reducible exact H2_) | with_reducible exact H | (rw [hy119]; exact H) | exact H
    have Ny119 := Aside0.mk hy119
    clear hy119
    replace H := Option.bind_eq_some_iff.mp H
    obtain ⟨t122, A50, H⟩ := H
    replace H : (some t122) = some r := H
    have A5 := Aside0.mk A50
    clear A50
    obtain rfl := Option.some.inj H
    go_enter Try.func35, Try.ntmps35
    try go_wp2_with (first | ((with_reducible refine gate_dst (N := 1) rfl ?_); refine box_event ?hg (N := 1) ?hd (cs := #[.int .i64 a0_0, .bool true, .string a0_2, .int .i64 a0_3]) (t := 34) ?hr ?_; (case hd => rfl); (case hg => rfl); (case hr => first | (go_simp; done) | (go_simp; rfl)); intro gb116 hg w6 hbox hb; have n0_ := Aside0.mk (below_step (by repeat (first | (with_reducible first | exact HB.out | apply below_alloc | apply pw_below_drewN | apply below_drew1) | exact HB.out)) hb); have n1_ := Aside0.mk (hbox); have n2_ := Aside0.mk ((by rw [hg]; exact (below_size (by repeat (first | (with_reducible first | exact HB.out | apply below_alloc | apply pw_below_drewN | apply below_drew1) | exact HB.out))) : w.heap.size ≤ gb116)); have n3_ := Aside0.mk ((by rw [hg]; exact (below_size (by repeat (first | (with_reducible first | exact HB.out | apply below_alloc | apply pw_below_drewN | apply below_drew1) | exact HB.out))) : w.heap.size ≤ gb116)); clear HB; have HB := n0_; have BK116 := n1_; have GW116 := n2_; have GE116 := n3_; clear n0_ n1_ n2_ n3_; clear hb hbox hg))
    have n0_ := Aside0.mk (blk_drew BK116.out)
    have n1_ := Aside0.mk (below_drew1 HB.out)
    clear BK116
    clear HB
    have BK116 := n0_
    have HB := n1_
    clear n0_ n1_
    refine start_ (n := 25) (S := fun w' => w'.cell? ⟨gb116, 0, none⟩ = some (.int .i64 a0_0) ∧ w'.cell? ⟨gb116, 1, none⟩ = some (.bool true) ∧ w'.cell? ⟨gb116, 2, none⟩ = some (.string a0_2) ∧ w'.cell? ⟨gb116, 3, none⟩ = some (.int .i64 a0_3)) (ds := []) #[false, false, false, false, false, false, false, false, false, false, false, false, false, false, false, false, false, false, false, false, false, false, false, false, false] (by kernel_rfl) rfl rfl ⟨(blk_cell BK116.out 0).trans rfl, (blk_cell BK116.out 1).trans rfl, (blk_cell BK116.out 2).trans rfl, (blk_cell BK116.out 3).trans rfl⟩ (fun hHeld => ?_); refine with_tabW point_RightAns.tab1 point_RightAns.bits1 (fun HT_ HW_ => ?_)
    generalize w6.drew = w7 at BK116 HB hHeld ⊢
    refine pure_ (i := 0) (N := some 3) (v := ?_) (a' := ?_) #[true, false, false, false, false, false, false, false, false, false, false, false, false, false, false, false, false, false, false, false, false, false, false, false, false] rfl rfl (any_of HT_.out (by kernel_rfl)) (fun _ _ _ h => h) (Or.inl ⟨by rfl, ?_⟩) ?_ ?_
    rotate_left
    · intro w'
      go_simp
      with_reducible rfl
    rotate_left
    · simp only [Act.put, List.setIfInBounds_toArray, List.set_cons_zero, List.set_cons_succ, i64_w, i32_w]
      rfl
    refine pure_ (i := 3) (N := some 6) (v := ?_) (a' := ?_) #[true, false, false, true, false, false, false, false, false, false, false, false, false, false, false, false, false, false, false, false, false, false, false, false, false] rfl rfl (any_of HT_.out (by kernel_rfl)) (fun _ _ _ h => h) (Or.inl ⟨by rfl, ?_⟩) ?_ ?_
    rotate_left
    · intro w'
      go_simp
      with_reducible rfl
    rotate_left
    · simp only [Act.put, List.setIfInBounds_toArray, List.set_cons_zero, List.set_cons_succ, i64_w, i32_w]
      rfl
    refine pure_ (i := 7) (N := some 10) (v := ?_) (a' := ?_) #[true, false, false, true, false, false, false, true, false, false, false, false, false, false, false, false, false, false, false, false, false, false, false, false, false] rfl rfl (any_of HT_.out (by kernel_rfl)) (fun _ _ _ h => h) (Or.inl ⟨by rfl, ?_⟩) ?_ ?_
    rotate_left
    · intro w'
      go_simp
      with_reducible rfl
    rotate_left
    · simp only [Act.put, List.setIfInBounds_toArray, List.set_cons_zero, List.set_cons_succ, i64_w, i32_w]
      rfl
    refine pure_ (i := 10) (N := some 13) (v := ?_) (a' := ?_) #[true, false, false, true, false, false, false, true, false, false, true, false, false, false, false, false, false, false, false, false, false, false, false, false, false] rfl rfl (any_of HT_.out (by kernel_rfl)) (fun _ _ _ h => h) (Or.inl ⟨by rfl, ?_⟩) ?_ ?_
    rotate_left
    · intro w'
      go_simp
      with_reducible rfl
    rotate_left
    · simp only [Act.put, List.setIfInBounds_toArray, List.set_cons_zero, List.set_cons_succ, i64_w, i32_w]
      rfl
    refine take_ (i := 1) (N := some 4) (v := ?_) (a' := ?_) #[true, true, false, true, false, false, false, true, false, false, true, false, false, false, false, false, false, false, false, false, false, false, false, false, false] rfl rfl (take_ofW HT_.out HW_.out (by kernel_rfl)) (fun _ _ _ h => h) (Or.inl ⟨by rfl, ?_⟩) hHeld ?_ ?_
    rotate_left
    · rintro w' ⟨s0, s1, s2, s3⟩
      go_simp
      with_reducible rfl
    rotate_left
    · simp only [Act.put, List.setIfInBounds_toArray, List.set_cons_zero, List.set_cons_succ, i64_w, i32_w]
      rfl
    refine take_ (i := 4) (N := some 7) (v := ?_) (a' := ?_) #[true, true, false, true, true, false, false, true, false, false, true, false, false, false, false, false, false, false, false, false, false, false, false, false, false] rfl rfl (take_ofW HT_.out HW_.out (by kernel_rfl)) (fun _ _ _ h => h) (Or.inl ⟨by rfl, ?_⟩) hHeld ?_ ?_
    rotate_left
    · rintro w' ⟨s0, s1, s2, s3⟩
      go_simp
      with_reducible rfl
    rotate_left
    · simp only [Act.put, List.setIfInBounds_toArray, List.set_cons_zero, List.set_cons_succ, i64_w, i32_w]
      rfl
    refine pure_ (i := 5) (N := some 8) (v := ?_) (a' := ?_) #[true, true, false, true, true, true, false, true, false, false, true, false, false, false, false, false, false, false, false, false, false, false, false, false, false] rfl rfl (any_of HT_.out (by kernel_rfl)) (fun _ _ _ h => h) (Or.inl ⟨by rfl, ?_⟩) ?_ ?_
    rotate_left
    · intro w'
      go_simp
      with_reducible rfl
    rotate_left
    · simp only [Act.put, List.setIfInBounds_toArray, List.set_cons_zero, List.set_cons_succ, i64_w, i32_w]
      rfl
    refine pure_ (i := 6) (N := some 9) (v := ?_) (a' := ?_) #[true, true, false, true, true, true, true, true, false, false, true, false, false, false, false, false, false, false, false, false, false, false, false, false, false] rfl rfl (any_of HT_.out (by kernel_rfl)) (fun _ _ _ h => h) (Or.inl ⟨by rfl, ?_⟩) ?_ ?_
    rotate_left
    · intro w'
      go_simp
      with_reducible rfl
    rotate_left
    · simp only [Act.put, List.setIfInBounds_toArray, List.set_cons_zero, List.set_cons_succ, i64_w, i32_w]
      rfl
    refine take_ (i := 8) (N := some 11) (v := ?_) (a' := ?_) #[true, true, false, true, true, true, true, true, true, false, true, false, false, false, false, false, false, false, false, false, false, false, false, false, false] rfl rfl (take_ofW HT_.out HW_.out (by kernel_rfl)) (fun _ _ _ h => h) (Or.inl ⟨by rfl, ?_⟩) hHeld ?_ ?_
    rotate_left
    · rintro w' ⟨s0, s1, s2, s3⟩
      go_simp
      with_reducible rfl
    rotate_left
    · simp only [Act.put, List.setIfInBounds_toArray, List.set_cons_zero, List.set_cons_succ, i64_w, i32_w]
      rfl
    refine take_ (i := 11) (N := some 14) (v := ?_) (a' := ?_) #[true, true, false, true, true, true, true, true, true, false, true, true, false, false, false, false, false, false, false, false, false, false, false, false, false] rfl rfl (take_ofW HT_.out HW_.out (by kernel_rfl)) (fun _ _ _ h => h) (Or.inl ⟨by rfl, ?_⟩) hHeld ?_ ?_
    rotate_left
    · rintro w' ⟨s0, s1, s2, s3⟩
      go_simp
      with_reducible rfl
    rotate_left
    · simp only [Act.put, List.setIfInBounds_toArray, List.set_cons_zero, List.set_cons_succ, i64_w, i32_w]
      rfl
    refine one_ (i := 2) (N := some 5) #[true, true, true, true, true, true, true, true, true, false, true, true, false, false, false, false, false, false, false, false, false, false, false, false, false] rfl rfl (one_of HT_.out (by kernel_rfl)) (by decide) (fun K hK => ?_)
    refine goes_ Try.func53 (by kernel_rfl) rfl #[.int .i64 0, .int .i64 a0_0, .int .i64 255] (by rfl) rfl rfl (by (try simp only [List.map_toArray, List.map_cons, List.map_nil]); first | done | rfl | (simp only [List.length_drop, List.length_take]; rfl)) ?_
    with_reducible refine (point_from.calls 0 a0_0 255 t117 _ A2.out).mono ?_
    rintro e w' ⟨rfl, ⟨nd, rfl⟩⟩
    refine ⟨_, rfl, ?_⟩
    refine hK.out _ _ ⟨(blk_cell BK116.out 0).trans rfl, (blk_cell BK116.out 1).trans rfl, (blk_cell BK116.out 2).trans rfl, (blk_cell BK116.out 3).trans rfl⟩ (fun hHeld => ?_)
    clear hK K
    refine norm_ (a' := ?_) ?_ ?_
    rotate_left
    · show Act.put _ (some 5) _ = _
      simp only [Act.put, List.setIfInBounds_toArray, List.set_cons_zero, List.set_cons_succ, i64_w, i32_w]
      rfl
    refine one_ (i := 9) (N := some 12) #[true, true, true, true, true, true, true, true, true, true, true, true, false, false, false, false, false, false, false, false, false, false, false, false, false] rfl rfl (one_of HT_.out (by kernel_rfl)) (by decide) (fun K hK => ?_)
    refine goes_ Try.func53 (by kernel_rfl) rfl #[.int .i64 0, .int .i64 a0_3, .int .i64 1099511627776] (by rfl) rfl rfl (by (try simp only [List.map_toArray, List.map_cons, List.map_nil]); first | done | rfl | (simp only [List.length_drop, List.length_take]; rfl)) ?_
    with_reducible refine (point_from.calls 0 a0_3 1099511627776 t118 _ A3.out).mono ?_
    rintro e w' ⟨rfl, ⟨nd, rfl⟩⟩
    refine ⟨_, rfl, ?_⟩
    refine hK.out _ _ ⟨(blk_cell BK116.out 0).trans rfl, (blk_cell BK116.out 1).trans rfl, (blk_cell BK116.out 2).trans rfl, (blk_cell BK116.out 3).trans rfl⟩ (fun hHeld => ?_)
    clear hK K
    refine norm_ (a' := ?_) ?_ ?_
    rotate_left
    · show Act.put _ (some 12) _ = _
      simp only [Act.put, List.setIfInBounds_toArray, List.set_cons_zero, List.set_cons_succ, i64_w, i32_w]
      rfl
    refine pure_ (i := 12) (N := some 15) (v := ?_) (a' := ?_) #[true, true, true, true, true, true, true, true, true, true, true, true, true, false, false, false, false, false, false, false, false, false, false, false, false] rfl rfl (any_of HT_.out (by kernel_rfl)) (fun _ _ _ h => h) (Or.inl ⟨by rfl, ?_⟩) ?_ ?_
    rotate_left
    · intro w'
      go_simp
      with_reducible rfl
    rotate_left
    · simp only [Act.put, List.setIfInBounds_toArray, List.set_cons_zero, List.set_cons_succ, i64_w, i32_w]
      rfl
    refine pure_ (i := 13) (N := some 16) (v := undef) (a' := ?_) #[true, true, true, true, true, true, true, true, true, true, true, true, true, true, false, false, false, false, false, false, false, false, false, false, false] rfl rfl (any_of HT_.out (by kernel_rfl)) (fun _ _ _ h => h) (Or.inr ⟨by rfl, rfl⟩) ?_ ?_
    rotate_left
    · simp only [Act.put, List.setIfInBounds_toArray, List.set_cons_zero, List.set_cons_succ, i64_w, i32_w]
      rfl
    refine pure_ (i := 14) (N := some 17) (v := undef) (a' := ?_) #[true, true, true, true, true, true, true, true, true, true, true, true, true, true, true, false, false, false, false, false, false, false, false, false, false] rfl rfl (any_of HT_.out (by kernel_rfl)) (fun _ _ _ h => h) (Or.inr ⟨by rfl, rfl⟩) ?_ ?_
    rotate_left
    · simp only [Act.put, List.setIfInBounds_toArray, List.set_cons_zero, List.set_cons_succ, i64_w, i32_w]
      rfl
    refine pure_ (i := 15) (N := some 18) (v := undef) (a' := ?_) #[true, true, true, true, true, true, true, true, true, true, true, true, true, true, true, true, false, false, false, false, false, false, false, false, false] rfl rfl (any_of HT_.out (by kernel_rfl)) (fun _ _ _ h => h) (Or.inr ⟨by rfl, rfl⟩) ?_ ?_
    rotate_left
    · simp only [Act.put, List.setIfInBounds_toArray, List.set_cons_zero, List.set_cons_succ, i64_w, i32_w]
      rfl
    refine pure_ (i := 16) (N := some 19) (v := undef) (a' := ?_) #[true, true, true, true, true, true, true, true, true, true, true, true, true, true, true, true, true, false, false, false, false, false, false, false, false] rfl rfl (any_of HT_.out (by kernel_rfl)) (fun _ _ _ h => h) (Or.inr ⟨by rfl, rfl⟩) ?_ ?_
    rotate_left
    · simp only [Act.put, List.setIfInBounds_toArray, List.set_cons_zero, List.set_cons_succ, i64_w, i32_w]
      rfl
    refine pure_ (i := 17) (N := some 20) (v := undef) (a' := ?_) #[true, true, true, true, true, true, true, true, true, true, true, true, true, true, true, true, true, true, false, false, false, false, false, false, false] rfl rfl (any_of HT_.out (by kernel_rfl)) (fun _ _ _ h => h) (Or.inr ⟨by rfl, rfl⟩) ?_ ?_
    rotate_left
    · simp only [Act.put, List.setIfInBounds_toArray, List.set_cons_zero, List.set_cons_succ, i64_w, i32_w]
      rfl
    refine pure_ (i := 18) (N := some 21) (v := undef) (a' := ?_) #[true, true, true, true, true, true, true, true, true, true, true, true, true, true, true, true, true, true, true, false, false, false, false, false, false] rfl rfl (any_of HT_.out (by kernel_rfl)) (fun _ _ _ h => h) (Or.inr ⟨by rfl, rfl⟩) ?_ ?_
    rotate_left
    · simp only [Act.put, List.setIfInBounds_toArray, List.set_cons_zero, List.set_cons_succ, i64_w, i32_w]
      rfl
    refine pure_ (i := 19) (N := some 22) (v := undef) (a' := ?_) #[true, true, true, true, true, true, true, true, true, true, true, true, true, true, true, true, true, true, true, true, false, false, false, false, false] rfl rfl (any_of HT_.out (by kernel_rfl)) (fun _ _ _ h => h) (Or.inr ⟨by rfl, rfl⟩) ?_ ?_
    rotate_left
    · simp only [Act.put, List.setIfInBounds_toArray, List.set_cons_zero, List.set_cons_succ, i64_w, i32_w]
      rfl
    refine pure_ (i := 20) (N := some 23) (v := undef) (a' := ?_) #[true, true, true, true, true, true, true, true, true, true, true, true, true, true, true, true, true, true, true, true, true, false, false, false, false] rfl rfl (any_of HT_.out (by kernel_rfl)) (fun _ _ _ h => h) (Or.inr ⟨by rfl, rfl⟩) ?_ ?_
    rotate_left
    · simp only [Act.put, List.setIfInBounds_toArray, List.set_cons_zero, List.set_cons_succ, i64_w, i32_w]
      rfl
    refine pure_ (i := 21) (N := some 24) (v := ?_) (a' := ?_) #[true, true, true, true, true, true, true, true, true, true, true, true, true, true, true, true, true, true, true, true, true, true, false, false, false] rfl rfl (any_of HT_.out (by kernel_rfl)) (fun _ _ _ h => h) (Or.inl ⟨by rfl, ?_⟩) ?_ ?_
    rotate_left
    · intro w'
      go_simp
      with_reducible rfl
    rotate_left
    · simp only [Act.put, List.setIfInBounds_toArray, List.set_cons_zero, List.set_cons_succ, i64_w, i32_w]
      rfl
    refine one_ (i := 22) (N := some 25) #[true, true, true, true, true, true, true, true, true, true, true, true, true, true, true, true, true, true, true, true, true, true, true, false, false] rfl rfl (one_of HT_.out (by kernel_rfl)) (by decide) (fun K hK => ?_)
    refine Kd.R_lit_step Kd.bool _ 4 ?hg (N := 25) ?hd (xs := ([t117, decide ((a0_2.size : Int) ≤ 32), t118, true] : List Bool)) (inner := [.bool t117, .bool (decide ((a0_2.size : Int) ≤ 32)), .bool t118, .bool true]) (ok := fun _ => True) (okp := fun _ => True) ?hr ?hp (fun _ hk => hk) trivial (Below.refl _ _) (Nat.le_refl _) (by simp) ?_; (case hd => rfl); (case hg => rfl); (case hr => first | (go_simp; done) | (go_simp; rfl)); (case hp => exact (Reps.one (show Kd.M Kd.bool _ _ _ t117 [.bool t117] from rfl) (Reps.one (show Kd.M Kd.bool _ _ _ (decide ((a0_2.size : Int) ≤ 32)) [.bool (decide ((a0_2.size : Int) ≤ 32))] from rfl) (Reps.one (show Kd.M Kd.bool _ _ _ t118 [.bool t118] from rfl) (Reps.one (show Kd.M Kd.bool _ _ _ true [.bool true] from rfl) (Reps.none _ _))))))
    intro v120 w8 ho9 hb hg_ hnew_
    clear hg_ hnew_
    (first | rw [← Ny119.out] at ho9 | (simp only [Int.reduceToNat] at ho9; rw [← Ny119.out] at ho9))
    have n0_ := Aside0.mk (Kd.R_lower ho9 (below_size (by repeat (first | (with_reducible first | exact HB.out | apply below_alloc | apply pw_below_drewN | apply below_drew1 | refine below_set ?_ GE116.out) | exact HB.out))))
    have n1_ := Aside0.mk (blk_below (g := gb116) (o := .cells #[.int .i64 a0_0, .bool true, .string a0_2, .int .i64 a0_3] 34 (0, 0)) (by (with_reducible repeat (first | refine blk_drewN ?_ _ | refine blk_drew ?_ | refine blk_alloc ?_ _)); exact BK116.out) hb)
    have n2_ := Aside0.mk (below_step (by repeat (first | (with_reducible first | exact HB.out | apply below_alloc | apply pw_below_drewN | apply below_drew1 | refine below_set ?_ GE116.out) | exact HB.out)) hb)
    clear BK116
    clear HB
    have HO121 := n0_
    have BK116 := n1_
    have HB := n2_
    clear n0_ n1_ n2_
    clear hb ho9
    obtain ⟨Ao10, co10, eo10⟩ := Kd.R_slice HO121.out
    (first | subst eo10 | (injection eo10 with f1_ f2_ f3_; have f4_ := f1_.symm; have f5_ := f3_.symm; clear f1_ f2_ f3_; subst f4_; subst f5_))
    refine hK.out _ _ ⟨(blk_cell BK116.out 0).trans rfl, (blk_cell BK116.out 1).trans rfl, (blk_cell BK116.out 2).trans rfl, (blk_cell BK116.out 3).trans rfl⟩ (fun hHeld => ?_)
    clear hK K
    refine norm_ (a' := ?_) ?_ ?_
    rotate_left
    · show Act.put _ (some 25) _ = _
      simp only [Act.put, List.setIfInBounds_toArray, List.set_cons_zero, List.set_cons_succ, i64_w, i32_w]
      rfl
    refine one_ (i := 23) (N := some 26) #[true, true, true, true, true, true, true, true, true, true, true, true, true, true, true, true, true, true, true, true, true, true, true, true, false] rfl rfl (one_of HT_.out (by kernel_rfl)) (by decide) (fun K hK => ?_)
    refine goes_ Try.func52 (by kernel_rfl) rfl #[.slice Ao10 y119.length co10] (by rfl) rfl rfl (by (try simp only [List.map_toArray, List.map_cons, List.map_nil]); first | done | rfl | (simp only [List.length_drop, List.length_take]; rfl)) ?_
    with_reducible refine (point_all.calls k _ _ y119 t122 _ ?side1 ?side2 A5.out).mono ?_
    (case side1 => repeat (first | exact (Kd.R_reads' HO121.out).2.2 | (with_reducible refine Kd.C_alloc ?_ _) | (with_reducible refine Kd.C_drewN ?_ _) | (with_reducible refine Kd.C_drew ?_)))
    (case side2 => exact (Kd.R_reads' HO121.out).2.1)
    rintro e w' ⟨rfl, ⟨nd, rfl⟩⟩
    refine ⟨_, rfl, ?_⟩
    refine hK.out _ _ ⟨(blk_cell BK116.out 0).trans rfl, (blk_cell BK116.out 1).trans rfl, (blk_cell BK116.out 2).trans rfl, (blk_cell BK116.out 3).trans rfl⟩ (fun hHeld => ?_)
    clear hK K
    refine norm_ (a' := ?_) ?_ ?_
    rotate_left
    · show Act.put _ (some 26) _ = _
      simp only [Act.put, List.setIfInBounds_toArray, List.set_cons_zero, List.set_cons_succ, i64_w, i32_w]
      rfl
    refine pure_ (i := 24) (N := some 2) (v := ?_) (a' := ?_) #[true, true, true, true, true, true, true, true, true, true, true, true, true, true, true, true, true, true, true, true, true, true, true, true, true] rfl rfl (any_of HT_.out (by kernel_rfl)) (fun _ _ _ h => h) (Or.inl ⟨by rfl, ?_⟩) ?_ ?_
    rotate_left
    · intro w'
      go_simp
      with_reducible rfl
    rotate_left
    · simp only [Act.put, List.setIfInBounds_toArray, List.set_cons_zero, List.set_cons_succ, i64_w, i32_w]
      rfl
    refine done_ (done_of HT_.out (by kernel_rfl)) ?_
    try go_wp2
    go_ret
    exact ⟨by first | rfl | (simp [errW_none, errW_some] <;> rfl) | (simp [*, errW_none, errW_some] <;> rfl), by repeat (first | (with_reducible first | exact HB.out | apply below_alloc | apply pw_below_drewN | apply below_drew1 | refine below_set ?_ GE116.out) | exact HB.out)⟩
  · replace c4 := Bool.eq_false_iff.mpr c4
    subst c4
    have H1 : (if a0_2.toList = ([] : List UInt8) then ((point_all.f k (([t117, decide ((a0_2.size : Int) ≤ 32), t118, (a0_3 == 0)] : List Bool))).bind fun t126 => (some t126)) else ((point_all.f k (([t117, decide ((a0_2.size : Int) ≤ 32), t118, false] : List Bool))).bind fun t130 => (some t130))) = some r := by rw [if_neg (show ¬ (false = true) by decide)] at H; exact H
    clear H
    have H := H1
    clear H1
    by_cases c11 : a0_2.toList = ([] : List UInt8)
    · rw [if_pos c11] at H
      have c11b0 : (a0_2.toList == ([] : List UInt8)) = true := beq_iff_eq.mpr c11
      have c11b1 : (a0_2.toList != ([] : List UInt8)) = false := bne_eq_false_iff_eq.mpr c11
      clear c11
      obtain ⟨y123, hy123⟩ : ∃ y_ : List Bool, y_ = (([t117, decide ((a0_2.size : Int) ≤ 32), t118, (a0_3 == 0)] : List Bool)) := ⟨_, rfl⟩
      replace H : ((point_all.f k y123).bind fun t126 => (some t126)) = some r := by first | (rw [hy123]; with_reducible exact H) | (have H2_ := (Option.bind_some _ _).symm.trans H; rw [hy123]; with_reducible exact H2_) | (have H2_ := (Option.bind_some _ _).symm.trans H; with_reducible exact H2_) | with_reducible exact H | (rw [hy123]; exact H) | exact H
      have Ny123 := Aside0.mk hy123
      clear hy123
      replace H := Option.bind_eq_some_iff.mp H
      obtain ⟨t126, A120, H⟩ := H
      replace H : (some t126) = some r := H
      have A12 := Aside0.mk A120
      clear A120
      obtain rfl := Option.some.inj H
      go_enter Try.func35, Try.ntmps35
      try go_wp2_with (first | ((with_reducible refine gate_dst (N := 1) rfl ?_); refine box_event ?hg (N := 1) ?hd (cs := #[.int .i64 a0_0, .bool false, .string a0_2, .int .i64 a0_3]) (t := 34) ?hr ?_; (case hd => rfl); (case hg => rfl); (case hr => first | (go_simp; done) | (go_simp; rfl)); intro gb116 hg w13 hbox hb; have n0_ := Aside0.mk (below_step (by repeat (first | (with_reducible first | exact HB.out | apply below_alloc | apply pw_below_drewN | apply below_drew1) | exact HB.out)) hb); have n1_ := Aside0.mk (hbox); have n2_ := Aside0.mk ((by rw [hg]; exact (below_size (by repeat (first | (with_reducible first | exact HB.out | apply below_alloc | apply pw_below_drewN | apply below_drew1) | exact HB.out))) : w.heap.size ≤ gb116)); have n3_ := Aside0.mk ((by rw [hg]; exact (below_size (by repeat (first | (with_reducible first | exact HB.out | apply below_alloc | apply pw_below_drewN | apply below_drew1) | exact HB.out))) : w.heap.size ≤ gb116)); clear HB; have HB := n0_; have BK116 := n1_; have GW116 := n2_; have GE116 := n3_; clear n0_ n1_ n2_ n3_; clear hb hbox hg))
      have n0_ := Aside0.mk (blk_drew BK116.out)
      have n1_ := Aside0.mk (below_drew1 HB.out)
      clear BK116
      clear HB
      have BK116 := n0_
      have HB := n1_
      clear n0_ n1_
      refine start_ (n := 25) (S := fun w' => w'.cell? ⟨gb116, 0, none⟩ = some (.int .i64 a0_0) ∧ w'.cell? ⟨gb116, 1, none⟩ = some (.bool false) ∧ w'.cell? ⟨gb116, 2, none⟩ = some (.string a0_2) ∧ w'.cell? ⟨gb116, 3, none⟩ = some (.int .i64 a0_3)) (ds := []) #[false, false, false, false, false, false, false, false, false, false, false, false, false, false, false, false, false, false, false, false, false, false, false, false, false] (by kernel_rfl) rfl rfl ⟨(blk_cell BK116.out 0).trans rfl, (blk_cell BK116.out 1).trans rfl, (blk_cell BK116.out 2).trans rfl, (blk_cell BK116.out 3).trans rfl⟩ (fun hHeld => ?_); refine with_tabW point_RightAns.tab1 point_RightAns.bits1 (fun HT_ HW_ => ?_)
      generalize w13.drew = w14 at BK116 HB hHeld ⊢
      refine pure_ (i := 0) (N := some 3) (v := ?_) (a' := ?_) #[true, false, false, false, false, false, false, false, false, false, false, false, false, false, false, false, false, false, false, false, false, false, false, false, false] rfl rfl (any_of HT_.out (by kernel_rfl)) (fun _ _ _ h => h) (Or.inl ⟨by rfl, ?_⟩) ?_ ?_
      rotate_left
      · intro w'
        go_simp
        with_reducible rfl
      rotate_left
      · simp only [Act.put, List.setIfInBounds_toArray, List.set_cons_zero, List.set_cons_succ, i64_w, i32_w]
        rfl
      refine pure_ (i := 3) (N := some 6) (v := ?_) (a' := ?_) #[true, false, false, true, false, false, false, false, false, false, false, false, false, false, false, false, false, false, false, false, false, false, false, false, false] rfl rfl (any_of HT_.out (by kernel_rfl)) (fun _ _ _ h => h) (Or.inl ⟨by rfl, ?_⟩) ?_ ?_
      rotate_left
      · intro w'
        go_simp
        with_reducible rfl
      rotate_left
      · simp only [Act.put, List.setIfInBounds_toArray, List.set_cons_zero, List.set_cons_succ, i64_w, i32_w]
        rfl
      refine pure_ (i := 7) (N := some 10) (v := ?_) (a' := ?_) #[true, false, false, true, false, false, false, true, false, false, false, false, false, false, false, false, false, false, false, false, false, false, false, false, false] rfl rfl (any_of HT_.out (by kernel_rfl)) (fun _ _ _ h => h) (Or.inl ⟨by rfl, ?_⟩) ?_ ?_
      rotate_left
      · intro w'
        go_simp
        with_reducible rfl
      rotate_left
      · simp only [Act.put, List.setIfInBounds_toArray, List.set_cons_zero, List.set_cons_succ, i64_w, i32_w]
        rfl
      refine pure_ (i := 10) (N := some 13) (v := ?_) (a' := ?_) #[true, false, false, true, false, false, false, true, false, false, true, false, false, false, false, false, false, false, false, false, false, false, false, false, false] rfl rfl (any_of HT_.out (by kernel_rfl)) (fun _ _ _ h => h) (Or.inl ⟨by rfl, ?_⟩) ?_ ?_
      rotate_left
      · intro w'
        go_simp
        with_reducible rfl
      rotate_left
      · simp only [Act.put, List.setIfInBounds_toArray, List.set_cons_zero, List.set_cons_succ, i64_w, i32_w]
        rfl
      refine take_ (i := 1) (N := some 4) (v := ?_) (a' := ?_) #[true, true, false, true, false, false, false, true, false, false, true, false, false, false, false, false, false, false, false, false, false, false, false, false, false] rfl rfl (take_ofW HT_.out HW_.out (by kernel_rfl)) (fun _ _ _ h => h) (Or.inl ⟨by rfl, ?_⟩) hHeld ?_ ?_
      rotate_left
      · rintro w' ⟨s0, s1, s2, s3⟩
        go_simp
        with_reducible rfl
      rotate_left
      · simp only [Act.put, List.setIfInBounds_toArray, List.set_cons_zero, List.set_cons_succ, i64_w, i32_w]
        rfl
      refine take_ (i := 4) (N := some 7) (v := ?_) (a' := ?_) #[true, true, false, true, true, false, false, true, false, false, true, false, false, false, false, false, false, false, false, false, false, false, false, false, false] rfl rfl (take_ofW HT_.out HW_.out (by kernel_rfl)) (fun _ _ _ h => h) (Or.inl ⟨by rfl, ?_⟩) hHeld ?_ ?_
      rotate_left
      · rintro w' ⟨s0, s1, s2, s3⟩
        go_simp
        with_reducible rfl
      rotate_left
      · simp only [Act.put, List.setIfInBounds_toArray, List.set_cons_zero, List.set_cons_succ, i64_w, i32_w]
        rfl
      refine pure_ (i := 5) (N := some 8) (v := ?_) (a' := ?_) #[true, true, false, true, true, true, false, true, false, false, true, false, false, false, false, false, false, false, false, false, false, false, false, false, false] rfl rfl (any_of HT_.out (by kernel_rfl)) (fun _ _ _ h => h) (Or.inl ⟨by rfl, ?_⟩) ?_ ?_
      rotate_left
      · intro w'
        go_simp
        with_reducible rfl
      rotate_left
      · simp only [Act.put, List.setIfInBounds_toArray, List.set_cons_zero, List.set_cons_succ, i64_w, i32_w]
        rfl
      refine pure_ (i := 6) (N := some 9) (v := ?_) (a' := ?_) #[true, true, false, true, true, true, true, true, false, false, true, false, false, false, false, false, false, false, false, false, false, false, false, false, false] rfl rfl (any_of HT_.out (by kernel_rfl)) (fun _ _ _ h => h) (Or.inl ⟨by rfl, ?_⟩) ?_ ?_
      rotate_left
      · intro w'
        go_simp
        with_reducible rfl
      rotate_left
      · simp only [Act.put, List.setIfInBounds_toArray, List.set_cons_zero, List.set_cons_succ, i64_w, i32_w]
        rfl
      refine take_ (i := 8) (N := some 11) (v := ?_) (a' := ?_) #[true, true, false, true, true, true, true, true, true, false, true, false, false, false, false, false, false, false, false, false, false, false, false, false, false] rfl rfl (take_ofW HT_.out HW_.out (by kernel_rfl)) (fun _ _ _ h => h) (Or.inl ⟨by rfl, ?_⟩) hHeld ?_ ?_
      rotate_left
      · rintro w' ⟨s0, s1, s2, s3⟩
        go_simp
        with_reducible rfl
      rotate_left
      · simp only [Act.put, List.setIfInBounds_toArray, List.set_cons_zero, List.set_cons_succ, i64_w, i32_w]
        rfl
      refine take_ (i := 11) (N := some 14) (v := ?_) (a' := ?_) #[true, true, false, true, true, true, true, true, true, false, true, true, false, false, false, false, false, false, false, false, false, false, false, false, false] rfl rfl (take_ofW HT_.out HW_.out (by kernel_rfl)) (fun _ _ _ h => h) (Or.inl ⟨by rfl, ?_⟩) hHeld ?_ ?_
      rotate_left
      · rintro w' ⟨s0, s1, s2, s3⟩
        go_simp
        with_reducible rfl
      rotate_left
      · simp only [Act.put, List.setIfInBounds_toArray, List.set_cons_zero, List.set_cons_succ, i64_w, i32_w]
        rfl
      refine one_ (i := 2) (N := some 5) #[true, true, true, true, true, true, true, true, true, false, true, true, false, false, false, false, false, false, false, false, false, false, false, false, false] rfl rfl (one_of HT_.out (by kernel_rfl)) (by decide) (fun K hK => ?_)
      refine goes_ Try.func53 (by kernel_rfl) rfl #[.int .i64 0, .int .i64 a0_0, .int .i64 255] (by rfl) rfl rfl (by (try simp only [List.map_toArray, List.map_cons, List.map_nil]); first | done | rfl | (simp only [List.length_drop, List.length_take]; rfl)) ?_
      with_reducible refine (point_from.calls 0 a0_0 255 t117 _ A2.out).mono ?_
      rintro e w' ⟨rfl, ⟨nd, rfl⟩⟩
      refine ⟨_, rfl, ?_⟩
      refine hK.out _ _ ⟨(blk_cell BK116.out 0).trans rfl, (blk_cell BK116.out 1).trans rfl, (blk_cell BK116.out 2).trans rfl, (blk_cell BK116.out 3).trans rfl⟩ (fun hHeld => ?_)
      clear hK K
      refine norm_ (a' := ?_) ?_ ?_
      rotate_left
      · show Act.put _ (some 5) _ = _
        simp only [Act.put, List.setIfInBounds_toArray, List.set_cons_zero, List.set_cons_succ, i64_w, i32_w]
        rfl
      refine one_ (i := 9) (N := some 12) #[true, true, true, true, true, true, true, true, true, true, true, true, false, false, false, false, false, false, false, false, false, false, false, false, false] rfl rfl (one_of HT_.out (by kernel_rfl)) (by decide) (fun K hK => ?_)
      refine goes_ Try.func53 (by kernel_rfl) rfl #[.int .i64 0, .int .i64 a0_3, .int .i64 1099511627776] (by rfl) rfl rfl (by (try simp only [List.map_toArray, List.map_cons, List.map_nil]); first | done | rfl | (simp only [List.length_drop, List.length_take]; rfl)) ?_
      with_reducible refine (point_from.calls 0 a0_3 1099511627776 t118 _ A3.out).mono ?_
      rintro e w' ⟨rfl, ⟨nd, rfl⟩⟩
      refine ⟨_, rfl, ?_⟩
      refine hK.out _ _ ⟨(blk_cell BK116.out 0).trans rfl, (blk_cell BK116.out 1).trans rfl, (blk_cell BK116.out 2).trans rfl, (blk_cell BK116.out 3).trans rfl⟩ (fun hHeld => ?_)
      clear hK K
      refine norm_ (a' := ?_) ?_ ?_
      rotate_left
      · show Act.put _ (some 12) _ = _
        simp only [Act.put, List.setIfInBounds_toArray, List.set_cons_zero, List.set_cons_succ, i64_w, i32_w]
        rfl
      refine pure_ (i := 12) (N := some 15) (v := ?_) (a' := ?_) #[true, true, true, true, true, true, true, true, true, true, true, true, true, false, false, false, false, false, false, false, false, false, false, false, false] rfl rfl (any_of HT_.out (by kernel_rfl)) (fun _ _ _ h => h) (Or.inl ⟨by rfl, ?_⟩) ?_ ?_
      rotate_left
      · intro w'
        go_simp
        with_reducible rfl
      rotate_left
      · simp only [Act.put, List.setIfInBounds_toArray, List.set_cons_zero, List.set_cons_succ, i64_w, i32_w]
        rfl
      refine pure_ (i := 13) (N := some 16) (v := ?_) (a' := ?_) #[true, true, true, true, true, true, true, true, true, true, true, true, true, true, false, false, false, false, false, false, false, false, false, false, false] rfl rfl (any_of HT_.out (by kernel_rfl)) (fun _ _ _ h => h) (Or.inl ⟨by rfl, ?_⟩) ?_ ?_
      rotate_left
      · intro w'
        go_simp
        with_reducible rfl
      rotate_left
      · simp only [Act.put, List.setIfInBounds_toArray, List.set_cons_zero, List.set_cons_succ, i64_w, i32_w]
        rfl
      refine take_ (i := 14) (N := some 17) (v := ?_) (a' := ?_) #[true, true, true, true, true, true, true, true, true, true, true, true, true, true, true, false, false, false, false, false, false, false, false, false, false] rfl rfl (take_ofW HT_.out HW_.out (by kernel_rfl)) (fun _ _ _ h => h) (Or.inl ⟨by rfl, ?_⟩) hHeld ?_ ?_
      rotate_left
      · rintro w' ⟨s0, s1, s2, s3⟩
        go_simp
        with_reducible rfl
      rotate_left
      · simp only [Act.put, List.setIfInBounds_toArray, List.set_cons_zero, List.set_cons_succ, i64_w, i32_w]
        rfl
      refine pure_ (i := 15) (N := some 18) (v := ?_) (a' := ?_) #[true, true, true, true, true, true, true, true, true, true, true, true, true, true, true, true, false, false, false, false, false, false, false, false, false] rfl rfl (any_of HT_.out (by kernel_rfl)) (fun _ _ _ h => h) (Or.inl ⟨by rfl, ?_⟩) ?_ ?_
      rotate_left
      · intro w'
        go_simp
        with_reducible rfl
      rotate_left
      · simp only [Act.put, List.setIfInBounds_toArray, List.set_cons_zero, List.set_cons_succ, i64_w, i32_w]
        rfl
      refine pure_ (i := 16) (N := some 19) (v := ?_) (a' := ?_) #[true, true, true, true, true, true, true, true, true, true, true, true, true, true, true, true, true, false, false, false, false, false, false, false, false] rfl rfl (any_of HT_.out (by kernel_rfl)) (fun _ _ _ h => h) (Or.inl ⟨by rfl, ?_⟩) ?_ ?_
      rotate_left
      · intro w'
        go_simp
        with_reducible rfl
      rotate_left
      · simp only [Act.put, List.setIfInBounds_toArray, List.set_cons_zero, List.set_cons_succ, i64_w, i32_w]
        rfl
      refine pure_ (i := 17) (N := some 20) (v := ?_) (a' := ?_) #[true, true, true, true, true, true, true, true, true, true, true, true, true, true, true, true, true, true, false, false, false, false, false, false, false] rfl rfl (any_of HT_.out (by kernel_rfl)) (fun _ _ _ h => h) (Or.inl ⟨by rfl, ?_⟩) ?_ ?_
      rotate_left
      · intro w'
        go_simp
        with_reducible rfl
      rotate_left
      · simp only [Act.put, List.setIfInBounds_toArray, List.set_cons_zero, List.set_cons_succ, i64_w, i32_w]
        rfl
      refine take_ (i := 18) (N := some 21) (v := ?_) (a' := ?_) #[true, true, true, true, true, true, true, true, true, true, true, true, true, true, true, true, true, true, true, false, false, false, false, false, false] rfl rfl (take_ofW HT_.out HW_.out (by kernel_rfl)) (fun _ _ _ h => h) (Or.inl ⟨by rfl, ?_⟩) hHeld ?_ ?_
      rotate_left
      · rintro w' ⟨s0, s1, s2, s3⟩
        go_simp
        with_reducible rfl
      rotate_left
      · simp only [Act.put, List.setIfInBounds_toArray, List.set_cons_zero, List.set_cons_succ, i64_w, i32_w]
        rfl
      refine pure_ (i := 19) (N := some 22) (v := ?_) (a' := ?_) #[true, true, true, true, true, true, true, true, true, true, true, true, true, true, true, true, true, true, true, true, false, false, false, false, false] rfl rfl (any_of HT_.out (by kernel_rfl)) (fun _ _ _ h => h) (Or.inl ⟨by rfl, ?_⟩) ?_ ?_
      rotate_left
      · intro w'
        go_simp
        with_reducible rfl
      rotate_left
      · simp only [Act.put, List.setIfInBounds_toArray, List.set_cons_zero, List.set_cons_succ, i64_w, i32_w]
        rfl
      refine pure_ (i := 20) (N := some 23) (v := ?_) (a' := ?_) #[true, true, true, true, true, true, true, true, true, true, true, true, true, true, true, true, true, true, true, true, true, false, false, false, false] rfl rfl (any_of HT_.out (by kernel_rfl)) (fun _ _ _ h => h) (Or.inl ⟨by rfl, ?_⟩) ?_ ?_
      rotate_left
      · intro w'
        go_simp
        with_reducible rfl
      rotate_left
      · simp only [Act.put, List.setIfInBounds_toArray, List.set_cons_zero, List.set_cons_succ, i64_w, i32_w]
        rfl
      refine pure_ (i := 21) (N := some 24) (v := ?_) (a' := ?_) #[true, true, true, true, true, true, true, true, true, true, true, true, true, true, true, true, true, true, true, true, true, true, false, false, false] rfl rfl (any_of HT_.out (by kernel_rfl)) (fun _ _ _ h => h) (Or.inl ⟨by rfl, ?_⟩) ?_ ?_
      rotate_left
      · intro w'
        go_simp
        with_reducible rfl
      rotate_left
      · simp only [Act.put, List.setIfInBounds_toArray, List.set_cons_zero, List.set_cons_succ, i64_w, i32_w]
        rfl
      refine one_ (i := 22) (N := some 25) #[true, true, true, true, true, true, true, true, true, true, true, true, true, true, true, true, true, true, true, true, true, true, true, false, false] rfl rfl (one_of HT_.out (by kernel_rfl)) (by decide) (fun K hK => ?_)
      refine Kd.R_lit_step Kd.bool _ 4 ?hg (N := 25) ?hd (xs := ([t117, decide ((a0_2.size : Int) ≤ 32), t118, (a0_3 == 0)] : List Bool)) (inner := [.bool t117, .bool (decide ((a0_2.size : Int) ≤ 32)), .bool t118, .bool (a0_3 == 0)]) (ok := fun _ => True) (okp := fun _ => True) ?hr ?hp (fun _ hk => hk) trivial (Below.refl _ _) (Nat.le_refl _) (by simp) ?_; (case hd => rfl); (case hg => rfl); (case hr => first | (go_simp; done) | (go_simp; rfl)); (case hp => exact (Reps.one (show Kd.M Kd.bool _ _ _ t117 [.bool t117] from rfl) (Reps.one (show Kd.M Kd.bool _ _ _ (decide ((a0_2.size : Int) ≤ 32)) [.bool (decide ((a0_2.size : Int) ≤ 32))] from rfl) (Reps.one (show Kd.M Kd.bool _ _ _ t118 [.bool t118] from rfl) (Reps.one (show Kd.M Kd.bool _ _ _ (a0_3 == 0) [.bool (a0_3 == 0)] from rfl) (Reps.none _ _))))))
      intro v124 w15 ho16 hb hg_ hnew_
      clear hg_ hnew_
      (first | rw [← Ny123.out] at ho16 | (simp only [Int.reduceToNat] at ho16; rw [← Ny123.out] at ho16))
      have n0_ := Aside0.mk (Kd.R_lower ho16 (below_size (by repeat (first | (with_reducible first | exact HB.out | apply below_alloc | apply pw_below_drewN | apply below_drew1 | refine below_set ?_ GE116.out) | exact HB.out))))
      have n1_ := Aside0.mk (blk_below (g := gb116) (o := .cells #[.int .i64 a0_0, .bool false, .string a0_2, .int .i64 a0_3] 34 (0, 0)) (by (with_reducible repeat (first | refine blk_drewN ?_ _ | refine blk_drew ?_ | refine blk_alloc ?_ _)); exact BK116.out) hb)
      have n2_ := Aside0.mk (below_step (by repeat (first | (with_reducible first | exact HB.out | apply below_alloc | apply pw_below_drewN | apply below_drew1 | refine below_set ?_ GE116.out) | exact HB.out)) hb)
      clear BK116
      clear HB
      have HO125 := n0_
      have BK116 := n1_
      have HB := n2_
      clear n0_ n1_ n2_
      clear hb ho16
      obtain ⟨Ao17, co17, eo17⟩ := Kd.R_slice HO125.out
      (first | subst eo17 | (injection eo17 with f1_ f2_ f3_; have f4_ := f1_.symm; have f5_ := f3_.symm; clear f1_ f2_ f3_; subst f4_; subst f5_))
      refine hK.out _ _ ⟨(blk_cell BK116.out 0).trans rfl, (blk_cell BK116.out 1).trans rfl, (blk_cell BK116.out 2).trans rfl, (blk_cell BK116.out 3).trans rfl⟩ (fun hHeld => ?_)
      clear hK K
      refine norm_ (a' := ?_) ?_ ?_
      rotate_left
      · show Act.put _ (some 25) _ = _
        simp only [Act.put, List.setIfInBounds_toArray, List.set_cons_zero, List.set_cons_succ, i64_w, i32_w]
        rfl
      refine one_ (i := 23) (N := some 26) #[true, true, true, true, true, true, true, true, true, true, true, true, true, true, true, true, true, true, true, true, true, true, true, true, false] rfl rfl (one_of HT_.out (by kernel_rfl)) (by decide) (fun K hK => ?_)
      refine goes_ Try.func52 (by kernel_rfl) rfl #[.slice Ao17 y123.length co17] (by rfl) rfl rfl (by (try simp only [List.map_toArray, List.map_cons, List.map_nil]); first | done | rfl | (simp only [List.length_drop, List.length_take]; rfl)) ?_
      with_reducible refine (point_all.calls k _ _ y123 t126 _ ?side1 ?side2 A12.out).mono ?_
      (case side1 => repeat (first | exact (Kd.R_reads' HO125.out).2.2 | (with_reducible refine Kd.C_alloc ?_ _) | (with_reducible refine Kd.C_drewN ?_ _) | (with_reducible refine Kd.C_drew ?_)))
      (case side2 => exact (Kd.R_reads' HO125.out).2.1)
      rintro e w' ⟨rfl, ⟨nd, rfl⟩⟩
      refine ⟨_, rfl, ?_⟩
      refine hK.out _ _ ⟨(blk_cell BK116.out 0).trans rfl, (blk_cell BK116.out 1).trans rfl, (blk_cell BK116.out 2).trans rfl, (blk_cell BK116.out 3).trans rfl⟩ (fun hHeld => ?_)
      clear hK K
      refine norm_ (a' := ?_) ?_ ?_
      rotate_left
      · show Act.put _ (some 26) _ = _
        simp only [Act.put, List.setIfInBounds_toArray, List.set_cons_zero, List.set_cons_succ, i64_w, i32_w]
        rfl
      refine pure_ (i := 24) (N := some 2) (v := ?_) (a' := ?_) #[true, true, true, true, true, true, true, true, true, true, true, true, true, true, true, true, true, true, true, true, true, true, true, true, true] rfl rfl (any_of HT_.out (by kernel_rfl)) (fun _ _ _ h => h) (Or.inl ⟨by rfl, ?_⟩) ?_ ?_
      rotate_left
      · intro w'
        go_simp
        with_reducible rfl
      rotate_left
      · simp only [Act.put, List.setIfInBounds_toArray, List.set_cons_zero, List.set_cons_succ, i64_w, i32_w]
        rfl
      refine done_ (done_of HT_.out (by kernel_rfl)) ?_
      try go_wp2
      go_ret
      exact ⟨by first | rfl | (simp [errW_none, errW_some] <;> rfl) | (simp [*, errW_none, errW_some] <;> rfl), by repeat (first | (with_reducible first | exact HB.out | apply below_alloc | apply pw_below_drewN | apply below_drew1 | refine below_set ?_ GE116.out) | exact HB.out)⟩
    · rw [if_neg c11] at H
      have c11b0 : (a0_2.toList == ([] : List UInt8)) = false := beq_eq_false_iff_ne.mpr c11
      have c11b1 : (a0_2.toList != ([] : List UInt8)) = true := bne_iff_ne.mpr c11
      obtain ⟨y127, hy127⟩ : ∃ y_ : List Bool, y_ = (([t117, decide ((a0_2.size : Int) ≤ 32), t118, false] : List Bool)) := ⟨_, rfl⟩
      replace H : ((point_all.f k y127).bind fun t130 => (some t130)) = some r := by first | (rw [hy127]; with_reducible exact H) | (have H2_ := (Option.bind_some _ _).symm.trans H; rw [hy127]; with_reducible exact H2_) | (have H2_ := (Option.bind_some _ _).symm.trans H; with_reducible exact H2_) | with_reducible exact H | (rw [hy127]; exact H) | exact H
      have Ny127 := Aside0.mk hy127
      clear hy127
      replace H := Option.bind_eq_some_iff.mp H
      obtain ⟨t130, A180, H⟩ := H
      replace H : (some t130) = some r := H
      have A18 := Aside0.mk A180
      clear A180
      obtain rfl := Option.some.inj H
      go_enter Try.func35, Try.ntmps35
      try go_wp2_with (first | ((with_reducible refine gate_dst (N := 1) rfl ?_); refine box_event ?hg (N := 1) ?hd (cs := #[.int .i64 a0_0, .bool false, .string a0_2, .int .i64 a0_3]) (t := 34) ?hr ?_; (case hd => rfl); (case hg => rfl); (case hr => first | (go_simp; done) | (go_simp; rfl)); intro gb116 hg w19 hbox hb; have n0_ := Aside0.mk (below_step (by repeat (first | (with_reducible first | exact HB.out | apply below_alloc | apply pw_below_drewN | apply below_drew1) | exact HB.out)) hb); have n1_ := Aside0.mk (hbox); have n2_ := Aside0.mk ((by rw [hg]; exact (below_size (by repeat (first | (with_reducible first | exact HB.out | apply below_alloc | apply pw_below_drewN | apply below_drew1) | exact HB.out))) : w.heap.size ≤ gb116)); have n3_ := Aside0.mk ((by rw [hg]; exact (below_size (by repeat (first | (with_reducible first | exact HB.out | apply below_alloc | apply pw_below_drewN | apply below_drew1) | exact HB.out))) : w.heap.size ≤ gb116)); clear HB; have HB := n0_; have BK116 := n1_; have GW116 := n2_; have GE116 := n3_; clear n0_ n1_ n2_ n3_; clear hb hbox hg))
      have n0_ := Aside0.mk (blk_drew BK116.out)
      have n1_ := Aside0.mk (below_drew1 HB.out)
      clear BK116
      clear HB
      have BK116 := n0_
      have HB := n1_
      clear n0_ n1_
      refine start_ (n := 25) (S := fun w' => w'.cell? ⟨gb116, 0, none⟩ = some (.int .i64 a0_0) ∧ w'.cell? ⟨gb116, 1, none⟩ = some (.bool false) ∧ w'.cell? ⟨gb116, 2, none⟩ = some (.string a0_2) ∧ w'.cell? ⟨gb116, 3, none⟩ = some (.int .i64 a0_3)) (ds := []) #[false, false, false, false, false, false, false, false, false, false, false, false, false, false, false, false, false, false, false, false, false, false, false, false, false] (by kernel_rfl) rfl rfl ⟨(blk_cell BK116.out 0).trans rfl, (blk_cell BK116.out 1).trans rfl, (blk_cell BK116.out 2).trans rfl, (blk_cell BK116.out 3).trans rfl⟩ (fun hHeld => ?_); refine with_tabW point_RightAns.tab1 point_RightAns.bits1 (fun HT_ HW_ => ?_)
      generalize w19.drew = w20 at BK116 HB hHeld ⊢
      refine pure_ (i := 0) (N := some 3) (v := ?_) (a' := ?_) #[true, false, false, false, false, false, false, false, false, false, false, false, false, false, false, false, false, false, false, false, false, false, false, false, false] rfl rfl (any_of HT_.out (by kernel_rfl)) (fun _ _ _ h => h) (Or.inl ⟨by rfl, ?_⟩) ?_ ?_
      rotate_left
      · intro w'
        go_simp
        with_reducible rfl
      rotate_left
      · simp only [Act.put, List.setIfInBounds_toArray, List.set_cons_zero, List.set_cons_succ, i64_w, i32_w]
        rfl
      refine pure_ (i := 3) (N := some 6) (v := ?_) (a' := ?_) #[true, false, false, true, false, false, false, false, false, false, false, false, false, false, false, false, false, false, false, false, false, false, false, false, false] rfl rfl (any_of HT_.out (by kernel_rfl)) (fun _ _ _ h => h) (Or.inl ⟨by rfl, ?_⟩) ?_ ?_
      rotate_left
      · intro w'
        go_simp
        with_reducible rfl
      rotate_left
      · simp only [Act.put, List.setIfInBounds_toArray, List.set_cons_zero, List.set_cons_succ, i64_w, i32_w]
        rfl
      refine pure_ (i := 7) (N := some 10) (v := ?_) (a' := ?_) #[true, false, false, true, false, false, false, true, false, false, false, false, false, false, false, false, false, false, false, false, false, false, false, false, false] rfl rfl (any_of HT_.out (by kernel_rfl)) (fun _ _ _ h => h) (Or.inl ⟨by rfl, ?_⟩) ?_ ?_
      rotate_left
      · intro w'
        go_simp
        with_reducible rfl
      rotate_left
      · simp only [Act.put, List.setIfInBounds_toArray, List.set_cons_zero, List.set_cons_succ, i64_w, i32_w]
        rfl
      refine pure_ (i := 10) (N := some 13) (v := ?_) (a' := ?_) #[true, false, false, true, false, false, false, true, false, false, true, false, false, false, false, false, false, false, false, false, false, false, false, false, false] rfl rfl (any_of HT_.out (by kernel_rfl)) (fun _ _ _ h => h) (Or.inl ⟨by rfl, ?_⟩) ?_ ?_
      rotate_left
      · intro w'
        go_simp
        with_reducible rfl
      rotate_left
      · simp only [Act.put, List.setIfInBounds_toArray, List.set_cons_zero, List.set_cons_succ, i64_w, i32_w]
        rfl
      refine take_ (i := 1) (N := some 4) (v := ?_) (a' := ?_) #[true, true, false, true, false, false, false, true, false, false, true, false, false, false, false, false, false, false, false, false, false, false, false, false, false] rfl rfl (take_ofW HT_.out HW_.out (by kernel_rfl)) (fun _ _ _ h => h) (Or.inl ⟨by rfl, ?_⟩) hHeld ?_ ?_
      rotate_left
      · rintro w' ⟨s0, s1, s2, s3⟩
        go_simp
        with_reducible rfl
      rotate_left
      · simp only [Act.put, List.setIfInBounds_toArray, List.set_cons_zero, List.set_cons_succ, i64_w, i32_w]
        rfl
      refine take_ (i := 4) (N := some 7) (v := ?_) (a' := ?_) #[true, true, false, true, true, false, false, true, false, false, true, false, false, false, false, false, false, false, false, false, false, false, false, false, false] rfl rfl (take_ofW HT_.out HW_.out (by kernel_rfl)) (fun _ _ _ h => h) (Or.inl ⟨by rfl, ?_⟩) hHeld ?_ ?_
      rotate_left
      · rintro w' ⟨s0, s1, s2, s3⟩
        go_simp
        with_reducible rfl
      rotate_left
      · simp only [Act.put, List.setIfInBounds_toArray, List.set_cons_zero, List.set_cons_succ, i64_w, i32_w]
        rfl
      refine pure_ (i := 5) (N := some 8) (v := ?_) (a' := ?_) #[true, true, false, true, true, true, false, true, false, false, true, false, false, false, false, false, false, false, false, false, false, false, false, false, false] rfl rfl (any_of HT_.out (by kernel_rfl)) (fun _ _ _ h => h) (Or.inl ⟨by rfl, ?_⟩) ?_ ?_
      rotate_left
      · intro w'
        go_simp
        with_reducible rfl
      rotate_left
      · simp only [Act.put, List.setIfInBounds_toArray, List.set_cons_zero, List.set_cons_succ, i64_w, i32_w]
        rfl
      refine pure_ (i := 6) (N := some 9) (v := ?_) (a' := ?_) #[true, true, false, true, true, true, true, true, false, false, true, false, false, false, false, false, false, false, false, false, false, false, false, false, false] rfl rfl (any_of HT_.out (by kernel_rfl)) (fun _ _ _ h => h) (Or.inl ⟨by rfl, ?_⟩) ?_ ?_
      rotate_left
      · intro w'
        go_simp
        with_reducible rfl
      rotate_left
      · simp only [Act.put, List.setIfInBounds_toArray, List.set_cons_zero, List.set_cons_succ, i64_w, i32_w]
        rfl
      refine take_ (i := 8) (N := some 11) (v := ?_) (a' := ?_) #[true, true, false, true, true, true, true, true, true, false, true, false, false, false, false, false, false, false, false, false, false, false, false, false, false] rfl rfl (take_ofW HT_.out HW_.out (by kernel_rfl)) (fun _ _ _ h => h) (Or.inl ⟨by rfl, ?_⟩) hHeld ?_ ?_
      rotate_left
      · rintro w' ⟨s0, s1, s2, s3⟩
        go_simp
        with_reducible rfl
      rotate_left
      · simp only [Act.put, List.setIfInBounds_toArray, List.set_cons_zero, List.set_cons_succ, i64_w, i32_w]
        rfl
      refine take_ (i := 11) (N := some 14) (v := ?_) (a' := ?_) #[true, true, false, true, true, true, true, true, true, false, true, true, false, false, false, false, false, false, false, false, false, false, false, false, false] rfl rfl (take_ofW HT_.out HW_.out (by kernel_rfl)) (fun _ _ _ h => h) (Or.inl ⟨by rfl, ?_⟩) hHeld ?_ ?_
      rotate_left
      · rintro w' ⟨s0, s1, s2, s3⟩
        go_simp
        with_reducible rfl
      rotate_left
      · simp only [Act.put, List.setIfInBounds_toArray, List.set_cons_zero, List.set_cons_succ, i64_w, i32_w]
        rfl
      refine one_ (i := 2) (N := some 5) #[true, true, true, true, true, true, true, true, true, false, true, true, false, false, false, false, false, false, false, false, false, false, false, false, false] rfl rfl (one_of HT_.out (by kernel_rfl)) (by decide) (fun K hK => ?_)
      refine goes_ Try.func53 (by kernel_rfl) rfl #[.int .i64 0, .int .i64 a0_0, .int .i64 255] (by rfl) rfl rfl (by (try simp only [List.map_toArray, List.map_cons, List.map_nil]); first | done | rfl | (simp only [List.length_drop, List.length_take]; rfl)) ?_
      with_reducible refine (point_from.calls 0 a0_0 255 t117 _ A2.out).mono ?_
      rintro e w' ⟨rfl, ⟨nd, rfl⟩⟩
      refine ⟨_, rfl, ?_⟩
      refine hK.out _ _ ⟨(blk_cell BK116.out 0).trans rfl, (blk_cell BK116.out 1).trans rfl, (blk_cell BK116.out 2).trans rfl, (blk_cell BK116.out 3).trans rfl⟩ (fun hHeld => ?_)
      clear hK K
      refine norm_ (a' := ?_) ?_ ?_
      rotate_left
      · show Act.put _ (some 5) _ = _
        simp only [Act.put, List.setIfInBounds_toArray, List.set_cons_zero, List.set_cons_succ, i64_w, i32_w]
        rfl
      refine one_ (i := 9) (N := some 12) #[true, true, true, true, true, true, true, true, true, true, true, true, false, false, false, false, false, false, false, false, false, false, false, false, false] rfl rfl (one_of HT_.out (by kernel_rfl)) (by decide) (fun K hK => ?_)
      refine goes_ Try.func53 (by kernel_rfl) rfl #[.int .i64 0, .int .i64 a0_3, .int .i64 1099511627776] (by rfl) rfl rfl (by (try simp only [List.map_toArray, List.map_cons, List.map_nil]); first | done | rfl | (simp only [List.length_drop, List.length_take]; rfl)) ?_
      with_reducible refine (point_from.calls 0 a0_3 1099511627776 t118 _ A3.out).mono ?_
      rintro e w' ⟨rfl, ⟨nd, rfl⟩⟩
      refine ⟨_, rfl, ?_⟩
      refine hK.out _ _ ⟨(blk_cell BK116.out 0).trans rfl, (blk_cell BK116.out 1).trans rfl, (blk_cell BK116.out 2).trans rfl, (blk_cell BK116.out 3).trans rfl⟩ (fun hHeld => ?_)
      clear hK K
      refine norm_ (a' := ?_) ?_ ?_
      rotate_left
      · show Act.put _ (some 12) _ = _
        simp only [Act.put, List.setIfInBounds_toArray, List.set_cons_zero, List.set_cons_succ, i64_w, i32_w]
        rfl
      refine pure_ (i := 12) (N := some 15) (v := ?_) (a' := ?_) #[true, true, true, true, true, true, true, true, true, true, true, true, true, false, false, false, false, false, false, false, false, false, false, false, false] rfl rfl (any_of HT_.out (by kernel_rfl)) (fun _ _ _ h => h) (Or.inl ⟨by rfl, ?_⟩) ?_ ?_
      rotate_left
      · intro w'
        go_simp
        with_reducible rfl
      rotate_left
      · simp only [Act.put, List.setIfInBounds_toArray, List.set_cons_zero, List.set_cons_succ, i64_w, i32_w]
        rfl
      refine pure_ (i := 13) (N := some 16) (v := ?_) (a' := ?_) #[true, true, true, true, true, true, true, true, true, true, true, true, true, true, false, false, false, false, false, false, false, false, false, false, false] rfl rfl (any_of HT_.out (by kernel_rfl)) (fun _ _ _ h => h) (Or.inl ⟨by rfl, ?_⟩) ?_ ?_
      rotate_left
      · intro w'
        go_simp
        with_reducible rfl
      rotate_left
      · simp only [Act.put, List.setIfInBounds_toArray, List.set_cons_zero, List.set_cons_succ, i64_w, i32_w]
        rfl
      refine take_ (i := 14) (N := some 17) (v := ?_) (a' := ?_) #[true, true, true, true, true, true, true, true, true, true, true, true, true, true, true, false, false, false, false, false, false, false, false, false, false] rfl rfl (take_ofW HT_.out HW_.out (by kernel_rfl)) (fun _ _ _ h => h) (Or.inl ⟨by rfl, ?_⟩) hHeld ?_ ?_
      rotate_left
      · rintro w' ⟨s0, s1, s2, s3⟩
        go_simp
        with_reducible rfl
      rotate_left
      · simp only [Act.put, List.setIfInBounds_toArray, List.set_cons_zero, List.set_cons_succ, i64_w, i32_w]
        rfl
      refine pure_ (i := 15) (N := some 18) (v := ?_) (a' := ?_) #[true, true, true, true, true, true, true, true, true, true, true, true, true, true, true, true, false, false, false, false, false, false, false, false, false] rfl rfl (any_of HT_.out (by kernel_rfl)) (fun _ _ _ h => h) (Or.inl ⟨by rfl, ?_⟩) ?_ ?_
      rotate_left
      · intro w'
        go_simp
        with_reducible rfl
      rotate_left
      · simp only [Act.put, List.setIfInBounds_toArray, List.set_cons_zero, List.set_cons_succ, i64_w, i32_w]
        rfl
      refine pure_ (i := 16) (N := some 19) (v := ?_) (a' := ?_) #[true, true, true, true, true, true, true, true, true, true, true, true, true, true, true, true, true, false, false, false, false, false, false, false, false] rfl rfl (any_of HT_.out (by kernel_rfl)) (fun _ _ _ h => h) (Or.inl ⟨by rfl, ?_⟩) ?_ ?_
      rotate_left
      · intro w'
        go_simp
        with_reducible rfl
      rotate_left
      · simp only [Act.put, List.setIfInBounds_toArray, List.set_cons_zero, List.set_cons_succ, i64_w, i32_w]
        rfl
      refine pure_ (i := 17) (N := some 20) (v := undef) (a' := ?_) #[true, true, true, true, true, true, true, true, true, true, true, true, true, true, true, true, true, true, false, false, false, false, false, false, false] rfl rfl (any_of HT_.out (by kernel_rfl)) (fun _ _ _ h => h) (Or.inr ⟨by rfl, rfl⟩) ?_ ?_
      rotate_left
      · simp only [Act.put, List.setIfInBounds_toArray, List.set_cons_zero, List.set_cons_succ, i64_w, i32_w]
        rfl
      refine pure_ (i := 18) (N := some 21) (v := undef) (a' := ?_) #[true, true, true, true, true, true, true, true, true, true, true, true, true, true, true, true, true, true, true, false, false, false, false, false, false] rfl rfl (any_of HT_.out (by kernel_rfl)) (fun _ _ _ h => h) (Or.inr ⟨by rfl, rfl⟩) ?_ ?_
      rotate_left
      · simp only [Act.put, List.setIfInBounds_toArray, List.set_cons_zero, List.set_cons_succ, i64_w, i32_w]
        rfl
      refine pure_ (i := 19) (N := some 22) (v := undef) (a' := ?_) #[true, true, true, true, true, true, true, true, true, true, true, true, true, true, true, true, true, true, true, true, false, false, false, false, false] rfl rfl (any_of HT_.out (by kernel_rfl)) (fun _ _ _ h => h) (Or.inr ⟨by rfl, rfl⟩) ?_ ?_
      rotate_left
      · simp only [Act.put, List.setIfInBounds_toArray, List.set_cons_zero, List.set_cons_succ, i64_w, i32_w]
        rfl
      refine pure_ (i := 20) (N := some 23) (v := ?_) (a' := ?_) #[true, true, true, true, true, true, true, true, true, true, true, true, true, true, true, true, true, true, true, true, true, false, false, false, false] rfl rfl (any_of HT_.out (by kernel_rfl)) (fun _ _ _ h => h) (Or.inl ⟨by rfl, ?_⟩) ?_ ?_
      rotate_left
      · intro w'
        go_simp
        with_reducible rfl
      rotate_left
      · simp only [Act.put, List.setIfInBounds_toArray, List.set_cons_zero, List.set_cons_succ, i64_w, i32_w]
        rfl
      refine pure_ (i := 21) (N := some 24) (v := ?_) (a' := ?_) #[true, true, true, true, true, true, true, true, true, true, true, true, true, true, true, true, true, true, true, true, true, true, false, false, false] rfl rfl (any_of HT_.out (by kernel_rfl)) (fun _ _ _ h => h) (Or.inl ⟨by rfl, ?_⟩) ?_ ?_
      rotate_left
      · intro w'
        go_simp
        with_reducible rfl
      rotate_left
      · simp only [Act.put, List.setIfInBounds_toArray, List.set_cons_zero, List.set_cons_succ, i64_w, i32_w]
        rfl
      refine one_ (i := 22) (N := some 25) #[true, true, true, true, true, true, true, true, true, true, true, true, true, true, true, true, true, true, true, true, true, true, true, false, false] rfl rfl (one_of HT_.out (by kernel_rfl)) (by decide) (fun K hK => ?_)
      refine Kd.R_lit_step Kd.bool _ 4 ?hg (N := 25) ?hd (xs := ([t117, decide ((a0_2.size : Int) ≤ 32), t118, false] : List Bool)) (inner := [.bool t117, .bool (decide ((a0_2.size : Int) ≤ 32)), .bool t118, .bool false]) (ok := fun _ => True) (okp := fun _ => True) ?hr ?hp (fun _ hk => hk) trivial (Below.refl _ _) (Nat.le_refl _) (by simp) ?_; (case hd => rfl); (case hg => rfl); (case hr => first | (go_simp; done) | (go_simp; rfl)); (case hp => exact (Reps.one (show Kd.M Kd.bool _ _ _ t117 [.bool t117] from rfl) (Reps.one (show Kd.M Kd.bool _ _ _ (decide ((a0_2.size : Int) ≤ 32)) [.bool (decide ((a0_2.size : Int) ≤ 32))] from rfl) (Reps.one (show Kd.M Kd.bool _ _ _ t118 [.bool t118] from rfl) (Reps.one (show Kd.M Kd.bool _ _ _ false [.bool false] from rfl) (Reps.none _ _))))))
      intro v128 w21 ho22 hb hg_ hnew_
      clear hg_ hnew_
      (first | rw [← Ny127.out] at ho22 | (simp only [Int.reduceToNat] at ho22; rw [← Ny127.out] at ho22))
      have n0_ := Aside0.mk (Kd.R_lower ho22 (below_size (by repeat (first | (with_reducible first | exact HB.out | apply below_alloc | apply pw_below_drewN | apply below_drew1 | refine below_set ?_ GE116.out) | exact HB.out))))
      have n1_ := Aside0.mk (blk_below (g := gb116) (o := .cells #[.int .i64 a0_0, .bool false, .string a0_2, .int .i64 a0_3] 34 (0, 0)) (by (with_reducible repeat (first | refine blk_drewN ?_ _ | refine blk_drew ?_ | refine blk_alloc ?_ _)); exact BK116.out) hb)
      have n2_ := Aside0.mk (below_step (by repeat (first | (with_reducible first | exact HB.out | apply below_alloc | apply pw_below_drewN | apply below_drew1 | refine below_set ?_ GE116.out) | exact HB.out)) hb)
      clear BK116
      clear HB
      have HO129 := n0_
      have BK116 := n1_
      have HB := n2_
      clear n0_ n1_ n2_
      clear hb ho22
      obtain ⟨Ao23, co23, eo23⟩ := Kd.R_slice HO129.out
      (first | subst eo23 | (injection eo23 with f1_ f2_ f3_; have f4_ := f1_.symm; have f5_ := f3_.symm; clear f1_ f2_ f3_; subst f4_; subst f5_))
      refine hK.out _ _ ⟨(blk_cell BK116.out 0).trans rfl, (blk_cell BK116.out 1).trans rfl, (blk_cell BK116.out 2).trans rfl, (blk_cell BK116.out 3).trans rfl⟩ (fun hHeld => ?_)
      clear hK K
      refine norm_ (a' := ?_) ?_ ?_
      rotate_left
      · show Act.put _ (some 25) _ = _
        simp only [Act.put, List.setIfInBounds_toArray, List.set_cons_zero, List.set_cons_succ, i64_w, i32_w]
        rfl
      refine one_ (i := 23) (N := some 26) #[true, true, true, true, true, true, true, true, true, true, true, true, true, true, true, true, true, true, true, true, true, true, true, true, false] rfl rfl (one_of HT_.out (by kernel_rfl)) (by decide) (fun K hK => ?_)
      refine goes_ Try.func52 (by kernel_rfl) rfl #[.slice Ao23 y127.length co23] (by rfl) rfl rfl (by (try simp only [List.map_toArray, List.map_cons, List.map_nil]); first | done | rfl | (simp only [List.length_drop, List.length_take]; rfl)) ?_
      with_reducible refine (point_all.calls k _ _ y127 t130 _ ?side1 ?side2 A18.out).mono ?_
      (case side1 => repeat (first | exact (Kd.R_reads' HO129.out).2.2 | (with_reducible refine Kd.C_alloc ?_ _) | (with_reducible refine Kd.C_drewN ?_ _) | (with_reducible refine Kd.C_drew ?_)))
      (case side2 => exact (Kd.R_reads' HO129.out).2.1)
      rintro e w' ⟨rfl, ⟨nd, rfl⟩⟩
      refine ⟨_, rfl, ?_⟩
      refine hK.out _ _ ⟨(blk_cell BK116.out 0).trans rfl, (blk_cell BK116.out 1).trans rfl, (blk_cell BK116.out 2).trans rfl, (blk_cell BK116.out 3).trans rfl⟩ (fun hHeld => ?_)
      clear hK K
      refine norm_ (a' := ?_) ?_ ?_
      rotate_left
      · show Act.put _ (some 26) _ = _
        simp only [Act.put, List.setIfInBounds_toArray, List.set_cons_zero, List.set_cons_succ, i64_w, i32_w]
        rfl
      refine pure_ (i := 24) (N := some 2) (v := ?_) (a' := ?_) #[true, true, true, true, true, true, true, true, true, true, true, true, true, true, true, true, true, true, true, true, true, true, true, true, true] rfl rfl (any_of HT_.out (by kernel_rfl)) (fun _ _ _ h => h) (Or.inl ⟨by rfl, ?_⟩) ?_ ?_
      rotate_left
      · intro w'
        go_simp
        with_reducible rfl
      rotate_left
      · simp only [Act.put, List.setIfInBounds_toArray, List.set_cons_zero, List.set_cons_succ, i64_w, i32_w]
        rfl
      refine done_ (done_of HT_.out (by kernel_rfl)) ?_
      try go_wp2
      go_ret
      exact ⟨by first | rfl | (simp [errW_none, errW_some] <;> rfl) | (simp [*, errW_none, errW_some] <;> rfl), by repeat (first | (with_reducible first | exact HB.out | apply below_alloc | apply pw_below_drewN | apply below_drew1 | refine below_set ?_ GE116.out) | exact HB.out)⟩

end
section
open Go.RowKit Go.Proofs.YtlfnfgoocliecaaW.PrintWords Go.Proofs.YtlfnfgoocliecaaW.PrintLast Go.Proofs.YtlfnfgoocliecaaW.PrintMore
attribute [local go_sem] max2_int min2_int max_two min_two max_three min_three max_four min_four   -- for this text's walks alone
set_option linter.unusedVariables false
set_option linter.unusedSimpArgs false

--OWN Derived.RegionTactic,Derived.BigRegion
/-! ### session_Table_Note: function 12 -/
def session_Table_Note.T7 : Bool × List (List Nat × List Nat) := (true, [([], []), ([], []), ([], []), ([], []), ([2, 3], [2, 3]), ([0], [0]), ([5], [5]), ([6, 1, 0, 1, 2, 3, 4], [1, 6]), ([7, 4, 0, 1, 2, 3, 4], [4, 7])])
def session_Table_Note.B7 : List Nat := [0, 0, 0, 0, 12, 1, 33, 127, 255]
theorem session_Table_Note.tab7 : rtab .any (opsOf Try.f12 7) = session_Table_Note.T7 := by kernel_rfl
theorem session_Table_Note.bits7 : waitsOk session_Table_Note.T7.2 session_Table_Note.B7 = true := by kernel_rfl
def noteE (R : Nat → SRow) (c s : Int) (b : Bool) : Int := if tLook R c s = 0 then 1 else if b = false then 1 else if tLook R c s = 1 then 0 else 44
def noteR (R : Nat → SRow) (c s : Int) (b : Bool) (r : SRow) : Nat → SRow := if tLook R c s = 1 ∧ b = true then upd R c.toNat r else R
theorem tLook_all (R : Nat → SRow) (c s : Int) : tLook R c s = 0 ∨ tLook R c s = 1 ∨ tLook R c s = 2 ∨ tLook R c s = 3 := by
  unfold tLook
  split
  · split
    · exact .inr (.inl rfl)
    · split
      · exact .inr (.inr (.inr rfl))
      · exact .inr (.inr (.inl rfl))
  · exact .inl rfl
theorem tLook_in {R : Nat → SRow} {c s : Int} (h : tLook R c s = 1) : 0 ≤ c ∧ c < 8 := by
  unfold tLook at h
  split at h
  · omega
  · cases h
theorem IsTab.put {w0 W : World} {g : Nat} {R : Nat → SRow} (h : IsTab w0 W g R) {c : Nat} (hc : c < 8) (r : SRow) : IsTab w0 (((((W.setCell ⟨g, c * 5, none⟩ (.int .i64 r.e)).setCell ⟨g, c * 5 + 1, none⟩ (.bool r.f)).setCell ⟨g, c * 5 + 2, none⟩ (.string r.v)).setCell ⟨g, c * 5 + 3, none⟩ (.int .i64 r.n)).setCell ⟨g, c * 5 + 4, none⟩ (.int .i64 r.q)) g (upd R c r) := by
  have q := blk_set (blk_set (blk_set (blk_set (blk_set h.blk (c * 5) (.int .i64 r.e)) (c * 5 + 1) (.bool r.f)) (c * 5 + 2) (.string r.v)) (c * 5 + 3) (.int .i64 r.n)) (c * 5 + 4) (.int .i64 r.q)
  rw [tab_upd R hc r] at q
  exact ⟨h.base, q⟩
theorem below_put {w W : World} {g : Nat} (h : Below w.heap.size w W) (hg : w.heap.size ≤ g) (j : Nat) (b0 b1 b2 b3 b4 : Value) : Below w.heap.size w (((((W.setCell ⟨g, j, none⟩ b0).setCell ⟨g, j + 1, none⟩ b1).setCell ⟨g, j + 2, none⟩ b2).setCell ⟨g, j + 3, none⟩ b3).setCell ⟨g, j + 4, none⟩ b4) :=
  below_set (below_set (below_set (below_set (below_set h hg) hg) hg) hg) hg
theorem keep_put {w W : World} {g : Nat} (h : KeepBut w W g none) (j : Nat) (b0 b1 b2 b3 b4 : Value) : KeepBut w (((((W.setCell ⟨g, j, none⟩ b0).setCell ⟨g, j + 1, none⟩ b1).setCell ⟨g, j + 2, none⟩ b2).setCell ⟨g, j + 3, none⟩ b3).setCell ⟨g, j + 4, none⟩ b4) g none :=
  ((((h.set_ _ _).set_ _ _).set_ _ _).set_ _ _).set_ _ _
set_option maxHeartbeats 4000000 in
set_option maxRecDepth 100000 in
theorem session_Table_Note.calls (k : Nat) (g : Nat) (R : Nat → SRow) (c s : Int) (e : Int) (f : Bool) (v : ByteArray) (n : Int) (b : Bool) (w0 w : World) (hI : IsTab w0 w g R) (hB : Below w0.heap.size w0 w) (h : point_RightAns.f k e f v n = some b) :
    Calls Try.prog 12 #[.pointer (some ⟨g, 0, none⟩), .int .i64 c, .int .i64 s, .agg #[.int .i64 e, .bool f, .string v, .int .i64 n]] w fun ed w' => ed = .returned (.int .i64 (noteE R c s b)) ∧ IsTab w0 w' g (noteR R c s b ⟨e, f, v, n, s⟩) ∧ Below w0.heap.size w0 w' ∧ KeepBut w w' g none := by
  have HI := Aside0.mk hI
  have HW := Aside0.mk hB
  have HRA := Aside0.mk h
  have HLK := Aside0.mk (fun W hW => session_Table_Look.calls g R c s w0 W hW)
  have hin : tLook R c s = 1 → 0 ≤ c ∧ c < 8 := tLook_in
  clear hI hB h
  unfold noteE noteR
  have hz := tLook_all R c s
  generalize hcn : c.toNat = m
  generalize tLook R c s = z at hz hin HLK ⊢
  generalize hE : (if z = 0 then (1 : Int) else if b = false then 1 else if z = 1 then 0 else 44) = EE
  generalize hR : (if z = 1 ∧ b = true then upd R m ⟨e, f, v, n, s⟩ else R) = RR
  go_enter Try.func12, Try.ntmps12
  go_wp2_with (first | ((with_reducible refine gate_dst (N := 7) rfl ?_); refine box_event ?hg (N := 7) ?hd (cs := #[.int .i64 e, .bool f, .string v, .int .i64 n]) (t := 34) ?hr ?_; (case hd => rfl); (case hg => rfl); (case hr => first | (go_simp; done) | (go_simp; rfl)); intro gb hg wA hbox hb; have HBX := Aside0.mk hbox; have HB := Aside0.mk hb; have HG := Aside0.mk hg; clear hbox hb hg) | ((with_reducible refine gate_callee (f := 36) rfl ?_); fail))
  refine (HLK.out wA (HI.out.below HB.out)).mono ?_
  rintro ed w1 ⟨rfl, rfl⟩
  clear HLK
  replace HI := Aside0.mk (HI.out.below HB.out)
  have HK := Aside0.mk (KeepBut.of_below HB.out g none)
  replace HW := Aside0.mk (below_step HW.out HB.out)
  have h0 := blk_cell HBX.out 0
  have h1 := blk_cell HBX.out 1
  have h2 := blk_cell HBX.out 2
  have h3 := blk_cell HBX.out 3
  rcases hz with rfl | rfl | hz
  · obtain rfl : EE = 1 := hE.symm.trans (if_pos rfl)
    obtain rfl : RR = R := hR.symm.trans (if_neg (by simp))
    clear hE hR hin
    go_wp2
    go_ret
    exact ⟨rfl, HI.out, HW.out, HK.out⟩
  · go_wp2_with fail
    refine (point_RightAns.calls k e f v n b _ HRA.out).mono ?_
    rintro ed wB ⟨rfl, hb⟩
    replace HI := Aside0.mk (HI.out.below hb)
    replace HK := Aside0.mk (HK.out.trans (KeepBut.of_below hb g none) (.inl rfl))
    replace HW := Aside0.mk (below_step HW.out hb)
    replace HBX := Aside0.mk (blk_below HBX.out hb)
    clear hb h0 h1 h2 h3
    cases b
    · obtain rfl : EE = 1 := hE.symm.trans (by simp)
      obtain rfl : RR = R := hR.symm.trans (if_neg (by simp))
      clear hE hR hin
      go_wp2
      go_ret
      exact ⟨rfl, HI.out, HW.out, HK.out⟩
    · obtain rfl : EE = 0 := hE.symm.trans (by simp)
      obtain rfl : RR = upd R m ⟨e, f, v, n, s⟩ := hR.symm.trans (if_pos (by simp))
      clear hE hR
      have hin := hin (by first | exact rfl | exact trivial)
      have hm : m < 8 := by omega
      obtain rfl : c = (m : Int) := by omega
      clear hin hcn
      go_wp2
      have h0 := blk_cell HBX.out 0
      have h1 := blk_cell HBX.out 1
      have h2 := blk_cell HBX.out 2
      have h3 := blk_cell HBX.out 3
      obtain ⟨c0, c1, c2, c3, c4⟩ := HI.out.cells_ hm
      have f0 := blk_frozen HI.out.blk (m * 5)
      have f1 := blk_frozen HI.out.blk (m * 5 + 1)
      have f2 := blk_frozen HI.out.blk (m * 5 + 2)
      have f3 := blk_frozen HI.out.blk (m * 5 + 3)
      have f4 := blk_frozen HI.out.blk (m * 5 + 4)
      have e0 : wB.drew.frozen? ⟨g, m * 5, none⟩ = false := f0
      have hml : (m : Int) < 8 := by omega
      refine start_ (n := 9) (S := fun w' => w'.cell? ⟨gb, 0, none⟩ = some (.int .i64 e) ∧ w'.cell? ⟨gb, 1, none⟩ = some (.bool f) ∧ w'.cell? ⟨gb, 2, none⟩ = some (.string v) ∧ w'.cell? ⟨gb, 3, none⟩ = some (.int .i64 n)) (ds := [8]) #[false, false, false, false, false, false, false, false, false] (by kernel_rfl) rfl rfl ⟨h0, h1, h2, h3⟩ (fun hHeld => ?_)
      refine with_tabW session_Table_Note.tab7 session_Table_Note.bits7 (fun HT_ HW_ => ?_)
      refine pure_ (i := 0) (N := some 20) (v := ?_) (a' := ?_) #[true, false, false, false, false, false, false, false, false] rfl rfl (any_of HT_.out (by kernel_rfl)) (fun _ _ _ h => h) (Or.inl ⟨by rfl, ?_⟩) ?_ ?_
      rotate_left
      · intro w'
        go_simp
        with_reducible rfl
      rotate_left
      · simp only [Act.put, List.setIfInBounds_toArray, List.set_cons_zero, List.set_cons_succ, i64_w, i32_w]
        rfl
      refine pure_ (i := 1) (N := some 21) (v := ?_) (a' := ?_) #[true, true, false, false, false, false, false, false, false] rfl rfl (any_of HT_.out (by kernel_rfl)) (fun _ _ _ h => h) (Or.inl ⟨by rfl, ?_⟩) ?_ ?_
      rotate_left
      · intro w'
        go_simp
        with_reducible rfl
      rotate_left
      · simp only [Act.put, List.setIfInBounds_toArray, List.set_cons_zero, List.set_cons_succ, i64_w, i32_w]
        rfl
      refine pure_ (i := 3) (N := some 23) (v := ?_) (a' := ?_) #[true, true, false, true, false, false, false, false, false] rfl rfl (any_of HT_.out (by kernel_rfl)) (fun _ _ _ h => h) (Or.inl ⟨by rfl, ?_⟩) ?_ ?_
      rotate_left
      · intro w'
        go_simp
        with_reducible rfl
      rotate_left
      · simp only [Act.put, List.setIfInBounds_toArray, List.set_cons_zero, List.set_cons_succ, i64_w, i32_w]
        rfl
      refine pure_ (i := 5) (N := some 25) (v := ?_) (a' := ?_) #[true, true, false, true, false, true, false, false, false] rfl rfl (any_of HT_.out (by kernel_rfl)) (fun _ _ _ h => h) (Or.inl ⟨by rfl, ?_⟩) ?_ ?_
      rotate_left
      · intro w'
        go_simp
        with_reducible rfl
      rotate_left
      · simp only [Act.put, List.setIfInBounds_toArray, List.set_cons_zero, List.set_cons_succ, i64_w, i32_w]
        rfl
      refine pure_ (i := 6) (N := some 26) (v := ?_) (a' := ?_) #[true, true, false, true, false, true, true, false, false] rfl rfl (any_of HT_.out (by kernel_rfl)) (fun _ _ _ h => h) (Or.inl ⟨by rfl, ?_⟩) ?_ ?_
      rotate_left
      · intro w'
        go_simp
        with_reducible rfl
      rotate_left
      · simp only [Act.put, List.setIfInBounds_toArray, List.set_cons_zero, List.set_cons_succ, i64_w, i32_w]
        rfl
      refine take_ (i := 2) (N := some 22) (v := ?_) (a' := ?_) #[true, true, true, true, false, true, true, false, false] rfl rfl (take_ofW HT_.out HW_.out (by kernel_rfl)) (fun _ _ _ h => h) (Or.inl ⟨by rfl, ?_⟩) hHeld ?_ ?_
      rotate_left
      · rintro w' ⟨s0, s1, s2, s3⟩
        go_simp
        with_reducible rfl
      rotate_left
      · simp only [Act.put, List.setIfInBounds_toArray, List.set_cons_zero, List.set_cons_succ, i64_w, i32_w]
        rfl
      refine pure_ (i := 4) (N := some 24) (v := ?_) (a' := ?_) #[true, true, true, true, true, true, true, false, false] rfl rfl (any_of HT_.out (by kernel_rfl)) (fun _ _ _ h => h) (Or.inl ⟨by rfl, ?_⟩) ?_ ?_
      rotate_left
      · intro w'
        go_simp
        with_reducible rfl
      rotate_left
      · simp only [Act.put, List.setIfInBounds_toArray, List.set_cons_zero, List.set_cons_succ, i64_w, i32_w]
        rfl
      refine pure_ (i := 7) (N := some 27) (v := ?_) (a' := ?_) #[true, true, true, true, true, true, true, true, false] rfl rfl (any_of HT_.out (by kernel_rfl)) (fun _ _ _ h => h) (Or.inl ⟨by rfl, ?_⟩) ?_ ?_
      rotate_left
      · intro w'
        go_simp
        with_reducible rfl
      rotate_left
      · simp only [Act.put, List.setIfInBounds_toArray, List.set_cons_zero, List.set_cons_succ, i64_w, i32_w]
        rfl
      refine last_ (i := 8) (N := none) #[true, true, true, true, true, true, true, true, true] rfl rfl (one_of HT_.out (by kernel_rfl)) (by decide) (fun K hK => ?_)
      refine skip_ (w1 := ?_) (by rfl) rfl ?_ ?_
      rotate_left
      · go_simp
        rfl
      refine hK.out _ _ ?_
      clear hK K
      refine done_ (done_of HT_.out (by kernel_rfl)) ?_
      go_wp2
      go_ret
      have HP := IsTab.put (r := ⟨e, f, v, n, s⟩) HI.out hm
      exact ⟨rfl, ⟨HP.base, HP.blk⟩, below_drew (below_put HW.out HI.out.base (m * 5) _ _ _ _ _), keep_drew (keep_put HK.out (m * 5) _ _ _ _ _)⟩
  · have z0 : (z == 0) = false := beq_eq_false_iff_ne.mpr (by omega)
    have z1 : (z == 1) = false := beq_eq_false_iff_ne.mpr (by omega)
    obtain rfl : RR = R := hR.symm.trans (if_neg (by omega))
    have hE : (if b = false then (1 : Int) else 44) = EE := by rw [← hE, if_neg (show ¬ z = 0 by omega), if_neg (show ¬ z = 1 by omega)]
    clear hR hin hz
    go_wp2_with fail
    refine (point_RightAns.calls k e f v n b _ HRA.out).mono ?_
    rintro ed wB ⟨rfl, hb⟩
    replace HI := Aside0.mk (HI.out.below hb)
    replace HK := Aside0.mk (HK.out.trans (KeepBut.of_below hb g none) (.inl rfl))
    replace HW := Aside0.mk (below_step HW.out hb)
    clear hb h0 h1 h2 h3
    cases b
    · obtain rfl : EE = 1 := hE.symm.trans (if_pos rfl)
      clear hE
      go_wp2
      go_ret
      exact ⟨rfl, HI.out, HW.out, HK.out⟩
    · obtain rfl : EE = 44 := hE.symm.trans (if_neg (by simp))
      clear hE
      go_wp2
      go_ret
      exact ⟨rfl, HI.out, HW.out, HK.out⟩
set_option maxHeartbeats 2000000 in
set_option maxRecDepth 100000 in
theorem session_Table_Note.dead {p : Option Addr} (c s : Int) (e : Int) (f : Bool) (v : ByteArray) (n : Int) (w : World) (h : DeadT w p) :
    Calls Try.prog 12 #[.pointer p, .int .i64 c, .int .i64 s, .agg #[.int .i64 e, .bool f, .string v, .int .i64 n]] w fun ed w' => ed = .returned (.int .i64 1) ∧ Below w.heap.size w w' := by
  have H := Aside0.mk h
  clear h
  go_enter Try.func12, Try.ntmps12
  go_wp2_with (first | ((with_reducible refine gate_dst (N := 7) rfl ?_); refine box_event ?hg (N := 7) ?hd (cs := #[.int .i64 e, .bool f, .string v, .int .i64 n]) (t := 34) ?hr ?_; (case hd => rfl); (case hg => rfl); (case hr => first | (go_simp; done) | (go_simp; rfl)); intro gb hg wA hbox hb; have HB := Aside0.mk hb; clear hbox hb hg) | ((with_reducible refine gate_callee (f := 36) rfl ?_); fail))
  refine (session_Table_Look.dead c s wA (H.out.below HB.out)).mono ?_
  rintro ed w1 ⟨rfl, rfl⟩
  go_wp2
  go_ret
  exact ⟨rfl, HB.out⟩

end
section
open Go.RowKit Go.Proofs.YtlfnfgoocliecaaW.PrintWords Go.Proofs.YtlfnfgoocliecaaW.PrintLast Go.Proofs.YtlfnfgoocliecaaW.PrintMore
attribute [local go_sem] max2_int min2_int max_two min_two max_three min_three max_four min_four   -- for this text's walks alone
set_option linter.unusedVariables false
set_option linter.unusedSimpArgs false

--OWN Derived.RegionTactic,Derived.BigRegion
/-! ### session_Table_Last: function 14 -/
def session_Table_Last.T3 : Bool × List (List Nat × List Nat) := (true, [([], []), ([0], [0]), ([1], [1]), ([2], [2]), ([], []), ([4], [4]), ([5], [5]), ([6], [6]), ([3, 0, 1, 2, 3], [3]), ([7, 8, 0, 1, 2, 3, 4, 5, 6, 7, 8], [7])])
def session_Table_Last.B3 : List Nat := [0, 1, 3, 7, 0, 16, 48, 112, 15, 511]
theorem session_Table_Last.tab3 : rtab .any (opsOf Try.f14 3) = session_Table_Last.T3 := by kernel_rfl
theorem session_Table_Last.bits3 : waitsOk session_Table_Last.T3.2 session_Table_Last.B3 = true := by kernel_rfl
def tLast (R : Nat → SRow) (c : Int) : SRow := if 0 ≤ c ∧ c < 8 then R c.toNat else SRow.none
def SRow.ans (r : SRow) : Value := .agg #[.int .i64 r.e, .bool r.f, .string r.v, .int .i64 r.n]
theorem set4 {W : World} {g : Nat} {t : TypeId} {a0 a1 a2 a3 : Value} (h : W.heap[g]? = some (.cells #[a0, a1, a2, a3] t (0, 0))) (b0 b1 b2 b3 : Value) : ((((W.setCell ⟨g, 0, none⟩ b0).setCell ⟨g, 1, none⟩ b1).setCell ⟨g, 2, none⟩ b2).setCell ⟨g, 3, none⟩ b3).heap[g]? = some (.cells #[b0, b1, b2, b3] t (0, 0)) :=
  blk_put (blk_put (blk_put (blk_put h 0 b0 rfl) 1 b1 rfl) 2 b2 rfl) 3 b3 rfl
theorem below4 {w W : World} {g : Nat} (h : Below w.heap.size w W) (hg : w.heap.size ≤ g) (b0 b1 b2 b3 : Value) : Below w.heap.size w ((((W.setCell ⟨g, 0, none⟩ b0).setCell ⟨g, 1, none⟩ b1).setCell ⟨g, 2, none⟩ b2).setCell ⟨g, 3, none⟩ b3) :=
  below_set (below_set (below_set (below_set h hg) hg) hg) hg
set_option maxHeartbeats 2000000 in
set_option maxRecDepth 100000 in
theorem session_Table_Last.calls (g : Nat) (R : Nat → SRow) (c : Int) (w0 w : World) (hI : IsTab w0 w g R) :
    Calls Try.prog 14 #[.pointer (some ⟨g, 0, none⟩), .int .i64 c] w fun e w' => e = .returned (.tuple #[.int .i64 (tLast R c).q, (tLast R c).ans]) ∧ IsTab w0 w' g R ∧ Below w.heap.size w w' := by
  have HI := Aside0.mk hI
  have HR := Aside0.mk (fun W hW => session_Table_row.calls g R c w0 W hW)
  have HL := Aside0.mk (blk_lt hI.blk)
  clear hI
  unfold tLast SRow.ans
  by_cases hc : 0 ≤ c ∧ c < 8
  rotate_left
  · rw [if_neg hc] at HR
    rw [if_neg hc]
    clear hc
    go_enter Try.func14, Try.ntmps14
    go_wp2_with (first | ((with_reducible refine gate_dst (N := 5) rfl ?_); refine box_event ?hg (N := 5) ?hd (cs := #[.int .i64 0, .bool false, .string ⟨#[]⟩, .int .i64 0]) (t := 34) ?hr ?_; (case hd => rfl); (case hg => rfl); (case hr => first | (go_simp; done) | (go_simp; rfl)); intro gb hg wA hbox hb; have HBX := Aside0.mk hbox; have HB := Aside0.mk hb; have HG := Aside0.mk hg; clear hbox hb hg) | ((with_reducible refine gate_callee (f := 36) rfl ?_); fail))
    refine (HR.out wA (HI.out.below HB.out)).mono ?_
    rintro e w1 ⟨rfl, rfl⟩
    clear HR
    have h0 := blk_cell HBX.out 0
    have h1 := blk_cell HBX.out 1
    have h2 := blk_cell HBX.out 2
    have h3 := blk_cell HBX.out 3
    have f0 := blk_frozen HBX.out 0
    have f1 := blk_frozen HBX.out 1
    have f2 := blk_frozen HBX.out 2
    have f3 := blk_frozen HBX.out 3
    go_wp2
    refine bodyPost_ret (results_tc rfl _ _ gb 34 #[.int .i64 0, .bool false, .string ⟨#[]⟩, .int .i64 0] (0, 0) _ rfl (set4 HBX.out _ _ _ _) Try.underlying34 rfl (by kernel_rfl)) rfl ?_
    have hb4 := below4 HB.out (Nat.le_of_eq HG.out.symm) (.int .i64 0) (.bool false) (.string ⟨#[]⟩) (.int .i64 0)
    exact ⟨rfl, HI.out.below hb4, hb4⟩
  · rw [if_pos hc] at HR
    rw [if_pos hc]
    obtain ⟨n, rfl⟩ := Int.eq_ofNat_of_zero_le hc.1
    rw [Int.toNat_natCast] at HR ⊢
    have hn : n < 8 := by omega
    clear hc
    go_enter Try.func14, Try.ntmps14
    go_wp2_with (first | ((with_reducible refine gate_dst (N := 5) rfl ?_); refine box_event ?hg (N := 5) ?hd (cs := #[.int .i64 0, .bool false, .string ⟨#[]⟩, .int .i64 0]) (t := 34) ?hr ?_; (case hd => rfl); (case hg => rfl); (case hr => first | (go_simp; done) | (go_simp; rfl)); intro gb hg wA hbox hb; have HBX := Aside0.mk hbox; have HB := Aside0.mk hb; have HG := Aside0.mk hg; clear hbox hb hg) | ((with_reducible refine gate_callee (f := 36) rfl ?_); fail))
    refine (HR.out wA (HI.out.below HB.out)).mono ?_
    rintro e w1 ⟨rfl, rfl⟩
    clear HR
    have h0 := blk_cell HBX.out 0
    have h1 := blk_cell HBX.out 1
    have h2 := blk_cell HBX.out 2
    have h3 := blk_cell HBX.out 3
    have f0 := blk_frozen HBX.out 0
    have f1 := blk_frozen HBX.out 1
    have f2 := blk_frozen HBX.out 2
    have f3 := blk_frozen HBX.out 3
    have HI2 := Aside0.mk (HI.out.below HB.out)
    go_wp2
    replace HBX := Aside0.mk (blk_drew HBX.out)
    have e0 := blk_frozen HBX.out 0
    have e1 := blk_frozen HBX.out 1
    have e2 := blk_frozen HBX.out 2
    have e3 := blk_frozen HBX.out 3
    obtain ⟨c0, c1, c2, c3, c4⟩ := HI2.out.cells_ hn
    replace HB := Aside0.mk (below_drew HB.out)
    refine start_ (n := 10) (S := fun w' => w'.cell? ⟨g, n * 5, none⟩ = some (.int .i64 (R n).e) ∧ w'.cell? ⟨g, n * 5 + 1, none⟩ = some (.bool (R n).f) ∧ w'.cell? ⟨g, n * 5 + 2, none⟩ = some (.string (R n).v) ∧ w'.cell? ⟨g, n * 5 + 3, none⟩ = some (.int .i64 (R n).n) ∧ w'.cell? ⟨g, n * 5 + 4, none⟩ = some (.int .i64 (R n).q)) (ds := [9]) #[false, false, false, false, false, false, false, false, false, false] (by kernel_rfl) rfl rfl ⟨c0, c1, c2, c3, c4⟩ (fun hHeld => ?_)
    refine with_tabW session_Table_Last.tab3 session_Table_Last.bits3 (fun HT_ HW_ => ?_)
    refine pure_ (i := 0) (N := some 12) (v := ?_) (a' := ?_) #[true, false, false, false, false, false, false, false, false, false] rfl rfl (any_of HT_.out (by kernel_rfl)) (fun _ _ _ h => h) (Or.inl ⟨by rfl, ?_⟩) ?_ ?_
    rotate_left
    · intro w'
      go_simp
      with_reducible rfl
    rotate_left
    · simp only [Act.put, List.setIfInBounds_toArray, List.set_cons_zero, List.set_cons_succ, i64_w, i32_w]
      rfl
    refine pure_ (i := 1) (N := some 13) (v := ?_) (a' := ?_) #[true, true, false, false, false, false, false, false, false, false] rfl rfl (any_of HT_.out (by kernel_rfl)) (fun _ _ _ h => h) (Or.inl ⟨by rfl, ?_⟩) ?_ ?_
    rotate_left
    · intro w'
      go_simp
      with_reducible rfl
    rotate_left
    · simp only [Act.put, List.setIfInBounds_toArray, List.set_cons_zero, List.set_cons_succ, i64_w, i32_w]
      rfl
    refine pure_ (i := 2) (N := some 14) (v := ?_) (a' := ?_) #[true, true, true, false, false, false, false, false, false, false] rfl rfl (any_of HT_.out (by kernel_rfl)) (fun _ _ _ h => h) (Or.inl ⟨by rfl, ?_⟩) ?_ ?_
    rotate_left
    · intro w'
      go_simp
      with_reducible rfl
    rotate_left
    · simp only [Act.put, List.setIfInBounds_toArray, List.set_cons_zero, List.set_cons_succ, i64_w, i32_w]
      rfl
    refine pure_ (i := 4) (N := some 16) (v := ?_) (a' := ?_) #[true, true, true, false, true, false, false, false, false, false] rfl rfl (any_of HT_.out (by kernel_rfl)) (fun _ _ _ h => h) (Or.inl ⟨by rfl, ?_⟩) ?_ ?_
    rotate_left
    · intro w'
      go_simp
      with_reducible rfl
    rotate_left
    · simp only [Act.put, List.setIfInBounds_toArray, List.set_cons_zero, List.set_cons_succ, i64_w, i32_w]
      rfl
    refine pure_ (i := 5) (N := some 17) (v := ?_) (a' := ?_) #[true, true, true, false, true, true, false, false, false, false] rfl rfl (any_of HT_.out (by kernel_rfl)) (fun _ _ _ h => h) (Or.inl ⟨by rfl, ?_⟩) ?_ ?_
    rotate_left
    · intro w'
      go_simp
      with_reducible rfl
    rotate_left
    · simp only [Act.put, List.setIfInBounds_toArray, List.set_cons_zero, List.set_cons_succ, i64_w, i32_w]
      rfl
    refine pure_ (i := 6) (N := some 18) (v := ?_) (a' := ?_) #[true, true, true, false, true, true, true, false, false, false] rfl rfl (any_of HT_.out (by kernel_rfl)) (fun _ _ _ h => h) (Or.inl ⟨by rfl, ?_⟩) ?_ ?_
    rotate_left
    · intro w'
      go_simp
      with_reducible rfl
    rotate_left
    · simp only [Act.put, List.setIfInBounds_toArray, List.set_cons_zero, List.set_cons_succ, i64_w, i32_w]
      rfl
    refine take_ (i := 3) (N := some 15) (v := ?_) (a' := ?_) #[true, true, true, true, true, true, true, false, false, false] rfl rfl (take_ofW HT_.out HW_.out (by kernel_rfl)) (fun _ _ _ h => h) (Or.inl ⟨by rfl, ?_⟩) hHeld ?_ ?_
    rotate_left
    · rintro w' ⟨s0, s1, s2, s3, s4⟩
      go_simp
      with_reducible rfl
    rotate_left
    · simp only [Act.put, List.setIfInBounds_toArray, List.set_cons_zero, List.set_cons_succ, i64_w, i32_w]
      rfl
    refine pure_ (i := 8) (N := some 4) (v := ?_) (a' := ?_) #[true, true, true, true, true, true, true, false, true, false] rfl rfl (any_of HT_.out (by kernel_rfl)) (fun _ _ _ h => h) (Or.inl ⟨by rfl, ?_⟩) ?_ ?_
    rotate_left
    · intro w'
      go_simp
      with_reducible rfl
    rotate_left
    · simp only [Act.put, List.setIfInBounds_toArray, List.set_cons_zero, List.set_cons_succ, i64_w, i32_w]
      rfl
    refine take_ (i := 7) (N := some 19) (v := ?_) (a' := ?_) #[true, true, true, true, true, true, true, true, true, false] rfl rfl (take_ofW HT_.out HW_.out (by kernel_rfl)) (fun _ _ _ h => h) (Or.inl ⟨by rfl, ?_⟩) hHeld ?_ ?_
    rotate_left
    · rintro w' ⟨s0, s1, s2, s3, s4⟩
      go_simp
      with_reducible rfl
    rotate_left
    · simp only [Act.put, List.setIfInBounds_toArray, List.set_cons_zero, List.set_cons_succ, i64_w, i32_w]
      rfl
    refine last_ (i := 9) (N := none) #[true, true, true, true, true, true, true, true, true, true] rfl rfl (one_of HT_.out (by kernel_rfl)) (by decide) (fun K hK => ?_)
    refine skip_ (w1 := ?_) (by rfl) rfl ?_ ?_
    rotate_left
    · go_simp
      rfl
    refine hK.out _ _ ?_
    clear hK K
    refine done_ (done_of HT_.out (by kernel_rfl)) ?_
    go_wp2
    refine bodyPost_ret (results_tc rfl _ _ gb 34 #[.int .i64 (R n).e, .bool (R n).f, .string (R n).v, .int .i64 (R n).n] (0, 0) _ rfl (set4 HBX.out _ _ _ _) Try.underlying34 rfl (by kernel_rfl)) rfl ?_
    have hb4 := below4 HB.out (Nat.le_of_eq HG.out.symm) (.int .i64 (R n).e) (.bool (R n).f) (.string (R n).v) (.int .i64 (R n).n)
    exact ⟨rfl, HI.out.below hb4, hb4⟩
set_option maxHeartbeats 2000000 in
set_option maxRecDepth 100000 in
theorem session_Table_Last.dead {p : Option Addr} (c : Int) (w : World) (h : DeadT w p) :
    Calls Try.prog 14 #[.pointer p, .int .i64 c] w fun e w' => e = .returned (.tuple #[.int .i64 0, .agg #[.int .i64 0, .bool false, .string ⟨#[]⟩, .int .i64 0]]) ∧ Below w.heap.size w w' := by
  have H := Aside0.mk h
  clear h
  go_enter Try.func14, Try.ntmps14
  go_wp2_with (first | ((with_reducible refine gate_dst (N := 5) rfl ?_); refine box_event ?hg (N := 5) ?hd (cs := #[.int .i64 0, .bool false, .string ⟨#[]⟩, .int .i64 0]) (t := 34) ?hr ?_; (case hd => rfl); (case hg => rfl); (case hr => first | (go_simp; done) | (go_simp; rfl)); intro gb hg wA hbox hb; have HBX := Aside0.mk hbox; have HB := Aside0.mk hb; have HG := Aside0.mk hg; clear hbox hb hg) | ((with_reducible refine gate_callee (f := 36) rfl ?_); fail))
  refine (session_Table_row.dead c wA (H.out.below HB.out)).mono ?_
  rintro e w1 ⟨rfl, rfl⟩
  have h0 := blk_cell HBX.out 0
  have h1 := blk_cell HBX.out 1
  have h2 := blk_cell HBX.out 2
  have h3 := blk_cell HBX.out 3
  have f0 := blk_frozen HBX.out 0
  have f1 := blk_frozen HBX.out 1
  have f2 := blk_frozen HBX.out 2
  have f3 := blk_frozen HBX.out 3
  go_wp2
  refine bodyPost_ret (results_tc rfl _ _ gb 34 #[.int .i64 0, .bool false, .string ⟨#[]⟩, .int .i64 0] (0, 0) _ rfl (set4 HBX.out _ _ _ _) Try.underlying34 rfl (by kernel_rfl)) rfl ?_
  have hb4 := below4 HB.out (Nat.le_of_eq HG.out.symm) (.int .i64 0) (.bool false) (.string ⟨#[]⟩) (.int .i64 0)
  exact ⟨rfl, hb4⟩

end
section
open Go.RowKit Go.Proofs.YtlfnfgoocliecaaW.PrintWords Go.Proofs.YtlfnfgoocliecaaW.PrintLast Go.Proofs.YtlfnfgoocliecaaW.PrintMore
attribute [local go_sem] max2_int min2_int max_two min_two max_three min_three max_four min_four   -- for this text's walks alone
set_option linter.unusedVariables false
set_option linter.unusedSimpArgs false

/-! ### glebelaw09_num: function 15 -/
def glebelaw09_num.f (a0 : Int) : Option (Int) := some a0
set_option maxHeartbeats 8000000 in
set_option maxRecDepth 100000 in
theorem glebelaw09_num.calls (a0 : Int) (r : Int) (w : World) (h : glebelaw09_num.f a0 = some r) :
    Calls Try.prog 15 #[.int .i64 a0] w fun e w' => e = .returned (.int .i64 r) ∧ Drawn0 w w' := by
  have H : (some a0) = some r := h
  clear h
  obtain rfl := Option.some.inj H
  go_enter Try.func15, Try.ntmps15
  go_wp2
  go_ret
  exact ⟨by first | rfl | (simp; done) | (simp [*]; done), by repeat (first | exact Drawn0.refl _ | apply Drawn0.step)⟩

end
section
open Go.RowKit Go.Proofs.YtlfnfgoocliecaaW.PrintWords Go.Proofs.YtlfnfgoocliecaaW.PrintLast Go.Proofs.YtlfnfgoocliecaaW.PrintMore
attribute [local go_sem] max2_int min2_int max_two min_two max_three min_three max_four min_four   -- for this text's walks alone
set_option linter.unusedVariables false
set_option linter.unusedSimpArgs false

--OWN Derived.RegionTactic,Derived.BigRegion
/-! ### glebelaw09_knows: function 10 -/
def glebelaw09_knows.f : Option Bool := some true
theorem right_nil : point_RightAns.f 100 0 false ⟨#[]⟩ 0 = some true := by decide +kernel
set_option maxHeartbeats 4000000 in
set_option maxRecDepth 100000 in
theorem glebelaw09_knows.calls (r : Bool) (w : World) (h : glebelaw09_knows.f = some r) :
    Calls Try.prog 10 #[] w fun e w' => e = .returned (.bool r) ∧ Below w.heap.size w w' := by
  obtain rfl := Option.some.inj h
  clear h
  go_enter Try.func10, Try.ntmps10
  go_wp2_with fail
  refine (session_New.calls w w (Below.refl _ _)).mono ?_
  rintro e w1 ⟨g, rfl, hg, hI, hb⟩
  have HI := Aside0.mk hI
  have HB := Aside0.mk hb
  clear hg hI hb
  go_wp2_with fail
  refine (session_Table_Note.calls 100 g _ 1 5 0 false ⟨#[]⟩ 0 true w w1 HI.out HB.out right_nil).mono ?_
  rintro e w2 ⟨rfl, hI, hb, _⟩
  replace HI := Aside0.mk hI
  replace HB := Aside0.mk hb
  clear hI hb
  have e1 : noteE (fun _ => SRow.none) 1 5 true = 0 := by decide
  rw [e1]
  generalize hR : noteR (fun _ => SRow.none) 1 5 true ⟨0, false, ⟨#[]⟩, 0, 5⟩ = R at HI
  have l4 : tLook R 1 4 = 3 := by rw [← hR]; rfl
  have l5 : tLook R 1 5 = 2 := by rw [← hR]; rfl
  have l6 : tLook R 1 6 = 1 := by rw [← hR]; rfl
  have l1 : tLook R 2 1 = 1 := by rw [← hR]; rfl
  have a1 : tLast R 1 = ⟨0, false, ⟨#[]⟩, 0, 5⟩ := by rw [← hR]; rfl
  clear hR
  go_wp2_with fail
  refine (session_Table_Last.calls g R 1 w w2 HI.out).mono ?_
  rintro e w3 ⟨rfl, hI, hb⟩
  rw [a1]
  replace HI := Aside0.mk hI
  replace HB := Aside0.mk (below_step HB.out hb)
  clear hI hb
  unfold SRow.ans
  go_wp2_with (first | ((with_reducible refine gate_dst (N := 4) rfl ?_); refine box_event ?hg (N := 4) ?hd (cs := #[.int .i64 0, .bool false, .string ⟨#[]⟩, .int .i64 0]) (t := 34) ?hr ?_; (case hd => rfl); (case hg => rfl); (case hr => first | (go_simp; done) | (go_simp; rfl)); intro gb hg wA hbox hb; have HBX := Aside0.mk hbox; have HBb := Aside0.mk hb; have HG := Aside0.mk hg; have h0 := blk_cell hbox 0; have h1 := blk_cell hbox 1; have h2 := blk_cell hbox 2; have h3 := blk_cell hbox 3; have f0 := blk_frozen hbox 0; have f1 := blk_frozen hbox 1; have f2 := blk_frozen hbox 2; have f3 := blk_frozen hbox 3; clear hbox hb hg) | ((with_reducible refine gate_callee (f := 36) rfl ?_); fail))
  have hS := below4 HBb.out (Nat.le_of_eq HG.out.symm) (.int .i64 0) (.bool false) (.string ⟨#[]⟩) (.int .i64 0)
  replace HI := Aside0.mk (HI.out.below hS)
  replace HB := Aside0.mk (below_step HB.out hS)
  clear hS h0 h1 h2 h3 f0 f1 f2 f3 HBX HBb
  refine (glebelaw09_num.calls 0 0 _ rfl).mono ?_
  rintro e w4 ⟨rfl, hd⟩
  have hb := drawn_below hd
  replace HI := Aside0.mk (HI.out.below hb)
  replace HB := Aside0.mk (below_step HB.out hb)
  clear hb hd
  go_wp2_with fail
  refine (session_Table_Look.calls g R 1 4 w w4 HI.out).mono ?_
  rintro e w5 ⟨rfl, rfl⟩
  rw [l4]
  go_wp2_with fail
  refine (session_Table_Look.calls g R 1 5 w w4 HI.out).mono ?_
  rintro e w5 ⟨rfl, rfl⟩
  rw [l5]
  go_wp2_with fail
  refine (session_Table_Look.calls g R 1 6 w w4 HI.out).mono ?_
  rintro e w5 ⟨rfl, rfl⟩
  rw [l6]
  go_wp2_with fail
  refine (session_Table_Look.calls g R 2 1 w w4 HI.out).mono ?_
  rintro e w5 ⟨rfl, rfl⟩
  rw [l1]
  go_wp2
  go_ret
  exact ⟨rfl, HB.out⟩

end
section
open Go.RowKit Go.Proofs.YtlfnfgoocliecaaW.PrintWords Go.Proofs.YtlfnfgoocliecaaW.PrintLast Go.Proofs.YtlfnfgoocliecaaW.PrintMore
attribute [local go_sem] max2_int min2_int max_two min_two max_three min_three max_four min_four   -- for this text's walks alone
set_option linter.unusedVariables false
set_option linter.unusedSimpArgs false

/-! ### glebelaw07_Ans: function 13 -/
def glebelaw07_Ans.f (a0_0 : Int) (a0_1 : Bool) (a0_2 : ByteArray) (a0_3 : Int) : Option (Int × Bool × ByteArray × Int) := some (a0_0, a0_1, a0_2, a0_3)
set_option maxHeartbeats 8000000 in
set_option maxRecDepth 100000 in
theorem glebelaw07_Ans.calls (a0_0 : Int) (a0_1 : Bool) (a0_2 : ByteArray) (a0_3 : Int) (r1 : Int) (r2 : Bool) (r3 : ByteArray) (r4 : Int) (w : World) (h : glebelaw07_Ans.f a0_0 a0_1 a0_2 a0_3 = some (r1, r2, r3, r4)) :
    Calls Try.prog 13 #[.agg #[.int .i64 a0_0, .bool a0_1, .string a0_2, .int .i64 a0_3]] w fun e w' => e = .returned (.agg #[.int .i64 r1, .bool r2, .string r3, .int .i64 r4]) ∧ Below w.heap.size w w' := by
  have hu24 := Try.underlying24
  have hu34 := Try.underlying34
  have HB := Aside0.mk (Below.refl w.heap.size w)
  have H : (some (a0_0, a0_1, a0_2, a0_3)) = some (r1, r2, r3, r4) := h
  clear h
  simp only [Option.some.injEq, Prod.mk.injEq] at H
  obtain ⟨rfl, rfl, rfl, rfl⟩ := H
  go_enter Try.func13, Try.ntmps13
  go_wp2_with (first | ((with_reducible refine gate_dst (N := 1) rfl ?_); refine box_event ?hg (N := 1) ?hd (cs := #[.int .i64 a0_0, .bool a0_1, .string a0_2, .int .i64 a0_3]) (t := 24) ?hr ?_; (case hd => rfl); (case hg => rfl); (case hr => first | (go_simp; done) | (go_simp; rfl)); intro gb131 hg w2 hbox hb; have n0_ := Aside0.mk (below_step (by repeat (first | (with_reducible first | exact HB.out | apply below_alloc | apply pw_below_drewN | apply below_drew1) | exact HB.out)) hb); have n1_ := Aside0.mk (hbox); have n2_ := Aside0.mk ((by rw [hg]; exact (below_size (by repeat (first | (with_reducible first | exact HB.out | apply below_alloc | apply pw_below_drewN | apply below_drew1) | exact HB.out))) : w.heap.size ≤ gb131)); have n3_ := Aside0.mk ((by rw [hg]; exact (below_size (by repeat (first | (with_reducible first | exact HB.out | apply below_alloc | apply pw_below_drewN | apply below_drew1) | exact HB.out))) : w.heap.size ≤ gb131)); clear HB; have HB := n0_; have BK131 := n1_; have GW131 := n2_; have GE131 := n3_; clear n0_ n1_ n2_ n3_; clear hb hbox hg) | ((with_reducible refine gate_dst (N := 2) rfl ?_); refine box_event ?hg (N := 2) ?hd (cs := #[.int .i64 0, .bool false, .string (⟨#[]⟩ : ByteArray), .int .i64 0]) (t := 34) ?hr ?_; (case hd => rfl); (case hg => rfl); (case hr => first | (go_simp; done) | (go_simp; rfl)); intro gb132 hg w3 hbox hb; have n0_ := Aside0.mk (blk_below (g := gb131) (o := .cells #[.int .i64 a0_0, .bool a0_1, .string a0_2, .int .i64 a0_3] 24 (0, 0)) (by (with_reducible repeat (first | refine blk_drewN ?_ _ | refine blk_drew ?_ | refine blk_alloc ?_ _)); exact BK131.out) hb); have n1_ := Aside0.mk (below_step (by repeat (first | (with_reducible first | exact HB.out | apply below_alloc | apply pw_below_drewN | apply below_drew1 | refine below_set ?_ GE131.out) | exact HB.out)) hb); have n2_ := Aside0.mk (hbox); have n3_ := Aside0.mk ((by rw [hg]; exact (below_size (by repeat (first | (with_reducible first | exact HB.out | apply below_alloc | apply pw_below_drewN | apply below_drew1 | refine below_set ?_ GE131.out) | exact HB.out))) : w.heap.size ≤ gb132)); have n4_ := Aside0.mk ((by rw [hg]; exact (below_size (by repeat (first | (with_reducible first | exact HB.out | apply below_alloc | apply pw_below_drewN | apply below_drew1 | refine below_set ?_ GE131.out) | exact HB.out))) : w.heap.size ≤ gb132)); have n5_ := Aside0.mk ((by rw [hg]; exact Nat.ne_of_lt (blk_lt (g := gb131) (o := .cells #[.int .i64 a0_0, .bool a0_1, .string a0_2, .int .i64 a0_3] 24 (0, 0)) (by (with_reducible repeat (first | refine blk_drewN ?_ _ | refine blk_drew ?_ | refine blk_alloc ?_ _)); exact BK131.out)) : gb131 ≠ gb132)); have n6_ := Aside0.mk ((by rw [hg]; exact Nat.ne_of_gt (blk_lt (g := gb131) (o := .cells #[.int .i64 a0_0, .bool a0_1, .string a0_2, .int .i64 a0_3] 24 (0, 0)) (by (with_reducible repeat (first | refine blk_drewN ?_ _ | refine blk_drew ?_ | refine blk_alloc ?_ _)); exact BK131.out)) : gb132 ≠ gb131)); clear BK131; clear HB; have BK131 := n0_; have HB := n1_; have BK132 := n2_; have GW132 := n3_; have GE132 := n4_; have NB131_132 := n5_; have NB132_131 := n6_; clear n0_ n1_ n2_ n3_ n4_ n5_ n6_; clear hb hbox hg; have hnb4 := NB131_132.out; have hnc4 := NB132_131.out; have hcz5_0 : w3.cell? ⟨gb131, 0, none⟩ = some (.int .i64 a0_0) := (blk_cell BK131.out 0).trans rfl; have hcz5_1 : w3.cell? ⟨gb131, 1, none⟩ = some (.bool a0_1) := (blk_cell BK131.out 1).trans rfl; have hcz5_2 : w3.cell? ⟨gb131, 2, none⟩ = some (.string a0_2) := (blk_cell BK131.out 2).trans rfl; have hcz5_3 : w3.cell? ⟨gb131, 3, none⟩ = some (.int .i64 a0_3) := (blk_cell BK131.out 3).trans rfl; have hfz5_0 := blk_frozen BK131.out 0; have hfz5_1 := blk_frozen BK131.out 1; have hfz5_2 := blk_frozen BK131.out 2; have hfz5_3 := blk_frozen BK131.out 3; have hcz6_0 : w3.cell? ⟨gb132, 0, none⟩ = some (.int .i64 0) := (blk_cell BK132.out 0).trans rfl; have hcz6_1 : w3.cell? ⟨gb132, 1, none⟩ = some (.bool false) := (blk_cell BK132.out 1).trans rfl; have hcz6_2 : w3.cell? ⟨gb132, 2, none⟩ = some (.string (⟨#[]⟩ : ByteArray)) := (blk_cell BK132.out 2).trans rfl; have hcz6_3 : w3.cell? ⟨gb132, 3, none⟩ = some (.int .i64 0) := (blk_cell BK132.out 3).trans rfl; have hfz6_0 := blk_frozen BK132.out 0; have hfz6_1 := blk_frozen BK132.out 1; have hfz6_2 := blk_frozen BK132.out 2; have hfz6_3 := blk_frozen BK132.out 3))
  refine bodyPost_ret (results_cell_row rfl _ _ gb132 34 #[.int .i64 a0_0, .bool a0_1, .string a0_2, .int .i64 a0_3] (0, 0) _ rfl (by (with_reducible repeat (first | refine blk_drewN ?_ _ | refine blk_drew ?_ | refine blk_alloc ?_ _)); refine blk_put (cs := #[.int .i64 a0_0, .bool a0_1, .string a0_2, .int .i64 0]) ?_ 3 _ rfl; (with_reducible repeat (first | refine blk_drewN ?_ _ | refine blk_drew ?_ | refine blk_alloc ?_ _)); refine blk_put (cs := #[.int .i64 a0_0, .bool a0_1, .string (⟨#[]⟩ : ByteArray), .int .i64 0]) ?_ 2 _ rfl; (with_reducible repeat (first | refine blk_drewN ?_ _ | refine blk_drew ?_ | refine blk_alloc ?_ _)); refine blk_put (cs := #[.int .i64 a0_0, .bool false, .string (⟨#[]⟩ : ByteArray), .int .i64 0]) ?_ 1 _ rfl; (with_reducible repeat (first | refine blk_drewN ?_ _ | refine blk_drew ?_ | refine blk_alloc ?_ _)); refine blk_put (cs := #[.int .i64 0, .bool false, .string (⟨#[]⟩ : ByteArray), .int .i64 0]) ?_ 0 _ rfl; (with_reducible repeat (first | refine blk_drewN ?_ _ | refine blk_drew ?_ | refine blk_alloc ?_ _)); exact BK132.out) Try.underlying34 rfl (by kernel_rfl)) rfl ?_
  exact ⟨by first | rfl | (simp [errW_none, errW_some] <;> rfl) | (simp [*, errW_none, errW_some] <;> rfl), by repeat (first | (with_reducible first | exact HB.out | apply below_alloc | apply pw_below_drewN | apply below_drew1 | refine below_set ?_ GE131.out | refine below_set ?_ GE132.out) | exact HB.out)⟩

end
section
open Go.RowKit Go.Proofs.YtlfnfgoocliecaaW.PrintWords Go.Proofs.YtlfnfgoocliecaaW.PrintLast Go.Proofs.YtlfnfgoocliecaaW.PrintMore
attribute [local go_sem] max2_int min2_int max_two min_two max_three min_three max_four min_four   -- for this text's walks alone
set_option linter.unusedVariables false
set_option linter.unusedSimpArgs false

/-! ### gleberef09_right: function 54 -/
def gleberef09_right.f (a0 : Int) (a1 : Int) : Option (Bool) := if a0 ≥ 0 then (if a0 < 8 then (if a1 ≥ 1 then (some (decide (a1 ≤ 1099511627776))) else (some false)) else (some false)) else (some false)
set_option maxHeartbeats 8000000 in
set_option maxRecDepth 100000 in
theorem gleberef09_right.calls (a0 : Int) (a1 : Int) (r : Bool) (w : World) (h : gleberef09_right.f a0 a1 = some r) :
    Calls Try.prog 54 #[.int .i64 a0, .int .i64 a1] w fun e w' => e = .returned (.bool r) ∧ Drawn0 w w' := by
  have H : (if a0 ≥ 0 then (if a0 < 8 then (if a1 ≥ 1 then (some (decide (a1 ≤ 1099511627776))) else (some false)) else (some false)) else (some false)) = some r := h
  clear h
  by_cases c3 : a0 ≥ 0
  · rw [if_pos c3] at H
    have c3b0 : decide (0 ≤ a0) = true := decide_eq_true c3
    clear c3
    by_cases c4 : a0 < 8
    · rw [if_pos c4] at H
      have c4b0 : decide (a0 < 8) = true := decide_eq_true c4
      clear c4
      by_cases c5 : a1 ≥ 1
      · rw [if_pos c5] at H
        have c5b0 : decide (1 ≤ a1) = true := decide_eq_true c5
        clear c5
        obtain rfl := Option.some.inj H
        go_enter Try.func54, Try.ntmps54
        go_wp2
        go_ret
        exact ⟨by first | rfl | (simp; done) | (simp [*]; done), by repeat (first | exact Drawn0.refl _ | apply Drawn0.step)⟩
      · rw [if_neg c5] at H
        have c5b0 : decide (1 ≤ a1) = false := decide_eq_false c5
        clear c5
        obtain rfl := Option.some.inj H
        go_enter Try.func54, Try.ntmps54
        go_wp2
        go_ret
        exact ⟨by first | rfl | (simp; done) | (simp [*]; done), by repeat (first | exact Drawn0.refl _ | apply Drawn0.step)⟩
    · rw [if_neg c4] at H
      have c4b0 : decide (a0 < 8) = false := decide_eq_false c4
      clear c4
      obtain rfl := Option.some.inj H
      go_enter Try.func54, Try.ntmps54
      go_wp2
      go_ret
      exact ⟨by first | rfl | (simp; done) | (simp [*]; done), by repeat (first | exact Drawn0.refl _ | apply Drawn0.step)⟩
  · rw [if_neg c3] at H
    have c3b0 : decide (0 ≤ a0) = false := decide_eq_false c3
    clear c3
    obtain rfl := Option.some.inj H
    go_enter Try.func54, Try.ntmps54
    go_wp2
    go_ret
    exact ⟨by first | rfl | (simp; done) | (simp [*]; done), by repeat (first | exact Drawn0.refl _ | apply Drawn0.step)⟩

end
section
open Go.RowKit Go.Proofs.YtlfnfgoocliecaaW.PrintWords Go.Proofs.YtlfnfgoocliecaaW.PrintLast Go.Proofs.YtlfnfgoocliecaaW.PrintMore
attribute [local go_sem] max2_int min2_int max_two min_two max_three min_three max_four min_four   -- for this text's walks alone
set_option linter.unusedVariables false
set_option linter.unusedSimpArgs false

--OWN Derived.RegionTactic,Derived.BigRegion
/-! ### gleberef09_Table_Look: function 37 -/
theorem right_eq (c s : Int) : gleberef09_right.f c s = some (decide (0 ≤ c ∧ c < 8 ∧ 1 ≤ s ∧ s ≤ 1099511627776)) := by
  unfold gleberef09_right.f
  by_cases h1 : c ≥ 0
  · rw [if_pos h1]
    by_cases h2 : c < 8
    · rw [if_pos h2]
      by_cases h3 : s ≥ 1
      · rw [if_pos h3]
        congr 1
        simp only [decide_eq_decide]
        omega
      · rw [if_neg h3, decide_eq_false (by omega)]
    · rw [if_neg h2, decide_eq_false (by omega)]
  · rw [if_neg h1, decide_eq_false (by omega)]
set_option maxHeartbeats 2000000 in
set_option maxRecDepth 100000 in
theorem gleberef09_Table_Look.calls (g : Nat) (R : Nat → SRow) (c s : Int) (w0 w : World) (hI : IsRTab w0 w g R) :
    Calls Try.prog 37 #[.pointer (some ⟨g, 0, none⟩), .int .i64 c, .int .i64 s] w fun e w' => e = .returned (.int .i64 (tLook R c s)) ∧ Below w.heap.size w w' := by
  have HI := Aside0.mk hI
  have hr := right_eq c s
  clear hI
  unfold tLook
  by_cases hc : 0 ≤ c ∧ c < 8 ∧ 1 ≤ s ∧ s ≤ 1099511627776
  rotate_left
  · rw [if_neg hc]
    rw [decide_eq_false hc] at hr
    have HR := Aside0.mk hr
    clear hc hr
    go_enter Try.func37, Try.ntmps37
    go_wp2_with fail
    refine (gleberef09_right.calls c s false w HR.out).mono ?_
    rintro e w1 ⟨rfl, hd⟩
    have HB := Aside0.mk (Drawn0.below hd)
    clear hd
    go_wp2
    go_ret
    exact ⟨rfl, HB.out⟩
  · rw [if_pos hc]
    rw [decide_eq_true hc] at hr
    have HR := Aside0.mk hr
    obtain ⟨n, rfl⟩ := Int.eq_ofNat_of_zero_le hc.1
    rw [Int.toNat_natCast]
    have hn : n < 8 := by omega
    have HQ := Aside0.mk (HI.out.cells_ hn).1
    clear hr
    generalize (R n).q = q at HQ ⊢
    rcases (show q < s ∨ (¬ q < s ∧ s < q) ∨ (¬ q < s ∧ ¬ s < q) by omega) with x | ⟨x, y⟩ | ⟨x, y⟩
    · have x1 : decide (q < s) = true := decide_eq_true x
      rw [if_pos x]
      clear hc x
      go_enter Try.func37, Try.ntmps37
      go_wp2_with fail
      refine (gleberef09_right.calls n s true w HR.out).mono ?_
      rintro e w1 ⟨rfl, hd⟩
      have HB := Aside0.mk (Drawn0.below hd)
      have hq := (HB.out.cell (World.block_lt_of_cell? w _ HQ.out)).trans HQ.out
      clear hd
      go_wp2
      go_ret
      exact ⟨rfl, HB.out⟩
    · have x1 : decide (q < s) = false := decide_eq_false x
      have y1 : (s == q) = false := beq_eq_false_iff_ne.mpr (by omega)
      rw [if_neg x, if_pos y]
      clear hc x y
      go_enter Try.func37, Try.ntmps37
      go_wp2_with fail
      refine (gleberef09_right.calls n s true w HR.out).mono ?_
      rintro e w1 ⟨rfl, hd⟩
      have HB := Aside0.mk (Drawn0.below hd)
      have hq := (HB.out.cell (World.block_lt_of_cell? w _ HQ.out)).trans HQ.out
      clear hd
      go_wp2
      go_ret
      exact ⟨rfl, HB.out⟩
    · have x1 : decide (q < s) = false := decide_eq_false x
      have y1 : (s == q) = true := beq_iff_eq.mpr (by omega)
      rw [if_neg x, if_neg y]
      clear hc x y
      go_enter Try.func37, Try.ntmps37
      go_wp2_with fail
      refine (gleberef09_right.calls n s true w HR.out).mono ?_
      rintro e w1 ⟨rfl, hd⟩
      have HB := Aside0.mk (Drawn0.below hd)
      have hq := (HB.out.cell (World.block_lt_of_cell? w _ HQ.out)).trans HQ.out
      clear hd
      go_wp2
      go_ret
      exact ⟨rfl, HB.out⟩

end
section
open Go.RowKit Go.Proofs.YtlfnfgoocliecaaW.PrintWords Go.Proofs.YtlfnfgoocliecaaW.PrintLast Go.Proofs.YtlfnfgoocliecaaW.PrintMore
attribute [local go_sem] max2_int min2_int max_two min_two max_three min_three max_four min_four   -- for this text's walks alone
set_option linter.unusedVariables false
set_option linter.unusedSimpArgs false

/-! ### gleberef07_RightAns: function 55 -/
def gleberef07_RightAns.f (a0_0 : Int) (a0_1 : Bool) (a0_2 : ByteArray) (a0_3 : Int) : Option (Bool) := if a0_0 ≥ 0 then (if a0_0 ≤ 255 then (if (a0_2.size : Int) ≤ 32 then (if a0_3 ≥ 0 then (if a0_3 ≤ 1099511627776 then (if a0_1 = true then (some true) else (if a0_2.toList = ([] : List UInt8) then (some (a0_3 == 0)) else (some false))) else (some false)) else (some false)) else (some false)) else (some false)) else (some false)
set_option maxHeartbeats 8000000 in
set_option maxRecDepth 100000 in
theorem gleberef07_RightAns.calls (a0_0 : Int) (a0_1 : Bool) (a0_2 : ByteArray) (a0_3 : Int) (r : Bool) (w : World) (h : gleberef07_RightAns.f a0_0 a0_1 a0_2 a0_3 = some r) :
    Calls Try.prog 55 #[.agg #[.int .i64 a0_0, .bool a0_1, .string a0_2, .int .i64 a0_3]] w fun e w' => e = .returned (.bool r) ∧ Below w.heap.size w w' := by
  have hu24 := Try.underlying24
  have HB := Aside0.mk (Below.refl w.heap.size w)
  have H : (if a0_0 ≥ 0 then (if a0_0 ≤ 255 then (if (a0_2.size : Int) ≤ 32 then (if a0_3 ≥ 0 then (if a0_3 ≤ 1099511627776 then (if a0_1 = true then (some true) else (if a0_2.toList = ([] : List UInt8) then (some (a0_3 == 0)) else (some false))) else (some false)) else (some false)) else (some false)) else (some false)) else (some false)) = some r := h
  clear h
  by_cases c2 : a0_0 ≥ 0
  · rw [if_pos c2] at H
    have c2b0 : decide (0 ≤ a0_0) = true := decide_eq_true c2
    clear c2
    by_cases c3 : a0_0 ≤ 255
    · rw [if_pos c3] at H
      have c3b0 : decide (a0_0 ≤ 255) = true := decide_eq_true c3
      clear c3
      by_cases c4 : (a0_2.size : Int) ≤ 32
      · rw [if_pos c4] at H
        have c4b0 : decide ((a0_2.size : Int) ≤ 32) = true := decide_eq_true c4
        have c4b1 : decide (a0_2.size ≤ 32) = true := decide_eq_true (by omega)
        clear c4
        by_cases c5 : a0_3 ≥ 0
        · rw [if_pos c5] at H
          have c5b0 : decide (0 ≤ a0_3) = true := decide_eq_true c5
          clear c5
          by_cases c6 : a0_3 ≤ 1099511627776
          · rw [if_pos c6] at H
            have c6b0 : decide (a0_3 ≤ 1099511627776) = true := decide_eq_true c6
            clear c6
            by_cases c7 : a0_1 = true
            · subst c7
              have H1 : (some true) = some r := by rw [if_pos rfl] at H; exact H
              clear H
              have H := H1
              clear H1
              obtain rfl := Option.some.inj H
              go_enter Try.func55, Try.ntmps55
              go_wp2_with (first | ((with_reducible refine gate_dst (N := 1) rfl ?_); (try (refine gate_guard (by rfl) ?_; dsimp only)); refine box_event ?hg (N := 1) ?hd (cs := #[.int .i64 a0_0, .bool true, .string a0_2, .int .i64 a0_3]) (t := 24) ?hr ?_; (case hd => rfl); (case hg => rfl); (case hr => first | (go_simp; done) | (go_simp; rfl)); intro gb133 hg w8 hbox hb; have n0_ := Aside0.mk (below_step (by repeat (first | (with_reducible first | exact HB.out | apply below_alloc | apply pw_below_drewN | apply below_drew1) | exact HB.out)) hb); have n1_ := Aside0.mk (hbox); have n2_ := Aside0.mk ((by rw [hg]; exact (below_size (by repeat (first | (with_reducible first | exact HB.out | apply below_alloc | apply pw_below_drewN | apply below_drew1) | exact HB.out))) : w.heap.size ≤ gb133)); have n3_ := Aside0.mk ((by rw [hg]; exact (below_size (by repeat (first | (with_reducible first | exact HB.out | apply below_alloc | apply pw_below_drewN | apply below_drew1) | exact HB.out))) : w.heap.size ≤ gb133)); clear HB; have HB := n0_; have BK133 := n1_; have GW133 := n2_; have GE133 := n3_; clear n0_ n1_ n2_ n3_; clear hb hbox hg; have hcz9_0 : w8.cell? ⟨gb133, 0, none⟩ = some (.int .i64 a0_0) := (blk_cell BK133.out 0).trans rfl; have hcz9_1 : w8.cell? ⟨gb133, 1, none⟩ = some (.bool true) := (blk_cell BK133.out 1).trans rfl; have hcz9_2 : w8.cell? ⟨gb133, 2, none⟩ = some (.string a0_2) := (blk_cell BK133.out 2).trans rfl; have hcz9_3 : w8.cell? ⟨gb133, 3, none⟩ = some (.int .i64 a0_3) := (blk_cell BK133.out 3).trans rfl; have hfz9_0 := blk_frozen BK133.out 0; have hfz9_1 := blk_frozen BK133.out 1; have hfz9_2 := blk_frozen BK133.out 2; have hfz9_3 := blk_frozen BK133.out 3))
              go_ret
              exact ⟨by first | rfl | (simp [errW_none, errW_some] <;> rfl) | (simp [*, errW_none, errW_some] <;> rfl), by repeat (first | (with_reducible first | exact HB.out | apply below_alloc | apply pw_below_drewN | apply below_drew1 | refine below_set ?_ GE133.out) | exact HB.out)⟩
            · replace c7 := Bool.eq_false_iff.mpr c7
              subst c7
              have H1 : (if a0_2.toList = ([] : List UInt8) then (some (a0_3 == 0)) else (some false)) = some r := by rw [if_neg (show ¬ (false = true) by decide)] at H; exact H
              clear H
              have H := H1
              clear H1
              by_cases c10 : a0_2.toList = ([] : List UInt8)
              · rw [if_pos c10] at H
                have c10b0 : (a0_2.toList == ([] : List UInt8)) = true := beq_iff_eq.mpr c10
                have c10b1 : (a0_2.toList != ([] : List UInt8)) = false := bne_eq_false_iff_eq.mpr c10
                clear c10
                obtain rfl := Option.some.inj H
                go_enter Try.func55, Try.ntmps55
                go_wp2_with (first | ((with_reducible refine gate_dst (N := 1) rfl ?_); (try (refine gate_guard (by rfl) ?_; dsimp only)); refine box_event ?hg (N := 1) ?hd (cs := #[.int .i64 a0_0, .bool false, .string a0_2, .int .i64 a0_3]) (t := 24) ?hr ?_; (case hd => rfl); (case hg => rfl); (case hr => first | (go_simp; done) | (go_simp; rfl)); intro gb133 hg w11 hbox hb; have n0_ := Aside0.mk (below_step (by repeat (first | (with_reducible first | exact HB.out | apply below_alloc | apply pw_below_drewN | apply below_drew1) | exact HB.out)) hb); have n1_ := Aside0.mk (hbox); have n2_ := Aside0.mk ((by rw [hg]; exact (below_size (by repeat (first | (with_reducible first | exact HB.out | apply below_alloc | apply pw_below_drewN | apply below_drew1) | exact HB.out))) : w.heap.size ≤ gb133)); have n3_ := Aside0.mk ((by rw [hg]; exact (below_size (by repeat (first | (with_reducible first | exact HB.out | apply below_alloc | apply pw_below_drewN | apply below_drew1) | exact HB.out))) : w.heap.size ≤ gb133)); clear HB; have HB := n0_; have BK133 := n1_; have GW133 := n2_; have GE133 := n3_; clear n0_ n1_ n2_ n3_; clear hb hbox hg; have hcz12_0 : w11.cell? ⟨gb133, 0, none⟩ = some (.int .i64 a0_0) := (blk_cell BK133.out 0).trans rfl; have hcz12_1 : w11.cell? ⟨gb133, 1, none⟩ = some (.bool false) := (blk_cell BK133.out 1).trans rfl; have hcz12_2 : w11.cell? ⟨gb133, 2, none⟩ = some (.string a0_2) := (blk_cell BK133.out 2).trans rfl; have hcz12_3 : w11.cell? ⟨gb133, 3, none⟩ = some (.int .i64 a0_3) := (blk_cell BK133.out 3).trans rfl; have hfz12_0 := blk_frozen BK133.out 0; have hfz12_1 := blk_frozen BK133.out 1; have hfz12_2 := blk_frozen BK133.out 2; have hfz12_3 := blk_frozen BK133.out 3))
                go_ret
                exact ⟨by first | rfl | (simp [errW_none, errW_some] <;> rfl) | (simp [*, errW_none, errW_some] <;> rfl), by repeat (first | (with_reducible first | exact HB.out | apply below_alloc | apply pw_below_drewN | apply below_drew1 | refine below_set ?_ GE133.out) | exact HB.out)⟩
              · rw [if_neg c10] at H
                have c10b0 : (a0_2.toList == ([] : List UInt8)) = false := beq_eq_false_iff_ne.mpr c10
                have c10b1 : (a0_2.toList != ([] : List UInt8)) = true := bne_iff_ne.mpr c10
                obtain rfl := Option.some.inj H
                go_enter Try.func55, Try.ntmps55
                go_wp2_with (first | ((with_reducible refine gate_dst (N := 1) rfl ?_); (try (refine gate_guard (by rfl) ?_; dsimp only)); refine box_event ?hg (N := 1) ?hd (cs := #[.int .i64 a0_0, .bool false, .string a0_2, .int .i64 a0_3]) (t := 24) ?hr ?_; (case hd => rfl); (case hg => rfl); (case hr => first | (go_simp; done) | (go_simp; rfl)); intro gb133 hg w13 hbox hb; have n0_ := Aside0.mk (below_step (by repeat (first | (with_reducible first | exact HB.out | apply below_alloc | apply pw_below_drewN | apply below_drew1) | exact HB.out)) hb); have n1_ := Aside0.mk (hbox); have n2_ := Aside0.mk ((by rw [hg]; exact (below_size (by repeat (first | (with_reducible first | exact HB.out | apply below_alloc | apply pw_below_drewN | apply below_drew1) | exact HB.out))) : w.heap.size ≤ gb133)); have n3_ := Aside0.mk ((by rw [hg]; exact (below_size (by repeat (first | (with_reducible first | exact HB.out | apply below_alloc | apply pw_below_drewN | apply below_drew1) | exact HB.out))) : w.heap.size ≤ gb133)); clear HB; have HB := n0_; have BK133 := n1_; have GW133 := n2_; have GE133 := n3_; clear n0_ n1_ n2_ n3_; clear hb hbox hg; have hcz14_0 : w13.cell? ⟨gb133, 0, none⟩ = some (.int .i64 a0_0) := (blk_cell BK133.out 0).trans rfl; have hcz14_1 : w13.cell? ⟨gb133, 1, none⟩ = some (.bool false) := (blk_cell BK133.out 1).trans rfl; have hcz14_2 : w13.cell? ⟨gb133, 2, none⟩ = some (.string a0_2) := (blk_cell BK133.out 2).trans rfl; have hcz14_3 : w13.cell? ⟨gb133, 3, none⟩ = some (.int .i64 a0_3) := (blk_cell BK133.out 3).trans rfl; have hfz14_0 := blk_frozen BK133.out 0; have hfz14_1 := blk_frozen BK133.out 1; have hfz14_2 := blk_frozen BK133.out 2; have hfz14_3 := blk_frozen BK133.out 3))
                go_ret
                exact ⟨by first | rfl | (simp [errW_none, errW_some] <;> rfl) | (simp [*, errW_none, errW_some] <;> rfl), by repeat (first | (with_reducible first | exact HB.out | apply below_alloc | apply pw_below_drewN | apply below_drew1 | refine below_set ?_ GE133.out) | exact HB.out)⟩
          · rw [if_neg c6] at H
            have c6b0 : decide (a0_3 ≤ 1099511627776) = false := decide_eq_false c6
            clear c6
            obtain rfl := Option.some.inj H
            go_enter Try.func55, Try.ntmps55
            go_wp2_with (first | ((with_reducible refine gate_dst (N := 1) rfl ?_); (try (refine gate_guard (by rfl) ?_; dsimp only)); refine box_event ?hg (N := 1) ?hd (cs := #[.int .i64 a0_0, .bool a0_1, .string a0_2, .int .i64 a0_3]) (t := 24) ?hr ?_; (case hd => rfl); (case hg => rfl); (case hr => first | (go_simp; done) | (go_simp; rfl)); intro gb133 hg w15 hbox hb; have n0_ := Aside0.mk (below_step (by repeat (first | (with_reducible first | exact HB.out | apply below_alloc | apply pw_below_drewN | apply below_drew1) | exact HB.out)) hb); have n1_ := Aside0.mk (hbox); have n2_ := Aside0.mk ((by rw [hg]; exact (below_size (by repeat (first | (with_reducible first | exact HB.out | apply below_alloc | apply pw_below_drewN | apply below_drew1) | exact HB.out))) : w.heap.size ≤ gb133)); have n3_ := Aside0.mk ((by rw [hg]; exact (below_size (by repeat (first | (with_reducible first | exact HB.out | apply below_alloc | apply pw_below_drewN | apply below_drew1) | exact HB.out))) : w.heap.size ≤ gb133)); clear HB; have HB := n0_; have BK133 := n1_; have GW133 := n2_; have GE133 := n3_; clear n0_ n1_ n2_ n3_; clear hb hbox hg; have hcz16_0 : w15.cell? ⟨gb133, 0, none⟩ = some (.int .i64 a0_0) := (blk_cell BK133.out 0).trans rfl; have hcz16_1 : w15.cell? ⟨gb133, 1, none⟩ = some (.bool a0_1) := (blk_cell BK133.out 1).trans rfl; have hcz16_2 : w15.cell? ⟨gb133, 2, none⟩ = some (.string a0_2) := (blk_cell BK133.out 2).trans rfl; have hcz16_3 : w15.cell? ⟨gb133, 3, none⟩ = some (.int .i64 a0_3) := (blk_cell BK133.out 3).trans rfl; have hfz16_0 := blk_frozen BK133.out 0; have hfz16_1 := blk_frozen BK133.out 1; have hfz16_2 := blk_frozen BK133.out 2; have hfz16_3 := blk_frozen BK133.out 3))
            go_ret
            exact ⟨by first | rfl | (simp [errW_none, errW_some] <;> rfl) | (simp [*, errW_none, errW_some] <;> rfl), by repeat (first | (with_reducible first | exact HB.out | apply below_alloc | apply pw_below_drewN | apply below_drew1 | refine below_set ?_ GE133.out) | exact HB.out)⟩
        · rw [if_neg c5] at H
          have c5b0 : decide (0 ≤ a0_3) = false := decide_eq_false c5
          clear c5
          obtain rfl := Option.some.inj H
          go_enter Try.func55, Try.ntmps55
          go_wp2_with (first | ((with_reducible refine gate_dst (N := 1) rfl ?_); (try (refine gate_guard (by rfl) ?_; dsimp only)); refine box_event ?hg (N := 1) ?hd (cs := #[.int .i64 a0_0, .bool a0_1, .string a0_2, .int .i64 a0_3]) (t := 24) ?hr ?_; (case hd => rfl); (case hg => rfl); (case hr => first | (go_simp; done) | (go_simp; rfl)); intro gb133 hg w17 hbox hb; have n0_ := Aside0.mk (below_step (by repeat (first | (with_reducible first | exact HB.out | apply below_alloc | apply pw_below_drewN | apply below_drew1) | exact HB.out)) hb); have n1_ := Aside0.mk (hbox); have n2_ := Aside0.mk ((by rw [hg]; exact (below_size (by repeat (first | (with_reducible first | exact HB.out | apply below_alloc | apply pw_below_drewN | apply below_drew1) | exact HB.out))) : w.heap.size ≤ gb133)); have n3_ := Aside0.mk ((by rw [hg]; exact (below_size (by repeat (first | (with_reducible first | exact HB.out | apply below_alloc | apply pw_below_drewN | apply below_drew1) | exact HB.out))) : w.heap.size ≤ gb133)); clear HB; have HB := n0_; have BK133 := n1_; have GW133 := n2_; have GE133 := n3_; clear n0_ n1_ n2_ n3_; clear hb hbox hg; have hcz18_0 : w17.cell? ⟨gb133, 0, none⟩ = some (.int .i64 a0_0) := (blk_cell BK133.out 0).trans rfl; have hcz18_1 : w17.cell? ⟨gb133, 1, none⟩ = some (.bool a0_1) := (blk_cell BK133.out 1).trans rfl; have hcz18_2 : w17.cell? ⟨gb133, 2, none⟩ = some (.string a0_2) := (blk_cell BK133.out 2).trans rfl; have hcz18_3 : w17.cell? ⟨gb133, 3, none⟩ = some (.int .i64 a0_3) := (blk_cell BK133.out 3).trans rfl; have hfz18_0 := blk_frozen BK133.out 0; have hfz18_1 := blk_frozen BK133.out 1; have hfz18_2 := blk_frozen BK133.out 2; have hfz18_3 := blk_frozen BK133.out 3))
          go_ret
          exact ⟨by first | rfl | (simp [errW_none, errW_some] <;> rfl) | (simp [*, errW_none, errW_some] <;> rfl), by repeat (first | (with_reducible first | exact HB.out | apply below_alloc | apply pw_below_drewN | apply below_drew1 | refine below_set ?_ GE133.out) | exact HB.out)⟩
      · rw [if_neg c4] at H
        have c4b0 : decide ((a0_2.size : Int) ≤ 32) = false := decide_eq_false c4
        have c4b1 : decide (a0_2.size ≤ 32) = false := decide_eq_false (by omega)
        clear c4
        obtain rfl := Option.some.inj H
        go_enter Try.func55, Try.ntmps55
        go_wp2_with (first | ((with_reducible refine gate_dst (N := 1) rfl ?_); (try (refine gate_guard (by rfl) ?_; dsimp only)); refine box_event ?hg (N := 1) ?hd (cs := #[.int .i64 a0_0, .bool a0_1, .string a0_2, .int .i64 a0_3]) (t := 24) ?hr ?_; (case hd => rfl); (case hg => rfl); (case hr => first | (go_simp; done) | (go_simp; rfl)); intro gb133 hg w19 hbox hb; have n0_ := Aside0.mk (below_step (by repeat (first | (with_reducible first | exact HB.out | apply below_alloc | apply pw_below_drewN | apply below_drew1) | exact HB.out)) hb); have n1_ := Aside0.mk (hbox); have n2_ := Aside0.mk ((by rw [hg]; exact (below_size (by repeat (first | (with_reducible first | exact HB.out | apply below_alloc | apply pw_below_drewN | apply below_drew1) | exact HB.out))) : w.heap.size ≤ gb133)); have n3_ := Aside0.mk ((by rw [hg]; exact (below_size (by repeat (first | (with_reducible first | exact HB.out | apply below_alloc | apply pw_below_drewN | apply below_drew1) | exact HB.out))) : w.heap.size ≤ gb133)); clear HB; have HB := n0_; have BK133 := n1_; have GW133 := n2_; have GE133 := n3_; clear n0_ n1_ n2_ n3_; clear hb hbox hg; have hcz20_0 : w19.cell? ⟨gb133, 0, none⟩ = some (.int .i64 a0_0) := (blk_cell BK133.out 0).trans rfl; have hcz20_1 : w19.cell? ⟨gb133, 1, none⟩ = some (.bool a0_1) := (blk_cell BK133.out 1).trans rfl; have hcz20_2 : w19.cell? ⟨gb133, 2, none⟩ = some (.string a0_2) := (blk_cell BK133.out 2).trans rfl; have hcz20_3 : w19.cell? ⟨gb133, 3, none⟩ = some (.int .i64 a0_3) := (blk_cell BK133.out 3).trans rfl; have hfz20_0 := blk_frozen BK133.out 0; have hfz20_1 := blk_frozen BK133.out 1; have hfz20_2 := blk_frozen BK133.out 2; have hfz20_3 := blk_frozen BK133.out 3))
        go_ret
        exact ⟨by first | rfl | (simp [errW_none, errW_some] <;> rfl) | (simp [*, errW_none, errW_some] <;> rfl), by repeat (first | (with_reducible first | exact HB.out | apply below_alloc | apply pw_below_drewN | apply below_drew1 | refine below_set ?_ GE133.out) | exact HB.out)⟩
    · rw [if_neg c3] at H
      have c3b0 : decide (a0_0 ≤ 255) = false := decide_eq_false c3
      clear c3
      obtain rfl := Option.some.inj H
      go_enter Try.func55, Try.ntmps55
      go_wp2_with (first | ((with_reducible refine gate_dst (N := 1) rfl ?_); (try (refine gate_guard (by rfl) ?_; dsimp only)); refine box_event ?hg (N := 1) ?hd (cs := #[.int .i64 a0_0, .bool a0_1, .string a0_2, .int .i64 a0_3]) (t := 24) ?hr ?_; (case hd => rfl); (case hg => rfl); (case hr => first | (go_simp; done) | (go_simp; rfl)); intro gb133 hg w21 hbox hb; have n0_ := Aside0.mk (below_step (by repeat (first | (with_reducible first | exact HB.out | apply below_alloc | apply pw_below_drewN | apply below_drew1) | exact HB.out)) hb); have n1_ := Aside0.mk (hbox); have n2_ := Aside0.mk ((by rw [hg]; exact (below_size (by repeat (first | (with_reducible first | exact HB.out | apply below_alloc | apply pw_below_drewN | apply below_drew1) | exact HB.out))) : w.heap.size ≤ gb133)); have n3_ := Aside0.mk ((by rw [hg]; exact (below_size (by repeat (first | (with_reducible first | exact HB.out | apply below_alloc | apply pw_below_drewN | apply below_drew1) | exact HB.out))) : w.heap.size ≤ gb133)); clear HB; have HB := n0_; have BK133 := n1_; have GW133 := n2_; have GE133 := n3_; clear n0_ n1_ n2_ n3_; clear hb hbox hg; have hcz22_0 : w21.cell? ⟨gb133, 0, none⟩ = some (.int .i64 a0_0) := (blk_cell BK133.out 0).trans rfl; have hcz22_1 : w21.cell? ⟨gb133, 1, none⟩ = some (.bool a0_1) := (blk_cell BK133.out 1).trans rfl; have hcz22_2 : w21.cell? ⟨gb133, 2, none⟩ = some (.string a0_2) := (blk_cell BK133.out 2).trans rfl; have hcz22_3 : w21.cell? ⟨gb133, 3, none⟩ = some (.int .i64 a0_3) := (blk_cell BK133.out 3).trans rfl; have hfz22_0 := blk_frozen BK133.out 0; have hfz22_1 := blk_frozen BK133.out 1; have hfz22_2 := blk_frozen BK133.out 2; have hfz22_3 := blk_frozen BK133.out 3))
      go_ret
      exact ⟨by first | rfl | (simp [errW_none, errW_some] <;> rfl) | (simp [*, errW_none, errW_some] <;> rfl), by repeat (first | (with_reducible first | exact HB.out | apply below_alloc | apply pw_below_drewN | apply below_drew1 | refine below_set ?_ GE133.out) | exact HB.out)⟩
  · rw [if_neg c2] at H
    have c2b0 : decide (0 ≤ a0_0) = false := decide_eq_false c2
    clear c2
    obtain rfl := Option.some.inj H
    go_enter Try.func55, Try.ntmps55
    go_wp2_with (first | ((with_reducible refine gate_dst (N := 1) rfl ?_); (try (refine gate_guard (by rfl) ?_; dsimp only)); refine box_event ?hg (N := 1) ?hd (cs := #[.int .i64 a0_0, .bool a0_1, .string a0_2, .int .i64 a0_3]) (t := 24) ?hr ?_; (case hd => rfl); (case hg => rfl); (case hr => first | (go_simp; done) | (go_simp; rfl)); intro gb133 hg w23 hbox hb; have n0_ := Aside0.mk (below_step (by repeat (first | (with_reducible first | exact HB.out | apply below_alloc | apply pw_below_drewN | apply below_drew1) | exact HB.out)) hb); have n1_ := Aside0.mk (hbox); have n2_ := Aside0.mk ((by rw [hg]; exact (below_size (by repeat (first | (with_reducible first | exact HB.out | apply below_alloc | apply pw_below_drewN | apply below_drew1) | exact HB.out))) : w.heap.size ≤ gb133)); have n3_ := Aside0.mk ((by rw [hg]; exact (below_size (by repeat (first | (with_reducible first | exact HB.out | apply below_alloc | apply pw_below_drewN | apply below_drew1) | exact HB.out))) : w.heap.size ≤ gb133)); clear HB; have HB := n0_; have BK133 := n1_; have GW133 := n2_; have GE133 := n3_; clear n0_ n1_ n2_ n3_; clear hb hbox hg; have hcz24_0 : w23.cell? ⟨gb133, 0, none⟩ = some (.int .i64 a0_0) := (blk_cell BK133.out 0).trans rfl; have hcz24_1 : w23.cell? ⟨gb133, 1, none⟩ = some (.bool a0_1) := (blk_cell BK133.out 1).trans rfl; have hcz24_2 : w23.cell? ⟨gb133, 2, none⟩ = some (.string a0_2) := (blk_cell BK133.out 2).trans rfl; have hcz24_3 : w23.cell? ⟨gb133, 3, none⟩ = some (.int .i64 a0_3) := (blk_cell BK133.out 3).trans rfl; have hfz24_0 := blk_frozen BK133.out 0; have hfz24_1 := blk_frozen BK133.out 1; have hfz24_2 := blk_frozen BK133.out 2; have hfz24_3 := blk_frozen BK133.out 3))
    go_ret
    exact ⟨by first | rfl | (simp [errW_none, errW_some] <;> rfl) | (simp [*, errW_none, errW_some] <;> rfl), by repeat (first | (with_reducible first | exact HB.out | apply below_alloc | apply pw_below_drewN | apply below_drew1 | refine below_set ?_ GE133.out) | exact HB.out)⟩

end
section
open Go.RowKit Go.Proofs.YtlfnfgoocliecaaW.PrintWords Go.Proofs.YtlfnfgoocliecaaW.PrintLast Go.Proofs.YtlfnfgoocliecaaW.PrintMore
attribute [local go_sem] max2_int min2_int max_two min_two max_three min_three max_four min_four   -- for this text's walks alone
set_option linter.unusedVariables false
set_option linter.unusedSimpArgs false

--OWN Derived.RegionTactic,Derived.BigRegion
/-! ### gleberef09_Table_Note: function 38 -/
theorem tLook_zero (R : Nat → SRow) (c s : Int) : tLook R c s = 0 ↔ ¬ (0 ≤ c ∧ c < 8 ∧ 1 ≤ s ∧ s ≤ 1099511627776) := by
  unfold tLook
  constructor
  · intro h q
    rw [if_pos q] at h
    split at h
    · cases h
    · split at h <;> cases h
  · intro h
    rw [if_neg h]
set_option maxHeartbeats 4000000 in
set_option maxRecDepth 100000 in
theorem gleberef09_Table_Note.calls (g : Nat) (R : Nat → SRow) (c s : Int) (e : Int) (f : Bool) (v : ByteArray) (n : Int) (b : Bool) (w0 w : World) (hI : IsRTab w0 w g R) (hB : Below w0.heap.size w0 w) (h : gleberef07_RightAns.f e f v n = some b) :
    Calls Try.prog 38 #[.pointer (some ⟨g, 0, none⟩), .int .i64 c, .int .i64 s, .agg #[.int .i64 e, .bool f, .string v, .int .i64 n]] w fun ed w' => ed = .returned (.int .i64 (noteE R c s b)) ∧ IsRTab w0 w' g (noteR R c s b ⟨e, f, v, n, s⟩) ∧ Below w0.heap.size w0 w' ∧ KeepBut w w' g none := by
  have HI := Aside0.mk hI
  have HW := Aside0.mk hB
  have HRA := Aside0.mk h
  have HRI := Aside0.mk (right_eq c s)
  have HLK := Aside0.mk (fun W hW => gleberef09_Table_Look.calls g R c s w0 W hW)
  have hin : tLook R c s = 1 → 0 ≤ c ∧ c < 8 := tLook_in
  have hzero := tLook_zero R c s
  clear hI hB h
  unfold noteE noteR
  have hz := tLook_all R c s
  generalize hcn : c.toNat = m
  generalize tLook R c s = z at hz hin HLK hzero ⊢
  generalize hE : (if z = 0 then (1 : Int) else if b = false then 1 else if z = 1 then 0 else 44) = EE
  generalize hR : (if z = 1 ∧ b = true then upd R m ⟨e, f, v, n, s⟩ else R) = RR
  have hri : decide (0 ≤ c ∧ c < 8 ∧ 1 ≤ s ∧ s ≤ 1099511627776) = !(z == 0) := by
    by_cases q : z = 0
    · rw [decide_eq_false (hzero.mp q), q]
      rfl
    · rw [decide_eq_true (by simpa using fun k => q (hzero.mpr k)), beq_eq_false_iff_ne.mpr q]
      rfl
  rw [hri] at HRI
  clear hri hzero
  go_enter Try.func38, Try.ntmps38
  go_wp2_with (first | ((with_reducible refine gate_dst (N := 7) rfl ?_); refine box_event ?hg (N := 7) ?hd (cs := #[.int .i64 e, .bool f, .string v, .int .i64 n]) (t := 24) ?hr ?_; (case hd => rfl); (case hg => rfl); (case hr => first | (go_simp; done) | (go_simp; rfl)); intro gb hg wA hbox hb; have HBX := Aside0.mk hbox; have HB := Aside0.mk hb; have HG := Aside0.mk hg; clear hbox hb hg) | ((with_reducible refine gate_callee (f := 36) rfl ?_); fail))
  replace HI := Aside0.mk (HI.out.below HB.out)
  have HK := Aside0.mk (KeepBut.of_below HB.out g none)
  replace HW := Aside0.mk (below_step HW.out HB.out)
  clear HB
  refine (gleberef09_right.calls c s _ wA HRI.out).mono ?_
  rintro ed w1 ⟨rfl, hd⟩
  have hb := Drawn0.below hd
  replace HI := Aside0.mk (HI.out.below hb)
  replace HK := Aside0.mk (HK.out.trans (KeepBut.of_below hb g none) (.inl rfl))
  replace HW := Aside0.mk (below_step HW.out hb)
  replace HBX := Aside0.mk (blk_below HBX.out hb)
  clear hb hd
  rcases hz with rfl | rfl | hz
  · obtain rfl : EE = 1 := hE.symm.trans (if_pos rfl)
    obtain rfl : RR = R := hR.symm.trans (if_neg (by simp))
    have z0 : ((0 : Int) == 0) = true := rfl
    clear hE hR hin
    go_wp2
    go_ret
    exact ⟨rfl, HI.out, HW.out, HK.out⟩
  · have h0 := blk_cell HBX.out 0
    have h1 := blk_cell HBX.out 1
    have h2 := blk_cell HBX.out 2
    have h3 := blk_cell HBX.out 3
    go_wp2_with fail
    refine (gleberef07_RightAns.calls e f v n b _ HRA.out).mono ?_
    rintro ed wB ⟨rfl, hb⟩
    replace HI := Aside0.mk (HI.out.below hb)
    replace HK := Aside0.mk (HK.out.trans (KeepBut.of_below hb g none) (.inl rfl))
    replace HW := Aside0.mk (below_step HW.out hb)
    replace HBX := Aside0.mk (blk_below HBX.out hb)
    clear hb h0 h1 h2 h3
    cases b
    · obtain rfl : EE = 1 := hE.symm.trans (by simp)
      obtain rfl : RR = R := hR.symm.trans (if_neg (by simp))
      clear hE hR hin
      go_wp2
      go_ret
      exact ⟨rfl, HI.out, HW.out, HK.out⟩
    · obtain rfl : EE = 0 := hE.symm.trans (by simp)
      obtain rfl : RR = upd R m ⟨e, f, v, n, s⟩ := hR.symm.trans (if_pos (by simp))
      clear hE hR
      have hin := hin (by first | exact rfl | exact trivial)
      have hm : m < 8 := by omega
      obtain rfl : c = (m : Int) := by omega
      clear hin hcn
      go_wp2_with fail
      refine (HLK.out wB HI.out).mono ?_
      rintro ed wC ⟨rfl, hb⟩
      replace HI := Aside0.mk (HI.out.below hb)
      replace HK := Aside0.mk (HK.out.trans (KeepBut.of_below hb g none) (.inl rfl))
      replace HW := Aside0.mk (below_step HW.out hb)
      replace HBX := Aside0.mk (blk_below HBX.out hb)
      clear hb HLK
      obtain ⟨c0, c1, c2, c3, c4⟩ := HI.out.cells_ hm
      have f0 := blk_frozen HI.out.blk m
      have f1 := blk_frozen HI.out.blk (8 + m * 4)
      have f2 := blk_frozen HI.out.blk (8 + m * 4 + 1)
      have f3 := blk_frozen HI.out.blk (8 + m * 4 + 2)
      have f4 := blk_frozen HI.out.blk (8 + m * 4 + 3)
      have hml : (m : Int) < 8 := by omega
      go_wp2
      have hgg : gb ≠ g := blk_ne HBX.out HI.out.blk (by decide)
      have HBW := Aside0.mk (blk_set HI.out.blk m (.int .i64 s))
      have HBG := Aside0.mk (blk_far (p := ⟨g, m, none⟩) HBX.out hgg (.int .i64 s))
      have HWW := Aside0.mk (below_set (j := m) (v := .int .i64 s) HW.out HI.out.base)
      have HKW := Aside0.mk (HK.out.set_ m (.int .i64 s))
      have HP := Aside0.mk (IsRTab.put (r := ⟨e, f, v, n, s⟩) HI.out hm)
      clear c0 c1 c2 c3 c4 f0 f1 f2 f3 f4 HI HK HW HBX hgg
      dsimp only at HP
      generalize wC.setCell ⟨g, m, none⟩ (.int .i64 s) = W at HBW HBG HWW HKW HP ⊢
      have far : ∀ j : Nat, j ≠ m → W.cell? ⟨g, j, none⟩ = (rtabCells R)[j]? := fun j hj => (blk_cell HBW.out j).trans (Array.getElem?_setIfInBounds_ne (fun q => hj q.symm))
      obtain ⟨q0, q1, q2, q3, q4⟩ := rtab_cells R hm
      have c1 := (far (8 + m * 4) (by omega)).trans q1
      have c2 := (far (8 + m * 4 + 1) (by omega)).trans q2
      have c3 := (far (8 + m * 4 + 2) (by omega)).trans q3
      have c4 := (far (8 + m * 4 + 3) (by omega)).trans q4
      have f1 := blk_frozen HBW.out (8 + m * 4)
      have f2 := blk_frozen HBW.out (8 + m * 4 + 1)
      have f3 := blk_frozen HBW.out (8 + m * 4 + 2)
      have f4 := blk_frozen HBW.out (8 + m * 4 + 3)
      have e1 : W.drew.frozen? ⟨g, 8 + m * 4, none⟩ = false := f1
      have h0 := blk_cell HBG.out 0
      have h1 := blk_cell HBG.out 1
      have h2 := blk_cell HBG.out 2
      have h3 := blk_cell HBG.out 3
      clear far q0 q1 q2 q3 q4
      refine start_ (n := 7) (S := fun w' => w'.cell? ⟨gb, 0, none⟩ = some (.int .i64 e) ∧ w'.cell? ⟨gb, 1, none⟩ = some (.bool f) ∧ w'.cell? ⟨gb, 2, none⟩ = some (.string v) ∧ w'.cell? ⟨gb, 3, none⟩ = some (.int .i64 n)) (ds := [6]) #[false, false, false, false, false, false, false] (by kernel_rfl) rfl rfl ⟨h0, h1, h2, h3⟩ (fun hHeld => ?_)
      refine pure_ (i := 0) (N := some 29) (v := ?_) (a' := ?_) #[true, false, false, false, false, false, false] rfl rfl (by kernel_rfl) (fun _ _ _ h => h) (Or.inl ⟨by rfl, ?_⟩) ?_ ?_
      rotate_left
      · intro w'
        go_simp
        with_reducible rfl
      rotate_left
      · simp only [Act.put, List.setIfInBounds_toArray, List.set_cons_zero, List.set_cons_succ, i64_w, i32_w]
        rfl
      refine pure_ (i := 1) (N := some 30) (v := ?_) (a' := ?_) #[true, true, false, false, false, false, false] rfl rfl (by kernel_rfl) (fun _ _ _ h => h) (Or.inl ⟨by rfl, ?_⟩) ?_ ?_
      rotate_left
      · intro w'
        go_simp
        with_reducible rfl
      rotate_left
      · simp only [Act.put, List.setIfInBounds_toArray, List.set_cons_zero, List.set_cons_succ, i64_w, i32_w]
        rfl
      refine pure_ (i := 3) (N := some 32) (v := ?_) (a' := ?_) #[true, true, false, true, false, false, false] rfl rfl (by kernel_rfl) (fun _ _ _ h => h) (Or.inl ⟨by rfl, ?_⟩) ?_ ?_
      rotate_left
      · intro w'
        go_simp
        with_reducible rfl
      rotate_left
      · simp only [Act.put, List.setIfInBounds_toArray, List.set_cons_zero, List.set_cons_succ, i64_w, i32_w]
        rfl
      refine pure_ (i := 4) (N := some 33) (v := ?_) (a' := ?_) #[true, true, false, true, true, false, false] rfl rfl (by kernel_rfl) (fun _ _ _ h => h) (Or.inl ⟨by rfl, ?_⟩) ?_ ?_
      rotate_left
      · intro w'
        go_simp
        with_reducible rfl
      rotate_left
      · simp only [Act.put, List.setIfInBounds_toArray, List.set_cons_zero, List.set_cons_succ, i64_w, i32_w]
        rfl
      refine take_ (i := 2) (N := some 31) (v := ?_) (a' := ?_) #[true, true, true, true, true, false, false] rfl rfl (by kernel_rfl) (fun _ _ _ h => h) (Or.inl ⟨by rfl, ?_⟩) hHeld ?_ ?_
      rotate_left
      · rintro w' ⟨s0, s1, s2, s3⟩
        go_simp
        with_reducible rfl
      rotate_left
      · simp only [Act.put, List.setIfInBounds_toArray, List.set_cons_zero, List.set_cons_succ, i64_w, i32_w]
        rfl
      refine pure_ (i := 5) (N := some 34) (v := ?_) (a' := ?_) #[true, true, true, true, true, true, false] rfl rfl (by kernel_rfl) (fun _ _ _ h => h) (Or.inl ⟨by rfl, ?_⟩) ?_ ?_
      rotate_left
      · intro w'
        go_simp
        with_reducible rfl
      rotate_left
      · simp only [Act.put, List.setIfInBounds_toArray, List.set_cons_zero, List.set_cons_succ, i64_w, i32_w]
        rfl
      refine last_ (i := 6) (N := none) #[true, true, true, true, true, true, true] rfl rfl (by kernel_rfl) (by decide) (fun K hK => ?_)
      refine skip_ (w1 := ?_) (by rfl) rfl ?_ ?_
      rotate_left
      · go_simp
        rfl
      refine hK.out _ _ ?_
      clear hK K
      refine done_ (by kernel_rfl) ?_
      go_wp2
      go_ret
      exact ⟨rfl, ⟨HP.out.base, HP.out.blk⟩, below_drew (below_set (below_set (below_set (below_set HWW.out HP.out.base) HP.out.base) HP.out.base) HP.out.base), keep_drew ((((HKW.out.set_ _ _).set_ _ _).set_ _ _).set_ _ _)⟩
  · have z0 : (z == 0) = false := beq_eq_false_iff_ne.mpr (by omega)
    have z1 : (z != 1) = true := bne_iff_ne.mpr (by omega)
    obtain rfl : RR = R := hR.symm.trans (if_neg (by omega))
    have hE : (if b = false then (1 : Int) else 44) = EE := by rw [← hE, if_neg (show ¬ z = 0 by omega), if_neg (show ¬ z = 1 by omega)]
    have h0 := blk_cell HBX.out 0
    have h1 := blk_cell HBX.out 1
    have h2 := blk_cell HBX.out 2
    have h3 := blk_cell HBX.out 3
    clear hR hin hz
    go_wp2_with fail
    refine (gleberef07_RightAns.calls e f v n b _ HRA.out).mono ?_
    rintro ed wB ⟨rfl, hb⟩
    replace HI := Aside0.mk (HI.out.below hb)
    replace HK := Aside0.mk (HK.out.trans (KeepBut.of_below hb g none) (.inl rfl))
    replace HW := Aside0.mk (below_step HW.out hb)
    clear hb h0 h1 h2 h3
    cases b
    · obtain rfl : EE = 1 := hE.symm.trans (if_pos rfl)
      clear hE
      go_wp2
      go_ret
      exact ⟨rfl, HI.out, HW.out, HK.out⟩
    · obtain rfl : EE = 44 := hE.symm.trans (if_neg (by simp))
      clear hE
      go_wp2_with fail
      refine (HLK.out wB HI.out).mono ?_
      rintro ed wC ⟨rfl, hb⟩
      replace HI := Aside0.mk (HI.out.below hb)
      replace HK := Aside0.mk (HK.out.trans (KeepBut.of_below hb g none) (.inl rfl))
      replace HW := Aside0.mk (below_step HW.out hb)
      clear hb
      go_wp2
      go_ret
      exact ⟨rfl, HI.out, HW.out, HK.out⟩

end
section
open Go.RowKit Go.Proofs.YtlfnfgoocliecaaW.PrintWords Go.Proofs.YtlfnfgoocliecaaW.PrintLast Go.Proofs.YtlfnfgoocliecaaW.PrintMore
attribute [local go_sem] max2_int min2_int max_two min_two max_three min_three max_four min_four   -- for this text's walks alone
set_option linter.unusedVariables false
set_option linter.unusedSimpArgs false

--OWN Derived.RegionTactic,Derived.BigRegion,Derived.Laws.Rows,Derived.Laws.Tables
/-! ### session_Table_Clone: function 20 -/
theorem session_Table_Clone.dead {p : Option Addr} (w : World) (h : DeadT w p) :
    Calls Try.prog 20 #[.pointer p] w fun e w' => e = .returned (.pointer none) ∧ w = w' := by
  have H := Aside0.mk h
  clear h
  go_enter Try.func20, Try.ntmps20
  go_wp2_with fail
  refine (session_Table_none.dead w H.out).mono ?_
  rintro e w1 ⟨rfl, rfl⟩
  go_wp2
  go_ret
  exact ⟨rfl, rfl⟩
theorem tab_one (R : Nat → SRow) : (tabCells R).all (·.oneCell') = true := by simp [tabCells, Value.oneCell']
theorem row_below {w W : World} {g : Nat} (h : Below w.heap.size w W) (hg : w.heap.size ≤ g) (cs : Array Value) : Below w.heap.size w (W.setRow g cs) :=
  ⟨h.os, h.tape, h.output, by have := h.size; simp; omega, fun k hk => (setRow_other _ _ _ _ (by omega)).trans (h.block k hk)⟩
set_option maxHeartbeats 2000000 in
set_option maxRecDepth 100000 in
theorem session_Table_Clone.calls (g : Nat) (R : Nat → SRow) (w0 w : World) (hI : IsTab w0 w g R) :
    Calls Try.prog 20 #[.pointer (some ⟨g, 0, none⟩)] w fun e w' => ∃ g', e = .returned (.pointer (some ⟨g', 0, none⟩)) ∧ IsTab w w' g' R ∧ Below w.heap.size w w' := by
  have HI := Aside0.mk hI
  clear hI
  go_enter Try.func20, Try.ntmps20
  go_wp2_with fail
  refine (session_Table_none.calls g R w0 w HI.out).mono ?_
  rintro e w1 ⟨rfl, rfl⟩
  go_wp2_with (first | ((with_reducible refine gate_dst (N := 8) rfl ?_); refine wpList_load_row rfl 56 (.tmp 7) rfl g ?hx 56 (tabCells R) (0, 0) _ HI.out.blk Try.underlying56 rfl (by kernel_rfl) ?_; (case hx => rfl)) | ((with_reducible refine gate_dst (N := 3) rfl ?_); refine box_event ?hg (N := 3) ?hd (cs := #[.int .i64 0, .bool false, .string ⟨#[]⟩, .int .i64 0, .int .i64 0, .int .i64 0, .bool false, .string ⟨#[]⟩, .int .i64 0, .int .i64 0, .int .i64 0, .bool false, .string ⟨#[]⟩, .int .i64 0, .int .i64 0, .int .i64 0, .bool false, .string ⟨#[]⟩, .int .i64 0, .int .i64 0, .int .i64 0, .bool false, .string ⟨#[]⟩, .int .i64 0, .int .i64 0, .int .i64 0, .bool false, .string ⟨#[]⟩, .int .i64 0, .int .i64 0, .int .i64 0, .bool false, .string ⟨#[]⟩, .int .i64 0, .int .i64 0, .int .i64 0, .bool false, .string ⟨#[]⟩, .int .i64 0, .int .i64 0, .bool false]) (t := 56) ?hr ?_; (case hd => rfl); (case hg => rfl); (case hr => first | (go_simp; done) | (go_simp; rfl)); intro g3 hg w3 hbox hb; have HBXg3 := Aside0.mk hbox; have HBb := Aside0.mk hb; have HGg3 := Aside0.mk hg; clear hbox hb hg) | ((with_reducible refine gate_store (t := 56) (p := 3) rfl ?_); refine wpList_store_row rfl 56 (.tmp 3) (.tmp 8) rfl g3 (tabCells R) ?hx ?hy 56 _ HBXg3.out (by kernel_rfl) rfl (tab_one R) ?_; (case hx => rfl); (case hy => rfl)) | fail)
  go_ret
  refine ⟨g3, rfl, ⟨Nat.le_of_eq HGg3.out.symm, ?_⟩, row_below HBb.out (Nat.le_of_eq HGg3.out.symm) _⟩
  exact setRow_heap _ _ _ _ _ _ HBXg3.out

end
section
open Go.RowKit Go.Proofs.YtlfnfgoocliecaaW.PrintWords Go.Proofs.YtlfnfgoocliecaaW.PrintLast Go.Proofs.YtlfnfgoocliecaaW.PrintMore
attribute [local go_sem] max2_int min2_int max_two min_two max_three min_three max_four min_four   -- for this text's walks alone
set_option linter.unusedVariables false
set_option linter.unusedSimpArgs false

--OWN Derived.RegionTactic,Derived.BigRegion,Derived.Laws.Rows,Derived.Laws.Tables,Derived.Laws.Cells
/-! ### session_Table_Put: function 23 -/
theorem session_Table_Put.dead {p : Option Addr} (w : World) (h : DeadT w p) :
    Calls Try.prog 23 #[.pointer p] w fun e w' => e = .returned (.slice none 0 0) ∧ w = w' := by
  have H := Aside0.mk h
  clear h
  go_enter Try.func23, Try.ntmps23
  go_wp2_with fail
  refine (session_Table_none.dead w H.out).mono ?_
  rintro e w1 ⟨rfl, rfl⟩
  go_wp2
  go_ret
  exact ⟨rfl, rfl⟩
section
variable {P : Program}
theorem run_loadVar_pre (w : World) (g : Nat) (t ty : TypeId) (cs pre : Array Value) (fr : Nat × Nat) (d : TypeDesc) (hg : w.heap[g]? = some (.cells cs t fr)) (hp : ∀ (j : Nat) (v : Value), pre.toList[j]? = some v → cs[j]? = some v)
    (hu : P.underlying ty = some d) (hd : (match d with | .struct _ | .array _ _ => true | _ => false) = true) (hi : (P.info? ty).map (·.size) = some pre.size) :
    (loadVar ty ⟨g, 0, none⟩).run P w = .ok (.agg pre) w := by
  have hl : (loadCells ⟨g, 0, none⟩ pre.toList.length).run P w = .ok pre.toList.toArray w :=
    run_loadCells_list (P := P) w ⟨g, 0, none⟩ pre.toList (fun j v hv => by
      have hadd : (⟨g, 0, none⟩ : Addr).add j = ⟨g, j, none⟩ := by unfold Addr.add; split <;> simp_all
      rw [hadd, cell_of_row w g j cs t fr hg]
      exact hp j v hv)
  cases hq : P.info? ty with
  | none => simp [hq] at hi
  | some i =>
    have hs : i.size = pre.size := by simpa [hq] using hi
    have hagg : (isAgg ty).run P w = .ok true w := by
      unfold isAgg
      rw [Sem.run_bind, run_underlying hu w]
      cases d <;> simp_all
    simp only [Array.length_toList, Array.toArray_toList] at hl
    simp [loadVar, Sem.run_bind, hagg, sizeOf, typeInfo, hq, hs, hl]
theorem wp_load_pre {o : Oper} {a : Act} {w : World} {K : Act → World → Prop} {Q : Exit → Act → World → Prop} (ty : TypeId) (x : Operand) (ho : o.op = .load ty x)
    (g : Nat) (hx : a.eval x = .pointer (some ⟨g, 0, none⟩)) (t : TypeId) (cs pre : Array Value) (fr : Nat × Nat) (d : TypeDesc) (hg : w.heap[g]? = some (.cells cs t fr)) (hp : ∀ (j : Nat) (v : Value), pre.toList[j]? = some v → cs[j]? = some v)
    (hu : P.underlying ty = some d) (hd : (match d with | .struct _ | .array _ _ => true | _ => false) = true) (hi : (P.info? ty).map (·.size) = some pre.size)
    (h : K (a.put o.dst (.agg pre)) w) : o.wp P a w K Q := by
  unfold Oper.wp execOp
  simp only [ho, hx, Instr.loadAt, Instr.sureAddr, Sem.run_bind, Sem.run_pure, Result.andThen_ok, run_loadVar_pre w g t ty cs pre fr d hg hp hu hd hi]
  exact h
theorem wpList_load_pre {ops : Array Oper} {rest : List Oper} {o : Oper} {a : Act} {w : World} {Q : Exit → Act → World → Prop} (hgd : o.guard = none) (ty : TypeId) (x : Operand) (ho : o.op = .load ty x)
    (g : Nat) (hx : a.eval x = .pointer (some ⟨g, 0, none⟩)) (t : TypeId) (cs pre : Array Value) (fr : Nat × Nat) (d : TypeDesc) (hg : w.heap[g]? = some (.cells cs t fr)) (hp : ∀ (j : Nat) (v : Value), pre.toList[j]? = some v → cs[j]? = some v)
    (hu : P.underlying ty = some d) (hd : (match d with | .struct _ | .array _ _ => true | _ => false) = true) (hi : (P.info? ty).map (·.size) = some pre.size)
    (h : wpList P ops Q rest (a.put o.dst (.agg pre)) w) : wpList P ops Q (o :: rest) a w :=
  wpList_plain hgd fun _ hK => wp_load_pre ty x ho g hx t cs pre fr d hg hp hu hd hi (hK _ _ h)
end
def preCells (R : Nat → SRow) : Array Value := #[.int .i64 (R 0).e, .bool (R 0).f, .string (R 0).v, .int .i64 (R 0).n, .int .i64 (R 0).q, .int .i64 (R 1).e, .bool (R 1).f, .string (R 1).v, .int .i64 (R 1).n, .int .i64 (R 1).q, .int .i64 (R 2).e, .bool (R 2).f, .string (R 2).v, .int .i64 (R 2).n, .int .i64 (R 2).q, .int .i64 (R 3).e, .bool (R 3).f, .string (R 3).v, .int .i64 (R 3).n, .int .i64 (R 3).q, .int .i64 (R 4).e, .bool (R 4).f, .string (R 4).v, .int .i64 (R 4).n, .int .i64 (R 4).q, .int .i64 (R 5).e, .bool (R 5).f, .string (R 5).v, .int .i64 (R 5).n, .int .i64 (R 5).q, .int .i64 (R 6).e, .bool (R 6).f, .string (R 6).v, .int .i64 (R 6).n, .int .i64 (R 6).q, .int .i64 (R 7).e, .bool (R 7).f, .string (R 7).v, .int .i64 (R 7).n, .int .i64 (R 7).q]
theorem pre_tab (R : Nat → SRow) : ∀ (j : Nat) (v : Value), (preCells R).toList[j]? = some v → (tabCells R)[j]? = some v := by
  intro j v h
  have hl : tabCells R = ((preCells R).toList ++ [Value.bool true]).toArray := rfl
  rw [hl, List.getElem?_toArray, List.getElem?_append_left]
  · exact h
  · rcases Nat.lt_or_ge j (preCells R).toList.length with q | q
    · exact q
    · rw [List.getElem?_eq_none q] at h
      cases h
set_option maxRecDepth 100000 in
theorem pre_index (R : Nat → SRow) {j : Nat} (hj : j < 8) : ∀ W : World, (Instr.index 54 (.agg (preCells R)) (.int .i64 (j : Int))).run Try.prog W = .ok (.agg #[.int .i64 (R j).e, .bool (R j).f, .string (R j).v, .int .i64 (R j).n, .int .i64 (R j).q]) W := by
  intro W
  rcases lt8 hj with rfl | rfl | rfl | rfl | rfl | rfl | rfl | rfl <;> rfl
theorem set5 {W : World} {g : Nat} {t : TypeId} {a0 a1 a2 a3 a4 : Value} (h : W.heap[g]? = some (.cells #[a0, a1, a2, a3, a4] t (0, 0))) (b0 b1 b2 b3 b4 : Value) : (((((W.setCell ⟨g, 0, none⟩ b0).setCell ⟨g, 1, none⟩ b1).setCell ⟨g, 2, none⟩ b2).setCell ⟨g, 3, none⟩ b3).setCell ⟨g, 4, none⟩ b4).heap[g]? = some (.cells #[b0, b1, b2, b3, b4] t (0, 0)) := (blk_put (blk_put (blk_put (blk_put (blk_put h 0 b0 rfl) 1 b1 rfl) 2 b2 rfl) 3 b3 rfl) 4 b4 rfl)
theorem below5 {w W : World} {g : Nat} (h : Below w.heap.size w W) (hg : w.heap.size ≤ g) (b0 b1 b2 b3 b4 : Value) : Below w.heap.size w (((((W.setCell ⟨g, 0, none⟩ b0).setCell ⟨g, 1, none⟩ b1).setCell ⟨g, 2, none⟩ b2).setCell ⟨g, 3, none⟩ b3).setCell ⟨g, 4, none⟩ b4) := (below_set (below_set (below_set (below_set (below_set h hg) hg) hg) hg) hg)
theorem pre4 (r : SRow) : ∀ (j : Nat) (v : Value), (#[.int .i64 r.e, .bool r.f, .string r.v, .int .i64 r.n] : Array Value).toList[j]? = some v → (#[.int .i64 r.e, .bool r.f, .string r.v, .int .i64 r.n, .int .i64 r.q] : Array Value)[j]? = some v := by
  intro j v h
  rcases j with _ | _ | _ | _ | j
  · exact h
  · exact h
  · exact h
  · exact h
  · simp at h
/-- A table's bytes: the rows' numbers and answers. -/
def putTo (R : Nat → SRow) (X Y : Nat → List Int) : Nat → List Int
  | 0 => []
  | j + 1 => putTo R X Y j ++ X j ++ (if 0 < (R j).q then Y j else [])
theorem putTo_le (R : Nat → SRow) (X Y : Nat → List Int) (j : Nat) : ∀ m, j ≤ m → (putTo R X Y j).length ≤ (putTo R X Y m).length
  | 0, h => by obtain rfl : j = 0 := by omega
               exact Nat.le_refl _
  | m + 1, h => by
    by_cases c : j = m + 1
    · subst c; exact Nat.le_refl _
    · have := putTo_le R X Y j m (by omega)
      simp only [putTo, List.length_append]
      omega
theorem putTo_yes {R : Nat → SRow} {X Y : Nat → List Int} {j : Nat} (h : 0 < (R j).q) : putTo R X Y (j + 1) = (putTo R X Y j ++ X j) ++ Y j := by simp only [putTo, if_pos h]
theorem putTo_no {R : Nat → SRow} {X Y : Nat → List Int} {j : Nat} (h : ¬ 0 < (R j).q) : putTo R X Y (j + 1) = putTo R X Y j ++ X j := by simp only [putTo, if_neg h, List.append_nil]
theorem putTo_len1 {R : Nat → SRow} {X Y : Nat → List Int} {j : Nat} : (putTo R X Y j ++ X j).length ≤ (putTo R X Y (j + 1)).length := by
  simp only [putTo, List.length_append]
  omega
set_option maxHeartbeats 8000000 in
set_option maxRecDepth 100000 in
theorem session_Table_Put.calls (k g : Nat) (R : Nat → SRow) (X Y : Nat → List Int) (E : Nat → Int) (w0 w : World) (hI : IsTab w0 w g R) (hX : ∀ i, i < 8 → wire_Num.f k (R i).q = some (X i, E i)) (hY : ∀ i, i < 8 → 0 < (R i).q → ∀ W : World, Calls Try.prog 43 #[.agg #[.int .i64 (R i).e, .bool (R i).f, .string (R i).v, .int .i64 (R i).n]] W fun e w' => ∃ (v : Value) (c : Int), e = .returned (.tuple #[v, .int .i64 c]) ∧ (Kd.int .u8).R 5 w' W.heap.size (fun _ => True) v (Y i) ∧ Below W.heap.size W w') (hL : (putTo R X Y 8).length ≤ 140737488355328) :
    Calls Try.prog 23 #[.pointer (some ⟨g, 0, none⟩)] w fun e w' => ∃ v, e = .returned v ∧ (Kd.int .u8).R 5 w' w.heap.size (fun _ => True) v (putTo R X Y 8) ∧ Below w.heap.size w w' := by
  have HI := Aside0.mk hI
  have HX_ := Aside0.mk hX
  have HY_ := Aside0.mk hY
  have HL_ := Aside0.mk hL
  have HGL := Aside0.mk (blk_lt hI.blk)
  clear hI hX hY hL
  go_enter Try.func23, Try.ntmps23
  go_wp2_with fail
  refine (session_Table_none.calls g R w0 w HI.out).mono ?_
  rintro e w1 ⟨rfl, rfl⟩
  go_wp2_with (first | ((with_reducible refine gate_dst (N := 15) rfl ?_); refine wpList_load_pre rfl 54 (.tmp 14) rfl g ?hx 56 (tabCells R) (preCells R) (0, 0) _ HI.out.blk (pre_tab R) Try.underlying54 rfl (by kernel_rfl) ?_; (case hx => rfl)) | fail)
  go_loopw [16, 3] (fun i b wr => ∃ j : Nat, j ≤ 8 ∧ i = .int .i64 j ∧ Aside0 ((Kd.int .u8).R 5 wr w.heap.size (fun _ => True) b (putTo R X Y j)) ∧ Aside0 (Below w.heap.size w wr)) (fun i _ _ => 8 - (intOf i).toNat)
  case atStart => exact ⟨0, by omega, rfl, ⟨Kd.R_nil _ _ _ _ _⟩, ⟨Below.refl _ _⟩⟩
  case round =>
    obtain ⟨j, hj, rfl, HBR, HB⟩ := hrel
    by_cases hlt : j < 8
    · have hlt2 : decide ((j : Int) < 8) = true := decide_eq_true (by omega)
      have hlt3 : (j : Int) < 8 := by omega
      have hix := pre_index R hlt
      have HN := Aside0.mk (HX_.out j hlt)
      have HPA := Aside0.mk (HY_.out j hlt)
      have hyes := @putTo_yes R X Y j
      have hno := @putTo_no R X Y j
      have hl1 := @putTo_len1 R X Y j
      have hl2 := putTo_le R X Y (j + 1) 8 (by omega)
      have HLN := Aside0.mk (show (putTo R X Y (j + 1)).length ≤ 140737488355328 by have := HL_.out; omega)
      have HL1 := Aside0.mk (show (putTo R X Y j ++ X j).length ≤ 140737488355328 by have := HL_.out; omega)
      clear hl1 hl2
      generalize R j = r at hix HN HPA hyes hno
      generalize preCells R = PC at hix ⊢
      generalize hLN : putTo R X Y (j + 1) = LN at HLN hyes hno
      generalize hLJ : putTo R X Y j = LJ at HBR HL1 hyes hno
      generalize X j = xj at HN HL1 hyes hno
      generalize E j = ej at HN
      generalize Y j = yj at HPA hyes
      obtain ⟨A0, c0, rfl⟩ := Kd.R_slice HBR.out
      go_wp2_with (first | ((with_reducible refine gate_dst (N := 5) rfl ?_); refine box_event ?hg (N := 5) ?hd (cs := #[.int .i64 0, .bool false, .string ⟨#[]⟩, .int .i64 0, .int .i64 0]) (t := 53) ?hr ?_; (case hd => rfl); (case hg => rfl); (case hr => first | (go_simp; done) | (go_simp; rfl)); intro g7 hg w7 hbox hb; have HBXg7 := Aside0.mk hbox; have HBb := Aside0.mk hb; have HGg7 := Aside0.mk hg; have h0 := blk_cell hbox 0; have f0 := blk_frozen hbox 0; have h1 := blk_cell hbox 1; have f1 := blk_frozen hbox 1; have h2 := blk_cell hbox 2; have f2 := blk_frozen hbox 2; have h3 := blk_cell hbox 3; have f3 := blk_frozen hbox 3; have h4 := blk_cell hbox 4; have f4 := blk_frozen hbox 4; clear hbox hb hg) | fail)
      have hbx := below5 HBb.out (Nat.le_of_eq HGg7.out.symm) (.int .i64 r.e) (.bool r.f) (.string r.v) (.int .i64 r.n) (.int .i64 r.q)
      have HA7 := Aside0.mk (set5 HBXg7.out (.int .i64 r.e) (.bool r.f) (.string r.v) (.int .i64 r.n) (.int .i64 r.q))
      replace HBR := Aside0.mk (Kd.R_below HBR.out hbx)
      replace HB := Aside0.mk (below_step HB.out hbx)
      generalize (((((w7.setCell ⟨g7, 0, none⟩ (.int .i64 r.e)).setCell ⟨g7, 1, none⟩ (.bool r.f)).setCell ⟨g7, 2, none⟩ (.string r.v)).setCell ⟨g7, 3, none⟩ (.int .i64 r.n)).setCell ⟨g7, 4, none⟩ (.int .i64 r.q)) = W at HA7 HBR HB ⊢
      clear hbx HBb HBXg7 HGg7 h0 h1 h2 h3 h4 f0 f1 f2 f3 f4
      have c4 := blk_cell HA7.out 4
      try go_wp2_with fail
      refine (wire_Num.calls k r.q _ _ _ HN.out).mono ?_
      rintro e wN ⟨v, rfl, ho, hb⟩
      obtain ⟨A2, c2, rfl⟩ := Kd.R_slice ho
      replace HBR := Aside0.mk (Kd.R_below HBR.out hb)
      replace HA7 := Aside0.mk (blk_below HA7.out hb)
      replace HB := Aside0.mk (below_then HB.out (below_size HB.out) hb)
      have HV := Aside0.mk (Kd.R_reads' ho).2.2
      have HLA := Aside0.mk (show (LJ.length + xj.length) * 1 ≤ 140737488355328 by have := HL1.out; rw [List.length_append] at this; omega)
      clear ho hb
      clear c4
      have c4 := blk_cell HA7.out 4
      by_cases hq : 0 < r.q
      · have d1 : decide (0 < r.q) = true := decide_eq_true hq
        have hy := hyes hq
        have HP := Aside0.mk (HPA.out hq)
        clear hq hyes hno HPA
        go_wp2_with (first | ((with_reducible refine gate_builtin (b := .append) (xs := #[.tmp 25, .tmp 26]) rfl ?_); at_builtin; refine Kd.R_append_rows (Kd.int .u8) (w0 := w) w.heap.size rfl (.tmp 25) (.tmp 26) 49 5 (.int .u8 0) 1 rfl Try.underlying49 info5 rfl (by decide) (by omega) _ LJ xj _ _ _ (fun _ => True) (fun _ => False) rfl rfl ?aO ?aR (fun _ _ h => h) (fun _ h => h.elim) ?aF ?aB ?aS ?aL ?_; (case aR => exact HV.out); (case aB => exact HB.out); (case aF => exact (fun _ _ => trivial)); (case aO => exact HBR.out); (case aS => exact (below_size HB.out)); (case aL => exact HLA.out); intro v3 w3 ho hb hg hat; have hb3 := blk_grown HA7.out hg (Kd.R_ne HBR.out HA7.out (by decide)); have HA3 := Aside0.mk hb3; have c43 := blk_cell hb3 4; have q0 : w3.cell? ⟨g7, 0, none⟩ = some (.int .i64 r.e) := blk_cell hb3 0; have q1 : w3.cell? ⟨g7, 1, none⟩ = some (.bool r.f) := blk_cell hb3 1; have q2 : w3.cell? ⟨g7, 2, none⟩ = some (.string r.v) := blk_cell hb3 2; have q3 : w3.cell? ⟨g7, 3, none⟩ = some (.int .i64 r.n) := blk_cell hb3 3; have HR3 := Aside0.mk ho; have HB3 := Aside0.mk hb; clear hb3; clear ho hb hg hat) | fail)
        clear c4 HBR HB HV HA7
        refine (HP.out _).mono ?_
        rintro e wP ⟨v, c, rfl, ho, hb⟩
        obtain ⟨A4, c4, rfl⟩ := Kd.R_slice ho
        have HBR := Aside0.mk (Kd.R_below HR3.out hb)
        have HB := Aside0.mk (below_then HB3.out (below_size HB3.out) hb)
        have HV := Aside0.mk (Kd.R_reads' ho).2.2
        have HLB := Aside0.mk (show ((LJ ++ xj).length + yj.length) * 1 ≤ 140737488355328 by have := HLN.out; rw [hy] at this; simp only [List.length_append] at this ⊢; omega)
        clear ho hb q0 q1 q2 q3 c43
        go_wp2_with (first | ((with_reducible refine gate_builtin (b := .append) (xs := #[.tmp 37, .tmp 38]) rfl ?_); at_builtin; refine Kd.R_append_rows (Kd.int .u8) (w0 := w) w.heap.size rfl (.tmp 37) (.tmp 38) 49 5 (.int .u8 0) 1 rfl Try.underlying49 info5 rfl (by decide) (by omega) _ (LJ ++ xj) yj _ _ _ (fun _ => True) (fun _ => False) rfl rfl ?aO ?aR (fun _ _ h => h) (fun _ h => h.elim) ?aF ?aB ?aS ?aL ?_; (case aR => exact HV.out); (case aB => exact HB.out); (case aF => exact (fun _ _ => trivial)); (case aO => exact HBR.out); (case aS => exact (below_size HB.out)); (case aL => exact HLB.out); intro v3 w3 ho hb hg hat; have HR4 := Aside0.mk ho; have HB4 := Aside0.mk hb; clear ho hb hg hat) | fail)
        go_roundw
        case rel => exact ⟨j + 1, by omega, by go_num, ⟨by rw [hLN, hy]; exact HR4.out⟩, HB4⟩
        case measure => simp [intOf]; omega
      · have d1 : decide (0 < r.q) = false := decide_eq_false hq
        have hn := hno (by first | exact hq | omega)
        clear hq hyes hno HPA
        go_wp2_with (first | ((with_reducible refine gate_builtin (b := .append) (xs := #[.tmp 25, .tmp 26]) rfl ?_); at_builtin; refine Kd.R_append_rows (Kd.int .u8) (w0 := w) w.heap.size rfl (.tmp 25) (.tmp 26) 49 5 (.int .u8 0) 1 rfl Try.underlying49 info5 rfl (by decide) (by omega) _ LJ xj _ _ _ (fun _ => True) (fun _ => False) rfl rfl ?aO ?aR (fun _ _ h => h) (fun _ h => h.elim) ?aF ?aB ?aS ?aL ?_; (case aR => exact HV.out); (case aB => exact HB.out); (case aF => exact (fun _ _ => trivial)); (case aO => exact HBR.out); (case aS => exact (below_size HB.out)); (case aL => exact HLA.out); intro v3 w3 ho hb hg hat; have hb3 := blk_grown HA7.out hg (Kd.R_ne HBR.out HA7.out (by decide)); have HA3 := Aside0.mk hb3; have c43 := blk_cell hb3 4; have q0 : w3.cell? ⟨g7, 0, none⟩ = some (.int .i64 r.e) := blk_cell hb3 0; have q1 : w3.cell? ⟨g7, 1, none⟩ = some (.bool r.f) := blk_cell hb3 1; have q2 : w3.cell? ⟨g7, 2, none⟩ = some (.string r.v) := blk_cell hb3 2; have q3 : w3.cell? ⟨g7, 3, none⟩ = some (.int .i64 r.n) := blk_cell hb3 3; have HR3 := Aside0.mk ho; have HB3 := Aside0.mk hb; clear hb3; clear ho hb hg hat) | fail)
        go_roundw
        case rel => exact ⟨j + 1, by omega, by go_num, ⟨by rw [hLN, hn]; exact HR3.out⟩, HB3⟩
        case measure => simp [intOf]; omega
    · obtain rfl : j = 8 := by omega
      have hlt2 : decide (((8 : Nat) : Int) < 8) = false := decide_eq_false (by omega)
      obtain ⟨A0, c0, rfl⟩ := Kd.R_slice HBR.out
      go_wp2
      go_ret
      exact ⟨_, rfl, HBR.out, HB.out⟩

end
section
open Go.RowKit Go.Proofs.YtlfnfgoocliecaaW.PrintWords Go.Proofs.YtlfnfgoocliecaaW.PrintLast Go.Proofs.YtlfnfgoocliecaaW.PrintMore
attribute [local go_sem] max2_int min2_int max_two min_two max_three min_three max_four min_four   -- for this text's walks alone
set_option linter.unusedVariables false
set_option linter.unusedSimpArgs false

--OWN Derived.RegionTactic,Derived.BigRegion,Derived.Laws.Rows,Derived.Laws.Tables,Derived.Laws.Cells
/-! ### session_Table_Join: function 18 -/
def session_Table_Join.T7 : Bool × List (List Nat × List Nat) := (true, [([], []), ([0], [0]), ([], []), ([], []), ([2], [2]), ([4], [4]), ([5, 3], [3, 5]), ([6], [6]), ([7], [7]), ([1, 8], [1, 8])])
def session_Table_Join.B7 : List Nat := [0, 1, 0, 0, 4, 20, 60, 124, 252, 511]
theorem session_Table_Join.tab7 : rtab .any (opsOf Try.f18 7) = session_Table_Join.T7 := by kernel_rfl
theorem session_Table_Join.bits7 : waitsOk session_Table_Join.T7.2 session_Table_Join.B7 = true := by kernel_rfl
theorem session_Table_Join.dead1 {p q : Option Addr} (w : World) (h : DeadT w p) :
    Calls Try.prog 18 #[.pointer p, .pointer q] w fun e w' => e = .returned (.pointer none) ∧ w = w' := by
  have H := Aside0.mk h
  clear h
  go_enter Try.func18, Try.ntmps18
  go_wp2_with fail
  refine (session_Table_none.dead w H.out).mono ?_
  rintro e w1 ⟨rfl, rfl⟩
  go_wp2
  go_ret
  exact ⟨rfl, rfl⟩
theorem session_Table_Join.dead2 {q : Option Addr} (g : Nat) (R : Nat → SRow) (w0 w : World) (hI : IsTab w0 w g R) (h : DeadT w q) :
    Calls Try.prog 18 #[.pointer (some ⟨g, 0, none⟩), .pointer q] w fun e w' => e = .returned (.pointer none) ∧ w = w' := by
  have H := Aside0.mk h
  have HI := Aside0.mk hI
  clear h hI
  go_enter Try.func18, Try.ntmps18
  go_wp2_with fail
  refine (session_Table_none.calls g R w0 w HI.out).mono ?_
  rintro e w1 ⟨rfl, rfl⟩
  go_wp2_with fail
  refine (session_Table_none.dead w H.out).mono ?_
  rintro e w1 ⟨rfl, rfl⟩
  go_wp2
  go_ret
  exact ⟨rfl, rfl⟩
/-! LIVE -/
def joinUp (R1 R2 : Nat → SRow) (j : Nat) : Nat → SRow := fun i => if i < j then (if (R1 i).q < (R2 i).q then R2 i else R1 i) else R1 i
theorem joinUp_at (R1 R2 : Nat → SRow) (j : Nat) : joinUp R1 R2 j j = R1 j := if_neg (by omega)
theorem joinUp_yes {R1 R2 : Nat → SRow} {j : Nat} (h : (R1 j).q < (R2 j).q) : upd (joinUp R1 R2 j) j (R2 j) = joinUp R1 R2 (j + 1) := by
  funext i
  unfold upd joinUp
  by_cases c : i = j
  · subst c
    rw [if_pos rfl, if_pos (show i < i + 1 by omega), if_pos h]
  · rw [if_neg c]
    by_cases c2 : i < j
    · rw [if_pos c2, if_pos (show i < j + 1 by omega)]
    · rw [if_neg c2, if_neg (show ¬ i < j + 1 by omega)]
theorem joinUp_no {R1 R2 : Nat → SRow} {j : Nat} (h : ¬ (R1 j).q < (R2 j).q) : joinUp R1 R2 j = joinUp R1 R2 (j + 1) := by
  funext i
  unfold joinUp
  by_cases c : i = j
  · subst c
    rw [if_neg (show ¬ i < i by omega), if_pos (show i < i + 1 by omega), if_neg h]
  · by_cases c2 : i < j
    · rw [if_pos c2, if_pos (show i < j + 1 by omega)]
    · rw [if_neg c2, if_neg (show ¬ i < j + 1 by omega)]
theorem joinUp_zero (R1 R2 : Nat → SRow) : R1 = joinUp R1 R2 0 := by
  funext i
  unfold joinUp
  rw [if_neg (by omega)]
set_option maxHeartbeats 4000000 in
set_option maxRecDepth 100000 in
theorem session_Table_Join.calls (g1 g2 : Nat) (R1 R2 : Nat → SRow) (w0 w : World) (hI1 : IsTab w0 w g1 R1) (hI2 : IsTab w0 w g2 R2) :
    Calls Try.prog 18 #[.pointer (some ⟨g1, 0, none⟩), .pointer (some ⟨g2, 0, none⟩)] w fun e w' => ∃ g', e = .returned (.pointer (some ⟨g', 0, none⟩)) ∧ IsTab w w' g' (joinUp R1 R2 8) ∧ Below w.heap.size w w' := by
  have HI1 := Aside0.mk hI1
  have HI2 := Aside0.mk hI2
  clear hI1 hI2
  go_enter Try.func18, Try.ntmps18
  go_wp2_with fail
  refine (session_Table_none.calls g1 R1 w0 w HI1.out).mono ?_
  rintro e w1 ⟨rfl, rfl⟩
  go_wp2_with fail
  refine (session_Table_none.calls g2 R2 w0 w HI2.out).mono ?_
  rintro e w1 ⟨rfl, rfl⟩
  go_wp2_with fail
  refine (session_Table_Clone.calls g1 R1 w0 w HI1.out).mono ?_
  rintro e w2 ⟨g, rfl, hI, hb⟩
  have HT := Aside0.mk (show IsTab w w2 g (joinUp R1 R2 0) by rw [← joinUp_zero]; exact hI)
  have HBJ := Aside0.mk hb
  replace HI2 := Aside0.mk (HI2.out.below hb)
  clear hI hb HI1
  go_wp2_with (first | ((with_reducible refine gate_dst (N := 19) rfl ?_); refine wpList_load_pre rfl 54 (.tmp 18) rfl g2 ?hx 56 (tabCells R2) (preCells R2) (0, 0) _ HI2.out.blk (pre_tab R2) Try.underlying54 rfl (by kernel_rfl) ?_; (case hx => rfl)) | fail)
  go_loopw [20] (fun i wr => ∃ j : Nat, j ≤ 8 ∧ i = .int .i64 j ∧ Aside0 (IsTab w wr g (joinUp R1 R2 j)) ∧ Aside0 (Below w.heap.size w wr)) (fun i _ => 8 - (intOf i).toNat)
  case atStart => exact ⟨0, by omega, rfl, HT, HBJ⟩
  case round =>
    obtain ⟨j, hj, rfl, HTJ, HBK⟩ := hrel
    clear HT HBJ HI2
    by_cases hlt : j < 8
    · have hlt2 : decide ((j : Int) < 8) = true := decide_eq_true (by omega)
      have hlt3 : (j : Int) < 8 := by omega
      have hix := pre_index R2 hlt
      have hq : (joinUp R1 R2 j j) = R1 j := joinUp_at R1 R2 j
      have hyes := @joinUp_yes R1 R2 j
      have hno := @joinUp_no R1 R2 j
      generalize R2 j = r at hix hyes hno
      generalize preCells R2 = PC at hix ⊢
      go_wp2_with (first | ((with_reducible refine gate_dst (N := 7) rfl ?_); refine box_event ?hg (N := 7) ?hd (cs := #[.int .i64 0, .bool false, .string ⟨#[]⟩, .int .i64 0, .int .i64 0]) (t := 53) ?hr ?_; (case hd => rfl); (case hg => rfl); (case hr => first | (go_simp; done) | (go_simp; rfl)); intro g7 hg w7 hbox hb; have HBXg7 := Aside0.mk hbox; have HBb := Aside0.mk hb; have HGg7 := Aside0.mk hg; have h0 := blk_cell hbox 0; have f0 := blk_frozen hbox 0; have h1 := blk_cell hbox 1; have f1 := blk_frozen hbox 1; have h2 := blk_cell hbox 2; have f2 := blk_frozen hbox 2; have h3 := blk_cell hbox 3; have f3 := blk_frozen hbox 3; have h4 := blk_cell hbox 4; have f4 := blk_frozen hbox 4; clear hbox hb hg) | fail)
      have hbx := below5 HBb.out (Nat.le_of_eq HGg7.out.symm) (.int .i64 r.e) (.bool r.f) (.string r.v) (.int .i64 r.n) (.int .i64 r.q)
      have HA7 := Aside0.mk (set5 HBXg7.out (.int .i64 r.e) (.bool r.f) (.string r.v) (.int .i64 r.n) (.int .i64 r.q))
      have HT := Aside0.mk (HTJ.out.below hbx)
      have HBJ := Aside0.mk (below_step HBK.out hbx)
      generalize (((((w7.setCell ⟨g7, 0, none⟩ (.int .i64 r.e)).setCell ⟨g7, 1, none⟩ (.bool r.f)).setCell ⟨g7, 2, none⟩ (.string r.v)).setCell ⟨g7, 3, none⟩ (.int .i64 r.n)).setCell ⟨g7, 4, none⟩ (.int .i64 r.q)) = W at HA7 HT HBJ ⊢
      have HTW := HT
      replace HA7 := Aside0.mk (blk_drew HA7.out)
      replace HT := Aside0.mk (HT.out.below (below_drew (Below.refl _ _)))
      replace HBJ := Aside0.mk (below_drew HBJ.out)
      clear hbx HBb HBXg7 HGg7 h0 h1 h2 h3 h4 f0 f1 f2 f3 f4 HTJ HBK
      have c4 := (HT.out.cells_ hlt).2.2.2.2
      rw [hq] at c4
      have HC4 := Aside0.mk c4
      clear c4
      by_cases hc : (R1 j).q < r.q
      · have d1 : decide ((R1 j).q < r.q) = true := decide_eq_true hc
        have hy := hyes hc
        clear hno hyes hc
        refine start_ (n := 10) (S := fun w' => w'.cell? ⟨g7, 4, none⟩ = some (.int .i64 r.q) ∧ w'.cell? ⟨g, j * 5 + 4, none⟩ = some (.int .i64 (R1 j).q)) (ds := []) #[false, false, false, false, false, false, false, false, false, false] (by kernel_rfl) rfl rfl ⟨(blk_cell HA7.out 4), HC4.out⟩ (fun hHeld => ?_)
        refine with_tabW session_Table_Join.tab7 session_Table_Join.bits7 (fun HT_ HW_ => ?_)
        refine pure_ (i := 0) (N := some 24) (v := ?_) (a' := ?_) #[true, false, false, false, false, false, false, false, false, false] rfl rfl (any_of HT_.out (by kernel_rfl)) (fun _ _ _ h => h) (Or.inl ⟨by rfl, ?_⟩) ?_ ?_
        rotate_left
        · intro w'
          go_simp
          with_reducible rfl
        rotate_left
        · simp only [Act.put, List.setIfInBounds_toArray, List.set_cons_zero, List.set_cons_succ, i64_w, i32_w]
          rfl
        refine pure_ (i := 2) (N := some 26) (v := ?_) (a' := ?_) #[true, false, true, false, false, false, false, false, false, false] rfl rfl (any_of HT_.out (by kernel_rfl)) (fun _ _ _ h => h) (Or.inl ⟨by rfl, ?_⟩) ?_ ?_
        rotate_left
        · intro w'
          go_simp
          with_reducible rfl
        rotate_left
        · simp only [Act.put, List.setIfInBounds_toArray, List.set_cons_zero, List.set_cons_succ, i64_w, i32_w]
          rfl
        refine pure_ (i := 3) (N := some 27) (v := ?_) (a' := ?_) #[true, false, true, true, false, false, false, false, false, false] rfl rfl (any_of HT_.out (by kernel_rfl)) (fun _ _ _ h => h) (Or.inl ⟨by rfl, ?_⟩) ?_ ?_
        rotate_left
        · intro w'
          go_simp
          with_reducible rfl
        rotate_left
        · simp only [Act.put, List.setIfInBounds_toArray, List.set_cons_zero, List.set_cons_succ, i64_w, i32_w]
          rfl
        refine pure_ (i := 4) (N := some 28) (v := ?_) (a' := ?_) #[true, false, true, true, true, false, false, false, false, false] rfl rfl (any_of HT_.out (by kernel_rfl)) (fun _ _ _ h => h) (Or.inl ⟨by rfl, ?_⟩) ?_ ?_
        rotate_left
        · intro w'
          go_simp
          with_reducible rfl
        rotate_left
        · simp only [Act.put, List.setIfInBounds_toArray, List.set_cons_zero, List.set_cons_succ, i64_w, i32_w]
          rfl
        refine pure_ (i := 5) (N := some 29) (v := ?_) (a' := ?_) #[true, false, true, true, true, true, false, false, false, false] rfl rfl (any_of HT_.out (by kernel_rfl)) (fun _ _ _ h => h) (Or.inl ⟨by rfl, ?_⟩) ?_ ?_
        rotate_left
        · intro w'
          go_simp
          with_reducible rfl
        rotate_left
        · simp only [Act.put, List.setIfInBounds_toArray, List.set_cons_zero, List.set_cons_succ, i64_w, i32_w]
          rfl
        refine pure_ (i := 6) (N := some 30) (v := ?_) (a' := ?_) #[true, false, true, true, true, true, true, false, false, false] rfl rfl (any_of HT_.out (by kernel_rfl)) (fun _ _ _ h => h) (Or.inl ⟨by rfl, ?_⟩) ?_ ?_
        rotate_left
        · intro w'
          go_simp
          with_reducible rfl
        rotate_left
        · simp only [Act.put, List.setIfInBounds_toArray, List.set_cons_zero, List.set_cons_succ, i64_w, i32_w]
          rfl
        refine pure_ (i := 7) (N := some 31) (v := ?_) (a' := ?_) #[true, false, true, true, true, true, true, true, false, false] rfl rfl (any_of HT_.out (by kernel_rfl)) (fun _ _ _ h => h) (Or.inl ⟨by rfl, ?_⟩) ?_ ?_
        rotate_left
        · intro w'
          go_simp
          with_reducible rfl
        rotate_left
        · simp only [Act.put, List.setIfInBounds_toArray, List.set_cons_zero, List.set_cons_succ, i64_w, i32_w]
          rfl
        refine take_ (i := 1) (N := some 25) (v := ?_) (a' := ?_) #[true, true, true, true, true, true, true, true, false, false] rfl rfl (take_ofW HT_.out HW_.out (by kernel_rfl)) (fun _ _ _ h => h) (Or.inl ⟨by rfl, ?_⟩) hHeld ?_ ?_
        rotate_left
        · rintro w' ⟨s0, s1⟩
          go_simp
          with_reducible rfl
        rotate_left
        · simp only [Act.put, List.setIfInBounds_toArray, List.set_cons_zero, List.set_cons_succ, i64_w, i32_w]
          rfl
        refine take_ (i := 8) (N := some 32) (v := ?_) (a' := ?_) #[true, true, true, true, true, true, true, true, true, false] rfl rfl (take_ofW HT_.out HW_.out (by kernel_rfl)) (fun _ _ _ h => h) (Or.inl ⟨by rfl, ?_⟩) hHeld ?_ ?_
        rotate_left
        · rintro w' ⟨s0, s1⟩
          go_simp
          with_reducible rfl
        rotate_left
        · simp only [Act.put, List.setIfInBounds_toArray, List.set_cons_zero, List.set_cons_succ, i64_w, i32_w]
          rfl
        refine pure_ (i := 9) (N := some 33) (v := ?_) (a' := ?_) #[true, true, true, true, true, true, true, true, true, true] rfl rfl (any_of HT_.out (by kernel_rfl)) (fun _ _ _ h => h) (Or.inl ⟨by rfl, ?_⟩) ?_ ?_
        rotate_left
        · intro w'
          go_simp
          with_reducible rfl
        rotate_left
        · simp only [Act.put, List.setIfInBounds_toArray, List.set_cons_zero, List.set_cons_succ, i64_w, i32_w]
          rfl
        refine done_ (done_of HT_.out (by kernel_rfl)) ?_
        go_wp2_with fail
        have f0 := blk_frozen HTW.out.blk (j * 5)
        have f1 := blk_frozen HTW.out.blk (j * 5 + 1)
        have f2 := blk_frozen HTW.out.blk (j * 5 + 2)
        have f3 := blk_frozen HTW.out.blk (j * 5 + 3)
        have f4 := blk_frozen HTW.out.blk (j * 5 + 4)
        have e0 := blk_frozen (blk_drew HT.out.blk) (j * 5)
        obtain ⟨c0, c1, c2, c3, c4⟩ := HTW.out.cells_ hlt
        replace HA7 := Aside0.mk (blk_drew HA7.out)
        refine start_ (n := 7) (S := fun w' => w'.cell? ⟨g7, 0, none⟩ = some (.int .i64 r.e) ∧ w'.cell? ⟨g7, 1, none⟩ = some (.bool r.f) ∧ w'.cell? ⟨g7, 2, none⟩ = some (.string r.v) ∧ w'.cell? ⟨g7, 3, none⟩ = some (.int .i64 r.n) ∧ w'.cell? ⟨g7, 4, none⟩ = some (.int .i64 r.q)) (ds := [6]) #[false, false, false, false, false, false, false] (by kernel_rfl) rfl rfl ⟨(blk_cell HA7.out 0), (blk_cell HA7.out 1), (blk_cell HA7.out 2), (blk_cell HA7.out 3), (blk_cell HA7.out 4)⟩ (fun hHeld => ?_)
        refine pure_ (i := 0) (N := some 34) (v := ?_) (a' := ?_) #[true, false, false, false, false, false, false] rfl rfl (by kernel_rfl) (fun _ _ _ h => h) (Or.inl ⟨by rfl, ?_⟩) ?_ ?_
        rotate_left
        · intro w'
          go_simp
          with_reducible rfl
        rotate_left
        · simp only [Act.put, List.setIfInBounds_toArray, List.set_cons_zero, List.set_cons_succ, i64_w, i32_w]
          rfl
        refine pure_ (i := 1) (N := some 35) (v := ?_) (a' := ?_) #[true, true, false, false, false, false, false] rfl rfl (by kernel_rfl) (fun _ _ _ h => h) (Or.inl ⟨by rfl, ?_⟩) ?_ ?_
        rotate_left
        · intro w'
          go_simp
          with_reducible rfl
        rotate_left
        · simp only [Act.put, List.setIfInBounds_toArray, List.set_cons_zero, List.set_cons_succ, i64_w, i32_w]
          rfl
        refine pure_ (i := 3) (N := some 37) (v := ?_) (a' := ?_) #[true, true, false, true, false, false, false] rfl rfl (by kernel_rfl) (fun _ _ _ h => h) (Or.inl ⟨by rfl, ?_⟩) ?_ ?_
        rotate_left
        · intro w'
          go_simp
          with_reducible rfl
        rotate_left
        · simp only [Act.put, List.setIfInBounds_toArray, List.set_cons_zero, List.set_cons_succ, i64_w, i32_w]
          rfl
        refine pure_ (i := 4) (N := some 38) (v := ?_) (a' := ?_) #[true, true, false, true, true, false, false] rfl rfl (by kernel_rfl) (fun _ _ _ h => h) (Or.inl ⟨by rfl, ?_⟩) ?_ ?_
        rotate_left
        · intro w'
          go_simp
          with_reducible rfl
        rotate_left
        · simp only [Act.put, List.setIfInBounds_toArray, List.set_cons_zero, List.set_cons_succ, i64_w, i32_w]
          rfl
        refine take_ (i := 2) (N := some 36) (v := ?_) (a' := ?_) #[true, true, true, true, true, false, false] rfl rfl (by kernel_rfl) (fun _ _ _ h => h) (Or.inl ⟨by rfl, ?_⟩) hHeld ?_ ?_
        rotate_left
        · rintro w' ⟨s0, s1, s2, s3, s4⟩
          go_simp
          with_reducible rfl
        rotate_left
        · simp only [Act.put, List.setIfInBounds_toArray, List.set_cons_zero, List.set_cons_succ, i64_w, i32_w]
          rfl
        refine pure_ (i := 5) (N := some 39) (v := ?_) (a' := ?_) #[true, true, true, true, true, true, false] rfl rfl (by kernel_rfl) (fun _ _ _ h => h) (Or.inl ⟨by rfl, ?_⟩) ?_ ?_
        rotate_left
        · intro w'
          go_simp
          with_reducible rfl
        rotate_left
        · simp only [Act.put, List.setIfInBounds_toArray, List.set_cons_zero, List.set_cons_succ, i64_w, i32_w]
          rfl
        refine last_ (i := 6) (N := none) #[true, true, true, true, true, true, true] rfl rfl (by kernel_rfl) (by decide) (fun K hK => ?_)
        refine skip_ (w1 := ?_) (by rfl) rfl ?_ ?_
        rotate_left
        · go_simp
          rfl
        refine hK.out _ _ ?_
        clear hK K
        refine done_ (by kernel_rfl) ?_
        go_wp2
        go_roundw
        case rel =>
          have HP := IsTab.put (r := r) HT.out hlt
          rw [hy] at HP
          exact ⟨j + 1, by omega, by go_num, ⟨⟨HP.base, HP.blk⟩⟩, ⟨below_drew (below_put HBJ.out HT.out.base (j * 5) _ _ _ _ _)⟩⟩
        case measure => simp [intOf]; omega
      · have d1 : decide ((R1 j).q < r.q) = false := decide_eq_false hc
        have hn := hno (by first | exact hc | omega)
        clear hno hyes hc
        refine start_ (n := 10) (S := fun w' => w'.cell? ⟨g7, 4, none⟩ = some (.int .i64 r.q) ∧ w'.cell? ⟨g, j * 5 + 4, none⟩ = some (.int .i64 (R1 j).q)) (ds := []) #[false, false, false, false, false, false, false, false, false, false] (by kernel_rfl) rfl rfl ⟨(blk_cell HA7.out 4), HC4.out⟩ (fun hHeld => ?_)
        refine with_tabW session_Table_Join.tab7 session_Table_Join.bits7 (fun HT_ HW_ => ?_)
        refine pure_ (i := 0) (N := some 24) (v := ?_) (a' := ?_) #[true, false, false, false, false, false, false, false, false, false] rfl rfl (any_of HT_.out (by kernel_rfl)) (fun _ _ _ h => h) (Or.inl ⟨by rfl, ?_⟩) ?_ ?_
        rotate_left
        · intro w'
          go_simp
          with_reducible rfl
        rotate_left
        · simp only [Act.put, List.setIfInBounds_toArray, List.set_cons_zero, List.set_cons_succ, i64_w, i32_w]
          rfl
        refine pure_ (i := 2) (N := some 26) (v := ?_) (a' := ?_) #[true, false, true, false, false, false, false, false, false, false] rfl rfl (any_of HT_.out (by kernel_rfl)) (fun _ _ _ h => h) (Or.inl ⟨by rfl, ?_⟩) ?_ ?_
        rotate_left
        · intro w'
          go_simp
          with_reducible rfl
        rotate_left
        · simp only [Act.put, List.setIfInBounds_toArray, List.set_cons_zero, List.set_cons_succ, i64_w, i32_w]
          rfl
        refine pure_ (i := 3) (N := some 27) (v := ?_) (a' := ?_) #[true, false, true, true, false, false, false, false, false, false] rfl rfl (any_of HT_.out (by kernel_rfl)) (fun _ _ _ h => h) (Or.inl ⟨by rfl, ?_⟩) ?_ ?_
        rotate_left
        · intro w'
          go_simp
          with_reducible rfl
        rotate_left
        · simp only [Act.put, List.setIfInBounds_toArray, List.set_cons_zero, List.set_cons_succ, i64_w, i32_w]
          rfl
        refine pure_ (i := 4) (N := some 28) (v := ?_) (a' := ?_) #[true, false, true, true, true, false, false, false, false, false] rfl rfl (any_of HT_.out (by kernel_rfl)) (fun _ _ _ h => h) (Or.inl ⟨by rfl, ?_⟩) ?_ ?_
        rotate_left
        · intro w'
          go_simp
          with_reducible rfl
        rotate_left
        · simp only [Act.put, List.setIfInBounds_toArray, List.set_cons_zero, List.set_cons_succ, i64_w, i32_w]
          rfl
        refine pure_ (i := 5) (N := some 29) (v := ?_) (a' := ?_) #[true, false, true, true, true, true, false, false, false, false] rfl rfl (any_of HT_.out (by kernel_rfl)) (fun _ _ _ h => h) (Or.inl ⟨by rfl, ?_⟩) ?_ ?_
        rotate_left
        · intro w'
          go_simp
          with_reducible rfl
        rotate_left
        · simp only [Act.put, List.setIfInBounds_toArray, List.set_cons_zero, List.set_cons_succ, i64_w, i32_w]
          rfl
        refine pure_ (i := 6) (N := some 30) (v := ?_) (a' := ?_) #[true, false, true, true, true, true, true, false, false, false] rfl rfl (any_of HT_.out (by kernel_rfl)) (fun _ _ _ h => h) (Or.inl ⟨by rfl, ?_⟩) ?_ ?_
        rotate_left
        · intro w'
          go_simp
          with_reducible rfl
        rotate_left
        · simp only [Act.put, List.setIfInBounds_toArray, List.set_cons_zero, List.set_cons_succ, i64_w, i32_w]
          rfl
        refine pure_ (i := 7) (N := some 31) (v := ?_) (a' := ?_) #[true, false, true, true, true, true, true, true, false, false] rfl rfl (any_of HT_.out (by kernel_rfl)) (fun _ _ _ h => h) (Or.inl ⟨by rfl, ?_⟩) ?_ ?_
        rotate_left
        · intro w'
          go_simp
          with_reducible rfl
        rotate_left
        · simp only [Act.put, List.setIfInBounds_toArray, List.set_cons_zero, List.set_cons_succ, i64_w, i32_w]
          rfl
        refine take_ (i := 1) (N := some 25) (v := ?_) (a' := ?_) #[true, true, true, true, true, true, true, true, false, false] rfl rfl (take_ofW HT_.out HW_.out (by kernel_rfl)) (fun _ _ _ h => h) (Or.inl ⟨by rfl, ?_⟩) hHeld ?_ ?_
        rotate_left
        · rintro w' ⟨s0, s1⟩
          go_simp
          with_reducible rfl
        rotate_left
        · simp only [Act.put, List.setIfInBounds_toArray, List.set_cons_zero, List.set_cons_succ, i64_w, i32_w]
          rfl
        refine take_ (i := 8) (N := some 32) (v := ?_) (a' := ?_) #[true, true, true, true, true, true, true, true, true, false] rfl rfl (take_ofW HT_.out HW_.out (by kernel_rfl)) (fun _ _ _ h => h) (Or.inl ⟨by rfl, ?_⟩) hHeld ?_ ?_
        rotate_left
        · rintro w' ⟨s0, s1⟩
          go_simp
          with_reducible rfl
        rotate_left
        · simp only [Act.put, List.setIfInBounds_toArray, List.set_cons_zero, List.set_cons_succ, i64_w, i32_w]
          rfl
        refine pure_ (i := 9) (N := some 33) (v := ?_) (a' := ?_) #[true, true, true, true, true, true, true, true, true, true] rfl rfl (any_of HT_.out (by kernel_rfl)) (fun _ _ _ h => h) (Or.inl ⟨by rfl, ?_⟩) ?_ ?_
        rotate_left
        · intro w'
          go_simp
          with_reducible rfl
        rotate_left
        · simp only [Act.put, List.setIfInBounds_toArray, List.set_cons_zero, List.set_cons_succ, i64_w, i32_w]
          rfl
        refine done_ (done_of HT_.out (by kernel_rfl)) ?_
        go_wp2
        go_roundw
        case rel => exact ⟨j + 1, by omega, by go_num, ⟨by rw [← hn]; exact HT.out⟩, HBJ⟩
        case measure => simp [intOf]; omega
    · obtain rfl : j = 8 := by omega
      have hlt2 : decide (((8 : Nat) : Int) < 8) = false := decide_eq_false (by omega)
      go_wp2
      go_ret
      exact ⟨g, rfl, HTJ.out, HBK.out⟩

end
section
open Go.RowKit Go.Proofs.YtlfnfgoocliecaaW.PrintWords Go.Proofs.YtlfnfgoocliecaaW.PrintLast Go.Proofs.YtlfnfgoocliecaaW.PrintMore
attribute [local go_sem] max2_int min2_int max_two min_two max_three min_three max_four min_four   -- for this text's walks alone
set_option linter.unusedVariables false
set_option linter.unusedSimpArgs false

--OWN Derived.RegionTactic,Derived.BigRegion,Derived.Laws.Rows
/-! ### gleberef09_Table_Last: function 40 -/
def gleberef09_Table_Last.T3 : Bool × List (List Nat × List Nat) := (true, [([], []), ([], []), ([0], [0]), ([2], [2]), ([3, 1], [1, 3]), ([4], [4]), ([], []), ([], []), ([6], [6]), ([8], [8]), ([9, 7], [7, 9]), ([10], [10]), ([5, 0, 1, 2, 3, 4, 5], [5]), ([11, 12, 0, 1, 2, 3, 4, 5, 6, 7, 8, 9, 10, 11, 12], [11])])
def gleberef09_Table_Last.B3 : List Nat := [0, 0, 1, 5, 15, 31, 0, 0, 64, 320, 960, 1984, 63, 8191]
theorem gleberef09_Table_Last.tab3 : rtab .any (opsOf Try.f40 3) = gleberef09_Table_Last.T3 := by kernel_rfl
theorem gleberef09_Table_Last.bits3 : waitsOk gleberef09_Table_Last.T3.2 gleberef09_Table_Last.B3 = true := by kernel_rfl
set_option maxHeartbeats 4000000 in
set_option maxRecDepth 100000 in
theorem gleberef09_Table_Last.calls (g : Nat) (R : Nat → SRow) (c : Int) (w0 w : World) (hI : IsRTab w0 w g R) :
    Calls Try.prog 40 #[.pointer (some ⟨g, 0, none⟩), .int .i64 c] w fun e w' => e = .returned (.tuple #[.int .i64 (tLast R c).q, (tLast R c).ans]) ∧ IsRTab w0 w' g R ∧ Below w.heap.size w w' := by
  have HI := Aside0.mk hI
  clear hI
  unfold tLast SRow.ans
  by_cases hc : 0 ≤ c ∧ c < 8
  rotate_left
  · rw [if_neg hc]
    rcases (show c < 0 ∨ (¬ c < 0 ∧ 8 ≤ c) by omega) with x | ⟨x, y⟩
    focus
      have x1 : decide (c < 0) = true := decide_eq_true x
      clear hc x
      go_enter Try.func40, Try.ntmps40
      go_wp2_with (first | ((with_reducible refine gate_dst (N := 5) rfl ?_); refine box_event ?hg (N := 5) ?hd (cs := #[.int .i64 0, .bool false, .string ⟨#[]⟩, .int .i64 0]) (t := 24) ?hr ?_; (case hd => rfl); (case hg => rfl); (case hr => first | (go_simp; done) | (go_simp; rfl)); intro gb hg wA hbox hb; have HBX := Aside0.mk hbox; have HB := Aside0.mk hb; have HG := Aside0.mk hg; have h0 := blk_cell hbox 0; have h1 := blk_cell hbox 1; have h2 := blk_cell hbox 2; have h3 := blk_cell hbox 3; have f0 := blk_frozen hbox 0; have f1 := blk_frozen hbox 1; have f2 := blk_frozen hbox 2; have f3 := blk_frozen hbox 3; clear hbox hb hg) | fail)
      refine bodyPost_ret (results_tc rfl _ _ gb 24 #[.int .i64 0, .bool false, .string ⟨#[]⟩, .int .i64 0] (0, 0) _ rfl (set4 HBX.out _ _ _ _) Try.underlying24 rfl (by kernel_rfl)) rfl ?_
      have hb4 := below4 HB.out (Nat.le_of_eq HG.out.symm) (.int .i64 0) (.bool false) (.string ⟨#[]⟩) (.int .i64 0)
      exact ⟨rfl, HI.out.below hb4, hb4⟩
    have x1 : decide (c < 0) = false := decide_eq_false x
    have x2 : decide (8 ≤ c) = true := decide_eq_true y
    clear hc x y
    go_enter Try.func40, Try.ntmps40
    go_wp2_with (first | ((with_reducible refine gate_dst (N := 5) rfl ?_); refine box_event ?hg (N := 5) ?hd (cs := #[.int .i64 0, .bool false, .string ⟨#[]⟩, .int .i64 0]) (t := 24) ?hr ?_; (case hd => rfl); (case hg => rfl); (case hr => first | (go_simp; done) | (go_simp; rfl)); intro gb hg wA hbox hb; have HBX := Aside0.mk hbox; have HB := Aside0.mk hb; have HG := Aside0.mk hg; have h0 := blk_cell hbox 0; have h1 := blk_cell hbox 1; have h2 := blk_cell hbox 2; have h3 := blk_cell hbox 3; have f0 := blk_frozen hbox 0; have f1 := blk_frozen hbox 1; have f2 := blk_frozen hbox 2; have f3 := blk_frozen hbox 3; clear hbox hb hg) | fail)
    refine bodyPost_ret (results_tc rfl _ _ gb 24 #[.int .i64 0, .bool false, .string ⟨#[]⟩, .int .i64 0] (0, 0) _ rfl (set4 HBX.out _ _ _ _) Try.underlying24 rfl (by kernel_rfl)) rfl ?_
    have hb4 := below4 HB.out (Nat.le_of_eq HG.out.symm) (.int .i64 0) (.bool false) (.string ⟨#[]⟩) (.int .i64 0)
    exact ⟨rfl, HI.out.below hb4, hb4⟩
  · rw [if_pos hc]
    obtain ⟨n, rfl⟩ := Int.eq_ofNat_of_zero_le hc.1
    rw [Int.toNat_natCast]
    have hn : n < 8 := by omega
    have x1 : decide ((n : Int) < 0) = false := decide_eq_false (by omega)
    have x2 : decide (8 ≤ (n : Int)) = false := decide_eq_false (by omega)
    have x3 : (n : Int) < 8 := by omega
    clear hc
    go_enter Try.func40, Try.ntmps40
    go_wp2_with (first | ((with_reducible refine gate_dst (N := 5) rfl ?_); refine box_event ?hg (N := 5) ?hd (cs := #[.int .i64 0, .bool false, .string ⟨#[]⟩, .int .i64 0]) (t := 24) ?hr ?_; (case hd => rfl); (case hg => rfl); (case hr => first | (go_simp; done) | (go_simp; rfl)); intro gb hg wA hbox hb; have HBX := Aside0.mk hbox; have HB := Aside0.mk hb; have HG := Aside0.mk hg; have h0 := blk_cell hbox 0; have h1 := blk_cell hbox 1; have h2 := blk_cell hbox 2; have h3 := blk_cell hbox 3; have f0 := blk_frozen hbox 0; have f1 := blk_frozen hbox 1; have f2 := blk_frozen hbox 2; have f3 := blk_frozen hbox 3; clear hbox hb hg) | fail)
    clear h0 h1 h2 h3 f0 f1 f2 f3
    have HI2 := Aside0.mk (HI.out.below HB.out)
    have h0 := blk_cell HBX.out 0
    have h1 := blk_cell HBX.out 1
    have h2 := blk_cell HBX.out 2
    have h3 := blk_cell HBX.out 3
    have f0 := blk_frozen HBX.out 0
    have f1 := blk_frozen HBX.out 1
    have f2 := blk_frozen HBX.out 2
    have f3 := blk_frozen HBX.out 3
    replace HBX := Aside0.mk (blk_drew HBX.out)
    have e0 := blk_frozen HBX.out 0
    have e1 := blk_frozen HBX.out 1
    have e2 := blk_frozen HBX.out 2
    have e3 := blk_frozen HBX.out 3
    obtain ⟨c4, c0, c1, c2, c3⟩ := HI2.out.cells_ hn
    replace HB := Aside0.mk (below_drew HB.out)
    refine start_ (n := 14) (S := fun w' => w'.cell? ⟨g, n, none⟩ = some (.int .i64 (R n).q) ∧ w'.cell? ⟨g, 8 + n * 4, none⟩ = some (.int .i64 (R n).e) ∧ w'.cell? ⟨g, 8 + n * 4 + 1, none⟩ = some (.bool (R n).f) ∧ w'.cell? ⟨g, 8 + n * 4 + 2, none⟩ = some (.string (R n).v) ∧ w'.cell? ⟨g, 8 + n * 4 + 3, none⟩ = some (.int .i64 (R n).n)) (ds := [13]) #[false, false, false, false, false, false, false, false, false, false, false, false, false, false] (by kernel_rfl) rfl rfl ⟨c4, c0, c1, c2, c3⟩ (fun hHeld => ?_)
    refine with_tabW gleberef09_Table_Last.tab3 gleberef09_Table_Last.bits3 (fun HT_ HW_ => ?_)
    refine pure_ (i := 0) (N := some 13) (v := ?_) (a' := ?_) #[true, false, false, false, false, false, false, false, false, false, false, false, false, false] rfl rfl (any_of HT_.out (by kernel_rfl)) (fun _ _ _ h => h) (Or.inl ⟨by rfl, ?_⟩) ?_ ?_
    rotate_left
    · intro w'
      go_simp
      with_reducible rfl
    rotate_left
    · simp only [Act.put, List.setIfInBounds_toArray, List.set_cons_zero, List.set_cons_succ, i64_w, i32_w]
      rfl
    refine pure_ (i := 1) (N := some 14) (v := ?_) (a' := ?_) #[true, true, false, false, false, false, false, false, false, false, false, false, false, false] rfl rfl (any_of HT_.out (by kernel_rfl)) (fun _ _ _ h => h) (Or.inl ⟨by rfl, ?_⟩) ?_ ?_
    rotate_left
    · intro w'
      go_simp
      with_reducible rfl
    rotate_left
    · simp only [Act.put, List.setIfInBounds_toArray, List.set_cons_zero, List.set_cons_succ, i64_w, i32_w]
      rfl
    refine pure_ (i := 2) (N := some 15) (v := ?_) (a' := ?_) #[true, true, true, false, false, false, false, false, false, false, false, false, false, false] rfl rfl (any_of HT_.out (by kernel_rfl)) (fun _ _ _ h => h) (Or.inl ⟨by rfl, ?_⟩) ?_ ?_
    rotate_left
    · intro w'
      go_simp
      with_reducible rfl
    rotate_left
    · simp only [Act.put, List.setIfInBounds_toArray, List.set_cons_zero, List.set_cons_succ, i64_w, i32_w]
      rfl
    refine pure_ (i := 3) (N := some 16) (v := ?_) (a' := ?_) #[true, true, true, true, false, false, false, false, false, false, false, false, false, false] rfl rfl (any_of HT_.out (by kernel_rfl)) (fun _ _ _ h => h) (Or.inl ⟨by rfl, ?_⟩) ?_ ?_
    rotate_left
    · intro w'
      go_simp
      with_reducible rfl
    rotate_left
    · simp only [Act.put, List.setIfInBounds_toArray, List.set_cons_zero, List.set_cons_succ, i64_w, i32_w]
      rfl
    refine pure_ (i := 4) (N := some 17) (v := ?_) (a' := ?_) #[true, true, true, true, true, false, false, false, false, false, false, false, false, false] rfl rfl (any_of HT_.out (by kernel_rfl)) (fun _ _ _ h => h) (Or.inl ⟨by rfl, ?_⟩) ?_ ?_
    rotate_left
    · intro w'
      go_simp
      with_reducible rfl
    rotate_left
    · simp only [Act.put, List.setIfInBounds_toArray, List.set_cons_zero, List.set_cons_succ, i64_w, i32_w]
      rfl
    refine pure_ (i := 6) (N := some 19) (v := ?_) (a' := ?_) #[true, true, true, true, true, false, true, false, false, false, false, false, false, false] rfl rfl (any_of HT_.out (by kernel_rfl)) (fun _ _ _ h => h) (Or.inl ⟨by rfl, ?_⟩) ?_ ?_
    rotate_left
    · intro w'
      go_simp
      with_reducible rfl
    rotate_left
    · simp only [Act.put, List.setIfInBounds_toArray, List.set_cons_zero, List.set_cons_succ, i64_w, i32_w]
      rfl
    refine pure_ (i := 7) (N := some 20) (v := ?_) (a' := ?_) #[true, true, true, true, true, false, true, true, false, false, false, false, false, false] rfl rfl (any_of HT_.out (by kernel_rfl)) (fun _ _ _ h => h) (Or.inl ⟨by rfl, ?_⟩) ?_ ?_
    rotate_left
    · intro w'
      go_simp
      with_reducible rfl
    rotate_left
    · simp only [Act.put, List.setIfInBounds_toArray, List.set_cons_zero, List.set_cons_succ, i64_w, i32_w]
      rfl
    refine pure_ (i := 8) (N := some 21) (v := ?_) (a' := ?_) #[true, true, true, true, true, false, true, true, true, false, false, false, false, false] rfl rfl (any_of HT_.out (by kernel_rfl)) (fun _ _ _ h => h) (Or.inl ⟨by rfl, ?_⟩) ?_ ?_
    rotate_left
    · intro w'
      go_simp
      with_reducible rfl
    rotate_left
    · simp only [Act.put, List.setIfInBounds_toArray, List.set_cons_zero, List.set_cons_succ, i64_w, i32_w]
      rfl
    refine pure_ (i := 9) (N := some 22) (v := ?_) (a' := ?_) #[true, true, true, true, true, false, true, true, true, true, false, false, false, false] rfl rfl (any_of HT_.out (by kernel_rfl)) (fun _ _ _ h => h) (Or.inl ⟨by rfl, ?_⟩) ?_ ?_
    rotate_left
    · intro w'
      go_simp
      with_reducible rfl
    rotate_left
    · simp only [Act.put, List.setIfInBounds_toArray, List.set_cons_zero, List.set_cons_succ, i64_w, i32_w]
      rfl
    refine pure_ (i := 10) (N := some 23) (v := ?_) (a' := ?_) #[true, true, true, true, true, false, true, true, true, true, true, false, false, false] rfl rfl (any_of HT_.out (by kernel_rfl)) (fun _ _ _ h => h) (Or.inl ⟨by rfl, ?_⟩) ?_ ?_
    rotate_left
    · intro w'
      go_simp
      with_reducible rfl
    rotate_left
    · simp only [Act.put, List.setIfInBounds_toArray, List.set_cons_zero, List.set_cons_succ, i64_w, i32_w]
      rfl
    refine take_ (i := 5) (N := some 18) (v := ?_) (a' := ?_) #[true, true, true, true, true, true, true, true, true, true, true, false, false, false] rfl rfl (take_ofW HT_.out HW_.out (by kernel_rfl)) (fun _ _ _ h => h) (Or.inl ⟨by rfl, ?_⟩) hHeld ?_ ?_
    rotate_left
    · rintro w' ⟨s0, s1, s2, s3, s4⟩
      go_simp
      with_reducible rfl
    rotate_left
    · simp only [Act.put, List.setIfInBounds_toArray, List.set_cons_zero, List.set_cons_succ, i64_w, i32_w]
      rfl
    refine pure_ (i := 12) (N := some 4) (v := ?_) (a' := ?_) #[true, true, true, true, true, true, true, true, true, true, true, false, true, false] rfl rfl (any_of HT_.out (by kernel_rfl)) (fun _ _ _ h => h) (Or.inl ⟨by rfl, ?_⟩) ?_ ?_
    rotate_left
    · intro w'
      go_simp
      with_reducible rfl
    rotate_left
    · simp only [Act.put, List.setIfInBounds_toArray, List.set_cons_zero, List.set_cons_succ, i64_w, i32_w]
      rfl
    refine take_ (i := 11) (N := some 24) (v := ?_) (a' := ?_) #[true, true, true, true, true, true, true, true, true, true, true, true, true, false] rfl rfl (take_ofW HT_.out HW_.out (by kernel_rfl)) (fun _ _ _ h => h) (Or.inl ⟨by rfl, ?_⟩) hHeld ?_ ?_
    rotate_left
    · rintro w' ⟨s0, s1, s2, s3, s4⟩
      go_simp
      with_reducible rfl
    rotate_left
    · simp only [Act.put, List.setIfInBounds_toArray, List.set_cons_zero, List.set_cons_succ, i64_w, i32_w]
      rfl
    refine last_ (i := 13) (N := none) #[true, true, true, true, true, true, true, true, true, true, true, true, true, true] rfl rfl (one_of HT_.out (by kernel_rfl)) (by decide) (fun K hK => ?_)
    refine skip_ (w1 := ?_) (by rfl) rfl ?_ ?_
    rotate_left
    · go_simp
      rfl
    refine hK.out _ _ ?_
    clear hK K
    refine done_ (done_of HT_.out (by kernel_rfl)) ?_
    go_wp2
    refine bodyPost_ret (results_tc rfl _ _ gb 24 #[.int .i64 (R n).e, .bool (R n).f, .string (R n).v, .int .i64 (R n).n] (0, 0) _ rfl (set4 HBX.out _ _ _ _) Try.underlying24 rfl (by kernel_rfl)) rfl ?_
    have hb4 := below4 HB.out (Nat.le_of_eq HG.out.symm) (.int .i64 (R n).e) (.bool (R n).f) (.string (R n).v) (.int .i64 (R n).n)
    exact ⟨rfl, HI.out.below hb4, hb4⟩

end
end Go.Proofs.Ytlfnfgoocliecaa.PN
