-- Written by a program of this session (wip/tools/hp.py) over the kit's print; nothing here is trusted: Lean checks it.
import Derived.RegionTactic
import Derived.BigRegion
import Derived.Deep.DeepCutAuto
import Derived.Test.YtampppdjfbabiaaEntBack
import Derived.Test.YtampppdjfbabiaaPEx0
import Derived.Test.YtampppdjfbabiaaPEx1
import Derived.Test.YtampppdjfbabiaaPEx3
import Derived.Test.YtampppdjfbabiaaPEx5
namespace Go.Proofs.Ytampppdjfbabiaa.PE
open Go.RowKit Go.Proofs.YtampppdjfbabiaaW.PrintWords Go.Proofs.YtampppdjfbabiaaW.PrintLast Go.Proofs.YtampppdjfbabiaaW.PrintMore
attribute [local go_sem] max2_int min2_int max_two min_two max_three min_three max_four min_four   -- for this text's walks alone
set_option linter.unusedVariables false
set_option linter.unusedSimpArgs false

--OWN Derived.RegionTactic,Derived.BigRegion,Derived.Deep.DeepCutAuto,Derived.Test.YtampppdjfbabiaaEntBack
/-! ### glebelaw11_EntryBack: function 6 -/
def glebelaw11_EntryBack.T6 : Bool × List (List Nat × List Nat) := (true, [([], []), ([0], [0]), ([], []), ([2, 1], [2]), ([1, 3, 3], [1, 3]), ([4], [4]), ([5, 4], [5]), ([6], [6]), ([7, 6, 6], [6, 7]), ([6], [6]), ([9, 6], [6, 9]), ([8, 10, 6], [6, 8, 10]), ([6, 11], [6, 11])])
def glebelaw11_EntryBack.B6 : List Nat := [0, 1, 0, 7, 15, 31, 63, 127, 255, 127, 639, 2047, 4095]
theorem glebelaw11_EntryBack.tab6 : rtab .any (opsOf Try.f6 6) = glebelaw11_EntryBack.T6 := by kernel_rfl
theorem glebelaw11_EntryBack.bits6 : waitsOk glebelaw11_EntryBack.T6.2 glebelaw11_EntryBack.B6 = true := by kernel_rfl
def glebelaw11_EntryBack.T10 : Bool × List (List Nat × List Nat) := (true, [([], []), ([0], [0]), ([1, 1], [1]), ([2], [2]), ([3, 2], [3]), ([4], [4]), ([5, 4, 4], [4, 5]), ([6, 4], [4, 6]), ([7, 6, 4], [4, 7]), ([8], [8]), ([9, 8, 8], [8, 9]), ([8], [8]), ([11, 8], [8, 11]), ([10, 12, 8], [8, 10, 12]), ([8, 13, 4], [4, 8, 13]), ([14, 10, 4], [4, 14]), ([15], [15]), ([16, 15], [15, 16]), ([15], [15]), ([15], [15]), ([19, 15], [15, 19]), ([15], [15]), ([21, 15, 15], [15, 21]), ([20, 22, 15], [15, 20, 22]), ([18, 23, 15], [15, 18, 23]), ([24, 15], [15, 24]), ([17, 25, 15], [15, 17, 25]), ([15, 26, 4], [4, 15, 26]), ([4, 27], [4, 27]), ([28, 22], [28]), ([29, 29], [29]), ([29, 30], [29, 30]), ([31, 30, 0, 1, 2, 3, 4, 5, 6, 7, 8, 9, 10, 11, 12, 13, 14, 15, 16, 17, 18, 19, 20, 21, 22, 23, 24, 25, 26, 27, 28, 29, 30, 31], [31])])
def glebelaw11_EntryBack.B10 : List Nat := [0, 1, 3, 7, 15, 31, 63, 127, 255, 511, 1023, 511, 2559, 8191, 16383, 32767, 65535, 131071, 65535, 65535, 589823, 65535, 2162687, 7929855, 16580607, 33357823, 67108863, 134217727, 268435455, 536870911, 1073741823, 2147483647, 4294967295]
theorem glebelaw11_EntryBack.tab10 : rtab .any (opsOf Try.f6 10) = glebelaw11_EntryBack.T10 := by kernel_rfl
theorem glebelaw11_EntryBack.bits10 : waitsOk glebelaw11_EntryBack.T10.2 glebelaw11_EntryBack.B10 = true := by kernel_rfl
theorem ti_block {w w' : World} {A : Option Addr} {n : Nat} {l : List Int} (h : (Kd.int .i64).C w A n l) (hb : ∀ ad, A = some ad → w'.heap[ad.block]? = w.heap[ad.block]?) : (Kd.int .i64).C w' A n l := by
  obtain ⟨h1, h2, h3⟩ := h
  refine ⟨h1, h2, fun hp => ?_⟩
  obtain ⟨ad, rfl, h4⟩ := h3 hp
  refine ⟨ad, rfl, fun j p hj => ?_⟩
  obtain ⟨c, hc1, hc2, hc3⟩ := h4 j p hj
  refine ⟨c, hc1, hc2, fun i u hi => ?_⟩
  have hx : (ad.add (j * (Kd.int IntKind.i64).sz + i)).block = ad.block := by unfold Addr.add; split <;> rfl
  rw [World.cell?_of_block (w := w) (by rw [hx]; exact hb ad rfl)]
  exact hc3 i u hi
/-- Numbers in a block of numbers. -/
structure TI (w : World) (A : Option Addr) (l : List Int) : Prop where
  c : (Kd.int .i64).C w A l.length l
  t : ∀ ad, A = some ad → ∃ (cells : Array Value) (fz : Nat × Nat), w.heap[ad.block]? = some (.cells cells 3 fz)
theorem TI.move {w w' : World} {A : Option Addr} {l : List Int} (h : TI w A l) (h2 : ∀ (k : Nat) (cells : Array Value) (fz : Nat × Nat), w.heap[k]? = some (.cells cells 3 fz) → w'.heap[k]? = w.heap[k]?) : TI w' A l :=
  ⟨ti_block h.c fun ad hA => by
    obtain ⟨cells, fz, hc⟩ := h.t ad hA
    exact h2 _ _ _ hc, fun ad hA => by
    obtain ⟨cells, fz, hc⟩ := h.t ad hA
    exact ⟨cells, fz, (h2 _ _ _ hc).trans hc⟩⟩
theorem TI.below {w w' : World} {A : Option Addr} {l : List Int} (h : TI w A l) (hb : Below w.heap.size w w') : TI w' A l := h.move fun k _ _ hk => hb.block k (heap_lt hk)
theorem TI.drew {w : World} {A : Option Addr} {l : List Int} (h : TI w A l) : TI w.drew A l := h.below (below_drew (Below.refl _ _))
theorem TI.keep {w w' : World} {A : Option Addr} {l : List Int} (h : TI w A l) {g' : Nat} (hk : KeepBut w w' g' none) {cells' : Array Value} {t : TypeId} (hg : w.heap[g']? = some (.cells cells' t (0, 0))) (ht : t ≠ 3) : TI w' A l :=
  h.move fun k cells fz hc => hk.2 k (heap_lt hc) (by
    rintro rfl
    rw [hg] at hc
    injection hc with hc
    injection hc with _ hc
    exact ht hc) (by simp)
theorem TI.new {w : World} {base c : Nat} {A : Option Addr} {n : Nat} {ok : Nat → Prop} {l : List Int} (h : Kd.R (Kd.int .i64) 3 w base ok (.slice A n c) l) : TI w A l :=
  ⟨(Kd.R_reads' h).2.2, fun ad hA => by
    obtain ⟨cells, hx⟩ := Kd.R_typed h ad.block (by rw [hA]; simp [Value.ownBlock])
    exact ⟨cells, _, hx⟩⟩
theorem light_tot (a0_0 : Int) (a0_1 : Int) (a0_2 : Int) (a0_3 : Int) (a0_4 : ByteArray) (a0_5 : ByteArray) (a0_6 : Int) (a0_7 : Int) (a0_8 : Int) (a0_9 : Int) (a0_10 : Int) (l0_11 : List Int) : ∃ b, glebelaw11_light.f a0_0 a0_1 a0_2 a0_3 a0_4 a0_5 a0_6 a0_7 a0_8 a0_9 a0_10 l0_11 = some b ∧ (b = true → l0_11.length ≤ 40) := by
  unfold glebelaw11_light.f
  split
  · exact ⟨_, rfl, fun h => by have := of_decide_eq_true h; omega⟩
  · exact ⟨false, rfl, by simp⟩
theorem own_id {a0_0 : Int} {a0_1 : Int} {a0_2 : Int} {a0_3 : Int} {a0_4 : ByteArray} {a0_5 : ByteArray} {a0_6 : Int} {a0_7 : Int} {a0_8 : Int} {a0_9 : Int} {a0_10 : Int} {l : List Int} (hl : l.length ≤ 60) : glebelaw11_Own.f a0_0 a0_1 a0_2 a0_3 a0_4 a0_5 a0_6 a0_7 a0_8 a0_9 a0_10 l = some (a0_0, a0_1, a0_2, a0_3, a0_4, a0_5, a0_6, a0_7, a0_8, a0_9, a0_10, l) := by
  unfold glebelaw11_Own.f glebelaw07_Op.f
  rw [Option.bind_some, Option.bind_some, if_pos (Nat.lt_of_le_of_lt (show ([] : List Int).length + l.length ≤ 60 by simp; omega) (by decide)), List.nil_append]
def glebelaw11_EntryBack.f (k : Nat) (a0_0 : Int) (a0_1 : Int) (a0_2 : Int) (a0_3 : Int) (a0_4 : ByteArray) (a0_5 : ByteArray) (a0_6 : Int) (a0_7 : Int) (a0_8 : Int) (a0_9 : Int) (a0_10 : Int) (l0_11 : List Int) (l1 : List Int) : Option Bool := if ∀ z ∈ l1, 0 ≤ z ∧ z < 256 then some true else none
set_option maxHeartbeats 32000000 in
set_option maxRecDepth 100000 in
theorem glebelaw11_EntryBack.calls (k : Nat) (a0_0 : Int) (a0_1 : Int) (a0_2 : Int) (a0_3 : Int) (a0_4 : ByteArray) (a0_5 : ByteArray) (a0_6 : Int) (a0_7 : Int) (a0_8 : Int) (a0_9 : Int) (a0_10 : Int) (A0_11 : Option Addr) (c0_11 : Nat) (l0_11 : List Int) (A1 : Option Addr) (c1 : Nat) (l1 : List Int) (r : Bool) (w : World) (hr0_11 : Kd.C (Kd.int .i64) w A0_11 l0_11.length l0_11) (hc0_11 : l0_11.length ≤ c0_11) (hr1 : Kd.C (Kd.int .u8) w A1 l1.length l1) (hc1 : l1.length ≤ c1) (h : glebelaw11_EntryBack.f k a0_0 a0_1 a0_2 a0_3 a0_4 a0_5 a0_6 a0_7 a0_8 a0_9 a0_10 l0_11 l1 = some r) :
    Calls Try.prog 6 #[.agg #[.int .i64 a0_0, .int .i64 a0_1, .int .i64 a0_2, .int .i64 a0_3, .string a0_4, .string a0_5, .int .i64 a0_6, .int .i64 a0_7, .int .i64 a0_8, .int .i64 a0_9, .int .i64 a0_10, .slice A0_11 l0_11.length c0_11], .slice A1 l1.length c1] w fun e w' => e = .returned (.bool r) ∧ Below w.heap.size w w' := by
  unfold glebelaw11_EntryBack.f at h
  by_cases hb0 : ∀ z ∈ l1, 0 ≤ z ∧ z < 256
  rotate_left
  · rw [if_neg hb0] at h
    cases h
  rw [if_pos hb0] at h
  obtain rfl := Option.some.inj h
  clear h
  have H0 := Aside0.mk hr0_11
  have HC0 := Aside0.mk hc0_11
  have H1 := Aside0.mk hr1
  have HBY := Aside0.mk hb0
  clear hr0_11 hr1 hb0 hc0_11
  obtain ⟨lb, hlb, hlq⟩ := light_tot a0_0 a0_1 a0_2 a0_3 a0_4 a0_5 a0_6 a0_7 a0_8 a0_9 a0_10 l0_11
  have HLB := Aside0.mk hlb
  have HLQ := Aside0.mk hlq
  clear hlb hlq
  have HB := Aside0.mk (Below.refl w.heap.size w)
  go_enter Try.func6, Try.ntmps6
  go_wp2_with (first | ((with_reducible refine gate_dst (N := 2) rfl ?_); refine box_event ?hg (N := 2) ?hd (cs := #[.int .i64 a0_0, .int .i64 a0_1, .int .i64 a0_2, .int .i64 a0_3, .string a0_4, .string a0_5, .int .i64 a0_6, .int .i64 a0_7, .int .i64 a0_8, .int .i64 a0_9, .int .i64 a0_10, .slice A0_11 l0_11.length c0_11]) (t := 28) ?hr ?_; (case hd => rfl); (case hg => rfl); (case hr => first | (go_simp; done) | (go_simp; rfl)); intro ga hg w2 hbox hb; have h0 := blk_cell hbox 0; have h1 := blk_cell hbox 1; have h2 := blk_cell hbox 2; have h3 := blk_cell hbox 3; have h4 := blk_cell hbox 4; have h5 := blk_cell hbox 5; have h6 := blk_cell hbox 6; have h7 := blk_cell hbox 7; have h8 := blk_cell hbox 8; have h9 := blk_cell hbox 9; have h10 := blk_cell hbox 10; have h11 := blk_cell hbox 11; have XA := Aside0.mk hbox; replace HB := Aside0.mk (below_step HB.out hb); clear hbox hb hg) | fail)
  refine (glebelaw11_light.calls a0_0 a0_1 a0_2 a0_3 a0_4 a0_5 a0_6 a0_7 a0_8 a0_9 a0_10 A0_11 c0_11 l0_11 lb _ (Kd.C_below H0.out HB.out) HC0.out HLB.out).mono ?_
  rintro e wl ⟨rfl, hb⟩
  replace XA := Aside0.mk (blk_below XA.out hb)
  replace HB := Aside0.mk (below_step HB.out hb)
  clear hb HLB h0 h1 h2 h3 h4 h5 h6 h7 h8 h9 h10 h11
  rcases (show lb = false ∨ (lb = true ∧ 300 < l1.length) ∨ (lb = true ∧ ¬ 300 < l1.length) by
    cases lb <;> simp <;> omega) with q | ⟨q, y⟩ | ⟨q, y⟩
  focus
    subst q
    clear HLQ
    go_wp2_with fail
    refine (glebelaw11_knows.calls true _ rfl).mono ?_
    rintro e wk ⟨rfl, hb⟩
    replace HB := Aside0.mk (below_step HB.out hb)
    clear hb
    go_wp2
    go_ret
    exact ⟨rfl, HB.out⟩
  focus
    subst q
    clear HLQ
    have zb : decide ((300 : Int) < (l1.length : Int)) = true := decide_eq_true (by omega)
    have zn : decide (300 < l1.length) = true := decide_eq_true y
    clear y
    go_wp2_with fail
    refine (glebelaw11_knows.calls true _ rfl).mono ?_
    rintro e wk ⟨rfl, hb⟩
    replace HB := Aside0.mk (below_step HB.out hb)
    clear hb
    go_wp2
    go_ret
    exact ⟨rfl, HB.out⟩
  subst q
  have zb : decide ((300 : Int) < (l1.length : Int)) = false := decide_eq_false (by omega)
  have zn : decide (300 < l1.length) = false := decide_eq_false y
  have HLE := Aside0.mk (show l1.length ≤ 300 by omega)
  have HL4 := Aside0.mk (HLQ.out rfl)
  clear y HLQ
  obtain ⟨br, pr, ir⟩ := eright_facts ⟨a0_0, a0_1, a0_2, a0_3, a0_4, a0_5, a0_6, a0_7, a0_8, a0_9, a0_10, l0_11⟩ (by have := HL4.out; dsimp only; omega)
  have pe := eput_eq ⟨a0_0, a0_1, a0_2, a0_3, a0_4, a0_5, a0_6, a0_7, a0_8, a0_9, a0_10, l0_11⟩ (by have := HL4.out; dsimp only; omega) pr ir
  dsimp only at pr pe
  obtain ⟨LR, hLR⟩ : ∃ x, x = (if br then eBytes ⟨a0_0, a0_1, a0_2, a0_3, a0_4, a0_5, a0_6, a0_7, a0_8, a0_9, a0_10, l0_11⟩ else []) := ⟨_, rfl⟩
  obtain ⟨er, her⟩ : ∃ x, x = (if br then (0 : Int) else 1) := ⟨_, rfl⟩
  rw [← hLR, ← her] at pe
  have HU := Aside0.mk (show (er == 0) = br by rw [her]; cases br <;> rfl)
  have HPR := Aside0.mk pr
  have HIR := Aside0.mk ir
  have HPE := Aside0.mk pe
  have HLR := Aside0.mk hLR
  have HM := Aside0.mk (show LR.length ≤ 2000 by
    rw [hLR]
    cases br
    · exact Nat.zero_le _
    · exact eBytes_len (ir rfl) (by have := HL4.out; dsimp only; omega))
  clear pr ir pe hLR her
  have h0 := blk_cell XA.out 0
  have h1 := blk_cell XA.out 1
  have h2 := blk_cell XA.out 2
  have h3 := blk_cell XA.out 3
  have h4 := blk_cell XA.out 4
  have h5 := blk_cell XA.out 5
  have h6 := blk_cell XA.out 6
  have h7 := blk_cell XA.out 7
  have h8 := blk_cell XA.out 8
  have h9 := blk_cell XA.out 9
  have h10 := blk_cell XA.out 10
  have h11 := blk_cell XA.out 11
  go_wp2_with fail
  refine (glebelaw11_Own.calls a0_0 a0_1 a0_2 a0_3 a0_4 a0_5 a0_6 a0_7 a0_8 a0_9 a0_10 A0_11 c0_11 l0_11 a0_0 a0_1 a0_2 a0_3 a0_4 a0_5 a0_6 a0_7 a0_8 a0_9 a0_10 l0_11 _ (Kd.C_below H0.out HB.out) HC0.out (own_id (by have := HL4.out; omega))).mono ?_
  rintro e wc ⟨v, rfl, hv, hb⟩
  obtain ⟨Ao, co, rfl⟩ := Kd.R_slice hv
  have HOC := Aside0.mk (Kd.R_reads' hv)
  replace XA := Aside0.mk (blk_below XA.out hb)
  replace HB := Aside0.mk (below_step HB.out hb)
  clear hv hb h0 h1 h2 h3 h4 h5 h6 h7 h8 h9 h10 h11
  go_wp2_with fail
  refine (entry_Put.calls 100 a0_0 a0_1 a0_2 a0_3 a0_4 a0_5 a0_6 a0_7 a0_8 a0_9 a0_10 Ao co l0_11 LR er _ HOC.out.2.2 HOC.out.2.1 HPE.out).mono ?_
  rintro e wd ⟨v, rfl, hv, hb⟩
  obtain ⟨BR, DR, rfl⟩ := Kd.R_slice hv
  have YR := Aside0.mk (show TB wd BR LR.length LR from ⟨(Kd.R_reads' hv).2.2, fun ad hA => by
    obtain ⟨cells, hx⟩ := Kd.R_typed hv ad.block (by rw [hA]; simp [Value.ownBlock])
    exact ⟨cells, _, hx⟩⟩)
  replace XA := Aside0.mk (blk_below XA.out hb)
  replace HB := Aside0.mk (below_step HB.out hb)
  clear hv hb HOC
  go_wp2_with fail
  refine (glebelaw11_num.calls er er _ rfl).mono ?_
  rintro e wn ⟨rfl, hd⟩
  have hb := drawn_below hd
  replace XA := Aside0.mk (blk_below XA.out hb)
  replace YR := Aside0.mk (YR.out.below hb)
  replace HB := Aside0.mk (below_step HB.out hb)
  clear hb hd
  go_upto_if 28 with fail
  (try simp only [Act.put, List.setIfInBounds_toArray, List.set_cons_zero, List.set_cons_succ])
  go_cut [7] (fun _ wc => Aside0 (Below w.heap.size w wc))
  case first =>
    as_aux_lemma =>
    have hu := HU.out
    cases hbp : br
    focus
      rw [hbp] at hu
      clear hbp
      go_wp2
      go_meet
      case rel => exact HB
    rw [hbp] at hu
    have hir := HIR.out hbp
    have hpr := HPR.out
    rw [hbp] at hpr
    have hL2 := HLR.out
    rw [hbp, if_pos rfl] at hL2
    have HEM := Aside0.mk (fun w0 g => emid_back hir l1 w0 g)
    rw [← hL2] at HEM
    have HRR := Aside0.mk hpr
    have HAL := Aside0.mk (show (([] : List Int).length + LR.length) * 1 ≤ 140737488355328 by have := HM.out; simp; omega)
    have HAL2 := Aside0.mk (show (([] ++ LR).length + l1.length) * 1 ≤ 140737488355328 by have := HM.out; have := HLE.out; simp; omega)
    obtain ⟨LX, hLX⟩ : ∃ x, x = LR ++ l1 := ⟨_, rfl⟩
    rw [← hLX] at HEM
    have HLX := Aside0.mk hLX
    have HLN := Aside0.mk (show LX.length ≤ 2500 by have := HM.out; have := HLE.out; rw [hLX, List.length_append]; omega)
    clear hbp hL2 hLX hir hpr
    go_wp2_with (first | ((with_reducible refine gate_dst (N := 29) rfl ?_); refine Kd.R_lit (Kd.int .u8) _ 5 ?hg (N := 29) ?hd (xs := ([] : List Int)) (inner := []) (ok := fun _ => True) (okp := fun _ => True) ?hr ?hp (fun _ hk => hk) trivial (Below.refl _ _) (Nat.le_refl _) (by simp) ?_; (case hd => rfl); (case hg => rfl); (case hr => first | (go_simp; done) | (go_simp; rfl)); (case hp => exact (Reps.none _ _)); intro vL wL hoL hb hg_ hnew_; clear hg_ hnew_; have HOL := Aside0.mk hoL; have HBN := Aside0.mk hb; clear hb hoL) | ((with_reducible refine gate_builtin (b := .append) (xs := #[.tmp 29, .tmp 30]) rfl ?_); at_builtin; refine Kd.R_append_rows (Kd.int .u8) (w0 := wn) wn.heap.size rfl (.tmp 29) (.tmp 30) 41 5 (.int .u8 0) 1 rfl Try.underlying41 info5 rfl (by decide) (by omega) _ [] LR _ _ _ (fun _ => True) (fun _ => False) rfl rfl ?aO ?aR (fun _ _ h => h) (fun _ h => h.elim) ?aF ?aB ?aS ?aL ?_; (case aO => exact HOL.out); (case aR => exact Kd.C_below YR.out.c HBN.out); (case aB => exact HBN.out); (case aF => exact (fun _ _ => trivial)); (case aS => exact (below_size HBN.out)); (case aL => exact HAL.out); intro vM wM ho hb hg hat; replace HOL := Aside0.mk ho; replace HBN := Aside0.mk hb; clear ho hb hg hat) | ((with_reducible refine gate_builtin (b := .append) (xs := #[.tmp 31, .tmp 32]) rfl ?_); at_builtin; refine Kd.R_append_rows (Kd.int .u8) (w0 := wn) wn.heap.size rfl (.tmp 31) (.tmp 32) 41 5 (.int .u8 0) 1 rfl Try.underlying41 info5 rfl (by decide) (by omega) _ ([] ++ LR) l1 _ _ _ (fun _ => True) (fun _ => False) rfl rfl ?aO ?aR (fun _ _ h => h) (fun _ h => h.elim) ?aF ?aB ?aS ?aL ?_; (case aO => exact HOL.out); (case aR => exact Kd.C_below (Kd.C_below H1.out HB.out) HBN.out); (case aB => exact HBN.out); (case aF => exact (fun _ _ => trivial)); (case aS => exact (below_size HBN.out)); (case aL => exact HAL2.out); intro vM wM ho hb hg hat; replace HOL := Aside0.mk ho; replace HBN := Aside0.mk hb; clear ho hb hg hat) | fail)
    have hol := HOL.out
    rw [List.nil_append, ← HLX.out] at hol
    obtain ⟨Ax, cx, rfl⟩ := Kd.R_slice hol
    have HCX := Aside0.mk (Kd.R_reads' hol)
    have hb := HBN.out
    replace XA := Aside0.mk (blk_below XA.out hb)
    replace HB := Aside0.mk (below_step HB.out hb)
    clear hb hol HOL HBN HAL HAL2 YR
    go_wp2_with fail
    refine (wire_Open.calls Ax cx LX _ HCX.out.2.2 HCX.out.2.1 (by have := HLN.out; omega)).mono ?_
    rintro e wo ⟨g, A2, c2, rfl, hg, hblk, hc2, hC2, hty, hb⟩
    have HI := Aside0.mk (show IsRdr w wo g LX 0 true from ⟨Nat.le_trans HB.out.size hg, A2, c2, hblk, hc2, hC2, hty⟩)
    replace XA := Aside0.mk (blk_below XA.out hb)
    replace HB := Aside0.mk (below_step HB.out hb)
    clear hg hblk hc2 hC2 hty hb HCX
    go_wp2_with fail
    refine start_ (n := 13) (S := fun w' => w'.cell? ⟨ga, 0, none⟩ = some (.int .i64 a0_0) ∧ w'.cell? ⟨ga, 1, none⟩ = some (.int .i64 a0_1) ∧ w'.cell? ⟨ga, 2, none⟩ = some (.int .i64 a0_2) ∧ w'.cell? ⟨ga, 3, none⟩ = some (.int .i64 a0_3) ∧ w'.cell? ⟨ga, 4, none⟩ = some (.string a0_4) ∧ w'.cell? ⟨ga, 5, none⟩ = some (.string a0_5) ∧ w'.cell? ⟨ga, 6, none⟩ = some (.int .i64 a0_6) ∧ w'.cell? ⟨ga, 7, none⟩ = some (.int .i64 a0_7) ∧ w'.cell? ⟨ga, 8, none⟩ = some (.int .i64 a0_8) ∧ w'.cell? ⟨ga, 9, none⟩ = some (.int .i64 a0_9) ∧ w'.cell? ⟨ga, 10, none⟩ = some (.int .i64 a0_10) ∧ w'.cell? ⟨ga, 11, none⟩ = some (.slice A0_11 l0_11.length c0_11)) (ds := []) #[false, false, false, false, false, false, false, false, false, false, false, false, false] (by kernel_rfl) rfl rfl ⟨(blk_cell XA.out 0), (blk_cell XA.out 1), (blk_cell XA.out 2), (blk_cell XA.out 3), (blk_cell XA.out 4), (blk_cell XA.out 5), (blk_cell XA.out 6), (blk_cell XA.out 7), (blk_cell XA.out 8), (blk_cell XA.out 9), (blk_cell XA.out 10), (blk_cell XA.out 11)⟩ (fun hHeld => ?_)
    refine with_tabW glebelaw11_EntryBack.tab6 glebelaw11_EntryBack.bits6 (fun HT_ HW_ => ?_)
    refine pure_ (i := 0) (N := some 35) (v := ?_) (a' := ?_) #[true, false, false, false, false, false, false, false, false, false, false, false, false] rfl rfl (any_of HT_.out (by kernel_rfl)) (fun _ _ _ h => h) (Or.inl ⟨by rfl, ?_⟩) ?_ ?_
    rotate_left
    · intro w'
      go_simp
      with_reducible rfl
    rotate_left
    · simp only [Act.put, List.setIfInBounds_toArray, List.set_cons_zero, List.set_cons_succ, i64_w, i32_w]
      rfl
    refine take_ (i := 2) (N := some 37) (v := ?_) (a' := ?_) #[true, false, true, false, false, false, false, false, false, false, false, false, false] rfl rfl (take_ofW HT_.out HW_.out (by kernel_rfl)) (fun _ _ _ h => h) (Or.inl ⟨by rfl, ?_⟩) hHeld ?_ ?_
    rotate_left
    · rintro w' ⟨s0, s1, s2, s3, s4, s5, s6, s7, s8, s9, s10, s11⟩
      go_simp
      with_reducible rfl
    rotate_left
    · simp only [Act.put, List.setIfInBounds_toArray, List.set_cons_zero, List.set_cons_succ, i64_w, i32_w]
      rfl
    refine one_ (i := 1) (N := some 36) #[true, true, true, false, false, false, false, false, false, false, false, false, false] rfl rfl (one_of HT_.out (by kernel_rfl)) (by decide) (fun K hK => ?_)
    refine goes_ Try.func32 (by kernel_rfl) rfl #[.pointer (some ⟨g, 0, none⟩)] (by rfl) rfl rfl (by simp only [List.map_toArray, List.map_cons, List.map_nil]; rfl) ?_
    with_reducible refine (entry_Take.calls 100 g LX 0 ⟨a0_0, a0_1, a0_2, a0_3, a0_4, a0_5, a0_6, a0_7, a0_8, a0_9, a0_10, l0_11⟩ l1 0 true w _ (HEM.out w g) HRR.out ⟨a0_0, a0_1, a0_2, a0_3, a0_4, a0_5, a0_6, a0_7, a0_8, a0_9, a0_10, l0_11⟩ rfl (by first | exact HI.out | exact HI.out.drew) (by first | exact HB.out | exact below_drew HB.out)).mono ?_
    rintro e wx ⟨v1, rfl, hr7, hi, hbx, hk⟩
    refine ⟨_, rfl, ?_⟩
    rw [show tkE true 0 = 0 from rfl] at hi
    replace XA := Aside0.mk (hk.blk (by first | exact XA.out | exact blk_drew XA.out) (HI.out.at_ne XA.out (by decide)) (by simp))
    replace HI := Aside0.mk hi
    replace HB := Aside0.mk hbx
    obtain ⟨A7, c7, rfl⟩ := Kd.R_slice hr7
    have HA7 := Aside0.mk (TI.new hr7)
    have HC7 := Aside0.mk (Kd.R_reads' hr7).2.1
    clear hr7
    clear hi hbx hk
    refine hK.out _ _ ⟨(blk_cell XA.out 0), (blk_cell XA.out 1), (blk_cell XA.out 2), (blk_cell XA.out 3), (blk_cell XA.out 4), (blk_cell XA.out 5), (blk_cell XA.out 6), (blk_cell XA.out 7), (blk_cell XA.out 8), (blk_cell XA.out 9), (blk_cell XA.out 10), (blk_cell XA.out 11)⟩ (fun hHeld => ?_)
    clear hK K
    refine norm_ (a' := ?_) ?_ ?_
    rotate_left
    · show Act.put _ (some 36) _ = _
      simp only [Act.put, List.setIfInBounds_toArray, List.set_cons_zero, List.set_cons_succ, i64_w, i32_w]
      rfl
    refine one_ (i := 3) (N := some 38) #[true, true, true, true, false, false, false, false, false, false, false, false, false] rfl rfl (one_of HT_.out (by kernel_rfl)) (by decide) (fun K hK => ?_)
    refine goes_ Try.func10 (by kernel_rfl) rfl #[.agg #[.int .i64 a0_0, .int .i64 a0_1, .int .i64 a0_2, .int .i64 a0_3, .string a0_4, .string a0_5, .int .i64 a0_6, .int .i64 a0_7, .int .i64 a0_8, .int .i64 a0_9, .int .i64 a0_10, .slice A0_11 l0_11.length c0_11]] (by rfl) rfl rfl (by simp only [List.map_toArray, List.map_cons, List.map_nil]; rfl) ?_
    with_reducible refine (glebelaw11_Own.calls a0_0 a0_1 a0_2 a0_3 a0_4 a0_5 a0_6 a0_7 a0_8 a0_9 a0_10 A0_11 c0_11 l0_11 a0_0 a0_1 a0_2 a0_3 a0_4 a0_5 a0_6 a0_7 a0_8 a0_9 a0_10 l0_11 _ (Kd.C_below H0.out (by first | exact HB.out | exact below_drew HB.out)) HC0.out (own_id (by have := HL4.out; omega))).mono ?_
    rintro e wx ⟨v2, rfl, hr8, hbx⟩
    refine ⟨_, rfl, ?_⟩
    obtain ⟨A8, c8, rfl⟩ := Kd.R_slice hr8
    have HA8 := Aside0.mk (TI.new hr8)
    have HC8 := Aside0.mk (Kd.R_reads' hr8).2.1
    clear hr8
    replace XA := Aside0.mk (blk_below (by first | exact XA.out | exact blk_drew XA.out) hbx)
    replace HI := Aside0.mk (IsRdr.below (by first | exact HI.out | exact HI.out.drew) hbx)
    replace HA7 := Aside0.mk (TI.below (by first | exact HA7.out | exact HA7.out.drew) hbx)
    replace HB := Aside0.mk (show Below w.heap.size w wx from by first | exact below_step HB.out hbx | exact below_step (below_drew HB.out) hbx)
    clear hbx
    refine hK.out _ _ ⟨(blk_cell XA.out 0), (blk_cell XA.out 1), (blk_cell XA.out 2), (blk_cell XA.out 3), (blk_cell XA.out 4), (blk_cell XA.out 5), (blk_cell XA.out 6), (blk_cell XA.out 7), (blk_cell XA.out 8), (blk_cell XA.out 9), (blk_cell XA.out 10), (blk_cell XA.out 11)⟩ (fun hHeld => ?_)
    clear hK K
    refine norm_ (a' := ?_) ?_ ?_
    rotate_left
    · show Act.put _ (some 38) _ = _
      simp only [Act.put, List.setIfInBounds_toArray, List.set_cons_zero, List.set_cons_succ, i64_w, i32_w]
      rfl
    refine one_ (i := 4) (N := some 39) #[true, true, true, true, true, false, false, false, false, false, false, false, false] rfl rfl (one_of HT_.out (by kernel_rfl)) (by decide) (fun K hK => ?_)
    refine goes_ Try.func26 (by kernel_rfl) rfl #[.agg #[.int .i64 a0_0, .int .i64 a0_1, .int .i64 a0_2, .int .i64 a0_3, .string a0_4, .string a0_5, .int .i64 a0_6, .int .i64 a0_7, .int .i64 a0_8, .int .i64 a0_9, .int .i64 a0_10, .slice A7 l0_11.length c7], .agg #[.int .i64 a0_0, .int .i64 a0_1, .int .i64 a0_2, .int .i64 a0_3, .string a0_4, .string a0_5, .int .i64 a0_6, .int .i64 a0_7, .int .i64 a0_8, .int .i64 a0_9, .int .i64 a0_10, .slice A8 l0_11.length c8]] (by rfl) rfl rfl (by simp only [List.map_toArray, List.map_cons, List.map_nil]; rfl) ?_
    with_reducible refine (entry_Same.calls 100 a0_0 a0_1 a0_2 a0_3 a0_4 a0_5 a0_6 a0_7 a0_8 a0_9 a0_10 A7 c7 l0_11 a0_0 a0_1 a0_2 a0_3 a0_4 a0_5 a0_6 a0_7 a0_8 a0_9 a0_10 A8 c8 l0_11 true _ (by first | exact HA7.out.c | exact HA7.out.drew.c) HC7.out (by first | exact HA8.out.c | exact HA8.out.drew.c) HC8.out (esame_self (by have := HL4.out; omega))).mono ?_
    rintro e wx ⟨rfl, hbx⟩
    refine ⟨_, rfl, ?_⟩
    clear HA7 HA8 HC7 HC8
    replace XA := Aside0.mk (blk_below (by first | exact XA.out | exact blk_drew XA.out) hbx)
    replace HI := Aside0.mk (IsRdr.below (by first | exact HI.out | exact HI.out.drew) hbx)
    replace HB := Aside0.mk (show Below w.heap.size w wx from by first | exact below_step HB.out hbx | exact below_step (below_drew HB.out) hbx)
    clear hbx
    refine hK.out _ _ ⟨(blk_cell XA.out 0), (blk_cell XA.out 1), (blk_cell XA.out 2), (blk_cell XA.out 3), (blk_cell XA.out 4), (blk_cell XA.out 5), (blk_cell XA.out 6), (blk_cell XA.out 7), (blk_cell XA.out 8), (blk_cell XA.out 9), (blk_cell XA.out 10), (blk_cell XA.out 11)⟩ (fun hHeld => ?_)
    clear hK K
    refine norm_ (a' := ?_) ?_ ?_
    rotate_left
    · show Act.put _ (some 39) _ = _
      simp only [Act.put, List.setIfInBounds_toArray, List.set_cons_zero, List.set_cons_succ, i64_w, i32_w]
      rfl
    refine pure_ (i := 5) (N := some 40) (v := ?_) (a' := ?_) #[true, true, true, true, true, true, false, false, false, false, false, false, false] rfl rfl (any_of HT_.out (by kernel_rfl)) (fun _ _ _ h => h) (Or.inl ⟨by rfl, ?_⟩) ?_ ?_
    rotate_left
    · intro w'
      go_simp
      with_reducible rfl
    rotate_left
    · simp only [Act.put, List.setIfInBounds_toArray, List.set_cons_zero, List.set_cons_succ, i64_w, i32_w]
      rfl
    refine pure_ (i := 6) (N := some 41) (v := ?_) (a' := ?_) #[true, true, true, true, true, true, true, false, false, false, false, false, false] rfl rfl (any_of HT_.out (by kernel_rfl)) (fun _ _ _ h => h) (Or.inl ⟨by rfl, ?_⟩) ?_ ?_
    rotate_left
    · intro w'
      go_simp
      with_reducible rfl
    rotate_left
    · simp only [Act.put, List.setIfInBounds_toArray, List.set_cons_zero, List.set_cons_succ, i64_w, i32_w]
      rfl
    refine pure_ (i := 7) (N := some 42) (v := ?_) (a' := ?_) #[true, true, true, true, true, true, true, true, false, false, false, false, false] rfl rfl (any_of HT_.out (by kernel_rfl)) (fun _ _ _ h => h) (Or.inl ⟨by rfl, ?_⟩) ?_ ?_
    rotate_left
    · intro w'
      go_simp
      with_reducible rfl
    rotate_left
    · simp only [Act.put, List.setIfInBounds_toArray, List.set_cons_zero, List.set_cons_succ, i64_w, i32_w]
      rfl
    refine pure_ (i := 9) (N := some 44) (v := ?_) (a' := ?_) #[true, true, true, true, true, true, true, true, false, true, false, false, false] rfl rfl (any_of HT_.out (by kernel_rfl)) (fun _ _ _ h => h) (Or.inl ⟨by rfl, ?_⟩) ?_ ?_
    rotate_left
    · intro w'
      go_simp
      with_reducible rfl
    rotate_left
    · simp only [Act.put, List.setIfInBounds_toArray, List.set_cons_zero, List.set_cons_succ, i64_w, i32_w]
      rfl
    refine pure_ (i := 10) (N := some 45) (v := ?_) (a' := ?_) #[true, true, true, true, true, true, true, true, false, true, true, false, false] rfl rfl (any_of HT_.out (by kernel_rfl)) (fun _ _ _ h => h) (Or.inl ⟨by rfl, ?_⟩) ?_ ?_
    rotate_left
    · intro w'
      go_simp
      with_reducible rfl
    rotate_left
    · simp only [Act.put, List.setIfInBounds_toArray, List.set_cons_zero, List.set_cons_succ, i64_w, i32_w]
      rfl
    refine one_ (i := 8) (N := some 43) #[true, true, true, true, true, true, true, true, true, true, true, false, false] rfl rfl (one_of HT_.out (by kernel_rfl)) (by decide) (fun K hK => ?_)
    refine goes_ Try.func35 (by kernel_rfl) rfl #[.pointer (some ⟨g, 0, none⟩)] (by rfl) rfl rfl (by simp only [List.map_toArray, List.map_cons, List.map_nil]; rfl) ?_
    with_reducible refine (wire_Reader_Left.calls g l1 0 true w _ (by first | exact HI.out | exact HI.out.drew)).mono ?_
    rintro e wx ⟨rfl, rfl⟩
    refine ⟨_, rfl, ?_⟩
    rw [if_pos (show rdOk 0 true = true from rfl)]
    refine hK.out _ _ ⟨(blk_cell XA.out 0), (blk_cell XA.out 1), (blk_cell XA.out 2), (blk_cell XA.out 3), (blk_cell XA.out 4), (blk_cell XA.out 5), (blk_cell XA.out 6), (blk_cell XA.out 7), (blk_cell XA.out 8), (blk_cell XA.out 9), (blk_cell XA.out 10), (blk_cell XA.out 11)⟩ (fun hHeld => ?_)
    clear hK K
    refine norm_ (a' := ?_) ?_ ?_
    rotate_left
    · show Act.put _ (some 43) _ = _
      simp only [Act.put, List.setIfInBounds_toArray, List.set_cons_zero, List.set_cons_succ, i64_w, i32_w]
      rfl
    refine pure_ (i := 11) (N := some 46) (v := ?_) (a' := ?_) #[true, true, true, true, true, true, true, true, true, true, true, true, false] rfl rfl (any_of HT_.out (by kernel_rfl)) (fun _ _ _ h => h) (Or.inl ⟨by rfl, ?_⟩) ?_ ?_
    rotate_left
    · intro w'
      go_simp
      with_reducible rfl
    rotate_left
    · simp only [Act.put, List.setIfInBounds_toArray, List.set_cons_zero, List.set_cons_succ, i64_w, i32_w]
      rfl
    refine pure_ (i := 12) (N := some 47) (v := ?_) (a' := ?_) #[true, true, true, true, true, true, true, true, true, true, true, true, true] rfl rfl (any_of HT_.out (by kernel_rfl)) (fun _ _ _ h => h) (Or.inl ⟨by rfl, ?_⟩) ?_ ?_
    rotate_left
    · intro w'
      go_simp
      with_reducible rfl
    rotate_left
    · simp only [Act.put, List.setIfInBounds_toArray, List.set_cons_zero, List.set_cons_succ, i64_w, i32_w]
      rfl
    refine done_ (done_of HT_.out (by kernel_rfl)) ?_
    go_wp2
    go_meet
    case rel => exact HB
  case rest =>
  have HB := hcut
  clear hcut
  as_aux_lemma =>
  clear XA YR HU HPR HIR HPE HLR HM
  obtain ⟨row, m2, e2, ok, hem, hrr, hir, hch, hbk⟩ := e_taken HBY.out
  obtain ⟨z, hz⟩ : ∃ z, z = tkE ok e2 := ⟨_, rfl⟩
  obtain ⟨out, hout⟩ : ∃ x, x = (if tkE ok e2 = 0 then row else ERow.zero) := ⟨_, rfl⟩
  have hoc : out.ch.length ≤ 60 := by
    rw [hout]
    split
    · omega
    · decide
  obtain ⟨bv, pv, iv⟩ := eright_facts out hoc
  have pe := eput_eq out hoc pv iv
  obtain ⟨Lv, hLv⟩ : ∃ x, x = (if bv then eBytes out else []) := ⟨_, rfl⟩
  obtain ⟨ev, hev⟩ : ∃ x, x = (if bv then (0 : Int) else 1) := ⟨_, rfl⟩
  rw [← hLv, ← hev] at pe
  have HFV := Aside0.mk (show z = 0 → bv = true ∧ ev = 0 ∧ l1 = Lv ++ m2 by
    intro q
    rw [hz] at q
    have q1 := (tkE_zero q).1
    have q5 := hbk q
    rw [if_pos q] at hout
    subst q1 hout
    rw [hrr] at pv
    obtain rfl := Option.some.inj pv
    refine ⟨rfl, hev, ?_⟩
    rw [hLv, if_pos rfl]
    exact q5)
  have HPV := Aside0.mk pe
  have HZ := Aside0.mk hz
  have HOUT := Aside0.mk hout
  have HEM := Aside0.mk hem
  have HRR := Aside0.mk hrr
  have HAL := Aside0.mk (show (([] : List Int).length + l1.length) * 1 ≤ 140737488355328 by have := HLE.out; simp; omega)
  clear pv iv pe hLv hev hz hout hem hrr hir hch hbk hoc
  go_wp2_with (first | ((with_reducible refine gate_dst (N := 48) rfl ?_); refine Kd.R_lit (Kd.int .u8) _ 5 ?hg (N := 48) ?hd (xs := ([] : List Int)) (inner := []) (ok := fun _ => True) (okp := fun _ => True) ?hr ?hp (fun _ hk => hk) trivial (Below.refl _ _) (Nat.le_refl _) (by simp) ?_; (case hd => rfl); (case hg => rfl); (case hr => first | (go_simp; done) | (go_simp; rfl)); (case hp => exact (Reps.none _ _)); intro vL wL hoL hb hg_ hnew_; clear hg_ hnew_; have HOL := Aside0.mk hoL; have HBN := Aside0.mk hb; clear hb hoL) | ((with_reducible refine gate_builtin (b := .append) (xs := #[.tmp 48, .tmp 49]) rfl ?_); at_builtin; refine Kd.R_append_rows (Kd.int .u8) (w0 := wc) wc.heap.size rfl (.tmp 48) (.tmp 49) 41 5 (.int .u8 0) 1 rfl Try.underlying41 info5 rfl (by decide) (by omega) _ [] l1 _ _ _ (fun _ => True) (fun _ => False) rfl rfl ?aO ?aR (fun _ _ h => h) (fun _ h => h.elim) ?aF ?aB ?aS ?aL ?_; (case aO => exact HOL.out); (case aR => exact Kd.C_below (Kd.C_below H1.out HB.out) HBN.out); (case aB => exact HBN.out); (case aF => exact (fun _ _ => trivial)); (case aS => exact (below_size HBN.out)); (case aL => exact HAL.out); intro vM wM ho hb hg hat; replace HOL := Aside0.mk ho; replace HBN := Aside0.mk hb; clear ho hb hg hat) | fail)
  have hol := HOL.out
  rw [List.nil_append] at hol
  obtain ⟨Ax, cx, rfl⟩ := Kd.R_slice hol
  have HCX := Aside0.mk (Kd.R_reads' hol)
  replace HB := Aside0.mk (below_step HB.out HBN.out)
  clear hol HOL HBN HAL
  go_wp2_with fail
  refine (wire_Open.calls Ax cx l1 _ HCX.out.2.2 HCX.out.2.1 (by have := HLE.out; omega)).mono ?_
  rintro e wo ⟨g, A2, c2, rfl, hg, hblk, hc2, hC2, hty, hb⟩
  have HI := Aside0.mk (show IsRdr w wo g l1 0 true from ⟨Nat.le_trans HB.out.size hg, A2, c2, hblk, hc2, hC2, hty⟩)
  replace HB := Aside0.mk (below_step HB.out hb)
  clear hg hblk hc2 hC2 hty hb HCX
  go_wp2_with fail
  refine (entry_Take.calls 100 g l1 0 row m2 e2 ok w _ (HEM.out w g) HRR.out out HOUT.out HI.out HB.out).mono ?_
  rintro e wt ⟨v, rfl, hv, hi, hbx, hk⟩
  rw [← HZ.out] at hi
  obtain ⟨Ao, co, rfl⟩ := Kd.R_slice hv
  have HOC := Aside0.mk (Kd.R_reads' hv)
  replace HI := Aside0.mk hi
  replace HB := Aside0.mk hbx
  clear hi hbx hk hv
  go_wp2_with fail
  refine (entry_Put.calls 100 out.k out.o0 out.o1 out.o2 out.o3 out.o4 out.o5 out.o6 out.n out.ep out.by_ Ao co out.ch Lv ev _ HOC.out.2.2 HOC.out.2.1 HPV.out).mono ?_
  rintro e wd ⟨v, rfl, hv, hb⟩
  obtain ⟨Bv, dv, rfl⟩ := Kd.R_slice hv
  have HV := Aside0.mk (Kd.R_reads' hv).2.2
  replace HI := Aside0.mk (HI.out.below hb)
  replace HB := Aside0.mk (below_step HB.out hb)
  clear hb hv HOC
  go_wp2_with fail
  by_cases h0 : z = 0
  focus
    as_aux_lemma =>
    obtain ⟨hbv, hev, hl0⟩ := HFV.out h0
    have hjl : l1.length = Lv.length + m2.length := by
      have := congrArg List.length hl0
      rw [List.length_append] at this
      exact this
    have HSL := Aside0.mk (show ∀ W : World, (Instr.slice 41 (.slice A1 l1.length c1) none (some (.int .i64 (Lv.length : Int))) none).run Try.prog W = .ok (.slice A1 Lv.length c1) W from fun W => by
      have := bytes_to A1 l1.length c1 (Lv.length : Int) (by omega) (by omega) hc1 W
      rwa [Int.toNat_natCast] at this)
    have HCT := Aside0.mk (show (Kd.int .u8).C w A1 Lv.length Lv by
      have q := Kd.C_take (m := Lv.length) H1.out (by omega)
      rw [show l1.take Lv.length = Lv by rw [hl0]; simp] at q
      exact q)
    have g1 : decide ((l1.length : Int) < (m2.length : Int)) = false := decide_eq_false (by omega)
    have g2 : decide ((m2.length : Int) ≤ (l1.length : Int)) = true := decide_eq_true (by omega)
    have g3 : decide (l1.length < m2.length) = false := decide_eq_false (by omega)
    have g4 : decide (m2.length ≤ l1.length) = true := decide_eq_true (by omega)
    have hq1 : (l1.length : Int) - (m2.length : Int) = (Lv.length : Int) := by omega
    have hw1 : wrap64 ((l1.length : Int) - (m2.length : Int)) = (Lv.length : Int) := by
      rw [hq1]
      exact Go.IntWalk.wrap64_in _ (by have := HLE.out; omega)
    have hw2 : IntKind.i64.wrap ((l1.length : Int) - (m2.length : Int)) = (Lv.length : Int) := (i64_w _).trans hw1
    have HI2 := Aside0.mk (show IsRdr w _ g m2 0 true by have q := HI.out; rw [h0] at q; exact q)
    clear HI
    have HI := HI2
    clear HI2 hl0 hjl hbv h0 hq1 HZ HFV
    subst hev
    refine start_ (n := 33) (S := fun w' => (convert 41 9 (.slice Bv Lv.length dv)).run Try.prog w' = .ok (.string (strOfNums Lv)) w' ∧ (convert 41 9 (.slice A1 Lv.length c1)).run Try.prog w' = .ok (.string (strOfNums Lv)) w' ∧ (Instr.slice 41 (.slice A1 l1.length c1) none (some (.int .i64 (Lv.length : Int))) none).run Try.prog w' = .ok (.slice A1 Lv.length c1) w') (ds := []) #[false, false, false, false, false, false, false, false, false, false, false, false, false, false, false, false, false, false, false, false, false, false, false, false, false, false, false, false, false, false, false, false, false] (by kernel_rfl) rfl rfl ⟨(Kd.C_string Try.underlying41 Try.underlying5 Try.underlying9 (by first | exact HV.out | exact Kd.C_drew HV.out)), (Kd.C_string Try.underlying41 Try.underlying5 Try.underlying9 (by first | exact Kd.C_below HCT.out HB.out | exact Kd.C_drew (Kd.C_below HCT.out HB.out))), (HSL.out _)⟩ (fun hHeld => ?_)
    refine with_tabW glebelaw11_EntryBack.tab10 glebelaw11_EntryBack.bits10 (fun HT_ HW_ => ?_)
    refine pure_ (i := 0) (N := some 58) (v := ?_) (a' := ?_) #[true, false, false, false, false, false, false, false, false, false, false, false, false, false, false, false, false, false, false, false, false, false, false, false, false, false, false, false, false, false, false, false, false] rfl rfl (any_of HT_.out (by kernel_rfl)) (fun _ _ _ h => h) (Or.inl ⟨by rfl, ?_⟩) ?_ ?_
    rotate_left
    · intro w'
      go_simp
      with_reducible rfl
    rotate_left
    · simp only [Act.put, List.setIfInBounds_toArray, List.set_cons_zero, List.set_cons_succ, i64_w, i32_w]
      rfl
    refine one_ (i := 1) (N := some 59) #[true, true, false, false, false, false, false, false, false, false, false, false, false, false, false, false, false, false, false, false, false, false, false, false, false, false, false, false, false, false, false, false, false] rfl rfl (one_of HT_.out (by kernel_rfl)) (by decide) (fun K hK => ?_)
    refine goes_ Try.func34 (by kernel_rfl) rfl #[.pointer (some ⟨g, 0, none⟩)] (by rfl) rfl rfl (by simp only [List.map_toArray, List.map_cons, List.map_nil]; rfl) ?_
    with_reducible refine (wire_Reader_Err.calls g m2 0 true w _ (by first | exact HI.out | exact HI.out.drew)).mono ?_
    rintro e wx ⟨rfl, rfl⟩
    refine ⟨_, rfl, ?_⟩
    rw [if_pos (rfl : true = true)]
    refine hK.out _ _ ⟨(Kd.C_string Try.underlying41 Try.underlying5 Try.underlying9 (by first | exact HV.out | exact Kd.C_drew HV.out)), (Kd.C_string Try.underlying41 Try.underlying5 Try.underlying9 (by first | exact Kd.C_below HCT.out HB.out | exact Kd.C_drew (Kd.C_below HCT.out HB.out))), (HSL.out _)⟩ (fun hHeld => ?_)
    clear hK K
    refine norm_ (a' := ?_) ?_ ?_
    rotate_left
    · show Act.put _ (some 59) _ = _
      simp only [Act.put, List.setIfInBounds_toArray, List.set_cons_zero, List.set_cons_succ, i64_w, i32_w]
      rfl
    refine one_ (i := 2) (N := some 60) #[true, true, true, false, false, false, false, false, false, false, false, false, false, false, false, false, false, false, false, false, false, false, false, false, false, false, false, false, false, false, false, false, false] rfl rfl (one_of HT_.out (by kernel_rfl)) (by decide) (fun K hK => ?_)
    refine goes_ Try.func22 (by kernel_rfl) rfl #[.int .i64 0] (by rfl) rfl rfl (by simp only [List.map_toArray, List.map_cons, List.map_nil]; rfl) ?_
    with_reducible refine (glebelaw11_num.calls 0 0 _ rfl).mono ?_
    rintro e wx ⟨rfl, hbx0⟩
    refine ⟨_, rfl, ?_⟩
    have hbx := drawn_below hbx0
    replace HI := Aside0.mk (IsRdr.below (by first | exact HI.out | exact HI.out.drew) hbx)
    replace HV := Aside0.mk (Kd.C_below (by first | exact HV.out | exact Kd.C_drew HV.out) hbx)
    replace HB := Aside0.mk (show Below w.heap.size w wx from by first | exact below_step HB.out hbx | exact below_step (below_drew HB.out) hbx)
    clear hbx
    clear hbx0
    refine hK.out _ _ ⟨(Kd.C_string Try.underlying41 Try.underlying5 Try.underlying9 HV.out), (Kd.C_string Try.underlying41 Try.underlying5 Try.underlying9 (Kd.C_below HCT.out HB.out)), (HSL.out _)⟩ (fun hHeld => ?_)
    clear hK K
    refine norm_ (a' := ?_) ?_ ?_
    rotate_left
    · show Act.put _ (some 60) _ = _
      simp only [Act.put, List.setIfInBounds_toArray, List.set_cons_zero, List.set_cons_succ, i64_w, i32_w]
      rfl
    refine pure_ (i := 3) (N := some 61) (v := ?_) (a' := ?_) #[true, true, true, true, false, false, false, false, false, false, false, false, false, false, false, false, false, false, false, false, false, false, false, false, false, false, false, false, false, false, false, false, false] rfl rfl (any_of HT_.out (by kernel_rfl)) (fun _ _ _ h => h) (Or.inl ⟨by rfl, ?_⟩) ?_ ?_
    rotate_left
    · intro w'
      go_simp
      with_reducible rfl
    rotate_left
    · simp only [Act.put, List.setIfInBounds_toArray, List.set_cons_zero, List.set_cons_succ, i64_w, i32_w]
      rfl
    refine pure_ (i := 4) (N := some 62) (v := ?_) (a' := ?_) #[true, true, true, true, true, false, false, false, false, false, false, false, false, false, false, false, false, false, false, false, false, false, false, false, false, false, false, false, false, false, false, false, false] rfl rfl (any_of HT_.out (by kernel_rfl)) (fun _ _ _ h => h) (Or.inl ⟨by rfl, ?_⟩) ?_ ?_
    rotate_left
    · intro w'
      go_simp
      with_reducible rfl
    rotate_left
    · simp only [Act.put, List.setIfInBounds_toArray, List.set_cons_zero, List.set_cons_succ, i64_w, i32_w]
      rfl
    refine pure_ (i := 5) (N := some 63) (v := ?_) (a' := ?_) #[true, true, true, true, true, true, false, false, false, false, false, false, false, false, false, false, false, false, false, false, false, false, false, false, false, false, false, false, false, false, false, false, false] rfl rfl (any_of HT_.out (by kernel_rfl)) (fun _ _ _ h => h) (Or.inl ⟨by rfl, ?_⟩) ?_ ?_
    rotate_left
    · intro w'
      go_simp
      with_reducible rfl
    rotate_left
    · simp only [Act.put, List.setIfInBounds_toArray, List.set_cons_zero, List.set_cons_succ, i64_w, i32_w]
      rfl
    refine one_ (i := 6) (N := some 64) #[true, true, true, true, true, true, true, false, false, false, false, false, false, false, false, false, false, false, false, false, false, false, false, false, false, false, false, false, false, false, false, false, false] rfl rfl (one_of HT_.out (by kernel_rfl)) (by decide) (fun K hK => ?_)
    refine goes_ Try.func22 (by kernel_rfl) rfl #[.int .i64 0] (by rfl) rfl rfl (by simp only [List.map_toArray, List.map_cons, List.map_nil]; rfl) ?_
    with_reducible refine (glebelaw11_num.calls 0 0 _ rfl).mono ?_
    rintro e wx ⟨rfl, hbx0⟩
    refine ⟨_, rfl, ?_⟩
    have hbx := drawn_below hbx0
    replace HI := Aside0.mk (IsRdr.below (by first | exact HI.out | exact HI.out.drew) hbx)
    replace HV := Aside0.mk (Kd.C_below (by first | exact HV.out | exact Kd.C_drew HV.out) hbx)
    replace HB := Aside0.mk (show Below w.heap.size w wx from by first | exact below_step HB.out hbx | exact below_step (below_drew HB.out) hbx)
    clear hbx
    clear hbx0
    refine hK.out _ _ ⟨(Kd.C_string Try.underlying41 Try.underlying5 Try.underlying9 HV.out), (Kd.C_string Try.underlying41 Try.underlying5 Try.underlying9 (Kd.C_below HCT.out HB.out)), (HSL.out _)⟩ (fun hHeld => ?_)
    clear hK K
    refine norm_ (a' := ?_) ?_ ?_
    rotate_left
    · show Act.put _ (some 64) _ = _
      simp only [Act.put, List.setIfInBounds_toArray, List.set_cons_zero, List.set_cons_succ, i64_w, i32_w]
      rfl
    refine pure_ (i := 7) (N := some 65) (v := ?_) (a' := ?_) #[true, true, true, true, true, true, true, true, false, false, false, false, false, false, false, false, false, false, false, false, false, false, false, false, false, false, false, false, false, false, false, false, false] rfl rfl (any_of HT_.out (by kernel_rfl)) (fun _ _ _ h => h) (Or.inl ⟨by rfl, ?_⟩) ?_ ?_
    rotate_left
    · intro w'
      go_simp
      with_reducible rfl
    rotate_left
    · simp only [Act.put, List.setIfInBounds_toArray, List.set_cons_zero, List.set_cons_succ, i64_w, i32_w]
      rfl
    refine pure_ (i := 8) (N := some 66) (v := ?_) (a' := ?_) #[true, true, true, true, true, true, true, true, true, false, false, false, false, false, false, false, false, false, false, false, false, false, false, false, false, false, false, false, false, false, false, false, false] rfl rfl (any_of HT_.out (by kernel_rfl)) (fun _ _ _ h => h) (Or.inl ⟨by rfl, ?_⟩) ?_ ?_
    rotate_left
    · intro w'
      go_simp
      with_reducible rfl
    rotate_left
    · simp only [Act.put, List.setIfInBounds_toArray, List.set_cons_zero, List.set_cons_succ, i64_w, i32_w]
      rfl
    refine pure_ (i := 9) (N := some 67) (v := ?_) (a' := ?_) #[true, true, true, true, true, true, true, true, true, true, false, false, false, false, false, false, false, false, false, false, false, false, false, false, false, false, false, false, false, false, false, false, false] rfl rfl (any_of HT_.out (by kernel_rfl)) (fun _ _ _ h => h) (Or.inl ⟨by rfl, ?_⟩) ?_ ?_
    rotate_left
    · intro w'
      go_simp
      with_reducible rfl
    rotate_left
    · simp only [Act.put, List.setIfInBounds_toArray, List.set_cons_zero, List.set_cons_succ, i64_w, i32_w]
      rfl
    refine pure_ (i := 11) (N := some 69) (v := ?_) (a' := ?_) #[true, true, true, true, true, true, true, true, true, true, false, true, false, false, false, false, false, false, false, false, false, false, false, false, false, false, false, false, false, false, false, false, false] rfl rfl (any_of HT_.out (by kernel_rfl)) (fun _ _ _ h => h) (Or.inl ⟨by rfl, ?_⟩) ?_ ?_
    rotate_left
    · intro w'
      go_simp
      with_reducible rfl
    rotate_left
    · simp only [Act.put, List.setIfInBounds_toArray, List.set_cons_zero, List.set_cons_succ, i64_w, i32_w]
      rfl
    refine pure_ (i := 12) (N := some 70) (v := ?_) (a' := ?_) #[true, true, true, true, true, true, true, true, true, true, false, true, true, false, false, false, false, false, false, false, false, false, false, false, false, false, false, false, false, false, false, false, false] rfl rfl (any_of HT_.out (by kernel_rfl)) (fun _ _ _ h => h) (Or.inl ⟨by rfl, ?_⟩) ?_ ?_
    rotate_left
    · intro w'
      go_simp
      with_reducible rfl
    rotate_left
    · simp only [Act.put, List.setIfInBounds_toArray, List.set_cons_zero, List.set_cons_succ, i64_w, i32_w]
      rfl
    refine one_ (i := 10) (N := some 68) #[true, true, true, true, true, true, true, true, true, true, true, true, true, false, false, false, false, false, false, false, false, false, false, false, false, false, false, false, false, false, false, false, false] rfl rfl (one_of HT_.out (by kernel_rfl)) (by decide) (fun K hK => ?_)
    refine goes_ Try.func35 (by kernel_rfl) rfl #[.pointer (some ⟨g, 0, none⟩)] (by rfl) rfl rfl (by simp only [List.map_toArray, List.map_cons, List.map_nil]; rfl) ?_
    with_reducible refine (wire_Reader_Left.calls g m2 0 true w _ HI.out).mono ?_
    rintro e wx ⟨rfl, rfl⟩
    refine ⟨_, rfl, ?_⟩
    rw [if_pos (show rdOk 0 true = true from rfl)]
    refine hK.out _ _ ⟨(Kd.C_string Try.underlying41 Try.underlying5 Try.underlying9 HV.out), (Kd.C_string Try.underlying41 Try.underlying5 Try.underlying9 (Kd.C_below HCT.out HB.out)), (HSL.out _)⟩ (fun hHeld => ?_)
    clear hK K
    refine norm_ (a' := ?_) ?_ ?_
    rotate_left
    · show Act.put _ (some 68) _ = _
      simp only [Act.put, List.setIfInBounds_toArray, List.set_cons_zero, List.set_cons_succ, i64_w, i32_w]
      rfl
    refine pure_ (i := 13) (N := some 71) (v := ?_) (a' := ?_) #[true, true, true, true, true, true, true, true, true, true, true, true, true, true, false, false, false, false, false, false, false, false, false, false, false, false, false, false, false, false, false, false, false] rfl rfl (any_of HT_.out (by kernel_rfl)) (fun _ _ _ h => h) (Or.inl ⟨by rfl, ?_⟩) ?_ ?_
    rotate_left
    · intro w'
      go_simp
      with_reducible rfl
    rotate_left
    · simp only [Act.put, List.setIfInBounds_toArray, List.set_cons_zero, List.set_cons_succ, i64_w, i32_w]
      rfl
    refine pure_ (i := 14) (N := some 72) (v := ?_) (a' := ?_) #[true, true, true, true, true, true, true, true, true, true, true, true, true, true, true, false, false, false, false, false, false, false, false, false, false, false, false, false, false, false, false, false, false] rfl rfl (any_of HT_.out (by kernel_rfl)) (fun _ _ _ h => h) (Or.inl ⟨by rfl, ?_⟩) ?_ ?_
    rotate_left
    · intro w'
      go_simp
      with_reducible rfl
    rotate_left
    · simp only [Act.put, List.setIfInBounds_toArray, List.set_cons_zero, List.set_cons_succ, i64_w, i32_w]
      rfl
    refine pure_ (i := 15) (N := some 73) (v := ?_) (a' := ?_) #[true, true, true, true, true, true, true, true, true, true, true, true, true, true, true, true, false, false, false, false, false, false, false, false, false, false, false, false, false, false, false, false, false] rfl rfl (any_of HT_.out (by kernel_rfl)) (fun _ _ _ h => h) (Or.inl ⟨by rfl, ?_⟩) ?_ ?_
    rotate_left
    · intro w'
      go_simp
      with_reducible rfl
    rotate_left
    · simp only [Act.put, List.setIfInBounds_toArray, List.set_cons_zero, List.set_cons_succ, i64_w, i32_w]
      rfl
    refine pure_ (i := 16) (N := some 74) (v := ?_) (a' := ?_) #[true, true, true, true, true, true, true, true, true, true, true, true, true, true, true, true, true, false, false, false, false, false, false, false, false, false, false, false, false, false, false, false, false] rfl rfl (any_of HT_.out (by kernel_rfl)) (fun _ _ _ h => h) (Or.inl ⟨by rfl, ?_⟩) ?_ ?_
    rotate_left
    · intro w'
      go_simp
      with_reducible rfl
    rotate_left
    · simp only [Act.put, List.setIfInBounds_toArray, List.set_cons_zero, List.set_cons_succ, i64_w, i32_w]
      rfl
    refine pure_ (i := 18) (N := some 76) (v := ?_) (a' := ?_) #[true, true, true, true, true, true, true, true, true, true, true, true, true, true, true, true, true, false, true, false, false, false, false, false, false, false, false, false, false, false, false, false, false] rfl rfl (any_of HT_.out (by kernel_rfl)) (fun _ _ _ h => h) (Or.inl ⟨by rfl, ?_⟩) ?_ ?_
    rotate_left
    · intro w'
      go_simp
      with_reducible rfl
    rotate_left
    · simp only [Act.put, List.setIfInBounds_toArray, List.set_cons_zero, List.set_cons_succ, i64_w, i32_w]
      rfl
    refine pure_ (i := 19) (N := some 77) (v := ?_) (a' := ?_) #[true, true, true, true, true, true, true, true, true, true, true, true, true, true, true, true, true, false, true, true, false, false, false, false, false, false, false, false, false, false, false, false, false] rfl rfl (any_of HT_.out (by kernel_rfl)) (fun _ _ _ h => h) (Or.inl ⟨by rfl, ?_⟩) ?_ ?_
    rotate_left
    · intro w'
      go_simp
      with_reducible rfl
    rotate_left
    · simp only [Act.put, List.setIfInBounds_toArray, List.set_cons_zero, List.set_cons_succ, i64_w, i32_w]
      rfl
    refine pure_ (i := 20) (N := some 78) (v := ?_) (a' := ?_) #[true, true, true, true, true, true, true, true, true, true, true, true, true, true, true, true, true, false, true, true, true, false, false, false, false, false, false, false, false, false, false, false, false] rfl rfl (any_of HT_.out (by kernel_rfl)) (fun _ _ _ h => h) (Or.inl ⟨by rfl, ?_⟩) ?_ ?_
    rotate_left
    · intro w'
      go_simp
      with_reducible rfl
    rotate_left
    · simp only [Act.put, List.setIfInBounds_toArray, List.set_cons_zero, List.set_cons_succ, i64_w, i32_w]
      rfl
    refine pure_ (i := 21) (N := some 79) (v := ?_) (a' := ?_) #[true, true, true, true, true, true, true, true, true, true, true, true, true, true, true, true, true, false, true, true, true, true, false, false, false, false, false, false, false, false, false, false, false] rfl rfl (any_of HT_.out (by kernel_rfl)) (fun _ _ _ h => h) (Or.inl ⟨by rfl, ?_⟩) ?_ ?_
    rotate_left
    · intro w'
      go_simp
      with_reducible rfl
    rotate_left
    · simp only [Act.put, List.setIfInBounds_toArray, List.set_cons_zero, List.set_cons_succ, i64_w, i32_w]
      rfl
    refine take_ (i := 17) (N := some 75) (v := ?_) (a' := ?_) #[true, true, true, true, true, true, true, true, true, true, true, true, true, true, true, true, true, true, true, true, true, true, false, false, false, false, false, false, false, false, false, false, false] rfl rfl (take_ofW HT_.out HW_.out (by kernel_rfl)) (fun _ _ _ h => h) (Or.inl ⟨by rfl, ?_⟩) hHeld ?_ ?_
    rotate_left
    · rintro w' ⟨s0, s1, s2⟩
      go_simp
      with_reducible rfl
    rotate_left
    · simp only [Act.put, List.setIfInBounds_toArray, List.set_cons_zero, List.set_cons_succ, i64_w, i32_w]
      rfl
    refine one_ (i := 22) (N := some 80) #[true, true, true, true, true, true, true, true, true, true, true, true, true, true, true, true, true, true, true, true, true, true, true, false, false, false, false, false, false, false, false, false, false] rfl rfl (one_of HT_.out (by kernel_rfl)) (by decide) (fun K hK => ?_)
    refine goes_ Try.func35 (by kernel_rfl) rfl #[.pointer (some ⟨g, 0, none⟩)] (by rfl) rfl rfl (by simp only [List.map_toArray, List.map_cons, List.map_nil]; rfl) ?_
    with_reducible refine (wire_Reader_Left.calls g m2 0 true w _ HI.out).mono ?_
    rintro e wx ⟨rfl, rfl⟩
    refine ⟨_, rfl, ?_⟩
    rw [if_pos (show rdOk 0 true = true from rfl)]
    refine hK.out _ _ ⟨(Kd.C_string Try.underlying41 Try.underlying5 Try.underlying9 HV.out), (Kd.C_string Try.underlying41 Try.underlying5 Try.underlying9 (Kd.C_below HCT.out HB.out)), (HSL.out _)⟩ (fun hHeld => ?_)
    clear hK K
    refine norm_ (a' := ?_) ?_ ?_
    rotate_left
    · show Act.put _ (some 80) _ = _
      simp only [Act.put, List.setIfInBounds_toArray, List.set_cons_zero, List.set_cons_succ, i64_w, i32_w]
      rfl
    refine pure_ (i := 23) (N := some 81) (v := ?_) (a' := ?_) #[true, true, true, true, true, true, true, true, true, true, true, true, true, true, true, true, true, true, true, true, true, true, true, true, false, false, false, false, false, false, false, false, false] rfl rfl (any_of HT_.out (by kernel_rfl)) (fun _ _ _ h => h) (Or.inl ⟨by rfl, ?_⟩) ?_ ?_
    rotate_left
    · intro w'
      go_simp
      with_reducible rfl
    rotate_left
    · simp only [Act.put, List.setIfInBounds_toArray, List.set_cons_zero, List.set_cons_succ, i64_w, i32_w]
      rfl
    refine take_ (i := 24) (N := some 82) (v := ?_) (a' := ?_) #[true, true, true, true, true, true, true, true, true, true, true, true, true, true, true, true, true, true, true, true, true, true, true, true, true, false, false, false, false, false, false, false, false] rfl rfl (take_ofW HT_.out HW_.out (by kernel_rfl)) (fun _ _ _ h => h) (Or.inl ⟨by rfl, ?_⟩) hHeld ?_ ?_
    rotate_left
    · rintro w' ⟨s0, s1, s2⟩
      go_simp
      with_reducible rfl
    rotate_left
    · simp only [Act.put, List.setIfInBounds_toArray, List.set_cons_zero, List.set_cons_succ, i64_w, i32_w]
      rfl
    refine take_ (i := 25) (N := some 83) (v := ?_) (a' := ?_) #[true, true, true, true, true, true, true, true, true, true, true, true, true, true, true, true, true, true, true, true, true, true, true, true, true, true, false, false, false, false, false, false, false] rfl rfl (take_ofW HT_.out HW_.out (by kernel_rfl)) (fun _ _ _ h => h) (Or.inl ⟨by rfl, ?_⟩) hHeld ?_ ?_
    rotate_left
    · rintro w' ⟨s0, s1, s2⟩
      go_simp
      with_reducible rfl
    rotate_left
    · simp only [Act.put, List.setIfInBounds_toArray, List.set_cons_zero, List.set_cons_succ, i64_w, i32_w]
      rfl
    refine pure_ (i := 26) (N := some 84) (v := ?_) (a' := ?_) #[true, true, true, true, true, true, true, true, true, true, true, true, true, true, true, true, true, true, true, true, true, true, true, true, true, true, true, false, false, false, false, false, false] rfl rfl (any_of HT_.out (by kernel_rfl)) (fun _ _ _ h => h) (Or.inl ⟨by rfl, ?_⟩) ?_ ?_
    rotate_left
    · intro w'
      go_simp
      with_reducible rfl
    rotate_left
    · simp only [Act.put, List.setIfInBounds_toArray, List.set_cons_zero, List.set_cons_succ, i64_w, i32_w]
      rfl
    refine pure_ (i := 27) (N := some 85) (v := ?_) (a' := ?_) #[true, true, true, true, true, true, true, true, true, true, true, true, true, true, true, true, true, true, true, true, true, true, true, true, true, true, true, true, false, false, false, false, false] rfl rfl (any_of HT_.out (by kernel_rfl)) (fun _ _ _ h => h) (Or.inl ⟨by rfl, ?_⟩) ?_ ?_
    rotate_left
    · intro w'
      go_simp
      with_reducible rfl
    rotate_left
    · simp only [Act.put, List.setIfInBounds_toArray, List.set_cons_zero, List.set_cons_succ, i64_w, i32_w]
      rfl
    refine pure_ (i := 28) (N := some 86) (v := ?_) (a' := ?_) #[true, true, true, true, true, true, true, true, true, true, true, true, true, true, true, true, true, true, true, true, true, true, true, true, true, true, true, true, true, false, false, false, false] rfl rfl (any_of HT_.out (by kernel_rfl)) (fun _ _ _ h => h) (Or.inl ⟨by rfl, ?_⟩) ?_ ?_
    rotate_left
    · intro w'
      go_simp
      with_reducible rfl
    rotate_left
    · simp only [Act.put, List.setIfInBounds_toArray, List.set_cons_zero, List.set_cons_succ, i64_w, i32_w]
      rfl
    refine pure_ (i := 29) (N := some 87) (v := ?_) (a' := ?_) #[true, true, true, true, true, true, true, true, true, true, true, true, true, true, true, true, true, true, true, true, true, true, true, true, true, true, true, true, true, true, false, false, false] rfl rfl (any_of HT_.out (by kernel_rfl)) (fun _ _ _ h => h) (Or.inl ⟨by rfl, ?_⟩) ?_ ?_
    rotate_left
    · intro w'
      go_simp
      with_reducible rfl
    rotate_left
    · simp only [Act.put, List.setIfInBounds_toArray, List.set_cons_zero, List.set_cons_succ, i64_w, i32_w]
      rfl
    refine one_ (i := 30) (N := some 88) #[true, true, true, true, true, true, true, true, true, true, true, true, true, true, true, true, true, true, true, true, true, true, true, true, true, true, true, true, true, true, true, false, false] rfl rfl (one_of HT_.out (by kernel_rfl)) (by decide) (fun K hK => ?_)
    refine goes_ Try.func8 (by kernel_rfl) rfl #[] (by rfl) rfl rfl (by simp only [List.map_toArray, List.map_cons, List.map_nil]) ?_
    with_reducible refine (glebelaw11_knows.calls true _ rfl).mono ?_
    rintro e wx ⟨rfl, hbx⟩
    refine ⟨_, rfl, ?_⟩
    replace HB := Aside0.mk (show Below w.heap.size w wx from by first | exact below_step HB.out hbx | exact below_step (below_drew HB.out) hbx)
    replace HV := Aside0.mk (Kd.C_below HV.out hbx)
    clear hbx
    refine hK.out _ _ ⟨(Kd.C_string Try.underlying41 Try.underlying5 Try.underlying9 HV.out), (Kd.C_string Try.underlying41 Try.underlying5 Try.underlying9 (Kd.C_below HCT.out HB.out)), (HSL.out _)⟩ (fun hHeld => ?_)
    clear hK K
    refine norm_ (a' := ?_) ?_ ?_
    rotate_left
    · show Act.put _ (some 88) _ = _
      simp only [Act.put, List.setIfInBounds_toArray, List.set_cons_zero, List.set_cons_succ, i64_w, i32_w]
      rfl
    refine pure_ (i := 31) (N := some 89) (v := ?_) (a' := ?_) #[true, true, true, true, true, true, true, true, true, true, true, true, true, true, true, true, true, true, true, true, true, true, true, true, true, true, true, true, true, true, true, true, false] rfl rfl (any_of HT_.out (by kernel_rfl)) (fun _ _ _ h => h) (Or.inl ⟨by rfl, ?_⟩) ?_ ?_
    rotate_left
    · intro w'
      go_simp
      with_reducible rfl
    rotate_left
    · simp only [Act.put, List.setIfInBounds_toArray, List.set_cons_zero, List.set_cons_succ, i64_w, i32_w]
      rfl
    refine pure_ (i := 32) (N := some 4) (v := ?_) (a' := ?_) #[true, true, true, true, true, true, true, true, true, true, true, true, true, true, true, true, true, true, true, true, true, true, true, true, true, true, true, true, true, true, true, true, true] rfl rfl (any_of HT_.out (by kernel_rfl)) (fun _ _ _ h => h) (Or.inl ⟨by rfl, ?_⟩) ?_ ?_
    rotate_left
    · intro w'
      go_simp
      with_reducible rfl
    rotate_left
    · simp only [Act.put, List.setIfInBounds_toArray, List.set_cons_zero, List.set_cons_succ, i64_w, i32_w]
      rfl
    refine done_ (done_of HT_.out (by kernel_rfl)) ?_
    go_wp2
    go_ret
    exact ⟨rfl, HB.out⟩
  as_aux_lemma =>
  have zn3 : (z == 0) = false := beq_eq_false_iff_ne.mpr h0
  have zn4 : (z != 0) = true := bne_iff_ne.mpr h0
  have zn5 : (z = 0) = False := eq_false h0
  clear h0 HZ HFV
  refine start_ (n := 33) (S := fun w' => True) (ds := []) #[false, false, false, false, false, false, false, false, false, false, false, false, false, false, false, false, false, false, false, false, false, false, false, false, false, false, false, false, false, false, false, false, false] (by kernel_rfl) rfl rfl trivial (fun hHeld => ?_)
  refine with_tabW glebelaw11_EntryBack.tab10 glebelaw11_EntryBack.bits10 (fun HT_ HW_ => ?_)
  refine pure_ (i := 0) (N := some 58) (v := ?_) (a' := ?_) #[true, false, false, false, false, false, false, false, false, false, false, false, false, false, false, false, false, false, false, false, false, false, false, false, false, false, false, false, false, false, false, false, false] rfl rfl (any_of HT_.out (by kernel_rfl)) (fun _ _ _ h => h) (Or.inl ⟨by rfl, ?_⟩) ?_ ?_
  rotate_left
  · intro w'
    go_simp
    with_reducible rfl
  rotate_left
  · simp only [Act.put, List.setIfInBounds_toArray, List.set_cons_zero, List.set_cons_succ, i64_w, i32_w]
    rfl
  refine one_ (i := 1) (N := some 59) #[true, true, false, false, false, false, false, false, false, false, false, false, false, false, false, false, false, false, false, false, false, false, false, false, false, false, false, false, false, false, false, false, false] rfl rfl (one_of HT_.out (by kernel_rfl)) (by decide) (fun K hK => ?_)
  refine goes_ Try.func34 (by kernel_rfl) rfl #[.pointer (some ⟨g, 0, none⟩)] (by rfl) rfl rfl (by simp only [List.map_toArray, List.map_cons, List.map_nil]; rfl) ?_
  with_reducible refine (wire_Reader_Err.calls g m2 z true w _ (by first | exact HI.out | exact HI.out.drew)).mono ?_
  rintro e wx ⟨rfl, rfl⟩
  refine ⟨_, rfl, ?_⟩
  rw [if_pos (rfl : true = true)]
  refine hK.out _ _ trivial (fun hHeld => ?_)
  clear hK K
  refine norm_ (a' := ?_) ?_ ?_
  rotate_left
  · show Act.put _ (some 59) _ = _
    simp only [Act.put, List.setIfInBounds_toArray, List.set_cons_zero, List.set_cons_succ, i64_w, i32_w]
    rfl
  refine one_ (i := 2) (N := some 60) #[true, true, true, false, false, false, false, false, false, false, false, false, false, false, false, false, false, false, false, false, false, false, false, false, false, false, false, false, false, false, false, false, false] rfl rfl (one_of HT_.out (by kernel_rfl)) (by decide) (fun K hK => ?_)
  refine goes_ Try.func22 (by kernel_rfl) rfl #[.int .i64 z] (by rfl) rfl rfl (by simp only [List.map_toArray, List.map_cons, List.map_nil]; rfl) ?_
  with_reducible refine (glebelaw11_num.calls z z _ rfl).mono ?_
  rintro e wx ⟨rfl, hbx0⟩
  refine ⟨_, rfl, ?_⟩
  have hbx := drawn_below hbx0
  replace HI := Aside0.mk (IsRdr.below (by first | exact HI.out | exact HI.out.drew) hbx)
  replace HV := Aside0.mk (Kd.C_below (by first | exact HV.out | exact Kd.C_drew HV.out) hbx)
  replace HB := Aside0.mk (show Below w.heap.size w wx from by first | exact below_step HB.out hbx | exact below_step (below_drew HB.out) hbx)
  clear hbx
  clear hbx0
  refine hK.out _ _ trivial (fun hHeld => ?_)
  clear hK K
  refine norm_ (a' := ?_) ?_ ?_
  rotate_left
  · show Act.put _ (some 60) _ = _
    simp only [Act.put, List.setIfInBounds_toArray, List.set_cons_zero, List.set_cons_succ, i64_w, i32_w]
    rfl
  refine pure_ (i := 3) (N := some 61) (v := ?_) (a' := ?_) #[true, true, true, true, false, false, false, false, false, false, false, false, false, false, false, false, false, false, false, false, false, false, false, false, false, false, false, false, false, false, false, false, false] rfl rfl (any_of HT_.out (by kernel_rfl)) (fun _ _ _ h => h) (Or.inl ⟨by rfl, ?_⟩) ?_ ?_
  rotate_left
  · intro w'
    go_simp
    with_reducible rfl
  rotate_left
  · simp only [Act.put, List.setIfInBounds_toArray, List.set_cons_zero, List.set_cons_succ, i64_w, i32_w]
    rfl
  refine pure_ (i := 4) (N := some 62) (v := ?_) (a' := ?_) #[true, true, true, true, true, false, false, false, false, false, false, false, false, false, false, false, false, false, false, false, false, false, false, false, false, false, false, false, false, false, false, false, false] rfl rfl (any_of HT_.out (by kernel_rfl)) (fun _ _ _ h => h) (Or.inl ⟨by rfl, ?_⟩) ?_ ?_
  rotate_left
  · intro w'
    go_simp
    with_reducible rfl
  rotate_left
  · simp only [Act.put, List.setIfInBounds_toArray, List.set_cons_zero, List.set_cons_succ, i64_w, i32_w]
    rfl
  refine pure_ (i := 5) (N := some 63) (v := undef) (a' := ?_) #[true, true, true, true, true, true, false, false, false, false, false, false, false, false, false, false, false, false, false, false, false, false, false, false, false, false, false, false, false, false, false, false, false] rfl rfl (any_of HT_.out (by kernel_rfl)) (fun _ _ _ h => h) (Or.inr ⟨by rfl, rfl⟩) ?_ ?_
  rotate_left
  · simp only [Act.put, List.setIfInBounds_toArray, List.set_cons_zero, List.set_cons_succ, i64_w, i32_w]
    rfl
  refine pure_ (i := 6) (N := some 64) (v := undef) (a' := ?_) #[true, true, true, true, true, true, true, false, false, false, false, false, false, false, false, false, false, false, false, false, false, false, false, false, false, false, false, false, false, false, false, false, false] rfl rfl (any_of HT_.out (by kernel_rfl)) (fun _ _ _ h => h) (Or.inr ⟨by rfl, rfl⟩) ?_ ?_
  rotate_left
  · simp only [Act.put, List.setIfInBounds_toArray, List.set_cons_zero, List.set_cons_succ, i64_w, i32_w]
    rfl
  refine pure_ (i := 7) (N := some 65) (v := undef) (a' := ?_) #[true, true, true, true, true, true, true, true, false, false, false, false, false, false, false, false, false, false, false, false, false, false, false, false, false, false, false, false, false, false, false, false, false] rfl rfl (any_of HT_.out (by kernel_rfl)) (fun _ _ _ h => h) (Or.inr ⟨by rfl, rfl⟩) ?_ ?_
  rotate_left
  · simp only [Act.put, List.setIfInBounds_toArray, List.set_cons_zero, List.set_cons_succ, i64_w, i32_w]
    rfl
  refine pure_ (i := 8) (N := some 66) (v := undef) (a' := ?_) #[true, true, true, true, true, true, true, true, true, false, false, false, false, false, false, false, false, false, false, false, false, false, false, false, false, false, false, false, false, false, false, false, false] rfl rfl (any_of HT_.out (by kernel_rfl)) (fun _ _ _ h => h) (Or.inr ⟨by rfl, rfl⟩) ?_ ?_
  rotate_left
  · simp only [Act.put, List.setIfInBounds_toArray, List.set_cons_zero, List.set_cons_succ, i64_w, i32_w]
    rfl
  refine pure_ (i := 9) (N := some 67) (v := undef) (a' := ?_) #[true, true, true, true, true, true, true, true, true, true, false, false, false, false, false, false, false, false, false, false, false, false, false, false, false, false, false, false, false, false, false, false, false] rfl rfl (any_of HT_.out (by kernel_rfl)) (fun _ _ _ h => h) (Or.inr ⟨by rfl, rfl⟩) ?_ ?_
  rotate_left
  · simp only [Act.put, List.setIfInBounds_toArray, List.set_cons_zero, List.set_cons_succ, i64_w, i32_w]
    rfl
  refine pure_ (i := 10) (N := some 68) (v := undef) (a' := ?_) #[true, true, true, true, true, true, true, true, true, true, true, false, false, false, false, false, false, false, false, false, false, false, false, false, false, false, false, false, false, false, false, false, false] rfl rfl (any_of HT_.out (by kernel_rfl)) (fun _ _ _ h => h) (Or.inr ⟨by rfl, rfl⟩) ?_ ?_
  rotate_left
  · simp only [Act.put, List.setIfInBounds_toArray, List.set_cons_zero, List.set_cons_succ, i64_w, i32_w]
    rfl
  refine pure_ (i := 11) (N := some 69) (v := undef) (a' := ?_) #[true, true, true, true, true, true, true, true, true, true, true, true, false, false, false, false, false, false, false, false, false, false, false, false, false, false, false, false, false, false, false, false, false] rfl rfl (any_of HT_.out (by kernel_rfl)) (fun _ _ _ h => h) (Or.inr ⟨by rfl, rfl⟩) ?_ ?_
  rotate_left
  · simp only [Act.put, List.setIfInBounds_toArray, List.set_cons_zero, List.set_cons_succ, i64_w, i32_w]
    rfl
  refine pure_ (i := 12) (N := some 70) (v := undef) (a' := ?_) #[true, true, true, true, true, true, true, true, true, true, true, true, true, false, false, false, false, false, false, false, false, false, false, false, false, false, false, false, false, false, false, false, false] rfl rfl (any_of HT_.out (by kernel_rfl)) (fun _ _ _ h => h) (Or.inr ⟨by rfl, rfl⟩) ?_ ?_
  rotate_left
  · simp only [Act.put, List.setIfInBounds_toArray, List.set_cons_zero, List.set_cons_succ, i64_w, i32_w]
    rfl
  refine pure_ (i := 13) (N := some 71) (v := undef) (a' := ?_) #[true, true, true, true, true, true, true, true, true, true, true, true, true, true, false, false, false, false, false, false, false, false, false, false, false, false, false, false, false, false, false, false, false] rfl rfl (any_of HT_.out (by kernel_rfl)) (fun _ _ _ h => h) (Or.inr ⟨by rfl, rfl⟩) ?_ ?_
  rotate_left
  · simp only [Act.put, List.setIfInBounds_toArray, List.set_cons_zero, List.set_cons_succ, i64_w, i32_w]
    rfl
  refine pure_ (i := 14) (N := some 72) (v := undef) (a' := ?_) #[true, true, true, true, true, true, true, true, true, true, true, true, true, true, true, false, false, false, false, false, false, false, false, false, false, false, false, false, false, false, false, false, false] rfl rfl (any_of HT_.out (by kernel_rfl)) (fun _ _ _ h => h) (Or.inr ⟨by rfl, rfl⟩) ?_ ?_
  rotate_left
  · simp only [Act.put, List.setIfInBounds_toArray, List.set_cons_zero, List.set_cons_succ, i64_w, i32_w]
    rfl
  refine pure_ (i := 15) (N := some 73) (v := undef) (a' := ?_) #[true, true, true, true, true, true, true, true, true, true, true, true, true, true, true, true, false, false, false, false, false, false, false, false, false, false, false, false, false, false, false, false, false] rfl rfl (any_of HT_.out (by kernel_rfl)) (fun _ _ _ h => h) (Or.inr ⟨by rfl, rfl⟩) ?_ ?_
  rotate_left
  · simp only [Act.put, List.setIfInBounds_toArray, List.set_cons_zero, List.set_cons_succ, i64_w, i32_w]
    rfl
  refine pure_ (i := 16) (N := some 74) (v := undef) (a' := ?_) #[true, true, true, true, true, true, true, true, true, true, true, true, true, true, true, true, true, false, false, false, false, false, false, false, false, false, false, false, false, false, false, false, false] rfl rfl (any_of HT_.out (by kernel_rfl)) (fun _ _ _ h => h) (Or.inr ⟨by rfl, rfl⟩) ?_ ?_
  rotate_left
  · simp only [Act.put, List.setIfInBounds_toArray, List.set_cons_zero, List.set_cons_succ, i64_w, i32_w]
    rfl
  refine pure_ (i := 17) (N := some 75) (v := undef) (a' := ?_) #[true, true, true, true, true, true, true, true, true, true, true, true, true, true, true, true, true, true, false, false, false, false, false, false, false, false, false, false, false, false, false, false, false] rfl rfl (any_of HT_.out (by kernel_rfl)) (fun _ _ _ h => h) (Or.inr ⟨by rfl, rfl⟩) ?_ ?_
  rotate_left
  · simp only [Act.put, List.setIfInBounds_toArray, List.set_cons_zero, List.set_cons_succ, i64_w, i32_w]
    rfl
  refine pure_ (i := 18) (N := some 76) (v := undef) (a' := ?_) #[true, true, true, true, true, true, true, true, true, true, true, true, true, true, true, true, true, true, true, false, false, false, false, false, false, false, false, false, false, false, false, false, false] rfl rfl (any_of HT_.out (by kernel_rfl)) (fun _ _ _ h => h) (Or.inr ⟨by rfl, rfl⟩) ?_ ?_
  rotate_left
  · simp only [Act.put, List.setIfInBounds_toArray, List.set_cons_zero, List.set_cons_succ, i64_w, i32_w]
    rfl
  refine pure_ (i := 19) (N := some 77) (v := undef) (a' := ?_) #[true, true, true, true, true, true, true, true, true, true, true, true, true, true, true, true, true, true, true, true, false, false, false, false, false, false, false, false, false, false, false, false, false] rfl rfl (any_of HT_.out (by kernel_rfl)) (fun _ _ _ h => h) (Or.inr ⟨by rfl, rfl⟩) ?_ ?_
  rotate_left
  · simp only [Act.put, List.setIfInBounds_toArray, List.set_cons_zero, List.set_cons_succ, i64_w, i32_w]
    rfl
  refine pure_ (i := 20) (N := some 78) (v := undef) (a' := ?_) #[true, true, true, true, true, true, true, true, true, true, true, true, true, true, true, true, true, true, true, true, true, false, false, false, false, false, false, false, false, false, false, false, false] rfl rfl (any_of HT_.out (by kernel_rfl)) (fun _ _ _ h => h) (Or.inr ⟨by rfl, rfl⟩) ?_ ?_
  rotate_left
  · simp only [Act.put, List.setIfInBounds_toArray, List.set_cons_zero, List.set_cons_succ, i64_w, i32_w]
    rfl
  refine pure_ (i := 21) (N := some 79) (v := undef) (a' := ?_) #[true, true, true, true, true, true, true, true, true, true, true, true, true, true, true, true, true, true, true, true, true, true, false, false, false, false, false, false, false, false, false, false, false] rfl rfl (any_of HT_.out (by kernel_rfl)) (fun _ _ _ h => h) (Or.inr ⟨by rfl, rfl⟩) ?_ ?_
  rotate_left
  · simp only [Act.put, List.setIfInBounds_toArray, List.set_cons_zero, List.set_cons_succ, i64_w, i32_w]
    rfl
  refine pure_ (i := 22) (N := some 80) (v := undef) (a' := ?_) #[true, true, true, true, true, true, true, true, true, true, true, true, true, true, true, true, true, true, true, true, true, true, true, false, false, false, false, false, false, false, false, false, false] rfl rfl (any_of HT_.out (by kernel_rfl)) (fun _ _ _ h => h) (Or.inr ⟨by rfl, rfl⟩) ?_ ?_
  rotate_left
  · simp only [Act.put, List.setIfInBounds_toArray, List.set_cons_zero, List.set_cons_succ, i64_w, i32_w]
    rfl
  refine pure_ (i := 23) (N := some 81) (v := undef) (a' := ?_) #[true, true, true, true, true, true, true, true, true, true, true, true, true, true, true, true, true, true, true, true, true, true, true, true, false, false, false, false, false, false, false, false, false] rfl rfl (any_of HT_.out (by kernel_rfl)) (fun _ _ _ h => h) (Or.inr ⟨by rfl, rfl⟩) ?_ ?_
  rotate_left
  · simp only [Act.put, List.setIfInBounds_toArray, List.set_cons_zero, List.set_cons_succ, i64_w, i32_w]
    rfl
  refine pure_ (i := 24) (N := some 82) (v := undef) (a' := ?_) #[true, true, true, true, true, true, true, true, true, true, true, true, true, true, true, true, true, true, true, true, true, true, true, true, true, false, false, false, false, false, false, false, false] rfl rfl (any_of HT_.out (by kernel_rfl)) (fun _ _ _ h => h) (Or.inr ⟨by rfl, rfl⟩) ?_ ?_
  rotate_left
  · simp only [Act.put, List.setIfInBounds_toArray, List.set_cons_zero, List.set_cons_succ, i64_w, i32_w]
    rfl
  refine pure_ (i := 25) (N := some 83) (v := undef) (a' := ?_) #[true, true, true, true, true, true, true, true, true, true, true, true, true, true, true, true, true, true, true, true, true, true, true, true, true, true, false, false, false, false, false, false, false] rfl rfl (any_of HT_.out (by kernel_rfl)) (fun _ _ _ h => h) (Or.inr ⟨by rfl, rfl⟩) ?_ ?_
  rotate_left
  · simp only [Act.put, List.setIfInBounds_toArray, List.set_cons_zero, List.set_cons_succ, i64_w, i32_w]
    rfl
  refine pure_ (i := 26) (N := some 84) (v := undef) (a' := ?_) #[true, true, true, true, true, true, true, true, true, true, true, true, true, true, true, true, true, true, true, true, true, true, true, true, true, true, true, false, false, false, false, false, false] rfl rfl (any_of HT_.out (by kernel_rfl)) (fun _ _ _ h => h) (Or.inr ⟨by rfl, rfl⟩) ?_ ?_
  rotate_left
  · simp only [Act.put, List.setIfInBounds_toArray, List.set_cons_zero, List.set_cons_succ, i64_w, i32_w]
    rfl
  refine pure_ (i := 27) (N := some 85) (v := undef) (a' := ?_) #[true, true, true, true, true, true, true, true, true, true, true, true, true, true, true, true, true, true, true, true, true, true, true, true, true, true, true, true, false, false, false, false, false] rfl rfl (any_of HT_.out (by kernel_rfl)) (fun _ _ _ h => h) (Or.inr ⟨by rfl, rfl⟩) ?_ ?_
  rotate_left
  · simp only [Act.put, List.setIfInBounds_toArray, List.set_cons_zero, List.set_cons_succ, i64_w, i32_w]
    rfl
  refine pure_ (i := 28) (N := some 86) (v := ?_) (a' := ?_) #[true, true, true, true, true, true, true, true, true, true, true, true, true, true, true, true, true, true, true, true, true, true, true, true, true, true, true, true, true, false, false, false, false] rfl rfl (any_of HT_.out (by kernel_rfl)) (fun _ _ _ h => h) (Or.inl ⟨by rfl, ?_⟩) ?_ ?_
  rotate_left
  · intro w'
    go_simp
    with_reducible rfl
  rotate_left
  · simp only [Act.put, List.setIfInBounds_toArray, List.set_cons_zero, List.set_cons_succ, i64_w, i32_w]
    rfl
  refine pure_ (i := 29) (N := some 87) (v := ?_) (a' := ?_) #[true, true, true, true, true, true, true, true, true, true, true, true, true, true, true, true, true, true, true, true, true, true, true, true, true, true, true, true, true, true, false, false, false] rfl rfl (any_of HT_.out (by kernel_rfl)) (fun _ _ _ h => h) (Or.inl ⟨by rfl, ?_⟩) ?_ ?_
  rotate_left
  · intro w'
    go_simp
    with_reducible rfl
  rotate_left
  · simp only [Act.put, List.setIfInBounds_toArray, List.set_cons_zero, List.set_cons_succ, i64_w, i32_w]
    rfl
  refine one_ (i := 30) (N := some 88) #[true, true, true, true, true, true, true, true, true, true, true, true, true, true, true, true, true, true, true, true, true, true, true, true, true, true, true, true, true, true, true, false, false] rfl rfl (one_of HT_.out (by kernel_rfl)) (by decide) (fun K hK => ?_)
  refine goes_ Try.func8 (by kernel_rfl) rfl #[] (by rfl) rfl rfl (by simp only [List.map_toArray, List.map_cons, List.map_nil]) ?_
  with_reducible refine (glebelaw11_knows.calls true _ rfl).mono ?_
  rintro e wx ⟨rfl, hbx⟩
  refine ⟨_, rfl, ?_⟩
  replace HB := Aside0.mk (show Below w.heap.size w wx from by first | exact below_step HB.out hbx | exact below_step (below_drew HB.out) hbx)
  replace HV := Aside0.mk (Kd.C_below HV.out hbx)
  clear hbx
  refine hK.out _ _ trivial (fun hHeld => ?_)
  clear hK K
  refine norm_ (a' := ?_) ?_ ?_
  rotate_left
  · show Act.put _ (some 88) _ = _
    simp only [Act.put, List.setIfInBounds_toArray, List.set_cons_zero, List.set_cons_succ, i64_w, i32_w]
    rfl
  refine pure_ (i := 31) (N := some 89) (v := ?_) (a' := ?_) #[true, true, true, true, true, true, true, true, true, true, true, true, true, true, true, true, true, true, true, true, true, true, true, true, true, true, true, true, true, true, true, true, false] rfl rfl (any_of HT_.out (by kernel_rfl)) (fun _ _ _ h => h) (Or.inl ⟨by rfl, ?_⟩) ?_ ?_
  rotate_left
  · intro w'
    go_simp
    with_reducible rfl
  rotate_left
  · simp only [Act.put, List.setIfInBounds_toArray, List.set_cons_zero, List.set_cons_succ, i64_w, i32_w]
    rfl
  refine pure_ (i := 32) (N := some 4) (v := ?_) (a' := ?_) #[true, true, true, true, true, true, true, true, true, true, true, true, true, true, true, true, true, true, true, true, true, true, true, true, true, true, true, true, true, true, true, true, true] rfl rfl (any_of HT_.out (by kernel_rfl)) (fun _ _ _ h => h) (Or.inl ⟨by rfl, ?_⟩) ?_ ?_
  rotate_left
  · intro w'
    go_simp
    with_reducible rfl
  rotate_left
  · simp only [Act.put, List.setIfInBounds_toArray, List.set_cons_zero, List.set_cons_succ, i64_w, i32_w]
    rfl
  refine done_ (done_of HT_.out (by kernel_rfl)) ?_
  go_wp2
  go_ret
  exact ⟨rfl, HB.out⟩

end Go.Proofs.Ytampppdjfbabiaa.PE
