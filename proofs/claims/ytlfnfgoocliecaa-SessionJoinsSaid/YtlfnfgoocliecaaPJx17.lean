-- Written by a program of this session (wip/tools/hp.py) over the kit's print; nothing here is trusted: Lean checks it.
import Derived.RegionTactic
import Derived.BigRegion
import Derived.Test.YtlfnfgoocliecaaPJx0
import Derived.Test.YtlfnfgoocliecaaPJx2
import Derived.Test.YtlfnfgoocliecaaPJx5
import Derived.Test.YtlfnfgoocliecaaPJx9
import Derived.Test.YtlfnfgoocliecaaPJx14
import Derived.Test.YtlfnfgoocliecaaPJx15
import Derived.Test.YtlfnfgoocliecaaPJx16
namespace Go.Proofs.Ytlfnfgoocliecaa.PJ
open Go.RowKit Go.Proofs.YtlfnfgoocliecaaW.PrintWords Go.Proofs.YtlfnfgoocliecaaW.PrintLast Go.Proofs.YtlfnfgoocliecaaW.PrintMore
attribute [local go_sem] max2_int min2_int max_two min_two max_three min_three max_four min_four   -- for this text's walks alone
set_option linter.unusedVariables false
set_option linter.unusedSimpArgs false

--OWN Derived.RegionTactic,Derived.BigRegion
/-! ### gleberef09_Table_Note: function 38 -/
theorem tLook_zero (R : Nat → SRow) (c s : Int) : tLook R c s = 0 ↔ ¬ (0 ≤ c ∧ c < 8 ∧ 1 ≤ s ∧ s ≤ 1099511627776) := by
  unfold tLook
  constructor
  · intro h q
    rw [if_pos q] at h
    split at h
    · cases h
    · split at h <;> cases h
  · intro h
    rw [if_neg h]
theorem IsRTab.put {w0 W : World} {g : Nat} {R : Nat → SRow} (h : IsRTab w0 W g R) {c : Nat} (hc : c < 8) (r : SRow) : IsRTab w0 (((((W.setCell ⟨g, c, none⟩ (.int .i64 r.q)).setCell ⟨g, 8 + c * 4, none⟩ (.int .i64 r.e)).setCell ⟨g, 8 + c * 4 + 1, none⟩ (.bool r.f)).setCell ⟨g, 8 + c * 4 + 2, none⟩ (.string r.v)).setCell ⟨g, 8 + c * 4 + 3, none⟩ (.int .i64 r.n)) g (upd R c r) := by
  have q := blk_set (blk_set (blk_set (blk_set (blk_set h.blk c (.int .i64 r.q)) (8 + c * 4) (.int .i64 r.e)) (8 + c * 4 + 1) (.bool r.f)) (8 + c * 4 + 2) (.string r.v)) (8 + c * 4 + 3) (.int .i64 r.n)
  rw [rtab_upd R hc r] at q
  exact ⟨h.base, q⟩
set_option maxHeartbeats 4000000 in
set_option maxRecDepth 100000 in
theorem gleberef09_Table_Note.calls (g : Nat) (R : Nat → SRow) (c s : Int) (e : Int) (f : Bool) (v : ByteArray) (n : Int) (b : Bool) (w0 w : World) (hI : IsRTab w0 w g R) (hB : Below w0.heap.size w0 w) (h : gleberef07_RightAns.f e f v n = some b) :
    Calls Try.prog 38 #[.pointer (some ⟨g, 0, none⟩), .int .i64 c, .int .i64 s, .agg #[.int .i64 e, .bool f, .string v, .int .i64 n]] w fun ed w' => ed = .returned (.int .i64 (noteE R c s b)) ∧ IsRTab w0 w' g (noteR R c s b ⟨e, f, v, n, s⟩) ∧ Below w0.heap.size w0 w' ∧ KeepBut w w' g none := by
  have HI := Aside0.mk hI
  have HW := Aside0.mk hB
  have HRA := Aside0.mk h
  have HRI := Aside0.mk (right_eq c s)
  have HLK := Aside0.mk (fun W hW => gleberef09_Table_Look.calls g R c s w0 W hW)
  have hin : tLook R c s = 1 → 0 ≤ c ∧ c < 8 := tLook_in
  have hzero := tLook_zero R c s
  clear hI hB h
  unfold noteE noteR
  have hz := tLook_all R c s
  generalize hcn : c.toNat = m
  generalize tLook R c s = z at hz hin HLK hzero ⊢
  generalize hE : (if z = 0 then (1 : Int) else if b = false then 1 else if z = 1 then 0 else 44) = EE
  generalize hR : (if z = 1 ∧ b = true then upd R m ⟨e, f, v, n, s⟩ else R) = RR
  have hri : decide (0 ≤ c ∧ c < 8 ∧ 1 ≤ s ∧ s ≤ 1099511627776) = !(z == 0) := by
    by_cases q : z = 0
    · rw [decide_eq_false (hzero.mp q), q]
      rfl
    · rw [decide_eq_true (by simpa using fun k => q (hzero.mpr k)), beq_eq_false_iff_ne.mpr q]
      rfl
  rw [hri] at HRI
  clear hri hzero
  go_enter Try.func38, Try.ntmps38
  go_wp2_with (first | ((with_reducible refine gate_dst (N := 7) rfl ?_); refine box_event ?hg (N := 7) ?hd (cs := #[.int .i64 e, .bool f, .string v, .int .i64 n]) (t := 24) ?hr ?_; (case hd => rfl); (case hg => rfl); (case hr => first | (go_simp; done) | (go_simp; rfl)); intro gb hg wA hbox hb; have HBX := Aside0.mk hbox; have HB := Aside0.mk hb; have HG := Aside0.mk hg; clear hbox hb hg) | ((with_reducible refine gate_callee (f := 36) rfl ?_); fail))
  replace HI := Aside0.mk (HI.out.below HB.out)
  have HK := Aside0.mk (KeepBut.of_below HB.out g none)
  replace HW := Aside0.mk (below_step HW.out HB.out)
  clear HB
  refine (gleberef09_right.calls c s _ wA HRI.out).mono ?_
  rintro ed w1 ⟨rfl, hd⟩
  have hb := Drawn0.below hd
  replace HI := Aside0.mk (HI.out.below hb)
  replace HK := Aside0.mk (HK.out.trans (KeepBut.of_below hb g none) (.inl rfl))
  replace HW := Aside0.mk (below_step HW.out hb)
  replace HBX := Aside0.mk (blk_below HBX.out hb)
  clear hb hd
  rcases hz with rfl | rfl | hz
  · obtain rfl : EE = 1 := hE.symm.trans (if_pos rfl)
    obtain rfl : RR = R := hR.symm.trans (if_neg (by simp))
    have z0 : ((0 : Int) == 0) = true := rfl
    clear hE hR hin
    go_wp2
    go_ret
    exact ⟨rfl, HI.out, HW.out, HK.out⟩
  · have h0 := blk_cell HBX.out 0
    have h1 := blk_cell HBX.out 1
    have h2 := blk_cell HBX.out 2
    have h3 := blk_cell HBX.out 3
    go_wp2_with fail
    refine (gleberef07_RightAns.calls e f v n b _ HRA.out).mono ?_
    rintro ed wB ⟨rfl, hb⟩
    replace HI := Aside0.mk (HI.out.below hb)
    replace HK := Aside0.mk (HK.out.trans (KeepBut.of_below hb g none) (.inl rfl))
    replace HW := Aside0.mk (below_step HW.out hb)
    replace HBX := Aside0.mk (blk_below HBX.out hb)
    clear hb h0 h1 h2 h3
    cases b
    · obtain rfl : EE = 1 := hE.symm.trans (by simp)
      obtain rfl : RR = R := hR.symm.trans (if_neg (by simp))
      clear hE hR hin
      go_wp2
      go_ret
      exact ⟨rfl, HI.out, HW.out, HK.out⟩
    · obtain rfl : EE = 0 := hE.symm.trans (by simp)
      obtain rfl : RR = upd R m ⟨e, f, v, n, s⟩ := hR.symm.trans (if_pos (by simp))
      clear hE hR
      have hin := hin (by first | exact rfl | exact trivial)
      have hm : m < 8 := by omega
      obtain rfl : c = (m : Int) := by omega
      clear hin hcn
      go_wp2_with fail
      refine (HLK.out wB HI.out).mono ?_
      rintro ed wC ⟨rfl, hb⟩
      replace HI := Aside0.mk (HI.out.below hb)
      replace HK := Aside0.mk (HK.out.trans (KeepBut.of_below hb g none) (.inl rfl))
      replace HW := Aside0.mk (below_step HW.out hb)
      replace HBX := Aside0.mk (blk_below HBX.out hb)
      clear hb HLK
      obtain ⟨c0, c1, c2, c3, c4⟩ := HI.out.cells_ hm
      have f0 := blk_frozen HI.out.blk m
      have f1 := blk_frozen HI.out.blk (8 + m * 4)
      have f2 := blk_frozen HI.out.blk (8 + m * 4 + 1)
      have f3 := blk_frozen HI.out.blk (8 + m * 4 + 2)
      have f4 := blk_frozen HI.out.blk (8 + m * 4 + 3)
      have hml : (m : Int) < 8 := by omega
      go_wp2
      have hgg : gb ≠ g := blk_ne HBX.out HI.out.blk (by decide)
      have HBW := Aside0.mk (blk_set HI.out.blk m (.int .i64 s))
      have HBG := Aside0.mk (blk_far (p := ⟨g, m, none⟩) HBX.out hgg (.int .i64 s))
      have HWW := Aside0.mk (below_set (j := m) (v := .int .i64 s) HW.out HI.out.base)
      have HKW := Aside0.mk (HK.out.set_ m (.int .i64 s))
      have HP := Aside0.mk (IsRTab.put (r := ⟨e, f, v, n, s⟩) HI.out hm)
      clear c0 c1 c2 c3 c4 f0 f1 f2 f3 f4 HI HK HW HBX hgg
      dsimp only at HP
      generalize wC.setCell ⟨g, m, none⟩ (.int .i64 s) = W at HBW HBG HWW HKW HP ⊢
      have far : ∀ j : Nat, j ≠ m → W.cell? ⟨g, j, none⟩ = (rtabCells R)[j]? := fun j hj => (blk_cell HBW.out j).trans (Array.getElem?_setIfInBounds_ne (fun q => hj q.symm))
      obtain ⟨q0, q1, q2, q3, q4⟩ := rtab_cells R hm
      have c1 := (far (8 + m * 4) (by omega)).trans q1
      have c2 := (far (8 + m * 4 + 1) (by omega)).trans q2
      have c3 := (far (8 + m * 4 + 2) (by omega)).trans q3
      have c4 := (far (8 + m * 4 + 3) (by omega)).trans q4
      have f1 := blk_frozen HBW.out (8 + m * 4)
      have f2 := blk_frozen HBW.out (8 + m * 4 + 1)
      have f3 := blk_frozen HBW.out (8 + m * 4 + 2)
      have f4 := blk_frozen HBW.out (8 + m * 4 + 3)
      have e1 : W.drew.frozen? ⟨g, 8 + m * 4, none⟩ = false := f1
      have h0 := blk_cell HBG.out 0
      have h1 := blk_cell HBG.out 1
      have h2 := blk_cell HBG.out 2
      have h3 := blk_cell HBG.out 3
      clear far q0 q1 q2 q3 q4
      refine start_ (n := 7) (S := fun w' => w'.cell? ⟨gb, 0, none⟩ = some (.int .i64 e) ∧ w'.cell? ⟨gb, 1, none⟩ = some (.bool f) ∧ w'.cell? ⟨gb, 2, none⟩ = some (.string v) ∧ w'.cell? ⟨gb, 3, none⟩ = some (.int .i64 n)) (ds := [6]) #[false, false, false, false, false, false, false] (by kernel_rfl) rfl rfl ⟨h0, h1, h2, h3⟩ (fun hHeld => ?_)
      refine pure_ (i := 0) (N := some 29) (v := ?_) (a' := ?_) #[true, false, false, false, false, false, false] rfl rfl (by kernel_rfl) (fun _ _ _ h => h) (Or.inl ⟨by rfl, ?_⟩) ?_ ?_
      rotate_left
      · intro w'
        go_simp
        with_reducible rfl
      rotate_left
      · simp only [Act.put, List.setIfInBounds_toArray, List.set_cons_zero, List.set_cons_succ, i64_w, i32_w]
        rfl
      refine pure_ (i := 1) (N := some 30) (v := ?_) (a' := ?_) #[true, true, false, false, false, false, false] rfl rfl (by kernel_rfl) (fun _ _ _ h => h) (Or.inl ⟨by rfl, ?_⟩) ?_ ?_
      rotate_left
      · intro w'
        go_simp
        with_reducible rfl
      rotate_left
      · simp only [Act.put, List.setIfInBounds_toArray, List.set_cons_zero, List.set_cons_succ, i64_w, i32_w]
        rfl
      refine pure_ (i := 3) (N := some 32) (v := ?_) (a' := ?_) #[true, true, false, true, false, false, false] rfl rfl (by kernel_rfl) (fun _ _ _ h => h) (Or.inl ⟨by rfl, ?_⟩) ?_ ?_
      rotate_left
      · intro w'
        go_simp
        with_reducible rfl
      rotate_left
      · simp only [Act.put, List.setIfInBounds_toArray, List.set_cons_zero, List.set_cons_succ, i64_w, i32_w]
        rfl
      refine pure_ (i := 4) (N := some 33) (v := ?_) (a' := ?_) #[true, true, false, true, true, false, false] rfl rfl (by kernel_rfl) (fun _ _ _ h => h) (Or.inl ⟨by rfl, ?_⟩) ?_ ?_
      rotate_left
      · intro w'
        go_simp
        with_reducible rfl
      rotate_left
      · simp only [Act.put, List.setIfInBounds_toArray, List.set_cons_zero, List.set_cons_succ, i64_w, i32_w]
        rfl
      refine take_ (i := 2) (N := some 31) (v := ?_) (a' := ?_) #[true, true, true, true, true, false, false] rfl rfl (by kernel_rfl) (fun _ _ _ h => h) (Or.inl ⟨by rfl, ?_⟩) hHeld ?_ ?_
      rotate_left
      · rintro w' ⟨s0, s1, s2, s3⟩
        go_simp
        with_reducible rfl
      rotate_left
      · simp only [Act.put, List.setIfInBounds_toArray, List.set_cons_zero, List.set_cons_succ, i64_w, i32_w]
        rfl
      refine pure_ (i := 5) (N := some 34) (v := ?_) (a' := ?_) #[true, true, true, true, true, true, false] rfl rfl (by kernel_rfl) (fun _ _ _ h => h) (Or.inl ⟨by rfl, ?_⟩) ?_ ?_
      rotate_left
      · intro w'
        go_simp
        with_reducible rfl
      rotate_left
      · simp only [Act.put, List.setIfInBounds_toArray, List.set_cons_zero, List.set_cons_succ, i64_w, i32_w]
        rfl
      refine last_ (i := 6) (N := none) #[true, true, true, true, true, true, true] rfl rfl (by kernel_rfl) (by decide) (fun K hK => ?_)
      refine skip_ (w1 := ?_) (by rfl) rfl ?_ ?_
      rotate_left
      · go_simp
        rfl
      refine hK.out _ _ ?_
      clear hK K
      refine done_ (by kernel_rfl) ?_
      go_wp2
      go_ret
      exact ⟨rfl, ⟨HP.out.base, HP.out.blk⟩, below_drew (below_set (below_set (below_set (below_set HWW.out HP.out.base) HP.out.base) HP.out.base) HP.out.base), keep_drew ((((HKW.out.set_ _ _).set_ _ _).set_ _ _).set_ _ _)⟩
  · have z0 : (z == 0) = false := beq_eq_false_iff_ne.mpr (by omega)
    have z1 : (z != 1) = true := bne_iff_ne.mpr (by omega)
    obtain rfl : RR = R := hR.symm.trans (if_neg (by omega))
    have hE : (if b = false then (1 : Int) else 44) = EE := by rw [← hE, if_neg (show ¬ z = 0 by omega), if_neg (show ¬ z = 1 by omega)]
    have h0 := blk_cell HBX.out 0
    have h1 := blk_cell HBX.out 1
    have h2 := blk_cell HBX.out 2
    have h3 := blk_cell HBX.out 3
    clear hR hin hz
    go_wp2_with fail
    refine (gleberef07_RightAns.calls e f v n b _ HRA.out).mono ?_
    rintro ed wB ⟨rfl, hb⟩
    replace HI := Aside0.mk (HI.out.below hb)
    replace HK := Aside0.mk (HK.out.trans (KeepBut.of_below hb g none) (.inl rfl))
    replace HW := Aside0.mk (below_step HW.out hb)
    clear hb h0 h1 h2 h3
    cases b
    · obtain rfl : EE = 1 := hE.symm.trans (if_pos rfl)
      clear hE
      go_wp2
      go_ret
      exact ⟨rfl, HI.out, HW.out, HK.out⟩
    · obtain rfl : EE = 44 := hE.symm.trans (if_neg (by simp))
      clear hE
      go_wp2_with fail
      refine (HLK.out wB HI.out).mono ?_
      rintro ed wC ⟨rfl, hb⟩
      replace HI := Aside0.mk (HI.out.below hb)
      replace HK := Aside0.mk (HK.out.trans (KeepBut.of_below hb g none) (.inl rfl))
      replace HW := Aside0.mk (below_step HW.out hb)
      clear hb
      go_wp2
      go_ret
      exact ⟨rfl, HI.out, HW.out, HK.out⟩

end Go.Proofs.Ytlfnfgoocliecaa.PJ
