-- Written by a program of this session (wip/tools/hp.py) over the kit's print; nothing here is trusted: Lean checks it.
import Derived.RegionTactic
import Derived.BigRegion
import Derived.Test.YtimfeiobdcmhnaaWireSame
import Derived.Test.YtimfeiobdcmhnaaPRx0
import Derived.Test.YtimfeiobdcmhnaaPRx5
import Derived.Test.YtimfeiobdcmhnaaPRx9
import Derived.Test.YtimfeiobdcmhnaaPRx10
import Derived.Test.YtimfeiobdcmhnaaPRx12
import Derived.Test.YtimfeiobdcmhnaaPRx24
import Derived.Test.YtimfeiobdcmhnaaPRx33
import Derived.Test.YtimfeiobdcmhnaaPRx34
import Derived.Test.YtimfeiobdcmhnaaPRx35
import Derived.Test.YtimfeiobdcmhnaaPRx36
import Derived.Test.YtimfeiobdcmhnaaPRx37
import Derived.Test.YtimfeiobdcmhnaaPRx38
import Derived.Test.YtimfeiobdcmhnaaPRx39
import Derived.Test.YtimfeiobdcmhnaaPRx40
namespace Go.Proofs.Ytimfeiobdcmhnaa.PR
open Go.RowKit Go.Proofs.YtimfeiobdcmhnaaW.PrintWords Go.Proofs.YtimfeiobdcmhnaaW.PrintLast Go.Proofs.YtimfeiobdcmhnaaW.PrintMore
attribute [local go_sem] max2_int min2_int max_two min_two max_three min_three max_four min_four   -- for this text's walks alone
set_option linter.unusedVariables false
set_option linter.unusedSimpArgs false

--OWN Derived.RegionTactic,Derived.BigRegion,Derived.Test.YtimfeiobdcmhnaaWireSame
/-! ### glebelaw01_WireReads: function 13 -/
theorem add_next (ad : Addr) (k : Nat) : ad.add (k + 1) = ⟨(ad.add k).block, (ad.add k).off + 1, none⟩ := by
  unfold Addr.add
  by_cases h : k = 0
  · subst h
    simp
  · simp [h, Nat.add_assoc]
/-- A pair of numbers in a row. -/
theorem at_pair {w : World} {A : Option Addr} {xs : List (Int × Int)} (h : (Kd.pair (Kd.int .i64) (Kd.int .i64)).C w A xs.length xs) (j : Nat) (hj : j < xs.length) :
    ∃ ad, A = some ad ∧ w.cell? (ad.add (j * 2)) = some (.int .i64 (xs.getD j (0, 0)).1) ∧ w.cell? ⟨(ad.add (j * 2)).block, (ad.add (j * 2)).off + 1, none⟩ = some (.int .i64 (xs.getD j (0, 0)).2) := by
  obtain ⟨ad, c, e, hs, ⟨c0, c1, rfl, h0, h1⟩, hc⟩ := ReadsRow.get_ h (0, 0) (j : Int) (by omega) (by omega)
  rw [Int.toNat_natCast] at h0 h1 hc
  have h0 : c0 = [.int .i64 (xs.getD j (0, 0)).1] := h0
  have h1 : c1 = [.int .i64 (xs.getD j (0, 0)).2] := h1
  subst h0 h1
  exact ⟨ad, e, hc 0 _ rfl, (congrArg w.cell? (add_next ad (j * 2))).symm.trans (hc 1 _ rfl)⟩
theorem IsS94.keep {w0 W W1 : World} {g g' : Nat} {f0 : List Int} {f1 f2 : Int} (h : IsS94 w0 W g f0 f1 f2) (hk : KeepBut W W1 g' none) (hne : g ≠ g') : IsS94 w0 W1 g f0 f1 f2 := by
  obtain ⟨A0, c0, hb, hg, hr0⟩ := h
  exact ⟨A0, c0, hk.blk hb hne (by simp), hg, hr0⟩
theorem rdr_keep {w0 w w' : World} {g g' : Nat} {l : List Int} {e : Int} {m : Bool} {l2 : List Int} {a2 e2 : Int} (h : IsRdr w0 w g l e m) (hq : IsS94 w0 w g' l2 a2 e2) (hk : KeepBut w w' g' none) (hne : g' ≠ g) : IsRdr w0 w' g l e m := by
  obtain ⟨A0, c0, hb, hg, hr0⟩ := hq
  exact h.keep hk hne hb (by decide)
theorem rdr_ne {w0 w : World} {g g' : Nat} {l : List Int} {e : Int} {m : Bool} {l2 : List Int} {a2 e2 : Int} (h : IsRdr w0 w g l e m) (hq : IsS94 w0 w g' l2 a2 e2) : g' ≠ g := by
  obtain ⟨A0, c0, hb, hg, hr0⟩ := hq
  obtain ⟨A, c, q1, _⟩ := h.blk
  rintro rfl
  rw [q1] at hb
  injection hb with hb
  injection hb with _ hb
  exact absurd hb (by decide)
theorem IsS94.cell2 {w0 W : World} {g : Nat} {f0 : List Int} {f1 f2 : Int} (h : IsS94 w0 W g f0 f1 f2) : W.cell? ⟨g, 2, none⟩ = some (.int .i64 f2) := by
  obtain ⟨A0, c0, hb, hg, hr0⟩ := h
  exact cellS94_2 hb
def glebelaw01_WireReads.f (k : Nat) (l0 : List Int) (l1 : List (Int × Int)) : Option Bool := if ∀ z ∈ l0, 0 ≤ z ∧ z < 256 then some true else none
set_option maxHeartbeats 4000000 in
set_option maxRecDepth 100000 in
theorem glebelaw01_WireReads.calls (k : Nat) (A0 : Option Addr) (c0 : Nat) (l0 : List Int) (A1 : Option Addr) (c1 : Nat) (l1 : List (Int × Int)) (r : Bool) (w : World) (hr0 : Kd.C (Kd.int .u8) w A0 l0.length l0) (hc0 : l0.length ≤ c0) (hr1 : Kd.C (Kd.pair (Kd.int .i64) (Kd.int .i64)) w A1 l1.length l1) (hc1 : l1.length ≤ c1) (h : glebelaw01_WireReads.f k l0 l1 = some r) :
    Calls Try.prog 13 #[.slice A0 l0.length c0, .slice A1 l1.length c1] w fun e w' => e = .returned (.bool r) ∧ Below w.heap.size w w' := by
  unfold glebelaw01_WireReads.f at h
  by_cases hb0 : ∀ z ∈ l0, 0 ≤ z ∧ z < 256
  rotate_left
  · rw [if_neg hb0] at h
    cases h
  rw [if_pos hb0] at h
  obtain rfl := Option.some.inj h
  clear h
  have H0 := Aside0.mk hr0
  have H1 := Aside0.mk hr1
  have HBY := Aside0.mk hb0
  clear hr0 hr1 hb0
  rcases (show l0.length > 5000 ∨ (¬ l0.length > 5000 ∧ l1.length > 100) ∨ (¬ l0.length > 5000 ∧ ¬ l1.length > 100) by omega) with z | ⟨z, y⟩ | ⟨z, y⟩
  · have zb : decide ((5000 : Int) < (l0.length : Int)) = true := decide_eq_true (by omega)
    have zn : decide (5000 < l0.length) = true := decide_eq_true z
    clear z
    go_enter Try.func13, Try.ntmps13
    go_wp2_with fail
    refine (glebelaw01_knows.calls 0 true _ rfl).mono ?_
    rintro e w1 ⟨rfl, hb⟩
    have HB := Aside0.mk hb
    clear hb
    go_wp2
    go_ret
    exact ⟨rfl, HB.out⟩
  · have zb : decide ((5000 : Int) < (l0.length : Int)) = false := decide_eq_false (by omega)
    have zn : decide (5000 < l0.length) = false := decide_eq_false z
    have yb : decide ((100 : Int) < (l1.length : Int)) = true := decide_eq_true (by omega)
    have yn : decide (100 < l1.length) = true := decide_eq_true y
    clear z y
    go_enter Try.func13, Try.ntmps13
    go_wp2_with fail
    refine (glebelaw01_knows.calls 0 true _ rfl).mono ?_
    rintro e w1 ⟨rfl, hb⟩
    have HB := Aside0.mk hb
    clear hb
    go_wp2
    go_ret
    exact ⟨rfl, HB.out⟩
  · have zb : decide ((5000 : Int) < (l0.length : Int)) = false := decide_eq_false (by omega)
    have zn : decide (5000 < l0.length) = false := decide_eq_false z
    have yb : decide ((100 : Int) < (l1.length : Int)) = false := decide_eq_false (by omega)
    have yn : decide (100 < l1.length) = false := decide_eq_false y
    have hs0 : l0.length ≤ 1048576 := by omega
    have hs1 : l1.length ≤ 100 := by omega
    clear z y
    have HL0 := Aside0.mk (show glebelaw01_Lent.f l0 = some l0 by unfold glebelaw01_Lent.f; rw [if_pos (by omega)])
    go_enter Try.func13, Try.ntmps13
    go_wp2_with fail
    refine (glebelaw01_Lent.calls A0 c0 l0 l0 _ H0.out hc0 HL0.out).mono ?_
    rintro e wa ⟨vX, rfl, ⟨hrX, AX, cX, rfl, hcX, hX⟩, hb⟩
    have HX := Aside0.mk hX
    have HXr := Aside0.mk (Kd.R_reads' hrX).2.2
    have HBA := Aside0.mk hb
    replace H0 := Aside0.mk (Kd.C_below H0.out hb)
    replace H1 := Aside0.mk (Kd.C_below H1.out hb)
    clear hrX hX hb HL0
    go_wp2_with fail
    refine (wire_Open.calls AX cX l0 _ HXr.out (by omega) (by omega)).mono ?_
    rintro e wb ⟨g, AO, cO, rfl, hg1, hg2, hg3, hg4, hg5, hb⟩
    have HRD : Aside0 (IsRdr wa wb g l0 0 true) := ⟨⟨hg1, AO, cO, hg2, hg3, hg4, hg5⟩⟩
    have HB := Aside0.mk hb
    clear hg1 hg2 hg3 hg4 hg5 hb HXr
    go_wp2_with fail
    refine (gleberef01_Open.calls A0 c0 l0 l0 0 0 wa wb HB.out H0.out hc0 rfl).mono ?_
    rintro e wc ⟨q, rfl, hq, hb, hb2⟩
    replace HRD := Aside0.mk (HRD.out.below hb2)
    have HRQ := Aside0.mk hq
    replace HB := Aside0.mk hb
    have hne := rdr_ne HRD.out HRQ.out
    have HAG : Aside0 (Agree l0 l0 0 0) := ⟨⟨by omega, fun _ => by rw [List.drop_zero]⟩⟩
    clear hq hb hb2
    go_wp2
    go_loopw [8] (fun i wr => ∃ (j : Nat) (lz : List Int) (ez : Int) (pz : Nat), j ≤ l1.length ∧ i = .int .i64 j ∧ Aside0 (IsRdr wa wr g lz ez true) ∧ Aside0 (IsS94 wa wr q l0 (pz : Int) ez) ∧ Aside0 (Agree l0 lz ez pz) ∧ Aside0 (Below wa.heap.size wa wr)) (fun i _ => l1.length - (intOf i).toNat)
    case atStart => exact ⟨0, l0, 0, 0, by omega, rfl, HRD, HRQ, HAG, HB⟩
    case round =>
      obtain ⟨j, lz, ez, pz, hj, rfl, HRJ, HQJ, HAJ, HBJ⟩ := hrel
      clear HRD HRQ HAG HB
      by_cases hlt : j < l1.length
      · obtain ⟨ad, e1, hw1, hw2⟩ := at_pair H1.out j hlt
        cases e1
        generalize l1.getD j (0, 0) = x at hw1 hw2
        obtain ⟨kd, nn⟩ := x
        dsimp only at hw1 hw2
        have HW2 := Aside0.mk hw2
        have hk1 := (HBJ.out.cell (World.block_lt_of_cell? wa _ hw1)).trans hw1
        have hk2 := (HBJ.out.cell (World.block_lt_of_cell? wa _ hw2)).trans hw2
        clear hw1 hw2
        rcases (show kd = 0 ∨ kd = 1 ∨ kd = 2 ∨ kd = 3 ∨ (kd ≠ 0 ∧ kd ≠ 1 ∧ kd ≠ 2 ∧ kd ≠ 3) by omega) with rfl | rfl | rfl | rfl | ⟨x0, x1, x2, x3⟩
        focus
          obtain ⟨p2, hn, ha⟩ := ref_num hs0 HBY.out HAJ.out 20 (Nat.le_refl _)
          have HN := Aside0.mk hn
          replace HAJ := Aside0.mk ha
          clear hn ha
          go_wp2_with fail
          refine (wire_Reader_Num.calls g lz ez true wa _ HRJ.out HBJ.out).mono ?_
          rintro e wx ⟨rfl, hrd, hbx, hkx⟩
          replace HQJ := Aside0.mk (HQJ.out.keep hkx hne)
          replace HRJ := Aside0.mk hrd
          replace HBJ := Aside0.mk hbx
          clear hrd hbx hkx
          go_wp2_with fail
          refine (gleberef01_Reader_Num.calls 20 q l0 (pz : Int) ez _ _ _ wa _ HQJ.out HBJ.out HN.out).mono ?_
          rintro e wy ⟨rfl, hq, hb, hk⟩
          replace HRJ := Aside0.mk (rdr_keep HRJ.out HQJ.out hk hne)
          replace HQJ := Aside0.mk hq
          replace HBJ := Aside0.mk hb
          clear hq hb hk HN
          generalize rdNum lz ez true = N at HRJ HQJ HAJ ⊢
          obtain ⟨n, lz, ez⟩ := N
          dsimp only at HRJ HQJ HAJ ⊢
          have kk : (n != n) = false := bne_self_eq_false _
          clear hk1 hk2
          obtain ⟨pz, hpz⟩ : ∃ z, z = p2 := ⟨_, rfl⟩
          subst hpz
        rotate_left
        focus
          obtain ⟨p2, hn, ha⟩ := ref_upto hs0 HBY.out HAJ.out nn 20 (Nat.le_refl _)
          obtain ⟨n2, l2, e2, hU⟩ : ∃ a b c, rdUpto lz ez true nn = (a, b, c) := ⟨_, _, _, rfl⟩
          rw [hU] at hn ha
          dsimp only at hn ha
          have HN := Aside0.mk hn
          have HU := Aside0.mk hU
          have HA2 := Aside0.mk ha
          have kk : (n2 != n2) = false := bne_self_eq_false _
          clear hn ha hU hk2
          replace HRJ := Aside0.mk (HRJ.out.below (below_drew (Below.refl _ _)))
          replace HQJ := Aside0.mk (HQJ.out.below (below_drew (Below.refl _ _)))
          replace HBJ := Aside0.mk (below_drew HBJ.out)
          go_wp2_with fail
          refine start_ (n := 15) (S := fun w' => w'.cell? ⟨(ad.add (j * 2)).block, (ad.add (j * 2)).off + 1, none⟩ = some (.int .i64 nn)) (ds := []) #[false, false, false, false, false, false, false, false, false, false, false, false, false, false, false] (by kernel_rfl) rfl rfl (((HBJ.out.cell (World.block_lt_of_cell? wa _ HW2.out)).trans HW2.out)) (fun hHeld => ?_)
          refine pure_ (i := 0) (N := some 44) (v := ?_) (a' := ?_) #[true, false, false, false, false, false, false, false, false, false, false, false, false, false, false] rfl rfl (by kernel_rfl) (fun _ _ _ h => h) (Or.inl ⟨by rfl, ?_⟩) ?_ ?_
          rotate_left
          · intro w'
            go_simp
            with_reducible rfl
          rotate_left
          · simp only [Act.put, List.setIfInBounds_toArray, List.set_cons_zero, List.set_cons_succ, i64_w, i32_w]
            rfl
          refine pure_ (i := 1) (N := some 45) (v := ?_) (a' := ?_) #[true, true, false, false, false, false, false, false, false, false, false, false, false, false, false] rfl rfl (by kernel_rfl) (fun _ _ _ h => h) (Or.inl ⟨by rfl, ?_⟩) ?_ ?_
          rotate_left
          · intro w'
            go_simp
            with_reducible rfl
          rotate_left
          · simp only [Act.put, List.setIfInBounds_toArray, List.set_cons_zero, List.set_cons_succ, i64_w, i32_w]
            rfl
          refine pure_ (i := 2) (N := some 46) (v := ?_) (a' := ?_) #[true, true, true, false, false, false, false, false, false, false, false, false, false, false, false] rfl rfl (by kernel_rfl) (fun _ _ _ h => h) (Or.inl ⟨by rfl, ?_⟩) ?_ ?_
          rotate_left
          · intro w'
            go_simp
            with_reducible rfl
          rotate_left
          · simp only [Act.put, List.setIfInBounds_toArray, List.set_cons_zero, List.set_cons_succ, i64_w, i32_w]
            rfl
          refine pure_ (i := 3) (N := some 47) (v := ?_) (a' := ?_) #[true, true, true, true, false, false, false, false, false, false, false, false, false, false, false] rfl rfl (by kernel_rfl) (fun _ _ _ h => h) (Or.inl ⟨by rfl, ?_⟩) ?_ ?_
          rotate_left
          · intro w'
            go_simp
            with_reducible rfl
          rotate_left
          · simp only [Act.put, List.setIfInBounds_toArray, List.set_cons_zero, List.set_cons_succ, i64_w, i32_w]
            rfl
          refine pure_ (i := 4) (N := some 48) (v := ?_) (a' := ?_) #[true, true, true, true, true, false, false, false, false, false, false, false, false, false, false] rfl rfl (by kernel_rfl) (fun _ _ _ h => h) (Or.inl ⟨by rfl, ?_⟩) ?_ ?_
          rotate_left
          · intro w'
            go_simp
            with_reducible rfl
          rotate_left
          · simp only [Act.put, List.setIfInBounds_toArray, List.set_cons_zero, List.set_cons_succ, i64_w, i32_w]
            rfl
          refine pure_ (i := 7) (N := some 51) (v := ?_) (a' := ?_) #[true, true, true, true, true, false, false, true, false, false, false, false, false, false, false] rfl rfl (by kernel_rfl) (fun _ _ _ h => h) (Or.inl ⟨by rfl, ?_⟩) ?_ ?_
          rotate_left
          · intro w'
            go_simp
            with_reducible rfl
          rotate_left
          · simp only [Act.put, List.setIfInBounds_toArray, List.set_cons_zero, List.set_cons_succ, i64_w, i32_w]
            rfl
          refine pure_ (i := 8) (N := some 52) (v := ?_) (a' := ?_) #[true, true, true, true, true, false, false, true, true, false, false, false, false, false, false] rfl rfl (by kernel_rfl) (fun _ _ _ h => h) (Or.inl ⟨by rfl, ?_⟩) ?_ ?_
          rotate_left
          · intro w'
            go_simp
            with_reducible rfl
          rotate_left
          · simp only [Act.put, List.setIfInBounds_toArray, List.set_cons_zero, List.set_cons_succ, i64_w, i32_w]
            rfl
          refine pure_ (i := 9) (N := some 53) (v := ?_) (a' := ?_) #[true, true, true, true, true, false, false, true, true, true, false, false, false, false, false] rfl rfl (by kernel_rfl) (fun _ _ _ h => h) (Or.inl ⟨by rfl, ?_⟩) ?_ ?_
          rotate_left
          · intro w'
            go_simp
            with_reducible rfl
          rotate_left
          · simp only [Act.put, List.setIfInBounds_toArray, List.set_cons_zero, List.set_cons_succ, i64_w, i32_w]
            rfl
          refine pure_ (i := 10) (N := some 54) (v := ?_) (a' := ?_) #[true, true, true, true, true, false, false, true, true, true, true, false, false, false, false] rfl rfl (by kernel_rfl) (fun _ _ _ h => h) (Or.inl ⟨by rfl, ?_⟩) ?_ ?_
          rotate_left
          · intro w'
            go_simp
            with_reducible rfl
          rotate_left
          · simp only [Act.put, List.setIfInBounds_toArray, List.set_cons_zero, List.set_cons_succ, i64_w, i32_w]
            rfl
          refine pure_ (i := 11) (N := some 55) (v := ?_) (a' := ?_) #[true, true, true, true, true, false, false, true, true, true, true, true, false, false, false] rfl rfl (by kernel_rfl) (fun _ _ _ h => h) (Or.inl ⟨by rfl, ?_⟩) ?_ ?_
          rotate_left
          · intro w'
            go_simp
            with_reducible rfl
          rotate_left
          · simp only [Act.put, List.setIfInBounds_toArray, List.set_cons_zero, List.set_cons_succ, i64_w, i32_w]
            rfl
          refine take_ (i := 5) (N := some 49) (v := ?_) (a' := ?_) #[true, true, true, true, true, true, false, true, true, true, true, true, false, false, false] rfl rfl (by kernel_rfl) (fun _ _ _ h => h) (Or.inl ⟨by rfl, ?_⟩) hHeld ?_ ?_
          rotate_left
          · intro w' s0
            go_simp
            with_reducible rfl
          rotate_left
          · simp only [Act.put, List.setIfInBounds_toArray, List.set_cons_zero, List.set_cons_succ, i64_w, i32_w]
            rfl
          refine take_ (i := 12) (N := some 56) (v := ?_) (a' := ?_) #[true, true, true, true, true, true, false, true, true, true, true, true, true, false, false] rfl rfl (by kernel_rfl) (fun _ _ _ h => h) (Or.inl ⟨by rfl, ?_⟩) hHeld ?_ ?_
          rotate_left
          · intro w' s0
            go_simp
            with_reducible rfl
          rotate_left
          · simp only [Act.put, List.setIfInBounds_toArray, List.set_cons_zero, List.set_cons_succ, i64_w, i32_w]
            rfl
          refine one_ (i := 6) (N := some 50) #[true, true, true, true, true, true, true, true, true, true, true, true, true, false, false] rfl rfl (by kernel_rfl) (by decide) (fun K hK => ?_)
          refine goes_ Try.func53 (by kernel_rfl) rfl #[.pointer (some ⟨g, 0, none⟩), .int .i64 nn] (by rfl) rfl rfl (by simp only [List.map_toArray, List.map_cons, List.map_nil]; rfl) ?_
          with_reducible refine (wire_Reader_Upto.calls g lz ez true nn wa _ HRJ.out HBJ.out).mono ?_
          rintro e wx ⟨rfl, hrd, hbx, hkx⟩
          refine ⟨_, rfl, ?_⟩
          rw [HU.out] at hrd ⊢
          dsimp only at hrd ⊢
          replace HQJ := Aside0.mk (HQJ.out.keep hkx hne)
          replace HRJ := Aside0.mk hrd
          replace HBJ := Aside0.mk hbx
          clear hrd hbx hkx
          refine hK.out _ _ (((HBJ.out.cell (World.block_lt_of_cell? wa _ HW2.out)).trans HW2.out)) (fun hHeld => ?_)
          clear hK K
          refine norm_ (a' := ?_) ?_ ?_
          rotate_left
          · show Act.put _ (some 50) _ = _
            simp only [Act.put, List.setIfInBounds_toArray, List.set_cons_zero, List.set_cons_succ, i64_w, i32_w]
            rfl
          refine one_ (i := 13) (N := some 57) #[true, true, true, true, true, true, true, true, true, true, true, true, true, true, false] rfl rfl (by kernel_rfl) (by decide) (fun K hK => ?_)
          refine goes_ Try.func61 (by kernel_rfl) rfl #[.pointer (some ⟨q, 0, none⟩), .int .i64 nn] (by rfl) rfl rfl (by simp only [List.map_toArray, List.map_cons, List.map_nil]; rfl) ?_
          with_reducible refine (gleberef01_Reader_Upto.calls 20 q l0 (pz : Int) ez nn n2 (p2 : Int) e2 wa _ HQJ.out HBJ.out HN.out).mono ?_
          rintro e wx ⟨rfl, hq, hb, hk⟩
          refine ⟨_, rfl, ?_⟩
          replace HRJ := Aside0.mk (rdr_keep HRJ.out HQJ.out hk hne)
          replace HQJ := Aside0.mk hq
          replace HBJ := Aside0.mk hb
          clear hq hb hk
          refine hK.out _ _ (((HBJ.out.cell (World.block_lt_of_cell? wa _ HW2.out)).trans HW2.out)) (fun hHeld => ?_)
          clear hK K
          refine norm_ (a' := ?_) ?_ ?_
          rotate_left
          · show Act.put _ (some 57) _ = _
            simp only [Act.put, List.setIfInBounds_toArray, List.set_cons_zero, List.set_cons_succ, i64_w, i32_w]
            rfl
          refine pure_ (i := 14) (N := some 58) (v := ?_) (a' := ?_) #[true, true, true, true, true, true, true, true, true, true, true, true, true, true, true] rfl rfl (by kernel_rfl) (fun _ _ _ h => h) (Or.inl ⟨by rfl, ?_⟩) ?_ ?_
          rotate_left
          · intro w'
            go_simp
            with_reducible rfl
          rotate_left
          · simp only [Act.put, List.setIfInBounds_toArray, List.set_cons_zero, List.set_cons_succ, i64_w, i32_w]
            rfl
          refine done_ (by kernel_rfl) ?_
          clear HN HU HAJ
          have HAJ := HA2
          clear HA2
          obtain ⟨pz, hpz⟩ : ∃ z, z = p2 := ⟨_, rfl⟩
          subst hpz
          obtain ⟨lz, hlz⟩ : ∃ z, z = l2 := ⟨_, rfl⟩
          subst hlz
          obtain ⟨ez, hez⟩ : ∃ z, z = e2 := ⟨_, rfl⟩
          subst hez
          go_wp2
        rotate_left
        focus
          obtain ⟨p2, hn, ha⟩ := ref_text hs0 HBY.out HAJ.out nn 20 (Nat.le_refl _)
          obtain ⟨n2, l2, e2, hU⟩ : ∃ a b c, rdText lz ez true nn = (a, b, c) := ⟨_, _, _, rfl⟩
          rw [hU] at hn ha
          dsimp only at hn ha
          have HN := Aside0.mk hn
          have HU := Aside0.mk hU
          have HA2 := Aside0.mk ha
          have kk : ((strOfNums n2).toList != (strOfNums n2).toList) = false := bne_self_eq_false _
          clear hn ha hU hk2
          replace HRJ := Aside0.mk (HRJ.out.below (below_drew (Below.refl _ _)))
          replace HQJ := Aside0.mk (HQJ.out.below (below_drew (Below.refl _ _)))
          replace HBJ := Aside0.mk (below_drew HBJ.out)
          go_wp2_with fail
          refine start_ (n := 15) (S := fun w' => w'.cell? ⟨(ad.add (j * 2)).block, (ad.add (j * 2)).off + 1, none⟩ = some (.int .i64 nn)) (ds := []) #[false, false, false, false, false, false, false, false, false, false, false, false, false, false, false] (by kernel_rfl) rfl rfl (((HBJ.out.cell (World.block_lt_of_cell? wa _ HW2.out)).trans HW2.out)) (fun hHeld => ?_)
          refine pure_ (i := 0) (N := some 61) (v := ?_) (a' := ?_) #[true, false, false, false, false, false, false, false, false, false, false, false, false, false, false] rfl rfl (by kernel_rfl) (fun _ _ _ h => h) (Or.inl ⟨by rfl, ?_⟩) ?_ ?_
          rotate_left
          · intro w'
            go_simp
            with_reducible rfl
          rotate_left
          · simp only [Act.put, List.setIfInBounds_toArray, List.set_cons_zero, List.set_cons_succ, i64_w, i32_w]
            rfl
          refine pure_ (i := 1) (N := some 62) (v := ?_) (a' := ?_) #[true, true, false, false, false, false, false, false, false, false, false, false, false, false, false] rfl rfl (by kernel_rfl) (fun _ _ _ h => h) (Or.inl ⟨by rfl, ?_⟩) ?_ ?_
          rotate_left
          · intro w'
            go_simp
            with_reducible rfl
          rotate_left
          · simp only [Act.put, List.setIfInBounds_toArray, List.set_cons_zero, List.set_cons_succ, i64_w, i32_w]
            rfl
          refine pure_ (i := 2) (N := some 63) (v := ?_) (a' := ?_) #[true, true, true, false, false, false, false, false, false, false, false, false, false, false, false] rfl rfl (by kernel_rfl) (fun _ _ _ h => h) (Or.inl ⟨by rfl, ?_⟩) ?_ ?_
          rotate_left
          · intro w'
            go_simp
            with_reducible rfl
          rotate_left
          · simp only [Act.put, List.setIfInBounds_toArray, List.set_cons_zero, List.set_cons_succ, i64_w, i32_w]
            rfl
          refine pure_ (i := 3) (N := some 64) (v := ?_) (a' := ?_) #[true, true, true, true, false, false, false, false, false, false, false, false, false, false, false] rfl rfl (by kernel_rfl) (fun _ _ _ h => h) (Or.inl ⟨by rfl, ?_⟩) ?_ ?_
          rotate_left
          · intro w'
            go_simp
            with_reducible rfl
          rotate_left
          · simp only [Act.put, List.setIfInBounds_toArray, List.set_cons_zero, List.set_cons_succ, i64_w, i32_w]
            rfl
          refine pure_ (i := 4) (N := some 65) (v := ?_) (a' := ?_) #[true, true, true, true, true, false, false, false, false, false, false, false, false, false, false] rfl rfl (by kernel_rfl) (fun _ _ _ h => h) (Or.inl ⟨by rfl, ?_⟩) ?_ ?_
          rotate_left
          · intro w'
            go_simp
            with_reducible rfl
          rotate_left
          · simp only [Act.put, List.setIfInBounds_toArray, List.set_cons_zero, List.set_cons_succ, i64_w, i32_w]
            rfl
          refine pure_ (i := 7) (N := some 68) (v := ?_) (a' := ?_) #[true, true, true, true, true, false, false, true, false, false, false, false, false, false, false] rfl rfl (by kernel_rfl) (fun _ _ _ h => h) (Or.inl ⟨by rfl, ?_⟩) ?_ ?_
          rotate_left
          · intro w'
            go_simp
            with_reducible rfl
          rotate_left
          · simp only [Act.put, List.setIfInBounds_toArray, List.set_cons_zero, List.set_cons_succ, i64_w, i32_w]
            rfl
          refine pure_ (i := 8) (N := some 69) (v := ?_) (a' := ?_) #[true, true, true, true, true, false, false, true, true, false, false, false, false, false, false] rfl rfl (by kernel_rfl) (fun _ _ _ h => h) (Or.inl ⟨by rfl, ?_⟩) ?_ ?_
          rotate_left
          · intro w'
            go_simp
            with_reducible rfl
          rotate_left
          · simp only [Act.put, List.setIfInBounds_toArray, List.set_cons_zero, List.set_cons_succ, i64_w, i32_w]
            rfl
          refine pure_ (i := 9) (N := some 70) (v := ?_) (a' := ?_) #[true, true, true, true, true, false, false, true, true, true, false, false, false, false, false] rfl rfl (by kernel_rfl) (fun _ _ _ h => h) (Or.inl ⟨by rfl, ?_⟩) ?_ ?_
          rotate_left
          · intro w'
            go_simp
            with_reducible rfl
          rotate_left
          · simp only [Act.put, List.setIfInBounds_toArray, List.set_cons_zero, List.set_cons_succ, i64_w, i32_w]
            rfl
          refine pure_ (i := 10) (N := some 71) (v := ?_) (a' := ?_) #[true, true, true, true, true, false, false, true, true, true, true, false, false, false, false] rfl rfl (by kernel_rfl) (fun _ _ _ h => h) (Or.inl ⟨by rfl, ?_⟩) ?_ ?_
          rotate_left
          · intro w'
            go_simp
            with_reducible rfl
          rotate_left
          · simp only [Act.put, List.setIfInBounds_toArray, List.set_cons_zero, List.set_cons_succ, i64_w, i32_w]
            rfl
          refine pure_ (i := 11) (N := some 72) (v := ?_) (a' := ?_) #[true, true, true, true, true, false, false, true, true, true, true, true, false, false, false] rfl rfl (by kernel_rfl) (fun _ _ _ h => h) (Or.inl ⟨by rfl, ?_⟩) ?_ ?_
          rotate_left
          · intro w'
            go_simp
            with_reducible rfl
          rotate_left
          · simp only [Act.put, List.setIfInBounds_toArray, List.set_cons_zero, List.set_cons_succ, i64_w, i32_w]
            rfl
          refine take_ (i := 5) (N := some 66) (v := ?_) (a' := ?_) #[true, true, true, true, true, true, false, true, true, true, true, true, false, false, false] rfl rfl (by kernel_rfl) (fun _ _ _ h => h) (Or.inl ⟨by rfl, ?_⟩) hHeld ?_ ?_
          rotate_left
          · intro w' s0
            go_simp
            with_reducible rfl
          rotate_left
          · simp only [Act.put, List.setIfInBounds_toArray, List.set_cons_zero, List.set_cons_succ, i64_w, i32_w]
            rfl
          refine take_ (i := 12) (N := some 73) (v := ?_) (a' := ?_) #[true, true, true, true, true, true, false, true, true, true, true, true, true, false, false] rfl rfl (by kernel_rfl) (fun _ _ _ h => h) (Or.inl ⟨by rfl, ?_⟩) hHeld ?_ ?_
          rotate_left
          · intro w' s0
            go_simp
            with_reducible rfl
          rotate_left
          · simp only [Act.put, List.setIfInBounds_toArray, List.set_cons_zero, List.set_cons_succ, i64_w, i32_w]
            rfl
          refine one_ (i := 6) (N := some 67) #[true, true, true, true, true, true, true, true, true, true, true, true, true, false, false] rfl rfl (by kernel_rfl) (by decide) (fun K hK => ?_)
          refine goes_ Try.func54 (by kernel_rfl) rfl #[.pointer (some ⟨g, 0, none⟩), .int .i64 nn] (by rfl) rfl rfl (by simp only [List.map_toArray, List.map_cons, List.map_nil]; rfl) ?_
          with_reducible refine (wire_Reader_Text.calls g lz ez true nn wa _ HRJ.out HBJ.out).mono ?_
          rintro e wx ⟨rfl, hrd, hbx, hkx⟩
          refine ⟨_, rfl, ?_⟩
          rw [HU.out] at hrd ⊢
          dsimp only at hrd ⊢
          replace HQJ := Aside0.mk (HQJ.out.keep hkx hne)
          replace HRJ := Aside0.mk hrd
          replace HBJ := Aside0.mk hbx
          clear hrd hbx hkx
          refine hK.out _ _ (((HBJ.out.cell (World.block_lt_of_cell? wa _ HW2.out)).trans HW2.out)) (fun hHeld => ?_)
          clear hK K
          refine norm_ (a' := ?_) ?_ ?_
          rotate_left
          · show Act.put _ (some 67) _ = _
            simp only [Act.put, List.setIfInBounds_toArray, List.set_cons_zero, List.set_cons_succ, i64_w, i32_w]
            rfl
          refine one_ (i := 13) (N := some 74) #[true, true, true, true, true, true, true, true, true, true, true, true, true, true, false] rfl rfl (by kernel_rfl) (by decide) (fun K hK => ?_)
          refine goes_ Try.func62 (by kernel_rfl) rfl #[.pointer (some ⟨q, 0, none⟩), .int .i64 nn] (by rfl) rfl rfl (by simp only [List.map_toArray, List.map_cons, List.map_nil]; rfl) ?_
          with_reducible refine (gleberef01_Reader_Text.calls 20 q l0 (pz : Int) ez nn (strOfNums n2) (p2 : Int) e2 wa _ HQJ.out HBJ.out HN.out).mono ?_
          rintro e wx ⟨rfl, hq, hb, hk⟩
          refine ⟨_, rfl, ?_⟩
          replace HRJ := Aside0.mk (rdr_keep HRJ.out HQJ.out hk hne)
          replace HQJ := Aside0.mk hq
          replace HBJ := Aside0.mk hb
          clear hq hb hk
          refine hK.out _ _ (((HBJ.out.cell (World.block_lt_of_cell? wa _ HW2.out)).trans HW2.out)) (fun hHeld => ?_)
          clear hK K
          refine norm_ (a' := ?_) ?_ ?_
          rotate_left
          · show Act.put _ (some 74) _ = _
            simp only [Act.put, List.setIfInBounds_toArray, List.set_cons_zero, List.set_cons_succ, i64_w, i32_w]
            rfl
          refine pure_ (i := 14) (N := some 75) (v := ?_) (a' := ?_) #[true, true, true, true, true, true, true, true, true, true, true, true, true, true, true] rfl rfl (by kernel_rfl) (fun _ _ _ h => h) (Or.inl ⟨by rfl, ?_⟩) ?_ ?_
          rotate_left
          · intro w'
            go_simp
            with_reducible rfl
          rotate_left
          · simp only [Act.put, List.setIfInBounds_toArray, List.set_cons_zero, List.set_cons_succ, i64_w, i32_w]
            rfl
          refine done_ (by kernel_rfl) ?_
          clear HN HU HAJ
          have HAJ := HA2
          clear HA2
          obtain ⟨pz, hpz⟩ : ∃ z, z = p2 := ⟨_, rfl⟩
          subst hpz
          obtain ⟨lz, hlz⟩ : ∃ z, z = l2 := ⟨_, rfl⟩
          subst hlz
          obtain ⟨ez, hez⟩ : ∃ z, z = e2 := ⟨_, rfl⟩
          subst hez
          go_wp2
        rotate_left
        focus
          obtain ⟨hn, ha⟩ := ref_fail nn HAJ.out
          generalize hee : (if rdOk ez true = true then nn else ez) = e2 at hn ha
          have HE := Aside0.mk hee
          have HN := Aside0.mk hn
          replace HAJ := Aside0.mk ha
          clear hn ha hee
          go_wp2_with fail
          refine (wire_Reader_Fail.calls g lz ez true nn wa _ HRJ.out HBJ.out).mono ?_
          rintro e wx ⟨rfl, hrd, hbx, hkx⟩
          rw [HE.out] at hrd
          have hk3 := (hbx.cell (World.block_lt_of_cell? wa _ HW2.out)).trans HW2.out
          replace HQJ := Aside0.mk (HQJ.out.keep hkx hne)
          replace HRJ := Aside0.mk hrd
          replace HBJ := Aside0.mk hbx
          clear hrd hbx hkx hk1 hk2
          go_wp2_with fail
          refine (gleberef01_Reader_Fail.calls q l0 (pz : Int) ez nn (pz : Int) e2 wa _ HQJ.out HBJ.out HN.out).mono ?_
          rintro e wy ⟨rfl, hq, hb, hk⟩
          replace HRJ := Aside0.mk (rdr_keep HRJ.out HQJ.out hk hne)
          replace HQJ := Aside0.mk hq
          replace HBJ := Aside0.mk hb
          clear hq hb hk HN HE hk3
          obtain ⟨ez, hez⟩ : ∃ z, z = e2 := ⟨_, rfl⟩
          subst hez
          go_wp2
        rotate_left
        focus
          have y0 : (kd == 0) = false := beq_eq_false_iff_ne.mpr x0
          have y1 : (kd == 1) = false := beq_eq_false_iff_ne.mpr x1
          have y2 : (kd == 2) = false := beq_eq_false_iff_ne.mpr x2
          have y3 : (kd == 3) = false := beq_eq_false_iff_ne.mpr x3
          clear x0 x1 x2 x3
          go_wp2
        all_goals
          have hz1 := ref_left hs0 HAJ.out
          have hz2 := ref_done HAJ.out
          generalize hlf : (if rdOk ez true = true then (lz.length : Int) else 0) = lf at hz1
          have HLF := Aside0.mk hlf
          have HZ1 := Aside0.mk hz1
          have HZ2 := Aside0.mk hz2
          have m1 : (lf != lf) = false := bne_self_eq_false _
          have m2 : (ez != ez) = false := bne_self_eq_false _
          have m3 : (rdDone lz ez true != rdDone lz ez true) = false := bne_self_eq_false _
          clear hz1 hz2 hlf
          replace HRJ := Aside0.mk (HRJ.out.below (below_drew (Below.refl _ _)))
          replace HQJ := Aside0.mk (HQJ.out.below (below_drew (Below.refl _ _)))
          replace HBJ := Aside0.mk (below_drew HBJ.out)
          go_wp2_with fail
          refine start_ (n := 23) (S := fun w' => w'.cell? ⟨q, 2, none⟩ = some (.int .i64 ez)) (ds := []) #[false, false, false, false, false, false, false, false, false, false, false, false, false, false, false, false, false, false, false, false, false, false, false] (by kernel_rfl) rfl rfl ((IsS94.cell2 HQJ.out)) (fun hHeld => ?_)
          refine pure_ (i := 0) (N := some 92) (v := ?_) (a' := ?_) #[true, false, false, false, false, false, false, false, false, false, false, false, false, false, false, false, false, false, false, false, false, false, false] rfl rfl (by kernel_rfl) (fun _ _ _ h => h) (Or.inl ⟨by rfl, ?_⟩) ?_ ?_
          rotate_left
          · intro w'
            go_simp
            with_reducible rfl
          rotate_left
          · simp only [Act.put, List.setIfInBounds_toArray, List.set_cons_zero, List.set_cons_succ, i64_w, i32_w]
            rfl
          refine pure_ (i := 2) (N := some 94) (v := ?_) (a' := ?_) #[true, false, true, false, false, false, false, false, false, false, false, false, false, false, false, false, false, false, false, false, false, false, false] rfl rfl (by kernel_rfl) (fun _ _ _ h => h) (Or.inl ⟨by rfl, ?_⟩) ?_ ?_
          rotate_left
          · intro w'
            go_simp
            with_reducible rfl
          rotate_left
          · simp only [Act.put, List.setIfInBounds_toArray, List.set_cons_zero, List.set_cons_succ, i64_w, i32_w]
            rfl
          refine one_ (i := 1) (N := some 93) #[true, true, true, false, false, false, false, false, false, false, false, false, false, false, false, false, false, false, false, false, false, false, false] rfl rfl (by kernel_rfl) (by decide) (fun K hK => ?_)
          refine goes_ Try.func55 (by kernel_rfl) rfl #[.pointer (some ⟨g, 0, none⟩)] (by rfl) rfl rfl (by simp only [List.map_toArray, List.map_cons, List.map_nil]; rfl) ?_
          with_reducible refine (wire_Reader_Left.calls g lz ez true wa _ HRJ.out).mono ?_
          rintro e wx ⟨rfl, rfl⟩
          refine ⟨_, rfl, ?_⟩
          rw [HLF.out]
          refine hK.out _ _ ((IsS94.cell2 HQJ.out)) (fun hHeld => ?_)
          clear hK K
          refine norm_ (a' := ?_) ?_ ?_
          rotate_left
          · show Act.put _ (some 93) _ = _
            simp only [Act.put, List.setIfInBounds_toArray, List.set_cons_zero, List.set_cons_succ, i64_w, i32_w]
            rfl
          refine one_ (i := 3) (N := some 95) #[true, true, true, true, false, false, false, false, false, false, false, false, false, false, false, false, false, false, false, false, false, false, false] rfl rfl (by kernel_rfl) (by decide) (fun K hK => ?_)
          refine goes_ Try.func64 (by kernel_rfl) rfl #[.pointer (some ⟨q, 0, none⟩)] (by rfl) rfl rfl (by simp only [List.map_toArray, List.map_cons, List.map_nil]; rfl) ?_
          with_reducible refine (gleberef01_Reader_Left.calls q l0 (pz : Int) ez lf (pz : Int) ez wa _ HQJ.out HBJ.out HZ1.out).mono ?_
          rintro e wx ⟨rfl, hq, hb, hk⟩
          refine ⟨_, rfl, ?_⟩
          replace HRJ := Aside0.mk (rdr_keep HRJ.out HQJ.out hk hne)
          replace HQJ := Aside0.mk hq
          replace HBJ := Aside0.mk hb
          clear hq hb hk
          refine hK.out _ _ ((IsS94.cell2 HQJ.out)) (fun hHeld => ?_)
          clear hK K
          refine norm_ (a' := ?_) ?_ ?_
          rotate_left
          · show Act.put _ (some 95) _ = _
            simp only [Act.put, List.setIfInBounds_toArray, List.set_cons_zero, List.set_cons_succ, i64_w, i32_w]
            rfl
          refine pure_ (i := 4) (N := some 96) (v := ?_) (a' := ?_) #[true, true, true, true, true, false, false, false, false, false, false, false, false, false, false, false, false, false, false, false, false, false, false] rfl rfl (by kernel_rfl) (fun _ _ _ h => h) (Or.inl ⟨by rfl, ?_⟩) ?_ ?_
          rotate_left
          · intro w'
            go_simp
            with_reducible rfl
          rotate_left
          · simp only [Act.put, List.setIfInBounds_toArray, List.set_cons_zero, List.set_cons_succ, i64_w, i32_w]
            rfl
          refine pure_ (i := 5) (N := some 97) (v := ?_) (a' := ?_) #[true, true, true, true, true, true, false, false, false, false, false, false, false, false, false, false, false, false, false, false, false, false, false] rfl rfl (by kernel_rfl) (fun _ _ _ h => h) (Or.inl ⟨by rfl, ?_⟩) ?_ ?_
          rotate_left
          · intro w'
            go_simp
            with_reducible rfl
          rotate_left
          · simp only [Act.put, List.setIfInBounds_toArray, List.set_cons_zero, List.set_cons_succ, i64_w, i32_w]
            rfl
          refine pure_ (i := 6) (N := some 98) (v := ?_) (a' := ?_) #[true, true, true, true, true, true, true, false, false, false, false, false, false, false, false, false, false, false, false, false, false, false, false] rfl rfl (by kernel_rfl) (fun _ _ _ h => h) (Or.inl ⟨by rfl, ?_⟩) ?_ ?_
          rotate_left
          · intro w'
            go_simp
            with_reducible rfl
          rotate_left
          · simp only [Act.put, List.setIfInBounds_toArray, List.set_cons_zero, List.set_cons_succ, i64_w, i32_w]
            rfl
          refine pure_ (i := 9) (N := some 101) (v := ?_) (a' := ?_) #[true, true, true, true, true, true, true, false, false, true, false, false, false, false, false, false, false, false, false, false, false, false, false] rfl rfl (by kernel_rfl) (fun _ _ _ h => h) (Or.inl ⟨by rfl, ?_⟩) ?_ ?_
          rotate_left
          · intro w'
            go_simp
            with_reducible rfl
          rotate_left
          · simp only [Act.put, List.setIfInBounds_toArray, List.set_cons_zero, List.set_cons_succ, i64_w, i32_w]
            rfl
          refine pure_ (i := 10) (N := some 102) (v := ?_) (a' := ?_) #[true, true, true, true, true, true, true, false, false, true, true, false, false, false, false, false, false, false, false, false, false, false, false] rfl rfl (by kernel_rfl) (fun _ _ _ h => h) (Or.inl ⟨by rfl, ?_⟩) ?_ ?_
          rotate_left
          · intro w'
            go_simp
            with_reducible rfl
          rotate_left
          · simp only [Act.put, List.setIfInBounds_toArray, List.set_cons_zero, List.set_cons_succ, i64_w, i32_w]
            rfl
          refine pure_ (i := 11) (N := some 103) (v := ?_) (a' := ?_) #[true, true, true, true, true, true, true, false, false, true, true, true, false, false, false, false, false, false, false, false, false, false, false] rfl rfl (by kernel_rfl) (fun _ _ _ h => h) (Or.inl ⟨by rfl, ?_⟩) ?_ ?_
          rotate_left
          · intro w'
            go_simp
            with_reducible rfl
          rotate_left
          · simp only [Act.put, List.setIfInBounds_toArray, List.set_cons_zero, List.set_cons_succ, i64_w, i32_w]
            rfl
          refine take_ (i := 12) (N := some 104) (v := ?_) (a' := ?_) #[true, true, true, true, true, true, true, false, false, true, true, true, true, false, false, false, false, false, false, false, false, false, false] rfl rfl (by kernel_rfl) (fun _ _ _ h => h) (Or.inl ⟨by rfl, ?_⟩) hHeld ?_ ?_
          rotate_left
          · intro w' s0
            go_simp
            with_reducible rfl
          rotate_left
          · simp only [Act.put, List.setIfInBounds_toArray, List.set_cons_zero, List.set_cons_succ, i64_w, i32_w]
            rfl
          refine one_ (i := 7) (N := some 99) #[true, true, true, true, true, true, true, true, false, true, true, true, true, false, false, false, false, false, false, false, false, false, false] rfl rfl (by kernel_rfl) (by decide) (fun K hK => ?_)
          refine goes_ Try.func56 (by kernel_rfl) rfl #[.pointer (some ⟨g, 0, none⟩)] (by rfl) rfl rfl (by simp only [List.map_toArray, List.map_cons, List.map_nil]; rfl) ?_
          with_reducible refine (wire_Reader_Err.calls g lz ez true wa _ HRJ.out).mono ?_
          rintro e wx ⟨rfl, rfl⟩
          refine ⟨_, rfl, ?_⟩
          rw [if_pos (rfl : true = true)]
          refine hK.out _ _ ((IsS94.cell2 HQJ.out)) (fun hHeld => ?_)
          clear hK K
          refine norm_ (a' := ?_) ?_ ?_
          rotate_left
          · show Act.put _ (some 99) _ = _
            simp only [Act.put, List.setIfInBounds_toArray, List.set_cons_zero, List.set_cons_succ, i64_w, i32_w]
            rfl
          refine one_ (i := 8) (N := some 100) #[true, true, true, true, true, true, true, true, true, true, true, true, true, false, false, false, false, false, false, false, false, false, false] rfl rfl (by kernel_rfl) (by decide) (fun K hK => ?_)
          refine goes_ Try.func26 (by kernel_rfl) rfl #[.int .i64 (ez)] (by rfl) rfl rfl (by simp only [List.map_toArray, List.map_cons, List.map_nil]; rfl) ?_
          with_reducible refine (glebelaw01_num.calls (ez) (ez) _ rfl).mono ?_
          rintro e wx ⟨rfl, hbx0⟩
          refine ⟨_, rfl, ?_⟩
          have hbx := drawn_below hbx0
          replace HRJ := Aside0.mk (HRJ.out.below hbx)
          replace HQJ := Aside0.mk (HQJ.out.below hbx)
          replace HBJ := Aside0.mk (below_step HBJ.out hbx)
          clear hbx hbx0
          refine hK.out _ _ ((IsS94.cell2 HQJ.out)) (fun hHeld => ?_)
          clear hK K
          refine norm_ (a' := ?_) ?_ ?_
          rotate_left
          · show Act.put _ (some 100) _ = _
            simp only [Act.put, List.setIfInBounds_toArray, List.set_cons_zero, List.set_cons_succ, i64_w, i32_w]
            rfl
          refine pure_ (i := 13) (N := some 105) (v := ?_) (a' := ?_) #[true, true, true, true, true, true, true, true, true, true, true, true, true, true, false, false, false, false, false, false, false, false, false] rfl rfl (by kernel_rfl) (fun _ _ _ h => h) (Or.inl ⟨by rfl, ?_⟩) ?_ ?_
          rotate_left
          · intro w'
            go_simp
            with_reducible rfl
          rotate_left
          · simp only [Act.put, List.setIfInBounds_toArray, List.set_cons_zero, List.set_cons_succ, i64_w, i32_w]
            rfl
          refine pure_ (i := 14) (N := some 106) (v := ?_) (a' := ?_) #[true, true, true, true, true, true, true, true, true, true, true, true, true, true, true, false, false, false, false, false, false, false, false] rfl rfl (by kernel_rfl) (fun _ _ _ h => h) (Or.inl ⟨by rfl, ?_⟩) ?_ ?_
          rotate_left
          · intro w'
            go_simp
            with_reducible rfl
          rotate_left
          · simp only [Act.put, List.setIfInBounds_toArray, List.set_cons_zero, List.set_cons_succ, i64_w, i32_w]
            rfl
          refine pure_ (i := 15) (N := some 107) (v := ?_) (a' := ?_) #[true, true, true, true, true, true, true, true, true, true, true, true, true, true, true, true, false, false, false, false, false, false, false] rfl rfl (by kernel_rfl) (fun _ _ _ h => h) (Or.inl ⟨by rfl, ?_⟩) ?_ ?_
          rotate_left
          · intro w'
            go_simp
            with_reducible rfl
          rotate_left
          · simp only [Act.put, List.setIfInBounds_toArray, List.set_cons_zero, List.set_cons_succ, i64_w, i32_w]
            rfl
          refine pure_ (i := 16) (N := some 108) (v := ?_) (a' := ?_) #[true, true, true, true, true, true, true, true, true, true, true, true, true, true, true, true, true, false, false, false, false, false, false] rfl rfl (by kernel_rfl) (fun _ _ _ h => h) (Or.inl ⟨by rfl, ?_⟩) ?_ ?_
          rotate_left
          · intro w'
            go_simp
            with_reducible rfl
          rotate_left
          · simp only [Act.put, List.setIfInBounds_toArray, List.set_cons_zero, List.set_cons_succ, i64_w, i32_w]
            rfl
          refine pure_ (i := 19) (N := some 111) (v := ?_) (a' := ?_) #[true, true, true, true, true, true, true, true, true, true, true, true, true, true, true, true, true, false, false, true, false, false, false] rfl rfl (by kernel_rfl) (fun _ _ _ h => h) (Or.inl ⟨by rfl, ?_⟩) ?_ ?_
          rotate_left
          · intro w'
            go_simp
            with_reducible rfl
          rotate_left
          · simp only [Act.put, List.setIfInBounds_toArray, List.set_cons_zero, List.set_cons_succ, i64_w, i32_w]
            rfl
          refine one_ (i := 17) (N := some 109) #[true, true, true, true, true, true, true, true, true, true, true, true, true, true, true, true, true, true, false, true, false, false, false] rfl rfl (by kernel_rfl) (by decide) (fun K hK => ?_)
          refine goes_ Try.func57 (by kernel_rfl) rfl #[.pointer (some ⟨g, 0, none⟩)] (by rfl) rfl rfl (by simp only [List.map_toArray, List.map_cons, List.map_nil]; rfl) ?_
          with_reducible refine (wire_Reader_Done.calls g lz ez true wa _ HRJ.out).mono ?_
          rintro e wx ⟨rfl, rfl⟩
          refine ⟨_, rfl, ?_⟩
          refine hK.out _ _ ((IsS94.cell2 HQJ.out)) (fun hHeld => ?_)
          clear hK K
          refine norm_ (a' := ?_) ?_ ?_
          rotate_left
          · show Act.put _ (some 109) _ = _
            simp only [Act.put, List.setIfInBounds_toArray, List.set_cons_zero, List.set_cons_succ, i64_w, i32_w]
            rfl
          refine one_ (i := 18) (N := some 110) #[true, true, true, true, true, true, true, true, true, true, true, true, true, true, true, true, true, true, true, true, false, false, false] rfl rfl (by kernel_rfl) (by decide) (fun K hK => ?_)
          refine goes_ Try.func26 (by kernel_rfl) rfl #[.int .i64 (rdDone lz ez true)] (by rfl) rfl rfl (by simp only [List.map_toArray, List.map_cons, List.map_nil]; rfl) ?_
          with_reducible refine (glebelaw01_num.calls (rdDone lz ez true) (rdDone lz ez true) _ rfl).mono ?_
          rintro e wx ⟨rfl, hbx0⟩
          refine ⟨_, rfl, ?_⟩
          have hbx := drawn_below hbx0
          replace HRJ := Aside0.mk (HRJ.out.below hbx)
          replace HQJ := Aside0.mk (HQJ.out.below hbx)
          replace HBJ := Aside0.mk (below_step HBJ.out hbx)
          clear hbx hbx0
          refine hK.out _ _ ((IsS94.cell2 HQJ.out)) (fun hHeld => ?_)
          clear hK K
          refine norm_ (a' := ?_) ?_ ?_
          rotate_left
          · show Act.put _ (some 110) _ = _
            simp only [Act.put, List.setIfInBounds_toArray, List.set_cons_zero, List.set_cons_succ, i64_w, i32_w]
            rfl
          refine one_ (i := 20) (N := some 112) #[true, true, true, true, true, true, true, true, true, true, true, true, true, true, true, true, true, true, true, true, true, false, false] rfl rfl (by kernel_rfl) (by decide) (fun K hK => ?_)
          refine goes_ Try.func65 (by kernel_rfl) rfl #[.pointer (some ⟨q, 0, none⟩)] (by rfl) rfl rfl (by simp only [List.map_toArray, List.map_cons, List.map_nil]; rfl) ?_
          with_reducible refine (gleberef01_Reader_Done.calls q l0 (pz : Int) ez (rdDone lz ez true) (pz : Int) ez wa _ HQJ.out HBJ.out HZ2.out).mono ?_
          rintro e wx ⟨rfl, hq, hb, hk⟩
          refine ⟨_, rfl, ?_⟩
          replace HRJ := Aside0.mk (rdr_keep HRJ.out HQJ.out hk hne)
          replace HQJ := Aside0.mk hq
          replace HBJ := Aside0.mk hb
          clear hq hb hk
          refine hK.out _ _ ((IsS94.cell2 HQJ.out)) (fun hHeld => ?_)
          clear hK K
          refine norm_ (a' := ?_) ?_ ?_
          rotate_left
          · show Act.put _ (some 112) _ = _
            simp only [Act.put, List.setIfInBounds_toArray, List.set_cons_zero, List.set_cons_succ, i64_w, i32_w]
            rfl
          refine pure_ (i := 21) (N := some 113) (v := ?_) (a' := ?_) #[true, true, true, true, true, true, true, true, true, true, true, true, true, true, true, true, true, true, true, true, true, true, false] rfl rfl (by kernel_rfl) (fun _ _ _ h => h) (Or.inl ⟨by rfl, ?_⟩) ?_ ?_
          rotate_left
          · intro w'
            go_simp
            with_reducible rfl
          rotate_left
          · simp only [Act.put, List.setIfInBounds_toArray, List.set_cons_zero, List.set_cons_succ, i64_w, i32_w]
            rfl
          refine pure_ (i := 22) (N := some 114) (v := ?_) (a' := ?_) #[true, true, true, true, true, true, true, true, true, true, true, true, true, true, true, true, true, true, true, true, true, true, true] rfl rfl (by kernel_rfl) (fun _ _ _ h => h) (Or.inl ⟨by rfl, ?_⟩) ?_ ?_
          rotate_left
          · intro w'
            go_simp
            with_reducible rfl
          rotate_left
          · simp only [Act.put, List.setIfInBounds_toArray, List.set_cons_zero, List.set_cons_succ, i64_w, i32_w]
            rfl
          refine done_ (by kernel_rfl) ?_
          go_wp2
          go_roundw
          case rel => exact ⟨j + 1, lz, ez, pz, by omega, by go_num, HRJ, HQJ, HAJ, HBJ⟩
          case measure => simp [intOf]; omega
      · obtain rfl : j = l1.length := by omega
        go_wp2_with fail
        refine (glebelaw01_Stays.calls AX cX l0 A0 c0 l0 true _ (Kd.C_below HX.out HBJ.out) hcX (Kd.C_below H0.out HBJ.out) hc0 (if_pos rfl)).mono ?_
        rintro e wg ⟨rfl, hb⟩
        replace HBJ := Aside0.mk (below_step HBJ.out (drawn_below hb))
        clear hb
        go_wp2_with fail
        refine (glebelaw01_knows.calls 0 true _ rfl).mono ?_
        rintro e wh ⟨rfl, hb⟩
        replace HBJ := Aside0.mk (below_step HBA.out (below_step HBJ.out hb))
        clear hb
        go_wp2
        go_ret
        exact ⟨rfl, HBJ.out⟩

end Go.Proofs.Ytimfeiobdcmhnaa.PR
