-- Written by a program of this session (wip/tools/hp.py) over the kit's print; nothing here is trusted: Lean checks it.
import Derived.RegionTactic
import Derived.BigRegion
import Derived.Test.YtimfeiobdcmhnaaPRx0
import Derived.Test.YtimfeiobdcmhnaaPRx34
import Derived.Test.YtimfeiobdcmhnaaPRx36
namespace Go.Proofs.Ytimfeiobdcmhnaa.PR
open Go.RowKit Go.Proofs.YtimfeiobdcmhnaaW.PrintWords Go.Proofs.YtimfeiobdcmhnaaW.PrintLast Go.Proofs.YtimfeiobdcmhnaaW.PrintMore
attribute [local go_sem] max2_int min2_int max_two min_two max_three min_three max_four min_four   -- for this text's walks alone
set_option linter.unusedVariables false
set_option linter.unusedSimpArgs false

--OWN Derived.RegionTactic,Derived.BigRegion
/-! ### gleberef01_Reader_Text: function 62 -/
def rtText (l : List Int) (n a e : Int) : Option (ByteArray × Int × Int) :=
  if e = 0 then (if n > wrap64 ((l.length : Int) - a) then some ({ data := #[] }, a, 20) else if 0 ≤ a ∧ 0 ≤ n ∧ a + n ≤ (l.length : Int) ∧ l.length ≤ 140737488355328 then some (strOfNums ((l.drop a.toNat).take n.toNat), a + n, e) else none) else some ({ data := #[] }, a, e)
def gleberef01_Reader_Text.f (k : Nat) (l : List Int) (a e m : Int) : Option (ByteArray × Int × Int) := (gleberef01_Reader_Upto.f k l a e m).bind fun x => rtText l x.1 x.2.1 x.2.2
set_option maxHeartbeats 4000000 in
set_option maxRecDepth 100000 in
theorem gleberef01_Reader_Text.calls (k : Nat) (g : Nat) (l : List Int) (a e m : Int) (s : ByteArray) (r2 r3 : Int) (w0 w : World) (hI : IsS94 w0 w g l a e) (hB : Below w0.heap.size w0 w) (h : gleberef01_Reader_Text.f k l a e m = some (s, r2, r3)) :
    Calls Try.prog 62 #[.pointer (some ⟨g, 0, none⟩), .int .i64 m] w fun ed w' => ed = .returned (.string s) ∧ IsS94 w0 w' g l r2 r3 ∧ Below w0.heap.size w0 w' ∧ KeepBut w w' g none := by
  obtain ⟨⟨n, a', e'⟩, hu, hx⟩ := Option.bind_eq_some_iff.mp h
  have HU := Aside0.mk (gleberef01_Reader_Upto.calls k g l a e m n a' e' w0 w hI hB hu)
  clear h hu hI hB
  unfold rtText at hx
  dsimp only at hx
  by_cases c : e' = 0
  rotate_left
  · rw [if_neg c] at hx
    obtain ⟨rfl, rfl, rfl⟩ : s = { data := #[] } ∧ r2 = a' ∧ r3 = e' := by
      simp only [Option.some.injEq, Prod.mk.injEq] at hx
      exact ⟨hx.1.symm, hx.2.1.symm, hx.2.2.symm⟩
    have cb : (r3 != 0) = true := bne_iff_ne.mpr c
    clear hx c
    go_enter Try.func62, Try.ntmps62
    go_wp2_with fail
    go_at_call 61
    refine HU.out.mono ?_
    rintro ed w1 ⟨rfl, hI, hB, hK⟩
    obtain ⟨A, c, HG, hg, hC, hcap⟩ := hI
    have hc2 := cellS94_2 HG
    have HI := Aside0.mk (show IsS94 w0 w1 g l r2 r3 from ⟨A, c, HG, hg, hC, hcap⟩)
    have HB := Aside0.mk hB
    have HK := Aside0.mk hK
    clear HG hg hC hcap hB hK HU
    go_wp2
    go_ret
    exact ⟨rfl, HI.out, HB.out, HK.out⟩
  · subst c
    rw [if_pos rfl] at hx
    by_cases c2 : n > wrap64 ((l.length : Int) - a')
    · rw [if_pos c2] at hx
      obtain ⟨rfl, rfl, rfl⟩ : s = { data := #[] } ∧ r2 = a' ∧ r3 = 20 := by
        simp only [Option.some.injEq, Prod.mk.injEq] at hx
        exact ⟨hx.1.symm, hx.2.1.symm, hx.2.2.symm⟩
      generalize hz : wrap64 ((l.length : Int) - r2) = z at c2
      have hz2 : IntKind.i64.wrap ((l.length : Int) - r2) = z := (i64_w _).trans hz
      have cb : decide (z < n) = true := decide_eq_true c2
      clear hx c2
      go_enter Try.func62, Try.ntmps62
      go_wp2_with fail
      go_at_call 61
      refine HU.out.mono ?_
      rintro ed w1 ⟨rfl, hI, hB, hK⟩
      have HS := Aside0.mk (hI.set_2 20)
      obtain ⟨A, c, HG, hg, hC, hcap⟩ := hI
      have hc0 := cellS94_0 HG
      have hc1 := cellS94_1 HG
      have hc2 := cellS94_2 HG
      have hf1 := blk_frozen HG 1
      have hf2 := blk_frozen HG 2
      have HB := Aside0.mk hB
      have HK := Aside0.mk hK
      have HG0 := Aside0.mk hg
      clear HG hg hC hcap hB hK HU
      go_wp2
      repeat (go_quiet (fail); try go_wp2)
      go_ret
      exact ⟨rfl, HS.out, by repeat (first | (with_reducible first | exact HB.out | apply below_alloc | apply pw_below_drewN | apply below_drew1 | refine below_set ?_ HG0.out) | exact HB.out), by repeat (first | (with_reducible first | exact HK.out | apply KeepBut.set_ | apply keep_drewN | apply keep_drew | apply keep_alloc) | exact HK.out)⟩
    · rw [if_neg c2] at hx
      by_cases c3 : 0 ≤ a' ∧ 0 ≤ n ∧ a' + n ≤ (l.length : Int) ∧ l.length ≤ 140737488355328
      rotate_left
      · rw [if_neg c3] at hx
        cases hx
      rw [if_pos c3] at hx
      obtain ⟨rfl, rfl, rfl⟩ : s = strOfNums ((l.drop a'.toNat).take n.toNat) ∧ r2 = a' + n ∧ r3 = 0 := by
        simp only [Option.some.injEq, Prod.mk.injEq] at hx
        exact ⟨hx.1.symm, hx.2.1.symm, hx.2.2.symm⟩
      generalize hz : wrap64 ((l.length : Int) - a') = z at c2
      have hz2 : IntKind.i64.wrap ((l.length : Int) - a') = z := (i64_w _).trans hz
      have cb : decide (z < n) = false := decide_eq_false c2
      have hy : wrap64 (a' + n) = a' + n := Go.IntWalk.wrap64_in _ (by omega)
      have hy2 : IntKind.i64.wrap (a' + n) = a' + n := (i64_w _).trans hy
      obtain ⟨d0, d1, d2, d3⟩ := c3
      clear hx c2
      go_enter Try.func62, Try.ntmps62
      go_wp2_with fail
      go_at_call 61
      refine HU.out.mono ?_
      rintro ed w1 ⟨rfl, hI, hB, hK⟩
      have HS := Aside0.mk (hI.set_1 (a' + n))
      obtain ⟨A, c, HG, hg, hC, hcap⟩ := hI
      have hc0 := cellS94_0 HG
      have hc1 := cellS94_1 HG
      have hc2 := cellS94_2 HG
      have hf1 := blk_frozen HG 1
      have hf2 := blk_frozen HG 2
      have HB := Aside0.mk hB
      have HK := Aside0.mk hK
      have HG0 := Aside0.mk hg
      obtain ⟨i5, hi5, _, hz1, _⟩ := info_parts info5
      have hsl := cut_mid (P := Try.prog) 33 5 .i64 .i64 Try.underlying33 hi5 1 hz1 A l.length c a' (a' + n) d0 (by omega) d2 hcap
      have hCd := Kd.C_drop (m := a'.toNat) (c := c) (Kd.C_below hC hB) (by omega) hcap
      have hCt := Kd.C_take (m := n.toNat) hCd (by rw [List.length_drop]; omega)
      have hln : ((l.drop a'.toNat).take n.toNat).length = (a' + n).toNat - a'.toNat := by
        rw [List.length_take, List.length_drop]
        omega
      rw [hln] at hCt
      generalize hL : (l.drop a'.toNat).take n.toNat = L at hCt
      have hCt : (Kd.int .u8).C w1 (if c = a'.toNat then A else A.map (·.add (a'.toNat * 1))) ((a' + n).toNat - a'.toNat) L := hCt
      generalize (if c = a'.toNat then A else A.map (·.add (a'.toNat * 1))) = AA at hsl hCt
      generalize (a' + n).toNat - a'.toNat = nn at hsl hCt
      generalize c - a'.toNat = cc at hsl
      have HCT := Aside0.mk hCt
      have HSL := Aside0.mk hsl
      clear HG hg hC hcap hB hK HU hi5 hz1 hCd hCt hln d0 d1 d2 d3 hz hy hsl
      go_wp2
      go_quiet (fail)
      go_wp2_with fail
      refine start_ (n := 17) (S := fun w' => w'.cell? ⟨g, 0, none⟩ = some (.slice A l.length c) ∧ w'.cell? ⟨g, 1, none⟩ = some (.int .i64 a') ∧ (Instr.slice 33 (.slice A l.length c) (some (.int .i64 a')) (some (.int .i64 (a' + n))) none).run Try.prog w' = .ok (.slice AA nn cc) w' ∧ (convert 33 9 (.slice AA nn cc)).run Try.prog w' = .ok (.string (strOfNums L)) w') (ds := []) #[false, false, false, false, false, false, false, false, false, false, false, false, false, false, false, false, false] (by kernel_rfl) rfl rfl ⟨hc0, hc1, (HSL.out _), (Kd.C_string Try.underlying33 Try.underlying5 Try.underlying9 (Kd.C_drewN HCT.out nq))⟩ (fun hHeld => ?_)
      refine pure_ (i := 0) (N := some 30) (v := ?_) (a' := ?_) #[true, false, false, false, false, false, false, false, false, false, false, false, false, false, false, false, false] rfl rfl (by kernel_rfl) (fun _ _ _ h => h) (Or.inl ⟨by rfl, ?_⟩) ?_ ?_
      rotate_left
      · intro w'
        go_simp
        with_reducible rfl
      rotate_left
      · simp only [Act.put, List.setIfInBounds_toArray, List.set_cons_zero, List.set_cons_succ, i64_w, i32_w]
        rfl
      refine pure_ (i := 1) (N := some 31) (v := ?_) (a' := ?_) #[true, true, false, false, false, false, false, false, false, false, false, false, false, false, false, false, false] rfl rfl (by kernel_rfl) (fun _ _ _ h => h) (Or.inl ⟨by rfl, ?_⟩) ?_ ?_
      rotate_left
      · intro w'
        go_simp
        with_reducible rfl
      rotate_left
      · simp only [Act.put, List.setIfInBounds_toArray, List.set_cons_zero, List.set_cons_succ, i64_w, i32_w]
        rfl
      refine pure_ (i := 2) (N := some 32) (v := ?_) (a' := ?_) #[true, true, true, false, false, false, false, false, false, false, false, false, false, false, false, false, false] rfl rfl (by kernel_rfl) (fun _ _ _ h => h) (Or.inl ⟨by rfl, ?_⟩) ?_ ?_
      rotate_left
      · intro w'
        go_simp
        with_reducible rfl
      rotate_left
      · simp only [Act.put, List.setIfInBounds_toArray, List.set_cons_zero, List.set_cons_succ, i64_w, i32_w]
        rfl
      refine pure_ (i := 4) (N := some 34) (v := ?_) (a' := ?_) #[true, true, true, false, true, false, false, false, false, false, false, false, false, false, false, false, false] rfl rfl (by kernel_rfl) (fun _ _ _ h => h) (Or.inl ⟨by rfl, ?_⟩) ?_ ?_
      rotate_left
      · intro w'
        go_simp
        with_reducible rfl
      rotate_left
      · simp only [Act.put, List.setIfInBounds_toArray, List.set_cons_zero, List.set_cons_succ, i64_w, i32_w]
        rfl
      refine pure_ (i := 5) (N := some 35) (v := ?_) (a' := ?_) #[true, true, true, false, true, true, false, false, false, false, false, false, false, false, false, false, false] rfl rfl (by kernel_rfl) (fun _ _ _ h => h) (Or.inl ⟨by rfl, ?_⟩) ?_ ?_
      rotate_left
      · intro w'
        go_simp
        with_reducible rfl
      rotate_left
      · simp only [Act.put, List.setIfInBounds_toArray, List.set_cons_zero, List.set_cons_succ, i64_w, i32_w]
        rfl
      refine pure_ (i := 6) (N := some 36) (v := ?_) (a' := ?_) #[true, true, true, false, true, true, true, false, false, false, false, false, false, false, false, false, false] rfl rfl (by kernel_rfl) (fun _ _ _ h => h) (Or.inl ⟨by rfl, ?_⟩) ?_ ?_
      rotate_left
      · intro w'
        go_simp
        with_reducible rfl
      rotate_left
      · simp only [Act.put, List.setIfInBounds_toArray, List.set_cons_zero, List.set_cons_succ, i64_w, i32_w]
        rfl
      refine pure_ (i := 8) (N := some 38) (v := ?_) (a' := ?_) #[true, true, true, false, true, true, true, false, true, false, false, false, false, false, false, false, false] rfl rfl (by kernel_rfl) (fun _ _ _ h => h) (Or.inl ⟨by rfl, ?_⟩) ?_ ?_
      rotate_left
      · intro w'
        go_simp
        with_reducible rfl
      rotate_left
      · simp only [Act.put, List.setIfInBounds_toArray, List.set_cons_zero, List.set_cons_succ, i64_w, i32_w]
        rfl
      refine pure_ (i := 9) (N := some 39) (v := ?_) (a' := ?_) #[true, true, true, false, true, true, true, false, true, true, false, false, false, false, false, false, false] rfl rfl (by kernel_rfl) (fun _ _ _ h => h) (Or.inl ⟨by rfl, ?_⟩) ?_ ?_
      rotate_left
      · intro w'
        go_simp
        with_reducible rfl
      rotate_left
      · simp only [Act.put, List.setIfInBounds_toArray, List.set_cons_zero, List.set_cons_succ, i64_w, i32_w]
        rfl
      refine pure_ (i := 10) (N := some 40) (v := ?_) (a' := ?_) #[true, true, true, false, true, true, true, false, true, true, true, false, false, false, false, false, false] rfl rfl (by kernel_rfl) (fun _ _ _ h => h) (Or.inl ⟨by rfl, ?_⟩) ?_ ?_
      rotate_left
      · intro w'
        go_simp
        with_reducible rfl
      rotate_left
      · simp only [Act.put, List.setIfInBounds_toArray, List.set_cons_zero, List.set_cons_succ, i64_w, i32_w]
        rfl
      refine pure_ (i := 12) (N := some 42) (v := ?_) (a' := ?_) #[true, true, true, false, true, true, true, false, true, true, true, false, true, false, false, false, false] rfl rfl (by kernel_rfl) (fun _ _ _ h => h) (Or.inl ⟨by rfl, ?_⟩) ?_ ?_
      rotate_left
      · intro w'
        go_simp
        with_reducible rfl
      rotate_left
      · simp only [Act.put, List.setIfInBounds_toArray, List.set_cons_zero, List.set_cons_succ, i64_w, i32_w]
        rfl
      refine take_ (i := 3) (N := some 33) (v := ?_) (a' := ?_) #[true, true, true, true, true, true, true, false, true, true, true, false, true, false, false, false, false] rfl rfl (by kernel_rfl) (fun _ _ _ h => h) (Or.inl ⟨by rfl, ?_⟩) hHeld ?_ ?_
      rotate_left
      · rintro w' ⟨s0, s1, s2, s3⟩
        go_simp
        with_reducible rfl
      rotate_left
      · simp only [Act.put, List.setIfInBounds_toArray, List.set_cons_zero, List.set_cons_succ, i64_w, i32_w]
        rfl
      refine take_ (i := 7) (N := some 37) (v := ?_) (a' := ?_) #[true, true, true, true, true, true, true, true, true, true, true, false, true, false, false, false, false] rfl rfl (by kernel_rfl) (fun _ _ _ h => h) (Or.inl ⟨by rfl, ?_⟩) hHeld ?_ ?_
      rotate_left
      · rintro w' ⟨s0, s1, s2, s3⟩
        go_simp
        with_reducible rfl
      rotate_left
      · simp only [Act.put, List.setIfInBounds_toArray, List.set_cons_zero, List.set_cons_succ, i64_w, i32_w]
        rfl
      refine take_ (i := 11) (N := some 41) (v := ?_) (a' := ?_) #[true, true, true, true, true, true, true, true, true, true, true, true, true, false, false, false, false] rfl rfl (by kernel_rfl) (fun _ _ _ h => h) (Or.inl ⟨by rfl, ?_⟩) hHeld ?_ ?_
      rotate_left
      · rintro w' ⟨s0, s1, s2, s3⟩
        go_simp
        with_reducible rfl
      rotate_left
      · simp only [Act.put, List.setIfInBounds_toArray, List.set_cons_zero, List.set_cons_succ, i64_w, i32_w]
        rfl
      refine pure_ (i := 13) (N := some 43) (v := ?_) (a' := ?_) #[true, true, true, true, true, true, true, true, true, true, true, true, true, true, false, false, false] rfl rfl (by kernel_rfl) (fun _ _ _ h => h) (Or.inl ⟨by rfl, ?_⟩) ?_ ?_
      rotate_left
      · intro w'
        go_simp
        with_reducible rfl
      rotate_left
      · simp only [Act.put, List.setIfInBounds_toArray, List.set_cons_zero, List.set_cons_succ, i64_w, i32_w]
        rfl
      refine take_ (i := 14) (N := some 44) (v := ?_) (a' := ?_) #[true, true, true, true, true, true, true, true, true, true, true, true, true, true, true, false, false] rfl rfl (by kernel_rfl) (fun _ _ _ h => h) (Or.inl ⟨by rfl, ?_⟩) hHeld ?_ ?_
      rotate_left
      · rintro w' ⟨s0, s1, s2, s3⟩
        go_simp
        with_reducible rfl
      rotate_left
      · simp only [Act.put, List.setIfInBounds_toArray, List.set_cons_zero, List.set_cons_succ, i64_w, i32_w]
        rfl
      refine take_ (i := 15) (N := some 45) (v := ?_) (a' := ?_) #[true, true, true, true, true, true, true, true, true, true, true, true, true, true, true, true, false] rfl rfl (by kernel_rfl) (fun _ _ _ h => h) (Or.inl ⟨by rfl, ?_⟩) hHeld ?_ ?_
      rotate_left
      · rintro w' ⟨s0, s1, s2, s3⟩
        go_simp
        with_reducible rfl
      rotate_left
      · simp only [Act.put, List.setIfInBounds_toArray, List.set_cons_zero, List.set_cons_succ, i64_w, i32_w]
        rfl
      refine pure_ (i := 16) (N := some 6) (v := ?_) (a' := ?_) #[true, true, true, true, true, true, true, true, true, true, true, true, true, true, true, true, true] rfl rfl (by kernel_rfl) (fun _ _ _ h => h) (Or.inl ⟨by rfl, ?_⟩) ?_ ?_
      rotate_left
      · intro w'
        go_simp
        with_reducible rfl
      rotate_left
      · simp only [Act.put, List.setIfInBounds_toArray, List.set_cons_zero, List.set_cons_succ, i64_w, i32_w]
        rfl
      refine done_ (by kernel_rfl) ?_
      go_wp2
      go_ret
      exact ⟨by rw [hL]; rfl, HS.out, by repeat (first | (with_reducible first | exact HB.out | apply below_alloc | apply pw_below_drewN | apply below_drew1 | refine below_set ?_ HG0.out) | exact HB.out), by repeat (first | (with_reducible first | exact HK.out | apply KeepBut.set_ | apply keep_drewN | apply keep_drew | apply keep_alloc) | exact HK.out)⟩

end Go.Proofs.Ytimfeiobdcmhnaa.PR
