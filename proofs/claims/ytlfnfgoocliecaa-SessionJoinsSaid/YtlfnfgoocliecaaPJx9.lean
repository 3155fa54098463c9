-- Written by a program of this session (wip/tools/hp.py) over the kit's print; nothing here is trusted: Lean checks it.
import Derived.RegionTactic
import Derived.BigRegion
import Derived.Test.YtlfnfgoocliecaaPJx0
import Derived.Test.YtlfnfgoocliecaaPJx2
import Derived.Test.YtlfnfgoocliecaaPJx5
import Derived.Test.YtlfnfgoocliecaaPJx8
namespace Go.Proofs.Ytlfnfgoocliecaa.PJ
open Go.RowKit Go.Proofs.YtlfnfgoocliecaaW.PrintWords Go.Proofs.YtlfnfgoocliecaaW.PrintLast Go.Proofs.YtlfnfgoocliecaaW.PrintMore
attribute [local go_sem] max2_int min2_int max_two min_two max_three min_three max_four min_four   -- for this text's walks alone
set_option linter.unusedVariables false
set_option linter.unusedSimpArgs false

--OWN Derived.RegionTactic,Derived.BigRegion
/-! ### session_Table_Note: function 12 -/
def session_Table_Note.T7 : Bool × List (List Nat × List Nat) := (true, [([], []), ([], []), ([], []), ([], []), ([2, 3], [2, 3]), ([0], [0]), ([5], [5]), ([6, 1, 0, 1, 2, 3, 4], [1, 6]), ([7, 4, 0, 1, 2, 3, 4], [4, 7])])
def session_Table_Note.B7 : List Nat := [0, 0, 0, 0, 12, 1, 33, 127, 255]
theorem session_Table_Note.tab7 : rtab .any (opsOf Try.f12 7) = session_Table_Note.T7 := by kernel_rfl
theorem session_Table_Note.bits7 : waitsOk session_Table_Note.T7.2 session_Table_Note.B7 = true := by kernel_rfl
def noteE (R : Nat → SRow) (c s : Int) (b : Bool) : Int := if tLook R c s = 0 then 1 else if b = false then 1 else if tLook R c s = 1 then 0 else 44
def noteR (R : Nat → SRow) (c s : Int) (b : Bool) (r : SRow) : Nat → SRow := if tLook R c s = 1 ∧ b = true then upd R c.toNat r else R
theorem tLook_all (R : Nat → SRow) (c s : Int) : tLook R c s = 0 ∨ tLook R c s = 1 ∨ tLook R c s = 2 ∨ tLook R c s = 3 := by
  unfold tLook
  split
  · split
    · exact .inr (.inl rfl)
    · split
      · exact .inr (.inr (.inr rfl))
      · exact .inr (.inr (.inl rfl))
  · exact .inl rfl
theorem tLook_in {R : Nat → SRow} {c s : Int} (h : tLook R c s = 1) : 0 ≤ c ∧ c < 8 := by
  unfold tLook at h
  split at h
  · omega
  · cases h
theorem IsTab.put {w0 W : World} {g : Nat} {R : Nat → SRow} (h : IsTab w0 W g R) {c : Nat} (hc : c < 8) (r : SRow) : IsTab w0 (((((W.setCell ⟨g, c * 5, none⟩ (.int .i64 r.e)).setCell ⟨g, c * 5 + 1, none⟩ (.bool r.f)).setCell ⟨g, c * 5 + 2, none⟩ (.string r.v)).setCell ⟨g, c * 5 + 3, none⟩ (.int .i64 r.n)).setCell ⟨g, c * 5 + 4, none⟩ (.int .i64 r.q)) g (upd R c r) := by
  have q := blk_set (blk_set (blk_set (blk_set (blk_set h.blk (c * 5) (.int .i64 r.e)) (c * 5 + 1) (.bool r.f)) (c * 5 + 2) (.string r.v)) (c * 5 + 3) (.int .i64 r.n)) (c * 5 + 4) (.int .i64 r.q)
  rw [tab_upd R hc r] at q
  exact ⟨h.base, q⟩
theorem below_put {w W : World} {g : Nat} (h : Below w.heap.size w W) (hg : w.heap.size ≤ g) (j : Nat) (b0 b1 b2 b3 b4 : Value) : Below w.heap.size w (((((W.setCell ⟨g, j, none⟩ b0).setCell ⟨g, j + 1, none⟩ b1).setCell ⟨g, j + 2, none⟩ b2).setCell ⟨g, j + 3, none⟩ b3).setCell ⟨g, j + 4, none⟩ b4) :=
  below_set (below_set (below_set (below_set (below_set h hg) hg) hg) hg) hg
theorem keep_put {w W : World} {g : Nat} (h : KeepBut w W g none) (j : Nat) (b0 b1 b2 b3 b4 : Value) : KeepBut w (((((W.setCell ⟨g, j, none⟩ b0).setCell ⟨g, j + 1, none⟩ b1).setCell ⟨g, j + 2, none⟩ b2).setCell ⟨g, j + 3, none⟩ b3).setCell ⟨g, j + 4, none⟩ b4) g none :=
  ((((h.set_ _ _).set_ _ _).set_ _ _).set_ _ _).set_ _ _
set_option maxHeartbeats 4000000 in
set_option maxRecDepth 100000 in
theorem session_Table_Note.calls (k : Nat) (g : Nat) (R : Nat → SRow) (c s : Int) (e : Int) (f : Bool) (v : ByteArray) (n : Int) (b : Bool) (w0 w : World) (hI : IsTab w0 w g R) (hB : Below w0.heap.size w0 w) (h : point_RightAns.f k e f v n = some b) :
    Calls Try.prog 12 #[.pointer (some ⟨g, 0, none⟩), .int .i64 c, .int .i64 s, .agg #[.int .i64 e, .bool f, .string v, .int .i64 n]] w fun ed w' => ed = .returned (.int .i64 (noteE R c s b)) ∧ IsTab w0 w' g (noteR R c s b ⟨e, f, v, n, s⟩) ∧ Below w0.heap.size w0 w' ∧ KeepBut w w' g none := by
  have HI := Aside0.mk hI
  have HW := Aside0.mk hB
  have HRA := Aside0.mk h
  have HLK := Aside0.mk (fun W hW => session_Table_Look.calls g R c s w0 W hW)
  have hin : tLook R c s = 1 → 0 ≤ c ∧ c < 8 := tLook_in
  clear hI hB h
  unfold noteE noteR
  have hz := tLook_all R c s
  generalize hcn : c.toNat = m
  generalize tLook R c s = z at hz hin HLK ⊢
  generalize hE : (if z = 0 then (1 : Int) else if b = false then 1 else if z = 1 then 0 else 44) = EE
  generalize hR : (if z = 1 ∧ b = true then upd R m ⟨e, f, v, n, s⟩ else R) = RR
  go_enter Try.func12, Try.ntmps12
  go_wp2_with (first | ((with_reducible refine gate_dst (N := 7) rfl ?_); refine box_event ?hg (N := 7) ?hd (cs := #[.int .i64 e, .bool f, .string v, .int .i64 n]) (t := 34) ?hr ?_; (case hd => rfl); (case hg => rfl); (case hr => first | (go_simp; done) | (go_simp; rfl)); intro gb hg wA hbox hb; have HBX := Aside0.mk hbox; have HB := Aside0.mk hb; have HG := Aside0.mk hg; clear hbox hb hg) | ((with_reducible refine gate_callee (f := 36) rfl ?_); fail))
  refine (HLK.out wA (HI.out.below HB.out)).mono ?_
  rintro ed w1 ⟨rfl, rfl⟩
  clear HLK
  replace HI := Aside0.mk (HI.out.below HB.out)
  have HK := Aside0.mk (KeepBut.of_below HB.out g none)
  replace HW := Aside0.mk (below_step HW.out HB.out)
  have h0 := blk_cell HBX.out 0
  have h1 := blk_cell HBX.out 1
  have h2 := blk_cell HBX.out 2
  have h3 := blk_cell HBX.out 3
  rcases hz with rfl | rfl | hz
  · obtain rfl : EE = 1 := hE.symm.trans (if_pos rfl)
    obtain rfl : RR = R := hR.symm.trans (if_neg (by simp))
    clear hE hR hin
    go_wp2
    go_ret
    exact ⟨rfl, HI.out, HW.out, HK.out⟩
  · go_wp2_with fail
    refine (point_RightAns.calls k e f v n b _ HRA.out).mono ?_
    rintro ed wB ⟨rfl, hb⟩
    replace HI := Aside0.mk (HI.out.below hb)
    replace HK := Aside0.mk (HK.out.trans (KeepBut.of_below hb g none) (.inl rfl))
    replace HW := Aside0.mk (below_step HW.out hb)
    replace HBX := Aside0.mk (blk_below HBX.out hb)
    clear hb h0 h1 h2 h3
    cases b
    · obtain rfl : EE = 1 := hE.symm.trans (by simp)
      obtain rfl : RR = R := hR.symm.trans (if_neg (by simp))
      clear hE hR hin
      go_wp2
      go_ret
      exact ⟨rfl, HI.out, HW.out, HK.out⟩
    · obtain rfl : EE = 0 := hE.symm.trans (by simp)
      obtain rfl : RR = upd R m ⟨e, f, v, n, s⟩ := hR.symm.trans (if_pos (by simp))
      clear hE hR
      have hin := hin (by first | exact rfl | exact trivial)
      have hm : m < 8 := by omega
      obtain rfl : c = (m : Int) := by omega
      clear hin hcn
      go_wp2
      have h0 := blk_cell HBX.out 0
      have h1 := blk_cell HBX.out 1
      have h2 := blk_cell HBX.out 2
      have h3 := blk_cell HBX.out 3
      obtain ⟨c0, c1, c2, c3, c4⟩ := HI.out.cells_ hm
      have f0 := blk_frozen HI.out.blk (m * 5)
      have f1 := blk_frozen HI.out.blk (m * 5 + 1)
      have f2 := blk_frozen HI.out.blk (m * 5 + 2)
      have f3 := blk_frozen HI.out.blk (m * 5 + 3)
      have f4 := blk_frozen HI.out.blk (m * 5 + 4)
      have e0 : wB.drew.frozen? ⟨g, m * 5, none⟩ = false := f0
      have hml : (m : Int) < 8 := by omega
      refine start_ (n := 9) (S := fun w' => w'.cell? ⟨gb, 0, none⟩ = some (.int .i64 e) ∧ w'.cell? ⟨gb, 1, none⟩ = some (.bool f) ∧ w'.cell? ⟨gb, 2, none⟩ = some (.string v) ∧ w'.cell? ⟨gb, 3, none⟩ = some (.int .i64 n)) (ds := [8]) #[false, false, false, false, false, false, false, false, false] (by kernel_rfl) rfl rfl ⟨h0, h1, h2, h3⟩ (fun hHeld => ?_)
      refine with_tabW session_Table_Note.tab7 session_Table_Note.bits7 (fun HT_ HW_ => ?_)
      refine pure_ (i := 0) (N := some 20) (v := ?_) (a' := ?_) #[true, false, false, false, false, false, false, false, false] rfl rfl (any_of HT_.out (by kernel_rfl)) (fun _ _ _ h => h) (Or.inl ⟨by rfl, ?_⟩) ?_ ?_
      rotate_left
      · intro w'
        go_simp
        with_reducible rfl
      rotate_left
      · simp only [Act.put, List.setIfInBounds_toArray, List.set_cons_zero, List.set_cons_succ, i64_w, i32_w]
        rfl
      refine pure_ (i := 1) (N := some 21) (v := ?_) (a' := ?_) #[true, true, false, false, false, false, false, false, false] rfl rfl (any_of HT_.out (by kernel_rfl)) (fun _ _ _ h => h) (Or.inl ⟨by rfl, ?_⟩) ?_ ?_
      rotate_left
      · intro w'
        go_simp
        with_reducible rfl
      rotate_left
      · simp only [Act.put, List.setIfInBounds_toArray, List.set_cons_zero, List.set_cons_succ, i64_w, i32_w]
        rfl
      refine pure_ (i := 3) (N := some 23) (v := ?_) (a' := ?_) #[true, true, false, true, false, false, false, false, false] rfl rfl (any_of HT_.out (by kernel_rfl)) (fun _ _ _ h => h) (Or.inl ⟨by rfl, ?_⟩) ?_ ?_
      rotate_left
      · intro w'
        go_simp
        with_reducible rfl
      rotate_left
      · simp only [Act.put, List.setIfInBounds_toArray, List.set_cons_zero, List.set_cons_succ, i64_w, i32_w]
        rfl
      refine pure_ (i := 5) (N := some 25) (v := ?_) (a' := ?_) #[true, true, false, true, false, true, false, false, false] rfl rfl (any_of HT_.out (by kernel_rfl)) (fun _ _ _ h => h) (Or.inl ⟨by rfl, ?_⟩) ?_ ?_
      rotate_left
      · intro w'
        go_simp
        with_reducible rfl
      rotate_left
      · simp only [Act.put, List.setIfInBounds_toArray, List.set_cons_zero, List.set_cons_succ, i64_w, i32_w]
        rfl
      refine pure_ (i := 6) (N := some 26) (v := ?_) (a' := ?_) #[true, true, false, true, false, true, true, false, false] rfl rfl (any_of HT_.out (by kernel_rfl)) (fun _ _ _ h => h) (Or.inl ⟨by rfl, ?_⟩) ?_ ?_
      rotate_left
      · intro w'
        go_simp
        with_reducible rfl
      rotate_left
      · simp only [Act.put, List.setIfInBounds_toArray, List.set_cons_zero, List.set_cons_succ, i64_w, i32_w]
        rfl
      refine take_ (i := 2) (N := some 22) (v := ?_) (a' := ?_) #[true, true, true, true, false, true, true, false, false] rfl rfl (take_ofW HT_.out HW_.out (by kernel_rfl)) (fun _ _ _ h => h) (Or.inl ⟨by rfl, ?_⟩) hHeld ?_ ?_
      rotate_left
      · rintro w' ⟨s0, s1, s2, s3⟩
        go_simp
        with_reducible rfl
      rotate_left
      · simp only [Act.put, List.setIfInBounds_toArray, List.set_cons_zero, List.set_cons_succ, i64_w, i32_w]
        rfl
      refine pure_ (i := 4) (N := some 24) (v := ?_) (a' := ?_) #[true, true, true, true, true, true, true, false, false] rfl rfl (any_of HT_.out (by kernel_rfl)) (fun _ _ _ h => h) (Or.inl ⟨by rfl, ?_⟩) ?_ ?_
      rotate_left
      · intro w'
        go_simp
        with_reducible rfl
      rotate_left
      · simp only [Act.put, List.setIfInBounds_toArray, List.set_cons_zero, List.set_cons_succ, i64_w, i32_w]
        rfl
      refine pure_ (i := 7) (N := some 27) (v := ?_) (a' := ?_) #[true, true, true, true, true, true, true, true, false] rfl rfl (any_of HT_.out (by kernel_rfl)) (fun _ _ _ h => h) (Or.inl ⟨by rfl, ?_⟩) ?_ ?_
      rotate_left
      · intro w'
        go_simp
        with_reducible rfl
      rotate_left
      · simp only [Act.put, List.setIfInBounds_toArray, List.set_cons_zero, List.set_cons_succ, i64_w, i32_w]
        rfl
      refine last_ (i := 8) (N := none) #[true, true, true, true, true, true, true, true, true] rfl rfl (one_of HT_.out (by kernel_rfl)) (by decide) (fun K hK => ?_)
      refine skip_ (w1 := ?_) (by rfl) rfl ?_ ?_
      rotate_left
      · go_simp
        rfl
      refine hK.out _ _ ?_
      clear hK K
      refine done_ (done_of HT_.out (by kernel_rfl)) ?_
      go_wp2
      go_ret
      have HP := IsTab.put (r := ⟨e, f, v, n, s⟩) HI.out hm
      exact ⟨rfl, ⟨HP.base, HP.blk⟩, below_drew (below_put HW.out HI.out.base (m * 5) _ _ _ _ _), keep_drew (keep_put HK.out (m * 5) _ _ _ _ _)⟩
  · have z0 : (z == 0) = false := beq_eq_false_iff_ne.mpr (by omega)
    have z1 : (z == 1) = false := beq_eq_false_iff_ne.mpr (by omega)
    obtain rfl : RR = R := hR.symm.trans (if_neg (by omega))
    have hE : (if b = false then (1 : Int) else 44) = EE := by rw [← hE, if_neg (show ¬ z = 0 by omega), if_neg (show ¬ z = 1 by omega)]
    clear hR hin hz
    go_wp2_with fail
    refine (point_RightAns.calls k e f v n b _ HRA.out).mono ?_
    rintro ed wB ⟨rfl, hb⟩
    replace HI := Aside0.mk (HI.out.below hb)
    replace HK := Aside0.mk (HK.out.trans (KeepBut.of_below hb g none) (.inl rfl))
    replace HW := Aside0.mk (below_step HW.out hb)
    clear hb h0 h1 h2 h3
    cases b
    · obtain rfl : EE = 1 := hE.symm.trans (if_pos rfl)
      clear hE
      go_wp2
      go_ret
      exact ⟨rfl, HI.out, HW.out, HK.out⟩
    · obtain rfl : EE = 44 := hE.symm.trans (if_neg (by simp))
      clear hE
      go_wp2
      go_ret
      exact ⟨rfl, HI.out, HW.out, HK.out⟩
set_option maxHeartbeats 2000000 in
set_option maxRecDepth 100000 in
theorem session_Table_Note.dead {p : Option Addr} (c s : Int) (e : Int) (f : Bool) (v : ByteArray) (n : Int) (w : World) (h : DeadT w p) :
    Calls Try.prog 12 #[.pointer p, .int .i64 c, .int .i64 s, .agg #[.int .i64 e, .bool f, .string v, .int .i64 n]] w fun ed w' => ed = .returned (.int .i64 1) ∧ Below w.heap.size w w' := by
  have H := Aside0.mk h
  clear h
  go_enter Try.func12, Try.ntmps12
  go_wp2_with (first | ((with_reducible refine gate_dst (N := 7) rfl ?_); refine box_event ?hg (N := 7) ?hd (cs := #[.int .i64 e, .bool f, .string v, .int .i64 n]) (t := 34) ?hr ?_; (case hd => rfl); (case hg => rfl); (case hr => first | (go_simp; done) | (go_simp; rfl)); intro gb hg wA hbox hb; have HB := Aside0.mk hb; clear hbox hb hg) | ((with_reducible refine gate_callee (f := 36) rfl ?_); fail))
  refine (session_Table_Look.dead c s wA (H.out.below HB.out)).mono ?_
  rintro ed w1 ⟨rfl, rfl⟩
  go_wp2
  go_ret
  exact ⟨rfl, HB.out⟩

end Go.Proofs.Ytlfnfgoocliecaa.PJ
