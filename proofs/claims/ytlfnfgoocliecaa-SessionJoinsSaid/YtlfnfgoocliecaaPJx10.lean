-- Written by a program of this session (wip/tools/hp.py) over the kit's print; nothing here is trusted: Lean checks it.
import Derived.RegionTactic
import Derived.BigRegion
import Derived.Test.YtlfnfgoocliecaaPJx0
import Derived.Test.YtlfnfgoocliecaaPJx2
import Derived.Test.YtlfnfgoocliecaaPJx4
namespace Go.Proofs.Ytlfnfgoocliecaa.PJ
open Go.RowKit Go.Proofs.YtlfnfgoocliecaaW.PrintWords Go.Proofs.YtlfnfgoocliecaaW.PrintLast Go.Proofs.YtlfnfgoocliecaaW.PrintMore
attribute [local go_sem] max2_int min2_int max_two min_two max_three min_three max_four min_four   -- for this text's walks alone
set_option linter.unusedVariables false
set_option linter.unusedSimpArgs false

--OWN Derived.RegionTactic,Derived.BigRegion
/-! ### session_Table_Last: function 14 -/
def session_Table_Last.T3 : Bool × List (List Nat × List Nat) := (true, [([], []), ([0], [0]), ([1], [1]), ([2], [2]), ([], []), ([4], [4]), ([5], [5]), ([6], [6]), ([3, 0, 1, 2, 3], [3]), ([7, 8, 0, 1, 2, 3, 4, 5, 6, 7, 8], [7])])
def session_Table_Last.B3 : List Nat := [0, 1, 3, 7, 0, 16, 48, 112, 15, 511]
theorem session_Table_Last.tab3 : rtab .any (opsOf Try.f14 3) = session_Table_Last.T3 := by kernel_rfl
theorem session_Table_Last.bits3 : waitsOk session_Table_Last.T3.2 session_Table_Last.B3 = true := by kernel_rfl
def tLast (R : Nat → SRow) (c : Int) : SRow := if 0 ≤ c ∧ c < 8 then R c.toNat else SRow.none
def SRow.ans (r : SRow) : Value := .agg #[.int .i64 r.e, .bool r.f, .string r.v, .int .i64 r.n]
theorem set4 {W : World} {g : Nat} {t : TypeId} {a0 a1 a2 a3 : Value} (h : W.heap[g]? = some (.cells #[a0, a1, a2, a3] t (0, 0))) (b0 b1 b2 b3 : Value) : ((((W.setCell ⟨g, 0, none⟩ b0).setCell ⟨g, 1, none⟩ b1).setCell ⟨g, 2, none⟩ b2).setCell ⟨g, 3, none⟩ b3).heap[g]? = some (.cells #[b0, b1, b2, b3] t (0, 0)) :=
  blk_put (blk_put (blk_put (blk_put h 0 b0 rfl) 1 b1 rfl) 2 b2 rfl) 3 b3 rfl
theorem below4 {w W : World} {g : Nat} (h : Below w.heap.size w W) (hg : w.heap.size ≤ g) (b0 b1 b2 b3 : Value) : Below w.heap.size w ((((W.setCell ⟨g, 0, none⟩ b0).setCell ⟨g, 1, none⟩ b1).setCell ⟨g, 2, none⟩ b2).setCell ⟨g, 3, none⟩ b3) :=
  below_set (below_set (below_set (below_set h hg) hg) hg) hg
set_option maxHeartbeats 2000000 in
set_option maxRecDepth 100000 in
theorem session_Table_Last.calls (g : Nat) (R : Nat → SRow) (c : Int) (w0 w : World) (hI : IsTab w0 w g R) :
    Calls Try.prog 14 #[.pointer (some ⟨g, 0, none⟩), .int .i64 c] w fun e w' => e = .returned (.tuple #[.int .i64 (tLast R c).q, (tLast R c).ans]) ∧ IsTab w0 w' g R ∧ Below w.heap.size w w' := by
  have HI := Aside0.mk hI
  have HR := Aside0.mk (fun W hW => session_Table_row.calls g R c w0 W hW)
  have HL := Aside0.mk (blk_lt hI.blk)
  clear hI
  unfold tLast SRow.ans
  by_cases hc : 0 ≤ c ∧ c < 8
  rotate_left
  · rw [if_neg hc] at HR
    rw [if_neg hc]
    clear hc
    go_enter Try.func14, Try.ntmps14
    go_wp2_with (first | ((with_reducible refine gate_dst (N := 5) rfl ?_); refine box_event ?hg (N := 5) ?hd (cs := #[.int .i64 0, .bool false, .string ⟨#[]⟩, .int .i64 0]) (t := 34) ?hr ?_; (case hd => rfl); (case hg => rfl); (case hr => first | (go_simp; done) | (go_simp; rfl)); intro gb hg wA hbox hb; have HBX := Aside0.mk hbox; have HB := Aside0.mk hb; have HG := Aside0.mk hg; clear hbox hb hg) | ((with_reducible refine gate_callee (f := 36) rfl ?_); fail))
    refine (HR.out wA (HI.out.below HB.out)).mono ?_
    rintro e w1 ⟨rfl, rfl⟩
    clear HR
    have h0 := blk_cell HBX.out 0
    have h1 := blk_cell HBX.out 1
    have h2 := blk_cell HBX.out 2
    have h3 := blk_cell HBX.out 3
    have f0 := blk_frozen HBX.out 0
    have f1 := blk_frozen HBX.out 1
    have f2 := blk_frozen HBX.out 2
    have f3 := blk_frozen HBX.out 3
    go_wp2
    refine bodyPost_ret (results_tc rfl _ _ gb 34 #[.int .i64 0, .bool false, .string ⟨#[]⟩, .int .i64 0] (0, 0) _ rfl (set4 HBX.out _ _ _ _) Try.underlying34 rfl (by kernel_rfl)) rfl ?_
    have hb4 := below4 HB.out (Nat.le_of_eq HG.out.symm) (.int .i64 0) (.bool false) (.string ⟨#[]⟩) (.int .i64 0)
    exact ⟨rfl, HI.out.below hb4, hb4⟩
  · rw [if_pos hc] at HR
    rw [if_pos hc]
    obtain ⟨n, rfl⟩ := Int.eq_ofNat_of_zero_le hc.1
    rw [Int.toNat_natCast] at HR ⊢
    have hn : n < 8 := by omega
    clear hc
    go_enter Try.func14, Try.ntmps14
    go_wp2_with (first | ((with_reducible refine gate_dst (N := 5) rfl ?_); refine box_event ?hg (N := 5) ?hd (cs := #[.int .i64 0, .bool false, .string ⟨#[]⟩, .int .i64 0]) (t := 34) ?hr ?_; (case hd => rfl); (case hg => rfl); (case hr => first | (go_simp; done) | (go_simp; rfl)); intro gb hg wA hbox hb; have HBX := Aside0.mk hbox; have HB := Aside0.mk hb; have HG := Aside0.mk hg; clear hbox hb hg) | ((with_reducible refine gate_callee (f := 36) rfl ?_); fail))
    refine (HR.out wA (HI.out.below HB.out)).mono ?_
    rintro e w1 ⟨rfl, rfl⟩
    clear HR
    have h0 := blk_cell HBX.out 0
    have h1 := blk_cell HBX.out 1
    have h2 := blk_cell HBX.out 2
    have h3 := blk_cell HBX.out 3
    have f0 := blk_frozen HBX.out 0
    have f1 := blk_frozen HBX.out 1
    have f2 := blk_frozen HBX.out 2
    have f3 := blk_frozen HBX.out 3
    have HI2 := Aside0.mk (HI.out.below HB.out)
    go_wp2
    replace HBX := Aside0.mk (blk_drew HBX.out)
    have e0 := blk_frozen HBX.out 0
    have e1 := blk_frozen HBX.out 1
    have e2 := blk_frozen HBX.out 2
    have e3 := blk_frozen HBX.out 3
    obtain ⟨c0, c1, c2, c3, c4⟩ := HI2.out.cells_ hn
    replace HB := Aside0.mk (below_drew HB.out)
    refine start_ (n := 10) (S := fun w' => w'.cell? ⟨g, n * 5, none⟩ = some (.int .i64 (R n).e) ∧ w'.cell? ⟨g, n * 5 + 1, none⟩ = some (.bool (R n).f) ∧ w'.cell? ⟨g, n * 5 + 2, none⟩ = some (.string (R n).v) ∧ w'.cell? ⟨g, n * 5 + 3, none⟩ = some (.int .i64 (R n).n) ∧ w'.cell? ⟨g, n * 5 + 4, none⟩ = some (.int .i64 (R n).q)) (ds := [9]) #[false, false, false, false, false, false, false, false, false, false] (by kernel_rfl) rfl rfl ⟨c0, c1, c2, c3, c4⟩ (fun hHeld => ?_)
    refine with_tabW session_Table_Last.tab3 session_Table_Last.bits3 (fun HT_ HW_ => ?_)
    refine pure_ (i := 0) (N := some 12) (v := ?_) (a' := ?_) #[true, false, false, false, false, false, false, false, false, false] rfl rfl (any_of HT_.out (by kernel_rfl)) (fun _ _ _ h => h) (Or.inl ⟨by rfl, ?_⟩) ?_ ?_
    rotate_left
    · intro w'
      go_simp
      with_reducible rfl
    rotate_left
    · simp only [Act.put, List.setIfInBounds_toArray, List.set_cons_zero, List.set_cons_succ, i64_w, i32_w]
      rfl
    refine pure_ (i := 1) (N := some 13) (v := ?_) (a' := ?_) #[true, true, false, false, false, false, false, false, false, false] rfl rfl (any_of HT_.out (by kernel_rfl)) (fun _ _ _ h => h) (Or.inl ⟨by rfl, ?_⟩) ?_ ?_
    rotate_left
    · intro w'
      go_simp
      with_reducible rfl
    rotate_left
    · simp only [Act.put, List.setIfInBounds_toArray, List.set_cons_zero, List.set_cons_succ, i64_w, i32_w]
      rfl
    refine pure_ (i := 2) (N := some 14) (v := ?_) (a' := ?_) #[true, true, true, false, false, false, false, false, false, false] rfl rfl (any_of HT_.out (by kernel_rfl)) (fun _ _ _ h => h) (Or.inl ⟨by rfl, ?_⟩) ?_ ?_
    rotate_left
    · intro w'
      go_simp
      with_reducible rfl
    rotate_left
    · simp only [Act.put, List.setIfInBounds_toArray, List.set_cons_zero, List.set_cons_succ, i64_w, i32_w]
      rfl
    refine pure_ (i := 4) (N := some 16) (v := ?_) (a' := ?_) #[true, true, true, false, true, false, false, false, false, false] rfl rfl (any_of HT_.out (by kernel_rfl)) (fun _ _ _ h => h) (Or.inl ⟨by rfl, ?_⟩) ?_ ?_
    rotate_left
    · intro w'
      go_simp
      with_reducible rfl
    rotate_left
    · simp only [Act.put, List.setIfInBounds_toArray, List.set_cons_zero, List.set_cons_succ, i64_w, i32_w]
      rfl
    refine pure_ (i := 5) (N := some 17) (v := ?_) (a' := ?_) #[true, true, true, false, true, true, false, false, false, false] rfl rfl (any_of HT_.out (by kernel_rfl)) (fun _ _ _ h => h) (Or.inl ⟨by rfl, ?_⟩) ?_ ?_
    rotate_left
    · intro w'
      go_simp
      with_reducible rfl
    rotate_left
    · simp only [Act.put, List.setIfInBounds_toArray, List.set_cons_zero, List.set_cons_succ, i64_w, i32_w]
      rfl
    refine pure_ (i := 6) (N := some 18) (v := ?_) (a' := ?_) #[true, true, true, false, true, true, true, false, false, false] rfl rfl (any_of HT_.out (by kernel_rfl)) (fun _ _ _ h => h) (Or.inl ⟨by rfl, ?_⟩) ?_ ?_
    rotate_left
    · intro w'
      go_simp
      with_reducible rfl
    rotate_left
    · simp only [Act.put, List.setIfInBounds_toArray, List.set_cons_zero, List.set_cons_succ, i64_w, i32_w]
      rfl
    refine take_ (i := 3) (N := some 15) (v := ?_) (a' := ?_) #[true, true, true, true, true, true, true, false, false, false] rfl rfl (take_ofW HT_.out HW_.out (by kernel_rfl)) (fun _ _ _ h => h) (Or.inl ⟨by rfl, ?_⟩) hHeld ?_ ?_
    rotate_left
    · rintro w' ⟨s0, s1, s2, s3, s4⟩
      go_simp
      with_reducible rfl
    rotate_left
    · simp only [Act.put, List.setIfInBounds_toArray, List.set_cons_zero, List.set_cons_succ, i64_w, i32_w]
      rfl
    refine pure_ (i := 8) (N := some 4) (v := ?_) (a' := ?_) #[true, true, true, true, true, true, true, false, true, false] rfl rfl (any_of HT_.out (by kernel_rfl)) (fun _ _ _ h => h) (Or.inl ⟨by rfl, ?_⟩) ?_ ?_
    rotate_left
    · intro w'
      go_simp
      with_reducible rfl
    rotate_left
    · simp only [Act.put, List.setIfInBounds_toArray, List.set_cons_zero, List.set_cons_succ, i64_w, i32_w]
      rfl
    refine take_ (i := 7) (N := some 19) (v := ?_) (a' := ?_) #[true, true, true, true, true, true, true, true, true, false] rfl rfl (take_ofW HT_.out HW_.out (by kernel_rfl)) (fun _ _ _ h => h) (Or.inl ⟨by rfl, ?_⟩) hHeld ?_ ?_
    rotate_left
    · rintro w' ⟨s0, s1, s2, s3, s4⟩
      go_simp
      with_reducible rfl
    rotate_left
    · simp only [Act.put, List.setIfInBounds_toArray, List.set_cons_zero, List.set_cons_succ, i64_w, i32_w]
      rfl
    refine last_ (i := 9) (N := none) #[true, true, true, true, true, true, true, true, true, true] rfl rfl (one_of HT_.out (by kernel_rfl)) (by decide) (fun K hK => ?_)
    refine skip_ (w1 := ?_) (by rfl) rfl ?_ ?_
    rotate_left
    · go_simp
      rfl
    refine hK.out _ _ ?_
    clear hK K
    refine done_ (done_of HT_.out (by kernel_rfl)) ?_
    go_wp2
    refine bodyPost_ret (results_tc rfl _ _ gb 34 #[.int .i64 (R n).e, .bool (R n).f, .string (R n).v, .int .i64 (R n).n] (0, 0) _ rfl (set4 HBX.out _ _ _ _) Try.underlying34 rfl (by kernel_rfl)) rfl ?_
    have hb4 := below4 HB.out (Nat.le_of_eq HG.out.symm) (.int .i64 (R n).e) (.bool (R n).f) (.string (R n).v) (.int .i64 (R n).n)
    exact ⟨rfl, HI.out.below hb4, hb4⟩
set_option maxHeartbeats 2000000 in
set_option maxRecDepth 100000 in
theorem session_Table_Last.dead {p : Option Addr} (c : Int) (w : World) (h : DeadT w p) :
    Calls Try.prog 14 #[.pointer p, .int .i64 c] w fun e w' => e = .returned (.tuple #[.int .i64 0, .agg #[.int .i64 0, .bool false, .string ⟨#[]⟩, .int .i64 0]]) ∧ Below w.heap.size w w' := by
  have H := Aside0.mk h
  clear h
  go_enter Try.func14, Try.ntmps14
  go_wp2_with (first | ((with_reducible refine gate_dst (N := 5) rfl ?_); refine box_event ?hg (N := 5) ?hd (cs := #[.int .i64 0, .bool false, .string ⟨#[]⟩, .int .i64 0]) (t := 34) ?hr ?_; (case hd => rfl); (case hg => rfl); (case hr => first | (go_simp; done) | (go_simp; rfl)); intro gb hg wA hbox hb; have HBX := Aside0.mk hbox; have HB := Aside0.mk hb; have HG := Aside0.mk hg; clear hbox hb hg) | ((with_reducible refine gate_callee (f := 36) rfl ?_); fail))
  refine (session_Table_row.dead c wA (H.out.below HB.out)).mono ?_
  rintro e w1 ⟨rfl, rfl⟩
  have h0 := blk_cell HBX.out 0
  have h1 := blk_cell HBX.out 1
  have h2 := blk_cell HBX.out 2
  have h3 := blk_cell HBX.out 3
  have f0 := blk_frozen HBX.out 0
  have f1 := blk_frozen HBX.out 1
  have f2 := blk_frozen HBX.out 2
  have f3 := blk_frozen HBX.out 3
  go_wp2
  refine bodyPost_ret (results_tc rfl _ _ gb 34 #[.int .i64 0, .bool false, .string ⟨#[]⟩, .int .i64 0] (0, 0) _ rfl (set4 HBX.out _ _ _ _) Try.underlying34 rfl (by kernel_rfl)) rfl ?_
  have hb4 := below4 HB.out (Nat.le_of_eq HG.out.symm) (.int .i64 0) (.bool false) (.string ⟨#[]⟩) (.int .i64 0)
  exact ⟨rfl, hb4⟩

end Go.Proofs.Ytlfnfgoocliecaa.PJ
