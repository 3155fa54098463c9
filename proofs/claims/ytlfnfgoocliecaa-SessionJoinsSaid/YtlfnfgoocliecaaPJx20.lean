-- Written by a program of this session (wip/tools/hp.py) over the kit's print; nothing here is trusted: Lean checks it.
import Derived.RegionTactic
import Derived.BigRegion
import Derived.Laws.Rows
import Derived.Laws.Tables
import Derived.Laws.Cells
import Derived.Test.YtlfnfgoocliecaaPJx0
import Derived.Test.YtlfnfgoocliecaaPJx2
import Derived.Test.YtlfnfgoocliecaaPJx3
import Derived.Test.YtlfnfgoocliecaaPJx9
import Derived.Test.YtlfnfgoocliecaaPJx19
namespace Go.Proofs.Ytlfnfgoocliecaa.PJ
open Go.RowKit Go.Proofs.YtlfnfgoocliecaaW.PrintWords Go.Proofs.YtlfnfgoocliecaaW.PrintLast Go.Proofs.YtlfnfgoocliecaaW.PrintMore
attribute [local go_sem] max2_int min2_int max_two min_two max_three min_three max_four min_four   -- for this text's walks alone
set_option linter.unusedVariables false
set_option linter.unusedSimpArgs false

--OWN Derived.RegionTactic,Derived.BigRegion,Derived.Laws.Rows,Derived.Laws.Tables,Derived.Laws.Cells
/-! ### session_Table_Join: function 18 -/
def session_Table_Join.T7 : Bool × List (List Nat × List Nat) := (true, [([], []), ([0], [0]), ([], []), ([], []), ([2], [2]), ([4], [4]), ([5, 3], [3, 5]), ([6], [6]), ([7], [7]), ([1, 8], [1, 8])])
def session_Table_Join.B7 : List Nat := [0, 1, 0, 0, 4, 20, 60, 124, 252, 511]
theorem session_Table_Join.tab7 : rtab .any (opsOf Try.f18 7) = session_Table_Join.T7 := by kernel_rfl
theorem session_Table_Join.bits7 : waitsOk session_Table_Join.T7.2 session_Table_Join.B7 = true := by kernel_rfl
theorem session_Table_Join.dead1 {p q : Option Addr} (w : World) (h : DeadT w p) :
    Calls Try.prog 18 #[.pointer p, .pointer q] w fun e w' => e = .returned (.pointer none) ∧ w = w' := by
  have H := Aside0.mk h
  clear h
  go_enter Try.func18, Try.ntmps18
  go_wp2_with fail
  refine (session_Table_none.dead w H.out).mono ?_
  rintro e w1 ⟨rfl, rfl⟩
  go_wp2
  go_ret
  exact ⟨rfl, rfl⟩
theorem session_Table_Join.dead2 {q : Option Addr} (g : Nat) (R : Nat → SRow) (w0 w : World) (hI : IsTab w0 w g R) (h : DeadT w q) :
    Calls Try.prog 18 #[.pointer (some ⟨g, 0, none⟩), .pointer q] w fun e w' => e = .returned (.pointer none) ∧ w = w' := by
  have H := Aside0.mk h
  have HI := Aside0.mk hI
  clear h hI
  go_enter Try.func18, Try.ntmps18
  go_wp2_with fail
  refine (session_Table_none.calls g R w0 w HI.out).mono ?_
  rintro e w1 ⟨rfl, rfl⟩
  go_wp2_with fail
  refine (session_Table_none.dead w H.out).mono ?_
  rintro e w1 ⟨rfl, rfl⟩
  go_wp2
  go_ret
  exact ⟨rfl, rfl⟩
/-! LIVE -/
section
variable {P : Program}
theorem run_loadVar_pre (w : World) (g : Nat) (t ty : TypeId) (cs pre : Array Value) (fr : Nat × Nat) (d : TypeDesc) (hg : w.heap[g]? = some (.cells cs t fr)) (hp : ∀ (j : Nat) (v : Value), pre.toList[j]? = some v → cs[j]? = some v)
    (hu : P.underlying ty = some d) (hd : (match d with | .struct _ | .array _ _ => true | _ => false) = true) (hi : (P.info? ty).map (·.size) = some pre.size) :
    (loadVar ty ⟨g, 0, none⟩).run P w = .ok (.agg pre) w := by
  have hl : (loadCells ⟨g, 0, none⟩ pre.toList.length).run P w = .ok pre.toList.toArray w :=
    run_loadCells_list (P := P) w ⟨g, 0, none⟩ pre.toList (fun j v hv => by
      have hadd : (⟨g, 0, none⟩ : Addr).add j = ⟨g, j, none⟩ := by unfold Addr.add; split <;> simp_all
      rw [hadd, cell_of_row w g j cs t fr hg]
      exact hp j v hv)
  cases hq : P.info? ty with
  | none => simp [hq] at hi
  | some i =>
    have hs : i.size = pre.size := by simpa [hq] using hi
    have hagg : (isAgg ty).run P w = .ok true w := by
      unfold isAgg
      rw [Sem.run_bind, run_underlying hu w]
      cases d <;> simp_all
    simp only [Array.length_toList, Array.toArray_toList] at hl
    simp [loadVar, Sem.run_bind, hagg, sizeOf, typeInfo, hq, hs, hl]
theorem wp_load_pre {o : Oper} {a : Act} {w : World} {K : Act → World → Prop} {Q : Exit → Act → World → Prop} (ty : TypeId) (x : Operand) (ho : o.op = .load ty x)
    (g : Nat) (hx : a.eval x = .pointer (some ⟨g, 0, none⟩)) (t : TypeId) (cs pre : Array Value) (fr : Nat × Nat) (d : TypeDesc) (hg : w.heap[g]? = some (.cells cs t fr)) (hp : ∀ (j : Nat) (v : Value), pre.toList[j]? = some v → cs[j]? = some v)
    (hu : P.underlying ty = some d) (hd : (match d with | .struct _ | .array _ _ => true | _ => false) = true) (hi : (P.info? ty).map (·.size) = some pre.size)
    (h : K (a.put o.dst (.agg pre)) w) : o.wp P a w K Q := by
  unfold Oper.wp execOp
  simp only [ho, hx, Instr.loadAt, Instr.sureAddr, Sem.run_bind, Sem.run_pure, Result.andThen_ok, run_loadVar_pre w g t ty cs pre fr d hg hp hu hd hi]
  exact h
theorem wpList_load_pre {ops : Array Oper} {rest : List Oper} {o : Oper} {a : Act} {w : World} {Q : Exit → Act → World → Prop} (hgd : o.guard = none) (ty : TypeId) (x : Operand) (ho : o.op = .load ty x)
    (g : Nat) (hx : a.eval x = .pointer (some ⟨g, 0, none⟩)) (t : TypeId) (cs pre : Array Value) (fr : Nat × Nat) (d : TypeDesc) (hg : w.heap[g]? = some (.cells cs t fr)) (hp : ∀ (j : Nat) (v : Value), pre.toList[j]? = some v → cs[j]? = some v)
    (hu : P.underlying ty = some d) (hd : (match d with | .struct _ | .array _ _ => true | _ => false) = true) (hi : (P.info? ty).map (·.size) = some pre.size)
    (h : wpList P ops Q rest (a.put o.dst (.agg pre)) w) : wpList P ops Q (o :: rest) a w :=
  wpList_plain hgd fun _ hK => wp_load_pre ty x ho g hx t cs pre fr d hg hp hu hd hi (hK _ _ h)
end
def preCells (R : Nat → SRow) : Array Value := #[.int .i64 (R 0).e, .bool (R 0).f, .string (R 0).v, .int .i64 (R 0).n, .int .i64 (R 0).q, .int .i64 (R 1).e, .bool (R 1).f, .string (R 1).v, .int .i64 (R 1).n, .int .i64 (R 1).q, .int .i64 (R 2).e, .bool (R 2).f, .string (R 2).v, .int .i64 (R 2).n, .int .i64 (R 2).q, .int .i64 (R 3).e, .bool (R 3).f, .string (R 3).v, .int .i64 (R 3).n, .int .i64 (R 3).q, .int .i64 (R 4).e, .bool (R 4).f, .string (R 4).v, .int .i64 (R 4).n, .int .i64 (R 4).q, .int .i64 (R 5).e, .bool (R 5).f, .string (R 5).v, .int .i64 (R 5).n, .int .i64 (R 5).q, .int .i64 (R 6).e, .bool (R 6).f, .string (R 6).v, .int .i64 (R 6).n, .int .i64 (R 6).q, .int .i64 (R 7).e, .bool (R 7).f, .string (R 7).v, .int .i64 (R 7).n, .int .i64 (R 7).q]
theorem pre_tab (R : Nat → SRow) : ∀ (j : Nat) (v : Value), (preCells R).toList[j]? = some v → (tabCells R)[j]? = some v := by
  intro j v h
  have hl : tabCells R = ((preCells R).toList ++ [Value.bool true]).toArray := rfl
  rw [hl, List.getElem?_toArray, List.getElem?_append_left]
  · exact h
  · rcases Nat.lt_or_ge j (preCells R).toList.length with q | q
    · exact q
    · rw [List.getElem?_eq_none q] at h
      cases h
set_option maxRecDepth 100000 in
theorem pre_index (R : Nat → SRow) {j : Nat} (hj : j < 8) : ∀ W : World, (Instr.index 54 (.agg (preCells R)) (.int .i64 (j : Int))).run Try.prog W = .ok (.agg #[.int .i64 (R j).e, .bool (R j).f, .string (R j).v, .int .i64 (R j).n, .int .i64 (R j).q]) W := by
  intro W
  rcases lt8 hj with rfl | rfl | rfl | rfl | rfl | rfl | rfl | rfl <;> rfl
def joinUp (R1 R2 : Nat → SRow) (j : Nat) : Nat → SRow := fun i => if i < j then (if (R1 i).q < (R2 i).q then R2 i else R1 i) else R1 i
theorem joinUp_at (R1 R2 : Nat → SRow) (j : Nat) : joinUp R1 R2 j j = R1 j := if_neg (by omega)
theorem joinUp_yes {R1 R2 : Nat → SRow} {j : Nat} (h : (R1 j).q < (R2 j).q) : upd (joinUp R1 R2 j) j (R2 j) = joinUp R1 R2 (j + 1) := by
  funext i
  unfold upd joinUp
  by_cases c : i = j
  · subst c
    rw [if_pos rfl, if_pos (show i < i + 1 by omega), if_pos h]
  · rw [if_neg c]
    by_cases c2 : i < j
    · rw [if_pos c2, if_pos (show i < j + 1 by omega)]
    · rw [if_neg c2, if_neg (show ¬ i < j + 1 by omega)]
theorem joinUp_no {R1 R2 : Nat → SRow} {j : Nat} (h : ¬ (R1 j).q < (R2 j).q) : joinUp R1 R2 j = joinUp R1 R2 (j + 1) := by
  funext i
  unfold joinUp
  by_cases c : i = j
  · subst c
    rw [if_neg (show ¬ i < i by omega), if_pos (show i < i + 1 by omega), if_neg h]
  · by_cases c2 : i < j
    · rw [if_pos c2, if_pos (show i < j + 1 by omega)]
    · rw [if_neg c2, if_neg (show ¬ i < j + 1 by omega)]
theorem joinUp_zero (R1 R2 : Nat → SRow) : R1 = joinUp R1 R2 0 := by
  funext i
  unfold joinUp
  rw [if_neg (by omega)]
theorem set5 {W : World} {g : Nat} {t : TypeId} {a0 a1 a2 a3 a4 : Value} (h : W.heap[g]? = some (.cells #[a0, a1, a2, a3, a4] t (0, 0))) (b0 b1 b2 b3 b4 : Value) : (((((W.setCell ⟨g, 0, none⟩ b0).setCell ⟨g, 1, none⟩ b1).setCell ⟨g, 2, none⟩ b2).setCell ⟨g, 3, none⟩ b3).setCell ⟨g, 4, none⟩ b4).heap[g]? = some (.cells #[b0, b1, b2, b3, b4] t (0, 0)) := (blk_put (blk_put (blk_put (blk_put (blk_put h 0 b0 rfl) 1 b1 rfl) 2 b2 rfl) 3 b3 rfl) 4 b4 rfl)
theorem below5 {w W : World} {g : Nat} (h : Below w.heap.size w W) (hg : w.heap.size ≤ g) (b0 b1 b2 b3 b4 : Value) : Below w.heap.size w (((((W.setCell ⟨g, 0, none⟩ b0).setCell ⟨g, 1, none⟩ b1).setCell ⟨g, 2, none⟩ b2).setCell ⟨g, 3, none⟩ b3).setCell ⟨g, 4, none⟩ b4) := (below_set (below_set (below_set (below_set (below_set h hg) hg) hg) hg) hg)
set_option maxHeartbeats 4000000 in
set_option maxRecDepth 100000 in
theorem session_Table_Join.calls (g1 g2 : Nat) (R1 R2 : Nat → SRow) (w0 w : World) (hI1 : IsTab w0 w g1 R1) (hI2 : IsTab w0 w g2 R2) :
    Calls Try.prog 18 #[.pointer (some ⟨g1, 0, none⟩), .pointer (some ⟨g2, 0, none⟩)] w fun e w' => ∃ g', e = .returned (.pointer (some ⟨g', 0, none⟩)) ∧ IsTab w w' g' (joinUp R1 R2 8) ∧ Below w.heap.size w w' := by
  have HI1 := Aside0.mk hI1
  have HI2 := Aside0.mk hI2
  clear hI1 hI2
  go_enter Try.func18, Try.ntmps18
  go_wp2_with fail
  refine (session_Table_none.calls g1 R1 w0 w HI1.out).mono ?_
  rintro e w1 ⟨rfl, rfl⟩
  go_wp2_with fail
  refine (session_Table_none.calls g2 R2 w0 w HI2.out).mono ?_
  rintro e w1 ⟨rfl, rfl⟩
  go_wp2_with fail
  refine (session_Table_Clone.calls g1 R1 w0 w HI1.out).mono ?_
  rintro e w2 ⟨g, rfl, hI, hb⟩
  have HT := Aside0.mk (show IsTab w w2 g (joinUp R1 R2 0) by rw [← joinUp_zero]; exact hI)
  have HBJ := Aside0.mk hb
  replace HI2 := Aside0.mk (HI2.out.below hb)
  clear hI hb HI1
  go_wp2_with (first | ((with_reducible refine gate_dst (N := 19) rfl ?_); refine wpList_load_pre rfl 54 (.tmp 18) rfl g2 ?hx 56 (tabCells R2) (preCells R2) (0, 0) _ HI2.out.blk (pre_tab R2) Try.underlying54 rfl (by kernel_rfl) ?_; (case hx => rfl)) | fail)
  go_loopw [20] (fun i wr => ∃ j : Nat, j ≤ 8 ∧ i = .int .i64 j ∧ Aside0 (IsTab w wr g (joinUp R1 R2 j)) ∧ Aside0 (Below w.heap.size w wr)) (fun i _ => 8 - (intOf i).toNat)
  case atStart => exact ⟨0, by omega, rfl, HT, HBJ⟩
  case round =>
    obtain ⟨j, hj, rfl, HTJ, HBK⟩ := hrel
    clear HT HBJ HI2
    by_cases hlt : j < 8
    · have hlt2 : decide ((j : Int) < 8) = true := decide_eq_true (by omega)
      have hlt3 : (j : Int) < 8 := by omega
      have hix := pre_index R2 hlt
      have hq : (joinUp R1 R2 j j) = R1 j := joinUp_at R1 R2 j
      have hyes := @joinUp_yes R1 R2 j
      have hno := @joinUp_no R1 R2 j
      generalize R2 j = r at hix hyes hno
      generalize preCells R2 = PC at hix ⊢
      go_wp2_with (first | ((with_reducible refine gate_dst (N := 7) rfl ?_); refine box_event ?hg (N := 7) ?hd (cs := #[.int .i64 0, .bool false, .string ⟨#[]⟩, .int .i64 0, .int .i64 0]) (t := 53) ?hr ?_; (case hd => rfl); (case hg => rfl); (case hr => first | (go_simp; done) | (go_simp; rfl)); intro g7 hg w7 hbox hb; have HBXg7 := Aside0.mk hbox; have HBb := Aside0.mk hb; have HGg7 := Aside0.mk hg; have h0 := blk_cell hbox 0; have f0 := blk_frozen hbox 0; have h1 := blk_cell hbox 1; have f1 := blk_frozen hbox 1; have h2 := blk_cell hbox 2; have f2 := blk_frozen hbox 2; have h3 := blk_cell hbox 3; have f3 := blk_frozen hbox 3; have h4 := blk_cell hbox 4; have f4 := blk_frozen hbox 4; clear hbox hb hg) | fail)
      have hbx := below5 HBb.out (Nat.le_of_eq HGg7.out.symm) (.int .i64 r.e) (.bool r.f) (.string r.v) (.int .i64 r.n) (.int .i64 r.q)
      have HA7 := Aside0.mk (set5 HBXg7.out (.int .i64 r.e) (.bool r.f) (.string r.v) (.int .i64 r.n) (.int .i64 r.q))
      have HT := Aside0.mk (HTJ.out.below hbx)
      have HBJ := Aside0.mk (below_step HBK.out hbx)
      generalize (((((w7.setCell ⟨g7, 0, none⟩ (.int .i64 r.e)).setCell ⟨g7, 1, none⟩ (.bool r.f)).setCell ⟨g7, 2, none⟩ (.string r.v)).setCell ⟨g7, 3, none⟩ (.int .i64 r.n)).setCell ⟨g7, 4, none⟩ (.int .i64 r.q)) = W at HA7 HT HBJ ⊢
      have HTW := HT
      replace HA7 := Aside0.mk (blk_drew HA7.out)
      replace HT := Aside0.mk (HT.out.below (below_drew (Below.refl _ _)))
      replace HBJ := Aside0.mk (below_drew HBJ.out)
      clear hbx HBb HBXg7 HGg7 h0 h1 h2 h3 h4 f0 f1 f2 f3 f4 HTJ HBK
      have c4 := (HT.out.cells_ hlt).2.2.2.2
      rw [hq] at c4
      have HC4 := Aside0.mk c4
      clear c4
      by_cases hc : (R1 j).q < r.q
      · have d1 : decide ((R1 j).q < r.q) = true := decide_eq_true hc
        have hy := hyes hc
        clear hno hyes hc
        refine start_ (n := 10) (S := fun w' => w'.cell? ⟨g7, 4, none⟩ = some (.int .i64 r.q) ∧ w'.cell? ⟨g, j * 5 + 4, none⟩ = some (.int .i64 (R1 j).q)) (ds := []) #[false, false, false, false, false, false, false, false, false, false] (by kernel_rfl) rfl rfl ⟨(blk_cell HA7.out 4), HC4.out⟩ (fun hHeld => ?_)
        refine with_tabW session_Table_Join.tab7 session_Table_Join.bits7 (fun HT_ HW_ => ?_)
        refine pure_ (i := 0) (N := some 24) (v := ?_) (a' := ?_) #[true, false, false, false, false, false, false, false, false, false] rfl rfl (any_of HT_.out (by kernel_rfl)) (fun _ _ _ h => h) (Or.inl ⟨by rfl, ?_⟩) ?_ ?_
        rotate_left
        · intro w'
          go_simp
          with_reducible rfl
        rotate_left
        · simp only [Act.put, List.setIfInBounds_toArray, List.set_cons_zero, List.set_cons_succ, i64_w, i32_w]
          rfl
        refine pure_ (i := 2) (N := some 26) (v := ?_) (a' := ?_) #[true, false, true, false, false, false, false, false, false, false] rfl rfl (any_of HT_.out (by kernel_rfl)) (fun _ _ _ h => h) (Or.inl ⟨by rfl, ?_⟩) ?_ ?_
        rotate_left
        · intro w'
          go_simp
          with_reducible rfl
        rotate_left
        · simp only [Act.put, List.setIfInBounds_toArray, List.set_cons_zero, List.set_cons_succ, i64_w, i32_w]
          rfl
        refine pure_ (i := 3) (N := some 27) (v := ?_) (a' := ?_) #[true, false, true, true, false, false, false, false, false, false] rfl rfl (any_of HT_.out (by kernel_rfl)) (fun _ _ _ h => h) (Or.inl ⟨by rfl, ?_⟩) ?_ ?_
        rotate_left
        · intro w'
          go_simp
          with_reducible rfl
        rotate_left
        · simp only [Act.put, List.setIfInBounds_toArray, List.set_cons_zero, List.set_cons_succ, i64_w, i32_w]
          rfl
        refine pure_ (i := 4) (N := some 28) (v := ?_) (a' := ?_) #[true, false, true, true, true, false, false, false, false, false] rfl rfl (any_of HT_.out (by kernel_rfl)) (fun _ _ _ h => h) (Or.inl ⟨by rfl, ?_⟩) ?_ ?_
        rotate_left
        · intro w'
          go_simp
          with_reducible rfl
        rotate_left
        · simp only [Act.put, List.setIfInBounds_toArray, List.set_cons_zero, List.set_cons_succ, i64_w, i32_w]
          rfl
        refine pure_ (i := 5) (N := some 29) (v := ?_) (a' := ?_) #[true, false, true, true, true, true, false, false, false, false] rfl rfl (any_of HT_.out (by kernel_rfl)) (fun _ _ _ h => h) (Or.inl ⟨by rfl, ?_⟩) ?_ ?_
        rotate_left
        · intro w'
          go_simp
          with_reducible rfl
        rotate_left
        · simp only [Act.put, List.setIfInBounds_toArray, List.set_cons_zero, List.set_cons_succ, i64_w, i32_w]
          rfl
        refine pure_ (i := 6) (N := some 30) (v := ?_) (a' := ?_) #[true, false, true, true, true, true, true, false, false, false] rfl rfl (any_of HT_.out (by kernel_rfl)) (fun _ _ _ h => h) (Or.inl ⟨by rfl, ?_⟩) ?_ ?_
        rotate_left
        · intro w'
          go_simp
          with_reducible rfl
        rotate_left
        · simp only [Act.put, List.setIfInBounds_toArray, List.set_cons_zero, List.set_cons_succ, i64_w, i32_w]
          rfl
        refine pure_ (i := 7) (N := some 31) (v := ?_) (a' := ?_) #[true, false, true, true, true, true, true, true, false, false] rfl rfl (any_of HT_.out (by kernel_rfl)) (fun _ _ _ h => h) (Or.inl ⟨by rfl, ?_⟩) ?_ ?_
        rotate_left
        · intro w'
          go_simp
          with_reducible rfl
        rotate_left
        · simp only [Act.put, List.setIfInBounds_toArray, List.set_cons_zero, List.set_cons_succ, i64_w, i32_w]
          rfl
        refine take_ (i := 1) (N := some 25) (v := ?_) (a' := ?_) #[true, true, true, true, true, true, true, true, false, false] rfl rfl (take_ofW HT_.out HW_.out (by kernel_rfl)) (fun _ _ _ h => h) (Or.inl ⟨by rfl, ?_⟩) hHeld ?_ ?_
        rotate_left
        · rintro w' ⟨s0, s1⟩
          go_simp
          with_reducible rfl
        rotate_left
        · simp only [Act.put, List.setIfInBounds_toArray, List.set_cons_zero, List.set_cons_succ, i64_w, i32_w]
          rfl
        refine take_ (i := 8) (N := some 32) (v := ?_) (a' := ?_) #[true, true, true, true, true, true, true, true, true, false] rfl rfl (take_ofW HT_.out HW_.out (by kernel_rfl)) (fun _ _ _ h => h) (Or.inl ⟨by rfl, ?_⟩) hHeld ?_ ?_
        rotate_left
        · rintro w' ⟨s0, s1⟩
          go_simp
          with_reducible rfl
        rotate_left
        · simp only [Act.put, List.setIfInBounds_toArray, List.set_cons_zero, List.set_cons_succ, i64_w, i32_w]
          rfl
        refine pure_ (i := 9) (N := some 33) (v := ?_) (a' := ?_) #[true, true, true, true, true, true, true, true, true, true] rfl rfl (any_of HT_.out (by kernel_rfl)) (fun _ _ _ h => h) (Or.inl ⟨by rfl, ?_⟩) ?_ ?_
        rotate_left
        · intro w'
          go_simp
          with_reducible rfl
        rotate_left
        · simp only [Act.put, List.setIfInBounds_toArray, List.set_cons_zero, List.set_cons_succ, i64_w, i32_w]
          rfl
        refine done_ (done_of HT_.out (by kernel_rfl)) ?_
        go_wp2_with fail
        have f0 := blk_frozen HTW.out.blk (j * 5)
        have f1 := blk_frozen HTW.out.blk (j * 5 + 1)
        have f2 := blk_frozen HTW.out.blk (j * 5 + 2)
        have f3 := blk_frozen HTW.out.blk (j * 5 + 3)
        have f4 := blk_frozen HTW.out.blk (j * 5 + 4)
        have e0 := blk_frozen (blk_drew HT.out.blk) (j * 5)
        obtain ⟨c0, c1, c2, c3, c4⟩ := HTW.out.cells_ hlt
        replace HA7 := Aside0.mk (blk_drew HA7.out)
        refine start_ (n := 7) (S := fun w' => w'.cell? ⟨g7, 0, none⟩ = some (.int .i64 r.e) ∧ w'.cell? ⟨g7, 1, none⟩ = some (.bool r.f) ∧ w'.cell? ⟨g7, 2, none⟩ = some (.string r.v) ∧ w'.cell? ⟨g7, 3, none⟩ = some (.int .i64 r.n) ∧ w'.cell? ⟨g7, 4, none⟩ = some (.int .i64 r.q)) (ds := [6]) #[false, false, false, false, false, false, false] (by kernel_rfl) rfl rfl ⟨(blk_cell HA7.out 0), (blk_cell HA7.out 1), (blk_cell HA7.out 2), (blk_cell HA7.out 3), (blk_cell HA7.out 4)⟩ (fun hHeld => ?_)
        refine pure_ (i := 0) (N := some 34) (v := ?_) (a' := ?_) #[true, false, false, false, false, false, false] rfl rfl (by kernel_rfl) (fun _ _ _ h => h) (Or.inl ⟨by rfl, ?_⟩) ?_ ?_
        rotate_left
        · intro w'
          go_simp
          with_reducible rfl
        rotate_left
        · simp only [Act.put, List.setIfInBounds_toArray, List.set_cons_zero, List.set_cons_succ, i64_w, i32_w]
          rfl
        refine pure_ (i := 1) (N := some 35) (v := ?_) (a' := ?_) #[true, true, false, false, false, false, false] rfl rfl (by kernel_rfl) (fun _ _ _ h => h) (Or.inl ⟨by rfl, ?_⟩) ?_ ?_
        rotate_left
        · intro w'
          go_simp
          with_reducible rfl
        rotate_left
        · simp only [Act.put, List.setIfInBounds_toArray, List.set_cons_zero, List.set_cons_succ, i64_w, i32_w]
          rfl
        refine pure_ (i := 3) (N := some 37) (v := ?_) (a' := ?_) #[true, true, false, true, false, false, false] rfl rfl (by kernel_rfl) (fun _ _ _ h => h) (Or.inl ⟨by rfl, ?_⟩) ?_ ?_
        rotate_left
        · intro w'
          go_simp
          with_reducible rfl
        rotate_left
        · simp only [Act.put, List.setIfInBounds_toArray, List.set_cons_zero, List.set_cons_succ, i64_w, i32_w]
          rfl
        refine pure_ (i := 4) (N := some 38) (v := ?_) (a' := ?_) #[true, true, false, true, true, false, false] rfl rfl (by kernel_rfl) (fun _ _ _ h => h) (Or.inl ⟨by rfl, ?_⟩) ?_ ?_
        rotate_left
        · intro w'
          go_simp
          with_reducible rfl
        rotate_left
        · simp only [Act.put, List.setIfInBounds_toArray, List.set_cons_zero, List.set_cons_succ, i64_w, i32_w]
          rfl
        refine take_ (i := 2) (N := some 36) (v := ?_) (a' := ?_) #[true, true, true, true, true, false, false] rfl rfl (by kernel_rfl) (fun _ _ _ h => h) (Or.inl ⟨by rfl, ?_⟩) hHeld ?_ ?_
        rotate_left
        · rintro w' ⟨s0, s1, s2, s3, s4⟩
          go_simp
          with_reducible rfl
        rotate_left
        · simp only [Act.put, List.setIfInBounds_toArray, List.set_cons_zero, List.set_cons_succ, i64_w, i32_w]
          rfl
        refine pure_ (i := 5) (N := some 39) (v := ?_) (a' := ?_) #[true, true, true, true, true, true, false] rfl rfl (by kernel_rfl) (fun _ _ _ h => h) (Or.inl ⟨by rfl, ?_⟩) ?_ ?_
        rotate_left
        · intro w'
          go_simp
          with_reducible rfl
        rotate_left
        · simp only [Act.put, List.setIfInBounds_toArray, List.set_cons_zero, List.set_cons_succ, i64_w, i32_w]
          rfl
        refine last_ (i := 6) (N := none) #[true, true, true, true, true, true, true] rfl rfl (by kernel_rfl) (by decide) (fun K hK => ?_)
        refine skip_ (w1 := ?_) (by rfl) rfl ?_ ?_
        rotate_left
        · go_simp
          rfl
        refine hK.out _ _ ?_
        clear hK K
        refine done_ (by kernel_rfl) ?_
        go_wp2
        go_roundw
        case rel =>
          have HP := IsTab.put (r := r) HT.out hlt
          rw [hy] at HP
          exact ⟨j + 1, by omega, by go_num, ⟨⟨HP.base, HP.blk⟩⟩, ⟨below_drew (below_put HBJ.out HT.out.base (j * 5) _ _ _ _ _)⟩⟩
        case measure => simp [intOf]; omega
      · have d1 : decide ((R1 j).q < r.q) = false := decide_eq_false hc
        have hn := hno (by first | exact hc | omega)
        clear hno hyes hc
        refine start_ (n := 10) (S := fun w' => w'.cell? ⟨g7, 4, none⟩ = some (.int .i64 r.q) ∧ w'.cell? ⟨g, j * 5 + 4, none⟩ = some (.int .i64 (R1 j).q)) (ds := []) #[false, false, false, false, false, false, false, false, false, false] (by kernel_rfl) rfl rfl ⟨(blk_cell HA7.out 4), HC4.out⟩ (fun hHeld => ?_)
        refine with_tabW session_Table_Join.tab7 session_Table_Join.bits7 (fun HT_ HW_ => ?_)
        refine pure_ (i := 0) (N := some 24) (v := ?_) (a' := ?_) #[true, false, false, false, false, false, false, false, false, false] rfl rfl (any_of HT_.out (by kernel_rfl)) (fun _ _ _ h => h) (Or.inl ⟨by rfl, ?_⟩) ?_ ?_
        rotate_left
        · intro w'
          go_simp
          with_reducible rfl
        rotate_left
        · simp only [Act.put, List.setIfInBounds_toArray, List.set_cons_zero, List.set_cons_succ, i64_w, i32_w]
          rfl
        refine pure_ (i := 2) (N := some 26) (v := ?_) (a' := ?_) #[true, false, true, false, false, false, false, false, false, false] rfl rfl (any_of HT_.out (by kernel_rfl)) (fun _ _ _ h => h) (Or.inl ⟨by rfl, ?_⟩) ?_ ?_
        rotate_left
        · intro w'
          go_simp
          with_reducible rfl
        rotate_left
        · simp only [Act.put, List.setIfInBounds_toArray, List.set_cons_zero, List.set_cons_succ, i64_w, i32_w]
          rfl
        refine pure_ (i := 3) (N := some 27) (v := ?_) (a' := ?_) #[true, false, true, true, false, false, false, false, false, false] rfl rfl (any_of HT_.out (by kernel_rfl)) (fun _ _ _ h => h) (Or.inl ⟨by rfl, ?_⟩) ?_ ?_
        rotate_left
        · intro w'
          go_simp
          with_reducible rfl
        rotate_left
        · simp only [Act.put, List.setIfInBounds_toArray, List.set_cons_zero, List.set_cons_succ, i64_w, i32_w]
          rfl
        refine pure_ (i := 4) (N := some 28) (v := ?_) (a' := ?_) #[true, false, true, true, true, false, false, false, false, false] rfl rfl (any_of HT_.out (by kernel_rfl)) (fun _ _ _ h => h) (Or.inl ⟨by rfl, ?_⟩) ?_ ?_
        rotate_left
        · intro w'
          go_simp
          with_reducible rfl
        rotate_left
        · simp only [Act.put, List.setIfInBounds_toArray, List.set_cons_zero, List.set_cons_succ, i64_w, i32_w]
          rfl
        refine pure_ (i := 5) (N := some 29) (v := ?_) (a' := ?_) #[true, false, true, true, true, true, false, false, false, false] rfl rfl (any_of HT_.out (by kernel_rfl)) (fun _ _ _ h => h) (Or.inl ⟨by rfl, ?_⟩) ?_ ?_
        rotate_left
        · intro w'
          go_simp
          with_reducible rfl
        rotate_left
        · simp only [Act.put, List.setIfInBounds_toArray, List.set_cons_zero, List.set_cons_succ, i64_w, i32_w]
          rfl
        refine pure_ (i := 6) (N := some 30) (v := ?_) (a' := ?_) #[true, false, true, true, true, true, true, false, false, false] rfl rfl (any_of HT_.out (by kernel_rfl)) (fun _ _ _ h => h) (Or.inl ⟨by rfl, ?_⟩) ?_ ?_
        rotate_left
        · intro w'
          go_simp
          with_reducible rfl
        rotate_left
        · simp only [Act.put, List.setIfInBounds_toArray, List.set_cons_zero, List.set_cons_succ, i64_w, i32_w]
          rfl
        refine pure_ (i := 7) (N := some 31) (v := ?_) (a' := ?_) #[true, false, true, true, true, true, true, true, false, false] rfl rfl (any_of HT_.out (by kernel_rfl)) (fun _ _ _ h => h) (Or.inl ⟨by rfl, ?_⟩) ?_ ?_
        rotate_left
        · intro w'
          go_simp
          with_reducible rfl
        rotate_left
        · simp only [Act.put, List.setIfInBounds_toArray, List.set_cons_zero, List.set_cons_succ, i64_w, i32_w]
          rfl
        refine take_ (i := 1) (N := some 25) (v := ?_) (a' := ?_) #[true, true, true, true, true, true, true, true, false, false] rfl rfl (take_ofW HT_.out HW_.out (by kernel_rfl)) (fun _ _ _ h => h) (Or.inl ⟨by rfl, ?_⟩) hHeld ?_ ?_
        rotate_left
        · rintro w' ⟨s0, s1⟩
          go_simp
          with_reducible rfl
        rotate_left
        · simp only [Act.put, List.setIfInBounds_toArray, List.set_cons_zero, List.set_cons_succ, i64_w, i32_w]
          rfl
        refine take_ (i := 8) (N := some 32) (v := ?_) (a' := ?_) #[true, true, true, true, true, true, true, true, true, false] rfl rfl (take_ofW HT_.out HW_.out (by kernel_rfl)) (fun _ _ _ h => h) (Or.inl ⟨by rfl, ?_⟩) hHeld ?_ ?_
        rotate_left
        · rintro w' ⟨s0, s1⟩
          go_simp
          with_reducible rfl
        rotate_left
        · simp only [Act.put, List.setIfInBounds_toArray, List.set_cons_zero, List.set_cons_succ, i64_w, i32_w]
          rfl
        refine pure_ (i := 9) (N := some 33) (v := ?_) (a' := ?_) #[true, true, true, true, true, true, true, true, true, true] rfl rfl (any_of HT_.out (by kernel_rfl)) (fun _ _ _ h => h) (Or.inl ⟨by rfl, ?_⟩) ?_ ?_
        rotate_left
        · intro w'
          go_simp
          with_reducible rfl
        rotate_left
        · simp only [Act.put, List.setIfInBounds_toArray, List.set_cons_zero, List.set_cons_succ, i64_w, i32_w]
          rfl
        refine done_ (done_of HT_.out (by kernel_rfl)) ?_
        go_wp2
        go_roundw
        case rel => exact ⟨j + 1, by omega, by go_num, ⟨by rw [← hn]; exact HT.out⟩, HBJ⟩
        case measure => simp [intOf]; omega
    · obtain rfl : j = 8 := by omega
      have hlt2 : decide (((8 : Nat) : Int) < 8) = false := decide_eq_false (by omega)
      go_wp2
      go_ret
      exact ⟨g, rfl, HTJ.out, HBK.out⟩

end Go.Proofs.Ytlfnfgoocliecaa.PJ
