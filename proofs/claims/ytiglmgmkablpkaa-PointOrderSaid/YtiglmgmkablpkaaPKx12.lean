-- Written by a program of this session (wip/tools/hp.py) over the kit's print; nothing here is trusted: Lean checks it.
import Derived.RegionTactic
import Derived.BigRegion
import Derived.Laws.Rows
import Derived.Deep.RegionWith
import Derived.ScopeJumps
import Derived.WalkMore
import Derived.Test.YtiglmgmkablpkaaPKx0
namespace Go.Proofs.Ytiglmgmkablpkaa.PK
open Go.RowKit Go.Proofs.YtiglmgmkablpkaaW.PrintWords Go.Proofs.YtiglmgmkablpkaaW.PrintLast Go.Proofs.YtiglmgmkablpkaaW.PrintMore
attribute [local go_sem] max2_int min2_int max_two min_two max_three min_three max_four min_four   -- for this text's walks alone
set_option linter.unusedVariables false
set_option linter.unusedSimpArgs false

--OWN Derived.RegionTactic,Derived.BigRegion,Derived.Laws.Rows,Derived.Deep.RegionWith,Derived.ScopeJumps,Derived.WalkMore
/-! ### wire_Reader_ok: function 51 -/
/-! R0 -/
theorem drawn_below {w w' : World} (h : Drawn0 w w') : Below w.heap.size w w' := by
  obtain ⟨m, rfl⟩ := h
  exact pw_below_drewN (Below.refl _ _) m
theorem bits_u8 (op) (a b : Int) : 0 ≤ Go.bits op .u8 a b ∧ Go.bits op .u8 a b ≤ 255 := by
  unfold Go.bits
  simp only [IntKind.wrap, IntKind.bits, IntKind.signed, Bool.false_and, Bool.false_eq_true, if_false]
  generalize (BitVec.toNat _ : Int) = z
  omega
/-- A row that is read stays, if its block stays. -/
theorem C_block {w w' : World} {A : Option Addr} {n : Nat} {l : List Int} (h : (Kd.int .u8).C w A n l) (hb : ∀ ad, A = some ad → w'.heap[ad.block]? = w.heap[ad.block]?) : (Kd.int .u8).C w' A n l := by
  obtain ⟨h1, h2, h3⟩ := h
  refine ⟨h1, h2, fun hp => ?_⟩
  obtain ⟨ad, rfl, h4⟩ := h3 hp
  refine ⟨ad, rfl, fun j p hj => ?_⟩
  obtain ⟨c, hc1, hc2, hc3⟩ := h4 j p hj
  refine ⟨c, hc1, hc2, fun i u hi => ?_⟩
  have hx : (ad.add (j * (Kd.int IntKind.u8).sz + i)).block = ad.block := by unfold Addr.add; split <;> rfl
  rw [World.cell?_of_block (w := w) (by rw [hx]; exact hb ad rfl)]
  exact hc3 i u hi
/-- A reader: what is left of its bytes, its error, whether it was made. -/
structure IsRdr (w0 w : World) (g : Nat) (l : List Int) (e : Int) (m : Bool) : Prop where
  base : w0.heap.size ≤ g
  blk : ∃ A c, w.heap[g]? = some (.cells #[.slice A l.length c, .int .i64 e, .bool m] 81 (0, 0)) ∧ l.length ≤ c ∧ (Kd.int .u8).C w A l.length l ∧ ∀ ad, A = some ad → ∃ (cells : Array Value) (fz : Nat × Nat), w.heap[ad.block]? = some (.cells cells 5 fz)
theorem heap_lt {w : World} {g : Nat} {o : Obj} (h : w.heap[g]? = some o) : g < w.heap.size := by
  rcases Nat.lt_or_ge g w.heap.size with h' | h'
  · exact h'
  · rw [Array.getElem?_eq_none h'] at h; cases h
namespace IsRdr
variable {w0 w w' : World} {g : Nat} {l : List Int} {e : Int} {m : Bool}
theorem lt (h : IsRdr w0 w g l e m) : g < w.heap.size := by
  obtain ⟨A, c, h1, _⟩ := h.blk
  exact heap_lt h1
/-- Its own blocks stay. -/
theorem move (h : IsRdr w0 w g l e m) (h1 : w'.heap[g]? = w.heap[g]?) (h2 : ∀ (k : Nat) (cells : Array Value) (fz : Nat × Nat), w.heap[k]? = some (.cells cells 5 fz) → w'.heap[k]? = w.heap[k]?) : IsRdr w0 w' g l e m := by
  obtain ⟨A, c, q1, q2, q3, q4⟩ := h.blk
  refine ⟨h.base, A, c, h1.trans q1, q2, C_block q3 fun ad hA => ?_, fun ad hA => ?_⟩
  · obtain ⟨cells, fz, hc⟩ := q4 ad hA
    exact h2 _ _ _ hc
  · obtain ⟨cells, fz, hc⟩ := q4 ad hA
    exact ⟨cells, fz, (h2 _ _ _ hc).trans hc⟩
theorem below (h : IsRdr w0 w g l e m) (hb : Below w.heap.size w w') : IsRdr w0 w' g l e m :=
  h.move (hb.block _ h.lt) fun k _ _ hk => hb.block k (heap_lt hk)
/-- Another object of another type has been written. -/
theorem keep (h : IsRdr w0 w g l e m) {g' : Nat} (hk : KeepBut w w' g' none) (hne : g' ≠ g) {cells' : Array Value} {t : TypeId} (hg : w.heap[g']? = some (.cells cells' t (0, 0))) (ht : t ≠ 5) : IsRdr w0 w' g l e m := by
  refine h.move (hk.2 g h.lt (fun q => hne q.symm) (by simp)) fun k cells fz hc => hk.2 k (heap_lt hc) ?_ (by simp)
  rintro rfl
  rw [hg] at hc
  injection hc with hc
  injection hc with _ hc
  exact ht hc
theorem ne5 (h : IsRdr w0 w g l e m) {k : Nat} {cells : Array Value} {fz : Nat × Nat} (hk : w.heap[k]? = some (.cells cells 5 fz)) : k ≠ g := by
  obtain ⟨A, c, q1, _⟩ := h.blk
  rintro rfl
  rw [q1] at hk
  injection hk with hk
  injection hk with _ hk
  exact absurd hk (by decide)
theorem setE (h : IsRdr w0 w g l e m) (e' : Int) : IsRdr w0 (w.setCell ⟨g, 1, none⟩ (.int .i64 e')) g l e' m := by
  obtain ⟨A, c, q1, q2, q3, q4⟩ := h.blk
  have st : ∀ (k : Nat) (cells : Array Value) (fz : Nat × Nat), w.heap[k]? = some (.cells cells 5 fz) → (w.setCell ⟨g, 1, none⟩ (.int .i64 e')).heap[k]? = w.heap[k]? := fun k cells fz hk => Below.heap_setCell w ⟨g, 1, none⟩ _ k (h.ne5 hk)
  refine ⟨h.base, A, c, heap_setCell_same w g 1 _ _ _ q1, q2, C_block q3 fun ad hA => ?_, fun ad hA => ?_⟩
  · obtain ⟨cells, fz, hc⟩ := q4 ad hA
    exact st _ _ _ hc
  · obtain ⟨cells, fz, hc⟩ := q4 ad hA
    exact ⟨cells, fz, (st _ _ _ hc).trans hc⟩
theorem setL (h : IsRdr w0 w g l e m) (A' : Option Addr) (c' : Nat) (l' : List Int) (hc : l'.length ≤ c') (hC : (Kd.int .u8).C w A' l'.length l') (hA : ∀ ad, A' = some ad → ∃ (cells : Array Value) (fz : Nat × Nat), w.heap[ad.block]? = some (.cells cells 5 fz)) :
    IsRdr w0 (w.setCell ⟨g, 0, none⟩ (.slice A' l'.length c')) g l' e m := by
  obtain ⟨A, c, q1, q2, q3, q4⟩ := h.blk
  have st : ∀ (k : Nat) (cells : Array Value) (fz : Nat × Nat), w.heap[k]? = some (.cells cells 5 fz) → (w.setCell ⟨g, 0, none⟩ (.slice A' l'.length c')).heap[k]? = w.heap[k]? := fun k cells fz hk => Below.heap_setCell w ⟨g, 0, none⟩ _ k (h.ne5 hk)
  refine ⟨h.base, A', c', heap_setCell_same w g 0 _ _ _ q1, hc, C_block hC fun ad hA' => ?_, fun ad hA' => ?_⟩
  · obtain ⟨cells, fz, hx⟩ := hA ad hA'
    exact st _ _ _ hx
  · obtain ⟨cells, fz, hx⟩ := hA ad hA'
    exact ⟨cells, fz, (st _ _ _ hx).trans hx⟩
/-- Its cells, as the walk asks them. -/
theorem open_ (h : IsRdr w0 w g l e m) : ∃ A c, w.cell? ⟨g, 0, none⟩ = some (.slice A l.length c) ∧ w.cell? ⟨g, 1, none⟩ = some (.int .i64 e) ∧ w.cell? ⟨g, 2, none⟩ = some (.bool m) ∧ w.frozen? ⟨g, 0, none⟩ = false ∧ w.frozen? ⟨g, 1, none⟩ = false ∧ w.frozen? ⟨g, 2, none⟩ = false ∧ l.length ≤ c ∧ (Kd.int .u8).C w A l.length l ∧ ∀ ad, A = some ad → ∃ (cells : Array Value) (fz : Nat × Nat), w.heap[ad.block]? = some (.cells cells 5 fz) := by
  obtain ⟨A, c, q1, q2, q3, q4⟩ := h.blk
  exact ⟨A, c, cell_of_row _ _ _ _ _ _ q1, cell_of_row _ _ _ _ _ _ q1, cell_of_row _ _ _ _ _ _ q1, frozen_of_row _ _ _ _ _ q1, frozen_of_row _ _ _ _ _ q1, frozen_of_row _ _ _ _ _ q1, q2, q3, q4⟩
end IsRdr
/-- What is said of a world behind a reader's method. -/
theorem rdr_set {w0 w : World} {g : Nat} (hB : Below w0.heap.size w0 w) (hg : w0.heap.size ≤ g) (j : Nat) (u : Value) : Below w0.heap.size w0 (w.setCell ⟨g, j, none⟩ u) ∧ KeepBut w (w.setCell ⟨g, j, none⟩ u) g none :=
  ⟨Below.setCell hB hg u, (KeepBut.refl w g none).set_ j u⟩
set_option maxHeartbeats 1000000 in
set_option maxRecDepth 100000 in
theorem wire_Reader_ok.calls (g : Nat) (l : List Int) (e : Int) (m : Bool) (w0 w : World) (hI : IsRdr w0 w g l e m) :
    Calls Try.prog 51 #[.pointer (some ⟨g, 0, none⟩)] w fun ed w' => ed = .returned (.bool (m && (e == 0))) ∧ w = w' := by
  obtain ⟨A, c, c0, c1, c2, f0, f1, f2, _⟩ := hI.open_
  cases m <;> cases he : e == 0
  all_goals
    go_enter Try.func51, Try.ntmps51
    go_wp2
    go_ret
    exact ⟨rfl, rfl⟩
theorem wire_Reader_ok.nil (w : World) : Calls Try.prog 51 #[.pointer none] w fun ed w' => ed = .returned (.bool false) ∧ w = w' := by
  go_enter Try.func51, Try.ntmps51
  go_wp2
  go_ret
  exact ⟨rfl, rfl⟩
/-! R1 -/
/-- Has a reader no error? -/
def rdOk (e : Int) (m : Bool) : Bool := m && (e == 0)
set_option maxHeartbeats 1000000 in
set_option maxRecDepth 100000 in
theorem wire_Reader_Fail.calls (g : Nat) (l : List Int) (e : Int) (m : Bool) (x : Int) (w0 w : World) (hI : IsRdr w0 w g l e m) (hB : Below w0.heap.size w0 w) :
    Calls Try.prog 68 #[.pointer (some ⟨g, 0, none⟩), .int .i64 x] w fun ed w' => ed = .returned (.tuple #[]) ∧ IsRdr w0 w' g l (if rdOk e m then x else e) m ∧ Below w0.heap.size w0 w' ∧ KeepBut w w' g none := by
  obtain ⟨A, c, c0, c1, c2, f0, f1, f2, _⟩ := hI.open_
  have HS := Aside0.mk (rdr_set hB hI.base 1 (.int .i64 x))
  have HE := Aside0.mk (hI.setE x)
  have HI := Aside0.mk hI
  have HB := Aside0.mk hB
  clear hI hB
  cases ho : rdOk e m
  all_goals
    go_enter Try.func68, Try.ntmps68
    go_wp2_with fail
    refine (wire_Reader_ok.calls g l e m w0 w HI.out).mono ?_
    rintro ed w' ⟨rfl, rfl⟩
    rw [show (m && (e == 0)) = _ from ho]
    clear ho
    go_wp2
  · exact bodyPost_end (results_none rfl _ _ _) rfl ⟨rfl, HI.out, HB.out, KeepBut.refl _ _ _⟩
  · exact bodyPost_end (results_none rfl _ _ _) rfl ⟨rfl, HE.out, HS.out⟩
theorem wire_Reader_Fail.nil (x : Int) (w : World) : Calls Try.prog 68 #[.pointer none, .int .i64 x] w fun ed w' => ed = .returned (.tuple #[]) ∧ w = w' := by
  go_enter Try.func68, Try.ntmps68
  go_wp2_with fail
  refine (wire_Reader_ok.nil w).mono ?_
  rintro ed w' ⟨rfl, rfl⟩
  go_wp2
  exact bodyPost_end (results_none rfl _ _ _) rfl ⟨rfl, rfl⟩
set_option maxHeartbeats 1000000 in
set_option maxRecDepth 100000 in
theorem wire_Reader_Left.calls (g : Nat) (l : List Int) (e : Int) (m : Bool) (w0 w : World) (hI : IsRdr w0 w g l e m) :
    Calls Try.prog 16 #[.pointer (some ⟨g, 0, none⟩)] w fun ed w' => ed = .returned (.int .i64 (if rdOk e m then (l.length : Int) else 0)) ∧ w = w' := by
  obtain ⟨A, c, c0, c1, c2, f0, f1, f2, _⟩ := hI.open_
  have HI := Aside0.mk hI
  clear hI
  cases ho : rdOk e m
  all_goals
    go_enter Try.func16, Try.ntmps16
    go_wp2_with fail
    refine (wire_Reader_ok.calls g l e m w0 w HI.out).mono ?_
    rintro ed w' ⟨rfl, rfl⟩
    rw [show (m && (e == 0)) = _ from ho]
    clear ho
    go_wp2
    go_ret
    exact ⟨rfl, rfl⟩
theorem wire_Reader_Left.nil (w : World) : Calls Try.prog 16 #[.pointer none] w fun ed w' => ed = .returned (.int .i64 0) ∧ w = w' := by
  go_enter Try.func16, Try.ntmps16
  go_wp2_with fail
  refine (wire_Reader_ok.nil w).mono ?_
  rintro ed w' ⟨rfl, rfl⟩
  go_wp2
  go_ret
  exact ⟨rfl, rfl⟩
theorem wire_Reader_Err.calls (g : Nat) (l : List Int) (e : Int) (m : Bool) (w0 w : World) (hI : IsRdr w0 w g l e m) :
    Calls Try.prog 15 #[.pointer (some ⟨g, 0, none⟩)] w fun ed w' => ed = .returned (.int .i64 (if m then e else 1)) ∧ w = w' := by
  obtain ⟨A, c, c0, c1, c2, f0, f1, f2, _⟩ := hI.open_
  clear hI
  cases m
  all_goals
    go_enter Try.func15, Try.ntmps15
    go_wp2
    go_ret
    exact ⟨rfl, rfl⟩
theorem wire_Reader_Err.nil (w : World) : Calls Try.prog 15 #[.pointer none] w fun ed w' => ed = .returned (.int .i64 1) ∧ w = w' := by
  go_enter Try.func15, Try.ntmps15
  go_wp2
  go_ret
  exact ⟨rfl, rfl⟩
/-- What Done tells. -/
def rdDone (l : List Int) (e : Int) (m : Bool) : Int := if (if rdOk e m then (l.length : Int) else 0) > 0 then 21 else if m then e else 1
set_option maxHeartbeats 1000000 in
set_option maxRecDepth 100000 in
theorem wire_Reader_Done.calls (g : Nat) (l : List Int) (e : Int) (m : Bool) (w0 w : World) (hI : IsRdr w0 w g l e m) :
    Calls Try.prog 43 #[.pointer (some ⟨g, 0, none⟩)] w fun ed w' => ed = .returned (.int .i64 (rdDone l e m)) ∧ w = w' := by
  have HI := Aside0.mk hI
  clear hI
  have hz : Hid (rdDone l e m = if (if rdOk e m then (l.length : Int) else 0) > 0 then 21 else if m then e else 1) := rfl
  have HL := wire_Reader_Left.calls g l e m w0 w HI.out
  have HE := wire_Reader_Err.calls g l e m w0 w HI.out
  generalize (if rdOk e m then (l.length : Int) else 0) = z at hz HL
  generalize (if m then e else 1) = y at hz HE
  generalize rdDone l e m = r at hz
  have HL := Aside0.mk HL
  have HE := Aside0.mk HE
  by_cases c : z > 0
  all_goals
    have hr : r = _ := hz.out
    first | rw [if_pos c] at hr | rw [if_neg c] at hr
    subst hr
    first | have cb : decide (0 < z) = true := decide_eq_true c | have cb : decide (0 < z) = false := decide_eq_false c
    clear c hz
    go_enter Try.func43, Try.ntmps43
    go_wp2_with (first | (go_at_call 16; refine HL.out.mono ?_; rintro ed w' ⟨rfl, rfl⟩) | (go_at_call 15; refine HE.out.mono ?_; rintro ed w' ⟨rfl, rfl⟩))
    go_ret
    exact ⟨rfl, rfl⟩
theorem wire_Reader_Done.nil (w : World) : Calls Try.prog 43 #[.pointer none] w fun ed w' => ed = .returned (.int .i64 1) ∧ w = w' := by
  go_enter Try.func43, Try.ntmps43
  go_wp2_with (first | (go_at_call 16; refine (wire_Reader_Left.nil _).mono ?_; rintro ed w' ⟨rfl, rfl⟩) | (go_at_call 15; refine (wire_Reader_Err.nil _).mono ?_; rintro ed w' ⟨rfl, rfl⟩))
  go_ret
  exact ⟨rfl, rfl⟩
/-! R3 -/
/-- A cut of bytes from j on, and up to j. -/
theorem bytes_from (A : Option Addr) (n c : Nat) (j : Int) (h0 : 0 ≤ j) (hm : j ≤ n) : ∀ W : World, (Instr.slice 22 (.slice A n c) (some (.int .i64 j)) none none).run Try.prog W = .ok (.slice (if c = j.toNat then A else A.map (·.add (j.toNat * 1))) (n - j.toNat) (c - j.toNat)) W := by
  obtain ⟨i5, hi5, hz0, hz1, hz2⟩ := info_parts info5
  exact cut_from 22 5 .i64 Try.underlying22 hi5 1 hz1 A n c j h0 hm
theorem bytes_to (A : Option Addr) (n c : Nat) (j : Int) (h0 : 0 ≤ j) (hm : j ≤ n) (hc : n ≤ c) : ∀ W : World, (Instr.slice 22 (.slice A n c) none (some (.int .i64 j)) none).run Try.prog W = .ok (.slice A j.toNat c) W := by
  obtain ⟨i5, hi5, hz0, hz1, hz2⟩ := info_parts info5
  exact cut_to 22 5 .i64 Try.underlying22 hi5 A n c j h0 hm hc
/-! R2 -/
/-- By a goto to one label J1, to another one J2. -/
def ExitTwo (l1 l2 : Nat) (J1 J2 : Act → World → Prop) (Q : Exit → Act → World → Prop) : Exit → Act → World → Prop
  | .goto l, a, w => (l = l1 ∧ J1 a w) ∨ (l = l2 ∧ J2 a w)
  | e, a, w => Q e a w
section
variable {P : Program} {Q : Exit → Act → World → Prop} {J1 J2 : Act → World → Prop} {l1 l2 : Nat} {a : Act} {w : World}
theorem ExitTwo_normal : ExitTwo l1 l2 J1 J2 Q .normal a w = Q .normal a w := rfl
theorem ExitTwo_ret : ExitTwo l1 l2 J1 J2 Q .ret a w = Q .ret a w := rfl
theorem ExitTwo_exit (id : Nat) : ExitTwo l1 l2 J1 J2 Q (.exit id) a w = Q (.exit id) a w := rfl
theorem ExitTwo_goto (l : Nat) : ExitTwo l1 l2 J1 J2 Q (.goto l) a w = ((l = l1 ∧ J1 a w) ∨ (l = l2 ∧ J2 a w)) := rfl
/-- A scope with a label to which the run jumps back (J1, a measure), and one to which it jumps ahead (J2). -/
theorem wp_scope_two {c r1 r2 : Code} (l1 l2 : Nat) (J1 J2 : Act → World → Prop) (μ : Act → World → Nat) (h1 : findLabel c l1 = some (.seq .skip r1)) (h2 : findLabel c l2 = some r2)
    (first : (∀ a w, J1 a w → r1.wp P (ExitTwo l1 l2 J1 J2 Q) a w) → c.wp P (ExitTwo l1 l2 J1 J2 Q) a w)
    (pass1 : ∀ a w, J1 a w → r1.wp P (ExitTwo l1 l2 (fun a' w' => J1 a' w' ∧ μ a' w' < μ a w) J2 Q) a w)
    (pass2 : ∀ a w, J2 a w → r2.wp P (ExitTwo l1 l2 (fun _ _ => False) (fun _ _ => False) Q) a w) : (Code.scope c).wp P Q a w := by
  intro b k cs
  have p1 : ∀ a w, J1 a w → (Code.seq .skip r1).wp P (ExitTwo l1 l2 (fun a' w' => J1 a' w' ∧ μ a' w' < μ a w) J2 Q) a w := fun a w h => wp_seq (wp_skip (pass1 a w h))
  have hg1 : gotoIn l1 (.inScope c :: k) = some (.code (.seq .skip r1) :: .inScope c :: k) := by simp [gotoIn, h1]
  have hg2 : gotoIn l2 (.inScope c :: k) = some (.code r2 :: .inScope c :: k) := by simp [gotoIn, h2]
  have fin2 : ∀ a w, J2 a w → ∃ e a' w', Q e a' w' ∧ Arrives P (lone (b.at a (.code r2 :: .inScope c :: k)) cs w) b k cs e a' w' := by
    intro a w hJ
    obtain ⟨e, a₁, w₁, hq, harr⟩ := pass2 a w hJ b (.inScope c :: k) cs
    cases e with
    | normal => exact ⟨.normal, a₁, w₁, hq, Steps.trans harr (.one step_inScope)⟩
    | exit id => exact ⟨.exit id, a₁, w₁, hq, fun k' hk => harr k' (by simp [exitTo, hk])⟩
    | goto l' => rcases hq with ⟨_, h⟩ | ⟨_, h⟩ <;> exact h.elim
    | ret => exact ⟨_, a₁, w₁, hq, harr⟩
    | panic ch => exact ⟨_, a₁, w₁, hq, harr⟩
    | outgrown => exact ⟨_, a₁, w₁, hq, harr⟩
  have key : ∀ n a w, μ a w = n → J1 a w → ∃ e a' w', Q e a' w' ∧ Arrives P (lone (b.at a (.code (.seq .skip r1) :: .inScope c :: k)) cs w) b k cs e a' w' := by
    intro n
    induction n using Nat.strongRecOn with
    | _ n ih =>
      intro a w hn hJ
      obtain ⟨e, a₁, w₁, hq, harr⟩ := p1 a w hJ b (.inScope c :: k) cs
      cases e with
      | normal => exact ⟨.normal, a₁, w₁, hq, Steps.trans harr (.one step_inScope)⟩
      | exit id => exact ⟨.exit id, a₁, w₁, hq, fun k' hk => harr k' (by simp [exitTo, hk])⟩
      | goto l' =>
        rcases hq with ⟨rfl, hJ', hlt⟩ | ⟨rfl, hJ'⟩
        · obtain ⟨e₂, a₂, w₂, hq₂, harr₂⟩ := ih _ (by omega) a₁ w₁ rfl hJ'
          exact ⟨e₂, a₂, w₂, hq₂, .of_steps (harr _ hg1) harr₂⟩
        · obtain ⟨e₂, a₂, w₂, hq₂, harr₂⟩ := fin2 a₁ w₁ hJ'
          exact ⟨e₂, a₂, w₂, hq₂, .of_steps (harr _ hg2) harr₂⟩
      | ret => exact ⟨_, a₁, w₁, hq, harr⟩
      | panic ch => exact ⟨_, a₁, w₁, hq, harr⟩
      | outgrown => exact ⟨_, a₁, w₁, hq, harr⟩
  obtain ⟨e, a₁, w₁, hq, harr⟩ := first (fun a w h => wp_mono (pass1 a w h) fun e a' w' hh => by
    cases e with
    | goto l' =>
      rcases hh with ⟨q, hJ', _⟩ | hh
      · exact .inl ⟨q, hJ'⟩
      · exact .inr hh
    | _ => exact hh) b (.inScope c :: k) cs
  cases e with
  | normal => exact ⟨.normal, a₁, w₁, hq, .head step_scope (Steps.trans harr (.one step_inScope))⟩
  | exit id => exact ⟨.exit id, a₁, w₁, hq, fun k' hk => .head step_scope (harr k' (by simp [exitTo, hk]))⟩
  | goto l' =>
    rcases hq with ⟨rfl, hJ'⟩ | ⟨rfl, hJ'⟩
    · obtain ⟨e₂, a₂, w₂, hq₂, harr₂⟩ := key _ a₁ w₁ rfl hJ'
      exact ⟨e₂, a₂, w₂, hq₂, .of_steps (.head step_scope (harr _ hg1)) harr₂⟩
    · obtain ⟨e₂, a₂, w₂, hq₂, harr₂⟩ := fin2 a₁ w₁ hJ'
      exact ⟨e₂, a₂, w₂, hq₂, .of_steps (.head step_scope (harr _ hg2)) harr₂⟩
  | ret => exact ⟨_, a₁, w₁, hq, .of_steps (.one step_scope) harr⟩
  | panic ch => exact ⟨_, a₁, w₁, hq, .of_steps (.one step_scope) harr⟩
  | outgrown => exact ⟨_, a₁, w₁, hq, .of_steps (.one step_scope) harr⟩
end
attribute [local go_sem] ExitTwo_normal ExitTwo_ret ExitTwo_exit
/-- What a reader's number is with a byte more. -/
def rdPut (n c : Int) (i : Nat) : Int := Go.bits .or .i64 n (wrap64 (Go.bits .and .u8 c 127 * 2 ^ (7 * i)))
theorem rdPut_nn {n : Int} (h : 0 ≤ n) (h' : n ≤ 9007199254740992) (i : Nat) (hi : i ≤ 7) (c : Int) : 0 ≤ rdPut n c i := by
  have hb : 0 ≤ Go.bits .and .u8 c 127 ∧ Go.bits .and .u8 c 127 ≤ 127 := by
    unfold Go.bits
    dsimp only
    have e : (BitVec.ofInt (IntKind.bits .u8) c &&& BitVec.ofInt (IntKind.bits .u8) 127).toNat ≤ 127 := by
      rw [BitVec.toNat_and]
      exact Nat.and_le_right
    have : IntKind.u8.wrap ((BitVec.ofInt (IntKind.bits .u8) c &&& BitVec.ofInt (IntKind.bits .u8) 127).toNat : Int) = ((BitVec.ofInt (IntKind.bits .u8) c &&& BitVec.ofInt (IntKind.bits .u8) 127).toNat : Int) := by
      show ((_ : Nat) : Int) % 256 = _
      omega
    rw [this]
    omega
  unfold rdPut
  generalize Go.bits .and .u8 c 127 = x at hb
  have hp : x * 2 ^ (7 * i) < 2 ^ 56 ∧ 0 ≤ x * 2 ^ (7 * i) := by
    have : i = 0 ∨ i = 1 ∨ i = 2 ∨ i = 3 ∨ i = 4 ∨ i = 5 ∨ i = 6 ∨ i = 7 := by omega
    rcases this with rfl | rfl | rfl | rfl | rfl | rfl | rfl | rfl <;> constructor <;> omega
  generalize x * 2 ^ (7 * i) = y at hp
  have hw : wrap64 y = y := by unfold wrap64; omega
  rw [hw]
  unfold Go.bits
  dsimp only
  obtain ⟨a, rfl⟩ := Int.eq_ofNat_of_zero_le h
  obtain ⟨b, rfl⟩ := Int.eq_ofNat_of_zero_le hp.2
  have e : (BitVec.ofInt (IntKind.bits .i64) (a : Int) ||| BitVec.ofInt (IntKind.bits .i64) (b : Int)).toNat < 2 ^ 63 := by
    rw [BitVec.toNat_or]
    have ha : (BitVec.ofInt (IntKind.bits .i64) (a : Int)).toNat = a := by
      show ((a : Int) % (2 ^ 64 : Nat)).toNat = a
      omega
    have hb : (BitVec.ofInt (IntKind.bits .i64) (b : Int)).toNat = b := by
      show ((b : Int) % (2 ^ 64 : Nat)).toNat = b
      omega
    rw [ha, hb]
    exact Nat.or_lt_two_pow (by omega) (by omega)
  generalize (BitVec.ofInt (IntKind.bits .i64) (a : Int) ||| BitVec.ofInt (IntKind.bits .i64) (b : Int)).toNat = z at e
  rw [IntKind.wrap_i64]
  omega
/-- Reading a number from byte i on, f bytes at most. -/
def rdFrom (l : List Int) : Nat → Nat → Int → Int × List Int × Int
  | 0, _, _ => (0, l, 21)
  | f + 1, i, n => if l.length ≤ i then (0, l, 20) else if rdPut n (rd l i) i > 9007199254740992 ∨ 0 < i ∧ rd l i = 0 then (0, l, 21) else if Go.bits .and .u8 (rd l i) 128 = 0 then (rdPut n (rd l i) i, l.drop (i + 1), 0) else rdFrom l f (i + 1) (rdPut n (rd l i) i)
def rdNum (l : List Int) (e : Int) (m : Bool) : Int × List Int × Int := if rdOk e m then rdFrom l 8 0 0 else (0, l, e)
/-- An array is what it holds. -/
theorem arr_u (t : Array Value) (n : Nat) (h : t.size = n) : t = ((List.range n).map fun j => t.getD j undef).toArray := by
  subst h
  apply Array.ext
  · simp
  · intro i h1 h2
    simp [h1]
def NumJ (g : Nat) (l : List Int) (W : World) (R : Int × List Int × Int) (a : Act) (w : World) : Prop :=
  w = W ∧ a.defers = [] ∧ a.tmps.size = 76 ∧ ∃ (n : Int) (i : Nat), a.tmps.getD 0 undef = .pointer (some ⟨g, 0, none⟩) ∧ a.tmps.getD 2 undef = .int .i64 0 ∧ a.tmps.getD 3 undef = .int .i64 n ∧ a.tmps.getD 4 undef = .int .i64 i ∧ a.tmps.getD 5 undef = .int .i64 0 ∧ i ≤ 8 ∧ 0 ≤ n ∧ n ≤ 9007199254740992 ∧ rdFrom l (8 - i) i n = R
def NumF (g : Nat) (l : List Int) (W : World) (R : Int × List Int × Int) (a : Act) (w : World) : Prop :=
  w = W ∧ a.defers = [] ∧ a.tmps.size = 76 ∧ ∃ (x : Int), a.tmps.getD 0 undef = .pointer (some ⟨g, 0, none⟩) ∧ a.tmps.getD 2 undef = .int .i64 0 ∧ a.tmps.getD 5 undef = .int .i64 x ∧ (0, l, x) = R
theorem NumJ.open_ {g : Nat} {l : List Int} {W : World} {R : Int × List Int × Int} {a : Act} {w : World} (h : NumJ g l W R a w) : w = W ∧ ∃ (n : Int) (i : Nat) (u : Nat → Value), a = { tmps := #[.pointer (some ⟨g, 0, none⟩), u 1, .int .i64 0, .int .i64 n, .int .i64 i, .int .i64 0, u 6, u 7, u 8, u 9, u 10, u 11, u 12, u 13, u 14, u 15, u 16, u 17, u 18, u 19, u 20, u 21, u 22, u 23, u 24, u 25, u 26, u 27, u 28, u 29, u 30, u 31, u 32, u 33, u 34, u 35, u 36, u 37, u 38, u 39, u 40, u 41, u 42, u 43, u 44, u 45, u 46, u 47, u 48, u 49, u 50, u 51, u 52, u 53, u 54, u 55, u 56, u 57, u 58, u 59, u 60, u 61, u 62, u 63, u 64, u 65, u 66, u 67, u 68, u 69, u 70, u 71, u 72, u 73, u 74, u 75], defers := [] } ∧ i ≤ 8 ∧ 0 ≤ n ∧ n ≤ 9007199254740992 ∧ rdFrom l (8 - i) i n = R := by
  obtain ⟨h1, h2, h3, n, i, q0, q2, q3, q4, q5, h4⟩ := h
  refine ⟨h1, n, i, fun j => a.tmps.getD j undef, ?_, h4⟩
  obtain ⟨t, d⟩ := a
  dsimp only at *
  subst h2
  have e : Act.mk t [] = Act.mk #[t.getD 0 undef, t.getD 1 undef, t.getD 2 undef, t.getD 3 undef, t.getD 4 undef, t.getD 5 undef, t.getD 6 undef, t.getD 7 undef, t.getD 8 undef, t.getD 9 undef, t.getD 10 undef, t.getD 11 undef, t.getD 12 undef, t.getD 13 undef, t.getD 14 undef, t.getD 15 undef, t.getD 16 undef, t.getD 17 undef, t.getD 18 undef, t.getD 19 undef, t.getD 20 undef, t.getD 21 undef, t.getD 22 undef, t.getD 23 undef, t.getD 24 undef, t.getD 25 undef, t.getD 26 undef, t.getD 27 undef, t.getD 28 undef, t.getD 29 undef, t.getD 30 undef, t.getD 31 undef, t.getD 32 undef, t.getD 33 undef, t.getD 34 undef, t.getD 35 undef, t.getD 36 undef, t.getD 37 undef, t.getD 38 undef, t.getD 39 undef, t.getD 40 undef, t.getD 41 undef, t.getD 42 undef, t.getD 43 undef, t.getD 44 undef, t.getD 45 undef, t.getD 46 undef, t.getD 47 undef, t.getD 48 undef, t.getD 49 undef, t.getD 50 undef, t.getD 51 undef, t.getD 52 undef, t.getD 53 undef, t.getD 54 undef, t.getD 55 undef, t.getD 56 undef, t.getD 57 undef, t.getD 58 undef, t.getD 59 undef, t.getD 60 undef, t.getD 61 undef, t.getD 62 undef, t.getD 63 undef, t.getD 64 undef, t.getD 65 undef, t.getD 66 undef, t.getD 67 undef, t.getD 68 undef, t.getD 69 undef, t.getD 70 undef, t.getD 71 undef, t.getD 72 undef, t.getD 73 undef, t.getD 74 undef, t.getD 75 undef] [] := congrArg (fun t => Act.mk t []) (arr_u t 76 h3)
  rw [q0, q2, q3, q4, q5] at e
  exact e
theorem NumF.open_ {g : Nat} {l : List Int} {W : World} {R : Int × List Int × Int} {a : Act} {w : World} (h : NumF g l W R a w) : w = W ∧ ∃ (x : Int) (u : Nat → Value), a = { tmps := #[.pointer (some ⟨g, 0, none⟩), u 1, .int .i64 0, u 3, u 4, .int .i64 x, u 6, u 7, u 8, u 9, u 10, u 11, u 12, u 13, u 14, u 15, u 16, u 17, u 18, u 19, u 20, u 21, u 22, u 23, u 24, u 25, u 26, u 27, u 28, u 29, u 30, u 31, u 32, u 33, u 34, u 35, u 36, u 37, u 38, u 39, u 40, u 41, u 42, u 43, u 44, u 45, u 46, u 47, u 48, u 49, u 50, u 51, u 52, u 53, u 54, u 55, u 56, u 57, u 58, u 59, u 60, u 61, u 62, u 63, u 64, u 65, u 66, u 67, u 68, u 69, u 70, u 71, u 72, u 73, u 74, u 75], defers := [] } ∧ (0, l, x) = R := by
  obtain ⟨h1, h2, h3, x, q0, q2, q5, h4⟩ := h
  refine ⟨h1, x, fun j => a.tmps.getD j undef, ?_, h4⟩
  obtain ⟨t, d⟩ := a
  dsimp only at *
  subst h2
  have e : Act.mk t [] = Act.mk #[t.getD 0 undef, t.getD 1 undef, t.getD 2 undef, t.getD 3 undef, t.getD 4 undef, t.getD 5 undef, t.getD 6 undef, t.getD 7 undef, t.getD 8 undef, t.getD 9 undef, t.getD 10 undef, t.getD 11 undef, t.getD 12 undef, t.getD 13 undef, t.getD 14 undef, t.getD 15 undef, t.getD 16 undef, t.getD 17 undef, t.getD 18 undef, t.getD 19 undef, t.getD 20 undef, t.getD 21 undef, t.getD 22 undef, t.getD 23 undef, t.getD 24 undef, t.getD 25 undef, t.getD 26 undef, t.getD 27 undef, t.getD 28 undef, t.getD 29 undef, t.getD 30 undef, t.getD 31 undef, t.getD 32 undef, t.getD 33 undef, t.getD 34 undef, t.getD 35 undef, t.getD 36 undef, t.getD 37 undef, t.getD 38 undef, t.getD 39 undef, t.getD 40 undef, t.getD 41 undef, t.getD 42 undef, t.getD 43 undef, t.getD 44 undef, t.getD 45 undef, t.getD 46 undef, t.getD 47 undef, t.getD 48 undef, t.getD 49 undef, t.getD 50 undef, t.getD 51 undef, t.getD 52 undef, t.getD 53 undef, t.getD 54 undef, t.getD 55 undef, t.getD 56 undef, t.getD 57 undef, t.getD 58 undef, t.getD 59 undef, t.getD 60 undef, t.getD 61 undef, t.getD 62 undef, t.getD 63 undef, t.getD 64 undef, t.getD 65 undef, t.getD 66 undef, t.getD 67 undef, t.getD 68 undef, t.getD 69 undef, t.getD 70 undef, t.getD 71 undef, t.getD 72 undef, t.getD 73 undef, t.getD 74 undef, t.getD 75 undef] [] := congrArg (fun t => Act.mk t []) (arr_u t 76 h3)
  rw [q0, q2, q5] at e
  exact e
/-! R4 -/
set_option maxHeartbeats 4000000 in
set_option maxRecDepth 100000 in
theorem wire_Reader_Num.off (g : Nat) (l : List Int) (e : Int) (m : Bool) (w0 w : World) (hI : IsRdr w0 w g l e m) (hB : Below w0.heap.size w0 w) (ho : (m && (e == 0)) = false) :
    Calls Try.prog 45 #[.pointer (some ⟨g, 0, none⟩)] w fun ed w' => ed = .returned (.int .i64 0) ∧ w = w' := by
  have HI := Aside0.mk hI
  obtain ⟨A, c, c0, c1, c2, f0, f1, f2, hlc, hC, hA⟩ := hI.open_
  clear hI hB hA hC
  go_enter Try.func45, Try.ntmps45
  go_wp2
  refine wp_scope_two 1 0 (fun _ _ => False) (fun _ _ => False) (fun _ _ => 0) (by rfl) (by rfl) ?_ (fun _ _ h => h.elim) (fun _ _ h => h.elim)
  intro _
  go_wp2_with fail
  refine (wire_Reader_ok.calls g l e m w0 w HI.out).mono ?_
  rintro ed w' ⟨rfl, rfl⟩
  rw [ho]
  clear ho
  go_wp2
  rw [ExitTwo_ret]
  go_ret
  exact ⟨rfl, rfl⟩
/-! R5 -/
set_option maxHeartbeats 4000000 in
set_option maxRecDepth 100000 in
theorem wire_Reader_Num.on (g : Nat) (l : List Int) (w0 w : World) (hI : IsRdr w0 w g l 0 true) (hB : Below w0.heap.size w0 w) :
    Calls Try.prog 45 #[.pointer (some ⟨g, 0, none⟩)] w fun ed w' => ed = .returned (.int .i64 (rdFrom l 8 0 0).1) ∧ IsRdr w0 w' g (rdFrom l 8 0 0).2.1 (rdFrom l 8 0 0).2.2 true ∧ Below w0.heap.size w0 w' ∧ KeepBut w w' g none := by
  have HI := Aside0.mk hI
  have HB := Aside0.mk hB
  obtain ⟨A, c, c0, c1, c2, f0, f1, f2, hlc, hC, hA⟩ := hI.open_
  have HC := Aside0.mk hC
  have HA := Aside0.mk hA
  clear hI hB hA
  have hm := hC.2.1
  clear hC
  obtain ⟨R, hR⟩ : ∃ R, rdFrom l 8 0 0 = R := ⟨_, rfl⟩
  have HR0 := Aside0.mk hR
  have HNUM := Aside0.mk hR
  clear hR
  go_enter Try.func45, Try.ntmps45
  go_wp2
  refine wp_scope_two 1 0 (NumJ g l w R) (NumF g l w R) (fun a _ => 20 - (intOf (a.tmps.getD 4 undef)).toNat) (by rfl) (by rfl) ?first ?pass1 ?pass2
  case first =>
    intro body
    as_aux_lemma =>
    go_wp2_with fail
    refine (wire_Reader_ok.calls g l 0 true w0 w HI.out).mono ?_
    rintro ed w' ⟨rfl, rfl⟩
    go_wp2
    refine wp_label ?_
    rename_i K hK
    refine hK _ _ (body _ _ ?_)
    exact ⟨rfl, rfl, rfl, 0, 0, rfl, rfl, rfl, rfl, rfl, by omega, by omega, by omega, HR0.out⟩
  case pass1 =>
    intro a W hJ
    obtain ⟨rfl, n, i, u, rfl, hi, hn0, hn1, hr⟩ := hJ.open_
    clear hJ
    by_cases hi8 : i = 8
    · as_aux_lemma =>
      subst hi8
      go_wp2
      go_step3
      refine .inr ⟨rfl, rfl, rfl, rfl, 21, rfl, rfl, rfl, ?_⟩
      rw [← hr]
      rfl
    · obtain ⟨f, hf⟩ : ∃ f, 8 - i = f + 1 := ⟨7 - i, by omega⟩
      rw [hf] at hr
      unfold rdFrom at hr
      have i8 : ((i : Int) == 8) = false := beq_eq_false_iff_ne.mpr (by omega)
      by_cases hl : l.length ≤ i
      · rw [if_pos hl] at hr
        have HR := Aside0.mk hr
        clear hr hf hi8
        as_aux_lemma =>
        go_wp2
        go_step3
        exact .inr ⟨rfl, rfl, rfl, rfl, 20, rfl, rfl, rfl, HR.out⟩
      · rw [if_neg hl] at hr
        have hil : (i : Int) < l.length := by omega
        obtain ⟨ad, e1, hx⟩ := Kd.at_int HC.out i (by omega) hil
        cases e1
        rw [Int.toNat_natCast] at hx
        have hb := bits_u8 .and (rd l i) 127
        have hi7 : i ≤ 7 := by omega
        rcases (show rdPut n (rd l i) i > 9007199254740992 ∨ (¬ rdPut n (rd l i) i > 9007199254740992 ∧ 0 < i ∧ rd l i = 0) ∨ (¬ rdPut n (rd l i) i > 9007199254740992 ∧ ¬ (0 < i ∧ rd l i = 0)) by
          by_cases h1 : rdPut n (rd l i) i > 9007199254740992
          · exact .inl h1
          · by_cases h2 : 0 < i ∧ rd l i = 0
            · exact .inr (.inl ⟨h1, h2⟩)
            · exact .inr (.inr ⟨h1, h2⟩)) with q1 | ⟨q1, z, y⟩ | ⟨q1, q2⟩
        · as_aux_lemma =>
            rw [if_pos (.inl q1)] at hr
            have q1b : decide (9007199254740992 < Go.bits .or .i64 n (wrap64 (Go.bits .and .u8 (rd l i) 127 * 2 ^ (7 * i)))) = true := decide_eq_true q1
            have HR := Aside0.mk hr
            clear hr hf hi8 q1
            go_wp2
            go_step3
            exact .inr ⟨rfl, rfl, rfl, rfl, 21, rfl, rfl, rfl, HR.out⟩
        · as_aux_lemma =>
            rw [if_pos (.inr ⟨z, y⟩)] at hr
            have q1b : decide (9007199254740992 < Go.bits .or .i64 n (wrap64 (Go.bits .and .u8 (rd l i) 127 * 2 ^ (7 * i)))) = false := decide_eq_false q1
            have zb : decide (0 < (i : Int)) = true := decide_eq_true (by omega)
            have zn : 0 < i := z
            have yb : (rd l i == 0) = true := beq_iff_eq.mpr y
            have HR := Aside0.mk hr
            clear hr hf hi8 q1 z y
            go_wp2
            go_step3
            exact .inr ⟨rfl, rfl, rfl, rfl, 21, rfl, rfl, rfl, HR.out⟩
        · rw [if_neg (by rintro (h | h); exact q1 h; exact q2 h)] at hr
          have q1b : decide (9007199254740992 < Go.bits .or .i64 n (wrap64 (Go.bits .and .u8 (rd l i) 127 * 2 ^ (7 * i)))) = false := decide_eq_false q1
          have HN := Aside0.mk (And.intro (rdPut_nn hn0 hn1 i hi7 (rd l i)) (Int.not_lt.mp q1))
          have HQ := Aside0.mk q2
          have HF := Aside0.mk hf
          clear hf hi8 q1 q2
          rcases (show (i = 0 ∨ 0 < i) by omega) with z | z
          all_goals
            first | have zb : decide (0 < (i : Int)) = true := decide_eq_true (by omega) | have zb : decide (0 < (i : Int)) = false := decide_eq_false (by omega)
            have yb : (decide (0 < (i : Int)) = true → (rd l i == 0) = false) := fun h => beq_eq_false_iff_ne.mpr (fun q => HQ.out ⟨by have := of_decide_eq_true h; omega, q⟩)
            rw [zb] at yb
            simp only [forall_const, Bool.false_eq_true, false_implies] at yb
            first | have zn : 0 < i := z | have zn : ¬ 0 < i := by omega
            clear z
            by_cases q3 : Go.bits .and .u8 (rd l i) 128 = 0
            · rw [if_pos q3] at hr
              have q3b : (Go.bits .and .u8 (rd l i) 128 != 0) = false := by rw [q3]; rfl
              have HR := Aside0.mk hr
              clear hr q3
              by_cases hc : c = i + 1
              · as_aux_lemma =>
                go_wp2
                go_ret
                have hd : (l.drop (i + 1)).length = l.length - (i + 1) := List.length_drop
                have hC' := Kd.C_drop (m := i + 1) (c := c) HC.out (by omega) hlc
                rw [if_pos hc] at hC'
                have hSet := HI.out.setL _ (c - (i + 1)) (l.drop (i + 1)) (by omega) hC' HA.out
                rw [hd, show c - (i + 1) = 0 by omega] at hSet
                have hn := HNUM.out
                rw [← HR.out] at hn
                rw [hn]
                exact ⟨rfl, hSet, rdr_set HB.out HI.out.base 0 _⟩
              · as_aux_lemma =>
                have hd : (l.drop (i + 1)).length = l.length - (i + 1) := List.length_drop
                have hC' := Kd.C_drop (m := i + 1) (c := c) HC.out (by omega) hlc
                rw [if_neg hc] at hC'
                have hadd : (some ad).map (·.add ((i + 1) * (Kd.int IntKind.u8).sz)) = some ⟨ad.block, ad.off + (i + 1), none⟩ := by
                  show some (ad.add ((i + 1) * 1)) = _
                  unfold Addr.add
                  rw [if_neg (by omega), Nat.mul_one]
                rw [hadd] at hC'
                have hSet := HI.out.setL _ (c - (i + 1)) (l.drop (i + 1)) (by omega) hC' (by
                  intro ad' h'
                  obtain rfl := Option.some.inj h'
                  exact HA.out ad rfl)
                rw [hd] at hSet
                have HSet := Aside0.mk hSet
                clear hd hC' hSet hadd
                go_wp2
                go_ret
                have hn := HNUM.out
                rw [← HR.out] at hn
                rw [hn]
                exact ⟨rfl, HSet.out, rdr_set HB.out HI.out.base 0 _⟩
            · rw [if_neg q3] at hr
              have q3b : (Go.bits .and .u8 (rd l i) 128 != 0) = true := bne_iff_ne.mpr q3
              have HR := Aside0.mk hr
              clear hr q3
              as_aux_lemma =>
              go_wp2
              go_step3
              refine .inl ⟨rfl, ⟨rfl, rfl, rfl, _, i + 1, rfl, rfl, rfl, by go_num, rfl, by omega, HN.out.1, HN.out.2, ?_⟩, ?_⟩
              · rw [show 8 - (i + 1) = f by have := HF.out; omega]
                exact HR.out
              · simp [intOf]
                omega
  case pass2 =>
    intro a W hJ
    obtain ⟨rfl, x, u, rfl, hr⟩ := hJ.open_
    clear hJ
    have HR := Aside0.mk hr
    clear hr
    as_aux_lemma =>
    go_wp2
    rw [ExitTwo_ret]
    go_ret
    have hn := HNUM.out
    rw [← HR.out] at hn
    rw [hn]
    exact ⟨rfl, HI.out.setE x, rdr_set HB.out HI.out.base 1 _⟩
/-! R6 -/
theorem rdFrom_nn (l : List Int) : ∀ (f i : Nat) (n : Int), f + i ≤ 8 → 0 ≤ n → n ≤ 9007199254740992 → 0 ≤ (rdFrom l f i n).1 ∧ (rdFrom l f i n).1 ≤ 9007199254740992 := by
  intro f
  induction f with
  | zero => intro i n _ _ _; unfold rdFrom; exact ⟨by simp, by simp⟩
  | succ f ih =>
    intro i n hf h0 h1
    unfold rdFrom
    split
    · exact ⟨by simp, by simp⟩
    · split
      · exact ⟨by simp, by simp⟩
      · rename_i hn
        have hp := rdPut_nn h0 h1 i (by omega) (rd l i)
        have hq : rdPut n (rd l i) i ≤ 9007199254740992 := by
          have := fun h => hn (.inl h)
          omega
        split
        · exact ⟨hp, hq⟩
        · exact ih _ _ (by omega) hp hq
theorem rdNum_on {l : List Int} {e : Int} {m : Bool} (h : rdOk e m = true) : rdNum l e m = rdFrom l 8 0 0 := if_pos h
theorem rdNum_off {l : List Int} {e : Int} {m : Bool} (h : rdOk e m = false) : rdNum l e m = (0, l, e) := if_neg (by rw [h]; simp)
theorem rdNum_nn (l : List Int) (e : Int) (m : Bool) : 0 ≤ (rdNum l e m).1 ∧ (rdNum l e m).1 ≤ 9007199254740992 := by
  cases h : rdOk e m
  · rw [rdNum_off h]
    exact ⟨by simp, by simp⟩
  · rw [rdNum_on h]
    exact rdFrom_nn l 8 0 0 (by omega) (by omega) (by omega)
theorem wire_Reader_Num.calls (g : Nat) (l : List Int) (e : Int) (m : Bool) (w0 w : World) (hI : IsRdr w0 w g l e m) (hB : Below w0.heap.size w0 w) :
    Calls Try.prog 45 #[.pointer (some ⟨g, 0, none⟩)] w fun ed w' => ed = .returned (.int .i64 (rdNum l e m).1) ∧ IsRdr w0 w' g (rdNum l e m).2.1 (rdNum l e m).2.2 m ∧ Below w0.heap.size w0 w' ∧ KeepBut w w' g none := by
  cases ho : (m && (e == 0))
  · refine (wire_Reader_Num.off g l e m w0 w hI hB ho).mono ?_
    rintro ed w' ⟨rfl, rfl⟩
    rw [rdNum_off ho]
    exact ⟨rfl, hI, hB, KeepBut.refl _ _ _⟩
  · obtain ⟨rfl, rfl⟩ : m = true ∧ e = 0 := by simpa using ho
    rw [rdNum_on ho]
    exact wire_Reader_Num.on g l w0 w hI hB
theorem wire_Reader_Num.nil (w : World) : Calls Try.prog 45 #[.pointer none] w fun ed w' => ed = .returned (.int .i64 0) ∧ w = w' := by
  go_enter Try.func45, Try.ntmps45
  go_wp2
  refine wp_scope_two 1 0 (fun _ _ => False) (fun _ _ => False) (fun _ _ => 0) (by rfl) (by rfl) ?_ (fun _ _ h => h.elim) (fun _ _ h => h.elim)
  intro _
  go_wp2_with fail
  refine (wire_Reader_ok.nil w).mono ?_
  rintro ed w' ⟨rfl, rfl⟩
  go_wp2
  rw [ExitTwo_ret]
  go_ret
  exact ⟨rfl, rfl⟩
/-- A reader's number that may not be above most. -/
def rdUpto (l : List Int) (e : Int) (m : Bool) (most : Int) : Int × List Int × Int :=
  if (rdNum l e m).1 > most then (0, (rdNum l e m).2.1, if rdOk (rdNum l e m).2.2 m then 21 else (rdNum l e m).2.2) else rdNum l e m
theorem rdUpto_pos {l : List Int} {e : Int} {m : Bool} {most : Int} (h : (rdNum l e m).1 > most) : rdUpto l e m most = (0, (rdNum l e m).2.1, if rdOk (rdNum l e m).2.2 m then 21 else (rdNum l e m).2.2) := if_pos h
theorem rdUpto_neg {l : List Int} {e : Int} {m : Bool} {most : Int} (h : ¬ (rdNum l e m).1 > most) : rdUpto l e m most = rdNum l e m := if_neg h
theorem rdUpto_nn (l : List Int) (e : Int) (m : Bool) (most : Int) : 0 ≤ (rdUpto l e m most).1 ∧ (rdUpto l e m most).1 ≤ 9007199254740992 := by
  by_cases h : (rdNum l e m).1 > most
  · rw [rdUpto_pos h]
    exact ⟨by simp, by simp⟩
  · rw [rdUpto_neg h]
    exact rdNum_nn l e m
set_option maxHeartbeats 1000000 in
set_option maxRecDepth 100000 in
theorem wire_Reader_Upto.calls (g : Nat) (l : List Int) (e : Int) (m : Bool) (most : Int) (w0 w : World) (hI : IsRdr w0 w g l e m) (hB : Below w0.heap.size w0 w) :
    Calls Try.prog 67 #[.pointer (some ⟨g, 0, none⟩), .int .i64 most] w fun ed w' => ed = .returned (.int .i64 (rdUpto l e m most).1) ∧ IsRdr w0 w' g (rdUpto l e m most).2.1 (rdUpto l e m most).2.2 m ∧ Below w0.heap.size w0 w' ∧ KeepBut w w' g none := by
  have HN := Aside0.mk (wire_Reader_Num.calls g l e m w0 w hI hB)
  clear hI hB
  have hz : Hid (rdUpto l e m most = if (rdNum l e m).1 > most then (0, (rdNum l e m).2.1, if rdOk (rdNum l e m).2.2 m then 21 else (rdNum l e m).2.2) else rdNum l e m) := rfl
  generalize rdUpto l e m most = R at hz
  generalize rdNum l e m = N at hz HN
  obtain ⟨n, l', e'⟩ := N
  dsimp only at hz HN
  have hF := fun w1 h1 h2 => wire_Reader_Fail.calls g l' e' m 21 w0 w1 h1 h2
  generalize (if rdOk e' m = true then 21 else e') = y at hz hF
  have HFA := Aside0.mk hF
  clear hF
  by_cases c : n > most
  · have hr : R = _ := hz.out
    rw [if_pos c] at hr
    subst hr
    have cb : decide (most < n) = true := decide_eq_true c
    clear hz c
    go_enter Try.func67, Try.ntmps67
    go_wp2_with fail
    go_at_call 45
    refine HN.out.mono ?_
    rintro ed w1 ⟨rfl, h1, h2, h3⟩
    have HK := Aside0.mk h3
    have HF := Aside0.mk (HFA.out w1 h1 h2)
    clear h1 h2 h3
    go_wp2_with fail
    go_at_call 68
    refine HF.out.mono ?_
    rintro ed w2 ⟨rfl, h1, h2, h3⟩
    have HR := Aside0.mk (And.intro h1 (And.intro h2 (HK.out.trans h3 (.inl rfl))))
    clear h1 h2 h3
    go_wp2
    go_ret
    exact ⟨rfl, HR.out⟩
  · have hr : R = _ := hz.out
    rw [if_neg c] at hr
    subst hr
    have cb : decide (most < n) = false := decide_eq_false c
    clear hz c
    go_enter Try.func67, Try.ntmps67
    go_wp2_with fail
    go_at_call 45
    refine HN.out.mono ?_
    rintro ed w1 ⟨rfl, h1, h2, h3⟩
    have HR := Aside0.mk (And.intro h1 (And.intro h2 h3))
    clear h1 h2 h3
    go_wp2
    go_ret
    exact ⟨rfl, HR.out⟩
theorem wire_Reader_Upto.nil (most : Int) (w : World) : Calls Try.prog 67 #[.pointer none, .int .i64 most] w fun ed w' => ed = .returned (.int .i64 0) ∧ w = w' := by
  by_cases c : 0 > most
  · have cb : decide (most < 0) = true := decide_eq_true c
    clear c
    go_enter Try.func67, Try.ntmps67
    go_wp2_with (first | (go_at_call 45; refine (wire_Reader_Num.nil _).mono ?_; rintro ed w' ⟨rfl, rfl⟩) | (go_at_call 68; refine (wire_Reader_Fail.nil _ _).mono ?_; rintro ed w' ⟨rfl, rfl⟩))
    go_ret
    exact ⟨rfl, rfl⟩
  · have cb : decide (most < 0) = false := decide_eq_false c
    clear c
    go_enter Try.func67, Try.ntmps67
    go_wp2_with (first | (go_at_call 45; refine (wire_Reader_Num.nil _).mono ?_; rintro ed w' ⟨rfl, rfl⟩) | (go_at_call 68; refine (wire_Reader_Fail.nil _ _).mono ?_; rintro ed w' ⟨rfl, rfl⟩))
    go_ret
    exact ⟨rfl, rfl⟩
/-! R7 -/
/-- A reader's text. -/
def rdText (l : List Int) (e : Int) (m : Bool) (most : Int) : List Int × List Int × Int :=
  if rdOk (rdUpto l e m most).2.2 m = false then ([], (rdUpto l e m most).2.1, (rdUpto l e m most).2.2)
  else if (rdUpto l e m most).1 > ((rdUpto l e m most).2.1.length : Int) then ([], (rdUpto l e m most).2.1, 20)
  else ((rdUpto l e m most).2.1.take (rdUpto l e m most).1.toNat, (rdUpto l e m most).2.1.drop (rdUpto l e m most).1.toNat, (rdUpto l e m most).2.2)
theorem rdText_off {l : List Int} {e : Int} {m : Bool} {most : Int} (h : rdOk (rdUpto l e m most).2.2 m = false) : rdText l e m most = ([], (rdUpto l e m most).2.1, (rdUpto l e m most).2.2) := if_pos h
theorem rdText_end {l : List Int} {e : Int} {m : Bool} {most : Int} (h : rdOk (rdUpto l e m most).2.2 m = true) (c : (rdUpto l e m most).1 > ((rdUpto l e m most).2.1.length : Int)) : rdText l e m most = ([], (rdUpto l e m most).2.1, 20) := (if_neg (by rw [h]; simp)).trans (if_pos c)
theorem rdText_on {l : List Int} {e : Int} {m : Bool} {most : Int} (h : rdOk (rdUpto l e m most).2.2 m = true) (c : ¬ (rdUpto l e m most).1 > ((rdUpto l e m most).2.1.length : Int)) : rdText l e m most = ((rdUpto l e m most).2.1.take (rdUpto l e m most).1.toNat, (rdUpto l e m most).2.1.drop (rdUpto l e m most).1.toNat, (rdUpto l e m most).2.2) := (if_neg (by rw [h]; simp)).trans (if_neg c)
theorem str_nil : strOfNums [] = { data := #[] } := rfl
set_option maxHeartbeats 1000000 in
set_option maxRecDepth 100000 in
theorem wire_Reader_Text.calls (g : Nat) (l : List Int) (e : Int) (m : Bool) (most : Int) (w0 w : World) (hI : IsRdr w0 w g l e m) (hB : Below w0.heap.size w0 w) :
    Calls Try.prog 46 #[.pointer (some ⟨g, 0, none⟩), .int .i64 most] w fun ed w' => ed = .returned (.string (strOfNums (rdText l e m most).1)) ∧ IsRdr w0 w' g (rdText l e m most).2.1 (rdText l e m most).2.2 m ∧ Below w0.heap.size w0 w' ∧ KeepBut w w' g none := by
  have HN := Aside0.mk (wire_Reader_Upto.calls g l e m most w0 w hI hB)
  clear hI hB
  obtain ⟨hn0, hn1⟩ := rdUpto_nn l e m most
  have h1 := @rdText_off l e m most
  have h2 := @rdText_end l e m most
  have h3 := @rdText_on l e m most
  generalize rdText l e m most = R at h1 h2 h3
  generalize rdUpto l e m most = N at h1 h2 h3 HN hn0 hn1
  obtain ⟨n, l', e'⟩ := N
  dsimp only at h1 h2 h3 HN hn0 hn1
  cases ho : rdOk e' m
  · obtain rfl := h1 ho
    clear h1 h2 h3
    have HO := Aside0.mk ho
    clear ho
    go_enter Try.func46, Try.ntmps46
    go_wp2_with fail
    go_at_call 67
    refine HN.out.mono ?_
    rintro ed w1 ⟨rfl, h1, h2, h3⟩
    have hok := wire_Reader_ok.calls g l' e' m w0 w1 h1
    rw [show (m && (e' == 0)) = _ from HO.out] at hok
    have HR := Aside0.mk (And.intro h1 (And.intro h2 h3))
    have HK := Aside0.mk hok
    clear h1 h2 h3 hok
    go_wp2_with fail
    go_at_call 51
    refine HK.out.mono ?_
    rintro ed w' ⟨rfl, rfl⟩
    clear HK
    go_wp2
    go_ret
    exact ⟨rfl, HR.out⟩
  · by_cases c : n > (l'.length : Int)
    · obtain rfl := h2 ho c
      have cb : decide ((l'.length : Int) < n) = true := decide_eq_true c
      have HO := Aside0.mk ho
      clear h1 h2 h3 ho c
      go_enter Try.func46, Try.ntmps46
      go_wp2_with fail
      go_at_call 67
      refine HN.out.mono ?_
      rintro ed w1 ⟨rfl, h1, h2, h3⟩
      have hok := wire_Reader_ok.calls g l' e' m w0 w1 h1
      rw [show (m && (e' == 0)) = _ from HO.out] at hok
      have HK := Aside0.mk hok
      obtain ⟨A, c, c0, c1, c2, f0, f1, f2, hlc, hC, hA⟩ := h1.open_
      have HS := Aside0.mk (rdr_set h2 h1.base 1 (.int .i64 20))
      have HE := Aside0.mk (h1.setE 20)
      have H3 := Aside0.mk h3
      clear h1 h2 h3 hok hC hA
      go_wp2_with fail
      go_at_call 51
      refine HK.out.mono ?_
      rintro ed w' ⟨rfl, rfl⟩
      clear HK
      go_wp2
      go_ret
      exact ⟨rfl, HE.out, HS.out.1, H3.out.trans HS.out.2 (.inl rfl)⟩
    · obtain rfl := h3 ho c
      have cb : decide ((l'.length : Int) < n) = false := decide_eq_false c
      have HO := Aside0.mk ho
      have hnl : n ≤ (l'.length : Int) := by omega
      clear h1 h2 h3 ho c
      go_enter Try.func46, Try.ntmps46
      go_wp2_with fail
      go_at_call 67
      refine HN.out.mono ?_
      rintro ed w1 ⟨rfl, h1, h2, h3⟩
      have hok := wire_Reader_ok.calls g l' e' m w0 w1 h1
      rw [show (m && (e' == 0)) = _ from HO.out] at hok
      have HK := Aside0.mk hok
      obtain ⟨A, c, c0, c1, c2, f0, f1, f2, hlc, hC, hA⟩ := h1.open_
      have hto := bytes_to A l'.length c n hn0 hnl hlc
      have ht : (l'.take n.toNat).length = n.toNat := by rw [List.length_take]; omega
      have hCt := Kd.C_take (m := n.toNat) hC (by omega)
      rw [ht] at hCt
      have hcv : ∀ W : World, W = w1 → (convert 22 9 (.slice A n.toNat c)).run Try.prog W = .ok (.string (strOfNums (l'.take n.toNat))) W := fun W e => by
        subst e
        exact Kd.C_string Try.underlying22 Try.underlying5 Try.underlying9 hCt
      have hcv := hcv w1 rfl
      have hd : (l'.drop n.toNat).length = l'.length - n.toNat := List.length_drop
      obtain ⟨B, hBd⟩ : ∃ B, (if c = n.toNat then A else A.map (·.add (n.toNat * 1))) = B := ⟨_, rfl⟩
      have hfrom : ∀ W : World, (Instr.slice 22 (.slice A l'.length c) (some (.int .i64 n)) none none).run Try.prog W = .ok (.slice B (l'.length - n.toNat) (c - n.toNat)) W := fun W => by rw [← hBd]; exact bytes_from A l'.length c n hn0 hnl W
      have hC' : (Kd.int .u8).C w1 B (l'.drop n.toNat).length (l'.drop n.toNat) := by rw [← hBd]; exact Kd.C_drop (m := n.toNat) (c := c) hC (by omega) hlc
      have hSet := h1.setL B (c - n.toNat) (l'.drop n.toNat) (by omega) hC' (by
        intro ad' h'
        rw [← hBd] at h'
        split at h'
        · exact hA ad' h'
        · cases A with
          | none => cases h'
          | some ad =>
            obtain rfl := Option.some.inj h'
            have hx : (ad.add (n.toNat * 1)).block = ad.block := by unfold Addr.add; split <;> rfl
            rw [hx]
            exact hA ad rfl)
      have HS := rdr_set h2 h1.base 0 (.slice B (l'.drop n.toNat).length (c - n.toNat))
      rw [hd] at hSet HS
      have HS := Aside0.mk HS
      have HE := Aside0.mk hSet
      have H3 := Aside0.mk h3
      clear h1 h2 h3 hok hC hA hCt hC' hSet hd ht hBd
      go_wp2_with fail
      go_at_call 51
      refine HK.out.mono ?_
      rintro ed w' ⟨rfl, rfl⟩
      clear HK
      go_wp2
      go_ret
      exact ⟨rfl, HE.out, HS.out.1, H3.out.trans HS.out.2 (.inl rfl)⟩
theorem wire_Reader_Text.nil (most : Int) (w : World) : Calls Try.prog 46 #[.pointer none, .int .i64 most] w fun ed w' => ed = .returned (.string { data := #[] }) ∧ w = w' := by
  go_enter Try.func46, Try.ntmps46
  go_wp2_with (first | (go_at_call 67; refine (wire_Reader_Upto.nil _ _).mono ?_; rintro ed w' ⟨rfl, rfl⟩) | (go_at_call 51; refine (wire_Reader_ok.nil _).mono ?_; rintro ed w' ⟨rfl, rfl⟩))
  go_ret
  exact ⟨rfl, rfl⟩
/-! R8 -/
section
variable (g : Nat) (l : List Int) (e : Int) (w0 w : World) (hI : IsRdr w0 w g l e false)
include hI
theorem wire_Reader_Fail.off (x : Int) : Calls Try.prog 68 #[.pointer (some ⟨g, 0, none⟩), .int .i64 x] w fun ed w' => ed = .returned (.tuple #[]) ∧ w = w' := by
  have HI := Aside0.mk hI
  clear hI
  go_enter Try.func68, Try.ntmps68
  go_wp2_with fail
  refine (wire_Reader_ok.calls g l e false w0 w HI.out).mono ?_
  rintro ed w' ⟨rfl, rfl⟩
  go_wp2
  exact bodyPost_end (results_none rfl _ _ _) rfl ⟨rfl, rfl⟩
theorem wire_Reader_Upto.off (hB : Below w0.heap.size w0 w) (most : Int) : Calls Try.prog 67 #[.pointer (some ⟨g, 0, none⟩), .int .i64 most] w fun ed w' => ed = .returned (.int .i64 0) ∧ w = w' := by
  have HN := Aside0.mk (wire_Reader_Num.off g l e false w0 w hI hB rfl)
  have HF := Aside0.mk (wire_Reader_Fail.off g l e w0 w hI 21)
  clear hI hB
  by_cases c : 0 > most
  · have cb : decide (most < 0) = true := decide_eq_true c
    clear c
    go_enter Try.func67, Try.ntmps67
    go_wp2_with (first | (go_at_call 45; refine HN.out.mono ?_; rintro ed w' ⟨rfl, rfl⟩) | (go_at_call 68; refine HF.out.mono ?_; rintro ed w' ⟨rfl, rfl⟩))
    go_ret
    exact ⟨rfl, rfl⟩
  · have cb : decide (most < 0) = false := decide_eq_false c
    clear c
    go_enter Try.func67, Try.ntmps67
    go_wp2_with (first | (go_at_call 45; refine HN.out.mono ?_; rintro ed w' ⟨rfl, rfl⟩) | (go_at_call 68; refine HF.out.mono ?_; rintro ed w' ⟨rfl, rfl⟩))
    go_ret
    exact ⟨rfl, rfl⟩
theorem wire_Reader_Text.off (hB : Below w0.heap.size w0 w) (most : Int) : Calls Try.prog 46 #[.pointer (some ⟨g, 0, none⟩), .int .i64 most] w fun ed w' => ed = .returned (.string { data := #[] }) ∧ w = w' := by
  have HN := Aside0.mk (wire_Reader_Upto.off g l e w0 w hI hB most)
  have HF := Aside0.mk (wire_Reader_ok.calls g l e false w0 w hI)
  clear hI hB
  go_enter Try.func46, Try.ntmps46
  go_wp2_with (first | (go_at_call 67; refine HN.out.mono ?_; rintro ed w' ⟨rfl, rfl⟩) | (go_at_call 51; refine HF.out.mono ?_; rintro ed w' ⟨rfl, rfl⟩))
  go_ret
  exact ⟨rfl, rfl⟩
end
/-- No reader, or one that nobody made. -/
def Dead (w0 : World) (p : Option Addr) (w : World) : Prop := Below w0.heap.size w0 w ∧ (p = none ∨ ∃ g, p = some ⟨g, 0, none⟩ ∧ IsRdr w0 w g [] 0 false)
namespace Dead
variable {w0 w w' : World} {p : Option Addr} (h : Dead w0 p w)
include h
theorem below (hb : Below w.heap.size w w') : Dead w0 p w' := by
  obtain ⟨h1, h2⟩ := h
  refine ⟨below_step h1 hb, ?_⟩
  rcases h2 with rfl | ⟨g, rfl, h⟩
  · exact .inl rfl
  · exact .inr ⟨g, rfl, h.below hb⟩
theorem drew : Dead w0 p w.drew := h.below (below_drew (Below.refl _ _))
theorem Fail (x : Int) : Calls Try.prog 68 #[.pointer p, .int .i64 x] w fun ed w' => ed = .returned (.tuple #[]) ∧ w = w' := by
  rcases h.2 with rfl | ⟨g, rfl, hI⟩
  · exact wire_Reader_Fail.nil x w
  · exact wire_Reader_Fail.off g _ _ w0 w hI x
theorem Num : Calls Try.prog 45 #[.pointer p] w fun ed w' => ed = .returned (.int .i64 0) ∧ w = w' := by
  rcases h.2 with rfl | ⟨g, rfl, hI⟩
  · exact wire_Reader_Num.nil w
  · exact wire_Reader_Num.off g _ _ false w0 w hI h.1 rfl
theorem Upto (most : Int) : Calls Try.prog 67 #[.pointer p, .int .i64 most] w fun ed w' => ed = .returned (.int .i64 0) ∧ w = w' := by
  rcases h.2 with rfl | ⟨g, rfl, hI⟩
  · exact wire_Reader_Upto.nil most w
  · exact wire_Reader_Upto.off g _ _ w0 w hI h.1 most
theorem Text (most : Int) : Calls Try.prog 46 #[.pointer p, .int .i64 most] w fun ed w' => ed = .returned (.string { data := #[] }) ∧ w = w' := by
  rcases h.2 with rfl | ⟨g, rfl, hI⟩
  · exact wire_Reader_Text.nil most w
  · exact wire_Reader_Text.off g _ _ w0 w hI h.1 most
theorem Left : Calls Try.prog 16 #[.pointer p] w fun ed w' => ed = .returned (.int .i64 0) ∧ w = w' := by
  rcases h.2 with rfl | ⟨g, rfl, hI⟩
  · exact wire_Reader_Left.nil w
  · exact wire_Reader_Left.calls g _ _ false w0 w hI
theorem Err : Calls Try.prog 15 #[.pointer p] w fun ed w' => ed = .returned (.int .i64 1) ∧ w = w' := by
  rcases h.2 with rfl | ⟨g, rfl, hI⟩
  · exact wire_Reader_Err.nil w
  · exact wire_Reader_Err.calls g _ _ false w0 w hI
theorem Done : Calls Try.prog 43 #[.pointer p] w fun ed w' => ed = .returned (.int .i64 1) ∧ w = w' := by
  rcases h.2 with rfl | ⟨g, rfl, hI⟩
  · exact wire_Reader_Done.nil w
  · exact wire_Reader_Done.calls g _ _ false w0 w hI
end Dead

end Go.Proofs.Ytiglmgmkablpkaa.PK
