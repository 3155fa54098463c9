-- Written by a program of this session (wip/tools/hp.py) over the kit's print; nothing here is trusted: Lean checks it.
import Derived.RegionTactic
import Derived.BigRegion
import Derived.Laws.Rows
import Derived.Deep.RegionWith
import Derived.ScopeJumps
import Derived.WalkMore
import Derived.Test.YtampppdjfbabiaaPEx0
import Derived.Test.YtampppdjfbabiaaPEx1
import Derived.Laws.Tables
import Derived.Test.YtampppdjfbabiaaPEx2
namespace Go.Proofs.Ytampppdjfbabiaa.PE
open Go.RowKit Go.Proofs.YtampppdjfbabiaaW.PrintWords Go.Proofs.YtampppdjfbabiaaW.PrintLast Go.Proofs.YtampppdjfbabiaaW.PrintMore
attribute [local go_sem] max2_int min2_int max_two min_two max_three min_three max_four min_four   -- for this text's walks alone
set_option linter.unusedVariables false
set_option linter.unusedSimpArgs false

--OWN Derived.RegionTactic,Derived.BigRegion,Derived.Laws.Rows,Derived.Deep.RegionWith,Derived.ScopeJumps,Derived.WalkMore
/-! ### wire_Reader_ok: function 61 -/
/-! R0 -/
theorem drawn_below {w w' : World} (h : Drawn0 w w') : Below w.heap.size w w' := by
 obtain ⟨m, rfl⟩ := h
 exact pw_below_drewN (Below.refl _ _) m
theorem bits_u8 (op) (a b : Int) : 0 ≤ Go.bits op .u8 a b ∧ Go.bits op .u8 a b ≤ 255 := by
 unfold Go.bits
 simp only [IntKind.wrap, IntKind.bits, IntKind.signed, Bool.false_and, Bool.false_eq_true, if_false]
 generalize (BitVec.toNat _ : Int) = z
 omega
/-- A row that is read stays, if its block stays. -/
theorem C_block {w w' : World} {A : Option Addr} {n : Nat} {l : List Int} (h : (Kd.int .u8).C w A n l) (hb : ∀ ad, A = some ad → w'.heap[ad.block]? = w.heap[ad.block]?) : (Kd.int .u8).C w' A n l := by
 obtain ⟨h1, h2, h3⟩ := h
 refine ⟨h1, h2, fun hp => ?_⟩
 obtain ⟨ad, rfl, h4⟩ := h3 hp
 refine ⟨ad, rfl, fun j p hj => ?_⟩
 obtain ⟨c, hc1, hc2, hc3⟩ := h4 j p hj
 refine ⟨c, hc1, hc2, fun i u hi => ?_⟩
 have hx : (ad.add (j * (Kd.int IntKind.u8).sz + i)).block = ad.block := by unfold Addr.add; split <;> rfl
 rw [World.cell?_of_block (w := w) (by rw [hx]; exact hb ad rfl)]
 exact hc3 i u hi
/-- A reader: what is left of its bytes, its error, whether it was made. -/
structure IsRdr (w0 w : World) (g : Nat) (l : List Int) (e : Int) (m : Bool) : Prop where
 base : w0.heap.size ≤ g
 blk : ∃ A c, w.heap[g]? = some (.cells #[.slice A l.length c, .int .i64 e, .bool m] 87 (0, 0)) ∧ l.length ≤ c ∧ (Kd.int .u8).C w A l.length l ∧ ∀ ad, A = some ad → ∃ (cells : Array Value) (fz : Nat × Nat), w.heap[ad.block]? = some (.cells cells 5 fz)
theorem heap_lt {w : World} {g : Nat} {o : Obj} (h : w.heap[g]? = some o) : g < w.heap.size := by
 rcases Nat.lt_or_ge g w.heap.size with h' | h'
 ·exact h'
 ·rw [Array.getElem?_eq_none h'] at h; cases h
namespace IsRdr
variable {w0 w w' : World} {g : Nat} {l : List Int} {e : Int} {m : Bool}
theorem lt (h : IsRdr w0 w g l e m) : g < w.heap.size := by
 obtain ⟨A, c, h1, _⟩ := h.blk
 exact heap_lt h1
/-- Its own blocks stay. -/
theorem move (h : IsRdr w0 w g l e m) (h1 : w'.heap[g]? = w.heap[g]?) (h2 : ∀ (k : Nat) (cells : Array Value) (fz : Nat × Nat), w.heap[k]? = some (.cells cells 5 fz) → w'.heap[k]? = w.heap[k]?) : IsRdr w0 w' g l e m := by
 obtain ⟨A, c, q1, q2, q3, q4⟩ := h.blk
 refine ⟨h.base, A, c, h1.trans q1, q2, C_block q3 fun ad hA => ?_, fun ad hA => ?_⟩
 ·obtain ⟨cells, fz, hc⟩ := q4 ad hA
  exact h2 _ _ _ hc
 ·obtain ⟨cells, fz, hc⟩ := q4 ad hA
  exact ⟨cells, fz, (h2 _ _ _ hc).trans hc⟩
theorem below (h : IsRdr w0 w g l e m) (hb : Below w.heap.size w w') : IsRdr w0 w' g l e m :=
 h.move (hb.block _ h.lt) fun k _ _ hk => hb.block k (heap_lt hk)
/-- Another object of another type has been written. -/
theorem keep (h : IsRdr w0 w g l e m) {g' : Nat} (hk : KeepBut w w' g' none) (hne : g' ≠ g) {cells' : Array Value} {t : TypeId} (hg : w.heap[g']? = some (.cells cells' t (0, 0))) (ht : t ≠ 5) : IsRdr w0 w' g l e m := by
 refine h.move (hk.2 g h.lt (fun q => hne q.symm) (by simp)) fun k cells fz hc => hk.2 k (heap_lt hc) ?_ (by simp)
 rintro rfl
 rw [hg] at hc
 injection hc with hc
 injection hc with _ hc
 exact ht hc
theorem ne5 (h : IsRdr w0 w g l e m) {k : Nat} {cells : Array Value} {fz : Nat × Nat} (hk : w.heap[k]? = some (.cells cells 5 fz)) : k ≠ g := by
 obtain ⟨A, c, q1, _⟩ := h.blk
 rintro rfl
 rw [q1] at hk
 injection hk with hk
 injection hk with _ hk
 exact absurd hk (by decide)
theorem setE (h : IsRdr w0 w g l e m) (e' : Int) : IsRdr w0 (w.setCell ⟨g, 1, none⟩ (.int .i64 e')) g l e' m := by
 obtain ⟨A, c, q1, q2, q3, q4⟩ := h.blk
 have st : ∀ (k : Nat) (cells : Array Value) (fz : Nat × Nat), w.heap[k]? = some (.cells cells 5 fz) → (w.setCell ⟨g, 1, none⟩ (.int .i64 e')).heap[k]? = w.heap[k]? := fun k cells fz hk => Below.heap_setCell w ⟨g, 1, none⟩ _ k (h.ne5 hk)
 refine ⟨h.base, A, c, heap_setCell_same w g 1 _ _ _ q1, q2, C_block q3 fun ad hA => ?_, fun ad hA => ?_⟩
 ·obtain ⟨cells, fz, hc⟩ := q4 ad hA
  exact st _ _ _ hc
 ·obtain ⟨cells, fz, hc⟩ := q4 ad hA
  exact ⟨cells, fz, (st _ _ _ hc).trans hc⟩
theorem setL (h : IsRdr w0 w g l e m) (A' : Option Addr) (c' : Nat) (l' : List Int) (hc : l'.length ≤ c') (hC : (Kd.int .u8).C w A' l'.length l') (hA : ∀ ad, A' = some ad → ∃ (cells : Array Value) (fz : Nat × Nat), w.heap[ad.block]? = some (.cells cells 5 fz)) :
  IsRdr w0 (w.setCell ⟨g, 0, none⟩ (.slice A' l'.length c')) g l' e m := by
 obtain ⟨A, c, q1, q2, q3, q4⟩ := h.blk
 have st : ∀ (k : Nat) (cells : Array Value) (fz : Nat × Nat), w.heap[k]? = some (.cells cells 5 fz) → (w.setCell ⟨g, 0, none⟩ (.slice A' l'.length c')).heap[k]? = w.heap[k]? := fun k cells fz hk => Below.heap_setCell w ⟨g, 0, none⟩ _ k (h.ne5 hk)
 refine ⟨h.base, A', c', heap_setCell_same w g 0 _ _ _ q1, hc, C_block hC fun ad hA' => ?_, fun ad hA' => ?_⟩
 ·obtain ⟨cells, fz, hx⟩ := hA ad hA'
  exact st _ _ _ hx
 ·obtain ⟨cells, fz, hx⟩ := hA ad hA'
  exact ⟨cells, fz, (st _ _ _ hx).trans hx⟩
/-- Its cells, as the walk asks them. -/
theorem open_ (h : IsRdr w0 w g l e m) : ∃ A c, w.cell? ⟨g, 0, none⟩ = some (.slice A l.length c) ∧ w.cell? ⟨g, 1, none⟩ = some (.int .i64 e) ∧ w.cell? ⟨g, 2, none⟩ = some (.bool m) ∧ w.frozen? ⟨g, 0, none⟩ = false ∧ w.frozen? ⟨g, 1, none⟩ = false ∧ w.frozen? ⟨g, 2, none⟩ = false ∧ l.length ≤ c ∧ (Kd.int .u8).C w A l.length l ∧ ∀ ad, A = some ad → ∃ (cells : Array Value) (fz : Nat × Nat), w.heap[ad.block]? = some (.cells cells 5 fz) := by
 obtain ⟨A, c, q1, q2, q3, q4⟩ := h.blk
 exact ⟨A, c, cell_of_row _ _ _ _ _ _ q1, cell_of_row _ _ _ _ _ _ q1, cell_of_row _ _ _ _ _ _ q1, frozen_of_row _ _ _ _ _ q1, frozen_of_row _ _ _ _ _ q1, frozen_of_row _ _ _ _ _ q1, q2, q3, q4⟩
end IsRdr
/-- What is said of a world behind a reader's method. -/
theorem rdr_set {w0 w : World} {g : Nat} (hB : Below w0.heap.size w0 w) (hg : w0.heap.size ≤ g) (j : Nat) (u : Value) : Below w0.heap.size w0 (w.setCell ⟨g, j, none⟩ u) ∧ KeepBut w (w.setCell ⟨g, j, none⟩ u) g none :=
 ⟨Below.setCell hB hg u, (KeepBut.refl w g none).set_ j u⟩
set_option maxHeartbeats 1000000 in
set_option maxRecDepth 100000 in
theorem wire_Reader_ok.calls (g : Nat) (l : List Int) (e : Int) (m : Bool) (w0 w : World) (hI : IsRdr w0 w g l e m) :
  Calls Try.prog 61 #[.pointer (some ⟨g, 0, none⟩)] w fun ed w' => ed = .returned (.bool (m && (e == 0))) ∧ w = w' := by
 obtain ⟨A, c, c0, c1, c2, f0, f1, f2, _⟩ := hI.open_
 cases m <;> cases he : e == 0
 all_goals
  go_enter Try.func61, Try.ntmps61
  go_wp2
  go_ret
  exact ⟨rfl, rfl⟩
theorem wire_Reader_ok.nil (w : World) : Calls Try.prog 61 #[.pointer none] w fun ed w' => ed = .returned (.bool false) ∧ w = w' := by
 go_enter Try.func61, Try.ntmps61
 go_wp2
 go_ret
 exact ⟨rfl, rfl⟩
/-! R1 -/
/-- Has a reader no error? -/
def rdOk (e : Int) (m : Bool) : Bool := m && (e == 0)
set_option maxHeartbeats 1000000 in
set_option maxRecDepth 100000 in
theorem wire_Reader_Fail.calls (g : Nat) (l : List Int) (e : Int) (m : Bool) (x : Int) (w0 w : World) (hI : IsRdr w0 w g l e m) (hB : Below w0.heap.size w0 w) :
  Calls Try.prog 57 #[.pointer (some ⟨g, 0, none⟩), .int .i64 x] w fun ed w' => ed = .returned (.tuple #[]) ∧ IsRdr w0 w' g l (if rdOk e m then x else e) m ∧ Below w0.heap.size w0 w' ∧ KeepBut w w' g none := by
 obtain ⟨A, c, c0, c1, c2, f0, f1, f2, _⟩ := hI.open_
 have HS := Aside0.mk (rdr_set hB hI.base 1 (.int .i64 x))
 have HE := Aside0.mk (hI.setE x)
 have HI := Aside0.mk hI
 have HB := Aside0.mk hB
 clear hI hB
 cases ho : rdOk e m
 all_goals
  go_enter Try.func57, Try.ntmps57
  go_wp2_with fail
  refine (wire_Reader_ok.calls g l e m w0 w HI.out).mono ?_
  rintro ed w' ⟨rfl, rfl⟩
  rw [show (m && (e == 0)) = _ from ho]
  clear ho
  go_wp2
 ·exact bodyPost_end (results_none rfl _ _ _) rfl ⟨rfl, HI.out, HB.out, KeepBut.refl _ _ _⟩
 ·exact bodyPost_end (results_none rfl _ _ _) rfl ⟨rfl, HE.out, HS.out⟩
theorem wire_Reader_Fail.nil (x : Int) (w : World) : Calls Try.prog 57 #[.pointer none, .int .i64 x] w fun ed w' => ed = .returned (.tuple #[]) ∧ w = w' := by
 go_enter Try.func57, Try.ntmps57
 go_wp2_with fail
 refine (wire_Reader_ok.nil w).mono ?_
 rintro ed w' ⟨rfl, rfl⟩
 go_wp2
 exact bodyPost_end (results_none rfl _ _ _) rfl ⟨rfl, rfl⟩
set_option maxHeartbeats 1000000 in
set_option maxRecDepth 100000 in
theorem wire_Reader_Left.calls (g : Nat) (l : List Int) (e : Int) (m : Bool) (w0 w : World) (hI : IsRdr w0 w g l e m) :
  Calls Try.prog 35 #[.pointer (some ⟨g, 0, none⟩)] w fun ed w' => ed = .returned (.int .i64 (if rdOk e m then (l.length : Int) else 0)) ∧ w = w' := by
 obtain ⟨A, c, c0, c1, c2, f0, f1, f2, _⟩ := hI.open_
 have HI := Aside0.mk hI
 clear hI
 cases ho : rdOk e m
 all_goals
  go_enter Try.func35, Try.ntmps35
  go_wp2_with fail
  refine (wire_Reader_ok.calls g l e m w0 w HI.out).mono ?_
  rintro ed w' ⟨rfl, rfl⟩
  rw [show (m && (e == 0)) = _ from ho]
  clear ho
  go_wp2
  go_ret
  exact ⟨rfl, rfl⟩
theorem wire_Reader_Left.nil (w : World) : Calls Try.prog 35 #[.pointer none] w fun ed w' => ed = .returned (.int .i64 0) ∧ w = w' := by
 go_enter Try.func35, Try.ntmps35
 go_wp2_with fail
 refine (wire_Reader_ok.nil w).mono ?_
 rintro ed w' ⟨rfl, rfl⟩
 go_wp2
 go_ret
 exact ⟨rfl, rfl⟩
theorem wire_Reader_Err.calls (g : Nat) (l : List Int) (e : Int) (m : Bool) (w0 w : World) (hI : IsRdr w0 w g l e m) :
  Calls Try.prog 34 #[.pointer (some ⟨g, 0, none⟩)] w fun ed w' => ed = .returned (.int .i64 (if m then e else 1)) ∧ w = w' := by
 obtain ⟨A, c, c0, c1, c2, f0, f1, f2, _⟩ := hI.open_
 clear hI
 cases m
 all_goals
  go_enter Try.func34, Try.ntmps34
  go_wp2
  go_ret
  exact ⟨rfl, rfl⟩
theorem wire_Reader_Err.nil (w : World) : Calls Try.prog 34 #[.pointer none] w fun ed w' => ed = .returned (.int .i64 1) ∧ w = w' := by
 go_enter Try.func34, Try.ntmps34
 go_wp2
 go_ret
 exact ⟨rfl, rfl⟩
/-! R3 -/
/-- A cut of bytes from j on, and up to j. -/
theorem bytes_from (A : Option Addr) (n c : Nat) (j : Int) (h0 : 0 ≤ j) (hm : j ≤ n) : ∀ W : World, (Instr.slice 41 (.slice A n c) (some (.int .i64 j)) none none).run Try.prog W = .ok (.slice (if c = j.toNat then A else A.map (·.add (j.toNat * 1))) (n - j.toNat) (c - j.toNat)) W := by
 obtain ⟨i5, hi5, hz0, hz1, hz2⟩ := info_parts info5
 exact cut_from 41 5 .i64 Try.underlying41 hi5 1 hz1 A n c j h0 hm
theorem bytes_to (A : Option Addr) (n c : Nat) (j : Int) (h0 : 0 ≤ j) (hm : j ≤ n) (hc : n ≤ c) : ∀ W : World, (Instr.slice 41 (.slice A n c) none (some (.int .i64 j)) none).run Try.prog W = .ok (.slice A j.toNat c) W := by
 obtain ⟨i5, hi5, hz0, hz1, hz2⟩ := info_parts info5
 exact cut_to 41 5 .i64 Try.underlying41 hi5 A n c j h0 hm hc
/-! R2 -/
/-- By a goto to one label J1, to another one J2. -/
def ExitTwo (l1 l2 : Nat) (J1 J2 : Act → World → Prop) (Q : Exit → Act → World → Prop) : Exit → Act → World → Prop
 | .goto l, a, w => (l = l1 ∧ J1 a w) ∨ (l = l2 ∧ J2 a w)
 | e, a, w => Q e a w
section
variable {P : Program} {Q : Exit → Act → World → Prop} {J1 J2 : Act → World → Prop} {l1 l2 : Nat} {a : Act} {w : World}
theorem ExitTwo_normal : ExitTwo l1 l2 J1 J2 Q .normal a w = Q .normal a w := rfl
theorem ExitTwo_ret : ExitTwo l1 l2 J1 J2 Q .ret a w = Q .ret a w := rfl
theorem ExitTwo_exit (id : Nat) : ExitTwo l1 l2 J1 J2 Q (.exit id) a w = Q (.exit id) a w := rfl
theorem ExitTwo_goto (l : Nat) : ExitTwo l1 l2 J1 J2 Q (.goto l) a w = ((l = l1 ∧ J1 a w) ∨ (l = l2 ∧ J2 a w)) := rfl
/-- A scope with a label to which the run jumps back (J1, a measure), and one to which it jumps ahead (J2). -/
theorem wp_scope_two {c r1 r2 : Code} (l1 l2 : Nat) (J1 J2 : Act → World → Prop) (μ : Act → World → Nat) (h1 : findLabel c l1 = some (.seq .skip r1)) (h2 : findLabel c l2 = some r2)
  (first : (∀ a w, J1 a w → r1.wp P (ExitTwo l1 l2 J1 J2 Q) a w) → c.wp P (ExitTwo l1 l2 J1 J2 Q) a w)
  (pass1 : ∀ a w, J1 a w → r1.wp P (ExitTwo l1 l2 (fun a' w' => J1 a' w' ∧ μ a' w' < μ a w) J2 Q) a w)
  (pass2 : ∀ a w, J2 a w → r2.wp P (ExitTwo l1 l2 (fun _ _ => False) (fun _ _ => False) Q) a w) : (Code.scope c).wp P Q a w := by
 intro b k cs
 have p1 : ∀ a w, J1 a w → (Code.seq .skip r1).wp P (ExitTwo l1 l2 (fun a' w' => J1 a' w' ∧ μ a' w' < μ a w) J2 Q) a w := fun a w h => wp_seq (wp_skip (pass1 a w h))
 have hg1 : gotoIn l1 (.inScope c :: k) = some (.code (.seq .skip r1) :: .inScope c :: k) := by simp [gotoIn, h1]
 have hg2 : gotoIn l2 (.inScope c :: k) = some (.code r2 :: .inScope c :: k) := by simp [gotoIn, h2]
 have fin2 : ∀ a w, J2 a w → ∃ e a' w', Q e a' w' ∧ Arrives P (lone (b.at a (.code r2 :: .inScope c :: k)) cs w) b k cs e a' w' := by
  intro a w hJ
  obtain ⟨e, a₁, w₁, hq, harr⟩ := pass2 a w hJ b (.inScope c :: k) cs
  cases e with
  | normal => exact ⟨.normal, a₁, w₁, hq, Steps.trans harr (.one step_inScope)⟩
  | exit id => exact ⟨.exit id, a₁, w₁, hq, fun k' hk => harr k' (by simp [exitTo, hk])⟩
  | goto l' => rcases hq with ⟨_, h⟩ | ⟨_, h⟩ <;> exact h.elim
  | ret => exact ⟨_, a₁, w₁, hq, harr⟩
  | panic ch => exact ⟨_, a₁, w₁, hq, harr⟩
  | outgrown => exact ⟨_, a₁, w₁, hq, harr⟩
 have key : ∀ n a w, μ a w = n → J1 a w → ∃ e a' w', Q e a' w' ∧ Arrives P (lone (b.at a (.code (.seq .skip r1) :: .inScope c :: k)) cs w) b k cs e a' w' := by
  intro n
  induction n using Nat.strongRecOn with
  | _ n ih =>
   intro a w hn hJ
   obtain ⟨e, a₁, w₁, hq, harr⟩ := p1 a w hJ b (.inScope c :: k) cs
   cases e with
   | normal => exact ⟨.normal, a₁, w₁, hq, Steps.trans harr (.one step_inScope)⟩
   | exit id => exact ⟨.exit id, a₁, w₁, hq, fun k' hk => harr k' (by simp [exitTo, hk])⟩
   | goto l' =>
    rcases hq with ⟨rfl, hJ', hlt⟩ | ⟨rfl, hJ'⟩
    ·obtain ⟨e₂, a₂, w₂, hq₂, harr₂⟩ := ih _ (by omega) a₁ w₁ rfl hJ'
     exact ⟨e₂, a₂, w₂, hq₂, .of_steps (harr _ hg1) harr₂⟩
    ·obtain ⟨e₂, a₂, w₂, hq₂, harr₂⟩ := fin2 a₁ w₁ hJ'
     exact ⟨e₂, a₂, w₂, hq₂, .of_steps (harr _ hg2) harr₂⟩
   | ret => exact ⟨_, a₁, w₁, hq, harr⟩
   | panic ch => exact ⟨_, a₁, w₁, hq, harr⟩
   | outgrown => exact ⟨_, a₁, w₁, hq, harr⟩
 obtain ⟨e, a₁, w₁, hq, harr⟩ := first (fun a w h => wp_mono (pass1 a w h) fun e a' w' hh => by
  cases e with
  | goto l' =>
   rcases hh with ⟨q, hJ', _⟩ | hh
   ·exact .inl ⟨q, hJ'⟩
   ·exact .inr hh
  | _ => exact hh) b (.inScope c :: k) cs
 cases e with
 | normal => exact ⟨.normal, a₁, w₁, hq, .head step_scope (Steps.trans harr (.one step_inScope))⟩
 | exit id => exact ⟨.exit id, a₁, w₁, hq, fun k' hk => .head step_scope (harr k' (by simp [exitTo, hk]))⟩
 | goto l' =>
  rcases hq with ⟨rfl, hJ'⟩ | ⟨rfl, hJ'⟩
  ·obtain ⟨e₂, a₂, w₂, hq₂, harr₂⟩ := key _ a₁ w₁ rfl hJ'
   exact ⟨e₂, a₂, w₂, hq₂, .of_steps (.head step_scope (harr _ hg1)) harr₂⟩
  ·obtain ⟨e₂, a₂, w₂, hq₂, harr₂⟩ := fin2 a₁ w₁ hJ'
   exact ⟨e₂, a₂, w₂, hq₂, .of_steps (.head step_scope (harr _ hg2)) harr₂⟩
 | ret => exact ⟨_, a₁, w₁, hq, .of_steps (.one step_scope) harr⟩
 | panic ch => exact ⟨_, a₁, w₁, hq, .of_steps (.one step_scope) harr⟩
 | outgrown => exact ⟨_, a₁, w₁, hq, .of_steps (.one step_scope) harr⟩
end
attribute [local go_sem] ExitTwo_normal ExitTwo_ret ExitTwo_exit
/-- What a reader's number is with a byte more. -/
def rdPut (n c : Int) (i : Nat) : Int := Go.bits .or .i64 n (wrap64 (Go.bits .and .u8 c 127 * 2 ^ (7 * i)))
theorem rdPut_nn {n : Int} (h : 0 ≤ n) (h' : n ≤ 9007199254740992) (i : Nat) (hi : i ≤ 7) (c : Int) : 0 ≤ rdPut n c i := by
 have hb : 0 ≤ Go.bits .and .u8 c 127 ∧ Go.bits .and .u8 c 127 ≤ 127 := by
  unfold Go.bits
  dsimp only
  have e : (BitVec.ofInt (IntKind.bits .u8) c &&& BitVec.ofInt (IntKind.bits .u8) 127).toNat ≤ 127 := by
   rw [BitVec.toNat_and]
   exact Nat.and_le_right
  have : IntKind.u8.wrap ((BitVec.ofInt (IntKind.bits .u8) c &&& BitVec.ofInt (IntKind.bits .u8) 127).toNat : Int) = ((BitVec.ofInt (IntKind.bits .u8) c &&& BitVec.ofInt (IntKind.bits .u8) 127).toNat : Int) := by
   show ((_ : Nat) : Int) % 256 = _
   omega
  rw [this]
  omega
 unfold rdPut
 generalize Go.bits .and .u8 c 127 = x at hb
 have hp : x * 2 ^ (7 * i) < 2 ^ 56 ∧ 0 ≤ x * 2 ^ (7 * i) := by
  have : i = 0 ∨ i = 1 ∨ i = 2 ∨ i = 3 ∨ i = 4 ∨ i = 5 ∨ i = 6 ∨ i = 7 := by omega
  rcases this with rfl | rfl | rfl | rfl | rfl | rfl | rfl | rfl <;> constructor <;> omega
 generalize x * 2 ^ (7 * i) = y at hp
 have hw : wrap64 y = y := by unfold wrap64; omega
 rw [hw]
 unfold Go.bits
 dsimp only
 obtain ⟨a, rfl⟩ := Int.eq_ofNat_of_zero_le h
 obtain ⟨b, rfl⟩ := Int.eq_ofNat_of_zero_le hp.2
 have e : (BitVec.ofInt (IntKind.bits .i64) (a : Int) ||| BitVec.ofInt (IntKind.bits .i64) (b : Int)).toNat < 2 ^ 63 := by
  rw [BitVec.toNat_or]
  have ha : (BitVec.ofInt (IntKind.bits .i64) (a : Int)).toNat = a := by
   show ((a : Int) % (2 ^ 64 : Nat)).toNat = a
   omega
  have hb : (BitVec.ofInt (IntKind.bits .i64) (b : Int)).toNat = b := by
   show ((b : Int) % (2 ^ 64 : Nat)).toNat = b
   omega
  rw [ha, hb]
  exact Nat.or_lt_two_pow (by omega) (by omega)
 generalize (BitVec.ofInt (IntKind.bits .i64) (a : Int) ||| BitVec.ofInt (IntKind.bits .i64) (b : Int)).toNat = z at e
 rw [IntKind.wrap_i64]
 omega
/-- Reading a number from byte i on, f bytes at most. -/
def rdFrom (l : List Int) : Nat → Nat → Int → Int × List Int × Int
 | 0, _, _ => (0, l, 21)
 | f + 1, i, n => if l.length ≤ i then (0, l, 20) else if rdPut n (rd l i) i > 9007199254740992 ∨ 0 < i ∧ rd l i = 0 then (0, l, 21) else if Go.bits .and .u8 (rd l i) 128 = 0 then (rdPut n (rd l i) i, l.drop (i + 1), 0) else rdFrom l f (i + 1) (rdPut n (rd l i) i)
def rdNum (l : List Int) (e : Int) (m : Bool) : Int × List Int × Int := if rdOk e m then rdFrom l 8 0 0 else (0, l, e)
/-- An array is what it holds. -/
theorem arr_u (t : Array Value) (n : Nat) (h : t.size = n) : t = ((List.range n).map fun j => t.getD j undef).toArray := by
 subst h
 apply Array.ext
 ·simp
 ·intro i h1 h2
  simp [h1]
def NumJ (g : Nat) (l : List Int) (W : World) (R : Int × List Int × Int) (a : Act) (w : World) : Prop :=
 w = W ∧ a.defers = [] ∧ a.tmps.size = 76 ∧ ∃ (n : Int) (i : Nat), a.tmps.getD 0 undef = .pointer (some ⟨g, 0, none⟩) ∧ a.tmps.getD 2 undef = .int .i64 0 ∧ a.tmps.getD 3 undef = .int .i64 n ∧ a.tmps.getD 4 undef = .int .i64 i ∧ a.tmps.getD 5 undef = .int .i64 0 ∧ i ≤ 8 ∧ 0 ≤ n ∧ n ≤ 9007199254740992 ∧ rdFrom l (8 - i) i n = R
def NumF (g : Nat) (l : List Int) (W : World) (R : Int × List Int × Int) (a : Act) (w : World) : Prop :=
 w = W ∧ a.defers = [] ∧ a.tmps.size = 76 ∧ ∃ (x : Int), a.tmps.getD 0 undef = .pointer (some ⟨g, 0, none⟩) ∧ a.tmps.getD 2 undef = .int .i64 0 ∧ a.tmps.getD 5 undef = .int .i64 x ∧ (0, l, x) = R
theorem NumJ.open_ {g : Nat} {l : List Int} {W : World} {R : Int × List Int × Int} {a : Act} {w : World} (h : NumJ g l W R a w) : w = W ∧ ∃ (n : Int) (i : Nat) (u : Nat → Value), a = { tmps := #[.pointer (some ⟨g, 0, none⟩), u 1, .int .i64 0, .int .i64 n, .int .i64 i, .int .i64 0, u 6, u 7, u 8, u 9, u 10, u 11, u 12, u 13, u 14, u 15, u 16, u 17, u 18, u 19, u 20, u 21, u 22, u 23, u 24, u 25, u 26, u 27, u 28, u 29, u 30, u 31, u 32, u 33, u 34, u 35, u 36, u 37, u 38, u 39, u 40, u 41, u 42, u 43, u 44, u 45, u 46, u 47, u 48, u 49, u 50, u 51, u 52, u 53, u 54, u 55, u 56, u 57, u 58, u 59, u 60, u 61, u 62, u 63, u 64, u 65, u 66, u 67, u 68, u 69, u 70, u 71, u 72, u 73, u 74, u 75], defers := [] } ∧ i ≤ 8 ∧ 0 ≤ n ∧ n ≤ 9007199254740992 ∧ rdFrom l (8 - i) i n = R := by
 obtain ⟨h1, h2, h3, n, i, q0, q2, q3, q4, q5, h4⟩ := h
 refine ⟨h1, n, i, fun j => a.tmps.getD j undef, ?_, h4⟩
 obtain ⟨t, d⟩ := a
 dsimp only at *
 subst h2
 have e : Act.mk t [] = Act.mk #[t.getD 0 undef, t.getD 1 undef, t.getD 2 undef, t.getD 3 undef, t.getD 4 undef, t.getD 5 undef, t.getD 6 undef, t.getD 7 undef, t.getD 8 undef, t.getD 9 undef, t.getD 10 undef, t.getD 11 undef, t.getD 12 undef, t.getD 13 undef, t.getD 14 undef, t.getD 15 undef, t.getD 16 undef, t.getD 17 undef, t.getD 18 undef, t.getD 19 undef, t.getD 20 undef, t.getD 21 undef, t.getD 22 undef, t.getD 23 undef, t.getD 24 undef, t.getD 25 undef, t.getD 26 undef, t.getD 27 undef, t.getD 28 undef, t.getD 29 undef, t.getD 30 undef, t.getD 31 undef, t.getD 32 undef, t.getD 33 undef, t.getD 34 undef, t.getD 35 undef, t.getD 36 undef, t.getD 37 undef, t.getD 38 undef, t.getD 39 undef, t.getD 40 undef, t.getD 41 undef, t.getD 42 undef, t.getD 43 undef, t.getD 44 undef, t.getD 45 undef, t.getD 46 undef, t.getD 47 undef, t.getD 48 undef, t.getD 49 undef, t.getD 50 undef, t.getD 51 undef, t.getD 52 undef, t.getD 53 undef, t.getD 54 undef, t.getD 55 undef, t.getD 56 undef, t.getD 57 undef, t.getD 58 undef, t.getD 59 undef, t.getD 60 undef, t.getD 61 undef, t.getD 62 undef, t.getD 63 undef, t.getD 64 undef, t.getD 65 undef, t.getD 66 undef, t.getD 67 undef, t.getD 68 undef, t.getD 69 undef, t.getD 70 undef, t.getD 71 undef, t.getD 72 undef, t.getD 73 undef, t.getD 74 undef, t.getD 75 undef] [] := congrArg (fun t => Act.mk t []) (arr_u t 76 h3)
 rw [q0, q2, q3, q4, q5] at e
 exact e
theorem NumF.open_ {g : Nat} {l : List Int} {W : World} {R : Int × List Int × Int} {a : Act} {w : World} (h : NumF g l W R a w) : w = W ∧ ∃ (x : Int) (u : Nat → Value), a = { tmps := #[.pointer (some ⟨g, 0, none⟩), u 1, .int .i64 0, u 3, u 4, .int .i64 x, u 6, u 7, u 8, u 9, u 10, u 11, u 12, u 13, u 14, u 15, u 16, u 17, u 18, u 19, u 20, u 21, u 22, u 23, u 24, u 25, u 26, u 27, u 28, u 29, u 30, u 31, u 32, u 33, u 34, u 35, u 36, u 37, u 38, u 39, u 40, u 41, u 42, u 43, u 44, u 45, u 46, u 47, u 48, u 49, u 50, u 51, u 52, u 53, u 54, u 55, u 56, u 57, u 58, u 59, u 60, u 61, u 62, u 63, u 64, u 65, u 66, u 67, u 68, u 69, u 70, u 71, u 72, u 73, u 74, u 75], defers := [] } ∧ (0, l, x) = R := by
 obtain ⟨h1, h2, h3, x, q0, q2, q5, h4⟩ := h
 refine ⟨h1, x, fun j => a.tmps.getD j undef, ?_, h4⟩
 obtain ⟨t, d⟩ := a
 dsimp only at *
 subst h2
 have e : Act.mk t [] = Act.mk #[t.getD 0 undef, t.getD 1 undef, t.getD 2 undef, t.getD 3 undef, t.getD 4 undef, t.getD 5 undef, t.getD 6 undef, t.getD 7 undef, t.getD 8 undef, t.getD 9 undef, t.getD 10 undef, t.getD 11 undef, t.getD 12 undef, t.getD 13 undef, t.getD 14 undef, t.getD 15 undef, t.getD 16 undef, t.getD 17 undef, t.getD 18 undef, t.getD 19 undef, t.getD 20 undef, t.getD 21 undef, t.getD 22 undef, t.getD 23 undef, t.getD 24 undef, t.getD 25 undef, t.getD 26 undef, t.getD 27 undef, t.getD 28 undef, t.getD 29 undef, t.getD 30 undef, t.getD 31 undef, t.getD 32 undef, t.getD 33 undef, t.getD 34 undef, t.getD 35 undef, t.getD 36 undef, t.getD 37 undef, t.getD 38 undef, t.getD 39 undef, t.getD 40 undef, t.getD 41 undef, t.getD 42 undef, t.getD 43 undef, t.getD 44 undef, t.getD 45 undef, t.getD 46 undef, t.getD 47 undef, t.getD 48 undef, t.getD 49 undef, t.getD 50 undef, t.getD 51 undef, t.getD 52 undef, t.getD 53 undef, t.getD 54 undef, t.getD 55 undef, t.getD 56 undef, t.getD 57 undef, t.getD 58 undef, t.getD 59 undef, t.getD 60 undef, t.getD 61 undef, t.getD 62 undef, t.getD 63 undef, t.getD 64 undef, t.getD 65 undef, t.getD 66 undef, t.getD 67 undef, t.getD 68 undef, t.getD 69 undef, t.getD 70 undef, t.getD 71 undef, t.getD 72 undef, t.getD 73 undef, t.getD 74 undef, t.getD 75 undef] [] := congrArg (fun t => Act.mk t []) (arr_u t 76 h3)
 rw [q0, q2, q5] at e
 exact e
/-! R4 -/
set_option maxHeartbeats 4000000 in
set_option maxRecDepth 100000 in
theorem wire_Reader_Num.off (g : Nat) (l : List Int) (e : Int) (m : Bool) (w0 w : World) (hI : IsRdr w0 w g l e m) (hB : Below w0.heap.size w0 w) (ho : (m && (e == 0)) = false) :
  Calls Try.prog 55 #[.pointer (some ⟨g, 0, none⟩)] w fun ed w' => ed = .returned (.int .i64 0) ∧ w = w' := by
 have HI := Aside0.mk hI
 obtain ⟨A, c, c0, c1, c2, f0, f1, f2, hlc, hC, hA⟩ := hI.open_
 clear hI hB hA hC
 go_enter Try.func55, Try.ntmps55
 go_wp2
 refine wp_scope_two 1 0 (fun _ _ => False) (fun _ _ => False) (fun _ _ => 0) (by rfl) (by rfl) ?_ (fun _ _ h => h.elim) (fun _ _ h => h.elim)
 intro _
 go_wp2_with fail
 refine (wire_Reader_ok.calls g l e m w0 w HI.out).mono ?_
 rintro ed w' ⟨rfl, rfl⟩
 rw [ho]
 clear ho
 go_wp2
 rw [ExitTwo_ret]
 go_ret
 exact ⟨rfl, rfl⟩
/-! R5 -/
set_option maxHeartbeats 4000000 in
set_option maxRecDepth 100000 in
theorem wire_Reader_Num.on (g : Nat) (l : List Int) (w0 w : World) (hI : IsRdr w0 w g l 0 true) (hB : Below w0.heap.size w0 w) :
  Calls Try.prog 55 #[.pointer (some ⟨g, 0, none⟩)] w fun ed w' => ed = .returned (.int .i64 (rdFrom l 8 0 0).1) ∧ IsRdr w0 w' g (rdFrom l 8 0 0).2.1 (rdFrom l 8 0 0).2.2 true ∧ Below w0.heap.size w0 w' ∧ KeepBut w w' g none := by
 have HI := Aside0.mk hI
 have HB := Aside0.mk hB
 obtain ⟨A, c, c0, c1, c2, f0, f1, f2, hlc, hC, hA⟩ := hI.open_
 have HC := Aside0.mk hC
 have HA := Aside0.mk hA
 clear hI hB hA
 have hm := hC.2.1
 clear hC
 obtain ⟨R, hR⟩ : ∃ R, rdFrom l 8 0 0 = R := ⟨_, rfl⟩
 have HR0 := Aside0.mk hR
 have HNUM := Aside0.mk hR
 clear hR
 go_enter Try.func55, Try.ntmps55
 go_wp2
 refine wp_scope_two 1 0 (NumJ g l w R) (NumF g l w R) (fun a _ => 20 - (intOf (a.tmps.getD 4 undef)).toNat) (by rfl) (by rfl) ?first ?pass1 ?pass2
 case first =>
  intro body
  as_aux_lemma =>
  go_wp2_with fail
  refine (wire_Reader_ok.calls g l 0 true w0 w HI.out).mono ?_
  rintro ed w' ⟨rfl, rfl⟩
  go_wp2
  refine wp_label ?_
  rename_i K hK
  refine hK _ _ (body _ _ ?_)
  exact ⟨rfl, rfl, rfl, 0, 0, rfl, rfl, rfl, rfl, rfl, by omega, by omega, by omega, HR0.out⟩
 case pass1 =>
  intro a W hJ
  obtain ⟨rfl, n, i, u, rfl, hi, hn0, hn1, hr⟩ := hJ.open_
  clear hJ
  by_cases hi8 : i = 8
  ·as_aux_lemma =>
   subst hi8
   go_wp2
   go_step3
   refine .inr ⟨rfl, rfl, rfl, rfl, 21, rfl, rfl, rfl, ?_⟩
   rw [← hr]
   rfl
  ·obtain ⟨f, hf⟩ : ∃ f, 8 - i = f + 1 := ⟨7 - i, by omega⟩
   rw [hf] at hr
   unfold rdFrom at hr
   have i8 : ((i : Int) == 8) = false := beq_eq_false_iff_ne.mpr (by omega)
   by_cases hl : l.length ≤ i
   ·rw [if_pos hl] at hr
    have HR := Aside0.mk hr
    clear hr hf hi8
    as_aux_lemma =>
    go_wp2
    go_step3
    exact .inr ⟨rfl, rfl, rfl, rfl, 20, rfl, rfl, rfl, HR.out⟩
   ·rw [if_neg hl] at hr
    have hil : (i : Int) < l.length := by omega
    obtain ⟨ad, e1, hx⟩ := Kd.at_int HC.out i (by omega) hil
    cases e1
    rw [Int.toNat_natCast] at hx
    have hb := bits_u8 .and (rd l i) 127
    have hi7 : i ≤ 7 := by omega
    rcases (show rdPut n (rd l i) i > 9007199254740992 ∨ (¬ rdPut n (rd l i) i > 9007199254740992 ∧ 0 < i ∧ rd l i = 0) ∨ (¬ rdPut n (rd l i) i > 9007199254740992 ∧ ¬ (0 < i ∧ rd l i = 0)) by
     by_cases h1 : rdPut n (rd l i) i > 9007199254740992
     ·exact .inl h1
     ·by_cases h2 : 0 < i ∧ rd l i = 0
      ·exact .inr (.inl ⟨h1, h2⟩)
      ·exact .inr (.inr ⟨h1, h2⟩)) with q1 | ⟨q1, z, y⟩ | ⟨q1, q2⟩
    ·as_aux_lemma =>
      rw [if_pos (.inl q1)] at hr
      have q1b : decide (9007199254740992 < Go.bits .or .i64 n (wrap64 (Go.bits .and .u8 (rd l i) 127 * 2 ^ (7 * i)))) = true := decide_eq_true q1
      have HR := Aside0.mk hr
      clear hr hf hi8 q1
      go_wp2
      go_step3
      exact .inr ⟨rfl, rfl, rfl, rfl, 21, rfl, rfl, rfl, HR.out⟩
    ·as_aux_lemma =>
      rw [if_pos (.inr ⟨z, y⟩)] at hr
      have q1b : decide (9007199254740992 < Go.bits .or .i64 n (wrap64 (Go.bits .and .u8 (rd l i) 127 * 2 ^ (7 * i)))) = false := decide_eq_false q1
      have zb : decide (0 < (i : Int)) = true := decide_eq_true (by omega)
      have zn : 0 < i := z
      have yb : (rd l i == 0) = true := beq_iff_eq.mpr y
      have HR := Aside0.mk hr
      clear hr hf hi8 q1 z y
      go_wp2
      go_step3
      exact .inr ⟨rfl, rfl, rfl, rfl, 21, rfl, rfl, rfl, HR.out⟩
    ·rw [if_neg (by rintro (h | h); exact q1 h; exact q2 h)] at hr
     have q1b : decide (9007199254740992 < Go.bits .or .i64 n (wrap64 (Go.bits .and .u8 (rd l i) 127 * 2 ^ (7 * i)))) = false := decide_eq_false q1
     have HN := Aside0.mk (And.intro (rdPut_nn hn0 hn1 i hi7 (rd l i)) (Int.not_lt.mp q1))
     have HQ := Aside0.mk q2
     have HF := Aside0.mk hf
     clear hf hi8 q1 q2
     rcases (show (i = 0 ∨ 0 < i) by omega) with z | z
     all_goals
      first | have zb : decide (0 < (i : Int)) = true := decide_eq_true (by omega) | have zb : decide (0 < (i : Int)) = false := decide_eq_false (by omega)
      have yb : (decide (0 < (i : Int)) = true → (rd l i == 0) = false) := fun h => beq_eq_false_iff_ne.mpr (fun q => HQ.out ⟨by have := of_decide_eq_true h; omega, q⟩)
      rw [zb] at yb
      simp only [forall_const, Bool.false_eq_true, false_implies] at yb
      first | have zn : 0 < i := z | have zn : ¬ 0 < i := by omega
      clear z
      by_cases q3 : Go.bits .and .u8 (rd l i) 128 = 0
      ·rw [if_pos q3] at hr
       have q3b : (Go.bits .and .u8 (rd l i) 128 != 0) = false := by rw [q3]; rfl
       have HR := Aside0.mk hr
       clear hr q3
       by_cases hc : c = i + 1
       ·as_aux_lemma =>
        go_wp2
        go_ret
        have hd : (l.drop (i + 1)).length = l.length - (i + 1) := List.length_drop
        have hC' := Kd.C_drop (m := i + 1) (c := c) HC.out (by omega) hlc
        rw [if_pos hc] at hC'
        have hSet := HI.out.setL _ (c - (i + 1)) (l.drop (i + 1)) (by omega) hC' HA.out
        rw [hd, show c - (i + 1) = 0 by omega] at hSet
        have hn := HNUM.out
        rw [← HR.out] at hn
        rw [hn]
        exact ⟨rfl, hSet, rdr_set HB.out HI.out.base 0 _⟩
       ·as_aux_lemma =>
        have hd : (l.drop (i + 1)).length = l.length - (i + 1) := List.length_drop
        have hC' := Kd.C_drop (m := i + 1) (c := c) HC.out (by omega) hlc
        rw [if_neg hc] at hC'
        have hadd : (some ad).map (·.add ((i + 1) * (Kd.int IntKind.u8).sz)) = some ⟨ad.block, ad.off + (i + 1), none⟩ := by
         show some (ad.add ((i + 1) * 1)) = _
         unfold Addr.add
         rw [if_neg (by omega), Nat.mul_one]
        rw [hadd] at hC'
        have hSet := HI.out.setL _ (c - (i + 1)) (l.drop (i + 1)) (by omega) hC' (by
         intro ad' h'
         obtain rfl := Option.some.inj h'
         exact HA.out ad rfl)
        rw [hd] at hSet
        have HSet := Aside0.mk hSet
        clear hd hC' hSet hadd
        go_wp2
        go_ret
        have hn := HNUM.out
        rw [← HR.out] at hn
        rw [hn]
        exact ⟨rfl, HSet.out, rdr_set HB.out HI.out.base 0 _⟩
      ·rw [if_neg q3] at hr
       have q3b : (Go.bits .and .u8 (rd l i) 128 != 0) = true := bne_iff_ne.mpr q3
       have HR := Aside0.mk hr
       clear hr q3
       as_aux_lemma =>
       go_wp2
       go_step3
       refine .inl ⟨rfl, ⟨rfl, rfl, rfl, _, i + 1, rfl, rfl, rfl, by go_num, rfl, by omega, HN.out.1, HN.out.2, ?_⟩, ?_⟩
       ·rw [show 8 - (i + 1) = f by have := HF.out; omega]
        exact HR.out
       ·simp [intOf]
        omega
 case pass2 =>
  intro a W hJ
  obtain ⟨rfl, x, u, rfl, hr⟩ := hJ.open_
  clear hJ
  have HR := Aside0.mk hr
  clear hr
  as_aux_lemma =>
  go_wp2
  rw [ExitTwo_ret]
  go_ret
  have hn := HNUM.out
  rw [← HR.out] at hn
  rw [hn]
  exact ⟨rfl, HI.out.setE x, rdr_set HB.out HI.out.base 1 _⟩
/-! R6 -/
theorem rdFrom_nn (l : List Int) : ∀ (f i : Nat) (n : Int), f + i ≤ 8 → 0 ≤ n → n ≤ 9007199254740992 → 0 ≤ (rdFrom l f i n).1 ∧ (rdFrom l f i n).1 ≤ 9007199254740992 := by
 intro f
 induction f with
 | zero => intro i n _ _ _; unfold rdFrom; exact ⟨by simp, by simp⟩
 | succ f ih =>
  intro i n hf h0 h1
  unfold rdFrom
  split
  ·exact ⟨by simp, by simp⟩
  ·split
   ·exact ⟨by simp, by simp⟩
   ·rename_i hn
    have hp := rdPut_nn h0 h1 i (by omega) (rd l i)
    have hq : rdPut n (rd l i) i ≤ 9007199254740992 := by
     have := fun h => hn (.inl h)
     omega
    split
    ·exact ⟨hp, hq⟩
    ·exact ih _ _ (by omega) hp hq
theorem rdNum_on {l : List Int} {e : Int} {m : Bool} (h : rdOk e m = true) : rdNum l e m = rdFrom l 8 0 0 := if_pos h
theorem rdNum_off {l : List Int} {e : Int} {m : Bool} (h : rdOk e m = false) : rdNum l e m = (0, l, e) := if_neg (by rw [h]; simp)
theorem rdNum_nn (l : List Int) (e : Int) (m : Bool) : 0 ≤ (rdNum l e m).1 ∧ (rdNum l e m).1 ≤ 9007199254740992 := by
 cases h : rdOk e m
 ·rw [rdNum_off h]
  exact ⟨by simp, by simp⟩
 ·rw [rdNum_on h]
  exact rdFrom_nn l 8 0 0 (by omega) (by omega) (by omega)
theorem wire_Reader_Num.calls (g : Nat) (l : List Int) (e : Int) (m : Bool) (w0 w : World) (hI : IsRdr w0 w g l e m) (hB : Below w0.heap.size w0 w) :
  Calls Try.prog 55 #[.pointer (some ⟨g, 0, none⟩)] w fun ed w' => ed = .returned (.int .i64 (rdNum l e m).1) ∧ IsRdr w0 w' g (rdNum l e m).2.1 (rdNum l e m).2.2 m ∧ Below w0.heap.size w0 w' ∧ KeepBut w w' g none := by
 cases ho : (m && (e == 0))
 ·refine (wire_Reader_Num.off g l e m w0 w hI hB ho).mono ?_
  rintro ed w' ⟨rfl, rfl⟩
  rw [rdNum_off ho]
  exact ⟨rfl, hI, hB, KeepBut.refl _ _ _⟩
 ·obtain ⟨rfl, rfl⟩ : m = true ∧ e = 0 := by simpa using ho
  rw [rdNum_on ho]
  exact wire_Reader_Num.on g l w0 w hI hB
theorem wire_Reader_Num.nil (w : World) : Calls Try.prog 55 #[.pointer none] w fun ed w' => ed = .returned (.int .i64 0) ∧ w = w' := by
 go_enter Try.func55, Try.ntmps55
 go_wp2
 refine wp_scope_two 1 0 (fun _ _ => False) (fun _ _ => False) (fun _ _ => 0) (by rfl) (by rfl) ?_ (fun _ _ h => h.elim) (fun _ _ h => h.elim)
 intro _
 go_wp2_with fail
 refine (wire_Reader_ok.nil w).mono ?_
 rintro ed w' ⟨rfl, rfl⟩
 go_wp2
 rw [ExitTwo_ret]
 go_ret
 exact ⟨rfl, rfl⟩
/-- A reader's number that may not be above most. -/
def rdUpto (l : List Int) (e : Int) (m : Bool) (most : Int) : Int × List Int × Int :=
 if (rdNum l e m).1 > most then (0, (rdNum l e m).2.1, if rdOk (rdNum l e m).2.2 m then 21 else (rdNum l e m).2.2) else rdNum l e m
theorem rdUpto_pos {l : List Int} {e : Int} {m : Bool} {most : Int} (h : (rdNum l e m).1 > most) : rdUpto l e m most = (0, (rdNum l e m).2.1, if rdOk (rdNum l e m).2.2 m then 21 else (rdNum l e m).2.2) := if_pos h
theorem rdUpto_neg {l : List Int} {e : Int} {m : Bool} {most : Int} (h : ¬ (rdNum l e m).1 > most) : rdUpto l e m most = rdNum l e m := if_neg h
theorem rdUpto_nn (l : List Int) (e : Int) (m : Bool) (most : Int) : 0 ≤ (rdUpto l e m most).1 ∧ (rdUpto l e m most).1 ≤ 9007199254740992 := by
 by_cases h : (rdNum l e m).1 > most
 ·rw [rdUpto_pos h]
  exact ⟨by simp, by simp⟩
 ·rw [rdUpto_neg h]
  exact rdNum_nn l e m
set_option maxHeartbeats 1000000 in
set_option maxRecDepth 100000 in
theorem wire_Reader_Upto.calls (g : Nat) (l : List Int) (e : Int) (m : Bool) (most : Int) (w0 w : World) (hI : IsRdr w0 w g l e m) (hB : Below w0.heap.size w0 w) :
  Calls Try.prog 62 #[.pointer (some ⟨g, 0, none⟩), .int .i64 most] w fun ed w' => ed = .returned (.int .i64 (rdUpto l e m most).1) ∧ IsRdr w0 w' g (rdUpto l e m most).2.1 (rdUpto l e m most).2.2 m ∧ Below w0.heap.size w0 w' ∧ KeepBut w w' g none := by
 have HN := Aside0.mk (wire_Reader_Num.calls g l e m w0 w hI hB)
 clear hI hB
 have hz : Hid (rdUpto l e m most = if (rdNum l e m).1 > most then (0, (rdNum l e m).2.1, if rdOk (rdNum l e m).2.2 m then 21 else (rdNum l e m).2.2) else rdNum l e m) := rfl
 generalize rdUpto l e m most = R at hz
 generalize rdNum l e m = N at hz HN
 obtain ⟨n, l', e'⟩ := N
 dsimp only at hz HN
 have hF := fun w1 h1 h2 => wire_Reader_Fail.calls g l' e' m 21 w0 w1 h1 h2
 generalize (if rdOk e' m = true then 21 else e') = y at hz hF
 have HFA := Aside0.mk hF
 clear hF
 by_cases c : n > most
 ·have hr : R = _ := hz.out
  rw [if_pos c] at hr
  subst hr
  have cb : decide (most < n) = true := decide_eq_true c
  clear hz c
  go_enter Try.func62, Try.ntmps62
  go_wp2_with fail
  go_at_call 55
  refine HN.out.mono ?_
  rintro ed w1 ⟨rfl, h1, h2, h3⟩
  have HK := Aside0.mk h3
  have HF := Aside0.mk (HFA.out w1 h1 h2)
  clear h1 h2 h3
  go_wp2_with fail
  go_at_call 57
  refine HF.out.mono ?_
  rintro ed w2 ⟨rfl, h1, h2, h3⟩
  have HR := Aside0.mk (And.intro h1 (And.intro h2 (HK.out.trans h3 (.inl rfl))))
  clear h1 h2 h3
  go_wp2
  go_ret
  exact ⟨rfl, HR.out⟩
 ·have hr : R = _ := hz.out
  rw [if_neg c] at hr
  subst hr
  have cb : decide (most < n) = false := decide_eq_false c
  clear hz c
  go_enter Try.func62, Try.ntmps62
  go_wp2_with fail
  go_at_call 55
  refine HN.out.mono ?_
  rintro ed w1 ⟨rfl, h1, h2, h3⟩
  have HR := Aside0.mk (And.intro h1 (And.intro h2 h3))
  clear h1 h2 h3
  go_wp2
  go_ret
  exact ⟨rfl, HR.out⟩
theorem wire_Reader_Upto.nil (most : Int) (w : World) : Calls Try.prog 62 #[.pointer none, .int .i64 most] w fun ed w' => ed = .returned (.int .i64 0) ∧ w = w' := by
 by_cases c : 0 > most
 ·have cb : decide (most < 0) = true := decide_eq_true c
  clear c
  go_enter Try.func62, Try.ntmps62
  go_wp2_with (first | (go_at_call 55; refine (wire_Reader_Num.nil _).mono ?_; rintro ed w' ⟨rfl, rfl⟩) | (go_at_call 57; refine (wire_Reader_Fail.nil _ _).mono ?_; rintro ed w' ⟨rfl, rfl⟩))
  go_ret
  exact ⟨rfl, rfl⟩
 ·have cb : decide (most < 0) = false := decide_eq_false c
  clear c
  go_enter Try.func62, Try.ntmps62
  go_wp2_with (first | (go_at_call 55; refine (wire_Reader_Num.nil _).mono ?_; rintro ed w' ⟨rfl, rfl⟩) | (go_at_call 57; refine (wire_Reader_Fail.nil _ _).mono ?_; rintro ed w' ⟨rfl, rfl⟩))
  go_ret
  exact ⟨rfl, rfl⟩
/-! R7 -/
/-- A reader's text. -/
def rdText (l : List Int) (e : Int) (m : Bool) (most : Int) : List Int × List Int × Int :=
 if rdOk (rdUpto l e m most).2.2 m = false then ([], (rdUpto l e m most).2.1, (rdUpto l e m most).2.2)
 else if (rdUpto l e m most).1 > ((rdUpto l e m most).2.1.length : Int) then ([], (rdUpto l e m most).2.1, 20)
 else ((rdUpto l e m most).2.1.take (rdUpto l e m most).1.toNat, (rdUpto l e m most).2.1.drop (rdUpto l e m most).1.toNat, (rdUpto l e m most).2.2)
theorem rdText_off {l : List Int} {e : Int} {m : Bool} {most : Int} (h : rdOk (rdUpto l e m most).2.2 m = false) : rdText l e m most = ([], (rdUpto l e m most).2.1, (rdUpto l e m most).2.2) := if_pos h
theorem rdText_end {l : List Int} {e : Int} {m : Bool} {most : Int} (h : rdOk (rdUpto l e m most).2.2 m = true) (c : (rdUpto l e m most).1 > ((rdUpto l e m most).2.1.length : Int)) : rdText l e m most = ([], (rdUpto l e m most).2.1, 20) := (if_neg (by rw [h]; simp)).trans (if_pos c)
theorem rdText_on {l : List Int} {e : Int} {m : Bool} {most : Int} (h : rdOk (rdUpto l e m most).2.2 m = true) (c : ¬ (rdUpto l e m most).1 > ((rdUpto l e m most).2.1.length : Int)) : rdText l e m most = ((rdUpto l e m most).2.1.take (rdUpto l e m most).1.toNat, (rdUpto l e m most).2.1.drop (rdUpto l e m most).1.toNat, (rdUpto l e m most).2.2) := (if_neg (by rw [h]; simp)).trans (if_neg c)
theorem str_nil : strOfNums [] = { data := #[] } := rfl
set_option maxHeartbeats 1000000 in
set_option maxRecDepth 100000 in
theorem wire_Reader_Text.calls (g : Nat) (l : List Int) (e : Int) (m : Bool) (most : Int) (w0 w : World) (hI : IsRdr w0 w g l e m) (hB : Below w0.heap.size w0 w) :
  Calls Try.prog 75 #[.pointer (some ⟨g, 0, none⟩), .int .i64 most] w fun ed w' => ed = .returned (.string (strOfNums (rdText l e m most).1)) ∧ IsRdr w0 w' g (rdText l e m most).2.1 (rdText l e m most).2.2 m ∧ Below w0.heap.size w0 w' ∧ KeepBut w w' g none := by
 have HN := Aside0.mk (wire_Reader_Upto.calls g l e m most w0 w hI hB)
 clear hI hB
 obtain ⟨hn0, hn1⟩ := rdUpto_nn l e m most
 have h1 := @rdText_off l e m most
 have h2 := @rdText_end l e m most
 have h3 := @rdText_on l e m most
 generalize rdText l e m most = R at h1 h2 h3
 generalize rdUpto l e m most = N at h1 h2 h3 HN hn0 hn1
 obtain ⟨n, l', e'⟩ := N
 dsimp only at h1 h2 h3 HN hn0 hn1
 cases ho : rdOk e' m
 ·obtain rfl := h1 ho
  clear h1 h2 h3
  have HO := Aside0.mk ho
  clear ho
  go_enter Try.func75, Try.ntmps75
  go_wp2_with fail
  go_at_call 62
  refine HN.out.mono ?_
  rintro ed w1 ⟨rfl, h1, h2, h3⟩
  have hok := wire_Reader_ok.calls g l' e' m w0 w1 h1
  rw [show (m && (e' == 0)) = _ from HO.out] at hok
  have HR := Aside0.mk (And.intro h1 (And.intro h2 h3))
  have HK := Aside0.mk hok
  clear h1 h2 h3 hok
  go_wp2_with fail
  go_at_call 61
  refine HK.out.mono ?_
  rintro ed w' ⟨rfl, rfl⟩
  clear HK
  go_wp2
  go_ret
  exact ⟨rfl, HR.out⟩
 ·by_cases c : n > (l'.length : Int)
  ·obtain rfl := h2 ho c
   have cb : decide ((l'.length : Int) < n) = true := decide_eq_true c
   have HO := Aside0.mk ho
   clear h1 h2 h3 ho c
   go_enter Try.func75, Try.ntmps75
   go_wp2_with fail
   go_at_call 62
   refine HN.out.mono ?_
   rintro ed w1 ⟨rfl, h1, h2, h3⟩
   have hok := wire_Reader_ok.calls g l' e' m w0 w1 h1
   rw [show (m && (e' == 0)) = _ from HO.out] at hok
   have HK := Aside0.mk hok
   obtain ⟨A, c, c0, c1, c2, f0, f1, f2, hlc, hC, hA⟩ := h1.open_
   have HS := Aside0.mk (rdr_set h2 h1.base 1 (.int .i64 20))
   have HE := Aside0.mk (h1.setE 20)
   have H3 := Aside0.mk h3
   clear h1 h2 h3 hok hC hA
   go_wp2_with fail
   go_at_call 61
   refine HK.out.mono ?_
   rintro ed w' ⟨rfl, rfl⟩
   clear HK
   go_wp2
   go_ret
   exact ⟨rfl, HE.out, HS.out.1, H3.out.trans HS.out.2 (.inl rfl)⟩
  ·obtain rfl := h3 ho c
   have cb : decide ((l'.length : Int) < n) = false := decide_eq_false c
   have HO := Aside0.mk ho
   have hnl : n ≤ (l'.length : Int) := by omega
   clear h1 h2 h3 ho c
   go_enter Try.func75, Try.ntmps75
   go_wp2_with fail
   go_at_call 62
   refine HN.out.mono ?_
   rintro ed w1 ⟨rfl, h1, h2, h3⟩
   have hok := wire_Reader_ok.calls g l' e' m w0 w1 h1
   rw [show (m && (e' == 0)) = _ from HO.out] at hok
   have HK := Aside0.mk hok
   obtain ⟨A, c, c0, c1, c2, f0, f1, f2, hlc, hC, hA⟩ := h1.open_
   have hto := bytes_to A l'.length c n hn0 hnl hlc
   have ht : (l'.take n.toNat).length = n.toNat := by rw [List.length_take]; omega
   have hCt := Kd.C_take (m := n.toNat) hC (by omega)
   rw [ht] at hCt
   have hcv : ∀ W : World, W = w1 → (convert 41 9 (.slice A n.toNat c)).run Try.prog W = .ok (.string (strOfNums (l'.take n.toNat))) W := fun W e => by
    subst e
    exact Kd.C_string Try.underlying41 Try.underlying5 Try.underlying9 hCt
   have hcv := hcv w1 rfl
   have hd : (l'.drop n.toNat).length = l'.length - n.toNat := List.length_drop
   obtain ⟨B, hBd⟩ : ∃ B, (if c = n.toNat then A else A.map (·.add (n.toNat * 1))) = B := ⟨_, rfl⟩
   have hfrom : ∀ W : World, (Instr.slice 41 (.slice A l'.length c) (some (.int .i64 n)) none none).run Try.prog W = .ok (.slice B (l'.length - n.toNat) (c - n.toNat)) W := fun W => by rw [← hBd]; exact bytes_from A l'.length c n hn0 hnl W
   have hC' : (Kd.int .u8).C w1 B (l'.drop n.toNat).length (l'.drop n.toNat) := by rw [← hBd]; exact Kd.C_drop (m := n.toNat) (c := c) hC (by omega) hlc
   have hSet := h1.setL B (c - n.toNat) (l'.drop n.toNat) (by omega) hC' (by
    intro ad' h'
    rw [← hBd] at h'
    split at h'
    ·exact hA ad' h'
    ·cases A with
     | none => cases h'
     | some ad =>
      obtain rfl := Option.some.inj h'
      have hx : (ad.add (n.toNat * 1)).block = ad.block := by unfold Addr.add; split <;> rfl
      rw [hx]
      exact hA ad rfl)
   have HS := rdr_set h2 h1.base 0 (.slice B (l'.drop n.toNat).length (c - n.toNat))
   rw [hd] at hSet HS
   have HS := Aside0.mk HS
   have HE := Aside0.mk hSet
   have H3 := Aside0.mk h3
   clear h1 h2 h3 hok hC hA hCt hC' hSet hd ht hBd
   go_wp2_with fail
   go_at_call 61
   refine HK.out.mono ?_
   rintro ed w' ⟨rfl, rfl⟩
   clear HK
   go_wp2
   go_ret
   exact ⟨rfl, HE.out, HS.out.1, H3.out.trans HS.out.2 (.inl rfl)⟩
theorem wire_Reader_Text.nil (most : Int) (w : World) : Calls Try.prog 75 #[.pointer none, .int .i64 most] w fun ed w' => ed = .returned (.string { data := #[] }) ∧ w = w' := by
 go_enter Try.func75, Try.ntmps75
 go_wp2_with (first | (go_at_call 62; refine (wire_Reader_Upto.nil _ _).mono ?_; rintro ed w' ⟨rfl, rfl⟩) | (go_at_call 61; refine (wire_Reader_ok.nil _).mono ?_; rintro ed w' ⟨rfl, rfl⟩))
 go_ret
 exact ⟨rfl, rfl⟩
/-! R8 -/
section
variable (g : Nat) (l : List Int) (e : Int) (w0 w : World) (hI : IsRdr w0 w g l e false)
include hI
theorem wire_Reader_Fail.off (x : Int) : Calls Try.prog 57 #[.pointer (some ⟨g, 0, none⟩), .int .i64 x] w fun ed w' => ed = .returned (.tuple #[]) ∧ w = w' := by
 have HI := Aside0.mk hI
 clear hI
 go_enter Try.func57, Try.ntmps57
 go_wp2_with fail
 refine (wire_Reader_ok.calls g l e false w0 w HI.out).mono ?_
 rintro ed w' ⟨rfl, rfl⟩
 go_wp2
 exact bodyPost_end (results_none rfl _ _ _) rfl ⟨rfl, rfl⟩
theorem wire_Reader_Upto.off (hB : Below w0.heap.size w0 w) (most : Int) : Calls Try.prog 62 #[.pointer (some ⟨g, 0, none⟩), .int .i64 most] w fun ed w' => ed = .returned (.int .i64 0) ∧ w = w' := by
 have HN := Aside0.mk (wire_Reader_Num.off g l e false w0 w hI hB rfl)
 have HF := Aside0.mk (wire_Reader_Fail.off g l e w0 w hI 21)
 clear hI hB
 by_cases c : 0 > most
 ·have cb : decide (most < 0) = true := decide_eq_true c
  clear c
  go_enter Try.func62, Try.ntmps62
  go_wp2_with (first | (go_at_call 55; refine HN.out.mono ?_; rintro ed w' ⟨rfl, rfl⟩) | (go_at_call 57; refine HF.out.mono ?_; rintro ed w' ⟨rfl, rfl⟩))
  go_ret
  exact ⟨rfl, rfl⟩
 ·have cb : decide (most < 0) = false := decide_eq_false c
  clear c
  go_enter Try.func62, Try.ntmps62
  go_wp2_with (first | (go_at_call 55; refine HN.out.mono ?_; rintro ed w' ⟨rfl, rfl⟩) | (go_at_call 57; refine HF.out.mono ?_; rintro ed w' ⟨rfl, rfl⟩))
  go_ret
  exact ⟨rfl, rfl⟩
theorem wire_Reader_Text.off (hB : Below w0.heap.size w0 w) (most : Int) : Calls Try.prog 75 #[.pointer (some ⟨g, 0, none⟩), .int .i64 most] w fun ed w' => ed = .returned (.string { data := #[] }) ∧ w = w' := by
 have HN := Aside0.mk (wire_Reader_Upto.off g l e w0 w hI hB most)
 have HF := Aside0.mk (wire_Reader_ok.calls g l e false w0 w hI)
 clear hI hB
 go_enter Try.func75, Try.ntmps75
 go_wp2_with (first | (go_at_call 62; refine HN.out.mono ?_; rintro ed w' ⟨rfl, rfl⟩) | (go_at_call 61; refine HF.out.mono ?_; rintro ed w' ⟨rfl, rfl⟩))
 go_ret
 exact ⟨rfl, rfl⟩
end
/-- No reader, or one that nobody made. -/
def Dead (w0 : World) (p : Option Addr) (w : World) : Prop := Below w0.heap.size w0 w ∧ (p = none ∨ ∃ g, p = some ⟨g, 0, none⟩ ∧ IsRdr w0 w g [] 0 false)
namespace Dead
variable {w0 w w' : World} {p : Option Addr} (h : Dead w0 p w)
include h
theorem below (hb : Below w.heap.size w w') : Dead w0 p w' := by
 obtain ⟨h1, h2⟩ := h
 refine ⟨below_step h1 hb, ?_⟩
 rcases h2 with rfl | ⟨g, rfl, h⟩
 ·exact .inl rfl
 ·exact .inr ⟨g, rfl, h.below hb⟩
theorem drew : Dead w0 p w.drew := h.below (below_drew (Below.refl _ _))
theorem Fail (x : Int) : Calls Try.prog 57 #[.pointer p, .int .i64 x] w fun ed w' => ed = .returned (.tuple #[]) ∧ w = w' := by
 rcases h.2 with rfl | ⟨g, rfl, hI⟩
 ·exact wire_Reader_Fail.nil x w
 ·exact wire_Reader_Fail.off g _ _ w0 w hI x
theorem Num : Calls Try.prog 55 #[.pointer p] w fun ed w' => ed = .returned (.int .i64 0) ∧ w = w' := by
 rcases h.2 with rfl | ⟨g, rfl, hI⟩
 ·exact wire_Reader_Num.nil w
 ·exact wire_Reader_Num.off g _ _ false w0 w hI h.1 rfl
theorem Upto (most : Int) : Calls Try.prog 62 #[.pointer p, .int .i64 most] w fun ed w' => ed = .returned (.int .i64 0) ∧ w = w' := by
 rcases h.2 with rfl | ⟨g, rfl, hI⟩
 ·exact wire_Reader_Upto.nil most w
 ·exact wire_Reader_Upto.off g _ _ w0 w hI h.1 most
theorem Text (most : Int) : Calls Try.prog 75 #[.pointer p, .int .i64 most] w fun ed w' => ed = .returned (.string { data := #[] }) ∧ w = w' := by
 rcases h.2 with rfl | ⟨g, rfl, hI⟩
 ·exact wire_Reader_Text.nil most w
 ·exact wire_Reader_Text.off g _ _ w0 w hI h.1 most
theorem Left : Calls Try.prog 35 #[.pointer p] w fun ed w' => ed = .returned (.int .i64 0) ∧ w = w' := by
 rcases h.2 with rfl | ⟨g, rfl, hI⟩
 ·exact wire_Reader_Left.nil w
 ·exact wire_Reader_Left.calls g _ _ false w0 w hI
theorem Err : Calls Try.prog 34 #[.pointer p] w fun ed w' => ed = .returned (.int .i64 1) ∧ w = w' := by
 rcases h.2 with rfl | ⟨g, rfl, hI⟩
 ·exact wire_Reader_Err.nil w
 ·exact wire_Reader_Err.calls g _ _ false w0 w hI
end Dead
/-- A reader's error behind 'taken'. -/
def tkE (ok : Bool) (e : Int) : Int := if ok then e else if e = 0 then 21 else e
theorem keep_new {w W W2 : World} {g g6 : Nat} (hk : KeepBut w W g none) (hs : KeepBut W W2 g6 none) (h6 : w.heap.size ≤ g6) : KeepBut w W2 g none :=
 ⟨Nat.le_trans hk.1 hs.1, fun i hi hne hr => (hs.2 i (Nat.lt_of_lt_of_le hi hk.1) (by omega) (by simp)).trans (hk.2 i hi hne hr)⟩
theorem IsRdr.drew {w0 w : World} {g : Nat} {l : List Int} {e : Int} {m : Bool} (h : IsRdr w0 w g l e m) : IsRdr w0 w.drew g l e m := h.below (below_drew (Below.refl _ _))
theorem IsRdr.at_ne {w0 w : World} {g : Nat} {l : List Int} {e : Int} {m : Bool} (h : IsRdr w0 w g l e m) {g' : Nat} {cs : Array Value} {t : TypeId} (hg : w.heap[g']? = some (.cells cs t (0, 0))) (ht : t ≠ 87) : g' ≠ g := by
 obtain ⟨A, c, q1, _⟩ := h.blk
 exact blk_ne hg q1 ht
/-- Bytes in a block of bytes. -/
structure TB (w : World) (A : Option Addr) (n : Nat) (l : List Int) : Prop where
 c : (Kd.int .u8).C w A n l
 t : ∀ ad, A = some ad → ∃ (cells : Array Value) (fz : Nat × Nat), w.heap[ad.block]? = some (.cells cells 5 fz)
theorem TB.move {w w' : World} {A : Option Addr} {n : Nat} {l : List Int} (h : TB w A n l) (h2 : ∀ (k : Nat) (cells : Array Value) (fz : Nat × Nat), w.heap[k]? = some (.cells cells 5 fz) → w'.heap[k]? = w.heap[k]?) : TB w' A n l :=
 ⟨C_block h.c fun ad hA => by
  obtain ⟨cells, fz, hc⟩ := h.t ad hA
  exact h2 _ _ _ hc, fun ad hA => by
  obtain ⟨cells, fz, hc⟩ := h.t ad hA
  exact ⟨cells, fz, (h2 _ _ _ hc).trans hc⟩⟩
theorem TB.below {w w' : World} {A : Option Addr} {n : Nat} {l : List Int} (h : TB w A n l) (hb : Below w.heap.size w w') : TB w' A n l := h.move fun k _ _ hk => hb.block k (heap_lt hk)
theorem TB.drew {w : World} {A : Option Addr} {n : Nat} {l : List Int} (h : TB w A n l) : TB w.drew A n l := h.below (below_drew (Below.refl _ _))
theorem TB.keep {w w' : World} {A : Option Addr} {n : Nat} {l : List Int} (h : TB w A n l) {g' : Nat} (hk : KeepBut w w' g' none) {cells' : Array Value} {t : TypeId} (hg : w.heap[g']? = some (.cells cells' t (0, 0))) (ht : t ≠ 5) : TB w' A n l :=
 h.move fun k cells fz hc => hk.2 k (heap_lt hc) (by
  rintro rfl
  rw [hg] at hc
  injection hc with hc
  injection hc with _ hc
  exact ht hc) (by simp)
theorem IsRdr.blk1 {w0 w : World} {g : Nat} {l : List Int} {e : Int} {m : Bool} (h : IsRdr w0 w g l e m) : ∃ cs, w.heap[g]? = some (.cells cs 87 (0, 0)) := by
 obtain ⟨A, c, q, _⟩ := h.blk
 exact ⟨_, q⟩

section
open Go.RowKit Go.Proofs.YtampppdjfbabiaaW.PrintWords Go.Proofs.YtampppdjfbabiaaW.PrintLast Go.Proofs.YtampppdjfbabiaaW.PrintMore
attribute [local go_sem] max2_int min2_int max_two min_two max_three min_three max_four min_four   -- for this text's walks alone
set_option linter.unusedVariables false
set_option linter.unusedSimpArgs false

--OWN Derived.RegionTactic,Derived.BigRegion
/-! ### entry_TakeChain: function 37 -/
/-- The first numbers of a sequence. -/
def firsts (N : Nat → Int) : Nat → List Int
 | 0 => []
 | j + 1 => firsts N j ++ [N j]
theorem IsRdr.over {w0 w w1 : World} {g : Nat} {l : List Int} {e : Int} {m : Bool} (h : IsRdr w0 w g l e m) {v : Value} {base : Nat} {ok : Nat → Prop} {xs : List Int} (hr : Kd.R (Kd.int .i64) 3 w base ok v xs) (hg : w.grownBy w1 v.ownBlock) : IsRdr w0 w1 g l e m := by
 obtain ⟨hb, A, c, hblk, hlc, hC, hA⟩ := h
 have mv : ∀ (k : Nat) (cells : Array Value) (t : TypeId) (fz : Nat × Nat), w.heap[k]? = some (.cells cells t fz) → t ≠ 3 → w1.heap[k]? = w.heap[k]? := fun k cells t fz hk ht => hg.block k (heap_lt hk) (fun e => by
  obtain ⟨cs, hx⟩ := Kd.R_typed hr k e.symm
  rw [hx] at hk
  injection hk with hk
  injection hk with _ hk
  exact ht hk.symm)
 refine ⟨hb, A, c, (mv g _ _ _ hblk (by decide)).trans hblk, hlc, C_block hC (fun ad hA' => ?_), fun ad hA' => ?_⟩
 ·obtain ⟨cells, fz, hc⟩ := hA ad hA'
  exact mv _ _ _ _ hc (by decide)
 ·obtain ⟨cells, fz, hc⟩ := hA ad hA'
  exact ⟨cells, fz, (mv _ _ _ _ hc (by decide)).trans hc⟩
theorem below_mid {a w w1 : World} {B D : Nat} (h : Below B a w) (hD : B ≤ D) (hb : Below D w w1) : Below B a w1 := h.trans ⟨hb.os, hb.tape, hb.output, hb.size, fun k hk => hb.block k (by omega)⟩
theorem keep_mid {w w1 w2 : World} {g : Nat} (h : KeepBut w w1 g none) (hb : Below w.heap.size w1 w2) : KeepBut w w2 g none := ⟨Nat.le_trans h.1 hb.size, fun i hi hne hr => (hb.block i hi).trans (h.2 i hi hne hr)⟩
theorem firsts_len (N : Nat → Int) : ∀ j, (firsts N j).length = j
 | 0 => rfl
 | j + 1 => by rw [firsts, List.length_append, firsts_len N j]; rfl
set_option maxHeartbeats 8000000 in
set_option maxRecDepth 100000 in
theorem entry_TakeChain.calls (k g : Nat) (l : List Int) (e : Int) (n : Nat) (L : Nat → List Int) (E N : Nat → Int) (h0 : rdUpto l e true 8 = ((n : Int), L 0, E 0)) (hS : ∀ i, i < n → rdNum (L i) (E i) true = (N i, L (i + 1), E (i + 1))) (hn : n ≤ 8) (ok : Bool) (hc : entry_RightChain.f (firsts N n) = some ok) (w0 w : World) (hI : IsRdr w0 w g l e true) (hB : Below w0.heap.size w0 w) :
  Calls Try.prog 37 #[.pointer (some ⟨g, 0, none⟩)] w fun ed w' => ∃ v0_ : Value, ed = .returned v0_ ∧ Kd.R (Kd.int .i64) 3 w' w.heap.size (fun _ => True) v0_ (if tkE ok (E n) = 0 then firsts N n else []) ∧ IsRdr w0 w' g (L n) (tkE ok (E n)) true ∧ Below w0.heap.size w0 w' ∧ KeepBut w w' g none := by
 have HI := Aside0.mk hI
 have HB := Aside0.mk hB
 have HSZ := Aside0.mk hB.size
 have HK := Aside0.mk (KeepBut.refl w g none)
 have HS := Aside0.mk hS
 have HCH := Aside0.mk hc
 have HGL := Aside0.mk (show g < w.heap.size by
  obtain ⟨cs, hcs⟩ := hI.blk1
  exact blk_lt hcs)
 have H0 := Aside0.mk h0
 obtain ⟨z, hz⟩ : ∃ z, z = tkE ok (E n) := ⟨_, rfl⟩
 rw [← hz]
 have HZ := Aside0.mk hz
 obtain ⟨RL, hrl⟩ : ∃ x : List Int, x = (if z = 0 then firsts N n else []) := ⟨_, rfl⟩
 rw [← hrl]
 have HRL := Aside0.mk hrl
 clear hI hB hS hc h0 hz hrl
 go_enter Try.func37, Try.ntmps37
 go_wp2_with fail
 have hu := wire_Reader_Upto.calls g l e true 8 w0 _ HI.out HB.out
 rw [H0.out] at hu
 dsimp only at hu
 refine hu.mono ?_
 clear hu
 rintro eu wu ⟨rfl, hi, hb, hk⟩
 replace HK := Aside0.mk (HK.out.trans hk (.inl rfl))
 replace HI := Aside0.mk hi
 replace HB := Aside0.mk hb
 clear hi hb hk
 go_wp2_with fail
 go_loopw [6, 3] (fun i b wr => ∃ j : Nat, j ≤ n ∧ i = .int .i64 j ∧ Aside0 (Kd.R (Kd.int .i64) 3 wr w.heap.size (fun q => w.heap.size ≤ q) b (firsts N j)) ∧ Aside0 (IsRdr w0 wr g (L j) (E j) true) ∧ Aside0 (Below w0.heap.size w0 wr) ∧ Aside0 (KeepBut w wr g none)) (fun i _ _ => n - (intOf i).toNat)
 case atStart => exact ⟨0, by omega, rfl, ⟨Kd.R_nil _ _ _ _ _⟩, HI, HB, HK⟩
 case round =>
  obtain ⟨j, hj, rfl, HBR, HIJ, HBJ, HKJ⟩ := hrel
  clear HI HB HK
  have HI := HIJ
  have HB := HBJ
  have HK := HKJ
  clear HIJ HBJ HKJ
  by_cases hlt : j < n
  ·have hlt2 : decide ((j : Int) < n) = true := decide_eq_true (by omega)
   have hst := HS.out j hlt
   have hfs : firsts N (j + 1) = firsts N j ++ [N j] := rfl
   have hfl := firsts_len N j
   generalize hLF : firsts N j = LF at HBR hfs hfl
   generalize N j = nj at hst hfs
   have HLA := Aside0.mk (show (LF.length + [nj].length) * 8 ≤ 140737488355328 by rw [hfl]; simp only [List.length_cons, List.length_nil]; omega)
   have HST := Aside0.mk hst
   clear hst hfl
   obtain ⟨A0_, c0_, rfl⟩ := Kd.R_slice HBR.out
   go_wp2_with fail
   have hq := wire_Reader_Num.calls g (L j) (E j) true w0 _ HI.out HB.out
   rw [HST.out] at hq
   dsimp only at hq
   refine hq.mono ?_
   clear hq
   rintro ed0 wr0 ⟨rfl, hi, hbx, hk⟩
   replace HBR := Aside0.mk (Kd.R_keep HBR.out hk (fun q hq => by have := HGL.out; omega))
   replace HK := Aside0.mk (HK.out.trans hk (.inl rfl))
   replace HI := Aside0.mk hi
   replace HB := Aside0.mk hbx
   clear hi hbx hk
   have HSW := Aside0.mk HK.out.1
   go_wp2_with (first | ((with_reducible refine gate_dst (N := 11) rfl ?_); refine Kd.R_lit (Kd.int .i64) _ 3 ?hg (N := 11) ?hd (xs := ([nj] : List Int)) (inner := [.int .i64 nj]) (ok := fun _ => True) (okp := fun _ => True) ?hr ?hp (fun _ hk => hk) trivial (Below.refl _ _) (Nat.le_refl _) (by simp) ?_; (case hd => rfl); (case hg => rfl); (case hr => first | (go_simp; done) | (go_simp; rfl)); (case hp => exact (Reps.one (show Kd.M (Kd.int .i64) _ _ _ nj [.int .i64 nj] from rfl) (Reps.none _ _))); intro vl wl hol hb hg_ hnew_; clear hg_ hnew_; replace HBR := Aside0.mk (Kd.R_below HBR.out hb); replace HI := Aside0.mk (HI.out.below hb); replace HSW := Aside0.mk (Nat.le_trans HSW.out hb.size); replace HK := Aside0.mk (HK.out.trans (KeepBut.of_below hb g none) (.inl rfl)); replace HB := Aside0.mk (below_then HB.out HB.out.size hb); obtain ⟨Al, cl, rfl⟩ := Kd.R_slice hol; have HV := Aside0.mk (Kd.R_reads' hol).2.2; clear hol hb) | ((with_reducible refine gate_builtin (b := .append) (xs := #[.tmp 8, .tmp 11]) rfl ?_); at_builtin; refine Kd.R_append_rows (Kd.int .i64) (w0 := wl) w.heap.size rfl (.tmp 8) (.tmp 11) 26 3 (.int .i64 0) 8 rfl Try.underlying26 info3 rfl (by decide) (by omega) _ LF [nj] _ _ _ (fun q => w.heap.size ≤ q) (fun _ => False) rfl rfl ?aO ?aR (fun _ _ h => h) (fun _ h => h.elim) ?aF ?aB ?aS ?aL ?_; (case aR => exact HV.out); (case aB => exact Below.refl _ _); (case aF => exact (fun q h => Nat.le_trans HSW.out h)); (case aO => exact HBR.out); (case aS => exact HSW.out); (case aL => exact HLA.out); intro v3 w3 ho hb hg hat; have HR3 := Aside0.mk ho; have HI3 := Aside0.mk (IsRdr.over HI.out HBR.out hg); have HB3 := Aside0.mk (below_mid HB.out HSZ.out hb); have HK3 := Aside0.mk (keep_mid HK.out hb); clear ho hb hg hat) | fail)
   go_roundw
   case rel => exact ⟨j + 1, by omega, by first | rfl | go_num, ⟨by rw [hfs]; exact HR3.out⟩, HI3, HB3, HK3⟩
   case measure => simp [intOf]; omega
  ·obtain rfl : j = n := by omega
   have hlt2 : decide (((j : Nat) : Int) < j) = false := decide_eq_false (by omega)
   obtain ⟨A0_, c0_, rfl⟩ := Kd.R_slice HBR.out
   go_wp2_with fail
   refine (entry_RightChain.calls A0_ c0_ (firsts N j) ok _ (Kd.R_reads' HBR.out).2.2 (Kd.R_reads' HBR.out).2.1 HCH.out).mono ?_
   rintro e wc ⟨rfl, hb⟩
   replace HBR := Aside0.mk (Kd.R_below HBR.out hb)
   replace HI := Aside0.mk (HI.out.below hb)
   replace HK := Aside0.mk (HK.out.trans (KeepBut.of_below hb g none) (.inl rfl))
   replace HB := Aside0.mk (below_then HB.out HB.out.size hb)
   clear hb
   have fin : ∀ (wf : World) (a_ : Aside0 (IsRdr w0 wf g (L j) z true)) (b_ : Aside0 (Below w0.heap.size w0 wf)) (c_ : Aside0 (KeepBut w wf g none)) (d_ : Aside0 (Kd.R (Kd.int .i64) 3 wf w.heap.size (fun q => w.heap.size ≤ q) (.slice A0_ (firsts N j).length c0_) (firsts N j))), True := fun _ _ _ _ _ => trivial
   clear fin
   cases ok
   ·go_wp2_with fail
    refine (wire_Reader_Fail.calls g (L j) (E j) true 21 w0 _ HI.out HB.out).mono ?_
    rintro e1 wF ⟨rfl, hi, hbx, hk⟩
    replace HK := Aside0.mk (HK.out.trans hk (.inl rfl))
    replace HB := Aside0.mk hbx
    have hz2 : (if rdOk (E j) true = true then (21 : Int) else E j) = z := by
     rw [HZ.out]
     unfold tkE rdOk
     by_cases q : E j = 0
     ·simp [q]
     ·simp [q]
    rw [hz2] at hi
    replace HI := Aside0.mk hi
    have hz0 : z ≠ 0 := by
     rw [HZ.out]
     unfold tkE
     by_cases q : E j = 0
     ·simp [q]
     ·simp [q]
    have HZ0 := Aside0.mk hz0
    clear hi hbx hk hz2 hz0
    go_wp2_with fail
    refine (wire_Reader_Err.calls g (L j) z true w0 _ HI.out).mono ?_
    rintro e2 wE ⟨rfl, rfl⟩
    rw [if_pos (rfl : true = true)]
    have hzb : (z != 0) = true := bne_iff_ne.mpr HZ0.out
    go_wp2
    go_ret
    exact ⟨_, rfl, by rw [HRL.out, if_neg HZ0.out]; exact Kd.R_nil _ _ _ _ _, HI.out, HB.out, HK.out⟩
   ·have hz2 : z = E j := HZ.out
    rw [← hz2] at HI
    clear hz2
    go_wp2_with fail
    refine (wire_Reader_Err.calls g (L j) z true w0 _ HI.out).mono ?_
    rintro e2 wE ⟨rfl, rfl⟩
    rw [if_pos (rfl : true = true)]
    by_cases hz0 : z = 0
    ·have hzb : (z != 0) = false := by rw [hz0]; rfl
     have HZ0 := Aside0.mk hz0
     clear hz0
     go_wp2
     go_ret
     exact ⟨_, rfl, by rw [HRL.out, if_pos HZ0.out]; exact Kd.R_mono HBR.out (fun _ _ => trivial), HI.out, HB.out, HK.out⟩
    ·have hzb : (z != 0) = true := bne_iff_ne.mpr hz0
     have HZ0 := Aside0.mk hz0
     clear hz0
     go_wp2
     go_ret
     exact ⟨_, rfl, by rw [HRL.out, if_neg HZ0.out]; exact Kd.R_nil _ _ _ _ _, HI.out, HB.out, HK.out⟩

end
section
open Go.RowKit Go.Proofs.YtampppdjfbabiaaW.PrintWords Go.Proofs.YtampppdjfbabiaaW.PrintLast Go.Proofs.YtampppdjfbabiaaW.PrintMore
attribute [local go_sem] max2_int min2_int max_two min_two max_three min_three max_four min_four   -- for this text's walks alone
set_option linter.unusedVariables false
set_option linter.unusedSimpArgs false

--OWN Derived.RegionTactic,Derived.BigRegion,Derived.Laws.Rows
/-! ### point_Op: function 76 -/
set_option maxHeartbeats 4000000 in
set_option maxRecDepth 100000 in
theorem point_Op.calls (g : Nat) (l : List Int) (e : Int) (kd : Int) (px : Int) (py : Int) (key : ByteArray) (val : ByteArray) (cli : Int) (seq : Int) (ok : Bool) (w0 w : World) (hI : IsRdr w0 w g l e true) (hB : Below w0.heap.size w0 w) :
  Calls Try.prog 76 #[.pointer (some ⟨g, 0, none⟩), .agg #[.int .i64 kd, .int .i64 px, .int .i64 py, .string key, .string val, .int .i64 cli, .int .i64 seq], .bool ok] w fun ed w' => ed = .returned (.agg (if tkE ok e = 0 then #[.int .i64 kd, .int .i64 px, .int .i64 py, .string key, .string val, .int .i64 cli, .int .i64 seq] else #[.int .i64 0, .int .i64 0, .int .i64 0, .string ⟨#[]⟩, .string ⟨#[]⟩, .int .i64 0, .int .i64 0])) ∧ IsRdr w0 w' g l (tkE ok e) true ∧ Below w0.heap.size w0 w' ∧ KeepBut w w' g none := by
 have HI := Aside0.mk hI
 have HB := Aside0.mk hB
 have HK := Aside0.mk (KeepBut.refl w g none)
 have HSZ := Aside0.mk hB.size
 clear hI hB
 cases ok
 focus
  by_cases h0 : e = 0
  focus
   subst h0
   rw [show tkE false 0 = 21 from rfl, if_neg (by decide : ¬ (21 : Int) = 0)]
   go_enter Try.func76, Try.ntmps76
   go_wp2_with (first | ((with_reducible refine gate_dst (N := 4) rfl ?_); refine box_event ?hg (N := 4) ?hd (cs := #[.int .i64 kd, .int .i64 px, .int .i64 py, .string key, .string val, .int .i64 cli, .int .i64 seq]) (t := 33) ?hr ?_; (case hd => rfl); (case hg => rfl); (case hr => first | (go_simp; done) | (go_simp; rfl)); intro gx hg w4 hbox hb; have HX := Aside0.mk hbox; replace HI := Aside0.mk (HI.out.below hb); have HS6 := Aside0.mk (HK.out.1); replace HK := Aside0.mk (HK.out.trans (KeepBut.of_below hb g none) (.inl rfl)); replace HB := Aside0.mk (below_then HB.out HB.out.size hb); clear HS6; clear hbox hb hg) | ((with_reducible refine gate_dst (N := 6) rfl ?_); refine box_event ?hg (N := 6) ?hd (cs := #[.int .i64 0, .int .i64 0, .int .i64 0, .string ⟨#[]⟩, .string ⟨#[]⟩, .int .i64 0, .int .i64 0]) (t := 33) ?hr ?_; (case hd => rfl); (case hg => rfl); (case hr => first | (go_simp; done) | (go_simp; rfl)); intro g6 hg w6 hbox hb; have H6 := Aside0.mk hbox; replace HX := Aside0.mk (blk_below HX.out hb); have HG6 := Aside0.mk (show w.heap.size ≤ g6 by rw [hg]; exact HK.out.1); replace HI := Aside0.mk (HI.out.below hb); have HS6 := Aside0.mk (HK.out.1); replace HK := Aside0.mk (HK.out.trans (KeepBut.of_below hb g none) (.inl rfl)); replace HB := Aside0.mk (below_then HB.out HB.out.size hb); clear HS6; clear hbox hb hg) | fail)
   refine (wire_Reader_Fail.calls g l 0 true 21 w0 _ HI.out HB.out).mono ?_
   rintro e1 wF ⟨rfl, hi, hbx, hk⟩
   replace HX := Aside0.mk (hk.blk HX.out (HI.out.at_ne HX.out (by decide)) (by simp))
   replace H6 := Aside0.mk (hk.blk H6.out (HI.out.at_ne H6.out (by decide)) (by simp))
   replace HK := Aside0.mk (HK.out.trans hk (.inl rfl))
   replace HB := Aside0.mk hbx
   replace HI := Aside0.mk (show IsRdr w0 wF g l 21 true from hi)
   clear hi hbx hk
   go_wp2_with fail
   refine (wire_Reader_Err.calls g l 21 true w0 _ HI.out).mono ?_
   rintro e2 wE ⟨rfl, rfl⟩
   rw [if_pos (rfl : true = true)]
   go_wp2_with (first | ((with_reducible refine gate_dst (N := 7) rfl ?_); refine box_event ?hg (N := 7) ?hd (cs := #[.int .i64 0, .int .i64 0, .int .i64 0, .string ⟨#[]⟩, .string ⟨#[]⟩, .int .i64 0, .int .i64 0]) (t := 33) ?hr ?_; (case hd => rfl); (case hg => rfl); (case hr => first | (go_simp; done) | (go_simp; rfl)); intro g7 hg w7 hbox hb; replace HX := Aside0.mk (blk_below HX.out hb); replace H6 := Aside0.mk (blk_below H6.out hb); replace HI := Aside0.mk (HI.out.below hb); have HS6 := Aside0.mk (HK.out.1); replace HK := Aside0.mk (HK.out.trans (KeepBut.of_below hb g none) (.inl rfl)); replace HB := Aside0.mk (below_then HB.out HB.out.size hb); clear HS6; have z0 := blk_cell hbox 0; have z1 := blk_cell hbox 1; have z2 := blk_cell hbox 2; have z3 := blk_cell hbox 3; have z4 := blk_cell hbox 4; have z5 := blk_cell hbox 5; have z6 := blk_cell hbox 6; have s0 := blk_cell H6.out 0; have f0 := blk_frozen H6.out 0; have s1 := blk_cell H6.out 1; have f1 := blk_frozen H6.out 1; have s2 := blk_cell H6.out 2; have f2 := blk_frozen H6.out 2; have s3 := blk_cell H6.out 3; have f3 := blk_frozen H6.out 3; have s4 := blk_cell H6.out 4; have f4 := blk_frozen H6.out 4; have s5 := blk_cell H6.out 5; have f5 := blk_frozen H6.out 5; have s6 := blk_cell H6.out 6; have f6 := blk_frozen H6.out 6; clear hbox hb hg) | fail)
   exact bodyPost_ret (results_cell_row rfl _ _ g6 33 #[.int .i64 0, .int .i64 0, .int .i64 0, .string ⟨#[]⟩, .string ⟨#[]⟩, .int .i64 0, .int .i64 0] (0, 0) _ rfl (blk_put (blk_put (blk_put (blk_put (blk_put (blk_put (blk_put (H6.out) 0 (.int .i64 0) rfl) 1 (.int .i64 0) rfl) 2 (.int .i64 0) rfl) 3 (.string ⟨#[]⟩) rfl) 4 (.string ⟨#[]⟩) rfl) 5 (.int .i64 0) rfl) 6 (.int .i64 0) rfl) Try.underlying33 rfl rfl) rfl ⟨rfl, HI.out.keep ((((((((KeepBut.refl _ g6 none).set_ 0 (.int .i64 0)).set_ 1 (.int .i64 0)).set_ 2 (.int .i64 0)).set_ 3 (.string ⟨#[]⟩)).set_ 4 (.string ⟨#[]⟩)).set_ 5 (.int .i64 0)).set_ 6 (.int .i64 0)) (HI.out.at_ne H6.out (by decide)) H6.out (by decide), below_set (below_set (below_set (below_set (below_set (below_set (below_set (HB.out) (Nat.le_trans HSZ.out HG6.out)) (Nat.le_trans HSZ.out HG6.out)) (Nat.le_trans HSZ.out HG6.out)) (Nat.le_trans HSZ.out HG6.out)) (Nat.le_trans HSZ.out HG6.out)) (Nat.le_trans HSZ.out HG6.out)) (Nat.le_trans HSZ.out HG6.out), keep_new HK.out ((((((((KeepBut.refl _ g6 none).set_ 0 (.int .i64 0)).set_ 1 (.int .i64 0)).set_ 2 (.int .i64 0)).set_ 3 (.string ⟨#[]⟩)).set_ 4 (.string ⟨#[]⟩)).set_ 5 (.int .i64 0)).set_ 6 (.int .i64 0)) HG6.out⟩
  have he : tkE false e = e := if_neg h0
  have he1 : (e == 0) = false := beq_eq_false_iff_ne.mpr h0
  have he2 : (e != 0) = true := bne_iff_ne.mpr h0
  rw [he, if_neg h0]
  clear he
  have hr : (if rdOk e true = true then (21 : Int) else e) = e := if_neg (by unfold rdOk; rw [he1]; simp)
  have HR_ := Aside0.mk hr
  clear hr he1
  go_enter Try.func76, Try.ntmps76
  go_wp2_with (first | ((with_reducible refine gate_dst (N := 4) rfl ?_); refine box_event ?hg (N := 4) ?hd (cs := #[.int .i64 kd, .int .i64 px, .int .i64 py, .string key, .string val, .int .i64 cli, .int .i64 seq]) (t := 33) ?hr ?_; (case hd => rfl); (case hg => rfl); (case hr => first | (go_simp; done) | (go_simp; rfl)); intro gx hg w4 hbox hb; have HX := Aside0.mk hbox; replace HI := Aside0.mk (HI.out.below hb); have HS6 := Aside0.mk (HK.out.1); replace HK := Aside0.mk (HK.out.trans (KeepBut.of_below hb g none) (.inl rfl)); replace HB := Aside0.mk (below_then HB.out HB.out.size hb); clear HS6; clear hbox hb hg) | ((with_reducible refine gate_dst (N := 6) rfl ?_); refine box_event ?hg (N := 6) ?hd (cs := #[.int .i64 0, .int .i64 0, .int .i64 0, .string ⟨#[]⟩, .string ⟨#[]⟩, .int .i64 0, .int .i64 0]) (t := 33) ?hr ?_; (case hd => rfl); (case hg => rfl); (case hr => first | (go_simp; done) | (go_simp; rfl)); intro g6 hg w6 hbox hb; have H6 := Aside0.mk hbox; replace HX := Aside0.mk (blk_below HX.out hb); have HG6 := Aside0.mk (show w.heap.size ≤ g6 by rw [hg]; exact HK.out.1); replace HI := Aside0.mk (HI.out.below hb); have HS6 := Aside0.mk (HK.out.1); replace HK := Aside0.mk (HK.out.trans (KeepBut.of_below hb g none) (.inl rfl)); replace HB := Aside0.mk (below_then HB.out HB.out.size hb); clear HS6; clear hbox hb hg) | fail)
  refine (wire_Reader_Fail.calls g l e true 21 w0 _ HI.out HB.out).mono ?_
  rintro e1 wF ⟨rfl, hi, hbx, hk⟩
  replace HX := Aside0.mk (hk.blk HX.out (HI.out.at_ne HX.out (by decide)) (by simp))
  replace H6 := Aside0.mk (hk.blk H6.out (HI.out.at_ne H6.out (by decide)) (by simp))
  replace HK := Aside0.mk (HK.out.trans hk (.inl rfl))
  replace HB := Aside0.mk hbx
  rw [HR_.out] at hi
  replace HI := Aside0.mk hi
  clear hi hbx hk
  go_wp2_with fail
  refine (wire_Reader_Err.calls g l e true w0 _ HI.out).mono ?_
  rintro e2 wE ⟨rfl, rfl⟩
  rw [if_pos (rfl : true = true)]
  go_wp2_with (first | ((with_reducible refine gate_dst (N := 7) rfl ?_); refine box_event ?hg (N := 7) ?hd (cs := #[.int .i64 0, .int .i64 0, .int .i64 0, .string ⟨#[]⟩, .string ⟨#[]⟩, .int .i64 0, .int .i64 0]) (t := 33) ?hr ?_; (case hd => rfl); (case hg => rfl); (case hr => first | (go_simp; done) | (go_simp; rfl)); intro g7 hg w7 hbox hb; replace HX := Aside0.mk (blk_below HX.out hb); replace H6 := Aside0.mk (blk_below H6.out hb); replace HI := Aside0.mk (HI.out.below hb); have HS6 := Aside0.mk (HK.out.1); replace HK := Aside0.mk (HK.out.trans (KeepBut.of_below hb g none) (.inl rfl)); replace HB := Aside0.mk (below_then HB.out HB.out.size hb); clear HS6; have z0 := blk_cell hbox 0; have z1 := blk_cell hbox 1; have z2 := blk_cell hbox 2; have z3 := blk_cell hbox 3; have z4 := blk_cell hbox 4; have z5 := blk_cell hbox 5; have z6 := blk_cell hbox 6; have s0 := blk_cell H6.out 0; have f0 := blk_frozen H6.out 0; have s1 := blk_cell H6.out 1; have f1 := blk_frozen H6.out 1; have s2 := blk_cell H6.out 2; have f2 := blk_frozen H6.out 2; have s3 := blk_cell H6.out 3; have f3 := blk_frozen H6.out 3; have s4 := blk_cell H6.out 4; have f4 := blk_frozen H6.out 4; have s5 := blk_cell H6.out 5; have f5 := blk_frozen H6.out 5; have s6 := blk_cell H6.out 6; have f6 := blk_frozen H6.out 6; clear hbox hb hg) | fail)
  exact bodyPost_ret (results_cell_row rfl _ _ g6 33 #[.int .i64 0, .int .i64 0, .int .i64 0, .string ⟨#[]⟩, .string ⟨#[]⟩, .int .i64 0, .int .i64 0] (0, 0) _ rfl (blk_put (blk_put (blk_put (blk_put (blk_put (blk_put (blk_put (H6.out) 0 (.int .i64 0) rfl) 1 (.int .i64 0) rfl) 2 (.int .i64 0) rfl) 3 (.string ⟨#[]⟩) rfl) 4 (.string ⟨#[]⟩) rfl) 5 (.int .i64 0) rfl) 6 (.int .i64 0) rfl) Try.underlying33 rfl rfl) rfl ⟨rfl, HI.out.keep ((((((((KeepBut.refl _ g6 none).set_ 0 (.int .i64 0)).set_ 1 (.int .i64 0)).set_ 2 (.int .i64 0)).set_ 3 (.string ⟨#[]⟩)).set_ 4 (.string ⟨#[]⟩)).set_ 5 (.int .i64 0)).set_ 6 (.int .i64 0)) (HI.out.at_ne H6.out (by decide)) H6.out (by decide), below_set (below_set (below_set (below_set (below_set (below_set (below_set (HB.out) (Nat.le_trans HSZ.out HG6.out)) (Nat.le_trans HSZ.out HG6.out)) (Nat.le_trans HSZ.out HG6.out)) (Nat.le_trans HSZ.out HG6.out)) (Nat.le_trans HSZ.out HG6.out)) (Nat.le_trans HSZ.out HG6.out)) (Nat.le_trans HSZ.out HG6.out), keep_new HK.out ((((((((KeepBut.refl _ g6 none).set_ 0 (.int .i64 0)).set_ 1 (.int .i64 0)).set_ 2 (.int .i64 0)).set_ 3 (.string ⟨#[]⟩)).set_ 4 (.string ⟨#[]⟩)).set_ 5 (.int .i64 0)).set_ 6 (.int .i64 0)) HG6.out⟩
 by_cases h0 : e = 0
 focus
  subst h0
  rw [show tkE true 0 = 0 from rfl, if_pos (rfl : (0 : Int) = 0)]
  go_enter Try.func76, Try.ntmps76
  go_wp2_with (first | ((with_reducible refine gate_dst (N := 4) rfl ?_); refine box_event ?hg (N := 4) ?hd (cs := #[.int .i64 kd, .int .i64 px, .int .i64 py, .string key, .string val, .int .i64 cli, .int .i64 seq]) (t := 33) ?hr ?_; (case hd => rfl); (case hg => rfl); (case hr => first | (go_simp; done) | (go_simp; rfl)); intro gx hg w4 hbox hb; have HX := Aside0.mk hbox; replace HI := Aside0.mk (HI.out.below hb); have HS6 := Aside0.mk (HK.out.1); replace HK := Aside0.mk (HK.out.trans (KeepBut.of_below hb g none) (.inl rfl)); replace HB := Aside0.mk (below_then HB.out HB.out.size hb); clear HS6; clear hbox hb hg) | ((with_reducible refine gate_dst (N := 6) rfl ?_); refine box_event ?hg (N := 6) ?hd (cs := #[.int .i64 0, .int .i64 0, .int .i64 0, .string ⟨#[]⟩, .string ⟨#[]⟩, .int .i64 0, .int .i64 0]) (t := 33) ?hr ?_; (case hd => rfl); (case hg => rfl); (case hr => first | (go_simp; done) | (go_simp; rfl)); intro g6 hg w6 hbox hb; have H6 := Aside0.mk hbox; replace HX := Aside0.mk (blk_below HX.out hb); have HG6 := Aside0.mk (show w.heap.size ≤ g6 by rw [hg]; exact HK.out.1); replace HI := Aside0.mk (HI.out.below hb); have HS6 := Aside0.mk (HK.out.1); replace HK := Aside0.mk (HK.out.trans (KeepBut.of_below hb g none) (.inl rfl)); replace HB := Aside0.mk (below_then HB.out HB.out.size hb); clear HS6; clear hbox hb hg) | fail)
  refine (wire_Reader_Err.calls g l 0 true w0 _ HI.out).mono ?_
  rintro e2 wE ⟨rfl, rfl⟩
  rw [if_pos (rfl : true = true)]
  have h0 := blk_cell HX.out 0
  have h1 := blk_cell HX.out 1
  have h2 := blk_cell HX.out 2
  have h3 := blk_cell HX.out 3
  have h4 := blk_cell HX.out 4
  have h5 := blk_cell HX.out 5
  have h6 := blk_cell HX.out 6
  have s0 := blk_cell H6.out 0
  have s1 := blk_cell H6.out 1
  have s2 := blk_cell H6.out 2
  have s3 := blk_cell H6.out 3
  have s4 := blk_cell H6.out 4
  have s5 := blk_cell H6.out 5
  have s6 := blk_cell H6.out 6
  have f0 := blk_frozen H6.out 0
  have f1 := blk_frozen H6.out 1
  have f2 := blk_frozen H6.out 2
  have f3 := blk_frozen H6.out 3
  have f4 := blk_frozen H6.out 4
  have f5 := blk_frozen H6.out 5
  have f6 := blk_frozen H6.out 6
  go_wp2
  exact bodyPost_ret (results_cell_row rfl _ _ g6 33 #[.int .i64 kd, .int .i64 px, .int .i64 py, .string key, .string val, .int .i64 cli, .int .i64 seq] (0, 0) _ rfl (blk_put (blk_put (blk_put (blk_put (blk_put (blk_put (blk_put (H6.out) 0 (.int .i64 kd) rfl) 1 (.int .i64 px) rfl) 2 (.int .i64 py) rfl) 3 (.string key) rfl) 4 (.string val) rfl) 5 (.int .i64 cli) rfl) 6 (.int .i64 seq) rfl) Try.underlying33 rfl rfl) rfl ⟨rfl, HI.out.keep ((((((((KeepBut.refl _ g6 none).set_ 0 (.int .i64 kd)).set_ 1 (.int .i64 px)).set_ 2 (.int .i64 py)).set_ 3 (.string key)).set_ 4 (.string val)).set_ 5 (.int .i64 cli)).set_ 6 (.int .i64 seq)) (HI.out.at_ne H6.out (by decide)) H6.out (by decide), below_set (below_set (below_set (below_set (below_set (below_set (below_set (HB.out) (Nat.le_trans HSZ.out HG6.out)) (Nat.le_trans HSZ.out HG6.out)) (Nat.le_trans HSZ.out HG6.out)) (Nat.le_trans HSZ.out HG6.out)) (Nat.le_trans HSZ.out HG6.out)) (Nat.le_trans HSZ.out HG6.out)) (Nat.le_trans HSZ.out HG6.out), keep_new HK.out ((((((((KeepBut.refl _ g6 none).set_ 0 (.int .i64 kd)).set_ 1 (.int .i64 px)).set_ 2 (.int .i64 py)).set_ 3 (.string key)).set_ 4 (.string val)).set_ 5 (.int .i64 cli)).set_ 6 (.int .i64 seq)) HG6.out⟩
 have he : tkE true e = e := rfl
 have he2 : (e != 0) = true := bne_iff_ne.mpr h0
 rw [he, if_neg h0]
 clear he
 go_enter Try.func76, Try.ntmps76
 go_wp2_with (first | ((with_reducible refine gate_dst (N := 4) rfl ?_); refine box_event ?hg (N := 4) ?hd (cs := #[.int .i64 kd, .int .i64 px, .int .i64 py, .string key, .string val, .int .i64 cli, .int .i64 seq]) (t := 33) ?hr ?_; (case hd => rfl); (case hg => rfl); (case hr => first | (go_simp; done) | (go_simp; rfl)); intro gx hg w4 hbox hb; have HX := Aside0.mk hbox; replace HI := Aside0.mk (HI.out.below hb); have HS6 := Aside0.mk (HK.out.1); replace HK := Aside0.mk (HK.out.trans (KeepBut.of_below hb g none) (.inl rfl)); replace HB := Aside0.mk (below_then HB.out HB.out.size hb); clear HS6; clear hbox hb hg) | ((with_reducible refine gate_dst (N := 6) rfl ?_); refine box_event ?hg (N := 6) ?hd (cs := #[.int .i64 0, .int .i64 0, .int .i64 0, .string ⟨#[]⟩, .string ⟨#[]⟩, .int .i64 0, .int .i64 0]) (t := 33) ?hr ?_; (case hd => rfl); (case hg => rfl); (case hr => first | (go_simp; done) | (go_simp; rfl)); intro g6 hg w6 hbox hb; have H6 := Aside0.mk hbox; replace HX := Aside0.mk (blk_below HX.out hb); have HG6 := Aside0.mk (show w.heap.size ≤ g6 by rw [hg]; exact HK.out.1); replace HI := Aside0.mk (HI.out.below hb); have HS6 := Aside0.mk (HK.out.1); replace HK := Aside0.mk (HK.out.trans (KeepBut.of_below hb g none) (.inl rfl)); replace HB := Aside0.mk (below_then HB.out HB.out.size hb); clear HS6; clear hbox hb hg) | fail)
 refine (wire_Reader_Err.calls g l e true w0 _ HI.out).mono ?_
 rintro e2 wE ⟨rfl, rfl⟩
 rw [if_pos (rfl : true = true)]
 go_wp2_with (first | ((with_reducible refine gate_dst (N := 7) rfl ?_); refine box_event ?hg (N := 7) ?hd (cs := #[.int .i64 0, .int .i64 0, .int .i64 0, .string ⟨#[]⟩, .string ⟨#[]⟩, .int .i64 0, .int .i64 0]) (t := 33) ?hr ?_; (case hd => rfl); (case hg => rfl); (case hr => first | (go_simp; done) | (go_simp; rfl)); intro g7 hg w7 hbox hb; replace HX := Aside0.mk (blk_below HX.out hb); replace H6 := Aside0.mk (blk_below H6.out hb); replace HI := Aside0.mk (HI.out.below hb); have HS6 := Aside0.mk (HK.out.1); replace HK := Aside0.mk (HK.out.trans (KeepBut.of_below hb g none) (.inl rfl)); replace HB := Aside0.mk (below_then HB.out HB.out.size hb); clear HS6; have z0 := blk_cell hbox 0; have z1 := blk_cell hbox 1; have z2 := blk_cell hbox 2; have z3 := blk_cell hbox 3; have z4 := blk_cell hbox 4; have z5 := blk_cell hbox 5; have z6 := blk_cell hbox 6; have s0 := blk_cell H6.out 0; have f0 := blk_frozen H6.out 0; have s1 := blk_cell H6.out 1; have f1 := blk_frozen H6.out 1; have s2 := blk_cell H6.out 2; have f2 := blk_frozen H6.out 2; have s3 := blk_cell H6.out 3; have f3 := blk_frozen H6.out 3; have s4 := blk_cell H6.out 4; have f4 := blk_frozen H6.out 4; have s5 := blk_cell H6.out 5; have f5 := blk_frozen H6.out 5; have s6 := blk_cell H6.out 6; have f6 := blk_frozen H6.out 6; clear hbox hb hg) | fail)
 exact bodyPost_ret (results_cell_row rfl _ _ g6 33 #[.int .i64 0, .int .i64 0, .int .i64 0, .string ⟨#[]⟩, .string ⟨#[]⟩, .int .i64 0, .int .i64 0] (0, 0) _ rfl (blk_put (blk_put (blk_put (blk_put (blk_put (blk_put (blk_put (H6.out) 0 (.int .i64 0) rfl) 1 (.int .i64 0) rfl) 2 (.int .i64 0) rfl) 3 (.string ⟨#[]⟩) rfl) 4 (.string ⟨#[]⟩) rfl) 5 (.int .i64 0) rfl) 6 (.int .i64 0) rfl) Try.underlying33 rfl rfl) rfl ⟨rfl, HI.out.keep ((((((((KeepBut.refl _ g6 none).set_ 0 (.int .i64 0)).set_ 1 (.int .i64 0)).set_ 2 (.int .i64 0)).set_ 3 (.string ⟨#[]⟩)).set_ 4 (.string ⟨#[]⟩)).set_ 5 (.int .i64 0)).set_ 6 (.int .i64 0)) (HI.out.at_ne H6.out (by decide)) H6.out (by decide), below_set (below_set (below_set (below_set (below_set (below_set (below_set (HB.out) (Nat.le_trans HSZ.out HG6.out)) (Nat.le_trans HSZ.out HG6.out)) (Nat.le_trans HSZ.out HG6.out)) (Nat.le_trans HSZ.out HG6.out)) (Nat.le_trans HSZ.out HG6.out)) (Nat.le_trans HSZ.out HG6.out)) (Nat.le_trans HSZ.out HG6.out), keep_new HK.out ((((((((KeepBut.refl _ g6 none).set_ 0 (.int .i64 0)).set_ 1 (.int .i64 0)).set_ 2 (.int .i64 0)).set_ 3 (.string ⟨#[]⟩)).set_ 4 (.string ⟨#[]⟩)).set_ 5 (.int .i64 0)).set_ 6 (.int .i64 0)) HG6.out⟩

end
section
open Go.RowKit Go.Proofs.YtampppdjfbabiaaW.PrintWords Go.Proofs.YtampppdjfbabiaaW.PrintLast Go.Proofs.YtampppdjfbabiaaW.PrintMore
attribute [local go_sem] max2_int min2_int max_two min_two max_three min_three max_four min_four   -- for this text's walks alone
set_option linter.unusedVariables false
set_option linter.unusedSimpArgs false

--OWN Derived.RegionTactic,Derived.BigRegion,Derived.Laws.Rows
/-! ### point_TakeOp: function 56 -/
set_option maxHeartbeats 8000000 in
set_option maxRecDepth 100000 in
theorem point_TakeOp.calls (k : Nat) (g : Nat) (l : List Int) (e : Int) (kd : Int) (l0 : List Int) (e0 : Int) (h0 : rdNum l e true = (kd, l0, e0)) (px : Int) (l1 : List Int) (e1 : Int) (h1 : rdNum l0 e0 true = (px, l1, e1)) (py : Int) (l2 : List Int) (e2 : Int) (h2 : rdNum l1 e1 true = (py, l2, e2)) (key : List Int) (l3 : List Int) (e3 : Int) (h3 : rdText l2 e2 true 32 = (key, l3, e3)) (val : List Int) (l4 : List Int) (e4 : Int) (h4 : rdText l3 e3 true 32 = (val, l4, e4)) (cli : Int) (l5 : List Int) (e5 : Int) (h5 : rdNum l4 e4 true = (cli, l5, e5)) (seq : Int) (l6 : List Int) (e6 : Int) (h6 : rdNum l5 e5 true = (seq, l6, e6)) (r : Bool) (hR : point_RightOp.f k kd px py (strOfNums key) (strOfNums val) cli seq = some r) (w0 w : World) (hI : IsRdr w0 w g l e true) (hB : Below w0.heap.size w0 w) :
  Calls Try.prog 56 #[.pointer (some ⟨g, 0, none⟩)] w fun ed w' => ed = .returned (.agg (if tkE r e6 = 0 then #[.int .i64 kd, .int .i64 px, .int .i64 py, .string (strOfNums key), .string (strOfNums val), .int .i64 cli, .int .i64 seq] else #[.int .i64 0, .int .i64 0, .int .i64 0, .string ⟨#[]⟩, .string ⟨#[]⟩, .int .i64 0, .int .i64 0])) ∧ IsRdr w0 w' g l6 (tkE r e6) true ∧ Below w0.heap.size w0 w' ∧ KeepBut w w' g none := by
 have HI := Aside0.mk hI
 have HB := Aside0.mk hB
 have HK := Aside0.mk (KeepBut.refl w g none)
 have HSZ := Aside0.mk hB.size
 have HR := Aside0.mk hR
 have Q0 := Aside0.mk h0
 have Q1 := Aside0.mk h1
 have Q2 := Aside0.mk h2
 have Q3 := Aside0.mk h3
 have Q4 := Aside0.mk h4
 have Q5 := Aside0.mk h5
 have Q6 := Aside0.mk h6
 clear hI hB hR h0 h1 h2 h3 h4 h5 h6
 obtain ⟨ok, hok⟩ : ∃ b, b = r := ⟨_, rfl⟩
 rw [← hok]
 have HOK := Aside0.mk hok
 clear hok
 obtain ⟨z, hz⟩ : ∃ z, z = tkE ok e6 := ⟨_, rfl⟩
 rw [← hz]
 have HZ := Aside0.mk hz
 clear hz
 obtain ⟨RV, hrv⟩ : ∃ v : Array Value, v = (if z = 0 then #[.int .i64 kd, .int .i64 px, .int .i64 py, .string (strOfNums key), .string (strOfNums val), .int .i64 cli, .int .i64 seq] else #[.int .i64 0, .int .i64 0, .int .i64 0, .string ⟨#[]⟩, .string ⟨#[]⟩, .int .i64 0, .int .i64 0]) := ⟨_, rfl⟩
 rw [← hrv]
 have HRV := Aside0.mk hrv
 clear hrv
 go_enter Try.func56, Try.ntmps56
 go_wp2_with (first | ((with_reducible refine gate_dst (N := 2) rfl ?_); refine box_event ?hg (N := 2) ?hd (cs := #[.int .i64 0, .int .i64 0, .int .i64 0, .string ⟨#[]⟩, .string ⟨#[]⟩, .int .i64 0, .int .i64 0]) (t := 33) ?hr ?_; (case hd => rfl); (case hg => rfl); (case hr => first | (go_simp; done) | (go_simp; rfl)); intro g2 hg w2 hbox hb; have H2 := Aside0.mk hbox; have HG2 := Aside0.mk (show w.heap.size ≤ g2 by rw [hg]; exact HK.out.1); replace HI := Aside0.mk (HI.out.below hb); have HS6 := Aside0.mk (HK.out.1); replace HK := Aside0.mk (HK.out.trans (KeepBut.of_below hb g none) (.inl rfl)); replace HB := Aside0.mk (below_then HB.out HB.out.size hb); clear HS6; clear hbox hb hg) | fail)
 have hq := wire_Reader_Num.calls g l e true w0 _ HI.out HB.out
 rw [Q0.out] at hq
 dsimp only at hq
 refine hq.mono ?_
 clear hq
 rintro ed0 wr0 ⟨rfl, hi, hbx, hk⟩
 replace H2 := Aside0.mk (hk.blk H2.out (HI.out.at_ne H2.out (by decide)) (by simp))
 replace HK := Aside0.mk (HK.out.trans hk (.inl rfl))
 replace HI := Aside0.mk hi
 replace HB := Aside0.mk hbx
 clear hi hbx hk
 go_wp2_with fail
 have hq := wire_Reader_Num.calls g l0 e0 true w0 _ HI.out HB.out
 rw [Q1.out] at hq
 dsimp only at hq
 refine hq.mono ?_
 clear hq
 rintro ed1 wr1 ⟨rfl, hi, hbx, hk⟩
 replace H2 := Aside0.mk (hk.blk H2.out (HI.out.at_ne H2.out (by decide)) (by simp))
 replace HK := Aside0.mk (HK.out.trans hk (.inl rfl))
 replace HI := Aside0.mk hi
 replace HB := Aside0.mk hbx
 clear hi hbx hk
 go_wp2_with fail
 have hq := wire_Reader_Num.calls g l1 e1 true w0 _ HI.out HB.out
 rw [Q2.out] at hq
 dsimp only at hq
 refine hq.mono ?_
 clear hq
 rintro ed2 wr2 ⟨rfl, hi, hbx, hk⟩
 replace H2 := Aside0.mk (hk.blk H2.out (HI.out.at_ne H2.out (by decide)) (by simp))
 replace HK := Aside0.mk (HK.out.trans hk (.inl rfl))
 replace HI := Aside0.mk hi
 replace HB := Aside0.mk hbx
 clear hi hbx hk
 go_wp2_with fail
 have hq := wire_Reader_Text.calls g l2 e2 true 32 w0 _ HI.out HB.out
 rw [Q3.out] at hq
 dsimp only at hq
 refine hq.mono ?_
 clear hq
 rintro ed3 wr3 ⟨rfl, hi, hbx, hk⟩
 replace H2 := Aside0.mk (hk.blk H2.out (HI.out.at_ne H2.out (by decide)) (by simp))
 replace HK := Aside0.mk (HK.out.trans hk (.inl rfl))
 replace HI := Aside0.mk hi
 replace HB := Aside0.mk hbx
 clear hi hbx hk
 go_wp2_with fail
 have hq := wire_Reader_Text.calls g l3 e3 true 32 w0 _ HI.out HB.out
 rw [Q4.out] at hq
 dsimp only at hq
 refine hq.mono ?_
 clear hq
 rintro ed4 wr4 ⟨rfl, hi, hbx, hk⟩
 replace H2 := Aside0.mk (hk.blk H2.out (HI.out.at_ne H2.out (by decide)) (by simp))
 replace HK := Aside0.mk (HK.out.trans hk (.inl rfl))
 replace HI := Aside0.mk hi
 replace HB := Aside0.mk hbx
 clear hi hbx hk
 go_wp2_with fail
 have hq := wire_Reader_Num.calls g l4 e4 true w0 _ HI.out HB.out
 rw [Q5.out] at hq
 dsimp only at hq
 refine hq.mono ?_
 clear hq
 rintro ed5 wr5 ⟨rfl, hi, hbx, hk⟩
 replace H2 := Aside0.mk (hk.blk H2.out (HI.out.at_ne H2.out (by decide)) (by simp))
 replace HK := Aside0.mk (HK.out.trans hk (.inl rfl))
 replace HI := Aside0.mk hi
 replace HB := Aside0.mk hbx
 clear hi hbx hk
 go_wp2_with fail
 have hq := wire_Reader_Num.calls g l5 e5 true w0 _ HI.out HB.out
 rw [Q6.out] at hq
 dsimp only at hq
 refine hq.mono ?_
 clear hq
 rintro ed6 wr6 ⟨rfl, hi, hbx, hk⟩
 replace H2 := Aside0.mk (hk.blk H2.out (HI.out.at_ne H2.out (by decide)) (by simp))
 replace HK := Aside0.mk (HK.out.trans hk (.inl rfl))
 replace HI := Aside0.mk hi
 replace HB := Aside0.mk hbx
 clear hi hbx hk
 go_wp2_with (first | ((with_reducible refine gate_dst (N := 3) rfl ?_); refine box_event ?hg (N := 3) ?hd (cs := #[.int .i64 0, .int .i64 0, .int .i64 0, .string ⟨#[]⟩, .string ⟨#[]⟩, .int .i64 0, .int .i64 0]) (t := 33) ?hr ?_; (case hd => rfl); (case hg => rfl); (case hr => first | (go_simp; done) | (go_simp; rfl)); intro g3 hg w3 hbox hb; have H3 := Aside0.mk hbox; have HNE := Aside0.mk (show g2 ≠ g3 by have := blk_lt H2.out; omega); have HG3 := Aside0.mk (show w.heap.size ≤ g3 by rw [hg]; exact HK.out.1); replace H2 := Aside0.mk (blk_below H2.out hb); replace HI := Aside0.mk (HI.out.below hb); have HS6 := Aside0.mk (HK.out.1); replace HK := Aside0.mk (HK.out.trans (KeepBut.of_below hb g none) (.inl rfl)); replace HB := Aside0.mk (below_then HB.out HB.out.size hb); clear HS6; have s0 := blk_cell hbox 0; have f0 := blk_frozen hbox 0; have s1 := blk_cell hbox 1; have f1 := blk_frozen hbox 1; have s2 := blk_cell hbox 2; have f2 := blk_frozen hbox 2; have s3 := blk_cell hbox 3; have f3 := blk_frozen hbox 3; have s4 := blk_cell hbox 4; have f4 := blk_frozen hbox 4; have s5 := blk_cell hbox 5; have f5 := blk_frozen hbox 5; have s6 := blk_cell hbox 6; have f6 := blk_frozen hbox 6; clear hbox hb hg) | fail)
 clear s0 f0 s1 f1 s2 f2 s3 f3 s4 f4 s5 f5 s6 f6
 have HX := Aside0.mk (show ((World.setCell (World.setCell (World.setCell (World.setCell (World.setCell (World.setCell (World.setCell w3 ⟨g3, 0, none⟩ (.int .i64 kd)) ⟨g3, 1, none⟩ (.int .i64 px)) ⟨g3, 2, none⟩ (.int .i64 py)) ⟨g3, 3, none⟩ (.string (strOfNums key))) ⟨g3, 4, none⟩ (.string (strOfNums val))) ⟨g3, 5, none⟩ (.int .i64 cli)) ⟨g3, 6, none⟩ (.int .i64 seq))).heap[g3]? = some (.cells #[.int .i64 kd, .int .i64 px, .int .i64 py, .string (strOfNums key), .string (strOfNums val), .int .i64 cli, .int .i64 seq] 33 (0, 0)) from blk_put (blk_put (blk_put (blk_put (blk_put (blk_put (blk_put (H3.out) 0 (.int .i64 kd) rfl) 1 (.int .i64 px) rfl) 2 (.int .i64 py) rfl) 3 (.string (strOfNums key)) rfl) 4 (.string (strOfNums val)) rfl) 5 (.int .i64 cli) rfl) 6 (.int .i64 seq) rfl)
 replace H2 := Aside0.mk (((((((((KeepBut.refl w3 g3 none).set_ 0 (.int .i64 kd)).set_ 1 (.int .i64 px)).set_ 2 (.int .i64 py)).set_ 3 (.string (strOfNums key))).set_ 4 (.string (strOfNums val))).set_ 5 (.int .i64 cli)).set_ 6 (.int .i64 seq)).blk H2.out HNE.out (by simp))
 replace HI := Aside0.mk (HI.out.keep ((((((((KeepBut.refl w3 g3 none).set_ 0 (.int .i64 kd)).set_ 1 (.int .i64 px)).set_ 2 (.int .i64 py)).set_ 3 (.string (strOfNums key))).set_ 4 (.string (strOfNums val))).set_ 5 (.int .i64 cli)).set_ 6 (.int .i64 seq)) (HI.out.at_ne H3.out (by decide)) H3.out (by decide))
 replace HB := Aside0.mk (show Below w0.heap.size w0 (World.setCell (World.setCell (World.setCell (World.setCell (World.setCell (World.setCell (World.setCell w3 ⟨g3, 0, none⟩ (.int .i64 kd)) ⟨g3, 1, none⟩ (.int .i64 px)) ⟨g3, 2, none⟩ (.int .i64 py)) ⟨g3, 3, none⟩ (.string (strOfNums key))) ⟨g3, 4, none⟩ (.string (strOfNums val))) ⟨g3, 5, none⟩ (.int .i64 cli)) ⟨g3, 6, none⟩ (.int .i64 seq)) from below_set (below_set (below_set (below_set (below_set (below_set (below_set (HB.out) (Nat.le_trans HSZ.out HG3.out)) (Nat.le_trans HSZ.out HG3.out)) (Nat.le_trans HSZ.out HG3.out)) (Nat.le_trans HSZ.out HG3.out)) (Nat.le_trans HSZ.out HG3.out)) (Nat.le_trans HSZ.out HG3.out)) (Nat.le_trans HSZ.out HG3.out))
 replace HK := Aside0.mk (keep_new HK.out ((((((((KeepBut.refl w3 g3 none).set_ 0 (.int .i64 kd)).set_ 1 (.int .i64 px)).set_ 2 (.int .i64 py)).set_ 3 (.string (strOfNums key))).set_ 4 (.string (strOfNums val))).set_ 5 (.int .i64 cli)).set_ 6 (.int .i64 seq)) HG3.out)
 obtain ⟨W, hW⟩ : ∃ W, W = (World.setCell (World.setCell (World.setCell (World.setCell (World.setCell (World.setCell (World.setCell w3 ⟨g3, 0, none⟩ (.int .i64 kd)) ⟨g3, 1, none⟩ (.int .i64 px)) ⟨g3, 2, none⟩ (.int .i64 py)) ⟨g3, 3, none⟩ (.string (strOfNums key))) ⟨g3, 4, none⟩ (.string (strOfNums val))) ⟨g3, 5, none⟩ (.int .i64 cli)) ⟨g3, 6, none⟩ (.int .i64 seq)) := ⟨_, rfl⟩
 rw [← hW] at HX H2 HI HB HK
 rw [← hW]
 clear hW H3
 have hokr : ok = r := HOK.out
 subst hokr
 by_cases h0 : z = 0
 focus
  have hv := HRV.out.trans (if_pos h0)
  subst hv
  have H0 := Aside0.mk h0
  clear h0
  refine start_ (n := 6) (S := fun w' => w'.cell? ⟨g3, 0, none⟩ = some (.int .i64 kd) ∧ w'.cell? ⟨g3, 1, none⟩ = some (.int .i64 px) ∧ w'.cell? ⟨g3, 2, none⟩ = some (.int .i64 py) ∧ w'.cell? ⟨g3, 3, none⟩ = some (.string (strOfNums key)) ∧ w'.cell? ⟨g3, 4, none⟩ = some (.string (strOfNums val)) ∧ w'.cell? ⟨g3, 5, none⟩ = some (.int .i64 cli) ∧ w'.cell? ⟨g3, 6, none⟩ = some (.int .i64 seq)) (ds := [5]) #[false, false, false, false, false, false] (by kernel_rfl) rfl rfl ⟨(blk_cell HX.out 0), (blk_cell HX.out 1), (blk_cell HX.out 2), (blk_cell HX.out 3), (blk_cell HX.out 4), (blk_cell HX.out 5), (blk_cell HX.out 6)⟩ (fun hHeld => ?_)
  refine pure_ (i := 0) (N := some 20) (v := ?_) (a' := ?_) #[true, false, false, false, false, false] rfl rfl (by kernel_rfl) (fun _ _ _ h => h) (Or.inl ⟨by rfl, ?_⟩) ?_ ?_
  rotate_left
  ·intro w'
   go_simp
   with_reducible rfl
  rotate_left
  ·simp only [Act.put, List.setIfInBounds_toArray, List.set_cons_zero, List.set_cons_succ, i64_w, i32_w]
   rfl
  refine take_ (i := 1) (N := some 21) (v := ?_) (a' := ?_) #[true, true, false, false, false, false] rfl rfl (by kernel_rfl) (fun _ _ _ h => h) (Or.inl ⟨by rfl, ?_⟩) hHeld ?_ ?_
  rotate_left
  ·rintro w' ⟨s0, s1, s2, s3, s4, s5, s6⟩
   go_simp
   with_reducible rfl
  rotate_left
  ·simp only [Act.put, List.setIfInBounds_toArray, List.set_cons_zero, List.set_cons_succ, i64_w, i32_w]
   rfl
  refine take_ (i := 2) (N := some 22) (v := ?_) (a' := ?_) #[true, true, true, false, false, false] rfl rfl (by kernel_rfl) (fun _ _ _ h => h) (Or.inl ⟨by rfl, ?_⟩) hHeld ?_ ?_
  rotate_left
  ·rintro w' ⟨s0, s1, s2, s3, s4, s5, s6⟩
   go_simp
   with_reducible rfl
  rotate_left
  ·simp only [Act.put, List.setIfInBounds_toArray, List.set_cons_zero, List.set_cons_succ, i64_w, i32_w]
   rfl
  refine one_ (i := 3) (N := some 23) #[true, true, true, true, false, false] rfl rfl (by kernel_rfl) (by decide) (fun K hK => ?_)
  refine goes_ Try.func42 (by kernel_rfl) rfl #[.agg #[.int .i64 kd, .int .i64 px, .int .i64 py, .string (strOfNums key), .string (strOfNums val), .int .i64 cli, .int .i64 seq]] (by rfl) rfl rfl (by simp only [List.map_toArray, List.map_cons, List.map_nil]; rfl) ?_
  with_reducible refine (point_RightOp.calls k kd px py (strOfNums key) (strOfNums val) cli seq ok _ HR.out).mono ?_
  rintro ed wx ⟨rfl, hbx⟩
  refine ⟨_, rfl, ?_⟩
  replace HX := Aside0.mk (blk_below (by first | exact HX.out | exact blk_drew HX.out) hbx)
  replace H2 := Aside0.mk (blk_below (by first | exact H2.out | exact blk_drew H2.out) hbx)
  replace HI := Aside0.mk (IsRdr.below (by first | exact HI.out | exact HI.out.drew) hbx)
  replace HK := Aside0.mk (KeepBut.trans (by first | exact HK.out | exact keep_drew HK.out) (KeepBut.of_below hbx g none) (.inl rfl))
  replace HB := Aside0.mk (show Below w0.heap.size w0 wx from by first | exact below_then HB.out HB.out.size hbx | exact below_then (below_drew HB.out) (below_drew HB.out).size hbx)
  clear hbx
  refine hK.out _ _ ⟨(blk_cell HX.out 0), (blk_cell HX.out 1), (blk_cell HX.out 2), (blk_cell HX.out 3), (blk_cell HX.out 4), (blk_cell HX.out 5), (blk_cell HX.out 6)⟩ (fun hHeld => ?_)
  clear hK K
  refine norm_ (a' := ?_) ?_ ?_
  rotate_left
  ·show Act.put _ (some 23) _ = _
   simp only [Act.put, List.setIfInBounds_toArray, List.set_cons_zero, List.set_cons_succ, i64_w, i32_w]
   rfl
  refine one_ (i := 4) (N := some 24) #[true, true, true, true, true, false] rfl rfl (by kernel_rfl) (by decide) (fun K hK => ?_)
  refine goes_ Try.func76 (by kernel_rfl) rfl #[.pointer (some ⟨g, 0, none⟩), .agg #[.int .i64 kd, .int .i64 px, .int .i64 py, .string (strOfNums key), .string (strOfNums val), .int .i64 cli, .int .i64 seq], .bool ok] (by rfl) rfl rfl (by simp only [List.map_toArray, List.map_cons, List.map_nil]; rfl) ?_
  with_reducible refine (point_Op.calls g l6 e6 kd px py (strOfNums key) (strOfNums val) cli seq ok w0 _ (by first | exact HI.out | exact HI.out.drew) (by first | exact HB.out | exact below_drew HB.out)).mono ?_
  rintro ed wx ⟨rfl, hi, hbx, hk⟩
  refine ⟨_, rfl, ?_⟩
  rw [← HZ.out] at hi ⊢
  rw [if_pos H0.out]
  replace HX := Aside0.mk (hk.blk (by first | exact HX.out | exact blk_drew HX.out) (HI.out.at_ne HX.out (by decide)) (by simp))
  replace H2 := Aside0.mk (hk.blk (by first | exact H2.out | exact blk_drew H2.out) (HI.out.at_ne H2.out (by decide)) (by simp))
  replace HK := Aside0.mk (KeepBut.trans (by first | exact HK.out | exact keep_drew HK.out) hk (.inl rfl))
  replace HI := Aside0.mk hi
  replace HB := Aside0.mk hbx
  clear hi hbx hk
  have s0 := blk_cell H2.out 0
  have f0 := blk_frozen H2.out 0
  have s1 := blk_cell H2.out 1
  have f1 := blk_frozen H2.out 1
  have s2 := blk_cell H2.out 2
  have f2 := blk_frozen H2.out 2
  have s3 := blk_cell H2.out 3
  have f3 := blk_frozen H2.out 3
  have s4 := blk_cell H2.out 4
  have f4 := blk_frozen H2.out 4
  have s5 := blk_cell H2.out 5
  have f5 := blk_frozen H2.out 5
  have s6 := blk_cell H2.out 6
  have f6 := blk_frozen H2.out 6
  have fd0 := blk_frozen (blk_drew H2.out) 0
  refine hK.out _ _ ⟨(blk_cell HX.out 0), (blk_cell HX.out 1), (blk_cell HX.out 2), (blk_cell HX.out 3), (blk_cell HX.out 4), (blk_cell HX.out 5), (blk_cell HX.out 6)⟩ (fun hHeld => ?_)
  clear hK K
  refine norm_ (a' := ?_) ?_ ?_
  rotate_left
  ·show Act.put _ (some 24) _ = _
   simp only [Act.put, List.setIfInBounds_toArray, List.set_cons_zero, List.set_cons_succ, i64_w, i32_w]
   rfl
  refine last_ (i := 5) (N := none) #[true, true, true, true, true, true] rfl rfl (by kernel_rfl) (by decide) (fun K hK => ?_)
  refine skip_ (w1 := ?_) (by rfl) rfl ?_ ?_
  rotate_left
  ·go_simp
   rfl
  refine hK.out _ _ ?_
  clear hK K
  refine done_ (by kernel_rfl) ?_
  go_wp2_with fail
  exact bodyPost_ret (results_cell_row rfl _ _ g2 33 #[.int .i64 kd, .int .i64 px, .int .i64 py, .string (strOfNums key), .string (strOfNums val), .int .i64 cli, .int .i64 seq] (0, 0) _ rfl (blk_put (blk_put (blk_put (blk_put (blk_put (blk_put (blk_put (H2.out) 0 (.int .i64 kd) rfl) 1 (.int .i64 px) rfl) 2 (.int .i64 py) rfl) 3 (.string (strOfNums key)) rfl) 4 (.string (strOfNums val)) rfl) 5 (.int .i64 cli) rfl) 6 (.int .i64 seq) rfl) Try.underlying33 rfl rfl) rfl ⟨rfl, HI.out.keep ((((((((KeepBut.refl _ g2 none).set_ 0 (.int .i64 kd)).set_ 1 (.int .i64 px)).set_ 2 (.int .i64 py)).set_ 3 (.string (strOfNums key))).set_ 4 (.string (strOfNums val))).set_ 5 (.int .i64 cli)).set_ 6 (.int .i64 seq)) (HI.out.at_ne H2.out (by decide)) H2.out (by decide), below_set (below_set (below_set (below_set (below_set (below_set (below_set (HB.out) (Nat.le_trans HSZ.out HG2.out)) (Nat.le_trans HSZ.out HG2.out)) (Nat.le_trans HSZ.out HG2.out)) (Nat.le_trans HSZ.out HG2.out)) (Nat.le_trans HSZ.out HG2.out)) (Nat.le_trans HSZ.out HG2.out)) (Nat.le_trans HSZ.out HG2.out), keep_new HK.out ((((((((KeepBut.refl _ g2 none).set_ 0 (.int .i64 kd)).set_ 1 (.int .i64 px)).set_ 2 (.int .i64 py)).set_ 3 (.string (strOfNums key))).set_ 4 (.string (strOfNums val))).set_ 5 (.int .i64 cli)).set_ 6 (.int .i64 seq)) HG2.out⟩
 have hv := HRV.out.trans (if_neg h0)
 subst hv
 have H0 := Aside0.mk h0
 clear h0
 refine start_ (n := 6) (S := fun w' => w'.cell? ⟨g3, 0, none⟩ = some (.int .i64 kd) ∧ w'.cell? ⟨g3, 1, none⟩ = some (.int .i64 px) ∧ w'.cell? ⟨g3, 2, none⟩ = some (.int .i64 py) ∧ w'.cell? ⟨g3, 3, none⟩ = some (.string (strOfNums key)) ∧ w'.cell? ⟨g3, 4, none⟩ = some (.string (strOfNums val)) ∧ w'.cell? ⟨g3, 5, none⟩ = some (.int .i64 cli) ∧ w'.cell? ⟨g3, 6, none⟩ = some (.int .i64 seq)) (ds := [5]) #[false, false, false, false, false, false] (by kernel_rfl) rfl rfl ⟨(blk_cell HX.out 0), (blk_cell HX.out 1), (blk_cell HX.out 2), (blk_cell HX.out 3), (blk_cell HX.out 4), (blk_cell HX.out 5), (blk_cell HX.out 6)⟩ (fun hHeld => ?_)
 refine pure_ (i := 0) (N := some 20) (v := ?_) (a' := ?_) #[true, false, false, false, false, false] rfl rfl (by kernel_rfl) (fun _ _ _ h => h) (Or.inl ⟨by rfl, ?_⟩) ?_ ?_
 rotate_left
 ·intro w'
  go_simp
  with_reducible rfl
 rotate_left
 ·simp only [Act.put, List.setIfInBounds_toArray, List.set_cons_zero, List.set_cons_succ, i64_w, i32_w]
  rfl
 refine take_ (i := 1) (N := some 21) (v := ?_) (a' := ?_) #[true, true, false, false, false, false] rfl rfl (by kernel_rfl) (fun _ _ _ h => h) (Or.inl ⟨by rfl, ?_⟩) hHeld ?_ ?_
 rotate_left
 ·rintro w' ⟨s0, s1, s2, s3, s4, s5, s6⟩
  go_simp
  with_reducible rfl
 rotate_left
 ·simp only [Act.put, List.setIfInBounds_toArray, List.set_cons_zero, List.set_cons_succ, i64_w, i32_w]
  rfl
 refine take_ (i := 2) (N := some 22) (v := ?_) (a' := ?_) #[true, true, true, false, false, false] rfl rfl (by kernel_rfl) (fun _ _ _ h => h) (Or.inl ⟨by rfl, ?_⟩) hHeld ?_ ?_
 rotate_left
 ·rintro w' ⟨s0, s1, s2, s3, s4, s5, s6⟩
  go_simp
  with_reducible rfl
 rotate_left
 ·simp only [Act.put, List.setIfInBounds_toArray, List.set_cons_zero, List.set_cons_succ, i64_w, i32_w]
  rfl
 refine one_ (i := 3) (N := some 23) #[true, true, true, true, false, false] rfl rfl (by kernel_rfl) (by decide) (fun K hK => ?_)
 refine goes_ Try.func42 (by kernel_rfl) rfl #[.agg #[.int .i64 kd, .int .i64 px, .int .i64 py, .string (strOfNums key), .string (strOfNums val), .int .i64 cli, .int .i64 seq]] (by rfl) rfl rfl (by simp only [List.map_toArray, List.map_cons, List.map_nil]; rfl) ?_
 with_reducible refine (point_RightOp.calls k kd px py (strOfNums key) (strOfNums val) cli seq ok _ HR.out).mono ?_
 rintro ed wx ⟨rfl, hbx⟩
 refine ⟨_, rfl, ?_⟩
 replace HX := Aside0.mk (blk_below (by first | exact HX.out | exact blk_drew HX.out) hbx)
 replace H2 := Aside0.mk (blk_below (by first | exact H2.out | exact blk_drew H2.out) hbx)
 replace HI := Aside0.mk (IsRdr.below (by first | exact HI.out | exact HI.out.drew) hbx)
 replace HK := Aside0.mk (KeepBut.trans (by first | exact HK.out | exact keep_drew HK.out) (KeepBut.of_below hbx g none) (.inl rfl))
 replace HB := Aside0.mk (show Below w0.heap.size w0 wx from by first | exact below_then HB.out HB.out.size hbx | exact below_then (below_drew HB.out) (below_drew HB.out).size hbx)
 clear hbx
 refine hK.out _ _ ⟨(blk_cell HX.out 0), (blk_cell HX.out 1), (blk_cell HX.out 2), (blk_cell HX.out 3), (blk_cell HX.out 4), (blk_cell HX.out 5), (blk_cell HX.out 6)⟩ (fun hHeld => ?_)
 clear hK K
 refine norm_ (a' := ?_) ?_ ?_
 rotate_left
 ·show Act.put _ (some 23) _ = _
  simp only [Act.put, List.setIfInBounds_toArray, List.set_cons_zero, List.set_cons_succ, i64_w, i32_w]
  rfl
 refine one_ (i := 4) (N := some 24) #[true, true, true, true, true, false] rfl rfl (by kernel_rfl) (by decide) (fun K hK => ?_)
 refine goes_ Try.func76 (by kernel_rfl) rfl #[.pointer (some ⟨g, 0, none⟩), .agg #[.int .i64 kd, .int .i64 px, .int .i64 py, .string (strOfNums key), .string (strOfNums val), .int .i64 cli, .int .i64 seq], .bool ok] (by rfl) rfl rfl (by simp only [List.map_toArray, List.map_cons, List.map_nil]; rfl) ?_
 with_reducible refine (point_Op.calls g l6 e6 kd px py (strOfNums key) (strOfNums val) cli seq ok w0 _ (by first | exact HI.out | exact HI.out.drew) (by first | exact HB.out | exact below_drew HB.out)).mono ?_
 rintro ed wx ⟨rfl, hi, hbx, hk⟩
 refine ⟨_, rfl, ?_⟩
 rw [← HZ.out] at hi ⊢
 rw [if_neg H0.out]
 replace HX := Aside0.mk (hk.blk (by first | exact HX.out | exact blk_drew HX.out) (HI.out.at_ne HX.out (by decide)) (by simp))
 replace H2 := Aside0.mk (hk.blk (by first | exact H2.out | exact blk_drew H2.out) (HI.out.at_ne H2.out (by decide)) (by simp))
 replace HK := Aside0.mk (KeepBut.trans (by first | exact HK.out | exact keep_drew HK.out) hk (.inl rfl))
 replace HI := Aside0.mk hi
 replace HB := Aside0.mk hbx
 clear hi hbx hk
 have s0 := blk_cell H2.out 0
 have f0 := blk_frozen H2.out 0
 have s1 := blk_cell H2.out 1
 have f1 := blk_frozen H2.out 1
 have s2 := blk_cell H2.out 2
 have f2 := blk_frozen H2.out 2
 have s3 := blk_cell H2.out 3
 have f3 := blk_frozen H2.out 3
 have s4 := blk_cell H2.out 4
 have f4 := blk_frozen H2.out 4
 have s5 := blk_cell H2.out 5
 have f5 := blk_frozen H2.out 5
 have s6 := blk_cell H2.out 6
 have f6 := blk_frozen H2.out 6
 have fd0 := blk_frozen (blk_drew H2.out) 0
 refine hK.out _ _ ⟨(blk_cell HX.out 0), (blk_cell HX.out 1), (blk_cell HX.out 2), (blk_cell HX.out 3), (blk_cell HX.out 4), (blk_cell HX.out 5), (blk_cell HX.out 6)⟩ (fun hHeld => ?_)
 clear hK K
 refine norm_ (a' := ?_) ?_ ?_
 rotate_left
 ·show Act.put _ (some 24) _ = _
  simp only [Act.put, List.setIfInBounds_toArray, List.set_cons_zero, List.set_cons_succ, i64_w, i32_w]
  rfl
 refine last_ (i := 5) (N := none) #[true, true, true, true, true, true] rfl rfl (by kernel_rfl) (by decide) (fun K hK => ?_)
 refine skip_ (w1 := ?_) (by rfl) rfl ?_ ?_
 rotate_left
 ·go_simp
  rfl
 refine hK.out _ _ ?_
 clear hK K
 refine done_ (by kernel_rfl) ?_
 go_wp2_with fail
 exact bodyPost_ret (results_cell_row rfl _ _ g2 33 #[.int .i64 0, .int .i64 0, .int .i64 0, .string ⟨#[]⟩, .string ⟨#[]⟩, .int .i64 0, .int .i64 0] (0, 0) _ rfl (blk_put (blk_put (blk_put (blk_put (blk_put (blk_put (blk_put (H2.out) 0 (.int .i64 0) rfl) 1 (.int .i64 0) rfl) 2 (.int .i64 0) rfl) 3 (.string ⟨#[]⟩) rfl) 4 (.string ⟨#[]⟩) rfl) 5 (.int .i64 0) rfl) 6 (.int .i64 0) rfl) Try.underlying33 rfl rfl) rfl ⟨rfl, HI.out.keep ((((((((KeepBut.refl _ g2 none).set_ 0 (.int .i64 0)).set_ 1 (.int .i64 0)).set_ 2 (.int .i64 0)).set_ 3 (.string ⟨#[]⟩)).set_ 4 (.string ⟨#[]⟩)).set_ 5 (.int .i64 0)).set_ 6 (.int .i64 0)) (HI.out.at_ne H2.out (by decide)) H2.out (by decide), below_set (below_set (below_set (below_set (below_set (below_set (below_set (HB.out) (Nat.le_trans HSZ.out HG2.out)) (Nat.le_trans HSZ.out HG2.out)) (Nat.le_trans HSZ.out HG2.out)) (Nat.le_trans HSZ.out HG2.out)) (Nat.le_trans HSZ.out HG2.out)) (Nat.le_trans HSZ.out HG2.out)) (Nat.le_trans HSZ.out HG2.out), keep_new HK.out ((((((((KeepBut.refl _ g2 none).set_ 0 (.int .i64 0)).set_ 1 (.int .i64 0)).set_ 2 (.int .i64 0)).set_ 3 (.string ⟨#[]⟩)).set_ 4 (.string ⟨#[]⟩)).set_ 5 (.int .i64 0)).set_ 6 (.int .i64 0)) HG2.out⟩

end
section
open Go.RowKit Go.Proofs.YtampppdjfbabiaaW.PrintWords Go.Proofs.YtampppdjfbabiaaW.PrintLast Go.Proofs.YtampppdjfbabiaaW.PrintMore
attribute [local go_sem] max2_int min2_int max_two min_two max_three min_three max_four min_four   -- for this text's walks alone
set_option linter.unusedVariables false
set_option linter.unusedSimpArgs false

--OWN Derived.RegionTactic,Derived.BigRegion,Derived.Laws.Rows,Derived.Laws.Tables
/-! ### entry_Take: function 32 -/
theorem keep_row {w W : World} {g : Nat} (h : KeepBut w W g none) (cs : Array Value) : KeepBut w (W.setRow g cs) g none :=
 ⟨by have := h.1; simp; exact this, fun i hi hne hr => (setRow_other _ _ _ _ hne).trans (h.2 i hi hne hr)⟩
theorem below_row {B : Nat} {w W : World} {g : Nat} (h : Below B w W) (hg : B ≤ g) (cs : Array Value) : Below B w (W.setRow g cs) :=
 ⟨h.os, h.tape, h.output, by have := h.size; simp; omega, fun k hk => (setRow_other _ _ _ _ (by omega)).trans (h.block k hk)⟩
/-- An entry: Kind, Op, Node, Epoch, By, Chain. -/
structure ERow where
 k : Int
 o0 : Int
 o1 : Int
 o2 : Int
 o3 : ByteArray
 o4 : ByteArray
 o5 : Int
 o6 : Int
 n : Int
 ep : Int
 by_ : Int
 ch : List Int
def ERow.zero : ERow := ⟨0, 0, 0, 0, ⟨#[]⟩, ⟨#[]⟩, 0, 0, 0, 0, 0, []⟩
/-- What TakeOp does, told of the reader. -/
def OpTake (w0 : World) (g : Nat) (l : List Int) (e o0 o1 o2 : Int) (o3 o4 : ByteArray) (o5 o6 : Int) (l' : List Int) (e' : Int) : Prop := ∀ W, IsRdr w0 W g l e true → Below w0.heap.size w0 W → Calls Try.prog 56 #[.pointer (some ⟨g, 0, none⟩)] W fun ed w' => ed = .returned (.agg #[.int .i64 o0, .int .i64 o1, .int .i64 o2, .string o3, .string o4, .int .i64 o5, .int .i64 o6]) ∧ IsRdr w0 w' g l' e' true ∧ Below w0.heap.size w0 w' ∧ KeepBut W w' g none
def ChTake (w0 : World) (g : Nat) (l : List Int) (e : Int) (ch l' : List Int) (e' : Int) : Prop := ∀ W, IsRdr w0 W g l e true → Below w0.heap.size w0 W → Calls Try.prog 37 #[.pointer (some ⟨g, 0, none⟩)] W fun ed w' => ∃ v0_ : Value, ed = .returned v0_ ∧ Kd.R (Kd.int .i64) 3 w' W.heap.size (fun _ => True) v0_ ch ∧ IsRdr w0 w' g l' e' true ∧ Below w0.heap.size w0 w' ∧ KeepBut W w' g none
/-- What Take reads ahead of its check. -/
def EMid (w0 : World) (g : Nat) (l : List Int) (e : Int) (r : ERow) (l2 : List Int) (e2 : Int) : Prop := ∃ kd l1 e1, rdNum l e true = (kd, l1, e1) ∧
 ((kd = 1 ∧ ∃ o0 o1 o2 o3 o4 o5 o6, r = ⟨1, o0, o1, o2, o3, o4, o5, o6, 0, 0, 0, []⟩ ∧ OpTake w0 g l1 e1 o0 o1 o2 o3 o4 o5 o6 l2 e2) ∨
  ((kd = 2 ∨ kd = 3) ∧ ∃ n, r = ⟨kd, 0, 0, 0, ⟨#[]⟩, ⟨#[]⟩, 0, 0, n, 0, 0, []⟩ ∧ rdNum l1 e1 true = (n, l2, e2)) ∨
  ((kd = 4 ∨ kd = 5) ∧ ∃ n ep by_ ch l3 e3 l4 e4 l5 e5, r = ⟨kd, 0, 0, 0, ⟨#[]⟩, ⟨#[]⟩, 0, 0, n, ep, by_, ch⟩ ∧ rdNum l1 e1 true = (n, l3, e3) ∧ rdNum l3 e3 true = (ep, l4, e4) ∧ rdNum l4 e4 true = (by_, l5, e5) ∧ ChTake w0 g l5 e5 ch l2 e2) ∨
  ((kd ≠ 1 ∧ kd ≠ 2 ∧ kd ≠ 3 ∧ kd ≠ 4 ∧ kd ≠ 5) ∧ r = ⟨kd, 0, 0, 0, ⟨#[]⟩, ⟨#[]⟩, 0, 0, 0, 0, 0, []⟩ ∧ l2 = l1 ∧ e2 = e1))
theorem row_keep {w w1 : World} {base g t : Nat} {v : Value} {xs : List Int} {cs : Array Value} (h : Kd.R (Kd.int .i64) 3 w base (fun _ => True) v xs) (hk : KeepBut w w1 g none) (hg : w.heap[g]? = some (.cells cs t (0, 0))) (ht : t ≠ 3) : Kd.R (Kd.int .i64) 3 w1 base (fun _ => True) v xs :=
 Kd.R_mono (Kd.R_keep (Kd.R_types h hg (fun q hq => by
  have : q = 3 := List.mem_singleton.mp (show q ∈ [3] from hq)
  rw [this]
  exact ht.symm)) hk (fun _ h => h.2)) (fun _ _ => trivial)
set_option maxHeartbeats 16000000 in
set_option maxRecDepth 100000 in
theorem entry_Take.calls (k g : Nat) (l : List Int) (e : Int) (r : ERow) (l2 : List Int) (e2 : Int) (ok : Bool) (w0 w : World) (hM : EMid w0 g l e r l2 e2) (hR : entry_Right.f k r.k r.o0 r.o1 r.o2 r.o3 r.o4 r.o5 r.o6 r.n r.ep r.by_ r.ch = some ok) (out : ERow) (hO : out = if tkE ok e2 = 0 then r else ERow.zero) (hI : IsRdr w0 w g l e true) (hB : Below w0.heap.size w0 w) :
  Calls Try.prog 32 #[.pointer (some ⟨g, 0, none⟩)] w fun ed w' => ∃ v11 : Value, ed = .returned (.agg #[.int .i64 out.k, .int .i64 out.o0, .int .i64 out.o1, .int .i64 out.o2, .string out.o3, .string out.o4, .int .i64 out.o5, .int .i64 out.o6, .int .i64 out.n, .int .i64 out.ep, .int .i64 out.by_, v11]) ∧ Kd.R (Kd.int .i64) 3 w' w.heap.size (fun _ => True) v11 out.ch ∧ IsRdr w0 w' g l2 (tkE ok e2) true ∧ Below w0.heap.size w0 w' ∧ KeepBut w w' g none := by
 have HI := Aside0.mk hI
 have HB := Aside0.mk hB
 have HSZ := Aside0.mk hB.size
 have HK := Aside0.mk (KeepBut.refl w g none)
 have HR := Aside0.mk hR
 have HO := Aside0.mk hO
 have HGL := Aside0.mk (show g < w.heap.size by
  obtain ⟨cs, hcs⟩ := hI.blk1
  exact blk_lt hcs)
 obtain ⟨z, hz⟩ : ∃ z, z = tkE ok e2 := ⟨_, rfl⟩
 rw [← hz] at HO ⊢
 have HZ := Aside0.mk hz
 obtain ⟨kd, l1, e1, hk1, hway⟩ := hM
 have HKD := Aside0.mk hk1
 have HWAY := Aside0.mk hway
 clear hI hB hR hO hz hk1 hway
 go_enter Try.func32, Try.ntmps32
 go_wp2_with (first | ((with_reducible refine gate_dst (N := 2) rfl ?_); refine box_event ?hg (N := 2) ?hd (cs := #[.int .i64 0, .int .i64 0, .int .i64 0, .int .i64 0, .string ⟨#[]⟩, .string ⟨#[]⟩, .int .i64 0, .int .i64 0, .int .i64 0, .int .i64 0, .int .i64 0, .slice none 0 0]) (t := 35) ?hr ?_; (case hd => rfl); (case hg => rfl); (case hr => first | (go_simp; done) | (go_simp; rfl)); intro g2 hg w2 hbox hb; have H2 := Aside0.mk hbox; have HG2 := Aside0.mk (show w.heap.size ≤ g2 by rw [hg]; exact HK.out.1); replace HI := Aside0.mk (HI.out.below hb); replace HK := Aside0.mk (HK.out.trans (KeepBut.of_below hb g none) (.inl rfl)); replace HB := Aside0.mk (below_then HB.out HB.out.size hb); clear hbox hb hg) | fail)
 have hq := wire_Reader_Num.calls g l e true w0 _ HI.out HB.out
 rw [HKD.out] at hq
 dsimp only at hq
 refine hq.mono ?_
 clear hq
 rintro ed0 wr0 ⟨rfl, hi, hbx, hk⟩
 replace H2 := Aside0.mk (hk.blk H2.out (HI.out.at_ne H2.out (by decide)) (by simp))
 replace HK := Aside0.mk (HK.out.trans hk (.inl rfl))
 replace HI := Aside0.mk hi
 replace HB := Aside0.mk hbx
 clear hi hbx hk
 obtain ⟨hkd, hsel⟩ | ⟨hkd, hsel⟩ | ⟨hkd, hsel⟩ | ⟨hkd, hsel⟩ := HWAY.out
 ·clear HWAY
  subst hkd
  as_aux_lemma =>
  go_wp2_with (first | ((with_reducible refine gate_dst (N := 3) rfl ?_); refine box_event ?hg (N := 3) ?hd (cs := #[.int .i64 0, .int .i64 0, .int .i64 0, .int .i64 0, .string ⟨#[]⟩, .string ⟨#[]⟩, .int .i64 0, .int .i64 0, .int .i64 0, .int .i64 0, .int .i64 0, .slice none 0 0]) (t := 35) ?hr ?_; (case hd => rfl); (case hg => rfl); (case hr => first | (go_simp; done) | (go_simp; rfl)); intro g3 hg w3 hbox hb; have H3 := Aside0.mk hbox; have HNE := Aside0.mk (show g2 ≠ g3 by have := blk_lt H2.out; omega); have HG3 := Aside0.mk (show w.heap.size ≤ g3 by rw [hg]; exact HK.out.1); replace H2 := Aside0.mk (blk_below H2.out hb); replace HI := Aside0.mk (HI.out.below hb); replace HK := Aside0.mk (HK.out.trans (KeepBut.of_below hb g none) (.inl rfl)); replace HB := Aside0.mk (below_then HB.out HB.out.size hb); clear hbox hb hg) | ((with_reducible refine gate_store (t := 35) (p := 3) rfl ?_); refine wpList_store_row rfl 35 (.tmp 3) (.tmp 6) rfl g3 #[.int .i64 1, .int .i64 0, .int .i64 0, .int .i64 0, .string ⟨#[]⟩, .string ⟨#[]⟩, .int .i64 0, .int .i64 0, .int .i64 0, .int .i64 0, .int .i64 0, .slice none 0 0] ?hx ?hy 35 _ H3.out (by kernel_rfl) rfl (by simp [Value.oneCell']) ?_; (case hx => rfl); (case hy => rfl); have H3N := Aside0.mk (setRow_heap _ g3 _ #[.int .i64 1, .int .i64 0, .int .i64 0, .int .i64 0, .string ⟨#[]⟩, .string ⟨#[]⟩, .int .i64 0, .int .i64 0, .int .i64 0, .int .i64 0, .int .i64 0, .slice none 0 0] _ _ H3.out); have hkr := keep_row (KeepBut.refl w3 g3 none) #[.int .i64 1, .int .i64 0, .int .i64 0, .int .i64 0, .string ⟨#[]⟩, .string ⟨#[]⟩, .int .i64 0, .int .i64 0, .int .i64 0, .int .i64 0, .int .i64 0, .slice none 0 0]; replace H2 := Aside0.mk (hkr.blk H2.out HNE.out (by simp)); replace HI := Aside0.mk (HI.out.keep hkr (HI.out.at_ne H3.out (by decide)) H3.out (by decide)); replace HB := Aside0.mk (below_row HB.out (Nat.le_trans HSZ.out HG3.out) #[.int .i64 1, .int .i64 0, .int .i64 0, .int .i64 0, .string ⟨#[]⟩, .string ⟨#[]⟩, .int .i64 0, .int .i64 0, .int .i64 0, .int .i64 0, .int .i64 0, .slice none 0 0]); replace HK := Aside0.mk (keep_new HK.out hkr HG3.out); generalize w3.setRow g3 #[.int .i64 1, .int .i64 0, .int .i64 0, .int .i64 0, .string ⟨#[]⟩, .string ⟨#[]⟩, .int .i64 0, .int .i64 0, .int .i64 0, .int .i64 0, .int .i64 0, .slice none 0 0] = w4 at H3N H2 HI HB HK ⊢; clear H3 hkr; have H3 := H3N; clear H3N; have c0 : w4.cell? ⟨g3, 0, none⟩ = some (.int .i64 1) := blk_cell H3.out 0) | fail)
  obtain ⟨o0, o1, o2, o3, o4, o5, o6, rfl, hop⟩ := hsel
  refine (hop _ HI.out HB.out).mono ?_
  rintro ed1 wO ⟨rfl, hi, hbx, hk⟩
  replace H3 := Aside0.mk (hk.blk H3.out (HI.out.at_ne H3.out (by decide)) (by simp))
  replace H2 := Aside0.mk (hk.blk H2.out (HI.out.at_ne H2.out (by decide)) (by simp))
  replace HK := Aside0.mk (HK.out.trans hk (.inl rfl))
  replace HI := Aside0.mk hi
  replace HB := Aside0.mk hbx
  clear hi hbx hk hop c0
  have p1 : wO.cell? ⟨g3, 1, none⟩ = some (.int .i64 0) := blk_cell H3.out 1
  have p2 : wO.cell? ⟨g3, 2, none⟩ = some (.int .i64 0) := blk_cell H3.out 2
  have p3 : wO.cell? ⟨g3, 3, none⟩ = some (.int .i64 0) := blk_cell H3.out 3
  have p4 : wO.cell? ⟨g3, 4, none⟩ = some (.string ⟨#[]⟩) := blk_cell H3.out 4
  have p5 : wO.cell? ⟨g3, 5, none⟩ = some (.string ⟨#[]⟩) := blk_cell H3.out 5
  have p6 : wO.cell? ⟨g3, 6, none⟩ = some (.int .i64 0) := blk_cell H3.out 6
  have p7 : wO.cell? ⟨g3, 7, none⟩ = some (.int .i64 0) := blk_cell H3.out 7
  have f1 : wO.frozen? ⟨g3, 1, none⟩ = false := blk_frozen H3.out 1
  have f2 : wO.frozen? ⟨g3, 2, none⟩ = false := blk_frozen H3.out 2
  have f3 : wO.frozen? ⟨g3, 3, none⟩ = false := blk_frozen H3.out 3
  have f4 : wO.frozen? ⟨g3, 4, none⟩ = false := blk_frozen H3.out 4
  have f5 : wO.frozen? ⟨g3, 5, none⟩ = false := blk_frozen H3.out 5
  have f6 : wO.frozen? ⟨g3, 6, none⟩ = false := blk_frozen H3.out 6
  have f7 : wO.frozen? ⟨g3, 7, none⟩ = false := blk_frozen H3.out 7
  go_wp2_with (first | ((with_reducible refine gate_dst (N := 35) rfl ?_); have hkr := fun W => (((((((KeepBut.refl W g3 none).set_ 1 (.int .i64 o0)).set_ 2 (.int .i64 o1)).set_ 3 (.int .i64 o2)).set_ 4 (.string o3)).set_ 5 (.string o4)).set_ 6 (.int .i64 o5)).set_ 7 (.int .i64 o6); have H3N := Aside0.mk (show (World.setCell (World.setCell (World.setCell (World.setCell (World.setCell (World.setCell (World.setCell wO ⟨g3, 1, none⟩ (.int .i64 o0)) ⟨g3, 2, none⟩ (.int .i64 o1)) ⟨g3, 3, none⟩ (.int .i64 o2)) ⟨g3, 4, none⟩ (.string o3)) ⟨g3, 5, none⟩ (.string o4)) ⟨g3, 6, none⟩ (.int .i64 o5)) ⟨g3, 7, none⟩ (.int .i64 o6)).heap[g3]? = some (.cells #[.int .i64 1, .int .i64 o0, .int .i64 o1, .int .i64 o2, .string o3, .string o4, .int .i64 o5, .int .i64 o6, .int .i64 0, .int .i64 0, .int .i64 0, .slice none 0 0] 35 (0, 0)) from blk_put (blk_put (blk_put (blk_put (blk_put (blk_put (blk_put (H3.out) 1 (.int .i64 o0) rfl) 2 (.int .i64 o1) rfl) 3 (.int .i64 o2) rfl) 4 (.string o3) rfl) 5 (.string o4) rfl) 6 (.int .i64 o5) rfl) 7 (.int .i64 o6) rfl); replace H2 := Aside0.mk ((hkr wO).blk H2.out HNE.out (by simp)); replace HI := Aside0.mk (HI.out.keep (hkr wO) (HI.out.at_ne H3.out (by decide)) H3.out (by decide)); replace HB := Aside0.mk (show Below w0.heap.size w0 (World.setCell (World.setCell (World.setCell (World.setCell (World.setCell (World.setCell (World.setCell wO ⟨g3, 1, none⟩ (.int .i64 o0)) ⟨g3, 2, none⟩ (.int .i64 o1)) ⟨g3, 3, none⟩ (.int .i64 o2)) ⟨g3, 4, none⟩ (.string o3)) ⟨g3, 5, none⟩ (.string o4)) ⟨g3, 6, none⟩ (.int .i64 o5)) ⟨g3, 7, none⟩ (.int .i64 o6)) from below_set (below_set (below_set (below_set (below_set (below_set (below_set (HB.out) (Nat.le_trans HSZ.out HG3.out)) (Nat.le_trans HSZ.out HG3.out)) (Nat.le_trans HSZ.out HG3.out)) (Nat.le_trans HSZ.out HG3.out)) (Nat.le_trans HSZ.out HG3.out)) (Nat.le_trans HSZ.out HG3.out)) (Nat.le_trans HSZ.out HG3.out)); replace HK := Aside0.mk (keep_new HK.out (hkr wO) HG3.out); clear H3; have H3 := H3N; clear H3N hkr; generalize hWW : (World.setCell (World.setCell (World.setCell (World.setCell (World.setCell (World.setCell (World.setCell wO ⟨g3, 1, none⟩ (.int .i64 o0)) ⟨g3, 2, none⟩ (.int .i64 o1)) ⟨g3, 3, none⟩ (.int .i64 o2)) ⟨g3, 4, none⟩ (.string o3)) ⟨g3, 5, none⟩ (.string o4)) ⟨g3, 6, none⟩ (.int .i64 o5)) ⟨g3, 7, none⟩ (.int .i64 o6)) = wP at H3 H2 HI HB HK ⊢; clear hWW; clear p1 f1 p2 f2 p3 f3 p4 f4 p5 f5 p6 f6 p7 f7; refine wpList_load_row rfl 35 (.tmp 3) rfl g3 ?hx 35 #[.int .i64 1, .int .i64 o0, .int .i64 o1, .int .i64 o2, .string o3, .string o4, .int .i64 o5, .int .i64 o6, .int .i64 0, .int .i64 0, .int .i64 0, .slice none 0 0] (0, 0) _ H3.out Try.underlying35 rfl (by kernel_rfl) ?_; (case hx => rfl)) | fail)
  refine (entry_Right.calls k 1 o0 o1 o2 o3 o4 o5 o6 0 0 0 none 0 [] ok _ (Kd.C_nil _ _) (Nat.le_refl _) HR.out).mono ?_
  rintro e wR ⟨rfl, hb⟩
  replace H2 := Aside0.mk (blk_below H2.out hb)
  replace H3 := Aside0.mk (blk_below H3.out hb)
  replace HI := Aside0.mk (HI.out.below hb)
  replace HK := Aside0.mk (HK.out.trans (KeepBut.of_below hb g none) (.inl rfl))
  replace HB := Aside0.mk (below_then HB.out HB.out.size hb)
  clear hb
  cases ok
  focus
   go_wp2_with fail
   refine (wire_Reader_Fail.calls g l2 e2 true 21 w0 _ HI.out HB.out).mono ?_
   rintro e1 wF ⟨rfl, hi, hbx, hk⟩
   replace H2 := Aside0.mk (hk.blk H2.out (HI.out.at_ne H2.out (by decide)) (by simp))
   replace HK := Aside0.mk (HK.out.trans hk (.inl rfl))
   replace HB := Aside0.mk hbx
   have hz2 : (if rdOk e2 true = true then (21 : Int) else e2) = z := by
    rw [HZ.out]
    unfold tkE rdOk
    by_cases q : e2 = 0 <;> simp [q]
   rw [hz2] at hi
   replace HI := Aside0.mk hi
   have hz0 : z ≠ 0 := by
    rw [HZ.out]
    unfold tkE
    by_cases q : e2 = 0 <;> simp [q]
   have HZ0 := Aside0.mk hz0
   clear hi hbx hk hz2 hz0
   go_wp2_with fail
   refine (wire_Reader_Err.calls g l2 z true w0 _ HI.out).mono ?_
   rintro e2 wE ⟨rfl, rfl⟩
   rw [if_pos (rfl : true = true)]
   have hzb : (z != 0) = true := bne_iff_ne.mpr HZ0.out
   obtain rfl : out = ERow.zero := HO.out.trans (if_neg HZ0.out)
   clear HO
   go_wp2_with (first | ((with_reducible refine gate_store (t := 35) (p := 2) rfl ?_); refine wpList_store_row rfl 35 (.tmp 2) (.tmp 43) rfl g2 #[.int .i64 0, .int .i64 0, .int .i64 0, .int .i64 0, .string ⟨#[]⟩, .string ⟨#[]⟩, .int .i64 0, .int .i64 0, .int .i64 0, .int .i64 0, .int .i64 0, .slice none 0 0] ?hx ?hy 35 _ H2.out (by kernel_rfl) rfl (by simp [Value.oneCell']) ?_; (case hx => rfl); (case hy => rfl)) | fail)
   have hkr_ := fun W => keep_row (KeepBut.refl W g2 none) #[.int .i64 0, .int .i64 0, .int .i64 0, .int .i64 0, .string ⟨#[]⟩, .string ⟨#[]⟩, .int .i64 0, .int .i64 0, .int .i64 0, .int .i64 0, .int .i64 0, .slice none 0 0]
   exact bodyPost_ret (results_cell_row rfl _ _ g2 35 #[.int .i64 0, .int .i64 0, .int .i64 0, .int .i64 0, .string ⟨#[]⟩, .string ⟨#[]⟩, .int .i64 0, .int .i64 0, .int .i64 0, .int .i64 0, .int .i64 0, .slice none 0 0] (0, 0) _ rfl (setRow_heap _ _ _ #[.int .i64 0, .int .i64 0, .int .i64 0, .int .i64 0, .string ⟨#[]⟩, .string ⟨#[]⟩, .int .i64 0, .int .i64 0, .int .i64 0, .int .i64 0, .int .i64 0, .slice none 0 0] _ _ H2.out) Try.underlying35 rfl rfl) rfl ⟨_, rfl, Kd.R_nil _ _ _ _ _, HI.out.keep (hkr_ _) (HI.out.at_ne H2.out (by decide)) H2.out (by decide), below_row HB.out (Nat.le_trans HSZ.out HG2.out) _, keep_new HK.out (hkr_ _) HG2.out⟩
  have hz2 : z = e2 := HZ.out
  rw [← hz2] at HI
  clear hz2
  go_wp2_with fail
  refine (wire_Reader_Err.calls g l2 z true w0 _ HI.out).mono ?_
  rintro e2 wE ⟨rfl, rfl⟩
  rw [if_pos (rfl : true = true)]
  by_cases hz0 : z = 0
  focus
   have hzb : (z != 0) = false := by rw [hz0]; rfl
   obtain rfl := HO.out.trans (if_pos hz0)
   clear HO hz0
   go_wp2_with (first | ((with_reducible refine gate_dst (N := 44) rfl ?_); refine wpList_load_row rfl 35 (.tmp 3) rfl g3 ?hx 35 #[.int .i64 1, .int .i64 o0, .int .i64 o1, .int .i64 o2, .string o3, .string o4, .int .i64 o5, .int .i64 o6, .int .i64 0, .int .i64 0, .int .i64 0, .slice none 0 0] (0, 0) _ H3.out Try.underlying35 rfl (by kernel_rfl) ?_; (case hx => rfl)) | ((with_reducible refine gate_store (t := 35) (p := 2) rfl ?_); refine wpList_store_row rfl 35 (.tmp 2) (.tmp 44) rfl g2 #[.int .i64 1, .int .i64 o0, .int .i64 o1, .int .i64 o2, .string o3, .string o4, .int .i64 o5, .int .i64 o6, .int .i64 0, .int .i64 0, .int .i64 0, .slice none 0 0] ?hx ?hy 35 _ H2.out (by kernel_rfl) rfl (by simp [Value.oneCell']) ?_; (case hx => rfl); (case hy => rfl)) | fail)
   have hkr_ := fun W => keep_row (KeepBut.refl W g2 none) #[.int .i64 1, .int .i64 o0, .int .i64 o1, .int .i64 o2, .string o3, .string o4, .int .i64 o5, .int .i64 o6, .int .i64 0, .int .i64 0, .int .i64 0, .slice none 0 0]
   exact bodyPost_ret (results_cell_row rfl _ _ g2 35 #[.int .i64 1, .int .i64 o0, .int .i64 o1, .int .i64 o2, .string o3, .string o4, .int .i64 o5, .int .i64 o6, .int .i64 0, .int .i64 0, .int .i64 0, .slice none 0 0] (0, 0) _ rfl (setRow_heap _ _ _ #[.int .i64 1, .int .i64 o0, .int .i64 o1, .int .i64 o2, .string o3, .string o4, .int .i64 o5, .int .i64 o6, .int .i64 0, .int .i64 0, .int .i64 0, .slice none 0 0] _ _ H2.out) Try.underlying35 rfl rfl) rfl ⟨_, rfl, Kd.R_nil _ _ _ _ _, HI.out.keep (hkr_ _) (HI.out.at_ne H2.out (by decide)) H2.out (by decide), below_row HB.out (Nat.le_trans HSZ.out HG2.out) _, keep_new HK.out (hkr_ _) HG2.out⟩
  have hzb : (z != 0) = true := bne_iff_ne.mpr hz0
  obtain rfl : out = ERow.zero := HO.out.trans (if_neg hz0)
  clear HO hz0
  go_wp2_with (first | ((with_reducible refine gate_store (t := 35) (p := 2) rfl ?_); refine wpList_store_row rfl 35 (.tmp 2) (.tmp 43) rfl g2 #[.int .i64 0, .int .i64 0, .int .i64 0, .int .i64 0, .string ⟨#[]⟩, .string ⟨#[]⟩, .int .i64 0, .int .i64 0, .int .i64 0, .int .i64 0, .int .i64 0, .slice none 0 0] ?hx ?hy 35 _ H2.out (by kernel_rfl) rfl (by simp [Value.oneCell']) ?_; (case hx => rfl); (case hy => rfl)) | fail)
  have hkr_ := fun W => keep_row (KeepBut.refl W g2 none) #[.int .i64 0, .int .i64 0, .int .i64 0, .int .i64 0, .string ⟨#[]⟩, .string ⟨#[]⟩, .int .i64 0, .int .i64 0, .int .i64 0, .int .i64 0, .int .i64 0, .slice none 0 0]
  exact bodyPost_ret (results_cell_row rfl _ _ g2 35 #[.int .i64 0, .int .i64 0, .int .i64 0, .int .i64 0, .string ⟨#[]⟩, .string ⟨#[]⟩, .int .i64 0, .int .i64 0, .int .i64 0, .int .i64 0, .int .i64 0, .slice none 0 0] (0, 0) _ rfl (setRow_heap _ _ _ #[.int .i64 0, .int .i64 0, .int .i64 0, .int .i64 0, .string ⟨#[]⟩, .string ⟨#[]⟩, .int .i64 0, .int .i64 0, .int .i64 0, .int .i64 0, .int .i64 0, .slice none 0 0] _ _ H2.out) Try.underlying35 rfl rfl) rfl ⟨_, rfl, Kd.R_nil _ _ _ _ _, HI.out.keep (hkr_ _) (HI.out.at_ne H2.out (by decide)) H2.out (by decide), below_row HB.out (Nat.le_trans HSZ.out HG2.out) _, keep_new HK.out (hkr_ _) HG2.out⟩
 ·clear HWAY
  rcases hkd with rfl | rfl
  ·as_aux_lemma =>
   go_wp2_with (first | ((with_reducible refine gate_dst (N := 3) rfl ?_); refine box_event ?hg (N := 3) ?hd (cs := #[.int .i64 0, .int .i64 0, .int .i64 0, .int .i64 0, .string ⟨#[]⟩, .string ⟨#[]⟩, .int .i64 0, .int .i64 0, .int .i64 0, .int .i64 0, .int .i64 0, .slice none 0 0]) (t := 35) ?hr ?_; (case hd => rfl); (case hg => rfl); (case hr => first | (go_simp; done) | (go_simp; rfl)); intro g3 hg w3 hbox hb; have H3 := Aside0.mk hbox; have HNE := Aside0.mk (show g2 ≠ g3 by have := blk_lt H2.out; omega); have HG3 := Aside0.mk (show w.heap.size ≤ g3 by rw [hg]; exact HK.out.1); replace H2 := Aside0.mk (blk_below H2.out hb); replace HI := Aside0.mk (HI.out.below hb); replace HK := Aside0.mk (HK.out.trans (KeepBut.of_below hb g none) (.inl rfl)); replace HB := Aside0.mk (below_then HB.out HB.out.size hb); clear hbox hb hg) | ((with_reducible refine gate_store (t := 35) (p := 3) rfl ?_); refine wpList_store_row rfl 35 (.tmp 3) (.tmp 6) rfl g3 #[.int .i64 2, .int .i64 0, .int .i64 0, .int .i64 0, .string ⟨#[]⟩, .string ⟨#[]⟩, .int .i64 0, .int .i64 0, .int .i64 0, .int .i64 0, .int .i64 0, .slice none 0 0] ?hx ?hy 35 _ H3.out (by kernel_rfl) rfl (by simp [Value.oneCell']) ?_; (case hx => rfl); (case hy => rfl); have H3N := Aside0.mk (setRow_heap _ g3 _ #[.int .i64 2, .int .i64 0, .int .i64 0, .int .i64 0, .string ⟨#[]⟩, .string ⟨#[]⟩, .int .i64 0, .int .i64 0, .int .i64 0, .int .i64 0, .int .i64 0, .slice none 0 0] _ _ H3.out); have hkr := keep_row (KeepBut.refl w3 g3 none) #[.int .i64 2, .int .i64 0, .int .i64 0, .int .i64 0, .string ⟨#[]⟩, .string ⟨#[]⟩, .int .i64 0, .int .i64 0, .int .i64 0, .int .i64 0, .int .i64 0, .slice none 0 0]; replace H2 := Aside0.mk (hkr.blk H2.out HNE.out (by simp)); replace HI := Aside0.mk (HI.out.keep hkr (HI.out.at_ne H3.out (by decide)) H3.out (by decide)); replace HB := Aside0.mk (below_row HB.out (Nat.le_trans HSZ.out HG3.out) #[.int .i64 2, .int .i64 0, .int .i64 0, .int .i64 0, .string ⟨#[]⟩, .string ⟨#[]⟩, .int .i64 0, .int .i64 0, .int .i64 0, .int .i64 0, .int .i64 0, .slice none 0 0]); replace HK := Aside0.mk (keep_new HK.out hkr HG3.out); generalize w3.setRow g3 #[.int .i64 2, .int .i64 0, .int .i64 0, .int .i64 0, .string ⟨#[]⟩, .string ⟨#[]⟩, .int .i64 0, .int .i64 0, .int .i64 0, .int .i64 0, .int .i64 0, .slice none 0 0] = w4 at H3N H2 HI HB HK ⊢; clear H3 hkr; have H3 := H3N; clear H3N; have c0 : w4.cell? ⟨g3, 0, none⟩ = some (.int .i64 2) := blk_cell H3.out 0) | fail)
   obtain ⟨n, rfl, hn⟩ := hsel
   have hq := wire_Reader_Num.calls g l1 e1 true w0 _ HI.out HB.out
   rw [hn] at hq
   dsimp only at hq
   refine hq.mono ?_
   clear hq
   rintro ed1 wO ⟨rfl, hi, hbx, hk⟩
   replace H3 := Aside0.mk (hk.blk H3.out (HI.out.at_ne H3.out (by decide)) (by simp))
   replace H2 := Aside0.mk (hk.blk H2.out (HI.out.at_ne H2.out (by decide)) (by simp))
   replace HK := Aside0.mk (HK.out.trans hk (.inl rfl))
   replace HI := Aside0.mk hi
   replace HB := Aside0.mk hbx
   clear hi hbx hk
   clear c0
   have p8 : wO.cell? ⟨g3, 8, none⟩ = some (.int .i64 0) := blk_cell H3.out 8
   have f8 : wO.frozen? ⟨g3, 8, none⟩ = false := blk_frozen H3.out 8
   go_wp2_with (first | ((with_reducible refine gate_dst (N := 35) rfl ?_); have hkr := fun W => (KeepBut.refl W g3 none).set_ 8 (.int .i64 n); have H3N := Aside0.mk (show (World.setCell wO ⟨g3, 8, none⟩ (.int .i64 n)).heap[g3]? = some (.cells #[.int .i64 2, .int .i64 0, .int .i64 0, .int .i64 0, .string ⟨#[]⟩, .string ⟨#[]⟩, .int .i64 0, .int .i64 0, .int .i64 n, .int .i64 0, .int .i64 0, .slice none 0 0] 35 (0, 0)) from blk_put (H3.out) 8 (.int .i64 n) rfl); replace H2 := Aside0.mk ((hkr wO).blk H2.out HNE.out (by simp)); replace HI := Aside0.mk (HI.out.keep (hkr wO) (HI.out.at_ne H3.out (by decide)) H3.out (by decide)); replace HB := Aside0.mk (show Below w0.heap.size w0 (World.setCell wO ⟨g3, 8, none⟩ (.int .i64 n)) from below_set (HB.out) (Nat.le_trans HSZ.out HG3.out)); replace HK := Aside0.mk (keep_new HK.out (hkr wO) HG3.out); clear H3; have H3 := H3N; clear H3N hkr; generalize hWW : (World.setCell wO ⟨g3, 8, none⟩ (.int .i64 n)) = wP at H3 H2 HI HB HK ⊢; clear hWW; clear p8 f8; refine wpList_load_row rfl 35 (.tmp 3) rfl g3 ?hx 35 #[.int .i64 2, .int .i64 0, .int .i64 0, .int .i64 0, .string ⟨#[]⟩, .string ⟨#[]⟩, .int .i64 0, .int .i64 0, .int .i64 n, .int .i64 0, .int .i64 0, .slice none 0 0] (0, 0) _ H3.out Try.underlying35 rfl (by kernel_rfl) ?_; (case hx => rfl)) | fail)
   refine (entry_Right.calls k 2 0 0 0 ⟨#[]⟩ ⟨#[]⟩ 0 0 n 0 0 none 0 [] ok _ (Kd.C_nil _ _) (Nat.le_refl _) HR.out).mono ?_
   rintro e wR ⟨rfl, hb⟩
   replace H2 := Aside0.mk (blk_below H2.out hb)
   replace H3 := Aside0.mk (blk_below H3.out hb)
   replace HI := Aside0.mk (HI.out.below hb)
   replace HK := Aside0.mk (HK.out.trans (KeepBut.of_below hb g none) (.inl rfl))
   replace HB := Aside0.mk (below_then HB.out HB.out.size hb)
   clear hb
   cases ok
   focus
    go_wp2_with fail
    refine (wire_Reader_Fail.calls g l2 e2 true 21 w0 _ HI.out HB.out).mono ?_
    rintro e1 wF ⟨rfl, hi, hbx, hk⟩
    replace H2 := Aside0.mk (hk.blk H2.out (HI.out.at_ne H2.out (by decide)) (by simp))
    replace HK := Aside0.mk (HK.out.trans hk (.inl rfl))
    replace HB := Aside0.mk hbx
    have hz2 : (if rdOk e2 true = true then (21 : Int) else e2) = z := by
     rw [HZ.out]
     unfold tkE rdOk
     by_cases q : e2 = 0 <;> simp [q]
    rw [hz2] at hi
    replace HI := Aside0.mk hi
    have hz0 : z ≠ 0 := by
     rw [HZ.out]
     unfold tkE
     by_cases q : e2 = 0 <;> simp [q]
    have HZ0 := Aside0.mk hz0
    clear hi hbx hk hz2 hz0
    go_wp2_with fail
    refine (wire_Reader_Err.calls g l2 z true w0 _ HI.out).mono ?_
    rintro e2 wE ⟨rfl, rfl⟩
    rw [if_pos (rfl : true = true)]
    have hzb : (z != 0) = true := bne_iff_ne.mpr HZ0.out
    obtain rfl : out = ERow.zero := HO.out.trans (if_neg HZ0.out)
    clear HO
    go_wp2_with (first | ((with_reducible refine gate_store (t := 35) (p := 2) rfl ?_); refine wpList_store_row rfl 35 (.tmp 2) (.tmp 43) rfl g2 #[.int .i64 0, .int .i64 0, .int .i64 0, .int .i64 0, .string ⟨#[]⟩, .string ⟨#[]⟩, .int .i64 0, .int .i64 0, .int .i64 0, .int .i64 0, .int .i64 0, .slice none 0 0] ?hx ?hy 35 _ H2.out (by kernel_rfl) rfl (by simp [Value.oneCell']) ?_; (case hx => rfl); (case hy => rfl)) | fail)
    have hkr_ := fun W => keep_row (KeepBut.refl W g2 none) #[.int .i64 0, .int .i64 0, .int .i64 0, .int .i64 0, .string ⟨#[]⟩, .string ⟨#[]⟩, .int .i64 0, .int .i64 0, .int .i64 0, .int .i64 0, .int .i64 0, .slice none 0 0]
    exact bodyPost_ret (results_cell_row rfl _ _ g2 35 #[.int .i64 0, .int .i64 0, .int .i64 0, .int .i64 0, .string ⟨#[]⟩, .string ⟨#[]⟩, .int .i64 0, .int .i64 0, .int .i64 0, .int .i64 0, .int .i64 0, .slice none 0 0] (0, 0) _ rfl (setRow_heap _ _ _ #[.int .i64 0, .int .i64 0, .int .i64 0, .int .i64 0, .string ⟨#[]⟩, .string ⟨#[]⟩, .int .i64 0, .int .i64 0, .int .i64 0, .int .i64 0, .int .i64 0, .slice none 0 0] _ _ H2.out) Try.underlying35 rfl rfl) rfl ⟨_, rfl, Kd.R_nil _ _ _ _ _, HI.out.keep (hkr_ _) (HI.out.at_ne H2.out (by decide)) H2.out (by decide), below_row HB.out (Nat.le_trans HSZ.out HG2.out) _, keep_new HK.out (hkr_ _) HG2.out⟩
   have hz2 : z = e2 := HZ.out
   rw [← hz2] at HI
   clear hz2
   go_wp2_with fail
   refine (wire_Reader_Err.calls g l2 z true w0 _ HI.out).mono ?_
   rintro e2 wE ⟨rfl, rfl⟩
   rw [if_pos (rfl : true = true)]
   by_cases hz0 : z = 0
   focus
    have hzb : (z != 0) = false := by rw [hz0]; rfl
    obtain rfl := HO.out.trans (if_pos hz0)
    clear HO hz0
    go_wp2_with (first | ((with_reducible refine gate_dst (N := 44) rfl ?_); refine wpList_load_row rfl 35 (.tmp 3) rfl g3 ?hx 35 #[.int .i64 2, .int .i64 0, .int .i64 0, .int .i64 0, .string ⟨#[]⟩, .string ⟨#[]⟩, .int .i64 0, .int .i64 0, .int .i64 n, .int .i64 0, .int .i64 0, .slice none 0 0] (0, 0) _ H3.out Try.underlying35 rfl (by kernel_rfl) ?_; (case hx => rfl)) | ((with_reducible refine gate_store (t := 35) (p := 2) rfl ?_); refine wpList_store_row rfl 35 (.tmp 2) (.tmp 44) rfl g2 #[.int .i64 2, .int .i64 0, .int .i64 0, .int .i64 0, .string ⟨#[]⟩, .string ⟨#[]⟩, .int .i64 0, .int .i64 0, .int .i64 n, .int .i64 0, .int .i64 0, .slice none 0 0] ?hx ?hy 35 _ H2.out (by kernel_rfl) rfl (by simp [Value.oneCell']) ?_; (case hx => rfl); (case hy => rfl)) | fail)
    have hkr_ := fun W => keep_row (KeepBut.refl W g2 none) #[.int .i64 2, .int .i64 0, .int .i64 0, .int .i64 0, .string ⟨#[]⟩, .string ⟨#[]⟩, .int .i64 0, .int .i64 0, .int .i64 n, .int .i64 0, .int .i64 0, .slice none 0 0]
    exact bodyPost_ret (results_cell_row rfl _ _ g2 35 #[.int .i64 2, .int .i64 0, .int .i64 0, .int .i64 0, .string ⟨#[]⟩, .string ⟨#[]⟩, .int .i64 0, .int .i64 0, .int .i64 n, .int .i64 0, .int .i64 0, .slice none 0 0] (0, 0) _ rfl (setRow_heap _ _ _ #[.int .i64 2, .int .i64 0, .int .i64 0, .int .i64 0, .string ⟨#[]⟩, .string ⟨#[]⟩, .int .i64 0, .int .i64 0, .int .i64 n, .int .i64 0, .int .i64 0, .slice none 0 0] _ _ H2.out) Try.underlying35 rfl rfl) rfl ⟨_, rfl, Kd.R_nil _ _ _ _ _, HI.out.keep (hkr_ _) (HI.out.at_ne H2.out (by decide)) H2.out (by decide), below_row HB.out (Nat.le_trans HSZ.out HG2.out) _, keep_new HK.out (hkr_ _) HG2.out⟩
   have hzb : (z != 0) = true := bne_iff_ne.mpr hz0
   obtain rfl : out = ERow.zero := HO.out.trans (if_neg hz0)
   clear HO hz0
   go_wp2_with (first | ((with_reducible refine gate_store (t := 35) (p := 2) rfl ?_); refine wpList_store_row rfl 35 (.tmp 2) (.tmp 43) rfl g2 #[.int .i64 0, .int .i64 0, .int .i64 0, .int .i64 0, .string ⟨#[]⟩, .string ⟨#[]⟩, .int .i64 0, .int .i64 0, .int .i64 0, .int .i64 0, .int .i64 0, .slice none 0 0] ?hx ?hy 35 _ H2.out (by kernel_rfl) rfl (by simp [Value.oneCell']) ?_; (case hx => rfl); (case hy => rfl)) | fail)
   have hkr_ := fun W => keep_row (KeepBut.refl W g2 none) #[.int .i64 0, .int .i64 0, .int .i64 0, .int .i64 0, .string ⟨#[]⟩, .string ⟨#[]⟩, .int .i64 0, .int .i64 0, .int .i64 0, .int .i64 0, .int .i64 0, .slice none 0 0]
   exact bodyPost_ret (results_cell_row rfl _ _ g2 35 #[.int .i64 0, .int .i64 0, .int .i64 0, .int .i64 0, .string ⟨#[]⟩, .string ⟨#[]⟩, .int .i64 0, .int .i64 0, .int .i64 0, .int .i64 0, .int .i64 0, .slice none 0 0] (0, 0) _ rfl (setRow_heap _ _ _ #[.int .i64 0, .int .i64 0, .int .i64 0, .int .i64 0, .string ⟨#[]⟩, .string ⟨#[]⟩, .int .i64 0, .int .i64 0, .int .i64 0, .int .i64 0, .int .i64 0, .slice none 0 0] _ _ H2.out) Try.underlying35 rfl rfl) rfl ⟨_, rfl, Kd.R_nil _ _ _ _ _, HI.out.keep (hkr_ _) (HI.out.at_ne H2.out (by decide)) H2.out (by decide), below_row HB.out (Nat.le_trans HSZ.out HG2.out) _, keep_new HK.out (hkr_ _) HG2.out⟩
  ·as_aux_lemma =>
   go_wp2_with (first | ((with_reducible refine gate_dst (N := 3) rfl ?_); refine box_event ?hg (N := 3) ?hd (cs := #[.int .i64 0, .int .i64 0, .int .i64 0, .int .i64 0, .string ⟨#[]⟩, .string ⟨#[]⟩, .int .i64 0, .int .i64 0, .int .i64 0, .int .i64 0, .int .i64 0, .slice none 0 0]) (t := 35) ?hr ?_; (case hd => rfl); (case hg => rfl); (case hr => first | (go_simp; done) | (go_simp; rfl)); intro g3 hg w3 hbox hb; have H3 := Aside0.mk hbox; have HNE := Aside0.mk (show g2 ≠ g3 by have := blk_lt H2.out; omega); have HG3 := Aside0.mk (show w.heap.size ≤ g3 by rw [hg]; exact HK.out.1); replace H2 := Aside0.mk (blk_below H2.out hb); replace HI := Aside0.mk (HI.out.below hb); replace HK := Aside0.mk (HK.out.trans (KeepBut.of_below hb g none) (.inl rfl)); replace HB := Aside0.mk (below_then HB.out HB.out.size hb); clear hbox hb hg) | ((with_reducible refine gate_store (t := 35) (p := 3) rfl ?_); refine wpList_store_row rfl 35 (.tmp 3) (.tmp 6) rfl g3 #[.int .i64 3, .int .i64 0, .int .i64 0, .int .i64 0, .string ⟨#[]⟩, .string ⟨#[]⟩, .int .i64 0, .int .i64 0, .int .i64 0, .int .i64 0, .int .i64 0, .slice none 0 0] ?hx ?hy 35 _ H3.out (by kernel_rfl) rfl (by simp [Value.oneCell']) ?_; (case hx => rfl); (case hy => rfl); have H3N := Aside0.mk (setRow_heap _ g3 _ #[.int .i64 3, .int .i64 0, .int .i64 0, .int .i64 0, .string ⟨#[]⟩, .string ⟨#[]⟩, .int .i64 0, .int .i64 0, .int .i64 0, .int .i64 0, .int .i64 0, .slice none 0 0] _ _ H3.out); have hkr := keep_row (KeepBut.refl w3 g3 none) #[.int .i64 3, .int .i64 0, .int .i64 0, .int .i64 0, .string ⟨#[]⟩, .string ⟨#[]⟩, .int .i64 0, .int .i64 0, .int .i64 0, .int .i64 0, .int .i64 0, .slice none 0 0]; replace H2 := Aside0.mk (hkr.blk H2.out HNE.out (by simp)); replace HI := Aside0.mk (HI.out.keep hkr (HI.out.at_ne H3.out (by decide)) H3.out (by decide)); replace HB := Aside0.mk (below_row HB.out (Nat.le_trans HSZ.out HG3.out) #[.int .i64 3, .int .i64 0, .int .i64 0, .int .i64 0, .string ⟨#[]⟩, .string ⟨#[]⟩, .int .i64 0, .int .i64 0, .int .i64 0, .int .i64 0, .int .i64 0, .slice none 0 0]); replace HK := Aside0.mk (keep_new HK.out hkr HG3.out); generalize w3.setRow g3 #[.int .i64 3, .int .i64 0, .int .i64 0, .int .i64 0, .string ⟨#[]⟩, .string ⟨#[]⟩, .int .i64 0, .int .i64 0, .int .i64 0, .int .i64 0, .int .i64 0, .slice none 0 0] = w4 at H3N H2 HI HB HK ⊢; clear H3 hkr; have H3 := H3N; clear H3N; have c0 : w4.cell? ⟨g3, 0, none⟩ = some (.int .i64 3) := blk_cell H3.out 0) | fail)
   obtain ⟨n, rfl, hn⟩ := hsel
   have hq := wire_Reader_Num.calls g l1 e1 true w0 _ HI.out HB.out
   rw [hn] at hq
   dsimp only at hq
   refine hq.mono ?_
   clear hq
   rintro ed1 wO ⟨rfl, hi, hbx, hk⟩
   replace H3 := Aside0.mk (hk.blk H3.out (HI.out.at_ne H3.out (by decide)) (by simp))
   replace H2 := Aside0.mk (hk.blk H2.out (HI.out.at_ne H2.out (by decide)) (by simp))
   replace HK := Aside0.mk (HK.out.trans hk (.inl rfl))
   replace HI := Aside0.mk hi
   replace HB := Aside0.mk hbx
   clear hi hbx hk
   clear c0
   have p8 : wO.cell? ⟨g3, 8, none⟩ = some (.int .i64 0) := blk_cell H3.out 8
   have f8 : wO.frozen? ⟨g3, 8, none⟩ = false := blk_frozen H3.out 8
   go_wp2_with (first | ((with_reducible refine gate_dst (N := 35) rfl ?_); have hkr := fun W => (KeepBut.refl W g3 none).set_ 8 (.int .i64 n); have H3N := Aside0.mk (show (World.setCell wO ⟨g3, 8, none⟩ (.int .i64 n)).heap[g3]? = some (.cells #[.int .i64 3, .int .i64 0, .int .i64 0, .int .i64 0, .string ⟨#[]⟩, .string ⟨#[]⟩, .int .i64 0, .int .i64 0, .int .i64 n, .int .i64 0, .int .i64 0, .slice none 0 0] 35 (0, 0)) from blk_put (H3.out) 8 (.int .i64 n) rfl); replace H2 := Aside0.mk ((hkr wO).blk H2.out HNE.out (by simp)); replace HI := Aside0.mk (HI.out.keep (hkr wO) (HI.out.at_ne H3.out (by decide)) H3.out (by decide)); replace HB := Aside0.mk (show Below w0.heap.size w0 (World.setCell wO ⟨g3, 8, none⟩ (.int .i64 n)) from below_set (HB.out) (Nat.le_trans HSZ.out HG3.out)); replace HK := Aside0.mk (keep_new HK.out (hkr wO) HG3.out); clear H3; have H3 := H3N; clear H3N hkr; generalize hWW : (World.setCell wO ⟨g3, 8, none⟩ (.int .i64 n)) = wP at H3 H2 HI HB HK ⊢; clear hWW; clear p8 f8; refine wpList_load_row rfl 35 (.tmp 3) rfl g3 ?hx 35 #[.int .i64 3, .int .i64 0, .int .i64 0, .int .i64 0, .string ⟨#[]⟩, .string ⟨#[]⟩, .int .i64 0, .int .i64 0, .int .i64 n, .int .i64 0, .int .i64 0, .slice none 0 0] (0, 0) _ H3.out Try.underlying35 rfl (by kernel_rfl) ?_; (case hx => rfl)) | fail)
   refine (entry_Right.calls k 3 0 0 0 ⟨#[]⟩ ⟨#[]⟩ 0 0 n 0 0 none 0 [] ok _ (Kd.C_nil _ _) (Nat.le_refl _) HR.out).mono ?_
   rintro e wR ⟨rfl, hb⟩
   replace H2 := Aside0.mk (blk_below H2.out hb)
   replace H3 := Aside0.mk (blk_below H3.out hb)
   replace HI := Aside0.mk (HI.out.below hb)
   replace HK := Aside0.mk (HK.out.trans (KeepBut.of_below hb g none) (.inl rfl))
   replace HB := Aside0.mk (below_then HB.out HB.out.size hb)
   clear hb
   cases ok
   focus
    go_wp2_with fail
    refine (wire_Reader_Fail.calls g l2 e2 true 21 w0 _ HI.out HB.out).mono ?_
    rintro e1 wF ⟨rfl, hi, hbx, hk⟩
    replace H2 := Aside0.mk (hk.blk H2.out (HI.out.at_ne H2.out (by decide)) (by simp))
    replace HK := Aside0.mk (HK.out.trans hk (.inl rfl))
    replace HB := Aside0.mk hbx
    have hz2 : (if rdOk e2 true = true then (21 : Int) else e2) = z := by
     rw [HZ.out]
     unfold tkE rdOk
     by_cases q : e2 = 0 <;> simp [q]
    rw [hz2] at hi
    replace HI := Aside0.mk hi
    have hz0 : z ≠ 0 := by
     rw [HZ.out]
     unfold tkE
     by_cases q : e2 = 0 <;> simp [q]
    have HZ0 := Aside0.mk hz0
    clear hi hbx hk hz2 hz0
    go_wp2_with fail
    refine (wire_Reader_Err.calls g l2 z true w0 _ HI.out).mono ?_
    rintro e2 wE ⟨rfl, rfl⟩
    rw [if_pos (rfl : true = true)]
    have hzb : (z != 0) = true := bne_iff_ne.mpr HZ0.out
    obtain rfl : out = ERow.zero := HO.out.trans (if_neg HZ0.out)
    clear HO
    go_wp2_with (first | ((with_reducible refine gate_store (t := 35) (p := 2) rfl ?_); refine wpList_store_row rfl 35 (.tmp 2) (.tmp 43) rfl g2 #[.int .i64 0, .int .i64 0, .int .i64 0, .int .i64 0, .string ⟨#[]⟩, .string ⟨#[]⟩, .int .i64 0, .int .i64 0, .int .i64 0, .int .i64 0, .int .i64 0, .slice none 0 0] ?hx ?hy 35 _ H2.out (by kernel_rfl) rfl (by simp [Value.oneCell']) ?_; (case hx => rfl); (case hy => rfl)) | fail)
    have hkr_ := fun W => keep_row (KeepBut.refl W g2 none) #[.int .i64 0, .int .i64 0, .int .i64 0, .int .i64 0, .string ⟨#[]⟩, .string ⟨#[]⟩, .int .i64 0, .int .i64 0, .int .i64 0, .int .i64 0, .int .i64 0, .slice none 0 0]
    exact bodyPost_ret (results_cell_row rfl _ _ g2 35 #[.int .i64 0, .int .i64 0, .int .i64 0, .int .i64 0, .string ⟨#[]⟩, .string ⟨#[]⟩, .int .i64 0, .int .i64 0, .int .i64 0, .int .i64 0, .int .i64 0, .slice none 0 0] (0, 0) _ rfl (setRow_heap _ _ _ #[.int .i64 0, .int .i64 0, .int .i64 0, .int .i64 0, .string ⟨#[]⟩, .string ⟨#[]⟩, .int .i64 0, .int .i64 0, .int .i64 0, .int .i64 0, .int .i64 0, .slice none 0 0] _ _ H2.out) Try.underlying35 rfl rfl) rfl ⟨_, rfl, Kd.R_nil _ _ _ _ _, HI.out.keep (hkr_ _) (HI.out.at_ne H2.out (by decide)) H2.out (by decide), below_row HB.out (Nat.le_trans HSZ.out HG2.out) _, keep_new HK.out (hkr_ _) HG2.out⟩
   have hz2 : z = e2 := HZ.out
   rw [← hz2] at HI
   clear hz2
   go_wp2_with fail
   refine (wire_Reader_Err.calls g l2 z true w0 _ HI.out).mono ?_
   rintro e2 wE ⟨rfl, rfl⟩
   rw [if_pos (rfl : true = true)]
   by_cases hz0 : z = 0
   focus
    have hzb : (z != 0) = false := by rw [hz0]; rfl
    obtain rfl := HO.out.trans (if_pos hz0)
    clear HO hz0
    go_wp2_with (first | ((with_reducible refine gate_dst (N := 44) rfl ?_); refine wpList_load_row rfl 35 (.tmp 3) rfl g3 ?hx 35 #[.int .i64 3, .int .i64 0, .int .i64 0, .int .i64 0, .string ⟨#[]⟩, .string ⟨#[]⟩, .int .i64 0, .int .i64 0, .int .i64 n, .int .i64 0, .int .i64 0, .slice none 0 0] (0, 0) _ H3.out Try.underlying35 rfl (by kernel_rfl) ?_; (case hx => rfl)) | ((with_reducible refine gate_store (t := 35) (p := 2) rfl ?_); refine wpList_store_row rfl 35 (.tmp 2) (.tmp 44) rfl g2 #[.int .i64 3, .int .i64 0, .int .i64 0, .int .i64 0, .string ⟨#[]⟩, .string ⟨#[]⟩, .int .i64 0, .int .i64 0, .int .i64 n, .int .i64 0, .int .i64 0, .slice none 0 0] ?hx ?hy 35 _ H2.out (by kernel_rfl) rfl (by simp [Value.oneCell']) ?_; (case hx => rfl); (case hy => rfl)) | fail)
    have hkr_ := fun W => keep_row (KeepBut.refl W g2 none) #[.int .i64 3, .int .i64 0, .int .i64 0, .int .i64 0, .string ⟨#[]⟩, .string ⟨#[]⟩, .int .i64 0, .int .i64 0, .int .i64 n, .int .i64 0, .int .i64 0, .slice none 0 0]
    exact bodyPost_ret (results_cell_row rfl _ _ g2 35 #[.int .i64 3, .int .i64 0, .int .i64 0, .int .i64 0, .string ⟨#[]⟩, .string ⟨#[]⟩, .int .i64 0, .int .i64 0, .int .i64 n, .int .i64 0, .int .i64 0, .slice none 0 0] (0, 0) _ rfl (setRow_heap _ _ _ #[.int .i64 3, .int .i64 0, .int .i64 0, .int .i64 0, .string ⟨#[]⟩, .string ⟨#[]⟩, .int .i64 0, .int .i64 0, .int .i64 n, .int .i64 0, .int .i64 0, .slice none 0 0] _ _ H2.out) Try.underlying35 rfl rfl) rfl ⟨_, rfl, Kd.R_nil _ _ _ _ _, HI.out.keep (hkr_ _) (HI.out.at_ne H2.out (by decide)) H2.out (by decide), below_row HB.out (Nat.le_trans HSZ.out HG2.out) _, keep_new HK.out (hkr_ _) HG2.out⟩
   have hzb : (z != 0) = true := bne_iff_ne.mpr hz0
   obtain rfl : out = ERow.zero := HO.out.trans (if_neg hz0)
   clear HO hz0
   go_wp2_with (first | ((with_reducible refine gate_store (t := 35) (p := 2) rfl ?_); refine wpList_store_row rfl 35 (.tmp 2) (.tmp 43) rfl g2 #[.int .i64 0, .int .i64 0, .int .i64 0, .int .i64 0, .string ⟨#[]⟩, .string ⟨#[]⟩, .int .i64 0, .int .i64 0, .int .i64 0, .int .i64 0, .int .i64 0, .slice none 0 0] ?hx ?hy 35 _ H2.out (by kernel_rfl) rfl (by simp [Value.oneCell']) ?_; (case hx => rfl); (case hy => rfl)) | fail)
   have hkr_ := fun W => keep_row (KeepBut.refl W g2 none) #[.int .i64 0, .int .i64 0, .int .i64 0, .int .i64 0, .string ⟨#[]⟩, .string ⟨#[]⟩, .int .i64 0, .int .i64 0, .int .i64 0, .int .i64 0, .int .i64 0, .slice none 0 0]
   exact bodyPost_ret (results_cell_row rfl _ _ g2 35 #[.int .i64 0, .int .i64 0, .int .i64 0, .int .i64 0, .string ⟨#[]⟩, .string ⟨#[]⟩, .int .i64 0, .int .i64 0, .int .i64 0, .int .i64 0, .int .i64 0, .slice none 0 0] (0, 0) _ rfl (setRow_heap _ _ _ #[.int .i64 0, .int .i64 0, .int .i64 0, .int .i64 0, .string ⟨#[]⟩, .string ⟨#[]⟩, .int .i64 0, .int .i64 0, .int .i64 0, .int .i64 0, .int .i64 0, .slice none 0 0] _ _ H2.out) Try.underlying35 rfl rfl) rfl ⟨_, rfl, Kd.R_nil _ _ _ _ _, HI.out.keep (hkr_ _) (HI.out.at_ne H2.out (by decide)) H2.out (by decide), below_row HB.out (Nat.le_trans HSZ.out HG2.out) _, keep_new HK.out (hkr_ _) HG2.out⟩
 ·clear HWAY
  rcases hkd with rfl | rfl
  ·as_aux_lemma =>
   go_wp2_with (first | ((with_reducible refine gate_dst (N := 3) rfl ?_); refine box_event ?hg (N := 3) ?hd (cs := #[.int .i64 0, .int .i64 0, .int .i64 0, .int .i64 0, .string ⟨#[]⟩, .string ⟨#[]⟩, .int .i64 0, .int .i64 0, .int .i64 0, .int .i64 0, .int .i64 0, .slice none 0 0]) (t := 35) ?hr ?_; (case hd => rfl); (case hg => rfl); (case hr => first | (go_simp; done) | (go_simp; rfl)); intro g3 hg w3 hbox hb; have H3 := Aside0.mk hbox; have HNE := Aside0.mk (show g2 ≠ g3 by have := blk_lt H2.out; omega); have HG3 := Aside0.mk (show w.heap.size ≤ g3 by rw [hg]; exact HK.out.1); replace H2 := Aside0.mk (blk_below H2.out hb); replace HI := Aside0.mk (HI.out.below hb); replace HK := Aside0.mk (HK.out.trans (KeepBut.of_below hb g none) (.inl rfl)); replace HB := Aside0.mk (below_then HB.out HB.out.size hb); clear hbox hb hg) | ((with_reducible refine gate_store (t := 35) (p := 3) rfl ?_); refine wpList_store_row rfl 35 (.tmp 3) (.tmp 6) rfl g3 #[.int .i64 4, .int .i64 0, .int .i64 0, .int .i64 0, .string ⟨#[]⟩, .string ⟨#[]⟩, .int .i64 0, .int .i64 0, .int .i64 0, .int .i64 0, .int .i64 0, .slice none 0 0] ?hx ?hy 35 _ H3.out (by kernel_rfl) rfl (by simp [Value.oneCell']) ?_; (case hx => rfl); (case hy => rfl); have H3N := Aside0.mk (setRow_heap _ g3 _ #[.int .i64 4, .int .i64 0, .int .i64 0, .int .i64 0, .string ⟨#[]⟩, .string ⟨#[]⟩, .int .i64 0, .int .i64 0, .int .i64 0, .int .i64 0, .int .i64 0, .slice none 0 0] _ _ H3.out); have hkr := keep_row (KeepBut.refl w3 g3 none) #[.int .i64 4, .int .i64 0, .int .i64 0, .int .i64 0, .string ⟨#[]⟩, .string ⟨#[]⟩, .int .i64 0, .int .i64 0, .int .i64 0, .int .i64 0, .int .i64 0, .slice none 0 0]; replace H2 := Aside0.mk (hkr.blk H2.out HNE.out (by simp)); replace HI := Aside0.mk (HI.out.keep hkr (HI.out.at_ne H3.out (by decide)) H3.out (by decide)); replace HB := Aside0.mk (below_row HB.out (Nat.le_trans HSZ.out HG3.out) #[.int .i64 4, .int .i64 0, .int .i64 0, .int .i64 0, .string ⟨#[]⟩, .string ⟨#[]⟩, .int .i64 0, .int .i64 0, .int .i64 0, .int .i64 0, .int .i64 0, .slice none 0 0]); replace HK := Aside0.mk (keep_new HK.out hkr HG3.out); generalize w3.setRow g3 #[.int .i64 4, .int .i64 0, .int .i64 0, .int .i64 0, .string ⟨#[]⟩, .string ⟨#[]⟩, .int .i64 0, .int .i64 0, .int .i64 0, .int .i64 0, .int .i64 0, .slice none 0 0] = w4 at H3N H2 HI HB HK ⊢; clear H3 hkr; have H3 := H3N; clear H3N; have c0 : w4.cell? ⟨g3, 0, none⟩ = some (.int .i64 4) := blk_cell H3.out 0) | fail)
   obtain ⟨n, ep, by_, ch, l3, e3, l4, e4, l5, e5, rfl, hn, hep, hby, hch⟩ := hsel
   have hq := wire_Reader_Num.calls g l1 e1 true w0 _ HI.out HB.out
   rw [hn] at hq
   dsimp only at hq
   refine hq.mono ?_
   clear hq
   rintro ed1 wN1 ⟨rfl, hi, hbx, hk⟩
   replace H3 := Aside0.mk (hk.blk H3.out (HI.out.at_ne H3.out (by decide)) (by simp))
   replace H2 := Aside0.mk (hk.blk H2.out (HI.out.at_ne H2.out (by decide)) (by simp))
   replace HK := Aside0.mk (HK.out.trans hk (.inl rfl))
   replace HI := Aside0.mk hi
   replace HB := Aside0.mk hbx
   clear hi hbx hk
   clear c0
   go_wp2_with fail
   have hq := wire_Reader_Num.calls g l3 e3 true w0 _ HI.out HB.out
   rw [hep] at hq
   dsimp only at hq
   refine hq.mono ?_
   clear hq
   rintro ed1 wN2 ⟨rfl, hi, hbx, hk⟩
   replace H3 := Aside0.mk (hk.blk H3.out (HI.out.at_ne H3.out (by decide)) (by simp))
   replace H2 := Aside0.mk (hk.blk H2.out (HI.out.at_ne H2.out (by decide)) (by simp))
   replace HK := Aside0.mk (HK.out.trans hk (.inl rfl))
   replace HI := Aside0.mk hi
   replace HB := Aside0.mk hbx
   clear hi hbx hk
   go_wp2_with fail
   have hq := wire_Reader_Num.calls g l4 e4 true w0 _ HI.out HB.out
   rw [hby] at hq
   dsimp only at hq
   refine hq.mono ?_
   clear hq
   rintro ed1 wO ⟨rfl, hi, hbx, hk⟩
   replace H3 := Aside0.mk (hk.blk H3.out (HI.out.at_ne H3.out (by decide)) (by simp))
   replace H2 := Aside0.mk (hk.blk H2.out (HI.out.at_ne H2.out (by decide)) (by simp))
   replace HK := Aside0.mk (HK.out.trans hk (.inl rfl))
   replace HI := Aside0.mk hi
   replace HB := Aside0.mk hbx
   clear hi hbx hk
   have p8 : wO.cell? ⟨g3, 8, none⟩ = some (.int .i64 0) := blk_cell H3.out 8
   have p9 : wO.cell? ⟨g3, 9, none⟩ = some (.int .i64 0) := blk_cell H3.out 9
   have p10 : wO.cell? ⟨g3, 10, none⟩ = some (.int .i64 0) := blk_cell H3.out 10
   have f8 : wO.frozen? ⟨g3, 8, none⟩ = false := blk_frozen H3.out 8
   have f9 : wO.frozen? ⟨g3, 9, none⟩ = false := blk_frozen H3.out 9
   have f10 : wO.frozen? ⟨g3, 10, none⟩ = false := blk_frozen H3.out 10
   go_wp2_with fail
   have hkr := fun W => (((KeepBut.refl W g3 none).set_ 8 (.int .i64 n)).set_ 9 (.int .i64 ep)).set_ 10 (.int .i64 by_)
   have H3N := Aside0.mk (show (World.setCell (World.setCell (World.setCell wO ⟨g3, 8, none⟩ (.int .i64 n)) ⟨g3, 9, none⟩ (.int .i64 ep)) ⟨g3, 10, none⟩ (.int .i64 by_)).heap[g3]? = some (.cells #[.int .i64 4, .int .i64 0, .int .i64 0, .int .i64 0, .string ⟨#[]⟩, .string ⟨#[]⟩, .int .i64 0, .int .i64 0, .int .i64 n, .int .i64 ep, .int .i64 by_, .slice none 0 0] 35 (0, 0)) from blk_put (blk_put (blk_put (H3.out) 8 (.int .i64 n) rfl) 9 (.int .i64 ep) rfl) 10 (.int .i64 by_) rfl)
   replace H2 := Aside0.mk ((hkr wO).blk H2.out HNE.out (by simp))
   replace HI := Aside0.mk (HI.out.keep (hkr wO) (HI.out.at_ne H3.out (by decide)) H3.out (by decide))
   replace HB := Aside0.mk (show Below w0.heap.size w0 (World.setCell (World.setCell (World.setCell wO ⟨g3, 8, none⟩ (.int .i64 n)) ⟨g3, 9, none⟩ (.int .i64 ep)) ⟨g3, 10, none⟩ (.int .i64 by_)) from below_set (below_set (below_set (HB.out) (Nat.le_trans HSZ.out HG3.out)) (Nat.le_trans HSZ.out HG3.out)) (Nat.le_trans HSZ.out HG3.out))
   replace HK := Aside0.mk (keep_new HK.out (hkr wO) HG3.out)
   clear H3
   have H3 := H3N
   clear H3N hkr
   generalize hWW : (World.setCell (World.setCell (World.setCell wO ⟨g3, 8, none⟩ (.int .i64 n)) ⟨g3, 9, none⟩ (.int .i64 ep)) ⟨g3, 10, none⟩ (.int .i64 by_)) = wP at H3 H2 HI HB HK ⊢
   clear hWW
   clear p8 p9 p10 f8 f9 f10
   refine (hch _ HI.out HB.out).mono ?_
   rintro ed1 wC ⟨vch, rfl, ho, hi, hbx, hk⟩
   obtain ⟨Ac, cc, rfl⟩ := Kd.R_slice ho
   have HCH := Aside0.mk (Kd.R_lower ho HK.out.1)
   clear ho
   replace H3 := Aside0.mk (hk.blk H3.out (HI.out.at_ne H3.out (by decide)) (by simp))
   replace H2 := Aside0.mk (hk.blk H2.out (HI.out.at_ne H2.out (by decide)) (by simp))
   replace HK := Aside0.mk (HK.out.trans hk (.inl rfl))
   replace HI := Aside0.mk hi
   replace HB := Aside0.mk hbx
   clear hi hbx hk hch
   have p11 : wC.cell? ⟨g3, 11, none⟩ = some (.slice none 0 0) := blk_cell H3.out 11
   have f11 : wC.frozen? ⟨g3, 11, none⟩ = false := blk_frozen H3.out 11
   go_wp2_with (first | ((with_reducible refine gate_dst (N := 35) rfl ?_); have hkr := fun W => (KeepBut.refl W g3 none).set_ 11 (.slice Ac ch.length cc); replace HCH := Aside0.mk (row_keep HCH.out (hkr wC) H3.out (by decide)); have H3N := Aside0.mk (show (World.setCell wC ⟨g3, 11, none⟩ (.slice Ac ch.length cc)).heap[g3]? = some (.cells #[.int .i64 4, .int .i64 0, .int .i64 0, .int .i64 0, .string ⟨#[]⟩, .string ⟨#[]⟩, .int .i64 0, .int .i64 0, .int .i64 n, .int .i64 ep, .int .i64 by_, .slice Ac ch.length cc] 35 (0, 0)) from blk_put (H3.out) 11 (.slice Ac ch.length cc) rfl); replace H2 := Aside0.mk ((hkr wC).blk H2.out HNE.out (by simp)); replace HI := Aside0.mk (HI.out.keep (hkr wC) (HI.out.at_ne H3.out (by decide)) H3.out (by decide)); replace HB := Aside0.mk (show Below w0.heap.size w0 (World.setCell wC ⟨g3, 11, none⟩ (.slice Ac ch.length cc)) from below_set (HB.out) (Nat.le_trans HSZ.out HG3.out)); replace HK := Aside0.mk (keep_new HK.out (hkr wC) HG3.out); clear H3; have H3 := H3N; clear H3N hkr; generalize hWW : (World.setCell wC ⟨g3, 11, none⟩ (.slice Ac ch.length cc)) = wP at H3 H2 HI HB HK HCH ⊢; clear hWW; clear p11 f11; refine wpList_load_row rfl 35 (.tmp 3) rfl g3 ?hx 35 #[.int .i64 4, .int .i64 0, .int .i64 0, .int .i64 0, .string ⟨#[]⟩, .string ⟨#[]⟩, .int .i64 0, .int .i64 0, .int .i64 n, .int .i64 ep, .int .i64 by_, .slice Ac ch.length cc] (0, 0) _ H3.out Try.underlying35 rfl (by kernel_rfl) ?_; (case hx => rfl)) | fail)
   refine (entry_Right.calls k 4 0 0 0 ⟨#[]⟩ ⟨#[]⟩ 0 0 n ep by_ Ac cc ch ok _ (Kd.R_reads' HCH.out).2.2 (Kd.R_reads' HCH.out).2.1 HR.out).mono ?_
   rintro e wR ⟨rfl, hb⟩
   replace HCH := Aside0.mk (Kd.R_below HCH.out hb)
   replace H2 := Aside0.mk (blk_below H2.out hb)
   replace H3 := Aside0.mk (blk_below H3.out hb)
   replace HI := Aside0.mk (HI.out.below hb)
   replace HK := Aside0.mk (HK.out.trans (KeepBut.of_below hb g none) (.inl rfl))
   replace HB := Aside0.mk (below_then HB.out HB.out.size hb)
   clear hb
   cases ok
   focus
    go_wp2_with fail
    refine (wire_Reader_Fail.calls g l2 e2 true 21 w0 _ HI.out HB.out).mono ?_
    rintro e1 wF ⟨rfl, hi, hbx, hk⟩
    replace H2 := Aside0.mk (hk.blk H2.out (HI.out.at_ne H2.out (by decide)) (by simp))
    replace HK := Aside0.mk (HK.out.trans hk (.inl rfl))
    replace HB := Aside0.mk hbx
    have hz2 : (if rdOk e2 true = true then (21 : Int) else e2) = z := by
     rw [HZ.out]
     unfold tkE rdOk
     by_cases q : e2 = 0 <;> simp [q]
    rw [hz2] at hi
    replace HI := Aside0.mk hi
    have hz0 : z ≠ 0 := by
     rw [HZ.out]
     unfold tkE
     by_cases q : e2 = 0 <;> simp [q]
    have HZ0 := Aside0.mk hz0
    clear hi hbx hk hz2 hz0
    go_wp2_with fail
    refine (wire_Reader_Err.calls g l2 z true w0 _ HI.out).mono ?_
    rintro e2 wE ⟨rfl, rfl⟩
    rw [if_pos (rfl : true = true)]
    have hzb : (z != 0) = true := bne_iff_ne.mpr HZ0.out
    obtain rfl : out = ERow.zero := HO.out.trans (if_neg HZ0.out)
    clear HO
    go_wp2_with (first | ((with_reducible refine gate_store (t := 35) (p := 2) rfl ?_); refine wpList_store_row rfl 35 (.tmp 2) (.tmp 43) rfl g2 #[.int .i64 0, .int .i64 0, .int .i64 0, .int .i64 0, .string ⟨#[]⟩, .string ⟨#[]⟩, .int .i64 0, .int .i64 0, .int .i64 0, .int .i64 0, .int .i64 0, .slice none 0 0] ?hx ?hy 35 _ H2.out (by kernel_rfl) rfl (by simp [Value.oneCell']) ?_; (case hx => rfl); (case hy => rfl)) | fail)
    have hkr_ := fun W => keep_row (KeepBut.refl W g2 none) #[.int .i64 0, .int .i64 0, .int .i64 0, .int .i64 0, .string ⟨#[]⟩, .string ⟨#[]⟩, .int .i64 0, .int .i64 0, .int .i64 0, .int .i64 0, .int .i64 0, .slice none 0 0]
    exact bodyPost_ret (results_cell_row rfl _ _ g2 35 #[.int .i64 0, .int .i64 0, .int .i64 0, .int .i64 0, .string ⟨#[]⟩, .string ⟨#[]⟩, .int .i64 0, .int .i64 0, .int .i64 0, .int .i64 0, .int .i64 0, .slice none 0 0] (0, 0) _ rfl (setRow_heap _ _ _ #[.int .i64 0, .int .i64 0, .int .i64 0, .int .i64 0, .string ⟨#[]⟩, .string ⟨#[]⟩, .int .i64 0, .int .i64 0, .int .i64 0, .int .i64 0, .int .i64 0, .slice none 0 0] _ _ H2.out) Try.underlying35 rfl rfl) rfl ⟨_, rfl, Kd.R_nil _ _ _ _ _, HI.out.keep (hkr_ _) (HI.out.at_ne H2.out (by decide)) H2.out (by decide), below_row HB.out (Nat.le_trans HSZ.out HG2.out) _, keep_new HK.out (hkr_ _) HG2.out⟩
   have hz2 : z = e2 := HZ.out
   rw [← hz2] at HI
   clear hz2
   go_wp2_with fail
   refine (wire_Reader_Err.calls g l2 z true w0 _ HI.out).mono ?_
   rintro e2 wE ⟨rfl, rfl⟩
   rw [if_pos (rfl : true = true)]
   by_cases hz0 : z = 0
   focus
    have hzb : (z != 0) = false := by rw [hz0]; rfl
    obtain rfl := HO.out.trans (if_pos hz0)
    clear HO hz0
    go_wp2_with (first | ((with_reducible refine gate_dst (N := 44) rfl ?_); refine wpList_load_row rfl 35 (.tmp 3) rfl g3 ?hx 35 #[.int .i64 4, .int .i64 0, .int .i64 0, .int .i64 0, .string ⟨#[]⟩, .string ⟨#[]⟩, .int .i64 0, .int .i64 0, .int .i64 n, .int .i64 ep, .int .i64 by_, .slice Ac ch.length cc] (0, 0) _ H3.out Try.underlying35 rfl (by kernel_rfl) ?_; (case hx => rfl)) | ((with_reducible refine gate_store (t := 35) (p := 2) rfl ?_); refine wpList_store_row rfl 35 (.tmp 2) (.tmp 44) rfl g2 #[.int .i64 4, .int .i64 0, .int .i64 0, .int .i64 0, .string ⟨#[]⟩, .string ⟨#[]⟩, .int .i64 0, .int .i64 0, .int .i64 n, .int .i64 ep, .int .i64 by_, .slice Ac ch.length cc] ?hx ?hy 35 _ H2.out (by kernel_rfl) rfl (by simp [Value.oneCell']) ?_; (case hx => rfl); (case hy => rfl)) | fail)
    have hkr_ := fun W => keep_row (KeepBut.refl W g2 none) #[.int .i64 4, .int .i64 0, .int .i64 0, .int .i64 0, .string ⟨#[]⟩, .string ⟨#[]⟩, .int .i64 0, .int .i64 0, .int .i64 n, .int .i64 ep, .int .i64 by_, .slice Ac ch.length cc]
    exact bodyPost_ret (results_cell_row rfl _ _ g2 35 #[.int .i64 4, .int .i64 0, .int .i64 0, .int .i64 0, .string ⟨#[]⟩, .string ⟨#[]⟩, .int .i64 0, .int .i64 0, .int .i64 n, .int .i64 ep, .int .i64 by_, .slice Ac ch.length cc] (0, 0) _ rfl (setRow_heap _ _ _ #[.int .i64 4, .int .i64 0, .int .i64 0, .int .i64 0, .string ⟨#[]⟩, .string ⟨#[]⟩, .int .i64 0, .int .i64 0, .int .i64 n, .int .i64 ep, .int .i64 by_, .slice Ac ch.length cc] _ _ H2.out) Try.underlying35 rfl rfl) rfl ⟨_, rfl, row_keep HCH.out (hkr_ _) H2.out (by decide), HI.out.keep (hkr_ _) (HI.out.at_ne H2.out (by decide)) H2.out (by decide), below_row HB.out (Nat.le_trans HSZ.out HG2.out) _, keep_new HK.out (hkr_ _) HG2.out⟩
   have hzb : (z != 0) = true := bne_iff_ne.mpr hz0
   obtain rfl : out = ERow.zero := HO.out.trans (if_neg hz0)
   clear HO hz0
   go_wp2_with (first | ((with_reducible refine gate_store (t := 35) (p := 2) rfl ?_); refine wpList_store_row rfl 35 (.tmp 2) (.tmp 43) rfl g2 #[.int .i64 0, .int .i64 0, .int .i64 0, .int .i64 0, .string ⟨#[]⟩, .string ⟨#[]⟩, .int .i64 0, .int .i64 0, .int .i64 0, .int .i64 0, .int .i64 0, .slice none 0 0] ?hx ?hy 35 _ H2.out (by kernel_rfl) rfl (by simp [Value.oneCell']) ?_; (case hx => rfl); (case hy => rfl)) | fail)
   have hkr_ := fun W => keep_row (KeepBut.refl W g2 none) #[.int .i64 0, .int .i64 0, .int .i64 0, .int .i64 0, .string ⟨#[]⟩, .string ⟨#[]⟩, .int .i64 0, .int .i64 0, .int .i64 0, .int .i64 0, .int .i64 0, .slice none 0 0]
   exact bodyPost_ret (results_cell_row rfl _ _ g2 35 #[.int .i64 0, .int .i64 0, .int .i64 0, .int .i64 0, .string ⟨#[]⟩, .string ⟨#[]⟩, .int .i64 0, .int .i64 0, .int .i64 0, .int .i64 0, .int .i64 0, .slice none 0 0] (0, 0) _ rfl (setRow_heap _ _ _ #[.int .i64 0, .int .i64 0, .int .i64 0, .int .i64 0, .string ⟨#[]⟩, .string ⟨#[]⟩, .int .i64 0, .int .i64 0, .int .i64 0, .int .i64 0, .int .i64 0, .slice none 0 0] _ _ H2.out) Try.underlying35 rfl rfl) rfl ⟨_, rfl, Kd.R_nil _ _ _ _ _, HI.out.keep (hkr_ _) (HI.out.at_ne H2.out (by decide)) H2.out (by decide), below_row HB.out (Nat.le_trans HSZ.out HG2.out) _, keep_new HK.out (hkr_ _) HG2.out⟩
  ·as_aux_lemma =>
   go_wp2_with (first | ((with_reducible refine gate_dst (N := 3) rfl ?_); refine box_event ?hg (N := 3) ?hd (cs := #[.int .i64 0, .int .i64 0, .int .i64 0, .int .i64 0, .string ⟨#[]⟩, .string ⟨#[]⟩, .int .i64 0, .int .i64 0, .int .i64 0, .int .i64 0, .int .i64 0, .slice none 0 0]) (t := 35) ?hr ?_; (case hd => rfl); (case hg => rfl); (case hr => first | (go_simp; done) | (go_simp; rfl)); intro g3 hg w3 hbox hb; have H3 := Aside0.mk hbox; have HNE := Aside0.mk (show g2 ≠ g3 by have := blk_lt H2.out; omega); have HG3 := Aside0.mk (show w.heap.size ≤ g3 by rw [hg]; exact HK.out.1); replace H2 := Aside0.mk (blk_below H2.out hb); replace HI := Aside0.mk (HI.out.below hb); replace HK := Aside0.mk (HK.out.trans (KeepBut.of_below hb g none) (.inl rfl)); replace HB := Aside0.mk (below_then HB.out HB.out.size hb); clear hbox hb hg) | ((with_reducible refine gate_store (t := 35) (p := 3) rfl ?_); refine wpList_store_row rfl 35 (.tmp 3) (.tmp 6) rfl g3 #[.int .i64 5, .int .i64 0, .int .i64 0, .int .i64 0, .string ⟨#[]⟩, .string ⟨#[]⟩, .int .i64 0, .int .i64 0, .int .i64 0, .int .i64 0, .int .i64 0, .slice none 0 0] ?hx ?hy 35 _ H3.out (by kernel_rfl) rfl (by simp [Value.oneCell']) ?_; (case hx => rfl); (case hy => rfl); have H3N := Aside0.mk (setRow_heap _ g3 _ #[.int .i64 5, .int .i64 0, .int .i64 0, .int .i64 0, .string ⟨#[]⟩, .string ⟨#[]⟩, .int .i64 0, .int .i64 0, .int .i64 0, .int .i64 0, .int .i64 0, .slice none 0 0] _ _ H3.out); have hkr := keep_row (KeepBut.refl w3 g3 none) #[.int .i64 5, .int .i64 0, .int .i64 0, .int .i64 0, .string ⟨#[]⟩, .string ⟨#[]⟩, .int .i64 0, .int .i64 0, .int .i64 0, .int .i64 0, .int .i64 0, .slice none 0 0]; replace H2 := Aside0.mk (hkr.blk H2.out HNE.out (by simp)); replace HI := Aside0.mk (HI.out.keep hkr (HI.out.at_ne H3.out (by decide)) H3.out (by decide)); replace HB := Aside0.mk (below_row HB.out (Nat.le_trans HSZ.out HG3.out) #[.int .i64 5, .int .i64 0, .int .i64 0, .int .i64 0, .string ⟨#[]⟩, .string ⟨#[]⟩, .int .i64 0, .int .i64 0, .int .i64 0, .int .i64 0, .int .i64 0, .slice none 0 0]); replace HK := Aside0.mk (keep_new HK.out hkr HG3.out); generalize w3.setRow g3 #[.int .i64 5, .int .i64 0, .int .i64 0, .int .i64 0, .string ⟨#[]⟩, .string ⟨#[]⟩, .int .i64 0, .int .i64 0, .int .i64 0, .int .i64 0, .int .i64 0, .slice none 0 0] = w4 at H3N H2 HI HB HK ⊢; clear H3 hkr; have H3 := H3N; clear H3N; have c0 : w4.cell? ⟨g3, 0, none⟩ = some (.int .i64 5) := blk_cell H3.out 0) | fail)
   obtain ⟨n, ep, by_, ch, l3, e3, l4, e4, l5, e5, rfl, hn, hep, hby, hch⟩ := hsel
   have hq := wire_Reader_Num.calls g l1 e1 true w0 _ HI.out HB.out
   rw [hn] at hq
   dsimp only at hq
   refine hq.mono ?_
   clear hq
   rintro ed1 wN1 ⟨rfl, hi, hbx, hk⟩
   replace H3 := Aside0.mk (hk.blk H3.out (HI.out.at_ne H3.out (by decide)) (by simp))
   replace H2 := Aside0.mk (hk.blk H2.out (HI.out.at_ne H2.out (by decide)) (by simp))
   replace HK := Aside0.mk (HK.out.trans hk (.inl rfl))
   replace HI := Aside0.mk hi
   replace HB := Aside0.mk hbx
   clear hi hbx hk
   clear c0
   go_wp2_with fail
   have hq := wire_Reader_Num.calls g l3 e3 true w0 _ HI.out HB.out
   rw [hep] at hq
   dsimp only at hq
   refine hq.mono ?_
   clear hq
   rintro ed1 wN2 ⟨rfl, hi, hbx, hk⟩
   replace H3 := Aside0.mk (hk.blk H3.out (HI.out.at_ne H3.out (by decide)) (by simp))
   replace H2 := Aside0.mk (hk.blk H2.out (HI.out.at_ne H2.out (by decide)) (by simp))
   replace HK := Aside0.mk (HK.out.trans hk (.inl rfl))
   replace HI := Aside0.mk hi
   replace HB := Aside0.mk hbx
   clear hi hbx hk
   go_wp2_with fail
   have hq := wire_Reader_Num.calls g l4 e4 true w0 _ HI.out HB.out
   rw [hby] at hq
   dsimp only at hq
   refine hq.mono ?_
   clear hq
   rintro ed1 wO ⟨rfl, hi, hbx, hk⟩
   replace H3 := Aside0.mk (hk.blk H3.out (HI.out.at_ne H3.out (by decide)) (by simp))
   replace H2 := Aside0.mk (hk.blk H2.out (HI.out.at_ne H2.out (by decide)) (by simp))
   replace HK := Aside0.mk (HK.out.trans hk (.inl rfl))
   replace HI := Aside0.mk hi
   replace HB := Aside0.mk hbx
   clear hi hbx hk
   have p8 : wO.cell? ⟨g3, 8, none⟩ = some (.int .i64 0) := blk_cell H3.out 8
   have p9 : wO.cell? ⟨g3, 9, none⟩ = some (.int .i64 0) := blk_cell H3.out 9
   have p10 : wO.cell? ⟨g3, 10, none⟩ = some (.int .i64 0) := blk_cell H3.out 10
   have f8 : wO.frozen? ⟨g3, 8, none⟩ = false := blk_frozen H3.out 8
   have f9 : wO.frozen? ⟨g3, 9, none⟩ = false := blk_frozen H3.out 9
   have f10 : wO.frozen? ⟨g3, 10, none⟩ = false := blk_frozen H3.out 10
   go_wp2_with fail
   have hkr := fun W => (((KeepBut.refl W g3 none).set_ 8 (.int .i64 n)).set_ 9 (.int .i64 ep)).set_ 10 (.int .i64 by_)
   have H3N := Aside0.mk (show (World.setCell (World.setCell (World.setCell wO ⟨g3, 8, none⟩ (.int .i64 n)) ⟨g3, 9, none⟩ (.int .i64 ep)) ⟨g3, 10, none⟩ (.int .i64 by_)).heap[g3]? = some (.cells #[.int .i64 5, .int .i64 0, .int .i64 0, .int .i64 0, .string ⟨#[]⟩, .string ⟨#[]⟩, .int .i64 0, .int .i64 0, .int .i64 n, .int .i64 ep, .int .i64 by_, .slice none 0 0] 35 (0, 0)) from blk_put (blk_put (blk_put (H3.out) 8 (.int .i64 n) rfl) 9 (.int .i64 ep) rfl) 10 (.int .i64 by_) rfl)
   replace H2 := Aside0.mk ((hkr wO).blk H2.out HNE.out (by simp))
   replace HI := Aside0.mk (HI.out.keep (hkr wO) (HI.out.at_ne H3.out (by decide)) H3.out (by decide))
   replace HB := Aside0.mk (show Below w0.heap.size w0 (World.setCell (World.setCell (World.setCell wO ⟨g3, 8, none⟩ (.int .i64 n)) ⟨g3, 9, none⟩ (.int .i64 ep)) ⟨g3, 10, none⟩ (.int .i64 by_)) from below_set (below_set (below_set (HB.out) (Nat.le_trans HSZ.out HG3.out)) (Nat.le_trans HSZ.out HG3.out)) (Nat.le_trans HSZ.out HG3.out))
   replace HK := Aside0.mk (keep_new HK.out (hkr wO) HG3.out)
   clear H3
   have H3 := H3N
   clear H3N hkr
   generalize hWW : (World.setCell (World.setCell (World.setCell wO ⟨g3, 8, none⟩ (.int .i64 n)) ⟨g3, 9, none⟩ (.int .i64 ep)) ⟨g3, 10, none⟩ (.int .i64 by_)) = wP at H3 H2 HI HB HK ⊢
   clear hWW
   clear p8 p9 p10 f8 f9 f10
   refine (hch _ HI.out HB.out).mono ?_
   rintro ed1 wC ⟨vch, rfl, ho, hi, hbx, hk⟩
   obtain ⟨Ac, cc, rfl⟩ := Kd.R_slice ho
   have HCH := Aside0.mk (Kd.R_lower ho HK.out.1)
   clear ho
   replace H3 := Aside0.mk (hk.blk H3.out (HI.out.at_ne H3.out (by decide)) (by simp))
   replace H2 := Aside0.mk (hk.blk H2.out (HI.out.at_ne H2.out (by decide)) (by simp))
   replace HK := Aside0.mk (HK.out.trans hk (.inl rfl))
   replace HI := Aside0.mk hi
   replace HB := Aside0.mk hbx
   clear hi hbx hk hch
   have p11 : wC.cell? ⟨g3, 11, none⟩ = some (.slice none 0 0) := blk_cell H3.out 11
   have f11 : wC.frozen? ⟨g3, 11, none⟩ = false := blk_frozen H3.out 11
   go_wp2_with (first | ((with_reducible refine gate_dst (N := 35) rfl ?_); have hkr := fun W => (KeepBut.refl W g3 none).set_ 11 (.slice Ac ch.length cc); replace HCH := Aside0.mk (row_keep HCH.out (hkr wC) H3.out (by decide)); have H3N := Aside0.mk (show (World.setCell wC ⟨g3, 11, none⟩ (.slice Ac ch.length cc)).heap[g3]? = some (.cells #[.int .i64 5, .int .i64 0, .int .i64 0, .int .i64 0, .string ⟨#[]⟩, .string ⟨#[]⟩, .int .i64 0, .int .i64 0, .int .i64 n, .int .i64 ep, .int .i64 by_, .slice Ac ch.length cc] 35 (0, 0)) from blk_put (H3.out) 11 (.slice Ac ch.length cc) rfl); replace H2 := Aside0.mk ((hkr wC).blk H2.out HNE.out (by simp)); replace HI := Aside0.mk (HI.out.keep (hkr wC) (HI.out.at_ne H3.out (by decide)) H3.out (by decide)); replace HB := Aside0.mk (show Below w0.heap.size w0 (World.setCell wC ⟨g3, 11, none⟩ (.slice Ac ch.length cc)) from below_set (HB.out) (Nat.le_trans HSZ.out HG3.out)); replace HK := Aside0.mk (keep_new HK.out (hkr wC) HG3.out); clear H3; have H3 := H3N; clear H3N hkr; generalize hWW : (World.setCell wC ⟨g3, 11, none⟩ (.slice Ac ch.length cc)) = wP at H3 H2 HI HB HK HCH ⊢; clear hWW; clear p11 f11; refine wpList_load_row rfl 35 (.tmp 3) rfl g3 ?hx 35 #[.int .i64 5, .int .i64 0, .int .i64 0, .int .i64 0, .string ⟨#[]⟩, .string ⟨#[]⟩, .int .i64 0, .int .i64 0, .int .i64 n, .int .i64 ep, .int .i64 by_, .slice Ac ch.length cc] (0, 0) _ H3.out Try.underlying35 rfl (by kernel_rfl) ?_; (case hx => rfl)) | fail)
   refine (entry_Right.calls k 5 0 0 0 ⟨#[]⟩ ⟨#[]⟩ 0 0 n ep by_ Ac cc ch ok _ (Kd.R_reads' HCH.out).2.2 (Kd.R_reads' HCH.out).2.1 HR.out).mono ?_
   rintro e wR ⟨rfl, hb⟩
   replace HCH := Aside0.mk (Kd.R_below HCH.out hb)
   replace H2 := Aside0.mk (blk_below H2.out hb)
   replace H3 := Aside0.mk (blk_below H3.out hb)
   replace HI := Aside0.mk (HI.out.below hb)
   replace HK := Aside0.mk (HK.out.trans (KeepBut.of_below hb g none) (.inl rfl))
   replace HB := Aside0.mk (below_then HB.out HB.out.size hb)
   clear hb
   cases ok
   focus
    go_wp2_with fail
    refine (wire_Reader_Fail.calls g l2 e2 true 21 w0 _ HI.out HB.out).mono ?_
    rintro e1 wF ⟨rfl, hi, hbx, hk⟩
    replace H2 := Aside0.mk (hk.blk H2.out (HI.out.at_ne H2.out (by decide)) (by simp))
    replace HK := Aside0.mk (HK.out.trans hk (.inl rfl))
    replace HB := Aside0.mk hbx
    have hz2 : (if rdOk e2 true = true then (21 : Int) else e2) = z := by
     rw [HZ.out]
     unfold tkE rdOk
     by_cases q : e2 = 0 <;> simp [q]
    rw [hz2] at hi
    replace HI := Aside0.mk hi
    have hz0 : z ≠ 0 := by
     rw [HZ.out]
     unfold tkE
     by_cases q : e2 = 0 <;> simp [q]
    have HZ0 := Aside0.mk hz0
    clear hi hbx hk hz2 hz0
    go_wp2_with fail
    refine (wire_Reader_Err.calls g l2 z true w0 _ HI.out).mono ?_
    rintro e2 wE ⟨rfl, rfl⟩
    rw [if_pos (rfl : true = true)]
    have hzb : (z != 0) = true := bne_iff_ne.mpr HZ0.out
    obtain rfl : out = ERow.zero := HO.out.trans (if_neg HZ0.out)
    clear HO
    go_wp2_with (first | ((with_reducible refine gate_store (t := 35) (p := 2) rfl ?_); refine wpList_store_row rfl 35 (.tmp 2) (.tmp 43) rfl g2 #[.int .i64 0, .int .i64 0, .int .i64 0, .int .i64 0, .string ⟨#[]⟩, .string ⟨#[]⟩, .int .i64 0, .int .i64 0, .int .i64 0, .int .i64 0, .int .i64 0, .slice none 0 0] ?hx ?hy 35 _ H2.out (by kernel_rfl) rfl (by simp [Value.oneCell']) ?_; (case hx => rfl); (case hy => rfl)) | fail)
    have hkr_ := fun W => keep_row (KeepBut.refl W g2 none) #[.int .i64 0, .int .i64 0, .int .i64 0, .int .i64 0, .string ⟨#[]⟩, .string ⟨#[]⟩, .int .i64 0, .int .i64 0, .int .i64 0, .int .i64 0, .int .i64 0, .slice none 0 0]
    exact bodyPost_ret (results_cell_row rfl _ _ g2 35 #[.int .i64 0, .int .i64 0, .int .i64 0, .int .i64 0, .string ⟨#[]⟩, .string ⟨#[]⟩, .int .i64 0, .int .i64 0, .int .i64 0, .int .i64 0, .int .i64 0, .slice none 0 0] (0, 0) _ rfl (setRow_heap _ _ _ #[.int .i64 0, .int .i64 0, .int .i64 0, .int .i64 0, .string ⟨#[]⟩, .string ⟨#[]⟩, .int .i64 0, .int .i64 0, .int .i64 0, .int .i64 0, .int .i64 0, .slice none 0 0] _ _ H2.out) Try.underlying35 rfl rfl) rfl ⟨_, rfl, Kd.R_nil _ _ _ _ _, HI.out.keep (hkr_ _) (HI.out.at_ne H2.out (by decide)) H2.out (by decide), below_row HB.out (Nat.le_trans HSZ.out HG2.out) _, keep_new HK.out (hkr_ _) HG2.out⟩
   have hz2 : z = e2 := HZ.out
   rw [← hz2] at HI
   clear hz2
   go_wp2_with fail
   refine (wire_Reader_Err.calls g l2 z true w0 _ HI.out).mono ?_
   rintro e2 wE ⟨rfl, rfl⟩
   rw [if_pos (rfl : true = true)]
   by_cases hz0 : z = 0
   focus
    have hzb : (z != 0) = false := by rw [hz0]; rfl
    obtain rfl := HO.out.trans (if_pos hz0)
    clear HO hz0
    go_wp2_with (first | ((with_reducible refine gate_dst (N := 44) rfl ?_); refine wpList_load_row rfl 35 (.tmp 3) rfl g3 ?hx 35 #[.int .i64 5, .int .i64 0, .int .i64 0, .int .i64 0, .string ⟨#[]⟩, .string ⟨#[]⟩, .int .i64 0, .int .i64 0, .int .i64 n, .int .i64 ep, .int .i64 by_, .slice Ac ch.length cc] (0, 0) _ H3.out Try.underlying35 rfl (by kernel_rfl) ?_; (case hx => rfl)) | ((with_reducible refine gate_store (t := 35) (p := 2) rfl ?_); refine wpList_store_row rfl 35 (.tmp 2) (.tmp 44) rfl g2 #[.int .i64 5, .int .i64 0, .int .i64 0, .int .i64 0, .string ⟨#[]⟩, .string ⟨#[]⟩, .int .i64 0, .int .i64 0, .int .i64 n, .int .i64 ep, .int .i64 by_, .slice Ac ch.length cc] ?hx ?hy 35 _ H2.out (by kernel_rfl) rfl (by simp [Value.oneCell']) ?_; (case hx => rfl); (case hy => rfl)) | fail)
    have hkr_ := fun W => keep_row (KeepBut.refl W g2 none) #[.int .i64 5, .int .i64 0, .int .i64 0, .int .i64 0, .string ⟨#[]⟩, .string ⟨#[]⟩, .int .i64 0, .int .i64 0, .int .i64 n, .int .i64 ep, .int .i64 by_, .slice Ac ch.length cc]
    exact bodyPost_ret (results_cell_row rfl _ _ g2 35 #[.int .i64 5, .int .i64 0, .int .i64 0, .int .i64 0, .string ⟨#[]⟩, .string ⟨#[]⟩, .int .i64 0, .int .i64 0, .int .i64 n, .int .i64 ep, .int .i64 by_, .slice Ac ch.length cc] (0, 0) _ rfl (setRow_heap _ _ _ #[.int .i64 5, .int .i64 0, .int .i64 0, .int .i64 0, .string ⟨#[]⟩, .string ⟨#[]⟩, .int .i64 0, .int .i64 0, .int .i64 n, .int .i64 ep, .int .i64 by_, .slice Ac ch.length cc] _ _ H2.out) Try.underlying35 rfl rfl) rfl ⟨_, rfl, row_keep HCH.out (hkr_ _) H2.out (by decide), HI.out.keep (hkr_ _) (HI.out.at_ne H2.out (by decide)) H2.out (by decide), below_row HB.out (Nat.le_trans HSZ.out HG2.out) _, keep_new HK.out (hkr_ _) HG2.out⟩
   have hzb : (z != 0) = true := bne_iff_ne.mpr hz0
   obtain rfl : out = ERow.zero := HO.out.trans (if_neg hz0)
   clear HO hz0
   go_wp2_with (first | ((with_reducible refine gate_store (t := 35) (p := 2) rfl ?_); refine wpList_store_row rfl 35 (.tmp 2) (.tmp 43) rfl g2 #[.int .i64 0, .int .i64 0, .int .i64 0, .int .i64 0, .string ⟨#[]⟩, .string ⟨#[]⟩, .int .i64 0, .int .i64 0, .int .i64 0, .int .i64 0, .int .i64 0, .slice none 0 0] ?hx ?hy 35 _ H2.out (by kernel_rfl) rfl (by simp [Value.oneCell']) ?_; (case hx => rfl); (case hy => rfl)) | fail)
   have hkr_ := fun W => keep_row (KeepBut.refl W g2 none) #[.int .i64 0, .int .i64 0, .int .i64 0, .int .i64 0, .string ⟨#[]⟩, .string ⟨#[]⟩, .int .i64 0, .int .i64 0, .int .i64 0, .int .i64 0, .int .i64 0, .slice none 0 0]
   exact bodyPost_ret (results_cell_row rfl _ _ g2 35 #[.int .i64 0, .int .i64 0, .int .i64 0, .int .i64 0, .string ⟨#[]⟩, .string ⟨#[]⟩, .int .i64 0, .int .i64 0, .int .i64 0, .int .i64 0, .int .i64 0, .slice none 0 0] (0, 0) _ rfl (setRow_heap _ _ _ #[.int .i64 0, .int .i64 0, .int .i64 0, .int .i64 0, .string ⟨#[]⟩, .string ⟨#[]⟩, .int .i64 0, .int .i64 0, .int .i64 0, .int .i64 0, .int .i64 0, .slice none 0 0] _ _ H2.out) Try.underlying35 rfl rfl) rfl ⟨_, rfl, Kd.R_nil _ _ _ _ _, HI.out.keep (hkr_ _) (HI.out.at_ne H2.out (by decide)) H2.out (by decide), below_row HB.out (Nat.le_trans HSZ.out HG2.out) _, keep_new HK.out (hkr_ _) HG2.out⟩
 ·clear HWAY
  obtain ⟨q1, q2, q3, q4, q5⟩ := hkd
  have d1 : (kd == 1) = false := beq_eq_false_iff_ne.mpr q1
  have d2 : (kd == 2) = false := beq_eq_false_iff_ne.mpr q2
  have d3 : (kd == 3) = false := beq_eq_false_iff_ne.mpr q3
  have d4 : (kd == 4) = false := beq_eq_false_iff_ne.mpr q4
  have d5 : (kd == 5) = false := beq_eq_false_iff_ne.mpr q5
  clear q1 q2 q3 q4 q5
  as_aux_lemma =>
  obtain ⟨rfl, rfl, rfl⟩ := hsel
  go_wp2_with (first | ((with_reducible refine gate_dst (N := 3) rfl ?_); refine box_event ?hg (N := 3) ?hd (cs := #[.int .i64 0, .int .i64 0, .int .i64 0, .int .i64 0, .string ⟨#[]⟩, .string ⟨#[]⟩, .int .i64 0, .int .i64 0, .int .i64 0, .int .i64 0, .int .i64 0, .slice none 0 0]) (t := 35) ?hr ?_; (case hd => rfl); (case hg => rfl); (case hr => first | (go_simp; done) | (go_simp; rfl)); intro g3 hg w3 hbox hb; have H3 := Aside0.mk hbox; have HNE := Aside0.mk (show g2 ≠ g3 by have := blk_lt H2.out; omega); have HG3 := Aside0.mk (show w.heap.size ≤ g3 by rw [hg]; exact HK.out.1); replace H2 := Aside0.mk (blk_below H2.out hb); replace HI := Aside0.mk (HI.out.below hb); replace HK := Aside0.mk (HK.out.trans (KeepBut.of_below hb g none) (.inl rfl)); replace HB := Aside0.mk (below_then HB.out HB.out.size hb); clear hbox hb hg) | ((with_reducible refine gate_store (t := 35) (p := 3) rfl ?_); refine wpList_store_row rfl 35 (.tmp 3) (.tmp 6) rfl g3 #[.int .i64 kd, .int .i64 0, .int .i64 0, .int .i64 0, .string ⟨#[]⟩, .string ⟨#[]⟩, .int .i64 0, .int .i64 0, .int .i64 0, .int .i64 0, .int .i64 0, .slice none 0 0] ?hx ?hy 35 _ H3.out (by kernel_rfl) rfl (by simp [Value.oneCell']) ?_; (case hx => rfl); (case hy => rfl); have H3N := Aside0.mk (setRow_heap _ g3 _ #[.int .i64 kd, .int .i64 0, .int .i64 0, .int .i64 0, .string ⟨#[]⟩, .string ⟨#[]⟩, .int .i64 0, .int .i64 0, .int .i64 0, .int .i64 0, .int .i64 0, .slice none 0 0] _ _ H3.out); have hkr := keep_row (KeepBut.refl w3 g3 none) #[.int .i64 kd, .int .i64 0, .int .i64 0, .int .i64 0, .string ⟨#[]⟩, .string ⟨#[]⟩, .int .i64 0, .int .i64 0, .int .i64 0, .int .i64 0, .int .i64 0, .slice none 0 0]; replace H2 := Aside0.mk (hkr.blk H2.out HNE.out (by simp)); replace HI := Aside0.mk (HI.out.keep hkr (HI.out.at_ne H3.out (by decide)) H3.out (by decide)); replace HB := Aside0.mk (below_row HB.out (Nat.le_trans HSZ.out HG3.out) #[.int .i64 kd, .int .i64 0, .int .i64 0, .int .i64 0, .string ⟨#[]⟩, .string ⟨#[]⟩, .int .i64 0, .int .i64 0, .int .i64 0, .int .i64 0, .int .i64 0, .slice none 0 0]); replace HK := Aside0.mk (keep_new HK.out hkr HG3.out); generalize w3.setRow g3 #[.int .i64 kd, .int .i64 0, .int .i64 0, .int .i64 0, .string ⟨#[]⟩, .string ⟨#[]⟩, .int .i64 0, .int .i64 0, .int .i64 0, .int .i64 0, .int .i64 0, .slice none 0 0] = w4 at H3N H2 HI HB HK ⊢; clear H3 hkr; have H3 := H3N; clear H3N; have c0 : w4.cell? ⟨g3, 0, none⟩ = some (.int .i64 kd) := blk_cell H3.out 0) | ((with_reducible refine gate_dst (N := 35) rfl ?_); refine wpList_load_row rfl 35 (.tmp 3) rfl g3 ?hx 35 #[.int .i64 kd, .int .i64 0, .int .i64 0, .int .i64 0, .string ⟨#[]⟩, .string ⟨#[]⟩, .int .i64 0, .int .i64 0, .int .i64 0, .int .i64 0, .int .i64 0, .slice none 0 0] (0, 0) _ H3.out Try.underlying35 rfl (by kernel_rfl) ?_; (case hx => rfl)) | fail)
  refine (entry_Right.calls k kd 0 0 0 ⟨#[]⟩ ⟨#[]⟩ 0 0 0 0 0 none 0 [] ok _ (Kd.C_nil _ _) (Nat.le_refl _) HR.out).mono ?_
  rintro e wR ⟨rfl, hb⟩
  replace H2 := Aside0.mk (blk_below H2.out hb)
  replace H3 := Aside0.mk (blk_below H3.out hb)
  replace HI := Aside0.mk (HI.out.below hb)
  replace HK := Aside0.mk (HK.out.trans (KeepBut.of_below hb g none) (.inl rfl))
  replace HB := Aside0.mk (below_then HB.out HB.out.size hb)
  clear hb
  cases ok
  focus
   go_wp2_with fail
   refine (wire_Reader_Fail.calls g l2 e2 true 21 w0 _ HI.out HB.out).mono ?_
   rintro e1 wF ⟨rfl, hi, hbx, hk⟩
   replace H2 := Aside0.mk (hk.blk H2.out (HI.out.at_ne H2.out (by decide)) (by simp))
   replace HK := Aside0.mk (HK.out.trans hk (.inl rfl))
   replace HB := Aside0.mk hbx
   have hz2 : (if rdOk e2 true = true then (21 : Int) else e2) = z := by
    rw [HZ.out]
    unfold tkE rdOk
    by_cases q : e2 = 0 <;> simp [q]
   rw [hz2] at hi
   replace HI := Aside0.mk hi
   have hz0 : z ≠ 0 := by
    rw [HZ.out]
    unfold tkE
    by_cases q : e2 = 0 <;> simp [q]
   have HZ0 := Aside0.mk hz0
   clear hi hbx hk hz2 hz0
   go_wp2_with fail
   refine (wire_Reader_Err.calls g l2 z true w0 _ HI.out).mono ?_
   rintro e2 wE ⟨rfl, rfl⟩
   rw [if_pos (rfl : true = true)]
   have hzb : (z != 0) = true := bne_iff_ne.mpr HZ0.out
   obtain rfl : out = ERow.zero := HO.out.trans (if_neg HZ0.out)
   clear HO
   go_wp2_with (first | ((with_reducible refine gate_store (t := 35) (p := 2) rfl ?_); refine wpList_store_row rfl 35 (.tmp 2) (.tmp 43) rfl g2 #[.int .i64 0, .int .i64 0, .int .i64 0, .int .i64 0, .string ⟨#[]⟩, .string ⟨#[]⟩, .int .i64 0, .int .i64 0, .int .i64 0, .int .i64 0, .int .i64 0, .slice none 0 0] ?hx ?hy 35 _ H2.out (by kernel_rfl) rfl (by simp [Value.oneCell']) ?_; (case hx => rfl); (case hy => rfl)) | fail)
   have hkr_ := fun W => keep_row (KeepBut.refl W g2 none) #[.int .i64 0, .int .i64 0, .int .i64 0, .int .i64 0, .string ⟨#[]⟩, .string ⟨#[]⟩, .int .i64 0, .int .i64 0, .int .i64 0, .int .i64 0, .int .i64 0, .slice none 0 0]
   exact bodyPost_ret (results_cell_row rfl _ _ g2 35 #[.int .i64 0, .int .i64 0, .int .i64 0, .int .i64 0, .string ⟨#[]⟩, .string ⟨#[]⟩, .int .i64 0, .int .i64 0, .int .i64 0, .int .i64 0, .int .i64 0, .slice none 0 0] (0, 0) _ rfl (setRow_heap _ _ _ #[.int .i64 0, .int .i64 0, .int .i64 0, .int .i64 0, .string ⟨#[]⟩, .string ⟨#[]⟩, .int .i64 0, .int .i64 0, .int .i64 0, .int .i64 0, .int .i64 0, .slice none 0 0] _ _ H2.out) Try.underlying35 rfl rfl) rfl ⟨_, rfl, Kd.R_nil _ _ _ _ _, HI.out.keep (hkr_ _) (HI.out.at_ne H2.out (by decide)) H2.out (by decide), below_row HB.out (Nat.le_trans HSZ.out HG2.out) _, keep_new HK.out (hkr_ _) HG2.out⟩
  have hz2 : z = e2 := HZ.out
  rw [← hz2] at HI
  clear hz2
  go_wp2_with fail
  refine (wire_Reader_Err.calls g l2 z true w0 _ HI.out).mono ?_
  rintro e2 wE ⟨rfl, rfl⟩
  rw [if_pos (rfl : true = true)]
  by_cases hz0 : z = 0
  focus
   have hzb : (z != 0) = false := by rw [hz0]; rfl
   obtain rfl := HO.out.trans (if_pos hz0)
   clear HO hz0
   go_wp2_with (first | ((with_reducible refine gate_dst (N := 44) rfl ?_); refine wpList_load_row rfl 35 (.tmp 3) rfl g3 ?hx 35 #[.int .i64 kd, .int .i64 0, .int .i64 0, .int .i64 0, .string ⟨#[]⟩, .string ⟨#[]⟩, .int .i64 0, .int .i64 0, .int .i64 0, .int .i64 0, .int .i64 0, .slice none 0 0] (0, 0) _ H3.out Try.underlying35 rfl (by kernel_rfl) ?_; (case hx => rfl)) | ((with_reducible refine gate_store (t := 35) (p := 2) rfl ?_); refine wpList_store_row rfl 35 (.tmp 2) (.tmp 44) rfl g2 #[.int .i64 kd, .int .i64 0, .int .i64 0, .int .i64 0, .string ⟨#[]⟩, .string ⟨#[]⟩, .int .i64 0, .int .i64 0, .int .i64 0, .int .i64 0, .int .i64 0, .slice none 0 0] ?hx ?hy 35 _ H2.out (by kernel_rfl) rfl (by simp [Value.oneCell']) ?_; (case hx => rfl); (case hy => rfl)) | fail)
   have hkr_ := fun W => keep_row (KeepBut.refl W g2 none) #[.int .i64 kd, .int .i64 0, .int .i64 0, .int .i64 0, .string ⟨#[]⟩, .string ⟨#[]⟩, .int .i64 0, .int .i64 0, .int .i64 0, .int .i64 0, .int .i64 0, .slice none 0 0]
   exact bodyPost_ret (results_cell_row rfl _ _ g2 35 #[.int .i64 kd, .int .i64 0, .int .i64 0, .int .i64 0, .string ⟨#[]⟩, .string ⟨#[]⟩, .int .i64 0, .int .i64 0, .int .i64 0, .int .i64 0, .int .i64 0, .slice none 0 0] (0, 0) _ rfl (setRow_heap _ _ _ #[.int .i64 kd, .int .i64 0, .int .i64 0, .int .i64 0, .string ⟨#[]⟩, .string ⟨#[]⟩, .int .i64 0, .int .i64 0, .int .i64 0, .int .i64 0, .int .i64 0, .slice none 0 0] _ _ H2.out) Try.underlying35 rfl rfl) rfl ⟨_, rfl, Kd.R_nil _ _ _ _ _, HI.out.keep (hkr_ _) (HI.out.at_ne H2.out (by decide)) H2.out (by decide), below_row HB.out (Nat.le_trans HSZ.out HG2.out) _, keep_new HK.out (hkr_ _) HG2.out⟩
  have hzb : (z != 0) = true := bne_iff_ne.mpr hz0
  obtain rfl : out = ERow.zero := HO.out.trans (if_neg hz0)
  clear HO hz0
  go_wp2_with (first | ((with_reducible refine gate_store (t := 35) (p := 2) rfl ?_); refine wpList_store_row rfl 35 (.tmp 2) (.tmp 43) rfl g2 #[.int .i64 0, .int .i64 0, .int .i64 0, .int .i64 0, .string ⟨#[]⟩, .string ⟨#[]⟩, .int .i64 0, .int .i64 0, .int .i64 0, .int .i64 0, .int .i64 0, .slice none 0 0] ?hx ?hy 35 _ H2.out (by kernel_rfl) rfl (by simp [Value.oneCell']) ?_; (case hx => rfl); (case hy => rfl)) | fail)
  have hkr_ := fun W => keep_row (KeepBut.refl W g2 none) #[.int .i64 0, .int .i64 0, .int .i64 0, .int .i64 0, .string ⟨#[]⟩, .string ⟨#[]⟩, .int .i64 0, .int .i64 0, .int .i64 0, .int .i64 0, .int .i64 0, .slice none 0 0]
  exact bodyPost_ret (results_cell_row rfl _ _ g2 35 #[.int .i64 0, .int .i64 0, .int .i64 0, .int .i64 0, .string ⟨#[]⟩, .string ⟨#[]⟩, .int .i64 0, .int .i64 0, .int .i64 0, .int .i64 0, .int .i64 0, .slice none 0 0] (0, 0) _ rfl (setRow_heap _ _ _ #[.int .i64 0, .int .i64 0, .int .i64 0, .int .i64 0, .string ⟨#[]⟩, .string ⟨#[]⟩, .int .i64 0, .int .i64 0, .int .i64 0, .int .i64 0, .int .i64 0, .slice none 0 0] _ _ H2.out) Try.underlying35 rfl rfl) rfl ⟨_, rfl, Kd.R_nil _ _ _ _ _, HI.out.keep (hkr_ _) (HI.out.at_ne H2.out (by decide)) H2.out (by decide), below_row HB.out (Nat.le_trans HSZ.out HG2.out) _, keep_new HK.out (hkr_ _) HG2.out⟩

end
section
open Go.RowKit Go.Proofs.YtampppdjfbabiaaW.PrintWords Go.Proofs.YtampppdjfbabiaaW.PrintLast Go.Proofs.YtampppdjfbabiaaW.PrintMore
attribute [local go_sem] max2_int min2_int max_two min_two max_three min_three max_four min_four   -- for this text's walks alone
set_option linter.unusedVariables false
set_option linter.unusedSimpArgs false

/-! ### gleberef11_In: function 13 -/
def gleberef11_In.l0 : Nat → List Int → Int → Int → Option (Bool)
 | 0, _, _, _ => none
 | k + 1, x0, x1, x5 => if x5 < (x0.length : Int) then (if 0 ≤ x5 then (if (rd x0 x5) = x1 then (some true) else (gleberef11_In.l0 k x0 x1 (wrap64 (x5 + 1)))) else (none)) else (some false)
def gleberef11_In.f (k : Nat) (l0 : List Int) (a1 : Int) : Option (Bool) := gleberef11_In.l0 k l0 a1 0
theorem gleberef11_In.mono_l : ∀ k, (∀ y0 y1 y2, LeO (gleberef11_In.l0 k y0 y1 y2) (gleberef11_In.l0 (k + 1) y0 y1 y2))
 | 0 => fun _ _ _ r h => by simp [gleberef11_In.l0] at h
 | k + 1 => by
  have ih0 := gleberef11_In.mono_l k
  ·intro y0 y1 y2
   unfold gleberef11_In.l0
   repeat' first
   | (with_reducible exact ih0 _ _ _)
   | (with_reducible exact LeO.refl _)
   | (with_reducible exact LeO.none _)
   | (with_reducible refine LeO.ite ?_ ?_)
   | (with_reducible refine LeO.bind ?_ (fun _ => ?_))
   | exact ih0 _ _ _
   | exact LeO.none _
   | refine LeO.ite ?_ ?_
   | refine LeO.bind ?_ (fun _ => ?_)
theorem gleberef11_In.mono : ∀ a0 a1 k, LeO (gleberef11_In.f k a0 a1) (gleberef11_In.f (k + 1) a0 a1) := by
 intro a0 a1 k
 have ih0 := gleberef11_In.mono_l k
 unfold gleberef11_In.f
 repeat' first
   | (with_reducible exact ih0 _ _ _)
   | (with_reducible exact LeO.refl _)
   | (with_reducible exact LeO.none _)
   | (with_reducible refine LeO.ite ?_ ?_)
   | (with_reducible refine LeO.bind ?_ (fun _ => ?_))
   | exact ih0 _ _ _
   | exact LeO.none _
   | refine LeO.ite ?_ ?_
   | refine LeO.bind ?_ (fun _ => ?_)
set_option maxHeartbeats 8000000 in
set_option maxRecDepth 100000 in
theorem gleberef11_In.calls (k : Nat) (A0 : Option Addr) (c0 : Nat) (l0 : List Int) (a1 : Int) (r : Bool) (w : World) (hr0 : Kd.C (Kd.int .i64) w A0 l0.length l0) (hc0 : l0.length ≤ c0) (h : gleberef11_In.f k l0 a1 = some r) :
  Calls Try.prog 13 #[.slice A0 l0.length c0, .int .i64 a1] w fun e w' => e = .returned (.bool r) ∧ Drawn0 w w' := by
 have HR0 := Aside0.mk hr0
 have HC0 := Aside0.mk hc0
 clear hr0 hc0
 have H : (gleberef11_In.l0 k l0 a1 0) = some r := h
 clear h
 have H' := Aside0.mk H
 clear H
 go_enter Try.func13, Try.ntmps13
 go_wp2
 go_loopg [5] k (fun kq v5 w' => ∃ (x5_1 : Int), v5 = .int .i64 x5_1 ∧ Aside0 (gleberef11_In.l0 kq l0 a1 x5_1 = some r) ∧ Aside0 (kq ≤ k) ∧ Drawn0 w w')
 case atStart => exact ⟨(0), (by first | rfl | (simp; done) | (simp [*]; done)), H', ⟨Nat.le_refl _⟩, by repeat (first | exact Drawn0.refl _ | apply Drawn0.step)⟩
 case round =>
  clear H'
  try clear c1
  try clear p2
  obtain ⟨x5_1, rfl, HA, HK1, ⟨m1, rfl⟩⟩ := hrel
  cases gk with
  | zero => exact absurd HA.out (by simp [gleberef11_In.l0])
  | succ k1 =>
   have H := HA.out
   clear HA
   simp only [gleberef11_In.l0] at H
   by_cases c3 : x5_1 < (l0.length : Int)
   ·rw [if_pos c3] at H
    have c3b0 : decide (x5_1 < (l0.length : Int)) = true := decide_eq_true c3
    clear c3
    by_cases c4 : 0 ≤ x5_1
    ·rw [if_pos c4] at H
     have c4b0 : decide (0 ≤ x5_1) = true := decide_eq_true c4
     clear c4
     by_cases c5 : (rd l0 x5_1) = a1
     ·rw [if_pos c5] at H
      have c5b0 : ((rd l0 x5_1) == a1) = true := beq_iff_eq.mpr c5
      have c5b1 : ((rd l0 x5_1) != a1) = false := bne_eq_false_iff_eq.mpr c5
      clear c5
      obtain rfl := Option.some.inj H
      have p264 : 0 ≤ (x5_1 : Int) := of_decide_eq_true (by first | (with_reducible assumption) | assumption)
      have q264 : x5_1 < (l0.length : Int) := of_decide_eq_true (by first | (with_reducible assumption) | assumption)
      obtain ⟨ad264, e264, hx264_0⟩ := Kd.at_int HR0.out x5_1 p264 q264
      cases e264
      replace p264 := eq_true p264
      replace q264 := eq_true q264
      go_wp2
      go_ret
      exact ⟨by first | rfl | (simp; done) | (simp [*]; done), by repeat (first | exact Drawn0.refl _ | apply Drawn0.step)⟩
     ·rw [if_neg c5] at H
      have c5b0 : ((rd l0 x5_1) == a1) = false := beq_eq_false_iff_ne.mpr c5
      have c5b1 : ((rd l0 x5_1) != a1) = true := bne_iff_ne.mpr c5
      have H' := Aside0.mk H
      clear H
      have p264 : 0 ≤ (x5_1 : Int) := of_decide_eq_true (by first | (with_reducible assumption) | assumption)
      have q264 : x5_1 < (l0.length : Int) := of_decide_eq_true (by first | (with_reducible assumption) | assumption)
      obtain ⟨ad264, e264, hx264_0⟩ := Kd.at_int HR0.out x5_1 p264 q264
      cases e264
      replace p264 := eq_true p264
      replace q264 := eq_true q264
      go_wp2
      go_roundg k1
      case measure => have := HK1.out; omega
      case rel => exact ⟨(wrap64 (x5_1 + 1)), (by first | rfl | (simp; done) | (simp [*]; done)), H', ⟨by have := HK1.out; omega⟩, by repeat (first | exact Drawn0.refl _ | apply Drawn0.step)⟩
    ·rw [if_neg c4] at H
     exact absurd H (by simp)
   ·rw [if_neg c3] at H
    have c3b0 : decide (x5_1 < (l0.length : Int)) = false := decide_eq_false c3
    clear c3
    obtain rfl := Option.some.inj H
    go_wp2
    go_ret
    exact ⟨by first | rfl | (simp; done) | (simp [*]; done), by repeat (first | exact Drawn0.refl _ | apply Drawn0.step)⟩

end
section
open Go.RowKit Go.Proofs.YtampppdjfbabiaaW.PrintWords Go.Proofs.YtampppdjfbabiaaW.PrintLast Go.Proofs.YtampppdjfbabiaaW.PrintMore
attribute [local go_sem] max2_int min2_int max_two min_two max_three min_three max_four min_four   -- for this text's walks alone
set_option linter.unusedVariables false
set_option linter.unusedSimpArgs false

--OWN Derived.RegionTactic,Derived.BigRegion
/-! ### gleberef11_RightChain: function 25 -/
def gleberef11_RightChain.T6 : Bool × List (List Nat × List Nat) := (true, [([], []), ([], []), ([0, 1], [0, 1]), ([2], [2]), ([3], [3]), ([4], [4]), ([5, 4], [5]), ([6], [6]), ([6], [6]), ([7, 8, 6], [6, 7, 8]), ([6], [6]), ([6], [6]), ([10, 11, 6], [6, 10, 11]), ([12, 6], [6, 12]), ([9, 13, 6, 6], [6, 9, 13]), ([6, 14], [6, 14])])
def gleberef11_RightChain.B6 : List Nat := [0, 0, 3, 7, 15, 31, 63, 127, 127, 511, 127, 127, 3199, 7295, 16383, 32767]
theorem gleberef11_RightChain.tab6 : rtab .any (opsOf Try.f25 6) = gleberef11_RightChain.T6 := by kernel_rfl
theorem gleberef11_RightChain.bits6 : waitsOk gleberef11_RightChain.T6.2 gleberef11_RightChain.B6 = true := by kernel_rfl
/-- The document's look, from place i on. -/
def rchGo (l : List Int) : Nat → Nat → Bool
 | 0, _ => true
 | m + 1, i => if 0 ≤ rd l (i : Int) ∧ rd l (i : Int) < 8 then (if rd l (i : Int) ∈ l.take i then false else rchGo l m (i + 1)) else false
def gleberef11_RightChain.f (l0 : List Int) : Option Bool := some (if l0.length > 8 then false else rchGo l0 l0.length 0)
theorem rin_from (l : List Int) (n : Int) (hl : l.length ≤ 1000) : ∀ (m i k : Nat), i + m = l.length → m < k → gleberef11_In.l0 k l n (i : Int) = some (decide (n ∈ l.drop i)) := by
 intro m
 induction m with
 | zero =>
  intro i k h hk
  obtain ⟨k, rfl⟩ : ∃ j, k = j + 1 := ⟨k - 1, by omega⟩
  rw [gleberef11_In.l0, if_neg (by omega), List.drop_eq_nil_of_le (by omega)]
  simp
 | succ m ih =>
  intro i k h hk
  obtain ⟨k, rfl⟩ : ∃ j, k = j + 1 := ⟨k - 1, by omega⟩
  have hi : i < l.length := by omega
  have hrd : rd l (i : Int) = l[i] := by
   unfold rd
   rw [Int.toNat_natCast]
   simp [hi]
  have hw : wrap64 ((i : Int) + 1) = ((i + 1 : Nat) : Int) := by unfold wrap64; omega
  rw [gleberef11_In.l0, if_pos (by omega), if_pos (by omega), hrd, hw]
  have hm : n ∈ l.drop i ↔ n = l[i] ∨ n ∈ l.drop (i + 1) := by rw [List.drop_eq_getElem_cons hi, List.mem_cons]
  by_cases c : l[i] = n
  ·rw [if_pos c, decide_eq_true (hm.mpr (.inl c.symm))]
  ·rw [if_neg c, ih (i + 1) k (by omega) (by omega)]
   congr 1
   rw [decide_eq_decide, hm]
   exact ⟨.inr, fun q => q.elim (fun e => absurd e.symm c) id⟩
theorem rin_eq (l : List Int) (n : Int) (hl : l.length ≤ 50) : gleberef11_In.f 100 l n = some (decide (n ∈ l)) := rin_from l n (by omega) l.length 0 100 (by omega) (by omega)
set_option maxHeartbeats 8000000 in
set_option maxRecDepth 100000 in
theorem gleberef11_RightChain.calls (A0 : Option Addr) (c0 : Nat) (l0 : List Int) (r : Bool) (w : World) (hr0 : Kd.C (Kd.int .i64) w A0 l0.length l0) (hc0 : l0.length ≤ c0) (h : gleberef11_RightChain.f l0 = some r) :
  Calls Try.prog 25 #[.slice A0 l0.length c0] w fun e w' => e = .returned (.bool r) ∧ Below w.heap.size w w' := by
 have h := Option.some.inj h
 by_cases h8 : l0.length > 8
 ·have d8 : decide ((8 : Int) < (l0.length : Int)) = true := decide_eq_true (by omega)
  have d9 : decide (8 < l0.length) = true := decide_eq_true (by omega)
  rw [if_pos h8] at h
  subst h
  clear h8
  go_enter Try.func25, Try.ntmps25
  go_wp2
  go_ret
  exact ⟨rfl, Below.refl _ _⟩
 rw [if_neg h8] at h
 have d8 : decide ((8 : Int) < (l0.length : Int)) = false := decide_eq_false (by omega)
 have d9 : decide (8 < l0.length) = false := decide_eq_false (by omega)
 have H8 := Aside0.mk (show l0.length ≤ 8 by omega)
 have HR0 := Aside0.mk hr0
 have HC0 := Aside0.mk hc0
 have HG := Aside0.mk h
 have HB := Aside0.mk (Below.refl w.heap.size w)
 obtain ⟨i0, hi, _, hsz, _⟩ := info_parts info3
 have HI0 := Aside0.mk hi
 have HZ0 := Aside0.mk hsz
 clear hr0 hc0 h h8 hi hsz
 go_enter Try.func25, Try.ntmps25
 go_wp2_with fail
 go_loopw [3] (fun i wr => ∃ j : Nat, j ≤ l0.length ∧ i = .int .i64 j ∧ Aside0 (rchGo l0 (l0.length - j) j = r) ∧ Aside0 (Below w.heap.size w wr)) (fun i _ => l0.length - (intOf i).toNat)
 case atStart => exact ⟨0, by omega, rfl, HG, HB⟩
 case round =>
  obtain ⟨j, hj, rfl, HGJ, HBJ⟩ := hrel
  clear HG HB
  have HG := HGJ
  have HB := HBJ
  clear HGJ HBJ
  by_cases hlt : j < l0.length
  ·have hlt2 : decide ((j : Int) < l0.length) = true := decide_eq_true (by omega)
   have hlt3 : (j : Int) < l0.length := by omega
   have hlt4 : decide (j < l0.length) = true := decide_eq_true hlt
   obtain ⟨ad, e1, hx⟩ := Kd.at_int HR0.out j (by omega) hlt3
   cases e1
   rw [Int.toNat_natCast] at hx
   have hg := HG.out
   obtain ⟨m, hm⟩ : ∃ m, l0.length - j = m + 1 := ⟨l0.length - j - 1, by omega⟩
   rw [hm, rchGo] at hg
   have hm2 : m = l0.length - (j + 1) := by omega
   rw [hm2] at hg
   clear hm hm2
   obtain ⟨hcut, hA, hC⟩ := print_take_of (P := Try.prog) (Value.int .i64) 0 26 3 .i64 Try.underlying26 HI0.out HZ0.out (some ad) c0 l0 (j : Int) (by omega) (by omega) HC0.out
   rw [Int.toNat_natCast] at hcut hA hC
   have HTK := Aside0.mk (show ∀ W : World, Kd.C (Kd.int .i64) W (some ad) l0.length l0 → Kd.C (Kd.int .i64) W (some ad) (l0.take j).length (l0.take j) from fun W h => Kd.C_of_reads (h1 := fun _ => rfl) (hA W (Kd.reads_of_C h)))
   have HTC := Aside0.mk hC
   have hin := rin_eq (l0.take j) (rd l0 (j : Int)) (by rw [List.length_take]; have := H8.out; omega)
   have HXC := Aside0.mk (show ∀ W : World, Below w.heap.size w W → W.cell? (ad.add j) = some (.int .i64 (rd l0 (j : Int))) from fun W hW => by
    obtain ⟨ad', e', hx'⟩ := Kd.at_int (Kd.C_below HR0.out hW) j (by omega) hlt3
    cases e'
    rwa [Int.toNat_natCast] at hx')
   clear hA hC hx
   have hw : wrap64 ((j : Int) + 1) = (j : Int) + 1 := Go.IntWalk.wrap64_in _ (by have := H8.out; omega)
   generalize rd l0 (j : Int) = n at hg hin HXC
   generalize l0.take j = T at hg hin hcut HTK HTC
   by_cases hn : 0 ≤ n ∧ n < 8
   ·rw [if_pos hn] at hg
    have HN := Aside0.mk (show gleberef11_node.f n = some true by
     unfold gleberef11_node.f
     rw [if_pos (by omega), decide_eq_true hn.2])
    clear hn
    by_cases hm : n ∈ T
    ·rw [if_pos hm] at hg
     rw [decide_eq_true hm] at hin
     subst hg
     have HIN := Aside0.mk hin
     clear hm hin HG
     go_wp2_with fail
     refine start_ (n := 16) (S := fun w' => w'.cell? (ad.add j) = some (.int .i64 n)) (ds := []) #[false, false, false, false, false, false, false, false, false, false, false, false, false, false, false, false] (by kernel_rfl) rfl rfl ((HXC.out _ (by first | exact HB.out | exact below_drew HB.out))) (fun hHeld => ?_)
     refine with_tabW gleberef11_RightChain.tab6 gleberef11_RightChain.bits6 (fun HT_ HW_ => ?_)
     refine pure_ (i := 0) (N := some 13) (v := ?_) (a' := ?_) #[true, false, false, false, false, false, false, false, false, false, false, false, false, false, false, false] rfl rfl (any_of HT_.out (by kernel_rfl)) (fun _ _ _ h => h) (Or.inl ⟨by rfl, ?_⟩) ?_ ?_
     rotate_left
     ·intro w'
      go_simp
      with_reducible rfl
     rotate_left
     ·simp only [Act.put, List.setIfInBounds_toArray, List.set_cons_zero, List.set_cons_succ, i64_w, i32_w]
      rfl
     refine pure_ (i := 1) (N := some 14) (v := ?_) (a' := ?_) #[true, true, false, false, false, false, false, false, false, false, false, false, false, false, false, false] rfl rfl (any_of HT_.out (by kernel_rfl)) (fun _ _ _ h => h) (Or.inl ⟨by rfl, ?_⟩) ?_ ?_
     rotate_left
     ·intro w'
      go_simp
      with_reducible rfl
     rotate_left
     ·simp only [Act.put, List.setIfInBounds_toArray, List.set_cons_zero, List.set_cons_succ, i64_w, i32_w]
      rfl
     refine pure_ (i := 2) (N := some 15) (v := ?_) (a' := ?_) #[true, true, true, false, false, false, false, false, false, false, false, false, false, false, false, false] rfl rfl (any_of HT_.out (by kernel_rfl)) (fun _ _ _ h => h) (Or.inl ⟨by rfl, ?_⟩) ?_ ?_
     rotate_left
     ·intro w'
      go_simp
      with_reducible rfl
     rotate_left
     ·simp only [Act.put, List.setIfInBounds_toArray, List.set_cons_zero, List.set_cons_succ, i64_w, i32_w]
      rfl
     refine take_ (i := 3) (N := some 16) (v := ?_) (a' := ?_) #[true, true, true, true, false, false, false, false, false, false, false, false, false, false, false, false] rfl rfl (take_ofW HT_.out HW_.out (by kernel_rfl)) (fun _ _ _ h => h) (Or.inl ⟨by rfl, ?_⟩) hHeld ?_ ?_
     rotate_left
     ·intro w' s0
      go_simp
      with_reducible rfl
     rotate_left
     ·simp only [Act.put, List.setIfInBounds_toArray, List.set_cons_zero, List.set_cons_succ, i64_w, i32_w]
      rfl
     refine one_ (i := 4) (N := some 17) #[true, true, true, true, true, false, false, false, false, false, false, false, false, false, false, false] rfl rfl (one_of HT_.out (by kernel_rfl)) (by decide) (fun K hK => ?_)
     refine goes_ Try.func51 (by kernel_rfl) rfl #[.int .i64 n] (by rfl) rfl rfl (by simp only [List.map_toArray, List.map_cons, List.map_nil]; rfl) ?_
     with_reducible refine (gleberef11_node.calls n true _ HN.out).mono ?_
     rintro e wx ⟨rfl, hd⟩
     refine ⟨_, rfl, ?_⟩
     replace HB := Aside0.mk (show Below w.heap.size w wx from by first | exact below_step HB.out hd.below | exact below_step (below_drew HB.out) hd.below)
     clear hd
     refine hK.out _ _ ((HXC.out _ (by first | exact HB.out | exact below_drew HB.out))) (fun hHeld => ?_)
     clear hK K
     refine norm_ (a' := ?_) ?_ ?_
     rotate_left
     ·show Act.put _ (some 17) _ = _
      simp only [Act.put, List.setIfInBounds_toArray, List.set_cons_zero, List.set_cons_succ, i64_w, i32_w]
      rfl
     refine pure_ (i := 5) (N := some 18) (v := ?_) (a' := ?_) #[true, true, true, true, true, true, false, false, false, false, false, false, false, false, false, false] rfl rfl (any_of HT_.out (by kernel_rfl)) (fun _ _ _ h => h) (Or.inl ⟨by rfl, ?_⟩) ?_ ?_
     rotate_left
     ·intro w'
      go_simp
      with_reducible rfl
     rotate_left
     ·simp only [Act.put, List.setIfInBounds_toArray, List.set_cons_zero, List.set_cons_succ, i64_w, i32_w]
      rfl
     refine pure_ (i := 6) (N := some 19) (v := ?_) (a' := ?_) #[true, true, true, true, true, true, true, false, false, false, false, false, false, false, false, false] rfl rfl (any_of HT_.out (by kernel_rfl)) (fun _ _ _ h => h) (Or.inl ⟨by rfl, ?_⟩) ?_ ?_
     rotate_left
     ·intro w'
      go_simp
      with_reducible rfl
     rotate_left
     ·simp only [Act.put, List.setIfInBounds_toArray, List.set_cons_zero, List.set_cons_succ, i64_w, i32_w]
      rfl
     refine pure_ (i := 7) (N := some 20) (v := ?_) (a' := ?_) #[true, true, true, true, true, true, true, true, false, false, false, false, false, false, false, false] rfl rfl (any_of HT_.out (by kernel_rfl)) (fun _ _ _ h => h) (Or.inl ⟨by rfl, ?_⟩) ?_ ?_
     rotate_left
     ·intro w'
      go_simp
      with_reducible rfl
     rotate_left
     ·simp only [Act.put, List.setIfInBounds_toArray, List.set_cons_zero, List.set_cons_succ, i64_w, i32_w]
      rfl
     refine pure_ (i := 8) (N := some 21) (v := ?_) (a' := ?_) #[true, true, true, true, true, true, true, true, true, false, false, false, false, false, false, false] rfl rfl (any_of HT_.out (by kernel_rfl)) (fun _ _ _ h => h) (Or.inl ⟨by rfl, ?_⟩) ?_ ?_
     rotate_left
     ·intro w'
      go_simp
      with_reducible rfl
     rotate_left
     ·simp only [Act.put, List.setIfInBounds_toArray, List.set_cons_zero, List.set_cons_succ, i64_w, i32_w]
      rfl
     refine pure_ (i := 9) (N := some 22) (v := ?_) (a' := ?_) #[true, true, true, true, true, true, true, true, true, true, false, false, false, false, false, false] rfl rfl (any_of HT_.out (by kernel_rfl)) (fun _ _ _ h => h) (Or.inl ⟨by rfl, ?_⟩) ?_ ?_
     rotate_left
     ·intro w'
      go_simp
      with_reducible rfl
     rotate_left
     ·simp only [Act.put, List.setIfInBounds_toArray, List.set_cons_zero, List.set_cons_succ, i64_w, i32_w]
      rfl
     refine pure_ (i := 10) (N := some 23) (v := ?_) (a' := ?_) #[true, true, true, true, true, true, true, true, true, true, true, false, false, false, false, false] rfl rfl (any_of HT_.out (by kernel_rfl)) (fun _ _ _ h => h) (Or.inl ⟨by rfl, ?_⟩) ?_ ?_
     rotate_left
     ·intro w'
      go_simp
      with_reducible rfl
     rotate_left
     ·simp only [Act.put, List.setIfInBounds_toArray, List.set_cons_zero, List.set_cons_succ, i64_w, i32_w]
      rfl
     refine pure_ (i := 11) (N := some 24) (v := ?_) (a' := ?_) #[true, true, true, true, true, true, true, true, true, true, true, true, false, false, false, false] rfl rfl (any_of HT_.out (by kernel_rfl)) (fun _ _ _ h => h) (Or.inl ⟨by rfl, ?_⟩) ?_ ?_
     rotate_left
     ·intro w'
      go_simp
      with_reducible rfl
     rotate_left
     ·simp only [Act.put, List.setIfInBounds_toArray, List.set_cons_zero, List.set_cons_succ, i64_w, i32_w]
      rfl
     refine pure_ (i := 12) (N := some 25) (v := ?_) (a' := ?_) #[true, true, true, true, true, true, true, true, true, true, true, true, true, false, false, false] rfl rfl (any_of HT_.out (by kernel_rfl)) (fun _ _ _ h => h) (Or.inl ⟨by rfl, ?_⟩) ?_ ?_
     rotate_left
     ·intro w'
      go_simp
      with_reducible rfl
     rotate_left
     ·simp only [Act.put, List.setIfInBounds_toArray, List.set_cons_zero, List.set_cons_succ, i64_w, i32_w]
      rfl
     refine take_ (i := 13) (N := some 26) (v := ?_) (a' := ?_) #[true, true, true, true, true, true, true, true, true, true, true, true, true, true, false, false] rfl rfl (take_ofW HT_.out HW_.out (by kernel_rfl)) (fun _ _ _ h => h) (Or.inl ⟨by rfl, ?_⟩) hHeld ?_ ?_
     rotate_left
     ·intro w' s0
      go_simp
      with_reducible rfl
     rotate_left
     ·simp only [Act.put, List.setIfInBounds_toArray, List.set_cons_zero, List.set_cons_succ, i64_w, i32_w]
      rfl
     refine one_ (i := 14) (N := some 27) #[true, true, true, true, true, true, true, true, true, true, true, true, true, true, true, false] rfl rfl (one_of HT_.out (by kernel_rfl)) (by decide) (fun K hK => ?_)
     refine goes_ Try.func13 (by kernel_rfl) rfl #[.slice (some ad) T.length c0, .int .i64 n] (by rfl) rfl rfl (by simp only [List.map_toArray, List.map_cons, List.map_nil]; rfl) ?_
     with_reducible refine (gleberef11_In.calls 100 (some ad) c0 T n true _ (HTK.out _ (Kd.C_below HR0.out (by first | exact HB.out | exact below_drew HB.out))) HTC.out HIN.out).mono ?_
     rintro e wx ⟨rfl, hd⟩
     refine ⟨_, rfl, ?_⟩
     replace HB := Aside0.mk (show Below w.heap.size w wx from by first | exact below_step HB.out hd.below | exact below_step (below_drew HB.out) hd.below)
     clear hd
     refine hK.out _ _ ((HXC.out _ (by first | exact HB.out | exact below_drew HB.out))) (fun hHeld => ?_)
     clear hK K
     refine norm_ (a' := ?_) ?_ ?_
     rotate_left
     ·show Act.put _ (some 27) _ = _
      simp only [Act.put, List.setIfInBounds_toArray, List.set_cons_zero, List.set_cons_succ, i64_w, i32_w]
      rfl
     refine pure_ (i := 15) (N := some 28) (v := ?_) (a' := ?_) #[true, true, true, true, true, true, true, true, true, true, true, true, true, true, true, true] rfl rfl (any_of HT_.out (by kernel_rfl)) (fun _ _ _ h => h) (Or.inl ⟨by rfl, ?_⟩) ?_ ?_
     rotate_left
     ·intro w'
      go_simp
      with_reducible rfl
     rotate_left
     ·simp only [Act.put, List.setIfInBounds_toArray, List.set_cons_zero, List.set_cons_succ, i64_w, i32_w]
      rfl
     refine done_ (done_of HT_.out (by kernel_rfl)) ?_
     go_wp2
     go_ret
     exact ⟨rfl, HB.out⟩
    ·rw [if_neg hm] at hg
     rw [decide_eq_false hm] at hin
     have HIN := Aside0.mk hin
     clear hm hin HG
     have HG := Aside0.mk hg
     clear hg
     go_wp2_with fail
     refine start_ (n := 16) (S := fun w' => w'.cell? (ad.add j) = some (.int .i64 n)) (ds := []) #[false, false, false, false, false, false, false, false, false, false, false, false, false, false, false, false] (by kernel_rfl) rfl rfl ((HXC.out _ (by first | exact HB.out | exact below_drew HB.out))) (fun hHeld => ?_)
     refine with_tabW gleberef11_RightChain.tab6 gleberef11_RightChain.bits6 (fun HT_ HW_ => ?_)
     refine pure_ (i := 0) (N := some 13) (v := ?_) (a' := ?_) #[true, false, false, false, false, false, false, false, false, false, false, false, false, false, false, false] rfl rfl (any_of HT_.out (by kernel_rfl)) (fun _ _ _ h => h) (Or.inl ⟨by rfl, ?_⟩) ?_ ?_
     rotate_left
     ·intro w'
      go_simp
      with_reducible rfl
     rotate_left
     ·simp only [Act.put, List.setIfInBounds_toArray, List.set_cons_zero, List.set_cons_succ, i64_w, i32_w]
      rfl
     refine pure_ (i := 1) (N := some 14) (v := ?_) (a' := ?_) #[true, true, false, false, false, false, false, false, false, false, false, false, false, false, false, false] rfl rfl (any_of HT_.out (by kernel_rfl)) (fun _ _ _ h => h) (Or.inl ⟨by rfl, ?_⟩) ?_ ?_
     rotate_left
     ·intro w'
      go_simp
      with_reducible rfl
     rotate_left
     ·simp only [Act.put, List.setIfInBounds_toArray, List.set_cons_zero, List.set_cons_succ, i64_w, i32_w]
      rfl
     refine pure_ (i := 2) (N := some 15) (v := ?_) (a' := ?_) #[true, true, true, false, false, false, false, false, false, false, false, false, false, false, false, false] rfl rfl (any_of HT_.out (by kernel_rfl)) (fun _ _ _ h => h) (Or.inl ⟨by rfl, ?_⟩) ?_ ?_
     rotate_left
     ·intro w'
      go_simp
      with_reducible rfl
     rotate_left
     ·simp only [Act.put, List.setIfInBounds_toArray, List.set_cons_zero, List.set_cons_succ, i64_w, i32_w]
      rfl
     refine take_ (i := 3) (N := some 16) (v := ?_) (a' := ?_) #[true, true, true, true, false, false, false, false, false, false, false, false, false, false, false, false] rfl rfl (take_ofW HT_.out HW_.out (by kernel_rfl)) (fun _ _ _ h => h) (Or.inl ⟨by rfl, ?_⟩) hHeld ?_ ?_
     rotate_left
     ·intro w' s0
      go_simp
      with_reducible rfl
     rotate_left
     ·simp only [Act.put, List.setIfInBounds_toArray, List.set_cons_zero, List.set_cons_succ, i64_w, i32_w]
      rfl
     refine one_ (i := 4) (N := some 17) #[true, true, true, true, true, false, false, false, false, false, false, false, false, false, false, false] rfl rfl (one_of HT_.out (by kernel_rfl)) (by decide) (fun K hK => ?_)
     refine goes_ Try.func51 (by kernel_rfl) rfl #[.int .i64 n] (by rfl) rfl rfl (by simp only [List.map_toArray, List.map_cons, List.map_nil]; rfl) ?_
     with_reducible refine (gleberef11_node.calls n true _ HN.out).mono ?_
     rintro e wx ⟨rfl, hd⟩
     refine ⟨_, rfl, ?_⟩
     replace HB := Aside0.mk (show Below w.heap.size w wx from by first | exact below_step HB.out hd.below | exact below_step (below_drew HB.out) hd.below)
     clear hd
     refine hK.out _ _ ((HXC.out _ (by first | exact HB.out | exact below_drew HB.out))) (fun hHeld => ?_)
     clear hK K
     refine norm_ (a' := ?_) ?_ ?_
     rotate_left
     ·show Act.put _ (some 17) _ = _
      simp only [Act.put, List.setIfInBounds_toArray, List.set_cons_zero, List.set_cons_succ, i64_w, i32_w]
      rfl
     refine pure_ (i := 5) (N := some 18) (v := ?_) (a' := ?_) #[true, true, true, true, true, true, false, false, false, false, false, false, false, false, false, false] rfl rfl (any_of HT_.out (by kernel_rfl)) (fun _ _ _ h => h) (Or.inl ⟨by rfl, ?_⟩) ?_ ?_
     rotate_left
     ·intro w'
      go_simp
      with_reducible rfl
     rotate_left
     ·simp only [Act.put, List.setIfInBounds_toArray, List.set_cons_zero, List.set_cons_succ, i64_w, i32_w]
      rfl
     refine pure_ (i := 6) (N := some 19) (v := ?_) (a' := ?_) #[true, true, true, true, true, true, true, false, false, false, false, false, false, false, false, false] rfl rfl (any_of HT_.out (by kernel_rfl)) (fun _ _ _ h => h) (Or.inl ⟨by rfl, ?_⟩) ?_ ?_
     rotate_left
     ·intro w'
      go_simp
      with_reducible rfl
     rotate_left
     ·simp only [Act.put, List.setIfInBounds_toArray, List.set_cons_zero, List.set_cons_succ, i64_w, i32_w]
      rfl
     refine pure_ (i := 7) (N := some 20) (v := ?_) (a' := ?_) #[true, true, true, true, true, true, true, true, false, false, false, false, false, false, false, false] rfl rfl (any_of HT_.out (by kernel_rfl)) (fun _ _ _ h => h) (Or.inl ⟨by rfl, ?_⟩) ?_ ?_
     rotate_left
     ·intro w'
      go_simp
      with_reducible rfl
     rotate_left
     ·simp only [Act.put, List.setIfInBounds_toArray, List.set_cons_zero, List.set_cons_succ, i64_w, i32_w]
      rfl
     refine pure_ (i := 8) (N := some 21) (v := ?_) (a' := ?_) #[true, true, true, true, true, true, true, true, true, false, false, false, false, false, false, false] rfl rfl (any_of HT_.out (by kernel_rfl)) (fun _ _ _ h => h) (Or.inl ⟨by rfl, ?_⟩) ?_ ?_
     rotate_left
     ·intro w'
      go_simp
      with_reducible rfl
     rotate_left
     ·simp only [Act.put, List.setIfInBounds_toArray, List.set_cons_zero, List.set_cons_succ, i64_w, i32_w]
      rfl
     refine pure_ (i := 9) (N := some 22) (v := ?_) (a' := ?_) #[true, true, true, true, true, true, true, true, true, true, false, false, false, false, false, false] rfl rfl (any_of HT_.out (by kernel_rfl)) (fun _ _ _ h => h) (Or.inl ⟨by rfl, ?_⟩) ?_ ?_
     rotate_left
     ·intro w'
      go_simp
      with_reducible rfl
     rotate_left
     ·simp only [Act.put, List.setIfInBounds_toArray, List.set_cons_zero, List.set_cons_succ, i64_w, i32_w]
      rfl
     refine pure_ (i := 10) (N := some 23) (v := ?_) (a' := ?_) #[true, true, true, true, true, true, true, true, true, true, true, false, false, false, false, false] rfl rfl (any_of HT_.out (by kernel_rfl)) (fun _ _ _ h => h) (Or.inl ⟨by rfl, ?_⟩) ?_ ?_
     rotate_left
     ·intro w'
      go_simp
      with_reducible rfl
     rotate_left
     ·simp only [Act.put, List.setIfInBounds_toArray, List.set_cons_zero, List.set_cons_succ, i64_w, i32_w]
      rfl
     refine pure_ (i := 11) (N := some 24) (v := ?_) (a' := ?_) #[true, true, true, true, true, true, true, true, true, true, true, true, false, false, false, false] rfl rfl (any_of HT_.out (by kernel_rfl)) (fun _ _ _ h => h) (Or.inl ⟨by rfl, ?_⟩) ?_ ?_
     rotate_left
     ·intro w'
      go_simp
      with_reducible rfl
     rotate_left
     ·simp only [Act.put, List.setIfInBounds_toArray, List.set_cons_zero, List.set_cons_succ, i64_w, i32_w]
      rfl
     refine pure_ (i := 12) (N := some 25) (v := ?_) (a' := ?_) #[true, true, true, true, true, true, true, true, true, true, true, true, true, false, false, false] rfl rfl (any_of HT_.out (by kernel_rfl)) (fun _ _ _ h => h) (Or.inl ⟨by rfl, ?_⟩) ?_ ?_
     rotate_left
     ·intro w'
      go_simp
      with_reducible rfl
     rotate_left
     ·simp only [Act.put, List.setIfInBounds_toArray, List.set_cons_zero, List.set_cons_succ, i64_w, i32_w]
      rfl
     refine take_ (i := 13) (N := some 26) (v := ?_) (a' := ?_) #[true, true, true, true, true, true, true, true, true, true, true, true, true, true, false, false] rfl rfl (take_ofW HT_.out HW_.out (by kernel_rfl)) (fun _ _ _ h => h) (Or.inl ⟨by rfl, ?_⟩) hHeld ?_ ?_
     rotate_left
     ·intro w' s0
      go_simp
      with_reducible rfl
     rotate_left
     ·simp only [Act.put, List.setIfInBounds_toArray, List.set_cons_zero, List.set_cons_succ, i64_w, i32_w]
      rfl
     refine one_ (i := 14) (N := some 27) #[true, true, true, true, true, true, true, true, true, true, true, true, true, true, true, false] rfl rfl (one_of HT_.out (by kernel_rfl)) (by decide) (fun K hK => ?_)
     refine goes_ Try.func13 (by kernel_rfl) rfl #[.slice (some ad) T.length c0, .int .i64 n] (by rfl) rfl rfl (by simp only [List.map_toArray, List.map_cons, List.map_nil]; rfl) ?_
     with_reducible refine (gleberef11_In.calls 100 (some ad) c0 T n false _ (HTK.out _ (Kd.C_below HR0.out (by first | exact HB.out | exact below_drew HB.out))) HTC.out HIN.out).mono ?_
     rintro e wx ⟨rfl, hd⟩
     refine ⟨_, rfl, ?_⟩
     replace HB := Aside0.mk (show Below w.heap.size w wx from by first | exact below_step HB.out hd.below | exact below_step (below_drew HB.out) hd.below)
     clear hd
     refine hK.out _ _ ((HXC.out _ (by first | exact HB.out | exact below_drew HB.out))) (fun hHeld => ?_)
     clear hK K
     refine norm_ (a' := ?_) ?_ ?_
     rotate_left
     ·show Act.put _ (some 27) _ = _
      simp only [Act.put, List.setIfInBounds_toArray, List.set_cons_zero, List.set_cons_succ, i64_w, i32_w]
      rfl
     refine pure_ (i := 15) (N := some 28) (v := ?_) (a' := ?_) #[true, true, true, true, true, true, true, true, true, true, true, true, true, true, true, true] rfl rfl (any_of HT_.out (by kernel_rfl)) (fun _ _ _ h => h) (Or.inl ⟨by rfl, ?_⟩) ?_ ?_
     rotate_left
     ·intro w'
      go_simp
      with_reducible rfl
     rotate_left
     ·simp only [Act.put, List.setIfInBounds_toArray, List.set_cons_zero, List.set_cons_succ, i64_w, i32_w]
      rfl
     refine done_ (done_of HT_.out (by kernel_rfl)) ?_
     go_wp2
     go_roundw
     case rel => exact ⟨j + 1, by omega, by first | rfl | go_num, HG, HB⟩
     case measure => (try rw [hw]); clear hw; simp [intOf]; omega
   ·rw [if_neg hn] at hg
    subst hg
    have HN := Aside0.mk (show gleberef11_node.f n = some false by
     unfold gleberef11_node.f
     by_cases q : n ≥ 0
     ·rw [if_pos q, decide_eq_false (by omega)]
     ·rw [if_neg q])
    clear hn hin HG
    go_wp2_with fail
    refine start_ (n := 16) (S := fun w' => w'.cell? (ad.add j) = some (.int .i64 n)) (ds := []) #[false, false, false, false, false, false, false, false, false, false, false, false, false, false, false, false] (by kernel_rfl) rfl rfl ((HXC.out _ (by first | exact HB.out | exact below_drew HB.out))) (fun hHeld => ?_)
    refine with_tabW gleberef11_RightChain.tab6 gleberef11_RightChain.bits6 (fun HT_ HW_ => ?_)
    refine pure_ (i := 0) (N := some 13) (v := ?_) (a' := ?_) #[true, false, false, false, false, false, false, false, false, false, false, false, false, false, false, false] rfl rfl (any_of HT_.out (by kernel_rfl)) (fun _ _ _ h => h) (Or.inl ⟨by rfl, ?_⟩) ?_ ?_
    rotate_left
    ·intro w'
     go_simp
     with_reducible rfl
    rotate_left
    ·simp only [Act.put, List.setIfInBounds_toArray, List.set_cons_zero, List.set_cons_succ, i64_w, i32_w]
     rfl
    refine pure_ (i := 1) (N := some 14) (v := ?_) (a' := ?_) #[true, true, false, false, false, false, false, false, false, false, false, false, false, false, false, false] rfl rfl (any_of HT_.out (by kernel_rfl)) (fun _ _ _ h => h) (Or.inl ⟨by rfl, ?_⟩) ?_ ?_
    rotate_left
    ·intro w'
     go_simp
     with_reducible rfl
    rotate_left
    ·simp only [Act.put, List.setIfInBounds_toArray, List.set_cons_zero, List.set_cons_succ, i64_w, i32_w]
     rfl
    refine pure_ (i := 2) (N := some 15) (v := ?_) (a' := ?_) #[true, true, true, false, false, false, false, false, false, false, false, false, false, false, false, false] rfl rfl (any_of HT_.out (by kernel_rfl)) (fun _ _ _ h => h) (Or.inl ⟨by rfl, ?_⟩) ?_ ?_
    rotate_left
    ·intro w'
     go_simp
     with_reducible rfl
    rotate_left
    ·simp only [Act.put, List.setIfInBounds_toArray, List.set_cons_zero, List.set_cons_succ, i64_w, i32_w]
     rfl
    refine take_ (i := 3) (N := some 16) (v := ?_) (a' := ?_) #[true, true, true, true, false, false, false, false, false, false, false, false, false, false, false, false] rfl rfl (take_ofW HT_.out HW_.out (by kernel_rfl)) (fun _ _ _ h => h) (Or.inl ⟨by rfl, ?_⟩) hHeld ?_ ?_
    rotate_left
    ·intro w' s0
     go_simp
     with_reducible rfl
    rotate_left
    ·simp only [Act.put, List.setIfInBounds_toArray, List.set_cons_zero, List.set_cons_succ, i64_w, i32_w]
     rfl
    refine one_ (i := 4) (N := some 17) #[true, true, true, true, true, false, false, false, false, false, false, false, false, false, false, false] rfl rfl (one_of HT_.out (by kernel_rfl)) (by decide) (fun K hK => ?_)
    refine goes_ Try.func51 (by kernel_rfl) rfl #[.int .i64 n] (by rfl) rfl rfl (by simp only [List.map_toArray, List.map_cons, List.map_nil]; rfl) ?_
    with_reducible refine (gleberef11_node.calls n false _ HN.out).mono ?_
    rintro e wx ⟨rfl, hd⟩
    refine ⟨_, rfl, ?_⟩
    replace HB := Aside0.mk (show Below w.heap.size w wx from by first | exact below_step HB.out hd.below | exact below_step (below_drew HB.out) hd.below)
    clear hd
    refine hK.out _ _ ((HXC.out _ (by first | exact HB.out | exact below_drew HB.out))) (fun hHeld => ?_)
    clear hK K
    refine norm_ (a' := ?_) ?_ ?_
    rotate_left
    ·show Act.put _ (some 17) _ = _
     simp only [Act.put, List.setIfInBounds_toArray, List.set_cons_zero, List.set_cons_succ, i64_w, i32_w]
     rfl
    refine pure_ (i := 5) (N := some 18) (v := ?_) (a' := ?_) #[true, true, true, true, true, true, false, false, false, false, false, false, false, false, false, false] rfl rfl (any_of HT_.out (by kernel_rfl)) (fun _ _ _ h => h) (Or.inl ⟨by rfl, ?_⟩) ?_ ?_
    rotate_left
    ·intro w'
     go_simp
     with_reducible rfl
    rotate_left
    ·simp only [Act.put, List.setIfInBounds_toArray, List.set_cons_zero, List.set_cons_succ, i64_w, i32_w]
     rfl
    refine pure_ (i := 6) (N := some 19) (v := ?_) (a' := ?_) #[true, true, true, true, true, true, true, false, false, false, false, false, false, false, false, false] rfl rfl (any_of HT_.out (by kernel_rfl)) (fun _ _ _ h => h) (Or.inl ⟨by rfl, ?_⟩) ?_ ?_
    rotate_left
    ·intro w'
     go_simp
     with_reducible rfl
    rotate_left
    ·simp only [Act.put, List.setIfInBounds_toArray, List.set_cons_zero, List.set_cons_succ, i64_w, i32_w]
     rfl
    refine pure_ (i := 7) (N := some 20) (v := undef) (a' := ?_) #[true, true, true, true, true, true, true, true, false, false, false, false, false, false, false, false] rfl rfl (any_of HT_.out (by kernel_rfl)) (fun _ _ _ h => h) (Or.inr ⟨by rfl, rfl⟩) ?_ ?_
    rotate_left
    ·simp only [Act.put, List.setIfInBounds_toArray, List.set_cons_zero, List.set_cons_succ, i64_w, i32_w]
     rfl
    refine pure_ (i := 8) (N := some 21) (v := undef) (a' := ?_) #[true, true, true, true, true, true, true, true, true, false, false, false, false, false, false, false] rfl rfl (any_of HT_.out (by kernel_rfl)) (fun _ _ _ h => h) (Or.inr ⟨by rfl, rfl⟩) ?_ ?_
    rotate_left
    ·simp only [Act.put, List.setIfInBounds_toArray, List.set_cons_zero, List.set_cons_succ, i64_w, i32_w]
     rfl
    refine pure_ (i := 9) (N := some 22) (v := undef) (a' := ?_) #[true, true, true, true, true, true, true, true, true, true, false, false, false, false, false, false] rfl rfl (any_of HT_.out (by kernel_rfl)) (fun _ _ _ h => h) (Or.inr ⟨by rfl, rfl⟩) ?_ ?_
    rotate_left
    ·simp only [Act.put, List.setIfInBounds_toArray, List.set_cons_zero, List.set_cons_succ, i64_w, i32_w]
     rfl
    refine pure_ (i := 10) (N := some 23) (v := undef) (a' := ?_) #[true, true, true, true, true, true, true, true, true, true, true, false, false, false, false, false] rfl rfl (any_of HT_.out (by kernel_rfl)) (fun _ _ _ h => h) (Or.inr ⟨by rfl, rfl⟩) ?_ ?_
    rotate_left
    ·simp only [Act.put, List.setIfInBounds_toArray, List.set_cons_zero, List.set_cons_succ, i64_w, i32_w]
     rfl
    refine pure_ (i := 11) (N := some 24) (v := undef) (a' := ?_) #[true, true, true, true, true, true, true, true, true, true, true, true, false, false, false, false] rfl rfl (any_of HT_.out (by kernel_rfl)) (fun _ _ _ h => h) (Or.inr ⟨by rfl, rfl⟩) ?_ ?_
    rotate_left
    ·simp only [Act.put, List.setIfInBounds_toArray, List.set_cons_zero, List.set_cons_succ, i64_w, i32_w]
     rfl
    refine pure_ (i := 12) (N := some 25) (v := undef) (a' := ?_) #[true, true, true, true, true, true, true, true, true, true, true, true, true, false, false, false] rfl rfl (any_of HT_.out (by kernel_rfl)) (fun _ _ _ h => h) (Or.inr ⟨by rfl, rfl⟩) ?_ ?_
    rotate_left
    ·simp only [Act.put, List.setIfInBounds_toArray, List.set_cons_zero, List.set_cons_succ, i64_w, i32_w]
     rfl
    refine pure_ (i := 13) (N := some 26) (v := undef) (a' := ?_) #[true, true, true, true, true, true, true, true, true, true, true, true, true, true, false, false] rfl rfl (any_of HT_.out (by kernel_rfl)) (fun _ _ _ h => h) (Or.inr ⟨by rfl, rfl⟩) ?_ ?_
    rotate_left
    ·simp only [Act.put, List.setIfInBounds_toArray, List.set_cons_zero, List.set_cons_succ, i64_w, i32_w]
     rfl
    refine pure_ (i := 14) (N := some 27) (v := undef) (a' := ?_) #[true, true, true, true, true, true, true, true, true, true, true, true, true, true, true, false] rfl rfl (any_of HT_.out (by kernel_rfl)) (fun _ _ _ h => h) (Or.inr ⟨by rfl, rfl⟩) ?_ ?_
    rotate_left
    ·simp only [Act.put, List.setIfInBounds_toArray, List.set_cons_zero, List.set_cons_succ, i64_w, i32_w]
     rfl
    refine pure_ (i := 15) (N := some 28) (v := ?_) (a' := ?_) #[true, true, true, true, true, true, true, true, true, true, true, true, true, true, true, true] rfl rfl (any_of HT_.out (by kernel_rfl)) (fun _ _ _ h => h) (Or.inl ⟨by rfl, ?_⟩) ?_ ?_
    rotate_left
    ·intro w'
     go_simp
     with_reducible rfl
    rotate_left
    ·simp only [Act.put, List.setIfInBounds_toArray, List.set_cons_zero, List.set_cons_succ, i64_w, i32_w]
     rfl
    refine done_ (done_of HT_.out (by kernel_rfl)) ?_
    go_wp2
    go_ret
    exact ⟨rfl, HB.out⟩
  ·obtain rfl : j = l0.length := by omega
   have hlt2 : decide (((l0.length : Nat) : Int) < l0.length) = false := decide_eq_false (by omega)
   have hg : true = r := by
    have := HG.out
    rwa [Nat.sub_self] at this
   subst hg
   go_wp2
   go_ret
   exact ⟨rfl, HB.out⟩

end
section
open Go.RowKit Go.Proofs.YtampppdjfbabiaaW.PrintWords Go.Proofs.YtampppdjfbabiaaW.PrintLast Go.Proofs.YtampppdjfbabiaaW.PrintMore
attribute [local go_sem] max2_int min2_int max_two min_two max_three min_three max_four min_four   -- for this text's walks alone
set_option linter.unusedVariables false
set_option linter.unusedSimpArgs false

/-! ### gleberef07_cell: function 74 -/
def gleberef07_cell.f (a0_0 : Int) (a0_1 : Int) : Option (Bool) := if a0_0 ≥ 0 then (if a0_0 < 65536 then (if a0_1 ≥ 0 then (some (decide (a0_1 < 65536))) else (some false)) else (some false)) else (some false)
set_option maxHeartbeats 8000000 in
set_option maxRecDepth 100000 in
theorem gleberef07_cell.calls (a0_0 : Int) (a0_1 : Int) (r : Bool) (w : World) (h : gleberef07_cell.f a0_0 a0_1 = some r) :
  Calls Try.prog 74 #[.agg #[.int .i64 a0_0, .int .i64 a0_1]] w fun e w' => e = .returned (.bool r) ∧ Below w.heap.size w w' := by
 have hu23 := Try.underlying23
 have HB := Aside0.mk (Below.refl w.heap.size w)
 have H : (if a0_0 ≥ 0 then (if a0_0 < 65536 then (if a0_1 ≥ 0 then (some (decide (a0_1 < 65536))) else (some false)) else (some false)) else (some false)) = some r := h
 clear h
 by_cases c2 : a0_0 ≥ 0
 ·rw [if_pos c2] at H
  have c2b0 : decide (0 ≤ a0_0) = true := decide_eq_true c2
  clear c2
  by_cases c3 : a0_0 < 65536
  ·rw [if_pos c3] at H
   have c3b0 : decide (a0_0 < 65536) = true := decide_eq_true c3
   clear c3
   by_cases c4 : a0_1 ≥ 0
   ·rw [if_pos c4] at H
    have c4b0 : decide (0 ≤ a0_1) = true := decide_eq_true c4
    clear c4
    obtain rfl := Option.some.inj H
    go_enter Try.func74, Try.ntmps74
    go_wp2_with (first | ((with_reducible refine gate_dst (N := 1) rfl ?_); refine box_event ?hg (N := 1) ?hd (cs := #[.int .i64 a0_0, .int .i64 a0_1]) (t := 23) ?hr ?_; (case hd => rfl); (case hg => rfl); (case hr => first | (go_simp; done) | (go_simp; rfl)); intro gb265 hg w5 hbox hb; have n0_ := Aside0.mk (below_step (bh HB.out) hb); have n1_ := Aside0.mk (hbox); have n2_ := Aside0.mk ((by rw [hg]; exact (below_size (bh HB.out)) : w.heap.size ≤ gb265)); have n3_ := Aside0.mk ((by rw [hg]; exact (below_size (bh HB.out)) : w.heap.size ≤ gb265)); clear HB; have HB := n0_; have BK265 := n1_; have GW265 := n2_; have GE265 := n3_; clear n0_ n1_ n2_ n3_; clear hb hbox hg; have hcz6_0 : w5.cell? ⟨gb265, 0, none⟩ = some (.int .i64 a0_0) := bc BK265 0; have hcz6_1 : w5.cell? ⟨gb265, 1, none⟩ = some (.int .i64 a0_1) := bc BK265 1; have hfz6_0 := blk_frozen BK265.out 0; have hfz6_1 := blk_frozen BK265.out 1))
    go_ret
    exact ⟨by first | rfl | (simp [errW_none, errW_some] <;> rfl) | (simp [*, errW_none, errW_some] <;> rfl), by exact q0 HB.out GE265.out⟩
   ·rw [if_neg c4] at H
    have c4b0 : decide (0 ≤ a0_1) = false := decide_eq_false c4
    clear c4
    obtain rfl := Option.some.inj H
    go_enter Try.func74, Try.ntmps74
    go_wp2_with (first | ((with_reducible refine gate_dst (N := 1) rfl ?_); refine box_event ?hg (N := 1) ?hd (cs := #[.int .i64 a0_0, .int .i64 a0_1]) (t := 23) ?hr ?_; (case hd => rfl); (case hg => rfl); (case hr => first | (go_simp; done) | (go_simp; rfl)); intro gb265 hg w7 hbox hb; have n0_ := Aside0.mk (below_step (bh HB.out) hb); have n1_ := Aside0.mk (hbox); have n2_ := Aside0.mk ((by rw [hg]; exact (below_size (bh HB.out)) : w.heap.size ≤ gb265)); have n3_ := Aside0.mk ((by rw [hg]; exact (below_size (bh HB.out)) : w.heap.size ≤ gb265)); clear HB; have HB := n0_; have BK265 := n1_; have GW265 := n2_; have GE265 := n3_; clear n0_ n1_ n2_ n3_; clear hb hbox hg; have hcz8_0 : w7.cell? ⟨gb265, 0, none⟩ = some (.int .i64 a0_0) := bc BK265 0; have hcz8_1 : w7.cell? ⟨gb265, 1, none⟩ = some (.int .i64 a0_1) := bc BK265 1; have hfz8_0 := blk_frozen BK265.out 0; have hfz8_1 := blk_frozen BK265.out 1))
    go_ret
    exact ⟨by first | rfl | (simp [errW_none, errW_some] <;> rfl) | (simp [*, errW_none, errW_some] <;> rfl), by exact q0 HB.out GE265.out⟩
  ·rw [if_neg c3] at H
   have c3b0 : decide (a0_0 < 65536) = false := decide_eq_false c3
   clear c3
   obtain rfl := Option.some.inj H
   go_enter Try.func74, Try.ntmps74
   go_wp2_with (first | ((with_reducible refine gate_dst (N := 1) rfl ?_); refine box_event ?hg (N := 1) ?hd (cs := #[.int .i64 a0_0, .int .i64 a0_1]) (t := 23) ?hr ?_; (case hd => rfl); (case hg => rfl); (case hr => first | (go_simp; done) | (go_simp; rfl)); intro gb265 hg w9 hbox hb; have n0_ := Aside0.mk (below_step (bh HB.out) hb); have n1_ := Aside0.mk (hbox); have n2_ := Aside0.mk ((by rw [hg]; exact (below_size (bh HB.out)) : w.heap.size ≤ gb265)); have n3_ := Aside0.mk ((by rw [hg]; exact (below_size (bh HB.out)) : w.heap.size ≤ gb265)); clear HB; have HB := n0_; have BK265 := n1_; have GW265 := n2_; have GE265 := n3_; clear n0_ n1_ n2_ n3_; clear hb hbox hg; have hcz10_0 : w9.cell? ⟨gb265, 0, none⟩ = some (.int .i64 a0_0) := bc BK265 0; have hcz10_1 : w9.cell? ⟨gb265, 1, none⟩ = some (.int .i64 a0_1) := bc BK265 1; have hfz10_0 := blk_frozen BK265.out 0; have hfz10_1 := blk_frozen BK265.out 1))
   go_ret
   exact ⟨by first | rfl | (simp [errW_none, errW_some] <;> rfl) | (simp [*, errW_none, errW_some] <;> rfl), by exact q0 HB.out GE265.out⟩
 ·rw [if_neg c2] at H
  have c2b0 : decide (0 ≤ a0_0) = false := decide_eq_false c2
  clear c2
  obtain rfl := Option.some.inj H
  go_enter Try.func74, Try.ntmps74
  go_wp2_with (first | ((with_reducible refine gate_dst (N := 1) rfl ?_); refine box_event ?hg (N := 1) ?hd (cs := #[.int .i64 a0_0, .int .i64 a0_1]) (t := 23) ?hr ?_; (case hd => rfl); (case hg => rfl); (case hr => first | (go_simp; done) | (go_simp; rfl)); intro gb265 hg w11 hbox hb; have n0_ := Aside0.mk (below_step (bh HB.out) hb); have n1_ := Aside0.mk (hbox); have n2_ := Aside0.mk ((by rw [hg]; exact (below_size (bh HB.out)) : w.heap.size ≤ gb265)); have n3_ := Aside0.mk ((by rw [hg]; exact (below_size (bh HB.out)) : w.heap.size ≤ gb265)); clear HB; have HB := n0_; have BK265 := n1_; have GW265 := n2_; have GE265 := n3_; clear n0_ n1_ n2_ n3_; clear hb hbox hg; have hcz12_0 : w11.cell? ⟨gb265, 0, none⟩ = some (.int .i64 a0_0) := bc BK265 0; have hcz12_1 : w11.cell? ⟨gb265, 1, none⟩ = some (.int .i64 a0_1) := bc BK265 1; have hfz12_0 := blk_frozen BK265.out 0; have hfz12_1 := blk_frozen BK265.out 1))
  go_ret
  exact ⟨by first | rfl | (simp [errW_none, errW_some] <;> rfl) | (simp [*, errW_none, errW_some] <;> rfl), by exact q0 HB.out GE265.out⟩

end
section
open Go.RowKit Go.Proofs.YtampppdjfbabiaaW.PrintWords Go.Proofs.YtampppdjfbabiaaW.PrintLast Go.Proofs.YtampppdjfbabiaaW.PrintMore
attribute [local go_sem] max2_int min2_int max_two min_two max_three min_three max_four min_four   -- for this text's walks alone
set_option linter.unusedVariables false
set_option linter.unusedSimpArgs false

/-! ### gleberef07_RightOp: function 50 -/
def gleberef07_RightOp.f (a0_0 : Int) (a0_1 : Int) (a0_2 : Int) (a0_3 : ByteArray) (a0_4 : ByteArray) (a0_5 : Int) (a0_6 : Int) : Option (Bool) := if a0_0 ≥ 1 then (if a0_0 ≤ 3 then ((gleberef07_cell.f a0_1 a0_2).bind fun t267 => (if t267 = true then (if (a0_3.size : Int) ≥ 1 then (if (a0_3.size : Int) ≤ 16 then (if (a0_4.size : Int) ≤ 32 then (if a0_0 = 2 then (if a0_5 ≥ 0 then (if a0_5 < 8 then (if a0_6 ≥ 1 then (some (decide (a0_6 ≤ 1099511627776))) else (some false)) else (some false)) else (some false)) else (if a0_4.toList = ([] : List UInt8) then (if a0_5 ≥ 0 then (if a0_5 < 8 then (if a0_6 ≥ 1 then (some (decide (a0_6 ≤ 1099511627776))) else (some false)) else (some false)) else (some false)) else (some false))) else (some false)) else (some false)) else (some false)) else (some false))) else (some false)) else (some false)
set_option maxHeartbeats 8000000 in
set_option maxRecDepth 100000 in
theorem gleberef07_RightOp.calls (a0_0 : Int) (a0_1 : Int) (a0_2 : Int) (a0_3 : ByteArray) (a0_4 : ByteArray) (a0_5 : Int) (a0_6 : Int) (r : Bool) (w : World) (h : gleberef07_RightOp.f a0_0 a0_1 a0_2 a0_3 a0_4 a0_5 a0_6 = some r) :
  Calls Try.prog 50 #[.agg #[.int .i64 a0_0, .int .i64 a0_1, .int .i64 a0_2, .string a0_3, .string a0_4, .int .i64 a0_5, .int .i64 a0_6]] w fun e w' => e = .returned (.bool r) ∧ Below w.heap.size w w' := by
 have hu25 := Try.underlying25
 have hu23 := Try.underlying23
 have HB := Aside0.mk (Below.refl w.heap.size w)
 have H : (if a0_0 ≥ 1 then (if a0_0 ≤ 3 then ((gleberef07_cell.f a0_1 a0_2).bind fun t267 => (if t267 = true then (if (a0_3.size : Int) ≥ 1 then (if (a0_3.size : Int) ≤ 16 then (if (a0_4.size : Int) ≤ 32 then (if a0_0 = 2 then (if a0_5 ≥ 0 then (if a0_5 < 8 then (if a0_6 ≥ 1 then (some (decide (a0_6 ≤ 1099511627776))) else (some false)) else (some false)) else (some false)) else (if a0_4.toList = ([] : List UInt8) then (if a0_5 ≥ 0 then (if a0_5 < 8 then (if a0_6 ≥ 1 then (some (decide (a0_6 ≤ 1099511627776))) else (some false)) else (some false)) else (some false)) else (some false))) else (some false)) else (some false)) else (some false)) else (some false))) else (some false)) else (some false)) = some r := h
 clear h
 by_cases c2 : a0_0 ≥ 1
 ·rw [if_pos c2] at H
  have c2b0 : decide (1 ≤ a0_0) = true := decide_eq_true c2
  clear c2
  by_cases c3 : a0_0 ≤ 3
  ·rw [if_pos c3] at H
   have c3b0 : decide (a0_0 ≤ 3) = true := decide_eq_true c3
   clear c3
   replace H := Option.bind_eq_some_iff.mp H
   obtain ⟨t267, A40, H⟩ := H
   try dsimp only at H
   have A4 := Aside0.mk A40
   clear A40
   by_cases c5 : t267 = true
   ·subst c5
    have H1 : (if (a0_3.size : Int) ≥ 1 then (if (a0_3.size : Int) ≤ 16 then (if (a0_4.size : Int) ≤ 32 then (if a0_0 = 2 then (if a0_5 ≥ 0 then (if a0_5 < 8 then (if a0_6 ≥ 1 then (some (decide (a0_6 ≤ 1099511627776))) else (some false)) else (some false)) else (some false)) else (if a0_4.toList = ([] : List UInt8) then (if a0_5 ≥ 0 then (if a0_5 < 8 then (if a0_6 ≥ 1 then (some (decide (a0_6 ≤ 1099511627776))) else (some false)) else (some false)) else (some false)) else (some false))) else (some false)) else (some false)) else (some false)) = some r := by rw [if_pos rfl] at H; exact H
    clear H
    have H := H1
    clear H1
    by_cases c6 : (a0_3.size : Int) ≥ 1
    ·rw [if_pos c6] at H
     have c6b0 : decide (1 ≤ (a0_3.size : Int)) = true := decide_eq_true c6
     have c6b1 : decide (1 ≤ a0_3.size) = true := decide_eq_true (by omega)
     clear c6
     by_cases c7 : (a0_3.size : Int) ≤ 16
     ·rw [if_pos c7] at H
      have c7b0 : decide ((a0_3.size : Int) ≤ 16) = true := decide_eq_true c7
      have c7b1 : decide (a0_3.size ≤ 16) = true := decide_eq_true (by omega)
      clear c7
      by_cases c8 : (a0_4.size : Int) ≤ 32
      ·rw [if_pos c8] at H
       have c8b0 : decide ((a0_4.size : Int) ≤ 32) = true := decide_eq_true c8
       have c8b1 : decide (a0_4.size ≤ 32) = true := decide_eq_true (by omega)
       clear c8
       by_cases c9 : a0_0 = 2
       ·rw [if_pos c9] at H
        have c9b0 : (a0_0 == 2) = true := beq_iff_eq.mpr c9
        have c9b1 : (a0_0 != 2) = false := bne_eq_false_iff_eq.mpr c9
        clear c9
        by_cases c10 : a0_5 ≥ 0
        ·rw [if_pos c10] at H
         have c10b0 : decide (0 ≤ a0_5) = true := decide_eq_true c10
         clear c10
         by_cases c11 : a0_5 < 8
         ·rw [if_pos c11] at H
          have c11b0 : decide (a0_5 < 8) = true := decide_eq_true c11
          clear c11
          by_cases c12 : a0_6 ≥ 1
          ·rw [if_pos c12] at H
           have c12b0 : decide (1 ≤ a0_6) = true := decide_eq_true c12
           clear c12
           obtain rfl := Option.some.inj H
           go_enter Try.func50, Try.ntmps50
           go_wp2_with (first | ((with_reducible refine gate_dst (N := 1) rfl ?_); (try (refine gate_guard (by rfl) ?_; dsimp only)); refine box_event ?hg (N := 1) ?hd (cs := #[.int .i64 a0_0, .int .i64 a0_1, .int .i64 a0_2, .string a0_3, .string a0_4, .int .i64 a0_5, .int .i64 a0_6]) (t := 25) ?hr ?_; (case hd => rfl); (case hg => rfl); (case hr => first | (go_simp; done) | (go_simp; rfl)); intro gb266 hg w13 hbox hb; have n0_ := Aside0.mk (below_step (bh HB.out) hb); have n1_ := Aside0.mk (hbox); have n2_ := Aside0.mk ((by rw [hg]; exact (below_size (bh HB.out)) : w.heap.size ≤ gb266)); have n3_ := Aside0.mk ((by rw [hg]; exact (below_size (bh HB.out)) : w.heap.size ≤ gb266)); clear HB; have HB := n0_; have BK266 := n1_; have GW266 := n2_; have GE266 := n3_; clear n0_ n1_ n2_ n3_; clear hb hbox hg; obtain ⟨hcz14_0, hcz14_1, hcz14_2, hcz14_3, hcz14_4, hcz14_5, hcz14_6⟩ := cells7 BK266.out; obtain ⟨hfz14_0, hfz14_1, hfz14_2, hfz14_3, hfz14_4, hfz14_5, hfz14_6⟩ := frz7 BK266.out) | (go_at_call 74; (with_reducible refine (gleberef07_cell.calls a0_1 a0_2 true _ A4.out).mono ?_); rintro e w15 ⟨rfl, hb⟩; have n0_ := Aside0.mk (blk_below (bk BK266.out) hb); have n1_ := Aside0.mk (below_step (bg HB.out GE266.out) hb); clear BK266; clear HB; have BK266 := n0_; have HB := n1_; clear n0_ n1_; (try clear hb); (try clear hb2); (try clear hk); (try clear hi); obtain ⟨hcz16_0, hcz16_1, hcz16_2, hcz16_3, hcz16_4, hcz16_5, hcz16_6⟩ := cells7 BK266.out; obtain ⟨hfz16_0, hfz16_1, hfz16_2, hfz16_3, hfz16_4, hfz16_5, hfz16_6⟩ := frz7 BK266.out))
           go_ret
           exact ⟨by first | rfl | (simp [errW_none, errW_some] <;> rfl) | (simp [*, errW_none, errW_some] <;> rfl), by exact q0 HB.out GE266.out⟩
          ·rw [if_neg c12] at H
           have c12b0 : decide (1 ≤ a0_6) = false := decide_eq_false c12
           clear c12
           obtain rfl := Option.some.inj H
           go_enter Try.func50, Try.ntmps50
           go_wp2_with (first | ((with_reducible refine gate_dst (N := 1) rfl ?_); (try (refine gate_guard (by rfl) ?_; dsimp only)); refine box_event ?hg (N := 1) ?hd (cs := #[.int .i64 a0_0, .int .i64 a0_1, .int .i64 a0_2, .string a0_3, .string a0_4, .int .i64 a0_5, .int .i64 a0_6]) (t := 25) ?hr ?_; (case hd => rfl); (case hg => rfl); (case hr => first | (go_simp; done) | (go_simp; rfl)); intro gb266 hg w17 hbox hb; have n0_ := Aside0.mk (below_step (bh HB.out) hb); have n1_ := Aside0.mk (hbox); have n2_ := Aside0.mk ((by rw [hg]; exact (below_size (bh HB.out)) : w.heap.size ≤ gb266)); have n3_ := Aside0.mk ((by rw [hg]; exact (below_size (bh HB.out)) : w.heap.size ≤ gb266)); clear HB; have HB := n0_; have BK266 := n1_; have GW266 := n2_; have GE266 := n3_; clear n0_ n1_ n2_ n3_; clear hb hbox hg; obtain ⟨hcz18_0, hcz18_1, hcz18_2, hcz18_3, hcz18_4, hcz18_5, hcz18_6⟩ := cells7 BK266.out; obtain ⟨hfz18_0, hfz18_1, hfz18_2, hfz18_3, hfz18_4, hfz18_5, hfz18_6⟩ := frz7 BK266.out) | (go_at_call 74; (with_reducible refine (gleberef07_cell.calls a0_1 a0_2 true _ A4.out).mono ?_); rintro e w19 ⟨rfl, hb⟩; have n0_ := Aside0.mk (blk_below (bk BK266.out) hb); have n1_ := Aside0.mk (below_step (bg HB.out GE266.out) hb); clear BK266; clear HB; have BK266 := n0_; have HB := n1_; clear n0_ n1_; (try clear hb); (try clear hb2); (try clear hk); (try clear hi); obtain ⟨hcz20_0, hcz20_1, hcz20_2, hcz20_3, hcz20_4, hcz20_5, hcz20_6⟩ := cells7 BK266.out; obtain ⟨hfz20_0, hfz20_1, hfz20_2, hfz20_3, hfz20_4, hfz20_5, hfz20_6⟩ := frz7 BK266.out))
           go_ret
           exact ⟨by first | rfl | (simp [errW_none, errW_some] <;> rfl) | (simp [*, errW_none, errW_some] <;> rfl), by exact q0 HB.out GE266.out⟩
         ·rw [if_neg c11] at H
          have c11b0 : decide (a0_5 < 8) = false := decide_eq_false c11
          clear c11
          obtain rfl := Option.some.inj H
          go_enter Try.func50, Try.ntmps50
          go_wp2_with (first | ((with_reducible refine gate_dst (N := 1) rfl ?_); (try (refine gate_guard (by rfl) ?_; dsimp only)); refine box_event ?hg (N := 1) ?hd (cs := #[.int .i64 a0_0, .int .i64 a0_1, .int .i64 a0_2, .string a0_3, .string a0_4, .int .i64 a0_5, .int .i64 a0_6]) (t := 25) ?hr ?_; (case hd => rfl); (case hg => rfl); (case hr => first | (go_simp; done) | (go_simp; rfl)); intro gb266 hg w21 hbox hb; have n0_ := Aside0.mk (below_step (bh HB.out) hb); have n1_ := Aside0.mk (hbox); have n2_ := Aside0.mk ((by rw [hg]; exact (below_size (bh HB.out)) : w.heap.size ≤ gb266)); have n3_ := Aside0.mk ((by rw [hg]; exact (below_size (bh HB.out)) : w.heap.size ≤ gb266)); clear HB; have HB := n0_; have BK266 := n1_; have GW266 := n2_; have GE266 := n3_; clear n0_ n1_ n2_ n3_; clear hb hbox hg; obtain ⟨hcz22_0, hcz22_1, hcz22_2, hcz22_3, hcz22_4, hcz22_5, hcz22_6⟩ := cells7 BK266.out; obtain ⟨hfz22_0, hfz22_1, hfz22_2, hfz22_3, hfz22_4, hfz22_5, hfz22_6⟩ := frz7 BK266.out) | (go_at_call 74; (with_reducible refine (gleberef07_cell.calls a0_1 a0_2 true _ A4.out).mono ?_); rintro e w23 ⟨rfl, hb⟩; have n0_ := Aside0.mk (blk_below (bk BK266.out) hb); have n1_ := Aside0.mk (below_step (bg HB.out GE266.out) hb); clear BK266; clear HB; have BK266 := n0_; have HB := n1_; clear n0_ n1_; (try clear hb); (try clear hb2); (try clear hk); (try clear hi); obtain ⟨hcz24_0, hcz24_1, hcz24_2, hcz24_3, hcz24_4, hcz24_5, hcz24_6⟩ := cells7 BK266.out; obtain ⟨hfz24_0, hfz24_1, hfz24_2, hfz24_3, hfz24_4, hfz24_5, hfz24_6⟩ := frz7 BK266.out))
          go_ret
          exact ⟨by first | rfl | (simp [errW_none, errW_some] <;> rfl) | (simp [*, errW_none, errW_some] <;> rfl), by exact q0 HB.out GE266.out⟩
        ·rw [if_neg c10] at H
         have c10b0 : decide (0 ≤ a0_5) = false := decide_eq_false c10
         clear c10
         obtain rfl := Option.some.inj H
         go_enter Try.func50, Try.ntmps50
         go_wp2_with (first | ((with_reducible refine gate_dst (N := 1) rfl ?_); (try (refine gate_guard (by rfl) ?_; dsimp only)); refine box_event ?hg (N := 1) ?hd (cs := #[.int .i64 a0_0, .int .i64 a0_1, .int .i64 a0_2, .string a0_3, .string a0_4, .int .i64 a0_5, .int .i64 a0_6]) (t := 25) ?hr ?_; (case hd => rfl); (case hg => rfl); (case hr => first | (go_simp; done) | (go_simp; rfl)); intro gb266 hg w25 hbox hb; have n0_ := Aside0.mk (below_step (bh HB.out) hb); have n1_ := Aside0.mk (hbox); have n2_ := Aside0.mk ((by rw [hg]; exact (below_size (bh HB.out)) : w.heap.size ≤ gb266)); have n3_ := Aside0.mk ((by rw [hg]; exact (below_size (bh HB.out)) : w.heap.size ≤ gb266)); clear HB; have HB := n0_; have BK266 := n1_; have GW266 := n2_; have GE266 := n3_; clear n0_ n1_ n2_ n3_; clear hb hbox hg; obtain ⟨hcz26_0, hcz26_1, hcz26_2, hcz26_3, hcz26_4, hcz26_5, hcz26_6⟩ := cells7 BK266.out; obtain ⟨hfz26_0, hfz26_1, hfz26_2, hfz26_3, hfz26_4, hfz26_5, hfz26_6⟩ := frz7 BK266.out) | (go_at_call 74; (with_reducible refine (gleberef07_cell.calls a0_1 a0_2 true _ A4.out).mono ?_); rintro e w27 ⟨rfl, hb⟩; have n0_ := Aside0.mk (blk_below (bk BK266.out) hb); have n1_ := Aside0.mk (below_step (bg HB.out GE266.out) hb); clear BK266; clear HB; have BK266 := n0_; have HB := n1_; clear n0_ n1_; (try clear hb); (try clear hb2); (try clear hk); (try clear hi); obtain ⟨hcz28_0, hcz28_1, hcz28_2, hcz28_3, hcz28_4, hcz28_5, hcz28_6⟩ := cells7 BK266.out; obtain ⟨hfz28_0, hfz28_1, hfz28_2, hfz28_3, hfz28_4, hfz28_5, hfz28_6⟩ := frz7 BK266.out))
         go_ret
         exact ⟨by first | rfl | (simp [errW_none, errW_some] <;> rfl) | (simp [*, errW_none, errW_some] <;> rfl), by exact q0 HB.out GE266.out⟩
       ·rw [if_neg c9] at H
        have c9b0 : (a0_0 == 2) = false := beq_eq_false_iff_ne.mpr c9
        have c9b1 : (a0_0 != 2) = true := bne_iff_ne.mpr c9
        by_cases c29 : a0_4.toList = ([] : List UInt8)
        ·rw [if_pos c29] at H
         have c29b0 : (a0_4.toList == ([] : List UInt8)) = true := beq_iff_eq.mpr c29
         have c29e0 : (a0_4.toList.isEmpty) = true := by
          have e_ : ∀ l : List UInt8, (l == ([] : List UInt8)) = l.isEmpty := fun l => by cases l <;> rfl
          have q_ := c29b0
          simp only [e_] at q_ ⊢
          exact q_
         have c29b1 : (a0_4.toList != ([] : List UInt8)) = false := bne_eq_false_iff_eq.mpr c29
         clear c29
         by_cases c30 : a0_5 ≥ 0
         ·rw [if_pos c30] at H
          have c30b0 : decide (0 ≤ a0_5) = true := decide_eq_true c30
          clear c30
          by_cases c31 : a0_5 < 8
          ·rw [if_pos c31] at H
           have c31b0 : decide (a0_5 < 8) = true := decide_eq_true c31
           clear c31
           by_cases c32 : a0_6 ≥ 1
           ·rw [if_pos c32] at H
            have c32b0 : decide (1 ≤ a0_6) = true := decide_eq_true c32
            clear c32
            obtain rfl := Option.some.inj H
            go_enter Try.func50, Try.ntmps50
            go_wp2_with (first | ((with_reducible refine gate_dst (N := 1) rfl ?_); (try (refine gate_guard (by rfl) ?_; dsimp only)); refine box_event ?hg (N := 1) ?hd (cs := #[.int .i64 a0_0, .int .i64 a0_1, .int .i64 a0_2, .string a0_3, .string a0_4, .int .i64 a0_5, .int .i64 a0_6]) (t := 25) ?hr ?_; (case hd => rfl); (case hg => rfl); (case hr => first | (go_simp; done) | (go_simp; rfl)); intro gb266 hg w33 hbox hb; have n0_ := Aside0.mk (below_step (bh HB.out) hb); have n1_ := Aside0.mk (hbox); have n2_ := Aside0.mk ((by rw [hg]; exact (below_size (bh HB.out)) : w.heap.size ≤ gb266)); have n3_ := Aside0.mk ((by rw [hg]; exact (below_size (bh HB.out)) : w.heap.size ≤ gb266)); clear HB; have HB := n0_; have BK266 := n1_; have GW266 := n2_; have GE266 := n3_; clear n0_ n1_ n2_ n3_; clear hb hbox hg; obtain ⟨hcz34_0, hcz34_1, hcz34_2, hcz34_3, hcz34_4, hcz34_5, hcz34_6⟩ := cells7 BK266.out; obtain ⟨hfz34_0, hfz34_1, hfz34_2, hfz34_3, hfz34_4, hfz34_5, hfz34_6⟩ := frz7 BK266.out) | (go_at_call 74; (with_reducible refine (gleberef07_cell.calls a0_1 a0_2 true _ A4.out).mono ?_); rintro e w35 ⟨rfl, hb⟩; have n0_ := Aside0.mk (blk_below (bk BK266.out) hb); have n1_ := Aside0.mk (below_step (bg HB.out GE266.out) hb); clear BK266; clear HB; have BK266 := n0_; have HB := n1_; clear n0_ n1_; (try clear hb); (try clear hb2); (try clear hk); (try clear hi); obtain ⟨hcz36_0, hcz36_1, hcz36_2, hcz36_3, hcz36_4, hcz36_5, hcz36_6⟩ := cells7 BK266.out; obtain ⟨hfz36_0, hfz36_1, hfz36_2, hfz36_3, hfz36_4, hfz36_5, hfz36_6⟩ := frz7 BK266.out))
            go_ret
            exact ⟨by first | rfl | (simp [errW_none, errW_some] <;> rfl) | (simp [*, errW_none, errW_some] <;> rfl), by exact q0 HB.out GE266.out⟩
           ·rw [if_neg c32] at H
            have c32b0 : decide (1 ≤ a0_6) = false := decide_eq_false c32
            clear c32
            obtain rfl := Option.some.inj H
            go_enter Try.func50, Try.ntmps50
            go_wp2_with (first | ((with_reducible refine gate_dst (N := 1) rfl ?_); (try (refine gate_guard (by rfl) ?_; dsimp only)); refine box_event ?hg (N := 1) ?hd (cs := #[.int .i64 a0_0, .int .i64 a0_1, .int .i64 a0_2, .string a0_3, .string a0_4, .int .i64 a0_5, .int .i64 a0_6]) (t := 25) ?hr ?_; (case hd => rfl); (case hg => rfl); (case hr => first | (go_simp; done) | (go_simp; rfl)); intro gb266 hg w37 hbox hb; have n0_ := Aside0.mk (below_step (bh HB.out) hb); have n1_ := Aside0.mk (hbox); have n2_ := Aside0.mk ((by rw [hg]; exact (below_size (bh HB.out)) : w.heap.size ≤ gb266)); have n3_ := Aside0.mk ((by rw [hg]; exact (below_size (bh HB.out)) : w.heap.size ≤ gb266)); clear HB; have HB := n0_; have BK266 := n1_; have GW266 := n2_; have GE266 := n3_; clear n0_ n1_ n2_ n3_; clear hb hbox hg; obtain ⟨hcz38_0, hcz38_1, hcz38_2, hcz38_3, hcz38_4, hcz38_5, hcz38_6⟩ := cells7 BK266.out; obtain ⟨hfz38_0, hfz38_1, hfz38_2, hfz38_3, hfz38_4, hfz38_5, hfz38_6⟩ := frz7 BK266.out) | (go_at_call 74; (with_reducible refine (gleberef07_cell.calls a0_1 a0_2 true _ A4.out).mono ?_); rintro e w39 ⟨rfl, hb⟩; have n0_ := Aside0.mk (blk_below (bk BK266.out) hb); have n1_ := Aside0.mk (below_step (bg HB.out GE266.out) hb); clear BK266; clear HB; have BK266 := n0_; have HB := n1_; clear n0_ n1_; (try clear hb); (try clear hb2); (try clear hk); (try clear hi); obtain ⟨hcz40_0, hcz40_1, hcz40_2, hcz40_3, hcz40_4, hcz40_5, hcz40_6⟩ := cells7 BK266.out; obtain ⟨hfz40_0, hfz40_1, hfz40_2, hfz40_3, hfz40_4, hfz40_5, hfz40_6⟩ := frz7 BK266.out))
            go_ret
            exact ⟨by first | rfl | (simp [errW_none, errW_some] <;> rfl) | (simp [*, errW_none, errW_some] <;> rfl), by exact q0 HB.out GE266.out⟩
          ·rw [if_neg c31] at H
           have c31b0 : decide (a0_5 < 8) = false := decide_eq_false c31
           clear c31
           obtain rfl := Option.some.inj H
           go_enter Try.func50, Try.ntmps50
           go_wp2_with (first | ((with_reducible refine gate_dst (N := 1) rfl ?_); (try (refine gate_guard (by rfl) ?_; dsimp only)); refine box_event ?hg (N := 1) ?hd (cs := #[.int .i64 a0_0, .int .i64 a0_1, .int .i64 a0_2, .string a0_3, .string a0_4, .int .i64 a0_5, .int .i64 a0_6]) (t := 25) ?hr ?_; (case hd => rfl); (case hg => rfl); (case hr => first | (go_simp; done) | (go_simp; rfl)); intro gb266 hg w41 hbox hb; have n0_ := Aside0.mk (below_step (bh HB.out) hb); have n1_ := Aside0.mk (hbox); have n2_ := Aside0.mk ((by rw [hg]; exact (below_size (bh HB.out)) : w.heap.size ≤ gb266)); have n3_ := Aside0.mk ((by rw [hg]; exact (below_size (bh HB.out)) : w.heap.size ≤ gb266)); clear HB; have HB := n0_; have BK266 := n1_; have GW266 := n2_; have GE266 := n3_; clear n0_ n1_ n2_ n3_; clear hb hbox hg; obtain ⟨hcz42_0, hcz42_1, hcz42_2, hcz42_3, hcz42_4, hcz42_5, hcz42_6⟩ := cells7 BK266.out; obtain ⟨hfz42_0, hfz42_1, hfz42_2, hfz42_3, hfz42_4, hfz42_5, hfz42_6⟩ := frz7 BK266.out) | (go_at_call 74; (with_reducible refine (gleberef07_cell.calls a0_1 a0_2 true _ A4.out).mono ?_); rintro e w43 ⟨rfl, hb⟩; have n0_ := Aside0.mk (blk_below (bk BK266.out) hb); have n1_ := Aside0.mk (below_step (bg HB.out GE266.out) hb); clear BK266; clear HB; have BK266 := n0_; have HB := n1_; clear n0_ n1_; (try clear hb); (try clear hb2); (try clear hk); (try clear hi); obtain ⟨hcz44_0, hcz44_1, hcz44_2, hcz44_3, hcz44_4, hcz44_5, hcz44_6⟩ := cells7 BK266.out; obtain ⟨hfz44_0, hfz44_1, hfz44_2, hfz44_3, hfz44_4, hfz44_5, hfz44_6⟩ := frz7 BK266.out))
           go_ret
           exact ⟨by first | rfl | (simp [errW_none, errW_some] <;> rfl) | (simp [*, errW_none, errW_some] <;> rfl), by exact q0 HB.out GE266.out⟩
         ·rw [if_neg c30] at H
          have c30b0 : decide (0 ≤ a0_5) = false := decide_eq_false c30
          clear c30
          obtain rfl := Option.some.inj H
          go_enter Try.func50, Try.ntmps50
          go_wp2_with (first | ((with_reducible refine gate_dst (N := 1) rfl ?_); (try (refine gate_guard (by rfl) ?_; dsimp only)); refine box_event ?hg (N := 1) ?hd (cs := #[.int .i64 a0_0, .int .i64 a0_1, .int .i64 a0_2, .string a0_3, .string a0_4, .int .i64 a0_5, .int .i64 a0_6]) (t := 25) ?hr ?_; (case hd => rfl); (case hg => rfl); (case hr => first | (go_simp; done) | (go_simp; rfl)); intro gb266 hg w45 hbox hb; have n0_ := Aside0.mk (below_step (bh HB.out) hb); have n1_ := Aside0.mk (hbox); have n2_ := Aside0.mk ((by rw [hg]; exact (below_size (bh HB.out)) : w.heap.size ≤ gb266)); have n3_ := Aside0.mk ((by rw [hg]; exact (below_size (bh HB.out)) : w.heap.size ≤ gb266)); clear HB; have HB := n0_; have BK266 := n1_; have GW266 := n2_; have GE266 := n3_; clear n0_ n1_ n2_ n3_; clear hb hbox hg; obtain ⟨hcz46_0, hcz46_1, hcz46_2, hcz46_3, hcz46_4, hcz46_5, hcz46_6⟩ := cells7 BK266.out; obtain ⟨hfz46_0, hfz46_1, hfz46_2, hfz46_3, hfz46_4, hfz46_5, hfz46_6⟩ := frz7 BK266.out) | (go_at_call 74; (with_reducible refine (gleberef07_cell.calls a0_1 a0_2 true _ A4.out).mono ?_); rintro e w47 ⟨rfl, hb⟩; have n0_ := Aside0.mk (blk_below (bk BK266.out) hb); have n1_ := Aside0.mk (below_step (bg HB.out GE266.out) hb); clear BK266; clear HB; have BK266 := n0_; have HB := n1_; clear n0_ n1_; (try clear hb); (try clear hb2); (try clear hk); (try clear hi); obtain ⟨hcz48_0, hcz48_1, hcz48_2, hcz48_3, hcz48_4, hcz48_5, hcz48_6⟩ := cells7 BK266.out; obtain ⟨hfz48_0, hfz48_1, hfz48_2, hfz48_3, hfz48_4, hfz48_5, hfz48_6⟩ := frz7 BK266.out))
          go_ret
          exact ⟨by first | rfl | (simp [errW_none, errW_some] <;> rfl) | (simp [*, errW_none, errW_some] <;> rfl), by exact q0 HB.out GE266.out⟩
        ·rw [if_neg c29] at H
         have c29b0 : (a0_4.toList == ([] : List UInt8)) = false := beq_eq_false_iff_ne.mpr c29
         have c29e0 : (a0_4.toList.isEmpty) = false := by
          have e_ : ∀ l : List UInt8, (l == ([] : List UInt8)) = l.isEmpty := fun l => by cases l <;> rfl
          have q_ := c29b0
          simp only [e_] at q_ ⊢
          exact q_
         have c29b1 : (a0_4.toList != ([] : List UInt8)) = true := bne_iff_ne.mpr c29
         obtain rfl := Option.some.inj H
         go_enter Try.func50, Try.ntmps50
         go_wp2_with (first | ((with_reducible refine gate_dst (N := 1) rfl ?_); (try (refine gate_guard (by rfl) ?_; dsimp only)); refine box_event ?hg (N := 1) ?hd (cs := #[.int .i64 a0_0, .int .i64 a0_1, .int .i64 a0_2, .string a0_3, .string a0_4, .int .i64 a0_5, .int .i64 a0_6]) (t := 25) ?hr ?_; (case hd => rfl); (case hg => rfl); (case hr => first | (go_simp; done) | (go_simp; rfl)); intro gb266 hg w49 hbox hb; have n0_ := Aside0.mk (below_step (bh HB.out) hb); have n1_ := Aside0.mk (hbox); have n2_ := Aside0.mk ((by rw [hg]; exact (below_size (bh HB.out)) : w.heap.size ≤ gb266)); have n3_ := Aside0.mk ((by rw [hg]; exact (below_size (bh HB.out)) : w.heap.size ≤ gb266)); clear HB; have HB := n0_; have BK266 := n1_; have GW266 := n2_; have GE266 := n3_; clear n0_ n1_ n2_ n3_; clear hb hbox hg; obtain ⟨hcz50_0, hcz50_1, hcz50_2, hcz50_3, hcz50_4, hcz50_5, hcz50_6⟩ := cells7 BK266.out; obtain ⟨hfz50_0, hfz50_1, hfz50_2, hfz50_3, hfz50_4, hfz50_5, hfz50_6⟩ := frz7 BK266.out) | (go_at_call 74; (with_reducible refine (gleberef07_cell.calls a0_1 a0_2 true _ A4.out).mono ?_); rintro e w51 ⟨rfl, hb⟩; have n0_ := Aside0.mk (blk_below (bk BK266.out) hb); have n1_ := Aside0.mk (below_step (bg HB.out GE266.out) hb); clear BK266; clear HB; have BK266 := n0_; have HB := n1_; clear n0_ n1_; (try clear hb); (try clear hb2); (try clear hk); (try clear hi); obtain ⟨hcz52_0, hcz52_1, hcz52_2, hcz52_3, hcz52_4, hcz52_5, hcz52_6⟩ := cells7 BK266.out; obtain ⟨hfz52_0, hfz52_1, hfz52_2, hfz52_3, hfz52_4, hfz52_5, hfz52_6⟩ := frz7 BK266.out))
         go_ret
         exact ⟨by first | rfl | (simp [errW_none, errW_some] <;> rfl) | (simp [*, errW_none, errW_some] <;> rfl), by exact q0 HB.out GE266.out⟩
      ·rw [if_neg c8] at H
       have c8b0 : decide ((a0_4.size : Int) ≤ 32) = false := decide_eq_false c8
       have c8b1 : decide (a0_4.size ≤ 32) = false := decide_eq_false (by omega)
       clear c8
       obtain rfl := Option.some.inj H
       go_enter Try.func50, Try.ntmps50
       go_wp2_with (first | ((with_reducible refine gate_dst (N := 1) rfl ?_); (try (refine gate_guard (by rfl) ?_; dsimp only)); refine box_event ?hg (N := 1) ?hd (cs := #[.int .i64 a0_0, .int .i64 a0_1, .int .i64 a0_2, .string a0_3, .string a0_4, .int .i64 a0_5, .int .i64 a0_6]) (t := 25) ?hr ?_; (case hd => rfl); (case hg => rfl); (case hr => first | (go_simp; done) | (go_simp; rfl)); intro gb266 hg w53 hbox hb; have n0_ := Aside0.mk (below_step (bh HB.out) hb); have n1_ := Aside0.mk (hbox); have n2_ := Aside0.mk ((by rw [hg]; exact (below_size (bh HB.out)) : w.heap.size ≤ gb266)); have n3_ := Aside0.mk ((by rw [hg]; exact (below_size (bh HB.out)) : w.heap.size ≤ gb266)); clear HB; have HB := n0_; have BK266 := n1_; have GW266 := n2_; have GE266 := n3_; clear n0_ n1_ n2_ n3_; clear hb hbox hg; obtain ⟨hcz54_0, hcz54_1, hcz54_2, hcz54_3, hcz54_4, hcz54_5, hcz54_6⟩ := cells7 BK266.out; obtain ⟨hfz54_0, hfz54_1, hfz54_2, hfz54_3, hfz54_4, hfz54_5, hfz54_6⟩ := frz7 BK266.out) | (go_at_call 74; (with_reducible refine (gleberef07_cell.calls a0_1 a0_2 true _ A4.out).mono ?_); rintro e w55 ⟨rfl, hb⟩; have n0_ := Aside0.mk (blk_below (bk BK266.out) hb); have n1_ := Aside0.mk (below_step (bg HB.out GE266.out) hb); clear BK266; clear HB; have BK266 := n0_; have HB := n1_; clear n0_ n1_; (try clear hb); (try clear hb2); (try clear hk); (try clear hi); obtain ⟨hcz56_0, hcz56_1, hcz56_2, hcz56_3, hcz56_4, hcz56_5, hcz56_6⟩ := cells7 BK266.out; obtain ⟨hfz56_0, hfz56_1, hfz56_2, hfz56_3, hfz56_4, hfz56_5, hfz56_6⟩ := frz7 BK266.out))
       go_ret
       exact ⟨by first | rfl | (simp [errW_none, errW_some] <;> rfl) | (simp [*, errW_none, errW_some] <;> rfl), by exact q0 HB.out GE266.out⟩
     ·rw [if_neg c7] at H
      have c7b0 : decide ((a0_3.size : Int) ≤ 16) = false := decide_eq_false c7
      have c7b1 : decide (a0_3.size ≤ 16) = false := decide_eq_false (by omega)
      clear c7
      obtain rfl := Option.some.inj H
      go_enter Try.func50, Try.ntmps50
      go_wp2_with (first | ((with_reducible refine gate_dst (N := 1) rfl ?_); (try (refine gate_guard (by rfl) ?_; dsimp only)); refine box_event ?hg (N := 1) ?hd (cs := #[.int .i64 a0_0, .int .i64 a0_1, .int .i64 a0_2, .string a0_3, .string a0_4, .int .i64 a0_5, .int .i64 a0_6]) (t := 25) ?hr ?_; (case hd => rfl); (case hg => rfl); (case hr => first | (go_simp; done) | (go_simp; rfl)); intro gb266 hg w57 hbox hb; have n0_ := Aside0.mk (below_step (bh HB.out) hb); have n1_ := Aside0.mk (hbox); have n2_ := Aside0.mk ((by rw [hg]; exact (below_size (bh HB.out)) : w.heap.size ≤ gb266)); have n3_ := Aside0.mk ((by rw [hg]; exact (below_size (bh HB.out)) : w.heap.size ≤ gb266)); clear HB; have HB := n0_; have BK266 := n1_; have GW266 := n2_; have GE266 := n3_; clear n0_ n1_ n2_ n3_; clear hb hbox hg; obtain ⟨hcz58_0, hcz58_1, hcz58_2, hcz58_3, hcz58_4, hcz58_5, hcz58_6⟩ := cells7 BK266.out; obtain ⟨hfz58_0, hfz58_1, hfz58_2, hfz58_3, hfz58_4, hfz58_5, hfz58_6⟩ := frz7 BK266.out) | (go_at_call 74; (with_reducible refine (gleberef07_cell.calls a0_1 a0_2 true _ A4.out).mono ?_); rintro e w59 ⟨rfl, hb⟩; have n0_ := Aside0.mk (blk_below (bk BK266.out) hb); have n1_ := Aside0.mk (below_step (bg HB.out GE266.out) hb); clear BK266; clear HB; have BK266 := n0_; have HB := n1_; clear n0_ n1_; (try clear hb); (try clear hb2); (try clear hk); (try clear hi); obtain ⟨hcz60_0, hcz60_1, hcz60_2, hcz60_3, hcz60_4, hcz60_5, hcz60_6⟩ := cells7 BK266.out; obtain ⟨hfz60_0, hfz60_1, hfz60_2, hfz60_3, hfz60_4, hfz60_5, hfz60_6⟩ := frz7 BK266.out))
      go_ret
      exact ⟨by first | rfl | (simp [errW_none, errW_some] <;> rfl) | (simp [*, errW_none, errW_some] <;> rfl), by exact q0 HB.out GE266.out⟩
    ·rw [if_neg c6] at H
     have c6b0 : decide (1 ≤ (a0_3.size : Int)) = false := decide_eq_false c6
     have c6b1 : decide (1 ≤ a0_3.size) = false := decide_eq_false (by omega)
     clear c6
     obtain rfl := Option.some.inj H
     go_enter Try.func50, Try.ntmps50
     go_wp2_with (first | ((with_reducible refine gate_dst (N := 1) rfl ?_); (try (refine gate_guard (by rfl) ?_; dsimp only)); refine box_event ?hg (N := 1) ?hd (cs := #[.int .i64 a0_0, .int .i64 a0_1, .int .i64 a0_2, .string a0_3, .string a0_4, .int .i64 a0_5, .int .i64 a0_6]) (t := 25) ?hr ?_; (case hd => rfl); (case hg => rfl); (case hr => first | (go_simp; done) | (go_simp; rfl)); intro gb266 hg w61 hbox hb; have n0_ := Aside0.mk (below_step (bh HB.out) hb); have n1_ := Aside0.mk (hbox); have n2_ := Aside0.mk ((by rw [hg]; exact (below_size (bh HB.out)) : w.heap.size ≤ gb266)); have n3_ := Aside0.mk ((by rw [hg]; exact (below_size (bh HB.out)) : w.heap.size ≤ gb266)); clear HB; have HB := n0_; have BK266 := n1_; have GW266 := n2_; have GE266 := n3_; clear n0_ n1_ n2_ n3_; clear hb hbox hg; obtain ⟨hcz62_0, hcz62_1, hcz62_2, hcz62_3, hcz62_4, hcz62_5, hcz62_6⟩ := cells7 BK266.out; obtain ⟨hfz62_0, hfz62_1, hfz62_2, hfz62_3, hfz62_4, hfz62_5, hfz62_6⟩ := frz7 BK266.out) | (go_at_call 74; (with_reducible refine (gleberef07_cell.calls a0_1 a0_2 true _ A4.out).mono ?_); rintro e w63 ⟨rfl, hb⟩; have n0_ := Aside0.mk (blk_below (bk BK266.out) hb); have n1_ := Aside0.mk (below_step (bg HB.out GE266.out) hb); clear BK266; clear HB; have BK266 := n0_; have HB := n1_; clear n0_ n1_; (try clear hb); (try clear hb2); (try clear hk); (try clear hi); obtain ⟨hcz64_0, hcz64_1, hcz64_2, hcz64_3, hcz64_4, hcz64_5, hcz64_6⟩ := cells7 BK266.out; obtain ⟨hfz64_0, hfz64_1, hfz64_2, hfz64_3, hfz64_4, hfz64_5, hfz64_6⟩ := frz7 BK266.out))
     go_ret
     exact ⟨by first | rfl | (simp [errW_none, errW_some] <;> rfl) | (simp [*, errW_none, errW_some] <;> rfl), by exact q0 HB.out GE266.out⟩
   ·replace c5 := Bool.eq_false_iff.mpr c5
    subst c5
    have H1 : (some false) = some r := by rw [if_neg (show ¬ (false = true) by decide)] at H; exact H
    clear H
    have H := H1
    clear H1
    obtain rfl := Option.some.inj H
    go_enter Try.func50, Try.ntmps50
    go_wp2_with (first | ((with_reducible refine gate_dst (N := 1) rfl ?_); (try (refine gate_guard (by rfl) ?_; dsimp only)); refine box_event ?hg (N := 1) ?hd (cs := #[.int .i64 a0_0, .int .i64 a0_1, .int .i64 a0_2, .string a0_3, .string a0_4, .int .i64 a0_5, .int .i64 a0_6]) (t := 25) ?hr ?_; (case hd => rfl); (case hg => rfl); (case hr => first | (go_simp; done) | (go_simp; rfl)); intro gb266 hg w65 hbox hb; have n0_ := Aside0.mk (below_step (bh HB.out) hb); have n1_ := Aside0.mk (hbox); have n2_ := Aside0.mk ((by rw [hg]; exact (below_size (bh HB.out)) : w.heap.size ≤ gb266)); have n3_ := Aside0.mk ((by rw [hg]; exact (below_size (bh HB.out)) : w.heap.size ≤ gb266)); clear HB; have HB := n0_; have BK266 := n1_; have GW266 := n2_; have GE266 := n3_; clear n0_ n1_ n2_ n3_; clear hb hbox hg; obtain ⟨hcz66_0, hcz66_1, hcz66_2, hcz66_3, hcz66_4, hcz66_5, hcz66_6⟩ := cells7 BK266.out; obtain ⟨hfz66_0, hfz66_1, hfz66_2, hfz66_3, hfz66_4, hfz66_5, hfz66_6⟩ := frz7 BK266.out) | (go_at_call 74; (with_reducible refine (gleberef07_cell.calls a0_1 a0_2 false _ A4.out).mono ?_); rintro e w67 ⟨rfl, hb⟩; have n0_ := Aside0.mk (blk_below (bk BK266.out) hb); have n1_ := Aside0.mk (below_step (bg HB.out GE266.out) hb); clear BK266; clear HB; have BK266 := n0_; have HB := n1_; clear n0_ n1_; (try clear hb); (try clear hb2); (try clear hk); (try clear hi)))
    go_ret
    exact ⟨by first | rfl | (simp [errW_none, errW_some] <;> rfl) | (simp [*, errW_none, errW_some] <;> rfl), by exact q0 HB.out GE266.out⟩
  ·rw [if_neg c3] at H
   have c3b0 : decide (a0_0 ≤ 3) = false := decide_eq_false c3
   clear c3
   obtain rfl := Option.some.inj H
   go_enter Try.func50, Try.ntmps50
   go_wp2_with (first | ((with_reducible refine gate_dst (N := 1) rfl ?_); (try (refine gate_guard (by rfl) ?_; dsimp only)); refine box_event ?hg (N := 1) ?hd (cs := #[.int .i64 a0_0, .int .i64 a0_1, .int .i64 a0_2, .string a0_3, .string a0_4, .int .i64 a0_5, .int .i64 a0_6]) (t := 25) ?hr ?_; (case hd => rfl); (case hg => rfl); (case hr => first | (go_simp; done) | (go_simp; rfl)); intro gb266 hg w68 hbox hb; have n0_ := Aside0.mk (below_step (bh HB.out) hb); have n1_ := Aside0.mk (hbox); have n2_ := Aside0.mk ((by rw [hg]; exact (below_size (bh HB.out)) : w.heap.size ≤ gb266)); have n3_ := Aside0.mk ((by rw [hg]; exact (below_size (bh HB.out)) : w.heap.size ≤ gb266)); clear HB; have HB := n0_; have BK266 := n1_; have GW266 := n2_; have GE266 := n3_; clear n0_ n1_ n2_ n3_; clear hb hbox hg; obtain ⟨hcz69_0, hcz69_1, hcz69_2, hcz69_3, hcz69_4, hcz69_5, hcz69_6⟩ := cells7 BK266.out; obtain ⟨hfz69_0, hfz69_1, hfz69_2, hfz69_3, hfz69_4, hfz69_5, hfz69_6⟩ := frz7 BK266.out))
   go_ret
   exact ⟨by first | rfl | (simp [errW_none, errW_some] <;> rfl) | (simp [*, errW_none, errW_some] <;> rfl), by exact q0 HB.out GE266.out⟩
 ·rw [if_neg c2] at H
  have c2b0 : decide (1 ≤ a0_0) = false := decide_eq_false c2
  clear c2
  obtain rfl := Option.some.inj H
  go_enter Try.func50, Try.ntmps50
  go_wp2_with (first | ((with_reducible refine gate_dst (N := 1) rfl ?_); (try (refine gate_guard (by rfl) ?_; dsimp only)); refine box_event ?hg (N := 1) ?hd (cs := #[.int .i64 a0_0, .int .i64 a0_1, .int .i64 a0_2, .string a0_3, .string a0_4, .int .i64 a0_5, .int .i64 a0_6]) (t := 25) ?hr ?_; (case hd => rfl); (case hg => rfl); (case hr => first | (go_simp; done) | (go_simp; rfl)); intro gb266 hg w70 hbox hb; have n0_ := Aside0.mk (below_step (bh HB.out) hb); have n1_ := Aside0.mk (hbox); have n2_ := Aside0.mk ((by rw [hg]; exact (below_size (bh HB.out)) : w.heap.size ≤ gb266)); have n3_ := Aside0.mk ((by rw [hg]; exact (below_size (bh HB.out)) : w.heap.size ≤ gb266)); clear HB; have HB := n0_; have BK266 := n1_; have GW266 := n2_; have GE266 := n3_; clear n0_ n1_ n2_ n3_; clear hb hbox hg; obtain ⟨hcz71_0, hcz71_1, hcz71_2, hcz71_3, hcz71_4, hcz71_5, hcz71_6⟩ := cells7 BK266.out; obtain ⟨hfz71_0, hfz71_1, hfz71_2, hfz71_3, hfz71_4, hfz71_5, hfz71_6⟩ := frz7 BK266.out))
  go_ret
  exact ⟨by first | rfl | (simp [errW_none, errW_some] <;> rfl) | (simp [*, errW_none, errW_some] <;> rfl), by exact q0 HB.out GE266.out⟩

end
section
open Go.RowKit Go.Proofs.YtampppdjfbabiaaW.PrintWords Go.Proofs.YtampppdjfbabiaaW.PrintLast Go.Proofs.YtampppdjfbabiaaW.PrintMore
attribute [local go_sem] max2_int min2_int max_two min_two max_three min_three max_four min_four   -- for this text's walks alone
set_option linter.unusedVariables false
set_option linter.unusedSimpArgs false

/-! ### gleberef01_Reader_Fail: function 60 -/
def gleberef01_Reader_Fail.f (s0_0 : List Int) (s0_1 : Int) (s0_2 : Int) (a1 : Int) : Option (Int × Int) := if s0_2 = 0 then (some (s0_1, a1)) else (some (s0_1, s0_2))
set_option maxHeartbeats 8000000 in
set_option maxRecDepth 100000 in
theorem gleberef01_Reader_Fail.calls (g : Nat) (s0_0 : List Int) (s0_1 : Int) (s0_2 : Int) (a1 : Int) (r1 : Int) (r2 : Int) (w0 w : World) (hI : IsS65 w0 w g s0_0 s0_1 s0_2) (hB : Below w0.heap.size w0 w) (h : gleberef01_Reader_Fail.f s0_0 s0_1 s0_2 a1 = some (r1, r2)) :
  Calls Try.prog 60 #[.pointer (some ⟨g, 0, none⟩), .int .i64 a1] w fun e w' => e = .returned (.tuple #[]) ∧ IsS65 w0 w' g s0_0 r1 r2 ∧ Below w0.heap.size w0 w' ∧ KeepBut w w' g none := by
 have HI0 := Aside0.mk hI
 have HK := Aside0.mk (KeepBut.refl w g none)
 have HL := Aside0.mk hB.size
 clear hI
 have HW0 := Aside0.mk hB.size
 have HB := Aside0.mk hB
 clear hB
 have H : (if s0_2 = 0 then (some (s0_1, a1)) else (some (s0_1, s0_2))) = some (r1, r2) := h
 clear h
 by_cases c3 : s0_2 = 0
 ·rw [if_pos c3] at H
  have c3b0 : (s0_2 == 0) = true := beq_iff_eq.mpr c3
  have c3b1 : (s0_2 != 0) = false := bne_eq_false_iff_eq.mpr c3
  clear c3
  simp only [Option.some.injEq, Prod.mk.injEq] at H
  obtain ⟨rfl, rfl⟩ := H
  obtain ⟨ASz4_0, cSz4_0, HGz4, hgz4, HSz4_0, _⟩ := HI0.out
  have hcz4_0 := cellS65_0 HGz4
  have hcz4_1 := cellS65_1 HGz4
  have hcz4_2 := cellS65_2 HGz4
  have hfz4_1 := blk_frozen HGz4 1
  have hfz4_2 := blk_frozen HGz4 2
  clear HGz4 hgz4
  go_enter Try.func60, Try.ntmps60
  go_wp2
  first | go_end0 | ((try simp only [Exit.inBlock, Exit.then]); refine bodyPost_ret (results_none rfl _ _ _) rfl ?_)
  exact ⟨by first | rfl | (simp [errW_none, errW_some] <;> rfl) | (simp [*, errW_none, errW_some] <;> rfl), by exact q4 HI0.out, by exact q0 HB.out (IsS65.ge HI0.out), by exact q5 HK.out⟩
 ·rw [if_neg c3] at H
  have c3b0 : (s0_2 == 0) = false := beq_eq_false_iff_ne.mpr c3
  have c3b1 : (s0_2 != 0) = true := bne_iff_ne.mpr c3
  simp only [Option.some.injEq, Prod.mk.injEq] at H
  obtain ⟨rfl, rfl⟩ := H
  obtain ⟨ASz5_0, cSz5_0, HGz5, hgz5, HSz5_0, _⟩ := HI0.out
  have hcz5_0 := cellS65_0 HGz5
  have hcz5_1 := cellS65_1 HGz5
  have hcz5_2 := cellS65_2 HGz5
  have hfz5_1 := blk_frozen HGz5 1
  have hfz5_2 := blk_frozen HGz5 2
  clear HGz5 hgz5
  go_enter Try.func60, Try.ntmps60
  go_wp2
  first | go_end0 | ((try simp only [Exit.inBlock, Exit.then]); refine bodyPost_ret (results_none rfl _ _ _) rfl ?_)
  exact ⟨by first | rfl | (simp [errW_none, errW_some] <;> rfl) | (simp [*, errW_none, errW_some] <;> rfl), by exact q4 HI0.out, by exact q0 HB.out (IsS65.ge HI0.out), by exact q5 HK.out⟩

end
section
open Go.RowKit Go.Proofs.YtampppdjfbabiaaW.PrintWords Go.Proofs.YtampppdjfbabiaaW.PrintLast Go.Proofs.YtampppdjfbabiaaW.PrintMore
attribute [local go_sem] max2_int min2_int max_two min_two max_three min_three max_four min_four   -- for this text's walks alone
set_option linter.unusedVariables false
set_option linter.unusedSimpArgs false

/-! ### gleberef01_Reader_Left: function 36 -/
def gleberef01_Reader_Left.f (s0_0 : List Int) (s0_1 : Int) (s0_2 : Int) : Option (Int × Int × Int) := if s0_2 = 0 then (some (wrap64 ((s0_0.length : Int) - s0_1), s0_1, s0_2)) else (some (0, s0_1, s0_2))
set_option maxHeartbeats 8000000 in
set_option maxRecDepth 100000 in
theorem gleberef01_Reader_Left.calls (g : Nat) (s0_0 : List Int) (s0_1 : Int) (s0_2 : Int) (r1 : Int) (r2 : Int) (r3 : Int) (w0 w : World) (hI : IsS65 w0 w g s0_0 s0_1 s0_2) (hB : Below w0.heap.size w0 w) (h : gleberef01_Reader_Left.f s0_0 s0_1 s0_2 = some (r1, r2, r3)) :
  Calls Try.prog 36 #[.pointer (some ⟨g, 0, none⟩)] w fun e w' => e = .returned (.int .i64 r1) ∧ IsS65 w0 w' g s0_0 r2 r3 ∧ Below w0.heap.size w0 w' ∧ KeepBut w w' g none := by
 have HI0 := Aside0.mk hI
 have HK := Aside0.mk (KeepBut.refl w g none)
 have HL := Aside0.mk hB.size
 clear hI
 have HW0 := Aside0.mk hB.size
 have HB := Aside0.mk hB
 clear hB
 have H : (if s0_2 = 0 then (some (wrap64 ((s0_0.length : Int) - s0_1), s0_1, s0_2)) else (some (0, s0_1, s0_2))) = some (r1, r2, r3) := h
 clear h
 by_cases c2 : s0_2 = 0
 ·rw [if_pos c2] at H
  have c2b0 : (s0_2 == 0) = true := beq_iff_eq.mpr c2
  have c2b1 : (s0_2 != 0) = false := bne_eq_false_iff_eq.mpr c2
  clear c2
  simp only [Option.some.injEq, Prod.mk.injEq] at H
  obtain ⟨rfl, rfl, rfl⟩ := H
  obtain ⟨ASz3_0, cSz3_0, HGz3, hgz3, HSz3_0, _⟩ := HI0.out
  have hcz3_0 := cellS65_0 HGz3
  have hcz3_1 := cellS65_1 HGz3
  have hcz3_2 := cellS65_2 HGz3
  have hfz3_1 := blk_frozen HGz3 1
  have hfz3_2 := blk_frozen HGz3 2
  clear HGz3 hgz3
  go_enter Try.func36, Try.ntmps36
  go_wp2
  repeat (go_quiet (fail); try go_wp2)
  go_ret
  exact ⟨by first | rfl | (simp [errW_none, errW_some] <;> rfl) | (simp [*, errW_none, errW_some] <;> rfl), by exact q4 HI0.out, by exact q0 HB.out (IsS65.ge HI0.out), by exact q5 HK.out⟩
 ·rw [if_neg c2] at H
  have c2b0 : (s0_2 == 0) = false := beq_eq_false_iff_ne.mpr c2
  have c2b1 : (s0_2 != 0) = true := bne_iff_ne.mpr c2
  simp only [Option.some.injEq, Prod.mk.injEq] at H
  obtain ⟨rfl, rfl, rfl⟩ := H
  obtain ⟨ASz4_0, cSz4_0, HGz4, hgz4, HSz4_0, _⟩ := HI0.out
  have hcz4_0 := cellS65_0 HGz4
  have hcz4_1 := cellS65_1 HGz4
  have hcz4_2 := cellS65_2 HGz4
  have hfz4_1 := blk_frozen HGz4 1
  have hfz4_2 := blk_frozen HGz4 2
  clear HGz4 hgz4
  go_enter Try.func36, Try.ntmps36
  go_wp2
  repeat (go_quiet (fail); try go_wp2)
  go_ret
  exact ⟨by first | rfl | (simp [errW_none, errW_some] <;> rfl) | (simp [*, errW_none, errW_some] <;> rfl), by exact q4 HI0.out, by exact q0 HB.out (IsS65.ge HI0.out), by exact q5 HK.out⟩

end
end Go.Proofs.Ytampppdjfbabiaa.PE
