-- Written by a program of this session (wip/tools/hp.py) over the kit's print; nothing here is trusted: Lean checks it.
import Derived.RegionTactic
import Derived.BigRegion
import Derived.Test.YtampppdjfbabiaaEntTake
import Derived.Test.YtampppdjfbabiaaPEx0
import Derived.Test.YtampppdjfbabiaaPEx1
import Derived.Test.YtampppdjfbabiaaPEx2
import Derived.Test.YtampppdjfbabiaaPEx4
import Derived.Test.YtampppdjfbabiaaPEx5
import Derived.Test.YtampppdjfbabiaaPEx6
namespace Go.Proofs.Ytampppdjfbabiaa.PE
open Go.RowKit Go.Proofs.YtampppdjfbabiaaW.PrintWords Go.Proofs.YtampppdjfbabiaaW.PrintLast Go.Proofs.YtampppdjfbabiaaW.PrintMore
attribute [local go_sem] max2_int min2_int max_two min_two max_three min_three max_four min_four   -- for this text's walks alone
set_option linter.unusedVariables false
set_option linter.unusedSimpArgs false

--OWN Derived.RegionTactic,Derived.BigRegion,Derived.Test.YtampppdjfbabiaaEntTake
/-! ### glebelaw11_EntryTakes: function 5 -/
def glebelaw11_EntryTakes.T6 : Bool × List (List Nat × List Nat) := (true, [([], []), ([0], [0]), ([1, 1], [1]), ([], []), ([3, 2], [3]), ([2, 4, 4], [2, 4]), ([5], [5]), ([6, 5], [6]), ([7], [7]), ([8, 7, 7], [7, 8]), ([9, 9, 7], [7, 9]), ([7], [7]), ([11, 7], [7, 11]), ([12, 7], [7, 12]), ([13, 7], [7, 13]), ([10, 14, 7], [7, 10, 14]), ([7, 15], [7, 15]), ([16, 10], [16]), ([17], [17]), ([18, 17, 17], [17, 18]), ([17], [17]), ([20, 19, 17], [17, 20]), ([19, 21, 17], [17, 19, 21]), ([17, 22], [17, 22])])
def glebelaw11_EntryTakes.B6 : List Nat := [0, 1, 3, 0, 15, 31, 63, 127, 255, 511, 1023, 255, 2303, 6399, 14591, 32767, 65535, 131071, 262143, 524287, 262143, 2097151, 4194303, 8388607]
theorem glebelaw11_EntryTakes.tab6 : rtab .any (opsOf Try.f5 6) = glebelaw11_EntryTakes.T6 := by kernel_rfl
theorem glebelaw11_EntryTakes.bits6 : waitsOk glebelaw11_EntryTakes.T6.2 glebelaw11_EntryTakes.B6 = true := by kernel_rfl
def glebelaw11_EntryTakes.T10 : Bool × List (List Nat × List Nat) := (true, [([], []), ([0], [0]), ([], []), ([2, 1], [2]), ([1, 3, 3], [1, 3]), ([4, 4], [4]), ([5], [5]), ([6, 5, 5], [5, 6]), ([7, 7, 5], [5, 7]), ([5], [5]), ([9, 5], [5, 9]), ([10, 5], [5, 10]), ([11, 5], [5, 11]), ([8, 12, 5], [5, 8, 12]), ([5, 13], [5, 13]), ([14, 8], [14]), ([15], [15]), ([16, 15, 15], [15, 16]), ([15], [15]), ([18, 17, 15], [15, 18]), ([17, 19, 15], [15, 17, 19]), ([15, 20], [15, 20]), ([21, 19], [21]), ([22], [22]), ([22], [22]), ([23, 24, 22, 22], [22, 23, 24]), ([22, 25], [22, 25]), ([26, 25], [26]), ([27, 27], [27]), ([27, 28], [27, 28]), ([29, 28, 0, 1, 2, 3, 4, 5, 6, 7, 8, 9, 10, 11, 12, 13, 14, 15, 16, 17, 18, 19, 20, 21, 22, 23, 24, 25, 26, 27, 28, 29], [29])])
def glebelaw11_EntryTakes.B10 : List Nat := [0, 1, 0, 7, 15, 31, 63, 127, 255, 63, 575, 1599, 3647, 8191, 16383, 32767, 65535, 131071, 65535, 524287, 1048575, 2097151, 4194303, 8388607, 8388607, 33554431, 67108863, 134217727, 268435455, 536870911, 1073741823]
theorem glebelaw11_EntryTakes.tab10 : rtab .any (opsOf Try.f5 10) = glebelaw11_EntryTakes.T10 := by kernel_rfl
theorem glebelaw11_EntryTakes.bits10 : waitsOk glebelaw11_EntryTakes.T10.2 glebelaw11_EntryTakes.B10 = true := by kernel_rfl
theorem rS_blk1 {w0 w : World} {g : Nat} {l : List Int} {a e : Int} (h : IsS65 w0 w g l a e) : ∃ cs, w.heap[g]? = some (.cells cs 65 (0, 0)) := by
 obtain ⟨A, c, q, _⟩ := h
 exact ⟨_, q⟩
theorem rS_keep {w0 W W1 : World} {g g' : Nat} {f0 : List Int} {f1 f2 : Int} (h : IsS65 w0 W g f0 f1 f2) (hk : KeepBut W W1 g' none) (hne : g ≠ g') : IsS65 w0 W1 g f0 f1 f2 := by
 obtain ⟨A0, c0, hb, hg, hr0⟩ := h
 exact ⟨A0, c0, hk.blk hb hne (by simp), hg, hr0⟩
theorem rS_cell2 {w0 W : World} {g : Nat} {f0 : List Int} {f1 f2 : Int} (h : IsS65 w0 W g f0 f1 f2) : W.cell? ⟨g, 2, none⟩ = some (.int .i64 f2) := by
 obtain ⟨A0, c0, hb, hg, hr0⟩ := h
 exact cellS65_2 hb
theorem rS_ne {w0 w : World} {g q : Nat} {l l2 : List Int} {e a2 e2 : Int} {m : Bool} (h : IsRdr w0 w g l e m) (hq : IsS65 w0 w q l2 a2 e2) : q ≠ g := by
 obtain ⟨c1, h1⟩ := h.blk1
 obtain ⟨c2, h2⟩ := rS_blk1 hq
 exact blk_ne h2 h1 (by decide)
/-- A reader stays while the document's one reads. -/
theorem rdr_keep {w0 w w' : World} {g q : Nat} {l l2 : List Int} {e a2 e2 : Int} {m : Bool} (h : IsRdr w0 w g l e m) (hq : IsS65 w0 w q l2 a2 e2) (hk : KeepBut w w' q none) : IsRdr w0 w' g l e m := by
 obtain ⟨c2, h2⟩ := rS_blk1 hq
 exact h.keep hk (rS_ne h hq) h2 (by decide)
theorem ti_block {w w' : World} {A : Option Addr} {n : Nat} {l : List Int} (h : (Kd.int .i64).C w A n l) (hb : ∀ ad, A = some ad → w'.heap[ad.block]? = w.heap[ad.block]?) : (Kd.int .i64).C w' A n l := by
 obtain ⟨h1, h2, h3⟩ := h
 refine ⟨h1, h2, fun hp => ?_⟩
 obtain ⟨ad, rfl, h4⟩ := h3 hp
 refine ⟨ad, rfl, fun j p hj => ?_⟩
 obtain ⟨c, hc1, hc2, hc3⟩ := h4 j p hj
 refine ⟨c, hc1, hc2, fun i u hi => ?_⟩
 have hx : (ad.add (j * (Kd.int IntKind.i64).sz + i)).block = ad.block := by unfold Addr.add; split <;> rfl
 rw [World.cell?_of_block (w := w) (by rw [hx]; exact hb ad rfl)]
 exact hc3 i u hi
/-- Numbers in a block of numbers. -/
structure TI (w : World) (A : Option Addr) (l : List Int) : Prop where
 c : (Kd.int .i64).C w A l.length l
 t : ∀ ad, A = some ad → ∃ (cells : Array Value) (fz : Nat × Nat), w.heap[ad.block]? = some (.cells cells 3 fz)
theorem TI.move {w w' : World} {A : Option Addr} {l : List Int} (h : TI w A l) (h2 : ∀ (k : Nat) (cells : Array Value) (fz : Nat × Nat), w.heap[k]? = some (.cells cells 3 fz) → w'.heap[k]? = w.heap[k]?) : TI w' A l :=
 ⟨ti_block h.c fun ad hA => by
  obtain ⟨cells, fz, hc⟩ := h.t ad hA
  exact h2 _ _ _ hc, fun ad hA => by
  obtain ⟨cells, fz, hc⟩ := h.t ad hA
  exact ⟨cells, fz, (h2 _ _ _ hc).trans hc⟩⟩
theorem TI.below {w w' : World} {A : Option Addr} {l : List Int} (h : TI w A l) (hb : Below w.heap.size w w') : TI w' A l := h.move fun k _ _ hk => hb.block k (heap_lt hk)
theorem TI.drew {w : World} {A : Option Addr} {l : List Int} (h : TI w A l) : TI w.drew A l := h.below (below_drew (Below.refl _ _))
theorem TI.keep {w w' : World} {A : Option Addr} {l : List Int} (h : TI w A l) {g' : Nat} (hk : KeepBut w w' g' none) {cells' : Array Value} {t : TypeId} (hg : w.heap[g']? = some (.cells cells' t (0, 0))) (ht : t ≠ 3) : TI w' A l :=
 h.move fun k cells fz hc => hk.2 k (heap_lt hc) (by
  rintro rfl
  rw [hg] at hc
  injection hc with hc
  injection hc with _ hc
  exact ht hc) (by simp)
theorem TI.new {w : World} {base c : Nat} {A : Option Addr} {n : Nat} {ok : Nat → Prop} {l : List Int} (h : Kd.R (Kd.int .i64) 3 w base ok (.slice A n c) l) : TI w A l :=
 ⟨(Kd.R_reads' h).2.2, fun ad hA => by
  obtain ⟨cells, hx⟩ := Kd.R_typed h ad.block (by rw [hA]; simp [Value.ownBlock])
  exact ⟨cells, _, hx⟩⟩
/-- Both readers, the lent bytes and all that was there. -/
structure EW (w wj : World) (g q : Nat) (AL : Option Addr) (l0 l : List Int) (e pz z : Int) : Prop where
 rd : IsRdr w wj g l e true
 rs : IsS65 w wj q l0 pz z
 tb : TB wj AL (l0.length + 2) (l0 ++ [71, 72])
 tv : TB wj AL l0.length l0
 b : Below w.heap.size w wj
theorem EW.below {w wj w' : World} {g q : Nat} {AL : Option Addr} {l0 l : List Int} {e pz z : Int} (h : EW w wj g q AL l0 l e pz z) (hb : Below wj.heap.size wj w') : EW w w' g q AL l0 l e pz z :=
 ⟨h.rd.below hb, IsS65.below h.rs hb, h.tb.below hb, h.tv.below hb, below_step h.b hb⟩
theorem EW.drew {w wj : World} {g q : Nat} {AL : Option Addr} {l0 l : List Int} {e pz z : Int} (h : EW w wj g q AL l0 l e pz z) : EW w wj.drew g q AL l0 l e pz z := h.below (below_drew (Below.refl _ _))
theorem EW.keepq {w wj w' : World} {g q : Nat} {AL : Option Addr} {l0 l : List Int} {e pz z p2 z2 : Int} (h : EW w wj g q AL l0 l e pz z) (hk : KeepBut wj w' q none) (hq : IsS65 w w' q l0 p2 z2) (hb : Below w.heap.size w w') : EW w w' g q AL l0 l e p2 z2 := by
 obtain ⟨c2, h2⟩ := rS_blk1 h.rs
 exact ⟨rdr_keep h.rd h.rs hk, hq, h.tb.keep hk h2 (by decide), h.tv.keep hk h2 (by decide), hb⟩
theorem EW.keepg {w wj w' : World} {g q : Nat} {AL : Option Addr} {l0 l l' : List Int} {e e' pz z : Int} (h : EW w wj g q AL l0 l e pz z) (hk : KeepBut wj w' g none) (hi : IsRdr w w' g l' e' true) (hb : Below w.heap.size w w') : EW w w' g q AL l0 l' e' pz z := by
 obtain ⟨c2, h2⟩ := h.rd.blk1
 exact ⟨hi, rS_keep h.rs hk (rS_ne h.rd h.rs), h.tb.keep hk h2 (by decide), h.tv.keep hk h2 (by decide), hb⟩
theorem EW.keepi {w wj w' : World} {g q : Nat} {AL A : Option Addr} {l0 l xs : List Int} {e pz z : Int} (h : EW w wj g q AL l0 l e pz z) (hk : KeepBut wj w' q none) (ha : TI wj A xs) : TI w' A xs := by
 obtain ⟨c2, h2⟩ := rS_blk1 h.rs
 exact ha.keep hk h2 (by decide)
def glebelaw11_EntryTakes.f (k : Nat) (l0 : List Int) : Option Bool := if ∀ z ∈ l0, 0 ≤ z ∧ z < 256 then some true else none
set_option maxHeartbeats 16000000 in
set_option maxRecDepth 100000 in
theorem glebelaw11_EntryTakes.calls (k : Nat) (A0 : Option Addr) (c0 : Nat) (l0 : List Int) (r : Bool) (w : World) (hr0 : Kd.C (Kd.int .u8) w A0 l0.length l0) (hc0 : l0.length ≤ c0) (h : glebelaw11_EntryTakes.f k l0 = some r) :
  Calls Try.prog 5 #[.slice A0 l0.length c0] w fun e w' => e = .returned (.bool r) ∧ Below w.heap.size w w' := by
 unfold glebelaw11_EntryTakes.f at h
 by_cases hb0 : ∀ z ∈ l0, 0 ≤ z ∧ z < 256
 rotate_left
 ·rw [if_neg hb0] at h
  cases h
 rw [if_pos hb0] at h
 obtain rfl := Option.some.inj h
 clear h
 have H0 := Aside0.mk hr0
 have HBY := Aside0.mk hb0
 clear hr0 hb0
 by_cases z : l0.length > 3000
 ·have zb : decide ((3000 : Int) < (l0.length : Int)) = true := decide_eq_true (by omega)
  have zn : decide (3000 < l0.length) = true := decide_eq_true z
  clear z
  go_enter Try.func5, Try.ntmps5
  go_wp2_with fail
  refine (glebelaw11_knows.calls true _ rfl).mono ?_
  rintro e w1 ⟨rfl, hb⟩
  have HB := Aside0.mk hb
  clear hb
  go_wp2
  go_ret
  exact ⟨rfl, HB.out⟩
 have zb : decide ((3000 : Int) < (l0.length : Int)) = false := decide_eq_false (by omega)
 have zn : decide (3000 < l0.length) = false := decide_eq_false z
 have HLE := Aside0.mk (show l0.length ≤ 3000 by omega)
 clear z
 go_enter Try.func5, Try.ntmps5
 go_wp2_with fail
 refine (glebelaw01_Lent.calls A0 c0 l0 l0 _ H0.out hc0 (if_pos (by have := HLE.out; omega))).mono ?_
 rintro e w1 ⟨v, rfl, ⟨hv, AL, cL, eL, hcL, hC⟩, hb⟩
 subst eL
 have HT := Aside0.mk (show TB w1 AL (l0.length + 2) (l0 ++ [71, 72]) from ⟨hC, fun ad hA => by
  obtain ⟨cells, hx⟩ := Kd.R_typed hv ad.block (by rw [hA]; simp [Value.ownBlock])
  exact ⟨cells, _, hx⟩⟩)
 have HV := Aside0.mk (show TB w1 AL l0.length l0 from ⟨(Kd.R_reads' hv).2.2, HT.out.t⟩)
 have HCL := Aside0.mk hcL
 have HB := Aside0.mk hb
 clear hv hC hb hcL zb zn
 go_wp2_with fail
 refine (wire_Open.calls AL cL l0 _ HV.out.c (by have := HCL.out; omega) (by have := HLE.out; omega)).mono ?_
 rintro e wo ⟨g, A2, c2, rfl, hg, hblk, hc2, hC2, hty, hb⟩
 have HI := Aside0.mk (show IsRdr w wo g l0 0 true from ⟨Nat.le_trans HB.out.size hg, A2, c2, hblk, hc2, hC2, hty⟩)
 replace HT := Aside0.mk (HT.out.below hb)
 replace HV := Aside0.mk (HV.out.below hb)
 replace HB := Aside0.mk (below_step HB.out hb)
 clear hg hblk hc2 hC2 hty hb
 go_wp2_with fail
 refine (gleberef01_Open.calls A0 c0 l0 l0 0 0 w _ HB.out H0.out hc0 rfl).mono ?_
 rintro e wq ⟨q, rfl, hq, hbw, hb⟩
 have HX := Aside0.mk (show EW w wq g q AL l0 l0 0 0 0 from ⟨HI.out.below hb, hq, HT.out.below hb, HV.out.below hb, hbw⟩)
 clear hq hbw hb HI HT HV HB
 obtain ⟨row, l2, e2, ok, out, pa, hem, hrr, hout, hch, hag, hf⟩ := take_both (by have := HLE.out; omega) HBY.out
 have hlf := ref_left (by have := HLE.out; omega) hag
 obtain ⟨z, hz⟩ : ∃ z, z = tkE ok e2 := ⟨_, rfl⟩
 rw [← hz] at hf hlf
 obtain ⟨lf, hlx⟩ : ∃ x, x = (if rdOk z true then (l2.length : Int) else 0) := ⟨_, rfl⟩
 rw [← hlx] at hlf
 have HZ := Aside0.mk hz
 have HEM := Aside0.mk hem
 have HRR := Aside0.mk hrr
 have HOUT := Aside0.mk hout
 have HCH := Aside0.mk hch
 have HF := Aside0.mk hf
 have HLF := Aside0.mk hlf
 have HLX := Aside0.mk hlx
 obtain ⟨pz, hpz⟩ : ∃ x : Int, x = (pa : Int) := ⟨_, rfl⟩
 rw [← hpz] at HF HLF
 clear hz hem hrr hout hch hag hf hlf hlx hpz
 go_wp2_with fail
 refine start_ (n := 24) (S := fun w' => True) (ds := []) #[false, false, false, false, false, false, false, false, false, false, false, false, false, false, false, false, false, false, false, false, false, false, false, false] (by kernel_rfl) rfl rfl trivial (fun hHeld => ?_)
 refine with_tabW glebelaw11_EntryTakes.tab6 glebelaw11_EntryTakes.bits6 (fun HT_ HW_ => ?_)
 refine pure_ (i := 0) (N := some 16) (v := ?_) (a' := ?_) #[true, false, false, false, false, false, false, false, false, false, false, false, false, false, false, false, false, false, false, false, false, false, false, false] rfl rfl (any_of HT_.out (by kernel_rfl)) (fun _ _ _ h => h) (Or.inl ⟨by rfl, ?_⟩) ?_ ?_
 rotate_left
 ·intro w'
  go_simp
  with_reducible rfl
 rotate_left
 ·simp only [Act.put, List.setIfInBounds_toArray, List.set_cons_zero, List.set_cons_succ, i64_w, i32_w]
  rfl
 refine pure_ (i := 3) (N := some 19) (v := ?_) (a' := ?_) #[true, false, false, true, false, false, false, false, false, false, false, false, false, false, false, false, false, false, false, false, false, false, false, false] rfl rfl (any_of HT_.out (by kernel_rfl)) (fun _ _ _ h => h) (Or.inl ⟨by rfl, ?_⟩) ?_ ?_
 rotate_left
 ·intro w'
  go_simp
  with_reducible rfl
 rotate_left
 ·simp only [Act.put, List.setIfInBounds_toArray, List.set_cons_zero, List.set_cons_succ, i64_w, i32_w]
  rfl
 refine one_ (i := 1) (N := some 17) #[true, true, false, true, false, false, false, false, false, false, false, false, false, false, false, false, false, false, false, false, false, false, false, false] rfl rfl (one_of HT_.out (by kernel_rfl)) (by decide) (fun K hK => ?_)
 refine goes_ Try.func32 (by kernel_rfl) rfl #[.pointer (some ⟨g, 0, none⟩)] (by rfl) rfl rfl (by simp only [List.map_toArray, List.map_cons, List.map_nil]; rfl) ?_
 with_reducible refine (entry_Take.calls 100 g l0 0 row l2 e2 ok w _ (HEM.out w g) HRR.out out HOUT.out (by first | exact HX.out.rd | exact HX.out.drew.rd) (by first | exact HX.out.b | exact HX.out.drew.b)).mono ?_
 rintro e wx ⟨v1, rfl, hr1, hi, hbx, hk⟩
 refine ⟨_, rfl, ?_⟩
 rw [← HZ.out] at hi
 replace HX := Aside0.mk (EW.keepg (by first | exact HX.out | exact HX.out.drew) hk hi hbx)
 obtain ⟨A1, c1, rfl⟩ := Kd.R_slice hr1
 have HA1 := Aside0.mk (TI.new hr1)
 have HC1 := Aside0.mk (Kd.R_reads' hr1).2.1
 clear hr1
 clear hi hbx hk
 refine hK.out _ _ trivial (fun hHeld => ?_)
 clear hK K
 refine norm_ (a' := ?_) ?_ ?_
 rotate_left
 ·show Act.put _ (some 17) _ = _
  simp only [Act.put, List.setIfInBounds_toArray, List.set_cons_zero, List.set_cons_succ, i64_w, i32_w]
  rfl
 refine one_ (i := 2) (N := some 18) #[true, true, true, true, false, false, false, false, false, false, false, false, false, false, false, false, false, false, false, false, false, false, false, false] rfl rfl (one_of HT_.out (by kernel_rfl)) (by decide) (fun K hK => ?_)
 refine goes_ Try.func28 (by kernel_rfl) rfl #[.agg #[.int .i64 out.k, .int .i64 out.o0, .int .i64 out.o1, .int .i64 out.o2, .string out.o3, .string out.o4, .int .i64 out.o5, .int .i64 out.o6, .int .i64 out.n, .int .i64 out.ep, .int .i64 out.by_, .slice A1 out.ch.length c1]] (by rfl) rfl rfl (by simp only [List.map_toArray, List.map_cons, List.map_nil]; rfl) ?_
 with_reducible refine (glebelaw11_Ref.calls out.k out.o0 out.o1 out.o2 out.o3 out.o4 out.o5 out.o6 out.n out.ep out.by_ A1 c1 out.ch out.k out.o0 out.o1 out.o2 out.o3 out.o4 out.o5 out.o6 out.n out.ep out.by_ out.ch _ (by first | exact HA1.out.c | exact HA1.out.drew.c) HC1.out (ref_id out HCH.out)).mono ?_
 rintro e wx ⟨v2, rfl, hr2, hbx⟩
 refine ⟨_, rfl, ?_⟩
 obtain ⟨A2, c2, rfl⟩ := Kd.R_slice hr2
 have HA2 := Aside0.mk (TI.new hr2)
 have HC2 := Aside0.mk (Kd.R_reads' hr2).2.1
 clear hr2
 clear HA1 HC1
 replace HX := Aside0.mk (EW.below (by first | exact HX.out | exact HX.out.drew) hbx)
 clear hbx
 refine hK.out _ _ trivial (fun hHeld => ?_)
 clear hK K
 refine norm_ (a' := ?_) ?_ ?_
 rotate_left
 ·show Act.put _ (some 18) _ = _
  simp only [Act.put, List.setIfInBounds_toArray, List.set_cons_zero, List.set_cons_succ, i64_w, i32_w]
  rfl
 refine one_ (i := 4) (N := some 20) #[true, true, true, true, true, false, false, false, false, false, false, false, false, false, false, false, false, false, false, false, false, false, false, false] rfl rfl (one_of HT_.out (by kernel_rfl)) (by decide) (fun K hK => ?_)
 refine goes_ Try.func33 (by kernel_rfl) rfl #[.pointer (some ⟨q, 0, none⟩)] (by rfl) rfl rfl (by simp only [List.map_toArray, List.map_cons, List.map_nil]; rfl) ?_
 with_reducible refine (gleberef11_Take.calls 100 q l0 0 0 out.k out.o0 out.o1 out.o2 out.o3 out.o4 out.o5 out.o6 out.n out.ep out.by_ out.ch pz z w _ (by first | exact HX.out.rs | exact HX.out.drew.rs) (by first | exact HX.out.b | exact HX.out.drew.b) HF.out).mono ?_
 rintro e wx ⟨v3, rfl, hr3, hq, hb, hk⟩
 refine ⟨_, rfl, ?_⟩
 replace HA2 := Aside0.mk (EW.keepi (by first | exact HX.out | exact HX.out.drew) hk (by first | exact HA2.out | exact HA2.out.drew))
 replace HX := Aside0.mk (EW.keepq (by first | exact HX.out | exact HX.out.drew) hk hq hb)
 obtain ⟨A3, c3, rfl⟩ := Kd.R_slice hr3
 have HA3 := Aside0.mk (TI.new hr3)
 have HC3 := Aside0.mk (Kd.R_reads' hr3).2.1
 clear hr3
 clear hq hb hk
 refine hK.out _ _ trivial (fun hHeld => ?_)
 clear hK K
 refine norm_ (a' := ?_) ?_ ?_
 rotate_left
 ·show Act.put _ (some 20) _ = _
  simp only [Act.put, List.setIfInBounds_toArray, List.set_cons_zero, List.set_cons_succ, i64_w, i32_w]
  rfl
 refine one_ (i := 5) (N := some 21) #[true, true, true, true, true, true, false, false, false, false, false, false, false, false, false, false, false, false, false, false, false, false, false, false] rfl rfl (one_of HT_.out (by kernel_rfl)) (by decide) (fun K hK => ?_)
 refine goes_ Try.func27 (by kernel_rfl) rfl #[.agg #[.int .i64 out.k, .int .i64 out.o0, .int .i64 out.o1, .int .i64 out.o2, .string out.o3, .string out.o4, .int .i64 out.o5, .int .i64 out.o6, .int .i64 out.n, .int .i64 out.ep, .int .i64 out.by_, .slice A2 out.ch.length c2], .agg #[.int .i64 out.k, .int .i64 out.o0, .int .i64 out.o1, .int .i64 out.o2, .string out.o3, .string out.o4, .int .i64 out.o5, .int .i64 out.o6, .int .i64 out.n, .int .i64 out.ep, .int .i64 out.by_, .slice A3 out.ch.length c3]] (by rfl) rfl rfl (by simp only [List.map_toArray, List.map_cons, List.map_nil]; rfl) ?_
 with_reducible refine (gleberef11_Same.calls 100 out.k out.o0 out.o1 out.o2 out.o3 out.o4 out.o5 out.o6 out.n out.ep out.by_ A2 c2 out.ch out.k out.o0 out.o1 out.o2 out.o3 out.o4 out.o5 out.o6 out.n out.ep out.by_ A3 c3 out.ch true _ (by first | exact HA2.out.c | exact HA2.out.drew.c) HC2.out (by first | exact HA3.out.c | exact HA3.out.drew.c) HC3.out (same_self out HCH.out)).mono ?_
 rintro e wx ⟨rfl, hbx⟩
 refine ⟨_, rfl, ?_⟩
 clear HA2 HA3 HC2 HC3
 replace HX := Aside0.mk (EW.below (by first | exact HX.out | exact HX.out.drew) hbx)
 clear hbx
 refine hK.out _ _ trivial (fun hHeld => ?_)
 clear hK K
 refine norm_ (a' := ?_) ?_ ?_
 rotate_left
 ·show Act.put _ (some 21) _ = _
  simp only [Act.put, List.setIfInBounds_toArray, List.set_cons_zero, List.set_cons_succ, i64_w, i32_w]
  rfl
 refine pure_ (i := 6) (N := some 22) (v := ?_) (a' := ?_) #[true, true, true, true, true, true, true, false, false, false, false, false, false, false, false, false, false, false, false, false, false, false, false, false] rfl rfl (any_of HT_.out (by kernel_rfl)) (fun _ _ _ h => h) (Or.inl ⟨by rfl, ?_⟩) ?_ ?_
 rotate_left
 ·intro w'
  go_simp
  with_reducible rfl
 rotate_left
 ·simp only [Act.put, List.setIfInBounds_toArray, List.set_cons_zero, List.set_cons_succ, i64_w, i32_w]
  rfl
 refine pure_ (i := 7) (N := some 23) (v := ?_) (a' := ?_) #[true, true, true, true, true, true, true, true, false, false, false, false, false, false, false, false, false, false, false, false, false, false, false, false] rfl rfl (any_of HT_.out (by kernel_rfl)) (fun _ _ _ h => h) (Or.inl ⟨by rfl, ?_⟩) ?_ ?_
 rotate_left
 ·intro w'
  go_simp
  with_reducible rfl
 rotate_left
 ·simp only [Act.put, List.setIfInBounds_toArray, List.set_cons_zero, List.set_cons_succ, i64_w, i32_w]
  rfl
 refine pure_ (i := 8) (N := some 24) (v := ?_) (a' := ?_) #[true, true, true, true, true, true, true, true, true, false, false, false, false, false, false, false, false, false, false, false, false, false, false, false] rfl rfl (any_of HT_.out (by kernel_rfl)) (fun _ _ _ h => h) (Or.inl ⟨by rfl, ?_⟩) ?_ ?_
 rotate_left
 ·intro w'
  go_simp
  with_reducible rfl
 rotate_left
 ·simp only [Act.put, List.setIfInBounds_toArray, List.set_cons_zero, List.set_cons_succ, i64_w, i32_w]
  rfl
 refine pure_ (i := 11) (N := some 27) (v := ?_) (a' := ?_) #[true, true, true, true, true, true, true, true, true, false, false, true, false, false, false, false, false, false, false, false, false, false, false, false] rfl rfl (any_of HT_.out (by kernel_rfl)) (fun _ _ _ h => h) (Or.inl ⟨by rfl, ?_⟩) ?_ ?_
 rotate_left
 ·intro w'
  go_simp
  with_reducible rfl
 rotate_left
 ·simp only [Act.put, List.setIfInBounds_toArray, List.set_cons_zero, List.set_cons_succ, i64_w, i32_w]
  rfl
 refine pure_ (i := 12) (N := some 28) (v := ?_) (a' := ?_) #[true, true, true, true, true, true, true, true, true, false, false, true, true, false, false, false, false, false, false, false, false, false, false, false] rfl rfl (any_of HT_.out (by kernel_rfl)) (fun _ _ _ h => h) (Or.inl ⟨by rfl, ?_⟩) ?_ ?_
 rotate_left
 ·intro w'
  go_simp
  with_reducible rfl
 rotate_left
 ·simp only [Act.put, List.setIfInBounds_toArray, List.set_cons_zero, List.set_cons_succ, i64_w, i32_w]
  rfl
 refine pure_ (i := 13) (N := some 29) (v := ?_) (a' := ?_) #[true, true, true, true, true, true, true, true, true, false, false, true, true, true, false, false, false, false, false, false, false, false, false, false] rfl rfl (any_of HT_.out (by kernel_rfl)) (fun _ _ _ h => h) (Or.inl ⟨by rfl, ?_⟩) ?_ ?_
 rotate_left
 ·intro w'
  go_simp
  with_reducible rfl
 rotate_left
 ·simp only [Act.put, List.setIfInBounds_toArray, List.set_cons_zero, List.set_cons_succ, i64_w, i32_w]
  rfl
 refine join_ (σ := Unit) 9 #[true, true, true, true, true, true, true, true, true, true, true, true, true, true, true, false, false, false, false, false, false, false, false, false] (fun _ => [(25, .int .i64 z), (26, .int .i64 z), (30, .int .i64 z)]) (fun (_ : Unit) (wj : World) => EW w wj g q AL l0 l2 z pz z) ?_ ?_
 rotate_left
 ·intro hCont
  refine two_ (i := 9) (j := 14) (Ni := some 25) (Nj := some 30) #[true, true, true, true, true, true, true, true, true, true, false, true, true, true, false, false, false, false, false, false, false, false, false, false] #[true, true, true, true, true, true, true, true, true, false, false, true, true, true, true, false, false, false, false, false, false, false, false, false] rfl rfl rfl rfl (two_of HT_.out (by kernel_rfl)) (by decide) (by decide) (fun K hK => ?_) (fun K hK => ?_)
  ·skip
   refine goes_ Try.func34 (by kernel_rfl) rfl #[.pointer (some ⟨g, 0, none⟩)] (by rfl) rfl rfl (by simp only [List.map_toArray, List.map_cons, List.map_nil]; rfl) ?_
   with_reducible refine (wire_Reader_Err.calls g l2 z true w _ (by first | exact HX.out.rd | exact HX.out.drew.rd)).mono ?_
   rintro e wx ⟨rfl, rfl⟩
   refine ⟨_, rfl, ?_⟩
   rw [if_pos (rfl : true = true)]
   refine hK.out _ _ trivial (fun hHeld => ?_)
   clear hK K
   refine norm_ (a' := ?_) ?_ ?_
   rotate_left
   ·show Act.put _ (some 25) _ = _
    simp only [Act.put, List.setIfInBounds_toArray, List.set_cons_zero, List.set_cons_succ, i64_w, i32_w]
    rfl
   refine two_ (i := 10) (j := 14) (Ni := some 26) (Nj := some 30) #[true, true, true, true, true, true, true, true, true, true, true, true, true, true, false, false, false, false, false, false, false, false, false, false] #[true, true, true, true, true, true, true, true, true, true, false, true, true, true, true, false, false, false, false, false, false, false, false, false] rfl rfl rfl rfl (two_of HT_.out (by kernel_rfl)) (by decide) (by decide) (fun K hK => ?_) (fun K hK => ?_)
   ·skip
    refine goes_ Try.func22 (by kernel_rfl) rfl #[.int .i64 z] (by rfl) rfl rfl (by simp only [List.map_toArray, List.map_cons, List.map_nil]; rfl) ?_
    with_reducible refine (glebelaw11_num.calls z z _ rfl).mono ?_
    rintro e wx ⟨rfl, hbx0⟩
    refine ⟨_, rfl, ?_⟩
    have hbx := drawn_below hbx0
    replace HX := Aside0.mk (EW.below (by first | exact HX.out | exact HX.out.drew) hbx)
    clear hbx
    clear hbx0
    have hE := rS_cell2 HX.out.rs
    refine hK.out _ _ trivial (fun hHeld => ?_)
    clear hK K
    refine norm_ (a' := ?_) ?_ ?_
    rotate_left
    ·show Act.put _ (some 26) _ = _
     simp only [Act.put, List.setIfInBounds_toArray, List.set_cons_zero, List.set_cons_succ, i64_w, i32_w]
     rfl
    refine one_ (i := 14) (N := some 30) #[true, true, true, true, true, true, true, true, true, true, true, true, true, true, true, false, false, false, false, false, false, false, false, false] rfl rfl (one_of HT_.out (by kernel_rfl)) (by decide) (fun K hK => ?_)
    have hE := rS_cell2 HX.out.rs
    refine value_ (w1 := ?_) (v := ?_) (by rfl) rfl ?_ ?_
    rotate_left 2
    ·go_simp
     constructor
     ·rfl
     ·rfl
    refine hK.out _ _ trivial (fun hHeld => ?_)
    clear hK K
    refine norm_ (a' := ?_) ?_ ?_
    rotate_left
    ·show Act.put _ (some 30) _ = _
     simp only [Act.put, List.setIfInBounds_toArray, List.set_cons_zero, List.set_cons_succ, i64_w, i32_w]
     rfl
    exact norm_ (by simp only [putAll, Act.put, List.setIfInBounds_toArray, List.set_cons_zero, List.set_cons_succ]) (hCont () _ HX.out)
   ·skip
    have hE := rS_cell2 HX.out.rs
    refine value_ (w1 := ?_) (v := ?_) (by rfl) rfl ?_ ?_
    rotate_left 2
    ·go_simp
     constructor
     ·rfl
     ·rfl
    refine hK.out _ _ trivial (fun hHeld => ?_)
    clear hK K
    refine norm_ (a' := ?_) ?_ ?_
    rotate_left
    ·show Act.put _ (some 30) _ = _
     simp only [Act.put, List.setIfInBounds_toArray, List.set_cons_zero, List.set_cons_succ, i64_w, i32_w]
     rfl
    refine one_ (i := 10) (N := some 26) #[true, true, true, true, true, true, true, true, true, true, true, true, true, true, true, false, false, false, false, false, false, false, false, false] rfl rfl (one_of HT_.out (by kernel_rfl)) (by decide) (fun K hK => ?_)
    refine goes_ Try.func22 (by kernel_rfl) rfl #[.int .i64 z] (by rfl) rfl rfl (by simp only [List.map_toArray, List.map_cons, List.map_nil]; rfl) ?_
    with_reducible refine (glebelaw11_num.calls z z _ rfl).mono ?_
    rintro e wx ⟨rfl, hbx0⟩
    refine ⟨_, rfl, ?_⟩
    have hbx := drawn_below hbx0
    replace HX := Aside0.mk (EW.below (by first | exact HX.out | exact HX.out.drew) hbx)
    clear hbx
    clear hbx0
    have hE := rS_cell2 HX.out.rs
    refine hK.out _ _ trivial (fun hHeld => ?_)
    clear hK K
    refine norm_ (a' := ?_) ?_ ?_
    rotate_left
    ·show Act.put _ (some 26) _ = _
     simp only [Act.put, List.setIfInBounds_toArray, List.set_cons_zero, List.set_cons_succ, i64_w, i32_w]
     rfl
    exact norm_ (by simp only [putAll, Act.put, List.setIfInBounds_toArray, List.set_cons_zero, List.set_cons_succ]) (hCont () _ HX.out)
  ·skip
   have hE := rS_cell2 HX.out.rs
   refine value_ (w1 := ?_) (v := ?_) (by rfl) rfl ?_ ?_
   rotate_left 2
   ·go_simp
    constructor
    ·rfl
    ·rfl
   refine hK.out _ _ trivial (fun hHeld => ?_)
   clear hK K
   refine norm_ (a' := ?_) ?_ ?_
   rotate_left
   ·show Act.put _ (some 30) _ = _
    simp only [Act.put, List.setIfInBounds_toArray, List.set_cons_zero, List.set_cons_succ, i64_w, i32_w]
    rfl
   refine one_ (i := 9) (N := some 25) #[true, true, true, true, true, true, true, true, true, true, false, true, true, true, true, false, false, false, false, false, false, false, false, false] rfl rfl (one_of HT_.out (by kernel_rfl)) (by decide) (fun K hK => ?_)
   refine goes_ Try.func34 (by kernel_rfl) rfl #[.pointer (some ⟨g, 0, none⟩)] (by rfl) rfl rfl (by simp only [List.map_toArray, List.map_cons, List.map_nil]; rfl) ?_
   with_reducible refine (wire_Reader_Err.calls g l2 z true w _ (by first | exact HX.out.rd | exact HX.out.drew.rd)).mono ?_
   rintro e wx ⟨rfl, rfl⟩
   refine ⟨_, rfl, ?_⟩
   rw [if_pos (rfl : true = true)]
   refine hK.out _ _ trivial (fun hHeld => ?_)
   clear hK K
   refine norm_ (a' := ?_) ?_ ?_
   rotate_left
   ·show Act.put _ (some 25) _ = _
    simp only [Act.put, List.setIfInBounds_toArray, List.set_cons_zero, List.set_cons_succ, i64_w, i32_w]
    rfl
   refine one_ (i := 10) (N := some 26) #[true, true, true, true, true, true, true, true, true, true, true, true, true, true, true, false, false, false, false, false, false, false, false, false] rfl rfl (one_of HT_.out (by kernel_rfl)) (by decide) (fun K hK => ?_)
   refine goes_ Try.func22 (by kernel_rfl) rfl #[.int .i64 z] (by rfl) rfl rfl (by simp only [List.map_toArray, List.map_cons, List.map_nil]; rfl) ?_
   with_reducible refine (glebelaw11_num.calls z z _ rfl).mono ?_
   rintro e wx ⟨rfl, hbx0⟩
   refine ⟨_, rfl, ?_⟩
   have hbx := drawn_below hbx0
   replace HX := Aside0.mk (EW.below (by first | exact HX.out | exact HX.out.drew) hbx)
   clear hbx
   clear hbx0
   have hE := rS_cell2 HX.out.rs
   refine hK.out _ _ trivial (fun hHeld => ?_)
   clear hK K
   refine norm_ (a' := ?_) ?_ ?_
   rotate_left
   ·show Act.put _ (some 26) _ = _
    simp only [Act.put, List.setIfInBounds_toArray, List.set_cons_zero, List.set_cons_succ, i64_w, i32_w]
    rfl
   exact norm_ (by simp only [putAll, Act.put, List.setIfInBounds_toArray, List.set_cons_zero, List.set_cons_succ]) (hCont () _ HX.out)
 rintro s_ wx hX_
 clear HX
 have HX := Aside0.mk hX_
 clear hX_ s_
 have hHeld : True := trivial
 refine norm_ (a' := ?_) ?_ ?_
 rotate_left
 ·simp only [putAll, Act.put, List.setIfInBounds_toArray, List.set_cons_zero, List.set_cons_succ]
  rfl
 refine pure_ (i := 15) (N := some 31) (v := ?_) (a' := ?_) #[true, true, true, true, true, true, true, true, true, true, true, true, true, true, true, true, false, false, false, false, false, false, false, false] rfl rfl (any_of HT_.out (by kernel_rfl)) (fun _ _ _ h => h) (Or.inl ⟨by rfl, ?_⟩) ?_ ?_
 rotate_left
 ·intro w'
  go_simp
  with_reducible rfl
 rotate_left
 ·simp only [Act.put, List.setIfInBounds_toArray, List.set_cons_zero, List.set_cons_succ, i64_w, i32_w]
  rfl
 refine pure_ (i := 16) (N := some 32) (v := ?_) (a' := ?_) #[true, true, true, true, true, true, true, true, true, true, true, true, true, true, true, true, true, false, false, false, false, false, false, false] rfl rfl (any_of HT_.out (by kernel_rfl)) (fun _ _ _ h => h) (Or.inl ⟨by rfl, ?_⟩) ?_ ?_
 rotate_left
 ·intro w'
  go_simp
  with_reducible rfl
 rotate_left
 ·simp only [Act.put, List.setIfInBounds_toArray, List.set_cons_zero, List.set_cons_succ, i64_w, i32_w]
  rfl
 refine pure_ (i := 17) (N := some 33) (v := ?_) (a' := ?_) #[true, true, true, true, true, true, true, true, true, true, true, true, true, true, true, true, true, true, false, false, false, false, false, false] rfl rfl (any_of HT_.out (by kernel_rfl)) (fun _ _ _ h => h) (Or.inl ⟨by rfl, ?_⟩) ?_ ?_
 rotate_left
 ·intro w'
  go_simp
  with_reducible rfl
 rotate_left
 ·simp only [Act.put, List.setIfInBounds_toArray, List.set_cons_zero, List.set_cons_succ, i64_w, i32_w]
  rfl
 refine pure_ (i := 18) (N := some 34) (v := ?_) (a' := ?_) #[true, true, true, true, true, true, true, true, true, true, true, true, true, true, true, true, true, true, true, false, false, false, false, false] rfl rfl (any_of HT_.out (by kernel_rfl)) (fun _ _ _ h => h) (Or.inl ⟨by rfl, ?_⟩) ?_ ?_
 rotate_left
 ·intro w'
  go_simp
  with_reducible rfl
 rotate_left
 ·simp only [Act.put, List.setIfInBounds_toArray, List.set_cons_zero, List.set_cons_succ, i64_w, i32_w]
  rfl
 refine pure_ (i := 20) (N := some 36) (v := ?_) (a' := ?_) #[true, true, true, true, true, true, true, true, true, true, true, true, true, true, true, true, true, true, true, false, true, false, false, false] rfl rfl (any_of HT_.out (by kernel_rfl)) (fun _ _ _ h => h) (Or.inl ⟨by rfl, ?_⟩) ?_ ?_
 rotate_left
 ·intro w'
  go_simp
  with_reducible rfl
 rotate_left
 ·simp only [Act.put, List.setIfInBounds_toArray, List.set_cons_zero, List.set_cons_succ, i64_w, i32_w]
  rfl
 refine one_ (i := 19) (N := some 35) #[true, true, true, true, true, true, true, true, true, true, true, true, true, true, true, true, true, true, true, true, true, false, false, false] rfl rfl (one_of HT_.out (by kernel_rfl)) (by decide) (fun K hK => ?_)
 refine goes_ Try.func35 (by kernel_rfl) rfl #[.pointer (some ⟨g, 0, none⟩)] (by rfl) rfl rfl (by simp only [List.map_toArray, List.map_cons, List.map_nil]; rfl) ?_
 with_reducible refine (wire_Reader_Left.calls g l2 z true w _ (by first | exact HX.out.rd | exact HX.out.drew.rd)).mono ?_
 rintro e wx ⟨rfl, rfl⟩
 refine ⟨_, rfl, ?_⟩
 rw [← HLX.out]
 refine hK.out _ _ trivial (fun hHeld => ?_)
 clear hK K
 refine norm_ (a' := ?_) ?_ ?_
 rotate_left
 ·show Act.put _ (some 35) _ = _
  simp only [Act.put, List.setIfInBounds_toArray, List.set_cons_zero, List.set_cons_succ, i64_w, i32_w]
  rfl
 refine one_ (i := 21) (N := some 37) #[true, true, true, true, true, true, true, true, true, true, true, true, true, true, true, true, true, true, true, true, true, true, false, false] rfl rfl (one_of HT_.out (by kernel_rfl)) (by decide) (fun K hK => ?_)
 refine goes_ Try.func36 (by kernel_rfl) rfl #[.pointer (some ⟨q, 0, none⟩)] (by rfl) rfl rfl (by simp only [List.map_toArray, List.map_cons, List.map_nil]; rfl) ?_
 with_reducible refine (gleberef01_Reader_Left.calls q l0 pz z lf pz z w _ (by first | exact HX.out.rs | exact HX.out.drew.rs) (by first | exact HX.out.b | exact HX.out.drew.b) HLF.out).mono ?_
 rintro e wx ⟨rfl, hq, hb, hk⟩
 refine ⟨_, rfl, ?_⟩
 replace HX := Aside0.mk (EW.keepq (by first | exact HX.out | exact HX.out.drew) hk hq hb)
 clear hq hb hk
 refine hK.out _ _ trivial (fun hHeld => ?_)
 clear hK K
 refine norm_ (a' := ?_) ?_ ?_
 rotate_left
 ·show Act.put _ (some 37) _ = _
  simp only [Act.put, List.setIfInBounds_toArray, List.set_cons_zero, List.set_cons_succ, i64_w, i32_w]
  rfl
 refine pure_ (i := 22) (N := some 38) (v := ?_) (a' := ?_) #[true, true, true, true, true, true, true, true, true, true, true, true, true, true, true, true, true, true, true, true, true, true, true, false] rfl rfl (any_of HT_.out (by kernel_rfl)) (fun _ _ _ h => h) (Or.inl ⟨by rfl, ?_⟩) ?_ ?_
 rotate_left
 ·intro w'
  go_simp
  with_reducible rfl
 rotate_left
 ·simp only [Act.put, List.setIfInBounds_toArray, List.set_cons_zero, List.set_cons_succ, i64_w, i32_w]
  rfl
 refine pure_ (i := 23) (N := some 39) (v := ?_) (a' := ?_) #[true, true, true, true, true, true, true, true, true, true, true, true, true, true, true, true, true, true, true, true, true, true, true, true] rfl rfl (any_of HT_.out (by kernel_rfl)) (fun _ _ _ h => h) (Or.inl ⟨by rfl, ?_⟩) ?_ ?_
 rotate_left
 ·intro w'
  go_simp
  with_reducible rfl
 rotate_left
 ·simp only [Act.put, List.setIfInBounds_toArray, List.set_cons_zero, List.set_cons_succ, i64_w, i32_w]
  rfl
 refine done_ (done_of HT_.out (by kernel_rfl)) ?_
 have HT := Aside0.mk HX.out.tb
 have HV := Aside0.mk HX.out.tv
 have HB := Aside0.mk HX.out.b
 clear HX HZ HEM HRR HOUT HCH HF HLF HLX
 go_wp2_with fail
 refine (wire_Open.calls AL cL l0 _ HV.out.c (by have := HCL.out; omega) (by have := HLE.out; omega)).mono ?_
 rintro e wo ⟨g, A2, c2, rfl, hg, hblk, hc2, hC2, hty, hb⟩
 have HI := Aside0.mk (show IsRdr w wo g l0 0 true from ⟨Nat.le_trans HB.out.size hg, A2, c2, hblk, hc2, hC2, hty⟩)
 replace HT := Aside0.mk (HT.out.below hb)
 replace HV := Aside0.mk (HV.out.below hb)
 replace HB := Aside0.mk (below_step HB.out hb)
 clear hg hblk hc2 hC2 hty hb
 go_wp2_with fail
 refine (gleberef01_Open.calls A0 c0 l0 l0 0 0 w _ HB.out H0.out hc0 rfl).mono ?_
 rintro e wq ⟨q, rfl, hq, hbw, hb⟩
 have HX := Aside0.mk (show EW w wq g q AL l0 l0 0 0 0 from ⟨HI.out.below hb, hq, HT.out.below hb, HV.out.below hb, hbw⟩)
 clear hq hbw hb HI HT HV HB
 have h00 : Agree l0 l0 0 0 := ⟨by omega, fun _ => rfl⟩
 obtain ⟨n, L, E, N, ok2, pa2, hup, hst, hn8, hck, hag, hf⟩ := chain_both (by have := HLE.out; omega) HBY.out h00
 have hf := hf 100 (by decide)
 have hf : gleberef11_TakeChain.f 100 l0 0 0 = _ := hf
 have hlf := ref_left (by have := HLE.out; omega) hag
 obtain ⟨z2, hz⟩ : ∃ z, z = tkE ok2 (E n) := ⟨_, rfl⟩
 rw [← hz] at hf hlf
 obtain ⟨ch, hch⟩ : ∃ x, x = (if z2 = 0 then firsts N n else []) := ⟨_, rfl⟩
 rw [← hch] at hf
 obtain ⟨lf2, hlx⟩ : ∃ x, x = (if rdOk z2 true then ((L n).length : Int) else 0) := ⟨_, rfl⟩
 rw [← hlx] at hlf
 have HC9 := Aside0.mk (show ch.length < 100 by
  rw [hch]
  split
  ·rw [firsts_len]; omega
  ·simp)
 have HZ := Aside0.mk hz
 have HUP := Aside0.mk hup
 have HST := Aside0.mk hst
 have HCK := Aside0.mk hck
 have HCHQ := Aside0.mk hch
 have HF := Aside0.mk hf
 have HLF := Aside0.mk hlf
 have HLX := Aside0.mk hlx
 have HN8 := Aside0.mk hn8
 obtain ⟨pz2, hpz⟩ : ∃ x : Int, x = (pa2 : Int) := ⟨_, rfl⟩
 rw [← hpz] at HF HLF
 clear hz hup hst hck hch hag hf hlf hlx hpz h00 hn8
 go_wp2_with fail
 refine start_ (n := 31) (S := fun w' => True) (ds := []) #[false, false, false, false, false, false, false, false, false, false, false, false, false, false, false, false, false, false, false, false, false, false, false, false, false, false, false, false, false, false, false] (by kernel_rfl) rfl rfl trivial (fun hHeld => ?_)
 refine with_tabW glebelaw11_EntryTakes.tab10 glebelaw11_EntryTakes.bits10 (fun HT_ HW_ => ?_)
 refine pure_ (i := 0) (N := some 44) (v := ?_) (a' := ?_) #[true, false, false, false, false, false, false, false, false, false, false, false, false, false, false, false, false, false, false, false, false, false, false, false, false, false, false, false, false, false, false] rfl rfl (any_of HT_.out (by kernel_rfl)) (fun _ _ _ h => h) (Or.inl ⟨by rfl, ?_⟩) ?_ ?_
 rotate_left
 ·intro w'
  go_simp
  with_reducible rfl
 rotate_left
 ·simp only [Act.put, List.setIfInBounds_toArray, List.set_cons_zero, List.set_cons_succ, i64_w, i32_w]
  rfl
 refine pure_ (i := 2) (N := some 46) (v := ?_) (a' := ?_) #[true, false, true, false, false, false, false, false, false, false, false, false, false, false, false, false, false, false, false, false, false, false, false, false, false, false, false, false, false, false, false] rfl rfl (any_of HT_.out (by kernel_rfl)) (fun _ _ _ h => h) (Or.inl ⟨by rfl, ?_⟩) ?_ ?_
 rotate_left
 ·intro w'
  go_simp
  with_reducible rfl
 rotate_left
 ·simp only [Act.put, List.setIfInBounds_toArray, List.set_cons_zero, List.set_cons_succ, i64_w, i32_w]
  rfl
 refine one_ (i := 1) (N := some 45) #[true, true, true, false, false, false, false, false, false, false, false, false, false, false, false, false, false, false, false, false, false, false, false, false, false, false, false, false, false, false, false] rfl rfl (one_of HT_.out (by kernel_rfl)) (by decide) (fun K hK => ?_)
 refine goes_ Try.func37 (by kernel_rfl) rfl #[.pointer (some ⟨g, 0, none⟩)] (by rfl) rfl rfl (by simp only [List.map_toArray, List.map_cons, List.map_nil]; rfl) ?_
 with_reducible refine (entry_TakeChain.calls 100 g l0 0 n L E N HUP.out HST.out HN8.out ok2 HCK.out w _ (by first | exact HX.out.rd | exact HX.out.drew.rd) (by first | exact HX.out.b | exact HX.out.drew.b)).mono ?_
 rintro e wx ⟨v1, rfl, hr1, hi, hbx, hk⟩
 refine ⟨_, rfl, ?_⟩
 rw [← HZ.out] at hi hr1
 rw [← HCHQ.out] at hr1
 replace HX := Aside0.mk (EW.keepg (by first | exact HX.out | exact HX.out.drew) hk hi hbx)
 obtain ⟨A1, c1, rfl⟩ := Kd.R_slice hr1
 have HA1 := Aside0.mk (TI.new hr1)
 have HC1 := Aside0.mk (Kd.R_reads' hr1).2.1
 clear hr1
 clear hi hbx hk
 refine hK.out _ _ trivial (fun hHeld => ?_)
 clear hK K
 refine norm_ (a' := ?_) ?_ ?_
 rotate_left
 ·show Act.put _ (some 45) _ = _
  simp only [Act.put, List.setIfInBounds_toArray, List.set_cons_zero, List.set_cons_succ, i64_w, i32_w]
  rfl
 refine one_ (i := 3) (N := some 47) #[true, true, true, true, false, false, false, false, false, false, false, false, false, false, false, false, false, false, false, false, false, false, false, false, false, false, false, false, false, false, false] rfl rfl (one_of HT_.out (by kernel_rfl)) (by decide) (fun K hK => ?_)
 refine goes_ Try.func38 (by kernel_rfl) rfl #[.pointer (some ⟨q, 0, none⟩)] (by rfl) rfl rfl (by simp only [List.map_toArray, List.map_cons, List.map_nil]; rfl) ?_
 with_reducible refine (gleberef11_TakeChain.calls 100 q l0 0 0 ch pz2 z2 w _ (by first | exact HX.out.rs | exact HX.out.drew.rs) (by first | exact HX.out.b | exact HX.out.drew.b) HF.out).mono ?_
 rintro e wx ⟨v3, rfl, hr3, hq, hb, hk⟩
 refine ⟨_, rfl, ?_⟩
 replace HA1 := Aside0.mk (EW.keepi (by first | exact HX.out | exact HX.out.drew) hk (by first | exact HA1.out | exact HA1.out.drew))
 replace HX := Aside0.mk (EW.keepq (by first | exact HX.out | exact HX.out.drew) hk hq hb)
 obtain ⟨A3, c3, rfl⟩ := Kd.R_slice hr3
 have HA3 := Aside0.mk (TI.new hr3)
 have HC3 := Aside0.mk (Kd.R_reads' hr3).2.1
 clear hr3
 clear hq hb hk
 refine hK.out _ _ trivial (fun hHeld => ?_)
 clear hK K
 refine norm_ (a' := ?_) ?_ ?_
 rotate_left
 ·show Act.put _ (some 47) _ = _
  simp only [Act.put, List.setIfInBounds_toArray, List.set_cons_zero, List.set_cons_succ, i64_w, i32_w]
  rfl
 refine one_ (i := 4) (N := some 48) #[true, true, true, true, true, false, false, false, false, false, false, false, false, false, false, false, false, false, false, false, false, false, false, false, false, false, false, false, false, false, false] rfl rfl (one_of HT_.out (by kernel_rfl)) (by decide) (fun K hK => ?_)
 refine goes_ Try.func14 (by kernel_rfl) rfl #[.slice A1 ch.length c1, .slice A3 ch.length c3] (by rfl) rfl rfl (by simp only [List.map_toArray, List.map_cons, List.map_nil]; rfl) ?_
 with_reducible refine (gleberef11_SameList.calls 100 A1 c1 ch A3 c3 ch true _ (by first | exact HA1.out.c | exact HA1.out.drew.c) HC1.out (by first | exact HA3.out.c | exact HA3.out.drew.c) HC3.out (samel_self HC9.out)).mono ?_
 rintro e wx ⟨rfl, hbx0⟩
 refine ⟨_, rfl, ?_⟩
 have hbx := drawn_below hbx0
 clear HA1 HA3 HC1 HC3 hbx0
 replace HX := Aside0.mk (EW.below (by first | exact HX.out | exact HX.out.drew) hbx)
 clear hbx
 refine hK.out _ _ trivial (fun hHeld => ?_)
 clear hK K
 refine norm_ (a' := ?_) ?_ ?_
 rotate_left
 ·show Act.put _ (some 48) _ = _
  simp only [Act.put, List.setIfInBounds_toArray, List.set_cons_zero, List.set_cons_succ, i64_w, i32_w]
  rfl
 refine pure_ (i := 5) (N := some 49) (v := ?_) (a' := ?_) #[true, true, true, true, true, true, false, false, false, false, false, false, false, false, false, false, false, false, false, false, false, false, false, false, false, false, false, false, false, false, false] rfl rfl (any_of HT_.out (by kernel_rfl)) (fun _ _ _ h => h) (Or.inl ⟨by rfl, ?_⟩) ?_ ?_
 rotate_left
 ·intro w'
  go_simp
  with_reducible rfl
 rotate_left
 ·simp only [Act.put, List.setIfInBounds_toArray, List.set_cons_zero, List.set_cons_succ, i64_w, i32_w]
  rfl
 refine pure_ (i := 6) (N := some 50) (v := ?_) (a' := ?_) #[true, true, true, true, true, true, true, false, false, false, false, false, false, false, false, false, false, false, false, false, false, false, false, false, false, false, false, false, false, false, false] rfl rfl (any_of HT_.out (by kernel_rfl)) (fun _ _ _ h => h) (Or.inl ⟨by rfl, ?_⟩) ?_ ?_
 rotate_left
 ·intro w'
  go_simp
  with_reducible rfl
 rotate_left
 ·simp only [Act.put, List.setIfInBounds_toArray, List.set_cons_zero, List.set_cons_succ, i64_w, i32_w]
  rfl
 refine pure_ (i := 9) (N := some 53) (v := ?_) (a' := ?_) #[true, true, true, true, true, true, true, false, false, true, false, false, false, false, false, false, false, false, false, false, false, false, false, false, false, false, false, false, false, false, false] rfl rfl (any_of HT_.out (by kernel_rfl)) (fun _ _ _ h => h) (Or.inl ⟨by rfl, ?_⟩) ?_ ?_
 rotate_left
 ·intro w'
  go_simp
  with_reducible rfl
 rotate_left
 ·simp only [Act.put, List.setIfInBounds_toArray, List.set_cons_zero, List.set_cons_succ, i64_w, i32_w]
  rfl
 refine pure_ (i := 10) (N := some 54) (v := ?_) (a' := ?_) #[true, true, true, true, true, true, true, false, false, true, true, false, false, false, false, false, false, false, false, false, false, false, false, false, false, false, false, false, false, false, false] rfl rfl (any_of HT_.out (by kernel_rfl)) (fun _ _ _ h => h) (Or.inl ⟨by rfl, ?_⟩) ?_ ?_
 rotate_left
 ·intro w'
  go_simp
  with_reducible rfl
 rotate_left
 ·simp only [Act.put, List.setIfInBounds_toArray, List.set_cons_zero, List.set_cons_succ, i64_w, i32_w]
  rfl
 refine pure_ (i := 11) (N := some 55) (v := ?_) (a' := ?_) #[true, true, true, true, true, true, true, false, false, true, true, true, false, false, false, false, false, false, false, false, false, false, false, false, false, false, false, false, false, false, false] rfl rfl (any_of HT_.out (by kernel_rfl)) (fun _ _ _ h => h) (Or.inl ⟨by rfl, ?_⟩) ?_ ?_
 rotate_left
 ·intro w'
  go_simp
  with_reducible rfl
 rotate_left
 ·simp only [Act.put, List.setIfInBounds_toArray, List.set_cons_zero, List.set_cons_succ, i64_w, i32_w]
  rfl
 refine join_ (σ := Unit) 18 #[true, true, true, true, true, true, true, true, true, true, true, true, true, false, false, false, false, false, false, false, false, false, false, false, false, false, false, false, false, false, false] (fun _ => [(51, .int .i64 z2), (52, .int .i64 z2), (56, .int .i64 z2)]) (fun (_ : Unit) (wj : World) => EW w wj g q AL l0 (L n) z2 pz2 z2) ?_ ?_
 rotate_left
 ·intro hCont
  refine two_ (i := 7) (j := 12) (Ni := some 51) (Nj := some 56) #[true, true, true, true, true, true, true, true, false, true, true, true, false, false, false, false, false, false, false, false, false, false, false, false, false, false, false, false, false, false, false] #[true, true, true, true, true, true, true, false, false, true, true, true, true, false, false, false, false, false, false, false, false, false, false, false, false, false, false, false, false, false, false] rfl rfl rfl rfl (two_of HT_.out (by kernel_rfl)) (by decide) (by decide) (fun K hK => ?_) (fun K hK => ?_)
  ·skip
   refine goes_ Try.func34 (by kernel_rfl) rfl #[.pointer (some ⟨g, 0, none⟩)] (by rfl) rfl rfl (by simp only [List.map_toArray, List.map_cons, List.map_nil]; rfl) ?_
   with_reducible refine (wire_Reader_Err.calls g (L n) z2 true w _ (by first | exact HX.out.rd | exact HX.out.drew.rd)).mono ?_
   rintro e wx ⟨rfl, rfl⟩
   refine ⟨_, rfl, ?_⟩
   rw [if_pos (rfl : true = true)]
   refine hK.out _ _ trivial (fun hHeld => ?_)
   clear hK K
   refine norm_ (a' := ?_) ?_ ?_
   rotate_left
   ·show Act.put _ (some 51) _ = _
    simp only [Act.put, List.setIfInBounds_toArray, List.set_cons_zero, List.set_cons_succ, i64_w, i32_w]
    rfl
   refine two_ (i := 8) (j := 12) (Ni := some 52) (Nj := some 56) #[true, true, true, true, true, true, true, true, true, true, true, true, false, false, false, false, false, false, false, false, false, false, false, false, false, false, false, false, false, false, false] #[true, true, true, true, true, true, true, true, false, true, true, true, true, false, false, false, false, false, false, false, false, false, false, false, false, false, false, false, false, false, false] rfl rfl rfl rfl (two_of HT_.out (by kernel_rfl)) (by decide) (by decide) (fun K hK => ?_) (fun K hK => ?_)
   ·skip
    refine goes_ Try.func22 (by kernel_rfl) rfl #[.int .i64 z2] (by rfl) rfl rfl (by simp only [List.map_toArray, List.map_cons, List.map_nil]; rfl) ?_
    with_reducible refine (glebelaw11_num.calls z2 z2 _ rfl).mono ?_
    rintro e wx ⟨rfl, hbx0⟩
    refine ⟨_, rfl, ?_⟩
    have hbx := drawn_below hbx0
    replace HX := Aside0.mk (EW.below (by first | exact HX.out | exact HX.out.drew) hbx)
    clear hbx
    clear hbx0
    have hE := rS_cell2 HX.out.rs
    refine hK.out _ _ trivial (fun hHeld => ?_)
    clear hK K
    refine norm_ (a' := ?_) ?_ ?_
    rotate_left
    ·show Act.put _ (some 52) _ = _
     simp only [Act.put, List.setIfInBounds_toArray, List.set_cons_zero, List.set_cons_succ, i64_w, i32_w]
     rfl
    refine one_ (i := 12) (N := some 56) #[true, true, true, true, true, true, true, true, true, true, true, true, true, false, false, false, false, false, false, false, false, false, false, false, false, false, false, false, false, false, false] rfl rfl (one_of HT_.out (by kernel_rfl)) (by decide) (fun K hK => ?_)
    have hE := rS_cell2 HX.out.rs
    refine value_ (w1 := ?_) (v := ?_) (by rfl) rfl ?_ ?_
    rotate_left 2
    ·go_simp
     constructor
     ·rfl
     ·rfl
    refine hK.out _ _ trivial (fun hHeld => ?_)
    clear hK K
    refine norm_ (a' := ?_) ?_ ?_
    rotate_left
    ·show Act.put _ (some 56) _ = _
     simp only [Act.put, List.setIfInBounds_toArray, List.set_cons_zero, List.set_cons_succ, i64_w, i32_w]
     rfl
    exact norm_ (by simp only [putAll, Act.put, List.setIfInBounds_toArray, List.set_cons_zero, List.set_cons_succ]) (hCont () _ HX.out)
   ·skip
    have hE := rS_cell2 HX.out.rs
    refine value_ (w1 := ?_) (v := ?_) (by rfl) rfl ?_ ?_
    rotate_left 2
    ·go_simp
     constructor
     ·rfl
     ·rfl
    refine hK.out _ _ trivial (fun hHeld => ?_)
    clear hK K
    refine norm_ (a' := ?_) ?_ ?_
    rotate_left
    ·show Act.put _ (some 56) _ = _
     simp only [Act.put, List.setIfInBounds_toArray, List.set_cons_zero, List.set_cons_succ, i64_w, i32_w]
     rfl
    refine one_ (i := 8) (N := some 52) #[true, true, true, true, true, true, true, true, true, true, true, true, true, false, false, false, false, false, false, false, false, false, false, false, false, false, false, false, false, false, false] rfl rfl (one_of HT_.out (by kernel_rfl)) (by decide) (fun K hK => ?_)
    refine goes_ Try.func22 (by kernel_rfl) rfl #[.int .i64 z2] (by rfl) rfl rfl (by simp only [List.map_toArray, List.map_cons, List.map_nil]; rfl) ?_
    with_reducible refine (glebelaw11_num.calls z2 z2 _ rfl).mono ?_
    rintro e wx ⟨rfl, hbx0⟩
    refine ⟨_, rfl, ?_⟩
    have hbx := drawn_below hbx0
    replace HX := Aside0.mk (EW.below (by first | exact HX.out | exact HX.out.drew) hbx)
    clear hbx
    clear hbx0
    have hE := rS_cell2 HX.out.rs
    refine hK.out _ _ trivial (fun hHeld => ?_)
    clear hK K
    refine norm_ (a' := ?_) ?_ ?_
    rotate_left
    ·show Act.put _ (some 52) _ = _
     simp only [Act.put, List.setIfInBounds_toArray, List.set_cons_zero, List.set_cons_succ, i64_w, i32_w]
     rfl
    exact norm_ (by simp only [putAll, Act.put, List.setIfInBounds_toArray, List.set_cons_zero, List.set_cons_succ]) (hCont () _ HX.out)
  ·skip
   have hE := rS_cell2 HX.out.rs
   refine value_ (w1 := ?_) (v := ?_) (by rfl) rfl ?_ ?_
   rotate_left 2
   ·go_simp
    constructor
    ·rfl
    ·rfl
   refine hK.out _ _ trivial (fun hHeld => ?_)
   clear hK K
   refine norm_ (a' := ?_) ?_ ?_
   rotate_left
   ·show Act.put _ (some 56) _ = _
    simp only [Act.put, List.setIfInBounds_toArray, List.set_cons_zero, List.set_cons_succ, i64_w, i32_w]
    rfl
   refine one_ (i := 7) (N := some 51) #[true, true, true, true, true, true, true, true, false, true, true, true, true, false, false, false, false, false, false, false, false, false, false, false, false, false, false, false, false, false, false] rfl rfl (one_of HT_.out (by kernel_rfl)) (by decide) (fun K hK => ?_)
   refine goes_ Try.func34 (by kernel_rfl) rfl #[.pointer (some ⟨g, 0, none⟩)] (by rfl) rfl rfl (by simp only [List.map_toArray, List.map_cons, List.map_nil]; rfl) ?_
   with_reducible refine (wire_Reader_Err.calls g (L n) z2 true w _ (by first | exact HX.out.rd | exact HX.out.drew.rd)).mono ?_
   rintro e wx ⟨rfl, rfl⟩
   refine ⟨_, rfl, ?_⟩
   rw [if_pos (rfl : true = true)]
   refine hK.out _ _ trivial (fun hHeld => ?_)
   clear hK K
   refine norm_ (a' := ?_) ?_ ?_
   rotate_left
   ·show Act.put _ (some 51) _ = _
    simp only [Act.put, List.setIfInBounds_toArray, List.set_cons_zero, List.set_cons_succ, i64_w, i32_w]
    rfl
   refine one_ (i := 8) (N := some 52) #[true, true, true, true, true, true, true, true, true, true, true, true, true, false, false, false, false, false, false, false, false, false, false, false, false, false, false, false, false, false, false] rfl rfl (one_of HT_.out (by kernel_rfl)) (by decide) (fun K hK => ?_)
   refine goes_ Try.func22 (by kernel_rfl) rfl #[.int .i64 z2] (by rfl) rfl rfl (by simp only [List.map_toArray, List.map_cons, List.map_nil]; rfl) ?_
   with_reducible refine (glebelaw11_num.calls z2 z2 _ rfl).mono ?_
   rintro e wx ⟨rfl, hbx0⟩
   refine ⟨_, rfl, ?_⟩
   have hbx := drawn_below hbx0
   replace HX := Aside0.mk (EW.below (by first | exact HX.out | exact HX.out.drew) hbx)
   clear hbx
   clear hbx0
   have hE := rS_cell2 HX.out.rs
   refine hK.out _ _ trivial (fun hHeld => ?_)
   clear hK K
   refine norm_ (a' := ?_) ?_ ?_
   rotate_left
   ·show Act.put _ (some 52) _ = _
    simp only [Act.put, List.setIfInBounds_toArray, List.set_cons_zero, List.set_cons_succ, i64_w, i32_w]
    rfl
   exact norm_ (by simp only [putAll, Act.put, List.setIfInBounds_toArray, List.set_cons_zero, List.set_cons_succ]) (hCont () _ HX.out)
 rintro s_ wx hX_
 clear HX
 have HX := Aside0.mk hX_
 clear hX_ s_
 have hHeld : True := trivial
 refine norm_ (a' := ?_) ?_ ?_
 rotate_left
 ·simp only [putAll, Act.put, List.setIfInBounds_toArray, List.set_cons_zero, List.set_cons_succ]
  rfl
 refine pure_ (i := 13) (N := some 57) (v := ?_) (a' := ?_) #[true, true, true, true, true, true, true, true, true, true, true, true, true, true, false, false, false, false, false, false, false, false, false, false, false, false, false, false, false, false, false] rfl rfl (any_of HT_.out (by kernel_rfl)) (fun _ _ _ h => h) (Or.inl ⟨by rfl, ?_⟩) ?_ ?_
 rotate_left
 ·intro w'
  go_simp
  with_reducible rfl
 rotate_left
 ·simp only [Act.put, List.setIfInBounds_toArray, List.set_cons_zero, List.set_cons_succ, i64_w, i32_w]
  rfl
 refine pure_ (i := 14) (N := some 58) (v := ?_) (a' := ?_) #[true, true, true, true, true, true, true, true, true, true, true, true, true, true, true, false, false, false, false, false, false, false, false, false, false, false, false, false, false, false, false] rfl rfl (any_of HT_.out (by kernel_rfl)) (fun _ _ _ h => h) (Or.inl ⟨by rfl, ?_⟩) ?_ ?_
 rotate_left
 ·intro w'
  go_simp
  with_reducible rfl
 rotate_left
 ·simp only [Act.put, List.setIfInBounds_toArray, List.set_cons_zero, List.set_cons_succ, i64_w, i32_w]
  rfl
 refine pure_ (i := 15) (N := some 59) (v := ?_) (a' := ?_) #[true, true, true, true, true, true, true, true, true, true, true, true, true, true, true, true, false, false, false, false, false, false, false, false, false, false, false, false, false, false, false] rfl rfl (any_of HT_.out (by kernel_rfl)) (fun _ _ _ h => h) (Or.inl ⟨by rfl, ?_⟩) ?_ ?_
 rotate_left
 ·intro w'
  go_simp
  with_reducible rfl
 rotate_left
 ·simp only [Act.put, List.setIfInBounds_toArray, List.set_cons_zero, List.set_cons_succ, i64_w, i32_w]
  rfl
 refine pure_ (i := 16) (N := some 60) (v := ?_) (a' := ?_) #[true, true, true, true, true, true, true, true, true, true, true, true, true, true, true, true, true, false, false, false, false, false, false, false, false, false, false, false, false, false, false] rfl rfl (any_of HT_.out (by kernel_rfl)) (fun _ _ _ h => h) (Or.inl ⟨by rfl, ?_⟩) ?_ ?_
 rotate_left
 ·intro w'
  go_simp
  with_reducible rfl
 rotate_left
 ·simp only [Act.put, List.setIfInBounds_toArray, List.set_cons_zero, List.set_cons_succ, i64_w, i32_w]
  rfl
 refine pure_ (i := 18) (N := some 62) (v := ?_) (a' := ?_) #[true, true, true, true, true, true, true, true, true, true, true, true, true, true, true, true, true, false, true, false, false, false, false, false, false, false, false, false, false, false, false] rfl rfl (any_of HT_.out (by kernel_rfl)) (fun _ _ _ h => h) (Or.inl ⟨by rfl, ?_⟩) ?_ ?_
 rotate_left
 ·intro w'
  go_simp
  with_reducible rfl
 rotate_left
 ·simp only [Act.put, List.setIfInBounds_toArray, List.set_cons_zero, List.set_cons_succ, i64_w, i32_w]
  rfl
 refine one_ (i := 17) (N := some 61) #[true, true, true, true, true, true, true, true, true, true, true, true, true, true, true, true, true, true, true, false, false, false, false, false, false, false, false, false, false, false, false] rfl rfl (one_of HT_.out (by kernel_rfl)) (by decide) (fun K hK => ?_)
 refine goes_ Try.func35 (by kernel_rfl) rfl #[.pointer (some ⟨g, 0, none⟩)] (by rfl) rfl rfl (by simp only [List.map_toArray, List.map_cons, List.map_nil]; rfl) ?_
 with_reducible refine (wire_Reader_Left.calls g (L n) z2 true w _ (by first | exact HX.out.rd | exact HX.out.drew.rd)).mono ?_
 rintro e wx ⟨rfl, rfl⟩
 refine ⟨_, rfl, ?_⟩
 rw [← HLX.out]
 refine hK.out _ _ trivial (fun hHeld => ?_)
 clear hK K
 refine norm_ (a' := ?_) ?_ ?_
 rotate_left
 ·show Act.put _ (some 61) _ = _
  simp only [Act.put, List.setIfInBounds_toArray, List.set_cons_zero, List.set_cons_succ, i64_w, i32_w]
  rfl
 refine one_ (i := 19) (N := some 63) #[true, true, true, true, true, true, true, true, true, true, true, true, true, true, true, true, true, true, true, true, false, false, false, false, false, false, false, false, false, false, false] rfl rfl (one_of HT_.out (by kernel_rfl)) (by decide) (fun K hK => ?_)
 refine goes_ Try.func36 (by kernel_rfl) rfl #[.pointer (some ⟨q, 0, none⟩)] (by rfl) rfl rfl (by simp only [List.map_toArray, List.map_cons, List.map_nil]; rfl) ?_
 with_reducible refine (gleberef01_Reader_Left.calls q l0 pz2 z2 lf2 pz2 z2 w _ (by first | exact HX.out.rs | exact HX.out.drew.rs) (by first | exact HX.out.b | exact HX.out.drew.b) HLF.out).mono ?_
 rintro e wx ⟨rfl, hq, hb, hk⟩
 refine ⟨_, rfl, ?_⟩
 replace HX := Aside0.mk (EW.keepq (by first | exact HX.out | exact HX.out.drew) hk hq hb)
 clear hq hb hk
 refine hK.out _ _ trivial (fun hHeld => ?_)
 clear hK K
 refine norm_ (a' := ?_) ?_ ?_
 rotate_left
 ·show Act.put _ (some 63) _ = _
  simp only [Act.put, List.setIfInBounds_toArray, List.set_cons_zero, List.set_cons_succ, i64_w, i32_w]
  rfl
 refine pure_ (i := 20) (N := some 64) (v := ?_) (a' := ?_) #[true, true, true, true, true, true, true, true, true, true, true, true, true, true, true, true, true, true, true, true, true, false, false, false, false, false, false, false, false, false, false] rfl rfl (any_of HT_.out (by kernel_rfl)) (fun _ _ _ h => h) (Or.inl ⟨by rfl, ?_⟩) ?_ ?_
 rotate_left
 ·intro w'
  go_simp
  with_reducible rfl
 rotate_left
 ·simp only [Act.put, List.setIfInBounds_toArray, List.set_cons_zero, List.set_cons_succ, i64_w, i32_w]
  rfl
 refine pure_ (i := 21) (N := some 65) (v := ?_) (a' := ?_) #[true, true, true, true, true, true, true, true, true, true, true, true, true, true, true, true, true, true, true, true, true, true, false, false, false, false, false, false, false, false, false] rfl rfl (any_of HT_.out (by kernel_rfl)) (fun _ _ _ h => h) (Or.inl ⟨by rfl, ?_⟩) ?_ ?_
 rotate_left
 ·intro w'
  go_simp
  with_reducible rfl
 rotate_left
 ·simp only [Act.put, List.setIfInBounds_toArray, List.set_cons_zero, List.set_cons_succ, i64_w, i32_w]
  rfl
 refine pure_ (i := 22) (N := some 66) (v := ?_) (a' := ?_) #[true, true, true, true, true, true, true, true, true, true, true, true, true, true, true, true, true, true, true, true, true, true, true, false, false, false, false, false, false, false, false] rfl rfl (any_of HT_.out (by kernel_rfl)) (fun _ _ _ h => h) (Or.inl ⟨by rfl, ?_⟩) ?_ ?_
 rotate_left
 ·intro w'
  go_simp
  with_reducible rfl
 rotate_left
 ·simp only [Act.put, List.setIfInBounds_toArray, List.set_cons_zero, List.set_cons_succ, i64_w, i32_w]
  rfl
 refine pure_ (i := 23) (N := some 67) (v := ?_) (a' := ?_) #[true, true, true, true, true, true, true, true, true, true, true, true, true, true, true, true, true, true, true, true, true, true, true, true, false, false, false, false, false, false, false] rfl rfl (any_of HT_.out (by kernel_rfl)) (fun _ _ _ h => h) (Or.inl ⟨by rfl, ?_⟩) ?_ ?_
 rotate_left
 ·intro w'
  go_simp
  with_reducible rfl
 rotate_left
 ·simp only [Act.put, List.setIfInBounds_toArray, List.set_cons_zero, List.set_cons_succ, i64_w, i32_w]
  rfl
 refine pure_ (i := 24) (N := some 68) (v := ?_) (a' := ?_) #[true, true, true, true, true, true, true, true, true, true, true, true, true, true, true, true, true, true, true, true, true, true, true, true, true, false, false, false, false, false, false] rfl rfl (any_of HT_.out (by kernel_rfl)) (fun _ _ _ h => h) (Or.inl ⟨by rfl, ?_⟩) ?_ ?_
 rotate_left
 ·intro w'
  go_simp
  with_reducible rfl
 rotate_left
 ·simp only [Act.put, List.setIfInBounds_toArray, List.set_cons_zero, List.set_cons_succ, i64_w, i32_w]
  rfl
 refine one_ (i := 25) (N := some 69) #[true, true, true, true, true, true, true, true, true, true, true, true, true, true, true, true, true, true, true, true, true, true, true, true, true, true, false, false, false, false, false] rfl rfl (one_of HT_.out (by kernel_rfl)) (by decide) (fun K hK => ?_)
 refine goes_ Try.func39 (by kernel_rfl) rfl #[.slice AL l0.length cL, .slice A0 l0.length c0] (by rfl) rfl rfl (by simp only [List.map_toArray, List.map_cons, List.map_nil]; rfl) ?_
 with_reducible refine (glebelaw01_Stays.calls AL cL l0 A0 c0 l0 true _ (by first | exact HX.out.tb.c | exact HX.out.drew.tb.c) HCL.out (Kd.C_below H0.out (by first | exact HX.out.b | exact HX.out.drew.b)) hc0 (by unfold glebelaw01_Stays.f; rw [if_pos rfl])).mono ?_
 rintro e wx ⟨rfl, hbx0⟩
 refine ⟨_, rfl, ?_⟩
 have hbx := drawn_below hbx0
 clear hbx0
 replace HX := Aside0.mk (EW.below (by first | exact HX.out | exact HX.out.drew) hbx)
 clear hbx
 refine hK.out _ _ trivial (fun hHeld => ?_)
 clear hK K
 refine norm_ (a' := ?_) ?_ ?_
 rotate_left
 ·show Act.put _ (some 69) _ = _
  simp only [Act.put, List.setIfInBounds_toArray, List.set_cons_zero, List.set_cons_succ, i64_w, i32_w]
  rfl
 refine pure_ (i := 26) (N := some 70) (v := ?_) (a' := ?_) #[true, true, true, true, true, true, true, true, true, true, true, true, true, true, true, true, true, true, true, true, true, true, true, true, true, true, true, false, false, false, false] rfl rfl (any_of HT_.out (by kernel_rfl)) (fun _ _ _ h => h) (Or.inl ⟨by rfl, ?_⟩) ?_ ?_
 rotate_left
 ·intro w'
  go_simp
  with_reducible rfl
 rotate_left
 ·simp only [Act.put, List.setIfInBounds_toArray, List.set_cons_zero, List.set_cons_succ, i64_w, i32_w]
  rfl
 refine pure_ (i := 27) (N := some 71) (v := ?_) (a' := ?_) #[true, true, true, true, true, true, true, true, true, true, true, true, true, true, true, true, true, true, true, true, true, true, true, true, true, true, true, true, false, false, false] rfl rfl (any_of HT_.out (by kernel_rfl)) (fun _ _ _ h => h) (Or.inl ⟨by rfl, ?_⟩) ?_ ?_
 rotate_left
 ·intro w'
  go_simp
  with_reducible rfl
 rotate_left
 ·simp only [Act.put, List.setIfInBounds_toArray, List.set_cons_zero, List.set_cons_succ, i64_w, i32_w]
  rfl
 refine one_ (i := 28) (N := some 72) #[true, true, true, true, true, true, true, true, true, true, true, true, true, true, true, true, true, true, true, true, true, true, true, true, true, true, true, true, true, false, false] rfl rfl (one_of HT_.out (by kernel_rfl)) (by decide) (fun K hK => ?_)
 refine goes_ Try.func8 (by kernel_rfl) rfl #[] (by rfl) rfl rfl (by simp only [List.map_toArray, List.map_cons, List.map_nil]) ?_
 with_reducible refine (glebelaw11_knows.calls true _ rfl).mono ?_
 rintro e wx ⟨rfl, hbx⟩
 refine ⟨_, rfl, ?_⟩
 replace HX := Aside0.mk (EW.below (by first | exact HX.out | exact HX.out.drew) hbx)
 clear hbx
 refine hK.out _ _ trivial (fun hHeld => ?_)
 clear hK K
 refine norm_ (a' := ?_) ?_ ?_
 rotate_left
 ·show Act.put _ (some 72) _ = _
  simp only [Act.put, List.setIfInBounds_toArray, List.set_cons_zero, List.set_cons_succ, i64_w, i32_w]
  rfl
 refine pure_ (i := 29) (N := some 73) (v := ?_) (a' := ?_) #[true, true, true, true, true, true, true, true, true, true, true, true, true, true, true, true, true, true, true, true, true, true, true, true, true, true, true, true, true, true, false] rfl rfl (any_of HT_.out (by kernel_rfl)) (fun _ _ _ h => h) (Or.inl ⟨by rfl, ?_⟩) ?_ ?_
 rotate_left
 ·intro w'
  go_simp
  with_reducible rfl
 rotate_left
 ·simp only [Act.put, List.setIfInBounds_toArray, List.set_cons_zero, List.set_cons_succ, i64_w, i32_w]
  rfl
 refine pure_ (i := 30) (N := some 2) (v := ?_) (a' := ?_) #[true, true, true, true, true, true, true, true, true, true, true, true, true, true, true, true, true, true, true, true, true, true, true, true, true, true, true, true, true, true, true] rfl rfl (any_of HT_.out (by kernel_rfl)) (fun _ _ _ h => h) (Or.inl ⟨by rfl, ?_⟩) ?_ ?_
 rotate_left
 ·intro w'
  go_simp
  with_reducible rfl
 rotate_left
 ·simp only [Act.put, List.setIfInBounds_toArray, List.set_cons_zero, List.set_cons_succ, i64_w, i32_w]
  rfl
 refine done_ (done_of HT_.out (by kernel_rfl)) ?_
 go_wp2
 go_ret
 exact ⟨rfl, HX.out.b⟩

end Go.Proofs.Ytampppdjfbabiaa.PE
