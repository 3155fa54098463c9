-- Written by a program of this session (wip/tools/hp.py) over the kit's print; nothing here is trusted: Lean checks it.
import Derived.Test.YtampppdjfbabiaaPEx0
import Derived.Test.YtampppdjfbabiaaPEx2
import Derived.Test.YtampppdjfbabiaaPEx5
import Derived.Test.YtampppdjfbabiaaPEx4
namespace Go.Proofs.Ytampppdjfbabiaa.PE
open Go.RowKit Go.Proofs.YtampppdjfbabiaaW.PrintWords Go.Proofs.YtampppdjfbabiaaW.PrintLast Go.Proofs.YtampppdjfbabiaaW.PrintMore
attribute [local go_sem] max2_int min2_int max_two min_two max_three min_three max_four min_four   -- for this text's walks alone
set_option linter.unusedVariables false
set_option linter.unusedSimpArgs false

/-! ### gleberef11_Take: function 33 -/
mutual
def gleberef11_Take.j2 : Nat → List Int → Int → Int → Int → Int → Int → Int → ByteArray → ByteArray → Int → Int → Int → Int → Int → List Int → Option (Int × Int × Int × Int × ByteArray × ByteArray × Int × Int × Int × Int × Int × List Int × Int × Int)
 | 0, _, _, _, _, _, _, _, _, _, _, _, _, _, _, _ => none
 | k + 1, x1000, x1001, x1002, x323000, x323001, x323002, x323003, x323004, x323005, x323006, x323007, x323008, x323009, x323010, x323011 => (gleberef11_Right.f k x323000 x323001 x323002 x323003 x323004 x323005 x323006 x323007 x323008 x323009 x323010 x323011).bind fun t349 => (if t349 = true then (if x1002 = 0 then (some (x323000, x323001, x323002, x323003, x323004, x323005, x323006, x323007, x323008, x323009, x323010, x323011, x1001, x1002)) else (some (0, 0, 0, 0, (⟨#[]⟩ : ByteArray), (⟨#[]⟩ : ByteArray), 0, 0, 0, 0, 0, ([] : List Int), x1001, x1002))) else ((gleberef01_Reader_Fail.f x1000 x1001 x1002 21).bind fun bt350 => (if bt350.2 = 0 then (some (x323000, x323001, x323002, x323003, x323004, x323005, x323006, x323007, x323008, x323009, x323010, x323011, bt350.1, bt350.2)) else (some (0, 0, 0, 0, (⟨#[]⟩ : ByteArray), (⟨#[]⟩ : ByteArray), 0, 0, 0, 0, 0, ([] : List Int), bt350.1, bt350.2)))))
def gleberef11_Take.j0 : Nat → Int → Bool → List Int → Int → Int → Int → Int → Int → Int → ByteArray → ByteArray → Int → Int → Int → Int → Int → Option (Int × Int × Int × Int × ByteArray × ByteArray × Int × Int × Int × Int × Int × List Int × Int × Int)
 | 0, _, _, _, _, _, _, _, _, _, _, _, _, _, _, _, _ => none
 | k + 1, x8, x14, x1000, x1001, x1002, x323000, x323001, x323002, x323003, x323004, x323005, x323006, x323007, x323008, x323009, x323010 => if x14 = true then ((gleberef01_Reader_Num.f k x1000 x1001 x1002).bind fun bt332 => (gleberef11_Take.j2 k x1000 bt332.2.1 bt332.2.2 x323000 x323001 x323002 x323003 x323004 x323005 x323006 x323007 bt332.1 x323009 x323010 ([] : List Int))) else (if x8 = 4 then (gleberef11_Take.j1 k (x8 == 4) x1000 x1001 x1002 x323000 x323001 x323002 x323003 x323004 x323005 x323006 x323007 x323008 x323009 x323010) else (gleberef11_Take.j1 k (x8 == 5) x1000 x1001 x1002 x323000 x323001 x323002 x323003 x323004 x323005 x323006 x323007 x323008 x323009 x323010))
def gleberef11_Take.j1 : Nat → Bool → List Int → Int → Int → Int → Int → Int → Int → ByteArray → ByteArray → Int → Int → Int → Int → Int → Option (Int × Int × Int × Int × ByteArray × ByteArray × Int × Int × Int × Int × Int × List Int × Int × Int)
 | 0, _, _, _, _, _, _, _, _, _, _, _, _, _, _, _ => none
 | k + 1, x20, x1000, x1001, x1002, x323000, x323001, x323002, x323003, x323004, x323005, x323006, x323007, x323008, x323009, x323010 => if x20 = true then ((gleberef01_Reader_Num.f k x1000 x1001 x1002).bind fun bt335 => ((gleberef01_Reader_Num.f k x1000 bt335.2.1 bt335.2.2).bind fun bt338 => ((gleberef01_Reader_Num.f k x1000 bt338.2.1 bt338.2.2).bind fun bt341 => ((gleberef11_TakeChain.f k x1000 bt341.2.1 bt341.2.2).bind fun bt344 => (gleberef11_Take.j2 k x1000 bt344.2.1 bt344.2.2 x323000 x323001 x323002 x323003 x323004 x323005 x323006 x323007 bt335.1 bt338.1 bt341.1 bt344.1))))) else (gleberef11_Take.j2 k x1000 x1001 x1002 x323000 x323001 x323002 x323003 x323004 x323005 x323006 x323007 x323008 x323009 x323010 ([] : List Int))
end
def gleberef11_Take.f (k : Nat) (s0_0 : List Int) (s0_1 : Int) (s0_2 : Int) : Option (Int × Int × Int × Int × ByteArray × ByteArray × Int × Int × Int × Int × Int × List Int × Int × Int) := (gleberef01_Reader_Num.f k s0_0 s0_1 s0_2).bind fun bt319 => (if bt319.1 = 1 then ((gleberef07_TakeOp.f k s0_0 bt319.2.1 bt319.2.2).bind fun bt323 => (gleberef11_Take.j2 k s0_0 bt323.2.2.2.2.2.2.2.1 bt323.2.2.2.2.2.2.2.2 bt319.1 bt323.1 bt323.2.1 bt323.2.2.1 bt323.2.2.2.1 bt323.2.2.2.2.1 bt323.2.2.2.2.2.1 bt323.2.2.2.2.2.2.1 0 0 0 ([] : List Int))) else (if bt319.1 = 2 then (gleberef11_Take.j0 k bt319.1 (bt319.1 == 2) s0_0 bt319.2.1 bt319.2.2 bt319.1 0 0 0 (⟨#[]⟩ : ByteArray) (⟨#[]⟩ : ByteArray) 0 0 0 0 0) else (gleberef11_Take.j0 k bt319.1 (bt319.1 == 3) s0_0 bt319.2.1 bt319.2.2 bt319.1 0 0 0 (⟨#[]⟩ : ByteArray) (⟨#[]⟩ : ByteArray) 0 0 0 0 0)))
theorem gleberef11_Take.mono_l : ∀ k, (∀ y0 y1 y2 y3 y4 y5 y6 y7 y8 y9 y10 y11 y12 y13 y14, LeO (gleberef11_Take.j2 k y0 y1 y2 y3 y4 y5 y6 y7 y8 y9 y10 y11 y12 y13 y14) (gleberef11_Take.j2 (k + 1) y0 y1 y2 y3 y4 y5 y6 y7 y8 y9 y10 y11 y12 y13 y14)) ∧ (∀ y0 y1 y2 y3 y4 y5 y6 y7 y8 y9 y10 y11 y12 y13 y14 y15, LeO (gleberef11_Take.j0 k y0 y1 y2 y3 y4 y5 y6 y7 y8 y9 y10 y11 y12 y13 y14 y15) (gleberef11_Take.j0 (k + 1) y0 y1 y2 y3 y4 y5 y6 y7 y8 y9 y10 y11 y12 y13 y14 y15)) ∧ (∀ y0 y1 y2 y3 y4 y5 y6 y7 y8 y9 y10 y11 y12 y13 y14, LeO (gleberef11_Take.j1 k y0 y1 y2 y3 y4 y5 y6 y7 y8 y9 y10 y11 y12 y13 y14) (gleberef11_Take.j1 (k + 1) y0 y1 y2 y3 y4 y5 y6 y7 y8 y9 y10 y11 y12 y13 y14))
 | 0 => ⟨fun _ _ _ _ _ _ _ _ _ _ _ _ _ _ _ r h => by simp [gleberef11_Take.j2] at h, fun _ _ _ _ _ _ _ _ _ _ _ _ _ _ _ _ r h => by simp [gleberef11_Take.j0] at h, fun _ _ _ _ _ _ _ _ _ _ _ _ _ _ _ r h => by simp [gleberef11_Take.j1] at h⟩
 | k + 1 => by
  obtain ⟨ih0, ih1, ih2⟩ := gleberef11_Take.mono_l k
  refine ⟨?_, ?_, ?_⟩
  ·intro y0 y1 y2 y3 y4 y5 y6 y7 y8 y9 y10 y11 y12 y13 y14
   unfold gleberef11_Take.j2
   repeat' first
   | (with_reducible exact ih0 _ _ _ _ _ _ _ _ _ _ _ _ _ _ _)
   | (with_reducible exact ih1 _ _ _ _ _ _ _ _ _ _ _ _ _ _ _ _)
   | (with_reducible exact ih2 _ _ _ _ _ _ _ _ _ _ _ _ _ _ _)
   | (with_reducible exact gleberef01_Reader_Num.mono _ _ _ _)
   | (with_reducible exact gleberef07_TakeOp.mono _ _ _ _)
   | (with_reducible exact gleberef11_Right.mono _ _ _ _ _ _ _ _ _ _ _ _ _)
   | (with_reducible exact gleberef11_TakeChain.mono _ _ _ _)
   | (with_reducible exact LeO.refl _)
   | (with_reducible exact LeO.none _)
   | (with_reducible refine LeO.ite ?_ ?_)
   | (with_reducible refine LeO.bind ?_ (fun _ => ?_))
   | exact ih0 _ _ _ _ _ _ _ _ _ _ _ _ _ _ _
   | exact ih1 _ _ _ _ _ _ _ _ _ _ _ _ _ _ _ _
   | exact ih2 _ _ _ _ _ _ _ _ _ _ _ _ _ _ _
   | exact gleberef01_Reader_Num.mono _ _ _ _
   | exact gleberef07_TakeOp.mono _ _ _ _
   | exact gleberef11_Right.mono _ _ _ _ _ _ _ _ _ _ _ _ _
   | exact gleberef11_TakeChain.mono _ _ _ _
   | exact LeO.none _
   | refine LeO.ite ?_ ?_
   | refine LeO.bind ?_ (fun _ => ?_)
  ·intro y0 y1 y2 y3 y4 y5 y6 y7 y8 y9 y10 y11 y12 y13 y14 y15
   unfold gleberef11_Take.j0
   repeat' first
   | (with_reducible exact ih0 _ _ _ _ _ _ _ _ _ _ _ _ _ _ _)
   | (with_reducible exact ih1 _ _ _ _ _ _ _ _ _ _ _ _ _ _ _ _)
   | (with_reducible exact ih2 _ _ _ _ _ _ _ _ _ _ _ _ _ _ _)
   | (with_reducible exact gleberef01_Reader_Num.mono _ _ _ _)
   | (with_reducible exact gleberef07_TakeOp.mono _ _ _ _)
   | (with_reducible exact gleberef11_Right.mono _ _ _ _ _ _ _ _ _ _ _ _ _)
   | (with_reducible exact gleberef11_TakeChain.mono _ _ _ _)
   | (with_reducible exact LeO.refl _)
   | (with_reducible exact LeO.none _)
   | (with_reducible refine LeO.ite ?_ ?_)
   | (with_reducible refine LeO.bind ?_ (fun _ => ?_))
   | exact ih0 _ _ _ _ _ _ _ _ _ _ _ _ _ _ _
   | exact ih1 _ _ _ _ _ _ _ _ _ _ _ _ _ _ _ _
   | exact ih2 _ _ _ _ _ _ _ _ _ _ _ _ _ _ _
   | exact gleberef01_Reader_Num.mono _ _ _ _
   | exact gleberef07_TakeOp.mono _ _ _ _
   | exact gleberef11_Right.mono _ _ _ _ _ _ _ _ _ _ _ _ _
   | exact gleberef11_TakeChain.mono _ _ _ _
   | exact LeO.none _
   | refine LeO.ite ?_ ?_
   | refine LeO.bind ?_ (fun _ => ?_)
  ·intro y0 y1 y2 y3 y4 y5 y6 y7 y8 y9 y10 y11 y12 y13 y14
   unfold gleberef11_Take.j1
   repeat' first
   | (with_reducible exact ih0 _ _ _ _ _ _ _ _ _ _ _ _ _ _ _)
   | (with_reducible exact ih1 _ _ _ _ _ _ _ _ _ _ _ _ _ _ _ _)
   | (with_reducible exact ih2 _ _ _ _ _ _ _ _ _ _ _ _ _ _ _)
   | (with_reducible exact gleberef01_Reader_Num.mono _ _ _ _)
   | (with_reducible exact gleberef07_TakeOp.mono _ _ _ _)
   | (with_reducible exact gleberef11_Right.mono _ _ _ _ _ _ _ _ _ _ _ _ _)
   | (with_reducible exact gleberef11_TakeChain.mono _ _ _ _)
   | (with_reducible exact LeO.refl _)
   | (with_reducible exact LeO.none _)
   | (with_reducible refine LeO.ite ?_ ?_)
   | (with_reducible refine LeO.bind ?_ (fun _ => ?_))
   | exact ih0 _ _ _ _ _ _ _ _ _ _ _ _ _ _ _
   | exact ih1 _ _ _ _ _ _ _ _ _ _ _ _ _ _ _ _
   | exact ih2 _ _ _ _ _ _ _ _ _ _ _ _ _ _ _
   | exact gleberef01_Reader_Num.mono _ _ _ _
   | exact gleberef07_TakeOp.mono _ _ _ _
   | exact gleberef11_Right.mono _ _ _ _ _ _ _ _ _ _ _ _ _
   | exact gleberef11_TakeChain.mono _ _ _ _
   | exact LeO.none _
   | refine LeO.ite ?_ ?_
   | refine LeO.bind ?_ (fun _ => ?_)
theorem gleberef11_Take.mono : ∀ a0 a1 a2 k, LeO (gleberef11_Take.f k a0 a1 a2) (gleberef11_Take.f (k + 1) a0 a1 a2) := by
 intro a0 a1 a2 k
 obtain ⟨ih0, ih1, ih2⟩ := gleberef11_Take.mono_l k
 unfold gleberef11_Take.f
 repeat' first
   | (with_reducible exact ih0 _ _ _ _ _ _ _ _ _ _ _ _ _ _ _)
   | (with_reducible exact ih1 _ _ _ _ _ _ _ _ _ _ _ _ _ _ _ _)
   | (with_reducible exact ih2 _ _ _ _ _ _ _ _ _ _ _ _ _ _ _)
   | (with_reducible exact gleberef01_Reader_Num.mono _ _ _ _)
   | (with_reducible exact gleberef07_TakeOp.mono _ _ _ _)
   | (with_reducible exact gleberef11_Right.mono _ _ _ _ _ _ _ _ _ _ _ _ _)
   | (with_reducible exact gleberef11_TakeChain.mono _ _ _ _)
   | (with_reducible exact LeO.refl _)
   | (with_reducible exact LeO.none _)
   | (with_reducible refine LeO.ite ?_ ?_)
   | (with_reducible refine LeO.bind ?_ (fun _ => ?_))
   | exact ih0 _ _ _ _ _ _ _ _ _ _ _ _ _ _ _
   | exact ih1 _ _ _ _ _ _ _ _ _ _ _ _ _ _ _ _
   | exact ih2 _ _ _ _ _ _ _ _ _ _ _ _ _ _ _
   | exact gleberef01_Reader_Num.mono _ _ _ _
   | exact gleberef07_TakeOp.mono _ _ _ _
   | exact gleberef11_Right.mono _ _ _ _ _ _ _ _ _ _ _ _ _
   | exact gleberef11_TakeChain.mono _ _ _ _
   | exact LeO.none _
   | refine LeO.ite ?_ ?_
   | refine LeO.bind ?_ (fun _ => ?_)
set_option maxHeartbeats 8000000 in
set_option maxRecDepth 100000 in
theorem gleberef11_Take.calls (k : Nat) (g : Nat) (s0_0 : List Int) (s0_1 : Int) (s0_2 : Int) (r1 : Int) (r2 : Int) (r3 : Int) (r4 : Int) (r5 : ByteArray) (r6 : ByteArray) (r7 : Int) (r8 : Int) (r9 : Int) (r10 : Int) (r11 : Int) (r12 : List Int) (r13 : Int) (r14 : Int) (w0 w : World) (hI : IsS65 w0 w g s0_0 s0_1 s0_2) (hB : Below w0.heap.size w0 w) (h : gleberef11_Take.f k s0_0 s0_1 s0_2 = some (r1, r2, r3, r4, r5, r6, r7, r8, r9, r10, r11, r12, r13, r14)) :
  Calls Try.prog 33 #[.pointer (some ⟨g, 0, none⟩)] w fun e w' => ∃ v11_ : Value, e = .returned (.agg #[.int .i64 r1, .int .i64 r2, .int .i64 r3, .int .i64 r4, .string r5, .string r6, .int .i64 r7, .int .i64 r8, .int .i64 r9, .int .i64 r10, .int .i64 r11, v11_]) ∧ Kd.R (Kd.int .i64) 3 w' w.heap.size (fun _ => True) v11_ r12 ∧ IsS65 w0 w' g s0_0 r13 r14 ∧ Below w0.heap.size w0 w' ∧ KeepBut w w' g none := by
 have hu28 := Try.underlying28
 have hu25 := Try.underlying25
 have HI0 := Aside0.mk hI
 have HK := Aside0.mk (KeepBut.refl w g none)
 have HL := Aside0.mk hB.size
 clear hI
 have HW0 := Aside0.mk hB.size
 have HB := Aside0.mk hB
 clear hB
 have H : ((gleberef01_Reader_Num.f k s0_0 s0_1 s0_2).bind fun bt319 => (if bt319.1 = 1 then ((gleberef07_TakeOp.f k s0_0 bt319.2.1 bt319.2.2).bind fun bt323 => (gleberef11_Take.j2 k s0_0 bt323.2.2.2.2.2.2.2.1 bt323.2.2.2.2.2.2.2.2 bt319.1 bt323.1 bt323.2.1 bt323.2.2.1 bt323.2.2.2.1 bt323.2.2.2.2.1 bt323.2.2.2.2.2.1 bt323.2.2.2.2.2.2.1 0 0 0 ([] : List Int))) else (if bt319.1 = 2 then (gleberef11_Take.j0 k bt319.1 (bt319.1 == 2) s0_0 bt319.2.1 bt319.2.2 bt319.1 0 0 0 (⟨#[]⟩ : ByteArray) (⟨#[]⟩ : ByteArray) 0 0 0 0 0) else (gleberef11_Take.j0 k bt319.1 (bt319.1 == 3) s0_0 bt319.2.1 bt319.2.2 bt319.1 0 0 0 (⟨#[]⟩ : ByteArray) (⟨#[]⟩ : ByteArray) 0 0 0 0 0)))) = some (r1, r2, r3, r4, r5, r6, r7, r8, r9, r10, r11, r12, r13, r14) := h
 clear h
 replace H := Option.bind_eq_some_iff.mp H
 obtain ⟨⟨t319, t320, t321⟩, A20, H⟩ := H
 try dsimp only at H
 have A2 := Aside0.mk A20
 clear A20
 have HC3 := Aside0.mk H
 clear H
 go_enter Try.func33, Try.ntmps33
 go_upto_block 0 with (first | ((with_reducible refine gate_dst (N := 2) rfl ?_); refine box_event ?hg (N := 2) ?hd (cs := #[.int .i64 0, .int .i64 0, .int .i64 0, .int .i64 0, .string (⟨#[]⟩ : ByteArray), .string (⟨#[]⟩ : ByteArray), .int .i64 0, .int .i64 0, .int .i64 0, .int .i64 0, .int .i64 0, .slice none 0 0]) (t := 28) ?hr ?_; (case hd => rfl); (case hg => rfl); (case hr => first | (go_simp; done) | (go_simp; rfl)); intro gb318 hg w4 hbox hb; have n0_ := Aside0.mk (IsS65.below (q4 HI0.out) hb); have n1_ := Aside0.mk (KeepBut.trans (q5 HK.out) (KeepBut.of_below hb g none) (.inl rfl)); have n2_ := Aside0.mk (below_step (q0 HB.out (IsS65.ge HI0.out)) hb); have n3_ := Aside0.mk (hbox); have n4_ := Aside0.mk ((by rw [hg]; exact (keep_size (w := w) (g := g) (row := none) (q5 HK.out)) : w.heap.size ≤ gb318)); have n5_ := Aside0.mk ((Nat.le_trans HW0.out (by rw [hg]; exact (keep_size (w := w) (g := g) (row := none) (q5 HK.out)) : w.heap.size ≤ gb318) : w0.heap.size ≤ gb318)); have n6_ := Aside0.mk ((by rw [hg]; exact Nat.ne_of_lt (IsS65.lt (show IsS65 w0 _ g s0_0 s0_1 s0_2 from by exact q4 HI0.out)) : g ≠ gb318)); have n7_ := Aside0.mk ((by rw [hg]; exact Nat.ne_of_gt (IsS65.lt (show IsS65 w0 _ g s0_0 s0_1 s0_2 from by exact q4 HI0.out)) : gb318 ≠ g)); clear HI0; clear HK; clear HB; have HI0 := n0_; have HK := n1_; have HB := n2_; have BK318 := n3_; have GW318 := n4_; have GE318 := n5_; have NB0_318 := n6_; have NB318_0 := n7_; clear n0_ n1_ n2_ n3_ n4_ n5_ n6_ n7_; clear hb hbox hg) | ((with_reducible refine gate_callee (f := 58) rfl ?_); refine goesL_ (some 5) rfl rfl Try.func58 (by kernel_rfl) rfl #[.pointer (some ⟨g, 0, none⟩)] rfl (by (try simp only [List.map_toArray, List.map_cons, List.map_nil]); first | done | rfl | (simp only [List.length_drop, List.length_take]; rfl)) ?_; (with_reducible refine (gleberef01_Reader_Num.calls k g s0_0 s0_1 s0_2 t319 t320 t321 w0 _ ?side1 ?side2 A2.out).mono ?_); (case side1 => exact q6 HI0.out NB0_318.out); (case side2 => exact q1 HB.out (IsS65.ge HI0.out) GE318.out); rintro e w5 ⟨rfl, hi, hb, hk⟩; refine ⟨_, rfl, ?_⟩; have n0_ := Aside0.mk (KeepBut.blk hk (g' := gb318) (o := .cells #[.int .i64 0, .int .i64 0, .int .i64 0, .int .i64 0, .string (⟨#[]⟩ : ByteArray), .string (⟨#[]⟩ : ByteArray), .int .i64 0, .int .i64 0, .int .i64 0, .int .i64 0, .int .i64 0, .slice none 0 0] 28 (0, 0)) (bk BK318.out) NB318_0.out (by simp)); have n1_ := Aside0.mk (KeepBut.trans (q7 HK.out GW318.out) hk (.inl rfl)); have n2_ := Aside0.mk (hb); have n3_ := Aside0.mk (hi); clear BK318; clear HK; clear HB; clear HI0; have BK318 := n0_; have HK := n1_; have HB := n2_; have HI0 := n3_; clear n0_ n1_ n2_ n3_; (try clear hb); (try clear hb2); (try clear hk); (try clear hi)) | ((with_reducible refine gate_dst (N := 3) rfl ?_); refine box_event ?hg (N := 3) ?hd (cs := #[.int .i64 0, .int .i64 0, .int .i64 0, .int .i64 0, .string (⟨#[]⟩ : ByteArray), .string (⟨#[]⟩ : ByteArray), .int .i64 0, .int .i64 0, .int .i64 0, .int .i64 0, .int .i64 0, .slice none 0 0]) (t := 28) ?hr ?_; (case hd => rfl); (case hg => rfl); (case hr => first | (go_simp; done) | (go_simp; rfl)); intro gb322 hg w6 hbox hb; have n0_ := Aside0.mk (IsS65.below (q6 HI0.out NB0_318.out) hb); have n1_ := Aside0.mk (blk_below (bk BK318.out) hb); have n2_ := Aside0.mk (KeepBut.trans (q7 HK.out GW318.out) (KeepBut.of_below hb g none) (.inl rfl)); have n3_ := Aside0.mk (below_step (q1 HB.out (IsS65.ge HI0.out) GE318.out) hb); have n4_ := Aside0.mk (hbox); have n5_ := Aside0.mk ((by rw [hg]; exact (keep_size (w := w) (g := g) (row := none) (q7 HK.out GW318.out)) : w.heap.size ≤ gb322)); have n6_ := Aside0.mk ((Nat.le_trans HW0.out (by rw [hg]; exact (keep_size (w := w) (g := g) (row := none) (q7 HK.out GW318.out)) : w.heap.size ≤ gb322) : w0.heap.size ≤ gb322)); have n7_ := Aside0.mk ((by rw [hg]; exact Nat.ne_of_lt (blk_lt (g := gb318) (o := .cells #[.int .i64 0, .int .i64 0, .int .i64 0, .int .i64 0, .string (⟨#[]⟩ : ByteArray), .string (⟨#[]⟩ : ByteArray), .int .i64 0, .int .i64 0, .int .i64 0, .int .i64 0, .int .i64 0, .slice none 0 0] 28 (0, 0)) (bk BK318.out)) : gb318 ≠ gb322)); have n8_ := Aside0.mk ((by rw [hg]; exact Nat.ne_of_gt (blk_lt (g := gb318) (o := .cells #[.int .i64 0, .int .i64 0, .int .i64 0, .int .i64 0, .string (⟨#[]⟩ : ByteArray), .string (⟨#[]⟩ : ByteArray), .int .i64 0, .int .i64 0, .int .i64 0, .int .i64 0, .int .i64 0, .slice none 0 0] 28 (0, 0)) (bk BK318.out)) : gb322 ≠ gb318)); have n9_ := Aside0.mk ((by rw [hg]; exact Nat.ne_of_lt (IsS65.lt (show IsS65 w0 _ g s0_0 t320 t321 from by exact q6 HI0.out NB0_318.out)) : g ≠ gb322)); have n10_ := Aside0.mk ((by rw [hg]; exact Nat.ne_of_gt (IsS65.lt (show IsS65 w0 _ g s0_0 t320 t321 from by exact q6 HI0.out NB0_318.out)) : gb322 ≠ g)); clear HI0; clear BK318; clear HK; clear HB; have HI0 := n0_; have BK318 := n1_; have HK := n2_; have HB := n3_; have BK322 := n4_; have GW322 := n5_; have GE322 := n6_; have NB318_322 := n7_; have NB322_318 := n8_; have NB0_322 := n9_; have NB322_0 := n10_; clear n0_ n1_ n2_ n3_ n4_ n5_ n6_ n7_ n8_ n9_ n10_; clear hb hbox hg; have hnb7 := NB322_318.out; have hnc7 := NB318_322.out; have hnb8 := NB322_0.out; have hnc8 := NB0_322.out; obtain ⟨hcz9_0, hcz9_1, hcz9_2, hcz9_3, hcz9_4, hcz9_5, hcz9_6, hcz9_7, hcz9_8, hcz9_9, hcz9_10, hcz9_11⟩ := cells12 BK322.out; obtain ⟨hfz9_0, hfz9_1, hfz9_2, hfz9_3, hfz9_4, hfz9_5, hfz9_6, hfz9_7, hfz9_8, hfz9_9, hfz9_10, hfz9_11⟩ := frz12 BK322.out))
 (try simp only [Act.put, List.setIfInBounds_toArray, List.set_cons_zero, List.set_cons_succ])
 go_cut [] (fun wc => ∃ (kq : Nat) (x1001_2 : Int) (x1002_2 : Int) (x323001_2 : Int) (x323002_2 : Int) (x323003_2 : Int) (x323004_2 : ByteArray) (x323005_2 : ByteArray) (x323006_2 : Int) (x323007_2 : Int) (x323008_2 : Int) (x323009_2 : Int) (x323010_2 : Int) (x323011_2 : List Int) (u323011 : Value), Aside0 (gleberef11_Take.j2 kq s0_0 x1001_2 x1002_2 t319 x323001_2 x323002_2 x323003_2 x323004_2 x323005_2 x323006_2 x323007_2 x323008_2 x323009_2 x323010_2 x323011_2 = some (r1, r2, r3, r4, r5, r6, r7, r8, r9, r10, r11, r12, r13, r14)) ∧ Aside0 (kq ≤ k) ∧ Aside0 (Kd.R (Kd.int .i64) 3 wc w.heap.size (fun _ => True) u323011 x323011_2) ∧ Aside0 (wc.heap[gb318]? = some (.cells #[.int .i64 0, .int .i64 0, .int .i64 0, .int .i64 0, .string (⟨#[]⟩ : ByteArray), .string (⟨#[]⟩ : ByteArray), .int .i64 0, .int .i64 0, .int .i64 0, .int .i64 0, .int .i64 0, (.slice none 0 0)] 28 (0, 0))) ∧ Aside0 (wc.heap[gb322]? = some (.cells #[.int .i64 t319, .int .i64 x323001_2, .int .i64 x323002_2, .int .i64 x323003_2, .string x323004_2, .string x323005_2, .int .i64 x323006_2, .int .i64 x323007_2, .int .i64 x323008_2, .int .i64 x323009_2, .int .i64 x323010_2, u323011] 28 (0, 0))) ∧ Aside0 (IsS65 w0 wc g s0_0 x1001_2 x1002_2) ∧ Aside0 (KeepBut w wc g none) ∧ Aside0 (Below w0.heap.size w0 wc))
 case first =>
  have H := HC3.out
  clear HC3
  by_cases c10 : t319 = 1
  ·rw [if_pos c10] at H
   have c10b0 : (t319 == 1) = true := beq_iff_eq.mpr c10
   have c10b1 : (t319 != 1) = false := bne_eq_false_iff_eq.mpr c10
   clear c10
   (first | rw [c10b0] | (simp only [i64_w, i32_w]; rw [c10b0]) | skip)
   replace H := Option.bind_eq_some_iff.mp H
   obtain ⟨⟨t323, t324, t325, t326, t327, t328, t329, t330, t331⟩, A110, H⟩ := H
   try dsimp only at H
   have A11 := Aside0.mk A110
   clear A110
   have H' := Aside0.mk H
   clear H
   go_wp2_with (first | ((with_reducible refine gate_callee (f := 59) rfl ?_); refine goesL_ (some 12) rfl rfl Try.func59 (by kernel_rfl) rfl #[.pointer (some ⟨g, 0, none⟩)] rfl (by (try simp only [List.map_toArray, List.map_cons, List.map_nil]); first | done | rfl | (simp only [List.length_drop, List.length_take]; rfl)) ?_; (with_reducible refine (gleberef07_TakeOp.calls k g s0_0 t320 t321 t323 t324 t325 t326 t327 t328 t329 t330 t331 w0 _ ?side1 ?side2 A11.out).mono ?_); (case side1 => exact q8 HI0.out NB0_318.out NB0_322.out); (case side2 => exact q9 HB.out (IsS65.ge HI0.out) GE318.out GE322.out); rintro e w12 ⟨rfl, hi, hb, hk⟩; refine ⟨_, rfl, ?_⟩; have n0_ := Aside0.mk (KeepBut.blk hk (g' := gb318) (o := .cells #[.int .i64 0, .int .i64 0, .int .i64 0, .int .i64 0, .string (⟨#[]⟩ : ByteArray), .string (⟨#[]⟩ : ByteArray), .int .i64 0, .int .i64 0, .int .i64 0, .int .i64 0, .int .i64 0, .slice none 0 0] 28 (0, 0)) ((bp1 BK318.out NB318_322.out)) NB318_0.out (by simp)); have n1_ := Aside0.mk (KeepBut.blk hk (g' := gb322) (o := .cells #[.int .i64 t319, .int .i64 0, .int .i64 0, .int .i64 0, .string (⟨#[]⟩ : ByteArray), .string (⟨#[]⟩ : ByteArray), .int .i64 0, .int .i64 0, .int .i64 0, .int .i64 0, .int .i64 0, .slice none 0 0] 28 (0, 0)) ((bp0 BK322.out)) NB322_0.out (by simp)); have n2_ := Aside0.mk (KeepBut.trans (q10 HK.out GW318.out GW322.out) hk (.inl rfl)); have n3_ := Aside0.mk (hb); have n4_ := Aside0.mk (hi); clear BK318; clear BK322; clear HK; clear HB; clear HI0; have BK318 := n0_; have BK322 := n1_; have HK := n2_; have HB := n3_; have HI0 := n4_; clear n0_ n1_ n2_ n3_ n4_; (try clear hb); (try clear hb2); (try clear hk); (try clear hi); have hnb13 := NB322_318.out; have hnc13 := NB318_322.out; have hnb14 := NB322_0.out; have hnc14 := NB0_322.out; obtain ⟨hcz15_0, hcz15_1, hcz15_2, hcz15_3, hcz15_4, hcz15_5, hcz15_6, hcz15_7, hcz15_8, hcz15_9, hcz15_10, hcz15_11⟩ := cells12 BK322.out; obtain ⟨hfz15_0, hfz15_1, hfz15_2, hfz15_3, hfz15_4, hfz15_5, hfz15_6, hfz15_7, hfz15_8, hfz15_9, hfz15_10, hfz15_11⟩ := frz12 BK322.out))
   go_meet
   case rel => exact ⟨_, (t330), (t331), (t323), (t324), (t325), (t326), (t327), (t328), (t329), (0), (0), (0), (([] : List Int)), (.slice none 0 0), H', ⟨by first | omega | exact Nat.le_refl _⟩, ⟨by first | exact Kd.R_nil _ _ _ _ _ | exact Kd.N_nil _ _ _ _ _ | exact Kd.V_nil _ _ _ _ _ | exact Kd.Q_nil _ _ _ _ _ | exact Kd.S_nil _ _ _ _ _⟩, ⟨(bp1 BK318.out NB318_322.out)⟩, ⟨(bp0 BK322.out)⟩, ⟨by exact q8 HI0.out NB0_318.out NB0_322.out⟩, ⟨by exact q10 HK.out GW318.out GW322.out⟩, ⟨by exact q9 HB.out (IsS65.ge HI0.out) GE318.out GE322.out⟩⟩
  ·rw [if_neg c10] at H
   have c10b0 : (t319 == 1) = false := beq_eq_false_iff_ne.mpr c10
   have c10b1 : (t319 != 1) = true := bne_iff_ne.mpr c10
   (first | rw [c10b0] | (simp only [i64_w, i32_w]; rw [c10b0]) | skip)
   have HC16 := Aside0.mk H
   clear H
   go_upto_if 14 with (fail)
   go_cut [14] (fun v14 wc => ∃ (kq : Nat) (x14_15 : Bool), v14 = .bool x14_15 ∧ Aside0 (gleberef11_Take.j0 kq t319 x14_15 s0_0 t320 t321 t319 0 0 0 (⟨#[]⟩ : ByteArray) (⟨#[]⟩ : ByteArray) 0 0 0 0 0 = some (r1, r2, r3, r4, r5, r6, r7, r8, r9, r10, r11, r12, r13, r14)) ∧ Aside0 (kq ≤ k) ∧ Aside0 (wc.heap[gb318]? = some (.cells #[.int .i64 0, .int .i64 0, .int .i64 0, .int .i64 0, .string (⟨#[]⟩ : ByteArray), .string (⟨#[]⟩ : ByteArray), .int .i64 0, .int .i64 0, .int .i64 0, .int .i64 0, .int .i64 0, (.slice none 0 0)] 28 (0, 0))) ∧ Aside0 (wc.heap[gb322]? = some (.cells #[.int .i64 t319, .int .i64 0, .int .i64 0, .int .i64 0, .string (⟨#[]⟩ : ByteArray), .string (⟨#[]⟩ : ByteArray), .int .i64 0, .int .i64 0, .int .i64 0, .int .i64 0, .int .i64 0, (.slice none 0 0)] 28 (0, 0))) ∧ Aside0 (IsS65 w0 wc g s0_0 t320 t321) ∧ Aside0 (KeepBut w wc g none) ∧ Aside0 (Below w0.heap.size w0 wc))
   case first =>
    have H := HC16.out
    clear HC16
    by_cases c17 : t319 = 2
    ·rw [if_pos c17] at H
     have c17b0 : (t319 == 2) = true := beq_iff_eq.mpr c17
     have c17b1 : (t319 != 2) = false := bne_eq_false_iff_eq.mpr c17
     clear c17
     (first | rw [c17b0] | (simp only [i64_w, i32_w]; rw [c17b0]) | skip)
     have H' := Aside0.mk H
     clear H
     go_wp2
     go_meet
     case rel => exact ⟨_, ((t319 == 2)), (by first | rfl | (simp; done) | (simp [*]; done)), H', ⟨by first | omega | exact Nat.le_refl _⟩, ⟨(bp1 BK318.out NB318_322.out)⟩, ⟨(bp0 BK322.out)⟩, ⟨by exact q8 HI0.out NB0_318.out NB0_322.out⟩, ⟨by exact q10 HK.out GW318.out GW322.out⟩, ⟨by exact q9 HB.out (IsS65.ge HI0.out) GE318.out GE322.out⟩⟩
    ·rw [if_neg c17] at H
     have c17b0 : (t319 == 2) = false := beq_eq_false_iff_ne.mpr c17
     have c17b1 : (t319 != 2) = true := bne_iff_ne.mpr c17
     (first | rw [c17b0] | (simp only [i64_w, i32_w]; rw [c17b0]) | skip)
     have H' := Aside0.mk H
     clear H
     go_wp2
     go_meet
     case rel => exact ⟨_, ((t319 == 3)), (by first | rfl | (simp; done) | (simp [*]; done)), H', ⟨by first | omega | exact Nat.le_refl _⟩, ⟨(bp1 BK318.out NB318_322.out)⟩, ⟨(bp0 BK322.out)⟩, ⟨by exact q8 HI0.out NB0_318.out NB0_322.out⟩, ⟨by exact q10 HK.out GW318.out GW322.out⟩, ⟨by exact q9 HB.out (IsS65.ge HI0.out) GE318.out GE322.out⟩⟩
   case rest =>
    clear HC16
    try clear c1
    try clear p2
    try clear c3
    try clear c5
    try clear c7
    try clear c8
    try clear c10
    try clear c10b0
    try clear c10b1
    try clear c13
    try clear c14
    try clear c17
    try clear c17b0
    try clear c17b1
    try clear hcz15_0
    try clear hcz15_1
    try clear hcz15_10
    try clear hcz15_11
    try clear hcz15_2
    try clear hcz15_3
    try clear hcz15_4
    try clear hcz15_5
    try clear hcz15_6
    try clear hcz15_7
    try clear hcz15_8
    try clear hcz15_9
    try clear hcz9_0
    try clear hcz9_1
    try clear hcz9_10
    try clear hcz9_11
    try clear hcz9_2
    try clear hcz9_3
    try clear hcz9_4
    try clear hcz9_5
    try clear hcz9_6
    try clear hcz9_7
    try clear hcz9_8
    try clear hcz9_9
    try clear hfz15_0
    try clear hfz15_1
    try clear hfz15_10
    try clear hfz15_11
    try clear hfz15_2
    try clear hfz15_3
    try clear hfz15_4
    try clear hfz15_5
    try clear hfz15_6
    try clear hfz15_7
    try clear hfz15_8
    try clear hfz15_9
    try clear hfz9_0
    try clear hfz9_1
    try clear hfz9_10
    try clear hfz9_11
    try clear hfz9_2
    try clear hfz9_3
    try clear hfz9_4
    try clear hfz9_5
    try clear hfz9_6
    try clear hfz9_7
    try clear hfz9_8
    try clear hfz9_9
    obtain ⟨kq, x14_15, rfl, HA, HJ15, BK318, BK322, HI0, HK, HB⟩ := hcut
    cases kq with
    | zero => exact absurd HA.out (by simp [gleberef11_Take.j0])
    | succ kj15 =>
     have H := HA.out
     clear HA
     simp only [gleberef11_Take.j0] at H
     by_cases c18 : x14_15 = true
     ·subst c18
      have H1 : ((gleberef01_Reader_Num.f kj15 s0_0 t320 t321).bind fun bt332 => (gleberef11_Take.j2 kj15 s0_0 bt332.2.1 bt332.2.2 t319 0 0 0 (⟨#[]⟩ : ByteArray) (⟨#[]⟩ : ByteArray) 0 0 bt332.1 0 0 ([] : List Int))) = some (r1, r2, r3, r4, r5, r6, r7, r8, r9, r10, r11, r12, r13, r14) := by rw [if_pos rfl] at H; exact H
      clear H
      have H := H1
      clear H1
      replace H := Option.bind_eq_some_iff.mp H
      obtain ⟨⟨t332, t333, t334⟩, A190, H⟩ := H
      try dsimp only at H
      have A19 := Aside0.mk A190
      clear A190
      have H' := Aside0.mk H
      clear H
      go_wp2_with (first | ((with_reducible refine gate_callee (f := 58) rfl ?_); refine goesL_ (some 18) rfl rfl Try.func58 (by kernel_rfl) rfl #[.pointer (some ⟨g, 0, none⟩)] rfl (by (try simp only [List.map_toArray, List.map_cons, List.map_nil]); first | done | rfl | (simp only [List.length_drop, List.length_take]; rfl)) ?_; (with_reducible refine (gleberef01_Reader_Num.calls kj15 g s0_0 t320 t321 t332 t333 t334 w0 _ ?side1 ?side2 A19.out).mono ?_); (case side1 => exact q8 HI0.out NB0_318.out NB0_322.out); (case side2 => exact q9 HB.out (IsS65.ge HI0.out) GE318.out GE322.out); rintro e w20 ⟨rfl, hi, hb, hk⟩; refine ⟨_, rfl, ?_⟩; have n0_ := Aside0.mk (KeepBut.blk hk (g' := gb318) (o := .cells #[.int .i64 0, .int .i64 0, .int .i64 0, .int .i64 0, .string (⟨#[]⟩ : ByteArray), .string (⟨#[]⟩ : ByteArray), .int .i64 0, .int .i64 0, .int .i64 0, .int .i64 0, .int .i64 0, .slice none 0 0] 28 (0, 0)) (bk BK318.out) NB318_0.out (by simp)); have n1_ := Aside0.mk (KeepBut.blk hk (g' := gb322) (o := .cells #[.int .i64 t319, .int .i64 0, .int .i64 0, .int .i64 0, .string (⟨#[]⟩ : ByteArray), .string (⟨#[]⟩ : ByteArray), .int .i64 0, .int .i64 0, .int .i64 0, .int .i64 0, .int .i64 0, .slice none 0 0] 28 (0, 0)) (bk BK322.out) NB322_0.out (by simp)); have n2_ := Aside0.mk (KeepBut.trans (q10 HK.out GW318.out GW322.out) hk (.inl rfl)); have n3_ := Aside0.mk (hb); have n4_ := Aside0.mk (hi); clear BK318; clear BK322; clear HK; clear HB; clear HI0; have BK318 := n0_; have BK322 := n1_; have HK := n2_; have HB := n3_; have HI0 := n4_; clear n0_ n1_ n2_ n3_ n4_; (try clear hb); (try clear hb2); (try clear hk); (try clear hi); have hnb21 := NB322_318.out; have hnc21 := NB318_322.out; have hnb22 := NB322_0.out; have hnc22 := NB0_322.out; obtain ⟨hcz23_0, hcz23_1, hcz23_2, hcz23_3, hcz23_4, hcz23_5, hcz23_6, hcz23_7, hcz23_8, hcz23_9, hcz23_10, hcz23_11⟩ := cells12 BK322.out; obtain ⟨hfz23_0, hfz23_1, hfz23_2, hfz23_3, hfz23_4, hfz23_5, hfz23_6, hfz23_7, hfz23_8, hfz23_9, hfz23_10, hfz23_11⟩ := frz12 BK322.out))
      go_meet
      case rel => exact ⟨_, (t333), (t334), (0), (0), (0), ((⟨#[]⟩ : ByteArray)), ((⟨#[]⟩ : ByteArray)), (0), (0), (t332), (0), (0), (([] : List Int)), (.slice none 0 0), H', ⟨by have := HJ15.out; first | omega | exact Nat.le_refl _⟩, ⟨by first | exact Kd.R_nil _ _ _ _ _ | exact Kd.N_nil _ _ _ _ _ | exact Kd.V_nil _ _ _ _ _ | exact Kd.Q_nil _ _ _ _ _ | exact Kd.S_nil _ _ _ _ _⟩, ⟨(bp1 BK318.out NB318_322.out)⟩, ⟨(bp0 BK322.out)⟩, ⟨by exact q8 HI0.out NB0_318.out NB0_322.out⟩, ⟨by exact q10 HK.out GW318.out GW322.out⟩, ⟨by exact q9 HB.out (IsS65.ge HI0.out) GE318.out GE322.out⟩⟩
     ·replace c18 := Bool.eq_false_iff.mpr c18
      subst c18
      have H1 : (if t319 = 4 then (gleberef11_Take.j1 kj15 (t319 == 4) s0_0 t320 t321 t319 0 0 0 (⟨#[]⟩ : ByteArray) (⟨#[]⟩ : ByteArray) 0 0 0 0 0) else (gleberef11_Take.j1 kj15 (t319 == 5) s0_0 t320 t321 t319 0 0 0 (⟨#[]⟩ : ByteArray) (⟨#[]⟩ : ByteArray) 0 0 0 0 0)) = some (r1, r2, r3, r4, r5, r6, r7, r8, r9, r10, r11, r12, r13, r14) := by rw [if_neg (show ¬ (false = true) by decide)] at H; exact H
      clear H
      have H := H1
      clear H1
      have HC24 := Aside0.mk H
      clear H
      go_upto_if 20 with (fail)
      go_cut [20] (fun v20 wc => ∃ (kq : Nat) (x20_23 : Bool), v20 = .bool x20_23 ∧ Aside0 (gleberef11_Take.j1 kq x20_23 s0_0 t320 t321 t319 0 0 0 (⟨#[]⟩ : ByteArray) (⟨#[]⟩ : ByteArray) 0 0 0 0 0 = some (r1, r2, r3, r4, r5, r6, r7, r8, r9, r10, r11, r12, r13, r14)) ∧ Aside0 (kq ≤ kj15) ∧ Aside0 (wc.heap[gb318]? = some (.cells #[.int .i64 0, .int .i64 0, .int .i64 0, .int .i64 0, .string (⟨#[]⟩ : ByteArray), .string (⟨#[]⟩ : ByteArray), .int .i64 0, .int .i64 0, .int .i64 0, .int .i64 0, .int .i64 0, (.slice none 0 0)] 28 (0, 0))) ∧ Aside0 (wc.heap[gb322]? = some (.cells #[.int .i64 t319, .int .i64 0, .int .i64 0, .int .i64 0, .string (⟨#[]⟩ : ByteArray), .string (⟨#[]⟩ : ByteArray), .int .i64 0, .int .i64 0, .int .i64 0, .int .i64 0, .int .i64 0, (.slice none 0 0)] 28 (0, 0))) ∧ Aside0 (IsS65 w0 wc g s0_0 t320 t321) ∧ Aside0 (KeepBut w wc g none) ∧ Aside0 (Below w0.heap.size w0 wc))
      case first =>
       have H := HC24.out
       clear HC24
       by_cases c25 : t319 = 4
       ·rw [if_pos c25] at H
        have c25b0 : (t319 == 4) = true := beq_iff_eq.mpr c25
        have c25b1 : (t319 != 4) = false := bne_eq_false_iff_eq.mpr c25
        clear c25
        (first | rw [c25b0] | (simp only [i64_w, i32_w]; rw [c25b0]) | skip)
        have H' := Aside0.mk H
        clear H
        go_wp2
        go_meet
        case rel => exact ⟨_, ((t319 == 4)), (by first | rfl | (simp; done) | (simp [*]; done)), H', ⟨by have := HJ15.out; first | omega | exact Nat.le_refl _⟩, ⟨by (with_reducible repeat (first | refine blk_drewN ?_ _ | refine blk_drew ?_ | refine blk_alloc ?_ _)); exact BK318.out⟩, ⟨by (with_reducible repeat (first | refine blk_drewN ?_ _ | refine blk_drew ?_ | refine blk_alloc ?_ _)); exact BK322.out⟩, ⟨by exact q8 HI0.out NB0_318.out NB0_322.out⟩, ⟨by exact q10 HK.out GW318.out GW322.out⟩, ⟨by exact q9 HB.out (IsS65.ge HI0.out) GE318.out GE322.out⟩⟩
       ·rw [if_neg c25] at H
        have c25b0 : (t319 == 4) = false := beq_eq_false_iff_ne.mpr c25
        have c25b1 : (t319 != 4) = true := bne_iff_ne.mpr c25
        (first | rw [c25b0] | (simp only [i64_w, i32_w]; rw [c25b0]) | skip)
        have H' := Aside0.mk H
        clear H
        go_wp2
        go_meet
        case rel => exact ⟨_, ((t319 == 5)), (by first | rfl | (simp; done) | (simp [*]; done)), H', ⟨by have := HJ15.out; first | omega | exact Nat.le_refl _⟩, ⟨by (with_reducible repeat (first | refine blk_drewN ?_ _ | refine blk_drew ?_ | refine blk_alloc ?_ _)); exact BK318.out⟩, ⟨by (with_reducible repeat (first | refine blk_drewN ?_ _ | refine blk_drew ?_ | refine blk_alloc ?_ _)); exact BK322.out⟩, ⟨by exact q8 HI0.out NB0_318.out NB0_322.out⟩, ⟨by exact q10 HK.out GW318.out GW322.out⟩, ⟨by exact q9 HB.out (IsS65.ge HI0.out) GE318.out GE322.out⟩⟩
      case rest =>
       clear HC24
       try clear c1
       try clear c2
       try clear p2
       try clear c3
       try clear c5
       try clear c7
       try clear c8
       try clear c10
       try clear c10b0
       try clear c10b1
       try clear c13
       try clear c14
       try clear c17
       try clear c17b0
       try clear c17b1
       try clear c18
       try clear c21
       try clear c22
       try clear c25
       try clear c25b0
       try clear c25b1
       try clear hcz15_0
       try clear hcz15_1
       try clear hcz15_10
       try clear hcz15_11
       try clear hcz15_2
       try clear hcz15_3
       try clear hcz15_4
       try clear hcz15_5
       try clear hcz15_6
       try clear hcz15_7
       try clear hcz15_8
       try clear hcz15_9
       try clear hcz23_0
       try clear hcz23_1
       try clear hcz23_10
       try clear hcz23_11
       try clear hcz23_2
       try clear hcz23_3
       try clear hcz23_4
       try clear hcz23_5
       try clear hcz23_6
       try clear hcz23_7
       try clear hcz23_8
       try clear hcz23_9
       try clear hcz9_0
       try clear hcz9_1
       try clear hcz9_10
       try clear hcz9_11
       try clear hcz9_2
       try clear hcz9_3
       try clear hcz9_4
       try clear hcz9_5
       try clear hcz9_6
       try clear hcz9_7
       try clear hcz9_8
       try clear hcz9_9
       try clear hfz15_0
       try clear hfz15_1
       try clear hfz15_10
       try clear hfz15_11
       try clear hfz15_2
       try clear hfz15_3
       try clear hfz15_4
       try clear hfz15_5
       try clear hfz15_6
       try clear hfz15_7
       try clear hfz15_8
       try clear hfz15_9
       try clear hfz23_0
       try clear hfz23_1
       try clear hfz23_10
       try clear hfz23_11
       try clear hfz23_2
       try clear hfz23_3
       try clear hfz23_4
       try clear hfz23_5
       try clear hfz23_6
       try clear hfz23_7
       try clear hfz23_8
       try clear hfz23_9
       try clear hfz9_0
       try clear hfz9_1
       try clear hfz9_10
       try clear hfz9_11
       try clear hfz9_2
       try clear hfz9_3
       try clear hfz9_4
       try clear hfz9_5
       try clear hfz9_6
       try clear hfz9_7
       try clear hfz9_8
       try clear hfz9_9
       try clear p2
       obtain ⟨kq, x20_23, rfl, HA, HJ23, BK318, BK322, HI0, HK, HB⟩ := hcut
       cases kq with
       | zero => exact absurd HA.out (by simp [gleberef11_Take.j1])
       | succ kj23 =>
        have H := HA.out
        clear HA
        simp only [gleberef11_Take.j1] at H
        by_cases c26 : x20_23 = true
        ·subst c26
         have H1 : ((gleberef01_Reader_Num.f kj23 s0_0 t320 t321).bind fun bt335 => ((gleberef01_Reader_Num.f kj23 s0_0 bt335.2.1 bt335.2.2).bind fun bt338 => ((gleberef01_Reader_Num.f kj23 s0_0 bt338.2.1 bt338.2.2).bind fun bt341 => ((gleberef11_TakeChain.f kj23 s0_0 bt341.2.1 bt341.2.2).bind fun bt344 => (gleberef11_Take.j2 kj23 s0_0 bt344.2.1 bt344.2.2 t319 0 0 0 (⟨#[]⟩ : ByteArray) (⟨#[]⟩ : ByteArray) 0 0 bt335.1 bt338.1 bt341.1 bt344.1))))) = some (r1, r2, r3, r4, r5, r6, r7, r8, r9, r10, r11, r12, r13, r14) := by rw [if_pos rfl] at H; exact H
         clear H
         have H := H1
         clear H1
         replace H := Option.bind_eq_some_iff.mp H
         obtain ⟨⟨t335, t336, t337⟩, A270, H⟩ := H
         try dsimp only at H
         have A27 := Aside0.mk A270
         clear A270
         replace H := Option.bind_eq_some_iff.mp H
         obtain ⟨⟨t338, t339, t340⟩, A280, H⟩ := H
         try dsimp only at H
         have A28 := Aside0.mk A280
         clear A280
         replace H := Option.bind_eq_some_iff.mp H
         obtain ⟨⟨t341, t342, t343⟩, A290, H⟩ := H
         try dsimp only at H
         have A29 := Aside0.mk A290
         clear A290
         replace H := Option.bind_eq_some_iff.mp H
         obtain ⟨⟨t344, t347, t348⟩, A300, H⟩ := H
         try dsimp only at H
         have A30 := Aside0.mk A300
         clear A300
         have H' := Aside0.mk H
         clear H
         go_wp2_with (first | ((with_reducible refine gate_callee (f := 58) rfl ?_); refine goesL_ (some 24) rfl rfl Try.func58 (by kernel_rfl) rfl #[.pointer (some ⟨g, 0, none⟩)] rfl (by (try simp only [List.map_toArray, List.map_cons, List.map_nil]); first | done | rfl | (simp only [List.length_drop, List.length_take]; rfl)) ?_; (with_reducible refine (gleberef01_Reader_Num.calls kj23 g s0_0 t320 t321 t335 t336 t337 w0 _ ?side1 ?side2 A27.out).mono ?_); (case side1 => exact q8 HI0.out NB0_318.out NB0_322.out); (case side2 => exact q9 HB.out (IsS65.ge HI0.out) GE318.out GE322.out); rintro e w31 ⟨rfl, hi, hb, hk⟩; refine ⟨_, rfl, ?_⟩; have n0_ := Aside0.mk (KeepBut.blk hk (g' := gb318) (o := .cells #[.int .i64 0, .int .i64 0, .int .i64 0, .int .i64 0, .string (⟨#[]⟩ : ByteArray), .string (⟨#[]⟩ : ByteArray), .int .i64 0, .int .i64 0, .int .i64 0, .int .i64 0, .int .i64 0, .slice none 0 0] 28 (0, 0)) (bk BK318.out) NB318_0.out (by simp)); have n1_ := Aside0.mk (KeepBut.blk hk (g' := gb322) (o := .cells #[.int .i64 t319, .int .i64 0, .int .i64 0, .int .i64 0, .string (⟨#[]⟩ : ByteArray), .string (⟨#[]⟩ : ByteArray), .int .i64 0, .int .i64 0, .int .i64 0, .int .i64 0, .int .i64 0, .slice none 0 0] 28 (0, 0)) (bk BK322.out) NB322_0.out (by simp)); have n2_ := Aside0.mk (KeepBut.trans (q10 HK.out GW318.out GW322.out) hk (.inl rfl)); have n3_ := Aside0.mk (hb); have n4_ := Aside0.mk (hi); clear BK318; clear BK322; clear HK; clear HB; clear HI0; have BK318 := n0_; have BK322 := n1_; have HK := n2_; have HB := n3_; have HI0 := n4_; clear n0_ n1_ n2_ n3_ n4_; (try clear hb); (try clear hb2); (try clear hk); (try clear hi); have hnb32 := NB322_318.out; have hnc32 := NB318_322.out; have hnb33 := NB322_0.out; have hnc33 := NB0_322.out; obtain ⟨hcz34_0, hcz34_1, hcz34_2, hcz34_3, hcz34_4, hcz34_5, hcz34_6, hcz34_7, hcz34_8, hcz34_9, hcz34_10, hcz34_11⟩ := cells12 BK322.out; obtain ⟨hfz34_0, hfz34_1, hfz34_2, hfz34_3, hfz34_4, hfz34_5, hfz34_6, hfz34_7, hfz34_8, hfz34_9, hfz34_10, hfz34_11⟩ := frz12 BK322.out) | ((with_reducible refine gate_callee (f := 58) rfl ?_); refine goesL_ (some 27) rfl rfl Try.func58 (by kernel_rfl) rfl #[.pointer (some ⟨g, 0, none⟩)] rfl (by (try simp only [List.map_toArray, List.map_cons, List.map_nil]); first | done | rfl | (simp only [List.length_drop, List.length_take]; rfl)) ?_; (with_reducible refine (gleberef01_Reader_Num.calls kj23 g s0_0 t336 t337 t338 t339 t340 w0 _ ?side1 ?side2 A28.out).mono ?_); (case side1 => exact q8 HI0.out NB0_318.out NB0_322.out); (case side2 => exact q9 HB.out (IsS65.ge HI0.out) GE318.out GE322.out); rintro e w35 ⟨rfl, hi, hb, hk⟩; refine ⟨_, rfl, ?_⟩; have n0_ := Aside0.mk (KeepBut.blk hk (g' := gb318) (o := .cells #[.int .i64 0, .int .i64 0, .int .i64 0, .int .i64 0, .string (⟨#[]⟩ : ByteArray), .string (⟨#[]⟩ : ByteArray), .int .i64 0, .int .i64 0, .int .i64 0, .int .i64 0, .int .i64 0, .slice none 0 0] 28 (0, 0)) ((bp1 BK318.out NB318_322.out)) NB318_0.out (by simp)); have n1_ := Aside0.mk (KeepBut.blk hk (g' := gb322) (o := .cells #[.int .i64 t319, .int .i64 0, .int .i64 0, .int .i64 0, .string (⟨#[]⟩ : ByteArray), .string (⟨#[]⟩ : ByteArray), .int .i64 0, .int .i64 0, .int .i64 t335, .int .i64 0, .int .i64 0, .slice none 0 0] 28 (0, 0)) ((bp0 BK322.out)) NB322_0.out (by simp)); have n2_ := Aside0.mk (KeepBut.trans (q10 HK.out GW318.out GW322.out) hk (.inl rfl)); have n3_ := Aside0.mk (hb); have n4_ := Aside0.mk (hi); clear BK318; clear BK322; clear HK; clear HB; clear HI0; have BK318 := n0_; have BK322 := n1_; have HK := n2_; have HB := n3_; have HI0 := n4_; clear n0_ n1_ n2_ n3_ n4_; (try clear hb); (try clear hb2); (try clear hk); (try clear hi); obtain ⟨hcz36_0, hcz36_1, hcz36_2, hcz36_3, hcz36_4, hcz36_5, hcz36_6, hcz36_7, hcz36_8, hcz36_9, hcz36_10, hcz36_11⟩ := cells12 BK322.out; obtain ⟨hfz36_0, hfz36_1, hfz36_2, hfz36_3, hfz36_4, hfz36_5, hfz36_6, hfz36_7, hfz36_8, hfz36_9, hfz36_10, hfz36_11⟩ := frz12 BK322.out) | ((with_reducible refine gate_callee (f := 58) rfl ?_); refine goesL_ (some 30) rfl rfl Try.func58 (by kernel_rfl) rfl #[.pointer (some ⟨g, 0, none⟩)] rfl (by (try simp only [List.map_toArray, List.map_cons, List.map_nil]); first | done | rfl | (simp only [List.length_drop, List.length_take]; rfl)) ?_; (with_reducible refine (gleberef01_Reader_Num.calls kj23 g s0_0 t339 t340 t341 t342 t343 w0 _ ?side1 ?side2 A29.out).mono ?_); (case side1 => exact q8 HI0.out NB0_318.out NB0_322.out); (case side2 => exact q9 HB.out (IsS65.ge HI0.out) GE318.out GE322.out); rintro e w37 ⟨rfl, hi, hb, hk⟩; refine ⟨_, rfl, ?_⟩; have n0_ := Aside0.mk (KeepBut.blk hk (g' := gb318) (o := .cells #[.int .i64 0, .int .i64 0, .int .i64 0, .int .i64 0, .string (⟨#[]⟩ : ByteArray), .string (⟨#[]⟩ : ByteArray), .int .i64 0, .int .i64 0, .int .i64 0, .int .i64 0, .int .i64 0, .slice none 0 0] 28 (0, 0)) ((bp1 BK318.out NB318_322.out)) NB318_0.out (by simp)); have n1_ := Aside0.mk (KeepBut.blk hk (g' := gb322) (o := .cells #[.int .i64 t319, .int .i64 0, .int .i64 0, .int .i64 0, .string (⟨#[]⟩ : ByteArray), .string (⟨#[]⟩ : ByteArray), .int .i64 0, .int .i64 0, .int .i64 t335, .int .i64 t338, .int .i64 0, .slice none 0 0] 28 (0, 0)) ((bp0 BK322.out)) NB322_0.out (by simp)); have n2_ := Aside0.mk (KeepBut.trans (q10 HK.out GW318.out GW322.out) hk (.inl rfl)); have n3_ := Aside0.mk (hb); have n4_ := Aside0.mk (hi); clear BK318; clear BK322; clear HK; clear HB; clear HI0; have BK318 := n0_; have BK322 := n1_; have HK := n2_; have HB := n3_; have HI0 := n4_; clear n0_ n1_ n2_ n3_ n4_; (try clear hb); (try clear hb2); (try clear hk); (try clear hi); obtain ⟨hcz38_0, hcz38_1, hcz38_2, hcz38_3, hcz38_4, hcz38_5, hcz38_6, hcz38_7, hcz38_8, hcz38_9, hcz38_10, hcz38_11⟩ := cells12 BK322.out; obtain ⟨hfz38_0, hfz38_1, hfz38_2, hfz38_3, hfz38_4, hfz38_5, hfz38_6, hfz38_7, hfz38_8, hfz38_9, hfz38_10, hfz38_11⟩ := frz12 BK322.out) | ((with_reducible refine gate_callee (f := 38) rfl ?_); refine goesL_ (some 33) rfl rfl Try.func38 (by kernel_rfl) rfl #[.pointer (some ⟨g, 0, none⟩)] rfl (by (try simp only [List.map_toArray, List.map_cons, List.map_nil]); first | done | rfl | (simp only [List.length_drop, List.length_take]; rfl)) ?_; (with_reducible refine (gleberef11_TakeChain.calls kj23 g s0_0 t342 t343 t344 t347 t348 w0 _ ?side1 ?side2 A30.out).mono ?_); (case side1 => exact q8 HI0.out NB0_318.out NB0_322.out); (case side2 => exact q9 HB.out (IsS65.ge HI0.out) GE318.out GE322.out); rintro e w39 ⟨v345, rfl, ho0, hi, hb, hk⟩; refine ⟨_, rfl, ?_⟩; have n0_ := Aside0.mk (KeepBut.blk hk (g' := gb318) (o := .cells #[.int .i64 0, .int .i64 0, .int .i64 0, .int .i64 0, .string (⟨#[]⟩ : ByteArray), .string (⟨#[]⟩ : ByteArray), .int .i64 0, .int .i64 0, .int .i64 0, .int .i64 0, .int .i64 0, .slice none 0 0] 28 (0, 0)) ((bp1 BK318.out NB318_322.out)) NB318_0.out (by simp)); have n1_ := Aside0.mk (KeepBut.blk hk (g' := gb322) (o := .cells #[.int .i64 t319, .int .i64 0, .int .i64 0, .int .i64 0, .string (⟨#[]⟩ : ByteArray), .string (⟨#[]⟩ : ByteArray), .int .i64 0, .int .i64 0, .int .i64 t335, .int .i64 t338, .int .i64 t341, .slice none 0 0] 28 (0, 0)) ((bp0 BK322.out)) NB322_0.out (by simp)); have n2_ := Aside0.mk (Kd.R_lower ho0 (keep_size (w := w) (g := g) (row := none) (q10 HK.out GW318.out GW322.out))); have n3_ := Aside0.mk (KeepBut.trans (q10 HK.out GW318.out GW322.out) hk (.inl rfl)); have n4_ := Aside0.mk (hb); have n5_ := Aside0.mk (hi); clear BK318; clear BK322; clear HK; clear HB; clear HI0; have BK318 := n0_; have BK322 := n1_; have HO346 := n2_; have HK := n3_; have HB := n4_; have HI0 := n5_; clear n0_ n1_ n2_ n3_ n4_ n5_; (try clear hb); (try clear hb2); (try clear hk); (try clear hi); (try clear ho0); obtain ⟨Ao40, co40, eo40⟩ := Kd.R_slice HO346.out; subst eo40; obtain ⟨hcz41_0, hcz41_1, hcz41_2, hcz41_3, hcz41_4, hcz41_5, hcz41_6, hcz41_7, hcz41_8, hcz41_9, hcz41_10, hcz41_11⟩ := cells12 BK322.out; obtain ⟨hfz41_0, hfz41_1, hfz41_2, hfz41_3, hfz41_4, hfz41_5, hfz41_6, hfz41_7, hfz41_8, hfz41_9, hfz41_10, hfz41_11⟩ := frz12 BK322.out))
         go_meet
         case rel => exact ⟨_, (t347), (t348), (0), (0), (0), ((⟨#[]⟩ : ByteArray)), ((⟨#[]⟩ : ByteArray)), (0), (0), (t335), (t338), (t341), (t344), (.slice Ao40 t344.length co40), H', ⟨by have := HJ15.out; have := HJ23.out; first | omega | exact Nat.le_refl _⟩, ⟨by (with_reducible repeat (first | apply Kd.R_alloc | apply Kd.R_drewN | apply Kd.R_drew)); exact Kd.R_mono (Kd.R_far (p := ⟨gb322, 11, none⟩) (Kd.R_types HO346.out BK322.out (by decide)) (fun _ hk => hk.2) (.slice Ao40 t344.length co40)) (fun _ hk => trivial)⟩, ⟨(bp1 BK318.out NB318_322.out)⟩, ⟨(bp0 BK322.out)⟩, ⟨by exact q8 HI0.out NB0_318.out NB0_322.out⟩, ⟨by exact q10 HK.out GW318.out GW322.out⟩, ⟨by exact q9 HB.out (IsS65.ge HI0.out) GE318.out GE322.out⟩⟩
        ·replace c26 := Bool.eq_false_iff.mpr c26
         subst c26
         have H1 : (gleberef11_Take.j2 kj23 s0_0 t320 t321 t319 0 0 0 (⟨#[]⟩ : ByteArray) (⟨#[]⟩ : ByteArray) 0 0 0 0 0 ([] : List Int)) = some (r1, r2, r3, r4, r5, r6, r7, r8, r9, r10, r11, r12, r13, r14) := by rw [if_neg (show ¬ (false = true) by decide)] at H; exact H
         clear H
         have H := H1
         clear H1
         have H' := Aside0.mk H
         clear H
         go_wp2
         go_meet
         case rel => exact ⟨_, (t320), (t321), (0), (0), (0), ((⟨#[]⟩ : ByteArray)), ((⟨#[]⟩ : ByteArray)), (0), (0), (0), (0), (0), (([] : List Int)), (.slice none 0 0), H', ⟨by have := HJ15.out; have := HJ23.out; first | omega | exact Nat.le_refl _⟩, ⟨by first | exact Kd.R_nil _ _ _ _ _ | exact Kd.N_nil _ _ _ _ _ | exact Kd.V_nil _ _ _ _ _ | exact Kd.Q_nil _ _ _ _ _ | exact Kd.S_nil _ _ _ _ _⟩, ⟨by (with_reducible repeat (first | refine blk_drewN ?_ _ | refine blk_drew ?_ | refine blk_alloc ?_ _)); exact BK318.out⟩, ⟨by (with_reducible repeat (first | refine blk_drewN ?_ _ | refine blk_drew ?_ | refine blk_alloc ?_ _)); exact BK322.out⟩, ⟨by exact q8 HI0.out NB0_318.out NB0_322.out⟩, ⟨by exact q10 HK.out GW318.out GW322.out⟩, ⟨by exact q9 HB.out (IsS65.ge HI0.out) GE318.out GE322.out⟩⟩
 case rest =>
  clear HC3
  try clear c1
  try clear c2
  try clear p2
  try clear c3
  try clear c5
  try clear c7
  try clear c8
  try clear c10
  try clear c10b0
  try clear c10b1
  try clear c13
  try clear c14
  try clear c17
  try clear c17b0
  try clear c17b1
  try clear c18
  try clear c21
  try clear c22
  try clear c25
  try clear c25b0
  try clear c25b1
  try clear c26
  try clear c32
  try clear c33
  try clear c38
  try clear hcz15_0
  try clear hcz15_1
  try clear hcz15_10
  try clear hcz15_11
  try clear hcz15_2
  try clear hcz15_3
  try clear hcz15_4
  try clear hcz15_5
  try clear hcz15_6
  try clear hcz15_7
  try clear hcz15_8
  try clear hcz15_9
  try clear hcz23_0
  try clear hcz23_1
  try clear hcz23_10
  try clear hcz23_11
  try clear hcz23_2
  try clear hcz23_3
  try clear hcz23_4
  try clear hcz23_5
  try clear hcz23_6
  try clear hcz23_7
  try clear hcz23_8
  try clear hcz23_9
  try clear hcz34_0
  try clear hcz34_1
  try clear hcz34_10
  try clear hcz34_11
  try clear hcz34_2
  try clear hcz34_3
  try clear hcz34_4
  try clear hcz34_5
  try clear hcz34_6
  try clear hcz34_7
  try clear hcz34_8
  try clear hcz34_9
  try clear hcz36_0
  try clear hcz36_1
  try clear hcz36_10
  try clear hcz36_11
  try clear hcz36_2
  try clear hcz36_3
  try clear hcz36_4
  try clear hcz36_5
  try clear hcz36_6
  try clear hcz36_7
  try clear hcz36_8
  try clear hcz36_9
  try clear hcz38_0
  try clear hcz38_1
  try clear hcz38_10
  try clear hcz38_11
  try clear hcz38_2
  try clear hcz38_3
  try clear hcz38_4
  try clear hcz38_5
  try clear hcz38_6
  try clear hcz38_7
  try clear hcz38_8
  try clear hcz38_9
  try clear hcz41_0
  try clear hcz41_1
  try clear hcz41_10
  try clear hcz41_11
  try clear hcz41_2
  try clear hcz41_3
  try clear hcz41_4
  try clear hcz41_5
  try clear hcz41_6
  try clear hcz41_7
  try clear hcz41_8
  try clear hcz41_9
  try clear hcz9_0
  try clear hcz9_1
  try clear hcz9_10
  try clear hcz9_11
  try clear hcz9_2
  try clear hcz9_3
  try clear hcz9_4
  try clear hcz9_5
  try clear hcz9_6
  try clear hcz9_7
  try clear hcz9_8
  try clear hcz9_9
  try clear hfz15_0
  try clear hfz15_1
  try clear hfz15_10
  try clear hfz15_11
  try clear hfz15_2
  try clear hfz15_3
  try clear hfz15_4
  try clear hfz15_5
  try clear hfz15_6
  try clear hfz15_7
  try clear hfz15_8
  try clear hfz15_9
  try clear hfz23_0
  try clear hfz23_1
  try clear hfz23_10
  try clear hfz23_11
  try clear hfz23_2
  try clear hfz23_3
  try clear hfz23_4
  try clear hfz23_5
  try clear hfz23_6
  try clear hfz23_7
  try clear hfz23_8
  try clear hfz23_9
  try clear hfz34_0
  try clear hfz34_1
  try clear hfz34_10
  try clear hfz34_11
  try clear hfz34_2
  try clear hfz34_3
  try clear hfz34_4
  try clear hfz34_5
  try clear hfz34_6
  try clear hfz34_7
  try clear hfz34_8
  try clear hfz34_9
  try clear hfz36_0
  try clear hfz36_1
  try clear hfz36_10
  try clear hfz36_11
  try clear hfz36_2
  try clear hfz36_3
  try clear hfz36_4
  try clear hfz36_5
  try clear hfz36_6
  try clear hfz36_7
  try clear hfz36_8
  try clear hfz36_9
  try clear hfz38_0
  try clear hfz38_1
  try clear hfz38_10
  try clear hfz38_11
  try clear hfz38_2
  try clear hfz38_3
  try clear hfz38_4
  try clear hfz38_5
  try clear hfz38_6
  try clear hfz38_7
  try clear hfz38_8
  try clear hfz38_9
  try clear hfz41_0
  try clear hfz41_1
  try clear hfz41_10
  try clear hfz41_11
  try clear hfz41_2
  try clear hfz41_3
  try clear hfz41_4
  try clear hfz41_5
  try clear hfz41_6
  try clear hfz41_7
  try clear hfz41_8
  try clear hfz41_9
  try clear hfz9_0
  try clear hfz9_1
  try clear hfz9_10
  try clear hfz9_11
  try clear hfz9_2
  try clear hfz9_3
  try clear hfz9_4
  try clear hfz9_5
  try clear hfz9_6
  try clear hfz9_7
  try clear hfz9_8
  try clear hfz9_9
  try clear p2
  obtain ⟨kq, x1001_2, x1002_2, x323001_2, x323002_2, x323003_2, x323004_2, x323005_2, x323006_2, x323007_2, x323008_2, x323009_2, x323010_2, x323011_2, u323011, HA, HJ2, HO_323011, BK318, BK322, HI0, HK, HB⟩ := hcut
  cases kq with
  | zero => exact absurd HA.out (by simp [gleberef11_Take.j2])
  | succ kj2 =>
   have H := HA.out
   clear HA
   simp only [gleberef11_Take.j2] at H
   replace H := Option.bind_eq_some_iff.mp H
   obtain ⟨t349, A420, H⟩ := H
   try dsimp only at H
   have A42 := Aside0.mk A420
   clear A420
   by_cases c43 : t349 = true
   ·subst c43
    have H1 : (if x1002_2 = 0 then (some (t319, x323001_2, x323002_2, x323003_2, x323004_2, x323005_2, x323006_2, x323007_2, x323008_2, x323009_2, x323010_2, x323011_2, x1001_2, x1002_2)) else (some (0, 0, 0, 0, (⟨#[]⟩ : ByteArray), (⟨#[]⟩ : ByteArray), 0, 0, 0, 0, 0, ([] : List Int), x1001_2, x1002_2))) = some (r1, r2, r3, r4, r5, r6, r7, r8, r9, r10, r11, r12, r13, r14) := by rw [if_pos rfl] at H; exact H
    clear H
    have H := H1
    clear H1
    by_cases c44 : x1002_2 = 0
    ·rw [if_pos c44] at H
     have c44b0 : (x1002_2 == 0) = true := beq_iff_eq.mpr c44
     have c44b1 : (x1002_2 != 0) = false := bne_eq_false_iff_eq.mpr c44
     clear c44
     simp only [Option.some.injEq, Prod.mk.injEq] at H
     obtain ⟨rfl, rfl, rfl, rfl, rfl, rfl, rfl, rfl, rfl, rfl, rfl, rfl, rfl, rfl⟩ := H
     have hnb45 := NB322_318.out
     have hnc45 := NB318_322.out
     have hnb46 := NB322_0.out
     have hnc46 := NB0_322.out
     obtain ⟨hcz47_0, hcz47_1, hcz47_2, hcz47_3, hcz47_4, hcz47_5, hcz47_6, hcz47_7, hcz47_8, hcz47_9, hcz47_10, hcz47_11⟩ := cells12 BK322.out
     obtain ⟨hfz47_0, hfz47_1, hfz47_2, hfz47_3, hfz47_4, hfz47_5, hfz47_6, hfz47_7, hfz47_8, hfz47_9, hfz47_10, hfz47_11⟩ := frz12 BK322.out
     obtain ⟨Ao48, co48, eo48⟩ := Kd.R_slice HO_323011.out
     subst eo48
     go_wp2_with (first | ((with_reducible refine gate_callee (f := 23) rfl ?_); refine goesL_ (some 36) rfl rfl Try.func23 (by kernel_rfl) rfl #[.agg #[.int .i64 t319, .int .i64 x323001_2, .int .i64 x323002_2, .int .i64 x323003_2, .string x323004_2, .string x323005_2, .int .i64 x323006_2, .int .i64 x323007_2, .int .i64 x323008_2, .int .i64 x323009_2, .int .i64 x323010_2, .slice Ao48 x323011_2.length co48]] rfl (by (try simp only [List.map_toArray, List.map_cons, List.map_nil]); first | done | rfl | (simp only [List.length_drop, List.length_take]; rfl)) ?_; (with_reducible refine (gleberef11_Right.calls kj2 t319 x323001_2 x323002_2 x323003_2 x323004_2 x323005_2 x323006_2 x323007_2 x323008_2 x323009_2 x323010_2 _ _ x323011_2 true _ ?side1 ?side2 A42.out).mono ?_); (case side1 => repeat (first | exact (Kd.R_reads' HO_323011.out).2.2 | (with_reducible refine Kd.C_alloc ?_ _) | (with_reducible refine Kd.C_drewN ?_ _) | (with_reducible refine Kd.C_drew ?_))); (case side2 => exact (Kd.R_reads' HO_323011.out).2.1); rintro e w49 ⟨rfl, hb⟩; refine ⟨_, rfl, ?_⟩; have n0_ := Aside0.mk (Kd.R_below (br HO_323011.out) hb); have n1_ := Aside0.mk (blk_below (bk BK318.out) hb); have n2_ := Aside0.mk (blk_below (bk BK322.out) hb); have n3_ := Aside0.mk (IsS65.below (q8 HI0.out NB0_318.out NB0_322.out) hb); have n4_ := Aside0.mk (KeepBut.trans (q10 HK.out GW318.out GW322.out) (KeepBut.of_below hb g none) (.inl rfl)); have n5_ := Aside0.mk (below_step (q9 HB.out (IsS65.ge HI0.out) GE318.out GE322.out) hb); clear HO_323011; clear BK318; clear BK322; clear HI0; clear HK; clear HB; have HO_323011 := n0_; have BK318 := n1_; have BK322 := n2_; have HI0 := n3_; have HK := n4_; have HB := n5_; clear n0_ n1_ n2_ n3_ n4_ n5_; (try clear hb); (try clear hb2); (try clear hk); (try clear hi); obtain ⟨ASz50_0, cSz50_0, HGz50, hgz50, HSz50_0, _⟩ := HI0.out; have hcz50_0 := cellS65_0 HGz50; have hcz50_1 := cellS65_1 HGz50; have hcz50_2 := cellS65_2 HGz50; have hfz50_1 := blk_frozen HGz50 1; have hfz50_2 := blk_frozen HGz50 2; clear HGz50 hgz50; obtain ⟨hcz51_0, hcz51_1, hcz51_2, hcz51_3, hcz51_4, hcz51_5, hcz51_6, hcz51_7, hcz51_8, hcz51_9, hcz51_10, hcz51_11⟩ := cells12 BK322.out; obtain ⟨hfz51_0, hfz51_1, hfz51_2, hfz51_3, hfz51_4, hfz51_5, hfz51_6, hfz51_7, hfz51_8, hfz51_9, hfz51_10, hfz51_11⟩ := frz12 BK322.out; have hnb52 := NB318_0.out; have hnc52 := NB0_318.out; obtain ⟨hcz53_0, hcz53_1, hcz53_2, hcz53_3, hcz53_4, hcz53_5, hcz53_6, hcz53_7, hcz53_8, hcz53_9, hcz53_10, hcz53_11⟩ := cells12 BK318.out; obtain ⟨hfz53_0, hfz53_1, hfz53_2, hfz53_3, hfz53_4, hfz53_5, hfz53_6, hfz53_7, hfz53_8, hfz53_9, hfz53_10, hfz53_11⟩ := frz12 BK318.out))
     refine bodyPost_ret (results_cell_row rfl _ _ gb318 28 #[.int .i64 t319, .int .i64 x323001_2, .int .i64 x323002_2, .int .i64 x323003_2, .string x323004_2, .string x323005_2, .int .i64 x323006_2, .int .i64 x323007_2, .int .i64 x323008_2, .int .i64 x323009_2, .int .i64 x323010_2, .slice Ao48 x323011_2.length co48] (0, 0) _ rfl ((bp0 BK318.out)) Try.underlying28 rfl (by kernel_rfl)) rfl ?_
     exact ⟨_, by first | rfl | (simp [errW_none, errW_some] <;> rfl) | (simp [*, errW_none, errW_some] <;> rfl), by (with_reducible repeat (first | apply Kd.R_alloc | apply Kd.R_drewN | apply Kd.R_drew)); exact Kd.R_mono (Kd.R_far (p := ⟨gb318, 11, none⟩) (Kd.R_far (p := ⟨gb318, 10, none⟩) (Kd.R_far (p := ⟨gb318, 9, none⟩) (Kd.R_far (p := ⟨gb318, 8, none⟩) (Kd.R_far (p := ⟨gb318, 7, none⟩) (Kd.R_far (p := ⟨gb318, 6, none⟩) (Kd.R_far (p := ⟨gb318, 5, none⟩) (Kd.R_far (p := ⟨gb318, 4, none⟩) (Kd.R_far (p := ⟨gb318, 3, none⟩) (Kd.R_far (p := ⟨gb318, 2, none⟩) (Kd.R_far (p := ⟨gb318, 1, none⟩) (Kd.R_far (p := ⟨gb318, 0, none⟩) (Kd.R_types HO_323011.out BK318.out (by decide)) (fun _ hk => hk.2) (.int .i64 t319)) (fun _ hk => hk.2) (.int .i64 x323001_2)) (fun _ hk => hk.2) (.int .i64 x323002_2)) (fun _ hk => hk.2) (.int .i64 x323003_2)) (fun _ hk => hk.2) (.string x323004_2)) (fun _ hk => hk.2) (.string x323005_2)) (fun _ hk => hk.2) (.int .i64 x323006_2)) (fun _ hk => hk.2) (.int .i64 x323007_2)) (fun _ hk => hk.2) (.int .i64 x323008_2)) (fun _ hk => hk.2) (.int .i64 x323009_2)) (fun _ hk => hk.2) (.int .i64 x323010_2)) (fun _ hk => hk.2) (.slice Ao48 x323011_2.length co48)) (fun _ hk => trivial), by exact q8 HI0.out NB0_318.out NB0_322.out, by exact q9 HB.out (IsS65.ge HI0.out) GE318.out GE322.out, by exact q10 HK.out GW318.out GW322.out⟩
    ·rw [if_neg c44] at H
     have c44b0 : (x1002_2 == 0) = false := beq_eq_false_iff_ne.mpr c44
     have c44b1 : (x1002_2 != 0) = true := bne_iff_ne.mpr c44
     simp only [Option.some.injEq, Prod.mk.injEq] at H
     obtain ⟨rfl, rfl, rfl, rfl, rfl, rfl, rfl, rfl, rfl, rfl, rfl, rfl, rfl, rfl⟩ := H
     have hnb54 := NB322_318.out
     have hnc54 := NB318_322.out
     have hnb55 := NB322_0.out
     have hnc55 := NB0_322.out
     obtain ⟨hcz56_0, hcz56_1, hcz56_2, hcz56_3, hcz56_4, hcz56_5, hcz56_6, hcz56_7, hcz56_8, hcz56_9, hcz56_10, hcz56_11⟩ := cells12 BK322.out
     obtain ⟨hfz56_0, hfz56_1, hfz56_2, hfz56_3, hfz56_4, hfz56_5, hfz56_6, hfz56_7, hfz56_8, hfz56_9, hfz56_10, hfz56_11⟩ := frz12 BK322.out
     obtain ⟨Ao57, co57, eo57⟩ := Kd.R_slice HO_323011.out
     subst eo57
     go_wp2_with (first | ((with_reducible refine gate_callee (f := 23) rfl ?_); refine goesL_ (some 36) rfl rfl Try.func23 (by kernel_rfl) rfl #[.agg #[.int .i64 t319, .int .i64 x323001_2, .int .i64 x323002_2, .int .i64 x323003_2, .string x323004_2, .string x323005_2, .int .i64 x323006_2, .int .i64 x323007_2, .int .i64 x323008_2, .int .i64 x323009_2, .int .i64 x323010_2, .slice Ao57 x323011_2.length co57]] rfl (by (try simp only [List.map_toArray, List.map_cons, List.map_nil]); first | done | rfl | (simp only [List.length_drop, List.length_take]; rfl)) ?_; (with_reducible refine (gleberef11_Right.calls kj2 t319 x323001_2 x323002_2 x323003_2 x323004_2 x323005_2 x323006_2 x323007_2 x323008_2 x323009_2 x323010_2 _ _ x323011_2 true _ ?side1 ?side2 A42.out).mono ?_); (case side1 => repeat (first | exact (Kd.R_reads' HO_323011.out).2.2 | (with_reducible refine Kd.C_alloc ?_ _) | (with_reducible refine Kd.C_drewN ?_ _) | (with_reducible refine Kd.C_drew ?_))); (case side2 => exact (Kd.R_reads' HO_323011.out).2.1); rintro e w58 ⟨rfl, hb⟩; refine ⟨_, rfl, ?_⟩; have n0_ := Aside0.mk (Kd.R_below (br HO_323011.out) hb); have n1_ := Aside0.mk (blk_below (bk BK318.out) hb); have n2_ := Aside0.mk (blk_below (bk BK322.out) hb); have n3_ := Aside0.mk (IsS65.below (q8 HI0.out NB0_318.out NB0_322.out) hb); have n4_ := Aside0.mk (KeepBut.trans (q10 HK.out GW318.out GW322.out) (KeepBut.of_below hb g none) (.inl rfl)); have n5_ := Aside0.mk (below_step (q9 HB.out (IsS65.ge HI0.out) GE318.out GE322.out) hb); clear HO_323011; clear BK318; clear BK322; clear HI0; clear HK; clear HB; have HO_323011 := n0_; have BK318 := n1_; have BK322 := n2_; have HI0 := n3_; have HK := n4_; have HB := n5_; clear n0_ n1_ n2_ n3_ n4_ n5_; (try clear hb); (try clear hb2); (try clear hk); (try clear hi); obtain ⟨ASz59_0, cSz59_0, HGz59, hgz59, HSz59_0, _⟩ := HI0.out; have hcz59_0 := cellS65_0 HGz59; have hcz59_1 := cellS65_1 HGz59; have hcz59_2 := cellS65_2 HGz59; have hfz59_1 := blk_frozen HGz59 1; have hfz59_2 := blk_frozen HGz59 2; clear HGz59 hgz59; have hnb60 := NB318_0.out; have hnc60 := NB0_318.out; obtain ⟨hcz61_0, hcz61_1, hcz61_2, hcz61_3, hcz61_4, hcz61_5, hcz61_6, hcz61_7, hcz61_8, hcz61_9, hcz61_10, hcz61_11⟩ := cells12 BK318.out; obtain ⟨hfz61_0, hfz61_1, hfz61_2, hfz61_3, hfz61_4, hfz61_5, hfz61_6, hfz61_7, hfz61_8, hfz61_9, hfz61_10, hfz61_11⟩ := frz12 BK318.out))
     refine bodyPost_ret (results_cell_row rfl _ _ gb318 28 #[.int .i64 0, .int .i64 0, .int .i64 0, .int .i64 0, .string (⟨#[]⟩ : ByteArray), .string (⟨#[]⟩ : ByteArray), .int .i64 0, .int .i64 0, .int .i64 0, .int .i64 0, .int .i64 0, .slice none 0 0] (0, 0) _ rfl ((bp0 BK318.out)) Try.underlying28 rfl (by kernel_rfl)) rfl ?_
     exact ⟨_, by first | rfl | (simp [errW_none, errW_some] <;> rfl) | (simp [*, errW_none, errW_some] <;> rfl), by first | exact Kd.R_nil _ _ _ _ _ | exact Kd.N_nil _ _ _ _ _ | exact Kd.V_nil _ _ _ _ _ | exact Kd.Q_nil _ _ _ _ _ | exact Kd.S_nil _ _ _ _ _, by exact q8 HI0.out NB0_318.out NB0_322.out, by exact q9 HB.out (IsS65.ge HI0.out) GE318.out GE322.out, by exact q10 HK.out GW318.out GW322.out⟩
   ·replace c43 := Bool.eq_false_iff.mpr c43
    subst c43
    have H1 : ((gleberef01_Reader_Fail.f s0_0 x1001_2 x1002_2 21).bind fun bt350 => (if bt350.2 = 0 then (some (t319, x323001_2, x323002_2, x323003_2, x323004_2, x323005_2, x323006_2, x323007_2, x323008_2, x323009_2, x323010_2, x323011_2, bt350.1, bt350.2)) else (some (0, 0, 0, 0, (⟨#[]⟩ : ByteArray), (⟨#[]⟩ : ByteArray), 0, 0, 0, 0, 0, ([] : List Int), bt350.1, bt350.2)))) = some (r1, r2, r3, r4, r5, r6, r7, r8, r9, r10, r11, r12, r13, r14) := by rw [if_neg (show ¬ (false = true) by decide)] at H; exact H
    clear H
    have H := H1
    clear H1
    replace H := Option.bind_eq_some_iff.mp H
    obtain ⟨⟨t350, t351⟩, A620, H⟩ := H
    try dsimp only at H
    have A62 := Aside0.mk A620
    clear A620
    by_cases c63 : t351 = 0
    ·rw [if_pos c63] at H
     have c63b0 : (t351 == 0) = true := beq_iff_eq.mpr c63
     have c63b1 : (t351 != 0) = false := bne_eq_false_iff_eq.mpr c63
     clear c63
     simp only [Option.some.injEq, Prod.mk.injEq] at H
     obtain ⟨rfl, rfl, rfl, rfl, rfl, rfl, rfl, rfl, rfl, rfl, rfl, rfl, rfl, rfl⟩ := H
     have hnb64 := NB322_318.out
     have hnc64 := NB318_322.out
     have hnb65 := NB322_0.out
     have hnc65 := NB0_322.out
     obtain ⟨hcz66_0, hcz66_1, hcz66_2, hcz66_3, hcz66_4, hcz66_5, hcz66_6, hcz66_7, hcz66_8, hcz66_9, hcz66_10, hcz66_11⟩ := cells12 BK322.out
     obtain ⟨hfz66_0, hfz66_1, hfz66_2, hfz66_3, hfz66_4, hfz66_5, hfz66_6, hfz66_7, hfz66_8, hfz66_9, hfz66_10, hfz66_11⟩ := frz12 BK322.out
     obtain ⟨Ao67, co67, eo67⟩ := Kd.R_slice HO_323011.out
     subst eo67
     go_wp2_with (first | ((with_reducible refine gate_callee (f := 23) rfl ?_); refine goesL_ (some 36) rfl rfl Try.func23 (by kernel_rfl) rfl #[.agg #[.int .i64 t319, .int .i64 x323001_2, .int .i64 x323002_2, .int .i64 x323003_2, .string x323004_2, .string x323005_2, .int .i64 x323006_2, .int .i64 x323007_2, .int .i64 x323008_2, .int .i64 x323009_2, .int .i64 x323010_2, .slice Ao67 x323011_2.length co67]] rfl (by (try simp only [List.map_toArray, List.map_cons, List.map_nil]); first | done | rfl | (simp only [List.length_drop, List.length_take]; rfl)) ?_; (with_reducible refine (gleberef11_Right.calls kj2 t319 x323001_2 x323002_2 x323003_2 x323004_2 x323005_2 x323006_2 x323007_2 x323008_2 x323009_2 x323010_2 _ _ x323011_2 false _ ?side1 ?side2 A42.out).mono ?_); (case side1 => repeat (first | exact (Kd.R_reads' HO_323011.out).2.2 | (with_reducible refine Kd.C_alloc ?_ _) | (with_reducible refine Kd.C_drewN ?_ _) | (with_reducible refine Kd.C_drew ?_))); (case side2 => exact (Kd.R_reads' HO_323011.out).2.1); rintro e w68 ⟨rfl, hb⟩; refine ⟨_, rfl, ?_⟩; have n0_ := Aside0.mk (Kd.R_below (br HO_323011.out) hb); have n1_ := Aside0.mk (blk_below (bk BK318.out) hb); have n2_ := Aside0.mk (blk_below (bk BK322.out) hb); have n3_ := Aside0.mk (IsS65.below (q8 HI0.out NB0_318.out NB0_322.out) hb); have n4_ := Aside0.mk (KeepBut.trans (q10 HK.out GW318.out GW322.out) (KeepBut.of_below hb g none) (.inl rfl)); have n5_ := Aside0.mk (below_step (q9 HB.out (IsS65.ge HI0.out) GE318.out GE322.out) hb); clear HO_323011; clear BK318; clear BK322; clear HI0; clear HK; clear HB; have HO_323011 := n0_; have BK318 := n1_; have BK322 := n2_; have HI0 := n3_; have HK := n4_; have HB := n5_; clear n0_ n1_ n2_ n3_ n4_ n5_; (try clear hb); (try clear hb2); (try clear hk); (try clear hi)) | ((with_reducible refine gate_callee (f := 60) rfl ?_); refine goesL_ (some 39) rfl rfl Try.func60 (by kernel_rfl) rfl #[.pointer (some ⟨g, 0, none⟩), .int .i64 21] rfl (by (try simp only [List.map_toArray, List.map_cons, List.map_nil]); first | done | rfl | (simp only [List.length_drop, List.length_take]; rfl)) ?_; (with_reducible refine (gleberef01_Reader_Fail.calls g s0_0 x1001_2 x1002_2 21 t350 t351 w0 _ ?side1 ?side2 A62.out).mono ?_); (case side1 => exact q8 HI0.out NB0_318.out NB0_322.out); (case side2 => exact q9 HB.out (IsS65.ge HI0.out) GE318.out GE322.out); rintro e w69 ⟨rfl, hi, hb, hk⟩; refine ⟨_, rfl, ?_⟩; have n0_ := Aside0.mk (Kd.R_mono (Kd.R_keep (IsS65.apart (show IsS65 w0 _ g s0_0 x1001_2 x1002_2 from by exact q8 HI0.out NB0_318.out NB0_322.out) (br HO_323011.out) (by decide)) hk (fun _ h => h.2)) (fun _ h => h.1)); have n1_ := Aside0.mk (KeepBut.blk hk (g' := gb318) (o := .cells #[.int .i64 0, .int .i64 0, .int .i64 0, .int .i64 0, .string (⟨#[]⟩ : ByteArray), .string (⟨#[]⟩ : ByteArray), .int .i64 0, .int .i64 0, .int .i64 0, .int .i64 0, .int .i64 0, .slice none 0 0] 28 (0, 0)) (bk BK318.out) NB318_0.out (by simp)); have n2_ := Aside0.mk (KeepBut.blk hk (g' := gb322) (o := .cells #[.int .i64 t319, .int .i64 x323001_2, .int .i64 x323002_2, .int .i64 x323003_2, .string x323004_2, .string x323005_2, .int .i64 x323006_2, .int .i64 x323007_2, .int .i64 x323008_2, .int .i64 x323009_2, .int .i64 x323010_2, .slice Ao67 x323011_2.length co67] 28 (0, 0)) (bk BK322.out) NB322_0.out (by simp)); have n3_ := Aside0.mk (KeepBut.trans (q10 HK.out GW318.out GW322.out) hk (.inl rfl)); have n4_ := Aside0.mk (hb); have n5_ := Aside0.mk (hi); clear HO_323011; clear BK318; clear BK322; clear HK; clear HB; clear HI0; have HO_323011 := n0_; have BK318 := n1_; have BK322 := n2_; have HK := n3_; have HB := n4_; have HI0 := n5_; clear n0_ n1_ n2_ n3_ n4_ n5_; (try clear hb); (try clear hb2); (try clear hk); (try clear hi); obtain ⟨ASz70_0, cSz70_0, HGz70, hgz70, HSz70_0, _⟩ := HI0.out; have hcz70_0 := cellS65_0 HGz70; have hcz70_1 := cellS65_1 HGz70; have hcz70_2 := cellS65_2 HGz70; have hfz70_1 := blk_frozen HGz70 1; have hfz70_2 := blk_frozen HGz70 2; clear HGz70 hgz70; obtain ⟨hcz71_0, hcz71_1, hcz71_2, hcz71_3, hcz71_4, hcz71_5, hcz71_6, hcz71_7, hcz71_8, hcz71_9, hcz71_10, hcz71_11⟩ := cells12 BK322.out; obtain ⟨hfz71_0, hfz71_1, hfz71_2, hfz71_3, hfz71_4, hfz71_5, hfz71_6, hfz71_7, hfz71_8, hfz71_9, hfz71_10, hfz71_11⟩ := frz12 BK322.out; have hnb72 := NB318_0.out; have hnc72 := NB0_318.out; obtain ⟨hcz73_0, hcz73_1, hcz73_2, hcz73_3, hcz73_4, hcz73_5, hcz73_6, hcz73_7, hcz73_8, hcz73_9, hcz73_10, hcz73_11⟩ := cells12 BK318.out; obtain ⟨hfz73_0, hfz73_1, hfz73_2, hfz73_3, hfz73_4, hfz73_5, hfz73_6, hfz73_7, hfz73_8, hfz73_9, hfz73_10, hfz73_11⟩ := frz12 BK318.out))
     refine bodyPost_ret (results_cell_row rfl _ _ gb318 28 #[.int .i64 t319, .int .i64 x323001_2, .int .i64 x323002_2, .int .i64 x323003_2, .string x323004_2, .string x323005_2, .int .i64 x323006_2, .int .i64 x323007_2, .int .i64 x323008_2, .int .i64 x323009_2, .int .i64 x323010_2, .slice Ao67 x323011_2.length co67] (0, 0) _ rfl ((bp0 BK318.out)) Try.underlying28 rfl (by kernel_rfl)) rfl ?_
     exact ⟨_, by first | rfl | (simp [errW_none, errW_some] <;> rfl) | (simp [*, errW_none, errW_some] <;> rfl), by (with_reducible repeat (first | apply Kd.R_alloc | apply Kd.R_drewN | apply Kd.R_drew)); exact Kd.R_mono (Kd.R_far (p := ⟨gb318, 11, none⟩) (Kd.R_far (p := ⟨gb318, 10, none⟩) (Kd.R_far (p := ⟨gb318, 9, none⟩) (Kd.R_far (p := ⟨gb318, 8, none⟩) (Kd.R_far (p := ⟨gb318, 7, none⟩) (Kd.R_far (p := ⟨gb318, 6, none⟩) (Kd.R_far (p := ⟨gb318, 5, none⟩) (Kd.R_far (p := ⟨gb318, 4, none⟩) (Kd.R_far (p := ⟨gb318, 3, none⟩) (Kd.R_far (p := ⟨gb318, 2, none⟩) (Kd.R_far (p := ⟨gb318, 1, none⟩) (Kd.R_far (p := ⟨gb318, 0, none⟩) (Kd.R_types HO_323011.out BK318.out (by decide)) (fun _ hk => hk.2) (.int .i64 t319)) (fun _ hk => hk.2) (.int .i64 x323001_2)) (fun _ hk => hk.2) (.int .i64 x323002_2)) (fun _ hk => hk.2) (.int .i64 x323003_2)) (fun _ hk => hk.2) (.string x323004_2)) (fun _ hk => hk.2) (.string x323005_2)) (fun _ hk => hk.2) (.int .i64 x323006_2)) (fun _ hk => hk.2) (.int .i64 x323007_2)) (fun _ hk => hk.2) (.int .i64 x323008_2)) (fun _ hk => hk.2) (.int .i64 x323009_2)) (fun _ hk => hk.2) (.int .i64 x323010_2)) (fun _ hk => hk.2) (.slice Ao67 x323011_2.length co67)) (fun _ hk => trivial), by exact q8 HI0.out NB0_318.out NB0_322.out, by exact q9 HB.out (IsS65.ge HI0.out) GE318.out GE322.out, by exact q10 HK.out GW318.out GW322.out⟩
    ·rw [if_neg c63] at H
     have c63b0 : (t351 == 0) = false := beq_eq_false_iff_ne.mpr c63
     have c63b1 : (t351 != 0) = true := bne_iff_ne.mpr c63
     simp only [Option.some.injEq, Prod.mk.injEq] at H
     obtain ⟨rfl, rfl, rfl, rfl, rfl, rfl, rfl, rfl, rfl, rfl, rfl, rfl, rfl, rfl⟩ := H
     have hnb74 := NB322_318.out
     have hnc74 := NB318_322.out
     have hnb75 := NB322_0.out
     have hnc75 := NB0_322.out
     obtain ⟨hcz76_0, hcz76_1, hcz76_2, hcz76_3, hcz76_4, hcz76_5, hcz76_6, hcz76_7, hcz76_8, hcz76_9, hcz76_10, hcz76_11⟩ := cells12 BK322.out
     obtain ⟨hfz76_0, hfz76_1, hfz76_2, hfz76_3, hfz76_4, hfz76_5, hfz76_6, hfz76_7, hfz76_8, hfz76_9, hfz76_10, hfz76_11⟩ := frz12 BK322.out
     obtain ⟨Ao77, co77, eo77⟩ := Kd.R_slice HO_323011.out
     subst eo77
     go_wp2_with (first | ((with_reducible refine gate_callee (f := 23) rfl ?_); refine goesL_ (some 36) rfl rfl Try.func23 (by kernel_rfl) rfl #[.agg #[.int .i64 t319, .int .i64 x323001_2, .int .i64 x323002_2, .int .i64 x323003_2, .string x323004_2, .string x323005_2, .int .i64 x323006_2, .int .i64 x323007_2, .int .i64 x323008_2, .int .i64 x323009_2, .int .i64 x323010_2, .slice Ao77 x323011_2.length co77]] rfl (by (try simp only [List.map_toArray, List.map_cons, List.map_nil]); first | done | rfl | (simp only [List.length_drop, List.length_take]; rfl)) ?_; (with_reducible refine (gleberef11_Right.calls kj2 t319 x323001_2 x323002_2 x323003_2 x323004_2 x323005_2 x323006_2 x323007_2 x323008_2 x323009_2 x323010_2 _ _ x323011_2 false _ ?side1 ?side2 A42.out).mono ?_); (case side1 => repeat (first | exact (Kd.R_reads' HO_323011.out).2.2 | (with_reducible refine Kd.C_alloc ?_ _) | (with_reducible refine Kd.C_drewN ?_ _) | (with_reducible refine Kd.C_drew ?_))); (case side2 => exact (Kd.R_reads' HO_323011.out).2.1); rintro e w78 ⟨rfl, hb⟩; refine ⟨_, rfl, ?_⟩; have n0_ := Aside0.mk (Kd.R_below (br HO_323011.out) hb); have n1_ := Aside0.mk (blk_below (bk BK318.out) hb); have n2_ := Aside0.mk (blk_below (bk BK322.out) hb); have n3_ := Aside0.mk (IsS65.below (q8 HI0.out NB0_318.out NB0_322.out) hb); have n4_ := Aside0.mk (KeepBut.trans (q10 HK.out GW318.out GW322.out) (KeepBut.of_below hb g none) (.inl rfl)); have n5_ := Aside0.mk (below_step (q9 HB.out (IsS65.ge HI0.out) GE318.out GE322.out) hb); clear HO_323011; clear BK318; clear BK322; clear HI0; clear HK; clear HB; have HO_323011 := n0_; have BK318 := n1_; have BK322 := n2_; have HI0 := n3_; have HK := n4_; have HB := n5_; clear n0_ n1_ n2_ n3_ n4_ n5_; (try clear hb); (try clear hb2); (try clear hk); (try clear hi)) | ((with_reducible refine gate_callee (f := 60) rfl ?_); refine goesL_ (some 39) rfl rfl Try.func60 (by kernel_rfl) rfl #[.pointer (some ⟨g, 0, none⟩), .int .i64 21] rfl (by (try simp only [List.map_toArray, List.map_cons, List.map_nil]); first | done | rfl | (simp only [List.length_drop, List.length_take]; rfl)) ?_; (with_reducible refine (gleberef01_Reader_Fail.calls g s0_0 x1001_2 x1002_2 21 t350 t351 w0 _ ?side1 ?side2 A62.out).mono ?_); (case side1 => exact q8 HI0.out NB0_318.out NB0_322.out); (case side2 => exact q9 HB.out (IsS65.ge HI0.out) GE318.out GE322.out); rintro e w79 ⟨rfl, hi, hb, hk⟩; refine ⟨_, rfl, ?_⟩; have n0_ := Aside0.mk (Kd.R_mono (Kd.R_keep (IsS65.apart (show IsS65 w0 _ g s0_0 x1001_2 x1002_2 from by exact q8 HI0.out NB0_318.out NB0_322.out) (br HO_323011.out) (by decide)) hk (fun _ h => h.2)) (fun _ h => h.1)); have n1_ := Aside0.mk (KeepBut.blk hk (g' := gb318) (o := .cells #[.int .i64 0, .int .i64 0, .int .i64 0, .int .i64 0, .string (⟨#[]⟩ : ByteArray), .string (⟨#[]⟩ : ByteArray), .int .i64 0, .int .i64 0, .int .i64 0, .int .i64 0, .int .i64 0, .slice none 0 0] 28 (0, 0)) (bk BK318.out) NB318_0.out (by simp)); have n2_ := Aside0.mk (KeepBut.blk hk (g' := gb322) (o := .cells #[.int .i64 t319, .int .i64 x323001_2, .int .i64 x323002_2, .int .i64 x323003_2, .string x323004_2, .string x323005_2, .int .i64 x323006_2, .int .i64 x323007_2, .int .i64 x323008_2, .int .i64 x323009_2, .int .i64 x323010_2, .slice Ao77 x323011_2.length co77] 28 (0, 0)) (bk BK322.out) NB322_0.out (by simp)); have n3_ := Aside0.mk (KeepBut.trans (q10 HK.out GW318.out GW322.out) hk (.inl rfl)); have n4_ := Aside0.mk (hb); have n5_ := Aside0.mk (hi); clear HO_323011; clear BK318; clear BK322; clear HK; clear HB; clear HI0; have HO_323011 := n0_; have BK318 := n1_; have BK322 := n2_; have HK := n3_; have HB := n4_; have HI0 := n5_; clear n0_ n1_ n2_ n3_ n4_ n5_; (try clear hb); (try clear hb2); (try clear hk); (try clear hi); obtain ⟨ASz80_0, cSz80_0, HGz80, hgz80, HSz80_0, _⟩ := HI0.out; have hcz80_0 := cellS65_0 HGz80; have hcz80_1 := cellS65_1 HGz80; have hcz80_2 := cellS65_2 HGz80; have hfz80_1 := blk_frozen HGz80 1; have hfz80_2 := blk_frozen HGz80 2; clear HGz80 hgz80; have hnb81 := NB318_0.out; have hnc81 := NB0_318.out; obtain ⟨hcz82_0, hcz82_1, hcz82_2, hcz82_3, hcz82_4, hcz82_5, hcz82_6, hcz82_7, hcz82_8, hcz82_9, hcz82_10, hcz82_11⟩ := cells12 BK318.out; obtain ⟨hfz82_0, hfz82_1, hfz82_2, hfz82_3, hfz82_4, hfz82_5, hfz82_6, hfz82_7, hfz82_8, hfz82_9, hfz82_10, hfz82_11⟩ := frz12 BK318.out))
     refine bodyPost_ret (results_cell_row rfl _ _ gb318 28 #[.int .i64 0, .int .i64 0, .int .i64 0, .int .i64 0, .string (⟨#[]⟩ : ByteArray), .string (⟨#[]⟩ : ByteArray), .int .i64 0, .int .i64 0, .int .i64 0, .int .i64 0, .int .i64 0, .slice none 0 0] (0, 0) _ rfl ((bp0 BK318.out)) Try.underlying28 rfl (by kernel_rfl)) rfl ?_
     exact ⟨_, by first | rfl | (simp [errW_none, errW_some] <;> rfl) | (simp [*, errW_none, errW_some] <;> rfl), by first | exact Kd.R_nil _ _ _ _ _ | exact Kd.N_nil _ _ _ _ _ | exact Kd.V_nil _ _ _ _ _ | exact Kd.Q_nil _ _ _ _ _ | exact Kd.S_nil _ _ _ _ _, by exact q8 HI0.out NB0_318.out NB0_322.out, by exact q9 HB.out (IsS65.ge HI0.out) GE318.out GE322.out, by exact q10 HK.out GW318.out GW322.out⟩

end Go.Proofs.Ytampppdjfbabiaa.PE
