-- Written by a program of this session (wip/tools/hp.py) over the kit's print; nothing here is trusted: Lean checks it.
import Derived.Test.YtampppdjfbabiaaPEx0
import Derived.Test.YtampppdjfbabiaaPEx1
import Derived.Test.YtampppdjfbabiaaPEx2
import Derived.Test.YtampppdjfbabiaaPEx3
namespace Go.Proofs.Ytampppdjfbabiaa.PE
open Go.RowKit Go.Proofs.YtampppdjfbabiaaW.PrintWords Go.Proofs.YtampppdjfbabiaaW.PrintLast Go.Proofs.YtampppdjfbabiaaW.PrintMore
attribute [local go_sem] max2_int min2_int max_two min_two max_three min_three max_four min_four   -- for this text's walks alone
set_option linter.unusedVariables false
set_option linter.unusedSimpArgs false

/-! ### glebelaw11_EntryLooks: function 4 -/
mutual
def glebelaw11_EntryLooks.j0 : Nat → List Int → Int → Bool → Int → Int → Int → Int → ByteArray → ByteArray → Int → Int → Int → Int → Int → List Int → Int → Int → Int → Int → ByteArray → ByteArray → Int → Int → Int → Int → Int → List Int → Option (Bool)
 | 0, _, _, _, _, _, _, _, _, _, _, _, _, _, _, _, _, _, _, _, _, _, _, _, _, _, _, _ => none
 | k + 1, x2, x3, x33, x449000, x449001, x449002, x449003, x449004, x449005, x449006, x449007, x449008, x449009, x449010, x449011, x450000, x450001, x450002, x450003, x450004, x450005, x450006, x450007, x450008, x450009, x450010, x450011 => if x33 = true then ((glebelaw11_knows.f).bind fun t452 => (some t452)) else ((glebelaw11_Own.f x449000 x449001 x449002 x449003 x449004 x449005 x449006 x449007 x449008 x449009 x449010 x449011).bind fun bt453 => ((entry_Put.f k bt453.1 bt453.2.1 bt453.2.2.1 bt453.2.2.2.1 bt453.2.2.2.2.1 bt453.2.2.2.2.2.1 bt453.2.2.2.2.2.2.1 bt453.2.2.2.2.2.2.2.1 bt453.2.2.2.2.2.2.2.2.1 bt453.2.2.2.2.2.2.2.2.2.1 bt453.2.2.2.2.2.2.2.2.2.2.1 bt453.2.2.2.2.2.2.2.2.2.2.2).bind fun bt467 => ((some (([] : List Int) : List Int)).bind fun y471 => (if y471.length + x2.length < 17592186044416 then ((entry_PutChain.f k (y471 ++ x2)).bind fun bt477 => ((glebelaw11_Own.f x449000 x449001 x449002 x449003 x449004 x449005 x449006 x449007 x449008 x449009 x449010 x449011).bind fun bt481 => ((entry_Heirs.f k bt481.1 bt481.2.1 bt481.2.2.1 bt481.2.2.2.1 bt481.2.2.2.2.1 bt481.2.2.2.2.2.1 bt481.2.2.2.2.2.2.1 bt481.2.2.2.2.2.2.2.1 bt481.2.2.2.2.2.2.2.2.1 bt481.2.2.2.2.2.2.2.2.2.1 bt481.2.2.2.2.2.2.2.2.2.2.1 bt481.2.2.2.2.2.2.2.2.2.2.2).bind fun bt495 => ((gleberef11_Heirs.f k x449000 x449001 x449002 x449003 x449004 x449005 x449006 x449007 x449008 x449009 x449010 x449011).bind fun bt501 => ((some (([] : List Int) : List Int)).bind fun y507 => (if y507.length + x2.length < 17592186044416 then ((some (y507 ++ x2 : List Int)).bind fun y510 => ((entry_Without.f y510 x3).bind fun t513 => ((gleberef11_Without.f k x2 x3).bind fun t516 => ((gleberef11_SameList.f k t513 t516).bind fun t519 => (if t519 = true then ((gleberef11_SameList.f k y510 x2).bind fun t520 => (if t520 = true then ((gleberef11_SameList.f k bt495.1 bt501.1).bind fun t521 => (if t521 = true then ((gleberef11_SameList.f k bt495.2 bt501.2).bind fun t522 => (glebelaw11_EntryLooks.j1 k x2 bt467.1 bt467.2 bt477.1 bt477.2 y510 (!t522) x449000 x449001 x449002 x449003 x449004 x449005 x449006 x449007 x449008 x449009 x449010 x449011 x450000 x450001 x450002 x450003 x450004 x450005 x450006 x450007 x450008 x450009 x450010 x450011)) else (glebelaw11_EntryLooks.j1 k x2 bt467.1 bt467.2 bt477.1 bt477.2 y510 true x449000 x449001 x449002 x449003 x449004 x449005 x449006 x449007 x449008 x449009 x449010 x449011 x450000 x450001 x450002 x450003 x450004 x450005 x450006 x450007 x450008 x450009 x450010 x450011))) else (glebelaw11_EntryLooks.j1 k x2 bt467.1 bt467.2 bt477.1 bt477.2 y510 true x449000 x449001 x449002 x449003 x449004 x449005 x449006 x449007 x449008 x449009 x449010 x449011 x450000 x450001 x450002 x450003 x450004 x450005 x450006 x450007 x450008 x450009 x450010 x450011))) else (glebelaw11_EntryLooks.j1 k x2 bt467.1 bt467.2 bt477.1 bt477.2 y510 true x449000 x449001 x449002 x449003 x449004 x449005 x449006 x449007 x449008 x449009 x449010 x449011 x450000 x450001 x450002 x450003 x450004 x450005 x450006 x450007 x450008 x450009 x450010 x450011)))))) else (none))))))) else (none)))))
def glebelaw11_EntryLooks.j1 : Nat → List Int → List Int → Int → List Int → Int → List Int → Bool → Int → Int → Int → Int → ByteArray → ByteArray → Int → Int → Int → Int → Int → List Int → Int → Int → Int → Int → ByteArray → ByteArray → Int → Int → Int → Int → Int → List Int → Option (Bool)
 | 0, _, _, _, _, _, _, _, _, _, _, _, _, _, _, _, _, _, _, _, _, _, _, _, _, _, _, _, _, _, _, _ => none
 | k + 1, x2, x9, x10, x11, x12, x17, x87, x449000, x449001, x449002, x449003, x449004, x449005, x449006, x449007, x449008, x449009, x449010, x449011, x450000, x450001, x450002, x450003, x450004, x450005, x450006, x450007, x450008, x450009, x450010, x450011 => if x87 = true then (none) else ((glebelaw11_Own.f x449000 x449001 x449002 x449003 x449004 x449005 x449006 x449007 x449008 x449009 x449010 x449011).bind fun bt523 => ((entry_Clone.f bt523.1 bt523.2.1 bt523.2.2.1 bt523.2.2.2.1 bt523.2.2.2.2.1 bt523.2.2.2.2.2.1 bt523.2.2.2.2.2.2.1 bt523.2.2.2.2.2.2.2.1 bt523.2.2.2.2.2.2.2.2.1 bt523.2.2.2.2.2.2.2.2.2.1 bt523.2.2.2.2.2.2.2.2.2.2.1 bt523.2.2.2.2.2.2.2.2.2.2.2).bind fun bt538 => (glebelaw11_EntryLooks.l0 k x2 x9 x10 x11 x12 x17 0 x449000 x449001 x449002 x449003 x449004 x449005 x449006 x449007 x449008 x449009 x449010 x449011 x450000 x450001 x450002 x450003 x450004 x450005 x450006 x450007 x450008 x450009 x450010 x450011 bt523.1 bt523.2.1 bt523.2.2.1 bt523.2.2.2.1 bt523.2.2.2.2.1 bt523.2.2.2.2.2.1 bt523.2.2.2.2.2.2.1 bt523.2.2.2.2.2.2.2.1 bt523.2.2.2.2.2.2.2.2.1 bt523.2.2.2.2.2.2.2.2.2.1 bt523.2.2.2.2.2.2.2.2.2.2.1 bt523.2.2.2.2.2.2.2.2.2.2.2 bt538.1 bt538.2.1 bt538.2.2.1 bt538.2.2.2.1 bt538.2.2.2.2.1 bt538.2.2.2.2.2.1 bt538.2.2.2.2.2.2.1 bt538.2.2.2.2.2.2.2.1 bt538.2.2.2.2.2.2.2.2.1 bt538.2.2.2.2.2.2.2.2.2.1 bt538.2.2.2.2.2.2.2.2.2.2.1 bt538.2.2.2.2.2.2.2.2.2.2.2)))
def glebelaw11_EntryLooks.l0 : Nat → List Int → List Int → Int → List Int → Int → List Int → Int → Int → Int → Int → Int → ByteArray → ByteArray → Int → Int → Int → Int → Int → List Int → Int → Int → Int → Int → ByteArray → ByteArray → Int → Int → Int → Int → Int → List Int → Int → Int → Int → Int → ByteArray → ByteArray → Int → Int → Int → Int → Int → List Int → Int → Int → Int → Int → ByteArray → ByteArray → Int → Int → Int → Int → Int → List Int → Option (Bool)
 | 0, _, _, _, _, _, _, _, _, _, _, _, _, _, _, _, _, _, _, _, _, _, _, _, _, _, _, _, _, _, _, _, _, _, _, _, _, _, _, _, _, _, _, _, _, _, _, _, _, _, _, _, _, _, _, _ => none
 | k + 1, x2, x9, x10, x11, x12, x17, x20, x449000, x449001, x449002, x449003, x449004, x449005, x449006, x449007, x449008, x449009, x449010, x449011, x450000, x450001, x450002, x450003, x450004, x450005, x450006, x450007, x450008, x450009, x450010, x450011, x538000, x538001, x538002, x538003, x538004, x538005, x538006, x538007, x538008, x538009, x538010, x538011, x553000, x553001, x553002, x553003, x553004, x553005, x553006, x553007, x553008, x553009, x553010, x553011 => if x20 < (x538011.length : Int) then (if 0 ≤ x20 then (glebelaw11_EntryLooks.l0 k x2 x9 x10 x11 x12 x17 (wrap64 (x20 + 1)) x449000 x449001 x449002 x449003 x449004 x449005 x449006 x449007 x449008 x449009 x449010 x449011 x450000 x450001 x450002 x450003 x450004 x450005 x450006 x450007 x450008 x450009 x450010 x450011 x538000 x538001 x538002 x538003 x538004 x538005 x538006 x538007 x538008 x538009 x538010 (x538011.set (x20 : Int).toNat 99) x553000 x553001 x553002 x553003 x553004 x553005 x553006 x553007 x553008 x553009 x553010 x553011) else (none)) else ((gleberef11_Put.f k x449000 x449001 x449002 x449003 x449004 x449005 x449006 x449007 x449008 x449009 x449010 x449011).bind fun t554 => (if (strOfNums x9).toList = (strOfNums t554).toList then ((glebelaw11_num.f x10).bind fun t557 => ((gleberef11_Right.f k x449000 x449001 x449002 x449003 x449004 x449005 x449006 x449007 x449008 x449009 x449010 x449011).bind fun t558 => (if ((t557 == 0) == t558) = true then ((glebelaw11_num.f x10).bind fun t559 => (if t559 ≤ 1 then ((gleberef11_PutChain.f k x2).bind fun t560 => (if (strOfNums x11).toList = (strOfNums t560).toList then ((glebelaw11_num.f x12).bind fun t563 => ((gleberef11_RightChain.f x2).bind fun t564 => (if ((t563 == 0) == t564) = true then ((glebelaw11_num.f x12).bind fun t565 => (if t565 ≤ 1 then ((glebelaw11_Own.f x449000 x449001 x449002 x449003 x449004 x449005 x449006 x449007 x449008 x449009 x449010 x449011).bind fun bt566 => ((entry_Right.f k bt566.1 bt566.2.1 bt566.2.2.1 bt566.2.2.2.1 bt566.2.2.2.2.1 bt566.2.2.2.2.2.1 bt566.2.2.2.2.2.2.1 bt566.2.2.2.2.2.2.2.1 bt566.2.2.2.2.2.2.2.2.1 bt566.2.2.2.2.2.2.2.2.2.1 bt566.2.2.2.2.2.2.2.2.2.2.1 bt566.2.2.2.2.2.2.2.2.2.2.2).bind fun t580 => ((gleberef11_Right.f k x449000 x449001 x449002 x449003 x449004 x449005 x449006 x449007 x449008 x449009 x449010 x449011).bind fun t581 => (if (t580 == t581) = true then ((entry_RightChain.f x17).bind fun t582 => ((gleberef11_RightChain.f x2).bind fun t583 => (if (t582 == t583) = true then ((glebelaw11_Own.f x449000 x449001 x449002 x449003 x449004 x449005 x449006 x449007 x449008 x449009 x449010 x449011).bind fun bt584 => ((glebelaw11_Own.f x450000 x450001 x450002 x450003 x450004 x450005 x450006 x450007 x450008 x450009 x450010 x450011).bind fun bt598 => ((entry_Same.f k bt584.1 bt584.2.1 bt584.2.2.1 bt584.2.2.2.1 bt584.2.2.2.2.1 bt584.2.2.2.2.2.1 bt584.2.2.2.2.2.2.1 bt584.2.2.2.2.2.2.2.1 bt584.2.2.2.2.2.2.2.2.1 bt584.2.2.2.2.2.2.2.2.2.1 bt584.2.2.2.2.2.2.2.2.2.2.1 bt584.2.2.2.2.2.2.2.2.2.2.2 bt598.1 bt598.2.1 bt598.2.2.1 bt598.2.2.2.1 bt598.2.2.2.2.1 bt598.2.2.2.2.2.1 bt598.2.2.2.2.2.2.1 bt598.2.2.2.2.2.2.2.1 bt598.2.2.2.2.2.2.2.2.1 bt598.2.2.2.2.2.2.2.2.2.1 bt598.2.2.2.2.2.2.2.2.2.2.1 bt598.2.2.2.2.2.2.2.2.2.2.2).bind fun t612 => ((gleberef11_Same.f k x449000 x449001 x449002 x449003 x449004 x449005 x449006 x449007 x449008 x449009 x449010 x449011 x450000 x450001 x450002 x450003 x450004 x450005 x450006 x450007 x450008 x450009 x450010 x450011).bind fun t613 => (if (t612 == t613) = true then ((glebelaw11_Ref.f x553000 x553001 x553002 x553003 x553004 x553005 x553006 x553007 x553008 x553009 x553010 x553011).bind fun bt614 => ((gleberef11_Same.f k bt614.1 bt614.2.1 bt614.2.2.1 bt614.2.2.2.1 bt614.2.2.2.2.1 bt614.2.2.2.2.2.1 bt614.2.2.2.2.2.2.1 bt614.2.2.2.2.2.2.2.1 bt614.2.2.2.2.2.2.2.2.1 bt614.2.2.2.2.2.2.2.2.2.1 bt614.2.2.2.2.2.2.2.2.2.2.1 bt614.2.2.2.2.2.2.2.2.2.2.2 x449000 x449001 x449002 x449003 x449004 x449005 x449006 x449007 x449008 x449009 x449010 x449011).bind fun t628 => (if t628 = true then ((glebelaw11_knows.f).bind fun t629 => (some t629)) else (none)))) else (none)))))) else (none)))) else (none))))) else (none))) else (none)))) else (none))) else (none))) else (none)))) else (none)))
end
def glebelaw11_EntryLooks.f (k : Nat) (a0_0 : Int) (a0_1 : Int) (a0_2 : Int) (a0_3 : Int) (a0_4 : ByteArray) (a0_5 : ByteArray) (a0_6 : Int) (a0_7 : Int) (a0_8 : Int) (a0_9 : Int) (a0_10 : Int) (l0_11 : List Int) (a1_0 : Int) (a1_1 : Int) (a1_2 : Int) (a1_3 : Int) (a1_4 : ByteArray) (a1_5 : ByteArray) (a1_6 : Int) (a1_7 : Int) (a1_8 : Int) (a1_9 : Int) (a1_10 : Int) (l1_11 : List Int) (l2 : List Int) (a3 : Int) : Option (Bool) := (glebelaw11_light.f a0_0 a0_1 a0_2 a0_3 a0_4 a0_5 a0_6 a0_7 a0_8 a0_9 a0_10 l0_11).bind fun t450 => (if t450 = true then ((glebelaw11_light.f a1_0 a1_1 a1_2 a1_3 a1_4 a1_5 a1_6 a1_7 a1_8 a1_9 a1_10 l1_11).bind fun t451 => (if t451 = true then (glebelaw11_EntryLooks.j0 k l2 a3 (decide ((l2.length : Int) > 40)) a0_0 a0_1 a0_2 a0_3 a0_4 a0_5 a0_6 a0_7 a0_8 a0_9 a0_10 l0_11 a1_0 a1_1 a1_2 a1_3 a1_4 a1_5 a1_6 a1_7 a1_8 a1_9 a1_10 l1_11) else (glebelaw11_EntryLooks.j0 k l2 a3 true a0_0 a0_1 a0_2 a0_3 a0_4 a0_5 a0_6 a0_7 a0_8 a0_9 a0_10 l0_11 a1_0 a1_1 a1_2 a1_3 a1_4 a1_5 a1_6 a1_7 a1_8 a1_9 a1_10 l1_11))) else (glebelaw11_EntryLooks.j0 k l2 a3 true a0_0 a0_1 a0_2 a0_3 a0_4 a0_5 a0_6 a0_7 a0_8 a0_9 a0_10 l0_11 a1_0 a1_1 a1_2 a1_3 a1_4 a1_5 a1_6 a1_7 a1_8 a1_9 a1_10 l1_11))
theorem glebelaw11_EntryLooks.mono_l : ∀ k, (∀ y0 y1 y2 y3 y4 y5 y6 y7 y8 y9 y10 y11 y12 y13 y14 y15 y16 y17 y18 y19 y20 y21 y22 y23 y24 y25 y26, LeO (glebelaw11_EntryLooks.j0 k y0 y1 y2 y3 y4 y5 y6 y7 y8 y9 y10 y11 y12 y13 y14 y15 y16 y17 y18 y19 y20 y21 y22 y23 y24 y25 y26) (glebelaw11_EntryLooks.j0 (k + 1) y0 y1 y2 y3 y4 y5 y6 y7 y8 y9 y10 y11 y12 y13 y14 y15 y16 y17 y18 y19 y20 y21 y22 y23 y24 y25 y26)) ∧ (∀ y0 y1 y2 y3 y4 y5 y6 y7 y8 y9 y10 y11 y12 y13 y14 y15 y16 y17 y18 y19 y20 y21 y22 y23 y24 y25 y26 y27 y28 y29 y30, LeO (glebelaw11_EntryLooks.j1 k y0 y1 y2 y3 y4 y5 y6 y7 y8 y9 y10 y11 y12 y13 y14 y15 y16 y17 y18 y19 y20 y21 y22 y23 y24 y25 y26 y27 y28 y29 y30) (glebelaw11_EntryLooks.j1 (k + 1) y0 y1 y2 y3 y4 y5 y6 y7 y8 y9 y10 y11 y12 y13 y14 y15 y16 y17 y18 y19 y20 y21 y22 y23 y24 y25 y26 y27 y28 y29 y30)) ∧ (∀ y0 y1 y2 y3 y4 y5 y6 y7 y8 y9 y10 y11 y12 y13 y14 y15 y16 y17 y18 y19 y20 y21 y22 y23 y24 y25 y26 y27 y28 y29 y30 y31 y32 y33 y34 y35 y36 y37 y38 y39 y40 y41 y42 y43 y44 y45 y46 y47 y48 y49 y50 y51 y52 y53 y54, LeO (glebelaw11_EntryLooks.l0 k y0 y1 y2 y3 y4 y5 y6 y7 y8 y9 y10 y11 y12 y13 y14 y15 y16 y17 y18 y19 y20 y21 y22 y23 y24 y25 y26 y27 y28 y29 y30 y31 y32 y33 y34 y35 y36 y37 y38 y39 y40 y41 y42 y43 y44 y45 y46 y47 y48 y49 y50 y51 y52 y53 y54) (glebelaw11_EntryLooks.l0 (k + 1) y0 y1 y2 y3 y4 y5 y6 y7 y8 y9 y10 y11 y12 y13 y14 y15 y16 y17 y18 y19 y20 y21 y22 y23 y24 y25 y26 y27 y28 y29 y30 y31 y32 y33 y34 y35 y36 y37 y38 y39 y40 y41 y42 y43 y44 y45 y46 y47 y48 y49 y50 y51 y52 y53 y54))
 | 0 => ⟨fun _ _ _ _ _ _ _ _ _ _ _ _ _ _ _ _ _ _ _ _ _ _ _ _ _ _ _ r h => by simp [glebelaw11_EntryLooks.j0] at h, fun _ _ _ _ _ _ _ _ _ _ _ _ _ _ _ _ _ _ _ _ _ _ _ _ _ _ _ _ _ _ _ r h => by simp [glebelaw11_EntryLooks.j1] at h, fun _ _ _ _ _ _ _ _ _ _ _ _ _ _ _ _ _ _ _ _ _ _ _ _ _ _ _ _ _ _ _ _ _ _ _ _ _ _ _ _ _ _ _ _ _ _ _ _ _ _ _ _ _ _ _ r h => by simp [glebelaw11_EntryLooks.l0] at h⟩
 | k + 1 => by
  obtain ⟨ih0, ih1, ih2⟩ := glebelaw11_EntryLooks.mono_l k
  refine ⟨?_, ?_, ?_⟩
  ·intro y0 y1 y2 y3 y4 y5 y6 y7 y8 y9 y10 y11 y12 y13 y14 y15 y16 y17 y18 y19 y20 y21 y22 y23 y24 y25 y26
   unfold glebelaw11_EntryLooks.j0
   repeat' first
   | (with_reducible exact ih0 _ _ _ _ _ _ _ _ _ _ _ _ _ _ _ _ _ _ _ _ _ _ _ _ _ _ _)
   | (with_reducible exact ih1 _ _ _ _ _ _ _ _ _ _ _ _ _ _ _ _ _ _ _ _ _ _ _ _ _ _ _ _ _ _ _)
   | (with_reducible exact ih2 _ _ _ _ _ _ _ _ _ _ _ _ _ _ _ _ _ _ _ _ _ _ _ _ _ _ _ _ _ _ _ _ _ _ _ _ _ _ _ _ _ _ _ _ _ _ _ _ _ _ _ _ _ _ _)
   | (with_reducible exact entry_Heirs.mono _ _ _ _ _ _ _ _ _ _ _ _ _)
   | (with_reducible exact entry_Put.mono _ _ _ _ _ _ _ _ _ _ _ _ _)
   | (with_reducible exact entry_PutChain.mono _ _)
   | (with_reducible exact entry_Right.mono _ _ _ _ _ _ _ _ _ _ _ _ _)
   | (with_reducible exact entry_Same.mono _ _ _ _ _ _ _ _ _ _ _ _ _ _ _ _ _ _ _ _ _ _ _ _ _)
   | (with_reducible exact gleberef11_Heirs.mono _ _ _ _ _ _ _ _ _ _ _ _ _)
   | (with_reducible exact gleberef11_Put.mono _ _ _ _ _ _ _ _ _ _ _ _ _)
   | (with_reducible exact gleberef11_PutChain.mono _ _)
   | (with_reducible exact gleberef11_Right.mono _ _ _ _ _ _ _ _ _ _ _ _ _)
   | (with_reducible exact gleberef11_Same.mono _ _ _ _ _ _ _ _ _ _ _ _ _ _ _ _ _ _ _ _ _ _ _ _ _)
   | (with_reducible exact gleberef11_SameList.mono _ _ _)
   | (with_reducible exact gleberef11_Without.mono _ _ _)
   | (with_reducible exact LeO.refl _)
   | (with_reducible exact LeO.none _)
   | (with_reducible refine LeO.ite ?_ ?_)
   | (with_reducible refine LeO.bind ?_ (fun _ => ?_))
   | exact ih0 _ _ _ _ _ _ _ _ _ _ _ _ _ _ _ _ _ _ _ _ _ _ _ _ _ _ _
   | exact ih1 _ _ _ _ _ _ _ _ _ _ _ _ _ _ _ _ _ _ _ _ _ _ _ _ _ _ _ _ _ _ _
   | exact ih2 _ _ _ _ _ _ _ _ _ _ _ _ _ _ _ _ _ _ _ _ _ _ _ _ _ _ _ _ _ _ _ _ _ _ _ _ _ _ _ _ _ _ _ _ _ _ _ _ _ _ _ _ _ _ _
   | exact entry_Heirs.mono _ _ _ _ _ _ _ _ _ _ _ _ _
   | exact entry_Put.mono _ _ _ _ _ _ _ _ _ _ _ _ _
   | exact entry_PutChain.mono _ _
   | exact entry_Right.mono _ _ _ _ _ _ _ _ _ _ _ _ _
   | exact entry_Same.mono _ _ _ _ _ _ _ _ _ _ _ _ _ _ _ _ _ _ _ _ _ _ _ _ _
   | exact gleberef11_Heirs.mono _ _ _ _ _ _ _ _ _ _ _ _ _
   | exact gleberef11_Put.mono _ _ _ _ _ _ _ _ _ _ _ _ _
   | exact gleberef11_PutChain.mono _ _
   | exact gleberef11_Right.mono _ _ _ _ _ _ _ _ _ _ _ _ _
   | exact gleberef11_Same.mono _ _ _ _ _ _ _ _ _ _ _ _ _ _ _ _ _ _ _ _ _ _ _ _ _
   | exact gleberef11_SameList.mono _ _ _
   | exact gleberef11_Without.mono _ _ _
   | exact LeO.none _
   | refine LeO.ite ?_ ?_
   | refine LeO.bind ?_ (fun _ => ?_)
  ·intro y0 y1 y2 y3 y4 y5 y6 y7 y8 y9 y10 y11 y12 y13 y14 y15 y16 y17 y18 y19 y20 y21 y22 y23 y24 y25 y26 y27 y28 y29 y30
   unfold glebelaw11_EntryLooks.j1
   repeat' first
   | (with_reducible exact ih0 _ _ _ _ _ _ _ _ _ _ _ _ _ _ _ _ _ _ _ _ _ _ _ _ _ _ _)
   | (with_reducible exact ih1 _ _ _ _ _ _ _ _ _ _ _ _ _ _ _ _ _ _ _ _ _ _ _ _ _ _ _ _ _ _ _)
   | (with_reducible exact ih2 _ _ _ _ _ _ _ _ _ _ _ _ _ _ _ _ _ _ _ _ _ _ _ _ _ _ _ _ _ _ _ _ _ _ _ _ _ _ _ _ _ _ _ _ _ _ _ _ _ _ _ _ _ _ _)
   | (with_reducible exact entry_Heirs.mono _ _ _ _ _ _ _ _ _ _ _ _ _)
   | (with_reducible exact entry_Put.mono _ _ _ _ _ _ _ _ _ _ _ _ _)
   | (with_reducible exact entry_PutChain.mono _ _)
   | (with_reducible exact entry_Right.mono _ _ _ _ _ _ _ _ _ _ _ _ _)
   | (with_reducible exact entry_Same.mono _ _ _ _ _ _ _ _ _ _ _ _ _ _ _ _ _ _ _ _ _ _ _ _ _)
   | (with_reducible exact gleberef11_Heirs.mono _ _ _ _ _ _ _ _ _ _ _ _ _)
   | (with_reducible exact gleberef11_Put.mono _ _ _ _ _ _ _ _ _ _ _ _ _)
   | (with_reducible exact gleberef11_PutChain.mono _ _)
   | (with_reducible exact gleberef11_Right.mono _ _ _ _ _ _ _ _ _ _ _ _ _)
   | (with_reducible exact gleberef11_Same.mono _ _ _ _ _ _ _ _ _ _ _ _ _ _ _ _ _ _ _ _ _ _ _ _ _)
   | (with_reducible exact gleberef11_SameList.mono _ _ _)
   | (with_reducible exact gleberef11_Without.mono _ _ _)
   | (with_reducible exact LeO.refl _)
   | (with_reducible exact LeO.none _)
   | (with_reducible refine LeO.ite ?_ ?_)
   | (with_reducible refine LeO.bind ?_ (fun _ => ?_))
   | exact ih0 _ _ _ _ _ _ _ _ _ _ _ _ _ _ _ _ _ _ _ _ _ _ _ _ _ _ _
   | exact ih1 _ _ _ _ _ _ _ _ _ _ _ _ _ _ _ _ _ _ _ _ _ _ _ _ _ _ _ _ _ _ _
   | exact ih2 _ _ _ _ _ _ _ _ _ _ _ _ _ _ _ _ _ _ _ _ _ _ _ _ _ _ _ _ _ _ _ _ _ _ _ _ _ _ _ _ _ _ _ _ _ _ _ _ _ _ _ _ _ _ _
   | exact entry_Heirs.mono _ _ _ _ _ _ _ _ _ _ _ _ _
   | exact entry_Put.mono _ _ _ _ _ _ _ _ _ _ _ _ _
   | exact entry_PutChain.mono _ _
   | exact entry_Right.mono _ _ _ _ _ _ _ _ _ _ _ _ _
   | exact entry_Same.mono _ _ _ _ _ _ _ _ _ _ _ _ _ _ _ _ _ _ _ _ _ _ _ _ _
   | exact gleberef11_Heirs.mono _ _ _ _ _ _ _ _ _ _ _ _ _
   | exact gleberef11_Put.mono _ _ _ _ _ _ _ _ _ _ _ _ _
   | exact gleberef11_PutChain.mono _ _
   | exact gleberef11_Right.mono _ _ _ _ _ _ _ _ _ _ _ _ _
   | exact gleberef11_Same.mono _ _ _ _ _ _ _ _ _ _ _ _ _ _ _ _ _ _ _ _ _ _ _ _ _
   | exact gleberef11_SameList.mono _ _ _
   | exact gleberef11_Without.mono _ _ _
   | exact LeO.none _
   | refine LeO.ite ?_ ?_
   | refine LeO.bind ?_ (fun _ => ?_)
  ·intro y0 y1 y2 y3 y4 y5 y6 y7 y8 y9 y10 y11 y12 y13 y14 y15 y16 y17 y18 y19 y20 y21 y22 y23 y24 y25 y26 y27 y28 y29 y30 y31 y32 y33 y34 y35 y36 y37 y38 y39 y40 y41 y42 y43 y44 y45 y46 y47 y48 y49 y50 y51 y52 y53 y54
   unfold glebelaw11_EntryLooks.l0
   repeat' first
   | (with_reducible exact ih0 _ _ _ _ _ _ _ _ _ _ _ _ _ _ _ _ _ _ _ _ _ _ _ _ _ _ _)
   | (with_reducible exact ih1 _ _ _ _ _ _ _ _ _ _ _ _ _ _ _ _ _ _ _ _ _ _ _ _ _ _ _ _ _ _ _)
   | (with_reducible exact ih2 _ _ _ _ _ _ _ _ _ _ _ _ _ _ _ _ _ _ _ _ _ _ _ _ _ _ _ _ _ _ _ _ _ _ _ _ _ _ _ _ _ _ _ _ _ _ _ _ _ _ _ _ _ _ _)
   | (with_reducible exact entry_Heirs.mono _ _ _ _ _ _ _ _ _ _ _ _ _)
   | (with_reducible exact entry_Put.mono _ _ _ _ _ _ _ _ _ _ _ _ _)
   | (with_reducible exact entry_PutChain.mono _ _)
   | (with_reducible exact entry_Right.mono _ _ _ _ _ _ _ _ _ _ _ _ _)
   | (with_reducible exact entry_Same.mono _ _ _ _ _ _ _ _ _ _ _ _ _ _ _ _ _ _ _ _ _ _ _ _ _)
   | (with_reducible exact gleberef11_Heirs.mono _ _ _ _ _ _ _ _ _ _ _ _ _)
   | (with_reducible exact gleberef11_Put.mono _ _ _ _ _ _ _ _ _ _ _ _ _)
   | (with_reducible exact gleberef11_PutChain.mono _ _)
   | (with_reducible exact gleberef11_Right.mono _ _ _ _ _ _ _ _ _ _ _ _ _)
   | (with_reducible exact gleberef11_Same.mono _ _ _ _ _ _ _ _ _ _ _ _ _ _ _ _ _ _ _ _ _ _ _ _ _)
   | (with_reducible exact gleberef11_SameList.mono _ _ _)
   | (with_reducible exact gleberef11_Without.mono _ _ _)
   | (with_reducible exact LeO.refl _)
   | (with_reducible exact LeO.none _)
   | (with_reducible refine LeO.ite ?_ ?_)
   | (with_reducible refine LeO.bind ?_ (fun _ => ?_))
   | exact ih0 _ _ _ _ _ _ _ _ _ _ _ _ _ _ _ _ _ _ _ _ _ _ _ _ _ _ _
   | exact ih1 _ _ _ _ _ _ _ _ _ _ _ _ _ _ _ _ _ _ _ _ _ _ _ _ _ _ _ _ _ _ _
   | exact ih2 _ _ _ _ _ _ _ _ _ _ _ _ _ _ _ _ _ _ _ _ _ _ _ _ _ _ _ _ _ _ _ _ _ _ _ _ _ _ _ _ _ _ _ _ _ _ _ _ _ _ _ _ _ _ _
   | exact entry_Heirs.mono _ _ _ _ _ _ _ _ _ _ _ _ _
   | exact entry_Put.mono _ _ _ _ _ _ _ _ _ _ _ _ _
   | exact entry_PutChain.mono _ _
   | exact entry_Right.mono _ _ _ _ _ _ _ _ _ _ _ _ _
   | exact entry_Same.mono _ _ _ _ _ _ _ _ _ _ _ _ _ _ _ _ _ _ _ _ _ _ _ _ _
   | exact gleberef11_Heirs.mono _ _ _ _ _ _ _ _ _ _ _ _ _
   | exact gleberef11_Put.mono _ _ _ _ _ _ _ _ _ _ _ _ _
   | exact gleberef11_PutChain.mono _ _
   | exact gleberef11_Right.mono _ _ _ _ _ _ _ _ _ _ _ _ _
   | exact gleberef11_Same.mono _ _ _ _ _ _ _ _ _ _ _ _ _ _ _ _ _ _ _ _ _ _ _ _ _
   | exact gleberef11_SameList.mono _ _ _
   | exact gleberef11_Without.mono _ _ _
   | exact LeO.none _
   | refine LeO.ite ?_ ?_
   | refine LeO.bind ?_ (fun _ => ?_)
theorem glebelaw11_EntryLooks.mono : ∀ a0 a1 a2 a3 a4 a5 a6 a7 a8 a9 a10 a11 a12 a13 a14 a15 a16 a17 a18 a19 a20 a21 a22 a23 a24 a25 k, LeO (glebelaw11_EntryLooks.f k a0 a1 a2 a3 a4 a5 a6 a7 a8 a9 a10 a11 a12 a13 a14 a15 a16 a17 a18 a19 a20 a21 a22 a23 a24 a25) (glebelaw11_EntryLooks.f (k + 1) a0 a1 a2 a3 a4 a5 a6 a7 a8 a9 a10 a11 a12 a13 a14 a15 a16 a17 a18 a19 a20 a21 a22 a23 a24 a25) := by
 intro a0 a1 a2 a3 a4 a5 a6 a7 a8 a9 a10 a11 a12 a13 a14 a15 a16 a17 a18 a19 a20 a21 a22 a23 a24 a25 k
 obtain ⟨ih0, ih1, ih2⟩ := glebelaw11_EntryLooks.mono_l k
 unfold glebelaw11_EntryLooks.f
 repeat' first
   | (with_reducible exact ih0 _ _ _ _ _ _ _ _ _ _ _ _ _ _ _ _ _ _ _ _ _ _ _ _ _ _ _)
   | (with_reducible exact ih1 _ _ _ _ _ _ _ _ _ _ _ _ _ _ _ _ _ _ _ _ _ _ _ _ _ _ _ _ _ _ _)
   | (with_reducible exact ih2 _ _ _ _ _ _ _ _ _ _ _ _ _ _ _ _ _ _ _ _ _ _ _ _ _ _ _ _ _ _ _ _ _ _ _ _ _ _ _ _ _ _ _ _ _ _ _ _ _ _ _ _ _ _ _)
   | (with_reducible exact entry_Heirs.mono _ _ _ _ _ _ _ _ _ _ _ _ _)
   | (with_reducible exact entry_Put.mono _ _ _ _ _ _ _ _ _ _ _ _ _)
   | (with_reducible exact entry_PutChain.mono _ _)
   | (with_reducible exact entry_Right.mono _ _ _ _ _ _ _ _ _ _ _ _ _)
   | (with_reducible exact entry_Same.mono _ _ _ _ _ _ _ _ _ _ _ _ _ _ _ _ _ _ _ _ _ _ _ _ _)
   | (with_reducible exact gleberef11_Heirs.mono _ _ _ _ _ _ _ _ _ _ _ _ _)
   | (with_reducible exact gleberef11_Put.mono _ _ _ _ _ _ _ _ _ _ _ _ _)
   | (with_reducible exact gleberef11_PutChain.mono _ _)
   | (with_reducible exact gleberef11_Right.mono _ _ _ _ _ _ _ _ _ _ _ _ _)
   | (with_reducible exact gleberef11_Same.mono _ _ _ _ _ _ _ _ _ _ _ _ _ _ _ _ _ _ _ _ _ _ _ _ _)
   | (with_reducible exact gleberef11_SameList.mono _ _ _)
   | (with_reducible exact gleberef11_Without.mono _ _ _)
   | (with_reducible exact LeO.refl _)
   | (with_reducible exact LeO.none _)
   | (with_reducible refine LeO.ite ?_ ?_)
   | (with_reducible refine LeO.bind ?_ (fun _ => ?_))
   | exact ih0 _ _ _ _ _ _ _ _ _ _ _ _ _ _ _ _ _ _ _ _ _ _ _ _ _ _ _
   | exact ih1 _ _ _ _ _ _ _ _ _ _ _ _ _ _ _ _ _ _ _ _ _ _ _ _ _ _ _ _ _ _ _
   | exact ih2 _ _ _ _ _ _ _ _ _ _ _ _ _ _ _ _ _ _ _ _ _ _ _ _ _ _ _ _ _ _ _ _ _ _ _ _ _ _ _ _ _ _ _ _ _ _ _ _ _ _ _ _ _ _ _
   | exact entry_Heirs.mono _ _ _ _ _ _ _ _ _ _ _ _ _
   | exact entry_Put.mono _ _ _ _ _ _ _ _ _ _ _ _ _
   | exact entry_PutChain.mono _ _
   | exact entry_Right.mono _ _ _ _ _ _ _ _ _ _ _ _ _
   | exact entry_Same.mono _ _ _ _ _ _ _ _ _ _ _ _ _ _ _ _ _ _ _ _ _ _ _ _ _
   | exact gleberef11_Heirs.mono _ _ _ _ _ _ _ _ _ _ _ _ _
   | exact gleberef11_Put.mono _ _ _ _ _ _ _ _ _ _ _ _ _
   | exact gleberef11_PutChain.mono _ _
   | exact gleberef11_Right.mono _ _ _ _ _ _ _ _ _ _ _ _ _
   | exact gleberef11_Same.mono _ _ _ _ _ _ _ _ _ _ _ _ _ _ _ _ _ _ _ _ _ _ _ _ _
   | exact gleberef11_SameList.mono _ _ _
   | exact gleberef11_Without.mono _ _ _
   | exact LeO.none _
   | refine LeO.ite ?_ ?_
   | refine LeO.bind ?_ (fun _ => ?_)
def glebelaw11_EntryLooks.T16 : Bool × List (List Nat × List Nat) := (true, [([], []), ([0], [0]), ([], []), ([2], [2]), ([3], [3]), ([1, 4], [1, 4]), ([5, 3], [5]), ([6], [6]), ([7, 6, 6], [6, 7]), ([8, 6], [6, 8]), ([6], [6]), ([10, 8, 6], [6, 10]), ([9, 11, 6], [6, 9, 11]), ([6, 12], [6, 12]), ([13, 11], [13]), ([14], [14]), ([15, 14, 14], [14, 15]), ([16, 14], [14, 16]), ([14, 17], [14, 17]), ([18, 16], [18]), ([19], [19]), ([20, 19], [19, 20]), ([19], [19]), ([22, 19, 19], [19, 22]), ([23, 19], [19, 23]), ([21, 24, 19], [19, 21, 24]), ([19, 25], [19, 25]), ([26, 23], [26]), ([27], [27]), ([28, 27, 27], [27, 28]), ([29, 27], [27, 29]), ([27], [27]), ([31, 29, 27], [27, 31]), ([30, 32, 27], [27, 30, 32]), ([27, 33], [27, 33]), ([34, 32], [34]), ([35], [35]), ([36, 35, 35], [35, 36]), ([37, 35], [35, 37]), ([35, 38], [35, 38]), ([39, 37], [39]), ([40], [40]), ([41, 40, 40], [40, 41]), ([42, 42, 40], [40, 42]), ([40], [40]), ([44, 43, 40], [40, 44]), ([43, 45, 40], [40, 43, 45]), ([40, 46], [40, 46]), ([47, 45], [47]), ([48], [48]), ([49, 48, 48], [48, 49]), ([48], [48]), ([51, 50, 48], [48, 51]), ([50, 52, 48], [48, 50, 52]), ([48, 53], [48, 53]), ([54, 52], [54]), ([55], [55]), ([56, 55, 55], [55, 56]), ([55], [55]), ([58, 57, 55], [55, 58]), ([57, 59, 59, 55], [55, 57, 59]), ([55], [55]), ([55], [55]), ([61, 62, 60, 55], [55, 61, 62]), ([60, 63, 55], [55, 60, 63]), ([55, 64], [55, 64]), ([65, 63], [65]), ([66], [66]), ([67, 66, 66], [66, 67]), ([66], [66]), ([68, 69, 68, 66], [66, 68, 69]), ([66, 70], [66, 70]), ([71, 70], [71]), ([72, 72], [72]), ([72, 73], [72, 73]), ([74, 73, 0, 1, 2, 3, 4, 5, 6, 7, 8, 9, 10, 11, 12, 13, 14, 15, 16, 17, 18, 19, 20, 21, 22, 23, 24, 25, 26, 27, 28, 29, 30, 31, 32, 33, 34, 35, 36, 37, 38, 39, 40, 41, 42, 43, 44, 45, 46, 47, 48, 49, 50, 51, 52, 53, 54, 55, 56, 57, 58, 59, 60, 61, 62, 63, 64, 65, 66, 67, 68, 69, 70, 71, 72, 73, 74], [74])])
def glebelaw11_EntryLooks.B16 : List Nat := [0, 1, 0, 4, 12, 31, 63, 127, 255, 511, 127, 1535, 4095, 8191, 16383, 32767, 65535, 131071, 262143, 524287, 1048575, 2097151, 1048575, 5242879, 13631487, 33554431, 67108863, 134217727, 268435455, 536870911, 1073741823, 268435455, 3221225471, 8589934591, 17179869183, 34359738367, 68719476735, 137438953471, 274877906943, 549755813887, 1099511627775, 2199023255551, 4398046511103, 8796093022207, 2199023255551, 35184372088831, 70368744177663, 140737488355327, 281474976710655, 562949953421311, 1125899906842623, 562949953421311, 4503599627370495, 9007199254740991, 18014398509481983, 36028797018963967, 72057594037927935, 144115188075855871, 72057594037927935, 576460752303423487, 1152921504606846975, 72057594037927935, 72057594037927935, 9223372036854775807, 18446744073709551615, 36893488147419103231, 73786976294838206463, 147573952589676412927, 295147905179352825855, 147573952589676412927, 1180591620717411303423, 2361183241434822606847, 4722366482869645213695, 9444732965739290427391, 18889465931478580854783, 37778931862957161709567]
theorem glebelaw11_EntryLooks.tab16 : rtab .any (opsOf Try.f4 16) = glebelaw11_EntryLooks.T16 := by kernel_rfl
theorem glebelaw11_EntryLooks.bits16 : waitsOk glebelaw11_EntryLooks.T16.2 glebelaw11_EntryLooks.B16 = true := by kernel_rfl
set_option maxHeartbeats 64000000 in
set_option maxRecDepth 100000 in
theorem glebelaw11_EntryLooks.calls (k : Nat) (a0_0 : Int) (a0_1 : Int) (a0_2 : Int) (a0_3 : Int) (a0_4 : ByteArray) (a0_5 : ByteArray) (a0_6 : Int) (a0_7 : Int) (a0_8 : Int) (a0_9 : Int) (a0_10 : Int) (A0_11 : Option Addr) (c0_11 : Nat) (l0_11 : List Int) (a1_0 : Int) (a1_1 : Int) (a1_2 : Int) (a1_3 : Int) (a1_4 : ByteArray) (a1_5 : ByteArray) (a1_6 : Int) (a1_7 : Int) (a1_8 : Int) (a1_9 : Int) (a1_10 : Int) (A1_11 : Option Addr) (c1_11 : Nat) (l1_11 : List Int) (A2 : Option Addr) (c2 : Nat) (l2 : List Int) (a3 : Int) (r : Bool) (w : World) (hr0_11 : Kd.C (Kd.int .i64) w A0_11 l0_11.length l0_11) (hc0_11 : l0_11.length ≤ c0_11) (hr1_11 : Kd.C (Kd.int .i64) w A1_11 l1_11.length l1_11) (hc1_11 : l1_11.length ≤ c1_11) (hr2 : Kd.C (Kd.int .i64) w A2 l2.length l2) (hc2 : l2.length ≤ c2) (h : glebelaw11_EntryLooks.f k a0_0 a0_1 a0_2 a0_3 a0_4 a0_5 a0_6 a0_7 a0_8 a0_9 a0_10 l0_11 a1_0 a1_1 a1_2 a1_3 a1_4 a1_5 a1_6 a1_7 a1_8 a1_9 a1_10 l1_11 l2 a3 = some r) :
  Calls Try.prog 4 #[.agg #[.int .i64 a0_0, .int .i64 a0_1, .int .i64 a0_2, .int .i64 a0_3, .string a0_4, .string a0_5, .int .i64 a0_6, .int .i64 a0_7, .int .i64 a0_8, .int .i64 a0_9, .int .i64 a0_10, .slice A0_11 l0_11.length c0_11], .agg #[.int .i64 a1_0, .int .i64 a1_1, .int .i64 a1_2, .int .i64 a1_3, .string a1_4, .string a1_5, .int .i64 a1_6, .int .i64 a1_7, .int .i64 a1_8, .int .i64 a1_9, .int .i64 a1_10, .slice A1_11 l1_11.length c1_11], .slice A2 l2.length c2, .int .i64 a3] w fun e w' => e = .returned (.bool r) ∧ Below w.heap.size w w' := by
 have hu28 := Try.underlying28
 have hu35 := Try.underlying35
 have HR0_11 := Aside0.mk hr0_11
 have HC0_11 := Aside0.mk hc0_11
 clear hr0_11 hc0_11
 have HR1_11 := Aside0.mk hr1_11
 have HC1_11 := Aside0.mk hc1_11
 clear hr1_11 hc1_11
 have HR2 := Aside0.mk hr2
 have HC2 := Aside0.mk hc2
 clear hr2 hc2
 have HB := Aside0.mk (Below.refl w.heap.size w)
 have H : ((glebelaw11_light.f a0_0 a0_1 a0_2 a0_3 a0_4 a0_5 a0_6 a0_7 a0_8 a0_9 a0_10 l0_11).bind fun t450 => (if t450 = true then ((glebelaw11_light.f a1_0 a1_1 a1_2 a1_3 a1_4 a1_5 a1_6 a1_7 a1_8 a1_9 a1_10 l1_11).bind fun t451 => (if t451 = true then (glebelaw11_EntryLooks.j0 k l2 a3 (decide ((l2.length : Int) > 40)) a0_0 a0_1 a0_2 a0_3 a0_4 a0_5 a0_6 a0_7 a0_8 a0_9 a0_10 l0_11 a1_0 a1_1 a1_2 a1_3 a1_4 a1_5 a1_6 a1_7 a1_8 a1_9 a1_10 l1_11) else (glebelaw11_EntryLooks.j0 k l2 a3 true a0_0 a0_1 a0_2 a0_3 a0_4 a0_5 a0_6 a0_7 a0_8 a0_9 a0_10 l0_11 a1_0 a1_1 a1_2 a1_3 a1_4 a1_5 a1_6 a1_7 a1_8 a1_9 a1_10 l1_11))) else (glebelaw11_EntryLooks.j0 k l2 a3 true a0_0 a0_1 a0_2 a0_3 a0_4 a0_5 a0_6 a0_7 a0_8 a0_9 a0_10 l0_11 a1_0 a1_1 a1_2 a1_3 a1_4 a1_5 a1_6 a1_7 a1_8 a1_9 a1_10 l1_11))) = some r := h
 clear h
 have HC5 := Aside0.mk H
 clear H
 go_enter Try.func4, Try.ntmps4
 go_upto_region 1 with (first | ((with_reducible refine gate_dst (N := 4) rfl ?_); (try (refine gate_guard (by rfl) ?_; dsimp only)); refine box_event ?hg (N := 4) ?hd (cs := #[.int .i64 a0_0, .int .i64 a0_1, .int .i64 a0_2, .int .i64 a0_3, .string a0_4, .string a0_5, .int .i64 a0_6, .int .i64 a0_7, .int .i64 a0_8, .int .i64 a0_9, .int .i64 a0_10, .slice A0_11 l0_11.length c0_11]) (t := 28) ?hr ?_; (case hd => rfl); (case hg => rfl); (case hr => first | (go_simp; done) | (go_simp; rfl)); intro gb448 hg w6 hbox hb; have n0_ := Aside0.mk (below_step (bh HB.out) hb); have n1_ := Aside0.mk (hbox); have n2_ := Aside0.mk ((by rw [hg]; exact (below_size (bh HB.out)) : w.heap.size ≤ gb448)); have n3_ := Aside0.mk ((by rw [hg]; exact (below_size (bh HB.out)) : w.heap.size ≤ gb448)); clear HB; have HB := n0_; have BK448 := n1_; have GW448 := n2_; have GE448 := n3_; clear n0_ n1_ n2_ n3_; clear hb hbox hg) | ((with_reducible refine gate_dst (N := 5) rfl ?_); (try (refine gate_guard (by rfl) ?_; dsimp only)); refine box_event ?hg (N := 5) ?hd (cs := #[.int .i64 a1_0, .int .i64 a1_1, .int .i64 a1_2, .int .i64 a1_3, .string a1_4, .string a1_5, .int .i64 a1_6, .int .i64 a1_7, .int .i64 a1_8, .int .i64 a1_9, .int .i64 a1_10, .slice A1_11 l1_11.length c1_11]) (t := 28) ?hr ?_; (case hd => rfl); (case hg => rfl); (case hr => first | (go_simp; done) | (go_simp; rfl)); intro gb449 hg w7 hbox hb; have n0_ := Aside0.mk (blk_below (bk BK448.out) hb); have n1_ := Aside0.mk (below_step (bg HB.out GE448.out) hb); have n2_ := Aside0.mk (hbox); have n3_ := Aside0.mk ((by rw [hg]; exact (below_size (bg HB.out GE448.out)) : w.heap.size ≤ gb449)); have n4_ := Aside0.mk ((by rw [hg]; exact (below_size (bg HB.out GE448.out)) : w.heap.size ≤ gb449)); have n5_ := Aside0.mk ((by rw [hg]; exact Nat.ne_of_lt (blk_lt (g := gb448) (o := .cells #[.int .i64 a0_0, .int .i64 a0_1, .int .i64 a0_2, .int .i64 a0_3, .string a0_4, .string a0_5, .int .i64 a0_6, .int .i64 a0_7, .int .i64 a0_8, .int .i64 a0_9, .int .i64 a0_10, .slice A0_11 l0_11.length c0_11] 28 (0, 0)) (bk BK448.out)) : gb448 ≠ gb449)); have n6_ := Aside0.mk ((by rw [hg]; exact Nat.ne_of_gt (blk_lt (g := gb448) (o := .cells #[.int .i64 a0_0, .int .i64 a0_1, .int .i64 a0_2, .int .i64 a0_3, .string a0_4, .string a0_5, .int .i64 a0_6, .int .i64 a0_7, .int .i64 a0_8, .int .i64 a0_9, .int .i64 a0_10, .slice A0_11 l0_11.length c0_11] 28 (0, 0)) (bk BK448.out)) : gb449 ≠ gb448)); clear BK448; clear HB; have BK448 := n0_; have HB := n1_; have BK449 := n2_; have GW449 := n3_; have GE449 := n4_; have NB448_449 := n5_; have NB449_448 := n6_; clear n0_ n1_ n2_ n3_ n4_ n5_ n6_; clear hb hbox hg))
 (try simp only [Act.put, List.setIfInBounds_toArray, List.set_cons_zero, List.set_cons_succ])
 go_cut [33] (fun v33 wc => ∃ (kq : Nat) (x33_4 : Bool), v33 = .bool x33_4 ∧ Aside0 (glebelaw11_EntryLooks.j0 kq l2 a3 x33_4 a0_0 a0_1 a0_2 a0_3 a0_4 a0_5 a0_6 a0_7 a0_8 a0_9 a0_10 l0_11 a1_0 a1_1 a1_2 a1_3 a1_4 a1_5 a1_6 a1_7 a1_8 a1_9 a1_10 l1_11 = some r) ∧ Aside0 (kq ≤ k) ∧ Aside0 (wc.heap[gb448]? = some (.cells #[.int .i64 a0_0, .int .i64 a0_1, .int .i64 a0_2, .int .i64 a0_3, .string a0_4, .string a0_5, .int .i64 a0_6, .int .i64 a0_7, .int .i64 a0_8, .int .i64 a0_9, .int .i64 a0_10, (.slice A0_11 l0_11.length c0_11)] 28 (0, 0))) ∧ Aside0 (wc.heap[gb449]? = some (.cells #[.int .i64 a1_0, .int .i64 a1_1, .int .i64 a1_2, .int .i64 a1_3, .string a1_4, .string a1_5, .int .i64 a1_6, .int .i64 a1_7, .int .i64 a1_8, .int .i64 a1_9, .int .i64 a1_10, (.slice A1_11 l1_11.length c1_11)] 28 (0, 0))) ∧ Aside0 (Below w.heap.size w wc))
 case first =>
  have H := HC5.out
  clear HC5
  replace H := Option.bind_eq_some_iff.mp H
  obtain ⟨t450, A80, H⟩ := H
  try dsimp only at H
  have A8 := Aside0.mk A80
  clear A80
  by_cases c9 : t450 = true
  ·subst c9
   have H1 : ((glebelaw11_light.f a1_0 a1_1 a1_2 a1_3 a1_4 a1_5 a1_6 a1_7 a1_8 a1_9 a1_10 l1_11).bind fun t451 => (if t451 = true then (glebelaw11_EntryLooks.j0 k l2 a3 (decide ((l2.length : Int) > 40)) a0_0 a0_1 a0_2 a0_3 a0_4 a0_5 a0_6 a0_7 a0_8 a0_9 a0_10 l0_11 a1_0 a1_1 a1_2 a1_3 a1_4 a1_5 a1_6 a1_7 a1_8 a1_9 a1_10 l1_11) else (glebelaw11_EntryLooks.j0 k l2 a3 true a0_0 a0_1 a0_2 a0_3 a0_4 a0_5 a0_6 a0_7 a0_8 a0_9 a0_10 l0_11 a1_0 a1_1 a1_2 a1_3 a1_4 a1_5 a1_6 a1_7 a1_8 a1_9 a1_10 l1_11))) = some r := by rw [if_pos rfl] at H; exact H
   clear H
   have H := H1
   clear H1
   replace H := Option.bind_eq_some_iff.mp H
   obtain ⟨t451, A100, H⟩ := H
   try dsimp only at H
   have A10 := Aside0.mk A100
   clear A100
   by_cases c11 : t451 = true
   ·subst c11
    have H1 : (glebelaw11_EntryLooks.j0 k l2 a3 (decide ((l2.length : Int) > 40)) a0_0 a0_1 a0_2 a0_3 a0_4 a0_5 a0_6 a0_7 a0_8 a0_9 a0_10 l0_11 a1_0 a1_1 a1_2 a1_3 a1_4 a1_5 a1_6 a1_7 a1_8 a1_9 a1_10 l1_11) = some r := by rw [if_pos rfl] at H; exact H
    clear H
    have H := H1
    clear H1
    have H' := Aside0.mk H
    clear H
    have hnb12 := NB448_449.out
    have hnc12 := NB449_448.out
    obtain ⟨hcz13_0, hcz13_1, hcz13_2, hcz13_3, hcz13_4, hcz13_5, hcz13_6, hcz13_7, hcz13_8, hcz13_9, hcz13_10, hcz13_11⟩ := cells12 BK448.out
    obtain ⟨hfz13_0, hfz13_1, hfz13_2, hfz13_3, hfz13_4, hfz13_5, hfz13_6, hfz13_7, hfz13_8, hfz13_9, hfz13_10, hfz13_11⟩ := frz12 BK448.out
    go_wp2_with (first | ((with_reducible refine gate_callee (f := 7) rfl ?_); refine goesL_ (some 22) rfl rfl Try.func7 (by kernel_rfl) rfl #[.agg #[.int .i64 a0_0, .int .i64 a0_1, .int .i64 a0_2, .int .i64 a0_3, .string a0_4, .string a0_5, .int .i64 a0_6, .int .i64 a0_7, .int .i64 a0_8, .int .i64 a0_9, .int .i64 a0_10, .slice A0_11 l0_11.length c0_11]] rfl (by (try simp only [List.map_toArray, List.map_cons, List.map_nil]); first | done | rfl | (simp only [List.length_drop, List.length_take]; rfl)) ?_; (with_reducible refine (glebelaw11_light.calls a0_0 a0_1 a0_2 a0_3 a0_4 a0_5 a0_6 a0_7 a0_8 a0_9 a0_10 _ _ l0_11 true _ ?side1 ?side2 A8.out).mono ?_); (case side1 => repeat (first | exact (Kd.C_below HR0_11.out HB.out) | (with_reducible refine Kd.C_alloc ?_ _) | (with_reducible refine Kd.C_drewN ?_ _) | (with_reducible refine Kd.C_drew ?_))); (case side2 => exact HC0_11.out); rintro e w14 ⟨rfl, hb⟩; refine ⟨_, rfl, ?_⟩; have n0_ := Aside0.mk (blk_below (bk BK448.out) hb); have n1_ := Aside0.mk (blk_below (bk BK449.out) hb); have n2_ := Aside0.mk (below_step (q1 HB.out GE448.out GE449.out) hb); clear BK448; clear BK449; clear HB; have BK448 := n0_; have BK449 := n1_; have HB := n2_; clear n0_ n1_ n2_; (try clear hb); (try clear hb2); (try clear hk); (try clear hi); obtain ⟨hcz15_0, hcz15_1, hcz15_2, hcz15_3, hcz15_4, hcz15_5, hcz15_6, hcz15_7, hcz15_8, hcz15_9, hcz15_10, hcz15_11⟩ := cells12 BK449.out; obtain ⟨hfz15_0, hfz15_1, hfz15_2, hfz15_3, hfz15_4, hfz15_5, hfz15_6, hfz15_7, hfz15_8, hfz15_9, hfz15_10, hfz15_11⟩ := frz12 BK449.out) | (go_at_call 7; (with_reducible refine (glebelaw11_light.calls a1_0 a1_1 a1_2 a1_3 a1_4 a1_5 a1_6 a1_7 a1_8 a1_9 a1_10 _ _ l1_11 true _ ?side1 ?side2 A10.out).mono ?_); (case side1 => repeat (first | exact (Kd.C_below HR1_11.out HB.out) | (with_reducible refine Kd.C_alloc ?_ _) | (with_reducible refine Kd.C_drewN ?_ _) | (with_reducible refine Kd.C_drew ?_))); (case side2 => exact HC1_11.out); rintro e w16 ⟨rfl, hb⟩; have n0_ := Aside0.mk (blk_below (bk BK448.out) hb); have n1_ := Aside0.mk (blk_below (bk BK449.out) hb); have n2_ := Aside0.mk (below_step (q1 HB.out GE448.out GE449.out) hb); clear BK448; clear BK449; clear HB; have BK448 := n0_; have BK449 := n1_; have HB := n2_; clear n0_ n1_ n2_; (try clear hb); (try clear hb2); (try clear hk); (try clear hi)))
    go_meet
    case rel => exact ⟨_, (decide ((l2.length : Int) > 40)), (by first | rfl | (simp; done) | (simp [*]; done)), H', ⟨by first | omega | exact Nat.le_refl _⟩, ⟨by (with_reducible repeat (first | refine blk_drewN ?_ _ | refine blk_drew ?_ | refine blk_alloc ?_ _)); exact BK448.out⟩, ⟨by (with_reducible repeat (first | refine blk_drewN ?_ _ | refine blk_drew ?_ | refine blk_alloc ?_ _)); exact BK449.out⟩, ⟨by exact q1 HB.out GE448.out GE449.out⟩⟩
   ·replace c11 := Bool.eq_false_iff.mpr c11
    subst c11
    have H1 : (glebelaw11_EntryLooks.j0 k l2 a3 true a0_0 a0_1 a0_2 a0_3 a0_4 a0_5 a0_6 a0_7 a0_8 a0_9 a0_10 l0_11 a1_0 a1_1 a1_2 a1_3 a1_4 a1_5 a1_6 a1_7 a1_8 a1_9 a1_10 l1_11) = some r := by rw [if_neg (show ¬ (false = true) by decide)] at H; exact H
    clear H
    have H := H1
    clear H1
    have H' := Aside0.mk H
    clear H
    have hnb17 := NB448_449.out
    have hnc17 := NB449_448.out
    obtain ⟨hcz18_0, hcz18_1, hcz18_2, hcz18_3, hcz18_4, hcz18_5, hcz18_6, hcz18_7, hcz18_8, hcz18_9, hcz18_10, hcz18_11⟩ := cells12 BK448.out
    obtain ⟨hfz18_0, hfz18_1, hfz18_2, hfz18_3, hfz18_4, hfz18_5, hfz18_6, hfz18_7, hfz18_8, hfz18_9, hfz18_10, hfz18_11⟩ := frz12 BK448.out
    go_wp2_with (first | ((with_reducible refine gate_callee (f := 7) rfl ?_); refine goesL_ (some 22) rfl rfl Try.func7 (by kernel_rfl) rfl #[.agg #[.int .i64 a0_0, .int .i64 a0_1, .int .i64 a0_2, .int .i64 a0_3, .string a0_4, .string a0_5, .int .i64 a0_6, .int .i64 a0_7, .int .i64 a0_8, .int .i64 a0_9, .int .i64 a0_10, .slice A0_11 l0_11.length c0_11]] rfl (by (try simp only [List.map_toArray, List.map_cons, List.map_nil]); first | done | rfl | (simp only [List.length_drop, List.length_take]; rfl)) ?_; (with_reducible refine (glebelaw11_light.calls a0_0 a0_1 a0_2 a0_3 a0_4 a0_5 a0_6 a0_7 a0_8 a0_9 a0_10 _ _ l0_11 true _ ?side1 ?side2 A8.out).mono ?_); (case side1 => repeat (first | exact (Kd.C_below HR0_11.out HB.out) | (with_reducible refine Kd.C_alloc ?_ _) | (with_reducible refine Kd.C_drewN ?_ _) | (with_reducible refine Kd.C_drew ?_))); (case side2 => exact HC0_11.out); rintro e w19 ⟨rfl, hb⟩; refine ⟨_, rfl, ?_⟩; have n0_ := Aside0.mk (blk_below (bk BK448.out) hb); have n1_ := Aside0.mk (blk_below (bk BK449.out) hb); have n2_ := Aside0.mk (below_step (q1 HB.out GE448.out GE449.out) hb); clear BK448; clear BK449; clear HB; have BK448 := n0_; have BK449 := n1_; have HB := n2_; clear n0_ n1_ n2_; (try clear hb); (try clear hb2); (try clear hk); (try clear hi); obtain ⟨hcz20_0, hcz20_1, hcz20_2, hcz20_3, hcz20_4, hcz20_5, hcz20_6, hcz20_7, hcz20_8, hcz20_9, hcz20_10, hcz20_11⟩ := cells12 BK449.out; obtain ⟨hfz20_0, hfz20_1, hfz20_2, hfz20_3, hfz20_4, hfz20_5, hfz20_6, hfz20_7, hfz20_8, hfz20_9, hfz20_10, hfz20_11⟩ := frz12 BK449.out) | (go_at_call 7; (with_reducible refine (glebelaw11_light.calls a1_0 a1_1 a1_2 a1_3 a1_4 a1_5 a1_6 a1_7 a1_8 a1_9 a1_10 _ _ l1_11 false _ ?side1 ?side2 A10.out).mono ?_); (case side1 => repeat (first | exact (Kd.C_below HR1_11.out HB.out) | (with_reducible refine Kd.C_alloc ?_ _) | (with_reducible refine Kd.C_drewN ?_ _) | (with_reducible refine Kd.C_drew ?_))); (case side2 => exact HC1_11.out); rintro e w21 ⟨rfl, hb⟩; have n0_ := Aside0.mk (blk_below (bk BK448.out) hb); have n1_ := Aside0.mk (blk_below (bk BK449.out) hb); have n2_ := Aside0.mk (below_step (q1 HB.out GE448.out GE449.out) hb); clear BK448; clear BK449; clear HB; have BK448 := n0_; have BK449 := n1_; have HB := n2_; clear n0_ n1_ n2_; (try clear hb); (try clear hb2); (try clear hk); (try clear hi)))
    go_meet
    case rel => exact ⟨_, (true), (by first | rfl | (simp; done) | (simp [*]; done)), H', ⟨by first | omega | exact Nat.le_refl _⟩, ⟨by (with_reducible repeat (first | refine blk_drewN ?_ _ | refine blk_drew ?_ | refine blk_alloc ?_ _)); exact BK448.out⟩, ⟨by (with_reducible repeat (first | refine blk_drewN ?_ _ | refine blk_drew ?_ | refine blk_alloc ?_ _)); exact BK449.out⟩, ⟨by exact q1 HB.out GE448.out GE449.out⟩⟩
  ·replace c9 := Bool.eq_false_iff.mpr c9
   subst c9
   have H1 : (glebelaw11_EntryLooks.j0 k l2 a3 true a0_0 a0_1 a0_2 a0_3 a0_4 a0_5 a0_6 a0_7 a0_8 a0_9 a0_10 l0_11 a1_0 a1_1 a1_2 a1_3 a1_4 a1_5 a1_6 a1_7 a1_8 a1_9 a1_10 l1_11) = some r := by rw [if_neg (show ¬ (false = true) by decide)] at H; exact H
   clear H
   have H := H1
   clear H1
   have H' := Aside0.mk H
   clear H
   have hnb22 := NB448_449.out
   have hnc22 := NB449_448.out
   obtain ⟨hcz23_0, hcz23_1, hcz23_2, hcz23_3, hcz23_4, hcz23_5, hcz23_6, hcz23_7, hcz23_8, hcz23_9, hcz23_10, hcz23_11⟩ := cells12 BK448.out
   obtain ⟨hfz23_0, hfz23_1, hfz23_2, hfz23_3, hfz23_4, hfz23_5, hfz23_6, hfz23_7, hfz23_8, hfz23_9, hfz23_10, hfz23_11⟩ := frz12 BK448.out
   go_wp2_with (first | ((with_reducible refine gate_callee (f := 7) rfl ?_); refine goesL_ (some 22) rfl rfl Try.func7 (by kernel_rfl) rfl #[.agg #[.int .i64 a0_0, .int .i64 a0_1, .int .i64 a0_2, .int .i64 a0_3, .string a0_4, .string a0_5, .int .i64 a0_6, .int .i64 a0_7, .int .i64 a0_8, .int .i64 a0_9, .int .i64 a0_10, .slice A0_11 l0_11.length c0_11]] rfl (by (try simp only [List.map_toArray, List.map_cons, List.map_nil]); first | done | rfl | (simp only [List.length_drop, List.length_take]; rfl)) ?_; (with_reducible refine (glebelaw11_light.calls a0_0 a0_1 a0_2 a0_3 a0_4 a0_5 a0_6 a0_7 a0_8 a0_9 a0_10 _ _ l0_11 false _ ?side1 ?side2 A8.out).mono ?_); (case side1 => repeat (first | exact (Kd.C_below HR0_11.out HB.out) | (with_reducible refine Kd.C_alloc ?_ _) | (with_reducible refine Kd.C_drewN ?_ _) | (with_reducible refine Kd.C_drew ?_))); (case side2 => exact HC0_11.out); rintro e w24 ⟨rfl, hb⟩; refine ⟨_, rfl, ?_⟩; have n0_ := Aside0.mk (blk_below (bk BK448.out) hb); have n1_ := Aside0.mk (blk_below (bk BK449.out) hb); have n2_ := Aside0.mk (below_step (q1 HB.out GE448.out GE449.out) hb); clear BK448; clear BK449; clear HB; have BK448 := n0_; have BK449 := n1_; have HB := n2_; clear n0_ n1_ n2_; (try clear hb); (try clear hb2); (try clear hk); (try clear hi)))
   go_meet
   case rel => exact ⟨_, (true), (by first | rfl | (simp; done) | (simp [*]; done)), H', ⟨by first | omega | exact Nat.le_refl _⟩, ⟨by (with_reducible repeat (first | refine blk_drewN ?_ _ | refine blk_drew ?_ | refine blk_alloc ?_ _)); exact BK448.out⟩, ⟨by (with_reducible repeat (first | refine blk_drewN ?_ _ | refine blk_drew ?_ | refine blk_alloc ?_ _)); exact BK449.out⟩, ⟨by exact q1 HB.out GE448.out GE449.out⟩⟩
 case rest =>
  clear HC5
  try clear c1
  try clear c2
  try clear p2
  try clear c4
  try clear c7
  try clear c9
  try clear c11
  try clear c12
  try clear c17
  try clear c22
  try clear hcz13_0
  try clear hcz13_1
  try clear hcz13_10
  try clear hcz13_11
  try clear hcz13_2
  try clear hcz13_3
  try clear hcz13_4
  try clear hcz13_5
  try clear hcz13_6
  try clear hcz13_7
  try clear hcz13_8
  try clear hcz13_9
  try clear hcz15_0
  try clear hcz15_1
  try clear hcz15_10
  try clear hcz15_11
  try clear hcz15_2
  try clear hcz15_3
  try clear hcz15_4
  try clear hcz15_5
  try clear hcz15_6
  try clear hcz15_7
  try clear hcz15_8
  try clear hcz15_9
  try clear hcz18_0
  try clear hcz18_1
  try clear hcz18_10
  try clear hcz18_11
  try clear hcz18_2
  try clear hcz18_3
  try clear hcz18_4
  try clear hcz18_5
  try clear hcz18_6
  try clear hcz18_7
  try clear hcz18_8
  try clear hcz18_9
  try clear hcz20_0
  try clear hcz20_1
  try clear hcz20_10
  try clear hcz20_11
  try clear hcz20_2
  try clear hcz20_3
  try clear hcz20_4
  try clear hcz20_5
  try clear hcz20_6
  try clear hcz20_7
  try clear hcz20_8
  try clear hcz20_9
  try clear hcz23_0
  try clear hcz23_1
  try clear hcz23_10
  try clear hcz23_11
  try clear hcz23_2
  try clear hcz23_3
  try clear hcz23_4
  try clear hcz23_5
  try clear hcz23_6
  try clear hcz23_7
  try clear hcz23_8
  try clear hcz23_9
  try clear hfz13_0
  try clear hfz13_1
  try clear hfz13_10
  try clear hfz13_11
  try clear hfz13_2
  try clear hfz13_3
  try clear hfz13_4
  try clear hfz13_5
  try clear hfz13_6
  try clear hfz13_7
  try clear hfz13_8
  try clear hfz13_9
  try clear hfz15_0
  try clear hfz15_1
  try clear hfz15_10
  try clear hfz15_11
  try clear hfz15_2
  try clear hfz15_3
  try clear hfz15_4
  try clear hfz15_5
  try clear hfz15_6
  try clear hfz15_7
  try clear hfz15_8
  try clear hfz15_9
  try clear hfz18_0
  try clear hfz18_1
  try clear hfz18_10
  try clear hfz18_11
  try clear hfz18_2
  try clear hfz18_3
  try clear hfz18_4
  try clear hfz18_5
  try clear hfz18_6
  try clear hfz18_7
  try clear hfz18_8
  try clear hfz18_9
  try clear hfz20_0
  try clear hfz20_1
  try clear hfz20_10
  try clear hfz20_11
  try clear hfz20_2
  try clear hfz20_3
  try clear hfz20_4
  try clear hfz20_5
  try clear hfz20_6
  try clear hfz20_7
  try clear hfz20_8
  try clear hfz20_9
  try clear hfz23_0
  try clear hfz23_1
  try clear hfz23_10
  try clear hfz23_11
  try clear hfz23_2
  try clear hfz23_3
  try clear hfz23_4
  try clear hfz23_5
  try clear hfz23_6
  try clear hfz23_7
  try clear hfz23_8
  try clear hfz23_9
  obtain ⟨kq, x33_4, rfl, HA, HJ4, BK448, BK449, HB⟩ := hcut
  cases kq with
  | zero => exact absurd HA.out (by simp [glebelaw11_EntryLooks.j0])
  | succ kj4 =>
   have H := HA.out
   clear HA
   simp only [glebelaw11_EntryLooks.j0] at H
   by_cases c25 : x33_4 = true
   ·subst c25
    have H1 : ((glebelaw11_knows.f).bind fun t452 => (some t452)) = some r := by rw [if_pos rfl] at H; exact H
    clear H
    have H := H1
    clear H1
    replace H := Option.bind_eq_some_iff.mp H
    obtain ⟨t452, A260, H⟩ := H
    try dsimp only at H
    have A26 := Aside0.mk A260
    clear A260
    obtain rfl := Option.some.inj H
    go_wp2_with (first | ((with_reducible refine gate_callee (f := 8) rfl ?_); refine goesL_ (some 34) rfl rfl Try.func8 (by kernel_rfl) rfl #[] rfl (by (try simp only [List.map_toArray, List.map_cons, List.map_nil]); first | done | rfl | (simp only [List.length_drop, List.length_take]; rfl)) ?_; (with_reducible refine (glebelaw11_knows.calls  t452 _ A26.out).mono ?_); rintro e w27 ⟨rfl, hb⟩; refine ⟨_, rfl, ?_⟩; have n0_ := Aside0.mk (blk_below (bk BK448.out) hb); have n1_ := Aside0.mk (blk_below (bk BK449.out) hb); have n2_ := Aside0.mk (below_step (q1 HB.out GE448.out GE449.out) hb); clear BK448; clear BK449; clear HB; have BK448 := n0_; have BK449 := n1_; have HB := n2_; clear n0_ n1_ n2_; (try clear hb); (try clear hb2); (try clear hk); (try clear hi)))
    go_ret
    exact ⟨by first | rfl | (simp [errW_none, errW_some] <;> rfl) | (simp [*, errW_none, errW_some] <;> rfl), by exact q1 HB.out GE448.out GE449.out⟩
   ·replace c25 := Bool.eq_false_iff.mpr c25
    subst c25
    have H1 : ((glebelaw11_Own.f a0_0 a0_1 a0_2 a0_3 a0_4 a0_5 a0_6 a0_7 a0_8 a0_9 a0_10 l0_11).bind fun bt453 => ((entry_Put.f kj4 bt453.1 bt453.2.1 bt453.2.2.1 bt453.2.2.2.1 bt453.2.2.2.2.1 bt453.2.2.2.2.2.1 bt453.2.2.2.2.2.2.1 bt453.2.2.2.2.2.2.2.1 bt453.2.2.2.2.2.2.2.2.1 bt453.2.2.2.2.2.2.2.2.2.1 bt453.2.2.2.2.2.2.2.2.2.2.1 bt453.2.2.2.2.2.2.2.2.2.2.2).bind fun bt467 => ((some (([] : List Int) : List Int)).bind fun y471 => (if y471.length + l2.length < 17592186044416 then ((entry_PutChain.f kj4 (y471 ++ l2)).bind fun bt477 => ((glebelaw11_Own.f a0_0 a0_1 a0_2 a0_3 a0_4 a0_5 a0_6 a0_7 a0_8 a0_9 a0_10 l0_11).bind fun bt481 => ((entry_Heirs.f kj4 bt481.1 bt481.2.1 bt481.2.2.1 bt481.2.2.2.1 bt481.2.2.2.2.1 bt481.2.2.2.2.2.1 bt481.2.2.2.2.2.2.1 bt481.2.2.2.2.2.2.2.1 bt481.2.2.2.2.2.2.2.2.1 bt481.2.2.2.2.2.2.2.2.2.1 bt481.2.2.2.2.2.2.2.2.2.2.1 bt481.2.2.2.2.2.2.2.2.2.2.2).bind fun bt495 => ((gleberef11_Heirs.f kj4 a0_0 a0_1 a0_2 a0_3 a0_4 a0_5 a0_6 a0_7 a0_8 a0_9 a0_10 l0_11).bind fun bt501 => ((some (([] : List Int) : List Int)).bind fun y507 => (if y507.length + l2.length < 17592186044416 then ((some (y507 ++ l2 : List Int)).bind fun y510 => ((entry_Without.f y510 a3).bind fun t513 => ((gleberef11_Without.f kj4 l2 a3).bind fun t516 => ((gleberef11_SameList.f kj4 t513 t516).bind fun t519 => (if t519 = true then ((gleberef11_SameList.f kj4 y510 l2).bind fun t520 => (if t520 = true then ((gleberef11_SameList.f kj4 bt495.1 bt501.1).bind fun t521 => (if t521 = true then ((gleberef11_SameList.f kj4 bt495.2 bt501.2).bind fun t522 => (glebelaw11_EntryLooks.j1 kj4 l2 bt467.1 bt467.2 bt477.1 bt477.2 y510 (!t522) a0_0 a0_1 a0_2 a0_3 a0_4 a0_5 a0_6 a0_7 a0_8 a0_9 a0_10 l0_11 a1_0 a1_1 a1_2 a1_3 a1_4 a1_5 a1_6 a1_7 a1_8 a1_9 a1_10 l1_11)) else (glebelaw11_EntryLooks.j1 kj4 l2 bt467.1 bt467.2 bt477.1 bt477.2 y510 true a0_0 a0_1 a0_2 a0_3 a0_4 a0_5 a0_6 a0_7 a0_8 a0_9 a0_10 l0_11 a1_0 a1_1 a1_2 a1_3 a1_4 a1_5 a1_6 a1_7 a1_8 a1_9 a1_10 l1_11))) else (glebelaw11_EntryLooks.j1 kj4 l2 bt467.1 bt467.2 bt477.1 bt477.2 y510 true a0_0 a0_1 a0_2 a0_3 a0_4 a0_5 a0_6 a0_7 a0_8 a0_9 a0_10 l0_11 a1_0 a1_1 a1_2 a1_3 a1_4 a1_5 a1_6 a1_7 a1_8 a1_9 a1_10 l1_11))) else (glebelaw11_EntryLooks.j1 kj4 l2 bt467.1 bt467.2 bt477.1 bt477.2 y510 true a0_0 a0_1 a0_2 a0_3 a0_4 a0_5 a0_6 a0_7 a0_8 a0_9 a0_10 l0_11 a1_0 a1_1 a1_2 a1_3 a1_4 a1_5 a1_6 a1_7 a1_8 a1_9 a1_10 l1_11)))))) else (none))))))) else (none))))) = some r := by rw [if_neg (show ¬ (false = true) by decide)] at H; exact H
    clear H
    have H := H1
    clear H1
    replace H := Option.bind_eq_some_iff.mp H
    obtain ⟨⟨t453, t454, t455, t456, t457, t458, t459, t460, t461, t462, t463, t464⟩, A280, H⟩ := H
    try dsimp only at H
    have A28 := Aside0.mk A280
    clear A280
    replace H := Option.bind_eq_some_iff.mp H
    obtain ⟨⟨t467, t470⟩, A290, H⟩ := H
    try dsimp only at H
    have A29 := Aside0.mk A290
    clear A290
    obtain ⟨y471, hy471⟩ : ∃ y_ : List Int, y_ = (([] : List Int)) := ⟨_, rfl⟩
    replace H : (if y471.length + l2.length < 17592186044416 then ((entry_PutChain.f kj4 (y471 ++ l2)).bind fun bt477 => ((glebelaw11_Own.f a0_0 a0_1 a0_2 a0_3 a0_4 a0_5 a0_6 a0_7 a0_8 a0_9 a0_10 l0_11).bind fun bt481 => ((entry_Heirs.f kj4 bt481.1 bt481.2.1 bt481.2.2.1 bt481.2.2.2.1 bt481.2.2.2.2.1 bt481.2.2.2.2.2.1 bt481.2.2.2.2.2.2.1 bt481.2.2.2.2.2.2.2.1 bt481.2.2.2.2.2.2.2.2.1 bt481.2.2.2.2.2.2.2.2.2.1 bt481.2.2.2.2.2.2.2.2.2.2.1 bt481.2.2.2.2.2.2.2.2.2.2.2).bind fun bt495 => ((gleberef11_Heirs.f kj4 a0_0 a0_1 a0_2 a0_3 a0_4 a0_5 a0_6 a0_7 a0_8 a0_9 a0_10 l0_11).bind fun bt501 => ((some (([] : List Int) : List Int)).bind fun y507 => (if y507.length + l2.length < 17592186044416 then ((some (y507 ++ l2 : List Int)).bind fun y510 => ((entry_Without.f y510 a3).bind fun t513 => ((gleberef11_Without.f kj4 l2 a3).bind fun t516 => ((gleberef11_SameList.f kj4 t513 t516).bind fun t519 => (if t519 = true then ((gleberef11_SameList.f kj4 y510 l2).bind fun t520 => (if t520 = true then ((gleberef11_SameList.f kj4 bt495.1 bt501.1).bind fun t521 => (if t521 = true then ((gleberef11_SameList.f kj4 bt495.2 bt501.2).bind fun t522 => (glebelaw11_EntryLooks.j1 kj4 l2 t467 t470 bt477.1 bt477.2 y510 (!t522) a0_0 a0_1 a0_2 a0_3 a0_4 a0_5 a0_6 a0_7 a0_8 a0_9 a0_10 l0_11 a1_0 a1_1 a1_2 a1_3 a1_4 a1_5 a1_6 a1_7 a1_8 a1_9 a1_10 l1_11)) else (glebelaw11_EntryLooks.j1 kj4 l2 t467 t470 bt477.1 bt477.2 y510 true a0_0 a0_1 a0_2 a0_3 a0_4 a0_5 a0_6 a0_7 a0_8 a0_9 a0_10 l0_11 a1_0 a1_1 a1_2 a1_3 a1_4 a1_5 a1_6 a1_7 a1_8 a1_9 a1_10 l1_11))) else (glebelaw11_EntryLooks.j1 kj4 l2 t467 t470 bt477.1 bt477.2 y510 true a0_0 a0_1 a0_2 a0_3 a0_4 a0_5 a0_6 a0_7 a0_8 a0_9 a0_10 l0_11 a1_0 a1_1 a1_2 a1_3 a1_4 a1_5 a1_6 a1_7 a1_8 a1_9 a1_10 l1_11))) else (glebelaw11_EntryLooks.j1 kj4 l2 t467 t470 bt477.1 bt477.2 y510 true a0_0 a0_1 a0_2 a0_3 a0_4 a0_5 a0_6 a0_7 a0_8 a0_9 a0_10 l0_11 a1_0 a1_1 a1_2 a1_3 a1_4 a1_5 a1_6 a1_7 a1_8 a1_9 a1_10 l1_11)))))) else (none))))))) else (none)) = some r := by first | (rw [hy471]; with_reducible exact H) | (have H2_ := (Option.bind_some _ _).symm.trans H; rw [hy471]; with_reducible exact H2_) | (have H2_ := (Option.bind_some _ _).symm.trans H; with_reducible exact H2_) | with_reducible exact H | (rw [hy471]; exact H) | exact H
    have Ny471 := Aside0.mk hy471
    clear hy471
    by_cases c30 : y471.length + l2.length < 17592186044416
    ·rw [if_pos c30] at H
     have LMc30 := Aside0.mk c30
     clear c30
     obtain ⟨y474, hy474⟩ : ∃ y_ : List Int, y_ = (y471 ++ l2) := ⟨_, rfl⟩
     replace H : ((entry_PutChain.f kj4 y474).bind fun bt477 => ((glebelaw11_Own.f a0_0 a0_1 a0_2 a0_3 a0_4 a0_5 a0_6 a0_7 a0_8 a0_9 a0_10 l0_11).bind fun bt481 => ((entry_Heirs.f kj4 bt481.1 bt481.2.1 bt481.2.2.1 bt481.2.2.2.1 bt481.2.2.2.2.1 bt481.2.2.2.2.2.1 bt481.2.2.2.2.2.2.1 bt481.2.2.2.2.2.2.2.1 bt481.2.2.2.2.2.2.2.2.1 bt481.2.2.2.2.2.2.2.2.2.1 bt481.2.2.2.2.2.2.2.2.2.2.1 bt481.2.2.2.2.2.2.2.2.2.2.2).bind fun bt495 => ((gleberef11_Heirs.f kj4 a0_0 a0_1 a0_2 a0_3 a0_4 a0_5 a0_6 a0_7 a0_8 a0_9 a0_10 l0_11).bind fun bt501 => ((some (([] : List Int) : List Int)).bind fun y507 => (if y507.length + l2.length < 17592186044416 then ((some (y507 ++ l2 : List Int)).bind fun y510 => ((entry_Without.f y510 a3).bind fun t513 => ((gleberef11_Without.f kj4 l2 a3).bind fun t516 => ((gleberef11_SameList.f kj4 t513 t516).bind fun t519 => (if t519 = true then ((gleberef11_SameList.f kj4 y510 l2).bind fun t520 => (if t520 = true then ((gleberef11_SameList.f kj4 bt495.1 bt501.1).bind fun t521 => (if t521 = true then ((gleberef11_SameList.f kj4 bt495.2 bt501.2).bind fun t522 => (glebelaw11_EntryLooks.j1 kj4 l2 t467 t470 bt477.1 bt477.2 y510 (!t522) a0_0 a0_1 a0_2 a0_3 a0_4 a0_5 a0_6 a0_7 a0_8 a0_9 a0_10 l0_11 a1_0 a1_1 a1_2 a1_3 a1_4 a1_5 a1_6 a1_7 a1_8 a1_9 a1_10 l1_11)) else (glebelaw11_EntryLooks.j1 kj4 l2 t467 t470 bt477.1 bt477.2 y510 true a0_0 a0_1 a0_2 a0_3 a0_4 a0_5 a0_6 a0_7 a0_8 a0_9 a0_10 l0_11 a1_0 a1_1 a1_2 a1_3 a1_4 a1_5 a1_6 a1_7 a1_8 a1_9 a1_10 l1_11))) else (glebelaw11_EntryLooks.j1 kj4 l2 t467 t470 bt477.1 bt477.2 y510 true a0_0 a0_1 a0_2 a0_3 a0_4 a0_5 a0_6 a0_7 a0_8 a0_9 a0_10 l0_11 a1_0 a1_1 a1_2 a1_3 a1_4 a1_5 a1_6 a1_7 a1_8 a1_9 a1_10 l1_11))) else (glebelaw11_EntryLooks.j1 kj4 l2 t467 t470 bt477.1 bt477.2 y510 true a0_0 a0_1 a0_2 a0_3 a0_4 a0_5 a0_6 a0_7 a0_8 a0_9 a0_10 l0_11 a1_0 a1_1 a1_2 a1_3 a1_4 a1_5 a1_6 a1_7 a1_8 a1_9 a1_10 l1_11)))))) else (none))))))) = some r := by first | (rw [hy474]; with_reducible exact H) | (have H2_ := (Option.bind_some _ _).symm.trans H; rw [hy474]; with_reducible exact H2_) | (have H2_ := (Option.bind_some _ _).symm.trans H; with_reducible exact H2_) | with_reducible exact H | (rw [hy474]; exact H) | exact H
     have Ny474 := Aside0.mk hy474
     clear hy474
     replace H := Option.bind_eq_some_iff.mp H
     obtain ⟨⟨t477, t478⟩, A310, H⟩ := H
     try dsimp only at H
     have A31 := Aside0.mk A310
     clear A310
     replace H := Option.bind_eq_some_iff.mp H
     obtain ⟨⟨t481, t482, t483, t484, t485, t486, t487, t488, t489, t490, t491, t492⟩, A320, H⟩ := H
     try dsimp only at H
     have A32 := Aside0.mk A320
     clear A320
     replace H := Option.bind_eq_some_iff.mp H
     obtain ⟨⟨t495, t498⟩, A330, H⟩ := H
     try dsimp only at H
     have A33 := Aside0.mk A330
     clear A330
     replace H := Option.bind_eq_some_iff.mp H
     obtain ⟨⟨t501, t504⟩, A340, H⟩ := H
     try dsimp only at H
     have A34 := Aside0.mk A340
     clear A340
     obtain ⟨y507, hy507⟩ : ∃ y_ : List Int, y_ = (([] : List Int)) := ⟨_, rfl⟩
     replace H : (if y507.length + l2.length < 17592186044416 then ((some (y507 ++ l2 : List Int)).bind fun y510 => ((entry_Without.f y510 a3).bind fun t513 => ((gleberef11_Without.f kj4 l2 a3).bind fun t516 => ((gleberef11_SameList.f kj4 t513 t516).bind fun t519 => (if t519 = true then ((gleberef11_SameList.f kj4 y510 l2).bind fun t520 => (if t520 = true then ((gleberef11_SameList.f kj4 t495 t501).bind fun t521 => (if t521 = true then ((gleberef11_SameList.f kj4 t498 t504).bind fun t522 => (glebelaw11_EntryLooks.j1 kj4 l2 t467 t470 t477 t478 y510 (!t522) a0_0 a0_1 a0_2 a0_3 a0_4 a0_5 a0_6 a0_7 a0_8 a0_9 a0_10 l0_11 a1_0 a1_1 a1_2 a1_3 a1_4 a1_5 a1_6 a1_7 a1_8 a1_9 a1_10 l1_11)) else (glebelaw11_EntryLooks.j1 kj4 l2 t467 t470 t477 t478 y510 true a0_0 a0_1 a0_2 a0_3 a0_4 a0_5 a0_6 a0_7 a0_8 a0_9 a0_10 l0_11 a1_0 a1_1 a1_2 a1_3 a1_4 a1_5 a1_6 a1_7 a1_8 a1_9 a1_10 l1_11))) else (glebelaw11_EntryLooks.j1 kj4 l2 t467 t470 t477 t478 y510 true a0_0 a0_1 a0_2 a0_3 a0_4 a0_5 a0_6 a0_7 a0_8 a0_9 a0_10 l0_11 a1_0 a1_1 a1_2 a1_3 a1_4 a1_5 a1_6 a1_7 a1_8 a1_9 a1_10 l1_11))) else (glebelaw11_EntryLooks.j1 kj4 l2 t467 t470 t477 t478 y510 true a0_0 a0_1 a0_2 a0_3 a0_4 a0_5 a0_6 a0_7 a0_8 a0_9 a0_10 l0_11 a1_0 a1_1 a1_2 a1_3 a1_4 a1_5 a1_6 a1_7 a1_8 a1_9 a1_10 l1_11)))))) else (none)) = some r := by first | (rw [hy507]; with_reducible exact H) | (have H2_ := (Option.bind_some _ _).symm.trans H; rw [hy507]; with_reducible exact H2_) | (have H2_ := (Option.bind_some _ _).symm.trans H; with_reducible exact H2_) | with_reducible exact H | (rw [hy507]; exact H) | exact H
     have Ny507 := Aside0.mk hy507
     clear hy507
     by_cases c35 : y507.length + l2.length < 17592186044416
     ·rw [if_pos c35] at H
      have LMc35 := Aside0.mk c35
      clear c35
      obtain ⟨y510, hy510⟩ : ∃ y_ : List Int, y_ = (y507 ++ l2) := ⟨_, rfl⟩
      replace H : ((entry_Without.f y510 a3).bind fun t513 => ((gleberef11_Without.f kj4 l2 a3).bind fun t516 => ((gleberef11_SameList.f kj4 t513 t516).bind fun t519 => (if t519 = true then ((gleberef11_SameList.f kj4 y510 l2).bind fun t520 => (if t520 = true then ((gleberef11_SameList.f kj4 t495 t501).bind fun t521 => (if t521 = true then ((gleberef11_SameList.f kj4 t498 t504).bind fun t522 => (glebelaw11_EntryLooks.j1 kj4 l2 t467 t470 t477 t478 y510 (!t522) a0_0 a0_1 a0_2 a0_3 a0_4 a0_5 a0_6 a0_7 a0_8 a0_9 a0_10 l0_11 a1_0 a1_1 a1_2 a1_3 a1_4 a1_5 a1_6 a1_7 a1_8 a1_9 a1_10 l1_11)) else (glebelaw11_EntryLooks.j1 kj4 l2 t467 t470 t477 t478 y510 true a0_0 a0_1 a0_2 a0_3 a0_4 a0_5 a0_6 a0_7 a0_8 a0_9 a0_10 l0_11 a1_0 a1_1 a1_2 a1_3 a1_4 a1_5 a1_6 a1_7 a1_8 a1_9 a1_10 l1_11))) else (glebelaw11_EntryLooks.j1 kj4 l2 t467 t470 t477 t478 y510 true a0_0 a0_1 a0_2 a0_3 a0_4 a0_5 a0_6 a0_7 a0_8 a0_9 a0_10 l0_11 a1_0 a1_1 a1_2 a1_3 a1_4 a1_5 a1_6 a1_7 a1_8 a1_9 a1_10 l1_11))) else (glebelaw11_EntryLooks.j1 kj4 l2 t467 t470 t477 t478 y510 true a0_0 a0_1 a0_2 a0_3 a0_4 a0_5 a0_6 a0_7 a0_8 a0_9 a0_10 l0_11 a1_0 a1_1 a1_2 a1_3 a1_4 a1_5 a1_6 a1_7 a1_8 a1_9 a1_10 l1_11))))) = some r := by first | (rw [hy510]; with_reducible exact H) | (have H2_ := (Option.bind_some _ _).symm.trans H; rw [hy510]; with_reducible exact H2_) | (have H2_ := (Option.bind_some _ _).symm.trans H; with_reducible exact H2_) | with_reducible exact H | (rw [hy510]; exact H) | exact H
      have Ny510 := Aside0.mk hy510
      clear hy510
      have HC36 := Aside0.mk H
      clear H
      have hnb37 := NB448_449.out
      have hnc37 := NB449_448.out
      obtain ⟨hcz38_0, hcz38_1, hcz38_2, hcz38_3, hcz38_4, hcz38_5, hcz38_6, hcz38_7, hcz38_8, hcz38_9, hcz38_10, hcz38_11⟩ := cells12 BK448.out
      obtain ⟨hfz38_0, hfz38_1, hfz38_2, hfz38_3, hfz38_4, hfz38_5, hfz38_6, hfz38_7, hfz38_8, hfz38_9, hfz38_10, hfz38_11⟩ := frz12 BK448.out
      go_upto_region 8 with (first | ((with_reducible refine gate_callee (f := 10) rfl ?_); refine goesL_ (some 37) rfl rfl Try.func10 (by kernel_rfl) rfl #[.agg #[.int .i64 a0_0, .int .i64 a0_1, .int .i64 a0_2, .int .i64 a0_3, .string a0_4, .string a0_5, .int .i64 a0_6, .int .i64 a0_7, .int .i64 a0_8, .int .i64 a0_9, .int .i64 a0_10, .slice A0_11 l0_11.length c0_11]] rfl (by (try simp only [List.map_toArray, List.map_cons, List.map_nil]); first | done | rfl | (simp only [List.length_drop, List.length_take]; rfl)) ?_; (with_reducible refine (glebelaw11_Own.calls a0_0 a0_1 a0_2 a0_3 a0_4 a0_5 a0_6 a0_7 a0_8 a0_9 a0_10 _ _ l0_11 t453 t454 t455 t456 t457 t458 t459 t460 t461 t462 t463 t464 _ ?side1 ?side2 A28.out).mono ?_); (case side1 => repeat (first | exact (Kd.C_below HR0_11.out HB.out) | (with_reducible refine Kd.C_alloc ?_ _) | (with_reducible refine Kd.C_drewN ?_ _) | (with_reducible refine Kd.C_drew ?_))); (case side2 => exact HC0_11.out); rintro e w39 ⟨v465, rfl, ho0, hb⟩; refine ⟨_, rfl, ?_⟩; have n0_ := Aside0.mk (Kd.R_lower ho0 (below_size (q1 HB.out GE448.out GE449.out))); have n1_ := Aside0.mk (blk_below (bk BK448.out) hb); have n2_ := Aside0.mk (blk_below (bk BK449.out) hb); have n3_ := Aside0.mk (below_step (q1 HB.out GE448.out GE449.out) hb); clear BK448; clear BK449; clear HB; have HO466 := n0_; have BK448 := n1_; have BK449 := n2_; have HB := n3_; clear n0_ n1_ n2_ n3_; (try clear hb); (try clear hb2); (try clear hk); (try clear hi); (try clear ho0); obtain ⟨Ao40, co40, eo40⟩ := Kd.R_slice HO466.out; subst eo40) | ((with_reducible refine gate_callee (f := 15) rfl ?_); refine goesL_ (some 38) rfl rfl Try.func15 (by kernel_rfl) rfl #[.agg #[.int .i64 t453, .int .i64 t454, .int .i64 t455, .int .i64 t456, .string t457, .string t458, .int .i64 t459, .int .i64 t460, .int .i64 t461, .int .i64 t462, .int .i64 t463, .slice Ao40 t464.length co40]] rfl (by (try simp only [List.map_toArray, List.map_cons, List.map_nil]); first | done | rfl | (simp only [List.length_drop, List.length_take]; rfl)) ?_; (with_reducible refine (entry_Put.calls kj4 t453 t454 t455 t456 t457 t458 t459 t460 t461 t462 t463 _ _ t464 t467 t470 _ ?side1 ?side2 A29.out).mono ?_); (case side1 => repeat (first | exact (Kd.R_reads' HO466.out).2.2 | (with_reducible refine Kd.C_alloc ?_ _) | (with_reducible refine Kd.C_drewN ?_ _) | (with_reducible refine Kd.C_drew ?_))); (case side2 => exact (Kd.R_reads' HO466.out).2.1); rintro e w41 ⟨v468, rfl, ho0, hb⟩; refine ⟨_, rfl, ?_⟩; have n0_ := Aside0.mk (Kd.R_below (br HO466.out) hb); have n1_ := Aside0.mk (Kd.R_lower ho0 (below_size (q1 HB.out GE448.out GE449.out))); have n2_ := Aside0.mk (blk_below (bk BK448.out) hb); have n3_ := Aside0.mk (blk_below (bk BK449.out) hb); have n4_ := Aside0.mk (below_step (q1 HB.out GE448.out GE449.out) hb); clear HO466; clear BK448; clear BK449; clear HB; have HO466 := n0_; have HO469 := n1_; have BK448 := n2_; have BK449 := n3_; have HB := n4_; clear n0_ n1_ n2_ n3_ n4_; (try clear hb); (try clear hb2); (try clear hk); (try clear hi); (try clear ho0)) | ((with_reducible refine gate_dst (N := 42) rfl ?_); (try (refine gate_guard (by rfl) ?_; dsimp only)); refine Kd.R_lit (Kd.int .i64) _ 3 ?hg (N := 42) ?hd (xs := ([] : List Int)) (inner := []) (ok := fun _ => True) (okp := fun _ => True) ?hr ?hp (fun _ hk => hk) trivial (Below.refl _ _) (Nat.le_refl _) (by simp) ?_; (case hd => rfl); (case hg => rfl); (case hr => first | (go_simp; done) | (go_simp; rfl)); (case hp => exact (Reps.none _ _)); intro v472 w42 ho43 hb hg_ hnew_; clear hg_ hnew_; (first | rw [← Ny471.out] at ho43 | (simp only [Int.reduceToNat] at ho43; rw [← Ny471.out] at ho43)); have n0_ := Aside0.mk (Kd.R_elder' (br HO466.out) (Kd.R_base ho43) hb); have n1_ := Aside0.mk (Kd.R_below (br HO469.out) hb); have n2_ := Aside0.mk (Kd.R_lower (Kd.R_new' ho43 (Kd.R_lt (br HO466.out))) (below_size (q1 HB.out GE448.out GE449.out))); have n3_ := Aside0.mk (blk_below (bk BK448.out) hb); have n4_ := Aside0.mk (blk_below (bk BK449.out) hb); have n5_ := Aside0.mk (below_step (q1 HB.out GE448.out GE449.out) hb); clear HO466; clear HO469; clear BK448; clear BK449; clear HB; have HO466 := n0_; have HO469 := n1_; have HO473 := n2_; have BK448 := n3_; have BK449 := n4_; have HB := n5_; clear n0_ n1_ n2_ n3_ n4_ n5_; clear hb ho43) | ((with_reducible refine gate_builtin (b := .append) (xs := #[.tmp 42, .tmp 43]) rfl ?_); (try (refine gate_guard (by rfl) ?_; dsimp only)); at_builtin; refine Kd.R_append_rows (Kd.int .i64) (w0 := w) w.heap.size rfl (.tmp 42) (.tmp 43) 26 3 (.int .i64 0) 8 rfl Try.underlying26 info3 rfl (by decide) (by omega) v472 y471 l2 _ _ _ (fun k_ => some k_ ≠ (.slice Ao40 t464.length co40 : Value).ownBlock) (fun _ => False) rfl rfl ?aO ?aR (fun _ _ h => h) (fun _ h => h.elim) ?aF ?aB ?aS ?aL ?_; (case aR => repeat (first | exact (Kd.C_below HR2.out HB.out) | (with_reducible refine Kd.C_alloc ?_ _) | (with_reducible refine Kd.C_drewN ?_ _) | (with_reducible refine Kd.C_drew ?_))); (case aB => exact (q1 HB.out GE448.out GE449.out)); (case aF => exact (fun k_ hk => Kd.fresh' (Kd.R_lt (br HO466.out)) k_ hk)); (case aO => exact (by (with_reducible repeat (first | apply Kd.R_alloc | apply Kd.R_drewN | apply Kd.R_drew)); exact Kd.R_mono HO473.out (fun _ hk => hk.2))); (case aS => exact (below_size (q1 HB.out GE448.out GE449.out))); (case aL => have := LMc30.out; omega); intro v475 w44 ho hb hg hat; rw [← Ny474.out] at ho; have n0_ := Aside0.mk (blk_grown (g := gb448) (o := .cells #[.int .i64 a0_0, .int .i64 a0_1, .int .i64 a0_2, .int .i64 a0_3, .string a0_4, .string a0_5, .int .i64 a0_6, .int .i64 a0_7, .int .i64 a0_8, .int .i64 a0_9, .int .i64 a0_10, .slice A0_11 l0_11.length c0_11] 28 (0, 0)) (bk BK448.out) hg (Kd.R_ne HO473.out BK448.out (by decide))); have n1_ := Aside0.mk (blk_grown (g := gb449) (o := .cells #[.int .i64 a1_0, .int .i64 a1_1, .int .i64 a1_2, .int .i64 a1_3, .string a1_4, .string a1_5, .int .i64 a1_6, .int .i64 a1_7, .int .i64 a1_8, .int .i64 a1_9, .int .i64 a1_10, .slice A1_11 l1_11.length c1_11] 28 (0, 0)) (bk BK449.out) hg (Kd.R_ne HO473.out BK449.out (by decide))); have n2_ := Aside0.mk (Kd.R_after (ok := (fun _ => True)) (br HO466.out) hg hat); have n3_ := Aside0.mk (Kd.R_over' (br HO469.out) (Kd.R_typed (br HO473.out)) (by decide) hg); have n4_ := Aside0.mk (hb); have n5_ := Aside0.mk (ho); clear BK448; clear BK449; clear HO466; clear HO469; clear HB; clear HO473; have BK448 := n0_; have BK449 := n1_; have HO466 := n2_; have HO469 := n3_; have HB := n4_; have HO476 := n5_; clear n0_ n1_ n2_ n3_ n4_ n5_; clear ho hb hg hat; obtain ⟨Ao45, co45, eo45⟩ := Kd.R_slice HO476.out; subst eo45) | ((with_reducible refine gate_callee (f := 16) rfl ?_); refine goesL_ (some 45) rfl rfl Try.func16 (by kernel_rfl) rfl #[.slice Ao45 y474.length co45] rfl (by (try simp only [List.map_toArray, List.map_cons, List.map_nil]); first | done | rfl | (simp only [List.length_drop, List.length_take]; rfl)) ?_; (with_reducible refine (entry_PutChain.calls kj4 _ _ y474 t477 t478 _ ?side1 ?side2 A31.out).mono ?_); (case side1 => repeat (first | exact (Kd.R_reads' HO476.out).2.2 | (with_reducible refine Kd.C_alloc ?_ _) | (with_reducible refine Kd.C_drewN ?_ _) | (with_reducible refine Kd.C_drew ?_))); (case side2 => exact (Kd.R_reads' HO476.out).2.1); rintro e w46 ⟨v479, rfl, ho0, hb⟩; refine ⟨_, rfl, ?_⟩; have n0_ := Aside0.mk (Kd.R_below (br HO466.out) hb); have n1_ := Aside0.mk (Kd.R_elder' (br HO469.out) (Kd.R_base ho0) hb); have n2_ := Aside0.mk (Kd.R_below (br HO476.out) hb); have n3_ := Aside0.mk (Kd.R_lower (Kd.R_new' ho0 (Kd.R_lt (br HO469.out))) (below_size (q1 HB.out GE448.out GE449.out))); have n4_ := Aside0.mk (blk_below (bk BK448.out) hb); have n5_ := Aside0.mk (blk_below (bk BK449.out) hb); have n6_ := Aside0.mk (below_step (q1 HB.out GE448.out GE449.out) hb); clear HO466; clear HO469; clear HO476; clear BK448; clear BK449; clear HB; have HO466 := n0_; have HO469 := n1_; have HO476 := n2_; have HO480 := n3_; have BK448 := n4_; have BK449 := n5_; have HB := n6_; clear n0_ n1_ n2_ n3_ n4_ n5_ n6_; (try clear hb); (try clear hb2); (try clear hk); (try clear hi); (try clear ho0); obtain ⟨hcz47_0, hcz47_1, hcz47_2, hcz47_3, hcz47_4, hcz47_5, hcz47_6, hcz47_7, hcz47_8, hcz47_9, hcz47_10, hcz47_11⟩ := cells12 BK448.out; obtain ⟨hfz47_0, hfz47_1, hfz47_2, hfz47_3, hfz47_4, hfz47_5, hfz47_6, hfz47_7, hfz47_8, hfz47_9, hfz47_10, hfz47_11⟩ := frz12 BK448.out) | ((with_reducible refine gate_callee (f := 10) rfl ?_); refine goesL_ (some 50) rfl rfl Try.func10 (by kernel_rfl) rfl #[.agg #[.int .i64 a0_0, .int .i64 a0_1, .int .i64 a0_2, .int .i64 a0_3, .string a0_4, .string a0_5, .int .i64 a0_6, .int .i64 a0_7, .int .i64 a0_8, .int .i64 a0_9, .int .i64 a0_10, .slice A0_11 l0_11.length c0_11]] rfl (by (try simp only [List.map_toArray, List.map_cons, List.map_nil]); first | done | rfl | (simp only [List.length_drop, List.length_take]; rfl)) ?_; (with_reducible refine (glebelaw11_Own.calls a0_0 a0_1 a0_2 a0_3 a0_4 a0_5 a0_6 a0_7 a0_8 a0_9 a0_10 _ _ l0_11 t481 t482 t483 t484 t485 t486 t487 t488 t489 t490 t491 t492 _ ?side1 ?side2 A32.out).mono ?_); (case side1 => repeat (first | exact (Kd.C_below HR0_11.out HB.out) | (with_reducible refine Kd.C_alloc ?_ _) | (with_reducible refine Kd.C_drewN ?_ _) | (with_reducible refine Kd.C_drew ?_))); (case side2 => exact HC0_11.out); rintro e w48 ⟨v493, rfl, ho0, hb⟩; refine ⟨_, rfl, ?_⟩; have n0_ := Aside0.mk (Kd.R_elder' (br HO466.out) (Kd.R_base ho0) hb); have n1_ := Aside0.mk (Kd.R_below (br HO469.out) hb); have n2_ := Aside0.mk (Kd.R_elder' (br HO476.out) (Kd.R_base ho0) hb); have n3_ := Aside0.mk (Kd.R_below (br HO480.out) hb); have n4_ := Aside0.mk (Kd.R_lower (Kd.R_new' (Kd.R_new' ho0 (Kd.R_lt (br HO466.out))) (Kd.R_lt (br HO476.out))) (below_size (q1 HB.out GE448.out GE449.out))); have n5_ := Aside0.mk (blk_below (bk BK448.out) hb); have n6_ := Aside0.mk (blk_below (bk BK449.out) hb); have n7_ := Aside0.mk (below_step (q1 HB.out GE448.out GE449.out) hb); clear HO466; clear HO469; clear HO476; clear HO480; clear BK448; clear BK449; clear HB; have HO466 := n0_; have HO469 := n1_; have HO476 := n2_; have HO480 := n3_; have HO494 := n4_; have BK448 := n5_; have BK449 := n6_; have HB := n7_; clear n0_ n1_ n2_ n3_ n4_ n5_ n6_ n7_; (try clear hb); (try clear hb2); (try clear hk); (try clear hi); (try clear ho0); obtain ⟨Ao49, co49, eo49⟩ := Kd.R_slice HO494.out; subst eo49) | ((with_reducible refine gate_callee (f := 9) rfl ?_); refine goesL_ (some 51) rfl rfl Try.func9 (by kernel_rfl) rfl #[.agg #[.int .i64 t481, .int .i64 t482, .int .i64 t483, .int .i64 t484, .string t485, .string t486, .int .i64 t487, .int .i64 t488, .int .i64 t489, .int .i64 t490, .int .i64 t491, .slice Ao49 t492.length co49]] rfl (by (try simp only [List.map_toArray, List.map_cons, List.map_nil]); first | done | rfl | (simp only [List.length_drop, List.length_take]; rfl)) ?_; (with_reducible refine (entry_Heirs.calls kj4 t481 t482 t483 t484 t485 t486 t487 t488 t489 t490 t491 _ _ t492 t495 t498 _ ?side1 ?side2 A33.out).mono ?_); (case side1 => repeat (first | exact (Kd.R_reads' HO494.out).2.2 | (with_reducible refine Kd.C_alloc ?_ _) | (with_reducible refine Kd.C_drewN ?_ _) | (with_reducible refine Kd.C_drew ?_))); (case side2 => exact (Kd.R_reads' HO494.out).2.1); rintro e w50 ⟨v496, v499, rfl, ho0, ho1, hb⟩; refine ⟨_, rfl, ?_⟩; have n0_ := Aside0.mk (Kd.R_mono (Kd.R_told (Kd.R_told (Kd.R_old (br HO466.out) hb) (Kd.R_base ho0)) (Kd.R_base ho1)) (fun _ h_ => h_.1)); have n1_ := Aside0.mk (Kd.R_below (br HO469.out) hb); have n2_ := Aside0.mk (Kd.R_mono (Kd.R_told (Kd.R_told (Kd.R_old (br HO476.out) hb) (Kd.R_base ho0)) (Kd.R_base ho1)) (fun _ h_ => h_.1)); have n3_ := Aside0.mk (Kd.R_below (br HO480.out) hb); have n4_ := Aside0.mk (Kd.R_mono (Kd.R_told (Kd.R_told (Kd.R_old (br HO494.out) hb) (Kd.R_base ho0)) (Kd.R_base ho1)) (fun _ h_ => h_.1)); have n5_ := Aside0.mk (Kd.R_lower (Kd.R_new' (Kd.R_new' (Kd.R_new' ho0 (Kd.R_lt (br HO466.out))) (Kd.R_lt (br HO476.out))) (Kd.R_lt (br HO494.out))) (below_size (q1 HB.out GE448.out GE449.out))); have n6_ := Aside0.mk (Kd.R_lower (Kd.R_new' (Kd.R_new' (Kd.R_new' ho1 (Kd.R_lt (br HO466.out))) (Kd.R_lt (br HO476.out))) (Kd.R_lt (br HO494.out))) (below_size (q1 HB.out GE448.out GE449.out))); have n7_ := Aside0.mk (blk_below (bk BK448.out) hb); have n8_ := Aside0.mk (blk_below (bk BK449.out) hb); have n9_ := Aside0.mk (below_step (q1 HB.out GE448.out GE449.out) hb); clear HO466; clear HO469; clear HO476; clear HO480; clear HO494; clear BK448; clear BK449; clear HB; have HO466 := n0_; have HO469 := n1_; have HO476 := n2_; have HO480 := n3_; have HO494 := n4_; have HO497 := n5_; have HO500 := n6_; have BK448 := n7_; have BK449 := n8_; have HB := n9_; clear n0_ n1_ n2_ n3_ n4_ n5_ n6_ n7_ n8_ n9_; (try clear hb); (try clear hb2); (try clear hk); (try clear hi); (try clear ho0); (try clear ho1); obtain ⟨hcz51_0, hcz51_1, hcz51_2, hcz51_3, hcz51_4, hcz51_5, hcz51_6, hcz51_7, hcz51_8, hcz51_9, hcz51_10, hcz51_11⟩ := cells12 BK448.out; obtain ⟨hfz51_0, hfz51_1, hfz51_2, hfz51_3, hfz51_4, hfz51_5, hfz51_6, hfz51_7, hfz51_8, hfz51_9, hfz51_10, hfz51_11⟩ := frz12 BK448.out) | ((with_reducible refine gate_callee (f := 17) rfl ?_); refine goesL_ (some 56) rfl rfl Try.func17 (by kernel_rfl) rfl #[.agg #[.int .i64 a0_0, .int .i64 a0_1, .int .i64 a0_2, .int .i64 a0_3, .string a0_4, .string a0_5, .int .i64 a0_6, .int .i64 a0_7, .int .i64 a0_8, .int .i64 a0_9, .int .i64 a0_10, .slice A0_11 l0_11.length c0_11]] rfl (by (try simp only [List.map_toArray, List.map_cons, List.map_nil]); first | done | rfl | (simp only [List.length_drop, List.length_take]; rfl)) ?_; (with_reducible refine (gleberef11_Heirs.calls kj4 a0_0 a0_1 a0_2 a0_3 a0_4 a0_5 a0_6 a0_7 a0_8 a0_9 a0_10 _ _ l0_11 t501 t504 _ ?side1 ?side2 A34.out).mono ?_); (case side1 => repeat (first | exact (Kd.C_below HR0_11.out HB.out) | (with_reducible refine Kd.C_alloc ?_ _) | (with_reducible refine Kd.C_drewN ?_ _) | (with_reducible refine Kd.C_drew ?_))); (case side2 => exact HC0_11.out); rintro e w52 ⟨v502, v505, rfl, ho0, ho1, hb⟩; refine ⟨_, rfl, ?_⟩; have n0_ := Aside0.mk (Kd.R_mono (Kd.R_told (Kd.R_told (Kd.R_old (br HO466.out) hb) (Kd.R_base ho0)) (Kd.R_base ho1)) (fun _ h_ => h_.1)); have n1_ := Aside0.mk (Kd.R_below (br HO469.out) hb); have n2_ := Aside0.mk (Kd.R_mono (Kd.R_told (Kd.R_told (Kd.R_old (br HO476.out) hb) (Kd.R_base ho0)) (Kd.R_base ho1)) (fun _ h_ => h_.1)); have n3_ := Aside0.mk (Kd.R_below (br HO480.out) hb); have n4_ := Aside0.mk (Kd.R_mono (Kd.R_told (Kd.R_told (Kd.R_old (br HO494.out) hb) (Kd.R_base ho0)) (Kd.R_base ho1)) (fun _ h_ => h_.1)); have n5_ := Aside0.mk (Kd.R_mono (Kd.R_told (Kd.R_told (Kd.R_old (br HO497.out) hb) (Kd.R_base ho0)) (Kd.R_base ho1)) (fun _ h_ => h_.1)); have n6_ := Aside0.mk (Kd.R_mono (Kd.R_told (Kd.R_told (Kd.R_old (br HO500.out) hb) (Kd.R_base ho0)) (Kd.R_base ho1)) (fun _ h_ => h_.1)); have n7_ := Aside0.mk (Kd.R_lower (Kd.R_new' (Kd.R_new' (Kd.R_new' (Kd.R_new' (Kd.R_new' ho0 (Kd.R_lt (br HO466.out))) (Kd.R_lt (br HO476.out))) (Kd.R_lt (br HO494.out))) (Kd.R_lt (br HO497.out))) (Kd.R_lt (br HO500.out))) (below_size (q1 HB.out GE448.out GE449.out))); have n8_ := Aside0.mk (Kd.R_lower (Kd.R_new' (Kd.R_new' (Kd.R_new' (Kd.R_new' (Kd.R_new' ho1 (Kd.R_lt (br HO466.out))) (Kd.R_lt (br HO476.out))) (Kd.R_lt (br HO494.out))) (Kd.R_lt (br HO497.out))) (Kd.R_lt (br HO500.out))) (below_size (q1 HB.out GE448.out GE449.out))); have n9_ := Aside0.mk (blk_below (bk BK448.out) hb); have n10_ := Aside0.mk (blk_below (bk BK449.out) hb); have n11_ := Aside0.mk (below_step (q1 HB.out GE448.out GE449.out) hb); clear HO466; clear HO469; clear HO476; clear HO480; clear HO494; clear HO497; clear HO500; clear BK448; clear BK449; clear HB; have HO466 := n0_; have HO469 := n1_; have HO476 := n2_; have HO480 := n3_; have HO494 := n4_; have HO497 := n5_; have HO500 := n6_; have HO503 := n7_; have HO506 := n8_; have BK448 := n9_; have BK449 := n10_; have HB := n11_; clear n0_ n1_ n2_ n3_ n4_ n5_ n6_ n7_ n8_ n9_ n10_ n11_; (try clear hb); (try clear hb2); (try clear hk); (try clear hi); (try clear ho0); (try clear ho1)) | ((with_reducible refine gate_dst (N := 59) rfl ?_); (try (refine gate_guard (by rfl) ?_; dsimp only)); refine Kd.R_lit (Kd.int .i64) _ 3 ?hg (N := 59) ?hd (xs := ([] : List Int)) (inner := []) (ok := fun _ => True) (okp := fun _ => True) ?hr ?hp (fun _ hk => hk) trivial (Below.refl _ _) (Nat.le_refl _) (by simp) ?_; (case hd => rfl); (case hg => rfl); (case hr => first | (go_simp; done) | (go_simp; rfl)); (case hp => exact (Reps.none _ _)); intro v508 w53 ho54 hb hg_ hnew_; clear hg_ hnew_; (first | rw [← Ny507.out] at ho54 | (simp only [Int.reduceToNat] at ho54; rw [← Ny507.out] at ho54)); have n0_ := Aside0.mk (Kd.R_elder' (br HO466.out) (Kd.R_base ho54) hb); have n1_ := Aside0.mk (Kd.R_below (br HO469.out) hb); have n2_ := Aside0.mk (Kd.R_elder' (br HO476.out) (Kd.R_base ho54) hb); have n3_ := Aside0.mk (Kd.R_below (br HO480.out) hb); have n4_ := Aside0.mk (Kd.R_elder' (br HO494.out) (Kd.R_base ho54) hb); have n5_ := Aside0.mk (Kd.R_elder' (br HO497.out) (Kd.R_base ho54) hb); have n6_ := Aside0.mk (Kd.R_elder' (br HO500.out) (Kd.R_base ho54) hb); have n7_ := Aside0.mk (Kd.R_elder' (br HO503.out) (Kd.R_base ho54) hb); have n8_ := Aside0.mk (Kd.R_elder' (br HO506.out) (Kd.R_base ho54) hb); have n9_ := Aside0.mk (Kd.R_lower (Kd.R_new' (Kd.R_new' (Kd.R_new' (Kd.R_new' (Kd.R_new' (Kd.R_new' (Kd.R_new' ho54 (Kd.R_lt (br HO466.out))) (Kd.R_lt (br HO476.out))) (Kd.R_lt (br HO494.out))) (Kd.R_lt (br HO497.out))) (Kd.R_lt (br HO500.out))) (Kd.R_lt (br HO503.out))) (Kd.R_lt (br HO506.out))) (below_size (q1 HB.out GE448.out GE449.out))); have n10_ := Aside0.mk (blk_below (bk BK448.out) hb); have n11_ := Aside0.mk (blk_below (bk BK449.out) hb); have n12_ := Aside0.mk (below_step (q1 HB.out GE448.out GE449.out) hb); clear HO466; clear HO469; clear HO476; clear HO480; clear HO494; clear HO497; clear HO500; clear HO503; clear HO506; clear BK448; clear BK449; clear HB; have HO466 := n0_; have HO469 := n1_; have HO476 := n2_; have HO480 := n3_; have HO494 := n4_; have HO497 := n5_; have HO500 := n6_; have HO503 := n7_; have HO506 := n8_; have HO509 := n9_; have BK448 := n10_; have BK449 := n11_; have HB := n12_; clear n0_ n1_ n2_ n3_ n4_ n5_ n6_ n7_ n8_ n9_ n10_ n11_ n12_; clear hb ho54) | ((with_reducible refine gate_builtin (b := .append) (xs := #[.tmp 59, .tmp 60]) rfl ?_); (try (refine gate_guard (by rfl) ?_; dsimp only)); at_builtin; refine Kd.R_append_rows (Kd.int .i64) (w0 := w) w.heap.size rfl (.tmp 59) (.tmp 60) 26 3 (.int .i64 0) 8 rfl Try.underlying26 info3 rfl (by decide) (by omega) v508 y507 l2 _ _ _ (fun k_ => some k_ ≠ (.slice Ao40 t464.length co40 : Value).ownBlock ∧ some k_ ≠ (.slice Ao45 y474.length co45 : Value).ownBlock ∧ some k_ ≠ (.slice Ao49 t492.length co49 : Value).ownBlock ∧ some k_ ≠ (v496 : Value).ownBlock ∧ some k_ ≠ (v499 : Value).ownBlock ∧ some k_ ≠ (v502 : Value).ownBlock ∧ some k_ ≠ (v505 : Value).ownBlock) (fun _ => False) rfl rfl ?aO ?aR (fun _ _ h => h) (fun _ h => h.elim) ?aF ?aB ?aS ?aL ?_; (case aR => repeat (first | exact (Kd.C_below HR2.out HB.out) | (with_reducible refine Kd.C_alloc ?_ _) | (with_reducible refine Kd.C_drewN ?_ _) | (with_reducible refine Kd.C_drew ?_))); (case aB => exact (q1 HB.out GE448.out GE449.out)); (case aF => exact (fun k_ hk => ⟨Kd.fresh' (Kd.R_lt (br HO466.out)) k_ hk, Kd.fresh' (Kd.R_lt (br HO476.out)) k_ hk, Kd.fresh' (Kd.R_lt (br HO494.out)) k_ hk, Kd.fresh' (Kd.R_lt (br HO497.out)) k_ hk, Kd.fresh' (Kd.R_lt (br HO500.out)) k_ hk, Kd.fresh' (Kd.R_lt (br HO503.out)) k_ hk, Kd.fresh' (Kd.R_lt (br HO506.out)) k_ hk⟩)); (case aO => exact (by (with_reducible repeat (first | apply Kd.R_alloc | apply Kd.R_drewN | apply Kd.R_drew)); exact Kd.R_mono HO509.out (fun _ hk => ⟨hk.1.1.1.1.1.1.2, ⟨hk.1.1.1.1.1.2, ⟨hk.1.1.1.1.2, ⟨hk.1.1.1.2, ⟨hk.1.1.2, ⟨hk.1.2, hk.2⟩⟩⟩⟩⟩⟩))); (case aS => exact (below_size (q1 HB.out GE448.out GE449.out))); (case aL => have := LMc35.out; omega); intro v511 w55 ho hb hg hat; rw [← Ny510.out] at ho; have n0_ := Aside0.mk (blk_grown (g := gb448) (o := .cells #[.int .i64 a0_0, .int .i64 a0_1, .int .i64 a0_2, .int .i64 a0_3, .string a0_4, .string a0_5, .int .i64 a0_6, .int .i64 a0_7, .int .i64 a0_8, .int .i64 a0_9, .int .i64 a0_10, .slice A0_11 l0_11.length c0_11] 28 (0, 0)) (bk BK448.out) hg (Kd.R_ne HO509.out BK448.out (by decide))); have n1_ := Aside0.mk (blk_grown (g := gb449) (o := .cells #[.int .i64 a1_0, .int .i64 a1_1, .int .i64 a1_2, .int .i64 a1_3, .string a1_4, .string a1_5, .int .i64 a1_6, .int .i64 a1_7, .int .i64 a1_8, .int .i64 a1_9, .int .i64 a1_10, .slice A1_11 l1_11.length c1_11] 28 (0, 0)) (bk BK449.out) hg (Kd.R_ne HO509.out BK449.out (by decide))); have n2_ := Aside0.mk (Kd.R_after (ok := (fun k_ => some k_ ≠ (.slice Ao45 y474.length co45 : Value).ownBlock ∧ some k_ ≠ (.slice Ao49 t492.length co49 : Value).ownBlock ∧ some k_ ≠ (v496 : Value).ownBlock ∧ some k_ ≠ (v499 : Value).ownBlock ∧ some k_ ≠ (v502 : Value).ownBlock ∧ some k_ ≠ (v505 : Value).ownBlock)) (by (with_reducible repeat (first | apply Kd.R_alloc | apply Kd.R_drewN | apply Kd.R_drew)); exact Kd.R_mono HO466.out (fun _ hk => ⟨⟨hk.1.1.1.1.1.1.2, ⟨hk.1.1.1.1.1.2, ⟨hk.1.1.1.1.2, ⟨hk.1.1.1.2, ⟨hk.1.1.2, hk.1.2⟩⟩⟩⟩⟩, hk.2⟩)) hg hat); have n3_ := Aside0.mk (Kd.R_over' (br HO469.out) (Kd.R_typed (br HO509.out)) (by decide) hg); have n4_ := Aside0.mk (Kd.R_after (ok := (fun k_ => some k_ ≠ (.slice Ao40 t464.length co40 : Value).ownBlock ∧ some k_ ≠ (.slice Ao49 t492.length co49 : Value).ownBlock ∧ some k_ ≠ (v496 : Value).ownBlock ∧ some k_ ≠ (v499 : Value).ownBlock ∧ some k_ ≠ (v502 : Value).ownBlock ∧ some k_ ≠ (v505 : Value).ownBlock)) (by (with_reducible repeat (first | apply Kd.R_alloc | apply Kd.R_drewN | apply Kd.R_drew)); exact Kd.R_mono HO476.out (fun _ hk => ⟨⟨hk.1.1.1.1.1.1, ⟨hk.1.1.1.1.1.2, ⟨hk.1.1.1.1.2, ⟨hk.1.1.1.2, ⟨hk.1.1.2, hk.1.2⟩⟩⟩⟩⟩, hk.2⟩)) hg hat); have n5_ := Aside0.mk (Kd.R_over' (br HO480.out) (Kd.R_typed (br HO509.out)) (by decide) hg); have n6_ := Aside0.mk (Kd.R_after (ok := (fun k_ => some k_ ≠ (.slice Ao40 t464.length co40 : Value).ownBlock ∧ some k_ ≠ (.slice Ao45 y474.length co45 : Value).ownBlock ∧ some k_ ≠ (v496 : Value).ownBlock ∧ some k_ ≠ (v499 : Value).ownBlock ∧ some k_ ≠ (v502 : Value).ownBlock ∧ some k_ ≠ (v505 : Value).ownBlock)) (by (with_reducible repeat (first | apply Kd.R_alloc | apply Kd.R_drewN | apply Kd.R_drew)); exact Kd.R_mono HO494.out (fun _ hk => ⟨⟨hk.1.1.1.1.1.1.2, ⟨hk.1.1.1.1.1.2, ⟨hk.1.1.1.1.2, ⟨hk.1.1.1.2, ⟨hk.1.1.2, hk.1.2⟩⟩⟩⟩⟩, hk.2⟩)) hg hat); have n7_ := Aside0.mk (Kd.R_after (ok := (fun k_ => some k_ ≠ (.slice Ao40 t464.length co40 : Value).ownBlock ∧ some k_ ≠ (.slice Ao45 y474.length co45 : Value).ownBlock ∧ some k_ ≠ (.slice Ao49 t492.length co49 : Value).ownBlock ∧ some k_ ≠ (v499 : Value).ownBlock ∧ some k_ ≠ (v502 : Value).ownBlock ∧ some k_ ≠ (v505 : Value).ownBlock)) (by (with_reducible repeat (first | apply Kd.R_alloc | apply Kd.R_drewN | apply Kd.R_drew)); exact Kd.R_mono HO497.out (fun _ hk => ⟨⟨hk.1.1.1.1.1.2, ⟨hk.1.1.1.1.2, ⟨hk.1.1.1.2, ⟨hk.1.1.1.1.1.1, ⟨hk.1.1.2, hk.1.2⟩⟩⟩⟩⟩, hk.2⟩)) hg hat); have n8_ := Aside0.mk (Kd.R_after (ok := (fun k_ => some k_ ≠ (.slice Ao40 t464.length co40 : Value).ownBlock ∧ some k_ ≠ (.slice Ao45 y474.length co45 : Value).ownBlock ∧ some k_ ≠ (.slice Ao49 t492.length co49 : Value).ownBlock ∧ some k_ ≠ (v496 : Value).ownBlock ∧ some k_ ≠ (v502 : Value).ownBlock ∧ some k_ ≠ (v505 : Value).ownBlock)) (by (with_reducible repeat (first | apply Kd.R_alloc | apply Kd.R_drewN | apply Kd.R_drew)); exact Kd.R_mono HO500.out (fun _ hk => ⟨⟨hk.1.1.1.1.1.2, ⟨hk.1.1.1.1.2, ⟨hk.1.1.1.2, ⟨hk.1.1.1.1.1.1, ⟨hk.1.1.2, hk.1.2⟩⟩⟩⟩⟩, hk.2⟩)) hg hat); have n9_ := Aside0.mk (Kd.R_after (ok := (fun k_ => some k_ ≠ (.slice Ao40 t464.length co40 : Value).ownBlock ∧ some k_ ≠ (.slice Ao45 y474.length co45 : Value).ownBlock ∧ some k_ ≠ (.slice Ao49 t492.length co49 : Value).ownBlock ∧ some k_ ≠ (v496 : Value).ownBlock ∧ some k_ ≠ (v499 : Value).ownBlock ∧ some k_ ≠ (v505 : Value).ownBlock)) (by (with_reducible repeat (first | apply Kd.R_alloc | apply Kd.R_drewN | apply Kd.R_drew)); exact Kd.R_mono HO503.out (fun _ hk => ⟨⟨hk.1.1.1.1.1.2, ⟨hk.1.1.1.1.2, ⟨hk.1.1.1.2, ⟨hk.1.1.2, ⟨hk.1.2, hk.1.1.1.1.1.1⟩⟩⟩⟩⟩, hk.2⟩)) hg hat); have n10_ := Aside0.mk (Kd.R_after (ok := (fun k_ => some k_ ≠ (.slice Ao40 t464.length co40 : Value).ownBlock ∧ some k_ ≠ (.slice Ao45 y474.length co45 : Value).ownBlock ∧ some k_ ≠ (.slice Ao49 t492.length co49 : Value).ownBlock ∧ some k_ ≠ (v496 : Value).ownBlock ∧ some k_ ≠ (v499 : Value).ownBlock ∧ some k_ ≠ (v502 : Value).ownBlock)) (by (with_reducible repeat (first | apply Kd.R_alloc | apply Kd.R_drewN | apply Kd.R_drew)); exact Kd.R_mono HO506.out (fun _ hk => ⟨⟨hk.1.1.1.1.1.2, ⟨hk.1.1.1.1.2, ⟨hk.1.1.1.2, ⟨hk.1.1.2, ⟨hk.1.2, hk.1.1.1.1.1.1⟩⟩⟩⟩⟩, hk.2⟩)) hg hat); have n11_ := Aside0.mk (hb); have n12_ := Aside0.mk (ho); clear BK448; clear BK449; clear HO466; clear HO469; clear HO476; clear HO480; clear HO494; clear HO497; clear HO500; clear HO503; clear HO506; clear HB; clear HO509; have BK448 := n0_; have BK449 := n1_; have HO466 := n2_; have HO469 := n3_; have HO476 := n4_; have HO480 := n5_; have HO494 := n6_; have HO497 := n7_; have HO500 := n8_; have HO503 := n9_; have HO506 := n10_; have HB := n11_; have HO512 := n12_; clear n0_ n1_ n2_ n3_ n4_ n5_ n6_ n7_ n8_ n9_ n10_ n11_ n12_; clear ho hb hg hat))
      (try simp only [Act.put, List.setIfInBounds_toArray, List.set_cons_zero, List.set_cons_succ])
      go_cut [87] (fun v87 wc => ∃ (kq : Nat) (x87_35 : Bool), v87 = .bool x87_35 ∧ Aside0 (glebelaw11_EntryLooks.j1 kq l2 t467 t470 t477 t478 y510 x87_35 a0_0 a0_1 a0_2 a0_3 a0_4 a0_5 a0_6 a0_7 a0_8 a0_9 a0_10 l0_11 a1_0 a1_1 a1_2 a1_3 a1_4 a1_5 a1_6 a1_7 a1_8 a1_9 a1_10 l1_11 = some r) ∧ Aside0 (kq ≤ kj4) ∧ Aside0 (Kd.R (Kd.int .u8) 5 wc w.heap.size (fun k_ => some k_ ≠ (v479 : Value).ownBlock) v468 t467) ∧ Aside0 (Kd.R (Kd.int .u8) 5 wc w.heap.size (fun k_ => some k_ ≠ (v468 : Value).ownBlock) v479 t477) ∧ Aside0 (Kd.R (Kd.int .i64) 3 wc w.heap.size (fun _ => True) v511 y510) ∧ Aside0 (wc.heap[gb448]? = some (.cells #[.int .i64 a0_0, .int .i64 a0_1, .int .i64 a0_2, .int .i64 a0_3, .string a0_4, .string a0_5, .int .i64 a0_6, .int .i64 a0_7, .int .i64 a0_8, .int .i64 a0_9, .int .i64 a0_10, (.slice A0_11 l0_11.length c0_11)] 28 (0, 0))) ∧ Aside0 (wc.heap[gb449]? = some (.cells #[.int .i64 a1_0, .int .i64 a1_1, .int .i64 a1_2, .int .i64 a1_3, .string a1_4, .string a1_5, .int .i64 a1_6, .int .i64 a1_7, .int .i64 a1_8, .int .i64 a1_9, .int .i64 a1_10, (.slice A1_11 l1_11.length c1_11)] 28 (0, 0))) ∧ Aside0 (Below w.heap.size w wc))
      case first =>
       have H := HC36.out
       clear HC36
       replace H := Option.bind_eq_some_iff.mp H
       obtain ⟨t513, A560, H⟩ := H
       try dsimp only at H
       have A56 := Aside0.mk A560
       clear A560
       replace H := Option.bind_eq_some_iff.mp H
       obtain ⟨t516, A570, H⟩ := H
       try dsimp only at H
       have A57 := Aside0.mk A570
       clear A570
       replace H := Option.bind_eq_some_iff.mp H
       obtain ⟨t519, A580, H⟩ := H
       try dsimp only at H
       have A58 := Aside0.mk A580
       clear A580
       by_cases c59 : t519 = true
       ·subst c59
        have H1 : ((gleberef11_SameList.f kj4 y510 l2).bind fun t520 => (if t520 = true then ((gleberef11_SameList.f kj4 t495 t501).bind fun t521 => (if t521 = true then ((gleberef11_SameList.f kj4 t498 t504).bind fun t522 => (glebelaw11_EntryLooks.j1 kj4 l2 t467 t470 t477 t478 y510 (!t522) a0_0 a0_1 a0_2 a0_3 a0_4 a0_5 a0_6 a0_7 a0_8 a0_9 a0_10 l0_11 a1_0 a1_1 a1_2 a1_3 a1_4 a1_5 a1_6 a1_7 a1_8 a1_9 a1_10 l1_11)) else (glebelaw11_EntryLooks.j1 kj4 l2 t467 t470 t477 t478 y510 true a0_0 a0_1 a0_2 a0_3 a0_4 a0_5 a0_6 a0_7 a0_8 a0_9 a0_10 l0_11 a1_0 a1_1 a1_2 a1_3 a1_4 a1_5 a1_6 a1_7 a1_8 a1_9 a1_10 l1_11))) else (glebelaw11_EntryLooks.j1 kj4 l2 t467 t470 t477 t478 y510 true a0_0 a0_1 a0_2 a0_3 a0_4 a0_5 a0_6 a0_7 a0_8 a0_9 a0_10 l0_11 a1_0 a1_1 a1_2 a1_3 a1_4 a1_5 a1_6 a1_7 a1_8 a1_9 a1_10 l1_11))) = some r := by rw [if_pos rfl] at H; exact H
        clear H
        have H := H1
        clear H1
        replace H := Option.bind_eq_some_iff.mp H
        obtain ⟨t520, A600, H⟩ := H
        try dsimp only at H
        have A60 := Aside0.mk A600
        clear A600
        by_cases c61 : t520 = true
        ·subst c61
         have H1 : ((gleberef11_SameList.f kj4 t495 t501).bind fun t521 => (if t521 = true then ((gleberef11_SameList.f kj4 t498 t504).bind fun t522 => (glebelaw11_EntryLooks.j1 kj4 l2 t467 t470 t477 t478 y510 (!t522) a0_0 a0_1 a0_2 a0_3 a0_4 a0_5 a0_6 a0_7 a0_8 a0_9 a0_10 l0_11 a1_0 a1_1 a1_2 a1_3 a1_4 a1_5 a1_6 a1_7 a1_8 a1_9 a1_10 l1_11)) else (glebelaw11_EntryLooks.j1 kj4 l2 t467 t470 t477 t478 y510 true a0_0 a0_1 a0_2 a0_3 a0_4 a0_5 a0_6 a0_7 a0_8 a0_9 a0_10 l0_11 a1_0 a1_1 a1_2 a1_3 a1_4 a1_5 a1_6 a1_7 a1_8 a1_9 a1_10 l1_11))) = some r := by rw [if_pos rfl] at H; exact H
         clear H
         have H := H1
         clear H1
         replace H := Option.bind_eq_some_iff.mp H
         obtain ⟨t521, A620, H⟩ := H
         try dsimp only at H
         have A62 := Aside0.mk A620
         clear A620
         by_cases c63 : t521 = true
         ·subst c63
          have H1 : ((gleberef11_SameList.f kj4 t498 t504).bind fun t522 => (glebelaw11_EntryLooks.j1 kj4 l2 t467 t470 t477 t478 y510 (!t522) a0_0 a0_1 a0_2 a0_3 a0_4 a0_5 a0_6 a0_7 a0_8 a0_9 a0_10 l0_11 a1_0 a1_1 a1_2 a1_3 a1_4 a1_5 a1_6 a1_7 a1_8 a1_9 a1_10 l1_11)) = some r := by rw [if_pos rfl] at H; exact H
          clear H
          have H := H1
          clear H1
          replace H := Option.bind_eq_some_iff.mp H
          obtain ⟨t522, A640, H⟩ := H
          try dsimp only at H
          have A64 := Aside0.mk A640
          clear A640
          have H' := Aside0.mk H
          clear H
          obtain ⟨Ao65, co65, eo65⟩ := Kd.R_slice HO512.out
          subst eo65
          go_wp2_with (first | ((with_reducible refine gate_callee (f := 18) rfl ?_); refine goesL_ (some 64) rfl rfl Try.func18 (by kernel_rfl) rfl #[.slice Ao65 y510.length co65, .int .i64 a3] rfl (by (try simp only [List.map_toArray, List.map_cons, List.map_nil]); first | done | rfl | (simp only [List.length_drop, List.length_take]; rfl)) ?_; (with_reducible refine (entry_Without.calls _ _ y510 a3 t513 _ ?side1 ?side2 A56.out).mono ?_); (case side1 => repeat (first | exact (Kd.R_reads' HO512.out).2.2 | (with_reducible refine Kd.C_alloc ?_ _) | (with_reducible refine Kd.C_drewN ?_ _) | (with_reducible refine Kd.C_drew ?_))); (case side2 => exact (Kd.R_reads' HO512.out).2.1); rintro e w66 ⟨v514, rfl, ho0, hb⟩; refine ⟨_, rfl, ?_⟩; have n0_ := Aside0.mk (Kd.R_elder' (br HO466.out) (Kd.R_base ho0) hb); have n1_ := Aside0.mk (Kd.R_below (br HO469.out) hb); have n2_ := Aside0.mk (Kd.R_elder' (br HO476.out) (Kd.R_base ho0) hb); have n3_ := Aside0.mk (Kd.R_below (br HO480.out) hb); have n4_ := Aside0.mk (Kd.R_elder' (br HO494.out) (Kd.R_base ho0) hb); have n5_ := Aside0.mk (Kd.R_elder' (br HO497.out) (Kd.R_base ho0) hb); have n6_ := Aside0.mk (Kd.R_elder' (br HO500.out) (Kd.R_base ho0) hb); have n7_ := Aside0.mk (Kd.R_elder' (br HO503.out) (Kd.R_base ho0) hb); have n8_ := Aside0.mk (Kd.R_elder' (br HO506.out) (Kd.R_base ho0) hb); have n9_ := Aside0.mk (Kd.R_elder' (br HO512.out) (Kd.R_base ho0) hb); have n10_ := Aside0.mk (Kd.R_lower (Kd.R_new' (Kd.R_new' (Kd.R_new' (Kd.R_new' (Kd.R_new' (Kd.R_new' (Kd.R_new' (Kd.R_new' ho0 (Kd.R_lt (br HO466.out))) (Kd.R_lt (br HO476.out))) (Kd.R_lt (br HO494.out))) (Kd.R_lt (br HO497.out))) (Kd.R_lt (br HO500.out))) (Kd.R_lt (br HO503.out))) (Kd.R_lt (br HO506.out))) (Kd.R_lt (br HO512.out))) (below_size (q1 HB.out GE448.out GE449.out))); have n11_ := Aside0.mk (blk_below (bk BK448.out) hb); have n12_ := Aside0.mk (blk_below (bk BK449.out) hb); have n13_ := Aside0.mk (below_step (q1 HB.out GE448.out GE449.out) hb); clear HO466; clear HO469; clear HO476; clear HO480; clear HO494; clear HO497; clear HO500; clear HO503; clear HO506; clear HO512; clear BK448; clear BK449; clear HB; have HO466 := n0_; have HO469 := n1_; have HO476 := n2_; have HO480 := n3_; have HO494 := n4_; have HO497 := n5_; have HO500 := n6_; have HO503 := n7_; have HO506 := n8_; have HO512 := n9_; have HO515 := n10_; have BK448 := n11_; have BK449 := n12_; have HB := n13_; clear n0_ n1_ n2_ n3_ n4_ n5_ n6_ n7_ n8_ n9_ n10_ n11_ n12_ n13_; (try clear hb); (try clear hb2); (try clear hk); (try clear hi); (try clear ho0)) | ((with_reducible refine gate_callee (f := 19) rfl ?_); refine goesL_ (some 67) rfl rfl Try.func19 (by kernel_rfl) rfl #[.slice A2 l2.length c2, .int .i64 a3] rfl (by (try simp only [List.map_toArray, List.map_cons, List.map_nil]); first | done | rfl | (simp only [List.length_drop, List.length_take]; rfl)) ?_; (with_reducible refine (gleberef11_Without.calls kj4 _ _ l2 a3 t516 _ ?side1 ?side2 A57.out).mono ?_); (case side1 => repeat (first | exact (Kd.C_below HR2.out HB.out) | (with_reducible refine Kd.C_alloc ?_ _) | (with_reducible refine Kd.C_drewN ?_ _) | (with_reducible refine Kd.C_drew ?_))); (case side2 => exact HC2.out); rintro e w67 ⟨v517, rfl, ho0, hb⟩; refine ⟨_, rfl, ?_⟩; have n0_ := Aside0.mk (Kd.R_elder' (br HO466.out) (Kd.R_base ho0) hb); have n1_ := Aside0.mk (Kd.R_below (br HO469.out) hb); have n2_ := Aside0.mk (Kd.R_elder' (br HO476.out) (Kd.R_base ho0) hb); have n3_ := Aside0.mk (Kd.R_below (br HO480.out) hb); have n4_ := Aside0.mk (Kd.R_elder' (br HO494.out) (Kd.R_base ho0) hb); have n5_ := Aside0.mk (Kd.R_elder' (br HO497.out) (Kd.R_base ho0) hb); have n6_ := Aside0.mk (Kd.R_elder' (br HO500.out) (Kd.R_base ho0) hb); have n7_ := Aside0.mk (Kd.R_elder' (br HO503.out) (Kd.R_base ho0) hb); have n8_ := Aside0.mk (Kd.R_elder' (br HO506.out) (Kd.R_base ho0) hb); have n9_ := Aside0.mk (Kd.R_elder' (br HO512.out) (Kd.R_base ho0) hb); have n10_ := Aside0.mk (Kd.R_elder' (br HO515.out) (Kd.R_base ho0) hb); have n11_ := Aside0.mk (Kd.R_lower (Kd.R_new' (Kd.R_new' (Kd.R_new' (Kd.R_new' (Kd.R_new' (Kd.R_new' (Kd.R_new' (Kd.R_new' (Kd.R_new' ho0 (Kd.R_lt (br HO466.out))) (Kd.R_lt (br HO476.out))) (Kd.R_lt (br HO494.out))) (Kd.R_lt (br HO497.out))) (Kd.R_lt (br HO500.out))) (Kd.R_lt (br HO503.out))) (Kd.R_lt (br HO506.out))) (Kd.R_lt (br HO512.out))) (Kd.R_lt (br HO515.out))) (below_size (q1 HB.out GE448.out GE449.out))); have n12_ := Aside0.mk (blk_below (bk BK448.out) hb); have n13_ := Aside0.mk (blk_below (bk BK449.out) hb); have n14_ := Aside0.mk (below_step (q1 HB.out GE448.out GE449.out) hb); clear HO466; clear HO469; clear HO476; clear HO480; clear HO494; clear HO497; clear HO500; clear HO503; clear HO506; clear HO512; clear HO515; clear BK448; clear BK449; clear HB; have HO466 := n0_; have HO469 := n1_; have HO476 := n2_; have HO480 := n3_; have HO494 := n4_; have HO497 := n5_; have HO500 := n6_; have HO503 := n7_; have HO506 := n8_; have HO512 := n9_; have HO515 := n10_; have HO518 := n11_; have BK448 := n12_; have BK449 := n13_; have HB := n14_; clear n0_ n1_ n2_ n3_ n4_ n5_ n6_ n7_ n8_ n9_ n10_ n11_ n12_ n13_ n14_; (try clear hb); (try clear hb2); (try clear hk); (try clear hi); (try clear ho0); obtain ⟨Ao68, co68, eo68⟩ := Kd.R_slice HO515.out; subst eo68; obtain ⟨Ao69, co69, eo69⟩ := Kd.R_slice HO518.out; subst eo69) | ((with_reducible refine gate_callee (f := 14) rfl ?_); refine goesL_ (some 68) rfl rfl Try.func14 (by kernel_rfl) rfl #[.slice Ao68 t513.length co68, .slice Ao69 t516.length co69] rfl (by (try simp only [List.map_toArray, List.map_cons, List.map_nil]); first | done | rfl | (simp only [List.length_drop, List.length_take]; rfl)) ?_; (with_reducible refine (gleberef11_SameList.calls kj4 _ _ t513 _ _ t516 true _ ?side1 ?side2 ?side3 ?side4 A58.out).mono ?_); (case side1 => repeat (first | exact (Kd.R_reads' HO515.out).2.2 | (with_reducible refine Kd.C_alloc ?_ _) | (with_reducible refine Kd.C_drewN ?_ _) | (with_reducible refine Kd.C_drew ?_))); (case side2 => exact (Kd.R_reads' HO515.out).2.1); (case side3 => repeat (first | exact (Kd.R_reads' HO518.out).2.2 | (with_reducible refine Kd.C_alloc ?_ _) | (with_reducible refine Kd.C_drewN ?_ _) | (with_reducible refine Kd.C_drew ?_))); (case side4 => exact (Kd.R_reads' HO518.out).2.1); rintro e w' ⟨rfl, ⟨nd, rfl⟩⟩; refine ⟨_, rfl, ?_⟩) | (go_at_call 14; (with_reducible refine (gleberef11_SameList.calls kj4 _ _ y510 _ _ l2 true _ ?side1 ?side2 ?side3 ?side4 A60.out).mono ?_); (case side1 => repeat (first | exact (Kd.R_reads' HO512.out).2.2 | (with_reducible refine Kd.C_alloc ?_ _) | (with_reducible refine Kd.C_drewN ?_ _) | (with_reducible refine Kd.C_drew ?_))); (case side2 => exact (Kd.R_reads' HO512.out).2.1); (case side3 => repeat (first | exact (Kd.C_below HR2.out (q1 HB.out GE448.out GE449.out)) | (with_reducible refine Kd.C_alloc ?_ _) | (with_reducible refine Kd.C_drewN ?_ _) | (with_reducible refine Kd.C_drew ?_))); (case side4 => exact HC2.out); rintro e w' ⟨rfl, ⟨nd, rfl⟩⟩; obtain ⟨Ao70, co70, eo70⟩ := Kd.R_slice HO497.out; subst eo70; obtain ⟨Ao71, co71, eo71⟩ := Kd.R_slice HO503.out; subst eo71) | (go_at_call 14; (with_reducible refine (gleberef11_SameList.calls kj4 _ _ t495 _ _ t501 true _ ?side1 ?side2 ?side3 ?side4 A62.out).mono ?_); (case side1 => repeat (first | exact (Kd.R_reads' HO497.out).2.2 | (with_reducible refine Kd.C_alloc ?_ _) | (with_reducible refine Kd.C_drewN ?_ _) | (with_reducible refine Kd.C_drew ?_))); (case side2 => exact (Kd.R_reads' HO497.out).2.1); (case side3 => repeat (first | exact (Kd.R_reads' HO503.out).2.2 | (with_reducible refine Kd.C_alloc ?_ _) | (with_reducible refine Kd.C_drewN ?_ _) | (with_reducible refine Kd.C_drew ?_))); (case side4 => exact (Kd.R_reads' HO503.out).2.1); rintro e w' ⟨rfl, ⟨nd, rfl⟩⟩; obtain ⟨Ao72, co72, eo72⟩ := Kd.R_slice HO500.out; subst eo72; obtain ⟨Ao73, co73, eo73⟩ := Kd.R_slice HO506.out; subst eo73) | (go_at_call 14; (with_reducible refine (gleberef11_SameList.calls kj4 _ _ t498 _ _ t504 t522 _ ?side1 ?side2 ?side3 ?side4 A64.out).mono ?_); (case side1 => repeat (first | exact (Kd.R_reads' HO500.out).2.2 | (with_reducible refine Kd.C_alloc ?_ _) | (with_reducible refine Kd.C_drewN ?_ _) | (with_reducible refine Kd.C_drew ?_))); (case side2 => exact (Kd.R_reads' HO500.out).2.1); (case side3 => repeat (first | exact (Kd.R_reads' HO506.out).2.2 | (with_reducible refine Kd.C_alloc ?_ _) | (with_reducible refine Kd.C_drewN ?_ _) | (with_reducible refine Kd.C_drew ?_))); (case side4 => exact (Kd.R_reads' HO506.out).2.1); rintro e w' ⟨rfl, ⟨nd, rfl⟩⟩))
          go_meet
          case rel => exact ⟨_, (!t522), (by first | rfl | (simp; done) | (simp [*]; done)), H', ⟨by have := HJ4.out; first | omega | exact Nat.le_refl _⟩, ⟨by (with_reducible repeat (first | apply Kd.R_alloc | apply Kd.R_drewN | apply Kd.R_drew)); exact Kd.R_mono HO469.out (fun _ hk => hk.2)⟩, ⟨by (with_reducible repeat (first | apply Kd.R_alloc | apply Kd.R_drewN | apply Kd.R_drew)); exact Kd.R_mono HO480.out (fun _ hk => hk.2)⟩, ⟨by (with_reducible repeat (first | apply Kd.R_alloc | apply Kd.R_drewN | apply Kd.R_drew)); exact Kd.R_mono HO512.out (fun _ hk => trivial)⟩, ⟨by (with_reducible repeat (first | refine blk_drewN ?_ _ | refine blk_drew ?_ | refine blk_alloc ?_ _)); exact BK448.out⟩, ⟨by (with_reducible repeat (first | refine blk_drewN ?_ _ | refine blk_drew ?_ | refine blk_alloc ?_ _)); exact BK449.out⟩, ⟨by exact q1 HB.out GE448.out GE449.out⟩⟩
         ·replace c63 := Bool.eq_false_iff.mpr c63
          subst c63
          have H1 : (glebelaw11_EntryLooks.j1 kj4 l2 t467 t470 t477 t478 y510 true a0_0 a0_1 a0_2 a0_3 a0_4 a0_5 a0_6 a0_7 a0_8 a0_9 a0_10 l0_11 a1_0 a1_1 a1_2 a1_3 a1_4 a1_5 a1_6 a1_7 a1_8 a1_9 a1_10 l1_11) = some r := by rw [if_neg (show ¬ (false = true) by decide)] at H; exact H
          clear H
          have H := H1
          clear H1
          have H' := Aside0.mk H
          clear H
          obtain ⟨Ao74, co74, eo74⟩ := Kd.R_slice HO512.out
          subst eo74
          go_wp2_with (first | ((with_reducible refine gate_callee (f := 18) rfl ?_); refine goesL_ (some 64) rfl rfl Try.func18 (by kernel_rfl) rfl #[.slice Ao74 y510.length co74, .int .i64 a3] rfl (by (try simp only [List.map_toArray, List.map_cons, List.map_nil]); first | done | rfl | (simp only [List.length_drop, List.length_take]; rfl)) ?_; (with_reducible refine (entry_Without.calls _ _ y510 a3 t513 _ ?side1 ?side2 A56.out).mono ?_); (case side1 => repeat (first | exact (Kd.R_reads' HO512.out).2.2 | (with_reducible refine Kd.C_alloc ?_ _) | (with_reducible refine Kd.C_drewN ?_ _) | (with_reducible refine Kd.C_drew ?_))); (case side2 => exact (Kd.R_reads' HO512.out).2.1); rintro e w75 ⟨v514, rfl, ho0, hb⟩; refine ⟨_, rfl, ?_⟩; have n0_ := Aside0.mk (Kd.R_elder' (br HO466.out) (Kd.R_base ho0) hb); have n1_ := Aside0.mk (Kd.R_below (br HO469.out) hb); have n2_ := Aside0.mk (Kd.R_elder' (br HO476.out) (Kd.R_base ho0) hb); have n3_ := Aside0.mk (Kd.R_below (br HO480.out) hb); have n4_ := Aside0.mk (Kd.R_elder' (br HO494.out) (Kd.R_base ho0) hb); have n5_ := Aside0.mk (Kd.R_elder' (br HO497.out) (Kd.R_base ho0) hb); have n6_ := Aside0.mk (Kd.R_elder' (br HO500.out) (Kd.R_base ho0) hb); have n7_ := Aside0.mk (Kd.R_elder' (br HO503.out) (Kd.R_base ho0) hb); have n8_ := Aside0.mk (Kd.R_elder' (br HO506.out) (Kd.R_base ho0) hb); have n9_ := Aside0.mk (Kd.R_elder' (br HO512.out) (Kd.R_base ho0) hb); have n10_ := Aside0.mk (Kd.R_lower (Kd.R_new' (Kd.R_new' (Kd.R_new' (Kd.R_new' (Kd.R_new' (Kd.R_new' (Kd.R_new' (Kd.R_new' ho0 (Kd.R_lt (br HO466.out))) (Kd.R_lt (br HO476.out))) (Kd.R_lt (br HO494.out))) (Kd.R_lt (br HO497.out))) (Kd.R_lt (br HO500.out))) (Kd.R_lt (br HO503.out))) (Kd.R_lt (br HO506.out))) (Kd.R_lt (br HO512.out))) (below_size (q1 HB.out GE448.out GE449.out))); have n11_ := Aside0.mk (blk_below (bk BK448.out) hb); have n12_ := Aside0.mk (blk_below (bk BK449.out) hb); have n13_ := Aside0.mk (below_step (q1 HB.out GE448.out GE449.out) hb); clear HO466; clear HO469; clear HO476; clear HO480; clear HO494; clear HO497; clear HO500; clear HO503; clear HO506; clear HO512; clear BK448; clear BK449; clear HB; have HO466 := n0_; have HO469 := n1_; have HO476 := n2_; have HO480 := n3_; have HO494 := n4_; have HO497 := n5_; have HO500 := n6_; have HO503 := n7_; have HO506 := n8_; have HO512 := n9_; have HO515 := n10_; have BK448 := n11_; have BK449 := n12_; have HB := n13_; clear n0_ n1_ n2_ n3_ n4_ n5_ n6_ n7_ n8_ n9_ n10_ n11_ n12_ n13_; (try clear hb); (try clear hb2); (try clear hk); (try clear hi); (try clear ho0)) | ((with_reducible refine gate_callee (f := 19) rfl ?_); refine goesL_ (some 67) rfl rfl Try.func19 (by kernel_rfl) rfl #[.slice A2 l2.length c2, .int .i64 a3] rfl (by (try simp only [List.map_toArray, List.map_cons, List.map_nil]); first | done | rfl | (simp only [List.length_drop, List.length_take]; rfl)) ?_; (with_reducible refine (gleberef11_Without.calls kj4 _ _ l2 a3 t516 _ ?side1 ?side2 A57.out).mono ?_); (case side1 => repeat (first | exact (Kd.C_below HR2.out HB.out) | (with_reducible refine Kd.C_alloc ?_ _) | (with_reducible refine Kd.C_drewN ?_ _) | (with_reducible refine Kd.C_drew ?_))); (case side2 => exact HC2.out); rintro e w76 ⟨v517, rfl, ho0, hb⟩; refine ⟨_, rfl, ?_⟩; have n0_ := Aside0.mk (Kd.R_elder' (br HO466.out) (Kd.R_base ho0) hb); have n1_ := Aside0.mk (Kd.R_below (br HO469.out) hb); have n2_ := Aside0.mk (Kd.R_elder' (br HO476.out) (Kd.R_base ho0) hb); have n3_ := Aside0.mk (Kd.R_below (br HO480.out) hb); have n4_ := Aside0.mk (Kd.R_elder' (br HO494.out) (Kd.R_base ho0) hb); have n5_ := Aside0.mk (Kd.R_elder' (br HO497.out) (Kd.R_base ho0) hb); have n6_ := Aside0.mk (Kd.R_elder' (br HO500.out) (Kd.R_base ho0) hb); have n7_ := Aside0.mk (Kd.R_elder' (br HO503.out) (Kd.R_base ho0) hb); have n8_ := Aside0.mk (Kd.R_elder' (br HO506.out) (Kd.R_base ho0) hb); have n9_ := Aside0.mk (Kd.R_elder' (br HO512.out) (Kd.R_base ho0) hb); have n10_ := Aside0.mk (Kd.R_elder' (br HO515.out) (Kd.R_base ho0) hb); have n11_ := Aside0.mk (Kd.R_lower (Kd.R_new' (Kd.R_new' (Kd.R_new' (Kd.R_new' (Kd.R_new' (Kd.R_new' (Kd.R_new' (Kd.R_new' (Kd.R_new' ho0 (Kd.R_lt (br HO466.out))) (Kd.R_lt (br HO476.out))) (Kd.R_lt (br HO494.out))) (Kd.R_lt (br HO497.out))) (Kd.R_lt (br HO500.out))) (Kd.R_lt (br HO503.out))) (Kd.R_lt (br HO506.out))) (Kd.R_lt (br HO512.out))) (Kd.R_lt (br HO515.out))) (below_size (q1 HB.out GE448.out GE449.out))); have n12_ := Aside0.mk (blk_below (bk BK448.out) hb); have n13_ := Aside0.mk (blk_below (bk BK449.out) hb); have n14_ := Aside0.mk (below_step (q1 HB.out GE448.out GE449.out) hb); clear HO466; clear HO469; clear HO476; clear HO480; clear HO494; clear HO497; clear HO500; clear HO503; clear HO506; clear HO512; clear HO515; clear BK448; clear BK449; clear HB; have HO466 := n0_; have HO469 := n1_; have HO476 := n2_; have HO480 := n3_; have HO494 := n4_; have HO497 := n5_; have HO500 := n6_; have HO503 := n7_; have HO506 := n8_; have HO512 := n9_; have HO515 := n10_; have HO518 := n11_; have BK448 := n12_; have BK449 := n13_; have HB := n14_; clear n0_ n1_ n2_ n3_ n4_ n5_ n6_ n7_ n8_ n9_ n10_ n11_ n12_ n13_ n14_; (try clear hb); (try clear hb2); (try clear hk); (try clear hi); (try clear ho0); obtain ⟨Ao77, co77, eo77⟩ := Kd.R_slice HO515.out; subst eo77; obtain ⟨Ao78, co78, eo78⟩ := Kd.R_slice HO518.out; subst eo78) | ((with_reducible refine gate_callee (f := 14) rfl ?_); refine goesL_ (some 68) rfl rfl Try.func14 (by kernel_rfl) rfl #[.slice Ao77 t513.length co77, .slice Ao78 t516.length co78] rfl (by (try simp only [List.map_toArray, List.map_cons, List.map_nil]); first | done | rfl | (simp only [List.length_drop, List.length_take]; rfl)) ?_; (with_reducible refine (gleberef11_SameList.calls kj4 _ _ t513 _ _ t516 true _ ?side1 ?side2 ?side3 ?side4 A58.out).mono ?_); (case side1 => repeat (first | exact (Kd.R_reads' HO515.out).2.2 | (with_reducible refine Kd.C_alloc ?_ _) | (with_reducible refine Kd.C_drewN ?_ _) | (with_reducible refine Kd.C_drew ?_))); (case side2 => exact (Kd.R_reads' HO515.out).2.1); (case side3 => repeat (first | exact (Kd.R_reads' HO518.out).2.2 | (with_reducible refine Kd.C_alloc ?_ _) | (with_reducible refine Kd.C_drewN ?_ _) | (with_reducible refine Kd.C_drew ?_))); (case side4 => exact (Kd.R_reads' HO518.out).2.1); rintro e w' ⟨rfl, ⟨nd, rfl⟩⟩; refine ⟨_, rfl, ?_⟩) | (go_at_call 14; (with_reducible refine (gleberef11_SameList.calls kj4 _ _ y510 _ _ l2 true _ ?side1 ?side2 ?side3 ?side4 A60.out).mono ?_); (case side1 => repeat (first | exact (Kd.R_reads' HO512.out).2.2 | (with_reducible refine Kd.C_alloc ?_ _) | (with_reducible refine Kd.C_drewN ?_ _) | (with_reducible refine Kd.C_drew ?_))); (case side2 => exact (Kd.R_reads' HO512.out).2.1); (case side3 => repeat (first | exact (Kd.C_below HR2.out (q1 HB.out GE448.out GE449.out)) | (with_reducible refine Kd.C_alloc ?_ _) | (with_reducible refine Kd.C_drewN ?_ _) | (with_reducible refine Kd.C_drew ?_))); (case side4 => exact HC2.out); rintro e w' ⟨rfl, ⟨nd, rfl⟩⟩; obtain ⟨Ao79, co79, eo79⟩ := Kd.R_slice HO497.out; subst eo79; obtain ⟨Ao80, co80, eo80⟩ := Kd.R_slice HO503.out; subst eo80) | (go_at_call 14; (with_reducible refine (gleberef11_SameList.calls kj4 _ _ t495 _ _ t501 false _ ?side1 ?side2 ?side3 ?side4 A62.out).mono ?_); (case side1 => repeat (first | exact (Kd.R_reads' HO497.out).2.2 | (with_reducible refine Kd.C_alloc ?_ _) | (with_reducible refine Kd.C_drewN ?_ _) | (with_reducible refine Kd.C_drew ?_))); (case side2 => exact (Kd.R_reads' HO497.out).2.1); (case side3 => repeat (first | exact (Kd.R_reads' HO503.out).2.2 | (with_reducible refine Kd.C_alloc ?_ _) | (with_reducible refine Kd.C_drewN ?_ _) | (with_reducible refine Kd.C_drew ?_))); (case side4 => exact (Kd.R_reads' HO503.out).2.1); rintro e w' ⟨rfl, ⟨nd, rfl⟩⟩))
          go_meet
          case rel => exact ⟨_, (true), (by first | rfl | (simp; done) | (simp [*]; done)), H', ⟨by have := HJ4.out; first | omega | exact Nat.le_refl _⟩, ⟨by (with_reducible repeat (first | apply Kd.R_alloc | apply Kd.R_drewN | apply Kd.R_drew)); exact Kd.R_mono HO469.out (fun _ hk => hk.2)⟩, ⟨by (with_reducible repeat (first | apply Kd.R_alloc | apply Kd.R_drewN | apply Kd.R_drew)); exact Kd.R_mono HO480.out (fun _ hk => hk.2)⟩, ⟨by (with_reducible repeat (first | apply Kd.R_alloc | apply Kd.R_drewN | apply Kd.R_drew)); exact Kd.R_mono HO512.out (fun _ hk => trivial)⟩, ⟨by (with_reducible repeat (first | refine blk_drewN ?_ _ | refine blk_drew ?_ | refine blk_alloc ?_ _)); exact BK448.out⟩, ⟨by (with_reducible repeat (first | refine blk_drewN ?_ _ | refine blk_drew ?_ | refine blk_alloc ?_ _)); exact BK449.out⟩, ⟨by exact q1 HB.out GE448.out GE449.out⟩⟩
        ·replace c61 := Bool.eq_false_iff.mpr c61
         subst c61
         have H1 : (glebelaw11_EntryLooks.j1 kj4 l2 t467 t470 t477 t478 y510 true a0_0 a0_1 a0_2 a0_3 a0_4 a0_5 a0_6 a0_7 a0_8 a0_9 a0_10 l0_11 a1_0 a1_1 a1_2 a1_3 a1_4 a1_5 a1_6 a1_7 a1_8 a1_9 a1_10 l1_11) = some r := by rw [if_neg (show ¬ (false = true) by decide)] at H; exact H
         clear H
         have H := H1
         clear H1
         have H' := Aside0.mk H
         clear H
         obtain ⟨Ao81, co81, eo81⟩ := Kd.R_slice HO512.out
         subst eo81
         go_wp2_with (first | ((with_reducible refine gate_callee (f := 18) rfl ?_); refine goesL_ (some 64) rfl rfl Try.func18 (by kernel_rfl) rfl #[.slice Ao81 y510.length co81, .int .i64 a3] rfl (by (try simp only [List.map_toArray, List.map_cons, List.map_nil]); first | done | rfl | (simp only [List.length_drop, List.length_take]; rfl)) ?_; (with_reducible refine (entry_Without.calls _ _ y510 a3 t513 _ ?side1 ?side2 A56.out).mono ?_); (case side1 => repeat (first | exact (Kd.R_reads' HO512.out).2.2 | (with_reducible refine Kd.C_alloc ?_ _) | (with_reducible refine Kd.C_drewN ?_ _) | (with_reducible refine Kd.C_drew ?_))); (case side2 => exact (Kd.R_reads' HO512.out).2.1); rintro e w82 ⟨v514, rfl, ho0, hb⟩; refine ⟨_, rfl, ?_⟩; have n0_ := Aside0.mk (Kd.R_elder' (br HO466.out) (Kd.R_base ho0) hb); have n1_ := Aside0.mk (Kd.R_below (br HO469.out) hb); have n2_ := Aside0.mk (Kd.R_elder' (br HO476.out) (Kd.R_base ho0) hb); have n3_ := Aside0.mk (Kd.R_below (br HO480.out) hb); have n4_ := Aside0.mk (Kd.R_elder' (br HO494.out) (Kd.R_base ho0) hb); have n5_ := Aside0.mk (Kd.R_elder' (br HO497.out) (Kd.R_base ho0) hb); have n6_ := Aside0.mk (Kd.R_elder' (br HO500.out) (Kd.R_base ho0) hb); have n7_ := Aside0.mk (Kd.R_elder' (br HO503.out) (Kd.R_base ho0) hb); have n8_ := Aside0.mk (Kd.R_elder' (br HO506.out) (Kd.R_base ho0) hb); have n9_ := Aside0.mk (Kd.R_elder' (br HO512.out) (Kd.R_base ho0) hb); have n10_ := Aside0.mk (Kd.R_lower (Kd.R_new' (Kd.R_new' (Kd.R_new' (Kd.R_new' (Kd.R_new' (Kd.R_new' (Kd.R_new' (Kd.R_new' ho0 (Kd.R_lt (br HO466.out))) (Kd.R_lt (br HO476.out))) (Kd.R_lt (br HO494.out))) (Kd.R_lt (br HO497.out))) (Kd.R_lt (br HO500.out))) (Kd.R_lt (br HO503.out))) (Kd.R_lt (br HO506.out))) (Kd.R_lt (br HO512.out))) (below_size (q1 HB.out GE448.out GE449.out))); have n11_ := Aside0.mk (blk_below (bk BK448.out) hb); have n12_ := Aside0.mk (blk_below (bk BK449.out) hb); have n13_ := Aside0.mk (below_step (q1 HB.out GE448.out GE449.out) hb); clear HO466; clear HO469; clear HO476; clear HO480; clear HO494; clear HO497; clear HO500; clear HO503; clear HO506; clear HO512; clear BK448; clear BK449; clear HB; have HO466 := n0_; have HO469 := n1_; have HO476 := n2_; have HO480 := n3_; have HO494 := n4_; have HO497 := n5_; have HO500 := n6_; have HO503 := n7_; have HO506 := n8_; have HO512 := n9_; have HO515 := n10_; have BK448 := n11_; have BK449 := n12_; have HB := n13_; clear n0_ n1_ n2_ n3_ n4_ n5_ n6_ n7_ n8_ n9_ n10_ n11_ n12_ n13_; (try clear hb); (try clear hb2); (try clear hk); (try clear hi); (try clear ho0)) | ((with_reducible refine gate_callee (f := 19) rfl ?_); refine goesL_ (some 67) rfl rfl Try.func19 (by kernel_rfl) rfl #[.slice A2 l2.length c2, .int .i64 a3] rfl (by (try simp only [List.map_toArray, List.map_cons, List.map_nil]); first | done | rfl | (simp only [List.length_drop, List.length_take]; rfl)) ?_; (with_reducible refine (gleberef11_Without.calls kj4 _ _ l2 a3 t516 _ ?side1 ?side2 A57.out).mono ?_); (case side1 => repeat (first | exact (Kd.C_below HR2.out HB.out) | (with_reducible refine Kd.C_alloc ?_ _) | (with_reducible refine Kd.C_drewN ?_ _) | (with_reducible refine Kd.C_drew ?_))); (case side2 => exact HC2.out); rintro e w83 ⟨v517, rfl, ho0, hb⟩; refine ⟨_, rfl, ?_⟩; have n0_ := Aside0.mk (Kd.R_elder' (br HO466.out) (Kd.R_base ho0) hb); have n1_ := Aside0.mk (Kd.R_below (br HO469.out) hb); have n2_ := Aside0.mk (Kd.R_elder' (br HO476.out) (Kd.R_base ho0) hb); have n3_ := Aside0.mk (Kd.R_below (br HO480.out) hb); have n4_ := Aside0.mk (Kd.R_elder' (br HO494.out) (Kd.R_base ho0) hb); have n5_ := Aside0.mk (Kd.R_elder' (br HO497.out) (Kd.R_base ho0) hb); have n6_ := Aside0.mk (Kd.R_elder' (br HO500.out) (Kd.R_base ho0) hb); have n7_ := Aside0.mk (Kd.R_elder' (br HO503.out) (Kd.R_base ho0) hb); have n8_ := Aside0.mk (Kd.R_elder' (br HO506.out) (Kd.R_base ho0) hb); have n9_ := Aside0.mk (Kd.R_elder' (br HO512.out) (Kd.R_base ho0) hb); have n10_ := Aside0.mk (Kd.R_elder' (br HO515.out) (Kd.R_base ho0) hb); have n11_ := Aside0.mk (Kd.R_lower (Kd.R_new' (Kd.R_new' (Kd.R_new' (Kd.R_new' (Kd.R_new' (Kd.R_new' (Kd.R_new' (Kd.R_new' (Kd.R_new' ho0 (Kd.R_lt (br HO466.out))) (Kd.R_lt (br HO476.out))) (Kd.R_lt (br HO494.out))) (Kd.R_lt (br HO497.out))) (Kd.R_lt (br HO500.out))) (Kd.R_lt (br HO503.out))) (Kd.R_lt (br HO506.out))) (Kd.R_lt (br HO512.out))) (Kd.R_lt (br HO515.out))) (below_size (q1 HB.out GE448.out GE449.out))); have n12_ := Aside0.mk (blk_below (bk BK448.out) hb); have n13_ := Aside0.mk (blk_below (bk BK449.out) hb); have n14_ := Aside0.mk (below_step (q1 HB.out GE448.out GE449.out) hb); clear HO466; clear HO469; clear HO476; clear HO480; clear HO494; clear HO497; clear HO500; clear HO503; clear HO506; clear HO512; clear HO515; clear BK448; clear BK449; clear HB; have HO466 := n0_; have HO469 := n1_; have HO476 := n2_; have HO480 := n3_; have HO494 := n4_; have HO497 := n5_; have HO500 := n6_; have HO503 := n7_; have HO506 := n8_; have HO512 := n9_; have HO515 := n10_; have HO518 := n11_; have BK448 := n12_; have BK449 := n13_; have HB := n14_; clear n0_ n1_ n2_ n3_ n4_ n5_ n6_ n7_ n8_ n9_ n10_ n11_ n12_ n13_ n14_; (try clear hb); (try clear hb2); (try clear hk); (try clear hi); (try clear ho0); obtain ⟨Ao84, co84, eo84⟩ := Kd.R_slice HO515.out; subst eo84; obtain ⟨Ao85, co85, eo85⟩ := Kd.R_slice HO518.out; subst eo85) | ((with_reducible refine gate_callee (f := 14) rfl ?_); refine goesL_ (some 68) rfl rfl Try.func14 (by kernel_rfl) rfl #[.slice Ao84 t513.length co84, .slice Ao85 t516.length co85] rfl (by (try simp only [List.map_toArray, List.map_cons, List.map_nil]); first | done | rfl | (simp only [List.length_drop, List.length_take]; rfl)) ?_; (with_reducible refine (gleberef11_SameList.calls kj4 _ _ t513 _ _ t516 true _ ?side1 ?side2 ?side3 ?side4 A58.out).mono ?_); (case side1 => repeat (first | exact (Kd.R_reads' HO515.out).2.2 | (with_reducible refine Kd.C_alloc ?_ _) | (with_reducible refine Kd.C_drewN ?_ _) | (with_reducible refine Kd.C_drew ?_))); (case side2 => exact (Kd.R_reads' HO515.out).2.1); (case side3 => repeat (first | exact (Kd.R_reads' HO518.out).2.2 | (with_reducible refine Kd.C_alloc ?_ _) | (with_reducible refine Kd.C_drewN ?_ _) | (with_reducible refine Kd.C_drew ?_))); (case side4 => exact (Kd.R_reads' HO518.out).2.1); rintro e w' ⟨rfl, ⟨nd, rfl⟩⟩; refine ⟨_, rfl, ?_⟩) | (go_at_call 14; (with_reducible refine (gleberef11_SameList.calls kj4 _ _ y510 _ _ l2 false _ ?side1 ?side2 ?side3 ?side4 A60.out).mono ?_); (case side1 => repeat (first | exact (Kd.R_reads' HO512.out).2.2 | (with_reducible refine Kd.C_alloc ?_ _) | (with_reducible refine Kd.C_drewN ?_ _) | (with_reducible refine Kd.C_drew ?_))); (case side2 => exact (Kd.R_reads' HO512.out).2.1); (case side3 => repeat (first | exact (Kd.C_below HR2.out (q1 HB.out GE448.out GE449.out)) | (with_reducible refine Kd.C_alloc ?_ _) | (with_reducible refine Kd.C_drewN ?_ _) | (with_reducible refine Kd.C_drew ?_))); (case side4 => exact HC2.out); rintro e w' ⟨rfl, ⟨nd, rfl⟩⟩))
         go_meet
         case rel => exact ⟨_, (true), (by first | rfl | (simp; done) | (simp [*]; done)), H', ⟨by have := HJ4.out; first | omega | exact Nat.le_refl _⟩, ⟨by (with_reducible repeat (first | apply Kd.R_alloc | apply Kd.R_drewN | apply Kd.R_drew)); exact Kd.R_mono HO469.out (fun _ hk => hk.2)⟩, ⟨by (with_reducible repeat (first | apply Kd.R_alloc | apply Kd.R_drewN | apply Kd.R_drew)); exact Kd.R_mono HO480.out (fun _ hk => hk.2)⟩, ⟨by (with_reducible repeat (first | apply Kd.R_alloc | apply Kd.R_drewN | apply Kd.R_drew)); exact Kd.R_mono HO512.out (fun _ hk => trivial)⟩, ⟨by (with_reducible repeat (first | refine blk_drewN ?_ _ | refine blk_drew ?_ | refine blk_alloc ?_ _)); exact BK448.out⟩, ⟨by (with_reducible repeat (first | refine blk_drewN ?_ _ | refine blk_drew ?_ | refine blk_alloc ?_ _)); exact BK449.out⟩, ⟨by exact q1 HB.out GE448.out GE449.out⟩⟩
       ·replace c59 := Bool.eq_false_iff.mpr c59
        subst c59
        have H1 : (glebelaw11_EntryLooks.j1 kj4 l2 t467 t470 t477 t478 y510 true a0_0 a0_1 a0_2 a0_3 a0_4 a0_5 a0_6 a0_7 a0_8 a0_9 a0_10 l0_11 a1_0 a1_1 a1_2 a1_3 a1_4 a1_5 a1_6 a1_7 a1_8 a1_9 a1_10 l1_11) = some r := by rw [if_neg (show ¬ (false = true) by decide)] at H; exact H
        clear H
        have H := H1
        clear H1
        have H' := Aside0.mk H
        clear H
        obtain ⟨Ao86, co86, eo86⟩ := Kd.R_slice HO512.out
        subst eo86
        go_wp2_with (first | ((with_reducible refine gate_callee (f := 18) rfl ?_); refine goesL_ (some 64) rfl rfl Try.func18 (by kernel_rfl) rfl #[.slice Ao86 y510.length co86, .int .i64 a3] rfl (by (try simp only [List.map_toArray, List.map_cons, List.map_nil]); first | done | rfl | (simp only [List.length_drop, List.length_take]; rfl)) ?_; (with_reducible refine (entry_Without.calls _ _ y510 a3 t513 _ ?side1 ?side2 A56.out).mono ?_); (case side1 => repeat (first | exact (Kd.R_reads' HO512.out).2.2 | (with_reducible refine Kd.C_alloc ?_ _) | (with_reducible refine Kd.C_drewN ?_ _) | (with_reducible refine Kd.C_drew ?_))); (case side2 => exact (Kd.R_reads' HO512.out).2.1); rintro e w87 ⟨v514, rfl, ho0, hb⟩; refine ⟨_, rfl, ?_⟩; have n0_ := Aside0.mk (Kd.R_elder' (br HO466.out) (Kd.R_base ho0) hb); have n1_ := Aside0.mk (Kd.R_below (br HO469.out) hb); have n2_ := Aside0.mk (Kd.R_elder' (br HO476.out) (Kd.R_base ho0) hb); have n3_ := Aside0.mk (Kd.R_below (br HO480.out) hb); have n4_ := Aside0.mk (Kd.R_elder' (br HO494.out) (Kd.R_base ho0) hb); have n5_ := Aside0.mk (Kd.R_elder' (br HO497.out) (Kd.R_base ho0) hb); have n6_ := Aside0.mk (Kd.R_elder' (br HO500.out) (Kd.R_base ho0) hb); have n7_ := Aside0.mk (Kd.R_elder' (br HO503.out) (Kd.R_base ho0) hb); have n8_ := Aside0.mk (Kd.R_elder' (br HO506.out) (Kd.R_base ho0) hb); have n9_ := Aside0.mk (Kd.R_elder' (br HO512.out) (Kd.R_base ho0) hb); have n10_ := Aside0.mk (Kd.R_lower (Kd.R_new' (Kd.R_new' (Kd.R_new' (Kd.R_new' (Kd.R_new' (Kd.R_new' (Kd.R_new' (Kd.R_new' ho0 (Kd.R_lt (br HO466.out))) (Kd.R_lt (br HO476.out))) (Kd.R_lt (br HO494.out))) (Kd.R_lt (br HO497.out))) (Kd.R_lt (br HO500.out))) (Kd.R_lt (br HO503.out))) (Kd.R_lt (br HO506.out))) (Kd.R_lt (br HO512.out))) (below_size (q1 HB.out GE448.out GE449.out))); have n11_ := Aside0.mk (blk_below (bk BK448.out) hb); have n12_ := Aside0.mk (blk_below (bk BK449.out) hb); have n13_ := Aside0.mk (below_step (q1 HB.out GE448.out GE449.out) hb); clear HO466; clear HO469; clear HO476; clear HO480; clear HO494; clear HO497; clear HO500; clear HO503; clear HO506; clear HO512; clear BK448; clear BK449; clear HB; have HO466 := n0_; have HO469 := n1_; have HO476 := n2_; have HO480 := n3_; have HO494 := n4_; have HO497 := n5_; have HO500 := n6_; have HO503 := n7_; have HO506 := n8_; have HO512 := n9_; have HO515 := n10_; have BK448 := n11_; have BK449 := n12_; have HB := n13_; clear n0_ n1_ n2_ n3_ n4_ n5_ n6_ n7_ n8_ n9_ n10_ n11_ n12_ n13_; (try clear hb); (try clear hb2); (try clear hk); (try clear hi); (try clear ho0)) | ((with_reducible refine gate_callee (f := 19) rfl ?_); refine goesL_ (some 67) rfl rfl Try.func19 (by kernel_rfl) rfl #[.slice A2 l2.length c2, .int .i64 a3] rfl (by (try simp only [List.map_toArray, List.map_cons, List.map_nil]); first | done | rfl | (simp only [List.length_drop, List.length_take]; rfl)) ?_; (with_reducible refine (gleberef11_Without.calls kj4 _ _ l2 a3 t516 _ ?side1 ?side2 A57.out).mono ?_); (case side1 => repeat (first | exact (Kd.C_below HR2.out HB.out) | (with_reducible refine Kd.C_alloc ?_ _) | (with_reducible refine Kd.C_drewN ?_ _) | (with_reducible refine Kd.C_drew ?_))); (case side2 => exact HC2.out); rintro e w88 ⟨v517, rfl, ho0, hb⟩; refine ⟨_, rfl, ?_⟩; have n0_ := Aside0.mk (Kd.R_elder' (br HO466.out) (Kd.R_base ho0) hb); have n1_ := Aside0.mk (Kd.R_below (br HO469.out) hb); have n2_ := Aside0.mk (Kd.R_elder' (br HO476.out) (Kd.R_base ho0) hb); have n3_ := Aside0.mk (Kd.R_below (br HO480.out) hb); have n4_ := Aside0.mk (Kd.R_elder' (br HO494.out) (Kd.R_base ho0) hb); have n5_ := Aside0.mk (Kd.R_elder' (br HO497.out) (Kd.R_base ho0) hb); have n6_ := Aside0.mk (Kd.R_elder' (br HO500.out) (Kd.R_base ho0) hb); have n7_ := Aside0.mk (Kd.R_elder' (br HO503.out) (Kd.R_base ho0) hb); have n8_ := Aside0.mk (Kd.R_elder' (br HO506.out) (Kd.R_base ho0) hb); have n9_ := Aside0.mk (Kd.R_elder' (br HO512.out) (Kd.R_base ho0) hb); have n10_ := Aside0.mk (Kd.R_elder' (br HO515.out) (Kd.R_base ho0) hb); have n11_ := Aside0.mk (Kd.R_lower (Kd.R_new' (Kd.R_new' (Kd.R_new' (Kd.R_new' (Kd.R_new' (Kd.R_new' (Kd.R_new' (Kd.R_new' (Kd.R_new' ho0 (Kd.R_lt (br HO466.out))) (Kd.R_lt (br HO476.out))) (Kd.R_lt (br HO494.out))) (Kd.R_lt (br HO497.out))) (Kd.R_lt (br HO500.out))) (Kd.R_lt (br HO503.out))) (Kd.R_lt (br HO506.out))) (Kd.R_lt (br HO512.out))) (Kd.R_lt (br HO515.out))) (below_size (q1 HB.out GE448.out GE449.out))); have n12_ := Aside0.mk (blk_below (bk BK448.out) hb); have n13_ := Aside0.mk (blk_below (bk BK449.out) hb); have n14_ := Aside0.mk (below_step (q1 HB.out GE448.out GE449.out) hb); clear HO466; clear HO469; clear HO476; clear HO480; clear HO494; clear HO497; clear HO500; clear HO503; clear HO506; clear HO512; clear HO515; clear BK448; clear BK449; clear HB; have HO466 := n0_; have HO469 := n1_; have HO476 := n2_; have HO480 := n3_; have HO494 := n4_; have HO497 := n5_; have HO500 := n6_; have HO503 := n7_; have HO506 := n8_; have HO512 := n9_; have HO515 := n10_; have HO518 := n11_; have BK448 := n12_; have BK449 := n13_; have HB := n14_; clear n0_ n1_ n2_ n3_ n4_ n5_ n6_ n7_ n8_ n9_ n10_ n11_ n12_ n13_ n14_; (try clear hb); (try clear hb2); (try clear hk); (try clear hi); (try clear ho0); obtain ⟨Ao89, co89, eo89⟩ := Kd.R_slice HO515.out; subst eo89; obtain ⟨Ao90, co90, eo90⟩ := Kd.R_slice HO518.out; subst eo90) | ((with_reducible refine gate_callee (f := 14) rfl ?_); refine goesL_ (some 68) rfl rfl Try.func14 (by kernel_rfl) rfl #[.slice Ao89 t513.length co89, .slice Ao90 t516.length co90] rfl (by (try simp only [List.map_toArray, List.map_cons, List.map_nil]); first | done | rfl | (simp only [List.length_drop, List.length_take]; rfl)) ?_; (with_reducible refine (gleberef11_SameList.calls kj4 _ _ t513 _ _ t516 false _ ?side1 ?side2 ?side3 ?side4 A58.out).mono ?_); (case side1 => repeat (first | exact (Kd.R_reads' HO515.out).2.2 | (with_reducible refine Kd.C_alloc ?_ _) | (with_reducible refine Kd.C_drewN ?_ _) | (with_reducible refine Kd.C_drew ?_))); (case side2 => exact (Kd.R_reads' HO515.out).2.1); (case side3 => repeat (first | exact (Kd.R_reads' HO518.out).2.2 | (with_reducible refine Kd.C_alloc ?_ _) | (with_reducible refine Kd.C_drewN ?_ _) | (with_reducible refine Kd.C_drew ?_))); (case side4 => exact (Kd.R_reads' HO518.out).2.1); rintro e w' ⟨rfl, ⟨nd, rfl⟩⟩; refine ⟨_, rfl, ?_⟩))
        go_meet
        case rel => exact ⟨_, (true), (by first | rfl | (simp; done) | (simp [*]; done)), H', ⟨by have := HJ4.out; first | omega | exact Nat.le_refl _⟩, ⟨by (with_reducible repeat (first | apply Kd.R_alloc | apply Kd.R_drewN | apply Kd.R_drew)); exact Kd.R_mono HO469.out (fun _ hk => hk.2)⟩, ⟨by (with_reducible repeat (first | apply Kd.R_alloc | apply Kd.R_drewN | apply Kd.R_drew)); exact Kd.R_mono HO480.out (fun _ hk => hk.2)⟩, ⟨by (with_reducible repeat (first | apply Kd.R_alloc | apply Kd.R_drewN | apply Kd.R_drew)); exact Kd.R_mono HO512.out (fun _ hk => trivial)⟩, ⟨by (with_reducible repeat (first | refine blk_drewN ?_ _ | refine blk_drew ?_ | refine blk_alloc ?_ _)); exact BK448.out⟩, ⟨by (with_reducible repeat (first | refine blk_drewN ?_ _ | refine blk_drew ?_ | refine blk_alloc ?_ _)); exact BK449.out⟩, ⟨by exact q1 HB.out GE448.out GE449.out⟩⟩
      case rest =>
       clear HC36
       try clear c1
       try clear c2
       try clear p2
       try clear c3
       try clear c4
       try clear c5
       try clear c6
       try clear c7
       try clear c8
       try clear c9
       try clear c10
       try clear c11
       try clear c12
       try clear c14
       try clear c15
       try clear c16
       try clear c17
       try clear c18
       try clear c19
       try clear c22
       try clear c25
       try clear c30
       try clear c35
       try clear c37
       try clear c59
       try clear c61
       try clear c63
       try clear hcz13_0
       try clear hcz13_1
       try clear hcz13_10
       try clear hcz13_11
       try clear hcz13_2
       try clear hcz13_3
       try clear hcz13_4
       try clear hcz13_5
       try clear hcz13_6
       try clear hcz13_7
       try clear hcz13_8
       try clear hcz13_9
       try clear hcz15_0
       try clear hcz15_1
       try clear hcz15_10
       try clear hcz15_11
       try clear hcz15_2
       try clear hcz15_3
       try clear hcz15_4
       try clear hcz15_5
       try clear hcz15_6
       try clear hcz15_7
       try clear hcz15_8
       try clear hcz15_9
       try clear hcz18_0
       try clear hcz18_1
       try clear hcz18_10
       try clear hcz18_11
       try clear hcz18_2
       try clear hcz18_3
       try clear hcz18_4
       try clear hcz18_5
       try clear hcz18_6
       try clear hcz18_7
       try clear hcz18_8
       try clear hcz18_9
       try clear hcz20_0
       try clear hcz20_1
       try clear hcz20_10
       try clear hcz20_11
       try clear hcz20_2
       try clear hcz20_3
       try clear hcz20_4
       try clear hcz20_5
       try clear hcz20_6
       try clear hcz20_7
       try clear hcz20_8
       try clear hcz20_9
       try clear hcz23_0
       try clear hcz23_1
       try clear hcz23_10
       try clear hcz23_11
       try clear hcz23_2
       try clear hcz23_3
       try clear hcz23_4
       try clear hcz23_5
       try clear hcz23_6
       try clear hcz23_7
       try clear hcz23_8
       try clear hcz23_9
       try clear hcz38_0
       try clear hcz38_1
       try clear hcz38_10
       try clear hcz38_11
       try clear hcz38_2
       try clear hcz38_3
       try clear hcz38_4
       try clear hcz38_5
       try clear hcz38_6
       try clear hcz38_7
       try clear hcz38_8
       try clear hcz38_9
       try clear hcz47_0
       try clear hcz47_1
       try clear hcz47_10
       try clear hcz47_11
       try clear hcz47_2
       try clear hcz47_3
       try clear hcz47_4
       try clear hcz47_5
       try clear hcz47_6
       try clear hcz47_7
       try clear hcz47_8
       try clear hcz47_9
       try clear hcz51_0
       try clear hcz51_1
       try clear hcz51_10
       try clear hcz51_11
       try clear hcz51_2
       try clear hcz51_3
       try clear hcz51_4
       try clear hcz51_5
       try clear hcz51_6
       try clear hcz51_7
       try clear hcz51_8
       try clear hcz51_9
       try clear hfz13_0
       try clear hfz13_1
       try clear hfz13_10
       try clear hfz13_11
       try clear hfz13_2
       try clear hfz13_3
       try clear hfz13_4
       try clear hfz13_5
       try clear hfz13_6
       try clear hfz13_7
       try clear hfz13_8
       try clear hfz13_9
       try clear hfz15_0
       try clear hfz15_1
       try clear hfz15_10
       try clear hfz15_11
       try clear hfz15_2
       try clear hfz15_3
       try clear hfz15_4
       try clear hfz15_5
       try clear hfz15_6
       try clear hfz15_7
       try clear hfz15_8
       try clear hfz15_9
       try clear hfz18_0
       try clear hfz18_1
       try clear hfz18_10
       try clear hfz18_11
       try clear hfz18_2
       try clear hfz18_3
       try clear hfz18_4
       try clear hfz18_5
       try clear hfz18_6
       try clear hfz18_7
       try clear hfz18_8
       try clear hfz18_9
       try clear hfz20_0
       try clear hfz20_1
       try clear hfz20_10
       try clear hfz20_11
       try clear hfz20_2
       try clear hfz20_3
       try clear hfz20_4
       try clear hfz20_5
       try clear hfz20_6
       try clear hfz20_7
       try clear hfz20_8
       try clear hfz20_9
       try clear hfz23_0
       try clear hfz23_1
       try clear hfz23_10
       try clear hfz23_11
       try clear hfz23_2
       try clear hfz23_3
       try clear hfz23_4
       try clear hfz23_5
       try clear hfz23_6
       try clear hfz23_7
       try clear hfz23_8
       try clear hfz23_9
       try clear hfz38_0
       try clear hfz38_1
       try clear hfz38_10
       try clear hfz38_11
       try clear hfz38_2
       try clear hfz38_3
       try clear hfz38_4
       try clear hfz38_5
       try clear hfz38_6
       try clear hfz38_7
       try clear hfz38_8
       try clear hfz38_9
       try clear hfz47_0
       try clear hfz47_1
       try clear hfz47_10
       try clear hfz47_11
       try clear hfz47_2
       try clear hfz47_3
       try clear hfz47_4
       try clear hfz47_5
       try clear hfz47_6
       try clear hfz47_7
       try clear hfz47_8
       try clear hfz47_9
       try clear hfz51_0
       try clear hfz51_1
       try clear hfz51_10
       try clear hfz51_11
       try clear hfz51_2
       try clear hfz51_3
       try clear hfz51_4
       try clear hfz51_5
       try clear hfz51_6
       try clear hfz51_7
       try clear hfz51_8
       try clear hfz51_9
       try clear p2
       obtain ⟨kq, x87_35, rfl, HA, HJ35, HO_9, HO_11, HO_17, BK448, BK449, HB⟩ := hcut
       cases kq with
       | zero => exact absurd HA.out (by simp [glebelaw11_EntryLooks.j1])
       | succ kj35 =>
        have H := HA.out
        clear HA
        simp only [glebelaw11_EntryLooks.j1] at H
        by_cases c91 : x87_35 = true
        ·subst c91
         have H1 : (none) = some r := by rw [if_pos rfl] at H; exact H
         clear H
         have H := H1
         clear H1
         exact absurd H (by simp)
        ·replace c91 := Bool.eq_false_iff.mpr c91
         subst c91
         have H1 : ((glebelaw11_Own.f a0_0 a0_1 a0_2 a0_3 a0_4 a0_5 a0_6 a0_7 a0_8 a0_9 a0_10 l0_11).bind fun bt523 => ((entry_Clone.f bt523.1 bt523.2.1 bt523.2.2.1 bt523.2.2.2.1 bt523.2.2.2.2.1 bt523.2.2.2.2.2.1 bt523.2.2.2.2.2.2.1 bt523.2.2.2.2.2.2.2.1 bt523.2.2.2.2.2.2.2.2.1 bt523.2.2.2.2.2.2.2.2.2.1 bt523.2.2.2.2.2.2.2.2.2.2.1 bt523.2.2.2.2.2.2.2.2.2.2.2).bind fun bt538 => (glebelaw11_EntryLooks.l0 kj35 l2 t467 t470 t477 t478 y510 0 a0_0 a0_1 a0_2 a0_3 a0_4 a0_5 a0_6 a0_7 a0_8 a0_9 a0_10 l0_11 a1_0 a1_1 a1_2 a1_3 a1_4 a1_5 a1_6 a1_7 a1_8 a1_9 a1_10 l1_11 bt523.1 bt523.2.1 bt523.2.2.1 bt523.2.2.2.1 bt523.2.2.2.2.1 bt523.2.2.2.2.2.1 bt523.2.2.2.2.2.2.1 bt523.2.2.2.2.2.2.2.1 bt523.2.2.2.2.2.2.2.2.1 bt523.2.2.2.2.2.2.2.2.2.1 bt523.2.2.2.2.2.2.2.2.2.2.1 bt523.2.2.2.2.2.2.2.2.2.2.2 bt538.1 bt538.2.1 bt538.2.2.1 bt538.2.2.2.1 bt538.2.2.2.2.1 bt538.2.2.2.2.2.1 bt538.2.2.2.2.2.2.1 bt538.2.2.2.2.2.2.2.1 bt538.2.2.2.2.2.2.2.2.1 bt538.2.2.2.2.2.2.2.2.2.1 bt538.2.2.2.2.2.2.2.2.2.2.1 bt538.2.2.2.2.2.2.2.2.2.2.2))) = some r := by rw [if_neg (show ¬ (false = true) by decide)] at H; exact H
         clear H
         have H := H1
         clear H1
         replace H := Option.bind_eq_some_iff.mp H
         obtain ⟨⟨t523, t524, t525, t526, t527, t528, t529, t530, t531, t532, t533, t534⟩, A920, H⟩ := H
         try dsimp only at H
         have A92 := Aside0.mk A920
         clear A920
         replace H := Option.bind_eq_some_iff.mp H
         obtain ⟨⟨t538, t539, t540, t541, t542, t543, t544, t545, t546, t547, t548, t549⟩, A930, H⟩ := H
         try dsimp only at H
         have A93 := Aside0.mk A930
         clear A930
         have H' := Aside0.mk H
         clear H
         have hnb94 := NB448_449.out
         have hnc94 := NB449_448.out
         obtain ⟨hcz95_0, hcz95_1, hcz95_2, hcz95_3, hcz95_4, hcz95_5, hcz95_6, hcz95_7, hcz95_8, hcz95_9, hcz95_10, hcz95_11⟩ := cells12 BK448.out
         obtain ⟨hfz95_0, hfz95_1, hfz95_2, hfz95_3, hfz95_4, hfz95_5, hfz95_6, hfz95_7, hfz95_8, hfz95_9, hfz95_10, hfz95_11⟩ := frz12 BK448.out
         go_wp2_with (first | ((with_reducible refine gate_callee (f := 10) rfl ?_); refine goesL_ (some 89) rfl rfl Try.func10 (by kernel_rfl) rfl #[.agg #[.int .i64 a0_0, .int .i64 a0_1, .int .i64 a0_2, .int .i64 a0_3, .string a0_4, .string a0_5, .int .i64 a0_6, .int .i64 a0_7, .int .i64 a0_8, .int .i64 a0_9, .int .i64 a0_10, .slice A0_11 l0_11.length c0_11]] rfl (by (try simp only [List.map_toArray, List.map_cons, List.map_nil]); first | done | rfl | (simp only [List.length_drop, List.length_take]; rfl)) ?_; (with_reducible refine (glebelaw11_Own.calls a0_0 a0_1 a0_2 a0_3 a0_4 a0_5 a0_6 a0_7 a0_8 a0_9 a0_10 _ _ l0_11 t523 t524 t525 t526 t527 t528 t529 t530 t531 t532 t533 t534 _ ?side1 ?side2 A92.out).mono ?_); (case side1 => repeat (first | exact (Kd.C_below HR0_11.out HB.out) | (with_reducible refine Kd.C_alloc ?_ _) | (with_reducible refine Kd.C_drewN ?_ _) | (with_reducible refine Kd.C_drew ?_))); (case side2 => exact HC0_11.out); rintro e w96 ⟨v535, rfl, ho0, hb⟩; refine ⟨_, rfl, ?_⟩; have n0_ := Aside0.mk (Kd.R_below (br HO_9.out) hb); have n1_ := Aside0.mk (Kd.R_below (br HO_11.out) hb); have n2_ := Aside0.mk (Kd.R_elder' (br HO_17.out) (Kd.R_base ho0) hb); have n3_ := Aside0.mk (Kd.R_lower (Kd.R_new' ho0 (Kd.R_lt (br HO_17.out))) (below_size (q1 HB.out GE448.out GE449.out))); have n4_ := Aside0.mk (blk_below (bk BK448.out) hb); have n5_ := Aside0.mk (blk_below (bk BK449.out) hb); have n6_ := Aside0.mk (below_step (q1 HB.out GE448.out GE449.out) hb); clear HO_9; clear HO_11; clear HO_17; clear BK448; clear BK449; clear HB; have HO_9 := n0_; have HO_11 := n1_; have HO_17 := n2_; have HO536 := n3_; have BK448 := n4_; have BK449 := n5_; have HB := n6_; clear n0_ n1_ n2_ n3_ n4_ n5_ n6_; (try clear hb); (try clear hb2); (try clear hk); (try clear hi); (try clear ho0)) | ((with_reducible refine gate_dst (N := 18) rfl ?_); (try (refine gate_guard (by rfl) ?_; dsimp only)); refine box_event ?hg (N := 18) ?hd (cs := #[.int .i64 0, .int .i64 0, .int .i64 0, .int .i64 0, .string (⟨#[]⟩ : ByteArray), .string (⟨#[]⟩ : ByteArray), .int .i64 0, .int .i64 0, .int .i64 0, .int .i64 0, .int .i64 0, .slice none 0 0]) (t := 35) ?hr ?_; (case hd => rfl); (case hg => rfl); (case hr => first | (go_simp; done) | (go_simp; rfl)); intro gb537 hg w97 hbox hb; have n0_ := Aside0.mk (Kd.R_below (br HO_9.out) hb); have n1_ := Aside0.mk (Kd.R_below (br HO_11.out) hb); have n2_ := Aside0.mk (Kd.R_below (br HO_17.out) hb); have n3_ := Aside0.mk (Kd.R_below (br HO536.out) hb); have n4_ := Aside0.mk (blk_below (bk BK448.out) hb); have n5_ := Aside0.mk (blk_below (bk BK449.out) hb); have n6_ := Aside0.mk (below_step (q1 HB.out GE448.out GE449.out) hb); have n7_ := Aside0.mk (hbox); have n8_ := Aside0.mk ((by rw [hg]; exact (below_size (q1 HB.out GE448.out GE449.out)) : w.heap.size ≤ gb537)); have n9_ := Aside0.mk ((by rw [hg]; exact (below_size (q1 HB.out GE448.out GE449.out)) : w.heap.size ≤ gb537)); have n10_ := Aside0.mk ((by rw [hg]; exact Nat.ne_of_lt (blk_lt (g := gb448) (o := .cells #[.int .i64 a0_0, .int .i64 a0_1, .int .i64 a0_2, .int .i64 a0_3, .string a0_4, .string a0_5, .int .i64 a0_6, .int .i64 a0_7, .int .i64 a0_8, .int .i64 a0_9, .int .i64 a0_10, .slice A0_11 l0_11.length c0_11] 28 (0, 0)) (bk BK448.out)) : gb448 ≠ gb537)); have n11_ := Aside0.mk ((by rw [hg]; exact Nat.ne_of_gt (blk_lt (g := gb448) (o := .cells #[.int .i64 a0_0, .int .i64 a0_1, .int .i64 a0_2, .int .i64 a0_3, .string a0_4, .string a0_5, .int .i64 a0_6, .int .i64 a0_7, .int .i64 a0_8, .int .i64 a0_9, .int .i64 a0_10, .slice A0_11 l0_11.length c0_11] 28 (0, 0)) (bk BK448.out)) : gb537 ≠ gb448)); have n12_ := Aside0.mk ((by rw [hg]; exact Nat.ne_of_lt (blk_lt (g := gb449) (o := .cells #[.int .i64 a1_0, .int .i64 a1_1, .int .i64 a1_2, .int .i64 a1_3, .string a1_4, .string a1_5, .int .i64 a1_6, .int .i64 a1_7, .int .i64 a1_8, .int .i64 a1_9, .int .i64 a1_10, .slice A1_11 l1_11.length c1_11] 28 (0, 0)) (bk BK449.out)) : gb449 ≠ gb537)); have n13_ := Aside0.mk ((by rw [hg]; exact Nat.ne_of_gt (blk_lt (g := gb449) (o := .cells #[.int .i64 a1_0, .int .i64 a1_1, .int .i64 a1_2, .int .i64 a1_3, .string a1_4, .string a1_5, .int .i64 a1_6, .int .i64 a1_7, .int .i64 a1_8, .int .i64 a1_9, .int .i64 a1_10, .slice A1_11 l1_11.length c1_11] 28 (0, 0)) (bk BK449.out)) : gb537 ≠ gb449)); clear HO_9; clear HO_11; clear HO_17; clear HO536; clear BK448; clear BK449; clear HB; have HO_9 := n0_; have HO_11 := n1_; have HO_17 := n2_; have HO536 := n3_; have BK448 := n4_; have BK449 := n5_; have HB := n6_; have BK537 := n7_; have GW537 := n8_; have GE537 := n9_; have NB448_537 := n10_; have NB537_448 := n11_; have NB449_537 := n12_; have NB537_449 := n13_; clear n0_ n1_ n2_ n3_ n4_ n5_ n6_ n7_ n8_ n9_ n10_ n11_ n12_ n13_; clear hb hbox hg; have hnb98 := NB537_448.out; have hnc98 := NB448_537.out; have hnb99 := NB537_449.out; have hnc99 := NB449_537.out; obtain ⟨hcz100_0, hcz100_1, hcz100_2, hcz100_3, hcz100_4, hcz100_5, hcz100_6, hcz100_7, hcz100_8, hcz100_9, hcz100_10, hcz100_11⟩ := cells12 BK537.out; obtain ⟨hfz100_0, hfz100_1, hfz100_2, hfz100_3, hfz100_4, hfz100_5, hfz100_6, hfz100_7, hfz100_8, hfz100_9, hfz100_10, hfz100_11⟩ := frz12 BK537.out; obtain ⟨Ao101, co101, eo101⟩ := Kd.R_slice HO536.out; subst eo101) | ((with_reducible refine gate_callee (f := 20) rfl ?_); refine goesL_ (some 91) rfl rfl Try.func20 (by kernel_rfl) rfl #[.agg #[.int .i64 t523, .int .i64 t524, .int .i64 t525, .int .i64 t526, .string t527, .string t528, .int .i64 t529, .int .i64 t530, .int .i64 t531, .int .i64 t532, .int .i64 t533, .slice Ao101 t534.length co101]] rfl (by (try simp only [List.map_toArray, List.map_cons, List.map_nil]); first | done | rfl | (simp only [List.length_drop, List.length_take]; rfl)) ?_; (with_reducible refine (entry_Clone.calls t523 t524 t525 t526 t527 t528 t529 t530 t531 t532 t533 _ _ t534 t538 t539 t540 t541 t542 t543 t544 t545 t546 t547 t548 t549 _ ?side1 ?side2 A93.out).mono ?_); (case side1 => refine (Kd.R_reads' (e := 3) (base := w.heap.size) (ok := fun k_ => (True ∧ some k_ ≠ (v511 : Value).ownBlock)) (n := t534.length) (c := co101) ?_).2.2; exact (by (with_reducible repeat (first | apply Kd.R_alloc | apply Kd.R_drewN | apply Kd.R_drew)); exact (Kd.R_mono (Kd.R_far (p := ⟨gb537, 11, none⟩) (Kd.R_far (p := ⟨gb537, 10, none⟩) (Kd.R_far (p := ⟨gb537, 9, none⟩) (Kd.R_far (p := ⟨gb537, 8, none⟩) (Kd.R_far (p := ⟨gb537, 7, none⟩) (Kd.R_far (p := ⟨gb537, 6, none⟩) (Kd.R_far (p := ⟨gb537, 5, none⟩) (Kd.R_far (p := ⟨gb537, 4, none⟩) (Kd.R_far (p := ⟨gb537, 3, none⟩) (Kd.R_far (p := ⟨gb537, 2, none⟩) (Kd.R_far (p := ⟨gb537, 1, none⟩) (Kd.R_far (p := ⟨gb537, 0, none⟩) (Kd.R_types HO536.out BK537.out (by decide)) (fun _ hk => hk.2) (.int .i64 t523)) (fun _ hk => hk.2) (.int .i64 t524)) (fun _ hk => hk.2) (.int .i64 t525)) (fun _ hk => hk.2) (.int .i64 t526)) (fun _ hk => hk.2) (.string t527)) (fun _ hk => hk.2) (.string t528)) (fun _ hk => hk.2) (.int .i64 t529)) (fun _ hk => hk.2) (.int .i64 t530)) (fun _ hk => hk.2) (.int .i64 t531)) (fun _ hk => hk.2) (.int .i64 t532)) (fun _ hk => hk.2) (.int .i64 t533)) (fun _ hk => hk.2) (.slice Ao101 t534.length co101)) (fun _ h_ => h_.1)))); (case side2 => exact (Kd.R_reads' HO536.out).2.1); rintro e w102 ⟨v550, rfl, ho0, hb⟩; refine ⟨_, rfl, ?_⟩; have n0_ := Aside0.mk (Kd.R_below (by (with_reducible repeat (first | apply Kd.R_alloc | apply Kd.R_drewN | apply Kd.R_drew)); exact (Kd.R_mono (Kd.R_far (p := ⟨gb537, 11, none⟩) (Kd.R_far (p := ⟨gb537, 10, none⟩) (Kd.R_far (p := ⟨gb537, 9, none⟩) (Kd.R_far (p := ⟨gb537, 8, none⟩) (Kd.R_far (p := ⟨gb537, 7, none⟩) (Kd.R_far (p := ⟨gb537, 6, none⟩) (Kd.R_far (p := ⟨gb537, 5, none⟩) (Kd.R_far (p := ⟨gb537, 4, none⟩) (Kd.R_far (p := ⟨gb537, 3, none⟩) (Kd.R_far (p := ⟨gb537, 2, none⟩) (Kd.R_far (p := ⟨gb537, 1, none⟩) (Kd.R_far (p := ⟨gb537, 0, none⟩) (Kd.R_types HO_9.out BK537.out (by decide)) (fun _ hk => hk.2) (.int .i64 t523)) (fun _ hk => hk.2) (.int .i64 t524)) (fun _ hk => hk.2) (.int .i64 t525)) (fun _ hk => hk.2) (.int .i64 t526)) (fun _ hk => hk.2) (.string t527)) (fun _ hk => hk.2) (.string t528)) (fun _ hk => hk.2) (.int .i64 t529)) (fun _ hk => hk.2) (.int .i64 t530)) (fun _ hk => hk.2) (.int .i64 t531)) (fun _ hk => hk.2) (.int .i64 t532)) (fun _ hk => hk.2) (.int .i64 t533)) (fun _ hk => hk.2) (.slice Ao101 t534.length co101)) (fun _ h_ => h_.1))) hb); have n1_ := Aside0.mk (Kd.R_below (by (with_reducible repeat (first | apply Kd.R_alloc | apply Kd.R_drewN | apply Kd.R_drew)); exact (Kd.R_mono (Kd.R_far (p := ⟨gb537, 11, none⟩) (Kd.R_far (p := ⟨gb537, 10, none⟩) (Kd.R_far (p := ⟨gb537, 9, none⟩) (Kd.R_far (p := ⟨gb537, 8, none⟩) (Kd.R_far (p := ⟨gb537, 7, none⟩) (Kd.R_far (p := ⟨gb537, 6, none⟩) (Kd.R_far (p := ⟨gb537, 5, none⟩) (Kd.R_far (p := ⟨gb537, 4, none⟩) (Kd.R_far (p := ⟨gb537, 3, none⟩) (Kd.R_far (p := ⟨gb537, 2, none⟩) (Kd.R_far (p := ⟨gb537, 1, none⟩) (Kd.R_far (p := ⟨gb537, 0, none⟩) (Kd.R_types HO_11.out BK537.out (by decide)) (fun _ hk => hk.2) (.int .i64 t523)) (fun _ hk => hk.2) (.int .i64 t524)) (fun _ hk => hk.2) (.int .i64 t525)) (fun _ hk => hk.2) (.int .i64 t526)) (fun _ hk => hk.2) (.string t527)) (fun _ hk => hk.2) (.string t528)) (fun _ hk => hk.2) (.int .i64 t529)) (fun _ hk => hk.2) (.int .i64 t530)) (fun _ hk => hk.2) (.int .i64 t531)) (fun _ hk => hk.2) (.int .i64 t532)) (fun _ hk => hk.2) (.int .i64 t533)) (fun _ hk => hk.2) (.slice Ao101 t534.length co101)) (fun _ h_ => h_.1))) hb); have n2_ := Aside0.mk (Kd.R_elder' (by (with_reducible repeat (first | apply Kd.R_alloc | apply Kd.R_drewN | apply Kd.R_drew)); exact (Kd.R_mono (Kd.R_far (p := ⟨gb537, 11, none⟩) (Kd.R_far (p := ⟨gb537, 10, none⟩) (Kd.R_far (p := ⟨gb537, 9, none⟩) (Kd.R_far (p := ⟨gb537, 8, none⟩) (Kd.R_far (p := ⟨gb537, 7, none⟩) (Kd.R_far (p := ⟨gb537, 6, none⟩) (Kd.R_far (p := ⟨gb537, 5, none⟩) (Kd.R_far (p := ⟨gb537, 4, none⟩) (Kd.R_far (p := ⟨gb537, 3, none⟩) (Kd.R_far (p := ⟨gb537, 2, none⟩) (Kd.R_far (p := ⟨gb537, 1, none⟩) (Kd.R_far (p := ⟨gb537, 0, none⟩) (Kd.R_types HO_17.out BK537.out (by decide)) (fun _ hk => hk.2) (.int .i64 t523)) (fun _ hk => hk.2) (.int .i64 t524)) (fun _ hk => hk.2) (.int .i64 t525)) (fun _ hk => hk.2) (.int .i64 t526)) (fun _ hk => hk.2) (.string t527)) (fun _ hk => hk.2) (.string t528)) (fun _ hk => hk.2) (.int .i64 t529)) (fun _ hk => hk.2) (.int .i64 t530)) (fun _ hk => hk.2) (.int .i64 t531)) (fun _ hk => hk.2) (.int .i64 t532)) (fun _ hk => hk.2) (.int .i64 t533)) (fun _ hk => hk.2) (.slice Ao101 t534.length co101)) (fun _ h_ => h_.1))) (Kd.R_base ho0) hb); have n3_ := Aside0.mk (Kd.R_elder' (by (with_reducible repeat (first | apply Kd.R_alloc | apply Kd.R_drewN | apply Kd.R_drew)); exact (Kd.R_mono (Kd.R_far (p := ⟨gb537, 11, none⟩) (Kd.R_far (p := ⟨gb537, 10, none⟩) (Kd.R_far (p := ⟨gb537, 9, none⟩) (Kd.R_far (p := ⟨gb537, 8, none⟩) (Kd.R_far (p := ⟨gb537, 7, none⟩) (Kd.R_far (p := ⟨gb537, 6, none⟩) (Kd.R_far (p := ⟨gb537, 5, none⟩) (Kd.R_far (p := ⟨gb537, 4, none⟩) (Kd.R_far (p := ⟨gb537, 3, none⟩) (Kd.R_far (p := ⟨gb537, 2, none⟩) (Kd.R_far (p := ⟨gb537, 1, none⟩) (Kd.R_far (p := ⟨gb537, 0, none⟩) (Kd.R_types HO536.out BK537.out (by decide)) (fun _ hk => hk.2) (.int .i64 t523)) (fun _ hk => hk.2) (.int .i64 t524)) (fun _ hk => hk.2) (.int .i64 t525)) (fun _ hk => hk.2) (.int .i64 t526)) (fun _ hk => hk.2) (.string t527)) (fun _ hk => hk.2) (.string t528)) (fun _ hk => hk.2) (.int .i64 t529)) (fun _ hk => hk.2) (.int .i64 t530)) (fun _ hk => hk.2) (.int .i64 t531)) (fun _ hk => hk.2) (.int .i64 t532)) (fun _ hk => hk.2) (.int .i64 t533)) (fun _ hk => hk.2) (.slice Ao101 t534.length co101)) (fun _ h_ => h_.1))) (Kd.R_base ho0) hb); have n4_ := Aside0.mk (Kd.R_lower (Kd.R_new' (Kd.R_new' ho0 (Kd.R_lt (by (with_reducible repeat (first | apply Kd.R_alloc | apply Kd.R_drewN | apply Kd.R_drew)); exact (Kd.R_mono (Kd.R_far (p := ⟨gb537, 11, none⟩) (Kd.R_far (p := ⟨gb537, 10, none⟩) (Kd.R_far (p := ⟨gb537, 9, none⟩) (Kd.R_far (p := ⟨gb537, 8, none⟩) (Kd.R_far (p := ⟨gb537, 7, none⟩) (Kd.R_far (p := ⟨gb537, 6, none⟩) (Kd.R_far (p := ⟨gb537, 5, none⟩) (Kd.R_far (p := ⟨gb537, 4, none⟩) (Kd.R_far (p := ⟨gb537, 3, none⟩) (Kd.R_far (p := ⟨gb537, 2, none⟩) (Kd.R_far (p := ⟨gb537, 1, none⟩) (Kd.R_far (p := ⟨gb537, 0, none⟩) (Kd.R_types HO_17.out BK537.out (by decide)) (fun _ hk => hk.2) (.int .i64 t523)) (fun _ hk => hk.2) (.int .i64 t524)) (fun _ hk => hk.2) (.int .i64 t525)) (fun _ hk => hk.2) (.int .i64 t526)) (fun _ hk => hk.2) (.string t527)) (fun _ hk => hk.2) (.string t528)) (fun _ hk => hk.2) (.int .i64 t529)) (fun _ hk => hk.2) (.int .i64 t530)) (fun _ hk => hk.2) (.int .i64 t531)) (fun _ hk => hk.2) (.int .i64 t532)) (fun _ hk => hk.2) (.int .i64 t533)) (fun _ hk => hk.2) (.slice Ao101 t534.length co101)) (fun _ h_ => h_.1))))) (Kd.R_lt (by (with_reducible repeat (first | apply Kd.R_alloc | apply Kd.R_drewN | apply Kd.R_drew)); exact (Kd.R_mono (Kd.R_far (p := ⟨gb537, 11, none⟩) (Kd.R_far (p := ⟨gb537, 10, none⟩) (Kd.R_far (p := ⟨gb537, 9, none⟩) (Kd.R_far (p := ⟨gb537, 8, none⟩) (Kd.R_far (p := ⟨gb537, 7, none⟩) (Kd.R_far (p := ⟨gb537, 6, none⟩) (Kd.R_far (p := ⟨gb537, 5, none⟩) (Kd.R_far (p := ⟨gb537, 4, none⟩) (Kd.R_far (p := ⟨gb537, 3, none⟩) (Kd.R_far (p := ⟨gb537, 2, none⟩) (Kd.R_far (p := ⟨gb537, 1, none⟩) (Kd.R_far (p := ⟨gb537, 0, none⟩) (Kd.R_types HO536.out BK537.out (by decide)) (fun _ hk => hk.2) (.int .i64 t523)) (fun _ hk => hk.2) (.int .i64 t524)) (fun _ hk => hk.2) (.int .i64 t525)) (fun _ hk => hk.2) (.int .i64 t526)) (fun _ hk => hk.2) (.string t527)) (fun _ hk => hk.2) (.string t528)) (fun _ hk => hk.2) (.int .i64 t529)) (fun _ hk => hk.2) (.int .i64 t530)) (fun _ hk => hk.2) (.int .i64 t531)) (fun _ hk => hk.2) (.int .i64 t532)) (fun _ hk => hk.2) (.int .i64 t533)) (fun _ hk => hk.2) (.slice Ao101 t534.length co101)) (fun _ h_ => h_.1))))) (below_size (q4 HB.out GE448.out GE449.out GE537.out))); have n5_ := Aside0.mk (blk_below (g := gb448) (o := .cells #[.int .i64 a0_0, .int .i64 a0_1, .int .i64 a0_2, .int .i64 a0_3, .string a0_4, .string a0_5, .int .i64 a0_6, .int .i64 a0_7, .int .i64 a0_8, .int .i64 a0_9, .int .i64 a0_10, .slice A0_11 l0_11.length c0_11] 28 (0, 0)) ((bp1 BK448.out NB448_537.out)) hb); have n6_ := Aside0.mk (blk_below (g := gb449) (o := .cells #[.int .i64 a1_0, .int .i64 a1_1, .int .i64 a1_2, .int .i64 a1_3, .string a1_4, .string a1_5, .int .i64 a1_6, .int .i64 a1_7, .int .i64 a1_8, .int .i64 a1_9, .int .i64 a1_10, .slice A1_11 l1_11.length c1_11] 28 (0, 0)) ((bp1 BK449.out NB449_537.out)) hb); have n7_ := Aside0.mk (blk_below (g := gb537) (o := .cells #[.int .i64 t523, .int .i64 t524, .int .i64 t525, .int .i64 t526, .string t527, .string t528, .int .i64 t529, .int .i64 t530, .int .i64 t531, .int .i64 t532, .int .i64 t533, .slice Ao101 t534.length co101] 35 (0, 0)) ((bp0 BK537.out)) hb); have n8_ := Aside0.mk (below_step (q4 HB.out GE448.out GE449.out GE537.out) hb); clear HO_9; clear HO_11; clear HO_17; clear HO536; clear BK448; clear BK449; clear BK537; clear HB; have HO_9 := n0_; have HO_11 := n1_; have HO_17 := n2_; have HO536 := n3_; have HO551 := n4_; have BK448 := n5_; have BK449 := n6_; have BK537 := n7_; have HB := n8_; clear n0_ n1_ n2_ n3_ n4_ n5_ n6_ n7_ n8_; (try clear hb); (try clear hb2); (try clear hk); (try clear hi); (try clear ho0)) | ((with_reducible refine gate_dst (N := 19) rfl ?_); (try (refine gate_guard (by rfl) ?_; dsimp only)); refine box_event ?hg (N := 19) ?hd (cs := #[.int .i64 0, .int .i64 0, .int .i64 0, .int .i64 0, .string (⟨#[]⟩ : ByteArray), .string (⟨#[]⟩ : ByteArray), .int .i64 0, .int .i64 0, .int .i64 0, .int .i64 0, .int .i64 0, .slice none 0 0]) (t := 35) ?hr ?_; (case hd => rfl); (case hg => rfl); (case hr => first | (go_simp; done) | (go_simp; rfl)); intro gb552 hg w103 hbox hb; have n0_ := Aside0.mk (Kd.R_below (br HO_9.out) hb); have n1_ := Aside0.mk (Kd.R_below (br HO_11.out) hb); have n2_ := Aside0.mk (Kd.R_below (br HO_17.out) hb); have n3_ := Aside0.mk (Kd.R_below (br HO536.out) hb); have n4_ := Aside0.mk (Kd.R_below (br HO551.out) hb); have n5_ := Aside0.mk (blk_below (bk BK448.out) hb); have n6_ := Aside0.mk (blk_below (bk BK449.out) hb); have n7_ := Aside0.mk (blk_below (bk BK537.out) hb); have n8_ := Aside0.mk (below_step (q4 HB.out GE448.out GE449.out GE537.out) hb); have n9_ := Aside0.mk (hbox); have n10_ := Aside0.mk ((by rw [hg]; exact (below_size (q4 HB.out GE448.out GE449.out GE537.out)) : w.heap.size ≤ gb552)); have n11_ := Aside0.mk ((by rw [hg]; exact (below_size (q4 HB.out GE448.out GE449.out GE537.out)) : w.heap.size ≤ gb552)); have n12_ := Aside0.mk ((by rw [hg]; exact Nat.ne_of_lt (blk_lt (g := gb448) (o := .cells #[.int .i64 a0_0, .int .i64 a0_1, .int .i64 a0_2, .int .i64 a0_3, .string a0_4, .string a0_5, .int .i64 a0_6, .int .i64 a0_7, .int .i64 a0_8, .int .i64 a0_9, .int .i64 a0_10, .slice A0_11 l0_11.length c0_11] 28 (0, 0)) (bk BK448.out)) : gb448 ≠ gb552)); have n13_ := Aside0.mk ((by rw [hg]; exact Nat.ne_of_gt (blk_lt (g := gb448) (o := .cells #[.int .i64 a0_0, .int .i64 a0_1, .int .i64 a0_2, .int .i64 a0_3, .string a0_4, .string a0_5, .int .i64 a0_6, .int .i64 a0_7, .int .i64 a0_8, .int .i64 a0_9, .int .i64 a0_10, .slice A0_11 l0_11.length c0_11] 28 (0, 0)) (bk BK448.out)) : gb552 ≠ gb448)); have n14_ := Aside0.mk ((by rw [hg]; exact Nat.ne_of_lt (blk_lt (g := gb449) (o := .cells #[.int .i64 a1_0, .int .i64 a1_1, .int .i64 a1_2, .int .i64 a1_3, .string a1_4, .string a1_5, .int .i64 a1_6, .int .i64 a1_7, .int .i64 a1_8, .int .i64 a1_9, .int .i64 a1_10, .slice A1_11 l1_11.length c1_11] 28 (0, 0)) (bk BK449.out)) : gb449 ≠ gb552)); have n15_ := Aside0.mk ((by rw [hg]; exact Nat.ne_of_gt (blk_lt (g := gb449) (o := .cells #[.int .i64 a1_0, .int .i64 a1_1, .int .i64 a1_2, .int .i64 a1_3, .string a1_4, .string a1_5, .int .i64 a1_6, .int .i64 a1_7, .int .i64 a1_8, .int .i64 a1_9, .int .i64 a1_10, .slice A1_11 l1_11.length c1_11] 28 (0, 0)) (bk BK449.out)) : gb552 ≠ gb449)); have n16_ := Aside0.mk ((by rw [hg]; exact Nat.ne_of_lt (blk_lt (g := gb537) (o := .cells #[.int .i64 t523, .int .i64 t524, .int .i64 t525, .int .i64 t526, .string t527, .string t528, .int .i64 t529, .int .i64 t530, .int .i64 t531, .int .i64 t532, .int .i64 t533, .slice Ao101 t534.length co101] 35 (0, 0)) (bk BK537.out)) : gb537 ≠ gb552)); have n17_ := Aside0.mk ((by rw [hg]; exact Nat.ne_of_gt (blk_lt (g := gb537) (o := .cells #[.int .i64 t523, .int .i64 t524, .int .i64 t525, .int .i64 t526, .string t527, .string t528, .int .i64 t529, .int .i64 t530, .int .i64 t531, .int .i64 t532, .int .i64 t533, .slice Ao101 t534.length co101] 35 (0, 0)) (bk BK537.out)) : gb552 ≠ gb537)); clear HO_9; clear HO_11; clear HO_17; clear HO536; clear HO551; clear BK448; clear BK449; clear BK537; clear HB; have HO_9 := n0_; have HO_11 := n1_; have HO_17 := n2_; have HO536 := n3_; have HO551 := n4_; have BK448 := n5_; have BK449 := n6_; have BK537 := n7_; have HB := n8_; have BK552 := n9_; have GW552 := n10_; have GE552 := n11_; have NB448_552 := n12_; have NB552_448 := n13_; have NB449_552 := n14_; have NB552_449 := n15_; have NB537_552 := n16_; have NB552_537 := n17_; clear n0_ n1_ n2_ n3_ n4_ n5_ n6_ n7_ n8_ n9_ n10_ n11_ n12_ n13_ n14_ n15_ n16_ n17_; clear hb hbox hg; have hnb104 := NB552_448.out; have hnc104 := NB448_552.out; have hnb105 := NB552_449.out; have hnc105 := NB449_552.out; have hnb106 := NB552_537.out; have hnc106 := NB537_552.out; obtain ⟨hcz107_0, hcz107_1, hcz107_2, hcz107_3, hcz107_4, hcz107_5, hcz107_6, hcz107_7, hcz107_8, hcz107_9, hcz107_10, hcz107_11⟩ := cells12 BK552.out; obtain ⟨hfz107_0, hfz107_1, hfz107_2, hfz107_3, hfz107_4, hfz107_5, hfz107_6, hfz107_7, hfz107_8, hfz107_9, hfz107_10, hfz107_11⟩ := frz12 BK552.out; obtain ⟨Ao108, co108, eo108⟩ := Kd.R_slice HO551.out; subst eo108))
         go_loopg [20] kj35 (fun kq v20 w' => ∃ (x17_3 : List Int) (x20_3 : Int) (x538011_3 : List Int) (x553011_3 : List Int) (u538011 : Value) (u553011 : Value), v20 = .int .i64 x20_3 ∧ Aside0 (glebelaw11_EntryLooks.l0 kq l2 t467 t470 t477 t478 x17_3 x20_3 a0_0 a0_1 a0_2 a0_3 a0_4 a0_5 a0_6 a0_7 a0_8 a0_9 a0_10 l0_11 a1_0 a1_1 a1_2 a1_3 a1_4 a1_5 a1_6 a1_7 a1_8 a1_9 a1_10 l1_11 t523 t524 t525 t526 t527 t528 t529 t530 t531 t532 t533 x538011_3 t538 t539 t540 t541 t542 t543 t544 t545 t546 t547 t548 x553011_3 = some r) ∧ Aside0 (kq ≤ kj35) ∧ Aside0 (Kd.R (Kd.int .u8) 5 w' w.heap.size (fun k_ => some k_ ≠ (v479 : Value).ownBlock) v468 t467) ∧ Aside0 (Kd.R (Kd.int .u8) 5 w' w.heap.size (fun k_ => some k_ ≠ (v468 : Value).ownBlock) v479 t477) ∧ Aside0 (Kd.R (Kd.int .i64) 3 w' w.heap.size (fun k_ => some k_ ≠ (u538011 : Value).ownBlock ∧ some k_ ≠ (u553011 : Value).ownBlock) v511 x17_3) ∧ Aside0 (Kd.R (Kd.int .i64) 3 w' w.heap.size (fun k_ => some k_ ≠ (v511 : Value).ownBlock ∧ some k_ ≠ (u553011 : Value).ownBlock) u538011 x538011_3) ∧ Aside0 (Kd.R (Kd.int .i64) 3 w' w.heap.size (fun k_ => some k_ ≠ (v511 : Value).ownBlock ∧ some k_ ≠ (u538011 : Value).ownBlock) u553011 x553011_3) ∧ Aside0 (w'.heap[gb448]? = some (.cells #[.int .i64 a0_0, .int .i64 a0_1, .int .i64 a0_2, .int .i64 a0_3, .string a0_4, .string a0_5, .int .i64 a0_6, .int .i64 a0_7, .int .i64 a0_8, .int .i64 a0_9, .int .i64 a0_10, (.slice A0_11 l0_11.length c0_11)] 28 (0, 0))) ∧ Aside0 (w'.heap[gb449]? = some (.cells #[.int .i64 a1_0, .int .i64 a1_1, .int .i64 a1_2, .int .i64 a1_3, .string a1_4, .string a1_5, .int .i64 a1_6, .int .i64 a1_7, .int .i64 a1_8, .int .i64 a1_9, .int .i64 a1_10, (.slice A1_11 l1_11.length c1_11)] 28 (0, 0))) ∧ Aside0 (w'.heap[gb537]? = some (.cells #[.int .i64 t523, .int .i64 t524, .int .i64 t525, .int .i64 t526, .string t527, .string t528, .int .i64 t529, .int .i64 t530, .int .i64 t531, .int .i64 t532, .int .i64 t533, u538011] 35 (0, 0))) ∧ Aside0 (w'.heap[gb552]? = some (.cells #[.int .i64 t538, .int .i64 t539, .int .i64 t540, .int .i64 t541, .string t542, .string t543, .int .i64 t544, .int .i64 t545, .int .i64 t546, .int .i64 t547, .int .i64 t548, u553011] 35 (0, 0))) ∧ Aside0 (Below w.heap.size w w'))
         case atStart => exact ⟨(y510), (0), (t534), (t549), (.slice Ao101 t534.length co101), (.slice Ao108 t549.length co108), (by first | rfl | (simp; done) | (simp [*]; done)), H', ⟨Nat.le_refl _⟩, ⟨by (with_reducible repeat (first | apply Kd.R_alloc | apply Kd.R_drewN | apply Kd.R_drew)); exact Kd.R_mono (Kd.R_far (p := ⟨gb552, 11, none⟩) (Kd.R_far (p := ⟨gb552, 10, none⟩) (Kd.R_far (p := ⟨gb552, 9, none⟩) (Kd.R_far (p := ⟨gb552, 8, none⟩) (Kd.R_far (p := ⟨gb552, 7, none⟩) (Kd.R_far (p := ⟨gb552, 6, none⟩) (Kd.R_far (p := ⟨gb552, 5, none⟩) (Kd.R_far (p := ⟨gb552, 4, none⟩) (Kd.R_far (p := ⟨gb552, 3, none⟩) (Kd.R_far (p := ⟨gb552, 2, none⟩) (Kd.R_far (p := ⟨gb552, 1, none⟩) (Kd.R_far (p := ⟨gb552, 0, none⟩) (Kd.R_types HO_9.out BK552.out (by decide)) (fun _ hk => hk.2) (.int .i64 t538)) (fun _ hk => hk.2) (.int .i64 t539)) (fun _ hk => hk.2) (.int .i64 t540)) (fun _ hk => hk.2) (.int .i64 t541)) (fun _ hk => hk.2) (.string t542)) (fun _ hk => hk.2) (.string t543)) (fun _ hk => hk.2) (.int .i64 t544)) (fun _ hk => hk.2) (.int .i64 t545)) (fun _ hk => hk.2) (.int .i64 t546)) (fun _ hk => hk.2) (.int .i64 t547)) (fun _ hk => hk.2) (.int .i64 t548)) (fun _ hk => hk.2) (.slice Ao108 t549.length co108)) (fun _ hk => hk.1)⟩, ⟨by (with_reducible repeat (first | apply Kd.R_alloc | apply Kd.R_drewN | apply Kd.R_drew)); exact Kd.R_mono (Kd.R_far (p := ⟨gb552, 11, none⟩) (Kd.R_far (p := ⟨gb552, 10, none⟩) (Kd.R_far (p := ⟨gb552, 9, none⟩) (Kd.R_far (p := ⟨gb552, 8, none⟩) (Kd.R_far (p := ⟨gb552, 7, none⟩) (Kd.R_far (p := ⟨gb552, 6, none⟩) (Kd.R_far (p := ⟨gb552, 5, none⟩) (Kd.R_far (p := ⟨gb552, 4, none⟩) (Kd.R_far (p := ⟨gb552, 3, none⟩) (Kd.R_far (p := ⟨gb552, 2, none⟩) (Kd.R_far (p := ⟨gb552, 1, none⟩) (Kd.R_far (p := ⟨gb552, 0, none⟩) (Kd.R_types HO_11.out BK552.out (by decide)) (fun _ hk => hk.2) (.int .i64 t538)) (fun _ hk => hk.2) (.int .i64 t539)) (fun _ hk => hk.2) (.int .i64 t540)) (fun _ hk => hk.2) (.int .i64 t541)) (fun _ hk => hk.2) (.string t542)) (fun _ hk => hk.2) (.string t543)) (fun _ hk => hk.2) (.int .i64 t544)) (fun _ hk => hk.2) (.int .i64 t545)) (fun _ hk => hk.2) (.int .i64 t546)) (fun _ hk => hk.2) (.int .i64 t547)) (fun _ hk => hk.2) (.int .i64 t548)) (fun _ hk => hk.2) (.slice Ao108 t549.length co108)) (fun _ hk => hk.1)⟩, ⟨by (with_reducible repeat (first | apply Kd.R_alloc | apply Kd.R_drewN | apply Kd.R_drew)); exact Kd.R_mono (Kd.R_far (p := ⟨gb552, 11, none⟩) (Kd.R_far (p := ⟨gb552, 10, none⟩) (Kd.R_far (p := ⟨gb552, 9, none⟩) (Kd.R_far (p := ⟨gb552, 8, none⟩) (Kd.R_far (p := ⟨gb552, 7, none⟩) (Kd.R_far (p := ⟨gb552, 6, none⟩) (Kd.R_far (p := ⟨gb552, 5, none⟩) (Kd.R_far (p := ⟨gb552, 4, none⟩) (Kd.R_far (p := ⟨gb552, 3, none⟩) (Kd.R_far (p := ⟨gb552, 2, none⟩) (Kd.R_far (p := ⟨gb552, 1, none⟩) (Kd.R_far (p := ⟨gb552, 0, none⟩) (Kd.R_types HO_17.out BK552.out (by decide)) (fun _ hk => hk.2) (.int .i64 t538)) (fun _ hk => hk.2) (.int .i64 t539)) (fun _ hk => hk.2) (.int .i64 t540)) (fun _ hk => hk.2) (.int .i64 t541)) (fun _ hk => hk.2) (.string t542)) (fun _ hk => hk.2) (.string t543)) (fun _ hk => hk.2) (.int .i64 t544)) (fun _ hk => hk.2) (.int .i64 t545)) (fun _ hk => hk.2) (.int .i64 t546)) (fun _ hk => hk.2) (.int .i64 t547)) (fun _ hk => hk.2) (.int .i64 t548)) (fun _ hk => hk.2) (.slice Ao108 t549.length co108)) (fun _ hk => ⟨hk.1.1.2, hk.1.2⟩)⟩, ⟨by (with_reducible repeat (first | apply Kd.R_alloc | apply Kd.R_drewN | apply Kd.R_drew)); exact Kd.R_mono (Kd.R_far (p := ⟨gb552, 11, none⟩) (Kd.R_far (p := ⟨gb552, 10, none⟩) (Kd.R_far (p := ⟨gb552, 9, none⟩) (Kd.R_far (p := ⟨gb552, 8, none⟩) (Kd.R_far (p := ⟨gb552, 7, none⟩) (Kd.R_far (p := ⟨gb552, 6, none⟩) (Kd.R_far (p := ⟨gb552, 5, none⟩) (Kd.R_far (p := ⟨gb552, 4, none⟩) (Kd.R_far (p := ⟨gb552, 3, none⟩) (Kd.R_far (p := ⟨gb552, 2, none⟩) (Kd.R_far (p := ⟨gb552, 1, none⟩) (Kd.R_far (p := ⟨gb552, 0, none⟩) (Kd.R_types HO536.out BK552.out (by decide)) (fun _ hk => hk.2) (.int .i64 t538)) (fun _ hk => hk.2) (.int .i64 t539)) (fun _ hk => hk.2) (.int .i64 t540)) (fun _ hk => hk.2) (.int .i64 t541)) (fun _ hk => hk.2) (.string t542)) (fun _ hk => hk.2) (.string t543)) (fun _ hk => hk.2) (.int .i64 t544)) (fun _ hk => hk.2) (.int .i64 t545)) (fun _ hk => hk.2) (.int .i64 t546)) (fun _ hk => hk.2) (.int .i64 t547)) (fun _ hk => hk.2) (.int .i64 t548)) (fun _ hk => hk.2) (.slice Ao108 t549.length co108)) (fun _ hk => ⟨hk.1.1.2, hk.1.2⟩)⟩, ⟨by (with_reducible repeat (first | apply Kd.R_alloc | apply Kd.R_drewN | apply Kd.R_drew)); exact Kd.R_mono (Kd.R_far (p := ⟨gb552, 11, none⟩) (Kd.R_far (p := ⟨gb552, 10, none⟩) (Kd.R_far (p := ⟨gb552, 9, none⟩) (Kd.R_far (p := ⟨gb552, 8, none⟩) (Kd.R_far (p := ⟨gb552, 7, none⟩) (Kd.R_far (p := ⟨gb552, 6, none⟩) (Kd.R_far (p := ⟨gb552, 5, none⟩) (Kd.R_far (p := ⟨gb552, 4, none⟩) (Kd.R_far (p := ⟨gb552, 3, none⟩) (Kd.R_far (p := ⟨gb552, 2, none⟩) (Kd.R_far (p := ⟨gb552, 1, none⟩) (Kd.R_far (p := ⟨gb552, 0, none⟩) (Kd.R_types HO551.out BK552.out (by decide)) (fun _ hk => hk.2) (.int .i64 t538)) (fun _ hk => hk.2) (.int .i64 t539)) (fun _ hk => hk.2) (.int .i64 t540)) (fun _ hk => hk.2) (.int .i64 t541)) (fun _ hk => hk.2) (.string t542)) (fun _ hk => hk.2) (.string t543)) (fun _ hk => hk.2) (.int .i64 t544)) (fun _ hk => hk.2) (.int .i64 t545)) (fun _ hk => hk.2) (.int .i64 t546)) (fun _ hk => hk.2) (.int .i64 t547)) (fun _ hk => hk.2) (.int .i64 t548)) (fun _ hk => hk.2) (.slice Ao108 t549.length co108)) (fun _ hk => ⟨hk.1.1.2, hk.1.2⟩)⟩, ⟨(bp1 BK448.out NB448_552.out)⟩, ⟨(bp1 BK449.out NB449_552.out)⟩, ⟨(bp1 BK537.out NB537_552.out)⟩, ⟨(bp0 BK552.out)⟩, ⟨by exact q5 HB.out GE448.out GE449.out GE537.out GE552.out⟩⟩
         case round =>
          clear H'
          try clear c1
          try clear c2
          try clear p2
          try clear c3
          try clear c4
          try clear c5
          try clear c6
          try clear c7
          try clear c8
          try clear c9
          try clear c10
          try clear c11
          try clear c12
          try clear c14
          try clear c15
          try clear c16
          try clear c17
          try clear c18
          try clear c19
          try clear c20
          try clear c22
          try clear c25
          try clear c30
          try clear c35
          try clear c37
          try clear c59
          try clear c61
          try clear c63
          try clear c91
          try clear c94
          try clear c98
          try clear c99
          try clear c104
          try clear c105
          try clear c106
          try clear hcz100_0
          try clear hcz100_1
          try clear hcz100_10
          try clear hcz100_11
          try clear hcz100_2
          try clear hcz100_3
          try clear hcz100_4
          try clear hcz100_5
          try clear hcz100_6
          try clear hcz100_7
          try clear hcz100_8
          try clear hcz100_9
          try clear hcz107_0
          try clear hcz107_1
          try clear hcz107_10
          try clear hcz107_11
          try clear hcz107_2
          try clear hcz107_3
          try clear hcz107_4
          try clear hcz107_5
          try clear hcz107_6
          try clear hcz107_7
          try clear hcz107_8
          try clear hcz107_9
          try clear hcz13_0
          try clear hcz13_1
          try clear hcz13_10
          try clear hcz13_11
          try clear hcz13_2
          try clear hcz13_3
          try clear hcz13_4
          try clear hcz13_5
          try clear hcz13_6
          try clear hcz13_7
          try clear hcz13_8
          try clear hcz13_9
          try clear hcz15_0
          try clear hcz15_1
          try clear hcz15_10
          try clear hcz15_11
          try clear hcz15_2
          try clear hcz15_3
          try clear hcz15_4
          try clear hcz15_5
          try clear hcz15_6
          try clear hcz15_7
          try clear hcz15_8
          try clear hcz15_9
          try clear hcz18_0
          try clear hcz18_1
          try clear hcz18_10
          try clear hcz18_11
          try clear hcz18_2
          try clear hcz18_3
          try clear hcz18_4
          try clear hcz18_5
          try clear hcz18_6
          try clear hcz18_7
          try clear hcz18_8
          try clear hcz18_9
          try clear hcz20_0
          try clear hcz20_1
          try clear hcz20_10
          try clear hcz20_11
          try clear hcz20_2
          try clear hcz20_3
          try clear hcz20_4
          try clear hcz20_5
          try clear hcz20_6
          try clear hcz20_7
          try clear hcz20_8
          try clear hcz20_9
          try clear hcz23_0
          try clear hcz23_1
          try clear hcz23_10
          try clear hcz23_11
          try clear hcz23_2
          try clear hcz23_3
          try clear hcz23_4
          try clear hcz23_5
          try clear hcz23_6
          try clear hcz23_7
          try clear hcz23_8
          try clear hcz23_9
          try clear hcz38_0
          try clear hcz38_1
          try clear hcz38_10
          try clear hcz38_11
          try clear hcz38_2
          try clear hcz38_3
          try clear hcz38_4
          try clear hcz38_5
          try clear hcz38_6
          try clear hcz38_7
          try clear hcz38_8
          try clear hcz38_9
          try clear hcz47_0
          try clear hcz47_1
          try clear hcz47_10
          try clear hcz47_11
          try clear hcz47_2
          try clear hcz47_3
          try clear hcz47_4
          try clear hcz47_5
          try clear hcz47_6
          try clear hcz47_7
          try clear hcz47_8
          try clear hcz47_9
          try clear hcz51_0
          try clear hcz51_1
          try clear hcz51_10
          try clear hcz51_11
          try clear hcz51_2
          try clear hcz51_3
          try clear hcz51_4
          try clear hcz51_5
          try clear hcz51_6
          try clear hcz51_7
          try clear hcz51_8
          try clear hcz51_9
          try clear hcz95_0
          try clear hcz95_1
          try clear hcz95_10
          try clear hcz95_11
          try clear hcz95_2
          try clear hcz95_3
          try clear hcz95_4
          try clear hcz95_5
          try clear hcz95_6
          try clear hcz95_7
          try clear hcz95_8
          try clear hcz95_9
          try clear hfz100_0
          try clear hfz100_1
          try clear hfz100_10
          try clear hfz100_11
          try clear hfz100_2
          try clear hfz100_3
          try clear hfz100_4
          try clear hfz100_5
          try clear hfz100_6
          try clear hfz100_7
          try clear hfz100_8
          try clear hfz100_9
          try clear hfz107_0
          try clear hfz107_1
          try clear hfz107_10
          try clear hfz107_11
          try clear hfz107_2
          try clear hfz107_3
          try clear hfz107_4
          try clear hfz107_5
          try clear hfz107_6
          try clear hfz107_7
          try clear hfz107_8
          try clear hfz107_9
          try clear hfz13_0
          try clear hfz13_1
          try clear hfz13_10
          try clear hfz13_11
          try clear hfz13_2
          try clear hfz13_3
          try clear hfz13_4
          try clear hfz13_5
          try clear hfz13_6
          try clear hfz13_7
          try clear hfz13_8
          try clear hfz13_9
          try clear hfz15_0
          try clear hfz15_1
          try clear hfz15_10
          try clear hfz15_11
          try clear hfz15_2
          try clear hfz15_3
          try clear hfz15_4
          try clear hfz15_5
          try clear hfz15_6
          try clear hfz15_7
          try clear hfz15_8
          try clear hfz15_9
          try clear hfz18_0
          try clear hfz18_1
          try clear hfz18_10
          try clear hfz18_11
          try clear hfz18_2
          try clear hfz18_3
          try clear hfz18_4
          try clear hfz18_5
          try clear hfz18_6
          try clear hfz18_7
          try clear hfz18_8
          try clear hfz18_9
          try clear hfz20_0
          try clear hfz20_1
          try clear hfz20_10
          try clear hfz20_11
          try clear hfz20_2
          try clear hfz20_3
          try clear hfz20_4
          try clear hfz20_5
          try clear hfz20_6
          try clear hfz20_7
          try clear hfz20_8
          try clear hfz20_9
          try clear hfz23_0
          try clear hfz23_1
          try clear hfz23_10
          try clear hfz23_11
          try clear hfz23_2
          try clear hfz23_3
          try clear hfz23_4
          try clear hfz23_5
          try clear hfz23_6
          try clear hfz23_7
          try clear hfz23_8
          try clear hfz23_9
          try clear hfz38_0
          try clear hfz38_1
          try clear hfz38_10
          try clear hfz38_11
          try clear hfz38_2
          try clear hfz38_3
          try clear hfz38_4
          try clear hfz38_5
          try clear hfz38_6
          try clear hfz38_7
          try clear hfz38_8
          try clear hfz38_9
          try clear hfz47_0
          try clear hfz47_1
          try clear hfz47_10
          try clear hfz47_11
          try clear hfz47_2
          try clear hfz47_3
          try clear hfz47_4
          try clear hfz47_5
          try clear hfz47_6
          try clear hfz47_7
          try clear hfz47_8
          try clear hfz47_9
          try clear hfz51_0
          try clear hfz51_1
          try clear hfz51_10
          try clear hfz51_11
          try clear hfz51_2
          try clear hfz51_3
          try clear hfz51_4
          try clear hfz51_5
          try clear hfz51_6
          try clear hfz51_7
          try clear hfz51_8
          try clear hfz51_9
          try clear hfz95_0
          try clear hfz95_1
          try clear hfz95_10
          try clear hfz95_11
          try clear hfz95_2
          try clear hfz95_3
          try clear hfz95_4
          try clear hfz95_5
          try clear hfz95_6
          try clear hfz95_7
          try clear hfz95_8
          try clear hfz95_9
          try clear p2
          obtain ⟨x17_3, x20_3, x538011_3, x553011_3, u538011, u553011, rfl, HA, HK3, HO_9, HO_11, HO_17, HO_538011, HO_553011, BK448, BK449, BK537, BK552, HB⟩ := hrel
          cases gk with
          | zero => exact absurd HA.out (by simp [glebelaw11_EntryLooks.l0])
          | succ k3 =>
           have H := HA.out
           clear HA
           simp only [glebelaw11_EntryLooks.l0] at H
           by_cases c109 : x20_3 < (x538011_3.length : Int)
           ·rw [if_pos c109] at H
            have c109b0 : decide (x20_3 < (x538011_3.length : Int)) = true := decide_eq_true c109
            clear c109
            by_cases c110 : 0 ≤ x20_3
            ·rw [if_pos c110] at H
             have c110b0 : decide (0 ≤ x20_3) = true := decide_eq_true c110
             clear c110
             obtain ⟨y553, hy553⟩ : ∃ y_ : List Int, y_ = (x538011_3.set (x20_3 : Int).toNat 99) := ⟨_, rfl⟩
             replace H : (glebelaw11_EntryLooks.l0 k3 l2 t467 t470 t477 t478 x17_3 (wrap64 (x20_3 + 1)) a0_0 a0_1 a0_2 a0_3 a0_4 a0_5 a0_6 a0_7 a0_8 a0_9 a0_10 l0_11 a1_0 a1_1 a1_2 a1_3 a1_4 a1_5 a1_6 a1_7 a1_8 a1_9 a1_10 l1_11 t523 t524 t525 t526 t527 t528 t529 t530 t531 t532 t533 y553 t538 t539 t540 t541 t542 t543 t544 t545 t546 t547 t548 x553011_3) = some r := by first | (rw [hy553]; with_reducible exact H) | (have H2_ := (Option.bind_some _ _).symm.trans H; rw [hy553]; with_reducible exact H2_) | (have H2_ := (Option.bind_some _ _).symm.trans H; with_reducible exact H2_) | with_reducible exact H | (rw [hy553]; exact H) | exact H
             have Ny553 := Aside0.mk hy553
             clear hy553
             have H' := Aside0.mk H
             clear H
             have hnb112 := NB537_448.out
             have hnc112 := NB448_537.out
             have hnb113 := NB537_449.out
             have hnc113 := NB449_537.out
             have hnb114 := NB537_552.out
             have hnc114 := NB552_537.out
             obtain ⟨hcz115_0, hcz115_1, hcz115_2, hcz115_3, hcz115_4, hcz115_5, hcz115_6, hcz115_7, hcz115_8, hcz115_9, hcz115_10, hcz115_11⟩ := cells12 BK537.out
             obtain ⟨hfz115_0, hfz115_1, hfz115_2, hfz115_3, hfz115_4, hfz115_5, hfz115_6, hfz115_7, hfz115_8, hfz115_9, hfz115_10, hfz115_11⟩ := frz12 BK537.out
             obtain ⟨Ao116, co116, eo116⟩ := Kd.R_slice HO_538011.out
             subst eo116
             have p111 : 0 ≤ (x20_3 : Int) := of_decide_eq_true (by first | (with_reducible assumption) | assumption)
             have q111 : (x20_3 : Int) < ((x538011_3.length : Int) : Int) := of_decide_eq_true (by first | (with_reducible assumption) | assumption)
             obtain ⟨go111, co111, eo111, gb111, gl111, cl111, HG111⟩ := Kd.R_form HO_538011.out (by omega)
             (first | cases eo111 | (injection eo111 with ea_ en_ ec_; (first | subst ea_ | (injection ea_ with ea_; subst ea_)); subst ec_; clear en_))
             have GB111 := Aside0.mk gb111
             have GG111 := Aside0.mk HG111
             clear gb111 gl111 HG111
             obtain ⟨hx111_0, hf111_0⟩ := Kd.R_celln 0 HO_538011.out (x20_3 : Int) p111 q111
             replace p111 := eq_true p111
             replace q111 := eq_true q111
             have HP117 := Kd.R_putg HO_538011.out (x20_3 : Int) 99
             go_wp2_with (first | ((with_reducible refine gate_store (t := 3) (p := 102) rfl ?_); refine store_event (t := 3) (p := 102) (v := ?vo_w118) (w1 := (wr.setCell ⟨go111, (x20_3 : Int).toNat, none⟩ (.int .i64 99))) ?hg ?ho ?hn ?hr ?_; (case ho => rfl); (case hg => rfl); (case hn => rfl); (case hr => first | (go_simp; done) | (go_simp; rfl)); intro w118 hw; have hg : wr.grownBy w118 (some go111) := (by rw [hw]; exact HP117.2); have hp_ : Kd.R (Kd.int .i64) 3 w118 w.heap.size (fun k_ => some k_ ≠ (v511 : Value).ownBlock ∧ some k_ ≠ (u553011 : Value).ownBlock) (.slice (some ⟨go111, 0, none⟩) x538011_3.length co116) y553 := (by rw [hw, Ny553.out]; exact HP117.1); clear HP117; have n0_ := Aside0.mk (Kd.R_over' (v := (.slice (some ⟨go111, 0, none⟩) x538011_3.length co116)) (br HO_9.out) (Kd.R_typed HO_538011.out) (by decide) hg); have n1_ := Aside0.mk (Kd.R_over' (v := (.slice (some ⟨go111, 0, none⟩) x538011_3.length co116)) (br HO_11.out) (Kd.R_typed HO_538011.out) (by decide) hg); have n2_ := Aside0.mk (Kd.R_after (v := (.slice (some ⟨go111, 0, none⟩) x538011_3.length co116)) (v1 := (.slice (some ⟨go111, 0, none⟩) x538011_3.length co116)) (ok := (fun k_ => some k_ ≠ (u553011 : Value).ownBlock)) (by (with_reducible repeat (first | apply Kd.R_alloc | apply Kd.R_drewN | apply Kd.R_drew)); exact Kd.R_mono HO_17.out (fun _ hk => ⟨hk.2, hk.1⟩)) hg (.inl rfl)); have n3_ := Aside0.mk (hp_); have n4_ := Aside0.mk (Kd.R_after (v := (.slice (some ⟨go111, 0, none⟩) x538011_3.length co116)) (v1 := (.slice (some ⟨go111, 0, none⟩) x538011_3.length co116)) (ok := (fun k_ => some k_ ≠ (v511 : Value).ownBlock)) (br HO_553011.out) hg (.inl rfl)); have n5_ := Aside0.mk (blk_grown (g := gb448) (o := .cells #[.int .i64 a0_0, .int .i64 a0_1, .int .i64 a0_2, .int .i64 a0_3, .string a0_4, .string a0_5, .int .i64 a0_6, .int .i64 a0_7, .int .i64 a0_8, .int .i64 a0_9, .int .i64 a0_10, .slice A0_11 l0_11.length c0_11] 28 (0, 0)) (bk BK448.out) hg (Kd.R_ne HO_538011.out BK448.out (by decide))); have n6_ := Aside0.mk (blk_grown (g := gb449) (o := .cells #[.int .i64 a1_0, .int .i64 a1_1, .int .i64 a1_2, .int .i64 a1_3, .string a1_4, .string a1_5, .int .i64 a1_6, .int .i64 a1_7, .int .i64 a1_8, .int .i64 a1_9, .int .i64 a1_10, .slice A1_11 l1_11.length c1_11] 28 (0, 0)) (bk BK449.out) hg (Kd.R_ne HO_538011.out BK449.out (by decide))); have n7_ := Aside0.mk (blk_grown (g := gb537) (o := .cells #[.int .i64 t523, .int .i64 t524, .int .i64 t525, .int .i64 t526, .string t527, .string t528, .int .i64 t529, .int .i64 t530, .int .i64 t531, .int .i64 t532, .int .i64 t533, .slice (some ⟨go111, 0, none⟩) x538011_3.length co116] 35 (0, 0)) (bk BK537.out) hg (Kd.R_ne HO_538011.out BK537.out (by decide))); have n8_ := Aside0.mk (blk_grown (g := gb552) (o := .cells #[.int .i64 t538, .int .i64 t539, .int .i64 t540, .int .i64 t541, .string t542, .string t543, .int .i64 t544, .int .i64 t545, .int .i64 t546, .int .i64 t547, .int .i64 t548, u553011] 35 (0, 0)) (bk BK552.out) hg (Kd.R_ne HO_538011.out BK552.out (by decide))); have n9_ := Aside0.mk ((by rw [hw]; exact below_set (HB.out) GB111.out : Below w.heap.size w w118)); clear HO_9; clear HO_11; clear HO_17; clear HO_538011; clear HO_553011; clear BK448; clear BK449; clear BK537; clear BK552; clear HB; have HO_9 := n0_; have HO_11 := n1_; have HO_17 := n2_; have HO_538011 := n3_; have HO_553011 := n4_; have BK448 := n5_; have BK449 := n6_; have BK537 := n7_; have BK552 := n8_; have HB := n9_; clear n0_ n1_ n2_ n3_ n4_ n5_ n6_ n7_ n8_ n9_; clear hg hw hp_))
             go_roundg k3
             case measure => have := HJ4.out; have := HJ35.out; have := HK3.out; omega
             case rel => exact ⟨(x17_3), (wrap64 (x20_3 + 1)), (y553), (x553011_3), (.slice (some ⟨go111, 0, none⟩) x538011_3.length co116), (u553011), (by first | rfl | (simp; done) | (simp [*]; done)), H', ⟨by have := HJ4.out; have := HJ35.out; have := HK3.out; omega⟩, ⟨by (with_reducible repeat (first | apply Kd.R_alloc | apply Kd.R_drewN | apply Kd.R_drew)); exact HO_9.out⟩, ⟨by (with_reducible repeat (first | apply Kd.R_alloc | apply Kd.R_drewN | apply Kd.R_drew)); exact HO_11.out⟩, ⟨by (with_reducible repeat (first | apply Kd.R_alloc | apply Kd.R_drewN | apply Kd.R_drew)); exact Kd.R_mono HO_17.out (fun _ hk => ⟨hk.2, hk.1⟩)⟩, ⟨by (with_reducible repeat (first | apply Kd.R_alloc | apply Kd.R_drewN | apply Kd.R_drew)); exact HO_538011.out⟩, ⟨by (with_reducible repeat (first | apply Kd.R_alloc | apply Kd.R_drewN | apply Kd.R_drew)); exact HO_553011.out⟩, ⟨by (with_reducible repeat (first | refine blk_drewN ?_ _ | refine blk_drew ?_ | refine blk_alloc ?_ _)); exact BK448.out⟩, ⟨by (with_reducible repeat (first | refine blk_drewN ?_ _ | refine blk_drew ?_ | refine blk_alloc ?_ _)); exact BK449.out⟩, ⟨by (with_reducible repeat (first | refine blk_drewN ?_ _ | refine blk_drew ?_ | refine blk_alloc ?_ _)); exact BK537.out⟩, ⟨by (with_reducible repeat (first | refine blk_drewN ?_ _ | refine blk_drew ?_ | refine blk_alloc ?_ _)); exact BK552.out⟩, ⟨by exact q5 HB.out GE448.out GE449.out GE537.out GE552.out⟩⟩
            ·rw [if_neg c110] at H
             exact absurd H (by simp)
           ·rw [if_neg c109] at H
            have c109b0 : decide (x20_3 < (x538011_3.length : Int)) = false := decide_eq_false c109
            clear c109
            replace H := Option.bind_eq_some_iff.mp H
            obtain ⟨t554, A1190, H⟩ := H
            try dsimp only at H
            have A119 := Aside0.mk A1190
            clear A1190
            by_cases c120 : (strOfNums t467).toList = (strOfNums t554).toList
            ·rw [if_pos c120] at H
             have c120b0 : ((strOfNums t467).toList == (strOfNums t554).toList) = true := beq_iff_eq.mpr c120
             have c120b1 : ((strOfNums t467).toList != (strOfNums t554).toList) = false := bne_eq_false_iff_eq.mpr c120
             clear c120
             replace H := Option.bind_eq_some_iff.mp H
             obtain ⟨t557, A1210, H⟩ := H
             try dsimp only at H
             have A121 := Aside0.mk A1210
             clear A1210
             replace H := Option.bind_eq_some_iff.mp H
             obtain ⟨t558, A1220, H⟩ := H
             try dsimp only at H
             have A122 := Aside0.mk A1220
             clear A1220
             by_cases c123 : ((t557 == 0) == t558) = true
             ·rw [if_pos c123] at H
              have c123b0 : ((t557 == 0) == t558) = true := c123
              (try (have c123b1 : decide ((t557 == 0) = t558) = true := by simpa using c123))
              (try (have c123b2 : ((t557 == 0) == t558) = true := by simpa using c123))
              clear c123
              replace H := Option.bind_eq_some_iff.mp H
              obtain ⟨t559, A1240, H⟩ := H
              try dsimp only at H
              have A124 := Aside0.mk A1240
              clear A1240
              by_cases c125 : t559 ≤ 1
              ·rw [if_pos c125] at H
               have c125b0 : decide (t559 ≤ 1) = true := decide_eq_true c125
               clear c125
               replace H := Option.bind_eq_some_iff.mp H
               obtain ⟨t560, A1260, H⟩ := H
               try dsimp only at H
               have A126 := Aside0.mk A1260
               clear A1260
               by_cases c127 : (strOfNums t477).toList = (strOfNums t560).toList
               ·rw [if_pos c127] at H
                have c127b0 : ((strOfNums t477).toList == (strOfNums t560).toList) = true := beq_iff_eq.mpr c127
                have c127b1 : ((strOfNums t477).toList != (strOfNums t560).toList) = false := bne_eq_false_iff_eq.mpr c127
                clear c127
                replace H := Option.bind_eq_some_iff.mp H
                obtain ⟨t563, A1280, H⟩ := H
                try dsimp only at H
                have A128 := Aside0.mk A1280
                clear A1280
                replace H := Option.bind_eq_some_iff.mp H
                obtain ⟨t564, A1290, H⟩ := H
                try dsimp only at H
                have A129 := Aside0.mk A1290
                clear A1290
                by_cases c130 : ((t563 == 0) == t564) = true
                ·rw [if_pos c130] at H
                 have c130b0 : ((t563 == 0) == t564) = true := c130
                 (try (have c130b1 : decide ((t563 == 0) = t564) = true := by simpa using c130))
                 (try (have c130b2 : ((t563 == 0) == t564) = true := by simpa using c130))
                 clear c130
                 replace H := Option.bind_eq_some_iff.mp H
                 obtain ⟨t565, A1310, H⟩ := H
                 try dsimp only at H
                 have A131 := Aside0.mk A1310
                 clear A1310
                 by_cases c132 : t565 ≤ 1
                 ·rw [if_pos c132] at H
                  have c132b0 : decide (t565 ≤ 1) = true := decide_eq_true c132
                  clear c132
                  replace H := Option.bind_eq_some_iff.mp H
                  obtain ⟨⟨t566, t567, t568, t569, t570, t571, t572, t573, t574, t575, t576, t577⟩, A1330, H⟩ := H
                  try dsimp only at H
                  have A133 := Aside0.mk A1330
                  clear A1330
                  replace H := Option.bind_eq_some_iff.mp H
                  obtain ⟨t580, A1340, H⟩ := H
                  try dsimp only at H
                  have A134 := Aside0.mk A1340
                  clear A1340
                  replace H := Option.bind_eq_some_iff.mp H
                  obtain ⟨t581, A1350, H⟩ := H
                  try dsimp only at H
                  have A135 := Aside0.mk A1350
                  clear A1350
                  by_cases c136 : (t580 == t581) = true
                  ·rw [if_pos c136] at H
                   have c136b0 : (t580 == t581) = true := c136
                   (try (have c136b1 : decide (t580 = t581) = true := by simpa using c136))
                   (try (have c136b2 : (t580 == t581) = true := by simpa using c136))
                   clear c136
                   replace H := Option.bind_eq_some_iff.mp H
                   obtain ⟨t582, A1370, H⟩ := H
                   try dsimp only at H
                   have A137 := Aside0.mk A1370
                   clear A1370
                   replace H := Option.bind_eq_some_iff.mp H
                   obtain ⟨t583, A1380, H⟩ := H
                   try dsimp only at H
                   have A138 := Aside0.mk A1380
                   clear A1380
                   by_cases c139 : (t582 == t583) = true
                   ·rw [if_pos c139] at H
                    have c139b0 : (t582 == t583) = true := c139
                    (try (have c139b1 : decide (t582 = t583) = true := by simpa using c139))
                    (try (have c139b2 : (t582 == t583) = true := by simpa using c139))
                    clear c139
                    replace H := Option.bind_eq_some_iff.mp H
                    obtain ⟨⟨t584, t585, t586, t587, t588, t589, t590, t591, t592, t593, t594, t595⟩, A1400, H⟩ := H
                    try dsimp only at H
                    have A140 := Aside0.mk A1400
                    clear A1400
                    replace H := Option.bind_eq_some_iff.mp H
                    obtain ⟨⟨t598, t599, t600, t601, t602, t603, t604, t605, t606, t607, t608, t609⟩, A1410, H⟩ := H
                    try dsimp only at H
                    have A141 := Aside0.mk A1410
                    clear A1410
                    replace H := Option.bind_eq_some_iff.mp H
                    obtain ⟨t612, A1420, H⟩ := H
                    try dsimp only at H
                    have A142 := Aside0.mk A1420
                    clear A1420
                    replace H := Option.bind_eq_some_iff.mp H
                    obtain ⟨t613, A1430, H⟩ := H
                    try dsimp only at H
                    have A143 := Aside0.mk A1430
                    clear A1430
                    by_cases c144 : (t612 == t613) = true
                    ·rw [if_pos c144] at H
                     have c144b0 : (t612 == t613) = true := c144
                     (try (have c144b1 : decide (t612 = t613) = true := by simpa using c144))
                     (try (have c144b2 : (t612 == t613) = true := by simpa using c144))
                     clear c144
                     replace H := Option.bind_eq_some_iff.mp H
                     obtain ⟨⟨t614, t615, t616, t617, t618, t619, t620, t621, t622, t623, t624, t625⟩, A1450, H⟩ := H
                     try dsimp only at H
                     have A145 := Aside0.mk A1450
                     clear A1450
                     replace H := Option.bind_eq_some_iff.mp H
                     obtain ⟨t628, A1460, H⟩ := H
                     try dsimp only at H
                     have A146 := Aside0.mk A1460
                     clear A1460
                     by_cases c147 : t628 = true
                     ·subst c147
                      have H1 : ((glebelaw11_knows.f).bind fun t629 => (some t629)) = some r := by rw [if_pos rfl] at H; exact H
                      clear H
                      have H := H1
                      clear H1
                      replace H := Option.bind_eq_some_iff.mp H
                      obtain ⟨t629, A1480, H⟩ := H
                      try dsimp only at H
                      have A148 := Aside0.mk A1480
                      clear A1480
                      obtain rfl := Option.some.inj H
                      have hnb149 := NB537_448.out
                      have hnc149 := NB448_537.out
                      have hnb150 := NB537_449.out
                      have hnc150 := NB449_537.out
                      have hnb151 := NB537_552.out
                      have hnc151 := NB552_537.out
                      obtain ⟨hcz152_0, hcz152_1, hcz152_2, hcz152_3, hcz152_4, hcz152_5, hcz152_6, hcz152_7, hcz152_8, hcz152_9, hcz152_10, hcz152_11⟩ := cells12 BK537.out
                      obtain ⟨hfz152_0, hfz152_1, hfz152_2, hfz152_3, hfz152_4, hfz152_5, hfz152_6, hfz152_7, hfz152_8, hfz152_9, hfz152_10, hfz152_11⟩ := frz12 BK537.out
                      obtain ⟨Ao153, co153, eo153⟩ := Kd.R_slice HO_538011.out
                      subst eo153
                      obtain ⟨Ao154, co154, eo154⟩ := Kd.R_slice HO_17.out
                      subst eo154
                      obtain ⟨Ao155, co155, eo155⟩ := Kd.R_slice HO_553011.out
                      subst eo155
                      try go_wp2
                      have n0_ := Aside0.mk (Kd.R_drew HO_9.out)
                      have n1_ := Aside0.mk (Kd.R_drew HO_11.out)
                      have n2_ := Aside0.mk (Kd.R_drew HO_17.out)
                      have n3_ := Aside0.mk (Kd.R_drew HO_538011.out)
                      have n4_ := Aside0.mk (Kd.R_drew HO_553011.out)
                      have n5_ := Aside0.mk (blk_drew BK448.out)
                      have n6_ := Aside0.mk (blk_drew BK449.out)
                      have n7_ := Aside0.mk (blk_drew BK537.out)
                      have n8_ := Aside0.mk (blk_drew BK552.out)
                      have n9_ := Aside0.mk (below_drew1 HB.out)
                      clear HO_9
                      clear HO_11
                      clear HO_17
                      clear HO_538011
                      clear HO_553011
                      clear BK448
                      clear BK449
                      clear BK537
                      clear BK552
                      clear HB
                      have HO_9 := n0_
                      have HO_11 := n1_
                      have HO_17 := n2_
                      have HO_538011 := n3_
                      have HO_553011 := n4_
                      have BK448 := n5_
                      have BK449 := n6_
                      have BK537 := n7_
                      have BK552 := n8_
                      have HB := n9_
                      clear n0_ n1_ n2_ n3_ n4_ n5_ n6_ n7_ n8_ n9_
                      as_aux_lemma =>
                      refine start_ (n := 76) (S := fun w' => w'.cell? ⟨gb448, 0, none⟩ = some (.int .i64 a0_0) ∧ w'.cell? ⟨gb448, 1, none⟩ = some (.int .i64 a0_1) ∧ w'.cell? ⟨gb448, 2, none⟩ = some (.int .i64 a0_2) ∧ w'.cell? ⟨gb448, 3, none⟩ = some (.int .i64 a0_3) ∧ w'.cell? ⟨gb448, 4, none⟩ = some (.string a0_4) ∧ w'.cell? ⟨gb448, 5, none⟩ = some (.string a0_5) ∧ w'.cell? ⟨gb448, 6, none⟩ = some (.int .i64 a0_6) ∧ w'.cell? ⟨gb448, 7, none⟩ = some (.int .i64 a0_7) ∧ w'.cell? ⟨gb448, 8, none⟩ = some (.int .i64 a0_8) ∧ w'.cell? ⟨gb448, 9, none⟩ = some (.int .i64 a0_9) ∧ w'.cell? ⟨gb448, 10, none⟩ = some (.int .i64 a0_10) ∧ w'.cell? ⟨gb448, 11, none⟩ = some (.slice A0_11 l0_11.length c0_11) ∧ w'.cell? ⟨gb449, 0, none⟩ = some (.int .i64 a1_0) ∧ w'.cell? ⟨gb449, 1, none⟩ = some (.int .i64 a1_1) ∧ w'.cell? ⟨gb449, 2, none⟩ = some (.int .i64 a1_2) ∧ w'.cell? ⟨gb449, 3, none⟩ = some (.int .i64 a1_3) ∧ w'.cell? ⟨gb449, 4, none⟩ = some (.string a1_4) ∧ w'.cell? ⟨gb449, 5, none⟩ = some (.string a1_5) ∧ w'.cell? ⟨gb449, 6, none⟩ = some (.int .i64 a1_6) ∧ w'.cell? ⟨gb449, 7, none⟩ = some (.int .i64 a1_7) ∧ w'.cell? ⟨gb449, 8, none⟩ = some (.int .i64 a1_8) ∧ w'.cell? ⟨gb449, 9, none⟩ = some (.int .i64 a1_9) ∧ w'.cell? ⟨gb449, 10, none⟩ = some (.int .i64 a1_10) ∧ w'.cell? ⟨gb449, 11, none⟩ = some (.slice A1_11 l1_11.length c1_11) ∧ w'.cell? ⟨gb552, 0, none⟩ = some (.int .i64 t538) ∧ w'.cell? ⟨gb552, 1, none⟩ = some (.int .i64 t539) ∧ w'.cell? ⟨gb552, 2, none⟩ = some (.int .i64 t540) ∧ w'.cell? ⟨gb552, 3, none⟩ = some (.int .i64 t541) ∧ w'.cell? ⟨gb552, 4, none⟩ = some (.string t542) ∧ w'.cell? ⟨gb552, 5, none⟩ = some (.string t543) ∧ w'.cell? ⟨gb552, 6, none⟩ = some (.int .i64 t544) ∧ w'.cell? ⟨gb552, 7, none⟩ = some (.int .i64 t545) ∧ w'.cell? ⟨gb552, 8, none⟩ = some (.int .i64 t546) ∧ w'.cell? ⟨gb552, 9, none⟩ = some (.int .i64 t547) ∧ w'.cell? ⟨gb552, 10, none⟩ = some (.int .i64 t548) ∧ w'.cell? ⟨gb552, 11, none⟩ = some (.slice Ao155 x553011_3.length co155) ∧ (convert 41 9 v468).run Try.prog w' = .ok (.string (strOfNums t467)) w' ∧ (convert 41 9 v479).run Try.prog w' = .ok (.string (strOfNums t477)) w') (ds := []) #[false, false, false, false, false, false, false, false, false, false, false, false, false, false, false, false, false, false, false, false, false, false, false, false, false, false, false, false, false, false, false, false, false, false, false, false, false, false, false, false, false, false, false, false, false, false, false, false, false, false, false, false, false, false, false, false, false, false, false, false, false, false, false, false, false, false, false, false, false, false, false, false, false, false, false, false] (by kernel_rfl) rfl rfl ⟨bc BK448 0, bc BK448 1, bc BK448 2, bc BK448 3, bc BK448 4, bc BK448 5, bc BK448 6, bc BK448 7, bc BK448 8, bc BK448 9, bc BK448 10, bc BK448 11, bc BK449 0, bc BK449 1, bc BK449 2, bc BK449 3, bc BK449 4, bc BK449 5, bc BK449 6, bc BK449 7, bc BK449 8, bc BK449 9, bc BK449 10, bc BK449 11, bc BK552 0, bc BK552 1, bc BK552 2, bc BK552 3, bc BK552 4, bc BK552 5, bc BK552 6, bc BK552 7, bc BK552 8, bc BK552 9, bc BK552 10, bc BK552 11, (own_string (P := Try.prog) Try.underlying41 Try.underlying5 Try.underlying9 (Kd.own_of_R (br HO_9.out))), (own_string (P := Try.prog) Try.underlying41 Try.underlying5 Try.underlying9 (Kd.own_of_R (br HO_11.out)))⟩ (fun hHeld => ?_); refine with_tabW glebelaw11_EntryLooks.tab16 glebelaw11_EntryLooks.bits16 (fun HT_ HW_ => ?_)
                      generalize wr.drew = w156 at HO_9 HO_11 HO_17 HO_538011 HO_553011 BK448 BK449 BK537 BK552 HB hHeld ⊢
                      refine pq_ HT_ 0 103 ?_
                      refine tq_ HT_ HW_ 1 104 hHeld ?_
                      refine tq_ HT_ HW_ 2 105 hHeld ?_
                      refine oq_ HT_ 3 106 (fun K hK => ?_)
                      refine goes_ Try.func21 (by kernel_rfl) rfl #[.agg #[.int .i64 a0_0, .int .i64 a0_1, .int .i64 a0_2, .int .i64 a0_3, .string a0_4, .string a0_5, .int .i64 a0_6, .int .i64 a0_7, .int .i64 a0_8, .int .i64 a0_9, .int .i64 a0_10, .slice A0_11 l0_11.length c0_11]] (by rfl) rfl rfl (by (try simp only [List.map_toArray, List.map_cons, List.map_nil]); first | done | rfl | (simp only [List.length_drop, List.length_take]; rfl)) ?_
                      with_reducible refine (gleberef11_Put.calls k3 a0_0 a0_1 a0_2 a0_3 a0_4 a0_5 a0_6 a0_7 a0_8 a0_9 a0_10 _ _ l0_11 t554 _ ?side1 ?side2 A119.out).mono ?_
                      (case side1 => repeat (first | exact (Kd.C_below HR0_11.out HB.out) | (with_reducible refine Kd.C_alloc ?_ _) | (with_reducible refine Kd.C_drewN ?_ _) | (with_reducible refine Kd.C_drew ?_)))
                      (case side2 => exact HC0_11.out)
                      rintro e w157 ⟨v555, rfl, ho0, hb⟩
                      refine ⟨_, rfl, ?_⟩
                      have n0_ := Aside0.mk (Kd.R_elder' (br HO_9.out) (Kd.R_base ho0) hb)
                      have n1_ := Aside0.mk (Kd.R_elder' (br HO_11.out) (Kd.R_base ho0) hb)
                      have n2_ := Aside0.mk (Kd.R_below (br HO_17.out) hb)
                      have n3_ := Aside0.mk (Kd.R_below (br HO_538011.out) hb)
                      have n4_ := Aside0.mk (Kd.R_below (br HO_553011.out) hb)
                      have n5_ := Aside0.mk (Kd.R_lower (Kd.R_new' (Kd.R_new' ho0 (Kd.R_lt (br HO_9.out))) (Kd.R_lt (br HO_11.out))) (below_size (q5 HB.out GE448.out GE449.out GE537.out GE552.out)))
                      have n6_ := Aside0.mk (blk_below (bk BK448.out) hb)
                      have n7_ := Aside0.mk (blk_below (bk BK449.out) hb)
                      have n8_ := Aside0.mk (blk_below (bk BK537.out) hb)
                      have n9_ := Aside0.mk (blk_below (bk BK552.out) hb)
                      have n10_ := Aside0.mk (below_step (q5 HB.out GE448.out GE449.out GE537.out GE552.out) hb)
                      clear HO_9
                      clear HO_11
                      clear HO_17
                      clear HO_538011
                      clear HO_553011
                      clear BK448
                      clear BK449
                      clear BK537
                      clear BK552
                      clear HB
                      have HO_9 := n0_
                      have HO_11 := n1_
                      have HO_17 := n2_
                      have HO_538011 := n3_
                      have HO_553011 := n4_
                      have HO556 := n5_
                      have BK448 := n6_
                      have BK449 := n7_
                      have BK537 := n8_
                      have BK552 := n9_
                      have HB := n10_
                      clear n0_ n1_ n2_ n3_ n4_ n5_ n6_ n7_ n8_ n9_ n10_
                      (try clear hb)
                      (try clear hb2)
                      (try clear hk)
                      (try clear hi)
                      (try clear ho0)
                      refine hK.out _ _ ⟨bc BK448 0, bc BK448 1, bc BK448 2, bc BK448 3, bc BK448 4, bc BK448 5, bc BK448 6, bc BK448 7, bc BK448 8, bc BK448 9, bc BK448 10, bc BK448 11, bc BK449 0, bc BK449 1, bc BK449 2, bc BK449 3, bc BK449 4, bc BK449 5, bc BK449 6, bc BK449 7, bc BK449 8, bc BK449 9, bc BK449 10, bc BK449 11, bc BK552 0, bc BK552 1, bc BK552 2, bc BK552 3, bc BK552 4, bc BK552 5, bc BK552 6, bc BK552 7, bc BK552 8, bc BK552 9, bc BK552 10, bc BK552 11, (own_string (P := Try.prog) Try.underlying41 Try.underlying5 Try.underlying9 (Kd.own_of_R (br HO_9.out))), (own_string (P := Try.prog) Try.underlying41 Try.underlying5 Try.underlying9 (Kd.own_of_R (br HO_11.out)))⟩ (fun hHeld => ?_)
                      clear hK K
                      refine nq_ 106 ?_
                      refine oq_ HT_ 4 107 (fun K hK => ?_)
                      have hcv158 := own_string (P := Try.prog) Try.underlying41 Try.underlying5 Try.underlying9 (Kd.own_of_R HO556.out)
                      refine value_ (w1 := ?_) (v := ?_) (by rfl) rfl ?_ ?_
                      rotate_left 2
                      ·go_simp
                       constructor
                       ·rfl
                       ·rfl
                      clear hcv158
                      refine hK.out _ _ ⟨bc BK448 0, bc BK448 1, bc BK448 2, bc BK448 3, bc BK448 4, bc BK448 5, bc BK448 6, bc BK448 7, bc BK448 8, bc BK448 9, bc BK448 10, bc BK448 11, bc BK449 0, bc BK449 1, bc BK449 2, bc BK449 3, bc BK449 4, bc BK449 5, bc BK449 6, bc BK449 7, bc BK449 8, bc BK449 9, bc BK449 10, bc BK449 11, bc BK552 0, bc BK552 1, bc BK552 2, bc BK552 3, bc BK552 4, bc BK552 5, bc BK552 6, bc BK552 7, bc BK552 8, bc BK552 9, bc BK552 10, bc BK552 11, (own_string (P := Try.prog) Try.underlying41 Try.underlying5 Try.underlying9 (Kd.own_of_R (br HO_9.out))), (own_string (P := Try.prog) Try.underlying41 Try.underlying5 Try.underlying9 (Kd.own_of_R (br HO_11.out)))⟩ (fun hHeld => ?_)
                      clear hK K
                      refine nq_ 107 ?_
                      refine pq_ HT_ 5 108 ?_
                      refine pq_ HT_ 6 109 ?_
                      refine pq_ HT_ 7 110 ?_
                      refine tq_ HT_ HW_ 10 113 hHeld ?_
                      refine oq_ HT_ 8 111 (fun K hK => ?_)
                      refine goes_ Try.func22 (by kernel_rfl) rfl #[.int .i64 t470] (by rfl) rfl rfl (by (try simp only [List.map_toArray, List.map_cons, List.map_nil]); first | done | rfl | (simp only [List.length_drop, List.length_take]; rfl)) ?_
                      with_reducible refine (glebelaw11_num.calls t470 t557 _ A121.out).mono ?_
                      rintro e w' ⟨rfl, ⟨nd, rfl⟩⟩
                      refine ⟨_, rfl, ?_⟩
                      refine hK.out _ _ ⟨bc BK448 0, bc BK448 1, bc BK448 2, bc BK448 3, bc BK448 4, bc BK448 5, bc BK448 6, bc BK448 7, bc BK448 8, bc BK448 9, bc BK448 10, bc BK448 11, bc BK449 0, bc BK449 1, bc BK449 2, bc BK449 3, bc BK449 4, bc BK449 5, bc BK449 6, bc BK449 7, bc BK449 8, bc BK449 9, bc BK449 10, bc BK449 11, bc BK552 0, bc BK552 1, bc BK552 2, bc BK552 3, bc BK552 4, bc BK552 5, bc BK552 6, bc BK552 7, bc BK552 8, bc BK552 9, bc BK552 10, bc BK552 11, (own_string (P := Try.prog) Try.underlying41 Try.underlying5 Try.underlying9 (Kd.own_of_R (br HO_9.out))), (own_string (P := Try.prog) Try.underlying41 Try.underlying5 Try.underlying9 (Kd.own_of_R (br HO_11.out)))⟩ (fun hHeld => ?_)
                      clear hK K
                      refine nq_ 111 ?_
                      refine pq_ HT_ 9 112 ?_
                      refine oq_ HT_ 11 114 (fun K hK => ?_)
                      refine goes_ Try.func23 (by kernel_rfl) rfl #[.agg #[.int .i64 a0_0, .int .i64 a0_1, .int .i64 a0_2, .int .i64 a0_3, .string a0_4, .string a0_5, .int .i64 a0_6, .int .i64 a0_7, .int .i64 a0_8, .int .i64 a0_9, .int .i64 a0_10, .slice A0_11 l0_11.length c0_11]] (by rfl) rfl rfl (by (try simp only [List.map_toArray, List.map_cons, List.map_nil]); first | done | rfl | (simp only [List.length_drop, List.length_take]; rfl)) ?_
                      with_reducible refine (gleberef11_Right.calls k3 a0_0 a0_1 a0_2 a0_3 a0_4 a0_5 a0_6 a0_7 a0_8 a0_9 a0_10 _ _ l0_11 t558 _ ?side1 ?side2 A122.out).mono ?_
                      (case side1 => repeat (first | exact (Kd.C_below HR0_11.out (q5 HB.out GE448.out GE449.out GE537.out GE552.out)) | (with_reducible refine Kd.C_alloc ?_ _) | (with_reducible refine Kd.C_drewN ?_ _) | (with_reducible refine Kd.C_drew ?_)))
                      (case side2 => exact HC0_11.out)
                      rintro e w159 ⟨rfl, hb⟩
                      refine ⟨_, rfl, ?_⟩
                      have n0_ := Aside0.mk (Kd.R_below (br HO_9.out) hb)
                      have n1_ := Aside0.mk (Kd.R_below (br HO_11.out) hb)
                      have n2_ := Aside0.mk (Kd.R_below (br HO_17.out) hb)
                      have n3_ := Aside0.mk (Kd.R_below (br HO_538011.out) hb)
                      have n4_ := Aside0.mk (Kd.R_below (br HO_553011.out) hb)
                      have n5_ := Aside0.mk (Kd.R_below (br HO556.out) hb)
                      have n6_ := Aside0.mk (blk_below (bk BK448.out) hb)
                      have n7_ := Aside0.mk (blk_below (bk BK449.out) hb)
                      have n8_ := Aside0.mk (blk_below (bk BK537.out) hb)
                      have n9_ := Aside0.mk (blk_below (bk BK552.out) hb)
                      have n10_ := Aside0.mk (below_step (q5 HB.out GE448.out GE449.out GE537.out GE552.out) hb)
                      clear HO_9
                      clear HO_11
                      clear HO_17
                      clear HO_538011
                      clear HO_553011
                      clear HO556
                      clear BK448
                      clear BK449
                      clear BK537
                      clear BK552
                      clear HB
                      have HO_9 := n0_
                      have HO_11 := n1_
                      have HO_17 := n2_
                      have HO_538011 := n3_
                      have HO_553011 := n4_
                      have HO556 := n5_
                      have BK448 := n6_
                      have BK449 := n7_
                      have BK537 := n8_
                      have BK552 := n9_
                      have HB := n10_
                      clear n0_ n1_ n2_ n3_ n4_ n5_ n6_ n7_ n8_ n9_ n10_
                      (try clear hb)
                      (try clear hb2)
                      (try clear hk)
                      (try clear hi)
                      refine hK.out _ _ ⟨bc BK448 0, bc BK448 1, bc BK448 2, bc BK448 3, bc BK448 4, bc BK448 5, bc BK448 6, bc BK448 7, bc BK448 8, bc BK448 9, bc BK448 10, bc BK448 11, bc BK449 0, bc BK449 1, bc BK449 2, bc BK449 3, bc BK449 4, bc BK449 5, bc BK449 6, bc BK449 7, bc BK449 8, bc BK449 9, bc BK449 10, bc BK449 11, bc BK552 0, bc BK552 1, bc BK552 2, bc BK552 3, bc BK552 4, bc BK552 5, bc BK552 6, bc BK552 7, bc BK552 8, bc BK552 9, bc BK552 10, bc BK552 11, (own_string (P := Try.prog) Try.underlying41 Try.underlying5 Try.underlying9 (Kd.own_of_R (br HO_9.out))), (own_string (P := Try.prog) Try.underlying41 Try.underlying5 Try.underlying9 (Kd.own_of_R (br HO_11.out)))⟩ (fun hHeld => ?_)
                      clear hK K
                      refine nq_ 114 ?_
                      refine pq_ HT_ 12 115 ?_
                      refine pq_ HT_ 13 116 ?_
                      refine pq_ HT_ 14 117 ?_
                      refine pq_ HT_ 15 118 ?_
                      refine oq_ HT_ 16 119 (fun K hK => ?_)
                      refine goes_ Try.func22 (by kernel_rfl) rfl #[.int .i64 t470] (by rfl) rfl rfl (by (try simp only [List.map_toArray, List.map_cons, List.map_nil]); first | done | rfl | (simp only [List.length_drop, List.length_take]; rfl)) ?_
                      with_reducible refine (glebelaw11_num.calls t470 t559 _ A124.out).mono ?_
                      rintro e w' ⟨rfl, ⟨nd, rfl⟩⟩
                      refine ⟨_, rfl, ?_⟩
                      refine hK.out _ _ ⟨bc BK448 0, bc BK448 1, bc BK448 2, bc BK448 3, bc BK448 4, bc BK448 5, bc BK448 6, bc BK448 7, bc BK448 8, bc BK448 9, bc BK448 10, bc BK448 11, bc BK449 0, bc BK449 1, bc BK449 2, bc BK449 3, bc BK449 4, bc BK449 5, bc BK449 6, bc BK449 7, bc BK449 8, bc BK449 9, bc BK449 10, bc BK449 11, bc BK552 0, bc BK552 1, bc BK552 2, bc BK552 3, bc BK552 4, bc BK552 5, bc BK552 6, bc BK552 7, bc BK552 8, bc BK552 9, bc BK552 10, bc BK552 11, (own_string (P := Try.prog) Try.underlying41 Try.underlying5 Try.underlying9 (Kd.own_of_R (br HO_9.out))), (own_string (P := Try.prog) Try.underlying41 Try.underlying5 Try.underlying9 (Kd.own_of_R (br HO_11.out)))⟩ (fun hHeld => ?_)
                      clear hK K
                      refine nq_ 119 ?_
                      refine pq_ HT_ 17 120 ?_
                      refine pq_ HT_ 18 121 ?_
                      refine pq_ HT_ 19 122 ?_
                      refine pq_ HT_ 20 123 ?_
                      refine pq_ HT_ 22 125 ?_
                      refine tq_ HT_ HW_ 21 124 hHeld ?_
                      refine oq_ HT_ 23 126 (fun K hK => ?_)
                      refine goes_ Try.func24 (by kernel_rfl) rfl #[.slice A2 l2.length c2] (by rfl) rfl rfl (by (try simp only [List.map_toArray, List.map_cons, List.map_nil]); first | done | rfl | (simp only [List.length_drop, List.length_take]; rfl)) ?_
                      with_reducible refine (gleberef11_PutChain.calls k3 _ _ l2 t560 _ ?side1 ?side2 A126.out).mono ?_
                      (case side1 => repeat (first | exact (Kd.C_below HR2.out (q5 HB.out GE448.out GE449.out GE537.out GE552.out)) | (with_reducible refine Kd.C_alloc ?_ _) | (with_reducible refine Kd.C_drewN ?_ _) | (with_reducible refine Kd.C_drew ?_)))
                      (case side2 => exact HC2.out)
                      rintro e w160 ⟨v561, rfl, ho0, hb⟩
                      refine ⟨_, rfl, ?_⟩
                      have n0_ := Aside0.mk (Kd.R_elder' (br HO_9.out) (Kd.R_base ho0) hb)
                      have n1_ := Aside0.mk (Kd.R_elder' (br HO_11.out) (Kd.R_base ho0) hb)
                      have n2_ := Aside0.mk (Kd.R_below (br HO_17.out) hb)
                      have n3_ := Aside0.mk (Kd.R_below (br HO_538011.out) hb)
                      have n4_ := Aside0.mk (Kd.R_below (br HO_553011.out) hb)
                      have n5_ := Aside0.mk (Kd.R_elder' (br HO556.out) (Kd.R_base ho0) hb)
                      have n6_ := Aside0.mk (Kd.R_lower (Kd.R_new' (Kd.R_new' (Kd.R_new' ho0 (Kd.R_lt (br HO_9.out))) (Kd.R_lt (br HO_11.out))) (Kd.R_lt (br HO556.out))) (below_size (q5 HB.out GE448.out GE449.out GE537.out GE552.out)))
                      have n7_ := Aside0.mk (blk_below (bk BK448.out) hb)
                      have n8_ := Aside0.mk (blk_below (bk BK449.out) hb)
                      have n9_ := Aside0.mk (blk_below (bk BK537.out) hb)
                      have n10_ := Aside0.mk (blk_below (bk BK552.out) hb)
                      have n11_ := Aside0.mk (below_step (q5 HB.out GE448.out GE449.out GE537.out GE552.out) hb)
                      clear HO_9
                      clear HO_11
                      clear HO_17
                      clear HO_538011
                      clear HO_553011
                      clear HO556
                      clear BK448
                      clear BK449
                      clear BK537
                      clear BK552
                      clear HB
                      have HO_9 := n0_
                      have HO_11 := n1_
                      have HO_17 := n2_
                      have HO_538011 := n3_
                      have HO_553011 := n4_
                      have HO556 := n5_
                      have HO562 := n6_
                      have BK448 := n7_
                      have BK449 := n8_
                      have BK537 := n9_
                      have BK552 := n10_
                      have HB := n11_
                      clear n0_ n1_ n2_ n3_ n4_ n5_ n6_ n7_ n8_ n9_ n10_ n11_
                      (try clear hb)
                      (try clear hb2)
                      (try clear hk)
                      (try clear hi)
                      (try clear ho0)
                      refine hK.out _ _ ⟨bc BK448 0, bc BK448 1, bc BK448 2, bc BK448 3, bc BK448 4, bc BK448 5, bc BK448 6, bc BK448 7, bc BK448 8, bc BK448 9, bc BK448 10, bc BK448 11, bc BK449 0, bc BK449 1, bc BK449 2, bc BK449 3, bc BK449 4, bc BK449 5, bc BK449 6, bc BK449 7, bc BK449 8, bc BK449 9, bc BK449 10, bc BK449 11, bc BK552 0, bc BK552 1, bc BK552 2, bc BK552 3, bc BK552 4, bc BK552 5, bc BK552 6, bc BK552 7, bc BK552 8, bc BK552 9, bc BK552 10, bc BK552 11, (own_string (P := Try.prog) Try.underlying41 Try.underlying5 Try.underlying9 (Kd.own_of_R (br HO_9.out))), (own_string (P := Try.prog) Try.underlying41 Try.underlying5 Try.underlying9 (Kd.own_of_R (br HO_11.out)))⟩ (fun hHeld => ?_)
                      clear hK K
                      refine nq_ 126 ?_
                      refine oq_ HT_ 24 127 (fun K hK => ?_)
                      have hcv161 := own_string (P := Try.prog) Try.underlying41 Try.underlying5 Try.underlying9 (Kd.own_of_R HO562.out)
                      refine value_ (w1 := ?_) (v := ?_) (by rfl) rfl ?_ ?_
                      rotate_left 2
                      ·go_simp
                       constructor
                       ·rfl
                       ·rfl
                      clear hcv161
                      refine hK.out _ _ ⟨bc BK448 0, bc BK448 1, bc BK448 2, bc BK448 3, bc BK448 4, bc BK448 5, bc BK448 6, bc BK448 7, bc BK448 8, bc BK448 9, bc BK448 10, bc BK448 11, bc BK449 0, bc BK449 1, bc BK449 2, bc BK449 3, bc BK449 4, bc BK449 5, bc BK449 6, bc BK449 7, bc BK449 8, bc BK449 9, bc BK449 10, bc BK449 11, bc BK552 0, bc BK552 1, bc BK552 2, bc BK552 3, bc BK552 4, bc BK552 5, bc BK552 6, bc BK552 7, bc BK552 8, bc BK552 9, bc BK552 10, bc BK552 11, (own_string (P := Try.prog) Try.underlying41 Try.underlying5 Try.underlying9 (Kd.own_of_R (br HO_9.out))), (own_string (P := Try.prog) Try.underlying41 Try.underlying5 Try.underlying9 (Kd.own_of_R (br HO_11.out)))⟩ (fun hHeld => ?_)
                      clear hK K
                      refine nq_ 127 ?_
                      refine pq_ HT_ 25 128 ?_
                      refine pq_ HT_ 26 129 ?_
                      refine pq_ HT_ 27 130 ?_
                      refine pq_ HT_ 28 131 ?_
                      refine pq_ HT_ 31 134 ?_
                      refine oq_ HT_ 29 132 (fun K hK => ?_)
                      refine goes_ Try.func22 (by kernel_rfl) rfl #[.int .i64 t478] (by rfl) rfl rfl (by (try simp only [List.map_toArray, List.map_cons, List.map_nil]); first | done | rfl | (simp only [List.length_drop, List.length_take]; rfl)) ?_
                      with_reducible refine (glebelaw11_num.calls t478 t563 _ A128.out).mono ?_
                      rintro e w' ⟨rfl, ⟨nd, rfl⟩⟩
                      refine ⟨_, rfl, ?_⟩
                      refine hK.out _ _ ⟨bc BK448 0, bc BK448 1, bc BK448 2, bc BK448 3, bc BK448 4, bc BK448 5, bc BK448 6, bc BK448 7, bc BK448 8, bc BK448 9, bc BK448 10, bc BK448 11, bc BK449 0, bc BK449 1, bc BK449 2, bc BK449 3, bc BK449 4, bc BK449 5, bc BK449 6, bc BK449 7, bc BK449 8, bc BK449 9, bc BK449 10, bc BK449 11, bc BK552 0, bc BK552 1, bc BK552 2, bc BK552 3, bc BK552 4, bc BK552 5, bc BK552 6, bc BK552 7, bc BK552 8, bc BK552 9, bc BK552 10, bc BK552 11, (own_string (P := Try.prog) Try.underlying41 Try.underlying5 Try.underlying9 (Kd.own_of_R (br HO_9.out))), (own_string (P := Try.prog) Try.underlying41 Try.underlying5 Try.underlying9 (Kd.own_of_R (br HO_11.out)))⟩ (fun hHeld => ?_)
                      clear hK K
                      refine nq_ 132 ?_
                      refine pq_ HT_ 30 133 ?_
                      refine oq_ HT_ 32 135 (fun K hK => ?_)
                      refine goes_ Try.func25 (by kernel_rfl) rfl #[.slice A2 l2.length c2] (by rfl) rfl rfl (by (try simp only [List.map_toArray, List.map_cons, List.map_nil]); first | done | rfl | (simp only [List.length_drop, List.length_take]; rfl)) ?_
                      with_reducible refine (gleberef11_RightChain.calls _ _ l2 t564 _ ?side1 ?side2 A129.out).mono ?_
                      (case side1 => repeat (first | exact (Kd.C_below HR2.out (q5 HB.out GE448.out GE449.out GE537.out GE552.out)) | (with_reducible refine Kd.C_alloc ?_ _) | (with_reducible refine Kd.C_drewN ?_ _) | (with_reducible refine Kd.C_drew ?_)))
                      (case side2 => exact HC2.out)
                      rintro e w163 ⟨rfl, hb⟩
                      refine ⟨_, rfl, ?_⟩
                      have n0_ := Aside0.mk (Kd.R_below (br HO_9.out) hb)
                      have n1_ := Aside0.mk (Kd.R_below (br HO_11.out) hb)
                      have n2_ := Aside0.mk (Kd.R_below (br HO_17.out) hb)
                      have n3_ := Aside0.mk (Kd.R_below (br HO_538011.out) hb)
                      have n4_ := Aside0.mk (Kd.R_below (br HO_553011.out) hb)
                      have n5_ := Aside0.mk (Kd.R_below (br HO556.out) hb)
                      have n6_ := Aside0.mk (Kd.R_below (br HO562.out) hb)
                      have n7_ := Aside0.mk (blk_below (bk BK448.out) hb)
                      have n8_ := Aside0.mk (blk_below (bk BK449.out) hb)
                      have n9_ := Aside0.mk (blk_below (bk BK537.out) hb)
                      have n10_ := Aside0.mk (blk_below (bk BK552.out) hb)
                      have n11_ := Aside0.mk (below_step (q5 HB.out GE448.out GE449.out GE537.out GE552.out) hb)
                      clear HO_9
                      clear HO_11
                      clear HO_17
                      clear HO_538011
                      clear HO_553011
                      clear HO556
                      clear HO562
                      clear BK448
                      clear BK449
                      clear BK537
                      clear BK552
                      clear HB
                      have HO_9 := n0_
                      have HO_11 := n1_
                      have HO_17 := n2_
                      have HO_538011 := n3_
                      have HO_553011 := n4_
                      have HO556 := n5_
                      have HO562 := n6_
                      have BK448 := n7_
                      have BK449 := n8_
                      have BK537 := n9_
                      have BK552 := n10_
                      have HB := n11_
                      clear n0_ n1_ n2_ n3_ n4_ n5_ n6_ n7_ n8_ n9_ n10_ n11_
                      (try clear hb)
                      (try clear hb2)
                      (try clear hk)
                      (try clear hi)
                      refine hK.out _ _ ⟨bc BK448 0, bc BK448 1, bc BK448 2, bc BK448 3, bc BK448 4, bc BK448 5, bc BK448 6, bc BK448 7, bc BK448 8, bc BK448 9, bc BK448 10, bc BK448 11, bc BK449 0, bc BK449 1, bc BK449 2, bc BK449 3, bc BK449 4, bc BK449 5, bc BK449 6, bc BK449 7, bc BK449 8, bc BK449 9, bc BK449 10, bc BK449 11, bc BK552 0, bc BK552 1, bc BK552 2, bc BK552 3, bc BK552 4, bc BK552 5, bc BK552 6, bc BK552 7, bc BK552 8, bc BK552 9, bc BK552 10, bc BK552 11, (own_string (P := Try.prog) Try.underlying41 Try.underlying5 Try.underlying9 (Kd.own_of_R (br HO_9.out))), (own_string (P := Try.prog) Try.underlying41 Try.underlying5 Try.underlying9 (Kd.own_of_R (br HO_11.out)))⟩ (fun hHeld => ?_)
                      clear hK K
                      refine nq_ 135 ?_
                      refine pq_ HT_ 33 136 ?_
                      refine pq_ HT_ 34 137 ?_
                      refine pq_ HT_ 35 138 ?_
                      refine pq_ HT_ 36 139 ?_
                      refine oq_ HT_ 37 140 (fun K hK => ?_)
                      refine goes_ Try.func22 (by kernel_rfl) rfl #[.int .i64 t478] (by rfl) rfl rfl (by (try simp only [List.map_toArray, List.map_cons, List.map_nil]); first | done | rfl | (simp only [List.length_drop, List.length_take]; rfl)) ?_
                      with_reducible refine (glebelaw11_num.calls t478 t565 _ A131.out).mono ?_
                      rintro e w' ⟨rfl, ⟨nd, rfl⟩⟩
                      refine ⟨_, rfl, ?_⟩
                      refine hK.out _ _ ⟨bc BK448 0, bc BK448 1, bc BK448 2, bc BK448 3, bc BK448 4, bc BK448 5, bc BK448 6, bc BK448 7, bc BK448 8, bc BK448 9, bc BK448 10, bc BK448 11, bc BK449 0, bc BK449 1, bc BK449 2, bc BK449 3, bc BK449 4, bc BK449 5, bc BK449 6, bc BK449 7, bc BK449 8, bc BK449 9, bc BK449 10, bc BK449 11, bc BK552 0, bc BK552 1, bc BK552 2, bc BK552 3, bc BK552 4, bc BK552 5, bc BK552 6, bc BK552 7, bc BK552 8, bc BK552 9, bc BK552 10, bc BK552 11, (own_string (P := Try.prog) Try.underlying41 Try.underlying5 Try.underlying9 (Kd.own_of_R (br HO_9.out))), (own_string (P := Try.prog) Try.underlying41 Try.underlying5 Try.underlying9 (Kd.own_of_R (br HO_11.out)))⟩ (fun hHeld => ?_)
                      clear hK K
                      refine nq_ 140 ?_
                      refine pq_ HT_ 38 141 ?_
                      refine pq_ HT_ 39 142 ?_
                      refine pq_ HT_ 40 143 ?_
                      refine tq_ HT_ HW_ 41 144 hHeld ?_
                      refine tq_ HT_ HW_ 44 147 hHeld ?_
                      refine oq_ HT_ 42 145 (fun K hK => ?_)
                      refine goes_ Try.func10 (by kernel_rfl) rfl #[.agg #[.int .i64 a0_0, .int .i64 a0_1, .int .i64 a0_2, .int .i64 a0_3, .string a0_4, .string a0_5, .int .i64 a0_6, .int .i64 a0_7, .int .i64 a0_8, .int .i64 a0_9, .int .i64 a0_10, .slice A0_11 l0_11.length c0_11]] (by rfl) rfl rfl (by (try simp only [List.map_toArray, List.map_cons, List.map_nil]); first | done | rfl | (simp only [List.length_drop, List.length_take]; rfl)) ?_
                      with_reducible refine (glebelaw11_Own.calls a0_0 a0_1 a0_2 a0_3 a0_4 a0_5 a0_6 a0_7 a0_8 a0_9 a0_10 _ _ l0_11 t566 t567 t568 t569 t570 t571 t572 t573 t574 t575 t576 t577 _ ?side1 ?side2 A133.out).mono ?_
                      (case side1 => repeat (first | exact (Kd.C_below HR0_11.out (q5 HB.out GE448.out GE449.out GE537.out GE552.out)) | (with_reducible refine Kd.C_alloc ?_ _) | (with_reducible refine Kd.C_drewN ?_ _) | (with_reducible refine Kd.C_drew ?_)))
                      (case side2 => exact HC0_11.out)
                      rintro e w164 ⟨v578, rfl, ho0, hb⟩
                      refine ⟨_, rfl, ?_⟩
                      have n0_ := Aside0.mk (Kd.R_below (br HO_9.out) hb)
                      have n1_ := Aside0.mk (Kd.R_below (br HO_11.out) hb)
                      have n2_ := Aside0.mk (Kd.R_elder' (br HO_17.out) (Kd.R_base ho0) hb)
                      have n3_ := Aside0.mk (Kd.R_elder' (br HO_538011.out) (Kd.R_base ho0) hb)
                      have n4_ := Aside0.mk (Kd.R_elder' (br HO_553011.out) (Kd.R_base ho0) hb)
                      have n5_ := Aside0.mk (Kd.R_below (br HO556.out) hb)
                      have n6_ := Aside0.mk (Kd.R_below (br HO562.out) hb)
                      have n7_ := Aside0.mk (Kd.R_lower (Kd.R_new' (Kd.R_new' (Kd.R_new' ho0 (Kd.R_lt (br HO_17.out))) (Kd.R_lt (br HO_538011.out))) (Kd.R_lt (br HO_553011.out))) (below_size (q5 HB.out GE448.out GE449.out GE537.out GE552.out)))
                      have n8_ := Aside0.mk (blk_below (bk BK448.out) hb)
                      have n9_ := Aside0.mk (blk_below (bk BK449.out) hb)
                      have n10_ := Aside0.mk (blk_below (bk BK537.out) hb)
                      have n11_ := Aside0.mk (blk_below (bk BK552.out) hb)
                      have n12_ := Aside0.mk (below_step (q5 HB.out GE448.out GE449.out GE537.out GE552.out) hb)
                      clear HO_9
                      clear HO_11
                      clear HO_17
                      clear HO_538011
                      clear HO_553011
                      clear HO556
                      clear HO562
                      clear BK448
                      clear BK449
                      clear BK537
                      clear BK552
                      clear HB
                      have HO_9 := n0_
                      have HO_11 := n1_
                      have HO_17 := n2_
                      have HO_538011 := n3_
                      have HO_553011 := n4_
                      have HO556 := n5_
                      have HO562 := n6_
                      have HO579 := n7_
                      have BK448 := n8_
                      have BK449 := n9_
                      have BK537 := n10_
                      have BK552 := n11_
                      have HB := n12_
                      clear n0_ n1_ n2_ n3_ n4_ n5_ n6_ n7_ n8_ n9_ n10_ n11_ n12_
                      (try clear hb)
                      (try clear hb2)
                      (try clear hk)
                      (try clear hi)
                      (try clear ho0)
                      obtain ⟨Ao165, co165, eo165⟩ := Kd.R_slice HO579.out
                      (first | subst eo165 | (injection eo165 with f1_ f2_ f3_; have f4_ := f1_.symm; have f5_ := f3_.symm; clear f1_ f2_ f3_; subst f4_; subst f5_))
                      refine hK.out _ _ ⟨bc BK448 0, bc BK448 1, bc BK448 2, bc BK448 3, bc BK448 4, bc BK448 5, bc BK448 6, bc BK448 7, bc BK448 8, bc BK448 9, bc BK448 10, bc BK448 11, bc BK449 0, bc BK449 1, bc BK449 2, bc BK449 3, bc BK449 4, bc BK449 5, bc BK449 6, bc BK449 7, bc BK449 8, bc BK449 9, bc BK449 10, bc BK449 11, bc BK552 0, bc BK552 1, bc BK552 2, bc BK552 3, bc BK552 4, bc BK552 5, bc BK552 6, bc BK552 7, bc BK552 8, bc BK552 9, bc BK552 10, bc BK552 11, (own_string (P := Try.prog) Try.underlying41 Try.underlying5 Try.underlying9 (Kd.own_of_R (br HO_9.out))), (own_string (P := Try.prog) Try.underlying41 Try.underlying5 Try.underlying9 (Kd.own_of_R (br HO_11.out)))⟩ (fun hHeld => ?_)
                      clear hK K
                      refine nq_ 145 ?_
                      refine oq_ HT_ 43 146 (fun K hK => ?_)
                      refine goes_ Try.func11 (by kernel_rfl) rfl #[.agg #[.int .i64 t566, .int .i64 t567, .int .i64 t568, .int .i64 t569, .string t570, .string t571, .int .i64 t572, .int .i64 t573, .int .i64 t574, .int .i64 t575, .int .i64 t576, .slice Ao165 t577.length co165]] (by rfl) rfl rfl (by (try simp only [List.map_toArray, List.map_cons, List.map_nil]); first | done | rfl | (simp only [List.length_drop, List.length_take]; rfl)) ?_
                      with_reducible refine (entry_Right.calls k3 t566 t567 t568 t569 t570 t571 t572 t573 t574 t575 t576 _ _ t577 t580 _ ?side1 ?side2 A134.out).mono ?_
                      (case side1 => repeat (first | exact (Kd.R_reads' HO579.out).2.2 | (with_reducible refine Kd.C_alloc ?_ _) | (with_reducible refine Kd.C_drewN ?_ _) | (with_reducible refine Kd.C_drew ?_)))
                      (case side2 => exact (Kd.R_reads' HO579.out).2.1)
                      rintro e w166 ⟨rfl, hb⟩
                      refine ⟨_, rfl, ?_⟩
                      have n0_ := Aside0.mk (Kd.R_below (br HO_9.out) hb)
                      have n1_ := Aside0.mk (Kd.R_below (br HO_11.out) hb)
                      have n2_ := Aside0.mk (Kd.R_below (br HO_17.out) hb)
                      have n3_ := Aside0.mk (Kd.R_below (br HO_538011.out) hb)
                      have n4_ := Aside0.mk (Kd.R_below (br HO_553011.out) hb)
                      have n5_ := Aside0.mk (Kd.R_below (br HO556.out) hb)
                      have n6_ := Aside0.mk (Kd.R_below (br HO562.out) hb)
                      have n7_ := Aside0.mk (Kd.R_below (br HO579.out) hb)
                      have n8_ := Aside0.mk (blk_below (bk BK448.out) hb)
                      have n9_ := Aside0.mk (blk_below (bk BK449.out) hb)
                      have n10_ := Aside0.mk (blk_below (bk BK537.out) hb)
                      have n11_ := Aside0.mk (blk_below (bk BK552.out) hb)
                      have n12_ := Aside0.mk (below_step (q5 HB.out GE448.out GE449.out GE537.out GE552.out) hb)
                      clear HO_9
                      clear HO_11
                      clear HO_17
                      clear HO_538011
                      clear HO_553011
                      clear HO556
                      clear HO562
                      clear HO579
                      clear BK448
                      clear BK449
                      clear BK537
                      clear BK552
                      clear HB
                      have HO_9 := n0_
                      have HO_11 := n1_
                      have HO_17 := n2_
                      have HO_538011 := n3_
                      have HO_553011 := n4_
                      have HO556 := n5_
                      have HO562 := n6_
                      have HO579 := n7_
                      have BK448 := n8_
                      have BK449 := n9_
                      have BK537 := n10_
                      have BK552 := n11_
                      have HB := n12_
                      clear n0_ n1_ n2_ n3_ n4_ n5_ n6_ n7_ n8_ n9_ n10_ n11_ n12_
                      (try clear hb)
                      (try clear hb2)
                      (try clear hk)
                      (try clear hi)
                      refine hK.out _ _ ⟨bc BK448 0, bc BK448 1, bc BK448 2, bc BK448 3, bc BK448 4, bc BK448 5, bc BK448 6, bc BK448 7, bc BK448 8, bc BK448 9, bc BK448 10, bc BK448 11, bc BK449 0, bc BK449 1, bc BK449 2, bc BK449 3, bc BK449 4, bc BK449 5, bc BK449 6, bc BK449 7, bc BK449 8, bc BK449 9, bc BK449 10, bc BK449 11, bc BK552 0, bc BK552 1, bc BK552 2, bc BK552 3, bc BK552 4, bc BK552 5, bc BK552 6, bc BK552 7, bc BK552 8, bc BK552 9, bc BK552 10, bc BK552 11, (own_string (P := Try.prog) Try.underlying41 Try.underlying5 Try.underlying9 (Kd.own_of_R (br HO_9.out))), (own_string (P := Try.prog) Try.underlying41 Try.underlying5 Try.underlying9 (Kd.own_of_R (br HO_11.out)))⟩ (fun hHeld => ?_)
                      clear hK K
                      refine nq_ 146 ?_
                      refine oq_ HT_ 45 148 (fun K hK => ?_)
                      refine goes_ Try.func23 (by kernel_rfl) rfl #[.agg #[.int .i64 a0_0, .int .i64 a0_1, .int .i64 a0_2, .int .i64 a0_3, .string a0_4, .string a0_5, .int .i64 a0_6, .int .i64 a0_7, .int .i64 a0_8, .int .i64 a0_9, .int .i64 a0_10, .slice A0_11 l0_11.length c0_11]] (by rfl) rfl rfl (by (try simp only [List.map_toArray, List.map_cons, List.map_nil]); first | done | rfl | (simp only [List.length_drop, List.length_take]; rfl)) ?_
                      with_reducible refine (gleberef11_Right.calls k3 a0_0 a0_1 a0_2 a0_3 a0_4 a0_5 a0_6 a0_7 a0_8 a0_9 a0_10 _ _ l0_11 t581 _ ?side1 ?side2 A135.out).mono ?_
                      (case side1 => repeat (first | exact (Kd.C_below HR0_11.out HB.out) | (with_reducible refine Kd.C_alloc ?_ _) | (with_reducible refine Kd.C_drewN ?_ _) | (with_reducible refine Kd.C_drew ?_)))
                      (case side2 => exact HC0_11.out)
                      rintro e w167 ⟨rfl, hb⟩
                      refine ⟨_, rfl, ?_⟩
                      have n0_ := Aside0.mk (Kd.R_below (br HO_9.out) hb)
                      have n1_ := Aside0.mk (Kd.R_below (br HO_11.out) hb)
                      have n2_ := Aside0.mk (Kd.R_below (br HO_17.out) hb)
                      have n3_ := Aside0.mk (Kd.R_below (br HO_538011.out) hb)
                      have n4_ := Aside0.mk (Kd.R_below (br HO_553011.out) hb)
                      have n5_ := Aside0.mk (Kd.R_below (br HO556.out) hb)
                      have n6_ := Aside0.mk (Kd.R_below (br HO562.out) hb)
                      have n7_ := Aside0.mk (Kd.R_below (br HO579.out) hb)
                      have n8_ := Aside0.mk (blk_below (bk BK448.out) hb)
                      have n9_ := Aside0.mk (blk_below (bk BK449.out) hb)
                      have n10_ := Aside0.mk (blk_below (bk BK537.out) hb)
                      have n11_ := Aside0.mk (blk_below (bk BK552.out) hb)
                      have n12_ := Aside0.mk (below_step (q5 HB.out GE448.out GE449.out GE537.out GE552.out) hb)
                      clear HO_9
                      clear HO_11
                      clear HO_17
                      clear HO_538011
                      clear HO_553011
                      clear HO556
                      clear HO562
                      clear HO579
                      clear BK448
                      clear BK449
                      clear BK537
                      clear BK552
                      clear HB
                      have HO_9 := n0_
                      have HO_11 := n1_
                      have HO_17 := n2_
                      have HO_538011 := n3_
                      have HO_553011 := n4_
                      have HO556 := n5_
                      have HO562 := n6_
                      have HO579 := n7_
                      have BK448 := n8_
                      have BK449 := n9_
                      have BK537 := n10_
                      have BK552 := n11_
                      have HB := n12_
                      clear n0_ n1_ n2_ n3_ n4_ n5_ n6_ n7_ n8_ n9_ n10_ n11_ n12_
                      (try clear hb)
                      (try clear hb2)
                      (try clear hk)
                      (try clear hi)
                      refine hK.out _ _ ⟨bc BK448 0, bc BK448 1, bc BK448 2, bc BK448 3, bc BK448 4, bc BK448 5, bc BK448 6, bc BK448 7, bc BK448 8, bc BK448 9, bc BK448 10, bc BK448 11, bc BK449 0, bc BK449 1, bc BK449 2, bc BK449 3, bc BK449 4, bc BK449 5, bc BK449 6, bc BK449 7, bc BK449 8, bc BK449 9, bc BK449 10, bc BK449 11, bc BK552 0, bc BK552 1, bc BK552 2, bc BK552 3, bc BK552 4, bc BK552 5, bc BK552 6, bc BK552 7, bc BK552 8, bc BK552 9, bc BK552 10, bc BK552 11, (own_string (P := Try.prog) Try.underlying41 Try.underlying5 Try.underlying9 (Kd.own_of_R (br HO_9.out))), (own_string (P := Try.prog) Try.underlying41 Try.underlying5 Try.underlying9 (Kd.own_of_R (br HO_11.out)))⟩ (fun hHeld => ?_)
                      clear hK K
                      refine nq_ 148 ?_
                      refine pq_ HT_ 46 149 ?_
                      refine pq_ HT_ 47 150 ?_
                      refine pq_ HT_ 48 151 ?_
                      refine pq_ HT_ 49 152 ?_
                      refine pq_ HT_ 51 154 ?_
                      refine oq_ HT_ 50 153 (fun K hK => ?_)
                      refine goes_ Try.func12 (by kernel_rfl) rfl #[.slice Ao154 x17_3.length co154] (by rfl) rfl rfl (by (try simp only [List.map_toArray, List.map_cons, List.map_nil]); first | done | rfl | (simp only [List.length_drop, List.length_take]; rfl)) ?_
                      with_reducible refine (entry_RightChain.calls _ _ x17_3 t582 _ ?side1 ?side2 A137.out).mono ?_
                      (case side1 => repeat (first | exact (Kd.R_reads' HO_17.out).2.2 | (with_reducible refine Kd.C_alloc ?_ _) | (with_reducible refine Kd.C_drewN ?_ _) | (with_reducible refine Kd.C_drew ?_)))
                      (case side2 => exact (Kd.R_reads' HO_17.out).2.1)
                      rintro e w168 ⟨rfl, hb⟩
                      refine ⟨_, rfl, ?_⟩
                      have n0_ := Aside0.mk (Kd.R_below (br HO_9.out) hb)
                      have n1_ := Aside0.mk (Kd.R_below (br HO_11.out) hb)
                      have n2_ := Aside0.mk (Kd.R_below (br HO_17.out) hb)
                      have n3_ := Aside0.mk (Kd.R_below (br HO_538011.out) hb)
                      have n4_ := Aside0.mk (Kd.R_below (br HO_553011.out) hb)
                      have n5_ := Aside0.mk (Kd.R_below (br HO556.out) hb)
                      have n6_ := Aside0.mk (Kd.R_below (br HO562.out) hb)
                      have n7_ := Aside0.mk (Kd.R_below (br HO579.out) hb)
                      have n8_ := Aside0.mk (blk_below (bk BK448.out) hb)
                      have n9_ := Aside0.mk (blk_below (bk BK449.out) hb)
                      have n10_ := Aside0.mk (blk_below (bk BK537.out) hb)
                      have n11_ := Aside0.mk (blk_below (bk BK552.out) hb)
                      have n12_ := Aside0.mk (below_step (q5 HB.out GE448.out GE449.out GE537.out GE552.out) hb)
                      clear HO_9
                      clear HO_11
                      clear HO_17
                      clear HO_538011
                      clear HO_553011
                      clear HO556
                      clear HO562
                      clear HO579
                      clear BK448
                      clear BK449
                      clear BK537
                      clear BK552
                      clear HB
                      have HO_9 := n0_
                      have HO_11 := n1_
                      have HO_17 := n2_
                      have HO_538011 := n3_
                      have HO_553011 := n4_
                      have HO556 := n5_
                      have HO562 := n6_
                      have HO579 := n7_
                      have BK448 := n8_
                      have BK449 := n9_
                      have BK537 := n10_
                      have BK552 := n11_
                      have HB := n12_
                      clear n0_ n1_ n2_ n3_ n4_ n5_ n6_ n7_ n8_ n9_ n10_ n11_ n12_
                      (try clear hb)
                      (try clear hb2)
                      (try clear hk)
                      (try clear hi)
                      refine hK.out _ _ ⟨bc BK448 0, bc BK448 1, bc BK448 2, bc BK448 3, bc BK448 4, bc BK448 5, bc BK448 6, bc BK448 7, bc BK448 8, bc BK448 9, bc BK448 10, bc BK448 11, bc BK449 0, bc BK449 1, bc BK449 2, bc BK449 3, bc BK449 4, bc BK449 5, bc BK449 6, bc BK449 7, bc BK449 8, bc BK449 9, bc BK449 10, bc BK449 11, bc BK552 0, bc BK552 1, bc BK552 2, bc BK552 3, bc BK552 4, bc BK552 5, bc BK552 6, bc BK552 7, bc BK552 8, bc BK552 9, bc BK552 10, bc BK552 11, (own_string (P := Try.prog) Try.underlying41 Try.underlying5 Try.underlying9 (Kd.own_of_R (br HO_9.out))), (own_string (P := Try.prog) Try.underlying41 Try.underlying5 Try.underlying9 (Kd.own_of_R (br HO_11.out)))⟩ (fun hHeld => ?_)
                      clear hK K
                      refine nq_ 153 ?_
                      refine oq_ HT_ 52 155 (fun K hK => ?_)
                      refine goes_ Try.func25 (by kernel_rfl) rfl #[.slice A2 l2.length c2] (by rfl) rfl rfl (by (try simp only [List.map_toArray, List.map_cons, List.map_nil]); first | done | rfl | (simp only [List.length_drop, List.length_take]; rfl)) ?_
                      with_reducible refine (gleberef11_RightChain.calls _ _ l2 t583 _ ?side1 ?side2 A138.out).mono ?_
                      (case side1 => repeat (first | exact (Kd.C_below HR2.out HB.out) | (with_reducible refine Kd.C_alloc ?_ _) | (with_reducible refine Kd.C_drewN ?_ _) | (with_reducible refine Kd.C_drew ?_)))
                      (case side2 => exact HC2.out)
                      rintro e w169 ⟨rfl, hb⟩
                      refine ⟨_, rfl, ?_⟩
                      have n0_ := Aside0.mk (Kd.R_below (br HO_9.out) hb)
                      have n1_ := Aside0.mk (Kd.R_below (br HO_11.out) hb)
                      have n2_ := Aside0.mk (Kd.R_below (br HO_17.out) hb)
                      have n3_ := Aside0.mk (Kd.R_below (br HO_538011.out) hb)
                      have n4_ := Aside0.mk (Kd.R_below (br HO_553011.out) hb)
                      have n5_ := Aside0.mk (Kd.R_below (br HO556.out) hb)
                      have n6_ := Aside0.mk (Kd.R_below (br HO562.out) hb)
                      have n7_ := Aside0.mk (Kd.R_below (br HO579.out) hb)
                      have n8_ := Aside0.mk (blk_below (bk BK448.out) hb)
                      have n9_ := Aside0.mk (blk_below (bk BK449.out) hb)
                      have n10_ := Aside0.mk (blk_below (bk BK537.out) hb)
                      have n11_ := Aside0.mk (blk_below (bk BK552.out) hb)
                      have n12_ := Aside0.mk (below_step (q5 HB.out GE448.out GE449.out GE537.out GE552.out) hb)
                      clear HO_9
                      clear HO_11
                      clear HO_17
                      clear HO_538011
                      clear HO_553011
                      clear HO556
                      clear HO562
                      clear HO579
                      clear BK448
                      clear BK449
                      clear BK537
                      clear BK552
                      clear HB
                      have HO_9 := n0_
                      have HO_11 := n1_
                      have HO_17 := n2_
                      have HO_538011 := n3_
                      have HO_553011 := n4_
                      have HO556 := n5_
                      have HO562 := n6_
                      have HO579 := n7_
                      have BK448 := n8_
                      have BK449 := n9_
                      have BK537 := n10_
                      have BK552 := n11_
                      have HB := n12_
                      clear n0_ n1_ n2_ n3_ n4_ n5_ n6_ n7_ n8_ n9_ n10_ n11_ n12_
                      (try clear hb)
                      (try clear hb2)
                      (try clear hk)
                      (try clear hi)
                      refine hK.out _ _ ⟨bc BK448 0, bc BK448 1, bc BK448 2, bc BK448 3, bc BK448 4, bc BK448 5, bc BK448 6, bc BK448 7, bc BK448 8, bc BK448 9, bc BK448 10, bc BK448 11, bc BK449 0, bc BK449 1, bc BK449 2, bc BK449 3, bc BK449 4, bc BK449 5, bc BK449 6, bc BK449 7, bc BK449 8, bc BK449 9, bc BK449 10, bc BK449 11, bc BK552 0, bc BK552 1, bc BK552 2, bc BK552 3, bc BK552 4, bc BK552 5, bc BK552 6, bc BK552 7, bc BK552 8, bc BK552 9, bc BK552 10, bc BK552 11, (own_string (P := Try.prog) Try.underlying41 Try.underlying5 Try.underlying9 (Kd.own_of_R (br HO_9.out))), (own_string (P := Try.prog) Try.underlying41 Try.underlying5 Try.underlying9 (Kd.own_of_R (br HO_11.out)))⟩ (fun hHeld => ?_)
                      clear hK K
                      refine nq_ 155 ?_
                      refine pq_ HT_ 53 156 ?_
                      refine pq_ HT_ 54 157 ?_
                      refine pq_ HT_ 55 158 ?_
                      refine tq_ HT_ HW_ 56 159 hHeld ?_
                      refine tq_ HT_ HW_ 58 161 hHeld ?_
                      refine tq_ HT_ HW_ 61 164 hHeld ?_
                      refine tq_ HT_ HW_ 62 165 hHeld ?_
                      refine oq_ HT_ 57 160 (fun K hK => ?_)
                      refine goes_ Try.func10 (by kernel_rfl) rfl #[.agg #[.int .i64 a0_0, .int .i64 a0_1, .int .i64 a0_2, .int .i64 a0_3, .string a0_4, .string a0_5, .int .i64 a0_6, .int .i64 a0_7, .int .i64 a0_8, .int .i64 a0_9, .int .i64 a0_10, .slice A0_11 l0_11.length c0_11]] (by rfl) rfl rfl (by (try simp only [List.map_toArray, List.map_cons, List.map_nil]); first | done | rfl | (simp only [List.length_drop, List.length_take]; rfl)) ?_
                      with_reducible refine (glebelaw11_Own.calls a0_0 a0_1 a0_2 a0_3 a0_4 a0_5 a0_6 a0_7 a0_8 a0_9 a0_10 _ _ l0_11 t584 t585 t586 t587 t588 t589 t590 t591 t592 t593 t594 t595 _ ?side1 ?side2 A140.out).mono ?_
                      (case side1 => repeat (first | exact (Kd.C_below HR0_11.out HB.out) | (with_reducible refine Kd.C_alloc ?_ _) | (with_reducible refine Kd.C_drewN ?_ _) | (with_reducible refine Kd.C_drew ?_)))
                      (case side2 => exact HC0_11.out)
                      rintro e w170 ⟨v596, rfl, ho0, hb⟩
                      refine ⟨_, rfl, ?_⟩
                      have n0_ := Aside0.mk (Kd.R_below (br HO_9.out) hb)
                      have n1_ := Aside0.mk (Kd.R_below (br HO_11.out) hb)
                      have n2_ := Aside0.mk (Kd.R_elder' (br HO_17.out) (Kd.R_base ho0) hb)
                      have n3_ := Aside0.mk (Kd.R_elder' (br HO_538011.out) (Kd.R_base ho0) hb)
                      have n4_ := Aside0.mk (Kd.R_elder' (br HO_553011.out) (Kd.R_base ho0) hb)
                      have n5_ := Aside0.mk (Kd.R_below (br HO556.out) hb)
                      have n6_ := Aside0.mk (Kd.R_below (br HO562.out) hb)
                      have n7_ := Aside0.mk (Kd.R_elder' (br HO579.out) (Kd.R_base ho0) hb)
                      have n8_ := Aside0.mk (Kd.R_lower (Kd.R_new' (Kd.R_new' (Kd.R_new' (Kd.R_new' ho0 (Kd.R_lt (br HO_17.out))) (Kd.R_lt (br HO_538011.out))) (Kd.R_lt (br HO_553011.out))) (Kd.R_lt (br HO579.out))) (below_size (q5 HB.out GE448.out GE449.out GE537.out GE552.out)))
                      have n9_ := Aside0.mk (blk_below (bk BK448.out) hb)
                      have n10_ := Aside0.mk (blk_below (bk BK449.out) hb)
                      have n11_ := Aside0.mk (blk_below (bk BK537.out) hb)
                      have n12_ := Aside0.mk (blk_below (bk BK552.out) hb)
                      have n13_ := Aside0.mk (below_step (q5 HB.out GE448.out GE449.out GE537.out GE552.out) hb)
                      clear HO_9
                      clear HO_11
                      clear HO_17
                      clear HO_538011
                      clear HO_553011
                      clear HO556
                      clear HO562
                      clear HO579
                      clear BK448
                      clear BK449
                      clear BK537
                      clear BK552
                      clear HB
                      have HO_9 := n0_
                      have HO_11 := n1_
                      have HO_17 := n2_
                      have HO_538011 := n3_
                      have HO_553011 := n4_
                      have HO556 := n5_
                      have HO562 := n6_
                      have HO579 := n7_
                      have HO597 := n8_
                      have BK448 := n9_
                      have BK449 := n10_
                      have BK537 := n11_
                      have BK552 := n12_
                      have HB := n13_
                      clear n0_ n1_ n2_ n3_ n4_ n5_ n6_ n7_ n8_ n9_ n10_ n11_ n12_ n13_
                      (try clear hb)
                      (try clear hb2)
                      (try clear hk)
                      (try clear hi)
                      (try clear ho0)
                      refine hK.out _ _ ⟨bc BK448 0, bc BK448 1, bc BK448 2, bc BK448 3, bc BK448 4, bc BK448 5, bc BK448 6, bc BK448 7, bc BK448 8, bc BK448 9, bc BK448 10, bc BK448 11, bc BK449 0, bc BK449 1, bc BK449 2, bc BK449 3, bc BK449 4, bc BK449 5, bc BK449 6, bc BK449 7, bc BK449 8, bc BK449 9, bc BK449 10, bc BK449 11, bc BK552 0, bc BK552 1, bc BK552 2, bc BK552 3, bc BK552 4, bc BK552 5, bc BK552 6, bc BK552 7, bc BK552 8, bc BK552 9, bc BK552 10, bc BK552 11, (own_string (P := Try.prog) Try.underlying41 Try.underlying5 Try.underlying9 (Kd.own_of_R (br HO_9.out))), (own_string (P := Try.prog) Try.underlying41 Try.underlying5 Try.underlying9 (Kd.own_of_R (br HO_11.out)))⟩ (fun hHeld => ?_)
                      clear hK K
                      refine nq_ 160 ?_
                      refine oq_ HT_ 59 162 (fun K hK => ?_)
                      refine goes_ Try.func10 (by kernel_rfl) rfl #[.agg #[.int .i64 a1_0, .int .i64 a1_1, .int .i64 a1_2, .int .i64 a1_3, .string a1_4, .string a1_5, .int .i64 a1_6, .int .i64 a1_7, .int .i64 a1_8, .int .i64 a1_9, .int .i64 a1_10, .slice A1_11 l1_11.length c1_11]] (by rfl) rfl rfl (by (try simp only [List.map_toArray, List.map_cons, List.map_nil]); first | done | rfl | (simp only [List.length_drop, List.length_take]; rfl)) ?_
                      with_reducible refine (glebelaw11_Own.calls a1_0 a1_1 a1_2 a1_3 a1_4 a1_5 a1_6 a1_7 a1_8 a1_9 a1_10 _ _ l1_11 t598 t599 t600 t601 t602 t603 t604 t605 t606 t607 t608 t609 _ ?side1 ?side2 A141.out).mono ?_
                      (case side1 => repeat (first | exact (Kd.C_below HR1_11.out HB.out) | (with_reducible refine Kd.C_alloc ?_ _) | (with_reducible refine Kd.C_drewN ?_ _) | (with_reducible refine Kd.C_drew ?_)))
                      (case side2 => exact HC1_11.out)
                      rintro e w171 ⟨v610, rfl, ho0, hb⟩
                      refine ⟨_, rfl, ?_⟩
                      have n0_ := Aside0.mk (Kd.R_below (br HO_9.out) hb)
                      have n1_ := Aside0.mk (Kd.R_below (br HO_11.out) hb)
                      have n2_ := Aside0.mk (Kd.R_elder' (br HO_17.out) (Kd.R_base ho0) hb)
                      have n3_ := Aside0.mk (Kd.R_elder' (br HO_538011.out) (Kd.R_base ho0) hb)
                      have n4_ := Aside0.mk (Kd.R_elder' (br HO_553011.out) (Kd.R_base ho0) hb)
                      have n5_ := Aside0.mk (Kd.R_below (br HO556.out) hb)
                      have n6_ := Aside0.mk (Kd.R_below (br HO562.out) hb)
                      have n7_ := Aside0.mk (Kd.R_elder' (br HO579.out) (Kd.R_base ho0) hb)
                      have n8_ := Aside0.mk (Kd.R_elder' (br HO597.out) (Kd.R_base ho0) hb)
                      have n9_ := Aside0.mk (Kd.R_lower (Kd.R_new' (Kd.R_new' (Kd.R_new' (Kd.R_new' (Kd.R_new' ho0 (Kd.R_lt (br HO_17.out))) (Kd.R_lt (br HO_538011.out))) (Kd.R_lt (br HO_553011.out))) (Kd.R_lt (br HO579.out))) (Kd.R_lt (br HO597.out))) (below_size (q5 HB.out GE448.out GE449.out GE537.out GE552.out)))
                      have n10_ := Aside0.mk (blk_below (bk BK448.out) hb)
                      have n11_ := Aside0.mk (blk_below (bk BK449.out) hb)
                      have n12_ := Aside0.mk (blk_below (bk BK537.out) hb)
                      have n13_ := Aside0.mk (blk_below (bk BK552.out) hb)
                      have n14_ := Aside0.mk (below_step (q5 HB.out GE448.out GE449.out GE537.out GE552.out) hb)
                      clear HO_9
                      clear HO_11
                      clear HO_17
                      clear HO_538011
                      clear HO_553011
                      clear HO556
                      clear HO562
                      clear HO579
                      clear HO597
                      clear BK448
                      clear BK449
                      clear BK537
                      clear BK552
                      clear HB
                      have HO_9 := n0_
                      have HO_11 := n1_
                      have HO_17 := n2_
                      have HO_538011 := n3_
                      have HO_553011 := n4_
                      have HO556 := n5_
                      have HO562 := n6_
                      have HO579 := n7_
                      have HO597 := n8_
                      have HO611 := n9_
                      have BK448 := n10_
                      have BK449 := n11_
                      have BK537 := n12_
                      have BK552 := n13_
                      have HB := n14_
                      clear n0_ n1_ n2_ n3_ n4_ n5_ n6_ n7_ n8_ n9_ n10_ n11_ n12_ n13_ n14_
                      (try clear hb)
                      (try clear hb2)
                      (try clear hk)
                      (try clear hi)
                      (try clear ho0)
                      obtain ⟨Ao172, co172, eo172⟩ := Kd.R_slice HO597.out
                      (first | subst eo172 | (injection eo172 with f1_ f2_ f3_; have f4_ := f1_.symm; have f5_ := f3_.symm; clear f1_ f2_ f3_; subst f4_; subst f5_))
                      obtain ⟨Ao173, co173, eo173⟩ := Kd.R_slice HO611.out
                      (first | subst eo173 | (injection eo173 with f1_ f2_ f3_; have f4_ := f1_.symm; have f5_ := f3_.symm; clear f1_ f2_ f3_; subst f4_; subst f5_))
                      refine hK.out _ _ ⟨bc BK448 0, bc BK448 1, bc BK448 2, bc BK448 3, bc BK448 4, bc BK448 5, bc BK448 6, bc BK448 7, bc BK448 8, bc BK448 9, bc BK448 10, bc BK448 11, bc BK449 0, bc BK449 1, bc BK449 2, bc BK449 3, bc BK449 4, bc BK449 5, bc BK449 6, bc BK449 7, bc BK449 8, bc BK449 9, bc BK449 10, bc BK449 11, bc BK552 0, bc BK552 1, bc BK552 2, bc BK552 3, bc BK552 4, bc BK552 5, bc BK552 6, bc BK552 7, bc BK552 8, bc BK552 9, bc BK552 10, bc BK552 11, (own_string (P := Try.prog) Try.underlying41 Try.underlying5 Try.underlying9 (Kd.own_of_R (br HO_9.out))), (own_string (P := Try.prog) Try.underlying41 Try.underlying5 Try.underlying9 (Kd.own_of_R (br HO_11.out)))⟩ (fun hHeld => ?_)
                      clear hK K
                      refine nq_ 162 ?_
                      refine oq_ HT_ 60 163 (fun K hK => ?_)
                      refine goes_ Try.func26 (by kernel_rfl) rfl #[.agg #[.int .i64 t584, .int .i64 t585, .int .i64 t586, .int .i64 t587, .string t588, .string t589, .int .i64 t590, .int .i64 t591, .int .i64 t592, .int .i64 t593, .int .i64 t594, .slice Ao172 t595.length co172], .agg #[.int .i64 t598, .int .i64 t599, .int .i64 t600, .int .i64 t601, .string t602, .string t603, .int .i64 t604, .int .i64 t605, .int .i64 t606, .int .i64 t607, .int .i64 t608, .slice Ao173 t609.length co173]] (by rfl) rfl rfl (by (try simp only [List.map_toArray, List.map_cons, List.map_nil]); first | done | rfl | (simp only [List.length_drop, List.length_take]; rfl)) ?_
                      with_reducible refine (entry_Same.calls k3 t584 t585 t586 t587 t588 t589 t590 t591 t592 t593 t594 _ _ t595 t598 t599 t600 t601 t602 t603 t604 t605 t606 t607 t608 _ _ t609 t612 _ ?side1 ?side2 ?side3 ?side4 A142.out).mono ?_
                      (case side1 => repeat (first | exact (Kd.R_reads' HO597.out).2.2 | (with_reducible refine Kd.C_alloc ?_ _) | (with_reducible refine Kd.C_drewN ?_ _) | (with_reducible refine Kd.C_drew ?_)))
                      (case side2 => exact (Kd.R_reads' HO597.out).2.1)
                      (case side3 => repeat (first | exact (Kd.R_reads' HO611.out).2.2 | (with_reducible refine Kd.C_alloc ?_ _) | (with_reducible refine Kd.C_drewN ?_ _) | (with_reducible refine Kd.C_drew ?_)))
                      (case side4 => exact (Kd.R_reads' HO611.out).2.1)
                      rintro e w174 ⟨rfl, hb⟩
                      refine ⟨_, rfl, ?_⟩
                      have n0_ := Aside0.mk (Kd.R_below (br HO_9.out) hb)
                      have n1_ := Aside0.mk (Kd.R_below (br HO_11.out) hb)
                      have n2_ := Aside0.mk (Kd.R_below (br HO_17.out) hb)
                      have n3_ := Aside0.mk (Kd.R_below (br HO_538011.out) hb)
                      have n4_ := Aside0.mk (Kd.R_below (br HO_553011.out) hb)
                      have n5_ := Aside0.mk (Kd.R_below (br HO556.out) hb)
                      have n6_ := Aside0.mk (Kd.R_below (br HO562.out) hb)
                      have n7_ := Aside0.mk (Kd.R_below (br HO579.out) hb)
                      have n8_ := Aside0.mk (Kd.R_below (br HO597.out) hb)
                      have n9_ := Aside0.mk (Kd.R_below (br HO611.out) hb)
                      have n10_ := Aside0.mk (blk_below (bk BK448.out) hb)
                      have n11_ := Aside0.mk (blk_below (bk BK449.out) hb)
                      have n12_ := Aside0.mk (blk_below (bk BK537.out) hb)
                      have n13_ := Aside0.mk (blk_below (bk BK552.out) hb)
                      have n14_ := Aside0.mk (below_step (q5 HB.out GE448.out GE449.out GE537.out GE552.out) hb)
                      clear HO_9
                      clear HO_11
                      clear HO_17
                      clear HO_538011
                      clear HO_553011
                      clear HO556
                      clear HO562
                      clear HO579
                      clear HO597
                      clear HO611
                      clear BK448
                      clear BK449
                      clear BK537
                      clear BK552
                      clear HB
                      have HO_9 := n0_
                      have HO_11 := n1_
                      have HO_17 := n2_
                      have HO_538011 := n3_
                      have HO_553011 := n4_
                      have HO556 := n5_
                      have HO562 := n6_
                      have HO579 := n7_
                      have HO597 := n8_
                      have HO611 := n9_
                      have BK448 := n10_
                      have BK449 := n11_
                      have BK537 := n12_
                      have BK552 := n13_
                      have HB := n14_
                      clear n0_ n1_ n2_ n3_ n4_ n5_ n6_ n7_ n8_ n9_ n10_ n11_ n12_ n13_ n14_
                      (try clear hb)
                      (try clear hb2)
                      (try clear hk)
                      (try clear hi)
                      refine hK.out _ _ ⟨bc BK448 0, bc BK448 1, bc BK448 2, bc BK448 3, bc BK448 4, bc BK448 5, bc BK448 6, bc BK448 7, bc BK448 8, bc BK448 9, bc BK448 10, bc BK448 11, bc BK449 0, bc BK449 1, bc BK449 2, bc BK449 3, bc BK449 4, bc BK449 5, bc BK449 6, bc BK449 7, bc BK449 8, bc BK449 9, bc BK449 10, bc BK449 11, bc BK552 0, bc BK552 1, bc BK552 2, bc BK552 3, bc BK552 4, bc BK552 5, bc BK552 6, bc BK552 7, bc BK552 8, bc BK552 9, bc BK552 10, bc BK552 11, (own_string (P := Try.prog) Try.underlying41 Try.underlying5 Try.underlying9 (Kd.own_of_R (br HO_9.out))), (own_string (P := Try.prog) Try.underlying41 Try.underlying5 Try.underlying9 (Kd.own_of_R (br HO_11.out)))⟩ (fun hHeld => ?_)
                      clear hK K
                      refine nq_ 163 ?_
                      refine oq_ HT_ 63 166 (fun K hK => ?_)
                      refine goes_ Try.func27 (by kernel_rfl) rfl #[.agg #[.int .i64 a0_0, .int .i64 a0_1, .int .i64 a0_2, .int .i64 a0_3, .string a0_4, .string a0_5, .int .i64 a0_6, .int .i64 a0_7, .int .i64 a0_8, .int .i64 a0_9, .int .i64 a0_10, .slice A0_11 l0_11.length c0_11], .agg #[.int .i64 a1_0, .int .i64 a1_1, .int .i64 a1_2, .int .i64 a1_3, .string a1_4, .string a1_5, .int .i64 a1_6, .int .i64 a1_7, .int .i64 a1_8, .int .i64 a1_9, .int .i64 a1_10, .slice A1_11 l1_11.length c1_11]] (by rfl) rfl rfl (by (try simp only [List.map_toArray, List.map_cons, List.map_nil]); first | done | rfl | (simp only [List.length_drop, List.length_take]; rfl)) ?_
                      with_reducible refine (gleberef11_Same.calls k3 a0_0 a0_1 a0_2 a0_3 a0_4 a0_5 a0_6 a0_7 a0_8 a0_9 a0_10 _ _ l0_11 a1_0 a1_1 a1_2 a1_3 a1_4 a1_5 a1_6 a1_7 a1_8 a1_9 a1_10 _ _ l1_11 t613 _ ?side1 ?side2 ?side3 ?side4 A143.out).mono ?_
                      (case side1 => repeat (first | exact (Kd.C_below HR0_11.out HB.out) | (with_reducible refine Kd.C_alloc ?_ _) | (with_reducible refine Kd.C_drewN ?_ _) | (with_reducible refine Kd.C_drew ?_)))
                      (case side2 => exact HC0_11.out)
                      (case side3 => repeat (first | exact (Kd.C_below HR1_11.out HB.out) | (with_reducible refine Kd.C_alloc ?_ _) | (with_reducible refine Kd.C_drewN ?_ _) | (with_reducible refine Kd.C_drew ?_)))
                      (case side4 => exact HC1_11.out)
                      rintro e w175 ⟨rfl, hb⟩
                      refine ⟨_, rfl, ?_⟩
                      have n0_ := Aside0.mk (Kd.R_below (br HO_9.out) hb)
                      have n1_ := Aside0.mk (Kd.R_below (br HO_11.out) hb)
                      have n2_ := Aside0.mk (Kd.R_below (br HO_17.out) hb)
                      have n3_ := Aside0.mk (Kd.R_below (br HO_538011.out) hb)
                      have n4_ := Aside0.mk (Kd.R_below (br HO_553011.out) hb)
                      have n5_ := Aside0.mk (Kd.R_below (br HO556.out) hb)
                      have n6_ := Aside0.mk (Kd.R_below (br HO562.out) hb)
                      have n7_ := Aside0.mk (Kd.R_below (br HO579.out) hb)
                      have n8_ := Aside0.mk (Kd.R_below (br HO597.out) hb)
                      have n9_ := Aside0.mk (Kd.R_below (br HO611.out) hb)
                      have n10_ := Aside0.mk (blk_below (bk BK448.out) hb)
                      have n11_ := Aside0.mk (blk_below (bk BK449.out) hb)
                      have n12_ := Aside0.mk (blk_below (bk BK537.out) hb)
                      have n13_ := Aside0.mk (blk_below (bk BK552.out) hb)
                      have n14_ := Aside0.mk (below_step (q5 HB.out GE448.out GE449.out GE537.out GE552.out) hb)
                      clear HO_9
                      clear HO_11
                      clear HO_17
                      clear HO_538011
                      clear HO_553011
                      clear HO556
                      clear HO562
                      clear HO579
                      clear HO597
                      clear HO611
                      clear BK448
                      clear BK449
                      clear BK537
                      clear BK552
                      clear HB
                      have HO_9 := n0_
                      have HO_11 := n1_
                      have HO_17 := n2_
                      have HO_538011 := n3_
                      have HO_553011 := n4_
                      have HO556 := n5_
                      have HO562 := n6_
                      have HO579 := n7_
                      have HO597 := n8_
                      have HO611 := n9_
                      have BK448 := n10_
                      have BK449 := n11_
                      have BK537 := n12_
                      have BK552 := n13_
                      have HB := n14_
                      clear n0_ n1_ n2_ n3_ n4_ n5_ n6_ n7_ n8_ n9_ n10_ n11_ n12_ n13_ n14_
                      (try clear hb)
                      (try clear hb2)
                      (try clear hk)
                      (try clear hi)
                      refine hK.out _ _ ⟨bc BK448 0, bc BK448 1, bc BK448 2, bc BK448 3, bc BK448 4, bc BK448 5, bc BK448 6, bc BK448 7, bc BK448 8, bc BK448 9, bc BK448 10, bc BK448 11, bc BK449 0, bc BK449 1, bc BK449 2, bc BK449 3, bc BK449 4, bc BK449 5, bc BK449 6, bc BK449 7, bc BK449 8, bc BK449 9, bc BK449 10, bc BK449 11, bc BK552 0, bc BK552 1, bc BK552 2, bc BK552 3, bc BK552 4, bc BK552 5, bc BK552 6, bc BK552 7, bc BK552 8, bc BK552 9, bc BK552 10, bc BK552 11, (own_string (P := Try.prog) Try.underlying41 Try.underlying5 Try.underlying9 (Kd.own_of_R (br HO_9.out))), (own_string (P := Try.prog) Try.underlying41 Try.underlying5 Try.underlying9 (Kd.own_of_R (br HO_11.out)))⟩ (fun hHeld => ?_)
                      clear hK K
                      refine nq_ 166 ?_
                      refine pq_ HT_ 64 167 ?_
                      refine pq_ HT_ 65 168 ?_
                      refine pq_ HT_ 66 169 ?_
                      refine tq_ HT_ HW_ 67 170 hHeld ?_
                      refine tq_ HT_ HW_ 69 172 hHeld ?_
                      refine oq_ HT_ 68 171 (fun K hK => ?_)
                      refine goes_ Try.func28 (by kernel_rfl) rfl #[.agg #[.int .i64 t538, .int .i64 t539, .int .i64 t540, .int .i64 t541, .string t542, .string t543, .int .i64 t544, .int .i64 t545, .int .i64 t546, .int .i64 t547, .int .i64 t548, .slice Ao155 x553011_3.length co155]] (by rfl) rfl rfl (by (try simp only [List.map_toArray, List.map_cons, List.map_nil]); first | done | rfl | (simp only [List.length_drop, List.length_take]; rfl)) ?_
                      with_reducible refine (glebelaw11_Ref.calls t538 t539 t540 t541 t542 t543 t544 t545 t546 t547 t548 _ _ x553011_3 t614 t615 t616 t617 t618 t619 t620 t621 t622 t623 t624 t625 _ ?side1 ?side2 A145.out).mono ?_
                      (case side1 => repeat (first | exact (Kd.R_reads' HO_553011.out).2.2 | (with_reducible refine Kd.C_alloc ?_ _) | (with_reducible refine Kd.C_drewN ?_ _) | (with_reducible refine Kd.C_drew ?_)))
                      (case side2 => exact (Kd.R_reads' HO_553011.out).2.1)
                      rintro e w176 ⟨v626, rfl, ho0, hb⟩
                      refine ⟨_, rfl, ?_⟩
                      have n0_ := Aside0.mk (Kd.R_below (br HO_9.out) hb)
                      have n1_ := Aside0.mk (Kd.R_below (br HO_11.out) hb)
                      have n2_ := Aside0.mk (Kd.R_elder' (br HO_17.out) (Kd.R_base ho0) hb)
                      have n3_ := Aside0.mk (Kd.R_elder' (br HO_538011.out) (Kd.R_base ho0) hb)
                      have n4_ := Aside0.mk (Kd.R_elder' (br HO_553011.out) (Kd.R_base ho0) hb)
                      have n5_ := Aside0.mk (Kd.R_below (br HO556.out) hb)
                      have n6_ := Aside0.mk (Kd.R_below (br HO562.out) hb)
                      have n7_ := Aside0.mk (Kd.R_elder' (br HO579.out) (Kd.R_base ho0) hb)
                      have n8_ := Aside0.mk (Kd.R_elder' (br HO597.out) (Kd.R_base ho0) hb)
                      have n9_ := Aside0.mk (Kd.R_elder' (br HO611.out) (Kd.R_base ho0) hb)
                      have n10_ := Aside0.mk (Kd.R_lower (Kd.R_new' (Kd.R_new' (Kd.R_new' (Kd.R_new' (Kd.R_new' (Kd.R_new' ho0 (Kd.R_lt (br HO_17.out))) (Kd.R_lt (br HO_538011.out))) (Kd.R_lt (br HO_553011.out))) (Kd.R_lt (br HO579.out))) (Kd.R_lt (br HO597.out))) (Kd.R_lt (br HO611.out))) (below_size (q5 HB.out GE448.out GE449.out GE537.out GE552.out)))
                      have n11_ := Aside0.mk (blk_below (bk BK448.out) hb)
                      have n12_ := Aside0.mk (blk_below (bk BK449.out) hb)
                      have n13_ := Aside0.mk (blk_below (bk BK537.out) hb)
                      have n14_ := Aside0.mk (blk_below (bk BK552.out) hb)
                      have n15_ := Aside0.mk (below_step (q5 HB.out GE448.out GE449.out GE537.out GE552.out) hb)
                      clear HO_9
                      clear HO_11
                      clear HO_17
                      clear HO_538011
                      clear HO_553011
                      clear HO556
                      clear HO562
                      clear HO579
                      clear HO597
                      clear HO611
                      clear BK448
                      clear BK449
                      clear BK537
                      clear BK552
                      clear HB
                      have HO_9 := n0_
                      have HO_11 := n1_
                      have HO_17 := n2_
                      have HO_538011 := n3_
                      have HO_553011 := n4_
                      have HO556 := n5_
                      have HO562 := n6_
                      have HO579 := n7_
                      have HO597 := n8_
                      have HO611 := n9_
                      have HO627 := n10_
                      have BK448 := n11_
                      have BK449 := n12_
                      have BK537 := n13_
                      have BK552 := n14_
                      have HB := n15_
                      clear n0_ n1_ n2_ n3_ n4_ n5_ n6_ n7_ n8_ n9_ n10_ n11_ n12_ n13_ n14_ n15_
                      (try clear hb)
                      (try clear hb2)
                      (try clear hk)
                      (try clear hi)
                      (try clear ho0)
                      obtain ⟨Ao177, co177, eo177⟩ := Kd.R_slice HO627.out
                      (first | subst eo177 | (injection eo177 with f1_ f2_ f3_; have f4_ := f1_.symm; have f5_ := f3_.symm; clear f1_ f2_ f3_; subst f4_; subst f5_))
                      refine hK.out _ _ ⟨bc BK448 0, bc BK448 1, bc BK448 2, bc BK448 3, bc BK448 4, bc BK448 5, bc BK448 6, bc BK448 7, bc BK448 8, bc BK448 9, bc BK448 10, bc BK448 11, bc BK449 0, bc BK449 1, bc BK449 2, bc BK449 3, bc BK449 4, bc BK449 5, bc BK449 6, bc BK449 7, bc BK449 8, bc BK449 9, bc BK449 10, bc BK449 11, bc BK552 0, bc BK552 1, bc BK552 2, bc BK552 3, bc BK552 4, bc BK552 5, bc BK552 6, bc BK552 7, bc BK552 8, bc BK552 9, bc BK552 10, bc BK552 11, (own_string (P := Try.prog) Try.underlying41 Try.underlying5 Try.underlying9 (Kd.own_of_R (br HO_9.out))), (own_string (P := Try.prog) Try.underlying41 Try.underlying5 Try.underlying9 (Kd.own_of_R (br HO_11.out)))⟩ (fun hHeld => ?_)
                      clear hK K
                      refine nq_ 171 ?_
                      refine oq_ HT_ 70 173 (fun K hK => ?_)
                      refine goes_ Try.func27 (by kernel_rfl) rfl #[.agg #[.int .i64 t614, .int .i64 t615, .int .i64 t616, .int .i64 t617, .string t618, .string t619, .int .i64 t620, .int .i64 t621, .int .i64 t622, .int .i64 t623, .int .i64 t624, .slice Ao177 t625.length co177], .agg #[.int .i64 a0_0, .int .i64 a0_1, .int .i64 a0_2, .int .i64 a0_3, .string a0_4, .string a0_5, .int .i64 a0_6, .int .i64 a0_7, .int .i64 a0_8, .int .i64 a0_9, .int .i64 a0_10, .slice A0_11 l0_11.length c0_11]] (by rfl) rfl rfl (by (try simp only [List.map_toArray, List.map_cons, List.map_nil]); first | done | rfl | (simp only [List.length_drop, List.length_take]; rfl)) ?_
                      with_reducible refine (gleberef11_Same.calls k3 t614 t615 t616 t617 t618 t619 t620 t621 t622 t623 t624 _ _ t625 a0_0 a0_1 a0_2 a0_3 a0_4 a0_5 a0_6 a0_7 a0_8 a0_9 a0_10 _ _ l0_11 true _ ?side1 ?side2 ?side3 ?side4 A146.out).mono ?_
                      (case side1 => repeat (first | exact (Kd.R_reads' HO627.out).2.2 | (with_reducible refine Kd.C_alloc ?_ _) | (with_reducible refine Kd.C_drewN ?_ _) | (with_reducible refine Kd.C_drew ?_)))
                      (case side2 => exact (Kd.R_reads' HO627.out).2.1)
                      (case side3 => repeat (first | exact (Kd.C_below HR0_11.out HB.out) | (with_reducible refine Kd.C_alloc ?_ _) | (with_reducible refine Kd.C_drewN ?_ _) | (with_reducible refine Kd.C_drew ?_)))
                      (case side4 => exact HC0_11.out)
                      rintro e w178 ⟨rfl, hb⟩
                      refine ⟨_, rfl, ?_⟩
                      have n0_ := Aside0.mk (Kd.R_below (br HO_9.out) hb)
                      have n1_ := Aside0.mk (Kd.R_below (br HO_11.out) hb)
                      have n2_ := Aside0.mk (Kd.R_below (br HO_17.out) hb)
                      have n3_ := Aside0.mk (Kd.R_below (br HO_538011.out) hb)
                      have n4_ := Aside0.mk (Kd.R_below (br HO_553011.out) hb)
                      have n5_ := Aside0.mk (Kd.R_below (br HO556.out) hb)
                      have n6_ := Aside0.mk (Kd.R_below (br HO562.out) hb)
                      have n7_ := Aside0.mk (Kd.R_below (br HO579.out) hb)
                      have n8_ := Aside0.mk (Kd.R_below (br HO597.out) hb)
                      have n9_ := Aside0.mk (Kd.R_below (br HO611.out) hb)
                      have n10_ := Aside0.mk (Kd.R_below (br HO627.out) hb)
                      have n11_ := Aside0.mk (blk_below (bk BK448.out) hb)
                      have n12_ := Aside0.mk (blk_below (bk BK449.out) hb)
                      have n13_ := Aside0.mk (blk_below (bk BK537.out) hb)
                      have n14_ := Aside0.mk (blk_below (bk BK552.out) hb)
                      have n15_ := Aside0.mk (below_step (q5 HB.out GE448.out GE449.out GE537.out GE552.out) hb)
                      clear HO_9
                      clear HO_11
                      clear HO_17
                      clear HO_538011
                      clear HO_553011
                      clear HO556
                      clear HO562
                      clear HO579
                      clear HO597
                      clear HO611
                      clear HO627
                      clear BK448
                      clear BK449
                      clear BK537
                      clear BK552
                      clear HB
                      have HO_9 := n0_
                      have HO_11 := n1_
                      have HO_17 := n2_
                      have HO_538011 := n3_
                      have HO_553011 := n4_
                      have HO556 := n5_
                      have HO562 := n6_
                      have HO579 := n7_
                      have HO597 := n8_
                      have HO611 := n9_
                      have HO627 := n10_
                      have BK448 := n11_
                      have BK449 := n12_
                      have BK537 := n13_
                      have BK552 := n14_
                      have HB := n15_
                      clear n0_ n1_ n2_ n3_ n4_ n5_ n6_ n7_ n8_ n9_ n10_ n11_ n12_ n13_ n14_ n15_
                      (try clear hb)
                      (try clear hb2)
                      (try clear hk)
                      (try clear hi)
                      refine hK.out _ _ ⟨bc BK448 0, bc BK448 1, bc BK448 2, bc BK448 3, bc BK448 4, bc BK448 5, bc BK448 6, bc BK448 7, bc BK448 8, bc BK448 9, bc BK448 10, bc BK448 11, bc BK449 0, bc BK449 1, bc BK449 2, bc BK449 3, bc BK449 4, bc BK449 5, bc BK449 6, bc BK449 7, bc BK449 8, bc BK449 9, bc BK449 10, bc BK449 11, bc BK552 0, bc BK552 1, bc BK552 2, bc BK552 3, bc BK552 4, bc BK552 5, bc BK552 6, bc BK552 7, bc BK552 8, bc BK552 9, bc BK552 10, bc BK552 11, (own_string (P := Try.prog) Try.underlying41 Try.underlying5 Try.underlying9 (Kd.own_of_R (br HO_9.out))), (own_string (P := Try.prog) Try.underlying41 Try.underlying5 Try.underlying9 (Kd.own_of_R (br HO_11.out)))⟩ (fun hHeld => ?_)
                      clear hK K
                      refine nq_ 173 ?_
                      refine pq_ HT_ 71 174 ?_
                      refine pq_ HT_ 72 175 ?_
                      refine oq_ HT_ 73 176 (fun K hK => ?_)
                      refine goes_ Try.func8 (by kernel_rfl) rfl #[] (by rfl) rfl rfl (by (try simp only [List.map_toArray, List.map_cons, List.map_nil]); first | done | rfl | (simp only [List.length_drop, List.length_take]; rfl)) ?_
                      with_reducible refine (glebelaw11_knows.calls  t629 _ A148.out).mono ?_
                      rintro e w179 ⟨rfl, hb⟩
                      refine ⟨_, rfl, ?_⟩
                      have n0_ := Aside0.mk (Kd.R_below (br HO_9.out) hb)
                      have n1_ := Aside0.mk (Kd.R_below (br HO_11.out) hb)
                      have n2_ := Aside0.mk (Kd.R_below (br HO_17.out) hb)
                      have n3_ := Aside0.mk (Kd.R_below (br HO_538011.out) hb)
                      have n4_ := Aside0.mk (Kd.R_below (br HO_553011.out) hb)
                      have n5_ := Aside0.mk (Kd.R_below (br HO556.out) hb)
                      have n6_ := Aside0.mk (Kd.R_below (br HO562.out) hb)
                      have n7_ := Aside0.mk (Kd.R_below (br HO579.out) hb)
                      have n8_ := Aside0.mk (Kd.R_below (br HO597.out) hb)
                      have n9_ := Aside0.mk (Kd.R_below (br HO611.out) hb)
                      have n10_ := Aside0.mk (Kd.R_below (br HO627.out) hb)
                      have n11_ := Aside0.mk (blk_below (bk BK448.out) hb)
                      have n12_ := Aside0.mk (blk_below (bk BK449.out) hb)
                      have n13_ := Aside0.mk (blk_below (bk BK537.out) hb)
                      have n14_ := Aside0.mk (blk_below (bk BK552.out) hb)
                      have n15_ := Aside0.mk (below_step (q5 HB.out GE448.out GE449.out GE537.out GE552.out) hb)
                      clear HO_9
                      clear HO_11
                      clear HO_17
                      clear HO_538011
                      clear HO_553011
                      clear HO556
                      clear HO562
                      clear HO579
                      clear HO597
                      clear HO611
                      clear HO627
                      clear BK448
                      clear BK449
                      clear BK537
                      clear BK552
                      clear HB
                      have HO_9 := n0_
                      have HO_11 := n1_
                      have HO_17 := n2_
                      have HO_538011 := n3_
                      have HO_553011 := n4_
                      have HO556 := n5_
                      have HO562 := n6_
                      have HO579 := n7_
                      have HO597 := n8_
                      have HO611 := n9_
                      have HO627 := n10_
                      have BK448 := n11_
                      have BK449 := n12_
                      have BK537 := n13_
                      have BK552 := n14_
                      have HB := n15_
                      clear n0_ n1_ n2_ n3_ n4_ n5_ n6_ n7_ n8_ n9_ n10_ n11_ n12_ n13_ n14_ n15_
                      (try clear hb)
                      (try clear hb2)
                      (try clear hk)
                      (try clear hi)
                      refine hK.out _ _ ⟨bc BK448 0, bc BK448 1, bc BK448 2, bc BK448 3, bc BK448 4, bc BK448 5, bc BK448 6, bc BK448 7, bc BK448 8, bc BK448 9, bc BK448 10, bc BK448 11, bc BK449 0, bc BK449 1, bc BK449 2, bc BK449 3, bc BK449 4, bc BK449 5, bc BK449 6, bc BK449 7, bc BK449 8, bc BK449 9, bc BK449 10, bc BK449 11, bc BK552 0, bc BK552 1, bc BK552 2, bc BK552 3, bc BK552 4, bc BK552 5, bc BK552 6, bc BK552 7, bc BK552 8, bc BK552 9, bc BK552 10, bc BK552 11, (own_string (P := Try.prog) Try.underlying41 Try.underlying5 Try.underlying9 (Kd.own_of_R (br HO_9.out))), (own_string (P := Try.prog) Try.underlying41 Try.underlying5 Try.underlying9 (Kd.own_of_R (br HO_11.out)))⟩ (fun hHeld => ?_)
                      clear hK K
                      refine nq_ 176 ?_
                      refine pq_ HT_ 74 177 ?_
                      refine pq_ HT_ 75 8 ?_
                      refine done_ (done_of HT_.out (by kernel_rfl)) ?_
                      try go_wp2
                      go_ret
                      exact ⟨by first | rfl | (simp [errW_none, errW_some] <;> rfl) | (simp [*, errW_none, errW_some] <;> rfl), by exact q5 HB.out GE448.out GE449.out GE537.out GE552.out⟩
                     ·replace c147 := Bool.eq_false_iff.mpr c147
                      subst c147
                      have H1 : (none) = some r := by rw [if_neg (show ¬ (false = true) by decide)] at H; exact H
                      clear H
                      have H := H1
                      clear H1
                      exact absurd H (by simp)
                    ·rw [if_neg c144] at H
                     exact absurd H (by simp)
                   ·rw [if_neg c139] at H
                    exact absurd H (by simp)
                  ·rw [if_neg c136] at H
                   exact absurd H (by simp)
                 ·rw [if_neg c132] at H
                  exact absurd H (by simp)
                ·rw [if_neg c130] at H
                 exact absurd H (by simp)
               ·rw [if_neg c127] at H
                exact absurd H (by simp)
              ·rw [if_neg c125] at H
               exact absurd H (by simp)
             ·rw [if_neg c123] at H
              exact absurd H (by simp)
            ·rw [if_neg c120] at H
             exact absurd H (by simp)
     ·rw [if_neg c35] at H
      exact absurd H (by simp)
    ·rw [if_neg c30] at H
     exact absurd H (by simp)

end Go.Proofs.Ytampppdjfbabiaa.PE
