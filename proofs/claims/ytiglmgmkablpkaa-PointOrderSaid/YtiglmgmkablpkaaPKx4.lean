-- Written by a program of this session (wip/tools/hp.py) over the kit's print; nothing here is trusted: Lean checks it.
import Derived.RegionTactic
import Derived.BigRegion
import Derived.Test.YtiglmgmkablpkaaPKx0
import Derived.Test.YtiglmgmkablpkaaPKx2
namespace Go.Proofs.Ytiglmgmkablpkaa.PK
open Go.RowKit Go.Proofs.YtiglmgmkablpkaaW.PrintWords Go.Proofs.YtiglmgmkablpkaaW.PrintLast Go.Proofs.YtiglmgmkablpkaaW.PrintMore
attribute [local go_sem] max2_int min2_int max_two min_two max_three min_three max_four min_four   -- for this text's walks alone
set_option linter.unusedVariables false
set_option linter.unusedSimpArgs false

--OWN Derived.RegionTactic,Derived.BigRegion
/-! ### point_bytes_num: function 54 -/
/-- A writer at block g: its bytes, and whether what it writes may be. -/
structure IsWr (w0 w : World) (g : Nat) (l : List Int) (ok : Bool) : Prop where
  base : w0.heap.size ≤ g
  row : ∃ A c, w.heap[g]? = some (.cells #[.slice A l.length c, .bool ok] 92 (0, 0)) ∧ (Kd.int .u8).R 5 w w0.heap.size (fun _ => True) (.slice A l.length c) l
/-- All blocks that hold no bytes stay, but one. -/
def KeepT (g : Nat) (w w' : World) : Prop := w.heap.size ≤ w'.heap.size ∧ ∀ (k : Nat) (cs : Array Value) (t : TypeId) (fz : Nat × Nat), w.heap[k]? = some (.cells cs t fz) → t ≠ 5 → k ≠ g → w'.heap[k]? = some (.cells cs t fz)
theorem KeepT.refl (g : Nat) (w : World) : KeepT g w w := ⟨Nat.le_refl _, fun _ _ _ _ h _ _ => h⟩
theorem KeepT.trans {g : Nat} {w w1 w2 : World} (h : KeepT g w w1) (k : KeepT g w1 w2) : KeepT g w w2 := ⟨Nat.le_trans h.1 k.1, fun i cs t fz hi ht hg => k.2 i cs t fz (h.2 i cs t fz hi ht hg) ht hg⟩
theorem KeepT.of_below {g : Nat} {w w1 : World} (h : Below w.heap.size w w1) : KeepT g w w1 := ⟨h.size, fun k _ _ _ hk _ _ => (h.block k (blk_lt hk)).trans hk⟩
theorem KeepT.of_grown {g : Nat} {w w1 : World} {v : Value} {base : Nat} {ok : Nat → Prop} {xs : List Int} (hr : (Kd.int .u8).R 5 w base ok v xs) (h : w.grownBy w1 v.ownBlock) : KeepT g w w1 := ⟨h.size, fun k cs t fz hk ht _ => (h.block k (blk_lt hk) (fun e => by
  obtain ⟨cells, hx⟩ := Kd.R_typed hr k e.symm
  rw [hx] at hk
  injection hk with hk
  injection hk with _ hk
  exact ht hk.symm)).trans hk⟩
theorem KeepT.of_set {g : Nat} (w : World) (j : Nat) (u : Value) : KeepT g w (w.setCell ⟨g, j, none⟩ u) := ⟨(KeepBut.refl w g none |>.set_ j u).1, fun k _ _ _ hk _ hg => (Below.heap_setCell w ⟨g, j, none⟩ u k hg).trans hk⟩
theorem IsWr.lt {w0 w : World} {g : Nat} {l : List Int} {ok : Bool} (h : IsWr w0 w g l ok) : g < w.heap.size := by
  obtain ⟨A, c, hb, _⟩ := h.row
  exact blk_lt hb
theorem IsWr.below {w0 w w1 : World} {g : Nat} {l : List Int} {ok : Bool} (h : IsWr w0 w g l ok) (hb : Below w.heap.size w w1) : IsWr w0 w1 g l ok := by
  obtain ⟨A, c, h1, h2⟩ := h.row
  exact ⟨h.base, A, c, blk_below h1 hb, Kd.R_below h2 hb⟩
theorem IsWr.drew {w0 w : World} {g : Nat} {l : List Int} {ok : Bool} (h : IsWr w0 w g l ok) : IsWr w0 w.drew g l ok := h.below (below_drew (Below.refl _ _))
/-- A row of another type stays. -/
theorem KeepT.row {α : Type} {d : Kd α} {e base : Nat} {ok : Nat → Prop} {g : Nat} {w w1 : World} {v : Value} {xs : List α} (h : KeepT g w w1) (hr : d.R e w base ok v xs) (h5 : ∀ q, q ∈ e :: d.E → q ≠ 5) (hg : ∀ k, (∃ q, q ∈ e :: d.E ∧ ∃ cells, w.heap[k]? = some (.cells cells q (0, 0))) → k ≠ g) : d.R e w1 base ok v xs :=
  Kd.R_mono (Kd.R_move (Kd.R_bound hr) (fun k hk => by
    obtain ⟨_, _, _, q, hq, cells, hc⟩ := hk
    rw [hc]
    exact h.2 k _ _ _ hc (h5 q hq) (hg k ⟨q, hq, cells, hc⟩))) (fun _ hk => hk.1)
theorem flat_step {α : Type} (B : α → List Int) (ns : List α) (d : α) (j : Nat) (h : j < ns.length) : (ns.take (j + 1)).flatMap B = (ns.take j).flatMap B ++ B (rdOf d ns j) := by
  rw [← List.take_append_getElem h, List.flatMap_append]
  congr 1
  unfold rdOf
  simp [List.getD, h]
theorem flat_le {α : Type} (B : α → List Int) (ns : List α) (j : Nat) : ((ns.take j).flatMap B).length ≤ (ns.flatMap B).length := by
  have h : ns.flatMap B = (ns.take j).flatMap B ++ (ns.drop j).flatMap B := by rw [← List.flatMap_append, List.take_append_drop]
  rw [h, List.length_append]
  omega
theorem rdOf_mem {α : Type} (d : α) (ns : List α) (j : Nat) (h : j < ns.length) : rdOf d ns j ∈ ns := by
  unfold rdOf
  simp [List.getD, h]
set_option maxHeartbeats 4000000 in
set_option maxRecDepth 100000 in
theorem point_bytes_num.calls (k : Nat) (B : Int → List Int) (E : Int → Int) (A0 : Option Addr) (c0 : Nat) (ns : List Int) (g : Nat) (l : List Int) (ok : Bool) (base : Nat) (ok0 : Nat → Prop) (w0 w : World) (hI : IsWr w0 w g l ok) (hB : Below w0.heap.size w0 w) (hr : (Kd.int .i64).R 3 w base ok0 (.slice A0 ns.length c0) ns) (hN : ∀ n ∈ ns, wire_Num.f k n = some (B n, E n)) (hL : l.length + (ns.flatMap B).length ≤ 140737488355328) :
    Calls Try.prog 54 #[.pointer (some ⟨g, 0, none⟩), .slice A0 ns.length c0] w fun e w' => e = .returned (.tuple #[]) ∧ IsWr w0 w' g (l ++ ns.flatMap B) ok ∧ Below w0.heap.size w0 w' ∧ KeepT g w w' := by
  have HR := Aside0.mk hr
  have HI0 := Aside0.mk hI
  have HI := Aside0.mk (show IsWr w0 w g (l ++ (ns.take 0).flatMap B) ok by simpa using hI)
  have HB := Aside0.mk hB
  have HK := Aside0.mk (KeepT.refl g w)
  have HN := Aside0.mk hN
  have HL := Aside0.mk hL
  clear hr hI hB hN hL
  go_enter Try.func54, Try.ntmps54
  go_wp2
  go_loopw [10] (fun i wr => ∃ j : Nat, j ≤ ns.length ∧ i = .int .i64 j ∧ Aside0 (IsWr w0 wr g (l ++ (ns.take j).flatMap B) ok) ∧ Aside0 (Below w0.heap.size w0 wr) ∧ Aside0 (KeepT g w wr)) (fun i _ => ns.length - (intOf i).toNat)
  case atStart => exact ⟨0, by omega, rfl, HI, HB, HK⟩
  case round =>
    obtain ⟨j, hj, rfl, HJ, HBJ, HKJ⟩ := hrel
    clear HI HB HK
    by_cases hlt : j < ns.length
    · have hlt2 : decide ((j : Int) < ns.length) = true := decide_eq_true (by omega)
      have hlt3 : (j : Int) < ns.length := by omega
      have HRJ := Aside0.mk (HKJ.out.row HR.out (by decide) (by
        rintro k ⟨q, hq, cells, hc⟩ rfl
        obtain ⟨A, c, hb, _⟩ := HI0.out.row
        rw [hb] at hc
        injection hc with hc
        injection hc with _ hc
        subst hc
        revert hq
        decide))
      obtain ⟨ad, e1, hx⟩ := Kd.at_int (Kd.R_reads' HRJ.out).2.2 j (by omega) hlt3
      subst e1
      rw [Int.toNat_natCast] at hx
      have hf := flat_step B ns (0 : Int) j hlt
      have HF := Aside0.mk (show l ++ (ns.take (j + 1)).flatMap B = (l ++ (ns.take j).flatMap B) ++ B (rd ns j) by rw [hf, List.append_assoc]; try rfl)
      have HQ := Aside0.mk (show wire_Num.f k (rd ns j) = some (B (rd ns j), E (rd ns j)) from HN.out _ (rdOf_mem (0 : Int) ns j hlt))
      have HZ := Aside0.mk (show (l ++ (ns.take (j + 1)).flatMap B).length ≤ 140737488355328 by have := flat_le B ns (j + 1); have := HL.out; rw [List.length_append]; omega)
      have HZ2 := Aside0.mk (show ((l ++ (ns.take j).flatMap B).length + (B (rd ns j)).length) * 1 ≤ 140737488355328 by have := HZ.out; rw [HF.out, List.length_append] at this; omega)
      have hj1 : j + 1 ≤ ns.length := by omega
      clear hf HZ
      have hw : wrap64 ((j : Int) + 1) = (j : Int) + 1 := Go.IntWalk.wrap64_in _ (by have := (Kd.R_reads' HR.out).2.2.2.1; omega)
      obtain ⟨LN, hLN⟩ : ∃ x, x = l ++ (ns.take (j + 1)).flatMap B := ⟨_, rfl⟩
      rw [← hLN] at HF
      have HLN := Aside0.mk hLN
      clear hLN
      go_wp2_with fail
      refine (wire_Num.calls k (rd ns j) _ _ _ HQ.out).mono ?_
      rintro e wN ⟨v, rfl, ho, hb⟩
      obtain ⟨A2, c2, rfl⟩ := Kd.R_slice ho
      replace HJ := Aside0.mk (HJ.out.below hb)
      replace HBJ := Aside0.mk (below_then HBJ.out HBJ.out.size hb)
      replace HKJ := Aside0.mk (HKJ.out.trans (KeepT.of_below hb))
      have HV := Aside0.mk (Kd.R_reads' ho).2.2
      clear hb ho HRJ hx
      obtain ⟨AB, cB, hblk, hrow⟩ := HJ.out.row
      have hc0 := blk_cell hblk 0
      have HBK := Aside0.mk hblk
      have HRW := Aside0.mk hrow
      clear hblk hrow
      generalize hLL : l ++ (ns.take j).flatMap B = LL at HJ HBK HRW hc0 HF HZ2
      go_wp2_with ((with_reducible refine gate_builtin (b := .append) (xs := #[.tmp 23, .tmp 24]) rfl ?_); at_builtin; refine Kd.R_append_rows (Kd.int .u8) (w0 := w0) w0.heap.size rfl (.tmp 23) (.tmp 24) 22 5 (.int .u8 0) 1 rfl Try.underlying22 info5 rfl (by decide) (by omega) (.slice AB LL.length cB) LL (B (rd ns j)) _ _ _ (fun _ => True) (fun _ => False) rfl rfl ?aO ?aR (fun _ _ h => h) (fun _ h => h.elim) ?aF ?aB ?aS ?aL ?_; (case aR => exact HV.out); (case aB => exact HBJ.out); (case aF => exact (fun _ _ => trivial)); (case aO => exact HRW.out); (case aS => exact (below_size HBJ.out)); (case aL => exact HZ2.out); intro v3 w3 ho hb hg hat; rw [← HF.out] at ho; obtain ⟨A3, c3, rfl⟩ := Kd.R_slice ho; have hb3 := blk_grown HBK.out hg (Kd.R_ne HRW.out HBK.out (by decide)); have hc3 := blk_cell hb3 0; have hf3 := blk_frozen hb3 0; have HR3 := Aside0.mk ho; have HB3 := Aside0.mk hb; have HK3 := Aside0.mk (HKJ.out.trans (KeepT.of_grown HRW.out hg)); have HBL := Aside0.mk hb3; clear ho hb hg hat hb3)
      go_roundw
      case rel => exact ⟨j + 1, hj1, by first | rfl | go_num, ⟨⟨HJ.out.base, A3, c3, by rw [← HLN.out]; exact blk_put HBL.out 0 _ rfl, by rw [← HLN.out]; exact Kd.R_set HR3.out HBL.out (by decide) 0 _⟩⟩, ⟨below_set HB3.out HJ.out.base⟩, ⟨HK3.out.trans (KeepT.of_set _ _ _)⟩⟩
      case measure => (try rw [hw]); clear hw; simp [intOf]; omega
    · obtain rfl : j = ns.length := by omega
      have hlt2 : decide (((ns.length : Nat) : Int) < ns.length) = false := decide_eq_false (by omega)
      go_wp2
      have hx := HJ.out
      rw [List.take_length] at hx
      exact bodyPost_end (results_none rfl _ _ _) rfl ⟨rfl, hx, HBJ.out, HKJ.out⟩

end Go.Proofs.Ytiglmgmkablpkaa.PK
