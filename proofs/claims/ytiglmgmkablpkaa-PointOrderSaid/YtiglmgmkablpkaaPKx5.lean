-- Written by a program of this session (wip/tools/hp.py) over the kit's print; nothing here is trusted: Lean checks it.
import Derived.RegionTactic
import Derived.BigRegion
import Derived.Test.YtiglmgmkablpkaaPKx0
import Derived.Test.YtiglmgmkablpkaaPKx3
import Derived.Test.YtiglmgmkablpkaaPKx4
namespace Go.Proofs.Ytiglmgmkablpkaa.PK
open Go.RowKit Go.Proofs.YtiglmgmkablpkaaW.PrintWords Go.Proofs.YtiglmgmkablpkaaW.PrintLast Go.Proofs.YtiglmgmkablpkaaW.PrintMore
attribute [local go_sem] max2_int min2_int max_two min_two max_three min_three max_four min_four   -- for this text's walks alone
set_option linter.unusedVariables false
set_option linter.unusedSimpArgs false

--OWN Derived.RegionTactic,Derived.BigRegion
/-! ### point_bytes_text: function 55 -/
set_option maxHeartbeats 4000000 in
set_option maxRecDepth 100000 in
theorem point_bytes_text.calls (k : Nat) (B : ByteArray → List Int) (E : ByteArray → Int) (A0 : Option Addr) (c0 : Nat) (ns : List ByteArray) (g : Nat) (l : List Int) (ok : Bool) (base : Nat) (ok0 : Nat → Prop) (w0 w : World) (hI : IsWr w0 w g l ok) (hB : Below w0.heap.size w0 w) (hr : Kd.string.R 9 w base ok0 (.slice A0 ns.length c0) ns) (hN : ∀ n ∈ ns, wire_Text.f k n = some (B n, E n)) (hL : l.length + (ns.flatMap B).length ≤ 140737488355328) :
    Calls Try.prog 55 #[.pointer (some ⟨g, 0, none⟩), .slice A0 ns.length c0] w fun e w' => e = .returned (.tuple #[]) ∧ IsWr w0 w' g (l ++ ns.flatMap B) ok ∧ Below w0.heap.size w0 w' ∧ KeepT g w w' := by
  have HR := Aside0.mk hr
  have HI0 := Aside0.mk hI
  have HI := Aside0.mk (show IsWr w0 w g (l ++ (ns.take 0).flatMap B) ok by simpa using hI)
  have HB := Aside0.mk hB
  have HK := Aside0.mk (KeepT.refl g w)
  have HN := Aside0.mk hN
  have HL := Aside0.mk hL
  clear hr hI hB hN hL
  go_enter Try.func55, Try.ntmps55
  go_wp2
  go_loopw [10] (fun i wr => ∃ j : Nat, j ≤ ns.length ∧ i = .int .i64 j ∧ Aside0 (IsWr w0 wr g (l ++ (ns.take j).flatMap B) ok) ∧ Aside0 (Below w0.heap.size w0 wr) ∧ Aside0 (KeepT g w wr)) (fun i _ => ns.length - (intOf i).toNat)
  case atStart => exact ⟨0, by omega, rfl, HI, HB, HK⟩
  case round =>
    obtain ⟨j, hj, rfl, HJ, HBJ, HKJ⟩ := hrel
    clear HI HB HK
    by_cases hlt : j < ns.length
    · have hlt2 : decide ((j : Int) < ns.length) = true := decide_eq_true (by omega)
      have hlt3 : (j : Int) < ns.length := by omega
      have HRJ := Aside0.mk (HKJ.out.row HR.out (by decide) (by
        rintro k ⟨q, hq, cells, hc⟩ rfl
        obtain ⟨A, c, hb, _⟩ := HI0.out.row
        rw [hb] at hc
        injection hc with hc
        injection hc with _ hc
        subst hc
        revert hq
        decide))
      obtain ⟨ad, e1, hx⟩ := Kd.at_string (Kd.R_reads' HRJ.out).2.2 j (by omega) hlt3
      subst e1
      rw [Int.toNat_natCast] at hx
      have hf := flat_step B ns ByteArray.empty j hlt
      have HF := Aside0.mk (show l ++ (ns.take (j + 1)).flatMap B = (l ++ (ns.take j).flatMap B) ++ B (rdOf ByteArray.empty ns j) by rw [hf, List.append_assoc]; try rfl)
      have HQ := Aside0.mk (show wire_Text.f k (rdOf ByteArray.empty ns j) = some (B (rdOf ByteArray.empty ns j), E (rdOf ByteArray.empty ns j)) from HN.out _ (rdOf_mem ByteArray.empty ns j hlt))
      have HZ := Aside0.mk (show (l ++ (ns.take (j + 1)).flatMap B).length ≤ 140737488355328 by have := flat_le B ns (j + 1); have := HL.out; rw [List.length_append]; omega)
      have HZ2 := Aside0.mk (show ((l ++ (ns.take j).flatMap B).length + (B (rdOf ByteArray.empty ns j)).length) * 1 ≤ 140737488355328 by have := HZ.out; rw [HF.out, List.length_append] at this; omega)
      have hj1 : j + 1 ≤ ns.length := by omega
      clear hf HZ
      have hw : wrap64 ((j : Int) + 1) = (j : Int) + 1 := Go.IntWalk.wrap64_in _ (by have := (Kd.R_reads' HR.out).2.2.2.1; omega)
      obtain ⟨LN, hLN⟩ : ∃ x, x = l ++ (ns.take (j + 1)).flatMap B := ⟨_, rfl⟩
      rw [← hLN] at HF
      have HLN := Aside0.mk hLN
      clear hLN
      go_wp2_with fail
      refine (wire_Text.calls k (rdOf ByteArray.empty ns j) _ _ _ HQ.out).mono ?_
      rintro e wN ⟨v, rfl, ho, hb⟩
      obtain ⟨A2, c2, rfl⟩ := Kd.R_slice ho
      replace HJ := Aside0.mk (HJ.out.below hb)
      replace HBJ := Aside0.mk (below_then HBJ.out HBJ.out.size hb)
      replace HKJ := Aside0.mk (HKJ.out.trans (KeepT.of_below hb))
      have HV := Aside0.mk (Kd.R_reads' ho).2.2
      clear hb ho HRJ hx
      obtain ⟨AB, cB, hblk, hrow⟩ := HJ.out.row
      have hc0 := blk_cell hblk 0
      have HBK := Aside0.mk hblk
      have HRW := Aside0.mk hrow
      clear hblk hrow
      generalize hLL : l ++ (ns.take j).flatMap B = LL at HJ HBK HRW hc0 HF HZ2
      go_wp2_with ((with_reducible refine gate_builtin (b := .append) (xs := #[.tmp 23, .tmp 24]) rfl ?_); at_builtin; refine Kd.R_append_rows (Kd.int .u8) (w0 := w0) w0.heap.size rfl (.tmp 23) (.tmp 24) 22 5 (.int .u8 0) 1 rfl Try.underlying22 info5 rfl (by decide) (by omega) (.slice AB LL.length cB) LL (B (rdOf ByteArray.empty ns j)) _ _ _ (fun _ => True) (fun _ => False) rfl rfl ?aO ?aR (fun _ _ h => h) (fun _ h => h.elim) ?aF ?aB ?aS ?aL ?_; (case aR => exact HV.out); (case aB => exact HBJ.out); (case aF => exact (fun _ _ => trivial)); (case aO => exact HRW.out); (case aS => exact (below_size HBJ.out)); (case aL => exact HZ2.out); intro v3 w3 ho hb hg hat; rw [← HF.out] at ho; obtain ⟨A3, c3, rfl⟩ := Kd.R_slice ho; have hb3 := blk_grown HBK.out hg (Kd.R_ne HRW.out HBK.out (by decide)); have hc3 := blk_cell hb3 0; have hf3 := blk_frozen hb3 0; have HR3 := Aside0.mk ho; have HB3 := Aside0.mk hb; have HK3 := Aside0.mk (HKJ.out.trans (KeepT.of_grown HRW.out hg)); have HBL := Aside0.mk hb3; clear ho hb hg hat hb3)
      go_roundw
      case rel => exact ⟨j + 1, hj1, by first | rfl | go_num, ⟨⟨HJ.out.base, A3, c3, by rw [← HLN.out]; exact blk_put HBL.out 0 _ rfl, by rw [← HLN.out]; exact Kd.R_set HR3.out HBL.out (by decide) 0 _⟩⟩, ⟨below_set HB3.out HJ.out.base⟩, ⟨HK3.out.trans (KeepT.of_set _ _ _)⟩⟩
      case measure => (try rw [hw]); clear hw; simp [intOf]; omega
    · obtain rfl : j = ns.length := by omega
      have hlt2 : decide (((ns.length : Nat) : Int) < ns.length) = false := decide_eq_false (by omega)
      go_wp2
      have hx := HJ.out
      rw [List.take_length] at hx
      exact bodyPost_end (results_none rfl _ _ _) rfl ⟨rfl, hx, HBJ.out, HKJ.out⟩

end Go.Proofs.Ytiglmgmkablpkaa.PK
