-- Written by a program of this session (wip/tools/hp.py) over the kit's print; nothing here is trusted: Lean checks it.
import Derived.RegionTactic
import Derived.BigRegion
import Derived.Test.YtiglmgmkablpkaaPKx0
import Derived.Test.YtiglmgmkablpkaaPKx6
namespace Go.Proofs.Ytiglmgmkablpkaa.PK
open Go.RowKit Go.Proofs.YtiglmgmkablpkaaW.PrintWords Go.Proofs.YtiglmgmkablpkaaW.PrintLast Go.Proofs.YtiglmgmkablpkaaW.PrintMore
attribute [local go_sem] max2_int min2_int max_two min_two max_three min_three max_four min_four   -- for this text's walks alone
set_option linter.unusedVariables false
set_option linter.unusedSimpArgs false

--OWN Derived.RegionTactic,Derived.BigRegion
/-! ### wire_Open: function 9 -/
def wire_Open.f (l0 : List Int) : Option Int := if l0.length < 140737488355328 then some 0 else none
set_option maxHeartbeats 2000000 in
set_option maxRecDepth 100000 in
theorem wire_Open.calls (A0 : Option Addr) (c0 : Nat) (l0 : List Int) (w : World) (hr0 : Kd.C (Kd.int .u8) w A0 l0.length l0) (hc0 : l0.length ≤ c0) (h : l0.length < 140737488355328) :
    Calls Try.prog 9 #[.slice A0 l0.length c0] w fun e w' => ∃ g A c, e = .returned (.pointer (some ⟨g, 0, none⟩)) ∧ w.heap.size ≤ g ∧ w'.heap[g]? = some (.cells #[.slice A l0.length c, .int .i64 0, .bool true] 81 (0, 0)) ∧ l0.length ≤ c ∧ Kd.C (Kd.int .u8) w' A l0.length l0 ∧ (∀ ad, A = some ad → ∃ (cells : Array Value) (fz : Nat × Nat), w'.heap[ad.block]? = some (.cells cells 5 fz)) ∧ Below w.heap.size w w' := by
  have H0 := Aside0.mk hr0
  clear hr0
  go_enter Try.func9, Try.ntmps9
  go_wp2_with fail
  refine (slices_Clone_byte_byte.calls A0 c0 l0 l0 _ H0.out hc0 (if_pos h)).mono ?_
  rintro e w1 ⟨v, rfl, hr, hb⟩
  obtain ⟨A, c, rfl⟩ := Kd.R_slice hr
  obtain ⟨_, hc, hC⟩ := Kd.R_reads' hr
  have HT : Aside0 (∀ ad, A = some ad → ∃ (cells : Array Value) (fz : Nat × Nat), w1.heap[ad.block]? = some (.cells cells 5 fz)) := ⟨fun ad e => by
    obtain ⟨inner, ho⟩ := Kd.R_own hr
    obtain ⟨cells, hx⟩ := own_typed ho ad.block (by rw [e]; simp [Value.ownBlock])
    exact ⟨cells, _, hx⟩⟩
  have HC := Aside0.mk hC
  have HB := Aside0.mk hb
  clear hr hC hb
  go_wp2
  go_ret
  refine ⟨w1.heap.size, A, c, rfl, HB.out.size, Go.heap_alloc_new _ _, hc, Kd.C_alloc HC.out _, fun ad e => ?_, below_alloc HB.out _⟩
  obtain ⟨cells, fz, hx⟩ := HT.out ad e
  have hlt := blk_lt hx
  exact ⟨cells, fz, ((below_alloc (Below.refl w1.heap.size w1) _).block _ hlt).trans hx⟩

end Go.Proofs.Ytiglmgmkablpkaa.PK
