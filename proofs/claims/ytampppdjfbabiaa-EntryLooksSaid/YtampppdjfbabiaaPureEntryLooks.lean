/- EntryLooks: what the program tells of entries and chains is what the document tells. -/
import Derived.Test.YtampppdjfbabiaaEntLooks
import Derived.Test.YtampppdjfbabiaaPEx4
import Derived.Test.YtampppdjfbabiaaStEntryLooks
namespace Go.Proofs.Ytampppdjfbabiaa.PE
open Go.RowKit Go.Proofs.YtampppdjfbabiaaW.PrintWords Go.Proofs.YtampppdjfbabiaaW.PrintLast Go.Proofs.YtampppdjfbabiaaW.PrintMore
set_option linter.unusedVariables false
set_option linter.unusedSimpArgs false
theorem looks_tail (a b c : ERow) (l2 X Y : List Int) (er f : Int) (bR xs : Bool) (ha : a.ch.length ≤ 40) (hb : b.ch.length ≤ 40)
    (p1 : entry_Right.f 100 a.k a.o0 a.o1 a.o2 a.o3 a.o4 a.o5 a.o6 a.n a.ep a.by_ a.ch = some bR) (p2 : gleberef11_Right.f 100 a.k a.o0 a.o1 a.o2 a.o3 a.o4 a.o5 a.o6 a.n a.ep a.by_ a.ch = some bR) (p3 : gleberef11_Put.f 100 a.k a.o0 a.o1 a.o2 a.o3 a.o4 a.o5 a.o6 a.n a.ep a.by_ a.ch = some X) (p4 : gleberef11_PutChain.f 100 l2 = some Y)
    (he : er = if bR then 0 else 1) (hf : f = if ChainOk l2 then 0 else 1) (q1 : entry_Same.f 100 a.k a.o0 a.o1 a.o2 a.o3 a.o4 a.o5 a.o6 a.n a.ep a.by_ a.ch b.k b.o0 b.o1 b.o2 b.o3 b.o4 b.o5 b.o6 b.n b.ep b.by_ b.ch = some xs) (q2 : gleberef11_Same.f 100 a.k a.o0 a.o1 a.o2 a.o3 a.o4 a.o5 a.o6 a.n a.ep a.by_ a.ch b.k b.o0 b.o1 b.o2 b.o3 b.o4 b.o5 b.o6 b.n b.ep b.by_ b.ch = some xs) (q3 : gleberef11_Same.f 100 a.k a.o0 a.o1 a.o2 a.o3 a.o4 a.o5 a.o6 a.n a.ep a.by_ a.ch a.k a.o0 a.o1 a.o2 a.o3 a.o4 a.o5 a.o6 a.n a.ep a.by_ a.ch = some true)
    (k : Nat) (hk : 100 ≤ k) : glebelaw11_EntryLooks.l0 (k + 1) l2 X er Y f l2 (c.ch.length : Int) a.k a.o0 a.o1 a.o2 a.o3 a.o4 a.o5 a.o6 a.n a.ep a.by_ a.ch b.k b.o0 b.o1 b.o2 b.o3 b.o4 b.o5 b.o6 b.n b.ep b.by_ b.ch c.k c.o0 c.o1 c.o2 c.o3 c.o4 c.o5 c.o6 c.n c.ep c.by_ c.ch a.k a.o0 a.o1 a.o2 a.o3 a.o4 a.o5 a.o6 a.n a.ep a.by_ a.ch = some true := by
  have g1 : entry_Right.f k a.k a.o0 a.o1 a.o2 a.o3 a.o4 a.o5 a.o6 a.n a.ep a.by_ a.ch = some bR := up (fun k => entry_Right.mono _ _ _ _ _ _ _ _ _ _ _ _ k) p1 hk
  have g2 : gleberef11_Right.f k a.k a.o0 a.o1 a.o2 a.o3 a.o4 a.o5 a.o6 a.n a.ep a.by_ a.ch = some bR := up (fun k => gleberef11_Right.mono _ _ _ _ _ _ _ _ _ _ _ _ k) p2 hk
  have g3 : gleberef11_Put.f k a.k a.o0 a.o1 a.o2 a.o3 a.o4 a.o5 a.o6 a.n a.ep a.by_ a.ch = some X := up (fun k => gleberef11_Put.mono _ _ _ _ _ _ _ _ _ _ _ _ k) p3 hk
  have g4 : gleberef11_PutChain.f k l2 = some Y := up (fun k => gleberef11_PutChain.mono _ k) p4 hk
  have g5 : entry_Same.f k a.k a.o0 a.o1 a.o2 a.o3 a.o4 a.o5 a.o6 a.n a.ep a.by_ a.ch b.k b.o0 b.o1 b.o2 b.o3 b.o4 b.o5 b.o6 b.n b.ep b.by_ b.ch = some xs := up (fun k => entry_Same.mono _ _ _ _ _ _ _ _ _ _ _ _ _ _ _ _ _ _ _ _ _ _ _ _ k) q1 hk
  have g6 : gleberef11_Same.f k a.k a.o0 a.o1 a.o2 a.o3 a.o4 a.o5 a.o6 a.n a.ep a.by_ a.ch b.k b.o0 b.o1 b.o2 b.o3 b.o4 b.o5 b.o6 b.n b.ep b.by_ b.ch = some xs := up (fun k => gleberef11_Same.mono _ _ _ _ _ _ _ _ _ _ _ _ _ _ _ _ _ _ _ _ _ _ _ _ k) q2 hk
  have g7 : gleberef11_Same.f k a.k a.o0 a.o1 a.o2 a.o3 a.o4 a.o5 a.o6 a.n a.ep a.by_ a.ch a.k a.o0 a.o1 a.o2 a.o3 a.o4 a.o5 a.o6 a.n a.ep a.by_ a.ch = some true := up (fun k => gleberef11_Same.mono _ _ _ _ _ _ _ _ _ _ _ _ _ _ _ _ _ _ _ _ _ _ _ _ k) q3 hk
  have e1 : ((er == 0) == bR) = true := by rw [he]; cases bR <;> rfl
  have e2 : er ≤ 1 := by rw [he]; split <;> decide
  have e3 : ((f == 0) == decide (ChainOk l2)) = true := by
    rw [hf]
    by_cases hc : ChainOk l2
    · rw [if_pos hc, decide_eq_true hc]; rfl
    · rw [if_neg hc, decide_eq_false hc]; rfl
  have e4 : f ≤ 1 := by rw [hf]; split <;> decide
  rw [glebelaw11_EntryLooks.l0, if_neg (by omega), g3, Option.bind_some, if_pos rfl]
  unfold glebelaw11_num.f
  simp only [Option.bind_some]
  rw [g2, Option.bind_some, if_pos e1, if_pos e2, g4, Option.bind_some, if_pos rfl, rch_eq, Option.bind_some, if_pos e3, if_pos e4, own_eq (by omega), Option.bind_some]
  dsimp only
  rw [g1, Option.bind_some, Option.bind_some, if_pos (beq_self_eq_true _), chain_eq, Option.bind_some, Option.bind_some, if_pos (beq_self_eq_true _), Option.bind_some, own_eq (by omega), Option.bind_some]
  dsimp only
  rw [g5, Option.bind_some, g6, Option.bind_some, if_pos (beq_self_eq_true _), eref_eq (by omega), Option.bind_some]
  dsimp only
  rw [g7, Option.bind_some, if_pos rfl]
  rfl
theorem looks_loop (a b d : ERow) (l2 X Y : List Int) (er f : Int) : ∀ (m i k : Nat) (c : ERow), i + m = c.ch.length → c.ch.length ≤ 1000 → ∃ c2 : ERow, c2.ch.length = c.ch.length ∧ glebelaw11_EntryLooks.l0 (k + m) l2 X er Y f l2 (i : Int) a.k a.o0 a.o1 a.o2 a.o3 a.o4 a.o5 a.o6 a.n a.ep a.by_ a.ch b.k b.o0 b.o1 b.o2 b.o3 b.o4 b.o5 b.o6 b.n b.ep b.by_ b.ch c.k c.o0 c.o1 c.o2 c.o3 c.o4 c.o5 c.o6 c.n c.ep c.by_ c.ch d.k d.o0 d.o1 d.o2 d.o3 d.o4 d.o5 d.o6 d.n d.ep d.by_ d.ch = glebelaw11_EntryLooks.l0 k l2 X er Y f l2 (c2.ch.length : Int) a.k a.o0 a.o1 a.o2 a.o3 a.o4 a.o5 a.o6 a.n a.ep a.by_ a.ch b.k b.o0 b.o1 b.o2 b.o3 b.o4 b.o5 b.o6 b.n b.ep b.by_ b.ch c2.k c2.o0 c2.o1 c2.o2 c2.o3 c2.o4 c2.o5 c2.o6 c2.n c2.ep c2.by_ c2.ch d.k d.o0 d.o1 d.o2 d.o3 d.o4 d.o5 d.o6 d.n d.ep d.by_ d.ch := by
  intro m
  induction m with
  | zero =>
    intro i k c h _
    refine ⟨c, rfl, ?_⟩
    rw [← h]
    rfl
  | succ m ih =>
    intro i k c h hi
    obtain ⟨c2, h1, h2⟩ := ih (i + 1) k ⟨c.k, c.o0, c.o1, c.o2, c.o3, c.o4, c.o5, c.o6, c.n, c.ep, c.by_, c.ch.set ((i : Nat) : Int).toNat 99⟩ (by dsimp only; rw [List.length_set]; omega) (by dsimp only; rw [List.length_set]; omega)
    refine ⟨c2, by rw [h1]; dsimp only; rw [List.length_set], ?_⟩
    rw [← h2, show k + (m + 1) = (k + m) + 1 from rfl, glebelaw11_EntryLooks.l0, if_pos (by omega), if_pos (by omega), w_succ i (by omega)]
theorem looks_all (a b : ERow) (l2 : List Int) (n : Int) (ha : a.ch.length ≤ 40) (hb : b.ch.length ≤ 40) (hl : l2.length ≤ 40) : glebelaw11_EntryLooks.j0 300 l2 n false a.k a.o0 a.o1 a.o2 a.o3 a.o4 a.o5 a.o6 a.n a.ep a.by_ a.ch b.k b.o0 b.o1 b.o2 b.o3 b.o4 b.o5 b.o6 b.n b.ep b.by_ b.ch = some true := by
  obtain ⟨bR, p1, hR⟩ := eright_facts a (by omega)
  obtain ⟨bS, p1', p2⟩ := eright_both 100 (by decide) (by decide) a.k a.o0 a.o1 a.o2 a.o3 a.o4 a.o5 a.o6 a.n a.ep a.by_ a.ch ha
  obtain rfl : bS = bR := by rw [p1] at p1'; exact (Option.some.inj p1').symm
  have pe := eput_eq a (by omega) p1 hR
  have p3 := rput_eq a ha p2 hR
  have p4 := rputchain_eq (l := l2) (by omega)
  have pc := putchain_eq (l := l2) (by omega)
  obtain ⟨P, Q, hp, hq, hP, hQ⟩ := heirs_both a ha p1 p2 hR
  obtain ⟨xs, q1, q2⟩ := same_both a b ha
  have q3 := rsame_self a (by omega)
  have h299 : 100 ≤ 299 := by decide
  have u1 : entry_Put.f 299 a.k a.o0 a.o1 a.o2 a.o3 a.o4 a.o5 a.o6 a.n a.ep a.by_ a.ch = _ := up (fun k => entry_Put.mono _ _ _ _ _ _ _ _ _ _ _ _ k) pe h299
  have u2 : entry_PutChain.f 299 l2 = _ := up (fun k => entry_PutChain.mono _ k) pc h299
  have u3 : entry_Heirs.f 299 a.k a.o0 a.o1 a.o2 a.o3 a.o4 a.o5 a.o6 a.n a.ep a.by_ a.ch = _ := up (fun k => entry_Heirs.mono _ _ _ _ _ _ _ _ _ _ _ _ k) hp h299
  have u4 : gleberef11_Heirs.f 299 a.k a.o0 a.o1 a.o2 a.o3 a.o4 a.o5 a.o6 a.n a.ep a.by_ a.ch = _ := up (fun k => gleberef11_Heirs.mono _ _ _ _ _ _ _ _ _ _ _ _ k) hq h299
  have s1 : ∀ x : List Int, x.length ≤ 60 → gleberef11_SameList.f 299 x x = some true := fun x hx => (samel_eq (by omega) (by decide)).trans (by rw [decide_eq_true rfl])
  have hw : (l2.filter (· != n)).length ≤ 40 := Nat.le_trans (List.length_filter_le _ _) hl
  have hz : ([] : List Int).length + l2.length < 17592186044416 := by simp; omega
  rw [glebelaw11_EntryLooks.j0, if_neg (by decide), own_eq (by omega), Option.bind_some]
  dsimp only
  rw [u1, Option.bind_some, Option.bind_some, if_pos hz, List.nil_append, u2, Option.bind_some, Option.bind_some]
  dsimp only
  rw [u3, Option.bind_some, u4, Option.bind_some, Option.bind_some, if_pos hz, List.nil_append, Option.bind_some]
  dsimp only
  rw [without_eq (by omega), Option.bind_some, rwithout_eq (by omega) (by decide), Option.bind_some, s1 (l2.filter (· != n)) (by omega), Option.bind_some, if_pos rfl, s1 l2 (by omega), Option.bind_some, if_pos rfl, s1 P (by omega), Option.bind_some, if_pos rfl, s1 Q (by omega), Option.bind_some]
  show glebelaw11_EntryLooks.j1 (298 + 1) _ _ _ _ _ _ _ _ _ _ _ _ _ _ _ _ _ _ _ _ _ _ _ _ _ _ _ _ _ _ _ = _
  rw [glebelaw11_EntryLooks.j1, if_neg (by decide), own_eq (by omega), Option.bind_some]
  dsimp only
  rw [eclone_eq (by omega), Option.bind_some]
  dsimp only
  obtain ⟨c2, h1, h2⟩ := looks_loop a b a l2 (if bS = true then eBytes a else []) (if ChainOk l2 then chB l2 else []) (if bS = true then 0 else 1) (if ChainOk l2 then 0 else 1) a.ch.length 0 (298 - a.ch.length) a (by omega) (by omega)
  rw [show 298 - a.ch.length + a.ch.length = 298 by omega, show ((0 : Nat) : Int) = 0 from rfl] at h2
  rw [h2, show 298 - a.ch.length = (297 - a.ch.length) + 1 by omega]
  exact looks_tail a b c2 l2 _ _ _ _ bS xs ha hb p1 p2 p3 p4 rfl rfl q1 q2 q3 (297 - a.ch.length) (by omega)
theorem looks_pure (a b : ERow) (l2 : List Int) (n : Int) : ∃ k, glebelaw11_EntryLooks.f k a.k a.o0 a.o1 a.o2 a.o3 a.o4 a.o5 a.o6 a.n a.ep a.by_ a.ch b.k b.o0 b.o1 b.o2 b.o3 b.o4 b.o5 b.o6 b.n b.ep b.by_ b.ch l2 n = some true := by
  refine ⟨300, ?_⟩
  have kn : ∀ n : Int, glebelaw11_EntryLooks.j0 300 l2 n true a.k a.o0 a.o1 a.o2 a.o3 a.o4 a.o5 a.o6 a.n a.ep a.by_ a.ch b.k b.o0 b.o1 b.o2 b.o3 b.o4 b.o5 b.o6 b.n b.ep b.by_ b.ch = some true := fun n => by
    show glebelaw11_EntryLooks.j0 (299 + 1) _ _ _ _ _ _ _ _ _ _ _ _ _ _ _ _ _ _ _ _ _ _ _ _ _ _ _ = _
    rw [glebelaw11_EntryLooks.j0, if_pos rfl]
    rfl
  have lt : ∀ r : ERow, ∃ x, glebelaw11_light.f r.k r.o0 r.o1 r.o2 r.o3 r.o4 r.o5 r.o6 r.n r.ep r.by_ r.ch = some x ∧ (x = true → r.ch.length ≤ 40) := fun r => by
    unfold glebelaw11_light.f
    split
    · exact ⟨_, rfl, fun h => by have := of_decide_eq_true h; omega⟩
    · exact ⟨_, rfl, fun h => by simp at h⟩
  obtain ⟨x, hx, hxa⟩ := lt a
  obtain ⟨y, hy, hyb⟩ := lt b
  unfold glebelaw11_EntryLooks.f
  rw [hx, Option.bind_some]
  cases x
  · rw [if_neg (by decide)]
    exact kn n
  rw [if_pos rfl, hy, Option.bind_some]
  cases y
  · rw [if_neg (by decide)]
    exact kn n
  rw [if_pos rfl]
  by_cases hl : (l2.length : Int) > 40
  · rw [decide_eq_true hl]
    exact kn n
  · rw [decide_eq_false hl]
    exact looks_all a b l2 n (hxa rfl) (hyb rfl) (by omega)
theorem entryLooks_pure : EntryLooks_Pure := by
  intro a0 a1 a2 a3 a4 a5 a6 a7 a8 a9 a10 al b0 b1 b2 b3 b4 b5 b6 b7 b8 b9 b10 bl l2 n _ _ _ _ _ _ _ _ _ _ _ _ _ _ _ _ _ _ _ _ _ _ _ _ _ _ _
  exact looks_pure ⟨a0, a1, a2, a3, a4, a5, a6, a7, a8, a9, a10, al⟩ ⟨b0, b1, b2, b3, b4, b5, b6, b7, b8, b9, b10, bl⟩ l2 n
end Go.Proofs.Ytampppdjfbabiaa.PE
namespace Go.Proofs.Ytampppdjfbabiaa.Pure
theorem EntryLooks : Go.Proofs.Ytampppdjfbabiaa.PE.EntryLooks_Pure := Go.Proofs.Ytampppdjfbabiaa.PE.entryLooks_pure
end Go.Proofs.Ytampppdjfbabiaa.Pure
