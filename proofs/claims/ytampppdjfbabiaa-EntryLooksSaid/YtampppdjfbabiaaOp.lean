/- How an argument that is a struct of plain cells is opened, field by field (my own lemmas, over any program). -/
import Derived.Test.YtampppdjfbabiaaWWords
import Derived.WalkKit
import Derived.ProofKit
import Derived.OpenShut
import Derived.ShutString
import Derived.ChangeOld
import Derived.Below
import Derived.SizedLaws
import Derived.Deep.Slices
namespace Go.Proofs.Ytampppdjfbabiaa.Op
open Go.ChangeShapes Go.WideShapes Go.ChangeAt Go.RowKit
open Go.ChangeMaps (open_string shut_string)
section
variable {H : Type} {enc : TypeId × Value → H} {P : Program} {w : World} {base : Nat} {spare : Nat → Bool} {held : Bool}
theorem mapM_at {α β : Type} {f : α → Option β} : ∀ {l : List α} {ys : List β}, l.mapM f = some ys → ys.length = l.length ∧ ∀ (i : Nat) (a : α), l[i]? = some a → ∃ z, ys[i]? = some z ∧ f a = some z
  | [], ys, h => by
    simp at h
    subst h
    exact ⟨rfl, fun i a ha => by simp at ha⟩
  | b :: l, ys, h => by
    simp only [List.mapM_cons, Option.bind_eq_bind, Option.bind_eq_some_iff, Option.pure_def, Option.some.injEq] at h
    obtain ⟨y, hy, ys', hys, rfl⟩ := h
    obtain ⟨h1, h2⟩ := mapM_at hys
    refine ⟨by simp [h1], fun i a ha => ?_⟩
    cases i with
    | zero =>
      simp at ha
      subst ha
      exact ⟨y, by simp, hy⟩
    | succ i =>
      simp at ha
      obtain ⟨z, hz, hfz⟩ := h2 i a ha
      exact ⟨z, by simpa using hz, hfz⟩
/-- A struct's cells, field by field. -/
theorem trod_fields {t : TypeId} {fs : Array Field} {fuel : Nat} {cs : List Value} {y : DataW H × List MemPlace} (ht : P.underlying t = some (.struct fs))
    (h : DataW.trod enc P w base spare held fuel t cs = some y) :
    cs.length = P.cellsOf t ∧ ∃ n, ∃ ys : List (DataW H × List MemPlace), y.1 = .agg (ys.map (·.1)) ∧ ∀ (i : Nat) (f : Field) (k : Nat), fs.toList[i]? = some f → P.cellsOf f.type = k →
      ∃ z, ys[i]? = some z ∧ DataW.trod enc P w base spare held n f.type ((cs.drop f.offset).take k) = some z := by
  cases fuel with
  | zero => simp [DataW.trod] at h
  | succ n =>
    simp only [DataW.trod, ht] at h
    split at h
    · rename_i hl
      rw [Option.map_eq_some_iff] at h
      obtain ⟨ys, hys, hy⟩ := h
      obtain ⟨h1, h2⟩ := mapM_at hys
      refine ⟨hl, n, ys, by rw [← hy], fun i f k hf hk => ?_⟩
      obtain ⟨z, hz, hfz⟩ := h2 i f hf
      exact ⟨z, hz, by rw [← hk]; exact hfz⟩
    · simp at h
theorem agg_of {r : Reach} {b0 : Nat} {t : TypeId} {fs : Array Field} {v : Value} {d : DataW H} {p : List MemPlace} (hs : P.underlying t = some (.struct fs)) (hv : Value.okWide P w r b0 t v)
    (h : DataW.Trod enc P w base spare held t v d p) : ∃ (cs : List Value) (n : Nat), v = .agg cs.toArray ∧ DataW.trod enc P w base spare held n t cs = some (d, p) := by
  unfold Value.okWide at hv
  rw [hs] at hv
  obtain ⟨cs, rfl, hc, _⟩ := hv
  obtain ⟨n, hn⟩ := h
  exact ⟨cs.toList, n, by simp, by simpa [Value.cells] using hn⟩
/-- A field's weights are among the struct's. -/
theorem weights_field {ts : List TypeId} {ds : List (DataW H)} {j : Nat} {t : TypeId} {d : DataW H} (ht : ts[j]? = some t) (hd : ds[j]? = some d) {B : Nat}
    (h : ∀ m ∈ DataW.weightsEach P ts ds, m ≤ B) : ∀ m ∈ d.weights P t, m ≤ B := fun m hm => h m (DataW.weights_mem_each ht hd m hm)
theorem weights_agg {t : TypeId} {fs : Array Field} {ys : List (DataW H)} (ht : P.underlying t = some (.struct fs)) {B : Nat} (h : ∀ m ∈ (DataW.agg ys).weights P t, m ≤ B) : ∀ m ∈ DataW.weightsEach P (fs.toList.map (·.type)) ys, m ≤ B := by
  intro m hm
  refine h m ?_
  simp only [DataW.weights, ht]
  exact hm
theorem weights_at {t : TypeId} {fs : Array Field} {y : DataW H × List MemPlace} {ys : List (DataW H × List MemPlace)} (ht : P.underlying t = some (.struct fs)) (hy : y.1 = .agg (ys.map (·.1))) {B : Nat}
    (h : ∀ m ∈ y.1.weights P t, m ≤ B) {i : Nat} {f : Field} {z : DataW H × List MemPlace} (hf : fs.toList[i]? = some f) (hz : ys[i]? = some z) : ∀ m ∈ z.1.weights P f.type, m ≤ B := by
  rw [hy] at h
  exact weights_field (ts := fs.toList.map (·.type)) (ds := ys.map (·.1)) (j := i) (by simp only [List.getElem?_map, hf, Option.map_some]) (by simp [hz]) (weights_agg ht h)
theorem leaf_int {t : TypeId} {k : IntKind} {fuel : Nat} {c : Value} {z : DataW H × List MemPlace} (ht : P.underlying t = some (.int k)) (h : DataW.trod enc P w base spare held fuel t [c] = some z) : ∃ n, c = .int k n ∧ (Lit.int k n).wf = true := by
  obtain ⟨n, h1, _, h3⟩ := DataW.trod_int ht h
  simp at h1
  exact ⟨n, h1, h3⟩
theorem leaf_bool {t : TypeId} {fuel : Nat} {c : Value} {z : DataW H × List MemPlace} (ht : P.underlying t = some .bool) (h : DataW.trod enc P w base spare held fuel t [c] = some z) : ∃ b, c = .bool b := by
  cases fuel with
  | zero => simp [DataW.trod] at h
  | succ n =>
    simp only [DataW.trod, ht] at h
    split at h <;> simp_all
theorem leaf_string {t : TypeId} {fuel : Nat} {c : Value} {z : DataW H × List MemPlace} (ht : P.underlying t = some .string) (h : DataW.trod enc P w base spare held fuel t [c] = some z)
    (hw : ∀ m ∈ z.1.weights P t, m ≤ reachBytes) : ∃ s : ByteArray, c = .string s ∧ s.size ≤ 140737488351232 := by
  cases fuel with
  | zero => simp [DataW.trod] at h
  | succ n =>
    simp only [DataW.trod, ht] at h
    split at h <;> simp_all
    obtain ⟨_, rfl⟩ := h
    have := hw
    simp [DataW.weights] at this
    have h2 : reachBytes = 140737488351232 := by decide
    omega
end
/-! A slice of structs, element by element. -/
open Go.Proofs.YtampppdjfbabiaaW.PrintWords
section
variable {H : Type} {enc : TypeId × Value → H} {P : Program} {w : World}
theorem weightsAll_mem {e : TypeId} : ∀ {l : List (DataW H)} {d : DataW H}, d ∈ l → ∀ n ∈ d.weights P e, n ∈ DataW.weightsAll P e l
  | x :: l, d, h, n, hn => by
    simp only [DataW.weightsAll, List.mem_append]
    rcases List.mem_cons.1 h with rfl | h
    · exact .inl hn
    · exact .inr (weightsAll_mem h n hn)
theorem open_rows {α : Type} {d : Kd α} {good : α → Prop} {t e : TypeId} {fuel B : Nat} {A : Option Addr} {len cap : Nat} {x : DataW H × List MemPlace} (ht : P.underlying t = some (.slice e)) (hs : P.cellsOf e = d.sz)
    (hP : ∀ n cs y, DataW.trod enc P w 0 (fun _ => true) true n e cs = some y → (∀ m ∈ y.1.weights P e, m ≤ B) → ∃ z, d.K w z cs ∧ good z)
    (h : DataW.trod enc P w 0 (fun _ => true) true fuel t [.slice A len cap] = some x) (hw : ∀ m ∈ x.1.weights P t, m ≤ B) :
    ∃ xs : List α, d.C w A xs.length xs ∧ len = xs.length ∧ xs.length ≤ cap ∧ xs.length * P.bytesOf e ≤ B ∧ ∀ z ∈ xs, good z := by
  rcases Deep.open_slice ht h with ⟨hc, _⟩ | ⟨a, l, c, m, n, D, Pl, hc, _, hl, hm, hmm, rfl, hx⟩
  · simp only [List.cons.injEq, Value.slice.injEq, and_true] at hc
    obtain ⟨rfl, rfl, rfl⟩ := hc
    exact ⟨[], ⟨rfl, by simp, fun hp => absurd hp (by simp)⟩, rfl, Nat.le_refl _, by simp, fun z hz => by cases hz⟩
  · simp only [List.cons.injEq, Value.slice.injEq, and_true] at hc
    obtain ⟨rfl, rfl, rfl⟩ := hc
    simp only [if_true] at hmm
    subst hmm
    have hmax : maxLen = 9223372036854775807 := by decide
    have hD : ∀ i, i < len → ∀ q ∈ (D i).weights P e, q ≤ B := by
      intro i hi q hq
      refine hw q ?_
      simp only [DataW.weights, ht]
      refine List.mem_cons_of_mem _ (List.mem_append_left _ (weightsAll_mem (d := D i) ?_ q hq))
      exact List.mem_map.2 ⟨i, List.mem_range.2 hi, rfl⟩
    have each : ∀ i : Fin len, ∃ z, good z ∧ ∃ cs, d.K w z cs ∧ w.cells? 0 (a.add (i.1 * P.cellsOf e)) (P.cellsOf e) = some cs := by
      intro i
      obtain ⟨cs, h1, h2⟩ := hx i.1 (by omega)
      obtain ⟨z, hz1, hz2⟩ := hP n cs _ h2 (hD i.1 i.2)
      exact ⟨z, hz2, cs, hz1, h1⟩
    obtain ⟨f, hf⟩ := Classical.axiomOfChoice each
    have hlen : (List.ofFn f).length = len := List.length_ofFn
    refine ⟨List.ofFn f, ⟨rfl, by omega, fun _ => ⟨a, rfl, fun j p hj => ?_⟩⟩, hlen.symm, by omega, ?_, fun z hz => ?_⟩
    · have hjl : j < len := by
        rcases Nat.lt_or_ge j len with q | q
        · exact q
        · rw [List.getElem?_eq_none (by omega)] at hj
          cases hj
      rw [List.getElem?_eq_getElem (by omega), List.getElem_ofFn] at hj
      obtain rfl := Option.some.inj hj
      obtain ⟨_, cs, h1, h2⟩ := hf ⟨j, hjl⟩
      obtain ⟨_, hlen, hcell⟩ := World.cells?_some h2
      rw [hs] at hlen hcell
      refine ⟨cs, hlen, h1, fun i u hi => ?_⟩
      have hil : i < d.sz := by
        rcases Nat.lt_or_ge i cs.length with q | q
        · omega
        · rw [List.getElem?_eq_none (by omega)] at hi
          cases hi
      have := hcell i (by omega)
      rw [Deep.add_add] at this
      rw [this]
      exact hi
    · have h1 := hw ((len + (m - len)) * P.bytesOf e) (by simp [DataW.weights, ht])
      rw [hlen]
      exact Nat.le_trans (Nat.mul_le_mul_right _ (by omega)) h1
    · obtain ⟨i, rfl⟩ := List.mem_ofFn.1 hz
      exact (hf i).1
end
end Go.Proofs.Ytampppdjfbabiaa.Op
