/- Data that a call is handed, opened by its type: as lists, pairs, numbers, strings, and with the sizes that the row's condition gives. -/
import Derived.Test.YtlhinklnnjbmpaaDoorVw
import Derived.ProofKit
import Derived.ChangeArms
import Derived.DataReads
import Derived.SizedLaws
import Derived.ChangeOld
import Derived.Deep.Slices
namespace Go.Proofs.YtlhinklnnjbmpaaDoor.Op
open Go.RowKit Go.ChangeShapes Go.WideShapes Go.Proofs.YtlhinklnnjbmpaaDoorW.PrintWords
set_option linter.unusedVariables false
set_option linter.unusedSimpArgs false
/-- Cells of a type t that are data hold an element of the kind d, of which ok holds. -/
structure Opens (P : Program) (t : TypeId) {α : Type} (d : Kd α) (ok : α → Prop) : Prop where
  sz : d.sz = P.cellsOf t
  go : ∀ {H : Type} {enc : TypeId × Value → H} {W : World} {spare : Nat → Bool} {held : Bool} {fuel : Nat} {cs : List Value} {x : DataW H × List MemPlace},
    DataW.trod enc P W 0 spare held fuel t cs = some x → (∀ n ∈ x.1.weights P t, n ≤ reachBytes) → ∃ a, d.K W a cs ∧ ok a
section
variable {P : Program} {t : TypeId}
theorem Opens.imp {α : Type} {d : Kd α} {ok ok' : α → Prop} (h : Opens P t d ok) (hi : ∀ a, ok a → ok' a) : Opens P t d ok' :=
  ⟨h.sz, fun h1 h2 => by obtain ⟨a, k, o⟩ := h.go h1 h2; exact ⟨a, k, hi a o⟩⟩
theorem opens_int {k : IntKind} (ht : P.underlying t = some (.int k)) (hc : P.cellsOf t = 1) : Opens P t (Kd.int k) (fun n => (Lit.int k n).wf = true) :=
  ⟨hc.symm, fun h _ => by obtain ⟨n, rfl, -, hw⟩ := DataW.trod_int ht h; exact ⟨n, rfl, hw⟩⟩
theorem opens_bool (ht : P.underlying t = some .bool) (hc : P.cellsOf t = 1) : Opens P t Kd.bool (fun _ => True) :=
  ⟨hc.symm, fun h _ => by obtain ⟨n, rfl, -⟩ := DataW.trod_bool ht h; exact ⟨n, rfl, trivial⟩⟩
theorem opens_string (ht : P.underlying t = some .string) (hc : P.cellsOf t = 1) : Opens P t Kd.string (fun s => s.size ≤ reachBytes) :=
  ⟨hc.symm, fun h hw => by
    obtain ⟨s, rfl, rfl, -⟩ := DataW.trod_string ht h
    exact ⟨s, rfl, by have := hw s.data.toList.length (by simp [DataW.weights]); simpa using this⟩⟩
/-- Fields in line, from the cell o on. -/
structure FOp (P : Program) (o : Nat) (fs : List Field) {α : Type} (d : Kd α) (ok : α → Prop) : Prop where
  sz : d.sz = (fs.map fun f => P.cellsOf f.type).sum
  go : ∀ {H : Type} {enc : TypeId × Value → H} {W : World} {spare : Nat → Bool} {held : Bool} {fuel : Nat} {cs : List Value} {xs : List (DataW H × List MemPlace)},
    cs.length = o + (fs.map fun f => P.cellsOf f.type).sum → xs.length = fs.length →
    (∀ (i : Nat) f, fs[i]? = some f → ∃ y, xs[i]? = some y ∧ DataW.trod enc P W 0 spare held fuel f.type ((cs.drop f.offset).take (P.cellsOf f.type)) = some y) →
    (∀ n ∈ DataW.weightsEach P (fs.map (·.type)) (xs.map (·.1)), n ≤ reachBytes) → ∃ a, d.K W a (cs.drop o) ∧ ok a
theorem fop_one {o : Nat} {f : Field} {α : Type} {d : Kd α} {ok : α → Prop} (ho : f.offset = o) (h : Opens P f.type d ok) : FOp P o [f] d ok :=
  ⟨by simp [h.sz], fun hl hx hf hw => by
    obtain ⟨y, hy, ht⟩ := hf 0 f rfl
    simp only [List.map_cons, List.map_nil, List.sum_cons, List.sum_nil] at hl
    rw [ho, List.take_of_length_le (by rw [List.length_drop]; omega)] at ht
    rename_i xs
    match xs, hx with
    | [z], _ =>
      obtain rfl : z = y := by simpa using hy
      exact h.go ht (fun n hn => hw n (by simp [DataW.weightsEach, hn]))⟩
theorem fop_cons {o : Nat} {f : Field} {fs : List Field} {α β : Type} {d : Kd α} {e : Kd β} {ok : α → Prop} {ok' : β → Prop} (ho : f.offset = o) (h : Opens P f.type d ok) (r : FOp P (o + P.cellsOf f.type) fs e ok') :
    FOp P o (f :: fs) (d.pair e) (fun x => ok x.1 ∧ ok' x.2) :=
  ⟨by show d.sz + e.sz = _; rw [h.sz, r.sz]; simp, fun hl hx hf hw => by
    rename_i H enc W spare held fuel cs xs
    match xs, hx with
    | z :: zs, hx =>
      obtain ⟨y, hy, ht⟩ := hf 0 f rfl
      obtain rfl : z = y := by simpa using hy
      simp only [List.map_cons, List.sum_cons] at hl
      rw [ho] at ht
      obtain ⟨a, ka, oa⟩ := h.go ht (fun n hn => hw n (by simp [DataW.weightsEach, hn]))
      obtain ⟨b, kb, ob⟩ := r.go (cs := cs) (xs := zs) (by omega) (by simpa using hx) (fun i g hg => by obtain ⟨y, h1, h2⟩ := hf (i + 1) g (by simpa using hg); exact ⟨y, by simpa using h1, h2⟩) (fun n hn => hw n (by simp [DataW.weightsEach, hn]))
      refine ⟨(a, b), ⟨_, _, ?_, ka, kb⟩, oa, ob⟩
      rw [← List.drop_drop, List.take_append_drop]⟩
theorem opens_struct {fs : Array Field} {α : Type} {d : Kd α} {ok : α → Prop} (ht : P.underlying t = some (.struct fs)) (hc : P.cellsOf t = (fs.toList.map fun f => P.cellsOf f.type).sum) (h : FOp P 0 fs.toList d ok) : Opens P t d ok :=
  ⟨by rw [h.sz, hc], fun hh hw => by
    obtain ⟨xs, k, hk, hxy, hlen, hxl, hf⟩ := DataW.trod_struct ht hh
    subst hxy
    obtain ⟨a, ka, oa⟩ := h.go (cs := _) (xs := xs) (by rw [hlen, hc]; simp) (by simpa using hxl) (fun i f hi => by
      have hi2 : i < xs.length := by rw [hxl]; have := (List.getElem?_eq_some_iff.1 hi).1; simpa using this
      have := hf i f (by simpa using hi)
      exact ⟨_, List.getElem?_eq_getElem hi2, by simpa [List.getD_eq_getElem?_getD, List.getElem?_eq_getElem hi2] using this⟩) (fun n hn => hw n (by simpa [DataW.weights, ht] using hn))
    exact ⟨a, by simpa using ka, oa⟩⟩
theorem mem_all {H : Type} {e : TypeId} {n : Nat} : ∀ {l : List (DataW H)} {x : DataW H}, x ∈ l → n ∈ x.weights P e → n ∈ DataW.weightsAll P e l
  | y :: l, x, hx, hn => by
    simp only [DataW.weightsAll, List.mem_append]
    rcases List.mem_cons.1 hx with rfl | hx
    · exact .inl hn
    · exact .inr (mem_all hx hn)
/-- A slice, opened: the elements up to its length. -/
theorem slice_cells {e : TypeId} {α : Type} {d : Kd α} {ok : α → Prop} (he : Opens P e d ok) (hb : 0 < P.bytesOf e) (ht : P.underlying t = some (.slice e))
    {H : Type} {enc : TypeId × Value → H} {W : World} {spare : Nat → Bool} {held : Bool} {fuel : Nat} {cs : List Value} {x : DataW H × List MemPlace}
    (h : DataW.trod enc P W 0 spare held fuel t cs = some x) (hw : ∀ n ∈ x.1.weights P t, n ≤ reachBytes) :
    ∃ (A : Option Addr) (c : Nat) (xs : List α), cs = [.slice A xs.length c] ∧ xs.length ≤ c ∧ d.C W A xs.length xs ∧ (∀ a ∈ xs, ok a) ∧ xs.length * P.bytesOf e ≤ reachBytes := by
  rcases Go.Deep.open_slice ht h with ⟨rfl, rfl⟩ | ⟨a, len, cap, m, n, D, Pl, rfl, hb0, hl, hm, hmm, rfl, hx⟩
  · exact ⟨none, 0, [], rfl, Nat.le_refl _, ⟨rfl, by simp, fun hn => absurd hn (by simp)⟩, by simp, by simp⟩
  have hlm : len ≤ m := by rw [hmm]; split <;> omega
  have hlen : len * P.bytesOf e ≤ reachBytes := by
    have := hw ((((List.range len).map D).length + ((List.range (m - len)).map fun j => D (len + j)).length) * P.bytesOf e) (by simp [DataW.weights, ht])
    simp only [List.length_map, List.length_range] at this
    exact Nat.le_trans (Nat.mul_le_mul_right _ (by omega)) this
  have each : ∀ i, i < len → ∃ q : α × List Value, q.2.length = d.sz ∧ d.K W q.1 q.2 ∧ ok q.1 ∧ ∀ j u, q.2[j]? = some u → W.cell? (a.add (i * d.sz + j)) = some u := by
    intro i hi
    obtain ⟨cs', h1, h2⟩ := hx i (by omega)
    obtain ⟨_, hl1, hcell⟩ := World.cells?_some h1
    obtain ⟨y, k, o⟩ := he.go h2 (fun n hn => hw n (by
      simp only [DataW.weights, ht, List.mem_cons, List.mem_append]
      exact .inr (.inl (mem_all (List.mem_map.2 ⟨i, List.mem_range.2 hi, rfl⟩) hn))))
    refine ⟨(y, cs'), by rw [hl1, he.sz], k, o, fun j u hu => ?_⟩
    have hj : j < P.cellsOf e := by have := (List.getElem?_eq_some_iff.1 hu).1; rw [hl1] at this; exact this
    have := hcell j hj
    rw [Go.Deep.add_add] at this
    rw [he.sz, this]
    exact hu
  by_cases hz : len = 0
  · subst hz
    exact ⟨some a, cap, [], rfl, Nat.zero_le _, ⟨rfl, by simp, fun hn => absurd hn (by simp)⟩, by simp, by simp⟩
  have each' : ∀ i, ∃ q : α × List Value, i < len → (q.2.length = d.sz ∧ d.K W q.1 q.2 ∧ ok q.1 ∧ ∀ j u, q.2[j]? = some u → W.cell? (a.add (i * d.sz + j)) = some u) := by
    intro i
    by_cases hi : i < len
    · obtain ⟨q, hq⟩ := each i hi
      exact ⟨q, fun _ => hq⟩
    · obtain ⟨q, hq⟩ := each 0 (by omega)
      exact ⟨q, fun h => absurd h hi⟩
  obtain ⟨q, hq⟩ := Classical.axiomOfChoice each'
  refine ⟨some a, cap, (List.range len).map fun i => (q i).1, by simp, by simpa using hl, ⟨rfl, ?_, fun hn => ⟨a, rfl, fun j p hp => ?_⟩⟩, ?_, by simpa using hlen⟩
  · simp only [List.length_map, List.length_range]
    have : maxLen ≤ 9223372036854775807 := by unfold maxLen; decide
    omega
  · have hj : j < len := by have := (List.getElem?_eq_some_iff.1 hp).1; simpa using this
    have hpe : (q j).1 = p := by simpa [hj] using hp
    obtain ⟨h1, h2, h3, h4⟩ := hq j hj
    exact ⟨(q j).2, h1, hpe ▸ h2, h4⟩
  · intro y hy
    obtain ⟨i, hi, rfl⟩ := List.mem_map.1 hy
    exact (hq i (List.mem_range.1 hi)).2.2.1
theorem opens_slice {e : TypeId} {α : Type} {d : Kd α} {ok : α → Prop} (he : Opens P e d ok) (hb : 0 < P.bytesOf e) (ht : P.underlying t = some (.slice e)) (hc : P.cellsOf t = 1) :
    Opens P t (Kd.slice e d) (fun xs => (∀ a ∈ xs, ok a) ∧ xs.length ≤ reachBytes) :=
  ⟨hc.symm, fun h hw => by
    obtain ⟨A, c, xs, rfl, h1, h2, h3, h4⟩ := slice_cells he hb ht h hw
    exact ⟨xs, ⟨A, c, rfl, h1, h2⟩, h3, Nat.le_trans (Nat.le_mul_of_pos_right _ hb) h4⟩⟩
/-- An argument that is a slice. -/
theorem open_arg {e : TypeId} {α : Type} {d : Kd α} {ok : α → Prop} (he : Opens P e d ok) (hb : 0 < P.bytesOf e) (ht : P.underlying t = some (.slice e))
    {H : Type} {enc : TypeId × Value → H} {W : World} {spare : Nat → Bool} {held : Bool} {r : Reach} {b0 : Nat} {v : Value} {D : DataW H} {ps : List MemPlace}
    (hv : Value.okWide P W r b0 t v) (h : DataW.Trod enc P W 0 spare held t v D ps) (hw : ∀ n ∈ D.weights P t, n ≤ reachBytes) :
    ∃ (A : Option Addr) (c : Nat) (xs : List α), v = .slice A xs.length c ∧ xs.length ≤ c ∧ d.C W A xs.length xs ∧ (∀ a ∈ xs, ok a) ∧ xs.length ≤ reachBytes := by
  obtain ⟨A, len, cap, rfl⟩ := okWide_slice ht hv
  obtain ⟨fuel, hf⟩ := h
  obtain ⟨A', c, xs, h0, h1, h2, h3, h4⟩ := slice_cells he hb ht hf hw
  refine ⟨A', c, xs, ?_, h1, h2, h3, Nat.le_trans (Nat.le_mul_of_pos_right _ hb) h4⟩
  simpa [Value.cells] using h0
theorem back_arg {t : TypeId} (lo : laidOutB P = true) (hr : P.readableRec t = true) (hrow : t < P.types.size) {H : Type} {enc : TypeId × Value → H} {W W' : World} {v : Value} {d : DataW H} {ps : List MemPlace}
    (h : DataW.Trod enc P W 0 (fun _ => true) true t v d ps) (hb : Below W.heap.size W W') : DataW.Trod enc P W' 0 (fun b => decide (b < W.heap.size)) true t v d ps :=
  Below.trod lo hr hrow h hb (by obtain ⟨f, hf⟩ := h; exact DataW.trod_lt _ _ _ _ hf)
theorem weight_of {H : Type} {ts : List TypeId} {ds : List (DataW H)} (h : (DataW.weightsEach P ts ds).all (· ≤ reachBytes) = true) {j : Nat} {t : TypeId} {d : DataW H} (ht : ts[j]? = some t) (hd : ds[j]? = some d) : ∀ n ∈ d.weights P t, n ≤ reachBytes :=
  fun n hn => by simpa using List.all_eq_true.1 h _ (DataW.weights_mem_each ht hd n hn)
end
end Go.Proofs.YtlhinklnnjbmpaaDoor.Op
