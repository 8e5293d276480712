/- Rows with a condition on the bulk: the frame of their proof, and data opened with their bulk. -/
import Derived.Test.YtlhinklnnjbmpaaDoorOp
import Derived.Test.YtlhinklnnjbmpaaDoorRows
import Derived.JoinedCond
import Derived.Handed
import Derived.LaidLaws
import Derived.LaidMore
import Derived.Stop.Joined
namespace Go.Proofs.YtlhinklnnjbmpaaDoor.Up
open Go.RowKit Go.ChangeShapes Go.WideShapes Go.Proofs.YtlhinklnnjbmpaaDoorW.PrintWords Go.Proofs.YtlhinklnnjbmpaaDoor.Op
open Go.Proofs.YtlhinklnnjbmpaaDoor.Rows (uptoBulk uptoBulkAll)
set_option linter.unusedVariables false
set_option linter.unusedSimpArgs false
/-- A row with a condition on its data and one on what is laid: out of a contract. -/
theorem handed {H : Type} {enc : TypeId × Value → H} {C : Checked} {os : Os} {f : FuncId} {fn : Func} {s : OpenSpec} {k : (H : Type) → List (DataW H) → Bool} (hk : s.cond = some k) {F : Stop.Interp} {conds : List PathCond} {apart fresh handsOn again : Bool}
    {X : World → Array Value → Prop} (hX : ∀ (w w' : World) (args : Array Value), w.heap = w'.heap → X w args → X w' args)
    (own : ownKnob C.prog.godebug = none) (started : os.Started) (noInit : C.prog.inits.idxOf? f = none) (hfn : C.prog.funcs[f]? = some fn)
    (w0 : World) (args0 : Array Value) (fuel : Nat) (hos : w0.os = os) (hsh : (w0.forCall (fun _ _ => 0) ⟨#[], args0, []⟩).Shaped C.prog)
    (hok : Input.okWideB C.prog (w0.forCall (fun _ _ => 0) ⟨#[], args0, []⟩) f ⟨#[], args0, []⟩ = true)
    {x : List (DataW H) × List (DataW H) × List MemPlace} (hx : DataW.whole enc C.prog (w0.forCall (fun _ _ => 0) ⟨#[], args0, []⟩).memory fn.params.toList s.vars apart args0.toList fuel = some x)
    (hconds : conds.all (PathCond.test C.prog ⟨fn.params.toList, x.1, s.bare.plain.varTypes C.prog, x.2.1⟩) = true) (hkk : k H (x.1 ++ x.2.1) = true)
    (hsz : s.bare.sizedB enc C.prog fn apart (w0.forCall (fun _ _ => 0) ⟨#[], args0, []⟩).memory args0 fuel = true) (hxx : X (w0.forCall (fun _ _ => 0) ⟨#[], args0, []⟩).memory args0)
    (contract : ∀ (W : World) (base : Nat) (args : Array Value) (ds gs : List (DataW H)) (before : List MemPlace),
      (∀ (j : Nat) t v, fn.params[j]? = some t → args[j]? = some v → Value.okWide C.prog W .any base t v) →
      DataW.Whole enc C.prog fn.params.toList s.vars apart W args.toList ds gs before →
      conds.all (PathCond.test C.prog ⟨fn.params.toList, ds, s.bare.plain.varTypes C.prog, gs⟩) = true → k H (ds ++ gs) = true → X W args →
      Calls C.prog f args W fun e W' => ∃ v, e = .returned v ∧ (s.at F).post enc C.prog fn apart fresh handsOn again W args v W') :
    ReturnsInHanded {} C os f .any (fun w args => (s.pre enc C.prog fn conds apart w args ∧ X w args) ∧ sizedMet enc C.prog fn s apart w args) ((s.at F).post enc C.prog fn apart fresh handsOn again) := by
  refine returnsInHanded_of_calls own started noInit ⟨w0, fun _ _ => 0, ⟨#[], args0, []⟩, hos, hsh, (Input.okWide_of_okWideB (base := 0) hok).1, (Input.okWide_of_okWideB hok).2,
    ⟨⟨(OpenSpec.pre_some hk conds apart _ _).2 ⟨x.1, x.2.1, x.2.2, DataW.Whole_of_whole hx, hconds, hkk⟩, hxx⟩, sizedMet_of_sizedB hsz⟩, by
      simp only [Assume.holds]
      exact ⟨by simp, by simp, fun _ => Modest.zero, by simp, by simp⟩⟩ ?_
  intro w tape i _ _ _ hok hpre hholds
  obtain ⟨_, _, _, fn', hfn', _, _, _, _, hval⟩ := hok
  obtain rfl : fn' = fn := Option.some.inj (hfn'.symm.trans hfn)
  obtain ⟨⟨hp, hx⟩, _⟩ := hpre
  obtain ⟨ds, gs, before, hw, hc, hkk⟩ := (OpenSpec.pre_some hk conds apart _ _).1 hp
  refine (contract (w.forCall tape i) w.heap.size i.args ds gs before hval (DataW.Whole.of_heap (w' := w.forCall tape i) (by rfl) hw) hc hkk (hX _ _ _ (by rfl) hx)).mono fun e W' ⟨v, he, hp⟩ => ?_
  subst he
  exact ChangeSpec.post_blind hp
/-! ### Data with their bulk -/
structure OpB (P : Program) (t : TypeId) {α : Type} (d : Kd α) (μ : α → Nat) : Prop where
  sz : d.sz = P.cellsOf t
  go : ∀ {H : Type} {enc : TypeId × Value → H} {W : World} {spare : Nat → Bool} {held : Bool} {fuel : Nat} {cs : List Value} {x : DataW H × List MemPlace},
    DataW.trod enc P W 0 spare held fuel t cs = some x → ∃ a, d.K W a cs ∧ μ a ≤ uptoBulk x.1
section
variable {P : Program} {t : TypeId}
theorem b_int {k : IntKind} (ht : P.underlying t = some (.int k)) (hc : P.cellsOf t = 1) : OpB P t (Kd.int k) (fun _ => 1) :=
  ⟨hc.symm, fun h => by obtain ⟨n, rfl, rfl, hw⟩ := DataW.trod_int ht h; exact ⟨n, rfl, by simp [uptoBulk]⟩⟩
theorem b_bool (ht : P.underlying t = some .bool) (hc : P.cellsOf t = 1) : OpB P t Kd.bool (fun _ => 1) :=
  ⟨hc.symm, fun h => by obtain ⟨n, rfl, rfl⟩ := DataW.trod_bool ht h; exact ⟨n, rfl, by simp [uptoBulk]⟩⟩
theorem b_string (ht : P.underlying t = some .string) (hc : P.cellsOf t = 1) : OpB P t Kd.string (fun s => s.size + 1) :=
  ⟨hc.symm, fun h => by
    obtain ⟨s, rfl, rfl, -⟩ := DataW.trod_string ht h
    exact ⟨s, rfl, by simp [uptoBulk]⟩⟩
structure FOpB (P : Program) (o : Nat) (fs : List Field) {α : Type} (d : Kd α) (μ : α → Nat) : Prop where
  sz : d.sz = (fs.map fun f => P.cellsOf f.type).sum
  go : ∀ {H : Type} {enc : TypeId × Value → H} {W : World} {spare : Nat → Bool} {held : Bool} {fuel : Nat} {cs : List Value} {xs : List (DataW H × List MemPlace)},
    cs.length = o + (fs.map fun f => P.cellsOf f.type).sum → xs.length = fs.length →
    (∀ (i : Nat) f, fs[i]? = some f → ∃ y, xs[i]? = some y ∧ DataW.trod enc P W 0 spare held fuel f.type ((cs.drop f.offset).take (P.cellsOf f.type)) = some y) →
    ∃ a, d.K W a (cs.drop o) ∧ μ a ≤ uptoBulkAll (xs.map (·.1))
theorem bf_one {o : Nat} {f : Field} {α : Type} {d : Kd α} {μ : α → Nat} (ho : f.offset = o) (h : OpB P f.type d μ) : FOpB P o [f] d μ :=
  ⟨by simp [h.sz], fun hl hx hf => by
    obtain ⟨y, hy, ht⟩ := hf 0 f rfl
    simp only [List.map_cons, List.map_nil, List.sum_cons, List.sum_nil] at hl
    rw [ho, List.take_of_length_le (by rw [List.length_drop]; omega)] at ht
    rename_i xs
    match xs, hx with
    | [z], _ =>
      obtain rfl : z = y := by simpa using hy
      obtain ⟨a, k, m⟩ := h.go ht
      exact ⟨a, k, by simpa [uptoBulkAll] using m⟩⟩
theorem bf_cons {o : Nat} {f : Field} {fs : List Field} {α β : Type} {d : Kd α} {e : Kd β} {μ : α → Nat} {ν : β → Nat} (ho : f.offset = o) (h : OpB P f.type d μ) (r : FOpB P (o + P.cellsOf f.type) fs e ν) :
    FOpB P o (f :: fs) (d.pair e) (fun x => μ x.1 + ν x.2) :=
  ⟨by show d.sz + e.sz = _; rw [h.sz, r.sz]; simp, fun hl hx hf => by
    rename_i H enc W spare held fuel cs xs
    match xs, hx with
    | z :: zs, hx =>
      obtain ⟨y, hy, ht⟩ := hf 0 f rfl
      obtain rfl : z = y := by simpa using hy
      simp only [List.map_cons, List.sum_cons] at hl
      rw [ho] at ht
      obtain ⟨a, ka, oa⟩ := h.go ht
      obtain ⟨b, kb, ob⟩ := r.go (cs := cs) (xs := zs) (by omega) (by simpa using hx) (fun i g hg => by obtain ⟨y, h1, h2⟩ := hf (i + 1) g (by simpa using hg); exact ⟨y, by simpa using h1, h2⟩)
      refine ⟨(a, b), ⟨_, _, ?_, ka, kb⟩, by simp only [List.map_cons, uptoBulkAll]; omega⟩
      rw [← List.drop_drop, List.take_append_drop]⟩
theorem b_struct {fs : Array Field} {α : Type} {d : Kd α} {μ : α → Nat} (ht : P.underlying t = some (.struct fs)) (hc : P.cellsOf t = (fs.toList.map fun f => P.cellsOf f.type).sum) (h : FOpB P 0 fs.toList d μ) : OpB P t d μ :=
  ⟨by rw [h.sz, hc], fun hh => by
    obtain ⟨xs, k, hk, hxy, hlen, hxl, hf⟩ := DataW.trod_struct ht hh
    subst hxy
    obtain ⟨a, ka, oa⟩ := h.go (cs := _) (xs := xs) (by rw [hlen, hc]; simp) (by simpa using hxl) (fun i f hi => by
      have hi2 : i < xs.length := by rw [hxl]; have := (List.getElem?_eq_some_iff.1 hi).1; simpa using this
      have := hf i f (by simpa using hi)
      exact ⟨_, List.getElem?_eq_getElem hi2, by simpa [List.getD_eq_getElem?_getD, List.getElem?_eq_getElem hi2] using this⟩)
    exact ⟨a, by simpa using ka, by simp only [uptoBulk]; omega⟩⟩
theorem bulk_sum {H : Type} {α : Type} {D : Nat → DataW H} {q : Nat → α} {μ : α → Nat} {len : Nat} (h : ∀ i, i < len → μ (q i) ≤ uptoBulk (D i)) : ((List.range len).map fun i => μ (q i)).sum ≤ uptoBulkAll ((List.range len).map D) := by
  induction len with
  | zero => simp
  | succ n ih =>
    rw [List.range_succ, List.map_append, List.map_append, List.sum_append]
    have h1 := ih fun i hi => h i (by omega)
    have h2 := h n (by omega)
    have h3 : ∀ (a b : List (DataW H)), uptoBulkAll (a ++ b) = uptoBulkAll a + uptoBulkAll b := fun a b => by
      induction a with
      | nil => simp [uptoBulkAll]
      | cons x a ih => simp only [List.cons_append, uptoBulkAll, ih]; omega
    rw [h3]
    simp only [List.map_cons, List.map_nil, List.sum_cons, List.sum_nil, uptoBulkAll]
    omega
theorem b_cells {e : TypeId} {α : Type} {d : Kd α} {μ : α → Nat} (he : OpB P e d μ) (ht : P.underlying t = some (.slice e))
    {H : Type} {enc : TypeId × Value → H} {W : World} {spare : Nat → Bool} {held : Bool} {fuel : Nat} {cs : List Value} {x : DataW H × List MemPlace}
    (h : DataW.trod enc P W 0 spare held fuel t cs = some x) :
    ∃ (A : Option Addr) (c : Nat) (xs : List α), cs = [.slice A xs.length c] ∧ xs.length ≤ c ∧ d.C W A xs.length xs ∧ (xs.map μ).sum + 1 ≤ uptoBulk x.1 := by
  rcases Go.Deep.open_slice ht h with ⟨rfl, rfl⟩ | ⟨a, len, cap, m, n, D, Pl, rfl, hb0, hl, hm, hmm, rfl, hx⟩
  · exact ⟨none, 0, [], rfl, Nat.le_refl _, ⟨rfl, by simp, fun hn => absurd hn (by simp)⟩, by simp [uptoBulk]⟩
  have hlm : len ≤ m := by rw [hmm]; split <;> omega
  have each : ∀ i, i < len → ∃ q : α × List Value, q.2.length = d.sz ∧ d.K W q.1 q.2 ∧ μ q.1 ≤ uptoBulk (D i) ∧ ∀ j u, q.2[j]? = some u → W.cell? (a.add (i * d.sz + j)) = some u := by
    intro i hi
    obtain ⟨cs', h1, h2⟩ := hx i (by omega)
    obtain ⟨_, hl1, hcell⟩ := World.cells?_some h1
    obtain ⟨y, k, o⟩ := he.go h2
    refine ⟨(y, cs'), by rw [hl1, he.sz], k, o, fun j u hu => ?_⟩
    have hj : j < P.cellsOf e := by have := (List.getElem?_eq_some_iff.1 hu).1; rw [hl1] at this; exact this
    have := hcell j hj
    rw [Go.Deep.add_add] at this
    rw [he.sz, this]
    exact hu
  by_cases hz : len = 0
  · subst hz
    exact ⟨some a, cap, [], rfl, Nat.zero_le _, ⟨rfl, by simp, fun hn => absurd hn (by simp)⟩, by simp [uptoBulk]⟩
  have each' : ∀ i, ∃ q : α × List Value, i < len → (q.2.length = d.sz ∧ d.K W q.1 q.2 ∧ μ q.1 ≤ uptoBulk (D i) ∧ ∀ j u, q.2[j]? = some u → W.cell? (a.add (i * d.sz + j)) = some u) := by
    intro i
    by_cases hi : i < len
    · obtain ⟨q, hq⟩ := each i hi
      exact ⟨q, fun _ => hq⟩
    · obtain ⟨q, hq⟩ := each 0 (by omega)
      exact ⟨q, fun h => absurd h hi⟩
  obtain ⟨q, hq⟩ := Classical.axiomOfChoice each'
  refine ⟨some a, cap, (List.range len).map fun i => (q i).1, by simp, by simpa using hl, ⟨rfl, ?_, fun hn => ⟨a, rfl, fun j p hp => ?_⟩⟩, ?_⟩
  · simp only [List.length_map, List.length_range]
    have : maxLen ≤ 9223372036854775807 := by unfold maxLen; decide
    omega
  · have hj : j < len := by have := (List.getElem?_eq_some_iff.1 hp).1; simpa using this
    have hpe : (q j).1 = p := by simpa [hj] using hp
    obtain ⟨h1, h2, h3, h4⟩ := hq j hj
    exact ⟨(q j).2, h1, hpe ▸ h2, h4⟩
  · have := bulk_sum (D := D) (q := fun i => (q i).1) (μ := μ) (len := len) (fun i hi => (hq i hi).2.2.1)
    rw [List.map_map]
    simp only [uptoBulk]
    have e : ((List.range len).map (μ ∘ fun i => (q i).1)) = (List.range len).map fun i => μ (q i).1 := rfl
    rw [e]
    omega
theorem b_slice {e : TypeId} {α : Type} {d : Kd α} {μ : α → Nat} (he : OpB P e d μ) (ht : P.underlying t = some (.slice e)) (hc : P.cellsOf t = 1) : OpB P t (Kd.slice e d) (fun xs => (xs.map μ).sum + 1) :=
  ⟨hc.symm, fun h => by
    obtain ⟨A, c, xs, rfl, h1, h2, h3⟩ := b_cells he ht h
    exact ⟨xs, ⟨A, c, rfl, h1, h2⟩, h3⟩⟩
theorem b_arg {e : TypeId} {α : Type} {d : Kd α} {μ : α → Nat} (he : OpB P e d μ) (ht : P.underlying t = some (.slice e))
    {H : Type} {enc : TypeId × Value → H} {W : World} {spare : Nat → Bool} {held : Bool} {r : Reach} {b0 : Nat} {v : Value} {D : DataW H} {ps : List MemPlace}
    (hv : Value.okWide P W r b0 t v) (h : DataW.Trod enc P W 0 spare held t v D ps) :
    ∃ (A : Option Addr) (c : Nat) (xs : List α), v = .slice A xs.length c ∧ xs.length ≤ c ∧ d.C W A xs.length xs ∧ (xs.map μ).sum + 1 ≤ uptoBulk D := by
  obtain ⟨A, len, cap, rfl⟩ := okWide_slice ht hv
  obtain ⟨fuel, hf⟩ := h
  obtain ⟨A', c, xs, h0, h1, h2, h3⟩ := b_cells he ht hf
  refine ⟨A', c, xs, ?_, h1, h2, h3⟩
  simpa [Value.cells] using h0
end
end Go.Proofs.YtlhinklnnjbmpaaDoor.Up
