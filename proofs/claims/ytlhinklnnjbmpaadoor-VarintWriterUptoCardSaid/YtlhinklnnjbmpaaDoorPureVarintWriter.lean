/- VarintWriter: what its walk asks, out of what the row gives. -/
import Derived.Test.YtlhinklnnjbmpaaDoorWw
namespace Go.Proofs.YtlhinklnnjbmpaaDoor.Ww
set_option linter.unusedVariables false
open Go.RowKit Go.Proofs.YtlhinklnnjbmpaaDoor.Vw Go.Proofs.YtlhinklnnjbmpaaDoorW.PrintWords Go.Proofs.YtlhinklnnjbmpaaDoor.Wr
theorem len_sum (l : List ByteArray) : tot l + l.length = (l.map fun s => s.size + 1).sum := by
  induction l with
  | nil => rfl
  | cons s l ih => simp only [tot, List.map_cons, List.sum_cons, List.length_cons] at *; omega
theorem mem_sum {α : Type} {l : List α} {μ : α → Nat} {a : α} (h : a ∈ l) : μ a ≤ (l.map μ).sum := by
  induction l with
  | nil => cases h
  | cons b l ih =>
    rw [List.map_cons, List.sum_cons]
    rcases List.mem_cons.1 h with rfl | h
    · omega
    · have := ih h; omega
theorem sum_len {α : Type} {l : List α} {μ : α → Nat} (h : ∀ a, 1 ≤ μ a) : l.length ≤ (l.map μ).sum := by
  induction l with
  | nil => simp
  | cons b l ih => rw [List.map_cons, List.sum_cons, List.length_cons]; have := h b; omega
theorem walk (lim : Int) (A : Option Addr) (cap : Nat) (l : List Pc) (w : World) (hE : Aside0 (EnvOK w)) (hl : (Lit.int .i64 lim).wf = true) (hc : l.length ≤ cap) (HC : pcK.C w A l.length l)
    (hb : (l.map fun x => 1 + (1 + ((x.2.2.map fun s => s.size + 1).sum + 1))).sum + 1 ≤ 1048576) :
    Calls Tryd.prog 4 #[.int .i64 lim, .slice A l.length cap] w fun e w' => e = .returned (.bool true) ∧ Below w.heap.size w w' := by
  by_cases h : lim < 0 ∨ lim > 1073741824
  · exact writer_bad lim A cap l w hE h
  · have h1 := sum_len (l := l) (μ := fun x : Pc => 1 + (1 + ((x.2.2.map fun s => s.size + 1).sum + 1))) (fun a => by omega)
    refine writer_ok lim A cap l w hE (by omega) (by omega) (by omega) ⟨HC⟩ ⟨fun p hp => ?_⟩
    have h2 := mem_sum (μ := fun x : Pc => 1 + (1 + ((x.2.2.map fun s => s.size + 1).sum + 1))) hp
    have h3 := len_sum p.2.2
    omega
end Go.Proofs.YtlhinklnnjbmpaaDoor.Ww
