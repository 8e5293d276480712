/- VarintThrough: what its walk asks, out of what the row gives. -/
import Derived.Test.YtlhinklnnjbmpaaDoorTh
namespace Go.Proofs.YtlhinklnnjbmpaaDoor.Th
set_option linter.unusedVariables false
open Go.RowKit Go.Proofs.YtlhinklnnjbmpaaDoor.Vw Go.Proofs.YtlhinklnnjbmpaaDoorW.PrintWords Go.Proofs.YtlhinklnnjbmpaaDoor.Wr
theorem len_sum (l : List ByteArray) : tot l + l.length = (l.map fun s => s.size + 1).sum := by
  induction l with
  | nil => rfl
  | cons s l ih => simp only [tot, List.map_cons, List.sum_cons, List.length_cons] at *; omega
theorem walk (A : Option Addr) (cap : Nat) (l : List ByteArray) (w : World) (hE : Aside0 (EnvOK w)) (hc : l.length ≤ cap) (HC : Kd.string.C w A l.length l)
    (hb : (l.map fun s => s.size + 1).sum + 1 ≤ 1048576) :
    Calls Tryd.prog 8 #[.slice A l.length cap] w fun e w' => e = .returned (.bool true) ∧ Below w.heap.size w w' := by
  have h := len_sum l
  exact through_walk A cap l w hE (by omega) ⟨HC⟩
end Go.Proofs.YtlhinklnnjbmpaaDoor.Th
