/- VarintReader: what its walk asks, out of what the row gives. -/
import Derived.Test.YtlhinklnnjbmpaaDoorRl
namespace Go.Proofs.YtlhinklnnjbmpaaDoor.Rd
set_option linter.unusedVariables false
open Go.RowKit Go.Proofs.YtlhinklnnjbmpaaDoor.Vw Go.Proofs.YtlhinklnnjbmpaaDoorW.PrintWords
theorem walk (s : ByteArray) (A : Option Addr) (cap : Nat) (cs : List (Int × Int)) (w : World) (hE : Aside0 (EnvOK w)) (hs : s.size ≤ 140737488351232) (hc : cs.length ≤ cap)
    (HC : (Kd.pair (Kd.int .i64) (Kd.int .i64)).C w A cs.length cs) {ok : Int × Int → Prop} (h : ∀ a ∈ cs, ok a) (hn : cs.length ≤ 140737488351232) :
    Calls Tryd.prog 9 #[.string s, .slice A cs.length cap] w fun e w' => e = .returned (.bool true) ∧ Below w.heap.size w w' :=
  reader_walk s A cap cs w hE hs hn ⟨HC⟩
end Go.Proofs.YtlhinklnnjbmpaaDoor.Rd
