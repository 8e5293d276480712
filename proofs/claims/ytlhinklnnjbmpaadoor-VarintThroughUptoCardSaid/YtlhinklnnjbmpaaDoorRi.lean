/- The contract of (*varint.Reader).Int. -/
import Derived.Test.YtlhinklnnjbmpaaDoorSr
import Derived.Test.YtlhinklnnjbmpaaDoorGAx12
import Derived.Deep.RegionWith
namespace Go.Proofs.YtlhinklnnjbmpaaDoor.Rd
open Go.RowKit Go.Proofs.YtlhinklnnjbmpaaDoor.Vm Go.Proofs.YtlhinklnnjbmpaaDoor.Vw Go.Proofs.YtlhinklnnjbmpaaDoor.Sp Go.Proofs.YtlhinklnnjbmpaaDoorW.PrintWords Go.Proofs.YtlhinklnnjbmpaaDoorW.PrintLast Go.Proofs.YtlhinklnnjbmpaaDoorW.PrintMore Go.Proofs.YtlhinklnnjbmpaaDoor.GA Go.Proofs.YtlhinklnnjbmpaaDoor.GP
set_option linter.unusedVariables false
set_option linter.unusedSimpArgs false
theorem heap_set {W : World} {g off : Nat} {cs : Array Value} {t : TypeId} {fr : Nat × Nat} (h : W.heap[g]? = some (.cells cs t fr)) (v : Value) : (W.setCell ⟨g, off, none⟩ v).heap[g]? = some (.cells (cs.setIfInBounds off v) t fr) := by
  simp [World.setCell, Array.getElem?_modify, h]
set_option maxHeartbeats 1000000 in
set_option maxRecDepth 100000 in
theorem int_calls (g : Nat) (s : ByteArray) (i m n e3 : Int) (w : World) (hg : w.heap[g]? = some (.cells #[.string s, .int .i64 i] 90 (0, 0))) (h0 : 0 ≤ i) (h1 : i ≤ s.size) (hs : s.size ≤ 140737488351232) (hm : 0 ≤ m) (hm2 : m ≤ s.size)
    (C : Aside0 (∀ W, Calls Tryd.prog 24 #[.string (s.extract i.toNat s.size)] W fun e w' => e = .returned (.tuple #[.int .i64 n, .int .i64 m, .int .i64 e3]) ∧ Below W.heap.size W w')) :
    Calls Tryd.prog 37 #[.pointer (some ⟨g, 0, none⟩)] w fun e w' => e = .returned (.tuple #[.int .i64 n, .int .i64 e3]) ∧ w'.heap[g]? = some (.cells #[.string s, .int .i64 (i + m)] 90 (0, 0)) ∧ KeepBut w w' g none ∧ (∀ w0 : World, w0.heap.size ≤ g → Below w0.heap.size w0 w → Below w0.heap.size w0 w') := by
  have c0 : w.cell? ⟨g, 0, none⟩ = some (.string s) := by simp [World.cell?, hg]
  have c1 : w.cell? ⟨g, 1, none⟩ = some (.int .i64 i) := by simp [World.cell?, hg]
  have HG := Aside0.mk hg
  clear hg
  go_enter Tryd.func37, Tryd.ntmps37
  go_wp2
  go_region_with (go_at_call 24; refine (C.out _).mono ?_; rintro e w1 ⟨rfl, hb⟩)
  all_goals
    have hW : Below w.heap.size w w1 := (pw_below_drewN (Below.refl _ w) 1).trans hb
    have hg1 : w1.heap[g]? = some (.cells #[.string s, .int .i64 i] 90 (0, 0)) := (hW.block g (blk_lt HG.out)).trans HG.out
    have d1 : w1.cell? ⟨g, 1, none⟩ = some (.int .i64 i) := by simp [World.cell?, hg1]
    have d2 : w1.frozen? ⟨g, 1, none⟩ = false := by simp [World.frozen?, hg1]
    have HW := Aside0.mk hW
    have HG1 := Aside0.mk hg1
    clear hg1 hW hb c0 c1
    go_wp2
    go_ret2
    refine ⟨rfl, ?_, ?_, ?_⟩
    · exact heap_set HG1.out _
    · exact (KeepBut.of_below HW.out g none).set_ 1 _
    · exact fun w0 hg hb => below_set (below_step hb HW.out) hg
end Go.Proofs.YtlhinklnnjbmpaaDoor.Rd
