/- Contracts of varint.high and varint.low: a number's bytes, at the widths 1, 2, 4, 8. -/
import Derived.Test.YtlhinklnnjbmpaaDoorProg
import Derived.Test.YtlhinklnnjbmpaaDoorMath
import Derived.WalkKit
import Derived.LoopTactic
import Derived.Below
import Derived.Lib.ConvBytes
import Derived.Laws.BytesArg
import Derived.OwnWalk
namespace Go.Proofs.YtlhinklnnjbmpaaDoor.Vw
open Go.RowKit Go.Proofs.YtlhinklnnjbmpaaDoor.Vm
set_option linter.unusedVariables false
set_option linter.unusedSimpArgs false
theorem conv_alloc {P : Program} (w : World) (cs : Array Value) (t src e dst : TypeId) (hs : P.underlying src = some (.slice e)) (he : P.underlying e = some (.int .u8)) (hd : P.underlying dst = some .string) (m cap : Nat) (xs : List Int) (hl : xs.length = m)
    (h : ∀ i, i < m → cs[i]? = some (.int .u8 (xs.getD i 0))) :
    (convert src dst (.slice (some ⟨w.heap.size, 0, none⟩) m cap)).run P (w.alloc (.cells cs t)) = .ok (.string (strOfNums xs)) (w.alloc (.cells cs t)) := by
  refine run_convert_bytes_arg (w.alloc (.cells cs t)) src e hs he w.heap.size 0 m cap xs hl (fun i hi => ?_) dst hd
  rw [World.cell?_alloc_at _ _ _ _ rfl]
  simpa using h i hi
set_option maxHeartbeats 1000000 in
set_option maxRecDepth 100000 in
theorem high1 (n : Int) (w : World) : Calls Tryd.prog 39 #[.int .i64 n, .int .i64 1] w fun e w' => e = .returned (.string (strOfNums [n % 256])) ∧ Below w.heap.size w w' := by
  have hal : Tryd.prog.arrayLen 92 = 8 := by simp [Program.arrayLen, Tryd.underlying92]
  go_enter Tryd.func39, Tryd.ntmps39
  go_wp2
  refine wp_loop_rounds 2 ?_
  rw [rounds_succ]
  go_wp2
  rw [rounds_succ]
  go_wp2
  rw [conv_alloc w _ _ 77 5 9 Tryd.underlying77 Tryd.underlying5 Tryd.underlying9 1 8 [n % 256] rfl (fun i hi => by match i, hi with | 0, _ => rfl)]
  go_wp2
  go_ret
  exact ⟨rfl, (Below.refl _ _).alloc (Nat.le_refl _) _⟩
set_option maxHeartbeats 1000000 in
set_option maxRecDepth 100000 in
theorem high2 (n : Int) (w : World) : Calls Tryd.prog 39 #[.int .i64 n, .int .i64 2] w fun e w' => e = .returned (.string (strOfNums [n / 256 % 256, n % 256])) ∧ Below w.heap.size w w' := by
  have hal : Tryd.prog.arrayLen 92 = 8 := by simp [Program.arrayLen, Tryd.underlying92]
  go_enter Tryd.func39, Tryd.ntmps39
  go_wp2
  refine wp_loop_rounds 3 ?_
  rw [rounds_succ]
  go_wp2
  rw [rounds_succ]
  go_wp2
  rw [rounds_succ]
  go_wp2
  rw [conv_alloc w _ _ 77 5 9 Tryd.underlying77 Tryd.underlying5 Tryd.underlying9 2 8 [n / 256 % 256, n % 256] rfl (fun i hi => by match i, hi with | 0, _ => rfl | 1, _ => rfl)]
  go_wp2
  go_ret
  exact ⟨rfl, (Below.refl _ _).alloc (Nat.le_refl _) _⟩
set_option maxHeartbeats 1000000 in
set_option maxRecDepth 100000 in
theorem high4 (n : Int) (w : World) : Calls Tryd.prog 39 #[.int .i64 n, .int .i64 4] w fun e w' => e = .returned (.string (strOfNums [n / 16777216 % 256, n / 65536 % 256, n / 256 % 256, n % 256])) ∧ Below w.heap.size w w' := by
  have hal : Tryd.prog.arrayLen 92 = 8 := by simp [Program.arrayLen, Tryd.underlying92]
  go_enter Tryd.func39, Tryd.ntmps39
  go_wp2
  refine wp_loop_rounds 5 ?_
  rw [rounds_succ]
  go_wp2
  rw [rounds_succ]
  go_wp2
  rw [rounds_succ]
  go_wp2
  rw [rounds_succ]
  go_wp2
  rw [rounds_succ]
  go_wp2
  rw [conv_alloc w _ _ 77 5 9 Tryd.underlying77 Tryd.underlying5 Tryd.underlying9 4 8 [n / 16777216 % 256, n / 65536 % 256, n / 256 % 256, n % 256] rfl (fun i hi => by match i, hi with | 0, _ => rfl | 1, _ => rfl | 2, _ => rfl | 3, _ => rfl)]
  go_wp2
  go_ret
  exact ⟨rfl, (Below.refl _ _).alloc (Nat.le_refl _) _⟩
set_option maxHeartbeats 1000000 in
set_option maxRecDepth 100000 in
theorem high8 (n : Int) (w : World) : Calls Tryd.prog 39 #[.int .i64 n, .int .i64 8] w fun e w' => e = .returned (.string (strOfNums [n / 72057594037927936 % 256, n / 281474976710656 % 256, n / 1099511627776 % 256, n / 4294967296 % 256, n / 16777216 % 256, n / 65536 % 256, n / 256 % 256, n % 256])) ∧ Below w.heap.size w w' := by
  have hal : Tryd.prog.arrayLen 92 = 8 := by simp [Program.arrayLen, Tryd.underlying92]
  go_enter Tryd.func39, Tryd.ntmps39
  go_wp2
  refine wp_loop_rounds 9 ?_
  rw [rounds_succ]
  go_wp2
  rw [rounds_succ]
  go_wp2
  rw [rounds_succ]
  go_wp2
  rw [rounds_succ]
  go_wp2
  rw [rounds_succ]
  go_wp2
  rw [rounds_succ]
  go_wp2
  rw [rounds_succ]
  go_wp2
  rw [rounds_succ]
  go_wp2
  rw [rounds_succ]
  go_wp2
  rw [conv_alloc w _ _ 77 5 9 Tryd.underlying77 Tryd.underlying5 Tryd.underlying9 8 8 [n / 72057594037927936 % 256, n / 281474976710656 % 256, n / 1099511627776 % 256, n / 4294967296 % 256, n / 16777216 % 256, n / 65536 % 256, n / 256 % 256, n % 256] rfl (fun i hi => by match i, hi with | 0, _ => rfl | 1, _ => rfl | 2, _ => rfl | 3, _ => rfl | 4, _ => rfl | 5, _ => rfl | 6, _ => rfl | 7, _ => rfl)]
  go_wp2
  go_ret
  exact ⟨rfl, (Below.refl _ _).alloc (Nat.le_refl _) _⟩
set_option maxHeartbeats 1000000 in
set_option maxRecDepth 100000 in
theorem low1 (n : Int) (w : World) : Calls Tryd.prog 41 #[.int .i64 n, .int .i64 1] w fun e w' => e = .returned (.string (strOfNums [n % 256])) ∧ Below w.heap.size w w' := by
  have hal : Tryd.prog.arrayLen 92 = 8 := by simp [Program.arrayLen, Tryd.underlying92]
  go_enter Tryd.func41, Tryd.ntmps41
  go_wp2
  refine wp_loop_rounds 2 ?_
  rw [rounds_succ]
  go_wp2
  rw [rounds_succ]
  go_wp2
  rw [conv_alloc w _ _ 77 5 9 Tryd.underlying77 Tryd.underlying5 Tryd.underlying9 1 8 [n % 256] rfl (fun i hi => by match i, hi with | 0, _ => rfl)]
  go_wp2
  go_ret
  exact ⟨rfl, (Below.refl _ _).alloc (Nat.le_refl _) _⟩
set_option maxHeartbeats 1000000 in
set_option maxRecDepth 100000 in
theorem low2 (n : Int) (w : World) : Calls Tryd.prog 41 #[.int .i64 n, .int .i64 2] w fun e w' => e = .returned (.string (strOfNums [n % 256, n / 256 % 256])) ∧ Below w.heap.size w w' := by
  have hal : Tryd.prog.arrayLen 92 = 8 := by simp [Program.arrayLen, Tryd.underlying92]
  go_enter Tryd.func41, Tryd.ntmps41
  go_wp2
  refine wp_loop_rounds 3 ?_
  rw [rounds_succ]
  go_wp2
  rw [rounds_succ]
  go_wp2
  rw [rounds_succ]
  go_wp2
  rw [conv_alloc w _ _ 77 5 9 Tryd.underlying77 Tryd.underlying5 Tryd.underlying9 2 8 [n % 256, n / 256 % 256] rfl (fun i hi => by match i, hi with | 0, _ => rfl | 1, _ => rfl)]
  go_wp2
  go_ret
  exact ⟨rfl, (Below.refl _ _).alloc (Nat.le_refl _) _⟩
set_option maxHeartbeats 1000000 in
set_option maxRecDepth 100000 in
theorem low4 (n : Int) (w : World) : Calls Tryd.prog 41 #[.int .i64 n, .int .i64 4] w fun e w' => e = .returned (.string (strOfNums [n % 256, n / 256 % 256, n / 65536 % 256, n / 16777216 % 256])) ∧ Below w.heap.size w w' := by
  have hal : Tryd.prog.arrayLen 92 = 8 := by simp [Program.arrayLen, Tryd.underlying92]
  go_enter Tryd.func41, Tryd.ntmps41
  go_wp2
  refine wp_loop_rounds 5 ?_
  rw [rounds_succ]
  go_wp2
  rw [rounds_succ]
  go_wp2
  rw [rounds_succ]
  go_wp2
  rw [rounds_succ]
  go_wp2
  rw [rounds_succ]
  go_wp2
  rw [conv_alloc w _ _ 77 5 9 Tryd.underlying77 Tryd.underlying5 Tryd.underlying9 4 8 [n % 256, n / 256 % 256, n / 65536 % 256, n / 16777216 % 256] rfl (fun i hi => by match i, hi with | 0, _ => rfl | 1, _ => rfl | 2, _ => rfl | 3, _ => rfl)]
  go_wp2
  go_ret
  exact ⟨rfl, (Below.refl _ _).alloc (Nat.le_refl _) _⟩
set_option maxHeartbeats 1000000 in
set_option maxRecDepth 100000 in
theorem low8 (n : Int) (w : World) : Calls Tryd.prog 41 #[.int .i64 n, .int .i64 8] w fun e w' => e = .returned (.string (strOfNums [n % 256, n / 256 % 256, n / 65536 % 256, n / 16777216 % 256, n / 4294967296 % 256, n / 1099511627776 % 256, n / 281474976710656 % 256, n / 72057594037927936 % 256])) ∧ Below w.heap.size w w' := by
  have hal : Tryd.prog.arrayLen 92 = 8 := by simp [Program.arrayLen, Tryd.underlying92]
  go_enter Tryd.func41, Tryd.ntmps41
  go_wp2
  refine wp_loop_rounds 9 ?_
  rw [rounds_succ]
  go_wp2
  rw [rounds_succ]
  go_wp2
  rw [rounds_succ]
  go_wp2
  rw [rounds_succ]
  go_wp2
  rw [rounds_succ]
  go_wp2
  rw [rounds_succ]
  go_wp2
  rw [rounds_succ]
  go_wp2
  rw [rounds_succ]
  go_wp2
  rw [rounds_succ]
  go_wp2
  rw [conv_alloc w _ _ 77 5 9 Tryd.underlying77 Tryd.underlying5 Tryd.underlying9 8 8 [n % 256, n / 256 % 256, n / 65536 % 256, n / 16777216 % 256, n / 4294967296 % 256, n / 1099511627776 % 256, n / 281474976710656 % 256, n / 72057594037927936 % 256] rfl (fun i hi => by match i, hi with | 0, _ => rfl | 1, _ => rfl | 2, _ => rfl | 3, _ => rfl | 4, _ => rfl | 5, _ => rfl | 6, _ => rfl | 7, _ => rfl)]
  go_wp2
  go_ret
  exact ⟨rfl, (Below.refl _ _).alloc (Nat.le_refl _) _⟩
end Go.Proofs.YtlhinklnnjbmpaaDoor.Vw
