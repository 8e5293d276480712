/- The walk of VarintBack. -/
import Derived.Test.YtlhinklnnjbmpaaDoorSr
namespace Go.Proofs.YtlhinklnnjbmpaaDoor.Bk
open Go.RowKit Go.Proofs.YtlhinklnnjbmpaaDoor.Vm Go.Proofs.YtlhinklnnjbmpaaDoor.Vw Go.Proofs.YtlhinklnnjbmpaaDoor.Sp Go.Proofs.YtlhinklnnjbmpaaDoorW.PrintWords Go.Proofs.YtlhinklnnjbmpaaDoorW.PrintLast Go.Proofs.YtlhinklnnjbmpaaDoorW.PrintMore Go.Proofs.YtlhinklnnjbmpaaDoor.GA Go.Proofs.YtlhinklnnjbmpaaDoor.GP
set_option linter.unusedVariables false
set_option linter.unusedSimpArgs false
/-! The callees, each at what it answers. -/
theorem c_PutLen (n : Int) (w : World) : Calls Tryd.prog 10 #[.int .i64 n] w fun e w' => e = .returned (.tuple #[.string (bs (putLenS n).1), .int .i64 (putLenS n).2]) ∧ Below w.heap.size w w' :=
  varint_PutLen.calls 1 n _ _ w (varint_PutLen_f n 1 (by decide))
theorem c_Len (l : Bs) (w : World) : Calls Tryd.prog 22 #[.string (bs l)] w fun e w' => e = .returned (.tuple #[.int .i64 (lenS l).1, .int .i64 (lenS l).2.1, .int .i64 (lenS l).2.2.1, .int .i64 (lenS l).2.2.2]) ∧ Below w.heap.size w w' :=
  (varint_Len.calls 12 (bs l) _ _ _ _ w (varint_Len_f l 12 (by decide))).mono fun e w' ⟨h, d⟩ => ⟨h, d.below⟩
theorem c_PutInt (n : Int) (w : World) : Calls Tryd.prog 12 #[.int .i64 n] w fun e w' => e = .returned (.tuple #[.string (bs (putIntS n).1), .bool (putIntS n).2]) ∧ Below w.heap.size w w' :=
  varint_PutInt.calls n _ _ w (varint_PutInt_f n)
theorem c_Int (l : Bs) (hl : l.length ≤ 281474976710656) (w : World) : Calls Tryd.prog 24 #[.string (bs l)] w fun e w' => e = .returned (.tuple #[.int .i64 (intS l).1, .int .i64 (intS l).2.1, .int .i64 (intS l).2.2]) ∧ Below w.heap.size w w' :=
  varint_Int.calls (bs l) _ _ _ w (by unfold varint_Int.f; rw [if_pos (by rw [bs_size]; exact hl)])
theorem c_Digits (n : Int) (h0 : -9223372036854775808 ≤ n) (h1 : n ≤ 9223372036854775807) (w : World) (hE : Aside0 (EnvOK w)) : Calls Tryd.prog 15 #[.int .i64 n] w fun e w' => e = .returned (.string (bs (Lib.itoa n))) ∧ Below w.heap.size w w' :=
  varint_Digits.calls n _ w (Digits_f n h0 h1) hE
theorem c_Number (l : Bs) (hl : l.length ≤ 140737488351232) (w : World) (hE : Aside0 (EnvOK w)) : Calls Tryd.prog 26 #[.string (bs l)] w fun e w' => e = .returned (.tuple #[.int .i64 (numberS l).1, .bool (numberS l).2]) ∧ Below w.heap.size w w' :=
  varint_Number.calls (bs l) _ _ w (Number_f l hl) hE
theorem c_works (w : World) (hE : Aside0 (EnvOK w)) : Calls Tryd.prog 14 #[] w fun e w' => e = .returned (.bool true) ∧ Below w.heap.size w w' :=
  cisternlaw02_works.calls 14 true w (works_f 14 (by decide)) hE
set_option maxHeartbeats 1000000 in
set_option maxRecDepth 100000 in
theorem backA (n : Int) (z : ByteArray) {d : ByteArray} (w : World) (hE : Aside0 (EnvOK w)) (hz : z.size ≤ 140737488351232) (h0 : n < -2147483648)
    (C1 : Aside0 (∀ W, Calls Tryd.prog 10 #[.int .i64 n] W fun e w' => e = .returned (.tuple #[.string (⟨#[]⟩ : ByteArray), .int .i64 1]) ∧ Below W.heap.size W w'))
    (C3 : Aside0 (∀ W, Calls Tryd.prog 12 #[.int .i64 n] W fun e w' => e = .returned (.tuple #[.string (⟨#[]⟩ : ByteArray), .bool false]) ∧ Below W.heap.size W w'))
    (C5 : Aside0 (∀ W, Aside0 (EnvOK W) → Calls Tryd.prog 15 #[.int .i64 n] W fun e w' => e = .returned (.string d) ∧ Below W.heap.size W w'))
    (C6 : Aside0 (∀ W, Aside0 (EnvOK W) → Calls Tryd.prog 26 #[.string d] W fun e w' => e = .returned (.tuple #[.int .i64 n, .bool true]) ∧ Below W.heap.size W w')) :
    Calls Tryd.prog 6 #[.int .i64 n, .string z] w fun e w' => e = .returned (.bool true) ∧ Below w.heap.size w w' := by
  have d23 : decide (n ≤ 4611686018427387904) = true := decide_eq_true (by omega)
  have d5 : decide (0 ≤ n) = false := decide_eq_false (by omega)
  have d15 : decide (-2147483648 ≤ n) = false := decide_eq_false (by omega)
  have d14 : decide (n < 2147483648) = true := decide_eq_true (by omega)
  go_enter Tryd.func6, Tryd.ntmps6
  go_wp2_with fail
  refine (C1.out _).mono ?_
  rintro e w1 ⟨rfl, hb⟩
  have Hb := Aside0.mk hb
  clear hb
  go_wp2_with fail
  refine (C3.out _).mono ?_
  rintro e w1 ⟨rfl, hb⟩
  have Hb1 := Aside0.mk (below_step Hb.out hb)
  clear Hb
  have Hb := Hb1
  clear Hb1
  clear hb
  go_wp2_with fail
  refine (C5.out _ (EnvOK.stays hE (Hb.out))).mono ?_
  rintro e w1 ⟨rfl, hb⟩
  have Hb1 := Aside0.mk (below_step Hb.out hb)
  clear Hb
  have Hb := Hb1
  clear Hb1
  clear hb
  go_wp2_with fail
  refine (C6.out _ (EnvOK.stays hE (Hb.out))).mono ?_
  rintro e w1 ⟨rfl, hb⟩
  have Hb1 := Aside0.mk (below_step Hb.out hb)
  clear Hb
  have Hb := Hb1
  clear Hb1
  clear hb
  go_wp2_with fail
  refine (c_works _ (EnvOK.stays hE (Hb.out))).mono ?_
  rintro e w1 ⟨rfl, hb⟩
  have Hb1 := Aside0.mk (below_step Hb.out hb)
  clear hb
  go_wp2
  go_ret
  exact ⟨rfl, Hb1.out⟩
set_option maxHeartbeats 1000000 in
set_option maxRecDepth 100000 in
theorem backB (n : Int) (t z : ByteArray) {d : ByteArray} (w : World) (hE : Aside0 (EnvOK w)) (hz : z.size ≤ 140737488351232) (ht : t.size ≤ 100) (h0 : -2147483648 ≤ n) (h1 : n < 0)
    (C1 : Aside0 (∀ W, Calls Tryd.prog 10 #[.int .i64 n] W fun e w' => e = .returned (.tuple #[.string (⟨#[]⟩ : ByteArray), .int .i64 1]) ∧ Below W.heap.size W w'))
    (C3 : Aside0 (∀ W, Calls Tryd.prog 12 #[.int .i64 n] W fun e w' => e = .returned (.tuple #[.string t, .bool true]) ∧ Below W.heap.size W w'))
    (C4 : Aside0 (∀ W, Calls Tryd.prog 24 #[.string (t ++ z)] W fun e w' => e = .returned (.tuple #[.int .i64 n, .int .i64 (t.size : Int), .int .i64 0]) ∧ Below W.heap.size W w'))
    (C5 : Aside0 (∀ W, Aside0 (EnvOK W) → Calls Tryd.prog 15 #[.int .i64 n] W fun e w' => e = .returned (.string d) ∧ Below W.heap.size W w'))
    (C6 : Aside0 (∀ W, Aside0 (EnvOK W) → Calls Tryd.prog 26 #[.string d] W fun e w' => e = .returned (.tuple #[.int .i64 n, .bool true]) ∧ Below W.heap.size W w')) :
    Calls Tryd.prog 6 #[.int .i64 n, .string z] w fun e w' => e = .returned (.bool true) ∧ Below w.heap.size w w' := by
  have d23 : decide (n ≤ 4611686018427387904) = true := decide_eq_true (by omega)
  have d5 : decide (0 ≤ n) = false := decide_eq_false (by omega)
  have d15 : decide (-2147483648 ≤ n) = true := decide_eq_true (by omega)
  have d14 : decide (n < 2147483648) = true := decide_eq_true (by omega)
  go_enter Tryd.func6, Tryd.ntmps6
  go_wp2_with fail
  refine (C1.out _).mono ?_
  rintro e w1 ⟨rfl, hb⟩
  have Hb := Aside0.mk hb
  clear hb
  go_wp2_with fail
  refine (C3.out _).mono ?_
  rintro e w1 ⟨rfl, hb⟩
  have Hb1 := Aside0.mk (below_step Hb.out hb)
  clear Hb
  have Hb := Hb1
  clear Hb1
  clear hb
  go_wp2_with fail
  refine (C4.out _).mono ?_
  rintro e w1 ⟨rfl, hb⟩
  have Hb1 := Aside0.mk (below_step Hb.out hb)
  clear Hb
  have Hb := Hb1
  clear Hb1
  clear hb
  go_wp2_with fail
  refine (C5.out _ (EnvOK.stays hE (Hb.out))).mono ?_
  rintro e w1 ⟨rfl, hb⟩
  have Hb1 := Aside0.mk (below_step Hb.out hb)
  clear Hb
  have Hb := Hb1
  clear Hb1
  clear hb
  go_wp2_with fail
  refine (C6.out _ (EnvOK.stays hE (Hb.out))).mono ?_
  rintro e w1 ⟨rfl, hb⟩
  have Hb1 := Aside0.mk (below_step Hb.out hb)
  clear Hb
  have Hb := Hb1
  clear Hb1
  clear hb
  go_wp2_with fail
  refine (c_works _ (EnvOK.stays hE (Hb.out))).mono ?_
  rintro e w1 ⟨rfl, hb⟩
  have Hb1 := Aside0.mk (below_step Hb.out hb)
  clear hb
  go_wp2
  go_ret
  exact ⟨rfl, Hb1.out⟩
set_option maxHeartbeats 1000000 in
set_option maxRecDepth 100000 in
theorem backC (n : Int) (p t z : ByteArray) {d : ByteArray} (w : World) (hE : Aside0 (EnvOK w)) (hz : z.size ≤ 140737488351232) (hp : p.size ≤ 100) (ht : t.size ≤ 100) (h0 : 0 ≤ n) (h1 : n < 2147483648)
    (C1 : Aside0 (∀ W, Calls Tryd.prog 10 #[.int .i64 n] W fun e w' => e = .returned (.tuple #[.string p, .int .i64 0]) ∧ Below W.heap.size W w'))
    (C2 : Aside0 (∀ W, Calls Tryd.prog 22 #[.string (p ++ z)] W fun e w' => e = .returned (.tuple #[.int .i64 n, .int .i64 (p.size : Int), .int .i64 0, .int .i64 0]) ∧ Below W.heap.size W w'))
    (C3 : Aside0 (∀ W, Calls Tryd.prog 12 #[.int .i64 n] W fun e w' => e = .returned (.tuple #[.string t, .bool true]) ∧ Below W.heap.size W w'))
    (C4 : Aside0 (∀ W, Calls Tryd.prog 24 #[.string (t ++ z)] W fun e w' => e = .returned (.tuple #[.int .i64 n, .int .i64 (t.size : Int), .int .i64 0]) ∧ Below W.heap.size W w'))
    (C5 : Aside0 (∀ W, Aside0 (EnvOK W) → Calls Tryd.prog 15 #[.int .i64 n] W fun e w' => e = .returned (.string d) ∧ Below W.heap.size W w'))
    (C6 : Aside0 (∀ W, Aside0 (EnvOK W) → Calls Tryd.prog 26 #[.string d] W fun e w' => e = .returned (.tuple #[.int .i64 n, .bool true]) ∧ Below W.heap.size W w')) :
    Calls Tryd.prog 6 #[.int .i64 n, .string z] w fun e w' => e = .returned (.bool true) ∧ Below w.heap.size w w' := by
  have d23 : decide (n ≤ 4611686018427387904) = true := decide_eq_true (by omega)
  have d5 : decide (0 ≤ n) = true := decide_eq_true (by omega)
  have d15 : decide (-2147483648 ≤ n) = true := decide_eq_true (by omega)
  have d14 : decide (n < 2147483648) = true := decide_eq_true (by omega)
  go_enter Tryd.func6, Tryd.ntmps6
  go_wp2_with fail
  refine (C1.out _).mono ?_
  rintro e w1 ⟨rfl, hb⟩
  have Hb := Aside0.mk hb
  clear hb
  go_wp2_with fail
  refine (C2.out _).mono ?_
  rintro e w1 ⟨rfl, hb⟩
  have Hb1 := Aside0.mk (below_step Hb.out hb)
  clear Hb
  have Hb := Hb1
  clear Hb1
  clear hb
  go_wp2_with fail
  refine (C3.out _).mono ?_
  rintro e w1 ⟨rfl, hb⟩
  have Hb1 := Aside0.mk (below_step Hb.out hb)
  clear Hb
  have Hb := Hb1
  clear Hb1
  clear hb
  go_wp2_with fail
  refine (C4.out _).mono ?_
  rintro e w1 ⟨rfl, hb⟩
  have Hb1 := Aside0.mk (below_step Hb.out hb)
  clear Hb
  have Hb := Hb1
  clear Hb1
  clear hb
  go_wp2_with fail
  refine (C5.out _ (EnvOK.stays hE (Hb.out))).mono ?_
  rintro e w1 ⟨rfl, hb⟩
  have Hb1 := Aside0.mk (below_step Hb.out hb)
  clear Hb
  have Hb := Hb1
  clear Hb1
  clear hb
  go_wp2_with fail
  refine (C6.out _ (EnvOK.stays hE (Hb.out))).mono ?_
  rintro e w1 ⟨rfl, hb⟩
  have Hb1 := Aside0.mk (below_step Hb.out hb)
  clear Hb
  have Hb := Hb1
  clear Hb1
  clear hb
  go_wp2_with fail
  refine (c_works _ (EnvOK.stays hE (Hb.out))).mono ?_
  rintro e w1 ⟨rfl, hb⟩
  have Hb1 := Aside0.mk (below_step Hb.out hb)
  clear hb
  go_wp2
  go_ret
  exact ⟨rfl, Hb1.out⟩
set_option maxHeartbeats 1000000 in
set_option maxRecDepth 100000 in
theorem backD (n : Int) (p z : ByteArray) {d : ByteArray} (w : World) (hE : Aside0 (EnvOK w)) (hz : z.size ≤ 140737488351232) (hp : p.size ≤ 100) (h0 : 2147483648 ≤ n) (h1 : n ≤ 4611686018427387904)
    (C1 : Aside0 (∀ W, Calls Tryd.prog 10 #[.int .i64 n] W fun e w' => e = .returned (.tuple #[.string p, .int .i64 0]) ∧ Below W.heap.size W w'))
    (C2 : Aside0 (∀ W, Calls Tryd.prog 22 #[.string (p ++ z)] W fun e w' => e = .returned (.tuple #[.int .i64 n, .int .i64 (p.size : Int), .int .i64 0, .int .i64 0]) ∧ Below W.heap.size W w'))
    (C3 : Aside0 (∀ W, Calls Tryd.prog 12 #[.int .i64 n] W fun e w' => e = .returned (.tuple #[.string (⟨#[]⟩ : ByteArray), .bool false]) ∧ Below W.heap.size W w'))
    (C5 : Aside0 (∀ W, Aside0 (EnvOK W) → Calls Tryd.prog 15 #[.int .i64 n] W fun e w' => e = .returned (.string d) ∧ Below W.heap.size W w'))
    (C6 : Aside0 (∀ W, Aside0 (EnvOK W) → Calls Tryd.prog 26 #[.string d] W fun e w' => e = .returned (.tuple #[.int .i64 n, .bool true]) ∧ Below W.heap.size W w')) :
    Calls Tryd.prog 6 #[.int .i64 n, .string z] w fun e w' => e = .returned (.bool true) ∧ Below w.heap.size w w' := by
  have d23 : decide (n ≤ 4611686018427387904) = true := decide_eq_true (by omega)
  have d5 : decide (0 ≤ n) = true := decide_eq_true (by omega)
  have d15 : decide (-2147483648 ≤ n) = true := decide_eq_true (by omega)
  have d14 : decide (n < 2147483648) = false := decide_eq_false (by omega)
  go_enter Tryd.func6, Tryd.ntmps6
  go_wp2_with fail
  refine (C1.out _).mono ?_
  rintro e w1 ⟨rfl, hb⟩
  have Hb := Aside0.mk hb
  clear hb
  go_wp2_with fail
  refine (C2.out _).mono ?_
  rintro e w1 ⟨rfl, hb⟩
  have Hb1 := Aside0.mk (below_step Hb.out hb)
  clear Hb
  have Hb := Hb1
  clear Hb1
  clear hb
  go_wp2_with fail
  refine (C3.out _).mono ?_
  rintro e w1 ⟨rfl, hb⟩
  have Hb1 := Aside0.mk (below_step Hb.out hb)
  clear Hb
  have Hb := Hb1
  clear Hb1
  clear hb
  go_wp2_with fail
  refine (C5.out _ (EnvOK.stays hE (Hb.out))).mono ?_
  rintro e w1 ⟨rfl, hb⟩
  have Hb1 := Aside0.mk (below_step Hb.out hb)
  clear Hb
  have Hb := Hb1
  clear Hb1
  clear hb
  go_wp2_with fail
  refine (C6.out _ (EnvOK.stays hE (Hb.out))).mono ?_
  rintro e w1 ⟨rfl, hb⟩
  have Hb1 := Aside0.mk (below_step Hb.out hb)
  clear Hb
  have Hb := Hb1
  clear Hb1
  clear hb
  go_wp2_with fail
  refine (c_works _ (EnvOK.stays hE (Hb.out))).mono ?_
  rintro e w1 ⟨rfl, hb⟩
  have Hb1 := Aside0.mk (below_step Hb.out hb)
  clear hb
  go_wp2
  go_ret
  exact ⟨rfl, Hb1.out⟩
set_option maxHeartbeats 1000000 in
set_option maxRecDepth 100000 in
theorem backE (n : Int) (z : ByteArray) {d : ByteArray} (w : World) (hE : Aside0 (EnvOK w)) (hz : z.size ≤ 140737488351232) (h0 : 4611686018427387904 < n)
    (C1 : Aside0 (∀ W, Calls Tryd.prog 10 #[.int .i64 n] W fun e w' => e = .returned (.tuple #[.string (⟨#[]⟩ : ByteArray), .int .i64 1]) ∧ Below W.heap.size W w'))
    (C3 : Aside0 (∀ W, Calls Tryd.prog 12 #[.int .i64 n] W fun e w' => e = .returned (.tuple #[.string (⟨#[]⟩ : ByteArray), .bool false]) ∧ Below W.heap.size W w'))
    (C5 : Aside0 (∀ W, Aside0 (EnvOK W) → Calls Tryd.prog 15 #[.int .i64 n] W fun e w' => e = .returned (.string d) ∧ Below W.heap.size W w'))
    (C6 : Aside0 (∀ W, Aside0 (EnvOK W) → Calls Tryd.prog 26 #[.string d] W fun e w' => e = .returned (.tuple #[.int .i64 n, .bool true]) ∧ Below W.heap.size W w')) :
    Calls Tryd.prog 6 #[.int .i64 n, .string z] w fun e w' => e = .returned (.bool true) ∧ Below w.heap.size w w' := by
  have d23 : decide (n ≤ 4611686018427387904) = false := decide_eq_false (by omega)
  have d5 : decide (0 ≤ n) = true := decide_eq_true (by omega)
  have d15 : decide (-2147483648 ≤ n) = true := decide_eq_true (by omega)
  have d14 : decide (n < 2147483648) = false := decide_eq_false (by omega)
  go_enter Tryd.func6, Tryd.ntmps6
  go_wp2_with fail
  refine (C1.out _).mono ?_
  rintro e w1 ⟨rfl, hb⟩
  have Hb := Aside0.mk hb
  clear hb
  go_wp2_with fail
  refine (C3.out _).mono ?_
  rintro e w1 ⟨rfl, hb⟩
  have Hb1 := Aside0.mk (below_step Hb.out hb)
  clear Hb
  have Hb := Hb1
  clear Hb1
  clear hb
  go_wp2_with fail
  refine (C5.out _ (EnvOK.stays hE (Hb.out))).mono ?_
  rintro e w1 ⟨rfl, hb⟩
  have Hb1 := Aside0.mk (below_step Hb.out hb)
  clear Hb
  have Hb := Hb1
  clear Hb1
  clear hb
  go_wp2_with fail
  refine (C6.out _ (EnvOK.stays hE (Hb.out))).mono ?_
  rintro e w1 ⟨rfl, hb⟩
  have Hb1 := Aside0.mk (below_step Hb.out hb)
  clear Hb
  have Hb := Hb1
  clear Hb1
  clear hb
  go_wp2_with fail
  refine (c_works _ (EnvOK.stays hE (Hb.out))).mono ?_
  rintro e w1 ⟨rfl, hb⟩
  have Hb1 := Aside0.mk (below_step Hb.out hb)
  clear hb
  go_wp2
  go_ret
  exact ⟨rfl, Hb1.out⟩
end Go.Proofs.YtlhinklnnjbmpaaDoor.Bk
