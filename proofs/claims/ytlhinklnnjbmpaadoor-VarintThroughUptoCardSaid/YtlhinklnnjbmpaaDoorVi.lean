/- The contract of varint.Int. -/
import Derived.Test.YtlhinklnnjbmpaaDoorGPx1
import Derived.Test.YtlhinklnnjbmpaaDoorVw
import Derived.Laws.BitsLemmas
import Derived.Lib.SmallJoins
import Derived.Lib.Split
namespace Go.Proofs.YtlhinklnnjbmpaaDoor.Vw
open Go.RowKit Go.Proofs.YtlhinklnnjbmpaaDoor.Vm Go.Proofs.YtlhinklnnjbmpaaDoorW.PrintWords Go.Proofs.YtlhinklnnjbmpaaDoorW.PrintLast Go.Proofs.YtlhinklnnjbmpaaDoorW.PrintMore Go.Proofs.YtlhinklnnjbmpaaDoor.GP
set_option linter.unusedVariables false
set_option linter.unusedSimpArgs false
theorem ne_of_size (s : ByteArray) (h : 0 < s.size) : (s.toList == ([] : List UInt8)) = false := by
  rw [ByteArray.toList_eq]
  cases e : s.data.toList with
  | nil =>
    have h2 : s.data.toList.length = s.data.size := Array.length_toList
    rw [e] at h2
    have h3 : s.size = s.data.size := rfl
    rw [h3, ← h2] at h
    exact absurd h (Nat.lt_irrefl 0)
  | cons a l => rfl
def n1 (x1 : Int) : Int := wrap64 (IntKind.i8.wrap (bits .or .i64 0 x1))
set_option maxHeartbeats 1000000 in
set_option maxRecDepth 100000 in
theorem int_1_true (s t : ByteArray) (ok : Bool) (x1 : Int) (w : World) (hs : 2 ≤ s.size) (hs2 : s.size ≤ 281474976710656) (h0 : ∀ h : 0 < s.size, ((s[0]'h).toNat : Int) = 192) (h1 : ∀ h : 1 < s.size, ((s[1]'h).toNat : Int) = x1) (l1 : 0 ≤ x1) (u1 : x1 < 256)
    (hP : varint_PutInt.f (n1 x1) = some (t, ok)) (hc : (t.toList == (s.extract 0 2).toList) = true) :
    Calls Tryd.prog 24 #[.string s] w fun e w' => e = .returned (.tuple #[.int .i64 (n1 x1), .int .i64 2, .int .i64 0]) ∧ Below w.heap.size w w' := by
  have hne : (s.toList == ([] : List UInt8)) = false := ne_of_size s (by omega)
  have HP := Aside0.mk hP
  have HC := Aside0.mk hc
  clear hP hc
  have q0 : 0 < s.size := by omega
  have q1 : 1 < s.size := by omega
  have d2 : decide ((s.size : Int) < 2) = false := decide_eq_false (by omega)
  go_enter Tryd.func24, Tryd.ntmps24
  go_wp2
  refine wp_loop_rounds 2 ?_
  rw [rounds_succ]
  go_wp2
  rw [rounds_succ]
  go_wp2_with fail
  refine (varint_PutInt.calls (n1 x1) t ok _ HP.out).mono ?_
  rintro e w1 ⟨rfl, hb⟩
  have Hb := Aside0.mk hb
  clear hb
  have hc := HC.out
  have hc2 : (t.toList != (s.extract 0 2).toList) = false := by rw [bne, hc]; rfl
  go_wp2
  go_ret3
  exact ⟨rfl, Hb.out⟩
set_option maxHeartbeats 1000000 in
set_option maxRecDepth 100000 in
theorem int_1_false (s t : ByteArray) (ok : Bool) (x1 : Int) (w : World) (hs : 2 ≤ s.size) (hs2 : s.size ≤ 281474976710656) (h0 : ∀ h : 0 < s.size, ((s[0]'h).toNat : Int) = 192) (h1 : ∀ h : 1 < s.size, ((s[1]'h).toNat : Int) = x1) (l1 : 0 ≤ x1) (u1 : x1 < 256)
    (hP : varint_PutInt.f (n1 x1) = some (t, ok)) (hc : (t.toList == (s.extract 0 2).toList) = false) :
    Calls Tryd.prog 24 #[.string s] w fun e w' => e = .returned (.tuple #[.int .i64 0, .int .i64 0, .int .i64 21]) ∧ Below w.heap.size w w' := by
  have hne : (s.toList == ([] : List UInt8)) = false := ne_of_size s (by omega)
  have HP := Aside0.mk hP
  have HC := Aside0.mk hc
  clear hP hc
  have q0 : 0 < s.size := by omega
  have q1 : 1 < s.size := by omega
  have d2 : decide ((s.size : Int) < 2) = false := decide_eq_false (by omega)
  go_enter Tryd.func24, Tryd.ntmps24
  go_wp2
  refine wp_loop_rounds 2 ?_
  rw [rounds_succ]
  go_wp2
  rw [rounds_succ]
  go_wp2_with fail
  refine (varint_PutInt.calls (n1 x1) t ok _ HP.out).mono ?_
  rintro e w1 ⟨rfl, hb⟩
  have Hb := Aside0.mk hb
  clear hb
  have hc := HC.out
  have hc2 : (t.toList != (s.extract 0 2).toList) = true := by rw [bne, hc]; rfl
  go_wp2
  go_ret3
  exact ⟨rfl, Hb.out⟩
def n2 (x1 x2 : Int) : Int := wrap64 (IntKind.i16.wrap (bits .or .i64 (wrap64 ((bits .or .i64 0 x2) * 256)) x1))
set_option maxHeartbeats 1000000 in
set_option maxRecDepth 100000 in
theorem int_2_true (s t : ByteArray) (ok : Bool) (x1 x2 : Int) (w : World) (hs : 3 ≤ s.size) (hs2 : s.size ≤ 281474976710656) (h0 : ∀ h : 0 < s.size, ((s[0]'h).toNat : Int) = 193) (h1 : ∀ h : 1 < s.size, ((s[1]'h).toNat : Int) = x1) (l1 : 0 ≤ x1) (u1 : x1 < 256) (h2 : ∀ h : 2 < s.size, ((s[2]'h).toNat : Int) = x2) (l2 : 0 ≤ x2) (u2 : x2 < 256)
    (hP : varint_PutInt.f (n2 x1 x2) = some (t, ok)) (hc : (t.toList == (s.extract 0 3).toList) = true) :
    Calls Tryd.prog 24 #[.string s] w fun e w' => e = .returned (.tuple #[.int .i64 (n2 x1 x2), .int .i64 3, .int .i64 0]) ∧ Below w.heap.size w w' := by
  have hne : (s.toList == ([] : List UInt8)) = false := ne_of_size s (by omega)
  have HP := Aside0.mk hP
  have HC := Aside0.mk hc
  clear hP hc
  have q0 : 0 < s.size := by omega
  have q1 : 1 < s.size := by omega
  have q2 : 2 < s.size := by omega
  have d2 : decide ((s.size : Int) < 3) = false := decide_eq_false (by omega)
  go_enter Tryd.func24, Tryd.ntmps24
  go_wp2
  refine wp_loop_rounds 3 ?_
  rw [rounds_succ]
  go_wp2
  rw [rounds_succ]
  go_wp2
  rw [rounds_succ]
  go_wp2_with fail
  refine (varint_PutInt.calls (n2 x1 x2) t ok _ HP.out).mono ?_
  rintro e w1 ⟨rfl, hb⟩
  have Hb := Aside0.mk hb
  clear hb
  have hc := HC.out
  have hc2 : (t.toList != (s.extract 0 3).toList) = false := by rw [bne, hc]; rfl
  go_wp2
  go_ret3
  exact ⟨rfl, Hb.out⟩
set_option maxHeartbeats 1000000 in
set_option maxRecDepth 100000 in
theorem int_2_false (s t : ByteArray) (ok : Bool) (x1 x2 : Int) (w : World) (hs : 3 ≤ s.size) (hs2 : s.size ≤ 281474976710656) (h0 : ∀ h : 0 < s.size, ((s[0]'h).toNat : Int) = 193) (h1 : ∀ h : 1 < s.size, ((s[1]'h).toNat : Int) = x1) (l1 : 0 ≤ x1) (u1 : x1 < 256) (h2 : ∀ h : 2 < s.size, ((s[2]'h).toNat : Int) = x2) (l2 : 0 ≤ x2) (u2 : x2 < 256)
    (hP : varint_PutInt.f (n2 x1 x2) = some (t, ok)) (hc : (t.toList == (s.extract 0 3).toList) = false) :
    Calls Tryd.prog 24 #[.string s] w fun e w' => e = .returned (.tuple #[.int .i64 0, .int .i64 0, .int .i64 21]) ∧ Below w.heap.size w w' := by
  have hne : (s.toList == ([] : List UInt8)) = false := ne_of_size s (by omega)
  have HP := Aside0.mk hP
  have HC := Aside0.mk hc
  clear hP hc
  have q0 : 0 < s.size := by omega
  have q1 : 1 < s.size := by omega
  have q2 : 2 < s.size := by omega
  have d2 : decide ((s.size : Int) < 3) = false := decide_eq_false (by omega)
  go_enter Tryd.func24, Tryd.ntmps24
  go_wp2
  refine wp_loop_rounds 3 ?_
  rw [rounds_succ]
  go_wp2
  rw [rounds_succ]
  go_wp2
  rw [rounds_succ]
  go_wp2_with fail
  refine (varint_PutInt.calls (n2 x1 x2) t ok _ HP.out).mono ?_
  rintro e w1 ⟨rfl, hb⟩
  have Hb := Aside0.mk hb
  clear hb
  have hc := HC.out
  have hc2 : (t.toList != (s.extract 0 3).toList) = true := by rw [bne, hc]; rfl
  go_wp2
  go_ret3
  exact ⟨rfl, Hb.out⟩
def n4 (x1 x2 x3 x4 : Int) : Int := wrap64 (wrap32 (bits .or .i64 (wrap64 ((bits .or .i64 (wrap64 ((bits .or .i64 (wrap64 ((bits .or .i64 0 x4) * 256)) x3) * 256)) x2) * 256)) x1))
set_option maxHeartbeats 1000000 in
set_option maxRecDepth 100000 in
theorem int_4_true (s t : ByteArray) (ok : Bool) (x1 x2 x3 x4 : Int) (w : World) (hs : 5 ≤ s.size) (hs2 : s.size ≤ 281474976710656) (h0 : ∀ h : 0 < s.size, ((s[0]'h).toNat : Int) = 194) (h1 : ∀ h : 1 < s.size, ((s[1]'h).toNat : Int) = x1) (l1 : 0 ≤ x1) (u1 : x1 < 256) (h2 : ∀ h : 2 < s.size, ((s[2]'h).toNat : Int) = x2) (l2 : 0 ≤ x2) (u2 : x2 < 256) (h3 : ∀ h : 3 < s.size, ((s[3]'h).toNat : Int) = x3) (l3 : 0 ≤ x3) (u3 : x3 < 256) (h4 : ∀ h : 4 < s.size, ((s[4]'h).toNat : Int) = x4) (l4 : 0 ≤ x4) (u4 : x4 < 256)
    (hP : varint_PutInt.f (n4 x1 x2 x3 x4) = some (t, ok)) (hc : (t.toList == (s.extract 0 5).toList) = true) :
    Calls Tryd.prog 24 #[.string s] w fun e w' => e = .returned (.tuple #[.int .i64 (n4 x1 x2 x3 x4), .int .i64 5, .int .i64 0]) ∧ Below w.heap.size w w' := by
  have hne : (s.toList == ([] : List UInt8)) = false := ne_of_size s (by omega)
  have HP := Aside0.mk hP
  have HC := Aside0.mk hc
  clear hP hc
  have q0 : 0 < s.size := by omega
  have q1 : 1 < s.size := by omega
  have q2 : 2 < s.size := by omega
  have q3 : 3 < s.size := by omega
  have q4 : 4 < s.size := by omega
  have d2 : decide ((s.size : Int) < 5) = false := decide_eq_false (by omega)
  go_enter Tryd.func24, Tryd.ntmps24
  go_wp2
  refine wp_loop_rounds 5 ?_
  rw [rounds_succ]
  go_wp2
  rw [rounds_succ]
  go_wp2
  rw [rounds_succ]
  go_wp2
  rw [rounds_succ]
  go_wp2
  rw [rounds_succ]
  go_wp2_with fail
  refine (varint_PutInt.calls (n4 x1 x2 x3 x4) t ok _ HP.out).mono ?_
  rintro e w1 ⟨rfl, hb⟩
  have Hb := Aside0.mk hb
  clear hb
  have hc := HC.out
  have hc2 : (t.toList != (s.extract 0 5).toList) = false := by rw [bne, hc]; rfl
  go_wp2
  go_ret3
  exact ⟨rfl, Hb.out⟩
set_option maxHeartbeats 1000000 in
set_option maxRecDepth 100000 in
theorem int_4_false (s t : ByteArray) (ok : Bool) (x1 x2 x3 x4 : Int) (w : World) (hs : 5 ≤ s.size) (hs2 : s.size ≤ 281474976710656) (h0 : ∀ h : 0 < s.size, ((s[0]'h).toNat : Int) = 194) (h1 : ∀ h : 1 < s.size, ((s[1]'h).toNat : Int) = x1) (l1 : 0 ≤ x1) (u1 : x1 < 256) (h2 : ∀ h : 2 < s.size, ((s[2]'h).toNat : Int) = x2) (l2 : 0 ≤ x2) (u2 : x2 < 256) (h3 : ∀ h : 3 < s.size, ((s[3]'h).toNat : Int) = x3) (l3 : 0 ≤ x3) (u3 : x3 < 256) (h4 : ∀ h : 4 < s.size, ((s[4]'h).toNat : Int) = x4) (l4 : 0 ≤ x4) (u4 : x4 < 256)
    (hP : varint_PutInt.f (n4 x1 x2 x3 x4) = some (t, ok)) (hc : (t.toList == (s.extract 0 5).toList) = false) :
    Calls Tryd.prog 24 #[.string s] w fun e w' => e = .returned (.tuple #[.int .i64 0, .int .i64 0, .int .i64 21]) ∧ Below w.heap.size w w' := by
  have hne : (s.toList == ([] : List UInt8)) = false := ne_of_size s (by omega)
  have HP := Aside0.mk hP
  have HC := Aside0.mk hc
  clear hP hc
  have q0 : 0 < s.size := by omega
  have q1 : 1 < s.size := by omega
  have q2 : 2 < s.size := by omega
  have q3 : 3 < s.size := by omega
  have q4 : 4 < s.size := by omega
  have d2 : decide ((s.size : Int) < 5) = false := decide_eq_false (by omega)
  go_enter Tryd.func24, Tryd.ntmps24
  go_wp2
  refine wp_loop_rounds 5 ?_
  rw [rounds_succ]
  go_wp2
  rw [rounds_succ]
  go_wp2
  rw [rounds_succ]
  go_wp2
  rw [rounds_succ]
  go_wp2
  rw [rounds_succ]
  go_wp2_with fail
  refine (varint_PutInt.calls (n4 x1 x2 x3 x4) t ok _ HP.out).mono ?_
  rintro e w1 ⟨rfl, hb⟩
  have Hb := Aside0.mk hb
  clear hb
  have hc := HC.out
  have hc2 : (t.toList != (s.extract 0 5).toList) = true := by rw [bne, hc]; rfl
  go_wp2
  go_ret3
  exact ⟨rfl, Hb.out⟩
set_option maxHeartbeats 1000000 in
set_option maxRecDepth 100000 in
theorem int_empty (s : ByteArray) (he : (s.toList == ([] : List UInt8)) = true) (w : World) (hs2 : s.size ≤ 281474976710656) :
    Calls Tryd.prog 24 #[.string s] w fun e w' => e = .returned (.tuple #[.int .i64 0, .int .i64 0, .int .i64 20]) ∧ Below w.heap.size w w' := by
  go_enter Tryd.func24, Tryd.ntmps24
  go_wp2
  go_ret3
  exact ⟨rfl, Below.refl _ _⟩
set_option maxHeartbeats 1000000 in
set_option maxRecDepth 100000 in
theorem int_lo (s : ByteArray) (x : Int) (hs : 0 < s.size) (h0 : ∀ h : 0 < s.size, ((s[0]'h).toNat : Int) = x) (l0 : 0 ≤ x) (u0 : x < 192) (w : World) (hs2 : s.size ≤ 281474976710656) :
    Calls Tryd.prog 24 #[.string s] w fun e w' => e = .returned (.tuple #[.int .i64 0, .int .i64 0, .int .i64 21]) ∧ Below w.heap.size w w' := by
  have hne : (s.toList == ([] : List UInt8)) = false := ne_of_size s hs
  go_enter Tryd.func24, Tryd.ntmps24
  go_wp2
  go_ret3
  exact ⟨rfl, Below.refl _ _⟩
set_option maxHeartbeats 1000000 in
set_option maxRecDepth 100000 in
theorem int_hi (s : ByteArray) (x : Int) (hs : 0 < s.size) (h0 : ∀ h : 0 < s.size, ((s[0]'h).toNat : Int) = x) (l0 : 194 < x) (u0 : x < 256) (w : World) (hs2 : s.size ≤ 281474976710656) :
    Calls Tryd.prog 24 #[.string s] w fun e w' => e = .returned (.tuple #[.int .i64 0, .int .i64 0, .int .i64 21]) ∧ Below w.heap.size w w' := by
  have hne : (s.toList == ([] : List UInt8)) = false := ne_of_size s hs
  go_enter Tryd.func24, Tryd.ntmps24
  go_wp2
  go_ret3
  exact ⟨rfl, Below.refl _ _⟩
set_option maxHeartbeats 1000000 in
set_option maxRecDepth 100000 in
theorem int_short1 (s : ByteArray) (hs : 0 < s.size) (h0 : ∀ h : 0 < s.size, ((s[0]'h).toNat : Int) = 192) (hm : s.size < 2) (w : World) (hs2 : s.size ≤ 281474976710656) :
    Calls Tryd.prog 24 #[.string s] w fun e w' => e = .returned (.tuple #[.int .i64 0, .int .i64 0, .int .i64 20]) ∧ Below w.heap.size w w' := by
  have hne : (s.toList == ([] : List UInt8)) = false := ne_of_size s hs
  have d2 : decide ((s.size : Int) < 2) = true := decide_eq_true (by omega)
  go_enter Tryd.func24, Tryd.ntmps24
  go_wp2
  go_ret3
  exact ⟨rfl, Below.refl _ _⟩
set_option maxHeartbeats 1000000 in
set_option maxRecDepth 100000 in
theorem int_short2 (s : ByteArray) (hs : 0 < s.size) (h0 : ∀ h : 0 < s.size, ((s[0]'h).toNat : Int) = 193) (hm : s.size < 3) (w : World) (hs2 : s.size ≤ 281474976710656) :
    Calls Tryd.prog 24 #[.string s] w fun e w' => e = .returned (.tuple #[.int .i64 0, .int .i64 0, .int .i64 20]) ∧ Below w.heap.size w w' := by
  have hne : (s.toList == ([] : List UInt8)) = false := ne_of_size s hs
  have d2 : decide ((s.size : Int) < 3) = true := decide_eq_true (by omega)
  go_enter Tryd.func24, Tryd.ntmps24
  go_wp2
  go_ret3
  exact ⟨rfl, Below.refl _ _⟩
set_option maxHeartbeats 1000000 in
set_option maxRecDepth 100000 in
theorem int_short4 (s : ByteArray) (hs : 0 < s.size) (h0 : ∀ h : 0 < s.size, ((s[0]'h).toNat : Int) = 194) (hm : s.size < 5) (w : World) (hs2 : s.size ≤ 281474976710656) :
    Calls Tryd.prog 24 #[.string s] w fun e w' => e = .returned (.tuple #[.int .i64 0, .int .i64 0, .int .i64 20]) ∧ Below w.heap.size w w' := by
  have hne : (s.toList == ([] : List UInt8)) = false := ne_of_size s hs
  have d2 : decide ((s.size : Int) < 5) = true := decide_eq_true (by omega)
  go_enter Tryd.func24, Tryd.ntmps24
  go_wp2
  go_ret3
  exact ⟨rfl, Below.refl _ _⟩

/-! What stands there, in lists. -/
theorem wrap8 (x : Int) : IntKind.i8.wrap x = (x + 128) % 256 - 128 := by
  simp [IntKind.wrap, IntKind.bits, IntKind.signed]; omega
theorem wrap16 (x : Int) : IntKind.i16.wrap x = (x + 32768) % 65536 - 32768 := by
  simp [IntKind.wrap, IntKind.bits, IntKind.signed]; omega
theorem wraps_i64 (n : Int) (h0 : 0 ≤ n) (h1 : n < 2 ^ 63) : IntKind.i64.wrap n = n := by rw [IntKind.wrap_i64]; omega
theorem or8 (x y : Int) (hx : 0 ≤ x) (hx1 : x < 36028797018963968) (hy : 0 ≤ y) (hy1 : y < 256) : bits .or .i64 (wrap64 (x * 256)) y = x * 256 + y := by
  have e : wrap64 (x * 256) = x * 256 := by unfold wrap64; omega
  rw [e]
  exact bits_join .i64 63 (by decide) wraps_i64 8 (x * 256) y (by omega) (by omega) (by omega) hy (by simpa using hy1) (by omega)
theorem or0 (y : Int) (hy : 0 ≤ y) (hy1 : y < 256) : bits .or .i64 0 y = y := by
  have h := bits_join .i64 63 (by decide) wraps_i64 8 0 y (by omega) (by omega) (by omega) hy (by simpa using hy1) (by omega)
  omega
theorem n1_eq (x : Int) (l : 0 ≤ x) (u : x < 256) : n1 x = sgn (x + 256 * 0) 1 := by
  unfold n1 sgn
  rw [or0 x l u, wrap8]
  split <;> (unfold wrap64; omega)
theorem n2_eq (x1 x2 : Int) (l1 : 0 ≤ x1) (u1 : x1 < 256) (l2 : 0 ≤ x2) (u2 : x2 < 256) : n2 x1 x2 = sgn (x1 + 256 * (x2 + 256 * 0)) 2 := by
  unfold n2 sgn
  rw [or0 x2 l2 u2, or8 x2 x1 l2 (by omega) l1 u1, wrap16]
  split <;> (unfold wrap64; omega)
theorem n4_eq (x1 x2 x3 x4 : Int) (l1 : 0 ≤ x1) (u1 : x1 < 256) (l2 : 0 ≤ x2) (u2 : x2 < 256) (l3 : 0 ≤ x3) (u3 : x3 < 256) (l4 : 0 ≤ x4) (u4 : x4 < 256) :
    n4 x1 x2 x3 x4 = sgn (x1 + 256 * (x2 + 256 * (x3 + 256 * (x4 + 256 * 0)))) 4 := by
  unfold n4 sgn
  rw [or0 x4 l4 u4, or8 x4 x3 l4 (by omega) l3 u3, or8 (x4 * 256 + x3) x2 (by omega) (by omega) l2 u2, or8 ((x4 * 256 + x3) * 256 + x2) x1 (by omega) (by omega) l1 u1]
  split <;> (unfold wrap64 wrap32; omega)

theorem low_f (n m : Int) (h : m = 1 ∨ m = 2 ∨ m = 4 ∨ m = 8) : varint_low.f n m = some ⟨(le n m.toNat).toArray⟩ := by unfold varint_low.f; rw [if_pos h]
theorem high_f (n m : Int) (h : m = 1 ∨ m = 2 ∨ m = 4 ∨ m = 8) : varint_high.f n m = some ⟨(be n m.toNat).toArray⟩ := by unfold varint_high.f; rw [if_pos h]
theorem cat1 (b : UInt8) (l : Bs) : (⟨#[b]⟩ : ByteArray) ++ ⟨l.toArray⟩ = ⟨(b :: l).toArray⟩ := by
  apply WideShapes.bytes_inj
  rw [Joins.data_append]
  simp
theorem size_mk (l : Bs) : (⟨l.toArray⟩ : ByteArray).size = l.length := by simp [ByteArray.size]
theorem varint_PutInt_f (n : Int) : varint_PutInt.f n = some (⟨(putIntS n).1.toArray⟩, (putIntS n).2) := by
  unfold varint_PutInt.f putIntS
  have e8 : (n = wrap64 (IntKind.i8.wrap n)) ↔ (-128 ≤ n ∧ n < 128) := by rw [wrap8]; unfold wrap64; omega
  have e16 : (n = wrap64 (IntKind.i16.wrap n)) ↔ (-32768 ≤ n ∧ n < 32768) := by rw [wrap16]; unfold wrap64; omega
  have e32 : (n = wrap64 (wrap32 n)) ↔ (-2147483648 ≤ n ∧ n < 2147483648) := by unfold wrap64 wrap32; omega
  rw [low_f n 1 (by omega), low_f n 2 (by omega), low_f n 4 (by omega)]
  simp only [e8, e16, e32, Option.bind_some, size_mk, le_length, cat1]
  split
  · rw [if_pos (by decide)]; rfl
  split
  · rw [if_pos (by decide)]; rfl
  split
  · rw [if_pos (by decide)]; rfl
  · rfl
def varint_Int.f (a0 : ByteArray) : Option (Int × Int × Int) := if a0.size ≤ 281474976710656 then some (intS a0.data.toList) else none
theorem list_of (s : ByteArray) : ∀ (k : Nat), k ≤ s.size → ∃ l, s.data.toList.take k = l ∧ l.length = k := fun k hk => ⟨_, rfl, by
  rw [List.length_take, Array.length_toList]
  have : s.size = s.data.size := rfl
  omega⟩
theorem at_i (s : ByteArray) (l z : Bs) (h : s.data.toList = l ++ z) (i : Nat) (b : UInt8) (hb : l[i]? = some b) : ∀ hi : i < s.size, ((s[i]'hi).toNat : Int) = (b.toNat : Int) := by
  intro hi
  have hi' : i < s.data.toList.length := by rw [Array.length_toList]; exact hi
  have e : s[i]'hi = s.data.toList[i]'hi' := rfl
  have e2 : s.data.toList[i]? = some b := by
    rw [h, List.getElem?_append_left (List.getElem?_eq_some_iff.1 hb).1]; exact hb
  rw [e, (List.getElem?_eq_some_iff.1 e2).2]
theorem size_of (s : ByteArray) : s.size = s.data.toList.length := by rw [Array.length_toList]; rfl
theorem ext0 (s : ByteArray) (k : Nat) : (s.extract 0 k).toList = s.data.toList.take k := by rw [ByteArray.toList_eq, Lib.extract_from_zero]
set_option maxHeartbeats 1000000 in
theorem varint_Int.calls (a0 : ByteArray) (r1 r2 r3 : Int) (w : World) (h : varint_Int.f a0 = some (r1, r2, r3)) :
    Calls Tryd.prog 24 #[.string a0] w fun e w' => e = .returned (.tuple #[.int .i64 r1, .int .i64 r2, .int .i64 r3]) ∧ Below w.heap.size w w' := by
  unfold varint_Int.f at h
  split at h
  case isFalse => cases h
  rename_i hl
  simp only [Option.some.injEq] at h
  have hsz := size_of a0
  cases hd : a0.data.toList with
  | nil =>
    rw [hd] at h
    simp only [intS, Prod.mk.injEq] at h
    obtain ⟨rfl, rfl, rfl⟩ := h
    exact int_empty a0 (by rw [ByteArray.toList_eq, hd]; rfl) w hl
  | cons b t =>
    rw [hd] at h hsz
    rw [List.length_cons] at hsz
    have hb := b_lt b
    have g0 := at_i a0 [b] t hd 0 b rfl
    simp only [intS] at h
    by_cases c1 : b.toNat < 192 ∨ 194 < b.toNat
    · rw [if_pos c1] at h
      simp only [Prod.mk.injEq] at h
      obtain ⟨rfl, rfl, rfl⟩ := h
      rcases c1 with c1 | c1
      · exact int_lo a0 b.toNat (by omega) g0 (by omega) (by omega) w hl
      · exact int_hi a0 b.toNat (by omega) g0 (by omega) (by omega) w hl
    rw [if_neg c1] at h
    have hb3 : b.toNat = 192 ∨ b.toNat = 193 ∨ b.toNat = 194 := by omega
    rcases hb3 with e | e | e
    · have g0' : ∀ h : 0 < a0.size, ((a0[0]'h).toNat : Int) = 192 := fun h => (g0 h).trans (by omega)
      rw [e] at h
      simp only [show 192 - 192 = 0 from rfl, Nat.pow_zero] at h
      match t, hsz, hd, h with
      | [], hsz, hd, h =>
        simp only [List.length_nil] at h
        rw [if_pos (by decide)] at h
        simp only [Prod.mk.injEq] at h
        obtain ⟨rfl, rfl, rfl⟩ := h
        exact int_short1 a0 (by omega) g0' (by simp at hsz; omega) w hl
      | x :: t, hsz, hd, h =>
        rw [if_neg (by simp)] at h
        simp only [List.length_cons] at hsz
        simp only [List.take_succ_cons, List.take_zero, lval] at h
        have hx := b_lt x
        have en := n1_eq x.toNat (by omega) hx
        rw [← en] at h
        have hP := varint_PutInt_f (n1 x.toNat)
        have hx0 := ext0 a0 2
        rw [hd] at hx0
        simp only [List.take_succ_cons, List.take_zero] at hx0
        split at h
        · rename_i c2
          simp only [Prod.mk.injEq] at h
          obtain ⟨rfl, rfl, rfl⟩ := h
          exact int_1_true a0 _ _ x.toNat w (by omega) hl g0' (at_i a0 [b, x] t hd 1 x rfl) (by omega) hx hP (by rw [hx0, ByteArray.toList_eq, c2]; simp)
        · rename_i c2
          simp only [Prod.mk.injEq] at h
          obtain ⟨rfl, rfl, rfl⟩ := h
          exact int_1_false a0 _ _ x.toNat w (by omega) hl g0' (at_i a0 [b, x] t hd 1 x rfl) (by omega) hx hP (by rw [hx0, ByteArray.toList_eq]; simpa using c2)
    · have g0' : ∀ h : 0 < a0.size, ((a0[0]'h).toNat : Int) = 193 := fun h => (g0 h).trans (by omega)
      rw [e] at h
      simp only [show 193 - 192 = 1 from rfl, Nat.pow_one] at h
      match t, hsz, hd, h with
      | [], hsz, hd, h | [_], hsz, hd, h =>
        rw [if_pos (by simp)] at h
        simp only [Prod.mk.injEq] at h
        obtain ⟨rfl, rfl, rfl⟩ := h
        exact int_short2 a0 (by omega) g0' (by simp at hsz; omega) w hl
      | x :: y :: t, hsz, hd, h =>
        rw [if_neg (by simp)] at h
        simp only [List.length_cons] at hsz
        simp only [List.take_succ_cons, List.take_zero, lval] at h
        have hx := b_lt x
        have hy := b_lt y
        have en := n2_eq x.toNat y.toNat (by omega) hx (by omega) hy
        rw [← en] at h
        have hP := varint_PutInt_f (n2 x.toNat y.toNat)
        have hx0 := ext0 a0 3
        rw [hd] at hx0
        simp only [List.take_succ_cons, List.take_zero] at hx0
        split at h
        · rename_i c2
          simp only [Prod.mk.injEq] at h
          obtain ⟨rfl, rfl, rfl⟩ := h
          exact int_2_true a0 _ _ x.toNat y.toNat w (by omega) hl g0' (at_i a0 [b, x, y] t hd 1 x rfl) (by omega) hx (at_i a0 [b, x, y] t hd 2 y rfl) (by omega) hy hP (by rw [hx0, ByteArray.toList_eq, c2]; simp)
        · rename_i c2
          simp only [Prod.mk.injEq] at h
          obtain ⟨rfl, rfl, rfl⟩ := h
          exact int_2_false a0 _ _ x.toNat y.toNat w (by omega) hl g0' (at_i a0 [b, x, y] t hd 1 x rfl) (by omega) hx (at_i a0 [b, x, y] t hd 2 y rfl) (by omega) hy hP (by rw [hx0, ByteArray.toList_eq]; simpa using c2)
    · have g0' : ∀ h : 0 < a0.size, ((a0[0]'h).toNat : Int) = 194 := fun h => (g0 h).trans (by omega)
      rw [e] at h
      simp only [show 194 - 192 = 2 from rfl, show 2 ^ 2 = 4 from rfl] at h
      match t, hsz, hd, h with
      | [], hsz, hd, h | [_], hsz, hd, h | [_, _], hsz, hd, h | [_, _, _], hsz, hd, h =>
        rw [if_pos (by simp)] at h
        simp only [Prod.mk.injEq] at h
        obtain ⟨rfl, rfl, rfl⟩ := h
        exact int_short4 a0 (by omega) g0' (by simp at hsz; omega) w hl
      | x :: y :: z :: v :: t, hsz, hd, h =>
        rw [if_neg (by simp)] at h
        simp only [List.length_cons] at hsz
        simp only [List.take_succ_cons, List.take_zero, lval] at h
        have hx := b_lt x
        have hy := b_lt y
        have hz := b_lt z
        have hv := b_lt v
        have en := n4_eq x.toNat y.toNat z.toNat v.toNat (by omega) hx (by omega) hy (by omega) hz (by omega) hv
        rw [← en] at h
        have hP := varint_PutInt_f (n4 x.toNat y.toNat z.toNat v.toNat)
        have hx0 := ext0 a0 5
        rw [hd] at hx0
        simp only [List.take_succ_cons, List.take_zero] at hx0
        split at h
        · rename_i c2
          simp only [Prod.mk.injEq] at h
          obtain ⟨rfl, rfl, rfl⟩ := h
          exact int_4_true a0 _ _ x.toNat y.toNat z.toNat v.toNat w (by omega) hl g0' (at_i a0 [b, x, y, z, v] t hd 1 x rfl) (by omega) hx (at_i a0 [b, x, y, z, v] t hd 2 y rfl) (by omega) hy (at_i a0 [b, x, y, z, v] t hd 3 z rfl) (by omega) hz (at_i a0 [b, x, y, z, v] t hd 4 v rfl) (by omega) hv hP (by rw [hx0, ByteArray.toList_eq, c2]; simp)
        · rename_i c2
          simp only [Prod.mk.injEq] at h
          obtain ⟨rfl, rfl, rfl⟩ := h
          exact int_4_false a0 _ _ x.toNat y.toNat z.toNat v.toNat w (by omega) hl g0' (at_i a0 [b, x, y, z, v] t hd 1 x rfl) (by omega) hx (at_i a0 [b, x, y, z, v] t hd 2 y rfl) (by omega) hy (at_i a0 [b, x, y, z, v] t hd 3 z rfl) (by omega) hz (at_i a0 [b, x, y, z, v] t hd 4 v rfl) (by omega) hv hP (by rw [hx0, ByteArray.toList_eq]; simpa using c2)
end Go.Proofs.YtlhinklnnjbmpaaDoor.Vw
