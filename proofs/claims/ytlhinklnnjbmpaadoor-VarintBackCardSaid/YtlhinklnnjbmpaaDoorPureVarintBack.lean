/- The law VarintBack, walked: what is written of a number is read back, with anything behind it. -/
import Derived.Test.YtlhinklnnjbmpaaDoorBk
namespace Go.Proofs.YtlhinklnnjbmpaaDoor.Bk
open Go.RowKit Go.Proofs.YtlhinklnnjbmpaaDoor.Vm Go.Proofs.YtlhinklnnjbmpaaDoor.Vw Go.Proofs.YtlhinklnnjbmpaaDoor.Sp Go.Proofs.YtlhinklnnjbmpaaDoorW.PrintWords Go.Proofs.YtlhinklnnjbmpaaDoorW.PrintLast Go.Proofs.YtlhinklnnjbmpaaDoorW.PrintMore Go.Proofs.YtlhinklnnjbmpaaDoor.GA Go.Proofs.YtlhinklnnjbmpaaDoor.GP
set_option linter.unusedVariables false
set_option linter.unusedSimpArgs false
theorem putLen_small (n : Int) : (putLenS n).1.length ≤ 9 := by
  unfold putLenS
  repeat' split
  all_goals simp [be_length]
theorem putInt_small (n : Int) : (putIntS n).1.length ≤ 9 := by
  unfold putIntS
  repeat' split
  all_goals simp [le_length]
theorem walk (n : Int) (z : ByteArray) (w : World) (hE : Aside0 (EnvOK w)) (hn : (Lit.int .i64 n).wf = true) (hz : z.size ≤ 140737488351232) :
    Calls Tryd.prog 6 #[.int .i64 n, .string z] w fun e w' => e = .returned (.bool true) ∧ Below w.heap.size w w' := by
  have hr : -9223372036854775808 ≤ n ∧ n ≤ 9223372036854775807 := by
    have e1 : IntKind.i64.min = -9223372036854775808 := rfl
    have e2 : IntKind.i64.max = 9223372036854775807 := rfl
    simp [Lit.wf, e1, e2] at hn
    omega
  rw [← bs_data z] at hz ⊢
  generalize z.data.toList = zl at *
  have hz' := hz
  rw [bs_size] at hz'
  have p9 : (bs (putLenS n).1).size ≤ 100 := by rw [bs_size]; have := putLen_small n; omega
  have t9 : (bs (putIntS n).1).size ≤ 100 := by rw [bs_size]; have := putInt_small n; omega
  have C1 := fun W => c_PutLen n W
  have C3 := fun W => c_PutInt n W
  have C5 : Aside0 (∀ W, Aside0 (EnvOK W) → Calls Tryd.prog 15 #[.int .i64 n] W fun e w' => e = .returned (.string (bs (Lib.itoa n))) ∧ Below W.heap.size W w') := ⟨fun W hW => c_Digits n hr.1 hr.2 W hW⟩
  have C6 : Aside0 (∀ W, Aside0 (EnvOK W) → Calls Tryd.prog 26 #[.string (bs (Lib.itoa n))] W fun e w' => e = .returned (.tuple #[.int .i64 n, .bool true]) ∧ Below W.heap.size W w') := ⟨fun W hW => by
    have h := c_Number (Lib.itoa n) (by
      unfold Lib.itoa
      split
      · have := dec_len 18 n.natAbs (by omega)
        simp; omega
      · have := dec_len 18 n.toNat (by omega)
        omega) W hW
    rw [numberS_itoa n hr.1 hr.2] at h
    exact h⟩
  have C2 : 0 ≤ n → n ≤ 4611686018427387904 → Aside0 (∀ W, Calls Tryd.prog 22 #[.string (bs (putLenS n).1 ++ bs zl)] W fun e w' => e = .returned (.tuple #[.int .i64 n, .int .i64 ((bs (putLenS n).1).size : Int), .int .i64 0, .int .i64 0]) ∧ Below W.heap.size W w') := fun a b => ⟨fun W => by
    have h := c_Len ((putLenS n).1 ++ zl) W
    rw [lenS_putLenS n zl a b] at h
    rw [bs_append, bs_size]
    exact h⟩
  have C4 : -2147483648 ≤ n → n < 2147483648 → Aside0 (∀ W, Calls Tryd.prog 24 #[.string (bs (putIntS n).1 ++ bs zl)] W fun e w' => e = .returned (.tuple #[.int .i64 n, .int .i64 ((bs (putIntS n).1).size : Int), .int .i64 0]) ∧ Below W.heap.size W w') := fun a b => ⟨fun W => by
    have h := c_Int ((putIntS n).1 ++ zl) (by rw [List.length_append]; have := putInt_small n; omega) W
    rw [intS_putIntS n zl a b] at h
    rw [bs_append, bs_size]
    exact h⟩
  have e1 : (n < 0 ∨ n > 4611686018427387904) → putLenS n = ([], 1) := fun h => by unfold putLenS; rw [if_pos h]
  have e0 : 0 ≤ n → n ≤ 4611686018427387904 → (putLenS n).2 = 0 := fun a b => by
    unfold putLenS
    rw [if_neg (by omega)]
    repeat' split
    all_goals rfl
  have i1 := putIntS_ok n
  have i0 : ¬ (-2147483648 ≤ n ∧ n < 2147483648) → putIntS n = ([], false) := fun h => by
    rw [decide_eq_false h] at i1
    exact Prod.ext (putIntS_none n i1) i1
  have dum : ∀ (s : ByteArray) (a : Array Value) (f : FuncId) (Q : Ending → World → Prop), False → ∀ W, Calls Tryd.prog f a W Q := fun _ _ _ _ h => h.elim
  by_cases r1 : n < -2147483648
  · rw [e1 (by omega)] at C1
    rw [i0 (by omega)] at C3
    exact backA n (bs zl) w hE hz r1 ⟨C1⟩ ⟨C3⟩ C5 C6
  by_cases r2 : n < 0
  · rw [e1 (by omega)] at C1
    rw [decide_eq_true (by omega)] at i1
    rw [i1] at C3
    exact backB n (bs (putIntS n).1) (bs zl) w hE hz t9 (by omega) r2 ⟨C1⟩ ⟨C3⟩ (C4 (by omega) (by omega)) C5 C6
  by_cases r3 : n < 2147483648
  · rw [e0 (by omega) (by omega)] at C1
    rw [decide_eq_true (by omega)] at i1
    rw [i1] at C3
    exact backC n (bs (putLenS n).1) (bs (putIntS n).1) (bs zl) w hE hz p9 t9 (by omega) r3 ⟨C1⟩ (C2 (by omega) (by omega)) ⟨C3⟩ (C4 (by omega) (by omega)) C5 C6
  by_cases r4 : n ≤ 4611686018427387904
  · rw [e0 (by omega) (by omega)] at C1
    rw [i0 (by omega)] at C3
    exact backD n (bs (putLenS n).1) (bs zl) w hE hz p9 (by omega) r4 ⟨C1⟩ (C2 (by omega) (by omega)) ⟨C3⟩ C5 C6
  · rw [e1 (by omega)] at C1
    rw [i0 (by omega)] at C3
    exact backE n (bs zl) w hE hz (by omega) ⟨C1⟩ ⟨C3⟩ C5 C6
end Go.Proofs.YtlhinklnnjbmpaaDoor.Bk
