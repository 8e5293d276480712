/- Plain lists of bytes and the numbers that they are: no program in sight. -/
namespace Go.Proofs.YtlhinklnnjbmpaaDoor.Vm
set_option linter.unusedVariables false
set_option linter.unusedSimpArgs false
abbrev Bs := List UInt8
def by8 (n : Int) : UInt8 := UInt8.ofNat (n % 256).toNat
theorem by8_toNat (n : Int) : ((by8 n).toNat : Int) = n % 256 := by
  have h0 : 0 ≤ n % 256 := Int.emod_nonneg _ (by decide)
  have h1 : n % 256 < 256 := Int.emod_lt_of_pos _ (by decide)
  have : (n % 256).toNat < 256 := by omega
  rw [by8, UInt8.toNat_ofNat_of_lt' this]
  omega
theorem by8_of (b : UInt8) (n : Int) (h : n % 256 = (b.toNat : Int)) : by8 n = b := by
  apply UInt8.toNat_inj.mp
  have := by8_toNat n
  omega
theorem b_lt (b : UInt8) : (b.toNat : Int) < 256 := by have := b.toNat_lt; omega

def be (n : Int) : Nat → Bs
  | 0 => []
  | m + 1 => be (n / 256) m ++ [by8 n]
def le (n : Int) : Nat → Bs
  | 0 => []
  | m + 1 => by8 n :: le (n / 256) m
def val (l : Bs) : Int := l.foldl (fun a b => a * 256 + (b.toNat : Int)) 0
def lval : Bs → Int
  | [] => 0
  | b :: l => (b.toNat : Int) + 256 * lval l

theorem be_length (n : Int) (m : Nat) : (be n m).length = m := by
  induction m generalizing n with
  | zero => rfl
  | succ m ih => simp [be, ih]
theorem le_length (n : Int) (m : Nat) : (le n m).length = m := by
  induction m generalizing n with
  | zero => rfl
  | succ m ih => simp [le, ih]
theorem val_nil : val [] = 0 := rfl
theorem val_snoc (l : Bs) (b : UInt8) : val (l ++ [b]) = val l * 256 + (b.toNat : Int) := by simp [val]
theorem snoc_ind {P : Bs → Prop} (h0 : P []) (h1 : ∀ l b, P l → P (l ++ [b])) (l : Bs) : P l := by
  have : ∀ n (l : Bs), l.length = n → P l := by
    intro n
    induction n with
    | zero => intro l hl; rw [List.eq_nil_of_length_eq_zero hl]; exact h0
    | succ n ih =>
      intro l hl
      have hne : l ≠ [] := by intro h; simp [h] at hl
      rw [← List.dropLast_concat_getLast hne]
      exact h1 _ _ (ih _ (by simp [hl]))
  exact this _ l rfl
theorem val_nonneg (l : Bs) : 0 ≤ val l := by
  induction l using snoc_ind with
  | h0 => simp [val]
  | h1 l b ih => rw [val_snoc]; omega
theorem val_lt (l : Bs) : val l < 256 ^ l.length := by
  induction l using snoc_ind with
  | h0 => simp [val]
  | h1 l b ih =>
    rw [val_snoc, List.length_append, List.length_singleton, Int.pow_succ]
    have := b_lt b
    omega
theorem be_val (l : Bs) : be (val l) l.length = l := by
  induction l using snoc_ind with
  | h0 => rfl
  | h1 l b ih =>
    have hb := b_lt b
    rw [val_snoc, List.length_append, List.length_singleton, be]
    have e1 : (val l * 256 + (b.toNat : Int)) / 256 = val l := by omega
    have e2 : by8 (val l * 256 + (b.toNat : Int)) = b := by8_of _ _ (by omega)
    rw [e1, e2, ih]
theorem val_be (n : Int) (m : Nat) (h0 : 0 ≤ n) (h1 : n < 256 ^ m) : val (be n m) = n := by
  induction m generalizing n with
  | zero => simp at h1; simp [be, val]; omega
  | succ m ih =>
    rw [Int.pow_succ] at h1
    rw [be, val_snoc, ih (n / 256) (by omega) (by omega), by8_toNat]
    omega
theorem lval_nonneg (l : Bs) : 0 ≤ lval l := by
  induction l with
  | nil => simp [lval]
  | cons b l ih => rw [lval]; omega
theorem lval_lt (l : Bs) : lval l < 256 ^ l.length := by
  induction l with
  | nil => simp [lval]
  | cons b l ih => rw [lval, List.length_cons, Int.pow_succ]; have := b_lt b; omega
theorem le_lval (l : Bs) : le (lval l) l.length = l := by
  induction l with
  | nil => rfl
  | cons b l ih =>
    have hb := b_lt b
    rw [lval, List.length_cons, le]
    have e1 : ((b.toNat : Int) + 256 * lval l) / 256 = lval l := by omega
    have e2 : by8 ((b.toNat : Int) + 256 * lval l) = b := by8_of _ _ (by omega)
    rw [e1, e2, ih]
theorem lval_le (n : Int) (m : Nat) : lval (le n m) = n % 256 ^ m := by
  induction m generalizing n with
  | zero => simp [le, lval]
  | succ m ih =>
    rw [le, lval, ih, by8_toNat, Int.pow_succ]
    have h : n % (256 ^ m * 256) = n % 256 + 256 * (n / 256 % 256 ^ m) := by
      rw [Int.mul_comm (256 ^ m) 256]
      have hp : (0 : Int) < 256 ^ m := Int.pow_pos (by decide)
      generalize (256 : Int) ^ m = p at *
      have e := Int.emod_add_mul_ediv n 256
      have e' := Int.emod_add_mul_ediv (n / 256) p
      have h1 : 0 ≤ n % 256 := Int.emod_nonneg _ (by decide)
      have h2 : n % 256 < 256 := Int.emod_lt_of_pos _ (by decide)
      have h3 : 0 ≤ n / 256 % p := Int.emod_nonneg _ (by omega)
      have h4 : n / 256 % p < p := Int.emod_lt_of_pos _ hp
      have hn : n = (n % 256 + 256 * (n / 256 % p)) + (256 * p) * (n / 256 / p) := by
        have : 256 * p * (n / 256 / p) = 256 * (p * (n / 256 / p)) := Int.mul_assoc _ _ _
        omega
      have h5 : n % 256 + 256 * (n / 256 % p) < 256 * p := by omega
      conv => lhs; rw [hn]
      rw [Int.add_mul_emod_self_left, Int.emod_eq_of_lt (by omega) h5]
    rw [h]

/-! The length of P2.1, P2.2. -/
def putLenS (n : Int) : Bs × Int :=
  if n < 0 ∨ n > 4611686018427387904 then ([], 1) else if n < 64 then (be n 1, 0) else if n < 16384 then (be (n + 16384) 2, 0)
  else if n < 4294967296 then (128 :: be n 4, 0) else (129 :: be n 8, 0)
def lenS (l : Bs) : Int × Int × Int × Int :=
  match l with
  | [] => (0, 0, 0, 20)
  | b :: t =>
    if b.toNat < 64 then (b.toNat, 1, 0, 0)
    else if b.toNat < 128 then
      (match t with
      | [] => (0, 0, 0, 20)
      | c :: _ => if ((b.toNat : Int) - 64) * 256 + c.toNat ≥ 64 then (((b.toNat : Int) - 64) * 256 + c.toNat, 2, 0, 0) else (0, 0, 0, 21))
    else if b.toNat = 128 then (if t.length < 4 then (0, 0, 0, 20) else if val (t.take 4) ≥ 16384 then (val (t.take 4), 5, 0, 0) else (0, 0, 0, 21))
    else if b.toNat = 129 then (if t.length < 8 then (0, 0, 0, 20) else if val (t.take 8) ≥ 4294967296 ∧ val (t.take 8) ≤ 4611686018427387904 then (val (t.take 8), 9, 0, 0) else (0, 0, 0, 21))
    else if 192 ≤ b.toNat ∧ b.toNat ≤ 195 then (0, 1, (b.toNat : Int) - 191, 0)
    else (0, 0, 0, 21)
/-- The sign of a number of m bytes. -/
def sgn (n : Int) (m : Nat) : Int := if n * 2 ≥ 256 ^ m then n - 256 ^ m else n
def putIntS (n : Int) : Bs × Bool :=
  if -128 ≤ n ∧ n < 128 then (192 :: le n 1, true) else if -32768 ≤ n ∧ n < 32768 then (193 :: le n 2, true)
  else if -2147483648 ≤ n ∧ n < 2147483648 then (194 :: le n 4, true) else ([], false)
def intS (l : Bs) : Int × Int × Int :=
  match l with
  | [] => (0, 0, 20)
  | b :: t =>
    if b.toNat < 192 ∨ 194 < b.toNat then (0, 0, 21)
    else if t.length < 2 ^ (b.toNat - 192) then (0, 0, 20)
    else if (putIntS (sgn (lval (t.take (2 ^ (b.toNat - 192)))) (2 ^ (b.toNat - 192)))).1 = b :: t.take (2 ^ (b.toNat - 192))
      then (sgn (lval (t.take (2 ^ (b.toNat - 192)))) (2 ^ (b.toNat - 192)), 1 + 2 ^ (b.toNat - 192), 0) else (0, 0, 21)

theorem be1 (n : Int) : be n 1 = [by8 n] := rfl
theorem be2 (n : Int) : be n 2 = [by8 (n / 256), by8 n] := rfl
theorem u8_eq {a b : UInt8} (h : (a.toNat : Int) = b.toNat) : a = b := UInt8.toNat_inj.mp (by omega)

/-- What is written is read back, with anything behind it. -/
theorem lenS_putLenS (n : Int) (z : Bs) (h0 : 0 ≤ n) (h1 : n ≤ 4611686018427387904) : lenS ((putLenS n).1 ++ z) = (n, ((putLenS n).1.length : Int), 0, 0) := by
  unfold putLenS
  rw [if_neg (by omega)]
  by_cases c1 : n < 64
  · rw [if_pos c1]
    have e := by8_toNat n
    simp only [be1, lenS, List.cons_append, List.nil_append]
    rw [if_pos (by omega)]
    simp; omega
  rw [if_neg c1]
  by_cases c2 : n < 16384
  · rw [if_pos c2]
    have e1 := by8_toNat ((n + 16384) / 256)
    have e2 := by8_toNat (n + 16384)
    simp only [be2, lenS, List.cons_append, List.nil_append]
    rw [if_neg (by omega), if_pos (by omega), if_pos (by omega)]
    simp; omega
  rw [if_neg c2]
  by_cases c3 : n < 4294967296
  · rw [if_pos c3]
    have hv := val_be n 4 h0 (by omega)
    have hl := be_length n 4
    have ht : (be n 4 ++ z).take 4 = be n 4 := by rw [List.take_append_of_le_length (by omega), List.take_of_length_le (by omega)]
    simp only [lenS, List.cons_append, ht, hv]
    rw [if_neg (by decide), if_neg (by decide), if_pos (by decide), if_neg (by simp [hl]), if_pos (by omega)]
    simp [hl]
  · rw [if_neg c3]
    have hv := val_be n 8 h0 (by omega)
    have hl := be_length n 8
    have ht : (be n 8 ++ z).take 8 = be n 8 := by rw [List.take_append_of_le_length (by omega), List.take_of_length_le (by omega)]
    simp only [lenS, List.cons_append, ht, hv]
    rw [if_neg (by decide), if_neg (by decide), if_neg (by decide), if_pos (by decide), if_neg (by simp [hl]), if_pos (by omega)]
    simp [hl]

/-- What is read is written again as it was; where it lies. -/
theorem putLenS_lenS (l : Bs) (n m : Int) (h : lenS l = (n, m, 0, 0)) : putLenS n = (l.take m.toNat, 0) ∧ 1 ≤ m ∧ m ≤ l.length ∧ 0 ≤ n ∧ n ≤ 4611686018427387904 := by
  unfold lenS at h
  split at h
  · simp at h
  · rename_i b t
    have hb := b_lt b
    by_cases c1 : b.toNat < 64
    · rw [if_pos c1] at h
      simp only [Prod.mk.injEq] at h
      obtain ⟨rfl, rfl, -, -⟩ := h
      refine ⟨?_, by omega, by simp; omega, by omega, by omega⟩
      unfold putLenS
      rw [if_neg (by omega), if_pos (by omega), be1, by8_of b _ (by omega)]
      simp
    rw [if_neg c1] at h
    by_cases c2 : b.toNat < 128
    · rw [if_pos c2] at h
      split at h
      · simp at h
      · rename_i c t'
        have hc := b_lt c
        split at h
        · rename_i c3
          simp only [Prod.mk.injEq] at h
          obtain ⟨rfl, rfl, -, -⟩ := h
          refine ⟨?_, by omega, by simp; omega, by omega, by omega⟩
          unfold putLenS
          rw [if_neg (by omega), if_neg (by omega), if_pos (by omega), be2, by8_of b _ (by omega), by8_of c _ (by omega)]
          simp
        · simp at h
    rw [if_neg c2] at h
    by_cases c3 : b.toNat = 128
    · rw [if_pos c3] at h
      split at h
      · simp at h
      split at h
      · rename_i c4 c5
        simp only [Prod.mk.injEq] at h
        obtain ⟨rfl, rfl, -, -⟩ := h
        have hlt := val_lt (t.take 4)
        have hl : (t.take 4).length = 4 := by rw [List.length_take]; omega
        rw [hl] at hlt
        refine ⟨?_, by omega, by simp; omega, by omega, by omega⟩
        unfold putLenS
        rw [if_neg (by omega), if_neg (by omega), if_neg (by omega), if_pos (by omega)]
        have hbv := be_val (t.take 4)
        rw [hl] at hbv
        have hb' : b = 128 := UInt8.toNat_inj.mp (by rw [c3]; rfl)
        rw [hbv, hb']; simp
      · simp at h
    rw [if_neg c3] at h
    by_cases c4 : b.toNat = 129
    · rw [if_pos c4] at h
      split at h
      · simp at h
      split at h
      · rename_i c5 c6
        simp only [Prod.mk.injEq] at h
        obtain ⟨rfl, rfl, -, -⟩ := h
        have hl : (t.take 8).length = 8 := by rw [List.length_take]; omega
        refine ⟨?_, by omega, by simp; omega, by omega, by omega⟩
        unfold putLenS
        rw [if_neg (by omega), if_neg (by omega), if_neg (by omega), if_neg (by omega)]
        have hbv := be_val (t.take 8)
        rw [hl] at hbv
        have hb' : b = 129 := UInt8.toNat_inj.mp (by rw [c4]; rfl)
        rw [hbv, hb']; simp
      · simp at h
    rw [if_neg c4] at h
    split at h
    · simp only [Prod.mk.injEq] at h
      omega
    · simp at h
/-- A beginning of what is read is never whole. -/
theorem lenS_short (l : Bs) (n m : Int) (h : lenS l = (n, m, 0, 0)) (i : Nat) (hi : (i : Int) < m) : (lenS (l.take i)).2.2.2 = 20 := by
  unfold lenS at h
  split at h
  · simp at h
  · rename_i b t
    rcases i with _ | i
    · simp [lenS]
    rw [List.take_succ_cons]
    have hb := b_lt b
    by_cases c1 : b.toNat < 64
    · rw [if_pos c1] at h
      simp only [Prod.mk.injEq] at h
      omega
    rw [if_neg c1] at h
    by_cases c2 : b.toNat < 128
    · rw [if_pos c2] at h
      split at h
      · simp at h
      · split at h
        · simp only [Prod.mk.injEq] at h
          have : i = 0 := by omega
          subst this
          simp only [List.take_zero, lenS]
          rw [if_neg c1, if_pos c2]
        · simp at h
    rw [if_neg c2] at h
    by_cases c3 : b.toNat = 128
    · rw [if_pos c3] at h
      simp only [lenS]
      rw [if_neg c1, if_neg c2, if_pos c3]
      split at h
      · simp at h
      split at h
      · simp only [Prod.mk.injEq] at h
        rw [if_pos (by rw [List.length_take]; omega)]
      · simp at h
    rw [if_neg c3] at h
    by_cases c4 : b.toNat = 129
    · rw [if_pos c4] at h
      simp only [lenS]
      rw [if_neg c1, if_neg c2, if_neg c3, if_pos c4]
      split at h
      · simp at h
      split at h
      · simp only [Prod.mk.injEq] at h
        rw [if_pos (by rw [List.length_take]; omega)]
      · simp at h
    rw [if_neg c4] at h
    split at h
    · simp only [Prod.mk.injEq] at h
      omega
    · simp at h
theorem sgn_le (n : Int) (m : Nat) (h0 : -(256 ^ m) ≤ n * 2) (h1 : n * 2 < 256 ^ m) : sgn (lval (le n m)) m = n := by
  rw [lval_le]
  unfold sgn
  have hp : (0 : Int) < 256 ^ m := Int.pow_pos (by decide)
  generalize (256 : Int) ^ m = p at *
  by_cases hn : 0 ≤ n
  · rw [Int.emod_eq_of_lt hn (by omega), if_neg (by omega)]
  · have e : n % p = n + p := by
      rw [← Int.add_emod_right n p, Int.emod_eq_of_lt (by omega) (by omega)]
    rw [e, if_pos (by omega)]; omega
theorem intS_putIntS (n : Int) (z : Bs) (h0 : -2147483648 ≤ n) (h1 : n < 2147483648) : intS ((putIntS n).1 ++ z) = (n, ((putIntS n).1.length : Int), 0) := by
  have key : ∀ (m k : Nat) (b : UInt8), b.toNat = 192 + k → k ≤ 2 → m = 2 ^ k → putIntS n = (b :: le n m, true) → -(256 ^ m) ≤ n * 2 → n * 2 < 256 ^ m → intS ((putIntS n).1 ++ z) = (n, ((putIntS n).1.length : Int), 0) := by
    intro m k b hb hk hm hp ha hc
    have hl := le_length n m
    have ek : b.toNat - 192 = k := by omega
    have ht : (le n m ++ z).take m = le n m := by rw [List.take_append_of_le_length (by omega), List.take_of_length_le (by omega)]
    have hs := sgn_le n m ha hc
    rw [hp]
    simp only [intS, List.cons_append, ek, ← hm, ht, hs, hp]
    rw [if_neg (by omega), if_neg (by rw [List.length_append, hl]; omega), if_pos trivial]
    have e' : ((2 : Int) ^ k) = ((2 ^ k : Nat) : Int) := by simp
    rw [List.length_cons, hl, hm, e']
    simp only [Prod.mk.injEq, and_true, true_and]
    omega
  by_cases c1 : -128 ≤ n ∧ n < 128
  · exact key 1 0 192 rfl (by omega) rfl (by unfold putIntS; rw [if_pos c1]) (by omega) (by omega)
  by_cases c2 : -32768 ≤ n ∧ n < 32768
  · exact key 2 1 193 rfl (by omega) rfl (by unfold putIntS; rw [if_neg c1, if_pos c2]) (by omega) (by omega)
  · exact key 4 2 194 rfl (by omega) rfl (by unfold putIntS; rw [if_neg c1, if_neg c2, if_pos (by omega)]) (by omega) (by omega)
theorem putIntS_ok (n : Int) : (putIntS n).2 = decide (-2147483648 ≤ n ∧ n < 2147483648) := by
  unfold putIntS
  split
  · rw [decide_eq_true (by omega)]
  split
  · rw [decide_eq_true (by omega)]
  split
  · rw [decide_eq_true (by omega)]
  · rw [decide_eq_false (by omega)]
theorem putIntS_none (n : Int) (h : (putIntS n).2 = false) : (putIntS n).1 = [] := by
  rw [putIntS_ok] at h
  have h' := of_decide_eq_false h
  unfold putIntS
  rw [if_neg (by omega), if_neg (by omega), if_neg (by omega)]
theorem intS_back (l : Bs) (n m : Int) (h : intS l = (n, m, 0)) : putIntS n = (l.take m.toNat, true) ∧ 1 ≤ m ∧ m ≤ l.length := by
  unfold intS at h
  split at h
  · simp at h
  · rename_i b t
    split at h
    · simp at h
    split at h
    · simp at h
    split at h
    · rename_i c1 c2 c3
      simp only [Prod.mk.injEq] at h
      obtain ⟨rfl, rfl, -⟩ := h
      generalize hk : b.toNat - 192 = k at *
      have e' : ((2 : Int) ^ k) = ((2 ^ k : Nat) : Int) := by simp
      have hp : 0 < 2 ^ k := Nat.pos_of_ne_zero (by simp)
      rw [e']
      generalize 2 ^ k = p at *
      have e : ((1 : Int) + (p : Int)).toNat = p + 1 := by omega
      refine ⟨?_, by omega, by rw [List.length_cons]; omega⟩
      rw [e, List.take_succ_cons, ← c3]
      generalize sgn (lval (t.take p)) p = x at *
      have : (putIntS x).2 = true := by
        cases h2 : (putIntS x).2 with
        | true => rfl
        | false => have := putIntS_none x h2; rw [this] at c3; simp at c3
      exact Prod.ext rfl this
    · simp at h
end Go.Proofs.YtlhinklnnjbmpaaDoor.Vm
