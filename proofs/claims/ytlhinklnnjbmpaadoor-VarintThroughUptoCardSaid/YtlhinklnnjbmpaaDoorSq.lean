/- What the printed functions answer: numbers' texts and forms. -/
import Derived.Test.YtlhinklnnjbmpaaDoorSp
namespace Go.Proofs.YtlhinklnnjbmpaaDoor.Sp
open Go.RowKit Go.Proofs.YtlhinklnnjbmpaaDoor.Vm Go.Proofs.YtlhinklnnjbmpaaDoor.Vw Go.Proofs.YtlhinklnnjbmpaaDoorW.PrintWords Go.Proofs.YtlhinklnnjbmpaaDoorW.PrintLast Go.Proofs.YtlhinklnnjbmpaaDoorW.PrintMore Go.Proofs.YtlhinklnnjbmpaaDoor.GA Go.Proofs.YtlhinklnnjbmpaaDoor.GP
set_option linter.unusedVariables false
set_option linter.unusedSimpArgs false
/-! ### decimal digits -/
theorem dig_toNat (x : Nat) (h : x < 10) : (UInt8.ofNat (48 + x)).toNat = 48 + x := UInt8.toNat_ofNat_of_lt' (by simp [UInt8.size]; omega)
theorem dec_small {u : Nat} (h : u < 10) : Lib.decDigits u = [UInt8.ofNat (48 + u)] := by rw [Lib.decDigits, dif_pos h]
theorem dec_big {u : Nat} (h : ¬ u < 10) : Lib.decDigits u = Lib.decDigits (u / 10) ++ [UInt8.ofNat (48 + u % 10)] := by rw [Lib.decDigits, dif_neg h]
theorem parse_dec (u : Nat) : ∀ r, u < 18446744073709551616 → Lib.parseUint10 0 (Lib.decDigits u ++ r) = Lib.parseUint10 u r := by
  induction u using Nat.strongRecOn with
  | _ u ih =>
    intro r hu
    by_cases h : u < 10
    · rw [dec_small h, List.singleton_append, Lib.parseUint10, dig_toNat u h, if_pos (by omega), if_neg (by omega), if_neg (by omega)]
      congr 1
      omega
    · rw [dec_big h, List.append_assoc, ih (u / 10) (by omega) _ (by omega), List.singleton_append, Lib.parseUint10, dig_toNat _ (by omega), if_pos (by omega), if_neg (by omega), if_neg (by omega)]
      congr 1
      omega
theorem dec_head (u : Nat) : ∃ c r, Lib.decDigits u = c :: r ∧ 48 ≤ c.toNat ∧ c.toNat ≤ 57 := by
  induction u using Nat.strongRecOn with
  | _ u ih =>
    by_cases h : u < 10
    · exact ⟨_, _, dec_small h, by rw [dig_toNat u h]; omega, by rw [dig_toNat u h]; omega⟩
    · obtain ⟨c, r, e, h1, h2⟩ := ih (u / 10) (by omega)
      exact ⟨c, r ++ [UInt8.ofNat (48 + u % 10)], by rw [dec_big h, e, List.cons_append], h1, h2⟩
theorem dec_digit (u : Nat) : ∀ c ∈ Lib.decDigits u, 48 ≤ c.toNat ∧ c.toNat ≤ 57 := by
  induction u using Nat.strongRecOn with
  | _ u ih =>
    by_cases h : u < 10
    · rw [dec_small h]
      intro c hc
      rw [List.mem_singleton.1 hc, dig_toNat u h]; omega
    · rw [dec_big h]
      intro c hc
      rcases List.mem_append.1 hc with hc | hc
      · exact ih (u / 10) (by omega) c hc
      · rw [List.mem_singleton.1 hc, dig_toNat _ (by omega)]; omega
theorem dec_len (k : Nat) : ∀ u, u < 10 ^ (k + 1) → (Lib.decDigits u).length ≤ k + 1 := by
  induction k with
  | zero => intro u hu; rw [dec_small (by simpa using hu)]; simp
  | succ k ih =>
    intro u hu
    by_cases h : u < 10
    · rw [dec_small h]; simp
    · have := ih (u / 10) (by rw [Nat.pow_succ] at hu; omega)
      rw [dec_big h, List.length_append, List.length_singleton]; omega
theorem parse_all (u : Nat) (hu : u < 18446744073709551616) : Lib.parseMag (Lib.decDigits u) = .ok u := by
  obtain ⟨c, r, e, _⟩ := dec_head u
  unfold Lib.parseMag
  rw [if_neg (by rw [e]; simp)]
  have := parse_dec u [] hu
  rw [List.append_nil] at this
  rw [this, Lib.parseUint10]
theorem atoi_itoa (n : Int) (h0 : -9223372036854775808 ≤ n) (h1 : n ≤ 9223372036854775807) : Lib.atoiAll (Lib.itoa n) = .ok n := by
  unfold Lib.itoa
  by_cases hn : n < 0
  · rw [if_pos hn]
    unfold Lib.atoiAll
    simp only [show ((45 : UInt8).toNat) = 45 from rfl]
    rw [if_pos (by simp), parse_all _ (by omega)]
    simp only [not_true_eq_false, false_and, if_false, true_and, if_true]
    rw [if_neg (by omega)]
    congr 1
    omega
  · rw [if_neg hn]
    obtain ⟨c, r, e, h2, h3⟩ := dec_head n.toNat
    have hp := parse_all n.toNat (by omega)
    unfold Lib.atoiAll
    rw [e] at hp ⊢
    simp only
    rw [if_neg (by omega), hp]
    simp only
    rw [if_neg (by omega), if_neg (by omega), if_neg (by omega)]
    congr 1
    omega
theorem numberS_itoa (n : Int) (h0 : -9223372036854775808 ≤ n) (h1 : n ≤ 9223372036854775807) : numberS (Lib.itoa n) = (n, true) := by
  unfold numberS
  rw [atoi_itoa n h0 h1]
  simp
theorem numberS_no (l : Bs) (h : ∀ n : Int, -9223372036854775808 ≤ n → n ≤ 9223372036854775807 → Lib.itoa n ≠ l) : numberS l = (0, false) := by
  unfold numberS
  split
  · rename_i n hn
    obtain ⟨b1, b2⟩ := Lib.atoiAll_bounds hn
    rw [if_neg (h n b1 b2)]
  · rfl
theorem numberS_true (l : Bs) (h : (numberS l).2 = true) : Lib.itoa (numberS l).1 = l ∧ -9223372036854775808 ≤ (numberS l).1 ∧ (numberS l).1 ≤ 9223372036854775807 := by
  unfold numberS at *
  split at h
  · rename_i n hn
    obtain ⟨b1, b2⟩ := Lib.atoiAll_bounds hn
    split at h
    · rename_i c
      rw [if_pos c]
      exact ⟨c, b1, b2⟩
    · simp at h
  · simp at h
theorem numberS_false (l : Bs) (h : (numberS l).2 = false) : (numberS l).1 = 0 := by
  unfold numberS at *
  split at h
  · rename_i n hn
    split at h
    · simp at h
    · rename_i c
      rw [if_neg c]
  · rfl
theorem itoa_inj (a b : Int) (a0 : -9223372036854775808 ≤ a) (a1 : a ≤ 9223372036854775807) (b0 : -9223372036854775808 ≤ b) (b1 : b ≤ 9223372036854775807) (h : Lib.itoa a = Lib.itoa b) : a = b := by
  have h1 := atoi_itoa a a0 a1
  rw [h, atoi_itoa b b0 b1] at h1
  injection h1 with h1
  exact h1.symm

/-! ### Digits -/
def digs (m : Int) : Bs := if m = 0 then [] else Lib.decDigits m.natAbs
theorem tmod_abs (m : Int) : (Int.tmod m 10).natAbs = m.natAbs % 10 := Int.natAbs_tmod m 10
theorem tdiv_abs (m : Int) : (Int.tdiv m 10).natAbs = m.natAbs / 10 := Int.natAbs_tdiv m 10
theorem digs_step (m : Int) (h : m ≠ 0) : digs m = digs (Int.tdiv m 10) ++ [UInt8.ofNat (48 + m.natAbs % 10)] := by
  have e := tdiv_abs m
  unfold digs
  rw [if_neg h]
  by_cases c : m.natAbs < 10
  · rw [dec_small c, if_pos (by omega), List.nil_append, Nat.mod_eq_of_lt c]
  · rw [dec_big c, if_neg (by omega), e]
theorem Digits_l (n : Int) : ∀ (d k : Nat) (s : Bs) (m : Int), m.natAbs < 10 ^ d → -9223372036854775808 ≤ m → m ≤ 9223372036854775807 → s.length + d ≤ 40 → d + 1 ≤ k →
    cisternref02_Digits.l0 k n (bs s) m = some (bs ((if n < 0 then [45] else []) ++ (digs m ++ s))) := by
  have fin : ∀ (k : Nat) (s : Bs), s.length ≤ 40 → cisternref02_Digits.l0 (k + 1) n (bs s) 0 = some (bs ((if n < 0 then [45] else []) ++ (digs 0 ++ s))) := by
    intro k s hs
    simp only [cisternref02_Digits.l0]
    rw [if_pos trivial, bs_size]
    by_cases c : n < 0
    · rw [if_pos c, if_pos (by omega), if_pos c, cat1]
      simp [digs]
    · rw [if_neg c, if_neg c]
      simp [digs]
  intro d
  induction d with
  | zero =>
    intro k s m hm _ _ hs hk
    obtain ⟨k, rfl, -⟩ := succ_of hk
    obtain rfl : m = 0 := by simp at hm; omega
    exact fin k s (by omega)
  | succ d ih =>
    intro k s m hm h0 h1 hs hk
    obtain ⟨k, rfl, hk2⟩ := succ_of hk
    by_cases hz : m = 0
    · subst hz; exact fin k s (by omega)
    have ta := tmod_abs m
    have td := tdiv_abs m
    have hd : (Int.tdiv m 10).natAbs < 10 ^ d := by rw [td, Nat.pow_succ] at *; omega
    have w1 : wrap64 (Int.tdiv m 10) = Int.tdiv m 10 := w64 (by omega) (by omega)
    have key := ih k (UInt8.ofNat (48 + m.natAbs % 10) :: s) (Int.tdiv m 10) hd (by omega) (by omega) (by simp; omega) hk2
    rw [digs_step m hz, List.append_assoc, List.singleton_append]
    simp only [cisternref02_Digits.l0]
    rw [if_neg hz, w1]
    have e1 : ∀ x : Int, x = ((48 + m.natAbs % 10 : Nat) : Int) → strOfNums [x % 256] ++ bs s = bs (UInt8.ofNat (48 + m.natAbs % 10) :: s) := by
      intro x hx
      rw [hx, strOfNums_bs, bs_append]
      simp only [List.map_cons, List.map_nil, List.singleton_append]
      congr 3
      omega
    by_cases c : Int.tmod m 10 < 0
    · rw [if_pos c]
      simp only [Option.bind_some]
      rw [w64 (x := -Int.tmod m 10) (by omega) (by omega), w64 (x := 48 + -Int.tmod m 10) (by omega) (by omega), e1 _ (by omega), if_pos (by rw [strOfNums_size, bs_size]; simp; omega)]
      exact key
    · rw [if_neg c]
      simp only [Option.bind_some]
      rw [w64 (x := 48 + Int.tmod m 10) (by omega) (by omega), e1 _ (by omega), if_pos (by rw [strOfNums_size, bs_size]; simp; omega)]
      exact key
theorem ref_Digits_f (n : Int) (h0 : -9223372036854775808 ≤ n) (h1 : n ≤ 9223372036854775807) (k : Nat) (hk : 21 ≤ k) : cisternref02_Digits.f k n = some (bs (Lib.itoa n)) := by
  unfold cisternref02_Digits.f
  by_cases c : n = 0
  · subst c
    rw [if_pos rfl]
    have : Lib.itoa 0 = [48] := by unfold Lib.itoa; rw [if_neg (by decide)]; exact dec_small (by decide)
    rw [this]
  · rw [if_neg c]
    have h := Digits_l n 20 k [] n (by omega) h0 h1 (by simp) (by omega)
    rw [show ((⟨#[]⟩ : ByteArray)) = bs [] from rfl, h]
    unfold Lib.itoa digs
    rw [if_neg c, List.append_nil]
    by_cases c2 : n < 0
    · rw [if_pos c2, if_pos c2]; rfl
    · rw [if_neg c2, if_neg c2, show n.natAbs = n.toNat by omega]; rfl

/-! ### Number -/
def dg (minus : Bool) (b : UInt8) : Int := if minus then -((b.toNat : Int) - 48) else (b.toNat : Int) - 48
def wv (minus : Bool) (n : Int) (r : Bs) : Int := r.foldl (fun a b => wrap64 (wrap64 (a * 10) + dg minus b)) n
def ev (minus : Bool) (n : Int) (r : Bs) : Int := r.foldl (fun a b => a * 10 + dg minus b) n
theorem wv_ev (minus : Bool) : ∀ (r : Bs) (n m : Int), n = wrap64 m → (∀ b ∈ r, 48 ≤ b.toNat ∧ b.toNat ≤ 57) → wv minus n r = wrap64 (ev minus m r) := by
  intro r
  induction r with
  | nil => intro n m h _; exact h
  | cons b r ih =>
    intro n m h hr
    have hb := hr b (List.mem_cons_self ..)
    refine ih _ _ ?_ (fun c hc => hr c (List.mem_cons_of_mem _ hc))
    have hd : -9 ≤ dg minus b ∧ dg minus b ≤ 9 := by unfold dg; split <;> omega
    dsimp only
    generalize dg minus b = d at *
    subst h
    unfold wrap64
    omega
theorem ev_dec (minus : Bool) (u : Nat) : ev minus 0 (Lib.decDigits u) = if minus then -(u : Int) else u := by
  induction u using Nat.strongRecOn with
  | _ u ih =>
    by_cases h : u < 10
    · rw [dec_small h]
      simp only [ev, List.foldl_cons, List.foldl_nil, dg, dig_toNat u h]
      split <;> omega
    · have := ih (u / 10) (by omega)
      rw [dec_big h]
      simp only [ev, List.foldl_append, List.foldl_cons, List.foldl_nil] at this ⊢
      rw [this]
      simp only [dg, dig_toNat _ (show u % 10 < 10 by omega)]
      cases minus
      · simp only [Bool.false_eq_true, if_false]; omega
      · simp only [if_true]; omega
theorem Num_l (minus : Bool) : ∀ (r pre : Bs) (n : Int) (k : Nat), (minus = true → pre ≠ []) → -9223372036854775808 ≤ n → n ≤ 9223372036854775807 → pre.length + r.length ≤ 140737488351232 → 3 * r.length + 22 ≤ k →
    ∃ q, cisternref02_Number.l0 k (bs (pre ++ r)) n minus (pre.length : Int) = some q ∧ (q = (0, false) ∨ ∃ m : Int, -9223372036854775808 ≤ m ∧ m ≤ 9223372036854775807 ∧ Lib.itoa m = pre ++ r ∧ q = (m, true)) ∧
      ((∀ b ∈ r, 48 ≤ b.toNat ∧ b.toNat ≤ 57) → pre.length + r.length ≤ 21 → Lib.itoa (wv minus n r) = pre ++ r → q = (wv minus n r, true)) := by
  intro r
  induction r with
  | nil =>
    intro pre n k _ h0 h1 _ hk
    obtain ⟨k, rfl, hk2⟩ := succ_of (n := 21) hk
    simp only [cisternref02_Number.l0]
    rw [if_neg (by rw [bs_size]; simp), ref_Digits_f n h0 h1 k (by omega)]
    simp only [Option.bind_some, bs_toList]
    by_cases c : Lib.itoa n = pre ++ []
    · rw [if_pos c]
      exact ⟨_, rfl, .inr ⟨n, h0, h1, c, rfl⟩, fun _ _ _ => rfl⟩
    · rw [if_neg c]
      exact ⟨_, rfl, .inl rfl, fun _ _ h => absurd h c⟩
  | cons b r ih =>
    intro pre n k hm h0 h1 hl hk
    rw [List.length_cons] at hk hl
    obtain ⟨k, rfl, hk2⟩ := succ_of (n := 3 * r.length + 24) (by omega)
    obtain ⟨k, rfl, hk3⟩ := succ_of (n := 3 * r.length + 23) hk2
    obtain ⟨k, rfl, hk4⟩ := succ_of (n := 3 * r.length + 22) hk3
    have hb := b_lt b
    have hi : (pre.length : Int) < ((bs (pre ++ b :: r)).size : Int) := by rw [bs_size]; simp; omega
    have hj : cisternref02_Number.l0 (k + 1 + 1 + 1) (bs (pre ++ b :: r)) n minus pre.length = cisternref02_Number.j2 (k + 1 + 1) (bs (pre ++ b :: r)) n minus pre.length false := by
      simp only [cisternref02_Number.l0]
      rw [if_pos hi]
      by_cases c : (pre.length : Int) = 0
      · rw [if_pos c]
        have : minus = false := by
          cases minus with
          | false => rfl
          | true => exact absurd (List.eq_nil_of_length_eq_zero (by omega)) (hm rfl)
        rw [this]
      · rw [if_neg c]
    rw [hj]
    simp only [cisternref02_Number.j2, cisternref02_Number.j3]
    rw [if_neg (by simp), if_pos (by omega), if_pos hi, bt_mid, if_pos trivial]
    by_cases c1 : (b.toNat : Int) < 48
    · rw [if_pos c1]
      exact ⟨_, rfl, .inl rfl, fun h _ _ => by have := (h b (List.mem_cons_self ..)).1; omega⟩
    rw [if_neg c1]
    by_cases c2 : (b.toNat : Int) > 57
    · rw [if_pos c2]
      exact ⟨_, rfl, .inl rfl, fun h _ _ => by have := (h b (List.mem_cons_self ..)).2; omega⟩
    rw [if_neg c2]
    by_cases c3 : (pre.length : Int) > 20
    · rw [if_pos (decide_eq_true c3)]
      refine ⟨_, rfl, .inl rfl, fun _ h _ => ?_⟩
      rw [List.length_cons] at h
      omega
    rw [if_neg (by simpa using c3), if_pos (by omega), if_pos hi]
    have hd : ((b.toNat : Int) - 48) % 256 = (b.toNat : Int) - 48 := by omega
    rw [hd]
    have hx : ∀ x : Int, x = wrap64 (wrap64 (n * 10) + dg minus b) → -9223372036854775808 ≤ x ∧ x ≤ 9223372036854775807 := by intro x e; rw [e]; unfold wrap64; omega
    have hn := hx _ rfl
    obtain ⟨q, e1, e2, e3⟩ := ih (pre ++ [b]) (wrap64 (wrap64 (n * 10) + dg minus b)) k (by simp) hn.1 hn.2 (by simp; omega) (by omega)
    rw [len1, List.append_assoc, List.singleton_append] at e1
    rw [List.append_assoc, List.singleton_append] at e2 e3
    refine ⟨q, ?_, e2, fun g1 g2 g3 => ?_⟩
    · rw [w64 (x := (pre.length : Int) + 1) (by omega) (by omega)]
      cases minus
      · rw [if_neg (by simp)]; exact e1
      · rw [if_pos rfl]; exact e1
    · refine e3 (fun c hc => g1 c (List.mem_cons_of_mem _ hc)) ?_ g3
      rw [List.length_append, List.length_singleton]
      rw [List.length_cons] at g2
      omega
theorem ref_Number_f (l : Bs) (hl : l.length ≤ 140737488351232) (k : Nat) (hk : 3 * l.length + 30 ≤ k) : cisternref02_Number.f k (bs l) = some (numberS l) := by
  -- the loop's answer
  have key : ∀ (minus : Bool) (q : Int × Bool) , (q = (0, false) ∨ ∃ m : Int, -9223372036854775808 ≤ m ∧ m ≤ 9223372036854775807 ∧ Lib.itoa m = l ∧ q = (m, true)) →
      (∀ m : Int, -9223372036854775808 ≤ m → m ≤ 9223372036854775807 → Lib.itoa m = l → q = (m, true)) → q = numberS l := by
    intro minus q h1 h2
    by_cases c : ∃ m : Int, -9223372036854775808 ≤ m ∧ m ≤ 9223372036854775807 ∧ Lib.itoa m = l
    · obtain ⟨m, m0, m1, hm⟩ := c
      rw [h2 m m0 m1 hm, ← hm, numberS_itoa m m0 m1]
    · rw [numberS_no l (fun n n0 n1 hn => c ⟨n, n0, n1, hn⟩)]
      rcases h1 with h1 | ⟨m, m0, m1, hm, _⟩
      · exact h1
      · exact absurd ⟨m, m0, m1, hm⟩ c
  obtain ⟨k, rfl, hk2⟩ := succ_of (n := 3 * l.length + 29) hk
  unfold cisternref02_Number.f
  simp only [cisternref02_Number.j0, bs_size]
  cases l with
  | nil =>
    rw [if_neg (by simp)]
    obtain ⟨q, e1, e2, e3⟩ := Num_l false [] [] 0 k (by simp) (by omega) (by omega) (by simp) (by simp at hk2 ⊢; omega)
    simp only [List.append_nil, List.length_nil] at e1 e2
    rw [show ((0 : Nat) : Int) = 0 from rfl] at e1
    rw [e1, key false q e2 (fun m _ _ hm => by
      unfold Lib.itoa at hm
      split at hm
      · cases hm
      · obtain ⟨c, r, e, _⟩ := dec_head m.toNat
        rw [e] at hm; cases hm)]
  | cons b t =>
    have e0 : bt (bs (b :: t)) 0 = (b.toNat : Int) := by rw [bt_bs]; rfl
    rw [List.length_cons] at hk2
    rw [if_pos (by simp), if_pos (by simp), e0]
    by_cases c : b.toNat = 45
    · have ec : ((b.toNat : Int) == 45) = true := by rw [c]; rfl
      rw [ec]
      -- the first round passes the sign
      obtain ⟨k, rfl, hk3⟩ := succ_of (n := 3 * t.length + 31) (by omega)
      obtain ⟨k, rfl, hk4⟩ := succ_of (n := 3 * t.length + 30) hk3
      have hj : cisternref02_Number.l0 (k + 1 + 1) (bs (b :: t)) 0 true 0 = cisternref02_Number.l0 k (bs (b :: t)) 0 true 1 := by
        simp only [cisternref02_Number.l0, cisternref02_Number.j2]
        rw [if_pos (by rw [bs_size]; simp), if_pos trivial, if_pos trivial, w64 (by omega) (by omega)]
        rfl
      rw [hj]
      obtain ⟨q, e1, e2, e3⟩ := Num_l true t [b] 0 k (by simp) (by omega) (by omega) (by simp at hl ⊢; omega) (by omega)
      simp only [List.singleton_append, List.length_singleton] at e1 e2 e3
      rw [show ((1 : Nat) : Int) = 1 from rfl] at e1
      rw [e1, key true q e2 (fun m m0 m1 hm => by
        have hb : b = 45 := UInt8.toNat_inj.mp (by rw [c]; rfl)
        have hm' := hm
        unfold Lib.itoa at hm
        split at hm
        · rename_i hneg
          injection hm with _ ht
          have hw : wv true 0 t = m := by
            rw [← ht, wv_ev true _ 0 0 (w64 (by decide) (by decide)).symm (dec_digit _), ev_dec]
            simp only [if_true]
            rw [w64 (by omega) (by omega)]; omega
          have hlen : t.length ≤ 19 := by rw [← ht]; exact dec_len 18 _ (by omega)
          have := e3 (by rw [← ht]; exact dec_digit _) (by omega) (by rw [hw]; exact hm')
          rw [this, hw]
        · obtain ⟨c', r, e, h2, h3⟩ := dec_head m.toNat
          rw [e] at hm
          injection hm with hc
          rw [hc, hb] at h2
          simp at h2)]
    · have ec : ((b.toNat : Int) == 45) = false := by rw [beq_eq_false_iff_ne]; omega
      rw [ec]
      obtain ⟨q, e1, e2, e3⟩ := Num_l false (b :: t) [] 0 k (by simp) (by omega) (by omega) (by simpa using hl) (by simp; omega)
      simp only [List.nil_append, List.length_nil] at e1 e2 e3
      rw [show ((0 : Nat) : Int) = 0 from rfl] at e1
      rw [e1, key false q e2 (fun m m0 m1 hm => by
        have hm' := hm
        unfold Lib.itoa at hm
        split at hm
        · injection hm with hb
          exact absurd (by rw [← hb]; rfl) c
        · have hw : wv false 0 (b :: t) = m := by
            rw [← hm, wv_ev false _ 0 0 (w64 (by decide) (by decide)).symm (dec_digit _), ev_dec]
            simp only [Bool.false_eq_true, if_false]
            rw [w64 (by omega) (by omega)]; omega
          have hlen : (b :: t).length ≤ 19 := by rw [← hm]; exact dec_len 18 _ (by omega)
          have := e3 (by rw [← hm]; exact dec_digit _) (by omega) (by rw [hw]; exact hm')
          rw [this, hw])]
end Go.Proofs.YtlhinklnnjbmpaaDoor.Sp
