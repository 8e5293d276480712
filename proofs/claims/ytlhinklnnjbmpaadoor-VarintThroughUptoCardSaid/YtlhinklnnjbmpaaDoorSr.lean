/- What the printed functions answer: forms of numbers; the head of the statements. -/
import Derived.Test.YtlhinklnnjbmpaaDoorSq
namespace Go.Proofs.YtlhinklnnjbmpaaDoor.Sp
open Go.RowKit Go.Proofs.YtlhinklnnjbmpaaDoor.Vm Go.Proofs.YtlhinklnnjbmpaaDoor.Vw Go.Proofs.YtlhinklnnjbmpaaDoorW.PrintWords Go.Proofs.YtlhinklnnjbmpaaDoorW.PrintLast Go.Proofs.YtlhinklnnjbmpaaDoorW.PrintMore Go.Proofs.YtlhinklnnjbmpaaDoor.GA Go.Proofs.YtlhinklnnjbmpaaDoor.GP
set_option linter.unusedVariables false
set_option linter.unusedSimpArgs false
theorem lval_app (r : Bs) (c : UInt8) : lval (c :: r) = lval r * 256 + c.toNat := by rw [lval]; omega
theorem signed_l (m : Nat) (hm : m = 1 ∨ m = 2 ∨ m = 4) : ∀ (a r : Bs) (k : Nat), a.length + r.length = m → a.length + 1 ≤ k →
    cisternref02_signed.l0 k (bs (a ++ r)) (lval r) ((a.length : Int) - 1) = some (sgn (lval (a ++ r)) m) := by
  intro a
  induction a using snoc_ind with
  | h0 =>
    intro r k hl hk
    obtain ⟨k, rfl, -⟩ := succ_of hk
    simp only [List.nil_append, List.length_nil] at hl ⊢
    simp only [cisternref02_signed.l0, bs_size]
    have h0 := lval_nonneg r
    have h1 := lval_lt r
    have hl' : r.length = m := by omega
    rw [hl'] at h1 ⊢
    unfold sgn
    rw [if_neg (by omega)]
    rcases hm with rfl | rfl | rfl
    · have e1 : IntKind.u64.wrap (wrap64 ((wrap64 (8 * ((1 : Nat) : Int))) - 1)) = 7 := by rw [w64 (x := 8 * ((1 : Nat) : Int)) (by omega) (by omega), w64 (by omega) (by omega), u64w (by omega) (by omega)]; rfl
      have e2 : IntKind.u64.wrap (wrap64 (8 * ((1 : Nat) : Int))) = 8 := by rw [w64 (by omega) (by omega), u64w (by omega) (by omega)]; rfl
      have e3 : shl .i64 1 7 = 128 := by decide
      have e4 : shl .i64 1 8 = 256 := by decide
      rw [if_pos (show ((1 : Nat) : Int) < 8 by decide), e1, e2, e3, e4, if_pos (show (0 : Int) ≤ _ by decide)]
      split
      · rw [if_pos (by omega), w64 (by omega) (by omega), if_pos (by omega)]; rfl
      · rw [if_neg (by omega)]
    · have e1 : IntKind.u64.wrap (wrap64 ((wrap64 (8 * ((2 : Nat) : Int))) - 1)) = 15 := by rw [w64 (x := 8 * ((2 : Nat) : Int)) (by omega) (by omega), w64 (by omega) (by omega), u64w (by omega) (by omega)]; rfl
      have e2 : IntKind.u64.wrap (wrap64 (8 * ((2 : Nat) : Int))) = 16 := by rw [w64 (by omega) (by omega), u64w (by omega) (by omega)]; rfl
      have e3 : shl .i64 1 15 = 32768 := by decide
      have e4 : shl .i64 1 16 = 65536 := by decide
      rw [if_pos (show ((2 : Nat) : Int) < 8 by decide), e1, e2, e3, e4, if_pos (show (0 : Int) ≤ _ by decide)]
      split
      · rw [if_pos (by omega), w64 (by omega) (by omega), if_pos (by omega)]; rfl
      · rw [if_neg (by omega)]
    · have e1 : IntKind.u64.wrap (wrap64 ((wrap64 (8 * ((4 : Nat) : Int))) - 1)) = 31 := by rw [w64 (x := 8 * ((4 : Nat) : Int)) (by omega) (by omega), w64 (by omega) (by omega), u64w (by omega) (by omega)]; rfl
      have e2 : IntKind.u64.wrap (wrap64 (8 * ((4 : Nat) : Int))) = 32 := by rw [w64 (by omega) (by omega), u64w (by omega) (by omega)]; rfl
      have e3 : shl .i64 1 31 = 2147483648 := by decide
      have e4 : shl .i64 1 32 = 4294967296 := by decide
      rw [if_pos (show ((4 : Nat) : Int) < 8 by decide), e1, e2, e3, e4, if_pos (show (0 : Int) ≤ _ by decide)]
      split
      · rw [if_pos (by omega), w64 (by omega) (by omega), if_pos (by omega)]; rfl
      · rw [if_neg (by omega)]
  | h1 a c ih =>
    intro r k hl hk
    rw [List.length_append, List.length_singleton] at hl hk
    obtain ⟨k, rfl, hk2⟩ := succ_of hk
    have h0 := lval_nonneg r
    have h1 := lval_lt r
    have hc := b_lt c
    have h2 : lval r < 16777216 := by
      have h3 := Nat.pow_le_pow_right (n := 256) (by decide) (show r.length ≤ 3 by omega)
      have h4 : (256 : Int) ^ r.length = ((256 ^ r.length : Nat) : Int) := by simp
      rw [show 256 ^ 3 = 16777216 from rfl] at h3
      omega
    have hi : ((a ++ [c]).length : Int) - 1 = (a.length : Int) := by rw [len1]; omega
    rw [hi, List.append_assoc, List.singleton_append]
    simp only [cisternref02_signed.l0]
    rw [if_pos (by omega), if_pos (by omega), if_pos (by rw [bs_size]; simp; omega), bt_mid, w64 (x := lval r * 256) (by omega) (by omega), w64 (x := (c.toNat : Int)) (by omega) (by omega), w64 (by omega) (by omega), w64 (by omega) (by omega), ← lval_app]
    exact ih (c :: r) k (by rw [List.length_cons]; omega) hk2
theorem signed_f (l : Bs) (m : Nat) (hl : l.length = m) (hm : m = 1 ∨ m = 2 ∨ m = 4) (k : Nat) (hk : 5 ≤ k) : cisternref02_signed.f k (bs l) = some (sgn (lval l) m) := by
  unfold cisternref02_signed.f
  have h := signed_l m hm l [] k (by simpa using hl) (by omega)
  rw [List.append_nil] at h
  rw [bs_size, w64 (by omega) (by omega)]
  exact h
theorem ref_Int_f (l : Bs) (k : Nat) (hk : 14 ≤ k) : cisternref02_Int.f k (bs l) = some (intS l) := by
  obtain ⟨k, rfl, hk2⟩ := succ_of (n := 13) hk
  unfold cisternref02_Int.f intS
  simp only [bs_toList, bs_size, bs_extract, cisternref02_Int.j0]
  cases l with
  | nil => rw [if_pos rfl]
  | cons b t =>
    have hb := b_lt b
    have e0 : bt (bs (b :: t)) 0 = (b.toNat : Int) := by rw [bt_bs]; rfl
    rw [e0]
    simp only [List.length_cons, List.take_succ_cons, List.drop_succ_cons, List.drop_zero, show (5 : Int).toNat = 5 from rfl, show (3 : Int).toNat = 3 from rfl, show (2 : Int).toNat = 2 from rfl]
    rw [if_neg (by simp), if_pos (by omega)]
    have key : ∀ (j m : Nat) (x : Int), b.toNat = 192 + j → m = 2 ^ j → (m = 1 ∨ m = 2 ∨ m = 4) → x = 1 + (m : Int) →
        (if ((t.length + 1 : Nat) : Int) < x then (some (0, 0, 20) : Option (Int × Int × Int)) else if 1 ≤ x then if x ≤ ((t.length + 1 : Nat) : Int) then
          (cisternref02_signed.f k (bs (t.take m))).bind fun t208 => (cisternref02_PutInt.f k t208).bind fun bt209 =>
            if 0 ≤ x then if bt209.1.toList = b :: t.take m then some (t208, x, 0) else some (0, 0, 21) else none else none else none) =
        some (if b.toNat < 192 ∨ 194 < b.toNat then (0, 0, 21) else if t.length < 2 ^ (b.toNat - 192) then (0, 0, 20) else
          if (putIntS (sgn (lval (t.take (2 ^ (b.toNat - 192)))) (2 ^ (b.toNat - 192)))).1 = b :: t.take (2 ^ (b.toNat - 192)) then (sgn (lval (t.take (2 ^ (b.toNat - 192)))) (2 ^ (b.toNat - 192)), 1 + 2 ^ (b.toNat - 192), 0) else (0, 0, 21)) := by
      intro j m x hj hm hmm hx
      have ek : b.toNat - 192 = j := by omega
      have hj2 : j ≤ 2 := by
        rcases hmm with h | h | h
        all_goals (rw [hm] at h; rcases Nat.lt_or_ge 2 j with hg | hg; (have := Nat.pow_le_pow_right (n := 2) (by decide) hg; simp at this; omega); exact hg)
      have em : ((2 : Int) ^ j) = (m : Int) := by rw [hm]; simp
      rw [ek, ← hm, if_neg (show ¬ (b.toNat < 192 ∨ 194 < b.toNat) by omega)]
      by_cases c : t.length < m
      · rw [if_pos (by omega), if_pos c]
      · rw [if_neg (by omega), if_neg c, if_pos (by omega), if_pos (by omega), signed_f _ m (by rw [List.length_take]; omega) hmm k (by omega)]
        simp only [Option.bind_some]
        rw [ref_PutInt_f _ _ (by omega)]
        simp only [Option.bind_some, bs_toList]
        rw [if_pos (by omega), em, ← hx]
        split <;> rfl
    by_cases c1 : b.toNat = 192
    · rw [if_pos (by omega)]
      exact key 0 1 2 (by omega) rfl (by omega) rfl
    rw [if_neg (by omega)]
    by_cases c2 : b.toNat = 193
    · rw [if_pos (by omega)]
      exact key 1 2 3 (by omega) rfl (by omega) rfl
    rw [if_neg (by omega)]
    by_cases c3 : b.toNat = 194
    · rw [if_pos (by omega)]
      exact key 2 4 5 (by omega) rfl (by omega) rfl
    rw [if_neg (by omega), if_pos (by omega)]
theorem varint_Int_f (l : Bs) (hl : l.length ≤ 140737488351232) : varint_Int.f (bs l) = some (intS l) := by
  unfold varint_Int.f
  rw [if_pos (by rw [bs_size]; omega)]
theorem Number_f (l : Bs) (hl : l.length ≤ 140737488351232) : varint_Number.f (bs l) = some (numberS l) := by
  unfold varint_Number.f
  rw [if_pos (by rw [bs_size]; omega)]
theorem Digits_f (n : Int) (h0 : -9223372036854775808 ≤ n) (h1 : n ≤ 9223372036854775807) : varint_Digits.f n = some (bs (Lib.itoa n)) := by
  unfold varint_Digits.f strconv_Itoa.f
  rw [if_pos ⟨h0, h1⟩]; rfl
theorem works_f (k : Nat) (hk : 14 ≤ k) : cisternlaw02_works.f k = some true := by
  unfold cisternlaw02_works.f
  have h1 := varint_Len_f [65, 44, 120] k (by omega)
  have h2 := Number_f [45, 49, 55] (by decide)
  have e1 : Lib.itoa (-17) = [45, 49, 55] := by unfold Lib.itoa; rw [if_pos (by decide), show (-17 : Int).natAbs = 17 from rfl, dec_big (by decide), dec_small (by decide)]; rfl
  have e2 : Lib.itoa 40 = [52, 48] := by unfold Lib.itoa; rw [if_neg (by decide), show (40 : Int).toNat = 40 from rfl, dec_big (by decide), dec_small (by decide)]; rfl
  have h3 := numberS_itoa (-17) (by decide) (by decide)
  rw [e1] at h3
  rw [h3] at h2
  have h4 : lenS [65, 44, 120] = (300, 2, 0, 0) := by decide
  rw [h4] at h1
  have h5 : putLenS 300 = ([65, 44], 0) := by decide
  rw [varint_PutLen_f 300 k (by omega), h5]
  rw [show ((⟨#[65, 44, 120]⟩ : ByteArray)) = bs [65, 44, 120] from rfl, h1, show ((⟨#[45, 49, 55]⟩ : ByteArray)) = bs [45, 49, 55] from rfl, h2, Digits_f 40 (by decide) (by decide), e2]
  simp only [Option.bind_some, bs_toList]
  decide
end Go.Proofs.YtlhinklnnjbmpaaDoor.Sp
