/- The plain law of VarintForth: what is read of any bytes is written again as it was; a beginning of it is never whole. -/
import Derived.Test.YtlhinklnnjbmpaaDoorSr
import Derived.Test.YtlhinklnnjbmpaaDoorGAx11
namespace Go.Proofs.YtlhinklnnjbmpaaDoor.Pure
open Go.RowKit Go.Proofs.YtlhinklnnjbmpaaDoor.Vm Go.Proofs.YtlhinklnnjbmpaaDoor.Vw Go.Proofs.YtlhinklnnjbmpaaDoor.Sp Go.Proofs.YtlhinklnnjbmpaaDoorW.PrintWords Go.Proofs.YtlhinklnnjbmpaaDoorW.PrintLast Go.Proofs.YtlhinklnnjbmpaaDoor.GA Go.Proofs.YtlhinklnnjbmpaaDoor.GP
set_option linter.unusedVariables false
set_option linter.unusedSimpArgs false
theorem forth_num (l : Bs) (hl : l.length ≤ 140737488351232) (k : Nat) (hk : 20 ≤ k) :
    ((varint_Number.f (bs l)).bind fun q => (cisternlaw02_works.f k).bind fun t => if t = true then (if q.2 = true then ((varint_Digits.f q.1).bind fun d => if d.toList = l then some true else some false) else some (q.1 == 0)) else some false) = some true := by
  rw [Number_f l hl, works_f k (by omega)]
  simp only [Option.bind_some, if_true]
  cases h : (numberS l).2 with
  | true =>
    obtain ⟨e, h0, h1⟩ := numberS_true l h
    rw [if_pos rfl, Digits_f _ h0 h1, e]
    simp
  | false =>
    rw [if_neg (by simp), numberS_false l h]
    rfl
theorem forth_j3 (l : Bs) (hl : l.length ≤ 140737488351232) (k : Nat) (hk : 24 ≤ k) : cisternlaw02_VarintForth.j3 k (bs l) = some true := by
  obtain ⟨k, rfl, hk2⟩ := succ_of (n := 23) hk
  obtain ⟨k, rfl, hk3⟩ := succ_of (n := 22) hk2
  have hn := forth_num l hl
  simp only [cisternlaw02_VarintForth.j3, cisternlaw02_VarintForth.j4]
  rw [varint_Int_f l hl]
  simp only [Option.bind_some]
  by_cases c : (intS l).2.2 = 0
  · rw [if_pos c]
    obtain ⟨hp, h1, h2⟩ := intS_back l (intS l).1 (intS l).2.1 (by rw [← c])
    rw [varint_PutInt_f, hp]
    simp only [Option.bind_some, if_true, bs_size, bs_toList, bs_extract]
    rw [if_neg (by omega), if_neg (by omega), if_pos (by omega), if_pos h2]
    rw [if_neg (by simp)]
    exact hn k (by omega)
  · rw [if_neg c]
    have h := hn (k + 1) (by omega)
    rw [bs_toList]
    exact h
theorem forth_l0 (l : Bs) (hl : l.length ≤ 140737488351232) (n m : Int) (h : lenS l = (n, m, 0, 0)) (h2 : m ≤ l.length) : ∀ (d k : Nat) (i : Int), 0 ≤ i → i ≤ m → m - i = d → d + 40 ≤ k → cisternlaw02_VarintForth.l0 k (bs l) m i = some true := by
  intro d
  induction d with
  | zero =>
    intro k i h0 h1 hd hk
    obtain ⟨k, rfl, hk2⟩ := succ_of (n := 39) hk
    simp only [cisternlaw02_VarintForth.l0]
    rw [if_neg (by omega)]
    exact forth_j3 l hl k (by omega)
  | succ d ih =>
    intro k i h0 h1 hd hk
    obtain ⟨k, rfl, hk2⟩ := succ_of (n := d + 40) hk
    simp only [cisternlaw02_VarintForth.l0, bs_size, bs_extract]
    rw [if_pos (by omega), if_pos h0, if_pos (by omega), varint_Len_f _ k (by omega)]
    simp only [Option.bind_some, List.drop_zero]
    rw [if_pos (lenS_short l n m h i.toNat (by omega)), w64 (by omega) (by omega)]
    exact ih k (i + 1) (by omega) (by omega) (by omega) hk2
theorem VarintForth : cisternlaw02_VarintForth.Pure := by
  intro s hs
  rw [← bs_data s] at hs ⊢
  rw [bs_size] at hs
  generalize s.data.toList = l at *
  refine ⟨l.length + 100, ?_⟩
  generalize hk : l.length + 100 = k
  unfold cisternlaw02_VarintForth.f
  rw [varint_Len_f l _ (by omega)]
  simp only [Option.bind_some]
  obtain ⟨k, rfl, hk2⟩ := succ_of (n := l.length + 99) (k := k) (by omega)
  obtain ⟨k, rfl, hk3⟩ := succ_of (n := l.length + 98) hk2
  simp only [cisternlaw02_VarintForth.j0, cisternlaw02_VarintForth.j1]
  have hj := forth_j3 l hs (k + 1) (by omega)
  by_cases c : (lenS l).2.2.2 = 0
  · rw [if_pos c]
    by_cases c2 : (lenS l).2.2.1 = 0
    · have hh : lenS l = ((lenS l).1, (lenS l).2.1, 0, 0) := Prod.ext rfl (Prod.ext rfl (Prod.ext c2 c))
      obtain ⟨hp, h1, h2, _⟩ := putLenS_lenS l (lenS l).1 (lenS l).2.1 hh
      rw [if_pos (by rw [c2]; rfl), varint_PutLen_f _ _ (by omega), hp]
      simp only [Option.bind_some, if_true, bs_size, bs_toList, bs_extract]
      rw [if_neg (by omega), if_neg (by omega), if_pos (by omega), if_pos h2]
      rw [if_neg (by simp)]
      exact forth_l0 l hs _ _ hh h2 (lenS l).2.1.toNat k 0 (by omega) (by omega) (by omega) (by omega)
    · rw [if_neg (by simpa using c2)]
      exact hj
  · rw [if_neg c, if_neg (by simp)]
    exact hj
end Go.Proofs.YtlhinklnnjbmpaaDoor.Pure
