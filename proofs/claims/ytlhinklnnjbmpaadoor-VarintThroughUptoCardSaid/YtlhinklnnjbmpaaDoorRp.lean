/- What a Reader's calls and the document's answer: the same. -/
import Derived.Test.YtlhinklnnjbmpaaDoorRi
import Derived.Test.YtlhinklnnjbmpaaDoorGAx13
namespace Go.Proofs.YtlhinklnnjbmpaaDoor.Rd
open Go.RowKit Go.Proofs.YtlhinklnnjbmpaaDoor.Vm Go.Proofs.YtlhinklnnjbmpaaDoor.Vw Go.Proofs.YtlhinklnnjbmpaaDoor.Sp Go.Proofs.YtlhinklnnjbmpaaDoorW.PrintWords Go.Proofs.YtlhinklnnjbmpaaDoorW.PrintLast Go.Proofs.YtlhinklnnjbmpaaDoorW.PrintMore Go.Proofs.YtlhinklnnjbmpaaDoor.GA Go.Proofs.YtlhinklnnjbmpaaDoor.GP
set_option linter.unusedVariables false
set_option linter.unusedSimpArgs false
theorem lenS_size (l : Bs) : 0 ≤ (lenS l).2.1 ∧ (lenS l).2.1 ≤ l.length := by
  unfold lenS
  split
  · simp
  · rename_i b t
    repeat' split
    all_goals (simp only [List.length_cons]; omega)
theorem intS_size (l : Bs) : 0 ≤ (intS l).2.1 ∧ (intS l).2.1 ≤ l.length := by
  by_cases h : (intS l).2.2 = 0
  · obtain ⟨_, h1, h2⟩ := intS_back l (intS l).1 (intS l).2.1 (by rw [← h])
    omega
  · have k : (intS l).2.1 = 0 := by
      revert h
      unfold intS
      split
      · intro _; rfl
      · rename_i b t
        repeat' split
        all_goals (intro h; first | (exfalso; simp at h; done) | simp)
    omega
theorem bs_drop (s : ByteArray) (i : Nat) : s.extract i s.size = bs (s.data.toList.drop i) := by
  apply WideShapes.bytes_inj
  rw [Lib.extract_to_end]
theorem drop_len (s : ByteArray) (i : Int) (h0 : 0 ≤ i) (h1 : i ≤ s.size) : ((s.data.toList.drop i.toNat).length : Int) = s.size - i := by
  rw [List.length_drop, ← size_of]; omega
/-- What both answer to a call of kind q. -/
structure Same (data : ByteArray) (i : Int) (i' : Int) : Prop where
  lo : 0 ≤ i'
  hi : i' ≤ data.size
theorem p_byte (s : ByteArray) (i : Int) (hs : s.size ≤ 140737488351232) (h0 : 0 ≤ i) (h1 : i ≤ s.size) :
    ∃ (b e i' : Int), 0 ≤ i' ∧ i' ≤ s.size ∧ varint_Reader_Byte.f s i = some (b, e, s, i') ∧ cisternref02_Byte.f s i = some (s, i', b, e) := by
  have hd := drop_len s i h0 h1
  unfold varint_Reader_Byte.f varint_Reader_Take.f varint_Reader_Left.f cisternref02_Byte.f cisternref02_left.f
  simp only [Option.bind_some]
  rw [if_neg (show ¬ ((1 : Int) < 0) by omega), w64 (x := (s.size : Int) - i) (by omega) (by omega), if_pos h0, if_pos h1, bs_drop]
  simp only [Option.bind_some, bs_toList]
  by_cases c : i < s.size
  · rw [if_neg (show ¬ (1 > (s.size : Int) - i) by omega), w64 (x := i + 1) (by omega) (by omega), w64 (x := i + 1 - 1) (by omega) (by omega), show i + 1 - 1 = i by omega, if_pos h0, if_pos (by omega), if_pos (by omega)]
    simp only [Option.bind_some, if_true]
    have hz : (s.extract i.toNat (i + 1).toNat).size = 1 := by
      rw [size_of, Lib.extract_data, List.length_take, List.length_drop, ← size_of]; omega
    rw [hz, if_pos (by decide), if_neg (by intro h; rw [h] at hd; simp at hd; omega), if_pos c]
    have hb : bt (s.extract i.toNat (i + 1).toNat) 0 = bt s i := by
      rw [← bs_data s, bs_extract, bt_bs, bt_bs]
      have hl : i.toNat < s.data.toList.length := by rw [← size_of]; omega
      simp [List.getD_eq_getElem?_getD, List.getElem?_drop, List.getElem?_take, show i.toNat < (i + 1).toNat by omega]
    exact ⟨_, _, i + 1, by omega, by omega, rfl, by rw [hb, if_pos h0]⟩
  · rw [if_pos (show 1 > (s.size : Int) - i by omega)]
    simp only [Option.bind_some]
    rw [if_neg (by decide), if_pos (List.eq_nil_of_length_eq_zero (by omega))]
    exact ⟨_, _, i, h0, h1, rfl, rfl⟩
theorem p_take (s : ByteArray) (i n : Int) (hs : s.size ≤ 140737488351232) (h0 : 0 ≤ i) (h1 : i ≤ s.size) :
    ∃ (r : ByteArray) (e i' : Int), 0 ≤ i' ∧ i' ≤ s.size ∧ varint_Reader_Take.f s i n = some (r, e, s, i') ∧ cisternref02_Take.f s i n = some (s, i', r, e) := by
  have hd := drop_len s i h0 h1
  unfold varint_Reader_Take.f varint_Reader_Left.f cisternref02_Take.f cisternref02_left.f
  simp only [Option.bind_some]
  by_cases c0 : n < 0
  · rw [if_pos c0, if_pos c0]
    exact ⟨_, _, i, h0, h1, rfl, rfl⟩
  rw [if_neg c0, if_neg c0, w64 (x := (s.size : Int) - i) (by omega) (by omega), if_pos h0, if_pos h1, bs_drop]
  simp only [Option.bind_some, bs_size]
  rw [hd]
  by_cases c : n > (s.size : Int) - i
  · rw [if_pos c, if_pos c]
    exact ⟨_, _, i, h0, h1, rfl, rfl⟩
  · rw [if_neg c, if_neg c, w64 (x := i + n) (by omega) (by omega), w64 (x := i + n - n) (by omega) (by omega), show i + n - n = i by omega, if_pos h0, if_pos (by omega), if_pos (by omega), if_pos (by omega), if_pos (by omega)]
    refine ⟨_, _, i + n, by omega, by omega, rfl, ?_⟩
    have : bs (s.data.toList.drop i.toNat) = s.extract i.toNat s.size := (bs_drop s i.toNat).symm
    have e : (bs (s.data.toList.drop i.toNat)).extract 0 n.toNat = s.extract i.toNat (i + n).toNat := by
      apply WideShapes.bytes_inj
      rw [Lib.extract_data, Lib.extract_data]
      simp only [List.drop_zero, Nat.sub_zero]
      congr 1
      omega
    rw [e]
theorem p_len (s : ByteArray) (i : Int) (hs : s.size ≤ 140737488351232) (h0 : 0 ≤ i) (h1 : i ≤ s.size) :
    ∃ (n x e i' : Int), 0 ≤ i' ∧ i' ≤ s.size ∧ varint_Reader_Len.f 20 s i = some (n, x, e, s, i') ∧ cisternref02_ReadLen.f 20 s i = some (s, i', n, x, e) := by
  have hd := drop_len s i h0 h1
  unfold varint_Reader_Len.f cisternref02_ReadLen.f cisternref02_left.f
  rw [if_pos h0, if_pos h1, bs_drop]
  simp only [if_pos h0, if_pos h1, Option.bind_some]
  rw [varint_Len_f _ _ (by decide), ref_Len_f _ _ (by decide)]
  obtain ⟨a, b⟩ := lenS_size (s.data.toList.drop i.toNat)
  simp only [Option.bind_some]
  rw [w64 (by omega) (by omega)]
  exact ⟨_, _, _, i + (lenS (s.data.toList.drop i.toNat)).2.1, by omega, by omega, rfl, rfl⟩
theorem p_int (s : ByteArray) (i : Int) (hs : s.size ≤ 140737488351232) (h0 : 0 ≤ i) (h1 : i ≤ s.size) :
    ∃ (n m e : Int), 0 ≤ m ∧ i + m ≤ s.size ∧ varint_Int.f (s.extract i.toNat s.size) = some (n, m, e) ∧ cisternref02_ReadInt.f 20 s i = some (s, i + m, n, e) := by
  have hd := drop_len s i h0 h1
  unfold cisternref02_ReadInt.f cisternref02_left.f
  rw [if_pos h0, if_pos h1, bs_drop]
  simp only [Option.bind_some]
  rw [varint_Int_f _ (by omega), ref_Int_f _ _ (by decide)]
  obtain ⟨a, b⟩ := intS_size (s.data.toList.drop i.toNat)
  simp only [Option.bind_some]
  rw [w64 (by omega) (by omega)]
  exact ⟨_, _, _, a, by omega, rfl, rfl⟩
end Go.Proofs.YtlhinklnnjbmpaaDoor.Rd
