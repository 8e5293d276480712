/- What the printed functions answer, in lists of bytes. -/
import Derived.Test.YtlhinklnnjbmpaaDoorGAx1
import Derived.Test.YtlhinklnnjbmpaaDoorGAx2
import Derived.Test.YtlhinklnnjbmpaaDoorGAx3
import Derived.Test.YtlhinklnnjbmpaaDoorGAx4
import Derived.Test.YtlhinklnnjbmpaaDoorGAx5
import Derived.Test.YtlhinklnnjbmpaaDoorGAx6
import Derived.Test.YtlhinklnnjbmpaaDoorGAx7
import Derived.Test.YtlhinklnnjbmpaaDoorGAx8
import Derived.Test.YtlhinklnnjbmpaaDoorVi
namespace Go.Proofs.YtlhinklnnjbmpaaDoor.Sp
open Go.RowKit Go.Proofs.YtlhinklnnjbmpaaDoor.Vm Go.Proofs.YtlhinklnnjbmpaaDoor.Vw Go.Proofs.YtlhinklnnjbmpaaDoorW.PrintWords Go.Proofs.YtlhinklnnjbmpaaDoorW.PrintLast Go.Proofs.YtlhinklnnjbmpaaDoorW.PrintMore Go.Proofs.YtlhinklnnjbmpaaDoor.GA Go.Proofs.YtlhinklnnjbmpaaDoor.GP
set_option linter.unusedVariables false
set_option linter.unusedSimpArgs false
abbrev bs (l : Bs) : ByteArray := ⟨l.toArray⟩
theorem bs_data (s : ByteArray) : bs s.data.toList = s := by cases s; simp
theorem bs_append (a b : Bs) : bs a ++ bs b = bs (a ++ b) := by
  apply WideShapes.bytes_inj
  rw [Joins.data_append]
theorem bs_toList (l : Bs) : (bs l).toList = l := by rw [ByteArray.toList_eq]
theorem bs_size (l : Bs) : (bs l).size = l.length := size_mk l
theorem bs_extract (l : Bs) (i j : Nat) : (bs l).extract i j = bs ((l.take j).drop i) := by
  apply WideShapes.bytes_inj
  rw [Lib.extract_data, List.drop_take]
theorem bt_bs (l : Bs) (i : Int) : bt (bs l) i = ((l.getD i.toNat 0).toNat : Int) := by
  unfold bt
  split
  · rename_i h
    rw [bs_size] at h
    have h' : i.toNat < (bs l).data.toList.length := by simpa using h
    have e : (bs l)[i.toNat]'(by rw [bs_size]; exact h) = (bs l).data.toList[i.toNat]'h' := rfl
    rw [e]
    simp [List.getD_eq_getElem?_getD, List.getElem?_eq_getElem h]
  · rename_i h
    rw [bs_size] at h
    simp [List.getD_eq_getElem?_getD, List.getElem?_eq_none (Nat.le_of_not_lt h)]
theorem succ_of {k n : Nat} (h : n + 1 ≤ k) : ∃ m, k = m + 1 ∧ n ≤ m := ⟨k - 1, by omega, by omega⟩
theorem w64 {x : Int} (h0 : -9223372036854775808 ≤ x) (h1 : x ≤ 9223372036854775807) : wrap64 x = x := by unfold wrap64; omega
theorem u64w {x : Int} (h0 : 0 ≤ x) (h1 : x < 18446744073709551616) : IntKind.u64.wrap x = x := by rw [IntKind.wrap_u64]; omega
theorem strOfNums_bs (l : List Int) : strOfNums l = bs (l.map fun n => UInt8.ofNat n.toNat) := rfl

/-! ### PutLen -/
theorem varint_PutLen_f (n : Int) (k : Nat) (hk : 1 ≤ k) : varint_PutLen.f k n = some (bs (putLenS n).1, (putLenS n).2) := by
  obtain ⟨k, rfl, -⟩ := succ_of hk
  unfold varint_PutLen.f putLenS
  simp only [varint_PutLen.j0]
  rw [high_f n 1 (by omega), high_f n 4 (by omega), high_f n 8 (by omega)]
  by_cases c0 : n < 0
  · rw [if_pos c0, if_pos trivial, if_pos (Or.inl c0)]
  rw [if_neg c0]
  by_cases c1 : n > 4611686018427387904
  · rw [if_pos (decide_eq_true c1), if_pos (Or.inr c1)]
  rw [if_neg (show ¬ (decide (n > 4611686018427387904) = true) by simpa using c1), if_neg (show ¬ (n < 0 ∨ n > 4611686018427387904) by omega)]
  by_cases c2 : n < 64
  · rw [if_pos c2, if_pos c2]; rfl
  rw [if_neg c2, if_neg c2]
  by_cases c3 : n < 16384
  · rw [if_pos c3, if_pos c3, w64 (by omega) (by omega), high_f _ 2 (by omega)]; rfl
  rw [if_neg c3, if_neg c3]
  by_cases c4 : n < 4294967296
  · rw [if_pos c4, if_pos c4]
    simp only [Option.bind_some, size_mk, be_length]
    rw [if_pos (by decide), cat1]; rfl
  · rw [if_neg c4, if_neg c4]
    simp only [Option.bind_some, size_mk, be_length]
    rw [if_pos (by decide), cat1]; rfl
theorem be_top (n : Int) (d : Nat) : be n (d + 1) = by8 (n / 256 ^ d) :: be n d := by
  induction d generalizing n with
  | zero => simp [be]
  | succ d ih =>
    rw [be, ih, be, Int.ediv_ediv_of_nonneg (by decide), Int.pow_succ, Int.mul_comm 256]
    rfl
theorem pow8 (d : Nat) : (2 : Int) ^ (8 * d) = 256 ^ d := by rw [Int.pow_mul]; rfl
theorem shr8 (n : Int) (d : Nat) (hd : d ≤ 8) : shr .i64 n (8 * d : Nat) = n / 256 ^ d := by
  unfold shr
  rw [Int.toNat_natCast, Nat.min_eq_left (by simp [IntKind.bits]; omega), pow8]
theorem cnt8 (d : Nat) (hd : d ≤ 8) : IntKind.u64.wrap (wrap64 (8 * (d : Int))) = ((8 * d : Nat) : Int) := by
  rw [w64 (by omega) (by omega), u64w (by omega) (by omega)]; omega
theorem big_l (n : Int) : ∀ (d k : Nat) (xs : List Int) (x : Int), x = (d : Int) - 1 → xs.length + d ≤ 8 → d + 1 ≤ k →
    ∃ ys : List Int, cisternref02_big.l0 k n xs x = some (strOfNums (xs ++ ys)) ∧ ys.map (fun n => UInt8.ofNat n.toNat) = be n d := by
  intro d
  induction d with
  | zero =>
    intro k xs x hx _ hk
    obtain ⟨k, rfl, -⟩ := succ_of hk
    refine ⟨[], ?_, rfl⟩
    simp only [cisternref02_big.l0]
    rw [if_neg (by omega), List.append_nil]
  | succ d ih =>
    intro k xs x hx hl hk
    obtain ⟨k, rfl, hk2⟩ := succ_of hk
    clear hk
    have hk := hk2
    have hx' : x = (d : Int) := by omega
    subst hx'
    obtain ⟨ys, h1, h2⟩ := ih k (xs ++ [n / 256 ^ d % 256]) ((d : Int) - 1) rfl (by simp; omega) hk
    refine ⟨n / 256 ^ d % 256 :: ys, ?_, ?_⟩
    · simp only [cisternref02_big.l0]
      rw [if_pos (by omega), cnt8 d (by omega), if_pos (by omega), if_pos (by omega), shr8 n d (by omega), w64 (by omega) (by omega), h1]
      simp
    · rw [be_top, List.map_cons, h2]; rfl
theorem big_f (n : Int) (m : Nat) (hm : m ≤ 8) (k : Nat) (hk : m + 1 ≤ k) : cisternref02_big.f k n m = some (bs (be n m)) := by
  obtain ⟨ys, h1, h2⟩ := big_l n m k [] ((m : Int) - 1) rfl (by simpa using hm) hk
  unfold cisternref02_big.f
  rw [w64 (by omega) (by omega), h1, List.nil_append, strOfNums_bs, h2]
theorem ref_PutLen_f (n : Int) (k : Nat) (hk : 12 ≤ k) : cisternref02_PutLen.f k n = some (bs (putLenS n).1, (putLenS n).2) := by
  obtain ⟨k, rfl, hk2⟩ := succ_of (n := 11) hk
  clear hk
  have hk := hk2
  unfold cisternref02_PutLen.f putLenS
  simp only [cisternref02_PutLen.j0]
  have b1 := big_f n 1 (by decide) k (by omega)
  have b4 := big_f n 4 (by decide) k (by omega)
  have b8 := big_f n 8 (by decide) k (by omega)
  rw [show ((1 : Nat) : Int) = 1 from rfl] at b1
  rw [show ((4 : Nat) : Int) = 4 from rfl] at b4
  rw [show ((8 : Nat) : Int) = 8 from rfl] at b8
  rw [b1, b4, b8]
  by_cases c0 : n < 0
  · rw [if_pos c0, if_pos trivial, if_pos (Or.inl c0)]
  rw [if_neg c0]
  by_cases c1 : n > 4611686018427387904
  · rw [if_pos (decide_eq_true c1), if_pos (Or.inr c1)]
  rw [if_neg (show ¬ (decide (n > 4611686018427387904) = true) by simpa using c1), if_neg (show ¬ (n < 0 ∨ n > 4611686018427387904) by omega)]
  by_cases c2 : n < 64
  · rw [if_pos c2, if_pos c2]; rfl
  rw [if_neg c2, if_neg c2]
  by_cases c3 : n < 16384
  · rw [if_pos c3, if_pos c3, w64 (by omega) (by omega)]
    have b2 := big_f (n + 16384) 2 (by decide) k (by omega)
    rw [show ((2 : Nat) : Int) = 2 from rfl] at b2
    rw [b2]; rfl
  rw [if_neg c3, if_neg c3]
  by_cases c4 : n < 4294967296
  · rw [if_pos c4, if_pos c4]
    simp only [Option.bind_some, size_mk, be_length]
    rw [if_pos (by decide), cat1]
  · rw [if_neg c4, if_neg c4]
    simp only [Option.bind_some, size_mk, be_length]
    rw [if_pos (by decide), cat1]

/-! ### PutInt -/
theorem low_l (n : Int) (m : Nat) (hm : m ≤ 8) : ∀ (d k : Nat) (xs : List Int) (j : Nat), d + j = m → xs.length = j → d + 1 ≤ k →
    ∃ ys : List Int, cisternref02_low.l0 k n m xs j = some (strOfNums (xs ++ ys)) ∧ ys.map (fun n => UInt8.ofNat n.toNat) = le (n / 256 ^ j) d := by
  intro d
  induction d with
  | zero =>
    intro k xs j hj _ hk
    obtain ⟨k, rfl, -⟩ := succ_of hk
    refine ⟨[], ?_, rfl⟩
    simp only [cisternref02_low.l0]
    rw [if_neg (by omega), List.append_nil]
  | succ d ih =>
    intro k xs j hj hl hk
    obtain ⟨k, rfl, hk2⟩ := succ_of hk
    clear hk
    have hk := hk2
    obtain ⟨ys, h1, h2⟩ := ih k (xs ++ [n / 256 ^ j % 256]) (j + 1) (by omega) (by simp; omega) hk
    refine ⟨n / 256 ^ j % 256 :: ys, ?_, ?_⟩
    · simp only [cisternref02_low.l0]
      rw [if_pos (by omega), cnt8 j (by omega), if_pos (by omega), if_pos (by omega), shr8 n j (by omega), w64 (by omega) (by omega)]
      rw [show ((j : Int) + 1) = ((j + 1 : Nat) : Int) from by omega, h1]
      simp
    · rw [le, List.map_cons, h2, Int.ediv_ediv_of_nonneg (Int.le_of_lt (Int.pow_pos (by decide))), ← Int.pow_succ]; rfl
theorem ref_low_f (n : Int) (m : Nat) (hm : m ≤ 8) (k : Nat) (hk : m + 1 ≤ k) : cisternref02_low.f k n m = some (bs (le n m)) := by
  obtain ⟨ys, h1, h2⟩ := low_l n m hm m k [] 0 (by omega) rfl hk
  unfold cisternref02_low.f
  rw [show (0 : Int) = ((0 : Nat) : Int) from rfl, h1, List.nil_append, strOfNums_bs, h2]
  simp
theorem ref_PutInt_f (n : Int) (k : Nat) (hk : 12 ≤ k) : cisternref02_PutInt.f k n = some (bs (putIntS n).1, (putIntS n).2) := by
  obtain ⟨k, rfl, hk2⟩ := succ_of (n := 11) hk
  clear hk
  have hk := hk2
  obtain ⟨k, rfl, hk2⟩ := succ_of (n := 10) hk
  clear hk
  have hk := hk2
  unfold cisternref02_PutInt.f putIntS
  simp only [cisternref02_PutInt.j0, cisternref02_PutInt.j1]
  have b1 := ref_low_f n 1 (by decide) (k + 1) (by omega)
  have b2 := ref_low_f n 2 (by decide) k (by omega)
  have b4 := ref_low_f n 4 (by decide) k (by omega)
  rw [show ((1 : Nat) : Int) = 1 from rfl] at b1
  rw [show ((2 : Nat) : Int) = 2 from rfl] at b2
  rw [show ((4 : Nat) : Int) = 4 from rfl] at b4
  rw [b1, b2, b4]
  simp only [Option.bind_some, size_mk, le_length, cat1]
  repeat' split
  all_goals first
    | rfl
    | (exfalso; simp only [decide_eq_true_eq] at *; omega)
    | (exfalso; simp at *; omega)
    | (simp at *; done)

/-! ### Len -/
theorem wraps_u64 (n : Int) (h0 : 0 ≤ n) (h1 : n < 2 ^ 64) : IntKind.u64.wrap n = n := u64w h0 (by omega)
theorem orU (x y : Int) (hx : 0 ≤ x) (hx1 : x < 72057594037927936) (hy : 0 ≤ y) (hy1 : y < 256) : bits .or .u64 (IntKind.u64.wrap (x * 256)) (IntKind.u64.wrap y) = x * 256 + y := by
  rw [u64w (by omega) (by omega), u64w hy (by omega)]
  exact bits_join .u64 64 (by decide) wraps_u64 8 (x * 256) y (by omega) (by omega) (by omega) hy (by omega) (by omega)
theorem val_more (a : Bs) (r : Bs) : val a ≤ val (a ++ r) := by
  induction r using snoc_ind with
  | h0 => simp
  | h1 r b ih =>
    rw [← List.append_assoc, val_snoc]
    have := val_nonneg (a ++ r)
    omega
theorem getD_mid (a : Bs) (c : UInt8) (r : Bs) : ((a ++ c :: r).getD ((a.length : Int)).toNat 0) = c := by
  simp [List.getD_eq_getElem?_getD]
theorem bt_mid (a : Bs) (c : UInt8) (r : Bs) : bt (bs (a ++ c :: r)) (a.length : Int) = (c.toNat : Int) := by rw [bt_bs, getD_mid]
theorem len1 (a : Bs) (c : UInt8) : ((a ++ [c]).length : Int) = (a.length : Int) + 1 := by simp
theorem read_l : ∀ (r a : Bs) (k : Nat), a.length + r.length ≤ 8 → r.length + 1 ≤ k → varint_read.l0 k (bs (a ++ r)) (val a) ((a ++ r).length : Int) (a.length : Int) = some (val (a ++ r)) := by
  intro r
  induction r with
  | nil =>
    intro a k _ hk
    obtain ⟨k, rfl, -⟩ := succ_of hk
    simp only [varint_read.l0]
    rw [if_neg (by simp), List.append_nil]
  | cons c r ih =>
    intro a k hl hk
    obtain ⟨k, rfl, hk2⟩ := succ_of hk
    rw [List.length_cons] at hl hk2
    have hv0 := val_nonneg a
    have hv1 := val_lt a
    have hv2 : val a < 72057594037927936 := by
      have h1 := Nat.pow_le_pow_right (n := 256) (by decide) (show a.length ≤ 7 by omega)
      have h2 : (256 : Int) ^ a.length = ((256 ^ a.length : Nat) : Int) := by simp
      rw [show 256 ^ 7 = 72057594037927936 from rfl] at h1
      omega
    have hc := b_lt c
    simp only [varint_read.l0]
    rw [if_pos (by simp; omega), if_pos (by omega), if_pos (by rw [bs_size]; simp; omega), bt_mid, orU _ _ hv0 hv2 (by omega) hc, w64 (by omega) (by omega)]
    have h := ih (a ++ [c]) k (by simp; omega) hk2
    rw [val_snoc, len1, List.append_assoc, List.singleton_append] at h
    exact h
theorem varint_read_f (l : Bs) (hl : l.length ≤ 8) (k : Nat) (hk : 9 ≤ k) : varint_read.f k (bs l) = some (val l) := by
  unfold varint_read.f
  have h := read_l l [] k (by simpa using hl) (by omega)
  rw [bs_size]
  simpa [val_nil] using h
theorem value_l : ∀ (r a : Bs) (k : Nat), val a ≤ 4611686018427387904 + 255 → a.length + r.length ≤ 9 → r.length + 1 ≤ k → cisternref02_value.l0 k (bs (a ++ r)) (val a) (a.length : Int) = some (if val (a ++ r) > 4611686018427387904 then -1 else val (a ++ r)) := by
  intro r
  induction r with
  | nil =>
    intro a k _ _ hk
    obtain ⟨k, rfl, -⟩ := succ_of hk
    simp only [cisternref02_value.l0]
    rw [if_neg (by rw [bs_size]; simp), List.append_nil]
    split <;> rfl
  | cons c r ih =>
    intro a k hv hl hk
    obtain ⟨k, rfl, hk2⟩ := succ_of hk
    rw [List.length_cons] at hl hk2
    have hv0 := val_nonneg a
    have hc := b_lt c
    simp only [cisternref02_value.l0]
    rw [if_pos (by rw [bs_size]; simp; omega)]
    by_cases c1 : val a > 18014398509481984
    · rw [if_pos c1]
      have h1 := val_more (a ++ [c]) r
      rw [val_snoc, List.append_assoc, List.singleton_append] at h1
      rw [if_pos (by omega)]
    · rw [if_neg c1, if_pos (by omega), bt_mid, w64 (x := val a * 256) (by omega) (by omega), w64 (x := (c.toNat : Int)) (by omega) (by omega), w64 (by omega) (by omega), w64 (by omega) (by omega)]
      have h := ih (a ++ [c]) k (by rw [val_snoc]; omega) (by simp; omega) hk2
      rw [val_snoc, len1, List.append_assoc, List.singleton_append] at h
      exact h
theorem value_f (l : Bs) (hl : l.length ≤ 8) (k : Nat) (hk : 9 ≤ k) : cisternref02_value.f k (bs l) = some (if val l > 4611686018427387904 then -1 else val l) := by
  unfold cisternref02_value.f
  have h := value_l l [] k (by simp [val]) (by simp; omega) (by omega)
  simpa [val] using h
theorem and63 (x : Int) (h0 : 0 ≤ x) (h1 : x < 256) : bits .and .i64 x 63 = x % 64 := bits_mask .i64 63 (by decide) wraps_i64 6 (by decide) x h0 (by omega)
theorem val4_lt (t : Bs) (h : ¬ t.length < 4) : 0 ≤ val (t.take 4) ∧ val (t.take 4) < 4294967296 := by
  have h1 := val_lt (t.take 4)
  rw [List.length_take, Nat.min_eq_left (by omega)] at h1
  exact ⟨val_nonneg _, h1⟩
theorem val8_lt (t : Bs) (h : ¬ t.length < 8) : 0 ≤ val (t.take 8) ∧ val (t.take 8) < 18446744073709551616 := by
  have h1 := val_lt (t.take 8)
  rw [List.length_take, Nat.min_eq_left (by omega)] at h1
  exact ⟨val_nonneg _, h1⟩
theorem short_f (s : ByteArray) : varint_short.f s = some 20 := rfl
theorem varint_Len_f (l : Bs) (k : Nat) (hk : 12 ≤ k) : varint_Len.f k (bs l) = some (lenS l) := by
  obtain ⟨k, rfl, hk2⟩ := succ_of (n := 11) hk
  obtain ⟨k, rfl, hk3⟩ := succ_of (n := 10) hk2
  unfold varint_Len.f lenS
  simp only [bs_toList, bs_size, bs_extract, varint_Len.j0, varint_Len.j1, short_f, Option.bind_some]
  cases l with
  | nil => rw [if_pos rfl]
  | cons b t =>
    have hb := b_lt b
    have e0 : bt (bs (b :: t)) 0 = (b.toNat : Int) := by rw [bt_bs]; rfl
    rw [e0, w64 (x := (b.toNat : Int)) (by omega) (by omega)]
    simp only [List.length_cons, List.take_succ_cons, List.drop_succ_cons, List.drop_zero]
    rw [if_neg (by simp), if_pos (by omega)]
    by_cases c1 : b.toNat < 64
    · rw [if_pos (by omega), if_pos c1]
    rw [if_neg (by omega), if_neg c1]
    by_cases c2 : b.toNat < 128
    · rw [if_pos (by omega), if_pos c2]
      cases t with
      | nil => rw [if_pos (by simp)]
      | cons c t =>
        have hc := b_lt c
        have e1 : bt (bs (b :: c :: t)) 1 = (c.toNat : Int) := by rw [bt_bs]; rfl
        rw [e1, w64 (x := (c.toNat : Int)) (by omega) (by omega), and63 _ (by omega) hb, show (b.toNat : Int) % 64 = (b.toNat : Int) - 64 by omega, or8 _ _ (by omega) (by omega) (by omega) hc]
        rw [if_neg (by simp only [List.length_cons]; omega), if_pos (by simp only [List.length_cons]; omega)]
        dsimp only
        split <;> rfl
    rw [if_neg (by omega), if_neg c2]
    by_cases c3 : b.toNat = 128
    · rw [if_neg (by omega), if_pos (by omega), if_pos c3]
      by_cases c4 : t.length < 4
      · rw [if_pos (by simp only [decide_eq_true_eq]; omega), if_pos c4]
      · rw [if_neg (by simp only [decide_eq_true_eq]; omega), if_neg c4, if_pos (by omega), if_pos (by omega), if_pos (by omega), varint_read_f _ (by rw [List.length_take]; omega) _ (by omega)]
        have hv := val4_lt t c4
        simp only [Option.bind_some]
        rw [w64 (by omega) (by omega)]
        split <;> rfl
    rw [if_neg c3]
    by_cases c4 : b.toNat = 129
    · rw [if_neg (by omega), if_neg (by omega), if_neg (by simp), if_neg (by omega), if_pos (by omega), if_pos c4]
      by_cases c5 : t.length < 8
      · rw [if_pos (by simp only [decide_eq_true_eq]; omega), if_pos c5]
      · rw [if_neg (by simp only [decide_eq_true_eq]; omega), if_neg c5, if_pos (by omega), if_pos (by omega), if_pos (by omega), varint_read_f _ (by rw [List.length_take]; omega) _ (by omega)]
        have hv := val8_lt t c5
        simp only [Option.bind_some]
        by_cases c6 : val (t.take 8) ≥ 4294967296
        · by_cases c7 : val (t.take 8) ≤ 4611686018427387904
          · rw [if_pos c6, if_pos c7, if_pos ⟨c6, c7⟩, w64 (by omega) (by omega)]
          · rw [if_pos c6, if_neg c7, if_neg (by omega)]
        · rw [if_neg c6, if_neg (by omega)]
    rw [if_neg c4]
    by_cases c5 : 192 ≤ b.toNat
    · rw [if_pos (by omega)]
      by_cases c6 : b.toNat ≤ 195
      · rw [if_pos (by omega), if_pos ⟨c5, c6⟩, w64 (x := (b.toNat : Int) - 192) (by omega) (by omega), w64 (by omega) (by omega)]
        simp only [Option.some.injEq, Prod.mk.injEq, and_true, true_and]
        omega
      · rw [if_neg (by omega), if_neg (by omega)]
    · rw [if_neg (by omega), if_neg (by omega), if_neg (by simp), if_neg (by omega), if_neg (by omega), if_neg (show ¬ (192 ≤ b.toNat ∧ b.toNat ≤ 195) by omega)]
      rw [if_neg (by simp), if_neg (by omega)]
theorem take_eq (b : UInt8) (t : Bs) (n : Nat) (x : Bs) : x = (b :: t).take (n + 1) ↔ x = b :: t.take n := by rw [List.take_succ_cons]
theorem putLenS_len (n : Int) (h : (putLenS n).2 = 0) : (putLenS n).1.length = if n < 64 then 1 else if n < 16384 then 2 else if n < 4294967296 then 5 else 9 := by
  unfold putLenS at *
  split at h
  · simp at h
  · rename_i c
    rw [if_neg c]
    split
    · rfl
    split
    · rfl
    split
    · simp [be_length]
    · simp [be_length]
theorem ref_Len_f (l : Bs) (k : Nat) (hk : 14 ≤ k) : cisternref02_Len.f k (bs l) = some (lenS l) := by
  obtain ⟨k, rfl, hk2⟩ := succ_of (n := 13) hk
  unfold cisternref02_Len.f lenS
  simp only [bs_toList, bs_size, bs_extract, cisternref02_Len.j0]
  cases l with
  | nil => rw [if_pos rfl]
  | cons b t =>
    have hb := b_lt b
    have e0 : bt (bs (b :: t)) 0 = (b.toNat : Int) := by rw [bt_bs]; rfl
    rw [e0, w64 (x := (b.toNat : Int)) (by omega) (by omega)]
    simp only [List.length_cons, List.take_succ_cons, List.drop_succ_cons, List.drop_zero, show (5 : Int).toNat = 5 from rfl, show (9 : Int).toNat = 9 from rfl, show (2 : Int).toNat = 2 from rfl]
    rw [if_neg (by simp), if_pos (by omega)]
    by_cases c1 : b.toNat < 64
    · rw [if_pos (by omega), if_pos c1]
    rw [if_neg (by omega), if_neg c1]
    by_cases c2 : b.toNat < 128
    · rw [if_pos (by omega), if_pos c2]
      cases t with
      | nil => rw [if_pos (by simp)]
      | cons c t =>
        have hc := b_lt c
        simp only [List.length_cons, List.take_succ_cons, List.take_zero]
        rw [if_neg (by omega), if_pos trivial, if_pos (by omega), if_pos (by omega), value_f _ (by simp) _ (by omega)]
        have hv : val [b, c] = (b.toNat : Int) * 256 + c.toNat := by simp [val]
        rw [hv, if_neg (by omega)]
        simp only [Option.bind_some]
        rw [w64 (by omega) (by omega), ref_PutLen_f _ _ (by omega)]
        simp only [Option.bind_some, bs_toList]
        have hn : (b.toNat : Int) * 256 + c.toNat - 16384 = ((b.toNat : Int) - 64) * 256 + c.toNat := by omega
        rw [hn]
        have hp : (putLenS (((b.toNat : Int) - 64) * 256 + c.toNat)).2 = 0 := by
          unfold putLenS
          rw [if_neg (by omega)]
          repeat' split
          all_goals rfl
        rw [if_pos hp, if_pos (by omega), if_pos (by omega)]
        by_cases c3 : ((b.toNat : Int) - 64) * 256 + c.toNat ≥ 64
        · rw [if_pos c3]
          have e : (putLenS (((b.toNat : Int) - 64) * 256 + c.toNat)).1 = [b, c] := by
            unfold putLenS
            rw [if_neg (by omega), if_neg (by omega), if_pos (by omega), be2, by8_of b _ (by omega), by8_of c _ (by omega)]
          rw [if_pos e]
        · rw [if_neg c3, if_neg]
          intro e
          have h1 := putLenS_len _ hp
          rw [e, if_pos (by omega)] at h1
          simp at h1
    rw [if_neg (by omega), if_neg c2]
    by_cases c3 : b.toNat = 128
    · rw [if_pos (by omega), if_pos c3]
      by_cases c4 : t.length < 4
      · rw [if_pos (by omega), if_pos c4]
      · rw [if_neg (by omega), if_neg (by decide), if_pos (by decide), if_pos (by omega), if_neg c4, value_f _ (by rw [List.length_take]; omega) _ (by omega)]
        have hv := val4_lt t c4
        rw [if_neg (by omega)]
        simp only [Option.bind_some]
        rw [ref_PutLen_f _ _ (by omega)]
        simp only [Option.bind_some, bs_toList]
        have hp : (putLenS (val (t.take 4))).2 = 0 := by
          unfold putLenS
          rw [if_neg (by omega)]
          repeat' split
          all_goals rfl
        rw [if_pos hp, if_pos (by decide)]
        by_cases c5 : val (t.take 4) ≥ 16384
        · rw [if_pos c5]
          have e : (putLenS (val (t.take 4))).1 = b :: t.take 4 := by
            unfold putLenS
            rw [if_neg (by omega), if_neg (by omega), if_neg (by omega), if_pos (by omega)]
            have hbv := be_val (t.take 4)
            rw [List.length_take, Nat.min_eq_left (by omega)] at hbv
            have hb' : b = 128 := UInt8.toNat_inj.mp (by rw [c3]; rfl)
            rw [hbv, hb']
          rw [if_pos e]
        · rw [if_neg c5, if_neg]
          intro e
          have h1 := putLenS_len _ hp
          rw [e] at h1
          simp only [List.length_cons, List.length_take] at h1
          rw [Nat.min_eq_left (by omega)] at h1
          split at h1
          · omega
          · rw [if_pos (by omega)] at h1; omega
    rw [if_neg (by omega), if_neg c3]
    by_cases c4 : b.toNat = 129
    · rw [if_pos (by omega), if_pos c4]
      by_cases c5 : t.length < 8
      · rw [if_pos (by omega), if_pos c5]
      · rw [if_neg (by omega), if_neg (by decide), if_pos (by decide), if_pos (by omega), if_neg c5, value_f _ (by rw [List.length_take]; omega) _ (by omega)]
        have hv := val8_lt t c5
        simp only [Option.bind_some]
        rw [ref_PutLen_f _ _ (by omega)]
        simp only [Option.bind_some, bs_toList]
        by_cases c6 : val (t.take 8) > 4611686018427387904
        · rw [if_pos c6]
          have hp : (putLenS (-1)).2 = 1 := rfl
          rw [hp, if_neg (by decide), if_neg (show ¬ (val (t.take 8) ≥ 4294967296 ∧ val (t.take 8) ≤ 4611686018427387904) by omega)]
        rw [if_neg c6]
        have hp : (putLenS (val (t.take 8))).2 = 0 := by
          unfold putLenS
          rw [if_neg (by omega)]
          repeat' split
          all_goals rfl
        rw [if_pos hp, if_pos (by decide)]
        by_cases c7 : val (t.take 8) ≥ 4294967296
        · rw [if_pos (show val (t.take 8) ≥ 4294967296 ∧ val (t.take 8) ≤ 4611686018427387904 from ⟨c7, by omega⟩)]
          have e : (putLenS (val (t.take 8))).1 = b :: t.take 8 := by
            unfold putLenS
            rw [if_neg (by omega), if_neg (by omega), if_neg (by omega), if_neg (by omega)]
            have hbv := be_val (t.take 8)
            rw [List.length_take, Nat.min_eq_left (by omega)] at hbv
            have hb' : b = 129 := UInt8.toNat_inj.mp (by rw [c4]; rfl)
            rw [hbv, hb']
          rw [if_pos e]
        · rw [if_neg (show ¬ (val (t.take 8) ≥ 4294967296 ∧ val (t.take 8) ≤ 4611686018427387904) by omega), if_neg]
          intro e
          have h1 := putLenS_len _ hp
          rw [e] at h1
          simp only [List.length_cons, List.length_take] at h1
          rw [Nat.min_eq_left (by omega)] at h1
          split at h1
          · omega
          split at h1
          · omega
          · rw [if_pos (by omega)] at h1; omega
    rw [if_neg (by omega), if_neg c4]
    by_cases c5 : 192 ≤ b.toNat
    · rw [if_pos (by omega)]
      by_cases c6 : b.toNat ≤ 195
      · rw [if_pos (by omega), if_pos ⟨c5, c6⟩, w64 (by omega) (by omega)]
      · rw [if_neg (by omega), if_neg (by omega)]
    · rw [if_neg (by omega), if_neg (by omega)]
end Go.Proofs.YtlhinklnnjbmpaaDoor.Sp
