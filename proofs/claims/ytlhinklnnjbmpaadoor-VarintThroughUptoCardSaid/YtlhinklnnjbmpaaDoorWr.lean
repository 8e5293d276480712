/- The contracts of varint.Writer's functions. -/
import Derived.Test.YtlhinklnnjbmpaaDoorRl
namespace Go.Proofs.YtlhinklnnjbmpaaDoor.Wr
open Go.RowKit Go.Proofs.YtlhinklnnjbmpaaDoor.Vm Go.Proofs.YtlhinklnnjbmpaaDoor.Vw Go.Proofs.YtlhinklnnjbmpaaDoor.Sp Go.Proofs.YtlhinklnnjbmpaaDoorW.PrintWords Go.Proofs.YtlhinklnnjbmpaaDoorW.PrintLast Go.Proofs.YtlhinklnnjbmpaaDoorW.PrintMore Go.Proofs.YtlhinklnnjbmpaaDoor.GA Go.Proofs.YtlhinklnnjbmpaaDoor.GP Go.Proofs.YtlhinklnnjbmpaaDoor.Bk Go.Proofs.YtlhinklnnjbmpaaDoor.Rd
set_option linter.unusedVariables false
set_option linter.unusedSimpArgs false
/-- A Writer in the block g, that has written xs. -/
def Wr (w0 W : World) (g : Nat) (lim : Int) (xs : List Int) : Prop :=
  ∃ v, W.heap[g]? = some (.cells #[.int .i64 lim, v] 79 (0, 0)) ∧ W.ownsRow w0.heap.size 5 1 v xs.length (nums .u8 xs) ∧ w0.heap.size ≤ g ∧ Below w0.heap.size w0 W
/-- What a Writer's call leaves of all else. -/
def Kp (w0 W W' : World) (g : Nat) : Prop :=
  Below w0.heap.size w0 W' ∧ W.heap.size ≤ W'.heap.size ∧ ∀ k cs t fr, W.heap[k]? = some (.cells cs t fr) → t ≠ 5 → k ≠ g → W'.heap[k]? = some (.cells cs t fr)
theorem Wr.below {w0 W : World} {g : Nat} {lim : Int} {xs : List Int} (h : Wr w0 W g lim xs) : Below w0.heap.size w0 W := by obtain ⟨v, -, -, -, hb⟩ := h; exact hb
theorem Kp.refl {w0 W : World} {g : Nat} (h : Below w0.heap.size w0 W) : Kp w0 W W g := ⟨h, Nat.le_refl _, fun _ _ _ _ h _ _ => h⟩
theorem Kp.trans {w0 W W1 W2 : World} {g : Nat} (h : Kp w0 W W1 g) (k : Kp w0 W1 W2 g) : Kp w0 W W2 g :=
  ⟨k.1, Nat.le_trans h.2.1 k.2.1, fun i cs t fr hh ht hi => k.2.2 i cs t fr (h.2.2 i cs t fr hh ht hi) ht hi⟩
theorem Kp.drew {w0 W W1 : World} {g : Nat} (h : Kp w0 W W1 g) : Kp w0 W W1.drew g := ⟨below_drew1 h.1, h.2.1, h.2.2⟩
theorem Wr.drew {w0 W : World} {g : Nat} {lim : Int} {xs : List Int} (h : Wr w0 W g lim xs) : Wr w0 W.drew g lim xs := by
  obtain ⟨v, a, b, c, d⟩ := h
  exact ⟨v, a, own_move b (fun _ _ => rfl), c, below_drew1 d⟩
theorem own_slice {W : World} {base n : Nat} {e : TypeId} {v : Value} {xs : List Value} (h : W.ownsRow base e 1 v n xs) : ∃ A c, v = .slice A n c := by
  rcases h.2 with ⟨rfl, h0⟩ | ⟨g, cap, cur, rfl, -⟩
  · subst h0; exact ⟨none, 0, rfl⟩
  · exact ⟨_, _, rfl⟩
theorem own_slice' {W : World} {base n : Nat} {e : TypeId} {v : Value} {xs : List Value} (h : W.ownsRow base e 1 v n xs) : ∃ A c m, v = .slice A m c ∧ Aside0 (m = n) := by
  obtain ⟨A, c, h⟩ := own_slice h
  exact ⟨A, c, n, h, ⟨rfl⟩⟩
theorem wr_below {w0 W W1 : World} {g : Nat} {lim : Int} {xs : List Int} (h : Wr w0 W g lim xs) (hb : Below W.heap.size W W1) : Wr w0 W1 g lim xs := by
  obtain ⟨v, a, b, c, d⟩ := h
  refine ⟨v, (hb.block g (blk_lt a)).trans a, own_move b (fun k hk => ?_), c, below_step d hb⟩
  obtain ⟨cs, hc⟩ := own_typed b k hk
  exact hb.block k (blk_lt hc)
theorem kp_below {w0 W W1 : World} {g : Nat} (h : Below w0.heap.size w0 W) (hb : Below W.heap.size W W1) : Kp w0 W W1 g :=
  ⟨below_step h hb, hb.size, fun k cs t fr hh _ _ => (hb.block k (blk_lt hh)).trans hh⟩
set_option maxHeartbeats 1000000 in
set_option maxRecDepth 100000 in
theorem c_New (lim : Int) (w : World) (h0 : 0 ≤ lim) (h1 : lim ≤ 1073741824) :
    Calls Tryd.prog 17 #[.int .i64 lim] w fun e w' => ∃ g, e = .returned (.tuple #[.pointer (some ⟨g, 0, none⟩), .int .i64 0]) ∧ Wr w w' g lim [] := by
  have q0 : decide (lim < 0) = false := decide_eq_false (by omega)
  have q1 : decide (lim > 1073741824) = false := decide_eq_false (by omega)
  go_enter Tryd.func17, Tryd.ntmps17
  go_wp2
  go_ret2
  exact ⟨w.heap.size, rfl, _, heap_alloc_new w _, own_nil _ _ _ _, Nat.le_refl _, below_alloc (Below.refl _ _) _⟩
set_option maxHeartbeats 1000000 in
set_option maxRecDepth 100000 in
theorem c_Bad (lim : Int) (w : World) (h : lim < 0 ∨ lim > 1073741824) :
    Calls Tryd.prog 17 #[.int .i64 lim] w fun e w' => e = .returned (.tuple #[.pointer none, .int .i64 1]) ∧ Below w.heap.size w w' := by
  by_cases h0 : lim < 0
  · have q0 : decide (lim < 0) = true := decide_eq_true h0
    go_enter Tryd.func17, Tryd.ntmps17
    go_wp2
    go_ret2
    exact ⟨rfl, Below.refl _ _⟩
  · have q0 : decide (lim < 0) = false := decide_eq_false h0
    have q1 : decide (lim > 1073741824) = true := decide_eq_true (by omega)
    go_enter Tryd.func17, Tryd.ntmps17
    go_wp2
    go_ret2
    exact ⟨rfl, Below.refl _ _⟩
set_option maxHeartbeats 1000000 in
set_option maxRecDepth 100000 in
theorem c_Size {w0 W : World} {g : Nat} {lim : Int} {xs : List Int} (h : Wr w0 W g lim xs) :
    Calls Tryd.prog 20 #[.pointer (some ⟨g, 0, none⟩)] W fun e w' => e = .returned (.int .i64 xs.length) ∧ w' = W := by
  obtain ⟨v, hg, ho, -, -⟩ := h
  obtain ⟨A, c, rfl⟩ := own_slice ho
  have c1 : W.cell? ⟨g, 1, none⟩ = some (.slice A xs.length c) := (blk_cell hg 1).trans rfl
  clear hg ho
  go_enter Tryd.func20, Tryd.ntmps20
  go_wp2
  go_ret
  exact ⟨rfl, rfl⟩
set_option maxHeartbeats 1000000 in
set_option maxRecDepth 100000 in
theorem c_Text {w0 W : World} {g : Nat} {lim : Int} {xs : List Int} (h : Wr w0 W g lim xs) :
    Calls Tryd.prog 21 #[.pointer (some ⟨g, 0, none⟩)] W fun e w' => e = .returned (.string (strOfNums xs)) ∧ w' = W := by
  obtain ⟨v, hg, ho, -, -⟩ := h
  have hcv := own_string (P := Tryd.prog) Tryd.underlying77 Tryd.underlying5 Tryd.underlying9 ho
  have c1 : W.cell? ⟨g, 1, none⟩ = some v := (blk_cell hg 1).trans rfl
  clear hg ho
  go_enter Tryd.func21, Tryd.ntmps21
  go_wp2
  go_ret
  exact ⟨rfl, rfl⟩
/-- How many bytes the texts have. -/
def tot (ts : List ByteArray) : Nat := (ts.map ByteArray.size).sum
theorem tot_split (ts : List ByteArray) {k : Nat} {t : ByteArray} (h : ts[k]? = some t) : tot (ts.take (k + 1)) = tot (ts.take k) + t.size := by
  have hk : k < ts.length := (List.getElem?_eq_some_iff.1 h).1
  have e : ts.take (k + 1) = ts.take k ++ [t] := by rw [List.take_add_one, h]; rfl
  unfold tot
  rw [e, List.map_append, List.sum_append]
  simp
theorem tot_le (ts : List ByteArray) (k : Nat) : tot (ts.take k) ≤ tot ts := by
  unfold tot
  conv => rhs; rw [← List.take_append_drop k ts, List.map_append, List.sum_append]
  omega
theorem get_text {W : World} {A : Option Addr} {ts : List ByteArray} (h : Kd.string.C W A ts.length ts) {k : Nat} (hk : k < ts.length) :
    ∃ ad t, A = some ad ∧ ts[k]? = some t ∧ W.cell? (ad.add k) = some (.string t) := by
  obtain ⟨ad, c, hA, hl, hK, hc⟩ := Kd.C_get h (⟨#[]⟩ : ByteArray) (k : Int) (by omega) (by omega)
  have hK' : c = [.string (ts.getD (k : Int).toNat ⟨#[]⟩)] := hK
  subst hK'
  have := hc 0 _ rfl
  refine ⟨ad, ts[k], hA, List.getElem?_eq_getElem hk, ?_⟩
  have e : ts.getD (k : Int).toNat ⟨#[]⟩ = ts[k] := by rw [Int.toNat_natCast, List.getD_eq_getElem?_getD, List.getElem?_eq_getElem hk]; rfl
  rw [e] at this
  have e2 : (k : Int).toNat * Kd.string.sz + 0 = k := by show (k : Int).toNat * 1 + 0 = k; omega
  rw [e2] at this
  exact this
set_option maxHeartbeats 2000000 in
set_option maxRecDepth 100000 in
theorem c_Put_long {w0 W : World} {g : Nat} {lim : Int} {xs : List Int} (h : Wr w0 W g lim xs) (hl : lim ≤ 1073741824) (hx : (xs.length : Int) ≤ lim) (A : Option Addr) (cap : Nat) (ts : List ByteArray)
    (HT : Aside0 (∀ W', Kp w0 W W' g → Kd.string.C W' A ts.length ts)) (hz : Aside0 (∀ t ∈ ts, t.size ≤ 140737488351232)) (hn : ts.length ≤ 140737488351232) (hbig : Aside0 (lim < xs.length + tot ts)) :
    Calls Tryd.prog 19 #[.pointer (some ⟨g, 0, none⟩), .slice A ts.length cap] W fun e w' => e = .returned (.int .i64 2) ∧ w' = W.drew := by
  obtain ⟨v, hg, ho, -, hB⟩ := h
  obtain ⟨B, c, rfl⟩ := own_slice ho
  have hC := HT.out W.drew (Kp.refl hB).drew
  have c0 : W.cell? ⟨g, 0, none⟩ = some (.int .i64 lim) := (blk_cell hg 0).trans rfl
  have c1 : W.cell? ⟨g, 1, none⟩ = some (.slice B xs.length c) := (blk_cell hg 1).trans rfl
  have r0 : IntKind.i64.wrap (lim - (xs.length : Int)) = lim - xs.length := by rw [i64_w]; exact w64 (by omega) (by omega)
  have HC := Aside0.mk hC
  clear hg ho hB hC
  go_enter Tryd.func19, Tryd.ntmps19
  go_wp2_with fail
  go_region_held3 (fun w' => w'.cell? ⟨g, 0, none⟩ = some (.int .i64 lim) ∧ w'.cell? ⟨g, 1, none⟩ = some (.slice B xs.length c)) (exact ⟨c0, c1⟩) (fail)
  go_wp2_with fail
  go_loop [5, 22] (fun v5 v22 => ∃ k : Nat, v22 = .int .i64 k ∧ k ≤ ts.length ∧ v5 = .int .i64 (lim - xs.length - tot (ts.take k)) ∧ Aside0 ((xs.length : Int) + tot (ts.take k) ≤ lim)) (fun v5 v22 => ts.length - (intOf v22).toNat)
  case atStart => exact ⟨0, rfl, Nat.zero_le _, by simp [tot], ⟨by simp [tot]; exact hx⟩⟩
  case round =>
    obtain ⟨k, rfl, hk, rfl, hin⟩ := hrel
    have hlt : k < ts.length := by
      rcases Nat.lt_or_ge k ts.length with h | h
      · exact h
      · exfalso
        have e : ts.take k = ts := List.take_of_length_le h
        have h1 := hin.out
        rw [e] at h1
        have := hbig.out
        omega
    obtain ⟨ad, t, rfl, ht, hcell⟩ := get_text HC.out hlt
    have hc' : W.drew.cell? (ad.add k) = some (.string t) := hcell
    have hts : t.size ≤ 140737488351232 := hz.out t (List.mem_of_getElem? ht)
    have hsp := tot_split ts ht
    have q1 : decide ((k : Int) < (ts.length : Int)) = true := decide_eq_true (by omega)
    have r1 : IntKind.i64.wrap (lim - xs.length - tot (ts.take k) - (t.size : Int)) = lim - xs.length - tot (ts.take k) - (t.size : Int) := by
      rw [i64_w]; have := hin.out; exact w64 (by omega) (by omega)
    by_cases hneg : lim - xs.length - tot (ts.take k) - (t.size : Int) < 0
    · have q2 : decide (lim - xs.length - tot (ts.take k) - (t.size : Int) < 0) = true := decide_eq_true hneg
      go_wp2_with fail
      go_ret
      exact ⟨rfl, rfl⟩
    · have q2 : decide (lim - xs.length - tot (ts.take k) - (t.size : Int) < 0) = false := decide_eq_false hneg
      go_wp2_with fail
      refine ⟨⟨k + 1, by rfl, hlt, ?_, ?_⟩, ?_⟩
      · congr 1; rw [hsp]; go_light; omega
      · exact ⟨by rw [hsp]; go_light; omega⟩
      · have e1 : intOf (Value.int IntKind.i64 ((k : Int) + 1)) = (k : Int) + 1 := rfl
        have e2 : intOf (Value.int IntKind.i64 (k : Int)) = (k : Int) := rfl
        rw [e1, e2]; go_light; omega
theorem info5p : (Tryd.prog.info? 5).map (fun i => (i.zero, i.size, i.bytes)) = some (some (.int .u8 0), 1, 1) := by kernel_rfl
theorem flat_split (ts : List ByteArray) {k : Nat} {t : ByteArray} (h : ts[k]? = some t) : (ts.take (k + 1)).flatMap bytesOf = (ts.take k).flatMap bytesOf ++ bytesOf t := by
  have hk : k < ts.length := (List.getElem?_eq_some_iff.1 h).1
  have e : ts.take (k + 1) = ts.take k ++ [t] := by rw [List.take_add_one, h]; rfl
  rw [e, List.flatMap_append]
  simp
theorem flat_len (ts : List ByteArray) : (ts.flatMap bytesOf).length = tot ts := by
  induction ts with
  | nil => rfl
  | cons t ts ih => rw [List.flatMap_cons, List.length_append, bytesOf_length, ih]; rfl
/-- What the second loop's append and store leave. -/
theorem put_step {w0 W W1 : World} {g : Nat} {lim : Int} {xs : List Int} {y : ByteArray} {v v1 : Value} (hg : W.heap[g]? = some (.cells #[.int .i64 lim, v] 79 (0, 0))) (ho : W.ownsRow w0.heap.size 5 1 v xs.length (nums .u8 xs)) (hge : w0.heap.size ≤ g)
    (h1 : W1.ownsRow w0.heap.size 5 1 v1 (xs ++ bytesOf y).length (nums .u8 (xs ++ bytesOf y))) (hB : Below w0.heap.size w0 W1) (hw : W.grownBy W1 v.ownBlock) :
    W1.cell? ⟨g, 1, none⟩ = some v ∧ W1.frozen? ⟨g, 1, none⟩ = false ∧ Wr w0 (W1.setCell ⟨g, 1, none⟩ v1) g lim (xs ++ bytesOf y) ∧ Kp w0 W (W1.setCell ⟨g, 1, none⟩ v1) g := by
  have hb : W1.heap[g]? = some (.cells #[.int .i64 lim, v] 79 (0, 0)) := blk_grown hg hw (own_ne ho hg (by decide))
  refine ⟨(blk_two hb).2.1, (blk_two hb).2.2.2, ⟨v1, heap_set (off := 1) hb v1, own_setCell h1 (own_ne h1 hb (by decide)) _, hge, below_set hB hge⟩, below_set hB hge, ?_, fun k cs t fr hk ht hne => ?_⟩
  · show W.heap.size ≤ (W1.heap.modify _ _).size
    rw [Array.size_modify]; exact hw.size
  · rw [heap_set_ne (fun e => hne e.symm) v1]
    refine (hw.block k (blk_lt hk) (fun e => ?_)).trans hk
    obtain ⟨cells, hc⟩ := own_typed ho k e.symm
    rw [hk] at hc
    injection hc with hc
    injection hc with _ h2 _
    exact ht h2
set_option maxHeartbeats 4000000 in
set_option maxRecDepth 100000 in
theorem c_Put_ok {w0 W : World} {g : Nat} {lim : Int} {xs : List Int} (h : Wr w0 W g lim xs) (hl : lim ≤ 1073741824) (A : Option Addr) (cap : Nat) (ts : List ByteArray)
    (HT : Aside0 (∀ W', Kp w0 W W' g → Kd.string.C W' A ts.length ts)) (hn : ts.length ≤ 140737488351232) (hfit : Aside0 ((xs.length : Int) + tot ts ≤ lim)) :
    Calls Tryd.prog 19 #[.pointer (some ⟨g, 0, none⟩), .slice A ts.length cap] W fun e w' => e = .returned (.int .i64 0) ∧ Wr w0 w' g lim (xs ++ ts.flatMap bytesOf) ∧ Kp w0 W w' g := by
  have HW := Aside0.mk h
  obtain ⟨v, hg, ho, -, hB⟩ := h
  obtain ⟨B, c, rfl⟩ := own_slice ho
  have hC := HT.out W.drew (Kp.refl hB).drew
  have HK0 : Aside0 (Kp w0 W W.drew g) := ⟨(Kp.refl hB).drew⟩
  have c0 : W.cell? ⟨g, 0, none⟩ = some (.int .i64 lim) := (blk_cell hg 0).trans rfl
  have c1 : W.cell? ⟨g, 1, none⟩ = some (.slice B xs.length c) := (blk_cell hg 1).trans rfl
  have hxl : (xs.length : Int) ≤ lim := by have := hfit.out; omega
  have r0 : IntKind.i64.wrap (lim - (xs.length : Int)) = lim - xs.length := by rw [i64_w]; exact w64 (by omega) (by omega)
  have HC := Aside0.mk hC
  clear hg ho hB hC
  go_enter Tryd.func19, Tryd.ntmps19
  go_wp2_with fail
  go_region_held3 (fun w' => w'.cell? ⟨g, 0, none⟩ = some (.int .i64 lim) ∧ w'.cell? ⟨g, 1, none⟩ = some (.slice B xs.length c)) (exact ⟨c0, c1⟩) (fail)
  go_wp2_with fail
  go_loop [5, 22] (fun v5 v22 => ∃ k : Nat, v22 = .int .i64 k ∧ k ≤ ts.length ∧ v5 = .int .i64 (lim - xs.length - tot (ts.take k))) (fun v5 v22 => ts.length - (intOf v22).toNat)
  case atStart => exact ⟨0, rfl, Nat.zero_le _, by simp [tot]⟩
  case round =>
    obtain ⟨k, rfl, hk, rfl⟩ := hrel
    rcases Nat.lt_or_ge k ts.length with hlt | hge
    · obtain ⟨ad, t, rfl, ht, hcell⟩ := get_text HC.out hlt
      have hc' : W.drew.cell? (ad.add k) = some (.string t) := hcell
      have hsp := tot_split ts ht
      have htl := tot_le ts (k + 1)
      have q1 : decide ((k : Int) < (ts.length : Int)) = true := decide_eq_true (by omega)
      have r1 : IntKind.i64.wrap (lim - xs.length - tot (ts.take k) - (t.size : Int)) = lim - xs.length - tot (ts.take k) - (t.size : Int) := by
        rw [i64_w]; have := hfit.out; exact w64 (by omega) (by omega)
      have q2 : decide (lim - xs.length - tot (ts.take k) - (t.size : Int) < 0) = false := decide_eq_false (by have := hfit.out; omega)
      go_wp2_with fail
      refine ⟨⟨k + 1, by rfl, hlt, ?_⟩, ?_⟩
      · congr 1; rw [hsp]; go_light; omega
      · have e1 : intOf (Value.int IntKind.i64 ((k : Int) + 1)) = (k : Int) + 1 := rfl
        have e2 : intOf (Value.int IntKind.i64 (k : Int)) = (k : Int) := rfl
        rw [e1, e2]; go_light; omega
    · have q1 : decide ((k : Int) < (ts.length : Int)) = false := decide_eq_false (by omega)
      go_wp2_with fail
      go_loopw [35] (fun v35 wr => ∃ k : Nat, v35 = .int .i64 k ∧ k ≤ ts.length ∧ Aside0 (Wr w0 wr g lim (xs ++ (ts.take k).flatMap bytesOf)) ∧ Aside0 (Kp w0 W wr g)) (fun v35 _ => ts.length - (intOf v35).toNat)
      case atStart => exact ⟨0, rfl, Nat.zero_le _, ⟨by simpa using HW.out.drew⟩, HK0⟩
      case round =>
        obtain ⟨k2, rfl, hk2, HR, HK⟩ := hrel
        rcases Nat.lt_or_ge k2 ts.length with hlt | hge2
        · have q3 : decide ((k2 : Int) < (ts.length : Int)) = true := decide_eq_true (by omega)
          obtain ⟨ad, t, rfl, ht, hcell⟩ := get_text (HT.out wr HK.out) hlt
          have hsp := flat_split ts ht
          have hsz : (xs ++ (ts.take k2).flatMap bytesOf).length + t.size ≤ 1073741824 := by
            have h1 := tot_split ts ht
            have h2 := tot_le ts (k2 + 1)
            have h3 := hfit.out
            rw [List.length_append, flat_len]
            omega
          obtain ⟨v2, hg2, ho2, hge3, hB2⟩ := HR.out
          have d0 : wr.cell? ⟨g, 1, none⟩ = some v2 := (blk_cell hg2 1).trans rfl
          have HG := Aside0.mk hg2
          have HO := Aside0.mk ho2
          have HB := Aside0.mk hB2
          clear hg2 ho2 hB2
          go_wp2_with (first | ((with_reducible refine gate_builtin (b := .append) (xs := #[.tmp 43, .tmp 44]) rfl ?_); at_builtin; refine print_append_str (w0 := w0) w0.heap.size rfl (.tmp 43) _ 77 9 5 rfl Tryd.underlying77 Tryd.underlying9 info5p v2 (xs ++ (ts.take k2).flatMap bytesOf) t rfl rfl ?aO ?aB ?aS ?aL ?_; (case aO => exact HO.out); (case aB => exact HB.out); (case aS => exact HB.out.size); (case aL => omega); intro v3 w3 ho hb hg; obtain ⟨A3, c3, m3, rfl, hm3⟩ := own_slice' ho; obtain ⟨e1, e2, e3, e4⟩ := put_step HG.out HO.out hge3 ho hb hg; have H3 := Aside0.mk e3; have H4 := Aside0.mk e4; clear e3 e4 ho hb hg))
          refine ⟨⟨k2 + 1, by rfl, hlt, ⟨?_⟩, ⟨HK.out.trans H4.out⟩⟩, ?_⟩
          · rw [hsp, ← List.append_assoc]; exact H3.out
          · have e1 : intOf (Value.int IntKind.i64 ((k2 : Int) + 1)) = (k2 : Int) + 1 := rfl
            have e2 : intOf (Value.int IntKind.i64 (k2 : Int)) = (k2 : Int) := rfl
            rw [e1, e2]; go_light; omega
        · have q3 : decide ((k2 : Int) < (ts.length : Int)) = false := decide_eq_false (by omega)
          go_wp2_with fail
          go_ret
          refine ⟨rfl, ?_, HK.out⟩
          have := HR.out
          rw [List.take_of_length_le hge2] at this
          exact this
/-- What Put answers, and what is then written. -/
def putF (lim : Int) (xs : List Int) (ts : List ByteArray) : Int × List Int := if (xs.length : Int) + tot ts ≤ lim then (0, xs ++ ts.flatMap bytesOf) else (2, xs)
def lenF (lim : Int) (xs : List Int) (n : Int) : Int × List Int := if (putLenS n).2 = 0 then putF lim xs [bs (putLenS n).1] else ((putLenS n).2, xs)
theorem c_Put {w0 W : World} {g : Nat} {lim : Int} {xs : List Int} (h : Wr w0 W g lim xs) (hl : lim ≤ 1073741824) (hx : (xs.length : Int) ≤ lim) (A : Option Addr) (cap : Nat) (ts : List ByteArray)
    (HT : ∀ W', Kp w0 W W' g → Kd.string.C W' A ts.length ts) (hz : ∀ t ∈ ts, t.size ≤ 140737488351232) (hn : ts.length ≤ 140737488351232) :
    Calls Tryd.prog 19 #[.pointer (some ⟨g, 0, none⟩), .slice A ts.length cap] W fun e w' => e = .returned (.int .i64 (putF lim xs ts).1) ∧ Wr w0 w' g lim (putF lim xs ts).2 ∧ Kp w0 W w' g := by
  unfold putF
  by_cases hf : (xs.length : Int) + tot ts ≤ lim
  · rw [if_pos hf]
    exact c_Put_ok h hl A cap ts ⟨HT⟩ hn ⟨hf⟩
  · rw [if_neg hf]
    exact (c_Put_long h hl hx A cap ts ⟨HT⟩ ⟨hz⟩ hn ⟨by omega⟩).mono fun e w' ⟨e1, e2⟩ => ⟨e1, e2 ▸ h.drew, e2 ▸ (Kp.refl h.below).drew⟩
theorem one_text {W : World} {x : Nat} {s : ByteArray} (h : W.heap[x]? = some (.cells #[.string s] 9 (0, 0))) : Kd.string.C W (some ⟨x, 0, none⟩) [s].length [s] := by
  refine ⟨rfl, by simp, fun _ => ⟨_, rfl, fun j p hp => ?_⟩⟩
  rcases j with _ | j
  · have : s = p := by simpa using hp
    subst this
    refine ⟨[.string s], rfl, rfl, fun i u hu => ?_⟩
    rcases i with _ | i
    · have : Value.string s = u := by simpa using hu
      subst this
      exact (blk_cell h 0).trans rfl
    · simp at hu
  · simp at hp
theorem putLen_bad (n : Int) (h : (putLenS n).2 ≠ 0) : (putLenS n).1 = [] := by
  revert h
  unfold putLenS
  repeat' split
  all_goals (intro h; first | rfl | (exfalso; simp at h))
theorem putLen_small (n : Int) : (putLenS n).1.length ≤ 9 := by
  by_cases h : (putLenS n).2 = 0
  · rw [putLenS_len n h]; repeat' split
    all_goals omega
  · rw [putLen_bad n h]; simp
set_option maxHeartbeats 1000000 in
set_option maxRecDepth 100000 in
theorem c_Len {w0 W : World} {g : Nat} {lim : Int} {xs : List Int} (h : Wr w0 W g lim xs) (hl : lim ≤ 1073741824) (hx : (xs.length : Int) ≤ lim) (n : Int) :
    Calls Tryd.prog 18 #[.pointer (some ⟨g, 0, none⟩), .int .i64 n] W fun e w' => e = .returned (.int .i64 (lenF lim xs n).1) ∧ Wr w0 w' g lim (lenF lim xs n).2 ∧ Kp w0 W w' g := by
  have H := Aside0.mk h
  have hlim := Aside0.mk hl
  have hx' := Aside0.mk hx
  clear h hl hx
  unfold lenF
  have hsz : (bs (putLenS n).1).size ≤ 140737488351232 := by have := putLen_small n; rw [bs_size]; omega
  have HS := Aside0.mk hsz
  clear hsz
  generalize hp : putLenS n = p at HS
  obtain ⟨s, r⟩ := p
  have C1 := fun W => hp ▸ Bk.c_PutLen n W
  go_enter Tryd.func18, Tryd.ntmps18
  go_wp2_with fail
  refine (C1 _).mono ?_
  rintro _ w1 ⟨rfl, hb⟩
  have H1 := Aside0.mk (wr_below H.out hb)
  have K1 := Aside0.mk (kp_below (g := g) H.out.below hb)
  clear hb
  by_cases hr : r = 0
  · subst hr
    have q : decide ((0 : Int) = 0) = true := rfl
    simp only [if_true]
    go_wp2_with fail
    have hb2 : Below w1.heap.size w1 (w1.alloc (.cells #[.string (bs s)] 9)) := below_alloc (Below.refl _ _) _
    have K2 := Aside0.mk (K1.out.trans (kp_below (g := g) H1.out.below hb2))
    have hx1 := heap_alloc_new w1 (.cells #[.string (bs s)] 9)
    have hne : w1.heap.size ≠ g := by obtain ⟨v, a, -⟩ := H1.out; have := blk_lt a; omega
    refine (c_Put (wr_below H1.out hb2) hlim.out hx'.out (some ⟨w1.heap.size, 0, none⟩) 1 [bs s] (fun W' hK => one_text (hK.2.2 _ _ _ _ hx1 (by decide) hne)) (by intro t ht; rw [List.mem_singleton.1 ht]; exact HS.out) (by simp)).mono ?_
    rintro _ w2 ⟨rfl, h2, h3⟩
    have H2 := Aside0.mk h2
    have K3 := Aside0.mk (K2.out.trans h3)
    clear h2 h3 hb2 hx1 hne
    go_wp2_with fail
    go_ret
    exact ⟨rfl, H2.out, K3.out⟩
  · simp only [if_neg hr]
    have q0 : (r == 0) = false := by simpa using hr
    have q1 : decide (r = 0) = false := decide_eq_false hr
    go_wp2_with fail
    go_ret
    exact ⟨rfl, H1.out, K1.out⟩
end Go.Proofs.YtlhinklnnjbmpaaDoor.Wr
