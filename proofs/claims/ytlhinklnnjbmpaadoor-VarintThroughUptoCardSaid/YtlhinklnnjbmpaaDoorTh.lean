/- The walk of VarintThrough: its first half. -/
import Derived.Test.YtlhinklnnjbmpaaDoorWr
namespace Go.Proofs.YtlhinklnnjbmpaaDoor.Th
open Go.RowKit Go.Proofs.YtlhinklnnjbmpaaDoor.Vm Go.Proofs.YtlhinklnnjbmpaaDoor.Vw Go.Proofs.YtlhinklnnjbmpaaDoor.Sp Go.Proofs.YtlhinklnnjbmpaaDoorW.PrintWords Go.Proofs.YtlhinklnnjbmpaaDoorW.PrintLast Go.Proofs.YtlhinklnnjbmpaaDoorW.PrintMore Go.Proofs.YtlhinklnnjbmpaaDoor.GA Go.Proofs.YtlhinklnnjbmpaaDoor.GP Go.Proofs.YtlhinklnnjbmpaaDoor.Bk Go.Proofs.YtlhinklnnjbmpaaDoor.Rd Go.Proofs.YtlhinklnnjbmpaaDoor.Wr
set_option linter.unusedVariables false
set_option linter.unusedSimpArgs false
def enc1 (t : ByteArray) : List Int := bytesOf (bs (putLenS t.size).1) ++ bytesOf t
def encs (ts : List ByteArray) : List Int := ts.flatMap enc1
theorem put_fine (t : ByteArray) (h : t.size ≤ 4611686018427387904) : (putLenS t.size).2 = 0 := by
  unfold putLenS
  rw [if_neg (by omega)]
  repeat' split
  all_goals rfl
theorem enc1_len (t : ByteArray) : (enc1 t).length ≤ t.size + 9 := by
  unfold enc1
  rw [List.length_append, bytesOf_length, bytesOf_length, bs_size]
  have := putLen_small t.size
  omega
theorem encs_len (ts : List ByteArray) : (encs ts).length ≤ tot ts + 9 * ts.length := by
  induction ts with
  | nil => simp [encs]
  | cons t ts ih =>
    have h1 := enc1_len t
    have e1 : encs (t :: ts) = enc1 t ++ encs ts := rfl
    have e2 : tot (t :: ts) = t.size + tot ts := rfl
    rw [e1, e2, List.length_append, List.length_cons]
    omega
theorem encs_split (ts : List ByteArray) {k : Nat} {t : ByteArray} (h : ts[k]? = some t) : encs (ts.take (k + 1)) = encs (ts.take k) ++ enc1 t := by
  have hk : k < ts.length := (List.getElem?_eq_some_iff.1 h).1
  have e : ts.take (k + 1) = ts.take k ++ [t] := by rw [List.take_add_one, h]; rfl
  unfold encs
  rw [e, List.flatMap_append]
  simp
/-- The texts that were handed on, so far. -/
def was (ts : List ByteArray) (k : Nat) : List ByteArray := (List.range k).map fun j => strOfNums (encs (ts.take (j + 1)))
theorem was_split (ts : List ByteArray) (k : Nat) : was ts (k + 1) = was ts k ++ [strOfNums (encs (ts.take (k + 1)))] := by
  unfold was; rw [List.range_succ, List.map_append]; rfl
theorem was_len (ts : List ByteArray) (k : Nat) : (was ts k).length = k := by unfold was; simp
theorem was_kp {w0 W W1 : World} {g base : Nat} {v : Value} {xs : List ByteArray} {cs : Array Value} {fr : Nat × Nat} (h : Kd.string.R 9 W base (fun _ => True) v xs) (hg : W.heap[g]? = some (.cells cs 79 fr)) (hk : Kp w0 W W1 g) :
    Kd.string.R 9 W1 base (fun _ => True) v xs := by
  refine Kd.R_mono (Kd.R_move (Kd.R_bound h) (fun k hh => ?_)) (fun _ _ => trivial)
  obtain ⟨-, -, -, q, hq, cells, hc⟩ := hh
  have hq9 : q = 9 := by
    rcases List.mem_cons.1 hq with h | h
    · exact h
    · cases h
  subst hq9
  rw [hc]
  exact hk.2.2 k _ _ _ hc (by decide) (fun e => by subst e; rw [hg] at hc; injection hc with hc; injection hc with _ h2 _; exact absurd h2 (by decide))
theorem wr_grown {w0 W W1 : World} {g base : Nat} {lim : Int} {ys : List Int} {v : Value} {xs : List ByteArray} (h : Wr w0 W g lim ys) (ho : Kd.string.R 9 W base (fun _ => True) v xs) (hg : W.grownBy W1 v.ownBlock) (hB : Below w0.heap.size w0 W1) : Wr w0 W1 g lim ys := by
  obtain ⟨u, a, b, c, d⟩ := h
  have hty := fun k hk => Kd.R_typed ho k hk
  refine ⟨u, blk_grown a hg (fun e => ?_), own_move b (fun k hk => ?_), c, hB⟩
  · obtain ⟨cells, hc⟩ := hty g e.symm
    rw [a] at hc; injection hc with hc; injection hc with _ h2 _; exact absurd h2 (by decide)
  · obtain ⟨cells, hc⟩ := own_typed b k hk
    refine hg.block k (blk_lt hc) (fun e => ?_)
    obtain ⟨cells2, hc2⟩ := hty k e.symm
    rw [hc] at hc2; injection hc2 with hc2; injection hc2 with _ h2 _; exact absurd h2 (by decide)
theorem put_one {lim : Int} {xs : List Int} {t : ByteArray} (h : (xs.length : Int) + t.size ≤ lim) : putF lim xs [t] = (0, xs ++ bytesOf t) := by
  unfold putF
  have e : tot [t] = t.size := by simp [tot]
  rw [e, if_pos h]
  simp
theorem text_at {w0 W : World} {g : Nat} {lim : Int} {xs : List Int} (h : Wr w0 W g lim xs) (T : ByteArray) (hT : T = strOfNums xs) :
    Calls Tryd.prog 21 #[.pointer (some ⟨g, 0, none⟩)] W fun e w' => e = .returned (.string T) ∧ w' = W := by
  subst hT; exact c_Text h
theorem info9p : (Tryd.prog.info? 9).map (fun i => (i.zero, i.size, i.bytes)) = some (some (.string ⟨#[]⟩), 1, 16) := by kernel_rfl
theorem lenF_fine {lim : Int} {xs : List Int} {t : ByteArray} (h : t.size ≤ 4611686018427387904) (hl : (xs.length : Int) + (bs (putLenS t.size).1).size ≤ lim) : lenF lim xs t.size = (0, xs ++ bytesOf (bs (putLenS t.size).1)) := by
  unfold lenF
  rw [if_pos (put_fine t h)]
  unfold putF
  have e : tot [bs (putLenS t.size).1] = (bs (putLenS t.size).1).size := by simp [tot]
  rw [e, if_pos hl]
  simp
def u8 (l : List Int) : Bs := l.map fun n => UInt8.ofNat n.toNat
theorem str_data (l : List Int) : (strOfNums l).data.toList = u8 l := by
  rw [strOfNums_bs]
  show (List.map (fun n : Int => UInt8.ofNat n.toNat) l).toArray.toList = _
  rw [List.toList_toArray]; rfl
theorem u8_bytes (s : ByteArray) : u8 (bytesOf s) = s.data.toList := by
  unfold u8 bytesOf
  rw [List.map_map]
  conv => rhs; rw [← List.map_id s.data.toList]
  apply List.map_congr_left
  intro b _
  simp
theorem u8_append (a b : List Int) : u8 (a ++ b) = u8 a ++ u8 b := List.map_append
theorem u8_len (a : List Int) : (u8 a).length = a.length := List.length_map _
theorem str_size (l : List Int) : (strOfNums l).size = l.length := by rw [size_of, str_data, u8_len]
theorem encs_cut (ts : List ByteArray) {k : Nat} {t : ByteArray} (h : ts[k]? = some t) : encs ts = encs (ts.take k) ++ (enc1 t ++ encs (ts.drop (k + 1))) := by
  have hk : k < ts.length := (List.getElem?_eq_some_iff.1 h).1
  have e : ts = ts.take (k + 1) ++ ts.drop (k + 1) := (List.take_append_drop _ _).symm
  have h1 : encs ts = encs (ts.take (k + 1)) ++ encs (ts.drop (k + 1)) := by
    conv => lhs; rw [e]
    unfold encs
    rw [List.flatMap_append]
  rw [h1, encs_split ts h, List.append_assoc]
theorem data_drop (ts : List ByteArray) {k : Nat} {t : ByteArray} (h : ts[k]? = some t) :
    (strOfNums (encs ts)).data.toList.drop (encs (ts.take k)).length = (putLenS t.size).1 ++ (t.data.toList ++ u8 (encs (ts.drop (k + 1)))) := by
  rw [str_data, encs_cut ts h, u8_append, List.drop_left' (u8_len _)]
  unfold enc1
  have e : ∀ x : Bs, (bs x).data.toList = x := fun x => by show x.toArray.toList = x; exact List.toList_toArray
  rw [u8_append, u8_append, u8_bytes, u8_bytes, List.append_assoc, e]
theorem rd_len (ts : List ByteArray) {k : Nat} {t : ByteArray} (h : ts[k]? = some t) (hs : (encs ts).length ≤ 140737488351232) :
    varint_Reader_Len.f 20 (strOfNums (encs ts)) ((encs (ts.take k)).length : Int) = some ((t.size : Int), 0, 0, strOfNums (encs ts), ((encs (ts.take k)).length : Int) + ((putLenS t.size).1.length : Int)) := by
  have hl : (encs ts).length = (encs (ts.take k)).length + ((enc1 t).length + (encs (ts.drop (k + 1))).length) := by rw [encs_cut ts h, List.length_append, List.length_append]
  have he : (enc1 t).length = (putLenS t.size).1.length + t.size := by unfold enc1; rw [List.length_append, bytesOf_length, bytesOf_length, bs_size]
  unfold varint_Reader_Len.f
  rw [str_size, if_pos (by omega), if_pos (by omega), ← str_size (encs ts), bs_drop, Int.toNat_natCast, data_drop ts h, varint_Len_f _ _ (by decide), lenS_putLenS _ _ (by omega) (by omega)]
  simp only [Option.bind_some]
  rw [w64 (by omega) (by omega)]
theorem rd_take (ts : List ByteArray) {k : Nat} {t : ByteArray} (h : ts[k]? = some t) (hs : (encs ts).length ≤ 140737488351232) :
    varint_Reader_Take.f (strOfNums (encs ts)) (((encs (ts.take k)).length : Int) + ((putLenS t.size).1.length : Int)) (t.size : Int) = some (t, 0, strOfNums (encs ts), ((encs (ts.take (k + 1))).length : Int)) := by
  have hl : (encs ts).length = (encs (ts.take k)).length + ((enc1 t).length + (encs (ts.drop (k + 1))).length) := by rw [encs_cut ts h, List.length_append, List.length_append]
  have he : (enc1 t).length = (putLenS t.size).1.length + t.size := by unfold enc1; rw [List.length_append, bytesOf_length, bytesOf_length, bs_size]
  have hk1 : (encs (ts.take (k + 1))).length = (encs (ts.take k)).length + (enc1 t).length := by rw [encs_split ts h, List.length_append]
  obtain ⟨i, hi⟩ : ∃ i : Int, i = ((encs (ts.take k)).length : Int) + ((putLenS t.size).1.length : Int) := ⟨_, rfl⟩
  rw [← hi]
  unfold varint_Reader_Take.f varint_Reader_Left.f
  rw [if_neg (by omega)]
  simp only [Option.bind_some]
  rw [str_size, w64 (x := ((encs ts).length : Int) - i) (by omega) (by omega), if_neg (by omega), w64 (x := i + (t.size : Int)) (by omega) (by omega), w64 (x := i + (t.size : Int) - t.size) (by omega) (by omega), show i + (t.size : Int) - t.size = i by omega, if_pos (by omega), if_pos (by omega), if_pos (by omega)]
  have e1 : (strOfNums (encs ts)).extract i.toNat (i + (t.size : Int)).toNat = t := by
    apply WideShapes.bytes_inj
    rw [Lib.extract_data]
    have e2 : i.toNat = (encs (ts.take k)).length + (putLenS t.size).1.length := by omega
    rw [e2, ← List.drop_drop, data_drop ts h, List.drop_left, show (i + (t.size : Int)).toNat - ((encs (ts.take k)).length + (putLenS t.size).1.length) = t.data.toList.length by rw [← size_of]; omega, List.take_left]
  rw [e1]
  congr 4
  omega
theorem rd_was (ts : List ByteArray) (k : Nat) : (strOfNums (encs ts)).extract 0 (encs (ts.take k)).length = strOfNums (encs (ts.take k)) := by
  have h1 : encs ts = encs (ts.take k) ++ encs (ts.drop k) := by
    conv => lhs; rw [← List.take_append_drop k ts]
    unfold encs
    rw [List.flatMap_append]
  apply WideShapes.bytes_inj
  rw [Lib.extract_data, List.drop_zero, Nat.sub_zero, str_data, str_data]
  conv => lhs; rw [h1, u8_append]
  exact List.take_left' (u8_len _)
theorem rd_end (T : ByteArray) (hs : T.size ≤ 140737488351232) : varint_Reader_Byte.f T (T.size : Int) = some (0, 20, T, (T.size : Int)) := by
  unfold varint_Reader_Byte.f varint_Reader_Take.f varint_Reader_Left.f
  simp only [Option.bind_some]
  rw [if_neg (show ¬ ((1 : Int) < 0) by omega), w64 (x := (T.size : Int) - T.size) (by omega) (by omega), if_pos (by omega)]
  simp only [Option.bind_some]
  rw [if_neg (by decide)]
/-- Over the data: where the Reader stands. -/
def RS (w0 W : World) (g : Nat) (T : ByteArray) (i : Int) : Prop := IsS90 w0 W g T i ∧ Below w0.heap.size w0 W
theorem RS.drew {w0 W : World} {g : Nat} {T : ByteArray} {i : Int} (h : RS w0 W g T i) : RS w0 W.drew g T i := ⟨h.1.drew, below_drew1 h.2⟩
theorem rs_at {w0 W : World} {g : Nat} {T : ByteArray} {i : Int} (h : RS w0 W g T i) : Calls Tryd.prog 31 #[.pointer (some ⟨g, 0, none⟩)] W fun e w' => e = .returned (.int .i64 i) ∧ Aside0 (RS w0 w' g T i) :=
  (varint_Reader_At.calls g T i _ _ _ w0 W h.1 h.2 rfl).mono fun e w' ⟨e1, hI, hB, _⟩ => ⟨e1, ⟨hI, hB⟩⟩
theorem rs_left {w0 W : World} {g : Nat} {T : ByteArray} {i : Int} (hs : T.size ≤ 140737488351232) (h0 : 0 ≤ i) (h1 : i ≤ T.size) (h : RS w0 W g T i) : Calls Tryd.prog 32 #[.pointer (some ⟨g, 0, none⟩)] W fun e w' => e = .returned (.int .i64 ((T.size : Int) - i)) ∧ Aside0 (RS w0 w' g T i) :=
  (varint_Reader_Left.calls g T i _ _ _ w0 W h.1 h.2 rfl).mono fun e w' ⟨e1, hI, hB, _⟩ => ⟨by rw [e1, w64 (x := (T.size : Int) - i) (by omega) (by omega)], ⟨hI, hB⟩⟩
set_option maxHeartbeats 4000000 in
set_option maxRecDepth 100000 in
theorem through_walk (A : Option Addr) (cap : Nat) (ts : List ByteArray) (w : World) (hE : Aside0 (EnvOK w)) (hb : tot ts + 9 * ts.length ≤ 11000000)
    (HC : Aside0 (Kd.string.C w A ts.length ts)) :
    Calls Tryd.prog 8 #[.slice A ts.length cap] w fun e w' => e = .returned (.bool true) ∧ Below w.heap.size w w' := by
  go_enter Tryd.func8, Tryd.ntmps8
  go_wp2_with fail
  refine (c_New 1073741824 w (by decide) (by decide)).mono ?_
  rintro _ w1 ⟨g, rfl, hW⟩
  have HW := Aside0.mk hW
  clear hW
  go_wp2_with fail
  refine (c_works _ (EnvOK.stays hE HW.out.below)).mono ?_
  rintro _ w2 ⟨rfl, hb⟩
  have HA : Aside0 (Wr w w2 g 1073741824 []) := ⟨wr_below HW.out hb⟩
  have HC2 := Aside0.mk (Kd.C_below HC.out (HA.out.below))
  clear hb HW
  go_wp2_with fail
  go_loop [5, 6] (fun v5 v6 => ∃ k : Nat, v6 = .int .i64 k ∧ k ≤ ts.length ∧ v5 = .int .i64 ((tot (ts.take k) + 9 * k : Nat) : Int)) (fun _ v6 => ts.length - (intOf v6).toNat)
  case atStart => exact ⟨0, rfl, Nat.zero_le _, rfl⟩
  case round =>
    obtain ⟨k, rfl, hk, rfl⟩ := hrel
    rcases Nat.lt_or_ge k ts.length with hlt | hge
    · have t1 : decide ((k : Int) < (ts.length : Int)) = true := decide_eq_true (by omega)
      obtain ⟨ad, t, rfl, ht, hct⟩ := get_text HC2.out hlt
      have hsp := tot_split ts ht
      have hle := tot_le ts (k + 1)
      have r1 : IntKind.i64.wrap (((tot (ts.take k) + 9 * k : Nat) : Int) + (t.size : Int)) = ((tot (ts.take k) + 9 * k : Nat) : Int) + (t.size : Int) := by rw [i64_w]; exact w64 (by omega) (by omega)
      have r2 : IntKind.i64.wrap (((tot (ts.take k) + 9 * k : Nat) : Int) + (t.size : Int) + 9) = ((tot (ts.take k) + 9 * k : Nat) : Int) + (t.size : Int) + 9 := by rw [i64_w]; exact w64 (by omega) (by omega)
      generalize hS : ((tot (ts.take k) + 9 * k : Nat) : Int) = S at r1 r2
      go_wp2_with fail
      refine ⟨⟨k + 1, by rfl, hlt, ?_⟩, ?_⟩
      · congr 1; rw [← hS, hsp]; go_light; omega
      · have e1 : intOf (Value.int IntKind.i64 ((k : Int) + 1)) = (k : Int) + 1 := rfl
        have e2 : intOf (Value.int IntKind.i64 (k : Int)) = (k : Int) := rfl
        rw [e1, e2]; go_light; omega
    · have t1 : decide ((k : Int) < (ts.length : Int)) = false := decide_eq_false (by omega)
      have hke : k = ts.length := by omega
      have hS : ((tot (ts.take k) + 9 * k : Nat) : Int) = ((tot ts + 9 * ts.length : Nat) : Int) := by rw [hke, List.take_length]
      rw [hS]
      clear hS hke
      by_cases hbig : (65536 : Int) < ((tot ts + 9 * ts.length : Nat) : Int)
      · have t2 : decide (((tot ts + 9 * ts.length : Nat) : Int) > 65536) = true := decide_eq_true hbig
        generalize ((tot ts + 9 * ts.length : Nat) : Int) = S at t2
        go_wp2_with fail
        go_ret
        exact ⟨rfl, HA.out.below⟩
      have t2 : decide (((tot ts + 9 * ts.length : Nat) : Int) > 65536) = false := decide_eq_false (by omega)
      have hsmall : tot ts + 9 * ts.length ≤ 65536 := by omega
      generalize ((tot ts + 9 * ts.length : Nat) : Int) = S at t2
      go_wp2_with fail
      clear HC2
      go_loopw [7, 8] (fun v7 v8 wr => ∃ k : Nat, v8 = .int .i64 k ∧ k ≤ ts.length ∧ Aside0 (Wr w wr g 1073741824 (encs (ts.take k))) ∧ Aside0 (Kd.string.R 9 wr w.heap.size (fun _ => True) v7 (was ts k))) (fun _ v8 _ => ts.length - (intOf v8).toNat)
      case atStart => exact ⟨0, rfl, Nat.zero_le _, HA, ⟨Kd.R_nil _ _ _ _ _⟩⟩
      case round =>
        clear HA
        obtain ⟨k, rfl, hk, HR, HO⟩ := hrel
        rcases Nat.lt_or_ge k ts.length with hlt | hge2
        · have t3 : decide ((k : Int) < (ts.length : Int)) = true := decide_eq_true (by omega)
          obtain ⟨ad, t, rfl, ht, hct0⟩ := get_text HC.out hlt
          have hcb := World.block_lt_of_cell? _ _ hct0
          have hct : wr.cell? (ad.add k) = some (.string t) := (HR.out.below.cell hcb).trans hct0
          have hsp := tot_split ts ht
          have hle := tot_le ts (k + 1)
          have hel := encs_len (ts.take k)
          have hl1 : (ts.take k).length = k := by rw [List.length_take]; omega
          have hsz : t.size ≤ 65536 := by omega
          have hps := putLen_small t.size
          have hx1 : ((encs (ts.take k)).length : Int) ≤ 1073741824 := by omega
          have hx2 : ((encs (ts.take k)).length : Int) + (bs (putLenS t.size).1).size ≤ 1073741824 := by rw [bs_size]; omega
          go_wp2_with fail
          refine (c_Len HR.out (by decide) hx1 t.size).mono ?_
          rw [lenF_fine (by omega) hx2]
          rintro _ w3 ⟨rfl, hW3, hK3⟩
          have HO3 : Aside0 (Kd.string.R 9 w3 w.heap.size (fun _ => True) u7 (was ts k)) := by
            obtain ⟨v, hg, -⟩ := HR.out
            exact ⟨was_kp HO.out hg hK3⟩
          have hct3 : w3.cell? (ad.add k) = some (.string t) := (hW3.below.cell hcb).trans hct0
          have HW3 := Aside0.mk hW3
          clear hW3 hK3 hct HR HO
          go_wp2_with fail
          have hb3 : Below w3.heap.size w3 (w3.alloc (.cells #[.string t] 9)) := below_alloc (Below.refl _ _) _
          have hW3a := wr_below HW3.out hb3
          have hO3a := Kd.R_below HO3.out hb3
          have hx1a := heap_alloc_new w3 (.cells #[.string t] 9)
          have hne : w3.heap.size ≠ g := by obtain ⟨v, a, -⟩ := HW3.out; have := blk_lt a; omega
          have hx4 : ((encs (ts.take k) ++ bytesOf (bs (putLenS t.size).1)).length : Int) + t.size ≤ 1073741824 := by
            rw [List.length_append, bytesOf_length, bs_size]; omega
          refine (c_Put hW3a (by decide) (by omega) (some ⟨w3.heap.size, 0, none⟩) 1 [t] (fun W' hK => one_text (hK.2.2 _ _ _ _ hx1a (by decide) hne)) (by intro y hy; rw [List.mem_singleton.1 hy]; omega) (by simp)).mono ?_
          rw [put_one hx4]
          rintro _ w4 ⟨rfl, hW4, hK4⟩
          have HO4 : Aside0 (Kd.string.R 9 w4 w.heap.size (fun _ => True) u7 (was ts k)) := by
            obtain ⟨v, hg, -⟩ := hW3a
            exact ⟨was_kp hO3a hg hK4⟩
          have HW4 : Aside0 (Wr w w4 g 1073741824 (encs (ts.take (k + 1)))) := ⟨by rw [encs_split ts ht]; unfold enc1; rw [← List.append_assoc]; exact hW4⟩
          clear hb3 hW3a hO3a hx1a hne hW4 hK4 HO3 HW3 hct3
          obtain ⟨T, hT⟩ : ∃ T, T = strOfNums (encs (ts.take (k + 1))) := ⟨_, rfl⟩
          have ET := Aside0.mk hT
          clear hT
          have hwl := was_len ts k
          go_wp2_with fail
          refine (text_at HW4.out T ET.out).mono ?_
          rintro _ w5 ⟨rfl, rfl⟩
          go_wp2_with (first | ((with_reducible refine gate_builtin (b := .append) (xs := #[.tmp 69, .tmp 72]) rfl ?_); at_builtin; refine Kd.R_append Kd.string (w0 := w) w.heap.size rfl (.tmp 69) (.tmp 72) 36 9 (.string ⟨#[]⟩) 16 rfl Tryd.underlying36 info9p rfl (by decide) (by decide) u7 (was ts k) T [.string T] (fun _ => True) (fun _ => False) rfl rfl ?aP (fun _ hk => hk.elim) ?aF ?aO ?aB ?aS ?aL ?_; (case aP => exact rfl); (case aF => exact (fun _ _ => trivial)); (case aO => exact HO4.out); (case aB => exact HW4.out.below); (case aS => exact HW4.out.below.size); (case aL => rw [hwl]; omega); intro v5 w5 ho hb hg hat; have H5 := Aside0.mk (wr_grown HW4.out HO4.out hg hb); have H6 := Aside0.mk ho; clear ho hb hg hat))
          refine ⟨⟨k + 1, by rfl, hlt, H5, ⟨by rw [was_split, ← ET.out]; exact H6.out⟩⟩, ?_⟩
          have e1 : intOf (Value.int IntKind.i64 ((k : Int) + 1)) = (k : Int) + 1 := rfl
          have e2 : intOf (Value.int IntKind.i64 (k : Int)) = (k : Int) := rfl
          rw [e1, e2]; go_light; omega
        · have t3 : decide ((k : Int) < (ts.length : Int)) = false := decide_eq_false (by omega)
          have hke : k = ts.length := by omega
          have HR2 : Aside0 (Wr w wr g 1073741824 (encs ts)) := ⟨by have := HR.out; rw [hke, List.take_length] at this; exact this⟩
          have HO2 : Aside0 (Kd.string.R 9 wr w.heap.size (fun _ => True) u7 (was ts ts.length)) := ⟨by have := HO.out; rw [hke] at this; exact this⟩
          clear HR HO
          have hel := encs_len ts
          have hel2 : (encs ts).length ≤ 140737488351232 := by omega
          obtain ⟨T, hT⟩ : ∃ T, T = strOfNums (encs ts) := ⟨_, rfl⟩
          have hTs : T.size = (encs ts).length := by rw [hT, str_size]
          have hTl : T.size ≤ 140737488351232 := by omega
          have ET := Aside0.mk hT
          clear hT
          obtain ⟨A2, c2, hu, -, hR2⟩ := Kd.R_reads HO2.out
          rw [was_len] at hu
          subst hu
          have HW2 := Aside0.mk hR2
          clear hR2 HO2
          go_wp2_with fail
          refine (text_at HR2.out T ET.out).mono ?_
          rintro _ w5 ⟨rfl, rfl⟩
          go_wp2_with fail
          refine (varint_NewReader.calls T T 0 w5 w5 (Below.refl _ _) rfl).mono ?_
          rintro _ w6 ⟨g2, rfl, hI, hB, -⟩
          have HS : Aside0 (RS w5 w6 g2 T 0) := ⟨hI, hB⟩
          clear hI hB
          have hE5 : (encs (ts.take 0)).length = 0 := rfl
          go_wp2_with fail
          go_loopw [11] (fun v11 wx => ∃ k : Nat, v11 = .int .i64 k ∧ k ≤ ts.length ∧ Aside0 (RS w5 wx g2 T ((encs (ts.take k)).length : Int))) (fun v11 _ => ts.length - (intOf v11).toNat)
          case atStart => exact ⟨0, rfl, Nat.zero_le _, HS⟩
          case round =>
            clear HS
            obtain ⟨k2, rfl, hk2, HS⟩ := hrel
            rcases Nat.lt_or_ge k2 ts.length with hlt | hge3
            · have t3 : decide ((k2 : Int) < (ts.length : Int)) = true := decide_eq_true (by omega)
              obtain ⟨ad, t, rfl, ht, hct0⟩ := get_text HC.out hlt
              obtain ⟨ad2, P, rfl, hP, hcw⟩ := get_text HW2.out (k := k2) (by rw [was_len]; exact hlt)
              have hPe : P = strOfNums (encs (ts.take (k2 + 1))) := by
                have : (was ts ts.length)[k2]? = some (strOfNums (encs (ts.take (k2 + 1)))) := by unfold was; simp [hlt]
                rw [hP] at this; exact Option.some.inj this
              have hct : w5.cell? (ad.add k2) = some (.string t) := (HR2.out.below.cell (World.block_lt_of_cell? _ _ hct0)).trans hct0
              have p1 := rd_len ts ht hel2
              have p2 := rd_take ts ht hel2
              have p3 := rd_was ts (k2 + 1)
              have hn1 : (encs (ts.take (k2 + 1))).length ≤ T.size := by
                rw [hTs, encs_cut ts ht, encs_split ts ht]; simp only [List.length_append]; omega
              rw [← ET.out] at p1 p2 p3
              rw [← hPe] at p3
              have hcb : ∀ W', Below w5.heap.size w5 W' → W'.cell? (ad.add k2) = some (.string t) ∧ W'.cell? (ad2.add k2) = some (.string P) :=
                fun W' hb => ⟨(hb.cell (World.block_lt_of_cell? _ _ hct)).trans hct, (hb.cell (World.block_lt_of_cell? _ _ hcw)).trans hcw⟩
              obtain ⟨n, hn⟩ : ∃ n : Int, n = ((encs (ts.take (k2 + 1))).length : Int) := ⟨_, rfl⟩
              rw [← hn] at p2
              have hn0 : 0 ≤ n := by omega
              have hnT : n ≤ T.size := by omega
              have p4 : T.extract 0 n.toNat = P := by rw [hn]; exact p3
              have EN := Aside0.mk hn
              clear hn p3 hn1 hct hcw hct0 hPe hP hTs
              go_wp2_with fail
              refine (varint_Reader_Len.calls 20 g2 T _ _ _ _ _ _ w5 wr HS.out.1 HS.out.2 p1).mono ?_
              rintro _ w7 ⟨rfl, hI, hB, -⟩
              have H7 : Aside0 (RS w5 w7 g2 T (((encs (ts.take k2)).length : Int) + ((putLenS t.size).1.length : Int))) := ⟨hI, hB⟩
              clear hI hB HS
              go_wp2_with fail
              refine (varint_Reader_Take.calls g2 T _ _ _ _ _ _ w5 w7 H7.out.1 H7.out.2 p2).mono ?_
              rintro _ w8 ⟨rfl, hI, hB, -⟩
              have H8 : Aside0 (RS w5 w8 g2 T n) := ⟨hI, hB⟩
              clear hI hB H7 p1 p2
              obtain ⟨d1, d2⟩ := hcb w8 H8.out.2
              have q1 : decide (0 ≤ n) = true := decide_eq_true hn0
              have q2 : decide (n ≤ (T.size : Int)) = true := decide_eq_true hnT
              have r5 : IntKind.i64.wrap (n + ((T.size : Int) - n)) = (T.size : Int) := by rw [i64_w, show n + ((T.size : Int) - n) = (T.size : Int) by omega]; exact w64 (by omega) (by omega)
              go_wp2_with fail
              go_region_held3 (fun w' => w'.cell? (ad.add k2) = some (.string t) ∧ w'.cell? (ad2.add k2) = some (.string P))
                (exact hcb _ (by first | exact H9.out.2 | exact H8.out.2 | exact below_drew1 H8.out.2))
                (first
                | (go_at_call 31; with_reducible refine (rs_at (by first | exact H9.out | exact H8.out | exact H8.out.drew)).mono ?_; rintro _ w9 ⟨rfl, H9⟩)
                | (go_at_call 32; with_reducible refine (rs_left hTl hn0 hnT (by first | exact H9.out | exact H8.out)).mono ?_; rintro _ w9 ⟨rfl, H9⟩))
              have H10 : Aside0 (RS w5 w9 g2 T ((encs (ts.take (k2 + 1))).length : Int)) := ⟨by rw [← EN.out]; exact H9.out⟩
              go_wp2_with fail
              refine ⟨⟨k2 + 1, by rfl, hlt, H10⟩, ?_⟩
              have e1 : intOf (Value.int IntKind.i64 ((k2 : Int) + 1)) = (k2 : Int) + 1 := rfl
              have e2 : intOf (Value.int IntKind.i64 (k2 : Int)) = (k2 : Int) := rfl
              rw [e1, e2]; go_light; omega
            · have t3 : decide ((k2 : Int) < (ts.length : Int)) = false := decide_eq_false (by omega)
              have hke2 : k2 = ts.length := by omega
              have HS2 : Aside0 (RS w5 wr g2 T (T.size : Int)) := ⟨by have := HS.out; rw [hke2, List.take_length, ← hTs] at this; exact this⟩
              clear HS
              have r5 : (T.size : Int) - T.size = 0 := by omega
              go_wp2_with fail
              refine (varint_Reader_Byte.calls g2 T _ _ _ _ _ w5 wr HS2.out.1 HS2.out.2 (rd_end T hTl)).mono ?_
              rintro _ w7 ⟨rfl, hI, hB, -⟩
              have H7 : Aside0 (RS w5 w7 g2 T (T.size : Int)) := ⟨hI, hB⟩
              clear hI hB
              go_wp2_with fail
              refine (rs_left hTl (by omega) (by omega) H7.out).mono ?_
              rintro _ w8 ⟨rfl, H8⟩
              rw [r5]
              have HB := Aside0.mk (below_step HR2.out.below H8.out.2)
              go_wp2_with fail
              go_ret
              exact ⟨rfl, HB.out⟩
end Go.Proofs.YtlhinklnnjbmpaaDoor.Th
