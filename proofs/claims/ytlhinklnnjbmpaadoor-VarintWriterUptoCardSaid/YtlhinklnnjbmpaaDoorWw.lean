/- The walk of VarintWriter. -/
import Derived.Test.YtlhinklnnjbmpaaDoorWr
namespace Go.Proofs.YtlhinklnnjbmpaaDoor.Ww
open Go.RowKit Go.Proofs.YtlhinklnnjbmpaaDoor.Vm Go.Proofs.YtlhinklnnjbmpaaDoor.Vw Go.Proofs.YtlhinklnnjbmpaaDoor.Sp Go.Proofs.YtlhinklnnjbmpaaDoorW.PrintWords Go.Proofs.YtlhinklnnjbmpaaDoorW.PrintLast Go.Proofs.YtlhinklnnjbmpaaDoorW.PrintMore Go.Proofs.YtlhinklnnjbmpaaDoor.GA Go.Proofs.YtlhinklnnjbmpaaDoor.GP Go.Proofs.YtlhinklnnjbmpaaDoor.Bk Go.Proofs.YtlhinklnnjbmpaaDoor.Rd Go.Proofs.YtlhinklnnjbmpaaDoor.Wr
set_option linter.unusedVariables false
set_option linter.unusedSimpArgs false
theorem str_of_bytes (s : ByteArray) : strOfNums (bytesOf s) = s := by
  rw [strOfNums_bs]
  apply WideShapes.bytes_inj
  show (List.map (fun n : Int => UInt8.ofNat n.toNat) (bytesOf s)).toArray.toList = _
  rw [List.toList_toArray]
  unfold bytesOf
  rw [List.map_map]
  conv => rhs; rw [← List.map_id s.data.toList]
  apply List.map_congr_left
  intro b _
  simp
theorem str_append (xs ys : List Int) : strOfNums (xs ++ ys) = strOfNums xs ++ strOfNums ys := by
  apply WideShapes.bytes_inj
  rw [strOfNums_bs, strOfNums_bs, strOfNums_bs, List.map_append, bs_append]
theorem str_size (xs : List Int) : (strOfNums xs).size = xs.length := by rw [strOfNums_bs, bs_size, List.length_map]
def catS (ts : List ByteArray) : ByteArray := strOfNums (ts.flatMap bytesOf)
theorem cat_size (ts : List ByteArray) : (catS ts).size = tot ts := by unfold catS; rw [str_size, flat_len]
theorem cat_split (ts : List ByteArray) {k : Nat} {t : ByteArray} (h : ts[k]? = some t) : catS (ts.take (k + 1)) = catS (ts.take k) ++ t := by
  unfold catS
  rw [flat_split ts h, str_append, str_of_bytes]
abbrev Pc : Type := Bool × Int × List ByteArray
def pcK : Kd Pc := Kd.bool.pair ((Kd.int .i64).pair (Kd.slice 9 Kd.string))
/-- A piece's three cells. -/
theorem get_piece {W : World} {A : Option Addr} {l : List Pc} (h : pcK.C W A l.length l) {k : Nat} (hk : k < l.length) :
    ∃ ad b n ts B c, A = some ad ∧ l[k]? = some (b, n, ts) ∧ W.cell? (ad.add (k * 3)) = some (.bool b) ∧ W.cell? ⟨(ad.add (k * 3)).block, (ad.add (k * 3)).off + 1, none⟩ = some (.int .i64 n) ∧
      W.cell? ⟨(ad.add (k * 3)).block, (ad.add (k * 3)).off + 2, none⟩ = some (.slice B ts.length c) ∧ ts.length ≤ c ∧ Kd.string.C W B ts.length ts := by
  obtain ⟨ad, c, hA, hl, hK, hc⟩ := Kd.C_get h (false, 0, []) (k : Int) (by omega) (by omega)
  obtain ⟨c0, c12, rfl, K0, c1, c2, rfl, K1, K2⟩ := hK
  have e : l.getD (k : Int).toNat (false, 0, []) = l[k] := by rw [Int.toNat_natCast, List.getD_eq_getElem?_getD, List.getElem?_eq_getElem hk]; rfl
  rw [e] at K0 K1 K2
  have e0 : c0 = [.bool l[k].1] := K0
  have e1 : c1 = [.int .i64 l[k].2.1] := K1
  obtain ⟨B, cc, e2, hcc, hr⟩ := K2
  subst e0 e1 e2
  have e3 : ∀ j, (k : Int).toNat * pcK.sz + j = k * 3 + j := fun j => by rw [Int.toNat_natCast]; rfl
  have h0 := hc 0 _ rfl
  have h1 := hc 1 _ rfl
  have h2 := hc 2 _ rfl
  rw [e3] at h0 h1 h2
  rw [add_field _ _ _ (by decide)] at h1 h2
  exact ⟨ad, _, _, _, B, cc, hA, List.getElem?_eq_getElem hk, h0, h1, h2, hcc, hr⟩
set_option maxHeartbeats 2000000 in
set_option maxRecDepth 100000 in
theorem writer_bad (lim : Int) (A : Option Addr) (cap : Nat) (l : List Pc) (w : World) (hE : Aside0 (EnvOK w)) (h : lim < 0 ∨ lim > 1073741824) :
    Calls Tryd.prog 4 #[.int .i64 lim, .slice A l.length cap] w fun e w' => e = .returned (.bool true) ∧ Below w.heap.size w w' := by
  have hq : (decide (lim < 0) = true) ∨ (decide (lim < 0) = false ∧ decide (lim > 1073741824) = true) := by
    by_cases h0 : lim < 0
    · exact .inl (decide_eq_true h0)
    · exact .inr ⟨decide_eq_false h0, decide_eq_true (by omega)⟩
  rcases hq with q0 | ⟨q0, q1⟩
  all_goals
    go_enter Tryd.func4, Tryd.ntmps4
    go_wp2_with fail
    refine (c_Bad lim w h).mono ?_
    rintro _ w1 ⟨rfl, hb⟩
    have HB := Aside0.mk hb
    clear hb
    go_wp2_with fail
    refine (c_works _ (EnvOK.stays hE HB.out)).mono ?_
    rintro _ w2 ⟨rfl, hb⟩
    have HB2 := Aside0.mk (below_step HB.out hb)
    clear hb
    go_wp2_with fail
    go_ret
    exact ⟨rfl, HB2.out⟩
/-- What a piece makes: the text that more is, and what is bad. -/
theorem put_cat (lim : Int) (xs : List Int) (ts : List ByteArray) (h : (xs.length : Int) + tot ts ≤ lim) : putF lim xs ts = (0, xs ++ ts.flatMap bytesOf) := if_pos h
theorem put_bad (lim : Int) (xs : List Int) (ts : List ByteArray) (h : ¬ (xs.length : Int) + tot ts ≤ lim) : putF lim xs ts = (2, xs) := if_neg h
theorem size_at {w0 W : World} {g : Nat} {lim : Int} {xs : List Int} (h : Wr w0 W g lim xs) (T : ByteArray) (hT : T = strOfNums xs) :
    Calls Tryd.prog 20 #[.pointer (some ⟨g, 0, none⟩)] W fun e w' => e = .returned (.int .i64 (T.size : Int)) ∧ w' = W := by
  subst hT; rw [str_size]; exact c_Size h
theorem text_at {w0 W : World} {g : Nat} {lim : Int} {xs : List Int} (h : Wr w0 W g lim xs) (T : ByteArray) (hT : T = strOfNums xs) :
    Calls Tryd.prog 21 #[.pointer (some ⟨g, 0, none⟩)] W fun e w' => e = .returned (.string T) ∧ w' = W := by
  subst hT; exact c_Text h
/-- A piece's texts, whatever is made. -/
theorem stays {w0 W : World} {A : Option Addr} {l : List Pc} (h : pcK.C w0 A l.length l) (hb : Below w0.heap.size w0 W) {k : Nat} (hk : k < l.length) :
    ∃ ad b n ts B c, A = some ad ∧ l[k]? = some (b, n, ts) ∧ W.cell? (ad.add (k * 3)) = some (.bool b) ∧ W.cell? ⟨(ad.add (k * 3)).block, (ad.add (k * 3)).off + 1, none⟩ = some (.int .i64 n) ∧
      W.cell? ⟨(ad.add (k * 3)).block, (ad.add (k * 3)).off + 2, none⟩ = some (.slice B ts.length c) ∧ ∀ W', Below w0.heap.size w0 W' → Kd.string.C W' B ts.length ts := by
  obtain ⟨ad, b, n, ts, B, c, e, hp, h0, h1, h2, -, h3⟩ := get_piece h hk
  exact ⟨ad, b, n, ts, B, c, e, hp, (hb.cell (World.block_lt_of_cell? _ _ h0)).trans h0, (hb.cell (World.block_lt_of_cell? _ _ h1)).trans h1, (hb.cell (World.block_lt_of_cell? _ _ h2)).trans h2, fun W' hb' => Kd.C_below h3 hb'⟩
set_option maxHeartbeats 4000000 in
set_option maxRecDepth 100000 in
theorem writer_ok (lim : Int) (A : Option Addr) (cap : Nat) (l : List Pc) (w : World) (hE : Aside0 (EnvOK w)) (h0 : 0 ≤ lim) (h1 : lim ≤ 1073741824) (hn : l.length ≤ 140737488351232)
    (HC : Aside0 (pcK.C w A l.length l)) (HT : Aside0 (∀ p ∈ l, tot p.2.2 ≤ 140737488351232 ∧ p.2.2.length ≤ 140737488351232)) :
    Calls Tryd.prog 4 #[.int .i64 lim, .slice A l.length cap] w fun e w' => e = .returned (.bool true) ∧ Below w.heap.size w w' := by
  have q0 : decide (lim < 0) = false := decide_eq_false (by omega)
  have q1 : decide (lim > 1073741824) = false := decide_eq_false (by omega)
  go_enter Tryd.func4, Tryd.ntmps4
  go_wp2_with fail
  refine (c_New lim w h0 h1).mono ?_
  rintro _ w1 ⟨g, rfl, hW⟩
  have HW := Aside0.mk hW
  clear hW
  go_wp2_with fail
  refine (c_works _ (EnvOK.stays hE HW.out.below)).mono ?_
  rintro _ w2 ⟨rfl, hb⟩
  have HA : Aside0 (Wr w w2 g lim []) := ⟨wr_below HW.out hb⟩
  clear hb HW
  go_wp2_with fail
  go_loopw [7, 8] (fun v7 v8 wr => ∃ (k : Nat) (xs : List Int) (T : ByteArray), v8 = .int .i64 k ∧ k ≤ l.length ∧ v7 = .string T ∧ Aside0 (T = strOfNums xs) ∧ Aside0 (Wr w wr g lim xs) ∧ Aside0 ((xs.length : Int) ≤ lim)) (fun _ v8 _ => l.length - (intOf v8).toNat)
  case atStart => exact ⟨0, [], ⟨#[]⟩, rfl, Nat.zero_le _, rfl, ⟨rfl⟩, HA, ⟨h0⟩⟩
  case round =>
    clear HA
    obtain ⟨k, xs, T, rfl, hk, rfl, ET, HR, HX⟩ := hrel
    rcases Nat.lt_or_ge k l.length with hlt | hge
    · have t1 : decide ((k : Int) < (l.length : Int)) = true := decide_eq_true (by omega)
      obtain ⟨ad, b, n, ts, B, c, rfl, hp, hc0, hc1, hc2, hstay0⟩ := stays HC.out HR.out.below hlt
      have hstay := Aside0.mk hstay0
      have hts := hstay0 wr HR.out.below
      clear hstay0
      obtain ⟨ht1, ht2⟩ : tot ts ≤ 140737488351232 ∧ ts.length ≤ 140737488351232 := HT.out _ (List.mem_of_getElem? hp)
      have hx1 : (xs.length : Int) ≤ lim := HX.out
      have e1 : T.size = xs.length := by rw [ET.out]; exact str_size xs
      obtain ⟨M, hM⟩ : ∃ M, M = catS ts := ⟨_, rfl⟩
      have EM := Aside0.mk hM
      clear hM
      have e2 : M.size = tot ts := by rw [EM.out]; exact cat_size ts
      have r1 : IntKind.i64.wrap ((xs.length : Int) + (tot ts : Int)) = xs.length + tot ts := by rw [i64_w]; exact w64 (by omega) (by omega)
      have hcs : ∀ t ∈ ts, t.size ≤ 140737488351232 := fun t h => by
        obtain ⟨i, hi⟩ := List.getElem?_of_mem h
        have := tot_split ts hi; have := tot_le ts (i + 1); omega
      clear hp
      cases b with
      | true =>
        have CR := cisternref02_PutLen.calls 12 n _ _ wr (ref_PutLen_f n 12 (by decide))
        have hsm := putLen_small n
        have hlen : lenF lim xs n = if (putLenS n).2 = 0 then putF lim xs [bs (putLenS n).1] else ((putLenS n).2, xs) := rfl
        generalize hp : putLenS n = p at CR hsm hlen
        obtain ⟨sq, r⟩ := p
        simp only at CR hsm hlen
        obtain ⟨M, hM⟩ : ∃ M, M = bs sq := ⟨_, rfl⟩
        have hMs : M.size = sq.length := by rw [hM, bs_size]
        have htM : tot [M] = M.size := by simp [tot]
        have hfM : [M].flatMap bytesOf = bytesOf M := by simp
        rw [← hM] at CR hlen
        clear hM hp hts hstay EM e2 r1
        go_wp2_with fail
        refine CR.mono ?_
        rintro _ w3 ⟨rfl, hb⟩
        have HR2 : Aside0 (Wr w w3 g lim xs) := ⟨wr_below HR.out hb⟩
        have hd0 := (hb.cell (World.block_lt_of_cell? _ _ hc0)).trans hc0
        have hd1 := (hb.cell (World.block_lt_of_cell? _ _ hc1)).trans hc1
        have hd2 := (hb.cell (World.block_lt_of_cell? _ _ hc2)).trans hc2
        clear hb hc0 hc1 hc2 HR CR
        go_upto_block 2 with fail
        go_cut [9] (fun s9 wc => s9 = .string M ∧ wc = w3)
        case first =>
          go_wp2_with fail
          go_loop [9, 11] (fun v9 v11 => v9 = .string M ∧ v11 = .int .i64 0) (fun _ _ => 0)
          case atStart => exact ⟨rfl, rfl⟩
          case round =>
            obtain ⟨rfl, rfl⟩ := hrel
            by_cases hz : 0 < ts.length
            · have t2 : decide ((0 : Int) < (ts.length : Int)) = true := decide_eq_true (by omega)
              go_wp2_with fail
              go_meet
              case rel => exact ⟨rfl, rfl⟩
            · have t2 : decide ((0 : Int) < (ts.length : Int)) = false := decide_eq_false (by omega)
              go_wp2_with fail
              go_meet
              case rel => exact ⟨rfl, rfl⟩
        case rest =>
          obtain ⟨rfl, rfl⟩ := hcut
          have r1 : IntKind.i64.wrap ((xs.length : Int) + (sq.length : Int)) = xs.length + sq.length := by rw [i64_w]; exact w64 (by omega) (by omega)
          by_cases hr : r = 0
          · subst hr
            rw [if_pos rfl] at hlen
            by_cases hf : (xs.length : Int) + sq.length ≤ lim
            · have t3 : decide ((xs.length : Int) + (sq.length : Int) > lim) = false := decide_eq_false (by omega)
              have hz : xs.length + sq.length ≤ 9223372036854775807 := by omega
              go_wp2_with fail
              refine (c_Len HR2.out h1 HX.out n).mono ?_
              rw [hlen, put_cat lim xs [M] (by rw [htM, hMs]; exact hf), hfM]
              rintro _ w4 ⟨rfl, hW3, -⟩
              have H3 : Aside0 (Wr w w4 g lim (xs ++ bytesOf M)) := ⟨hW3⟩
              obtain ⟨T', hT'⟩ : ∃ T', T' = T ++ M := ⟨_, rfl⟩
              have E3 : Aside0 (T' = strOfNums (xs ++ bytesOf M)) := ⟨by rw [hT', ET.out, str_append, str_of_bytes]⟩
              rw [← hT']
              clear hW3 hT'
              have H5 : Aside0 ((((xs ++ bytesOf M).length : Nat) : Int) ≤ lim) := ⟨by rw [List.length_append, bytesOf_length, hMs]; omega⟩
              go_wp2_with fail
              refine (size_at H3.out T' E3.out).mono ?_
              rintro _ w4 ⟨rfl, rfl⟩
              go_wp2_with fail
              refine (text_at H3.out T' E3.out).mono ?_
              rintro _ w5 ⟨rfl, rfl⟩
              go_wp2_with fail
              refine ⟨⟨k + 1, _, T', by rfl, hlt, rfl, E3, H3, H5⟩, ?_⟩
              have e1 : intOf (Value.int IntKind.i64 ((k : Int) + 1)) = (k : Int) + 1 := rfl
              have e2 : intOf (Value.int IntKind.i64 (k : Int)) = (k : Int) := rfl
              rw [e1, e2]; go_light; omega
            · have t3 : decide ((xs.length : Int) + (sq.length : Int) > lim) = true := decide_eq_true (by omega)
              go_wp2_with fail
              refine (c_Len HR2.out h1 HX.out n).mono ?_
              rw [hlen, put_bad lim xs [M] (by rw [htM, hMs]; omega)]
              rintro _ w3 ⟨rfl, hW3, -⟩
              have H3 : Aside0 (Wr w w3 g lim xs) := ⟨hW3⟩
              clear hW3
              go_wp2_with fail
              refine (size_at H3.out T ET.out).mono ?_
              rintro _ w4 ⟨rfl, rfl⟩
              go_wp2_with fail
              refine (text_at H3.out T ET.out).mono ?_
              rintro _ w5 ⟨rfl, rfl⟩
              go_wp2_with fail
              refine ⟨⟨k + 1, _, T, by rfl, hlt, rfl, ET, H3, HX⟩, ?_⟩
              have e1 : intOf (Value.int IntKind.i64 ((k : Int) + 1)) = (k : Int) + 1 := rfl
              have e2 : intOf (Value.int IntKind.i64 (k : Int)) = (k : Int) := rfl
              rw [e1, e2]; go_light; omega
          · rw [if_neg hr] at hlen
            have q2 : (r == 0) = false := by simpa using hr
            have q3 : decide (r = 0) = false := decide_eq_false hr
            go_wp2_with fail
            refine (c_Len HR2.out h1 HX.out n).mono ?_
            rw [hlen]
            rintro _ w3 ⟨rfl, hW3, -⟩
            have H3 : Aside0 (Wr w w3 g lim xs) := ⟨hW3⟩
            clear hW3
            go_wp2_with fail
            refine (size_at H3.out T ET.out).mono ?_
            rintro _ w4 ⟨rfl, rfl⟩
            go_wp2_with fail
            refine (text_at H3.out T ET.out).mono ?_
            rintro _ w5 ⟨rfl, rfl⟩
            go_wp2_with fail
            refine ⟨⟨k + 1, _, T, by rfl, hlt, rfl, ET, H3, HX⟩, ?_⟩
            have e1 : intOf (Value.int IntKind.i64 ((k : Int) + 1)) = (k : Int) + 1 := rfl
            have e2 : intOf (Value.int IntKind.i64 (k : Int)) = (k : Int) := rfl
            rw [e1, e2]; go_light; omega
      | false =>
        go_upto_block 2 with fail
        go_cut [9] (fun s9 wc => s9 = .string M ∧ wc = wr)
        case first =>
          go_wp2_with fail
          go_loop [9, 11] (fun v9 v11 => ∃ j : Nat, v11 = .int .i64 j ∧ j ≤ ts.length ∧ v9 = .string (catS (ts.take j))) (fun _ v11 => ts.length - (intOf v11).toNat)
          case atStart => exact ⟨0, rfl, Nat.zero_le _, rfl⟩
          case round =>
            obtain ⟨j, rfl, hj, rfl⟩ := hrel
            rcases Nat.lt_or_ge j ts.length with hjl | hjg
            · have t2 : decide ((j : Int) < (ts.length : Int)) = true := decide_eq_true (by omega)
              obtain ⟨ad2, t, rfl, htt, hct⟩ := get_text hts hjl
              have hz : (catS (ts.take j)).size + t.size ≤ 9223372036854775807 := by
                have e1 := cat_size (ts.take j)
                have e2 := tot_split ts htt
                have e3 := tot_le ts (j + 1)
                omega
              go_wp2_with fail
              refine ⟨⟨j + 1, by rfl, hjl, by rw [cat_split ts htt]⟩, ?_⟩
              have e1 : intOf (Value.int IntKind.i64 ((j : Int) + 1)) = (j : Int) + 1 := rfl
              have e2 : intOf (Value.int IntKind.i64 (j : Int)) = (j : Int) := rfl
              rw [e1, e2]; go_light; omega
            · have t2 : decide ((j : Int) < (ts.length : Int)) = false := decide_eq_false (by omega)
              go_wp2_with fail
              go_meet
              case rel => exact ⟨by rw [List.take_of_length_le hjg, EM.out], rfl⟩
        case rest =>
          obtain ⟨rfl, rfl⟩ := hcut
          have HS : ∀ W', Kp w wc W' g → Kd.string.C W' B ts.length ts := fun W' hK => hstay.out _ hK.1
          by_cases hf : (xs.length : Int) + tot ts ≤ lim
          · have t3 : decide ((xs.length : Int) + (tot ts : Int) > lim) = false := decide_eq_false (by omega)
            have hz : xs.length + tot ts ≤ 9223372036854775807 := by omega
            go_wp2_with fail
            refine (c_Put HR.out h1 HX.out B c ts HS hcs ht2).mono ?_
            rw [put_cat lim xs ts hf]
            rintro _ w3 ⟨rfl, hW3, -⟩
            have H3 : Aside0 (Wr w w3 g lim (xs ++ ts.flatMap bytesOf)) := ⟨hW3⟩
            obtain ⟨T', hT'⟩ : ∃ T', T' = T ++ M := ⟨_, rfl⟩
            have E3 : Aside0 (T' = strOfNums (xs ++ ts.flatMap bytesOf)) := ⟨by rw [hT', ET.out, EM.out, str_append]; rfl⟩
            rw [← hT']
            clear hW3 hT'
            have H5 : Aside0 ((((xs ++ ts.flatMap bytesOf).length : Nat) : Int) ≤ lim) := ⟨by rw [List.length_append, flat_len]; omega⟩
            go_wp2_with fail
            refine (size_at H3.out T' E3.out).mono ?_
            rintro _ w4 ⟨rfl, rfl⟩
            go_wp2_with fail
            refine (text_at H3.out T' E3.out).mono ?_
            rintro _ w5 ⟨rfl, rfl⟩
            go_wp2_with fail
            refine ⟨⟨k + 1, _, T', by rfl, hlt, rfl, E3, H3, H5⟩, ?_⟩
            have e1 : intOf (Value.int IntKind.i64 ((k : Int) + 1)) = (k : Int) + 1 := rfl
            have e2 : intOf (Value.int IntKind.i64 (k : Int)) = (k : Int) := rfl
            rw [e1, e2]; go_light; omega
          · have t3 : decide ((xs.length : Int) + (tot ts : Int) > lim) = true := decide_eq_true (by omega)
            go_wp2_with fail
            refine (c_Put HR.out h1 HX.out B c ts HS hcs ht2).mono ?_
            rw [put_bad lim xs ts (by omega)]
            rintro _ w3 ⟨rfl, hW3, -⟩
            have H3 : Aside0 (Wr w w3 g lim xs) := ⟨hW3⟩
            clear hW3
            go_wp2_with fail
            refine (size_at H3.out T ET.out).mono ?_
            rintro _ w4 ⟨rfl, rfl⟩
            go_wp2_with fail
            refine (text_at H3.out T ET.out).mono ?_
            rintro _ w5 ⟨rfl, rfl⟩
            go_wp2_with fail
            refine ⟨⟨k + 1, _, T, by rfl, hlt, rfl, ET, H3, HX⟩, ?_⟩
            have e1 : intOf (Value.int IntKind.i64 ((k : Int) + 1)) = (k : Int) + 1 := rfl
            have e2 : intOf (Value.int IntKind.i64 (k : Int)) = (k : Int) := rfl
            rw [e1, e2]; go_light; omega
    · have t1 : decide ((k : Int) < (l.length : Int)) = false := decide_eq_false (by omega)
      go_wp2_with fail
      go_ret
      exact ⟨rfl, HR.out.below⟩
end Go.Proofs.YtlhinklnnjbmpaaDoor.Ww
