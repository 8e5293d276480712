/- The walk of VarintReader. -/
import Derived.Test.YtlhinklnnjbmpaaDoorRp
import Derived.Test.YtlhinklnnjbmpaaDoorBk
import Derived.Deep.DeepCutAuto
import Derived.Deep.CutBlock
import Derived.Deep.Light
import Derived.Deep.RegionHeld3
namespace Go.Proofs.YtlhinklnnjbmpaaDoor.Rd
open Go.RowKit Go.Proofs.YtlhinklnnjbmpaaDoor.Vm Go.Proofs.YtlhinklnnjbmpaaDoor.Vw Go.Proofs.YtlhinklnnjbmpaaDoor.Sp Go.Proofs.YtlhinklnnjbmpaaDoorW.PrintWords Go.Proofs.YtlhinklnnjbmpaaDoorW.PrintLast Go.Proofs.YtlhinklnnjbmpaaDoorW.PrintMore Go.Proofs.YtlhinklnnjbmpaaDoor.GA Go.Proofs.YtlhinklnnjbmpaaDoor.GP Go.Proofs.YtlhinklnnjbmpaaDoor.Bk
set_option linter.unusedVariables false
set_option linter.unusedSimpArgs false
/-- What holds at the head of each round. -/
def At (w0 W : World) (g h : Nat) (s : ByteArray) (i : Int) : Prop :=
  IsS90 w0 W g s i ∧ W.heap[h]? = some (.cells #[.string s, .int .i64 i] 64 (0, 0)) ∧ w0.heap.size ≤ h ∧ Below w0.heap.size w0 W ∧ 0 ≤ i ∧ i ≤ s.size
theorem blk_two {W : World} {h : Nat} {a b : Value} {t : TypeId} (hd : W.heap[h]? = some (.cells #[a, b] t (0, 0))) :
    W.cell? ⟨h, 0, none⟩ = some a ∧ W.cell? ⟨h, 1, none⟩ = some b ∧ W.frozen? ⟨h, 0, none⟩ = false ∧ W.frozen? ⟨h, 1, none⟩ = false :=
  ⟨(blk_cell hd 0).trans rfl, (blk_cell hd 1).trans rfl, by simp [World.frozen?, hd], by simp [World.frozen?, hd]⟩
theorem next_facts {w0 W : World} {g h : Nat} {s : ByteArray} {i0 i : Int} (hw : w0.heap.size ≤ h) (hI : IsS90 w0 W g s i) (hB : Below w0.heap.size w0 W) (hd : W.heap[h]? = some (.cells #[.string s, .int .i64 i0] 64 (0, 0))) (h0 : 0 ≤ i) (h1 : i ≤ s.size) :
    (W.alloc (.cells #[.string s, .int .i64 i] 64)).cell? ⟨h, 0, none⟩ = some (.string s) ∧
    (W.alloc (.cells #[.string s, .int .i64 i] 64)).frozen? ⟨h, 0, none⟩ = false ∧
    ((W.alloc (.cells #[.string s, .int .i64 i] 64)).setCell ⟨h, 0, none⟩ (.string s)).cell? ⟨h, 1, none⟩ = some (.int .i64 i0) ∧
    ((W.alloc (.cells #[.string s, .int .i64 i] 64)).setCell ⟨h, 0, none⟩ (.string s)).frozen? ⟨h, 1, none⟩ = false ∧ Aside0 (At w0 (((W.alloc (.cells #[.string s, .int .i64 i] 64)).setCell ⟨h, 0, none⟩ (.string s)).setCell ⟨h, 1, none⟩ (.int .i64 i)) g h s i) := by
  have hne : g ≠ h := IsS90.ne_blk hI hd (by decide)
  have ha : (W.alloc (.cells #[.string s, .int .i64 i] 64)).heap[h]? = some (.cells #[.string s, .int .i64 i0] 64 (0, 0)) := ((below_alloc (Below.refl _ W) _).block h (blk_lt hd)).trans hd
  have hb := heap_set (off := 0) ha (.string s)
  have hc := heap_set (off := 1) hb (.int .i64 i)
  refine ⟨(blk_two ha).1, (blk_two ha).2.2.1, (blk_two hb).2.1, (blk_two hb).2.2.2, ⟨((hI.alloc _).far hne _).far hne _, hc, hw, below_set (below_set (below_alloc hB _) hw) hw, h0, h1⟩⟩
theorem heap_set_ne {W : World} {x h off : Nat} (hne : x ≠ h) (v : Value) : (W.setCell ⟨x, off, none⟩ v).heap[h]? = W.heap[h]? := by
  simp [World.setCell, Array.getElem?_modify, hne]
theorem next_made {w0 W3 W : World} {g h x : Nat} {s : ByteArray} {i0 i : Int} {a b : Value} (hx : W3.heap.size = x) (hw : w0.heap.size ≤ h) (hI : IsS90 w0 W3 g s i) (hB : Below w0.heap.size w0 W3) (hd : W3.heap[h]? = some (.cells #[.string s, .int .i64 i0] 64 (0, 0))) (h0 : 0 ≤ i) (h1 : i ≤ s.size)
    (z3 : W.heap[x]? = some (.cells #[a, b] 64 (0, 0))) (z4 : Below W3.heap.size W3 W) :
    ((W.setCell ⟨x, 0, none⟩ (.string s)).setCell ⟨x, 1, none⟩ (.int .i64 i)).cell? ⟨x, 0, none⟩ = some (.string s) ∧
    ((W.setCell ⟨x, 0, none⟩ (.string s)).setCell ⟨x, 1, none⟩ (.int .i64 i)).cell? ⟨x, 1, none⟩ = some (.int .i64 i) ∧
    ((W.setCell ⟨x, 0, none⟩ (.string s)).setCell ⟨x, 1, none⟩ (.int .i64 i)).cell? ⟨h, 0, none⟩ = some (.string s) ∧
    ((W.setCell ⟨x, 0, none⟩ (.string s)).setCell ⟨x, 1, none⟩ (.int .i64 i)).frozen? ⟨h, 0, none⟩ = false ∧
    (((W.setCell ⟨x, 0, none⟩ (.string s)).setCell ⟨x, 1, none⟩ (.int .i64 i)).setCell ⟨h, 0, none⟩ (.string s)).cell? ⟨h, 1, none⟩ = some (.int .i64 i0) ∧
    (((W.setCell ⟨x, 0, none⟩ (.string s)).setCell ⟨x, 1, none⟩ (.int .i64 i)).setCell ⟨h, 0, none⟩ (.string s)).frozen? ⟨h, 1, none⟩ = false ∧
    Aside0 (At w0 ((((W.setCell ⟨x, 0, none⟩ (.string s)).setCell ⟨x, 1, none⟩ (.int .i64 i)).setCell ⟨h, 0, none⟩ (.string s)).setCell ⟨h, 1, none⟩ (.int .i64 i)) g h s i) := by
  have hne : g ≠ h := IsS90.ne_blk hI hd (by decide)
  have gx : g ≠ x := by have := hI.lt; omega
  have xh : x ≠ h := by have := blk_lt hd; omega
  have hw3 : w0.heap.size ≤ x := by have := hB.size; omega
  have y := heap_set (off := 1) (heap_set (off := 0) z3 (.string s)) (.int .i64 i)
  have hI5 := ((hI.below z4).far (p := ⟨x, 0, none⟩) gx (.string s)).far (p := ⟨x, 1, none⟩) gx (.int .i64 i)
  have hB5 := below_set (j := 1) (v := .int .i64 i) (below_set (j := 0) (v := .string s) (below_step hB z4) hw3) hw3
  have hd5 : ((W.setCell ⟨x, 0, none⟩ (.string s)).setCell ⟨x, 1, none⟩ (.int .i64 i)).heap[h]? = some (.cells #[.string s, .int .i64 i0] 64 (0, 0)) :=
    (heap_set_ne xh _).trans ((heap_set_ne xh _).trans ((z4.block h (blk_lt hd)).trans hd))
  have hb := heap_set (off := 0) hd5 (.string s)
  have hc := heap_set (off := 1) hb (.int .i64 i)
  exact ⟨(blk_two y).1, (blk_two y).2.1, (blk_two hd5).1, (blk_two hd5).2.2.1, (blk_two hb).2.1, (blk_two hb).2.2.2, ⟨(hI5.far hne _).far hne _, hc, hw, below_set (below_set hB5 hw) hw, h0, h1⟩⟩
/-- A block that was made ahead of a call, behind it. -/
theorem fresh_facts {W W4 : World} {a b u : Value} {x : Nat} (hx : W.heap.size = x) (hb : Below (W.alloc (.cells #[a, b] 64)).drew.heap.size (W.alloc (.cells #[a, b] 64)).drew W4) :
    W4.cell? ⟨x, 0, none⟩ = some a ∧ W4.frozen? ⟨x, 0, none⟩ = false ∧
    (∀ u, (W4.setCell ⟨x, 0, none⟩ u).cell? ⟨x, 1, none⟩ = some b ∧ (W4.setCell ⟨x, 0, none⟩ u).frozen? ⟨x, 1, none⟩ = false) ∧
    W4.heap[x]? = some (.cells #[a, b] 64 (0, 0)) ∧ Below W.heap.size W W4 := by
  subst hx
  have h4 : W4.heap[W.heap.size]? = some (.cells #[a, b] 64 (0, 0)) := (hb.block W.heap.size (by show W.heap.size < (W.heap.push _).size; rw [Array.size_push]; omega)).trans (heap_alloc_new W _)
  refine ⟨(blk_two h4).1, (blk_two h4).2.2.1, fun u => ?_, h4, below_step (below_drew1 (below_alloc (Below.refl _ W) _)) hb⟩
  have h5 := heap_set (off := 0) h4 u
  exact ⟨(blk_two h5).2.1, (blk_two h5).2.2.2⟩
theorem take_made {s r1 r3 : ByteArray} {i m r2 r4 : Int} {W : World} {a b : Value} (x : Nat) (hx : W.heap.size = x) (h : cisternref02_Take.f s i m = some (r1, r2, r3, r4)) :
    Calls Tryd.prog 35 #[.agg #[.string s, .int .i64 i], .int .i64 m] (W.alloc (.cells #[a, b] 64)).drew fun e w4 => e = .returned (.tuple #[.agg #[.string r1, .int .i64 r2], .string r3, .int .i64 r4]) ∧
      w4.cell? ⟨x, 0, none⟩ = some a ∧ w4.frozen? ⟨x, 0, none⟩ = false ∧
      (∀ u, (w4.setCell ⟨x, 0, none⟩ u).cell? ⟨x, 1, none⟩ = some b ∧ (w4.setCell ⟨x, 0, none⟩ u).frozen? ⟨x, 1, none⟩ = false) ∧
      w4.heap[x]? = some (.cells #[a, b] 64 (0, 0)) ∧ Below W.heap.size W w4 :=
  (cisternref02_Take.calls s i m _ _ _ _ _ h).mono fun e w4 ⟨e1, hb⟩ => ⟨e1, fresh_facts (u := a) hx hb⟩
theorem take_plain {s r1 r3 : ByteArray} {i m r2 r4 : Int} {W : World} (h : cisternref02_Take.f s i m = some (r1, r2, r3, r4)) :
    Calls Tryd.prog 35 #[.agg #[.string s, .int .i64 i], .int .i64 m] W.drew fun e w4 => e = .returned (.tuple #[.agg #[.string r1, .int .i64 r2], .string r3, .int .i64 r4]) ∧ Below W.heap.size W w4 :=
  (cisternref02_Take.calls s i m _ _ _ _ _ h).mono fun e w4 ⟨e1, hb⟩ => ⟨e1, below_step (below_drew1 (Below.refl _ W)) hb⟩
theorem At.keep {w0 W W' : World} {g h : Nat} {s : ByteArray} {i : Int} (H : At w0 W g h s i) (hI : IsS90 w0 W' g s i) (hB : Below w0.heap.size w0 W') (hk : KeepBut W W' g none) : At w0 W' g h s i :=
  ⟨hI, hk.blk H.2.1 (IsS90.ne_blk H.1 H.2.1 (by decide)).symm (by simp), H.2.2.1, hB, H.2.2.2.2⟩
theorem At.drew {w0 W : World} {g h : Nat} {s : ByteArray} {i : Int} (H : At w0 W g h s i) : At w0 W.drew g h s i := ⟨H.1.drew, H.2.1, H.2.2.1, below_drew1 H.2.2.2.1, H.2.2.2.2⟩
theorem c_At {w0 W : World} {g h : Nat} {s : ByteArray} {i : Int} (H : At w0 W g h s i) : Calls Tryd.prog 31 #[.pointer (some ⟨g, 0, none⟩)] W fun e w' => e = .returned (.int .i64 i) ∧ Aside0 (At w0 w' g h s i) :=
  (varint_Reader_At.calls g s i _ _ _ w0 W H.1 H.2.2.2.1 rfl).mono fun e w' ⟨e1, hI, hB, hk⟩ => ⟨e1, ⟨H.keep hI hB hk⟩⟩
theorem c_Left {w0 W : World} {g h : Nat} {s : ByteArray} {i : Int} (hs : s.size ≤ 140737488351232) (H : At w0 W g h s i) : Calls Tryd.prog 32 #[.pointer (some ⟨g, 0, none⟩)] W fun e w' => e = .returned (.int .i64 ((s.size : Int) - i)) ∧ Aside0 (At w0 w' g h s i) :=
  (varint_Reader_Left.calls g s i _ _ _ w0 W H.1 H.2.2.2.1 rfl).mono fun e w' ⟨e1, hI, hB, hk⟩ => ⟨by rw [e1, w64 (x := (s.size : Int) - i) (by have := H.2.2.2.2; omega) (by have := H.2.2.2.2; omega)], ⟨H.keep hI hB hk⟩⟩
set_option maxHeartbeats 4000000 in
set_option maxRecDepth 100000 in
theorem reader_walk (s : ByteArray) (A : Option Addr) (cap : Nat) (cs : List (Int × Int)) (w : World) (hE : Aside0 (EnvOK w)) (hs : s.size ≤ 140737488351232) (hn : cs.length ≤ 140737488351232)
    (HC : Aside0 ((Kd.pair (Kd.int .i64) (Kd.int .i64)).C w A cs.length cs)) :
    Calls Tryd.prog 9 #[.string s, .slice A cs.length cap] w fun e w' => e = .returned (.bool true) ∧ Below w.heap.size w w' := by
  go_enter Tryd.func9, Tryd.ntmps9
  go_wp2_with fail
  refine (varint_NewReader.calls s s 0 w _ (Below.refl _ _) rfl).mono ?_
  rintro e w1 ⟨g, rfl, hI, hB, -⟩
  have HI := Aside0.mk hI
  have HB := Aside0.mk hB
  clear hI hB
  go_wp2_with fail
  refine (c_works _ (EnvOK.stays hE (below_alloc HB.out _))).mono ?_
  rintro e w2 ⟨rfl, hb⟩
  have HA : Aside0 (At w w2 g w1.heap.size s 0) := ⟨IsS90.below (HI.out.alloc _) hb, (hb.block w1.heap.size (by show w1.heap.size < (w1.heap.push _).size; rw [Array.size_push]; omega)).trans (heap_alloc_new w1 _), HB.out.size, below_step (below_alloc HB.out _) hb, Int.le_refl 0, by omega⟩
  clear hb HI HB
  obtain ⟨h, eh⟩ : ∃ h, h = w1.heap.size := ⟨_, rfl⟩
  rw [← eh] at HA
  simp only [← eh]
  clear eh
  go_wp2_with fail
  go_loopw [7] (fun v7 wr => ∃ (k : Nat) (i : Int), v7 = .int .i64 k ∧ k ≤ cs.length ∧ Aside0 (At w wr g h s i)) (fun v7 _ => cs.length - (intOf v7).toNat)
  case atStart => exact ⟨0, 0, rfl, Nat.zero_le _, HA⟩
  case round =>
    clear HA
    obtain ⟨k, i, rfl, hk, HA⟩ := hrel
    by_cases hlt : k < cs.length
    · have q1 : decide ((k : Int) < (cs.length : Int)) = true := decide_eq_true (by omega)
      obtain ⟨ad, c, rfl, hc2, ⟨c0, c1, rfl, K0, K1⟩, hcell⟩ := Kd.C_get (Kd.C_below HC.out HA.out.2.2.2.1) (0, 0) (k : Int) (by omega) (by omega)
      simp only [Int.toNat_natCast] at K0 K1 hcell
      generalize hx : cs.getD k (0, 0) = x at K0 K1
      obtain ⟨q, m⟩ := x
      have e0 : c0 = [.int .i64 q] := K0
      have e1 : c1 = [.int .i64 m] := K1
      subst e0 e1
      have hw0 : (ad.add (k * 2)).block < w.heap.size := by
        have h9 := Kd.C_get HC.out (0, 0) (k : Int) (by omega) (by omega)
        obtain ⟨ad', c', e', hl', -, hcell'⟩ := h9
        injection e' with e'
        subst e'
        have h2 : c'.length = 2 := hl'
        have := hcell' 0 (c'.getD 0 default) (by rcases c' with _ | ⟨y, _⟩ <;> first | rfl | simp at h2)
        simp only [Int.toNat_natCast] at this
        exact World.block_lt_of_cell? w _ this
      have hc0 : wr.cell? (ad.add (k * 2)) = some (.int .i64 q) := hcell 0 _ rfl
      have hc1 : wr.cell? ⟨(ad.add (k * 2)).block, (ad.add (k * 2)).off + 1, none⟩ = some (.int .i64 m) := by
        rw [← add_field ad (k * 2) 1 (by decide)]; exact hcell 1 _ rfl
      clear K0 K1 hcell hc2 hx
      go_upto_block 2 with fail
      go_cut [8] (fun s8 wc => s8 = .bool true ∧ ∃ i' : Int, Aside0 (At w wc g h s i'))
      case first =>
        go_wp2_with fail
        · obtain ⟨b, e, i', l0, l1, f1, f2⟩ := p_byte s i hs HA.out.2.2.2.2.1 HA.out.2.2.2.2.2
          refine (varint_Reader_Byte.calls g s i _ _ _ _ w wr HA.out.1 HA.out.2.2.2.1 f1).mono ?_
          rintro _ w3 ⟨rfl, hI, hB, hk3⟩
          have hne : g ≠ h := IsS90.ne_blk HA.out.1 HA.out.2.1 (by decide)
          have hd := hk3.blk HA.out.2.1 hne.symm (by simp)
          have H3 : Aside0 (IsS90 w w3 g s i' ∧ Below w.heap.size w w3 ∧ w3.heap[h]? = some (.cells #[.string s, .int .i64 i] 64 (0, 0))) := ⟨hI, hB, hd⟩
          have d0 : w3.cell? ⟨h, 0, none⟩ = some (.string s) := (blk_cell hd 0).trans rfl
          have d1 : w3.cell? ⟨h, 1, none⟩ = some (.int .i64 i) := (blk_cell hd 1).trans rfl
          have d4 : w3.cell? (ad.add (k * 2)) = some (.int .i64 q) := keep_cell hk3 hc0 (Nat.ne_of_lt (Nat.lt_of_lt_of_le hw0 HA.out.1.2))
          have d5 : w3.cell? ⟨(ad.add (k * 2)).block, (ad.add (k * 2)).off + 1, none⟩ = some (.int .i64 m) := keep_cell hk3 hc1 (Nat.ne_of_lt (Nat.lt_of_lt_of_le hw0 HA.out.1.2))
          clear hI hB hd hk3 hc0 hc1
          go_wp2_with fail
          refine (cisternref02_Byte.calls s i _ _ _ _ _ f2).mono ?_
          rintro _ w4 ⟨rfl, hb⟩
          have H4 : Aside0 (IsS90 w w4 g s i' ∧ Below w.heap.size w w4 ∧ w4.heap[h]? = some (.cells #[.string s, .int .i64 i] 64 (0, 0))) := ⟨H3.out.1.below hb, below_step H3.out.2.1 hb, (hb.block h (blk_lt H3.out.2.2)).trans H3.out.2.2⟩
          clear hb H3 d0 d1 d4 d5 f1 f2
          obtain ⟨m0, m1, m2, m3, HA'⟩ := next_facts HA.out.2.2.1 H4.out.1 H4.out.2.1 H4.out.2.2 l0 l1
          clear H4 HA
          go_wp2_with fail
          go_meet
          case rel => exact ⟨rfl, i', HA'⟩
        · obtain ⟨b, e, i', l0, l1, f1, f2⟩ := p_take s i m hs HA.out.2.2.2.2.1 HA.out.2.2.2.2.2
          refine (varint_Reader_Take.calls g s i m _ _ _ _ w wr HA.out.1 HA.out.2.2.2.1 f1).mono ?_
          rintro _ w3 ⟨rfl, hI, hB, hk3⟩
          have hne : g ≠ h := IsS90.ne_blk HA.out.1 HA.out.2.1 (by decide)
          have hd := hk3.blk HA.out.2.1 hne.symm (by simp)
          have H3 : Aside0 (IsS90 w w3 g s i' ∧ Below w.heap.size w w3 ∧ w3.heap[h]? = some (.cells #[.string s, .int .i64 i] 64 (0, 0))) := ⟨hI, hB, hd⟩
          have d0 : w3.cell? ⟨h, 0, none⟩ = some (.string s) := (blk_cell hd 0).trans rfl
          have d1 : w3.cell? ⟨h, 1, none⟩ = some (.int .i64 i) := (blk_cell hd 1).trans rfl
          have d4 : w3.cell? (ad.add (k * 2)) = some (.int .i64 q) := keep_cell hk3 hc0 (Nat.ne_of_lt (Nat.lt_of_lt_of_le hw0 HA.out.1.2))
          have d5 : w3.cell? ⟨(ad.add (k * 2)).block, (ad.add (k * 2)).off + 1, none⟩ = some (.int .i64 m) := keep_cell hk3 hc1 (Nat.ne_of_lt (Nat.lt_of_lt_of_le hw0 HA.out.1.2))
          clear hI hB hd hk3 hc0 hc1
          go_wp2_with fail
          have hS : ∀ w', Below w3.heap.size w3 w' → Below w3.heap.size w3 w' ∧ w'.cell? ⟨h, 0, none⟩ = some (.string s) ∧ w'.cell? ⟨h, 1, none⟩ = some (.int .i64 i) ∧ w'.cell? ⟨(ad.add (k * 2)).block, (ad.add (k * 2)).off + 1, none⟩ = some (.int .i64 m) := fun w' hb => ⟨hb, (hb.cell (World.block_lt_of_cell? _ _ d0)).trans d0, (hb.cell (World.block_lt_of_cell? _ _ d1)).trans d1, (hb.cell (World.block_lt_of_cell? _ _ d5)).trans d5⟩
          go_region_held3 (fun w' => Below w3.heap.size w3 w' ∧ w'.cell? ⟨h, 0, none⟩ = some (.string s) ∧ w'.cell? ⟨h, 1, none⟩ = some (.int .i64 i) ∧ w'.cell? ⟨(ad.add (k * 2)).block, (ad.add (k * 2)).off + 1, none⟩ = some (.int .i64 m))
            ((refine hS _ ?_; repeat (first | exact Below.refl _ _ | exact z4 | apply below_drew1 | apply below_alloc | (refine below_set ?_ (Nat.le_refl _)))))
            (first
            | (go_at_call 35; with_reducible refine (take_made w3.heap.size (by rfl) f2).mono ?_; rintro _ w4 ⟨rfl, z0, z1, z2, z3, z4⟩)
            | (go_at_call 35; with_reducible refine (take_plain f2).mono ?_; rintro _ w4 ⟨rfl, z4⟩))
          · have H4 : Aside0 (IsS90 w w4 g s i' ∧ Below w.heap.size w w4 ∧ w4.heap[h]? = some (.cells #[.string s, .int .i64 i] 64 (0, 0))) := ⟨H3.out.1.below z4, below_step H3.out.2.1 z4, (z4.block h (blk_lt H3.out.2.2)).trans H3.out.2.2⟩
            clear z4 H3 hS d0 d1 d4 d5 f1 f2
            obtain ⟨m0, m1, m2, m3, HA'⟩ := next_facts HA.out.2.2.1 H4.out.1 H4.out.2.1 H4.out.2.2 l0 l1
            clear H4 HA
            go_wp2_with fail
            go_meet
            case rel => exact ⟨rfl, i', HA'⟩
          · obtain ⟨y0, y1, m0, m1, m2, m3, HA'⟩ := next_made (x := w3.heap.size) rfl HA.out.2.2.1 H3.out.1 H3.out.2.1 H3.out.2.2 l0 l1 z3 z4
            clear z0 z1 z2 z3 z4 H3 hS d0 d1 d4 d5 f1 f2 HA
            go_wp2_with fail
            go_meet
            case rel => exact ⟨rfl, i', HA'⟩
        · obtain ⟨b, e, x, i', l0, l1, f1, f2⟩ := p_len s i hs HA.out.2.2.2.2.1 HA.out.2.2.2.2.2
          refine (varint_Reader_Len.calls 20 g s i _ _ _ _ _ w wr HA.out.1 HA.out.2.2.2.1 f1).mono ?_
          rintro _ w3 ⟨rfl, hI, hB, hk3⟩
          have hne : g ≠ h := IsS90.ne_blk HA.out.1 HA.out.2.1 (by decide)
          have hd := hk3.blk HA.out.2.1 hne.symm (by simp)
          have H3 : Aside0 (IsS90 w w3 g s i' ∧ Below w.heap.size w w3 ∧ w3.heap[h]? = some (.cells #[.string s, .int .i64 i] 64 (0, 0))) := ⟨hI, hB, hd⟩
          have d0 : w3.cell? ⟨h, 0, none⟩ = some (.string s) := (blk_cell hd 0).trans rfl
          have d1 : w3.cell? ⟨h, 1, none⟩ = some (.int .i64 i) := (blk_cell hd 1).trans rfl
          have d4 : w3.cell? (ad.add (k * 2)) = some (.int .i64 q) := keep_cell hk3 hc0 (Nat.ne_of_lt (Nat.lt_of_lt_of_le hw0 HA.out.1.2))
          have d5 : w3.cell? ⟨(ad.add (k * 2)).block, (ad.add (k * 2)).off + 1, none⟩ = some (.int .i64 m) := keep_cell hk3 hc1 (Nat.ne_of_lt (Nat.lt_of_lt_of_le hw0 HA.out.1.2))
          clear hI hB hd hk3 hc0 hc1
          go_wp2_with fail
          refine (cisternref02_ReadLen.calls 20 s i _ _ _ _ _ _ f2).mono ?_
          rintro _ w4 ⟨rfl, hb⟩
          have H4 : Aside0 (IsS90 w w4 g s i' ∧ Below w.heap.size w w4 ∧ w4.heap[h]? = some (.cells #[.string s, .int .i64 i] 64 (0, 0))) := ⟨H3.out.1.below hb, below_step H3.out.2.1 hb, (hb.block h (blk_lt H3.out.2.2)).trans H3.out.2.2⟩
          clear hb H3 d0 d1 d4 d5 f1 f2
          obtain ⟨m0, m1, m2, m3, HA'⟩ := next_facts HA.out.2.2.1 H4.out.1 H4.out.2.1 H4.out.2.2 l0 l1
          clear H4 HA
          go_wp2_with fail
          go_meet
          case rel => exact ⟨rfl, i', HA'⟩
        · obtain ⟨b, m', e, l0', l1', f1, f2⟩ := p_int s i hs HA.out.2.2.2.2.1 HA.out.2.2.2.2.2
          obtain ⟨i', ei⟩ : ∃ i', i' = i + m' := ⟨_, rfl⟩
          have l0 : 0 ≤ i' := by have := HA.out.2.2.2.2.1; omega
          have l1 : i' ≤ s.size := by omega
          refine (int_calls g s i m' b e wr HA.out.1.1 HA.out.2.2.2.2.1 HA.out.2.2.2.2.2 hs l0' (by have := HA.out.2.2.2.2.1; omega) ⟨fun W => varint_Int.calls _ _ _ _ W f1⟩).mono ?_
          rintro _ w3 ⟨rfl, hI0, hk3, hB0⟩
          rw [← ei] at hI0 f2
          have hI : IsS90 w w3 g s i' := ⟨hI0, HA.out.1.2⟩
          have hB : Below w.heap.size w w3 := hB0 w HA.out.1.2 HA.out.2.2.2.1
          clear hI0 hB0 ei
          have hne : g ≠ h := IsS90.ne_blk HA.out.1 HA.out.2.1 (by decide)
          have hd := hk3.blk HA.out.2.1 hne.symm (by simp)
          have H3 : Aside0 (IsS90 w w3 g s i' ∧ Below w.heap.size w w3 ∧ w3.heap[h]? = some (.cells #[.string s, .int .i64 i] 64 (0, 0))) := ⟨hI, hB, hd⟩
          have d0 : w3.cell? ⟨h, 0, none⟩ = some (.string s) := (blk_cell hd 0).trans rfl
          have d1 : w3.cell? ⟨h, 1, none⟩ = some (.int .i64 i) := (blk_cell hd 1).trans rfl
          have d4 : w3.cell? (ad.add (k * 2)) = some (.int .i64 q) := keep_cell hk3 hc0 (Nat.ne_of_lt (Nat.lt_of_lt_of_le hw0 HA.out.1.2))
          have d5 : w3.cell? ⟨(ad.add (k * 2)).block, (ad.add (k * 2)).off + 1, none⟩ = some (.int .i64 m) := keep_cell hk3 hc1 (Nat.ne_of_lt (Nat.lt_of_lt_of_le hw0 HA.out.1.2))
          clear hI hB hd hk3 hc0 hc1
          go_wp2_with fail
          refine (cisternref02_ReadInt.calls 20 s i _ _ _ _ _ f2).mono ?_
          rintro _ w4 ⟨rfl, hb⟩
          have H4 : Aside0 (IsS90 w w4 g s i' ∧ Below w.heap.size w w4 ∧ w4.heap[h]? = some (.cells #[.string s, .int .i64 i] 64 (0, 0))) := ⟨H3.out.1.below hb, below_step H3.out.2.1 hb, (hb.block h (blk_lt H3.out.2.2)).trans H3.out.2.2⟩
          clear hb H3 d0 d1 d4 d5 f1 f2
          obtain ⟨m0, m1, m2, m3, HA'⟩ := next_facts HA.out.2.2.1 H4.out.1 H4.out.2.1 H4.out.2.2 l0 l1
          clear H4 HA
          go_wp2_with fail
          go_meet
          case rel => exact ⟨rfl, i', HA'⟩
      case rest =>
        obtain ⟨rfl, i', HA'⟩ := hcut
        have q3 : IntKind.i64.wrap ((s.size : Int) - i') = (s.size : Int) - i' := by rw [i64_w]; exact w64 (by have := HA'.out.2.2.2.2; omega) (by have := HA'.out.2.2.2.2; omega)
        have m1 := (blk_two HA'.out.2.1).2.1
        go_wp2_with fail
        go_region_held3 (fun w' => w'.cell? ⟨h, 1, none⟩ = some (.int .i64 i') ∧ Aside0 (At w w' g h s i')) (first | exact ⟨m1, HA'⟩ | exact ⟨m1, ⟨HA'.out.drew⟩⟩ | exact ⟨m2, H6⟩ | exact ⟨m3, H7⟩)
          (first
          | (go_at_call 31; refine (c_At (by first | exact HA'.out | exact HA'.out.drew)).mono ?_; rintro _ w6 ⟨rfl, H6⟩; have m2 := (blk_two H6.out.2.1).2.1)
          | (go_at_call 32; refine (c_Left hs (by first | exact H6.out | exact H6.out.drew)).mono ?_; rintro _ w7 ⟨rfl, H7⟩; have m3 := (blk_two H7.out.2.1).2.1))
        go_wp2
        refine ⟨⟨k + 1, i', by rfl, by omega, H7⟩, ?_⟩
        have e1 : intOf (Value.int IntKind.i64 ((k : Int) + 1)) = (k : Int) + 1 := rfl
        have e2 : intOf (Value.int IntKind.i64 (k : Int)) = (k : Int) := rfl
        rw [e1, e2]
        go_light
        omega
    · have q1 : decide ((k : Int) < (cs.length : Int)) = false := decide_eq_false (by omega)
      go_wp2_with fail
      go_ret
      exact ⟨rfl, HA.out.2.2.2.1⟩
end Go.Proofs.YtlhinklnnjbmpaaDoor.Rd
