-- Written by gprint.py, a program of this session (over the kit's print); Lean checks it.
import Derived.Test.YtlhinklnnjbmpaaDoorGAx0
import Derived.Test.YtlhinklnnjbmpaaDoorGAx1
import Derived.Test.YtlhinklnnjbmpaaDoorGAx5
namespace Go.Proofs.YtlhinklnnjbmpaaDoor.GA
open Go.RowKit Go.Proofs.YtlhinklnnjbmpaaDoorW.PrintWords Go.Proofs.YtlhinklnnjbmpaaDoorW.PrintLast Go.Proofs.YtlhinklnnjbmpaaDoorW.PrintMore
attribute [local go_sem] max2_int min2_int max_two min_two max_three min_three max_four min_four   -- for this text's walks alone
set_option linter.unusedVariables false
set_option linter.unusedSimpArgs false

/-! ### cisternref02_Len: function 23 -/
def cisternref02_Len.j0 : Nat → ByteArray → Int → Option (Int × Int × Int × Int)
  | 0, _, _ => none
  | k + 1, x0, x7 => if (x0.size : Int) < x7 then (some (0, 0, 0, 20)) else (if x7 = 2 then (if 0 ≤ 2 then (if 2 ≤ (x0.size : Int) then ((cisternref02_value.f k (x0.extract 0 2)).bind fun t157 => ((cisternref02_PutLen.f k (wrap64 (t157 - 16384))).bind fun bt158 => (if bt158.2 = 0 then (if 0 ≤ x7 then (if x7 ≤ (x0.size : Int) then (if bt158.1.toList = (x0.extract 0 (x7 : Int).toNat).toList then (some (wrap64 (t157 - 16384), x7, 0, 0)) else (some (0, 0, 0, 21))) else (none)) else (none)) else (some (0, 0, 0, 21))))) else (none)) else (none)) else (if 1 ≤ x7 then (if x7 ≤ (x0.size : Int) then ((cisternref02_value.f k (x0.extract 1 (x7 : Int).toNat)).bind fun t160 => ((cisternref02_PutLen.f k t160).bind fun bt161 => (if bt161.2 = 0 then (if 0 ≤ x7 then (if bt161.1.toList = (x0.extract 0 (x7 : Int).toNat).toList then (some (t160, x7, 0, 0)) else (some (0, 0, 0, 21))) else (none)) else (some (0, 0, 0, 21))))) else (none)) else (none)))
def cisternref02_Len.f (k : Nat) (a0 : ByteArray) : Option (Int × Int × Int × Int) := if a0.toList = ([] : List UInt8) then (some (0, 0, 0, 20)) else (if 0 < (a0.size : Int) then (if (wrap64 (bt a0 0)) < 64 then (some (wrap64 (bt a0 0), 1, 0, 0)) else (if (wrap64 (bt a0 0)) < 128 then (cisternref02_Len.j0 k a0 2) else (if (wrap64 (bt a0 0)) = 128 then (cisternref02_Len.j0 k a0 5) else (if (wrap64 (bt a0 0)) = 129 then (cisternref02_Len.j0 k a0 9) else (if (wrap64 (bt a0 0)) ≥ 192 then (if (wrap64 (bt a0 0)) ≤ 195 then (some (0, 1, wrap64 ((wrap64 (bt a0 0)) - 191), 0)) else (some (0, 0, 0, 21))) else (some (0, 0, 0, 21))))))) else (none))
theorem cisternref02_Len.mono_l : ∀ k, (∀ y0 y1, LeO (cisternref02_Len.j0 k y0 y1) (cisternref02_Len.j0 (k + 1) y0 y1))
  | 0 => fun _ _ r h => by simp [cisternref02_Len.j0] at h
  | k + 1 => by
    have ih0 := cisternref02_Len.mono_l k
    · intro y0 y1
      unfold cisternref02_Len.j0
      repeat' first
      | (with_reducible exact ih0 _ _)
      | (with_reducible exact cisternref02_PutLen.mono _ _)
      | (with_reducible exact cisternref02_value.mono _ _)
      | (with_reducible exact LeO.refl _)
      | (with_reducible exact LeO.none _)
      | (with_reducible refine LeO.ite ?_ ?_)
      | (with_reducible refine LeO.bind ?_ (fun _ => ?_))
      | exact ih0 _ _
      | exact cisternref02_PutLen.mono _ _
      | exact cisternref02_value.mono _ _
      | exact LeO.none _
      | refine LeO.ite ?_ ?_
      | refine LeO.bind ?_ (fun _ => ?_)
theorem cisternref02_Len.mono : ∀ a0 k, LeO (cisternref02_Len.f k a0) (cisternref02_Len.f (k + 1) a0) := by
  intro a0 k
  have ih0 := cisternref02_Len.mono_l k
  unfold cisternref02_Len.f
  repeat' first
      | (with_reducible exact ih0 _ _)
      | (with_reducible exact cisternref02_PutLen.mono _ _)
      | (with_reducible exact cisternref02_value.mono _ _)
      | (with_reducible exact LeO.refl _)
      | (with_reducible exact LeO.none _)
      | (with_reducible refine LeO.ite ?_ ?_)
      | (with_reducible refine LeO.bind ?_ (fun _ => ?_))
      | exact ih0 _ _
      | exact cisternref02_PutLen.mono _ _
      | exact cisternref02_value.mono _ _
      | exact LeO.none _
      | refine LeO.ite ?_ ?_
      | refine LeO.bind ?_ (fun _ => ?_)
set_option maxHeartbeats 8000000 in
set_option maxRecDepth 100000 in
theorem cisternref02_Len.calls (k : Nat) (a0 : ByteArray) (r1 : Int) (r2 : Int) (r3 : Int) (r4 : Int) (w : World) (h : cisternref02_Len.f k a0 = some (r1, r2, r3, r4)) :
    Calls Tryd.prog 23 #[.string a0] w fun e w' => e = .returned (.tuple #[.int .i64 r1, .int .i64 r2, .int .i64 r3, .int .i64 r4]) ∧ Below w.heap.size w w' := by
  have HB := Aside0.mk (Below.refl w.heap.size w)
  have H : (if a0.toList = ([] : List UInt8) then (some (0, 0, 0, 20)) else (if 0 < (a0.size : Int) then (if (wrap64 (bt a0 0)) < 64 then (some (wrap64 (bt a0 0), 1, 0, 0)) else (if (wrap64 (bt a0 0)) < 128 then (cisternref02_Len.j0 k a0 2) else (if (wrap64 (bt a0 0)) = 128 then (cisternref02_Len.j0 k a0 5) else (if (wrap64 (bt a0 0)) = 129 then (cisternref02_Len.j0 k a0 9) else (if (wrap64 (bt a0 0)) ≥ 192 then (if (wrap64 (bt a0 0)) ≤ 195 then (some (0, 1, wrap64 ((wrap64 (bt a0 0)) - 191), 0)) else (some (0, 0, 0, 21))) else (some (0, 0, 0, 21))))))) else (none))) = some (r1, r2, r3, r4) := h
  clear h
  by_cases c2 : a0.toList = ([] : List UInt8)
  · rw [if_pos c2] at H
    have c2b0 : (a0.toList == ([] : List UInt8)) = true := beq_iff_eq.mpr c2
    have c2b1 : (a0.toList != ([] : List UInt8)) = false := bne_eq_false_iff_eq.mpr c2
    clear c2
    simp only [Option.some.injEq, Prod.mk.injEq] at H
    obtain ⟨rfl, rfl, rfl, rfl⟩ := H
    go_enter Tryd.func23, Tryd.ntmps23
    go_wp2
    refine bodyPost_ret (results_list (rs := [.tmp 2, .tmp 3, .tmp 4, .tmp 5]) rfl (by simp) (.tmp (.tmp (.tmp (.tmp .nil))))) rfl ?_
    exact ⟨by first | rfl | (simp [errW_none, errW_some] <;> rfl) | (simp [*, errW_none, errW_some] <;> rfl), by repeat (first | (with_reducible first | exact HB.out | apply below_alloc | apply pw_below_drewN | apply below_drew1) | exact HB.out)⟩
  · rw [if_neg c2] at H
    have c2b0 : (a0.toList == ([] : List UInt8)) = false := beq_eq_false_iff_ne.mpr c2
    have c2b1 : (a0.toList != ([] : List UInt8)) = true := bne_iff_ne.mpr c2
    by_cases c3 : 0 < (a0.size : Int)
    · rw [if_pos c3] at H
      have c3b0 : decide (0 < (a0.size : Int)) = true := decide_eq_true c3
      have c3b1 : decide (0 < a0.size) = true := decide_eq_true (by omega)
      clear c3
      have HC5 := Aside0.mk H
      clear H
      have p4 : 0 ≤ (0 : Int) := (by omega)
      have q4 : 0 < a0.size := (by have : (0 : Int) < (a0.size : Int) := of_decide_eq_true (by first | (with_reducible assumption) | assumption); omega)
      have hx4 : ∀ h : 0 < a0.size, ((a0[0]'h).toNat : Int) = bt a0 0 := bt_at a0 0
      clear p4
      have qi4 : (0 < (a0.size : Int)) = True := eq_true (of_decide_eq_true (by first | (with_reducible assumption) | assumption))
      replace q4 := eq_true q4
      go_enter Tryd.func23, Tryd.ntmps23
      go_upto_block 0 with (fail)
      go_cut [7] (fun v7 wc => ∃ (kq : Nat) (x7_4 : Int), v7 = .int .i64 x7_4 ∧ Aside0 (cisternref02_Len.j0 kq a0 x7_4 = some (r1, r2, r3, r4)) ∧ Aside0 (kq ≤ k) ∧ Aside0 (Below w.heap.size w wc))
      case first =>
        have H := HC5.out
        clear HC5
        by_cases c6 : (wrap64 (bt a0 0)) < 64
        · rw [if_pos c6] at H
          have c6b0 : decide ((wrap64 (bt a0 0)) < 64) = true := decide_eq_true c6
          clear c6
          (first | rw [c6b0] | (simp only [i64_w, i32_w]; rw [c6b0]) | skip)
          simp only [Option.some.injEq, Prod.mk.injEq] at H
          obtain ⟨rfl, rfl, rfl, rfl⟩ := H
          go_wp2
          refine bodyPost_ret (results_list (rs := [.tmp 2, .tmp 3, .tmp 4, .tmp 5]) rfl (by simp) (.tmp (.tmp (.tmp (.tmp .nil))))) rfl ?_
          exact ⟨by first | rfl | (simp [errW_none, errW_some] <;> rfl) | (simp [*, errW_none, errW_some] <;> rfl), by repeat (first | (with_reducible first | exact HB.out | apply below_alloc | apply pw_below_drewN | apply below_drew1) | exact HB.out)⟩
        · rw [if_neg c6] at H
          have c6b0 : decide ((wrap64 (bt a0 0)) < 64) = false := decide_eq_false c6
          clear c6
          (first | rw [c6b0] | (simp only [i64_w, i32_w]; rw [c6b0]) | skip)
          by_cases c7 : (wrap64 (bt a0 0)) < 128
          · rw [if_pos c7] at H
            have c7b0 : decide ((wrap64 (bt a0 0)) < 128) = true := decide_eq_true c7
            clear c7
            have H' := Aside0.mk H
            clear H
            go_wp2
            go_meet
            case rel => exact ⟨_, (2), (by first | rfl | (simp; done) | (simp [*]; done)), H', ⟨by first | omega | exact Nat.le_refl _⟩, ⟨by repeat (first | (with_reducible first | exact HB.out | apply below_alloc | apply pw_below_drewN | apply below_drew1) | exact HB.out)⟩⟩
          · rw [if_neg c7] at H
            have c7b0 : decide ((wrap64 (bt a0 0)) < 128) = false := decide_eq_false c7
            clear c7
            by_cases c8 : (wrap64 (bt a0 0)) = 128
            · rw [if_pos c8] at H
              have c8b0 : ((wrap64 (bt a0 0)) == 128) = true := beq_iff_eq.mpr c8
              have c8b1 : ((wrap64 (bt a0 0)) != 128) = false := bne_eq_false_iff_eq.mpr c8
              clear c8
              have H' := Aside0.mk H
              clear H
              go_wp2
              go_meet
              case rel => exact ⟨_, (5), (by first | rfl | (simp; done) | (simp [*]; done)), H', ⟨by first | omega | exact Nat.le_refl _⟩, ⟨by repeat (first | (with_reducible first | exact HB.out | apply below_alloc | apply pw_below_drewN | apply below_drew1) | exact HB.out)⟩⟩
            · rw [if_neg c8] at H
              have c8b0 : ((wrap64 (bt a0 0)) == 128) = false := beq_eq_false_iff_ne.mpr c8
              have c8b1 : ((wrap64 (bt a0 0)) != 128) = true := bne_iff_ne.mpr c8
              by_cases c9 : (wrap64 (bt a0 0)) = 129
              · rw [if_pos c9] at H
                have c9b0 : ((wrap64 (bt a0 0)) == 129) = true := beq_iff_eq.mpr c9
                have c9b1 : ((wrap64 (bt a0 0)) != 129) = false := bne_eq_false_iff_eq.mpr c9
                clear c9
                have H' := Aside0.mk H
                clear H
                go_wp2
                go_meet
                case rel => exact ⟨_, (9), (by first | rfl | (simp; done) | (simp [*]; done)), H', ⟨by first | omega | exact Nat.le_refl _⟩, ⟨by repeat (first | (with_reducible first | exact HB.out | apply below_alloc | apply pw_below_drewN | apply below_drew1) | exact HB.out)⟩⟩
              · rw [if_neg c9] at H
                have c9b0 : ((wrap64 (bt a0 0)) == 129) = false := beq_eq_false_iff_ne.mpr c9
                have c9b1 : ((wrap64 (bt a0 0)) != 129) = true := bne_iff_ne.mpr c9
                by_cases c10 : (wrap64 (bt a0 0)) ≥ 192
                · rw [if_pos c10] at H
                  have c10b0 : decide (192 ≤ (wrap64 (bt a0 0))) = true := decide_eq_true c10
                  clear c10
                  by_cases c11 : (wrap64 (bt a0 0)) ≤ 195
                  · rw [if_pos c11] at H
                    have c11b0 : decide ((wrap64 (bt a0 0)) ≤ 195) = true := decide_eq_true c11
                    clear c11
                    simp only [Option.some.injEq, Prod.mk.injEq] at H
                    obtain ⟨rfl, rfl, rfl, rfl⟩ := H
                    go_wp2
                    refine bodyPost_ret (results_list (rs := [.tmp 2, .tmp 3, .tmp 4, .tmp 5]) rfl (by simp) (.tmp (.tmp (.tmp (.tmp .nil))))) rfl ?_
                    exact ⟨by first | rfl | (simp [errW_none, errW_some] <;> rfl) | (simp [*, errW_none, errW_some] <;> rfl), by repeat (first | (with_reducible first | exact HB.out | apply below_alloc | apply pw_below_drewN | apply below_drew1) | exact HB.out)⟩
                  · rw [if_neg c11] at H
                    have c11b0 : decide ((wrap64 (bt a0 0)) ≤ 195) = false := decide_eq_false c11
                    clear c11
                    simp only [Option.some.injEq, Prod.mk.injEq] at H
                    obtain ⟨rfl, rfl, rfl, rfl⟩ := H
                    go_wp2
                    refine bodyPost_ret (results_list (rs := [.tmp 2, .tmp 3, .tmp 4, .tmp 5]) rfl (by simp) (.tmp (.tmp (.tmp (.tmp .nil))))) rfl ?_
                    exact ⟨by first | rfl | (simp [errW_none, errW_some] <;> rfl) | (simp [*, errW_none, errW_some] <;> rfl), by repeat (first | (with_reducible first | exact HB.out | apply below_alloc | apply pw_below_drewN | apply below_drew1) | exact HB.out)⟩
                · rw [if_neg c10] at H
                  have c10b0 : decide (192 ≤ (wrap64 (bt a0 0))) = false := decide_eq_false c10
                  clear c10
                  simp only [Option.some.injEq, Prod.mk.injEq] at H
                  obtain ⟨rfl, rfl, rfl, rfl⟩ := H
                  go_wp2
                  refine bodyPost_ret (results_list (rs := [.tmp 2, .tmp 3, .tmp 4, .tmp 5]) rfl (by simp) (.tmp (.tmp (.tmp (.tmp .nil))))) rfl ?_
                  exact ⟨by first | rfl | (simp [errW_none, errW_some] <;> rfl) | (simp [*, errW_none, errW_some] <;> rfl), by repeat (first | (with_reducible first | exact HB.out | apply below_alloc | apply pw_below_drewN | apply below_drew1) | exact HB.out)⟩
      case rest =>
        clear HC5
        try clear c1
        try clear c2
        try clear c2b0
        try clear c2b1
        try clear p2
        try clear c3
        try clear c3b0
        try clear c3b1
        try clear p4
        try clear q4
        try clear hx4
        try clear qi4
        try clear c6
        try clear c6b0
        try clear p6
        try clear c7
        try clear c7b0
        try clear c8
        try clear c8b0
        try clear c8b1
        try clear c9
        try clear c9b0
        try clear c9b1
        try clear c10
        try clear c10b0
        try clear c11
        try clear c11b0
        try clear p4
        try clear q4
        obtain ⟨kq, x7_4, rfl, HA, HJ4, HB⟩ := hcut
        cases kq with
        | zero => exact absurd HA.out (by simp [cisternref02_Len.j0])
        | succ kj4 =>
          have H := HA.out
          clear HA
          simp only [cisternref02_Len.j0] at H
          by_cases c12 : (a0.size : Int) < x7_4
          · rw [if_pos c12] at H
            have c12b0 : decide ((a0.size : Int) < x7_4) = true := decide_eq_true c12
            clear c12
            simp only [Option.some.injEq, Prod.mk.injEq] at H
            obtain ⟨rfl, rfl, rfl, rfl⟩ := H
            go_wp2
            refine bodyPost_ret (results_list (rs := [.tmp 2, .tmp 3, .tmp 4, .tmp 5]) rfl (by simp) (.tmp (.tmp (.tmp (.tmp .nil))))) rfl ?_
            exact ⟨by first | rfl | (simp [errW_none, errW_some] <;> rfl) | (simp [*, errW_none, errW_some] <;> rfl), by repeat (first | (with_reducible first | exact HB.out | apply below_alloc | apply pw_below_drewN | apply below_drew1) | exact HB.out)⟩
          · rw [if_neg c12] at H
            have c12b0 : decide ((a0.size : Int) < x7_4) = false := decide_eq_false c12
            clear c12
            by_cases c13 : x7_4 = 2
            · rw [if_pos c13] at H
              have c13b0 : (x7_4 == 2) = true := beq_iff_eq.mpr c13
              have c13b1 : (x7_4 != 2) = false := bne_eq_false_iff_eq.mpr c13
              clear c13
              by_cases c14 : 0 ≤ 2
              · rw [if_pos c14] at H
                have c14b0 := eq_true c14
                have c14b1 : decide (0 ≤ 2) = true := decide_eq_true c14
                clear c14
                by_cases c15 : 2 ≤ (a0.size : Int)
                · rw [if_pos c15] at H
                  have c15b0 := eq_true c15
                  have c15b1 : decide (2 ≤ (a0.size : Int)) = true := decide_eq_true c15
                  clear c15
                  replace H := Option.bind_eq_some_iff.mp H
                  obtain ⟨t157, A160, H⟩ := H
                  replace H : ((cisternref02_PutLen.f kj4 (wrap64 (t157 - 16384))).bind fun bt158 => (if bt158.2 = 0 then (if 0 ≤ x7_4 then (if x7_4 ≤ (a0.size : Int) then (if bt158.1.toList = (a0.extract 0 (x7_4 : Int).toNat).toList then (some (wrap64 (t157 - 16384), x7_4, 0, 0)) else (some (0, 0, 0, 21))) else (none)) else (none)) else (some (0, 0, 0, 21)))) = some (r1, r2, r3, r4) := H
                  have A16 := Aside0.mk A160
                  clear A160
                  replace H := Option.bind_eq_some_iff.mp H
                  obtain ⟨⟨t158, t159⟩, A170, H⟩ := H
                  replace H : (if t159 = 0 then (if 0 ≤ x7_4 then (if x7_4 ≤ (a0.size : Int) then (if t158.toList = (a0.extract 0 (x7_4 : Int).toNat).toList then (some (wrap64 (t157 - 16384), x7_4, 0, 0)) else (some (0, 0, 0, 21))) else (none)) else (none)) else (some (0, 0, 0, 21))) = some (r1, r2, r3, r4) := H
                  have A17 := Aside0.mk A170
                  clear A170
                  by_cases c18 : t159 = 0
                  · rw [if_pos c18] at H
                    have c18b0 : (t159 == 0) = true := beq_iff_eq.mpr c18
                    have c18b1 : (t159 != 0) = false := bne_eq_false_iff_eq.mpr c18
                    clear c18
                    by_cases c19 : 0 ≤ x7_4
                    · rw [if_pos c19] at H
                      have c19b0 := eq_true c19
                      have c19b1 : decide (0 ≤ x7_4) = true := decide_eq_true c19
                      clear c19
                      by_cases c20 : x7_4 ≤ (a0.size : Int)
                      · rw [if_pos c20] at H
                        have c20b0 := eq_true c20
                        have c20b1 : decide (x7_4 ≤ (a0.size : Int)) = true := decide_eq_true c20
                        clear c20
                        by_cases c21 : t158.toList = (a0.extract 0 (x7_4 : Int).toNat).toList
                        · rw [if_pos c21] at H
                          have c21b0 : (t158.toList == (a0.extract 0 (x7_4 : Int).toNat).toList) = true := beq_iff_eq.mpr c21
                          have c21b1 : (t158.toList != (a0.extract 0 (x7_4 : Int).toNat).toList) = false := bne_eq_false_iff_eq.mpr c21
                          clear c21
                          simp only [Option.some.injEq, Prod.mk.injEq] at H
                          obtain ⟨rfl, rfl, rfl, rfl⟩ := H
                          go_wp2_with (first | ((with_reducible refine gate_callee (f := 46) rfl ?_); refine goesL_ (some 46) rfl rfl Tryd.func46 (by kernel_rfl) rfl #[.string (a0.extract 0 2)] rfl (by (try simp only [List.map_toArray, List.map_cons, List.map_nil]); first | done | rfl | (simp only [List.length_drop, List.length_take]; rfl)) ?_; (with_reducible refine (cisternref02_value.calls kj4 (a0.extract 0 2) t157 _ A16.out).mono ?_); rintro e w' ⟨rfl, ⟨nd, rfl⟩⟩; refine ⟨_, rfl, ?_⟩) | ((with_reducible refine gate_callee (f := 11) rfl ?_); refine goesL_ (some 54) rfl rfl Tryd.func11 (by kernel_rfl) rfl #[.int .i64 (wrap64 (t157 - 16384))] rfl (by (try simp only [List.map_toArray, List.map_cons, List.map_nil]); first | done | rfl | (simp only [List.length_drop, List.length_take]; rfl)) ?_; (with_reducible refine (cisternref02_PutLen.calls kj4 (wrap64 (t157 - 16384)) t158 t159 _ A17.out).mono ?_); rintro e w22 ⟨rfl, hb⟩; refine ⟨_, rfl, ?_⟩; have n0_ := Aside0.mk (below_step (by repeat (first | (with_reducible first | exact HB.out | apply below_alloc | apply pw_below_drewN | apply below_drew1) | exact HB.out)) hb); clear HB; have HB := n0_; clear n0_; (try clear hb); (try clear hb2); (try clear hk); (try clear hi)))
                          refine bodyPost_ret (results_list (rs := [.tmp 2, .tmp 3, .tmp 4, .tmp 5]) rfl (by simp) (.tmp (.tmp (.tmp (.tmp .nil))))) rfl ?_
                          exact ⟨by first | rfl | (simp [errW_none, errW_some] <;> rfl) | (simp [*, errW_none, errW_some] <;> rfl), by repeat (first | (with_reducible first | exact HB.out | apply below_alloc | apply pw_below_drewN | apply below_drew1) | exact HB.out)⟩
                        · rw [if_neg c21] at H
                          have c21b0 : (t158.toList == (a0.extract 0 (x7_4 : Int).toNat).toList) = false := beq_eq_false_iff_ne.mpr c21
                          have c21b1 : (t158.toList != (a0.extract 0 (x7_4 : Int).toNat).toList) = true := bne_iff_ne.mpr c21
                          simp only [Option.some.injEq, Prod.mk.injEq] at H
                          obtain ⟨rfl, rfl, rfl, rfl⟩ := H
                          go_wp2_with (first | ((with_reducible refine gate_callee (f := 46) rfl ?_); refine goesL_ (some 46) rfl rfl Tryd.func46 (by kernel_rfl) rfl #[.string (a0.extract 0 2)] rfl (by (try simp only [List.map_toArray, List.map_cons, List.map_nil]); first | done | rfl | (simp only [List.length_drop, List.length_take]; rfl)) ?_; (with_reducible refine (cisternref02_value.calls kj4 (a0.extract 0 2) t157 _ A16.out).mono ?_); rintro e w' ⟨rfl, ⟨nd, rfl⟩⟩; refine ⟨_, rfl, ?_⟩) | ((with_reducible refine gate_callee (f := 11) rfl ?_); refine goesL_ (some 54) rfl rfl Tryd.func11 (by kernel_rfl) rfl #[.int .i64 (wrap64 (t157 - 16384))] rfl (by (try simp only [List.map_toArray, List.map_cons, List.map_nil]); first | done | rfl | (simp only [List.length_drop, List.length_take]; rfl)) ?_; (with_reducible refine (cisternref02_PutLen.calls kj4 (wrap64 (t157 - 16384)) t158 t159 _ A17.out).mono ?_); rintro e w23 ⟨rfl, hb⟩; refine ⟨_, rfl, ?_⟩; have n0_ := Aside0.mk (below_step (by repeat (first | (with_reducible first | exact HB.out | apply below_alloc | apply pw_below_drewN | apply below_drew1) | exact HB.out)) hb); clear HB; have HB := n0_; clear n0_; (try clear hb); (try clear hb2); (try clear hk); (try clear hi)))
                          refine bodyPost_ret (results_list (rs := [.tmp 2, .tmp 3, .tmp 4, .tmp 5]) rfl (by simp) (.tmp (.tmp (.tmp (.tmp .nil))))) rfl ?_
                          exact ⟨by first | rfl | (simp [errW_none, errW_some] <;> rfl) | (simp [*, errW_none, errW_some] <;> rfl), by repeat (first | (with_reducible first | exact HB.out | apply below_alloc | apply pw_below_drewN | apply below_drew1) | exact HB.out)⟩
                      · rw [if_neg c20] at H
                        exact absurd H (by simp)
                    · rw [if_neg c19] at H
                      exact absurd H (by simp)
                  · rw [if_neg c18] at H
                    have c18b0 : (t159 == 0) = false := beq_eq_false_iff_ne.mpr c18
                    have c18b1 : (t159 != 0) = true := bne_iff_ne.mpr c18
                    simp only [Option.some.injEq, Prod.mk.injEq] at H
                    obtain ⟨rfl, rfl, rfl, rfl⟩ := H
                    go_wp2_with (first | ((with_reducible refine gate_callee (f := 46) rfl ?_); refine goesL_ (some 46) rfl rfl Tryd.func46 (by kernel_rfl) rfl #[.string (a0.extract 0 2)] rfl (by (try simp only [List.map_toArray, List.map_cons, List.map_nil]); first | done | rfl | (simp only [List.length_drop, List.length_take]; rfl)) ?_; (with_reducible refine (cisternref02_value.calls kj4 (a0.extract 0 2) t157 _ A16.out).mono ?_); rintro e w' ⟨rfl, ⟨nd, rfl⟩⟩; refine ⟨_, rfl, ?_⟩) | ((with_reducible refine gate_callee (f := 11) rfl ?_); refine goesL_ (some 54) rfl rfl Tryd.func11 (by kernel_rfl) rfl #[.int .i64 (wrap64 (t157 - 16384))] rfl (by (try simp only [List.map_toArray, List.map_cons, List.map_nil]); first | done | rfl | (simp only [List.length_drop, List.length_take]; rfl)) ?_; (with_reducible refine (cisternref02_PutLen.calls kj4 (wrap64 (t157 - 16384)) t158 t159 _ A17.out).mono ?_); rintro e w24 ⟨rfl, hb⟩; refine ⟨_, rfl, ?_⟩; have n0_ := Aside0.mk (below_step (by repeat (first | (with_reducible first | exact HB.out | apply below_alloc | apply pw_below_drewN | apply below_drew1) | exact HB.out)) hb); clear HB; have HB := n0_; clear n0_; (try clear hb); (try clear hb2); (try clear hk); (try clear hi)))
                    refine bodyPost_ret (results_list (rs := [.tmp 2, .tmp 3, .tmp 4, .tmp 5]) rfl (by simp) (.tmp (.tmp (.tmp (.tmp .nil))))) rfl ?_
                    exact ⟨by first | rfl | (simp [errW_none, errW_some] <;> rfl) | (simp [*, errW_none, errW_some] <;> rfl), by repeat (first | (with_reducible first | exact HB.out | apply below_alloc | apply pw_below_drewN | apply below_drew1) | exact HB.out)⟩
                · rw [if_neg c15] at H
                  exact absurd H (by simp)
              · rw [if_neg c14] at H
                exact absurd H (by simp)
            · rw [if_neg c13] at H
              have c13b0 : (x7_4 == 2) = false := beq_eq_false_iff_ne.mpr c13
              have c13b1 : (x7_4 != 2) = true := bne_iff_ne.mpr c13
              by_cases c25 : 1 ≤ x7_4
              · rw [if_pos c25] at H
                have c25b0 := eq_true c25
                have c25b1 : decide (1 ≤ x7_4) = true := decide_eq_true c25
                clear c25
                by_cases c26 : x7_4 ≤ (a0.size : Int)
                · rw [if_pos c26] at H
                  have c26b0 := eq_true c26
                  have c26b1 : decide (x7_4 ≤ (a0.size : Int)) = true := decide_eq_true c26
                  clear c26
                  replace H := Option.bind_eq_some_iff.mp H
                  obtain ⟨t160, A270, H⟩ := H
                  replace H : ((cisternref02_PutLen.f kj4 t160).bind fun bt161 => (if bt161.2 = 0 then (if 0 ≤ x7_4 then (if bt161.1.toList = (a0.extract 0 (x7_4 : Int).toNat).toList then (some (t160, x7_4, 0, 0)) else (some (0, 0, 0, 21))) else (none)) else (some (0, 0, 0, 21)))) = some (r1, r2, r3, r4) := H
                  have A27 := Aside0.mk A270
                  clear A270
                  replace H := Option.bind_eq_some_iff.mp H
                  obtain ⟨⟨t161, t162⟩, A280, H⟩ := H
                  replace H : (if t162 = 0 then (if 0 ≤ x7_4 then (if t161.toList = (a0.extract 0 (x7_4 : Int).toNat).toList then (some (t160, x7_4, 0, 0)) else (some (0, 0, 0, 21))) else (none)) else (some (0, 0, 0, 21))) = some (r1, r2, r3, r4) := H
                  have A28 := Aside0.mk A280
                  clear A280
                  by_cases c29 : t162 = 0
                  · rw [if_pos c29] at H
                    have c29b0 : (t162 == 0) = true := beq_iff_eq.mpr c29
                    have c29b1 : (t162 != 0) = false := bne_eq_false_iff_eq.mpr c29
                    clear c29
                    by_cases c30 : 0 ≤ x7_4
                    · rw [if_pos c30] at H
                      have c30b0 := eq_true c30
                      have c30b1 : decide (0 ≤ x7_4) = true := decide_eq_true c30
                      clear c30
                      have c31b0 := eq_true (of_decide_eq_true (by first | (with_reducible assumption) | assumption) : x7_4 ≤ (a0.size : Int))
                      by_cases c32 : t161.toList = (a0.extract 0 (x7_4 : Int).toNat).toList
                      · rw [if_pos c32] at H
                        have c32b0 : (t161.toList == (a0.extract 0 (x7_4 : Int).toNat).toList) = true := beq_iff_eq.mpr c32
                        have c32b1 : (t161.toList != (a0.extract 0 (x7_4 : Int).toNat).toList) = false := bne_eq_false_iff_eq.mpr c32
                        clear c32
                        simp only [Option.some.injEq, Prod.mk.injEq] at H
                        obtain ⟨rfl, rfl, rfl, rfl⟩ := H
                        go_wp2_with (first | ((with_reducible refine gate_callee (f := 46) rfl ?_); refine goesL_ (some 51) rfl rfl Tryd.func46 (by kernel_rfl) rfl #[.string (a0.extract 1 (x7_4 : Int).toNat)] rfl (by (try simp only [List.map_toArray, List.map_cons, List.map_nil]); first | done | rfl | (simp only [List.length_drop, List.length_take]; rfl)) ?_; (with_reducible refine (cisternref02_value.calls kj4 (a0.extract 1 (x7_4 : Int).toNat) t160 _ A27.out).mono ?_); rintro e w' ⟨rfl, ⟨nd, rfl⟩⟩; refine ⟨_, rfl, ?_⟩) | ((with_reducible refine gate_callee (f := 11) rfl ?_); refine goesL_ (some 54) rfl rfl Tryd.func11 (by kernel_rfl) rfl #[.int .i64 t160] rfl (by (try simp only [List.map_toArray, List.map_cons, List.map_nil]); first | done | rfl | (simp only [List.length_drop, List.length_take]; rfl)) ?_; (with_reducible refine (cisternref02_PutLen.calls kj4 t160 t161 t162 _ A28.out).mono ?_); rintro e w33 ⟨rfl, hb⟩; refine ⟨_, rfl, ?_⟩; have n0_ := Aside0.mk (below_step (by repeat (first | (with_reducible first | exact HB.out | apply below_alloc | apply pw_below_drewN | apply below_drew1) | exact HB.out)) hb); clear HB; have HB := n0_; clear n0_; (try clear hb); (try clear hb2); (try clear hk); (try clear hi)))
                        refine bodyPost_ret (results_list (rs := [.tmp 2, .tmp 3, .tmp 4, .tmp 5]) rfl (by simp) (.tmp (.tmp (.tmp (.tmp .nil))))) rfl ?_
                        exact ⟨by first | rfl | (simp [errW_none, errW_some] <;> rfl) | (simp [*, errW_none, errW_some] <;> rfl), by repeat (first | (with_reducible first | exact HB.out | apply below_alloc | apply pw_below_drewN | apply below_drew1) | exact HB.out)⟩
                      · rw [if_neg c32] at H
                        have c32b0 : (t161.toList == (a0.extract 0 (x7_4 : Int).toNat).toList) = false := beq_eq_false_iff_ne.mpr c32
                        have c32b1 : (t161.toList != (a0.extract 0 (x7_4 : Int).toNat).toList) = true := bne_iff_ne.mpr c32
                        simp only [Option.some.injEq, Prod.mk.injEq] at H
                        obtain ⟨rfl, rfl, rfl, rfl⟩ := H
                        go_wp2_with (first | ((with_reducible refine gate_callee (f := 46) rfl ?_); refine goesL_ (some 51) rfl rfl Tryd.func46 (by kernel_rfl) rfl #[.string (a0.extract 1 (x7_4 : Int).toNat)] rfl (by (try simp only [List.map_toArray, List.map_cons, List.map_nil]); first | done | rfl | (simp only [List.length_drop, List.length_take]; rfl)) ?_; (with_reducible refine (cisternref02_value.calls kj4 (a0.extract 1 (x7_4 : Int).toNat) t160 _ A27.out).mono ?_); rintro e w' ⟨rfl, ⟨nd, rfl⟩⟩; refine ⟨_, rfl, ?_⟩) | ((with_reducible refine gate_callee (f := 11) rfl ?_); refine goesL_ (some 54) rfl rfl Tryd.func11 (by kernel_rfl) rfl #[.int .i64 t160] rfl (by (try simp only [List.map_toArray, List.map_cons, List.map_nil]); first | done | rfl | (simp only [List.length_drop, List.length_take]; rfl)) ?_; (with_reducible refine (cisternref02_PutLen.calls kj4 t160 t161 t162 _ A28.out).mono ?_); rintro e w34 ⟨rfl, hb⟩; refine ⟨_, rfl, ?_⟩; have n0_ := Aside0.mk (below_step (by repeat (first | (with_reducible first | exact HB.out | apply below_alloc | apply pw_below_drewN | apply below_drew1) | exact HB.out)) hb); clear HB; have HB := n0_; clear n0_; (try clear hb); (try clear hb2); (try clear hk); (try clear hi)))
                        refine bodyPost_ret (results_list (rs := [.tmp 2, .tmp 3, .tmp 4, .tmp 5]) rfl (by simp) (.tmp (.tmp (.tmp (.tmp .nil))))) rfl ?_
                        exact ⟨by first | rfl | (simp [errW_none, errW_some] <;> rfl) | (simp [*, errW_none, errW_some] <;> rfl), by repeat (first | (with_reducible first | exact HB.out | apply below_alloc | apply pw_below_drewN | apply below_drew1) | exact HB.out)⟩
                    · rw [if_neg c30] at H
                      exact absurd H (by simp)
                  · rw [if_neg c29] at H
                    have c29b0 : (t162 == 0) = false := beq_eq_false_iff_ne.mpr c29
                    have c29b1 : (t162 != 0) = true := bne_iff_ne.mpr c29
                    simp only [Option.some.injEq, Prod.mk.injEq] at H
                    obtain ⟨rfl, rfl, rfl, rfl⟩ := H
                    go_wp2_with (first | ((with_reducible refine gate_callee (f := 46) rfl ?_); refine goesL_ (some 51) rfl rfl Tryd.func46 (by kernel_rfl) rfl #[.string (a0.extract 1 (x7_4 : Int).toNat)] rfl (by (try simp only [List.map_toArray, List.map_cons, List.map_nil]); first | done | rfl | (simp only [List.length_drop, List.length_take]; rfl)) ?_; (with_reducible refine (cisternref02_value.calls kj4 (a0.extract 1 (x7_4 : Int).toNat) t160 _ A27.out).mono ?_); rintro e w' ⟨rfl, ⟨nd, rfl⟩⟩; refine ⟨_, rfl, ?_⟩) | ((with_reducible refine gate_callee (f := 11) rfl ?_); refine goesL_ (some 54) rfl rfl Tryd.func11 (by kernel_rfl) rfl #[.int .i64 t160] rfl (by (try simp only [List.map_toArray, List.map_cons, List.map_nil]); first | done | rfl | (simp only [List.length_drop, List.length_take]; rfl)) ?_; (with_reducible refine (cisternref02_PutLen.calls kj4 t160 t161 t162 _ A28.out).mono ?_); rintro e w35 ⟨rfl, hb⟩; refine ⟨_, rfl, ?_⟩; have n0_ := Aside0.mk (below_step (by repeat (first | (with_reducible first | exact HB.out | apply below_alloc | apply pw_below_drewN | apply below_drew1) | exact HB.out)) hb); clear HB; have HB := n0_; clear n0_; (try clear hb); (try clear hb2); (try clear hk); (try clear hi)))
                    refine bodyPost_ret (results_list (rs := [.tmp 2, .tmp 3, .tmp 4, .tmp 5]) rfl (by simp) (.tmp (.tmp (.tmp (.tmp .nil))))) rfl ?_
                    exact ⟨by first | rfl | (simp [errW_none, errW_some] <;> rfl) | (simp [*, errW_none, errW_some] <;> rfl), by repeat (first | (with_reducible first | exact HB.out | apply below_alloc | apply pw_below_drewN | apply below_drew1) | exact HB.out)⟩
                · rw [if_neg c26] at H
                  exact absurd H (by simp)
              · rw [if_neg c25] at H
                exact absurd H (by simp)
    · rw [if_neg c3] at H
      exact absurd H (by simp)

end Go.Proofs.YtlhinklnnjbmpaaDoor.GA
