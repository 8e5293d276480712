-- Written by gprint.py, a program of this session (over the kit's print); Lean checks it.
import Derived.Test.YtlhinklnnjbmpaaDoorGAx0
import Derived.Test.YtlhinklnnjbmpaaDoorGAx2
namespace Go.Proofs.YtlhinklnnjbmpaaDoor.GA
open Go.RowKit Go.Proofs.YtlhinklnnjbmpaaDoorW.PrintWords Go.Proofs.YtlhinklnnjbmpaaDoorW.PrintLast Go.Proofs.YtlhinklnnjbmpaaDoorW.PrintMore
attribute [local go_sem] max2_int min2_int max_two min_two max_three min_three max_four min_four   -- for this text's walks alone
set_option linter.unusedVariables false
set_option linter.unusedSimpArgs false

/-! ### varint_Len: function 22 -/
mutual
def varint_Len.j0 : Nat → ByteArray → Int → Bool → Option (Int × Int × Int × Int)
  | 0, _, _, _ => none
  | k + 1, x0, x6, x44 => if x44 = true then ((varint_short.f x0).bind fun t120 => (some (0, 0, 0, t120))) else (if x6 = 128 then (if 1 ≤ 5 then (if 5 ≤ (x0.size : Int) then ((varint_read.f k (x0.extract 1 5)).bind fun t121 => (if (wrap64 (t121)) ≥ 16384 then (some (wrap64 (t121), 5, 0, 0)) else (some (0, 0, 0, 21)))) else (none)) else (none)) else (if x6 = 129 then (varint_Len.j1 k x0 x6 (decide ((x0.size : Int) < 9))) else (varint_Len.j1 k x0 x6 false)))
def varint_Len.j1 : Nat → ByteArray → Int → Bool → Option (Int × Int × Int × Int)
  | 0, _, _, _ => none
  | k + 1, x0, x6, x64 => if x64 = true then ((varint_short.f x0).bind fun t122 => (some (0, 0, 0, t122))) else (if x6 = 129 then (if 1 ≤ 9 then (if 9 ≤ (x0.size : Int) then ((varint_read.f k (x0.extract 1 9)).bind fun t123 => (if t123 ≥ 4294967296 then (if t123 ≤ 4611686018427387904 then (some (wrap64 (t123), 9, 0, 0)) else (some (0, 0, 0, 21))) else (some (0, 0, 0, 21)))) else (none)) else (none)) else (some (0, 0, 0, 21)))
end
def varint_Len.f (k : Nat) (a0 : ByteArray) : Option (Int × Int × Int × Int) := if a0.toList = ([] : List UInt8) then (some (0, 0, 0, 20)) else (if 0 < (a0.size : Int) then (if ((wrap64 (bt a0 0)) / 64) = 0 then (some (wrap64 (bt a0 0), 1, 0, 0)) else (if ((wrap64 (bt a0 0)) / 64) = 1 then (if (a0.size : Int) < 2 then ((varint_short.f a0).bind fun t119 => (some (0, 0, 0, t119))) else (if 1 < (a0.size : Int) then (if (Go.bits .or .i64 (wrap64 ((Go.bits .and .i64 (wrap64 (bt a0 0)) 63) * 256)) (wrap64 (bt a0 1))) ≥ 64 then (some (Go.bits .or .i64 (wrap64 ((Go.bits .and .i64 (wrap64 (bt a0 0)) 63) * 256)) (wrap64 (bt a0 1)), 2, 0, 0)) else (some (0, 0, 0, 21))) else (none))) else (if ((wrap64 (bt a0 0)) / 64) = 3 then (if (wrap64 (bt a0 0)) ≤ 195 then (some (0, 1, wrap64 ((wrap64 ((wrap64 (bt a0 0)) - 192)) + 1), 0)) else (some (0, 0, 0, 21))) else (if (wrap64 (bt a0 0)) = 128 then (varint_Len.j0 k a0 (wrap64 (bt a0 0)) (decide ((a0.size : Int) < 5))) else (varint_Len.j0 k a0 (wrap64 (bt a0 0)) false))))) else (none))
theorem varint_Len.mono_l : ∀ k, (∀ y0 y1 y2, LeO (varint_Len.j0 k y0 y1 y2) (varint_Len.j0 (k + 1) y0 y1 y2)) ∧ (∀ y0 y1 y2, LeO (varint_Len.j1 k y0 y1 y2) (varint_Len.j1 (k + 1) y0 y1 y2))
  | 0 => ⟨fun _ _ _ r h => by simp [varint_Len.j0] at h, fun _ _ _ r h => by simp [varint_Len.j1] at h⟩
  | k + 1 => by
    obtain ⟨ih0, ih1⟩ := varint_Len.mono_l k
    refine ⟨?_, ?_⟩
    · intro y0 y1 y2
      unfold varint_Len.j0
      repeat' first
      | (with_reducible exact ih0 _ _ _)
      | (with_reducible exact ih1 _ _ _)
      | (with_reducible exact varint_read.mono _ _)
      | (with_reducible exact LeO.refl _)
      | (with_reducible exact LeO.none _)
      | (with_reducible refine LeO.ite ?_ ?_)
      | (with_reducible refine LeO.bind ?_ (fun _ => ?_))
      | exact ih0 _ _ _
      | exact ih1 _ _ _
      | exact varint_read.mono _ _
      | exact LeO.none _
      | refine LeO.ite ?_ ?_
      | refine LeO.bind ?_ (fun _ => ?_)
    · intro y0 y1 y2
      unfold varint_Len.j1
      repeat' first
      | (with_reducible exact ih0 _ _ _)
      | (with_reducible exact ih1 _ _ _)
      | (with_reducible exact varint_read.mono _ _)
      | (with_reducible exact LeO.refl _)
      | (with_reducible exact LeO.none _)
      | (with_reducible refine LeO.ite ?_ ?_)
      | (with_reducible refine LeO.bind ?_ (fun _ => ?_))
      | exact ih0 _ _ _
      | exact ih1 _ _ _
      | exact varint_read.mono _ _
      | exact LeO.none _
      | refine LeO.ite ?_ ?_
      | refine LeO.bind ?_ (fun _ => ?_)
theorem varint_Len.mono : ∀ a0 k, LeO (varint_Len.f k a0) (varint_Len.f (k + 1) a0) := by
  intro a0 k
  obtain ⟨ih0, ih1⟩ := varint_Len.mono_l k
  unfold varint_Len.f
  repeat' first
      | (with_reducible exact ih0 _ _ _)
      | (with_reducible exact ih1 _ _ _)
      | (with_reducible exact varint_read.mono _ _)
      | (with_reducible exact LeO.refl _)
      | (with_reducible exact LeO.none _)
      | (with_reducible refine LeO.ite ?_ ?_)
      | (with_reducible refine LeO.bind ?_ (fun _ => ?_))
      | exact ih0 _ _ _
      | exact ih1 _ _ _
      | exact varint_read.mono _ _
      | exact LeO.none _
      | refine LeO.ite ?_ ?_
      | refine LeO.bind ?_ (fun _ => ?_)
set_option maxHeartbeats 8000000 in
set_option maxRecDepth 100000 in
theorem varint_Len.calls (k : Nat) (a0 : ByteArray) (r1 : Int) (r2 : Int) (r3 : Int) (r4 : Int) (w : World) (h : varint_Len.f k a0 = some (r1, r2, r3, r4)) :
    Calls Tryd.prog 22 #[.string a0] w fun e w' => e = .returned (.tuple #[.int .i64 r1, .int .i64 r2, .int .i64 r3, .int .i64 r4]) ∧ Drawn0 w w' := by
  have H : (if a0.toList = ([] : List UInt8) then (some (0, 0, 0, 20)) else (if 0 < (a0.size : Int) then (if ((wrap64 (bt a0 0)) / 64) = 0 then (some (wrap64 (bt a0 0), 1, 0, 0)) else (if ((wrap64 (bt a0 0)) / 64) = 1 then (if (a0.size : Int) < 2 then ((varint_short.f a0).bind fun t119 => (some (0, 0, 0, t119))) else (if 1 < (a0.size : Int) then (if (Go.bits .or .i64 (wrap64 ((Go.bits .and .i64 (wrap64 (bt a0 0)) 63) * 256)) (wrap64 (bt a0 1))) ≥ 64 then (some (Go.bits .or .i64 (wrap64 ((Go.bits .and .i64 (wrap64 (bt a0 0)) 63) * 256)) (wrap64 (bt a0 1)), 2, 0, 0)) else (some (0, 0, 0, 21))) else (none))) else (if ((wrap64 (bt a0 0)) / 64) = 3 then (if (wrap64 (bt a0 0)) ≤ 195 then (some (0, 1, wrap64 ((wrap64 ((wrap64 (bt a0 0)) - 192)) + 1), 0)) else (some (0, 0, 0, 21))) else (if (wrap64 (bt a0 0)) = 128 then (varint_Len.j0 k a0 (wrap64 (bt a0 0)) (decide ((a0.size : Int) < 5))) else (varint_Len.j0 k a0 (wrap64 (bt a0 0)) false))))) else (none))) = some (r1, r2, r3, r4) := h
  clear h
  by_cases c2 : a0.toList = ([] : List UInt8)
  · rw [if_pos c2] at H
    have c2b0 : (a0.toList == ([] : List UInt8)) = true := beq_iff_eq.mpr c2
    have c2b1 : (a0.toList != ([] : List UInt8)) = false := bne_eq_false_iff_eq.mpr c2
    clear c2
    simp only [Option.some.injEq, Prod.mk.injEq] at H
    obtain ⟨rfl, rfl, rfl, rfl⟩ := H
    go_enter Tryd.func22, Tryd.ntmps22
    go_wp2
    refine bodyPost_ret (results_list (rs := [.tmp 2, .tmp 3, .tmp 4, .tmp 5]) rfl (by simp) (.tmp (.tmp (.tmp (.tmp .nil))))) rfl ?_
    exact ⟨by first | rfl | (simp; done) | (simp [*]; done), by repeat (first | exact Drawn0.refl _ | apply Drawn0.step)⟩
  · rw [if_neg c2] at H
    have c2b0 : (a0.toList == ([] : List UInt8)) = false := beq_eq_false_iff_ne.mpr c2
    have c2b1 : (a0.toList != ([] : List UInt8)) = true := bne_iff_ne.mpr c2
    by_cases c3 : 0 < (a0.size : Int)
    · rw [if_pos c3] at H
      have c3b0 : decide (0 < (a0.size : Int)) = true := decide_eq_true c3
      have c3b1 : decide (0 < a0.size) = true := decide_eq_true (by omega)
      clear c3
      by_cases c5 : ((wrap64 (bt a0 0)) / 64) = 0
      · rw [if_pos c5] at H
        have c5b0 : (((wrap64 (bt a0 0)) / 64) == 0) = true := beq_iff_eq.mpr c5
        have c5b1 : (((wrap64 (bt a0 0)) / 64) != 0) = false := bne_eq_false_iff_eq.mpr c5
        clear c5
        simp only [Option.some.injEq, Prod.mk.injEq] at H
        obtain ⟨rfl, rfl, rfl, rfl⟩ := H
        have p4 : 0 ≤ (0 : Int) := (by omega)
        have q4 : 0 < a0.size := (by have : (0 : Int) < (a0.size : Int) := of_decide_eq_true (by first | (with_reducible assumption) | assumption); omega)
        have hx4 : ∀ h : 0 < a0.size, ((a0[0]'h).toNat : Int) = bt a0 0 := bt_at a0 0
        clear p4
        have qi4 : (0 < (a0.size : Int)) = True := eq_true (of_decide_eq_true (by first | (with_reducible assumption) | assumption))
        replace q4 := eq_true q4
        go_enter Tryd.func22, Tryd.ntmps22
        go_wp2
        refine bodyPost_ret (results_list (rs := [.tmp 2, .tmp 3, .tmp 4, .tmp 5]) rfl (by simp) (.tmp (.tmp (.tmp (.tmp .nil))))) rfl ?_
        exact ⟨by first | rfl | (simp; done) | (simp [*]; done), by repeat (first | exact Drawn0.refl _ | apply Drawn0.step)⟩
      · rw [if_neg c5] at H
        have c5b0 : (((wrap64 (bt a0 0)) / 64) == 0) = false := beq_eq_false_iff_ne.mpr c5
        have c5b1 : (((wrap64 (bt a0 0)) / 64) != 0) = true := bne_iff_ne.mpr c5
        by_cases c6 : ((wrap64 (bt a0 0)) / 64) = 1
        · rw [if_pos c6] at H
          have c6b0 : (((wrap64 (bt a0 0)) / 64) == 1) = true := beq_iff_eq.mpr c6
          have c6b1 : (((wrap64 (bt a0 0)) / 64) != 1) = false := bne_eq_false_iff_eq.mpr c6
          clear c6
          by_cases c7 : (a0.size : Int) < 2
          · rw [if_pos c7] at H
            have c7b0 : decide ((a0.size : Int) < 2) = true := decide_eq_true c7
            have c7b1 : decide (a0.size < 2) = true := decide_eq_true (by omega)
            clear c7
            replace H := Option.bind_eq_some_iff.mp H
            obtain ⟨t119, A80, H⟩ := H
            replace H : (some (0, 0, 0, t119)) = some (r1, r2, r3, r4) := H
            have A8 := Aside0.mk A80
            clear A80
            simp only [Option.some.injEq, Prod.mk.injEq] at H
            obtain ⟨rfl, rfl, rfl, rfl⟩ := H
            have p4 : 0 ≤ (0 : Int) := (by omega)
            have q4 : 0 < a0.size := (by have : (0 : Int) < (a0.size : Int) := of_decide_eq_true (by first | (with_reducible assumption) | assumption); omega)
            have hx4 : ∀ h : 0 < a0.size, ((a0[0]'h).toNat : Int) = bt a0 0 := bt_at a0 0
            clear p4
            have qi4 : (0 < (a0.size : Int)) = True := eq_true (of_decide_eq_true (by first | (with_reducible assumption) | assumption))
            replace q4 := eq_true q4
            go_enter Tryd.func22, Tryd.ntmps22
            go_wp2_with (first | ((with_reducible refine gate_callee (f := 44) rfl ?_); refine goesL_ (some 26) rfl rfl Tryd.func44 (by kernel_rfl) rfl #[.string a0] rfl (by (try simp only [List.map_toArray, List.map_cons, List.map_nil]); first | done | rfl | (simp only [List.length_drop, List.length_take]; rfl)) ?_; (with_reducible refine (varint_short.calls a0 t119 _ A8.out).mono ?_); rintro e w' ⟨rfl, ⟨nd, rfl⟩⟩; refine ⟨_, rfl, ?_⟩))
            refine bodyPost_ret (results_list (rs := [.tmp 2, .tmp 3, .tmp 4, .tmp 5]) rfl (by simp) (.tmp (.tmp (.tmp (.tmp .nil))))) rfl ?_
            exact ⟨by first | rfl | (simp; done) | (simp [*]; done), by repeat (first | exact Drawn0.refl _ | apply Drawn0.step)⟩
          · rw [if_neg c7] at H
            have c7b0 : decide ((a0.size : Int) < 2) = false := decide_eq_false c7
            have c7b1 : decide (a0.size < 2) = false := decide_eq_false (by omega)
            clear c7
            by_cases c9 : 1 < (a0.size : Int)
            · rw [if_pos c9] at H
              have c9b0 : decide (1 < (a0.size : Int)) = true := decide_eq_true c9
              have c9b1 : decide (1 < a0.size) = true := decide_eq_true (by omega)
              clear c9
              by_cases c11 : (Go.bits .or .i64 (wrap64 ((Go.bits .and .i64 (wrap64 (bt a0 0)) 63) * 256)) (wrap64 (bt a0 1))) ≥ 64
              · rw [if_pos c11] at H
                have c11b0 : decide (64 ≤ (Go.bits .or .i64 (wrap64 ((Go.bits .and .i64 (wrap64 (bt a0 0)) 63) * 256)) (wrap64 (bt a0 1)))) = true := decide_eq_true c11
                clear c11
                simp only [Option.some.injEq, Prod.mk.injEq] at H
                obtain ⟨rfl, rfl, rfl, rfl⟩ := H
                have p4 : 0 ≤ (0 : Int) := (by omega)
                have q4 : 0 < a0.size := (by have : (0 : Int) < (a0.size : Int) := of_decide_eq_true (by first | (with_reducible assumption) | assumption); omega)
                have hx4 : ∀ h : 0 < a0.size, ((a0[0]'h).toNat : Int) = bt a0 0 := bt_at a0 0
                clear p4
                have qi4 : (0 < (a0.size : Int)) = True := eq_true (of_decide_eq_true (by first | (with_reducible assumption) | assumption))
                replace q4 := eq_true q4
                have p10 : 0 ≤ (1 : Int) := (by omega)
                have q10 : 1 < a0.size := (by have : (1 : Int) < (a0.size : Int) := of_decide_eq_true (by first | (with_reducible assumption) | assumption); omega)
                have hx10 : ∀ h : 1 < a0.size, ((a0[1]'h).toNat : Int) = bt a0 1 := bt_at a0 1
                clear p10
                have qi10 : (1 < (a0.size : Int)) = True := eq_true (of_decide_eq_true (by first | (with_reducible assumption) | assumption))
                replace q10 := eq_true q10
                go_enter Tryd.func22, Tryd.ntmps22
                go_wp2
                refine bodyPost_ret (results_list (rs := [.tmp 2, .tmp 3, .tmp 4, .tmp 5]) rfl (by simp) (.tmp (.tmp (.tmp (.tmp .nil))))) rfl ?_
                exact ⟨by first | rfl | (simp; done) | (simp [*]; done), by repeat (first | exact Drawn0.refl _ | apply Drawn0.step)⟩
              · rw [if_neg c11] at H
                have c11b0 : decide (64 ≤ (Go.bits .or .i64 (wrap64 ((Go.bits .and .i64 (wrap64 (bt a0 0)) 63) * 256)) (wrap64 (bt a0 1)))) = false := decide_eq_false c11
                clear c11
                simp only [Option.some.injEq, Prod.mk.injEq] at H
                obtain ⟨rfl, rfl, rfl, rfl⟩ := H
                have p4 : 0 ≤ (0 : Int) := (by omega)
                have q4 : 0 < a0.size := (by have : (0 : Int) < (a0.size : Int) := of_decide_eq_true (by first | (with_reducible assumption) | assumption); omega)
                have hx4 : ∀ h : 0 < a0.size, ((a0[0]'h).toNat : Int) = bt a0 0 := bt_at a0 0
                clear p4
                have qi4 : (0 < (a0.size : Int)) = True := eq_true (of_decide_eq_true (by first | (with_reducible assumption) | assumption))
                replace q4 := eq_true q4
                have p10 : 0 ≤ (1 : Int) := (by omega)
                have q10 : 1 < a0.size := (by have : (1 : Int) < (a0.size : Int) := of_decide_eq_true (by first | (with_reducible assumption) | assumption); omega)
                have hx10 : ∀ h : 1 < a0.size, ((a0[1]'h).toNat : Int) = bt a0 1 := bt_at a0 1
                clear p10
                have qi10 : (1 < (a0.size : Int)) = True := eq_true (of_decide_eq_true (by first | (with_reducible assumption) | assumption))
                replace q10 := eq_true q10
                go_enter Tryd.func22, Tryd.ntmps22
                go_wp2
                refine bodyPost_ret (results_list (rs := [.tmp 2, .tmp 3, .tmp 4, .tmp 5]) rfl (by simp) (.tmp (.tmp (.tmp (.tmp .nil))))) rfl ?_
                exact ⟨by first | rfl | (simp; done) | (simp [*]; done), by repeat (first | exact Drawn0.refl _ | apply Drawn0.step)⟩
            · rw [if_neg c9] at H
              exact absurd H (by simp)
        · rw [if_neg c6] at H
          have c6b0 : (((wrap64 (bt a0 0)) / 64) == 1) = false := beq_eq_false_iff_ne.mpr c6
          have c6b1 : (((wrap64 (bt a0 0)) / 64) != 1) = true := bne_iff_ne.mpr c6
          by_cases c12 : ((wrap64 (bt a0 0)) / 64) = 3
          · rw [if_pos c12] at H
            have c12b0 : (((wrap64 (bt a0 0)) / 64) == 3) = true := beq_iff_eq.mpr c12
            have c12b1 : (((wrap64 (bt a0 0)) / 64) != 3) = false := bne_eq_false_iff_eq.mpr c12
            clear c12
            by_cases c13 : (wrap64 (bt a0 0)) ≤ 195
            · rw [if_pos c13] at H
              have c13b0 : decide ((wrap64 (bt a0 0)) ≤ 195) = true := decide_eq_true c13
              clear c13
              simp only [Option.some.injEq, Prod.mk.injEq] at H
              obtain ⟨rfl, rfl, rfl, rfl⟩ := H
              have p4 : 0 ≤ (0 : Int) := (by omega)
              have q4 : 0 < a0.size := (by have : (0 : Int) < (a0.size : Int) := of_decide_eq_true (by first | (with_reducible assumption) | assumption); omega)
              have hx4 : ∀ h : 0 < a0.size, ((a0[0]'h).toNat : Int) = bt a0 0 := bt_at a0 0
              clear p4
              have qi4 : (0 < (a0.size : Int)) = True := eq_true (of_decide_eq_true (by first | (with_reducible assumption) | assumption))
              replace q4 := eq_true q4
              go_enter Tryd.func22, Tryd.ntmps22
              go_wp2
              refine bodyPost_ret (results_list (rs := [.tmp 2, .tmp 3, .tmp 4, .tmp 5]) rfl (by simp) (.tmp (.tmp (.tmp (.tmp .nil))))) rfl ?_
              exact ⟨by first | rfl | (simp; done) | (simp [*]; done), by repeat (first | exact Drawn0.refl _ | apply Drawn0.step)⟩
            · rw [if_neg c13] at H
              have c13b0 : decide ((wrap64 (bt a0 0)) ≤ 195) = false := decide_eq_false c13
              clear c13
              simp only [Option.some.injEq, Prod.mk.injEq] at H
              obtain ⟨rfl, rfl, rfl, rfl⟩ := H
              have p4 : 0 ≤ (0 : Int) := (by omega)
              have q4 : 0 < a0.size := (by have : (0 : Int) < (a0.size : Int) := of_decide_eq_true (by first | (with_reducible assumption) | assumption); omega)
              have hx4 : ∀ h : 0 < a0.size, ((a0[0]'h).toNat : Int) = bt a0 0 := bt_at a0 0
              clear p4
              have qi4 : (0 < (a0.size : Int)) = True := eq_true (of_decide_eq_true (by first | (with_reducible assumption) | assumption))
              replace q4 := eq_true q4
              go_enter Tryd.func22, Tryd.ntmps22
              go_wp2
              refine bodyPost_ret (results_list (rs := [.tmp 2, .tmp 3, .tmp 4, .tmp 5]) rfl (by simp) (.tmp (.tmp (.tmp (.tmp .nil))))) rfl ?_
              exact ⟨by first | rfl | (simp; done) | (simp [*]; done), by repeat (first | exact Drawn0.refl _ | apply Drawn0.step)⟩
          · rw [if_neg c12] at H
            have c12b0 : (((wrap64 (bt a0 0)) / 64) == 3) = false := beq_eq_false_iff_ne.mpr c12
            have c12b1 : (((wrap64 (bt a0 0)) / 64) != 3) = true := bne_iff_ne.mpr c12
            have HC14 := Aside0.mk H
            clear H
            have p4 : 0 ≤ (0 : Int) := (by omega)
            have q4 : 0 < a0.size := (by have : (0 : Int) < (a0.size : Int) := of_decide_eq_true (by first | (with_reducible assumption) | assumption); omega)
            have hx4 : ∀ h : 0 < a0.size, ((a0[0]'h).toNat : Int) = bt a0 0 := bt_at a0 0
            clear p4
            have qi4 : (0 < (a0.size : Int)) = True := eq_true (of_decide_eq_true (by first | (with_reducible assumption) | assumption))
            replace q4 := eq_true q4
            go_enter Tryd.func22, Tryd.ntmps22
            go_upto_region 18 with (fail)
            go_cut [44] (fun v44 wc => ∃ (kq : Nat) (x44_13 : Bool), v44 = .bool x44_13 ∧ Aside0 (varint_Len.j0 kq a0 (wrap64 (bt a0 0)) x44_13 = some (r1, r2, r3, r4)) ∧ Aside0 (kq ≤ k) ∧ Drawn0 w wc)
            case first =>
              have H := HC14.out
              clear HC14
              by_cases c15 : (wrap64 (bt a0 0)) = 128
              · rw [if_pos c15] at H
                have c15b0 : ((wrap64 (bt a0 0)) == 128) = true := beq_iff_eq.mpr c15
                have c15b1 : ((wrap64 (bt a0 0)) != 128) = false := bne_eq_false_iff_eq.mpr c15
                clear c15
                (first | rw [c15b0] | (simp only [i64_w, i32_w]; rw [c15b0]) | skip)
                have H' := Aside0.mk H
                clear H
                go_wp2
                go_meet
                case rel => exact ⟨_, (decide ((a0.size : Int) < 5)), (by first | rfl | (simp; done) | (simp [*]; done)), H', ⟨by first | omega | exact Nat.le_refl _⟩, by repeat (first | exact Drawn0.refl _ | apply Drawn0.step)⟩
              · rw [if_neg c15] at H
                have c15b0 : ((wrap64 (bt a0 0)) == 128) = false := beq_eq_false_iff_ne.mpr c15
                have c15b1 : ((wrap64 (bt a0 0)) != 128) = true := bne_iff_ne.mpr c15
                (first | rw [c15b0] | (simp only [i64_w, i32_w]; rw [c15b0]) | skip)
                have H' := Aside0.mk H
                clear H
                go_wp2
                go_meet
                case rel => exact ⟨_, (false), (by first | rfl | (simp; done) | (simp [*]; done)), H', ⟨by first | omega | exact Nat.le_refl _⟩, by repeat (first | exact Drawn0.refl _ | apply Drawn0.step)⟩
            case rest =>
              clear HC14
              try clear c1
              try clear p1
              try clear q1
              try clear hx1
              try clear qi1
              try clear c2
              try clear c2b0
              try clear c2b1
              try clear p2
              try clear c3
              try clear c3b0
              try clear c3b1
              try clear c4
              try clear p4
              try clear q4
              try clear hx4
              try clear qi4
              try clear c5
              try clear c5b0
              try clear c5b1
              try clear c6
              try clear c6b0
              try clear c6b1
              try clear p6
              try clear c7
              try clear c7b0
              try clear c7b1
              try clear c9
              try clear c9b0
              try clear c9b1
              try clear p10
              try clear q10
              try clear hx10
              try clear qi10
              try clear c11
              try clear c11b0
              try clear c12
              try clear c12b0
              try clear c12b1
              try clear c13
              try clear c13b0
              try clear c15
              try clear c15b0
              try clear c15b1
              try clear p10
              try clear p4
              try clear q10
              try clear q4
              obtain ⟨kq, x44_13, rfl, HA, HJ13, ⟨mc13, rfl⟩⟩ := hcut
              cases kq with
              | zero => exact absurd HA.out (by simp [varint_Len.j0])
              | succ kj13 =>
                have H := HA.out
                clear HA
                simp only [varint_Len.j0] at H
                by_cases c16 : x44_13 = true
                · subst c16
                  have H1 : ((varint_short.f a0).bind fun t120 => (some (0, 0, 0, t120))) = some (r1, r2, r3, r4) := by rw [if_pos rfl] at H; exact H
                  clear H
                  have H := H1
                  clear H1
                  replace H := Option.bind_eq_some_iff.mp H
                  obtain ⟨t120, A170, H⟩ := H
                  replace H : (some (0, 0, 0, t120)) = some (r1, r2, r3, r4) := H
                  have A17 := Aside0.mk A170
                  clear A170
                  simp only [Option.some.injEq, Prod.mk.injEq] at H
                  obtain ⟨rfl, rfl, rfl, rfl⟩ := H
                  go_wp2_with (first | ((with_reducible refine gate_callee (f := 44) rfl ?_); refine goesL_ (some 53) rfl rfl Tryd.func44 (by kernel_rfl) rfl #[.string a0] rfl (by (try simp only [List.map_toArray, List.map_cons, List.map_nil]); first | done | rfl | (simp only [List.length_drop, List.length_take]; rfl)) ?_; (with_reducible refine (varint_short.calls a0 t120 _ A17.out).mono ?_); rintro e w' ⟨rfl, ⟨nd, rfl⟩⟩; refine ⟨_, rfl, ?_⟩))
                  refine bodyPost_ret (results_list (rs := [.tmp 2, .tmp 3, .tmp 4, .tmp 5]) rfl (by simp) (.tmp (.tmp (.tmp (.tmp .nil))))) rfl ?_
                  exact ⟨by first | rfl | (simp; done) | (simp [*]; done), by repeat (first | exact Drawn0.refl _ | apply Drawn0.step)⟩
                · replace c16 := Bool.eq_false_iff.mpr c16
                  subst c16
                  have H1 : (if (wrap64 (bt a0 0)) = 128 then (if 1 ≤ 5 then (if 5 ≤ (a0.size : Int) then ((varint_read.f kj13 (a0.extract 1 5)).bind fun t121 => (if (wrap64 (t121)) ≥ 16384 then (some (wrap64 (t121), 5, 0, 0)) else (some (0, 0, 0, 21)))) else (none)) else (none)) else (if (wrap64 (bt a0 0)) = 129 then (varint_Len.j1 kj13 a0 (wrap64 (bt a0 0)) (decide ((a0.size : Int) < 9))) else (varint_Len.j1 kj13 a0 (wrap64 (bt a0 0)) false))) = some (r1, r2, r3, r4) := by rw [if_neg (show ¬ (false = true) by decide)] at H; exact H
                  clear H
                  have H := H1
                  clear H1
                  by_cases c18 : (wrap64 (bt a0 0)) = 128
                  · rw [if_pos c18] at H
                    have c18b0 : ((wrap64 (bt a0 0)) == 128) = true := beq_iff_eq.mpr c18
                    have c18b1 : ((wrap64 (bt a0 0)) != 128) = false := bne_eq_false_iff_eq.mpr c18
                    clear c18
                    by_cases c19 : 1 ≤ 5
                    · rw [if_pos c19] at H
                      have c19b0 := eq_true c19
                      have c19b1 : decide (1 ≤ 5) = true := decide_eq_true c19
                      clear c19
                      by_cases c20 : 5 ≤ (a0.size : Int)
                      · rw [if_pos c20] at H
                        have c20b0 := eq_true c20
                        have c20b1 : decide (5 ≤ (a0.size : Int)) = true := decide_eq_true c20
                        clear c20
                        replace H := Option.bind_eq_some_iff.mp H
                        obtain ⟨t121, A210, H⟩ := H
                        replace H : (if (wrap64 (t121)) ≥ 16384 then (some (wrap64 (t121), 5, 0, 0)) else (some (0, 0, 0, 21))) = some (r1, r2, r3, r4) := H
                        have A21 := Aside0.mk A210
                        clear A210
                        by_cases c22 : (wrap64 (t121)) ≥ 16384
                        · rw [if_pos c22] at H
                          have c22b0 : decide (16384 ≤ (wrap64 (t121))) = true := decide_eq_true c22
                          clear c22
                          simp only [Option.some.injEq, Prod.mk.injEq] at H
                          obtain ⟨rfl, rfl, rfl, rfl⟩ := H
                          go_wp2_with (first | ((with_reducible refine gate_callee (f := 45) rfl ?_); refine goesL_ (some 59) rfl rfl Tryd.func45 (by kernel_rfl) rfl #[.string (a0.extract 1 5)] rfl (by (try simp only [List.map_toArray, List.map_cons, List.map_nil]); first | done | rfl | (simp only [List.length_drop, List.length_take]; rfl)) ?_; (with_reducible refine (varint_read.calls kj13 (a0.extract 1 5) t121 _ A21.out).mono ?_); rintro e w' ⟨rfl, ⟨nd, rfl⟩⟩; refine ⟨_, rfl, ?_⟩))
                          refine bodyPost_ret (results_list (rs := [.tmp 2, .tmp 3, .tmp 4, .tmp 5]) rfl (by simp) (.tmp (.tmp (.tmp (.tmp .nil))))) rfl ?_
                          exact ⟨by first | rfl | (simp; done) | (simp [*]; done), by repeat (first | exact Drawn0.refl _ | apply Drawn0.step)⟩
                        · rw [if_neg c22] at H
                          have c22b0 : decide (16384 ≤ (wrap64 (t121))) = false := decide_eq_false c22
                          clear c22
                          simp only [Option.some.injEq, Prod.mk.injEq] at H
                          obtain ⟨rfl, rfl, rfl, rfl⟩ := H
                          go_wp2_with (first | ((with_reducible refine gate_callee (f := 45) rfl ?_); refine goesL_ (some 59) rfl rfl Tryd.func45 (by kernel_rfl) rfl #[.string (a0.extract 1 5)] rfl (by (try simp only [List.map_toArray, List.map_cons, List.map_nil]); first | done | rfl | (simp only [List.length_drop, List.length_take]; rfl)) ?_; (with_reducible refine (varint_read.calls kj13 (a0.extract 1 5) t121 _ A21.out).mono ?_); rintro e w' ⟨rfl, ⟨nd, rfl⟩⟩; refine ⟨_, rfl, ?_⟩))
                          refine bodyPost_ret (results_list (rs := [.tmp 2, .tmp 3, .tmp 4, .tmp 5]) rfl (by simp) (.tmp (.tmp (.tmp (.tmp .nil))))) rfl ?_
                          exact ⟨by first | rfl | (simp; done) | (simp [*]; done), by repeat (first | exact Drawn0.refl _ | apply Drawn0.step)⟩
                      · rw [if_neg c20] at H
                        exact absurd H (by simp)
                    · rw [if_neg c19] at H
                      exact absurd H (by simp)
                  · rw [if_neg c18] at H
                    have c18b0 : ((wrap64 (bt a0 0)) == 128) = false := beq_eq_false_iff_ne.mpr c18
                    have c18b1 : ((wrap64 (bt a0 0)) != 128) = true := bne_iff_ne.mpr c18
                    have HC23 := Aside0.mk H
                    clear H
                    go_upto_region 24 with (fail)
                    go_cut [64] (fun v64 wc => ∃ (kq : Nat) (x64_22 : Bool), v64 = .bool x64_22 ∧ Aside0 (varint_Len.j1 kq a0 (wrap64 (bt a0 0)) x64_22 = some (r1, r2, r3, r4)) ∧ Aside0 (kq ≤ kj13) ∧ Drawn0 w wc)
                    case first =>
                      have H := HC23.out
                      clear HC23
                      by_cases c24 : (wrap64 (bt a0 0)) = 129
                      · rw [if_pos c24] at H
                        have c24b0 : ((wrap64 (bt a0 0)) == 129) = true := beq_iff_eq.mpr c24
                        have c24b1 : ((wrap64 (bt a0 0)) != 129) = false := bne_eq_false_iff_eq.mpr c24
                        clear c24
                        (first | rw [c24b0] | (simp only [i64_w, i32_w]; rw [c24b0]) | skip)
                        have H' := Aside0.mk H
                        clear H
                        go_wp2
                        go_meet
                        case rel => exact ⟨_, (decide ((a0.size : Int) < 9)), (by first | rfl | (simp; done) | (simp [*]; done)), H', ⟨by have := HJ13.out; first | omega | exact Nat.le_refl _⟩, by repeat (first | exact Drawn0.refl _ | apply Drawn0.step)⟩
                      · rw [if_neg c24] at H
                        have c24b0 : ((wrap64 (bt a0 0)) == 129) = false := beq_eq_false_iff_ne.mpr c24
                        have c24b1 : ((wrap64 (bt a0 0)) != 129) = true := bne_iff_ne.mpr c24
                        (first | rw [c24b0] | (simp only [i64_w, i32_w]; rw [c24b0]) | skip)
                        have H' := Aside0.mk H
                        clear H
                        go_wp2
                        go_meet
                        case rel => exact ⟨_, (false), (by first | rfl | (simp; done) | (simp [*]; done)), H', ⟨by have := HJ13.out; first | omega | exact Nat.le_refl _⟩, by repeat (first | exact Drawn0.refl _ | apply Drawn0.step)⟩
                    case rest =>
                      clear HC23
                      try clear c1
                      try clear p1
                      try clear q1
                      try clear hx1
                      try clear qi1
                      try clear c2
                      try clear c2b0
                      try clear c2b1
                      try clear p2
                      try clear c3
                      try clear c3b0
                      try clear c3b1
                      try clear c4
                      try clear p4
                      try clear q4
                      try clear hx4
                      try clear qi4
                      try clear c5
                      try clear c5b0
                      try clear c5b1
                      try clear c6
                      try clear c6b0
                      try clear c6b1
                      try clear p6
                      try clear c7
                      try clear c7b0
                      try clear c7b1
                      try clear c9
                      try clear c9b0
                      try clear c9b1
                      try clear p10
                      try clear q10
                      try clear hx10
                      try clear qi10
                      try clear c11
                      try clear c11b0
                      try clear c12
                      try clear c12b0
                      try clear c12b1
                      try clear c13
                      try clear c13b0
                      try clear c15
                      try clear c15b0
                      try clear c15b1
                      try clear c16
                      try clear c18
                      try clear c18b0
                      try clear c18b1
                      try clear c19
                      try clear c19b0
                      try clear c19b1
                      try clear c20
                      try clear c20b0
                      try clear c20b1
                      try clear c22
                      try clear c22b0
                      try clear c24
                      try clear c24b0
                      try clear c24b1
                      try clear p1
                      try clear p10
                      try clear p2
                      try clear p4
                      try clear p6
                      try clear q1
                      try clear q10
                      try clear q4
                      obtain ⟨kq, x64_22, rfl, HA, HJ22, ⟨mc22, rfl⟩⟩ := hcut
                      cases kq with
                      | zero => exact absurd HA.out (by simp [varint_Len.j1])
                      | succ kj22 =>
                        have H := HA.out
                        clear HA
                        simp only [varint_Len.j1] at H
                        by_cases c25 : x64_22 = true
                        · subst c25
                          have H1 : ((varint_short.f a0).bind fun t122 => (some (0, 0, 0, t122))) = some (r1, r2, r3, r4) := by rw [if_pos rfl] at H; exact H
                          clear H
                          have H := H1
                          clear H1
                          replace H := Option.bind_eq_some_iff.mp H
                          obtain ⟨t122, A260, H⟩ := H
                          replace H : (some (0, 0, 0, t122)) = some (r1, r2, r3, r4) := H
                          have A26 := Aside0.mk A260
                          clear A260
                          simp only [Option.some.injEq, Prod.mk.injEq] at H
                          obtain ⟨rfl, rfl, rfl, rfl⟩ := H
                          go_wp2_with (first | ((with_reducible refine gate_callee (f := 44) rfl ?_); refine goesL_ (some 73) rfl rfl Tryd.func44 (by kernel_rfl) rfl #[.string a0] rfl (by (try simp only [List.map_toArray, List.map_cons, List.map_nil]); first | done | rfl | (simp only [List.length_drop, List.length_take]; rfl)) ?_; (with_reducible refine (varint_short.calls a0 t122 _ A26.out).mono ?_); rintro e w' ⟨rfl, ⟨nd, rfl⟩⟩; refine ⟨_, rfl, ?_⟩))
                          refine bodyPost_ret (results_list (rs := [.tmp 2, .tmp 3, .tmp 4, .tmp 5]) rfl (by simp) (.tmp (.tmp (.tmp (.tmp .nil))))) rfl ?_
                          exact ⟨by first | rfl | (simp; done) | (simp [*]; done), by repeat (first | exact Drawn0.refl _ | apply Drawn0.step)⟩
                        · replace c25 := Bool.eq_false_iff.mpr c25
                          subst c25
                          have H1 : (if (wrap64 (bt a0 0)) = 129 then (if 1 ≤ 9 then (if 9 ≤ (a0.size : Int) then ((varint_read.f kj22 (a0.extract 1 9)).bind fun t123 => (if t123 ≥ 4294967296 then (if t123 ≤ 4611686018427387904 then (some (wrap64 (t123), 9, 0, 0)) else (some (0, 0, 0, 21))) else (some (0, 0, 0, 21)))) else (none)) else (none)) else (some (0, 0, 0, 21))) = some (r1, r2, r3, r4) := by rw [if_neg (show ¬ (false = true) by decide)] at H; exact H
                          clear H
                          have H := H1
                          clear H1
                          by_cases c27 : (wrap64 (bt a0 0)) = 129
                          · rw [if_pos c27] at H
                            have c27b0 : ((wrap64 (bt a0 0)) == 129) = true := beq_iff_eq.mpr c27
                            have c27b1 : ((wrap64 (bt a0 0)) != 129) = false := bne_eq_false_iff_eq.mpr c27
                            clear c27
                            by_cases c28 : 1 ≤ 9
                            · rw [if_pos c28] at H
                              have c28b0 := eq_true c28
                              have c28b1 : decide (1 ≤ 9) = true := decide_eq_true c28
                              clear c28
                              by_cases c29 : 9 ≤ (a0.size : Int)
                              · rw [if_pos c29] at H
                                have c29b0 := eq_true c29
                                have c29b1 : decide (9 ≤ (a0.size : Int)) = true := decide_eq_true c29
                                clear c29
                                replace H := Option.bind_eq_some_iff.mp H
                                obtain ⟨t123, A300, H⟩ := H
                                replace H : (if t123 ≥ 4294967296 then (if t123 ≤ 4611686018427387904 then (some (wrap64 (t123), 9, 0, 0)) else (some (0, 0, 0, 21))) else (some (0, 0, 0, 21))) = some (r1, r2, r3, r4) := H
                                have A30 := Aside0.mk A300
                                clear A300
                                by_cases c31 : t123 ≥ 4294967296
                                · rw [if_pos c31] at H
                                  have c31b0 : decide (4294967296 ≤ t123) = true := decide_eq_true c31
                                  clear c31
                                  by_cases c32 : t123 ≤ 4611686018427387904
                                  · rw [if_pos c32] at H
                                    have c32b0 : decide (t123 ≤ 4611686018427387904) = true := decide_eq_true c32
                                    clear c32
                                    simp only [Option.some.injEq, Prod.mk.injEq] at H
                                    obtain ⟨rfl, rfl, rfl, rfl⟩ := H
                                    go_wp2_with (first | ((with_reducible refine gate_callee (f := 45) rfl ?_); refine goesL_ (some 79) rfl rfl Tryd.func45 (by kernel_rfl) rfl #[.string (a0.extract 1 9)] rfl (by (try simp only [List.map_toArray, List.map_cons, List.map_nil]); first | done | rfl | (simp only [List.length_drop, List.length_take]; rfl)) ?_; (with_reducible refine (varint_read.calls kj22 (a0.extract 1 9) t123 _ A30.out).mono ?_); rintro e w' ⟨rfl, ⟨nd, rfl⟩⟩; refine ⟨_, rfl, ?_⟩))
                                    refine bodyPost_ret (results_list (rs := [.tmp 2, .tmp 3, .tmp 4, .tmp 5]) rfl (by simp) (.tmp (.tmp (.tmp (.tmp .nil))))) rfl ?_
                                    exact ⟨by first | rfl | (simp; done) | (simp [*]; done), by repeat (first | exact Drawn0.refl _ | apply Drawn0.step)⟩
                                  · rw [if_neg c32] at H
                                    have c32b0 : decide (t123 ≤ 4611686018427387904) = false := decide_eq_false c32
                                    clear c32
                                    simp only [Option.some.injEq, Prod.mk.injEq] at H
                                    obtain ⟨rfl, rfl, rfl, rfl⟩ := H
                                    go_wp2_with (first | ((with_reducible refine gate_callee (f := 45) rfl ?_); refine goesL_ (some 79) rfl rfl Tryd.func45 (by kernel_rfl) rfl #[.string (a0.extract 1 9)] rfl (by (try simp only [List.map_toArray, List.map_cons, List.map_nil]); first | done | rfl | (simp only [List.length_drop, List.length_take]; rfl)) ?_; (with_reducible refine (varint_read.calls kj22 (a0.extract 1 9) t123 _ A30.out).mono ?_); rintro e w' ⟨rfl, ⟨nd, rfl⟩⟩; refine ⟨_, rfl, ?_⟩))
                                    refine bodyPost_ret (results_list (rs := [.tmp 2, .tmp 3, .tmp 4, .tmp 5]) rfl (by simp) (.tmp (.tmp (.tmp (.tmp .nil))))) rfl ?_
                                    exact ⟨by first | rfl | (simp; done) | (simp [*]; done), by repeat (first | exact Drawn0.refl _ | apply Drawn0.step)⟩
                                · rw [if_neg c31] at H
                                  have c31b0 : decide (4294967296 ≤ t123) = false := decide_eq_false c31
                                  clear c31
                                  simp only [Option.some.injEq, Prod.mk.injEq] at H
                                  obtain ⟨rfl, rfl, rfl, rfl⟩ := H
                                  go_wp2_with (first | ((with_reducible refine gate_callee (f := 45) rfl ?_); refine goesL_ (some 79) rfl rfl Tryd.func45 (by kernel_rfl) rfl #[.string (a0.extract 1 9)] rfl (by (try simp only [List.map_toArray, List.map_cons, List.map_nil]); first | done | rfl | (simp only [List.length_drop, List.length_take]; rfl)) ?_; (with_reducible refine (varint_read.calls kj22 (a0.extract 1 9) t123 _ A30.out).mono ?_); rintro e w' ⟨rfl, ⟨nd, rfl⟩⟩; refine ⟨_, rfl, ?_⟩))
                                  refine bodyPost_ret (results_list (rs := [.tmp 2, .tmp 3, .tmp 4, .tmp 5]) rfl (by simp) (.tmp (.tmp (.tmp (.tmp .nil))))) rfl ?_
                                  exact ⟨by first | rfl | (simp; done) | (simp [*]; done), by repeat (first | exact Drawn0.refl _ | apply Drawn0.step)⟩
                              · rw [if_neg c29] at H
                                exact absurd H (by simp)
                            · rw [if_neg c28] at H
                              exact absurd H (by simp)
                          · rw [if_neg c27] at H
                            have c27b0 : ((wrap64 (bt a0 0)) == 129) = false := beq_eq_false_iff_ne.mpr c27
                            have c27b1 : ((wrap64 (bt a0 0)) != 129) = true := bne_iff_ne.mpr c27
                            simp only [Option.some.injEq, Prod.mk.injEq] at H
                            obtain ⟨rfl, rfl, rfl, rfl⟩ := H
                            go_wp2
                            refine bodyPost_ret (results_list (rs := [.tmp 2, .tmp 3, .tmp 4, .tmp 5]) rfl (by simp) (.tmp (.tmp (.tmp (.tmp .nil))))) rfl ?_
                            exact ⟨by first | rfl | (simp; done) | (simp [*]; done), by repeat (first | exact Drawn0.refl _ | apply Drawn0.step)⟩
    · rw [if_neg c3] at H
      exact absurd H (by simp)

end Go.Proofs.YtlhinklnnjbmpaaDoor.GA
