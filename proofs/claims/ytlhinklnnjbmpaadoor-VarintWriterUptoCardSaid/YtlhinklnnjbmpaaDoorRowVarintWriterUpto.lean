/- VarintWriter: for every input the law answers true and leaves its input as it was: the row, and its card, tied to the program's text. -/
import Derived.Test.YtlhinklnnjbmpaaDoorRows
import Derived.Test.YtlhinklnnjbmpaaDoorCards
import Derived.Test.YtlhinklnnjbmpaaDoorTie
import Derived.Test.YtlhinklnnjbmpaaDoorEnv
import Derived.Test.YtlhinklnnjbmpaaDoorPureVarintWriter
import Derived.Test.YtlhinklnnjbmpaaDoorOp
import Derived.Test.YtlhinklnnjbmpaaDoorUp
import Derived.WalkKit
import Derived.ProofKit
import Derived.OpenShut
import Derived.ShutString
import Derived.ChangeOld
import Derived.Below
import Derived.SizedLaws
import Derived.LaidMore
import Derived.Stop.Joined
import Derived.SevenTiedAt
namespace Go.Proofs.YtlhinklnnjbmpaaDoor.varintWriter
open Go.ChangeShapes Go.WideShapes Go.ChangeAt Go.RowKit Go.Proofs.YtlhinklnnjbmpaaDoor.Env
open Go.ChangeMaps (open_string shut_string)
set_option linter.unusedVariables false
theorem lo : laidOutB Tryd.prog = true := by kernel_rfl
set_option maxRecDepth 100000 in
theorem lifted (os : Os) (started : os.Started) (H : Type) (enc : TypeId × Value → H) (F0 : Stop.Interp) :
    ReturnsInHanded {} Tryd.checked os 4 .any (fun w args => ((Rows.OpenSpec.upto Rows.varintWriterSpec).pre enc Tryd.prog Tryd.f4 [] false w args ∧ laidMetH Tryd.prog laidL w) ∧ sizedMet enc Tryd.prog Tryd.f4 (Rows.OpenSpec.upto Rows.varintWriterSpec) false w args)
      (((Rows.OpenSpec.upto Rows.varintWriterSpec).at F0).post enc Tryd.prog Tryd.f4 false true false false) := by
  refine Up.handed (C := Tryd.checked) (s := Rows.OpenSpec.upto Rows.varintWriterSpec) (k := Rows.uptoSmall) rfl (X := fun w _ => laidMetH Tryd.prog laidL w) (fun _ _ _ hh h => h.of_heap hh) own started (by kernel_rfl) Tryd.func4
    (World.doorLaid Tryd.prog 62 os) #[.int .i64 0, .slice none 0 0] 8 rfl (World.shaped_of_RefB (by kernel_rfl) (by kernel_rfl)) (by kernel_rfl) (x := ([.lit (.int .i64 0), .nil], [], [])) (by kernel_rfl) (by kernel_rfl) (by kernel_rfl) (by kernel_rfl) (door_met os _) ?_
  intro W base args ds gs before hval0 hW _ hk hL
  have hval : ∀ (j : Nat) t v, Tryd.f4.params[j]? = some t → args[j]? = some v → Value.okWide Tryd.prog W .any base t v := hval0
  have hW' := hW
  obtain ⟨p, q, hA0, hV, rfl, hfz, hnd⟩ := hW
  have hA : DataW.TrodAll enc Tryd.prog W 0 (fun _ => true) true Tryd.f4.params.toList args.toList ds p := hA0
  rw [Tryd.params4] at hA hval
  obtain ⟨v0, vs0, d0, ds0, p0, q0, hargs, rfl, rfl, h0, r0⟩ := trodAll_cons hA
  obtain ⟨v1, vs1, d1, ds1, p1, q1, rfl, rfl, rfl, h1, r1⟩ := trodAll_cons r0
  obtain ⟨rfl, rfl, rfl⟩ := trodAll_nil r1
  obtain rfl : args = #[v0, v1] := by cases args; simp_all
  obtain ⟨rfl, rfl⟩ := trodVars_none hV
  have hkk : Rows.uptoBulkAll ([d0, d1] ++ []) ≤ 1048576 := of_decide_eq_true hk
  simp only [List.append_nil, Rows.uptoBulkAll, Nat.add_zero] at hkk
  obtain ⟨a0, rfl, rfl, rfl, w0⟩ := open_int Tryd.underlying3 (hval 0 3 v0 rfl rfl) h0
  obtain ⟨A1, c1, a1, rfl, wc1, ch1, wb1⟩ := Up.b_arg (Up.b_struct Tryd.underlying38 (by kernel_rfl) (Up.bf_cons rfl (Up.b_bool Tryd.underlying4 (by kernel_rfl)) (Up.bf_cons rfl (Up.b_int Tryd.underlying3 (by kernel_rfl)) (Up.bf_one rfl (Up.b_slice (Up.b_string Tryd.underlying9 (by kernel_rfl)) Tryd.underlying36 (by kernel_rfl)))))) Tryd.underlying32 (hval 1 32 v1 rfl rfl) h1
  clear hA0 hval0
  refine (Ww.walk a0 A1 c1 a1 W (of_laid hL) w0 wc1 ch1 (Nat.le_trans wb1 (by omega))).mono fun e W' ⟨he, bel⟩ => ?_
  subst he
  exact ⟨_, rfl, _, _, _, [], _, [], hW', trodAll_mk1 (shut_bool Tryd.underlying4 _), (trodAll_mk2 (shut_int Tryd.underlying3 w0) (Op.back_arg lo (by kernel_rfl) (of_decide_eq_true (by kernel_rfl)) h1 bel)), rfl, bel.frame _, fun h => by cases h⟩
theorem over : Rows.varintWriterUptoRow.holds Tryd.pinned (Rows.OpenSpec.upto Rows.varintWriterSpec) :=
  OpenClaim.holds_of_cond 4 Tryd.f4 rfl rfl rfl rfl rfl rfl rfl ⟨rfl, rfl, rfl, rfl, rfl⟩ rfl rfl rfl rfl rfl (by kernel_rfl) Tryd.func4 (by kernel_rfl)
    (of_decide_eq_true (by kernel_rfl)) (by unfold Func.isWrapper; first | (rw [if_pos (by decide +kernel)]; kernel_rfl) | (rw [if_neg (by decide +kernel)]; exact ⟨rfl, rfl⟩))
    (fun os started H enc _ F0 => lifted os started H enc F0)
end Go.Proofs.YtlhinklnnjbmpaaDoor.varintWriter
namespace Go.Proofs.YtlhinklnnjbmpaaDoor
/-- The card: the row, tied to the program's text. -/
theorem varintWriterUpto_holds : Rows.VarintWriterUptoCardSaid :=
  Claim7.holds_tied_plain_at .later [] [.data, .data, .data, .sentinel, .sentinel] true (true, "bc1215c55e732bf11fb063fc1d7665aab31772997f12b9adf9f5bbcfa40cfefa") true
    varintWriter.over (fun _ h => by cases h) (by kernel_rfl) (fun _ h => by cases h) varintWriterUpto_row_tie rfl ⟨rfl, rfl⟩ (by kernel_rfl) rfl
    (fun f fn hf hfn => by
      obtain rfl : f = 4 := Option.some.inj ((show Tryd.prog.funcNamed "cistern/cisternlaw02.VarintWriter" = some 4 by kernel_rfl).symm.trans hf) |>.symm
      obtain rfl : fn = Tryd.f4 := (Option.some.inj (Tryd.func4.symm.trans hfn)).symm
      exact ⟨by kernel_rfl, fun j t ht => by
        rw [Tryd.params4] at ht
        have h3 : t = 3 ∨ t = 32 := by
          rcases j with _ | _ | _
          · exact Or.inl (by simpa using ht.symm)
          · exact Or.inr ((by simpa using ht.symm))
          · simp at ht
        rcases h3 with rfl | rfl
        · exact (show Tryd.prog.wantsStandIn 3 = false by kernel_rfl)
        · exact (show Tryd.prog.wantsStandIn 32 = false by kernel_rfl)
        ⟩)
    (by kernel_rfl)
#print axioms varintWriterUpto_holds
end Go.Proofs.YtlhinklnnjbmpaaDoor
