/- VarintThrough: for every input the law answers true and leaves its input as it was: the row, and its card, tied to the program's text. -/
import Derived.Test.YtlhinklnnjbmpaaDoorRows
import Derived.Test.YtlhinklnnjbmpaaDoorCards
import Derived.Test.YtlhinklnnjbmpaaDoorTie
import Derived.Test.YtlhinklnnjbmpaaDoorEnv
import Derived.Test.YtlhinklnnjbmpaaDoorPureVarintThrough
import Derived.Test.YtlhinklnnjbmpaaDoorOp
import Derived.Test.YtlhinklnnjbmpaaDoorUp
import Derived.WalkKit
import Derived.ProofKit
import Derived.OpenShut
import Derived.ShutString
import Derived.ChangeOld
import Derived.Below
import Derived.SizedLaws
import Derived.LaidMore
import Derived.Stop.Joined
import Derived.SevenTiedAt
namespace Go.Proofs.YtlhinklnnjbmpaaDoor.varintThrough
open Go.ChangeShapes Go.WideShapes Go.ChangeAt Go.RowKit Go.Proofs.YtlhinklnnjbmpaaDoor.Env
open Go.ChangeMaps (open_string shut_string)
set_option linter.unusedVariables false
theorem lo : laidOutB Tryd.prog = true := by kernel_rfl
set_option maxRecDepth 100000 in
theorem lifted (os : Os) (started : os.Started) (H : Type) (enc : TypeId × Value → H) (F0 : Stop.Interp) :
    ReturnsInHanded {} Tryd.checked os 8 .any (fun w args => ((Rows.OpenSpec.upto Rows.varintThroughSpec).pre enc Tryd.prog Tryd.f8 [] false w args ∧ laidMetH Tryd.prog laidL w) ∧ sizedMet enc Tryd.prog Tryd.f8 (Rows.OpenSpec.upto Rows.varintThroughSpec) false w args)
      (((Rows.OpenSpec.upto Rows.varintThroughSpec).at F0).post enc Tryd.prog Tryd.f8 false true false false) := by
  refine Up.handed (C := Tryd.checked) (s := Rows.OpenSpec.upto Rows.varintThroughSpec) (k := Rows.uptoSmall) rfl (X := fun w _ => laidMetH Tryd.prog laidL w) (fun _ _ _ hh h => h.of_heap hh) own started (by kernel_rfl) Tryd.func8
    (World.doorLaid Tryd.prog 62 os) #[.slice none 0 0] 8 rfl (World.shaped_of_RefB (by kernel_rfl) (by kernel_rfl)) (by kernel_rfl) (x := ([.nil], [], [])) (by kernel_rfl) (by kernel_rfl) (by kernel_rfl) (by kernel_rfl) (door_met os _) ?_
  intro W base args ds gs before hval0 hW _ hk hL
  have hval : ∀ (j : Nat) t v, Tryd.f8.params[j]? = some t → args[j]? = some v → Value.okWide Tryd.prog W .any base t v := hval0
  have hW' := hW
  obtain ⟨p, q, hA0, hV, rfl, hfz, hnd⟩ := hW
  have hA : DataW.TrodAll enc Tryd.prog W 0 (fun _ => true) true Tryd.f8.params.toList args.toList ds p := hA0
  rw [Tryd.params8] at hA hval
  obtain ⟨v0, vs0, d0, ds0, p0, q0, hargs, rfl, rfl, h0, r0⟩ := trodAll_cons hA
  obtain ⟨rfl, rfl, rfl⟩ := trodAll_nil r0
  obtain rfl : args = #[v0] := by cases args; simp_all
  obtain ⟨rfl, rfl⟩ := trodVars_none hV
  have hkk : Rows.uptoBulkAll ([d0] ++ []) ≤ 1048576 := of_decide_eq_true hk
  simp only [List.append_nil, Rows.uptoBulkAll, Nat.add_zero] at hkk
  obtain ⟨A0, c0, a0, rfl, wc0, ch0, wb0⟩ := Up.b_arg (Up.b_string Tryd.underlying9 (by kernel_rfl)) Tryd.underlying36 (hval 0 36 v0 rfl rfl) h0
  clear hA0 hval0
  refine (Th.walk A0 c0 a0 W (of_laid hL) wc0 ch0 (Nat.le_trans wb0 (by omega))).mono fun e W' ⟨he, bel⟩ => ?_
  subst he
  exact ⟨_, rfl, _, _, _, [], _, [], hW', trodAll_mk1 (shut_bool Tryd.underlying4 _), (trodAll_mk1 (Op.back_arg lo (by kernel_rfl) (of_decide_eq_true (by kernel_rfl)) h0 bel)), rfl, bel.frame _, fun h => by cases h⟩
theorem over : Rows.varintThroughUptoRow.holds Tryd.pinned (Rows.OpenSpec.upto Rows.varintThroughSpec) :=
  OpenClaim.holds_of_cond 8 Tryd.f8 rfl rfl rfl rfl rfl rfl rfl ⟨rfl, rfl, rfl, rfl, rfl⟩ rfl rfl rfl rfl rfl (by kernel_rfl) Tryd.func8 (by kernel_rfl)
    (of_decide_eq_true (by kernel_rfl)) (by unfold Func.isWrapper; first | (rw [if_pos (by decide +kernel)]; kernel_rfl) | (rw [if_neg (by decide +kernel)]; exact ⟨rfl, rfl⟩))
    (fun os started H enc _ F0 => lifted os started H enc F0)
end Go.Proofs.YtlhinklnnjbmpaaDoor.varintThrough
namespace Go.Proofs.YtlhinklnnjbmpaaDoor
/-- The card: the row, tied to the program's text. -/
theorem varintThroughUpto_holds : Rows.VarintThroughUptoCardSaid :=
  Claim7.holds_tied_plain_at .later [] [.data, .data, .data, .sentinel, .sentinel] true (true, "bc1215c55e732bf11fb063fc1d7665aab31772997f12b9adf9f5bbcfa40cfefa") true
    varintThrough.over (fun _ h => by cases h) (by kernel_rfl) (fun _ h => by cases h) varintThroughUpto_row_tie rfl ⟨rfl, rfl⟩ (by kernel_rfl) rfl
    (fun f fn hf hfn => by
      obtain rfl : f = 8 := Option.some.inj ((show Tryd.prog.funcNamed "cistern/cisternlaw02.VarintThrough" = some 8 by kernel_rfl).symm.trans hf) |>.symm
      obtain rfl : fn = Tryd.f8 := (Option.some.inj (Tryd.func8.symm.trans hfn)).symm
      exact ⟨by kernel_rfl, fun j t ht => by
        rw [Tryd.params8] at ht
        have h3 : t = 36 := by
          rcases j with _ | _
          · exact (by simpa using ht.symm)
          · simp at ht
        rcases h3 with rfl
        · exact (show Tryd.prog.wantsStandIn 36 = false by kernel_rfl)
        ⟩)
    (by kernel_rfl)
#print axioms varintThroughUpto_holds
end Go.Proofs.YtlhinklnnjbmpaaDoor
