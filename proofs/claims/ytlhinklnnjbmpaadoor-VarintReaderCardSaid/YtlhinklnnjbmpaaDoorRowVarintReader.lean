/- VarintReader: for every input the law answers true and leaves its input as it was: the row, and its card, tied to the program's text. -/
import Derived.Test.YtlhinklnnjbmpaaDoorRows
import Derived.Test.YtlhinklnnjbmpaaDoorCards
import Derived.Test.YtlhinklnnjbmpaaDoorTie
import Derived.Test.YtlhinklnnjbmpaaDoorEnv
import Derived.Test.YtlhinklnnjbmpaaDoorPureVarintReader
import Derived.Test.YtlhinklnnjbmpaaDoorOp
import Derived.WalkKit
import Derived.ProofKit
import Derived.OpenShut
import Derived.ShutString
import Derived.ChangeOld
import Derived.Below
import Derived.SizedLaws
import Derived.LaidMore
import Derived.Stop.Joined
import Derived.SevenTiedAt
namespace Go.Proofs.YtlhinklnnjbmpaaDoor.varintReader
open Go.ChangeShapes Go.WideShapes Go.ChangeAt Go.RowKit Go.Proofs.YtlhinklnnjbmpaaDoor.Env
open Go.ChangeMaps (open_string shut_string)
set_option linter.unusedVariables false
theorem lo : laidOutB Tryd.prog = true := by kernel_rfl
set_option maxRecDepth 100000 in
theorem lifted (os : Os) (started : os.Started) (H : Type) (enc : TypeId × Value → H) :
    ReturnsInHanded {} Tryd.checked os 9 .any (fun w args => (Rows.varintReaderSpec.pre enc Tryd.prog Tryd.f9 [] false w args ∧ laidMetH Tryd.prog laidL w) ∧ sizedMet enc Tryd.prog Tryd.f9 (OpenSpec.ofChange Rows.varintReaderSpec) false w args)
      (Rows.varintReaderSpec.post enc Tryd.prog Tryd.f9 false true false false) := by
  refine returnsInHanded_of_change_and (C := Tryd.checked) (X := fun w _ => laidMetH Tryd.prog laidL w) (fun _ _ _ hh h => h.of_heap hh) own started (by kernel_rfl) Tryd.func9
    (ChangeSpec.witness_shaped (enc := enc) (C := Tryd.checked) (os := os) (X := fun w _ => laidMetH Tryd.prog laidL w) false (World.doorLaid Tryd.prog 62 os) #[.string ⟨#[]⟩, .slice none 0 0] 8 rfl (World.shaped_of_RefB (by kernel_rfl) (by kernel_rfl)) (by kernel_rfl) (by kernel_rfl) (by kernel_rfl) (door_met os _)) ?_
  intro W base args ds gs before hval0 hW _ hsz0 hL _
  have hsz : (DataW.weightsEach Tryd.prog (Tryd.f9.params.toList ++ Rows.varintReaderSpec.plain.varTypes Tryd.prog) (ds ++ gs)).all (· ≤ reachBytes) = true := hsz0
  have hval : ∀ (j : Nat) t v, Tryd.f9.params[j]? = some t → args[j]? = some v → Value.okWide Tryd.prog W .any base t v := hval0
  have hW' := hW
  obtain ⟨p, q, hA0, hV, rfl, hfz, hnd⟩ := hW
  have hA : DataW.TrodAll enc Tryd.prog W 0 (fun _ => true) true Tryd.f9.params.toList args.toList ds p := hA0
  rw [Tryd.params9] at hA hval hsz
  obtain ⟨v0, vs0, d0, ds0, p0, q0, hargs, rfl, rfl, h0, r0⟩ := trodAll_cons hA
  obtain ⟨v1, vs1, d1, ds1, p1, q1, rfl, rfl, rfl, h1, r1⟩ := trodAll_cons r0
  obtain ⟨rfl, rfl, rfl⟩ := trodAll_nil r1
  obtain rfl : args = #[v0, v1] := by cases args; simp_all
  obtain ⟨rfl, rfl⟩ := trodVars_none hV
  obtain ⟨a0, rfl, rfl, rfl, y0⟩ := open_string Tryd.underlying9 (hval 0 9 v0 rfl rfl) h0
  have w0 : a0.size ≤ 140737488351232 := by
    have z := sized_string hsz (j := 0) (t := 9) rfl rfl
    rw [Array.length_toList] at z
    exact z
  obtain ⟨A1, c1, a1, rfl, wc1, ch1, w1, wl1⟩ := Op.open_arg (Op.opens_struct Tryd.underlying66 (by kernel_rfl) (Op.fop_cons rfl (Op.opens_int Tryd.underlying3 (by kernel_rfl)) (Op.fop_one rfl (Op.opens_int Tryd.underlying3 (by kernel_rfl))))) (of_decide_eq_true (by kernel_rfl)) Tryd.underlying62 (hval 1 62 v1 rfl rfl) h1 (Op.weight_of hsz (j := 1) (t := 62) rfl rfl)
  clear hA0 hval0 hsz0 hsz
  refine (Rd.walk a0 A1 c1 a1 W (of_laid hL) w0 wc1 ch1 w1 wl1).mono fun e W' ⟨he, bel⟩ => ?_
  subst he
  exact ⟨_, rfl, _, _, _, [], _, [], hW', trodAll_mk1 (shut_bool Tryd.underlying4 _), (trodAll_mk2 (shut_string Tryd.underlying9 y0) (Op.back_arg lo (by kernel_rfl) (of_decide_eq_true (by kernel_rfl)) h1 bel)), rfl, bel.frame _, fun h => by cases h⟩
theorem over : Rows.varintReaderRow.holds Tryd.pinned (OpenSpec.ofChange Rows.varintReaderSpec) :=
  OpenClaim.holds_of_wide 9 Tryd.f9 rfl rfl rfl rfl rfl rfl rfl ⟨rfl, rfl, rfl, rfl, rfl⟩ rfl rfl rfl rfl rfl (by kernel_rfl) Tryd.func9 (by kernel_rfl)
    (of_decide_eq_true (by kernel_rfl)) (by unfold Func.isWrapper; first | (rw [if_pos (by decide +kernel)]; kernel_rfl) | (rw [if_neg (by decide +kernel)]; exact ⟨rfl, rfl⟩))
    (fun os started H enc _ => lifted os started H enc)
end Go.Proofs.YtlhinklnnjbmpaaDoor.varintReader
namespace Go.Proofs.YtlhinklnnjbmpaaDoor
/-- The card: the row, tied to the program's text. -/
theorem varintReader_holds : Rows.VarintReaderCardSaid :=
  Claim7.holds_tied_plain_at .later [] [.data, .data, .data, .sentinel, .sentinel] true (true, "bc1215c55e732bf11fb063fc1d7665aab31772997f12b9adf9f5bbcfa40cfefa") true
    varintReader.over (fun _ h => by cases h) (by kernel_rfl) (fun _ h => by cases h) varintReader_row_tie rfl ⟨rfl, rfl⟩ (by kernel_rfl) rfl
    (fun f fn hf hfn => by
      obtain rfl : f = 9 := Option.some.inj ((show Tryd.prog.funcNamed "cistern/cisternlaw02.VarintReader" = some 9 by kernel_rfl).symm.trans hf) |>.symm
      obtain rfl : fn = Tryd.f9 := (Option.some.inj (Tryd.func9.symm.trans hfn)).symm
      exact ⟨by kernel_rfl, fun j t ht => by
        rw [Tryd.params9] at ht
        have h3 : t = 9 ∨ t = 62 := by
          rcases j with _ | _ | _
          · exact Or.inl (by simpa using ht.symm)
          · exact Or.inr ((by simpa using ht.symm))
          · simp at ht
        rcases h3 with rfl | rfl
        · exact (show Tryd.prog.wantsStandIn 9 = false by kernel_rfl)
        · exact (show Tryd.prog.wantsStandIn 62 = false by kernel_rfl)
        ⟩)
    (by kernel_rfl)
#print axioms varintReader_holds
end Go.Proofs.YtlhinklnnjbmpaaDoor
