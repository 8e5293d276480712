/- The plain law of VarintReads: what stands at the beginning of all bytes is what the document says. -/
import Derived.Test.YtlhinklnnjbmpaaDoorSr
import Derived.Test.YtlhinklnnjbmpaaDoorGAx9
namespace Go.Proofs.YtlhinklnnjbmpaaDoor.Pure
open Go.RowKit Go.Proofs.YtlhinklnnjbmpaaDoor.Vm Go.Proofs.YtlhinklnnjbmpaaDoor.Vw Go.Proofs.YtlhinklnnjbmpaaDoor.Sp Go.Proofs.YtlhinklnnjbmpaaDoorW.PrintWords Go.Proofs.YtlhinklnnjbmpaaDoorW.PrintLast Go.Proofs.YtlhinklnnjbmpaaDoor.GA Go.Proofs.YtlhinklnnjbmpaaDoor.GP
set_option linter.unusedVariables false
set_option linter.unusedSimpArgs false
theorem VarintReads : cisternlaw02_VarintReads.Pure := by
  intro s hs
  rw [← bs_data s] at hs ⊢
  rw [bs_size] at hs
  generalize s.data.toList = l at *
  refine ⟨3 * l.length + 40, ?_⟩
  unfold cisternlaw02_VarintReads.f
  rw [varint_Len_f l _ (by omega), ref_Len_f l _ (by omega), varint_Int_f l hs, ref_Int_f l _ (by omega), Number_f l hs, ref_Number_f l hs _ (by omega), works_f _ (by omega)]
  simp [Option.bind_some]
end Go.Proofs.YtlhinklnnjbmpaaDoor.Pure
