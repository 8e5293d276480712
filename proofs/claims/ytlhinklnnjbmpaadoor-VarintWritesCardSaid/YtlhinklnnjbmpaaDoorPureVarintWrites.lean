/- The plain law of VarintWrites: of every number the bytes and the text are the document's. -/
import Derived.Test.YtlhinklnnjbmpaaDoorSr
namespace Go.Proofs.YtlhinklnnjbmpaaDoor.Pure
open Go.RowKit Go.Proofs.YtlhinklnnjbmpaaDoor.Vm Go.Proofs.YtlhinklnnjbmpaaDoor.Vw Go.Proofs.YtlhinklnnjbmpaaDoor.Sp Go.Proofs.YtlhinklnnjbmpaaDoorW.PrintWords Go.Proofs.YtlhinklnnjbmpaaDoorW.PrintLast Go.Proofs.YtlhinklnnjbmpaaDoor.GA Go.Proofs.YtlhinklnnjbmpaaDoor.GP
set_option linter.unusedVariables false
set_option linter.unusedSimpArgs false
theorem int_wf {n : Int} (h : (Lit.int .i64 n).wf = true) : -9223372036854775808 ≤ n ∧ n ≤ 9223372036854775807 := by
  have e1 : IntKind.i64.min = -9223372036854775808 := rfl
  have e2 : IntKind.i64.max = 9223372036854775807 := rfl
  simp [Lit.wf, e1, e2] at h
  omega
theorem VarintWrites : cisternlaw02_VarintWrites.Pure := by
  intro n hn
  obtain ⟨h0, h1⟩ := int_wf hn
  refine ⟨40, ?_⟩
  unfold cisternlaw02_VarintWrites.f
  rw [varint_PutLen_f n 40 (by decide), ref_PutLen_f n 40 (by decide), varint_PutInt_f, ref_PutInt_f n 40 (by decide), works_f 40 (by decide), Digits_f n h0 h1, ref_Digits_f n h0 h1 40 (by decide)]
  simp [Option.bind_some]
end Go.Proofs.YtlhinklnnjbmpaaDoor.Pure
