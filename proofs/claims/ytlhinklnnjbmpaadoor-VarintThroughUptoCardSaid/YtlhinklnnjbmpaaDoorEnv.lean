/- From a row's condition to what the library reads: EnvOK. -/
import Derived.Test.YtlhinklnnjbmpaaDoorRows
import Derived.Test.YtlhinklnnjbmpaaDoorVw
import Derived.ProofKit
import Derived.LaidMore
import Derived.OpenShut
import Derived.Stop.Joined
import Derived.Stop.LaidErr
import Derived.Lib.LaidTab
namespace Go.Proofs.YtlhinklnnjbmpaaDoor.Env
open Go.ChangeShapes Go.WideShapes Go.ChangeAt Go.WideMaps Go.WideElems Go.RowKit Go.Proofs.YtlhinklnnjbmpaaDoor.Vw Go.Proofs.YtlhinklnnjbmpaaDoorW.PrintWords
set_option linter.unusedVariables false
set_option linter.unusedSimpArgs false
theorem own : ownKnob Tryd.prog.godebug = none := by kernel_rfl
def laidL : List (String × DataW Unit) := [("math/bits.deBruijn32tab", Rows.laid_math_bits_deBruijn32tab), ("math/bits.deBruijn64tab", Rows.laid_math_bits_deBruijn64tab), ("internal/strconv.uint64pow10", Rows.laid_internal_strconv_uint64pow10), ("strconv.ErrRange", Rows.laid_strconv_ErrRange), ("strconv.ErrSyntax", Rows.laid_strconv_ErrSyntax)]
set_option maxRecDepth 100000 in
theorem door_met (os : Os) (args : Array Value) : laidMetH Tryd.prog laidL ((World.doorLaid Tryd.prog 62 os).forCall (fun _ _ => 0) ⟨#[], args, []⟩).memory :=
  laidMetH_of_parts3 (fuel := 8) (laidMet_of_run' 8 (by kernel_rfl) (by kernel_rfl)) (by kernel_rfl) (by kernel_rfl)
theorem g_internal_strconv_uint64pow10 : Tryd.prog.globalNamed "internal/strconv.uint64pow10" = some 2 := by kernel_rfl
theorem t_internal_strconv_uint64pow10 : (Tryd.prog.globals[2]?).map (·.type) = some 114 := by kernel_rfl
theorem g_strconv_ErrRange : Tryd.prog.globalNamed "strconv.ErrRange" = some 1 := by kernel_rfl
theorem t_strconv_ErrRange : (Tryd.prog.globals[1]?).map (·.type) = some 86 := by kernel_rfl
theorem g_strconv_ErrSyntax : Tryd.prog.globalNamed "strconv.ErrSyntax" = some 0 := by kernel_rfl
theorem t_strconv_ErrSyntax : (Tryd.prog.globals[0]?).map (·.type) = some 86 := by kernel_rfl
theorem cE : Tryd.prog.cellsOf 122 = 1 := by kernel_rfl
theorem cS : Tryd.prog.cellsOf 9 = 1 := by kernel_rfl
theorem star : "*" ++ "errors.errorString" = "*errors.errorString" := by decide
theorem rowE (u : TypeId) (h : Tryd.prog.typeName? 3 u = some "*errors.errorString") : u = 120 :=
  typeName_ptr_named (nm := "errors.errorString") (by rw [star]; kernel_rfl) (by kernel_rfl) (by decide) u (by rw [star]; exact h)
theorem cT : Tryd.prog.cellsOf 114 = 20 := by kernel_rfl
theorem cU : Tryd.prog.cellsOf 82 = 1 := by kernel_rfl
theorem tabE {H : Type} : (Rows.laid_internal_strconv_uint64pow10 : DataW H) = Lib.tabData .u64 Lib.pow10Tab := by rfl
theorem tabIs_of {W : World} {r : List (String × DataW Unit)} (h : laidMet Tryd.prog (("internal/strconv.uint64pow10", Rows.laid_internal_strconv_uint64pow10) :: r) W) : Lib.TabIs Tryd.prog W "internal/strconv.uint64pow10" .u64 Lib.pow10Tab := by
  rw [tabE] at h
  exact Lib.tabIs_of_head g_internal_strconv_uint64pow10 t_internal_strconv_uint64pow10 Tryd.underlying114 Tryd.underlying82 cU cT h
/-- WHAT THE CONDITION GIVES. -/
theorem of_laid {W : World} (h : laidMetH Tryd.prog laidL W) : Aside0 (EnvOK W) := by
  rw [MakeChecks.laidMetH_plain _ _ _ (by kernel_rfl)] at h
  have h2 := tabIs_of (h.tail.tail)
  obtain ⟨_, _, hr, -, -, -⟩ := laid_sentinel (h.tail.tail.tail) g_strconv_ErrRange t_strconv_ErrRange Tryd.underlying86 rowE Tryd.underlying120 Tryd.underlying122 rfl rfl Tryd.underlying9 cE cS
  obtain ⟨_, _, hs, -, -, -⟩ := laid_sentinel (h.tail.tail.tail.tail) g_strconv_ErrSyntax t_strconv_ErrSyntax Tryd.underlying86 rowE Tryd.underlying120 Tryd.underlying122 rfl rfl Tryd.underlying9 cE cS
  exact ⟨⟨h2, ⟨_, _, hs⟩, ⟨_, _, hr⟩⟩⟩
end Go.Proofs.YtlhinklnnjbmpaaDoor.Env
