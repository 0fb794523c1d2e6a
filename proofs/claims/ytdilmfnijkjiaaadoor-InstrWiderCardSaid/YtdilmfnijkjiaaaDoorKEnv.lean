import Derived.Test.YtdilmfnijkjiaaaDoorRows
import Derived.Test.YtdilmfnijkjiaaaDoorK67
import Derived.Stop.LaidErr
import Derived.MakeChecks
import Derived.Lib.LaidTab
set_option maxRecDepth 100000
namespace Go.Proofs.YtdilmfnijkjiaaaDoor.K
open Go.RowKit Go.ChangeShapes
def laid7 : List (String × DataW Unit) := [("math/bits.deBruijn32tab", Rows.laid_math_bits_deBruijn32tab), ("math/bits.deBruijn64tab", Rows.laid_math_bits_deBruijn64tab), ("internal/strconv.uint64pow10", Rows.laid_internal_strconv_uint64pow10), ("unicode/utf8.acceptRanges", Rows.laid_unicode_utf8_acceptRanges), ("strconv.ErrRange", Rows.laid_strconv_ErrRange), ("strconv.ErrSyntax", Rows.laid_strconv_ErrSyntax), ("unicode/utf8.first", Rows.laid_unicode_utf8_first)]
theorem gES : Tryd.prog.globalNamed "strconv.ErrSyntax" = some 2 := by kernel_rfl
theorem gER : Tryd.prog.globalNamed "strconv.ErrRange" = some 3 := by kernel_rfl
theorem gESType : (Tryd.prog.globals[2]?).map (·.type) = some 138 := by kernel_rfl
theorem gERType : (Tryd.prog.globals[3]?).map (·.type) = some 138 := by kernel_rfl
theorem gTabType : (Tryd.prog.globals[1]?).map (·.type) = some 181 := by kernel_rfl
theorem cells198 : Tryd.prog.cellsOf 198 = 1 := by kernel_rfl
theorem cells9 : Tryd.prog.cellsOf 9 = 1 := by kernel_rfl
theorem star : "*" ++ "errors.errorString" = "*errors.errorString" := by decide
theorem row196 (u : TypeId) (h : Tryd.prog.typeName? 3 u = some "*errors.errorString") : u = 196 :=
  typeName_ptr_named (nm := "errors.errorString") (by rw [star]; kernel_rfl) (by kernel_rfl) (by decide) u (by rw [star]; exact h)
theorem pow10_tab : (Rows.laid_internal_strconv_uint64pow10 : DataW Unit) = Lib.tabData .u64 Lib.pow10Tab := by rfl
theorem env_of_laid {W : World} (h : laidMetH Tryd.prog laid7 W) (hsh : W.ShapedOpen Tryd.prog) : Env W := by
  rw [MakeChecks.laidMetH_plain _ _ _ (by kernel_rfl)] at h
  have h2 := h.tail.tail
  have h4 := h2.tail.tail
  refine ⟨Tryd.laysM146.s1_3 W hsh, ?_, ?_, ?_⟩
  · unfold laid7 at h2
    rw [pow10_tab] at h2
    exact Lib.tabIs_of_head glob1 gTabType Tryd.underlying181 (by first | exact Tryd.underlying0 | kernel_rfl) (by kernel_rfl) (by kernel_rfl) h2
  · obtain ⟨a1, s1, hv1, -, -, -⟩ := laid_sentinel h4.tail gES gESType Tryd.underlying138 row196 Tryd.underlying196 Tryd.underlying198 rfl rfl Tryd.underlying9 cells198 cells9
    exact ⟨_, _, by have h0 := World.var?_cell gES hv1 0; simpa using h0⟩
  · obtain ⟨a0, s0, hv0, -, -, -⟩ := laid_sentinel h4 gER gERType Tryd.underlying138 row196 Tryd.underlying196 Tryd.underlying198 rfl rfl Tryd.underlying9 cells198 cells9
    exact ⟨_, _, by have h0 := World.var?_cell gER hv0 0; simpa using h0⟩
end Go.Proofs.YtdilmfnijkjiaaaDoor.K
