/- What the row's listed variables give the walks; a start that meets the condition. -/
import Derived.Test.YtdpbklckeamjpaaDoorScrP
import Derived.Test.YtdpbklckeamjpaaDoorRows
import Derived.ProofKit
import Derived.LaidMore
import Derived.OpenShut
import Derived.Stop.Joined
import Derived.Stop.LaidErr
import Derived.Lib.LaidTab
namespace Go.Proofs.YtdpbklckeamjpaaDoor.Scr
open Go.RowKit Go.ChangeShapes Go.WideShapes Go.ChangeAt
def laidL : List (String × DataW Unit) := [("math/bits.deBruijn32tab", Rows.laid_math_bits_deBruijn32tab), ("math/bits.deBruijn64tab", Rows.laid_math_bits_deBruijn64tab), ("internal/strconv.uint64pow10", Rows.laid_internal_strconv_uint64pow10), ("strconv.ErrRange", Rows.laid_strconv_ErrRange), ("strconv.ErrSyntax", Rows.laid_strconv_ErrSyntax)]
theorem row_err (u : TypeId) (h : Tryd.prog.typeName? 3 u = some "*errors.errorString") : u = 122 :=
  typeName_ptr_named (nm := "errors.errorString") (by rw [show ("*" ++ "errors.errorString" : String) = "*errors.errorString" by decide]; kernel_rfl) (by kernel_rfl) (by decide) u (by rw [show ("*" ++ "errors.errorString" : String) = "*errors.errorString" by decide]; exact h)
theorem c124 : Tryd.prog.cellsOf 124 = 1 := by kernel_rfl
theorem c9 : Tryd.prog.cellsOf 9 = 1 := by kernel_rfl
/-- The listed variables, as the walks want them. -/
theorem vars_of_laid {W : World} (h : laidMetH Tryd.prog laidL W) : Vars W := by
  rw [MakeChecks.laidMetH_plain _ _ _ (by kernel_rfl)] at h
  have h3 := h.tail.tail
  obtain ⟨a0, s0, v0, -, -, -⟩ := laid_sentinel (P := Tryd.prog) (g := 3) (ti := 75) (tp := 122) (te := 124) (ts := 9) h3.tail (by kernel_rfl) (by kernel_rfl) Tryd.underlying75 row_err Tryd.underlying122 Tryd.underlying124 rfl rfl Tryd.underlying9 c124 c9
  obtain ⟨a1, s1, v1, -, -, -⟩ := laid_sentinel (P := Tryd.prog) (g := 2) (ti := 75) (tp := 122) (te := 124) (ts := 9) h3.tail.tail (by kernel_rfl) (by kernel_rfl) Tryd.underlying75 row_err Tryd.underlying122 Tryd.underlying124 rfl rfl Tryd.underlying9 c124 c9
  exact ⟨Lib.tabIs_of_head (g := 1) (t := 103) (e := 84) (n := 20) (by kernel_rfl) (by kernel_rfl) Tryd.underlying103 Tryd.underlying84 (by kernel_rfl) (by kernel_rfl) h3, ⟨_, _, v1⟩, ⟨_, _, v0⟩⟩
/-- The door's own heap meets the condition. -/
theorem door_met (os : Os) (args : Array Value) : laidMetH Tryd.prog laidL ((World.doorLaid Tryd.prog 62 os).forCall (fun _ _ => 0) ⟨#[], args, []⟩).memory :=
  laidMetH_of_parts3 (fuel := 8) (laidMet_of_run' 8 (by kernel_rfl) (by kernel_rfl)) (by kernel_rfl) (by kernel_rfl)
end Go.Proofs.YtdpbklckeamjpaaDoor.Scr
