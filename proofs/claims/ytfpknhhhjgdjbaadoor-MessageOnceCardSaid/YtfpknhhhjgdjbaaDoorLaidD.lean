/-
  What the list of variables of the laws on digests gives every walk. Conditions: the variables read as listed.
-/
import Derived.Test.YtfpknhhhjgdjbaaDoorFrame
namespace Go.Proofs.YtfpknhhhjgdjbaaDoor
open Go.ChangeShapes Go.WideShapes Go.RowKit
set_option maxRecDepth 100000

abbrev laidD : List (String × DataW Unit) := [("math/bits.deBruijn32tab", Rows.laid_math_bits_deBruijn32tab), ("math/bits.deBruijn64tab", Rows.laid_math_bits_deBruijn64tab), ("internal/strconv.uint64pow10", Rows.laid_internal_strconv_uint64pow10), ("strconv.ErrRange", Rows.laid_strconv_ErrRange), ("strconv.ErrSyntax", Rows.laid_strconv_ErrSyntax)]

theorem star : "*" ++ "errors.errorString" = "*errors.errorString" := by decide
theorem row_star : ∀ u, Tryd.prog.typeName? 3 u = some "*errors.errorString" → u = 119 := fun u h =>
  typeName_ptr_named (nm := "errors.errorString") (by rw [star]; kernel_rfl) (by kernel_rfl) (by decide) u (by rw [star]; exact h)
def tab64 : List Int := [0, 1, 56, 2, 57, 49, 28, 3, 61, 58, 42, 50, 38, 29, 17, 4, 62, 47, 59, 36, 45, 43, 51, 22, 53, 39, 33, 30, 24, 18, 12, 5, 63, 55, 48, 27, 60, 41, 37, 16, 46, 35, 44, 21, 52, 32, 23, 11, 54, 26, 40, 15, 34, 20, 31, 10, 25, 14, 19, 9, 13, 8, 7, 6]

theorem size_of_laid {W : World} (h : W.cell? ⟨5 - 1, 0, none⟩ ≠ none) : 5 ≤ W.heap.size := by
  rcases hc : W.cell? ⟨5 - 1, 0, none⟩ with _ | v
  · exact absurd hc h
  · have := World.block_lt_of_cell? W _ hc
    simp at this
    omega
theorem ctxAt_of_laid {W : World} (h : laidMetH Tryd.prog laidD W) : CtxAt W := by
  rw [MakeChecks.laidMetH_plain _ _ _ (by kernel_rfl)] at h
  have h64 : Lib.TabIs Tryd.prog W "math/bits.deBruijn64tab" .u8 tab64 := tabIs_at (g := 4) (t := 124) (e := 5) (n := 64) (by kernel_rfl) (by kernel_rfl) Tryd.underlying124 Tryd.underlying5 (by kernel_rfl) (by kernel_rfl) h.tail
  have hpow : Lib.TabIs Tryd.prog W "internal/strconv.uint64pow10" .u64 Lib.pow10Tab := tabIs_at (g := 2) (t := 113) (e := 72) (n := 20) (by kernel_rfl) (by kernel_rfl) Tryd.underlying113 Tryd.underlying72 (by kernel_rfl) (by kernel_rfl) h.tail.tail
  have hR := iface_at h.tail.tail.tail (g := 1) (ti := 69) (by kernel_rfl) (by kernel_rfl) Tryd.underlying69 row_star Tryd.underlying119 Tryd.underlying121 rfl rfl Tryd.underlying9 (by kernel_rfl) (by kernel_rfl)
  have hS := iface_at h.tail.tail.tail.tail (g := 0) (ti := 69) (by kernel_rfl) (by kernel_rfl) Tryd.underlying69 row_star Tryd.underlying119 Tryd.underlying121 rfl rfl Tryd.underlying9 (by kernel_rfl) (by kernel_rfl)
  have h4 := h64.cell (g := 4) (by kernel_rfl) 15 (by decide)
  have h0 := h64.cell (g := 4) (by kernel_rfl) 0 (by decide)
  exact ⟨size_of_laid (by show W.cell? ⟨4, 0, none⟩ ≠ none; rw [h0]; simp), hpow, h4, hS, hR⟩
theorem ctxAt_below {W W' : World} (h : CtxAt W) (hb : Below 5 W W') : CtxAt W' := by
  obtain ⟨h0, h1, h2, ⟨a, b, h3⟩, ⟨c, d, h4⟩⟩ := h
  refine ⟨Nat.le_trans h0 hb.size, ?_, ?_, ⟨a, b, ?_⟩, ⟨c, d, ?_⟩⟩
  · exact var_below (g := 2) hb (by kernel_rfl) (by decide) h1
  · exact (hb.cell (by decide)).trans h2
  · exact (hb.cell (by decide)).trans h3
  · exact (hb.cell (by decide)).trans h4
theorem ctx_of_laidD {W : World} (h : laidMetH Tryd.prog laidD W) : Ctx W := fun _ hb => ctxAt_below (ctxAt_of_laid h) hb
theorem doorD (os : Os) (args : Array Value) : laidMetH Tryd.prog laidD ((World.doorLaid Tryd.prog 400 os).forCall (fun _ _ => 0) ⟨#[], args, []⟩).memory :=
  laidMetH_of_parts3 (fuel := 8) (laidMet_of_run' 8 (by kernel_rfl) (by kernel_rfl)) (by kernel_rfl) (by kernel_rfl)
end Go.Proofs.YtfpknhhhjgdjbaaDoor
