/-
  What the list of variables of the laws on decimal forms gives every walk. Conditions: the variables read as listed.
-/
import Derived.Test.YtmnnphalljnmhaaDoorFrame
namespace Go.Proofs.YtmnnphalljnmhaaDoor
open Go.ChangeShapes Go.WideShapes Go.RowKit
set_option maxRecDepth 100000

abbrev laidT : List (String × DataW Unit) := [("math/bits.deBruijn32tab", Rows.laid_math_bits_deBruijn32tab), ("math/bits.deBruijn64tab", Rows.laid_math_bits_deBruijn64tab), ("internal/strconv.uint64pow10", Rows.laid_internal_strconv_uint64pow10)]
def tab64T : List Int := [0, 1, 56, 2, 57, 49, 28, 3, 61, 58, 42, 50, 38, 29, 17, 4, 62, 47, 59, 36, 45, 43, 51, 22, 53, 39, 33, 30, 24, 18, 12, 5, 63, 55, 48, 27, 60, 41, 37, 16, 46, 35, 44, 21, 52, 32, 23, 11, 54, 26, 40, 15, 34, 20, 31, 10, 25, 14, 19, 9, 13, 8, 7, 6]

theorem size_of_laidT {W : World} (h : W.cell? ⟨5 - 1, 0, none⟩ ≠ none) : 5 ≤ W.heap.size := by
  rcases hc : W.cell? ⟨5 - 1, 0, none⟩ with _ | v
  · exact absurd hc h
  · have := World.block_lt_of_cell? W _ hc
    simp at this
    omega
theorem ctxPAt_of_laid {W : World} (h : laidMetH Tryd.prog laidT W) : CtxPAt W := by
  rw [MakeChecks.laidMetH_plain _ _ _ (by kernel_rfl)] at h
  have h64 : Lib.TabIs Tryd.prog W "math/bits.deBruijn64tab" .u8 tab64T := tabIs_at (g := 4) (t := 157) (e := 5) (n := 64) (by kernel_rfl) (by kernel_rfl) Tryd.underlying157 Tryd.underlying5 (by kernel_rfl) (by kernel_rfl) h.tail
  have hpow : Lib.TabIs Tryd.prog W "internal/strconv.uint64pow10" .u64 Lib.pow10Tab := tabIs_at (g := 2) (t := 151) (e := 24) (n := 20) (by kernel_rfl) (by kernel_rfl) Tryd.underlying151 Tryd.underlying24 (by kernel_rfl) (by kernel_rfl) h.tail.tail
  have h4 := h64.cell (g := 4) (by kernel_rfl) 15 (by decide)
  have h0 := h64.cell (g := 4) (by kernel_rfl) 0 (by decide)
  exact ⟨size_of_laidT (by show W.cell? ⟨4, 0, none⟩ ≠ none; rw [h0]; simp), hpow, h4⟩
theorem ctxPAt_below {W W' : World} (h : CtxPAt W) (hb : Below 5 W W') : CtxPAt W' := by
  obtain ⟨h0, h1, h2⟩ := h
  refine ⟨Nat.le_trans h0 hb.size, ?_, ?_⟩
  · exact var_below (g := 2) hb (by kernel_rfl) (by decide) h1
  · exact (hb.cell (by decide)).trans h2
theorem ctx_of_laidT {W : World} (h : laidMetH Tryd.prog laidT W) : CtxP W := fun _ hb => ctxPAt_below (ctxPAt_of_laid h) hb
theorem doorT (os : Os) (args : Array Value) : laidMetH Tryd.prog laidT ((World.doorLaid Tryd.prog 400 os).forCall (fun _ _ => 0) ⟨#[], args, []⟩).memory :=
  laidMetH_of_parts3 (fuel := 8) (laidMet_of_run' 8 (by kernel_rfl) (by kernel_rfl)) (by kernel_rfl) (by kernel_rfl)
end Go.Proofs.YtmnnphalljnmhaaDoor
