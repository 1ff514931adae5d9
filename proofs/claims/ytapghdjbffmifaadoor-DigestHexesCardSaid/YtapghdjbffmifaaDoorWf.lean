/-
  From a number's being well formed for its kind to its bounds. Conditions: none.
-/
import Derived.Test.YtapghdjbffmifaaDoorDigA
import Derived.OpenShut
namespace Go.Proofs.YtapghdjbffmifaaDoor
theorem u64_of_wf {x : Int} (h : (Lit.int .u64 x).wf = true) : U64 x := by
  have := bounds_u64 h
  unfold U64; omega
theorem u8_of_wf {x : Int} (h : (Lit.int .u8 x).wf = true) : 0 ≤ x ∧ x ≤ 255 := by
  have := bounds_u8 h
  omega
theorem byte_of_wf {x : Int} (h : (Lit.int .u8 x).wf = true) : ∃ c : UInt8, x = c.toNat := by
  have := u8_of_wf h
  exact ⟨UInt8.ofNat x.toNat, by rw [ofNat_toNat _ (by omega)]; omega⟩
end Go.Proofs.YtapghdjbffmifaaDoor
