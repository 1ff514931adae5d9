/-
  What the package-level variables hold in every world that turns nothing below them. Conditions: none.
-/
import Derived.Test.YtcoflmckbcnlpaaGreatDoorGCon
import Derived.Test.YtcoflmckbcnlpaaGreatDoorGEng
import Derived.Lib.Itoa
namespace Go.Proofs.YtcoflmckbcnlpaaGreatDoor
open Go.RowKit
set_option maxRecDepth 100000
def stepsV : List Value := [.int .i64 0, .int .i64 0, .int .i64 1, .int .i64 0, .int .i64 0, .int .i64 1, .int .i64 0, .int .i64 0, .int .i64 1, .int .i64 1]
def classesV : List Value := [.int .i64 0, .int .i64 30, .int .i64 60, .int .i64 90]
structure CtxPAt (w : World) : Prop where
  size : (6 + 1) ≤ w.heap.size
  pow : Lib.TabIs Tryz.prog w "internal/strconv.uint64pow10" .u64 Lib.pow10Tab
  tz : w.cell? ⟨6, 15, none⟩ = some (.int .u8 4)
  steps : At w 1 0 stepsV
  classes : At w 0 0 classesV
def CtxP (w : World) : Prop := ∀ w', Below (6 + 1) w w' → CtxPAt w'
theorem CtxP.here {w : World} (h : CtxP w) : CtxPAt w := h w (Below.refl _ _)
theorem CtxP.below {w w' : World} {B : Nat} (h : CtxP w) (hb : Below B w w') (hB : (6 + 1) ≤ B) : CtxP w' := fun w2 h2 => h w2 ((hb.mono hB).trans h2)
theorem CtxP.on {w w' : World} (h : CtxP w) (hb : Below w.heap.size w w') : CtxP w' := h.below hb h.here.size
theorem base : Base Tryz.prog CtxP := ⟨by kernel_rfl, fun _ _ h hb => h.on hb⟩
def glbE : Glb := fun g => bif Nat.beq g 1 then some stepsV else bif Nat.beq g 0 then some classesV else none
theorem glbE_ok : GlbOk CtxP glbE := by
  intro w hw g cs h
  unfold glbE at h
  cases h1 : Nat.beq g 1 with
  | true =>
    have := Nat.eq_of_beq_eq_true h1
    subst this
    rw [h1] at h
    cases h
    exact ⟨hw.here.steps, by decide⟩
  | false =>
    rw [h1] at h
    cases h2 : Nat.beq g 0 with
    | true =>
      have := Nat.eq_of_beq_eq_true h2
      subst this
      rw [h2] at h
      cases h
      exact ⟨hw.here.classes, by decide⟩
    | false => rw [h2] at h; cases h
end Go.Proofs.YtcoflmckbcnlpaaGreatDoor