/-
  What the listed package-level variables hold, in every world that turns nothing below them; the library's Itoa and AppendInt by it. Conditions: those that each theorem states.
-/
import Derived.Test.YtfpknhhhjgdjbaaDoorGLib
import Derived.Test.YtfpknhhhjgdjbaaDoorShelf
namespace Go.Proofs.YtfpknhhhjgdjbaaDoor
open Go.RowKit
set_option maxRecDepth 100000

structure CtxAt (w : World) : Prop where
  size : 5 ≤ w.heap.size
  pow : Lib.TabIs Tryd.prog w "internal/strconv.uint64pow10" .u64 Lib.pow10Tab
  tz : w.cell? ⟨4, 15, none⟩ = some (.int .u8 4)
  errS : ∃ te pe, w.cell? ⟨0, 0, none⟩ = some (.iface te pe)
  errR : ∃ te pe, w.cell? ⟨1, 0, none⟩ = some (.iface te pe)
def Ctx (w : World) : Prop := ∀ w', Below 5 w w' → CtxAt w'
theorem Ctx.here {w : World} (h : Ctx w) : CtxAt w := h w (Below.refl _ _)
theorem Ctx.below {w w' : World} {B : Nat} (h : Ctx w) (hb : Below B w w') (hB : 5 ≤ B) : Ctx w' := fun w2 h2 => h w2 ((hb.mono hB).trans h2)
theorem Ctx.on {w w' : World} (h : Ctx w) (hb : Below w.heap.size w w') : Ctx w' := h.below hb h.here.size
theorem Ctx.tab {w : World} (h : Ctx w) {B : Nat} (hB : 5 ≤ B) : Lib.TabBelow Tryd.prog B w "internal/strconv.uint64pow10" .u64 Lib.pow10Tab := fun w' hb => (h w' (hb.mono hB)).pow
theorem below_grow' (w : World) (k : Nat) (os : Array Obj) : Below w.heap.size w (Go.Sort.grow (w.drewN k) os) := Lib.below_grow _ _ (Nat.le_refl _) _ _

/-- strconv.Itoa -/
theorem Itoa_any (n : Int) (h0 : -9223372036854775808 ≤ n) (h1 : n ≤ 9223372036854775807) (w : World) (hc : Ctx w) :
    Calls Tryd.prog 53 #[.int .i64 n] w fun e w' => e = .returned (.string ⟨(Lib.itoa n).toArray⟩) ∧ Below w.heap.size w w' :=
  (Tryd.strconv_Itoa n h0 h1 w hc.here.pow).mono fun _ _ ⟨he, k, os, hw⟩ => ⟨he, by rw [hw]; exact below_grow' w k os⟩

/-- The part of it that decimal forms ask. -/
structure CtxPAt (w : World) : Prop where
  size : 5 ≤ w.heap.size
  pow : Lib.TabIs Tryd.prog w "internal/strconv.uint64pow10" .u64 Lib.pow10Tab
  tz : w.cell? ⟨4, 15, none⟩ = some (.int .u8 4)
def CtxP (w : World) : Prop := ∀ w', Below 5 w w' → CtxPAt w'
theorem Ctx.p {w : World} (h : Ctx w) : CtxP w := fun w' hb => { size := (h w' hb).size, pow := (h w' hb).pow, tz := (h w' hb).tz }
theorem CtxP.here {w : World} (h : CtxP w) : CtxPAt w := h w (Below.refl _ _)
theorem CtxP.below {w w' : World} {B : Nat} (h : CtxP w) (hb : Below B w w') (hB : 5 ≤ B) : CtxP w' := fun w2 h2 => h w2 ((hb.mono hB).trans h2)
theorem CtxP.on {w w' : World} (h : CtxP w) (hb : Below w.heap.size w w') : CtxP w' := h.below hb h.here.size
theorem CtxP.tab {w : World} (h : CtxP w) {B : Nat} (hB : 5 ≤ B) : Lib.TabBelow Tryd.prog B w "internal/strconv.uint64pow10" .u64 Lib.pow10Tab := fun w' hb => (h w' (hb.mono hB)).pow
/-- strconv.Itoa -/
theorem ItoaP_any (n : Int) (h0 : -9223372036854775808 ≤ n) (h1 : n ≤ 9223372036854775807) (w : World) (hc : CtxP w) :
    Calls Tryd.prog 53 #[.int .i64 n] w fun e w' => e = .returned (.string ⟨(Lib.itoa n).toArray⟩) ∧ Below w.heap.size w w' :=
  (Tryd.strconv_Itoa n h0 h1 w hc.here.pow).mono fun _ _ ⟨he, k, os, hw⟩ => ⟨he, by rw [hw]; exact below_grow' w k os⟩
end Go.Proofs.YtfpknhhhjgdjbaaDoor
