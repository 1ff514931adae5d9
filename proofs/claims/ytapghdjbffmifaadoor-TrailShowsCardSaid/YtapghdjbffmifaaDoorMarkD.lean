/-
  Marks of a trail: their cells, what is allowed. Conditions: the texts are short, the list fits in memory.
-/
import Derived.Test.YtapghdjbffmifaaDoorNames
import Derived.Test.YtapghdjbffmifaaDoorPack
namespace Go.Proofs.YtapghdjbffmifaaDoor
open Go.RowKit
set_option maxRecDepth 100000

structure MarkV where
  day : Int
  user : ByteArray
  action : ByteArray
  object : ByteArray
  chain : Int
def MarkV.cells (m : MarkV) : List Value := [.int .i64 m.day, .string m.user, .string m.action, .string m.object, .int .u64 m.chain]
def MarkV.val (m : MarkV) : Value := .agg #[.int .i64 m.day, .string m.user, .string m.action, .string m.object, .int .u64 m.chain]
/-- A mark with short texts. -/
structure MarkV.Ok (m : MarkV) : Prop where
  d0 : -9223372036854775808 ≤ m.day
  d1 : m.day ≤ 9223372036854775807
  u : m.user.size ≤ 100
  a : m.action.size ≤ 100
  o : m.object.size ≤ 100
  c : U64 m.chain
theorem MarkV.cells_len (m : MarkV) : m.cells.length = 5 := rfl
def mcells (l : List MarkV) : List Value := l.flatMap MarkV.cells
def fieldsOk (m : MarkV) : Bool := validD m.day && namedL m.user.data.toList && plainL m.action.data.toList && plainL m.object.data.toList
def backL (l : List MarkV) (d : Int) : Bool := match l.getLast? with
  | some p => decide (d < p.day)
  | none => false
def allowedF (l : List MarkV) (m : MarkV) : Int := if fieldsOk m = true then (if backL l m.day = true then 10 else if 4096 ≤ l.length then 5 else 0) else 1
/-- The last mark of a list that is not empty. -/
theorem marks_last {w : World} {B : Nat} {A : Option Addr} {l : List MarkV} (hr : Reads w B 5 A l.length (mcells l)) (h : 0 < l.length) :
    ∃ (b o : Nat) (p : MarkV), A = some ⟨b, o, none⟩ ∧ b < B ∧ l.getLast? = some p ∧ w.cell? ⟨b, o + (l.length - 1) * 5, none⟩ = some (.int .i64 p.day) ∧ w.cell? ⟨b, o + ((l.length - 1) * 5 + 4), none⟩ = some (.int .u64 p.chain) := by
  obtain ⟨b, o, rfl, hb, hc⟩ := hr.elem MarkV.cells_len rfl (l.length - 1) (by omega)
  refine ⟨b, o, l[l.length - 1], rfl, hb, by rw [List.getLast?_eq_getElem?, List.getElem?_eq_getElem (by omega)], ?_, ?_⟩
  · exact hc 0 _ (by omega) rfl
  · exact hc 4 _ (by omega) rfl

end Go.Proofs.YtapghdjbffmifaaDoor
