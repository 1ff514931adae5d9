/-
  A contract at given arguments serves as well; the penalty of an example. Conditions: those that each theorem states.
-/
import Derived.Test.YtcoflmckbcnlpaaGreatDoorLK
namespace Go.Proofs.YtcoflmckbcnlpaaGreatDoor
open Go.RowKit
set_option maxRecDepth 100000
noncomputable def orcK (g : FuncId) (us : List AV) (r : AV) (o : XO) : XO := fun f hp args id => bif Nat.beq f g then (match cls hp args with
    | some x => bif eqL avEq2 x.1 us then some (r, .frz (bif noSl r then [] else x.2)) else o f hp args id
    | none => o f hp args id) else o f hp args id
theorem orcK_ok {P : Program} {C : World → Prop} {g : FuncId} {us : List AV} {r : AV} {o : XO} (hr : Con P C g us (.val r)) (ho : OrcOk P C o) : OrcOk P C (orcK g us r o) := by
  intro f hp args id u e h k hk
  unfold orcK at h
  cases h1 : Nat.beq f g with
  | false =>
    rw [h1] at h
    exact ho f hp args id u e h k hk
  | true =>
    rw [h1] at h
    have := Nat.eq_of_beq_eq_true h1
    subst this
    cases hc : cls hp args with
    | none =>
      rw [hc] at h
      exact ho f hp args id u e h k hk
    | some x =>
      rw [hc] at h
      dsimp only [cond_true] at h
      cases hb : eqL avEq2 x.1 us with
      | false =>
        rw [hb] at h
        exact ho f hp args id u e h k hk
      | true =>
        rw [hb] at h
        have he := eqL_of (fun _ _ => avEq2_of) hb
        obtain ⟨x1, x2⟩ := x
        dsimp only at he h
        subst he
        cases h
        refine call_val hc hr ?_
        cases hn : noSl r with
        | true => rw [hn] at hk; exact hk
        | false => rw [hn] at hk; exact hk
noncomputable def twoAV : AV := (xcall eng2 1000 49 []).getD .und
theorem Pen_con : Con Tryz.prog CtxP 48 [twoAV, .ex (.int .i64 31), .ex (.int .i64 59)] (.val (.tup [.agg [.ex (.int .i64 0), .ex (.int .u64 6132000000000)], .ex (.int .i64 0)])) :=
  xcall_con (E := eng2) (n := 1000) base glbE_ok orc2_ok (by kernel_rfl)
end Go.Proofs.YtcoflmckbcnlpaaGreatDoor