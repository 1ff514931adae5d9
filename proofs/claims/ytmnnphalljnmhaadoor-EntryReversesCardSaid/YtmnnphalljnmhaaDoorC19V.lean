/-
  Chapter 19's laws, what they share. Conditions: those that each theorem states.
-/
import Derived.Test.YtmnnphalljnmhaaDoorC19U
import Derived.Test.YtmnnphalljnmhaaDoorOpen19
namespace Go.Proofs.YtmnnphalljnmhaaDoor
open Go.RowKit
set_option maxRecDepth 100000
set_option linter.unusedSimpArgs false

theorem ok_of {e : EntV} (h : e.Wf) (hg : greatE e = false) : e.Ok := ⟨h.i1, h.i2, h.i3, h.i4, h.i5, h.i6, h.k, h.t, h.l, by have := (not_great hg).1; omega, h.c⟩
theorem rt_of {e : EntV} (h : e.Wf) (hg : greatE e = false) : e.Rt := by
  obtain ⟨g1, g2, g3, g4⟩ := not_great hg
  refine ⟨fun n hn => ?_, fun x hx => ⟨(h.l x hx).1, (h.l x hx).2.1, g4 x hx⟩, g1, g2, g3⟩
  unfold nums at hn
  simp only [List.mem_cons, List.not_mem_nil, or_false] at hn
  rcases hn with rfl | rfl | rfl | rfl | rfl | rfl
  · exact h.i1
  · exact h.i2
  · exact h.i3
  · exact h.i4
  · exact h.i5
  · exact h.i6
theorem same_self (e : EntV) (hl : e.legs.length ≤ 100000000) : Con Tryd.prog Ctx 23 [.agg [.ex (.int .i64 e.id), .ex (.int .i64 e.booked), .ex (.int .i64 e.value), .ex (.int .i64 e.kind), .ex (.int .i64 e.auth), .ex (.int .i64 e.period), .ex (.string e.key), .ex (.string e.text), .sl (legsC e.legs), .ex (.int .u64 e.chain)], .agg [.ex (.int .i64 e.id), .ex (.int .i64 e.booked), .ex (.int .i64 e.value), .ex (.int .i64 e.kind), .ex (.int .i64 e.auth), .ex (.int .i64 e.period), .ex (.string e.key), .ex (.string e.text), .sl (legsC e.legs), .ex (.int .u64 e.chain)]] (.val (.ex (.bool true))) := by
  have h := up (RSame_con e e hl)
  rw [decide_eq_true rfl] at h
  exact h
theorem sameP_self (e : EntV) (hl : e.legs.length ≤ 100000000) : Con Tryd.prog Ctx 49 [.agg [.ex (.int .i64 e.id), .ex (.int .i64 e.booked), .ex (.int .i64 e.value), .ex (.int .i64 e.kind), .ex (.int .i64 e.auth), .ex (.int .i64 e.period), .ex (.string e.key), .ex (.string e.text), .sl (legsC e.legs), .ex (.int .u64 e.chain)], .agg [.ex (.int .i64 e.id), .ex (.int .i64 e.booked), .ex (.int .i64 e.value), .ex (.int .i64 e.kind), .ex (.int .i64 e.auth), .ex (.int .i64 e.period), .ex (.string e.key), .ex (.string e.text), .sl (legsC e.legs), .ex (.int .u64 e.chain)]] (.val (.ex (.bool true))) := by
  have h := up (Same_con e e hl)
  rw [decide_eq_true rfl] at h
  exact h
end Go.Proofs.YtmnnphalljnmhaaDoor
