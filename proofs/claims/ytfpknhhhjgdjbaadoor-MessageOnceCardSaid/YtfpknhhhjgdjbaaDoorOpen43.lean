/-
  Chapter 43: what the arguments are. Conditions: none.
-/
import Derived.Test.YtfpknhhhjgdjbaaDoorShp
import Derived.Test.YtfpknhhhjgdjbaaDoorM43P
import Derived.OpenShut
namespace Go.Proofs.YtfpknhhhjgdjbaaDoor
open Go.RowKit
set_option maxRecDepth 100000

theorem reach_le {n : Nat} (h : n ≤ reachBytes) : n ≤ 140737488355328 := Nat.le_trans h (by decide)
theorem a_string {d : Nat} {u : AV} (h : ArgSh Tryd.prog (d + 1) 9 u) : ∃ s, u = .ex (.string s) ∧ s.size ≤ 140737488355328 := by
  unfold ArgSh at h
  rw [Tryd.underlying9] at h
  obtain ⟨s, e, h1⟩ := sh_str h Tryd.underlying9
  exact ⟨s, by simpa using e, reach_le h1⟩
theorem a_int {d : Nat} {u : AV} (h : ArgSh Tryd.prog (d + 1) 3 u) : ∃ n, u = .ex (.int .i64 n) ∧ In64 n := by
  unfold ArgSh at h
  rw [Tryd.underlying3] at h
  obtain ⟨s, e, h1⟩ := sh_int h Tryd.underlying3
  have := bounds_i64 h1
  exact ⟨s, by simpa using e, this.1, this.2⟩
theorem c_int : Tryd.prog.cellsOf 3 = 1 := by kernel_rfl
theorem c_str : Tryd.prog.cellsOf 9 = 1 := by kernel_rfl
theorem c_msg : Tryd.prog.cellsOf 44 = 7 := by kernel_rfl
theorem msg_of {d : Nat} {us : List AV} (h : Sh Tryd.prog (d + 2) 44 us) : ∃ m : MsgV, us = msgC m ∧ m.Ok := by
  obtain ⟨h1, h2⟩ := sh_struct h Tryd.underlying44
  rw [c_msg] at h1
  match us, h1 with
  | [a1, a2, a3, a4, a5, a6, a7], _ =>
    simp only [List.forall_mem_cons, c_int, c_str, List.drop_zero, List.drop_succ_cons, List.take_succ_cons, List.take_zero] at h2
    obtain ⟨g1, g2, g3, g4, g5, g6, g7, _⟩ := h2
    obtain ⟨s1, e1, w1⟩ := sh_str g1 Tryd.underlying9
    obtain ⟨n2, e2, w2⟩ := sh_int g2 Tryd.underlying3
    obtain ⟨n3, e3, w3⟩ := sh_int g3 Tryd.underlying3
    obtain ⟨n4, e4, w4⟩ := sh_int g4 Tryd.underlying3
    obtain ⟨n5, e5, w5⟩ := sh_int g5 Tryd.underlying3
    obtain ⟨n6, e6, w6⟩ := sh_int g6 Tryd.underlying3
    obtain ⟨s7, e7, w7⟩ := sh_str g7 Tryd.underlying9
    simp only [List.cons.injEq, and_true] at e1 e2 e3 e4 e5 e6 e7
    subst e1 e2 e3 e4 e5 e6 e7
    exact ⟨⟨s1, n2, n3, n4, n5, n6, s7⟩, rfl, bounds_i64 w2, bounds_i64 w3, bounds_i64 w4, bounds_i64 w5, bounds_i64 w6, reach_le w1, reach_le w7⟩
theorem msgs_of {d : Nat} {us : List AV} (h : Sh Tryd.prog (d + 3) 51 us) : ∃ l : List MsgV, us = [.sl (msgs l)] ∧ l.length ≤ 140737488355328 ∧ ∀ m ∈ l, m.Ok := by
  obtain ⟨es, rfl, h1, h2⟩ := sh_slice h Tryd.underlying51
  obtain ⟨l, rfl, hl⟩ := all_of (g := msgC) (p := MsgV.Ok) es fun x hx => msg_of (h2 x hx)
  exact ⟨l, rfl, reach_le (by simpa using h1), hl⟩
theorem a_msg {d : Nat} {u : AV} (h : ArgSh Tryd.prog (d + 2) 44 u) : ∃ m : MsgV, u = .agg (msgC m) ∧ m.Ok := by
  unfold ArgSh at h
  rw [Tryd.underlying44] at h
  obtain ⟨us, rfl, h⟩ := h
  obtain ⟨e, rfl, h1⟩ := msg_of h
  exact ⟨e, rfl, h1⟩
theorem a_msgs {d : Nat} {u : AV} (h : ArgSh Tryd.prog (d + 3) 51 u) : ∃ l : List MsgV, u = .sl (msgs l) ∧ l.length ≤ 140737488355328 ∧ ∀ m ∈ l, m.Ok := by
  unfold ArgSh at h
  rw [Tryd.underlying51] at h
  obtain ⟨l, e, h1, h2⟩ := msgs_of h
  exact ⟨l, by simpa using e, h1, h2⟩
theorem ok_msg : okTy Tryd.prog 6 44 = true := by kernel_rfl
theorem ok_msgs : okTy Tryd.prog 6 51 = true := by kernel_rfl
theorem ok_string : okTy Tryd.prog 6 9 = true := by kernel_rfl
theorem ok_int : okTy Tryd.prog 6 3 = true := by kernel_rfl
end Go.Proofs.YtfpknhhhjgdjbaaDoor
