/-
  Chapter 03: what the arguments are. Conditions: none.
-/
import Derived.Test.YtaphbajfjmhpnaaDoorShp
import Derived.Test.YtaphbajfjmhpnaaDoorC03K
import Derived.OpenShut
namespace Go.Proofs.YtaphbajfjmhpnaaDoor
open Go.RowKit
set_option maxRecDepth 100000

theorem reach_le {n : Nat} (h : n ≤ reachBytes) : n ≤ 140737488355328 := Nat.le_trans h (by decide)
theorem a_string {d : Nat} {u : AV} (h : ArgSh Tryd.prog (d + 1) 9 u) : ∃ s, u = .ex (.string s) ∧ s.size ≤ 140737488355328 := by
  unfold ArgSh at h
  rw [Tryd.underlying9] at h
  obtain ⟨s, e, h1⟩ := sh_str h Tryd.underlying9
  exact ⟨s, by simpa using e, reach_le h1⟩
theorem a_int {d : Nat} {u : AV} (h : ArgSh Tryd.prog (d + 1) 3 u) : ∃ n, u = .ex (.int .i64 n) ∧ -9223372036854775808 ≤ n ∧ n ≤ 9223372036854775807 := by
  unfold ArgSh at h
  rw [Tryd.underlying3] at h
  obtain ⟨s, e, h1⟩ := sh_int h Tryd.underlying3
  have := bounds_i64 h1
  exact ⟨s, by simpa using e, this.1, this.2⟩
theorem a_ints {d : Nat} {u : AV} (h : ArgSh Tryd.prog (d + 2) 22 u) : ∃ l, u = .sl (ints l) ∧ l.length ≤ 140737488355328 := by
  unfold ArgSh at h
  rw [Tryd.underlying22] at h
  obtain ⟨es, he, h1, h2⟩ := sh_slice h Tryd.underlying22
  obtain ⟨l, rfl, hl⟩ := all_of (g := fun n : Int => [.ex (.int .i64 n)]) (p := fun _ => True) es fun x hx => by
    obtain ⟨s, e, _⟩ := sh_int (h2 x hx) Tryd.underlying3
    exact ⟨s, e, trivial⟩
  exact ⟨l, by simpa [ints] using he, reach_le (by simpa using h1)⟩
theorem c_int : Tryd.prog.cellsOf 3 = 1 := by kernel_rfl
theorem c_str : Tryd.prog.cellsOf 9 = 1 := by kernel_rfl
theorem c_cur : Tryd.prog.cellsOf 40 = 2 := by kernel_rfl
theorem cur_of {d : Nat} {us : List AV} (h : Sh Tryd.prog (d + 2) 40 us) : ∃ m : CurV, us = curC m ∧ m.code.size ≤ 140737488355328 := by
  obtain ⟨h1, h2⟩ := sh_struct h Tryd.underlying40
  rw [c_cur] at h1
  match us, h1 with
  | [a, b], _ =>
    simp only [List.forall_mem_cons, c_int, c_str, List.drop_zero, List.drop_succ_cons, List.take_succ_cons, List.take_zero] at h2
    obtain ⟨g1, g2, _⟩ := h2
    obtain ⟨s1, e1, w1⟩ := sh_str g1 Tryd.underlying9
    obtain ⟨n, e2, w2⟩ := sh_int g2 Tryd.underlying3
    simp only [List.cons.injEq, and_true] at e1 e2
    subst e1 e2
    exact ⟨⟨s1, n⟩, rfl, reach_le w1⟩
theorem a_curs {d : Nat} {u : AV} (h : ArgSh Tryd.prog (d + 3) 37 u) : ∃ l, u = .sl (curs l) ∧ l.length ≤ 140737488355328 ∧ ∀ c ∈ l, c.code.size ≤ 140737488355328 := by
  unfold ArgSh at h
  rw [Tryd.underlying37] at h
  obtain ⟨es, he, h1, h2⟩ := sh_slice h Tryd.underlying37
  obtain ⟨l, rfl, hl⟩ := all_of (g := curC) (p := fun m => m.code.size ≤ 140737488355328) es fun x hx => cur_of (h2 x hx)
  exact ⟨l, by simpa [curs] using he, reach_le (by simpa using h1), hl⟩
theorem ok_curs : okTy Tryd.prog 6 37 = true := by kernel_rfl
theorem ok_ints : okTy Tryd.prog 6 22 = true := by kernel_rfl
theorem ok_string : okTy Tryd.prog 6 9 = true := by kernel_rfl
theorem ok_int : okTy Tryd.prog 6 3 = true := by kernel_rfl
end Go.Proofs.YtaphbajfjmhpnaaDoor
