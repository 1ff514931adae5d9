/-
  Chapter 07: what the arguments are. Conditions: none.
-/
import Derived.Test.YtfpknhhhjgdjbaaDoorShp
import Derived.Test.YtfpknhhhjgdjbaaDoorC07G
import Derived.OpenShut
namespace Go.Proofs.YtfpknhhhjgdjbaaDoor
open Go.RowKit
set_option maxRecDepth 100000

theorem reach_le {n : Nat} (h : n ≤ reachBytes) : n ≤ 140737488355328 := Nat.le_trans h (by decide)
theorem a_string {d : Nat} {u : AV} (h : ArgSh Tryd.prog (d + 1) 9 u) : ∃ s, u = .ex (.string s) ∧ s.size ≤ 140737488355328 := by
  unfold ArgSh at h
  rw [Tryd.underlying9] at h
  obtain ⟨s, e, h1⟩ := sh_str h Tryd.underlying9
  exact ⟨s, by simpa using e, reach_le h1⟩
theorem a_int {d : Nat} {u : AV} (h : ArgSh Tryd.prog (d + 1) 3 u) : ∃ n, u = .ex (.int .i64 n) ∧ -9223372036854775808 ≤ n ∧ n ≤ 9223372036854775807 := by
  unfold ArgSh at h
  rw [Tryd.underlying3] at h
  obtain ⟨s, e, h1⟩ := sh_int h Tryd.underlying3
  have := bounds_i64 h1
  exact ⟨s, by simpa using e, this.1, this.2⟩
theorem a_texts {d : Nat} {u : AV} (h : ArgSh Tryd.prog (d + 2) 22 u) : ∃ l, u = .sl (texts l) ∧ l.length ≤ 140737488355328 ∧ ∀ s ∈ l, s.size ≤ 140737488355328 := by
  unfold ArgSh at h
  rw [Tryd.underlying22] at h
  obtain ⟨es, he, h1, h2⟩ := sh_slice h Tryd.underlying22
  obtain ⟨l, rfl, hl⟩ := all_of (g := fun s : ByteArray => [.ex (.string s)]) (p := fun s => s.size ≤ 140737488355328) es fun x hx => by
    obtain ⟨s, e, h3⟩ := sh_str (h2 x hx) Tryd.underlying9
    exact ⟨s, e, reach_le h3⟩
  exact ⟨l, by simpa [texts] using he, reach_le (by simpa using h1), hl⟩
theorem a_ints {d : Nat} {u : AV} (h : ArgSh Tryd.prog (d + 2) 36 u) : ∃ l, u = .sl (ints l) ∧ l.length ≤ 140737488355328 ∧ I64s l := by
  unfold ArgSh at h
  rw [Tryd.underlying36] at h
  obtain ⟨es, he, h1, h2⟩ := sh_slice h Tryd.underlying36
  obtain ⟨l, rfl, hl⟩ := all_of (g := fun n : Int => [.ex (.int .i64 n)]) (p := fun n => -9223372036854775808 ≤ n ∧ n ≤ 9223372036854775807) es fun x hx => by
    obtain ⟨s, e, h3⟩ := sh_int (h2 x hx) Tryd.underlying3
    have := bounds_i64 h3
    exact ⟨s, e, this.1, this.2⟩
  exact ⟨l, by simpa [ints] using he, reach_le (by simpa using h1), hl⟩
theorem ok_texts : okTy Tryd.prog 6 22 = true := by kernel_rfl
theorem ok_ints : okTy Tryd.prog 6 36 = true := by kernel_rfl
theorem ok_string : okTy Tryd.prog 6 9 = true := by kernel_rfl
theorem ok_int : okTy Tryd.prog 6 3 = true := by kernel_rfl
end Go.Proofs.YtfpknhhhjgdjbaaDoor
