/-
  Chapter 48: what the arguments are. Conditions: none.
-/
import Derived.Test.YtapghdjbffmifaaDoorShp
import Derived.Test.YtapghdjbffmifaaDoorC48L
import Derived.OpenShut
namespace Go.Proofs.YtapghdjbffmifaaDoor
open Go.RowKit
set_option maxRecDepth 100000

theorem u64_of {n : Int} (h : (Lit.int .u64 n).wf = true) : U64 n := by
  have := bounds_u64 h
  unfold U64; omega
theorem c_int : Tryd.prog.cellsOf 3 = 1 := by kernel_rfl
theorem c_str : Tryd.prog.cellsOf 9 = 1 := by kernel_rfl
theorem c_u64 : Tryd.prog.cellsOf 23 = 1 := by kernel_rfl
theorem c_bool : Tryd.prog.cellsOf 4 = 1 := by kernel_rfl
theorem c_steps : Tryd.prog.cellsOf 37 = 1 := by kernel_rfl
theorem c_mark : Tryd.prog.cellsOf 25 = 5 := by kernel_rfl
theorem c_step : Tryd.prog.cellsOf 64 = 2 := by kernel_rfl
theorem c_claim : Tryd.prog.cellsOf 39 = 7 := by kernel_rfl
theorem mark_of {d : Nat} {us : List AV} (h : Sh Tryd.prog (d + 2) 25 us) : ∃ m : MarkV, us = markC m ∧ m.Wf := by
  obtain ⟨h1, h2⟩ := sh_struct h Tryd.underlying25
  rw [c_mark] at h1
  match us, h1 with
  | [a, b, c, e, f], _ =>
    simp only [List.forall_mem_cons, c_int, c_str, c_u64, List.drop_zero, List.drop_succ_cons, List.take_succ_cons, List.take_zero] at h2
    obtain ⟨g1, g2, g3, g4, g5, _⟩ := h2
    obtain ⟨n, e1, w1⟩ := sh_int g1 Tryd.underlying3
    obtain ⟨s1, e2, w2⟩ := sh_str g2 Tryd.underlying9
    obtain ⟨s2, e3, w3⟩ := sh_str g3 Tryd.underlying9
    obtain ⟨s3, e4, w4⟩ := sh_str g4 Tryd.underlying9
    obtain ⟨n2, e5, w5⟩ := sh_int g5 Tryd.underlying23
    simp only [List.cons.injEq, and_true] at e1 e2 e3 e4 e5
    subst e1 e2 e3 e4 e5
    have w1' := bounds_i64 w1
    exact ⟨⟨n, s1, s2, s3, n2⟩, rfl, w1'.1, w1'.2, w2, w3, w4, u64_of w5⟩
theorem marks_of {d : Nat} {us : List AV} (h : Sh Tryd.prog (d + 3) 22 us) : ∃ l : List MarkV, us = [.sl (marksC l)] ∧ l.length ≤ maxLen ∧ ∀ m ∈ l, m.Wf := by
  obtain ⟨es, rfl, h1, h2⟩ := sh_slice h Tryd.underlying22
  obtain ⟨l, rfl, hl⟩ := all_of (g := markC) (p := MarkV.Wf) es fun x hx => mark_of (h2 x hx)
  exact ⟨l, rfl, by simpa using h1, hl⟩
theorem step_of {d : Nat} {us : List AV} (h : Sh Tryd.prog (d + 2) 64 us) : ∃ m : StepV, us = stepC m ∧ U64 m.hash := by
  obtain ⟨h1, h2⟩ := sh_struct h Tryd.underlying64
  rw [c_step] at h1
  match us, h1 with
  | [a, b], _ =>
    simp only [List.forall_mem_cons, c_bool, c_u64, List.drop_zero, List.drop_succ_cons, List.take_succ_cons, List.take_zero] at h2
    obtain ⟨g1, g2, _⟩ := h2
    obtain ⟨n, e1, w1⟩ := sh_int g1 Tryd.underlying23
    obtain ⟨s1, e2⟩ := sh_bool g2 Tryd.underlying4
    simp only [List.cons.injEq, and_true] at e1 e2
    subst e1 e2
    exact ⟨⟨n, s1⟩, rfl, u64_of w1⟩
theorem steps_of {d : Nat} {us : List AV} (h : Sh Tryd.prog (d + 3) 37 us) : ∃ l : List StepV, us = [.sl (stepsC l)] ∧ l.length ≤ maxLen ∧ ∀ m ∈ l, U64 m.hash := by
  obtain ⟨es, rfl, h1, h2⟩ := sh_slice h Tryd.underlying37
  obtain ⟨l, rfl, hl⟩ := all_of (g := stepC) (p := fun m => U64 m.hash) es fun x hx => step_of (h2 x hx)
  exact ⟨l, rfl, by simpa using h1, hl⟩
theorem claim_of {d : Nat} {us : List AV} (h : Sh Tryd.prog (d + 4) 39 us) : ∃ (r : Int) (m : MarkV) (l : List StepV), us = .ex (.int .u64 r) :: markC m ++ [.sl (stepsC l)] ∧ m.Wf ∧ l.length ≤ maxLen ∧ ∀ s ∈ l, U64 s.hash := by
  obtain ⟨h1, h2⟩ := sh_struct h Tryd.underlying39
  rw [c_claim] at h1
  match us, h1 with
  | [a, b, c, e, f, g, i], _ =>
    simp only [List.forall_mem_cons, c_mark, c_u64, c_steps, List.drop_zero, List.drop_succ_cons, List.take_succ_cons, List.take_zero] at h2
    obtain ⟨g1, g2, g3, _⟩ := h2
    obtain ⟨n, e1, _⟩ := sh_int g1 Tryd.underlying23
    obtain ⟨m, e2, hm⟩ := mark_of g2
    obtain ⟨l, e3, hl1, hl2⟩ := steps_of g3
    unfold markC at e2
    simp only [List.cons.injEq, and_true] at e1 e2 e3
    obtain ⟨rfl, rfl, rfl, rfl, rfl⟩ := e2
    subst e1 e3
    exact ⟨n, m, l, rfl, hm, hl1, hl2⟩

/-! The arguments, one by one. -/
theorem a_marks {d : Nat} {u : AV} (h : ArgSh Tryd.prog (d + 3) 22 u) : ∃ l : List MarkV, u = .sl (marksC l) ∧ l.length ≤ maxLen ∧ ∀ m ∈ l, m.Wf := by
  unfold ArgSh at h
  rw [Tryd.underlying22] at h
  obtain ⟨l, e, h1, h2⟩ := marks_of h
  exact ⟨l, by simpa using e, h1, h2⟩
theorem a_mark {d : Nat} {u : AV} (h : ArgSh Tryd.prog (d + 2) 25 u) : ∃ m : MarkV, u = .agg (markC m) ∧ m.Wf := by
  unfold ArgSh at h
  rw [Tryd.underlying25] at h
  obtain ⟨us, rfl, h⟩ := h
  obtain ⟨m, rfl, hm⟩ := mark_of h
  exact ⟨m, rfl, hm⟩
theorem a_claim {d : Nat} {u : AV} (h : ArgSh Tryd.prog (d + 4) 39 u) : ∃ (r : Int) (m : MarkV) (l : List StepV), u = .agg (.ex (.int .u64 r) :: markC m ++ [.sl (stepsC l)]) ∧ m.Wf ∧ l.length ≤ maxLen ∧ ∀ s ∈ l, U64 s.hash := by
  unfold ArgSh at h
  rw [Tryd.underlying39] at h
  obtain ⟨us, rfl, h⟩ := h
  obtain ⟨r, m, l, rfl, h1⟩ := claim_of h
  exact ⟨r, m, l, rfl, h1⟩
theorem a_string {d : Nat} {u : AV} (h : ArgSh Tryd.prog (d + 1) 9 u) : ∃ s, u = .ex (.string s) ∧ s.size ≤ maxLen := by
  unfold ArgSh at h
  rw [Tryd.underlying9] at h
  obtain ⟨s, e, h1⟩ := sh_str h Tryd.underlying9
  exact ⟨s, by simpa using e, h1⟩
theorem a_int {d : Nat} {u : AV} (h : ArgSh Tryd.prog (d + 1) 3 u) : ∃ n, u = .ex (.int .i64 n) ∧ -9223372036854775808 ≤ n ∧ n ≤ 9223372036854775807 := by
  unfold ArgSh at h
  rw [Tryd.underlying3] at h
  obtain ⟨s, e, h1⟩ := sh_int h Tryd.underlying3
  have := bounds_i64 h1
  exact ⟨s, by simpa using e, this.1, this.2⟩
theorem ok_marks : okTy Tryd.prog 6 22 = true := by kernel_rfl
theorem ok_mark : okTy Tryd.prog 6 25 = true := by kernel_rfl
theorem ok_claim : okTy Tryd.prog 6 39 = true := by kernel_rfl
theorem ok_string : okTy Tryd.prog 6 9 = true := by kernel_rfl
theorem ok_int : okTy Tryd.prog 6 3 = true := by kernel_rfl
end Go.Proofs.YtapghdjbffmifaaDoor
