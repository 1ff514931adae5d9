/-
  Chapter 19: what the arguments are. Conditions: none.
-/
import Derived.Test.YtmnnphalljnmhaaDoorShp
import Derived.Test.YtmnnphalljnmhaaDoorC19I
import Derived.OpenShut
namespace Go.Proofs.YtmnnphalljnmhaaDoor
open Go.RowKit
set_option maxRecDepth 100000

theorem reach_le {n : Nat} (h : n ≤ reachBytes) : n ≤ 140737488355328 := Nat.le_trans h (by decide)
theorem a_string {d : Nat} {u : AV} (h : ArgSh Tryd.prog (d + 1) 9 u) : ∃ s, u = .ex (.string s) ∧ s.size ≤ 140737488355328 := by
  unfold ArgSh at h
  rw [Tryd.underlying9] at h
  obtain ⟨s, e, h1⟩ := sh_str h Tryd.underlying9
  exact ⟨s, by simpa using e, reach_le h1⟩
theorem a_int {d : Nat} {u : AV} (h : ArgSh Tryd.prog (d + 1) 3 u) : ∃ n, u = .ex (.int .i64 n) ∧ In64 n := by
  unfold ArgSh at h
  rw [Tryd.underlying3] at h
  obtain ⟨s, e, h1⟩ := sh_int h Tryd.underlying3
  have := bounds_i64 h1
  exact ⟨s, by simpa using e, this.1, this.2⟩
theorem c_int : Tryd.prog.cellsOf 3 = 1 := by kernel_rfl
theorem c_str : Tryd.prog.cellsOf 9 = 1 := by kernel_rfl
theorem c_u64 : Tryd.prog.cellsOf 24 = 1 := by kernel_rfl
theorem c_legs : Tryd.prog.cellsOf 23 = 1 := by kernel_rfl
theorem c_leg : Tryd.prog.cellsOf 62 = 3 := by kernel_rfl
theorem c_ent : Tryd.prog.cellsOf 26 = 10 := by kernel_rfl
theorem leg_of {d : Nat} {us : List AV} (h : Sh Tryd.prog (d + 2) 62 us) : ∃ x : LegV, us = legC x ∧ x.Ok := by
  obtain ⟨h1, h2⟩ := sh_struct h Tryd.underlying62
  rw [c_leg] at h1
  match us, h1 with
  | [a, b, c], _ =>
    simp only [List.forall_mem_cons, c_int, c_str, List.drop_zero, List.drop_succ_cons, List.take_succ_cons, List.take_zero] at h2
    obtain ⟨g1, g2, g3, _⟩ := h2
    obtain ⟨n1, e1, w1⟩ := sh_int g1 Tryd.underlying3
    obtain ⟨n2, e2, w2⟩ := sh_int g2 Tryd.underlying3
    obtain ⟨s3, e3, w3⟩ := sh_str g3 Tryd.underlying9
    simp only [List.cons.injEq, and_true] at e1 e2 e3
    subst e1 e2 e3
    exact ⟨⟨n1, n2, s3⟩, rfl, bounds_i64 w1, bounds_i64 w2, reach_le w3⟩
theorem legs_of {d : Nat} {us : List AV} (h : Sh Tryd.prog (d + 3) 23 us) : ∃ l : List LegV, us = [.sl (legsC l)] ∧ l.length ≤ 140737488355328 ∧ ∀ m ∈ l, m.Ok := by
  obtain ⟨es, rfl, h1, h2⟩ := sh_slice h Tryd.underlying23
  obtain ⟨l, rfl, hl⟩ := all_of (g := legC) (p := LegV.Ok) es fun x hx => leg_of (h2 x hx)
  exact ⟨l, rfl, reach_le (by simpa using h1), hl⟩
/-- What an argument's entry is. -/
structure EntV.Wf (e : EntV) : Prop where
  i1 : In64 e.id
  i2 : In64 e.booked
  i3 : In64 e.value
  i4 : In64 e.kind
  i5 : In64 e.auth
  i6 : In64 e.period
  k : e.key.size ≤ 140737488355328
  t : e.text.size ≤ 140737488355328
  l : ∀ x ∈ e.legs, x.Ok
  n : e.legs.length ≤ 140737488355328
  c : InU64 e.chain
theorem ent_of {d : Nat} {us : List AV} (h : Sh Tryd.prog (d + 4) 26 us) : ∃ e : EntV, us = entC e ∧ e.Wf := by
  obtain ⟨h1, h2⟩ := sh_struct h Tryd.underlying26
  rw [c_ent] at h1
  match us, h1 with
  | [a1, a2, a3, a4, a5, a6, a7, a8, a9, a10], _ =>
    simp only [List.forall_mem_cons, c_int, c_str, c_u64, c_legs, List.drop_zero, List.drop_succ_cons, List.take_succ_cons, List.take_zero] at h2
    obtain ⟨g1, g2, g3, g4, g5, g6, g7, g8, g9, g10, _⟩ := h2
    obtain ⟨n1, e1, w1⟩ := sh_int g1 Tryd.underlying3
    obtain ⟨n2, e2, w2⟩ := sh_int g2 Tryd.underlying3
    obtain ⟨n3, e3, w3⟩ := sh_int g3 Tryd.underlying3
    obtain ⟨n4, e4, w4⟩ := sh_int g4 Tryd.underlying3
    obtain ⟨n5, e5, w5⟩ := sh_int g5 Tryd.underlying3
    obtain ⟨n6, e6, w6⟩ := sh_int g6 Tryd.underlying3
    obtain ⟨s7, e7, w7⟩ := sh_str g7 Tryd.underlying9
    obtain ⟨s8, e8, w8⟩ := sh_str g8 Tryd.underlying9
    obtain ⟨l, e9, w9, w9'⟩ := legs_of g9
    obtain ⟨n10, e10, w10⟩ := sh_int g10 Tryd.underlying24
    simp only [List.cons.injEq, and_true] at e1 e2 e3 e4 e5 e6 e7 e8 e9 e10
    subst e1 e2 e3 e4 e5 e6 e7 e8 e9 e10
    have hb := bounds_u64 w10
    exact ⟨⟨n1, n2, n3, n4, n5, n6, s7, s8, l, n10⟩, rfl, bounds_i64 w1, bounds_i64 w2, bounds_i64 w3, bounds_i64 w4, bounds_i64 w5, bounds_i64 w6, reach_le w7, reach_le w8, w9', w9, by unfold InU64; dsimp only; omega⟩
theorem ents_of {d : Nat} {us : List AV} (h : Sh Tryd.prog (d + 5) 22 us) : ∃ l : List EntV, us = [.sl (l.map entC)] ∧ l.length ≤ 140737488355328 ∧ ∀ m ∈ l, m.Wf := by
  obtain ⟨es, rfl, h1, h2⟩ := sh_slice h Tryd.underlying22
  obtain ⟨l, rfl, hl⟩ := all_of (g := entC) (p := EntV.Wf) es fun x hx => ent_of (h2 x hx)
  exact ⟨l, rfl, reach_le (by simpa using h1), hl⟩
theorem a_ent {d : Nat} {u : AV} (h : ArgSh Tryd.prog (d + 4) 26 u) : ∃ e : EntV, u = .agg (entC e) ∧ e.Wf := by
  unfold ArgSh at h
  rw [Tryd.underlying26] at h
  obtain ⟨us, rfl, h⟩ := h
  obtain ⟨e, rfl, h1⟩ := ent_of h
  exact ⟨e, rfl, h1⟩
theorem a_ents {d : Nat} {u : AV} (h : ArgSh Tryd.prog (d + 5) 22 u) : ∃ l : List EntV, u = .sl (l.map entC) ∧ l.length ≤ 140737488355328 ∧ ∀ m ∈ l, m.Wf := by
  unfold ArgSh at h
  rw [Tryd.underlying22] at h
  obtain ⟨l, e, h1, h2⟩ := ents_of h
  exact ⟨l, by simpa using e, h1, h2⟩
theorem a_u8 {d : Nat} {u : AV} (h : ArgSh Tryd.prog (d + 1) 5 u) : ∃ n, u = .ex (.int .u8 n) ∧ 0 ≤ n ∧ n ≤ 255 := by
  unfold ArgSh at h
  rw [Tryd.underlying5] at h
  obtain ⟨s, e, h1⟩ := sh_int h Tryd.underlying5
  have := bounds_u8 h1
  exact ⟨s, by simpa using e, by omega, by omega⟩
theorem ok_ent : okTy Tryd.prog 6 26 = true := by kernel_rfl
theorem ok_ents : okTy Tryd.prog 6 22 = true := by kernel_rfl
theorem ok_u8 : okTy Tryd.prog 6 5 = true := by kernel_rfl
theorem ok_string : okTy Tryd.prog 6 9 = true := by kernel_rfl
theorem ok_int : okTy Tryd.prog 6 3 = true := by kernel_rfl
end Go.Proofs.YtmnnphalljnmhaaDoor
