/-
  What the arguments of the law on loans are, and how a walk that returns true and turns nothing below closes the row. Conditions: those that each theorem states.
-/
import Derived.Test.YtcoflmckbcnlpaaGreatDoorShp
import Derived.Test.YtcoflmckbcnlpaaGreatDoorLaidE
import Derived.Test.YtcoflmckbcnlpaaGreatDoorL9
namespace Go.Proofs.YtcoflmckbcnlpaaGreatDoor
open Go.ChangeShapes Go.WideShapes Go.ChangeAt Go.WideMaps Go.WideElems Go.RowKit
set_option maxRecDepth 100000
theorem own : ownKnob Tryz.prog.godebug = none := by kernel_rfl
theorem laidOut : laidOutB Tryz.prog = true := by kernel_rfl
section
variable {H : Type} {enc : TypeId × Value → H}
theorem trodAll_below {P : Program} (hl : laidOutB P = true) {W W' : World} (hb : Below W.heap.size W W') : ∀ (ts : List TypeId) (vs : List Value) (ds : List (DataW H)) (ps : List MemPlace),
    (ts.all fun t => P.readableRec t && decide (t < P.types.size)) = true → DataW.TrodAll enc P W 0 (fun _ => true) true ts vs ds ps → (∀ x ∈ ps, x.block < W.heap.size) →
    DataW.TrodAll enc P W' 0 (fun b => decide (b < W.heap.size)) true ts vs ds ps
  | [], vs, ds, ps, _, h, _ => by
    obtain ⟨rfl, rfl, rfl⟩ := trodAll_nil h
    exact trodAll_mk0
  | t :: ts, vs, ds, ps, ha, h, hlt => by
    obtain ⟨v, vs', d, ds', p, q, rfl, rfl, rfl, h1, h2⟩ := trodAll_cons h
    rw [List.all_cons, Bool.and_eq_true, Bool.and_eq_true, decide_eq_true_eq] at ha
    exact trodAll_cons_mk (Below.trod hl ha.1.1 ha.1.2 h1 hb fun x hx => hlt x (List.mem_append_left _ hx)) (trodAll_below hl hb ts vs' ds' q ha.2 h2 fun x hx => hlt x (List.mem_append_right _ hx))
theorem law_post {f : Func} {s : ChangeSpec} {tb : TypeId} (hv : s.vars = []) (hr : f.resultTypes = #[tb]) (htb : Tryz.prog.underlying tb = some .bool)
    (hps : (f.params.toList.all fun t => Tryz.prog.readableRec t && decide (t < Tryz.prog.types.size)) = true)
    {W W' : World} {args : Array Value} {ds gs : List (DataW H)} {before : List MemPlace} (hW : DataW.Whole enc Tryz.prog f.params.toList s.vars false W args.toList ds gs before)
    (hfn : s.fn H (ds ++ gs) = { results := [.lit (.bool true)], args := ds }) (hb : Below W.heap.size W W') :
    s.post enc Tryz.prog f false true false false W args (.bool true) W' := by
  have hW' := hW
  obtain ⟨p, q, hA, hV, rfl, hfz, _⟩ := hW
  rw [hv] at hV
  obtain ⟨rfl, rfl⟩ := trodVars_none hV
  have hlt : ∀ x ∈ p, x.block < W.heap.size := fun x hx => hW'.lt x (List.mem_append_left _ hx)
  refine ⟨ds, [], _, [], p, [], hW', ?_, ?_, ?_, hb.frame _, fun h => by cases h⟩
  · rw [hfn, hr]
    exact trodAll_mk1 (shut_bool htb true)
  · rw [hfn]
    exact trodAll_below laidOut hb _ _ _ _ hps hA hlt
  · rw [hfn, hv]; rfl
end
theorem reach_le {n : Nat} (h : n ≤ reachBytes) : n ≤ 9223372036854775807 := Nat.le_trans h (by decide)
theorem c_int : Tryz.prog.cellsOf 3 = 1 := by kernel_rfl
theorem c_str : Tryz.prog.cellsOf 9 = 1 := by kernel_rfl
theorem c_ints : Tryz.prog.cellsOf 24 = 1 := by kernel_rfl
theorem c_trm : Tryz.prog.cellsOf 23 = 12 := by kernel_rfl
theorem c_cal : Tryz.prog.cellsOf 26 = 3 := by kernel_rfl
theorem ints_of {d : Nat} {us : List AV} (h : Sh Tryz.prog (d + 2) 24 us) : ∃ l : List Int, us = [.sl (intsC l)] ∧ l.length ≤ 9223372036854775807 := by
  obtain ⟨es, rfl, h1, h2⟩ := sh_slice h Tryz.underlying24
  obtain ⟨l, rfl, hl⟩ := all_of (g := fun n : Int => [.ex (.int .i64 n)]) (p := fun _ => True) es fun x hx => by
    obtain ⟨s, e, _⟩ := sh_int (h2 x hx) Tryz.underlying3
    exact ⟨s, e, trivial⟩
  exact ⟨l, rfl, reach_le (by simpa using h1)⟩
theorem trm_of {d : Nat} {u : AV} (h : ArgSh Tryz.prog (d + 3) 23 u) : ∃ t : TermV, u = .agg [.ex (.int .i64 t.method), .ex (.int .i64 t.prin), .ex (.int .i64 t.ppm), .ex (.int .i64 t.start), .ex (.int .i64 t.every), .ex (.int .i64 t.count), .ex (.int .i64 t.bal), .ex (.int .i64 t.mode), .ex (.int .i64 t.pen), .ex (.int .i64 t.fee), .ex (.string t.cal), .ex (.string t.cur)] ∧ t.cur.size ≤ 9223372036854775807 := by
  unfold ArgSh at h
  rw [Tryz.underlying23] at h
  obtain ⟨us, rfl, h⟩ := h
  obtain ⟨h1, h2⟩ := sh_struct h Tryz.underlying23
  rw [c_trm] at h1
  match us, h1 with
  | [a1, a2, a3, a4, a5, a6, a7, a8, a9, a10, a11, a12], _ =>
    simp only [List.forall_mem_cons, c_int, c_str, List.drop_zero, List.drop_succ_cons, List.take_succ_cons, List.take_zero] at h2
    obtain ⟨g1, g2, g3, g4, g5, g6, g7, g8, g9, g10, g11, g12, _⟩ := h2
    obtain ⟨n1, e1, _⟩ := sh_int g1 Tryz.underlying3
    obtain ⟨n2, e2, _⟩ := sh_int g2 Tryz.underlying3
    obtain ⟨n3, e3, _⟩ := sh_int g3 Tryz.underlying3
    obtain ⟨n4, e4, _⟩ := sh_int g4 Tryz.underlying3
    obtain ⟨n5, e5, _⟩ := sh_int g5 Tryz.underlying3
    obtain ⟨n6, e6, _⟩ := sh_int g6 Tryz.underlying3
    obtain ⟨n7, e7, _⟩ := sh_int g7 Tryz.underlying3
    obtain ⟨n8, e8, _⟩ := sh_int g8 Tryz.underlying3
    obtain ⟨n9, e9, _⟩ := sh_int g9 Tryz.underlying3
    obtain ⟨n10, e10, _⟩ := sh_int g10 Tryz.underlying3
    obtain ⟨s11, e11, w11⟩ := sh_str g11 Tryz.underlying9
    obtain ⟨s12, e12, w12⟩ := sh_str g12 Tryz.underlying9
    simp only [List.cons.injEq, and_true] at e1 e2 e3 e4 e5 e6 e7 e8 e9 e10 e11 e12
    subst e1 e2 e3 e4 e5 e6 e7 e8 e9 e10 e11 e12
    exact ⟨⟨n1, n2, n3, n4, n5, n6, n7, n8, n9, n10, s11, s12⟩, rfl, reach_le w12⟩
theorem cal_of {d : Nat} {u : AV} (h : ArgSh Tryz.prog (d + 3) 26 u) : ∃ c : CalV, u = .agg [.ex (.string c.name), .sl (intsC c.we), .sl (intsC c.ho)] ∧ c.name.size ≤ 9223372036854775807 ∧ c.we.length ≤ 9223372036854775807 ∧ c.ho.length ≤ 9223372036854775807 := by
  unfold ArgSh at h
  rw [Tryz.underlying26] at h
  obtain ⟨us, rfl, h⟩ := h
  obtain ⟨h1, h2⟩ := sh_struct h Tryz.underlying26
  rw [c_cal] at h1
  match us, h1 with
  | [a1, a2, a3], _ =>
    simp only [List.forall_mem_cons, c_ints, c_str, List.drop_zero, List.drop_succ_cons, List.take_succ_cons, List.take_zero] at h2
    obtain ⟨g1, g2, g3, _⟩ := h2
    obtain ⟨s1, e1, w1⟩ := sh_str g1 Tryz.underlying9
    obtain ⟨l2, e2, w2⟩ := ints_of g2
    obtain ⟨l3, e3, w3⟩ := ints_of g3
    simp only [List.cons.injEq, and_true] at e1 e2 e3
    subst e1 e2 e3
    exact ⟨⟨s1, l2, l3⟩, rfl, reach_le w1, w2, w3⟩
theorem ok_trm : okTy Tryz.prog 6 23 = true := by kernel_rfl
theorem ok_cal : okTy Tryz.prog 6 26 = true := by kernel_rfl
end Go.Proofs.YtcoflmckbcnlpaaGreatDoor