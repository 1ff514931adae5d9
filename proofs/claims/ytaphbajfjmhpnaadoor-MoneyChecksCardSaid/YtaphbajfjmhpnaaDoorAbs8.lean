/-
  Each operation of the machine does what 'aval' says of it: composite values, calls; and all operations together. Conditions: those that each theorem states.
-/
import Derived.Test.YtaphbajfjmhpnaaDoorAbs7
namespace Go.Proofs.YtaphbajfjmhpnaaDoor
open Go.RowKit
set_option maxRecDepth 100000

section
variable {P : Program} {C : World → Prop} {w : World} {M0 : Nat → Prop} {N : Nat} {w0 : Root} {F : Nat → Prop} {φ : Phi} {σ : AS} {a : Act} {hp : Nat → Option Row1} {id : Nat} {o : Oper} {k : AV → Eff → Prop} {K : Act → World → Prop} {Q : Exit → Act → World → Prop}

theorem foldl_set : ∀ (vs : List Value) (j off : Nat) (cells : Array Value), off + j + vs.length ≤ cells.size →
    ((vs.zipIdx j).foldl (fun (cs : Array Value) (x : Value × Nat) => cs.setIfInBounds (off + x.2) x.1) cells).toList = cells.toList.take (off + j) ++ vs ++ cells.toList.drop (off + j + vs.length)
  | [], j, off, cells, _ => by simp
  | v :: vs, j, off, cells, h => by
    rw [List.zipIdx_cons, List.foldl_cons, foldl_set vs (j + 1) off _ (by simp at h ⊢; omega)]
    simp only [Array.toList_setIfInBounds, List.length_cons]
    have hlt : off + j < cells.toList.length := by simp at h ⊢; omega
    rw [List.set_eq_take_append_cons_drop, if_pos hlt]
    have hl : (cells.toList.take (off + j)).length = off + j := by rw [List.length_take]; omega
    have e1 : (cells.toList.take (off + j) ++ v :: cells.toList.drop (off + j + 1)).take (off + (j + 1)) = cells.toList.take (off + j) ++ [v] := by
      rw [List.take_append, hl, List.take_of_length_le (by omega), show off + (j + 1) - (off + j) = 1 by omega]
      simp
    have e2 : (cells.toList.take (off + j) ++ v :: cells.toList.drop (off + j + 1)).drop (off + (j + 1) + vs.length) = cells.toList.drop (off + j + (vs.length + 1)) := by
      rw [List.drop_append, hl, List.drop_eq_nil_of_le (by omega), List.nil_append, show off + (j + 1) + vs.length - (off + j) = vs.length + 1 by omega, List.drop_succ_cons, List.drop_drop]
      congr 1
      omega
    rw [e1, e2]
    simp

theorem fill_rep {M : Nat → Prop} (hφ : ∀ i x, φ i = some x → x.1.oneCell' = true) (place : Nat → Option (Nat × Nat)) (ev : Operand → AV) (ρ : Operand → Value) : ∀ (ps : List (Nat × Operand)) (cs : List AV) (cells : Array Value) (r : List AV),
    (∀ x ∈ ps, Rep φ M w (ev x.2) (ρ x.2)) → RepL φ M w cs cells.toList → (∀ u ∈ cells.toList, u.oneCell' = true) → fillA place cs (ps.map fun x => (x.1, ev x.2)) = some r →
    ∃ cells', Instr.fill place cells (ps.map fun x => (x.1, ρ x.2)) = some cells' ∧ RepL φ M w r cells'.toList ∧ ∀ u ∈ cells'.toList, u.oneCell' = true
  | [], cs, cells, r, _, h, h1, hf => by
    simp only [List.map_nil, fillA, Option.some.injEq] at hf
    subst hf
    exact ⟨cells, rfl, h, h1⟩
  | p :: ps, cs, cells, r, hp, h, h1, hf => by
    simp only [List.map_cons, fillA] at hf
    cases hpl : place p.1 with
    | none => rw [hpl] at hf; cases hf
    | some q =>
      rw [hpl] at hf
      dsimp only [Option.bind_some] at hf
      cases hc : (ev p.2).cells with
      | none => rw [hc] at hf; cases hf
      | some c =>
        rw [hc] at hf
        dsimp only [Option.bind_some] at hf
        split at hf
        · cases hf
        · rename_i hcond
          have hlen := RepL.len h
          obtain ⟨g1, g2⟩ := rep_cells (hp p (by simp)) hc hφ
          have gl : (ρ p.2).cells.size = c.length := by rw [← Array.length_toList, RepL.len g1]
          have hq : c.length = q.2 ∧ q.1 + c.length ≤ cs.length := by omega
          have hsz : q.1 + (ρ p.2).cells.size ≤ cells.size := by rw [gl, ← Array.length_toList, hlen]; exact hq.2
          have hfold := foldl_set (ρ p.2).cells.toList 0 q.1 cells (by rw [Array.length_toList]; omega)
          simp only [Nat.add_zero, Array.length_toList] at hfold
          generalize hnew : ((ρ p.2).cells.toList.zipIdx.foldl (fun (cs : Array Value) (x : Value × Nat) => cs.setIfInBounds (q.1 + x.2) x.1) cells) = new at hfold
          have hstep : Instr.fill place cells ((p :: ps).map fun x => (x.1, ρ x.2)) = Instr.fill place new (ps.map fun x => (x.1, ρ x.2)) := by
            have h3 : ¬ ((ρ p.2).cells.size ≠ q.2 ∨ q.1 + (ρ p.2).cells.size > cells.size) := by omega
            simp only [List.map_cons, Instr.fill, hpl]
            rw [if_neg (by simpa using h3), ← hnew]
            congr 1
            rw [← Array.foldl_toList, Array.toList_zipIdx]
          rw [hstep]
          refine fill_rep hφ place ev ρ ps _ new r (fun x hx => hp x (by simp [hx])) ?_ ?_ hf
          · rw [hfold, gl]
            exact RepL.app (RepL.app (h.take _) g1) (h.drop _)
          · rw [hfold]
            intro u hu
            rcases List.mem_append.1 hu with hu | hu
            · rcases List.mem_append.1 hu with hu | hu
              · exact h1 u (List.mem_of_mem_take hu)
              · exact g2 u hu
            · exact h1 u (List.mem_of_mem_drop hu)

theorem places_some {P : Program} : ∀ (fs : List Field), (fs.all fun f => decide (0 < (aty P f.type).sz)) = true → fs.mapM (fun f => (P.info? f.type).map fun i => (f.offset, i.size)) = some (fs.map fun f => (f.offset, (aty P f.type).sz))
  | [], _ => by simp
  | f :: fs, h => by
    rw [List.all_cons, Bool.and_eq_true, decide_eq_true_eq] at h
    obtain ⟨i, hi, hs, _⟩ := aty_info h.1
    rw [List.mapM_cons, places_some fs h.2]
    simp [hi, hs]
theorem build_sound (b : Begin P M0 N w0 F φ σ a w hp id o) (he : Ends P M0 N w0 F σ id o k K) {t : Nat} {parts : Array (Nat × Operand)} (ho : o.op = .build t parts) {ev : Operand → AV}
    (hx : ∀ x ∈ parts.toList, Rep φ (Mo φ σ.hp M0) w (ev x.2) (a.eval x.2)) (hk : aval P C id (.build t parts) o.type ev hp k) : o.wp P a w K Q := by
  unfold aval at hk
  dsimp only at hk
  obtain ⟨⟨hzl, hsz, h1⟩, hk⟩ := hk
  obtain ⟨i, z, hi, hz, _, _, hze⟩ := aty_zero hsz hzl
  have hrun : ∀ cells, P.built t (parts.toList.map fun x => (x.1, a.eval x.2)) = some cells → (execOp a.eval o).run P w = .ok (.value (.agg cells)) w := by
    intro cells h
    have := run_build (P := P) w t (parts.map fun x => (x.1, a.eval x.2)) cells (by simpa using h)
    simp only [execOp, ho, Sem.run_bind, this, Result.andThen_ok, Sem.run_pure]
  have hz0 : RepL φ (Mo φ σ.hp M0) w ((aty P t).zero.map .ex) z.cells.toList := by rw [hze]; exact ex_cells _ h1
  have hz1 : ∀ u ∈ z.cells.toList, u.oneCell' = true := by rw [hze]; exact all_one h1
  split at hk
  · rename_i hkk
    obtain ⟨hfl, cs, h2, hk⟩ := hk
    obtain ⟨fs, hu⟩ := aty_struct hkk
    have hflds : (aty P t).flds = fs.toList.map fun f => (f.offset, f.type) := by unfold aty; simp [hu]
    obtain ⟨cells, h3, h4, h5⟩ := fill_rep b.st.ones _ ev a.eval parts.toList _ z.cells cs hx hz0 hz1 h2
    refine end_pure b he hk (v := .agg cells) ?_ (hrun cells ?_)
    · simp only [Rep]
      exact ⟨cells.toList, by simp, h5, h4⟩
    · rw [hflds, List.all_map] at hfl
      unfold Program.built
      rw [hi, hu]
      simp only [hz, places_some fs.toList hfl]
      rw [← h3, hflds]
      congr 1
      funext j
      simp [List.map_map, Function.comp_def]
  · rename_i n e hkk
    obtain ⟨hpos, cs, h2, hk⟩ := hk
    obtain ⟨ie, hie, hes, _⟩ := aty_info hpos
    obtain ⟨cells, h3, h4, h5⟩ := fill_rep b.st.ones _ ev a.eval parts.toList _ z.cells cs hx hz0 hz1 h2
    refine end_pure b he hk (v := .agg cells) ?_ (hrun cells ?_)
    · simp only [Rep]
      exact ⟨cells.toList, by simp, h5, h4⟩
    · unfold Program.built
      rw [hi, aty_arr hkk]
      simp only [hz, hie, hes]
      exact h3
  · exact hk.elim

/-- The parts of a slice that is built, one behind the other. -/
theorem fill_seq {M : Nat → Prop} {sz : Nat} (hφ : ∀ i x, φ i = some x → x.1.oneCell' = true) (ev : Operand → AV) (ρ : Operand → Value) : ∀ (ps : List (Nat × Operand)) (n : Nat) (cells : Array Value),
    (∀ x ∈ ps, Rep φ M w (ev x.2) (ρ x.2)) → ps.map (·.1) = List.range' n ps.length → (ps.all fun x => ((ev x.2).cells.map (·.length)) == some sz) = true → cells.size = (n + ps.length) * sz →
    ∃ cells' flat, Instr.fill (fun i => some (i * sz, sz)) cells (ps.map fun x => (x.1, ρ x.2)) = some cells' ∧ cells'.toList = cells.toList.take (n * sz) ++ flat ∧ RepLL φ M w sz (ps.filterMap fun x => (ev x.2).cells) flat
  | [], n, cells, _, _, _, hs => by
    refine ⟨cells, [], rfl, ?_, RepLL.nil sz⟩
    rw [List.append_nil, List.take_of_length_le]
    rw [Array.length_toList, hs]; simp
  | p :: ps, n, cells, hp, hi, ha, hs => by
    rw [List.all_cons, Bool.and_eq_true] at ha
    cases hc : (ev p.2).cells with
    | none => rw [hc] at ha; simp at ha
    | some c =>
      have hcl : c.length = sz := by have := ha.1; rw [hc] at this; simpa using this
      rw [List.map_cons, List.length_cons, List.range'_succ] at hi
      injection hi with hi1 hi2
      obtain ⟨g1, g2⟩ := rep_cells (hp p (by simp)) hc hφ
      have gl : (ρ p.2).cells.size = sz := by rw [← Array.length_toList, RepL.len g1, hcl]
      rw [List.length_cons] at hs
      have e1 : (n + (ps.length + 1)) * sz = n * sz + sz + ps.length * sz := by rw [Nat.add_mul, Nat.add_mul, Nat.one_mul]; omega
      have hsz : n * sz + (ρ p.2).cells.size ≤ cells.size := by rw [gl, hs, e1]; omega
      have hfold := foldl_set (ρ p.2).cells.toList 0 (n * sz) cells (by rw [Array.length_toList]; omega)
      simp only [Nat.add_zero, Array.length_toList] at hfold
      generalize hnew : ((ρ p.2).cells.toList.zipIdx.foldl (fun (cs : Array Value) (x : Value × Nat) => cs.setIfInBounds (n * sz + x.2) x.1) cells) = new at hfold
      have hstep : Instr.fill (fun i => some (i * sz, sz)) cells ((p :: ps).map fun x => (x.1, ρ x.2)) = Instr.fill (fun i => some (i * sz, sz)) new (ps.map fun x => (x.1, ρ x.2)) := by
        have h3 : ¬ ((ρ p.2).cells.size ≠ sz ∨ p.1 * sz + (ρ p.2).cells.size > cells.size) := by rw [hi1]; omega
        simp only [List.map_cons, Instr.fill]
        rw [if_neg (by simpa using h3), ← hnew, hi1]
        congr 1
        rw [← Array.foldl_toList, Array.toList_zipIdx]
      have hnl : new.size = (n + 1 + ps.length) * sz := by
        rw [← Array.length_toList, hfold, List.length_append, List.length_append, List.length_take, List.length_drop, Array.length_toList, Array.length_toList, gl, hs, e1, Nat.add_mul, Nat.add_mul, Nat.one_mul]
        omega
      obtain ⟨cells', flat, f1, f2, f3⟩ := fill_seq hφ ev ρ ps (n + 1) new (fun x hx => hp x (by simp [hx])) hi2 ha.2 hnl
      refine ⟨cells', (ρ p.2).cells.toList ++ flat, by rw [hstep]; exact f1, ?_, ?_⟩
      · have e2 : (cells.toList.take (n * sz)).length = n * sz := by rw [List.length_take, Array.length_toList]; omega
        have e3 : (cells.toList.take (n * sz) ++ (ρ p.2).cells.toList ++ cells.toList.drop (n * sz + (ρ p.2).cells.size)).take (n * sz + sz) = cells.toList.take (n * sz) ++ (ρ p.2).cells.toList := List.take_left' (by rw [List.length_append, e2, Array.length_toList, gl])
        rw [f2, hfold, Nat.add_mul, Nat.one_mul, e3, List.append_assoc]
      · rw [List.filterMap_cons, hc]
        exact RepLL.cons (by rw [Array.length_toList]; exact gl) g2 g1 f3

theorem buildSlice_sound (b : Begin P M0 N w0 F φ σ a w hp id o) (he : Ends P M0 N w0 F σ id o k K) {t len : Nat} {parts : Array (Nat × Operand)} (ho : o.op = .buildSlice t len parts) {ev : Operand → AV}
    (hx : ∀ x ∈ parts.toList, Rep φ (Mo φ σ.hp M0) w (ev x.2) (a.eval x.2)) (hk : aval P C id (.buildSlice t len parts) o.type ev hp k) : o.wp P a w K Q := by
  unfold aval at hk
  dsimp only at hk
  split at hk
  · rename_i e hkk
    obtain ⟨⟨hzl, hsz, hbig, h1⟩, ⟨h2, h3⟩, hk⟩ := hk
    obtain ⟨i, z, hi, hz, hs, _, hze⟩ := aty_zero hsz hzl
    have hB : w0.heap.size ≤ w.heap.size := b.st.below.size
    have hlen : parts.toList.length = len := by have := congrArg List.length h2; simpa using this
    obtain ⟨cells, flat, f1, f2, f3⟩ := fill_seq (sz := (aty P e).sz) b.st.ones ev a.eval parts.toList 0 ((Array.range (len * (aty P e).sz)).map (z.cells[· % z.cells.size]!)) hx
      (by rw [h2, hlen, List.range_eq_range']) h3 (by rw [hlen]; simp)
    rw [Nat.zero_mul, List.take_zero, List.nil_append] at f2
    have hfl := f3.len
    have hcnt : (parts.toList.filterMap fun x => (ev x.2).cells).length = len := by
      rw [← hlen]
      clear h2 f1 f2 f3 hfl hlen hx ho hk
      generalize parts.toList = l at h3
      induction l with
      | nil => rfl
      | cons p l ih =>
        rw [List.all_cons, Bool.and_eq_true] at h3
        cases hc : (ev p.2).cells with
        | none => have := h3.1; rw [hc] at this; simp at this
        | some c => rw [List.filterMap_cons, hc, List.length_cons, List.length_cons, ih h3.2]
    rw [hcnt] at hfl
    have hcl : cells.size = len * (aty P e).sz := by rw [← Array.length_toList, f2, hfl]
    have hm : len ≤ maxLen := by
      have : len ≤ len * (aty P e).sz := Nat.le_mul_of_pos_right _ hsz
      unfold maxLen; omega
    have hrun : (Instr.buildSlice t len (parts.map fun x => (x.1, a.eval x.2))).run P w = .ok (.slice (some ⟨w.heap.size, 0, none⟩) len len) (w.alloc (.cells cells e)) := by
      rcases Nat.eq_zero_or_pos len with h0 | hpos
      · subst h0
        have hp0 : parts = #[] := by
          apply Array.ext'
          simpa using List.eq_nil_of_length_eq_zero hlen
        subst hp0
        simp [Instr.fill] at f1
        subst f1
        have hr0 : Array.range 0 = #[] := rfl
        simp [Instr.buildSlice, run_underlying (aty_slice hkk), sizeOf, typeInfo, hi, Instr.fill, newRow, hr0]
      · refine run_buildSlice (P := P) w t e len _ cells i z (aty_slice hkk) hi hz (by rw [hs]; omega) (by rw [hs]; have := Nat.mul_pos hpos hsz; omega) ?_
        rw [hs]
        simpa using f1
    refine end_new b he (World.grownBy_alloc w (.cells cells e) none) (ty := e) (sz := (aty P e).sz) (v := .slice (some ⟨w.heap.size, 0, none⟩) len len) (xs := flat) hk ?_ ?_ rfl f3 rfl ?_ (r := .slice (some ⟨w.heap.size, 0, none⟩) len len) ?_
    · rw [hcnt]
      refine ⟨hfl, .inr ⟨w.heap.size, len, cells, rfl, hB, heap_alloc_new w _, Nat.le_refl _, hm, hcl, ?_⟩⟩
      rw [f2, List.take_of_length_le (by omega)]
    · intro q hq; cases hq; exact Nat.le_refl _
    · intro φ' M h; simp only [Rep]; exact ⟨_, h⟩
    · simp only [execOp, ho, Sem.run_bind, hrun, Result.andThen_ok, Sem.run_pure]
  · exact hk.elim
end
end Go.Proofs.YtaphbajfjmhpnaaDoor
