/-
  Each operation of the machine does what 'aval' says of it: new rows, stores, appends, slices of slices, calls. Conditions: those that each theorem states.
-/
import Derived.Test.YtaphbajfjmhpnaaDoorAbs6
namespace Go.Proofs.YtaphbajfjmhpnaaDoor
open Go.RowKit
set_option maxRecDepth 100000

section
variable {P : Program} {C : World → Prop} {w : World} {M0 : Nat → Prop} {N : Nat} {w0 : Root} {F : Nat → Prop} {φ : Phi} {σ : AS} {a : Act} {hp : Nat → Option Row1} {id : Nat} {o : Oper} {k : AV → Eff → Prop} {K : Act → World → Prop} {Q : Exit → Act → World → Prop}

theorem ex_cells {M : Nat → Prop} : ∀ (l : List Value), l.all (·.oneCell') = true → RepL φ M w (l.map .ex) l
  | [], _ => RepL.nil
  | x :: l, h => by
    rw [List.all_cons, Bool.and_eq_true] at h
    exact RepL.cons (ex_rep _ h.1) (ex_cells l h.2)
theorem all_one {l : List Value} (h : l.all (·.oneCell') = true) : ∀ u ∈ l, u.oneCell' = true := fun u hu => List.all_eq_true.1 h u hu
/-- A new block with one element: a box. -/
theorem end_box (b : Begin P M0 N w0 F φ σ a w hp id o) (he : Ends P M0 N w0 F σ id o k K) {t : Nat} {cs : List AV} {vs : List Value} (hk : k (.pt id 0 0) (.new ⟨t, [cs], true⟩)) (hl : vs.length = (aty P t).sz)
    (h1 : ∀ u ∈ vs, u.oneCell' = true) (hr : RepL φ (Mo φ σ.hp M0) w cs vs) (hrun : (execOp a.eval o).run P w = .ok (.value (.pointer (some ⟨w.heap.size, 0, none⟩))) (w.alloc (.cells vs.toArray t))) : o.wp P a w K Q := by
  have hB : w0.heap.size ≤ w.heap.size := b.st.below.size
  refine end_new b he (World.grownBy_alloc w _ none) (ty := t) (sz := (aty P t).sz) (es := [cs]) (v := .slice (some ⟨w.heap.size, 0, none⟩) 1 1) (xs := vs) hk ?_ ?_ rfl ?_ rfl ?_ hrun
  · refine ⟨by rw [hl]; simp, .inr ⟨w.heap.size, 1, vs.toArray, rfl, hB, heap_alloc_new w _, Nat.le_refl _, by decide, by simp [hl], ?_⟩⟩
    simpa using List.take_of_length_le (Nat.le_of_eq hl)
  · intro q hq; cases hq; exact Nat.le_refl _
  · rw [← hl]; exact RepLL.one h1 hr
  · intro φ' M h
    simp only [Rep]
    exact ⟨_, _, h, by simp [blkOf]⟩

theorem alloc_sound (b : Begin P M0 N w0 F φ σ a w hp id o) (he : Ends P M0 N w0 F σ id o k K) {t : Nat} (ho : o.op = .alloc t)
    (hk : ((aty P t).zero.length = (aty P t).sz ∧ 0 < (aty P t).sz ∧ (aty P t).zero.all (·.oneCell') = true) ∧ k (.pt id 0 0) (.alc t ((aty P t).zero.map .ex))) : o.wp P a w K Q := by
  obtain ⟨⟨h1, h2, h3⟩, hk⟩ := hk
  obtain ⟨i, z, hi, hz, hs, _, hzl⟩ := aty_zero h2 h1
  refine end_box (k := fun u f => u = .pt id 0 0 ∧ f = .new ⟨t, [(aty P t).zero.map .ex], true⟩) b (by rintro u f ⟨rfl, rfl⟩ φ' a' w' st; exact he _ _ hk φ' a' w' st) ⟨rfl, rfl⟩ h1 (all_one h3) (ex_cells _ h3) ?_
  have : z.cells = (aty P t).zero.toArray := by rw [← hzl]
  simp [execOp, ho, Instr.alloc, zeroValue, typeInfo, hi, hz, newVar, newRow, this]

theorem phi_one (b : Begin P M0 N w0 F φ σ a w hp id o) : ∀ i x, φ i = some x → x.1.oneCell' = true := b.st.ones

theorem box_sound (b : Begin P M0 N w0 F φ σ a w hp id o) (he : Ends P M0 N w0 F σ id o k K) {t : Nat} {x : Operand} (ho : o.op = .box t x) {u : AV} (hu : Rep φ (Mo φ σ.hp M0) w u (a.eval x))
    (hk : ∃ cs, u.cells = some cs ∧ (cs.length = (aty P t).sz ∧ 0 < cs.length) ∧ k (.pt id 0 0) (.new ⟨t, [cs], true⟩)) : o.wp P a w K Q := by
  obtain ⟨cs, h1, ⟨h2, _⟩, hk⟩ := hk
  obtain ⟨h4, h5⟩ := rep_cells hu h1 (phi_one b)
  refine end_box b he hk (by rw [RepL.len h4, h2]) h5 h4 ?_
  simp [execOp, ho, Instr.box, newVar, newRow]

theorem flat_drop_take {α : Type} (p q r : List α) (off n : Nat) (h : off + n ≤ q.length) (s : List α) (hs : s.length = n) :
    (p ++ q ++ r).take (p.length + off) ++ s ++ (p ++ q ++ r).drop (p.length + off + n) = p ++ (q.take off ++ s ++ q.drop (off + n)) ++ r := by
  have e1 : (p ++ q ++ r).take (p.length + off) = p ++ q.take off := by
    rw [List.append_assoc, List.take_length_add_append, List.take_append_of_le_length (by omega)]
  have e2 : (p ++ q ++ r).drop (p.length + off + n) = q.drop (off + n) ++ r := by
    rw [List.append_assoc, Nat.add_assoc, List.drop_length_add_append, List.drop_append_of_le_length h]
  rw [e1, e2]
  simp only [List.append_assoc]

theorem RepLL.set {M : Nat → Prop} {sz : Nat} : ∀ {es : List (List AV)} {x : List Value} {j : Nat} {e e' : List AV} {q : List Value}, RepLL φ M w sz es x → es[j]? = some e → q.length = sz → (∀ u ∈ q, u.oneCell' = true) → RepL φ M w e' q →
    RepLL φ M w sz (es.set j e') (x.take (j * sz) ++ q ++ x.drop (j * sz + sz))
  | [], _, _, _, _, _, _, h, _, _, _ => by simp at h
  | e0 :: es, _, 0, e, e', q, h, hj, hl, h1, hr => by
    simp only [RepLL] at h
    obtain ⟨y, z, rfl, h2, h3, h4, h5⟩ := h
    have : (y ++ z).drop sz = z := by rw [← h2]; exact List.drop_left
    simpa [this] using RepLL.cons hl h1 hr h5
  | e0 :: es, _, j + 1, e, e', q, h, hj, hl, h1, hr => by
    simp only [RepLL] at h
    obtain ⟨y, z, rfl, h2, h3, h4, h5⟩ := h
    have ih := RepLL.set h5 (by simpa using hj) hl h1 hr
    have e1 : (y ++ z).take ((j + 1) * sz) = y ++ z.take (j * sz) := by rw [Nat.add_mul, Nat.one_mul, Nat.add_comm, ← h2, List.take_length_add_append]
    have e2 : (y ++ z).drop ((j + 1) * sz + sz) = z.drop (j * sz + sz) := by
      rw [Nat.add_mul, Nat.one_mul, show j * sz + sz + sz = y.length + (j * sz + sz) by omega, List.drop_length_add_append]
    rw [e1, e2, List.set_cons_succ, List.append_assoc, List.append_assoc, ← List.append_assoc (z.take _)]
    exact RepLL.cons h2 h3 h4 ih

theorem store_sound (b : Begin P M0 N w0 F φ σ a w hp id o) (he : Ends P M0 N w0 F σ id o k K) {t : Nat} {x v : Operand} (ho : o.op = .store t x v) {ev : Operand → AV}
    (hx : Rep φ (Mo φ σ.hp M0) w (ev x) (a.eval x)) (hv : Rep φ (Mo φ σ.hp M0) w (ev v) (a.eval v)) (hk : aval P C id (.store t x v) o.type ev hp k) : o.wp P a w K Q := by
  unfold aval at hk
  dsimp only at hk
  generalize ev x = ux at hx hk
  generalize ev v = uv at hv hk
  cases ux with
  | pt i j off =>
    obtain ⟨β, e, cs, h1, h2, h3, h4, ⟨h5, h6, h7⟩, hk⟩ := hk
    obtain ⟨g1, g2⟩ := rep_cells hv h4 (phi_one b)
    simp only [Rep] at hx
    obtain ⟨hd, sz, h8, h9⟩ := hx
    obtain ⟨γ, hb, wt, wm, _⟩ := b.hpx i β _ h1 h8
    obtain ⟨hsz, xs, h10, h11⟩ := row_of b.st b.hpx h1 h8
    dsimp only at hsz h10 h11
    obtain ⟨p, q, r, q1, q2, q3, q4, q5, _, _⟩ := h11.get h3
    have hql : off + cs.length ≤ q.length := by rw [RepL.len q5]; exact h7
    have hne : xs ≠ [] := by
      intro e'
      rw [e'] at q1
      simp at q1
      rw [q1.2.1] at hql
      simp only [List.length_nil] at hql
      omega
    obtain ⟨g, c, r1, r2, r3, r4, r5, r6, r7, r8, cur, s1, s2, s3⟩ := own_at h10 hne
    rw [r5] at h9
    have hvl : (a.eval v).cells.toList.length = cs.length := by rw [RepL.len g1]
    have hxl := h11.len
    have hj : j < β.es.length := (List.getElem?_eq_some_iff.1 h3).1
    have hjs : (j + 1) * sz ≤ c * sz := Nat.mul_le_mul_right _ (by omega)
    rw [Nat.add_mul, Nat.one_mul] at hjs
    have hst := run_storeCells_at P g (j * sz + off) β.ty (a.eval v).cells.toList 0 cur w s1 (by rw [hvl]; rw [q3] at hql; omega) g2
    obtain ⟨ii, hi, hz, _⟩ := aty_info (P := P) (t := t) (by omega)
    have hsize : (a.eval v).cells.size = (aty P t).sz := by rw [← Array.length_toList, hvl, h5]
    simp only [Nat.add_zero] at hst
    generalize hW : w.setRow g (cur.toList.take (j * sz + off) ++ (a.eval v).cells.toList ++ cur.toList.drop (j * sz + off + (a.eval v).cells.toList.length)).toArray = w' at hst
    have hrun : (execOp a.eval o).run P w = .ok .skip w' := by
      simp [execOp, ho, h9, Instr.storeAt, Instr.sureAddr, storeVar, sizeOf, typeInfo, hi, hz, hsize, hst]
    have hgr : w.grownBy w' hd.ownBlock := by
      rw [← hW]
      exact ⟨rfl, rfl, rfl, by simp, fun k' _ hk' => setRow_other w g k' _ fun e' => hk' (by rw [r4, e'])⟩
    have hcl : cur.toList.length = c * sz := by rw [Array.length_toList, s2]
    have hxs2 : (cur.toList.take (j * sz + off) ++ (a.eval v).cells.toList ++ cur.toList.drop (j * sz + off + (a.eval v).cells.toList.length)).take (β.es.length * sz) =
        xs.take (j * sz) ++ (q.take off ++ (a.eval v).cells.toList ++ q.drop (off + cs.length)) ++ xs.drop (j * sz + sz) := by
      have hcur : cur.toList = p ++ q ++ (r ++ cur.toList.drop (β.es.length * sz)) := by
        rw [← List.append_assoc, ← q1, ← s3, List.take_append_drop]
      have e1 : xs.take (j * sz) = p := by rw [q1, ← q2, List.append_assoc]; exact List.take_left
      have e2 : xs.drop (j * sz + sz) = r := by rw [q1, ← q2, ← q3, ← List.length_append]; exact List.drop_left
      rw [e1, e2, hcur, ← q2, hvl, flat_drop_take p q _ off cs.length hql _ hvl, ← List.append_assoc]
      have hlen : β.es.length * sz = (p ++ (q.take off ++ (a.eval v).cells.toList ++ q.drop (off + cs.length)) ++ r).length := by
        rw [← hxl, q1]
        simp only [List.length_append, List.length_take, List.length_drop, hvl]
        omega
      rw [hlen]
      exact List.take_left
    have hnl : (q.take off ++ (a.eval v).cells.toList ++ q.drop (off + cs.length)).length = sz := by
      simp only [List.length_append, List.length_take, List.length_drop, hvl]
      omega
    have hrow : RepLL φ (Mo φ σ.hp M0) w sz (β.es.set j (e.take off ++ cs ++ e.drop (off + cs.length))) (xs.take (j * sz) ++ (q.take off ++ (a.eval v).cells.toList ++ q.drop (off + cs.length)) ++ xs.drop (j * sz + sz)) := by
      refine RepLL.set h11 h3 hnl ?_ (RepL.app (RepL.app (q5.take off) g1) (q5.drop _))
      intro u hu
      rcases List.mem_append.1 hu with hu | hu
      · rcases List.mem_append.1 hu with hu | hu
        · exact q4 u (List.mem_of_mem_take hu)
        · exact g2 u hu
      · exact q4 u (List.mem_of_mem_drop hu)
    have hown : w'.ownsRow w0.heap.size β.ty sz hd (β.es.set j (e.take off ++ cs ++ e.drop (off + cs.length))).length (xs.take (j * sz) ++ (q.take off ++ (a.eval v).cells.toList ++ q.drop (off + cs.length)) ++ xs.drop (j * sz + sz)) := by
      refine ⟨hrow.len, .inr ⟨g, c, _, by rw [List.length_set]; exact r1, r7, by rw [← hW]; exact setRow_heap w g cur _ β.ty _ s1, by rw [List.length_set]; exact r2, r3, ?_, ?_⟩⟩
      · simp only [List.size_toArray, List.length_append, List.length_take, List.length_drop, hcl, hvl]
        omega
      · rw [List.length_set]
        exact hxs2
    have hfin := b.st.set hb (wm.symm.trans h2) h8 hgr (by rw [← wt]; exact hown) hrow
    rw [← wt] at hfin
    exact wp_skp hrun (he _ _ hk φ _ w' ((hfin.sub fun _ h => h.1).putJ undef o.dst b.dst))
  | _ => exact hk.elim

theorem makeSlice_sound (b : Begin P M0 N w0 F φ σ a w hp id o) (he : Ends P M0 N w0 F σ id o k K) {t : Nat} {x y : Operand} (ho : o.op = .makeSlice t x y) {ev : Operand → AV}
    (hx : Rep φ (Mo φ σ.hp M0) w (ev x) (a.eval x)) (hy : Rep φ (Mo φ σ.hp M0) w (ev y) (a.eval y)) (hk : aval P C id (.makeSlice t x y) o.type ev hp k) : o.wp P a w K Q := by
  unfold aval at hk
  dsimp only at hk
  obtain ⟨n, c, h1, h2, hk⟩ := hk
  have e1 := rep_int hx h1
  have e2 := rep_int hy h2
  split at hk
  · rename_i e hkk
    obtain ⟨⟨z1, z2, z3, z4⟩, ⟨rfl, h4, h5⟩, hk⟩ := hk
    obtain ⟨i, z, hi, hz, hs, hby, _⟩ := aty_zero z2 z1
    have hB : w0.heap.size ≤ w.heap.size := b.st.below.size
    have hc : c.toNat ≤ maxLen := by
      have : c.toNat ≤ (aty P e).bytes * c.toNat := Nat.le_mul_of_pos_left _ z3
      unfold maxLen; omega
    obtain ⟨w', hr, hown, hg⟩ := run_make_own (P := P) w w0.heap.size t e i z (aty P e).sz (aty_slice hkk) hi hz hs .i64 .i64 c.toNat (by rw [hby]; omega) hc hB
    rw [show ((c.toNat : Nat) : Int) = c by omega] at hr
    refine end_new b he hg (es := []) (xs := []) hk hown ?_ rfl (RepLL.nil _) rfl ?_ (r := .slice (some ⟨w.heap.size, 0, none⟩) 0 c.toNat) ?_
    · intro q hq; cases hq; exact Nat.le_refl _
    · intro φ' M h; simp only [Rep]; exact ⟨_, h⟩
    · simp [execOp, ho, e1, e2, hr]
  · exact hk.elim

theorem assign_sound (b : Begin P M0 N w0 F φ σ a w hp id o) (he : Ends P M0 N w0 F σ id o k K) {x : Operand} (ho : o.op = .assign x) {ev : Operand → AV}
    (hx : Rep φ (Mo φ σ.hp M0) w (ev x) (a.eval x)) (hk : aval P C id (.assign x) o.type ev hp k) : o.wp P a w K Q := by
  unfold aval at hk
  dsimp only at hk
  split at hk
  · rename_i e hn hkk
    have hv : a.eval x = .slice none 0 0 := by
      unfold nilConst at hn
      split at hn
      · rfl
      · cases hn
    refine end_new b he (w' := w) ⟨rfl, rfl, rfl, Nat.le_refl _, fun _ _ _ => rfl⟩ (ty := e) (sz := (aty P e).sz) (es := []) (v := .slice none 0 0) (xs := []) hk (World.ownsRow_nil _ _ _ _) ?_ rfl (RepLL.nil _) rfl ?_ (r := .slice none 0 0) ?_
    · intro q hq; cases hq
    · intro φ' M h; simp only [Rep]; exact ⟨_, h⟩
    · simp [execOp, ho, hv]
  · exact end_pure b he hk hx (by simp [execOp, ho])

theorem RepLL.resize {M : Nat → Prop} {sz sz' : Nat} : ∀ {es : List (List AV)} {x : List Value}, RepLL φ M w sz es x → (∀ e ∈ es, e.length = sz') → RepLL φ M w sz' es x
  | [], _, h, _ => by simp only [RepLL] at h ⊢; exact h
  | e :: es, _, h, hl => by
    simp only [RepLL] at h
    obtain ⟨y, z, rfl, h2, h3, h4, h5⟩ := h
    exact RepLL.cons (by rw [RepL.len h4]; exact hl e (by simp)) h3 h4 (RepLL.resize h5 fun e' he' => hl e' (by simp [he']))

/-- What an append leaves: the row is the old one's, or a new one. -/
theorem run_app {base t ty e : Nat} {i : TypeInfo} {z : Value} {size bytes : Nat} (ht : P.underlying t = some (.slice e)) (hi : P.info? e = some i) (hz : i.zero = some z)
    (hsize : i.size = size) (hby : i.bytes = bytes) (hzs : z.cells.size = size) (hsz : 0 < size) (hb1 : 1 ≤ bytes) {v : Value} {n : Nat} {xs : List Value} (hown : w.ownsRow base e size v n xs)
    {A : Option Addr} {m c : Nat} {news : List Value} (hl : news.length = m * size) (hA : True) (hnews : 0 < m → ∃ b o, A = some ⟨b, o, none⟩ ∧ At w b o news) (h1 : ∀ u ∈ news, u.oneCell' = true)
    (hbytes : (n + m) * bytes ≤ 140737488355328) (hbase : base ≤ w.heap.size) :
    ∃ v' w', (Builtin.append_ #[t, t] ty #[v, .slice A m c]).run P w = .ok v' w' ∧ w'.ownsRow base e size v' (n + m) (xs ++ news) ∧ w.grownBy w' v.ownBlock ∧
      (∀ k, v'.ownBlock = some k → v.ownBlock = some k ∨ k = w.heap.size) ∧ v'.oneCell' = true := by
  have h63 : n + m ≤ maxLen := by
    have : n + m ≤ (n + m) * bytes := Nat.le_mul_of_pos_right _ hb1
    unfold maxLen; omega
  have stay : m = 0 → (Builtin.append_ #[t, t] ty #[v, .slice A m c]).run P w = .ok v w → ∃ v' w', (Builtin.append_ #[t, t] ty #[v, .slice A m c]).run P w = .ok v' w' ∧ w'.ownsRow base e size v' (n + m) (xs ++ news) ∧ w.grownBy w' v.ownBlock ∧
      (∀ k, v'.ownBlock = some k → v.ownBlock = some k ∨ k = w.heap.size) ∧ v'.oneCell' = true := by
    intro hm hr
    have hnews0 : news = [] := List.eq_nil_of_length_eq_zero (by rw [hl, hm, Nat.zero_mul])
    refine ⟨v, w, hr, by rw [hm, hnews0]; simpa using hown, ⟨rfl, rfl, rfl, Nat.le_refl _, fun _ _ _ => rfl⟩, fun k hk => .inl hk, ?_⟩
    obtain ⟨A', c', hv, _⟩ := own_form hown
    rw [hv]; rfl
  have one : ∀ {w' : World} {v' : Value} {n' : Nat} {xs' : List Value}, w'.ownsRow base e size v' n' xs' → v'.oneCell' = true := by
    intro w' v' n' xs' h
    obtain ⟨A', c', hv, _⟩ := own_form h
    rw [hv]; rfl
  rcases Nat.eq_zero_or_pos m with hm | hm
  · refine stay hm ?_
    have hnews0 : news = [] := List.eq_nil_of_length_eq_zero (by rw [hl, hm, Nat.zero_mul])
    rcases hown.2 with ⟨rfl, rfl⟩ | ⟨g, cap, cur, rfl, _, hg, hnc, _, hcs, _⟩
    · subst hm
      cases A <;> simp [Builtin.append_, run_underlying ht, sizeOf, typeInfo, hi, Builtin.lenOf, Builtin.firstCells, loadCells, loadCellsFrom]
    · subst hm
      cases A <;> simp [Builtin.append_, run_underlying ht, sizeOf, typeInfo, hi, Builtin.lenOf, Builtin.firstCells, loadCells, loadCellsFrom, hnc, storeCells]
  · obtain ⟨b', o', rfl, hat⟩ := hnews hm
    have hat' : ∀ j u, news[j]? = some u → w.cell? ((⟨b', o', none⟩ : Addr).add j) = some u := fun j u hu => by rw [addr_add]; exact hat j u hu
    obtain ⟨v', w', hr, h2, h3, h4⟩ := run_append_own (P := P) w base t ty e i z size bytes ht hi hz hsize hby hzs hsz v n xs hown ⟨b', o', none⟩ m c news hl hat' h1 h63 hbytes hbase
    refine ⟨v', w', hr, h2, h3, ?_, one h2⟩
    have h63' : n + m ≤ 9223372036854775807 := by unfold maxLen at h63; omega
    rcases hown.2 with ⟨rfl, rfl⟩ | ⟨g, cap, cur, rfl, _, hg, hnc, _, hcs, _⟩
    · have hr2 := run_append_nil (P := P) w t ty e i z ht hi hz ⟨b', o', none⟩ m c news (by rw [hsize]; exact hl) hat' hm (by omega) (by rw [hby]; simp only [Nat.zero_add] at hbytes; omega)
      rw [hr2] at hr
      injection hr with e1 e2
      intro k hk
      rw [← e1] at hk
      cases hk
      exact .inr rfl
    · by_cases hroom : n + m ≤ cap
      · have hr2 := run_append_room (P := P) w t ty e i ht hi g n cap cur hg ⟨b', o', none⟩ m c news (by rw [hsize]; exact hl) hat' h1 hroom (by rw [hsize, hl, hcs, ← Nat.add_mul]; exact Nat.mul_le_mul_right _ hroom)
        rw [hr2] at hr
        injection hr with e1 e2
        intro k hk
        rw [← e1] at hk
        exact .inl hk
      · have holds : ∀ j u, xs[j]? = some u → w.cell? ((⟨g, 0, none⟩ : Addr).add j) = some u := hown.cells (g := g) rfl
        have hr2 := run_append_grow (P := P) w t ty e i z ht hi hz ⟨g, 0, none⟩ n cap xs (by rw [hsize]; exact hown.1) holds ⟨b', o', none⟩ m c news (by rw [hsize]; exact hl) hat' (by omega) (by omega) (growslice_fits (by omega) (by rw [hby]; exact hbytes))
        rw [hr2] at hr
        injection hr with e1 e2
        intro k hk
        rw [← e1] at hk
        cases hk
        exact .inr rfl

theorem app_end (b : Begin P M0 N w0 F φ σ a w hp id o) (he : Ends P M0 N w0 F σ id o k K) {t e : Nat} {s : AV} {vs vx : Value} {ns : List (List AV)} (hkk : (aty P t).k = .slice e)
    (hs : Rep φ (Mo φ σ.hp M0) w s vs) {A : Option Addr} {c : Nat} {news : List Value} {sz' : Nat} (hx : vx = .slice A ns.length c) (hA : True) (hn : RepLL φ (Mo φ σ.hp M0) w sz' ns news) (hat : ns ≠ [] → ∃ b o, A = some ⟨b, o, none⟩ ∧ b < w.heap.size ∧ At w b o news)
    (hrun : ∀ r w', (Builtin.append_ #[t, t] o.type #[vs, vx]).run P w = .ok r w' → (execOp a.eval o).run P w = .ok (.value r) w')
    (hk : opApp P hp id e s ns k) : o.wp P a w K Q := by
  unfold opApp at hk
  obtain ⟨⟨z1, z2, z3, z4⟩, hk⟩ := hk
  obtain ⟨i, z, hi, hz, hsz, hby, hzl⟩ := aty_zero z2 z1
  have hzs : z.cells.size = (aty P e).sz := by rw [← Array.length_toList, hzl, z1]
  have hB : w0.heap.size ≤ w.heap.size := b.st.below.size
  have hn' := hn.resize z4
  have hat' : 0 < ns.length → ∃ b o, A = some ⟨b, o, none⟩ ∧ At w b o news := fun h => by
    obtain ⟨g, o', h1, _, h3⟩ := hat (List.ne_nil_of_length_pos h)
    exact ⟨g, o', h1, h3⟩
  split at hk
  · rename_i i'
    obtain ⟨β, h1, h2, h3, h4, hk⟩ := hk
    simp only [Rep] at hs
    obtain ⟨sz, hφ⟩ := hs
    obtain ⟨γ, hb, wt, wm, _⟩ := b.hpx i' β _ h1 hφ
    obtain ⟨hsz', xs, h5, h6⟩ := row_of b.st b.hpx h1 hφ
    dsimp only at hsz' h5 h6
    rw [h3] at hsz' h5
    subst hsz'
    obtain ⟨v', w', hr, g1, g2, g3, g4⟩ := run_app (ty := o.type) (aty_slice hkk) hi hz hsz hby hzs z2 z3 h5 (c := c) hn'.len hA hat' hn'.ones h4 hB
    obtain ⟨φ', q1, q2, q3⟩ := b.st.grow hb (wm.symm.trans h2) hφ b.free (es := β.es ++ ns) (xs := xs ++ news) (v' := v') g2 (by rw [← wt, h3, List.length_append]; exact g1) (fun k hk => (g3 k hk).imp (fun h => h) fun e => Nat.le_of_eq e.symm) g4 (RepLL.app h6 hn')
    refine wp_val (hrun _ _ (by rw [hx]; exact hr)) (he _ _ hk φ' _ w' ?_)
    have := q3.put (u := .own id) (v := v') (by simp only [Rep]; exact ⟨_, q2⟩) o.dst b.dst
    rwa [← wt, h3] at this
  · obtain ⟨h4, hk⟩ := hk
    have hv := rep_ex hs rfl
    obtain ⟨v', w', hr, g1, g2, g3, g4⟩ := run_app (ty := o.type) (aty_slice hkk) hi hz hsz hby hzs z2 z3 (World.ownsRow_nil w w0.heap.size e (aty P e).sz) (c := c) hn'.len hA hat' hn'.ones (by rw [Nat.zero_add]; exact h4) hB
    rw [Nat.zero_add, List.nil_append] at g1
    refine end_new b he g2 hk g1 ?_ g4 hn' rfl ?_ (hrun _ _ (by rw [hv, hx]; exact hr))
    · intro q hq
      rcases g3 q hq with h | h
      · cases h
      · omega
    · intro φ' M h; simp only [Rep]; exact ⟨_, h⟩
  · exact hk.elim
end
end Go.Proofs.YtaphbajfjmhpnaaDoor
