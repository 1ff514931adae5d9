/-
  Each operation of the machine does what 'aval' says of it. Conditions: those that each theorem states.
-/
import Derived.Test.YtaphbajfjmhpnaaDoorAbs4
namespace Go.Proofs.YtaphbajfjmhpnaaDoor
open Go.RowKit
set_option maxRecDepth 100000

section
variable {P : Program} {C : World → Prop} {w : World} {M0 : Nat → Prop} {N : Nat} {w0 : Root} {F : Nat → Prop} {φ : Phi} {σ : AS} {a : Act} {hp : Nat → Option Row1} {id : Nat} {o : Oper} {k : AV → Eff → Prop} {K : Act → World → Prop} {Q : Exit → Act → World → Prop}

theorem rep_int {u : AV} {v : Value} {kd : IntKind} {n : Int} {M : Nat → Prop} (h : Rep φ M w u v) (e : u = .ex (.int kd n)) : v = .int kd n := by subst e; simp only [Rep] at h; exact h.1
theorem rep_ex {u : AV} {v x : Value} {M : Nat → Prop} (h : Rep φ M w u v) (e : u = .ex x) : v = x := by subst e; simp only [Rep] at h; exact h.1
theorem ex_rep {M : Nat → Prop} (x : Value) (h : x.oneCell' = true) : Rep φ M w (.ex x) x := by simp only [Rep]; exact ⟨trivial, h⟩

theorem ld_sound (b : Begin P M0 N w0 F φ σ a w hp id o) (he : Ends P M0 N w0 F σ id o k K) {t : Nat} {cs : List AV} {off : Nat} (hk : ldCell P t cs off k)
    {vs : List Value} (hv : RepL φ (Mo φ σ.hp M0) w cs vs) (h1 : ∀ u ∈ vs, u.oneCell' = true)
    (ha : (aty P t).isAgg = true → 0 < (aty P t).sz → off + (aty P t).sz ≤ vs.length → (execOp a.eval o).run P w = .ok (.value (.agg ((vs.drop off).take (aty P t).sz).toArray)) w)
    (hb : (aty P t).known = true → ∀ v, vs[off]? = some v → (execOp a.eval o).run P w = .ok (.value v) w) : o.wp P a w K Q := by
  unfold ldCell at hk
  split at hk
  · rename_i hg
    obtain ⟨⟨h2, h3⟩, hk⟩ := hk
    refine end_pure b he hk ?_ (ha hg h2 (by rw [RepL.len hv]; exact h3))
    simp only [Rep]
    exact ⟨_, rfl, fun u hu => h1 u (List.mem_of_mem_drop (List.mem_of_mem_take hu)), (hv.drop off).take _⟩
  · obtain ⟨hn, u, h2, hk⟩ := hk
    obtain ⟨v, h3, h4⟩ := hv.get h2
    exact end_pure b he hk h4 (hb hn v h3)

theorem load_sound (b : Begin P M0 N w0 F φ σ a w hp id o) (he : Ends P M0 N w0 F σ id o k K) {t : Nat} {x : Operand} (ho : o.op = .load t x) {u : AV} (hu : Rep φ (Mo φ σ.hp M0) w u (a.eval x))
    (hk : aval P C id (.load t x) o.type (fun _ => u) hp k) : o.wp P a w K Q := by
  have hrun : ∀ (g o' : Nat) (r : Value), a.eval x = .pointer (some ⟨g, o', none⟩) → (loadVar t ⟨g, o', none⟩).run P w = .ok r w → (execOp a.eval o).run P w = .ok (.value r) w := by
    intro g o' r h1 h2
    simp [execOp, ho, h1, Instr.loadAt, Instr.sureAddr, h2]
  unfold aval at hk
  cases u with
  | rp cs off =>
    dsimp only at hk
    simp only [Rep] at hu
    obtain ⟨g, o', vs, g1, g2, g3, g4, g5, g6⟩ := hu
    exact ld_sound b he hk (RepL.keep (Keep.refl _ w) (ext0 φ) _ _ g6) g5 (fun h1 h2 h3 => hrun _ _ _ g1 (run_loadVar_agg g4 h1 h2 h3)) (fun h1 v h2 => hrun _ _ _ g1 (run_loadVar_one (g4 _ _ h2) h1))
  | pt i j off =>
    dsimp only at hk
    obtain ⟨β, e, h1, h2, hk⟩ := hk
    simp only [Rep] at hu
    obtain ⟨hd, sz, h3, h4⟩ := hu
    obtain ⟨_, xs, h5, h6⟩ := row_of b.st b.hpx h1 h3
    dsimp only at h5 h6
    obtain ⟨p, q, r, q1, q2, q3, q4, q5, _, _⟩ := h6.get h2
    by_cases hn : xs = []
    · -- no cells: nothing is read
      have hq : q = [] := by rw [hn] at q1; simp at q1; exact q1.2.1
      have he0 : e = [] := List.eq_nil_of_length_eq_zero (by rw [← RepL.len q5, hq]; rfl)
      subst he0
      unfold ldCell at hk
      split at hk
      · simp at hk; omega
      · simp at hk
    · obtain ⟨g, c, r1, _, _, _, r5, _, _, r8, _⟩ := own_at h5 hn
      rw [r5] at h4
      have hat : At w g (j * sz) q := by
        rw [q1] at r8
        have := r8.part
        rwa [q2, Nat.zero_add] at this
      exact ld_sound b he hk q5 q4 (fun h1 h2 h3 => hrun _ _ _ h4 (run_loadVar_agg hat h1 h2 h3)) (fun h1 v h2 => hrun _ _ _ h4 (run_loadVar_one (hat _ _ h2) h1))
  | _ => exact hk.elim

theorem nilCheck_sound (b : Begin P M0 N w0 F φ σ a w hp id o) (he : Ends P M0 N w0 F σ id o k K) {x : Operand} (ho : o.op = .nilCheck x) {u : AV} (hu : Rep φ (Mo φ σ.hp M0) w u (a.eval x))
    (hk : aval P C id (.nilCheck x) o.type (fun _ => u) hp k) : o.wp P a w K Q := by
  unfold aval at hk
  have hv : ∃ y, a.eval x = .pointer (some y) := by
    cases u with
    | rp cs off => simp only [Rep] at hu; obtain ⟨g, o', vs, g1, _⟩ := hu; exact ⟨_, g1⟩
    | pt i j off => simp only [Rep] at hu; obtain ⟨hd, sz, _, h4⟩ := hu; exact ⟨_, h4⟩
    | _ => exact hk.elim
  obtain ⟨y, hy⟩ := hv
  have hk' : k u .none := by cases u <;> first | exact hk | exact hk.elim
  exact end_pure b he hk' hu (by simp [execOp, ho, hy])

theorem fieldAddr_sound (b : Begin P M0 N w0 F φ σ a w hp id o) (he : Ends P M0 N w0 F σ id o k K) {s : Nat} {x : Operand} {f : Nat} (ho : o.op = .fieldAddr s x f) {u : AV} (hu : Rep φ (Mo φ σ.hp M0) w u (a.eval x))
    (hk : aval P C id (.fieldAddr s x f) o.type (fun _ => u) hp k) : o.wp P a w K Q := by
  unfold aval at hk
  dsimp only at hk
  obtain ⟨oo, ft, h1, h2, hk⟩ := hk
  obtain ⟨i, hi, hz, _⟩ := aty_info (Nat.pos_of_ne_zero h2)
  have hs : ∃ fs, P.underlying s = some (.struct fs) ∧ ∃ fd : Field, fs[f]? = some fd ∧ fd.offset = oo ∧ fd.type = ft := by
    unfold aty at h1
    dsimp only at h1
    split at h1
    · rename_i fs hh
      rw [List.getElem?_map] at h1
      cases hq : fs.toList[f]? with
      | none => rw [hq] at h1; cases h1
      | some fd =>
        rw [hq] at h1
        simp at h1
        exact ⟨fs, hh, fd, by simpa using hq, h1.1, h1.2⟩
    · simp at h1
  obtain ⟨fs, hu1, fd, hf, rfl, rfl⟩ := hs
  have hrun : ∀ g o', a.eval x = .pointer (some ⟨g, o', none⟩) → (execOp a.eval o).run P w = .ok (.value (.pointer (some ⟨g, o' + fd.offset, none⟩))) w := by
    intro g o' h
    have : i.size ≠ 0 := by rw [hz]; exact h2
    simp [execOp, ho, h, Instr.fieldAt, run_underlying hu1, hf, Instr.sureAddr, fieldPlace, sizeOf, typeInfo, hi, this, addr_add]
  cases u with
  | rp cs off =>
    dsimp only at hk
    simp only [Rep] at hu
    obtain ⟨g, o', vs, g1, g2, g3, g4, g5, g6⟩ := hu
    refine end_pure b he hk ?_ (hrun g _ g1)
    simp only [Rep]
    exact ⟨g, o', vs, by rw [Nat.add_assoc], g2, g3, g4, g5, g6⟩
  | pt i j off =>
    dsimp only at hk
    simp only [Rep] at hu
    obtain ⟨hd, sz, h3, h4⟩ := hu
    refine end_pure b he hk ?_ (hrun _ _ h4)
    simp only [Rep]
    exact ⟨hd, sz, h3, by rw [Nat.add_assoc]⟩
  | _ => exact hk.elim

theorem field_sound (b : Begin P M0 N w0 F φ σ a w hp id o) (he : Ends P M0 N w0 F σ id o k K) {s : Nat} {x : Operand} {f : Nat} (ho : o.op = .field s x f) {u : AV} (hu : Rep φ (Mo φ σ.hp M0) w u (a.eval x))
    (hk : aval P C id (.field s x f) o.type (fun _ => u) hp k) : o.wp P a w K Q := by
  unfold aval at hk
  dsimp only at hk
  obtain ⟨oo, ft, h1, hk⟩ := hk
  have hs : ∃ fs, P.underlying s = some (.struct fs) ∧ ∃ fd : Field, fs[f]? = some fd ∧ fd.offset = oo ∧ fd.type = ft := by
    unfold aty at h1
    dsimp only at h1
    split at h1
    · rename_i fs hh
      rw [List.getElem?_map] at h1
      cases hq : fs.toList[f]? with
      | none => rw [hq] at h1; cases h1
      | some fd =>
        rw [hq] at h1
        simp at h1
        exact ⟨fs, hh, fd, by simpa using hq, h1.1, h1.2⟩
    · simp at h1
  obtain ⟨fs, hu1, fd, hf, rfl, rfl⟩ := hs
  cases u with
  | agg cs =>
    dsimp only at hk
    simp only [Rep] at hu
    obtain ⟨vs, h2, h3, h4⟩ := hu
    have hrun : ∀ r, (part fd.type vs.toArray fd.offset).run P w = .ok r w → (execOp a.eval o).run P w = .ok (.value r) w := by
      intro r hr
      simp [execOp, ho, h2, Instr.field, run_underlying hu1, hf, asAgg, hr]
    exact ld_sound b he hk h4 h3 (fun h1 h2 _ => hrun _ (run_part_agg h1 h2)) (fun h1 v h2 => hrun _ (run_part_one h2 h1))
  | _ => exact hk.elim

theorem bytes_get (s : ByteArray) (n : Nat) (h : n < s.size) : s[n]? = some (s[n]'h) := by simp [h]
theorem indexAddr_sound (b : Begin P M0 N w0 F φ σ a w hp id o) (he : Ends P M0 N w0 F σ id o k K) {t : Nat} {x i : Operand} (ho : o.op = .indexAddr t x i) {ev : Operand → AV} (hu : Rep φ (Mo φ σ.hp M0) w (ev x) (a.eval x)) (hi : Rep φ (Mo φ σ.hp M0) w (ev i) (a.eval i))
    (hk : aval P C id (.indexAddr t x i) o.type ev hp k) : o.wp P a w K Q := by
  unfold aval at hk
  dsimp only at hk
  obtain ⟨kd, n, h1, h0, hk⟩ := hk
  have hiv := rep_int hi h1
  generalize ev x = u at hu hk
  unfold opIx at hk
  have szr : ∀ {e : Nat}, 0 < (aty P e).sz → (sizeOf e).run P w = .ok (aty P e).sz w := by
    intro e h
    obtain ⟨ii, hii, hz, _⟩ := aty_info h
    simp [sizeOf, typeInfo, hii, hz]
  have hlt : ∀ m : Nat, n.toNat < m → n < (m : Int) := fun m h => by omega
  split at hk
  · rename_i e j hkk
    obtain ⟨β, h2, ⟨h3, hpos⟩, h4, hk⟩ := hk
    simp only [Rep] at hu
    obtain ⟨sz, hφ⟩ := hu
    obtain ⟨hsz, xs, h5, h6⟩ := row_of b.st b.hpx h2 hφ
    dsimp only at hsz h5 h6
    rw [h3] at hsz
    have hxs : xs ≠ [] := by
      intro e'
      have := h6.len
      rw [e', hsz] at this
      have : 0 < β.es.length * (aty P e).sz := Nat.mul_pos (by omega) hpos
      simp at *
      omega
    obtain ⟨g, c, r1, _, _, _, r5, _, _, r8, _⟩ := own_at h5 hxs
    refine end_pure b he hk (v := .pointer (some ⟨g, n.toNat * sz, none⟩)) ?_ ?_
    · simp only [Rep]
      exact ⟨_, sz, hφ, by rw [r5]; rfl⟩
    · rw [r1] at hφ
      simp [execOp, ho, hiv, r1, Instr.indexAt, asIntOf, run_underlying (aty_slice hkk), h0, hlt _ h4, szr hpos, addr_add, hsz]
  · rename_i e es hkk
    obtain ⟨hpos, h4, h5, hk⟩ := hk
    simp only [Rep] at hu
    obtain ⟨A, c, h2, _, _, _, h7⟩ := hu
    obtain ⟨g, o', sz, vs, g1, g2, g3, g4, g5⟩ := h7 (by intro e'; rw [e'] at h4; simp at h4)
    obtain ⟨p, q, r, q1, q2, q3, q4, q5, _, _⟩ := g5.get (List.getElem?_eq_getElem h4)
    have hsz : sz = (aty P e).sz := by rw [← q3, RepL.len q5, h5]
    have hat : At w g (o' + n.toNat * sz) q := by
      rw [q1] at g4
      have := g4.part
      rwa [q2] at this
    refine end_pure b he hk (v := .pointer (some ⟨g, o' + n.toNat * sz, none⟩)) ?_ ?_
    · simp only [Rep]
      exact ⟨g, o' + n.toNat * sz, q, by simp, g2, g3, hat, q4, q5⟩
    · simp [execOp, ho, hiv, h2, g1, Instr.indexAt, asIntOf, run_underlying (aty_slice hkk), h0, hlt _ h4, szr hpos, addr_add, hsz]
  · rename_i len e cs off hkk
    obtain ⟨hpos, h4, hk⟩ := hk
    simp only [Rep] at hu
    obtain ⟨g, o', vs, g1, g2, g3, g4, g5, g6⟩ := hu
    refine end_pure b he hk (v := .pointer (some ⟨g, o' + (off + n.toNat * (aty P e).sz), none⟩)) ?_ ?_
    · simp only [Rep]
      exact ⟨g, o', vs, rfl, g2, g3, g4, g5, g6⟩
    · simp [execOp, ho, hiv, g1, Instr.indexAt, Instr.sureAddr, asIntOf, run_underlying (aty_arr hkk), h0, hlt _ h4, szr hpos, addr_add, Nat.add_assoc]
  · rename_i len e i' j off hkk
    obtain ⟨hpos, h4, hk⟩ := hk
    simp only [Rep] at hu
    obtain ⟨hd, sz, h3, h5⟩ := hu
    refine end_pure b he hk (v := .pointer (some ⟨blkOf hd, j * sz + (off + n.toNat * (aty P e).sz), none⟩)) ?_ ?_
    · simp only [Rep]
      exact ⟨hd, sz, h3, rfl⟩
    · simp [execOp, ho, hiv, h5, Instr.indexAt, Instr.sureAddr, asIntOf, run_underlying (aty_arr hkk), h0, hlt _ h4, szr hpos, addr_add, Nat.add_assoc]
  · exact hk.elim

theorem index_sound (b : Begin P M0 N w0 F φ σ a w hp id o) (he : Ends P M0 N w0 F σ id o k K) {t : Nat} {x i : Operand} (ho : o.op = .index t x i) {ev : Operand → AV} (hu : Rep φ (Mo φ σ.hp M0) w (ev x) (a.eval x)) (hi : Rep φ (Mo φ σ.hp M0) w (ev i) (a.eval i))
    (hk : aval P C id (.index t x i) o.type ev hp k) : o.wp P a w K Q := by
  unfold aval at hk
  dsimp only at hk
  obtain ⟨kd, n, h1, h0, hk⟩ := hk
  have hiv := rep_int hi h1
  generalize hx : ev x = u at hu hk
  split at hk
  · rename_i s hkk
    obtain ⟨h2, hk⟩ := hk
    have hv := rep_ex hu rfl
    refine end_pure b he hk (ex_rep _ rfl) ?_
    simp [execOp, ho, hiv, hv, Instr.index, asIntOf, run_underlying (aty_str hkk), h0, bytes_get s _ h2]
  · rename_i len e cs hkk
    obtain ⟨hpos, h2, hk⟩ := hk
    simp only [Rep] at hu
    obtain ⟨vs, h3, h4, h5⟩ := hu
    have hl : n < (len : Int) := by omega
    obtain ⟨ii, hii, hz, _⟩ := aty_info hpos
    have hrun : ∀ r, (part e vs.toArray (n.toNat * (aty P e).sz)).run P w = .ok r w → (execOp a.eval o).run P w = .ok (.value r) w := by
      intro r hr
      simp [execOp, ho, hiv, h3, Instr.index, asIntOf, run_underlying (aty_arr hkk), h0, hl, sizeOf, typeInfo, hii, hz, hr]
    exact ld_sound b he hk h5 h4 (fun h1 h2 _ => hrun _ (run_part_agg h1 h2)) (fun h1 v h2 => hrun _ (run_part_one h2 h1))
  · exact hk.elim

theorem extract_sound (b : Begin P M0 N w0 F φ σ a w hp id o) (he : Ends P M0 N w0 F σ id o k K) {x : Operand} {i : Nat} (ho : o.op = .extract x i) {u : AV} (hu : Rep φ (Mo φ σ.hp M0) w u (a.eval x))
    (hk : aval P C id (.extract x i) o.type (fun _ => u) hp k) : o.wp P a w K Q := by
  unfold aval at hk
  dsimp only at hk
  cases u with
  | tup vs =>
    obtain ⟨y, h1, hk⟩ := hk
    simp only [Rep] at hu
    obtain ⟨vs', h2, h3⟩ := hu
    obtain ⟨v, h4, h5⟩ := h3.get h1
    refine end_pure b he hk h5 ?_
    simp [execOp, ho, h2, Instr.extract, h4]
  | _ => exact hk.elim

theorem opInt_sound (b : Begin P M0 N w0 F φ σ a w hp id o) (he : Ends P M0 N w0 F σ id o k K) {op : BinOp} {kd : IntKind} {x y : Int} (hk : opInt op kd x y k)
    (hr : ∀ r w', (match op with | .add | .sub | .mul => Op.intArith op kd x y | .quo | .rem => Op.intDiv op kd x y | .and | .or | .xor | .andNot => Op.intBits op kd x y | _ => Op.intCmp op x y).run P w = .ok r w' → (execOp a.eval o).run P w = .ok (.value r) w') : o.wp P a w K Q := by
  have hd : ∀ p q : Int, decide (p = q) = (p == q) := fun p q => by rw [Bool.eq_iff_iff]; simp
  unfold opInt at hk
  cases op <;> dsimp only at hk hr <;> first
    | exact hk.elim
    | exact end_pure b he hk (ex_rep _ rfl) (hr _ _ rfl)
    | (obtain ⟨h0, hk⟩ := hk; exact end_pure b he hk (ex_rep _ rfl) (hr _ _ (by simp [Op.intDiv, h0])))
    | (rw [hd] at hk; exact end_pure b he hk (ex_rep _ rfl) (hr _ _ rfl))
end
end Go.Proofs.YtaphbajfjmhpnaaDoor
