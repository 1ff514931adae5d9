/-
  All operations together; a region in the order of its text; a function's contract. Conditions: those that each theorem states.
-/
import Derived.Test.YtapghdjbffmifaaDoorAbs9
import Derived.Deep.LoopGhost
namespace Go.Proofs.YtapghdjbffmifaaDoor
open Go.RowKit
set_option maxRecDepth 100000

section
variable {P : Program} {C : World → Prop} {w : World} {M0 : Nat → Prop} {N : Nat} {w0 : World} {F : Nat → Prop} {φ : Phi} {σ : AS} {a : Act} {hp : Nat → Option Row1} {id : Nat} {o : Oper} {k : AV → Eff → Prop} {K : Act → World → Prop} {Q : Exit → Act → World → Prop}

theorem aval_sound (b : Begin P M0 N w0 F φ σ a w hp id o) (he : Ends P M0 N w0 F σ id o k K) (hC : ∀ w w', C w → Below w.heap.size w w' → C w') (hc0 : C w0) {ev : Operand → AV}
    (hx : ∀ x ∈ o.op.operands, Rep φ (Mo φ σ.hp M0) w (ev x) (a.eval x)) (hk : aval P C id o.op o.type ev hp k) : o.wp P a w K Q := by
  obtain ⟨dst, op, type, pos, after, guard⟩ := o
  dsimp only at hk hx
  have ho := (rfl : (Oper.mk dst op type pos after guard).op = op)
  cases op with
  | move x => exact end_pure b he hk (hx x (by simp [Op.operands])) (by simp [execOp])
  | assign x => exact assign_sound b he ho (hx x (by simp [Op.operands])) hk
  | pick c x y =>
    obtain ⟨t, h1, hk⟩ := hk
    have e1 := rep_ex (hx c (by simp [Op.operands])) h1
    refine end_pure b he hk (v := if t then a.eval x else a.eval y) ?_ (by simp [execOp, e1, asBool])
    cases t
    · exact hx y (by simp [Op.operands])
    · exact hx x (by simp [Op.operands])
  | alloc t => exact alloc_sound b he ho hk
  | box t x => exact box_sound b he ho (hx x (by simp [Op.operands])) hk
  | build t parts => exact build_sound b he ho (fun x h => hx x.2 (by simp [Op.operands]; exact ⟨x.1, by simpa using h⟩)) hk
  | buildSlice t n parts => exact buildSlice_sound b he ho (fun x h => hx x.2 (by simp [Op.operands]; exact ⟨x.1, by simpa using h⟩)) hk
  | load t x => exact load_sound (C := C) b he ho (hx x (by simp [Op.operands])) hk
  | store t x v => exact store_sound (C := C) b he ho (hx x (by simp [Op.operands])) (hx v (by simp [Op.operands])) hk
  | nilCheck x => exact nilCheck_sound (C := C) b he ho (hx x (by simp [Op.operands])) hk
  | binOp op t x y ty => exact bin_sound b he ho (hx x (by simp [Op.operands])) (hx y (by simp [Op.operands])) hk
  | unOp op ty x => exact un_sound b he ho (hx x (by simp [Op.operands])) hk
  | convert s d x => exact conv_sound b he ho (hx x (by simp [Op.operands])) hk
  | makeSlice t x y => exact makeSlice_sound (C := C) b he ho (hx x (by simp [Op.operands])) (hx y (by simp [Op.operands])) hk
  | slice t x lo hi mx => exact slice_sound b he ho (hx x (by simp [Op.operands])) (fun y h => hx y (by simp [Op.operands, h])) (fun y h => hx y (by simp [Op.operands, h])) (fun y h => hx y (by simp [Op.operands, h])) hk
  | fieldAddr s x f => exact fieldAddr_sound (C := C) b he ho (hx x (by simp [Op.operands])) hk
  | field s x f => exact field_sound (C := C) b he ho (hx x (by simp [Op.operands])) hk
  | indexAddr t x i => exact indexAddr_sound b he ho (hx x (by simp [Op.operands])) (hx i (by simp [Op.operands])) hk
  | index t x i => exact index_sound b he ho (hx x (by simp [Op.operands])) (hx i (by simp [Op.operands])) hk
  | extract x i => exact extract_sound (C := C) b he ho (hx x (by simp [Op.operands])) hk
  | call c =>
    unfold aval at hk
    dsimp only at hk
    have harg : ∀ x ∈ c.args.toList, Rep φ (Mo φ σ.hp M0) w (ev x) (a.eval x) := fun x h => hx x (by simp [Op.operands, Call.operands]; exact .inr (by simpa using h))
    cases hcal : c.callee with
    | value f =>
      rw [hcal] at hk
      cases f with
      | func f => exact call_sound b he hC hc0 ho hcal harg hk
      | _ => exact hk.elim
    | invoke r m => rw [hcal] at hk; exact hk.elim
    | builtin bi =>
      rw [hcal] at hk
      cases bi with
      | len =>
        dsimp only at hk
        split at hk
        · rename_i x t h1 h2
          exact len_sound b he ⟨c, ho, hcal, by apply Array.ext'; simpa using h1, by apply Array.ext'; simpa using h2⟩ (harg x (by rw [h1]; simp)) hk
        · exact hk.elim
      | append =>
        dsimp only at hk
        split at hk
        · rename_i s x t t2 h1 h2
          split at hk
          · rename_i e hkk
            have hs := harg s (by rw [h1]; simp)
            have hxx := harg x (by rw [h1]; simp)
            split at hk
            · exact hk.elim
            · obtain ⟨rfl, ns, h3, hk⟩ := hk
              obtain ⟨A, cc, g1, _, _, g4, sz, vs, g5, g6⟩ := rd_rep b hxx h3
              refine app_end b he hkk hs g1 g4 g5 g6 ?_ hk
              intro r w' hr
              have ha1 : c.args = #[s, x] := by apply Array.ext'; simpa using h1
              have ha2 : c.argTypes = #[t2, t2] := by apply Array.ext'; simpa using h2
              simp [execOp, resolve, hcal, ha1, ha2, invoke, builtin, hr]
          · exact hk.elim
        · exact hk.elim
      | min =>
        dsimp only at hk
        split at hk
        · rename_i x y h1
          obtain ⟨kd, p, kd', q, h2, h3, hk⟩ := hk
          have e1 := rep_ex (harg x (by rw [h1]; simp)) h2
          have e2 := rep_ex (harg y (by rw [h1]; simp)) h3
          have ha1 : c.args = #[x, y] := by apply Array.ext'; simpa using h1
          refine end_pure b he hk (ex_rep _ rfl) ?_
          simp [execOp, resolve, hcal, ha1, invoke, builtin, Builtin.min_, Builtin.min2, e1, e2]
        · exact hk.elim
      | max =>
        dsimp only at hk
        split at hk
        · rename_i x y h1
          obtain ⟨kd, p, kd', q, h2, h3, hk⟩ := hk
          have e1 := rep_ex (harg x (by rw [h1]; simp)) h2
          have e2 := rep_ex (harg y (by rw [h1]; simp)) h3
          have ha1 : c.args = #[x, y] := by apply Array.ext'; simpa using h1
          refine end_pure b he hk (ex_rep _ rfl) ?_
          simp [execOp, resolve, hcal, ha1, invoke, builtin, Builtin.max_, Builtin.max2, e1, e2]
        · exact hk.elim
      | _ => exact hk.elim
  | _ => exact hk.elim
end
end Go.Proofs.YtapghdjbffmifaaDoor
