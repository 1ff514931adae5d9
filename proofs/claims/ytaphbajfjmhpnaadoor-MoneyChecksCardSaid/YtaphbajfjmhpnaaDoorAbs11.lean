/-
  What an operation does is one value and one effect; a region in the order of its text. Conditions: those that each theorem states.
-/
import Derived.Test.YtaphbajfjmhpnaaDoorAbs9
namespace Go.Proofs.YtaphbajfjmhpnaaDoor
open Go.RowKit
set_option maxRecDepth 100000

def Eff.wf (pp : Nat → Prop) (hp : Nat → Option Row1) : Eff → Prop
  | .set b _ => hp b ≠ Option.none ∧ pp b
  | .grow b _ => hp b ≠ Option.none
  | _ => True
def Lin (pp : Nat → Prop) (A : (AV → Eff → Prop) → Prop) (hp : Nat → Option Row1) (k : AV → Eff → Prop) : Prop := ∃ u f, k u f ∧ f.wf pp hp ∧ A (fun u' f' => u' = u ∧ f' = f)
section
variable {P : Program} {C : World → Prop} {hp : Nat → Option Row1} {k : AV → Eff → Prop} {id : Nat} {pp : Nat → Prop}

theorem opInt_lin {op : BinOp} {kd : IntKind} {a b : Int} (h : opInt op kd a b k) : Lin pp (opInt op kd a b) hp k := by
  cases op <;> first
    | exact h.elim
    | exact ⟨_, _, h, trivial, rfl, rfl⟩
    | exact ⟨_, _, h.2, trivial, h.1, rfl, rfl⟩
theorem opStr_lin {op : BinOp} {a b : ByteArray} (h : opStr op a b k) : Lin pp (opStr op a b) hp k := by
  cases op <;> first
    | exact h.elim
    | exact ⟨_, _, h, trivial, rfl, rfl⟩
    | exact ⟨_, _, h.2, trivial, h.1, rfl, rfl⟩
theorem opBin_lin {op : BinOp} {t : Nat} {x y : AV} (h : opBin P op t x y k) : Lin pp (opBin P op t x y) hp k := by
  unfold opBin at h
  split at h
  · rename_i ka a kb b
    cases op
    case shl => exact ⟨_, _, h.2, trivial, h.1, rfl, rfl⟩
    case shr => exact ⟨_, _, h.2, trivial, h.1, rfl, rfl⟩
    all_goals
      obtain ⟨h1, h2⟩ := h
      obtain ⟨u, f, q1, q2, q3⟩ := opInt_lin (hp := hp) h2
      exact ⟨u, f, q1, q2, h1, q3⟩
  · exact opStr_lin h
  · obtain ⟨h, h2⟩ := h
    cases op <;> first
      | exact h.elim
      | exact ⟨_, _, h, trivial, ⟨rfl, rfl⟩, h2⟩
  · cases op <;> first
      | exact h.elim
      | (obtain ⟨b, h1, h2⟩ := h; exact ⟨_, _, h2, trivial, b, h1, rfl, rfl⟩)
  · obtain ⟨h, h2⟩ := h
    cases op <;> first
      | exact h.elim
      | exact ⟨_, _, h, trivial, ⟨rfl, rfl⟩, h2⟩
  · obtain ⟨h, h2⟩ := h
    cases op <;> first
      | exact h.elim
      | exact ⟨_, _, h, trivial, ⟨rfl, rfl⟩, h2⟩
  · exact h.elim
theorem opUn_lin {op : UnOp} {x : AV} (h : opUn op x k) : Lin pp (opUn op x) hp k := by
  unfold opUn at h
  split at h
  · exact ⟨_, _, h, trivial, rfl, rfl⟩
  · exact ⟨_, _, h, trivial, rfl, rfl⟩
  · exact opInt_lin h
  · exact h.elim
theorem opConv_lin {s d : Nat} {x : AV} (h : opConv P hp s d x k) : Lin pp (opConv P hp s d x) hp k := by
  unfold opConv at h
  unfold Lin opConv
  split at h
  · exact ⟨_, _, h.2, trivial, h.1, rfl, rfl⟩
  · exact ⟨_, _, h.2, trivial, h.1, rfl, rfl⟩
  · obtain ⟨h1, h⟩ := h
    split at h
    · exact ⟨_, _, h.2, trivial, h1, h.1, rfl, rfl⟩
    · exact h.elim
  · obtain ⟨h1, l, h2, h3⟩ := h
    exact ⟨_, _, h3, trivial, h1, l, h2, rfl, rfl⟩
  · exact h.elim
theorem ldCell_lin {t : Nat} {cs : List AV} {off : Nat} (h : ldCell P t cs off k) : Lin pp (ldCell P t cs off) hp k := by
  unfold ldCell at h
  unfold Lin ldCell
  split at h
  · rename_i hg
    exact ⟨_, _, h.2, trivial, by rw [if_pos hg]; exact ⟨h.1, rfl, rfl⟩⟩
  · rename_i hg
    obtain ⟨h1, u, h2, h3⟩ := h
    exact ⟨_, _, h3, trivial, by rw [if_neg hg]; exact ⟨h1, u, h2, rfl, rfl⟩⟩
theorem opLen_lin {t : Nat} {x : AV} (h : opLen P hp t x k) : Lin pp (opLen P hp t x) hp k := by
  unfold opLen at h
  unfold Lin opLen
  split at h
  · exact ⟨_, _, h, trivial, rfl, rfl⟩
  · exact ⟨_, _, h, trivial, rfl, rfl⟩
  · obtain ⟨es, h1, h2⟩ := h
    exact ⟨_, _, h2, trivial, es, h1, rfl, rfl⟩
  · exact h.elim
theorem opApp_lin {e : Nat} {s : AV} {ns : List (List AV)} (h : opApp P hp id e s ns k) : Lin pp (opApp P hp id e s ns) hp k := by
  unfold opApp at h
  unfold Lin opApp
  obtain ⟨h0, h⟩ := h
  split at h
  · obtain ⟨β, h1, h2, h3, h4, h5⟩ := h
    exact ⟨_, _, h5, by simp [Eff.wf, h1], h0, β, h1, h2, h3, h4, rfl, rfl⟩
  · exact ⟨_, _, h.2, trivial, h0, h.1, rfl, rfl⟩
  · exact h.elim
theorem opCall_lin {f : Nat} {args : List AV} (h : opCall P C id f hp args k) : Lin pp (opCall P C id f hp args) hp k := by
  unfold opCall at h
  unfold Lin opCall
  rcases h with ⟨us, ids, h1, R, h2, h3⟩ | h
  · cases R with
    | val r => exact ⟨_, _, h3, trivial, .inl ⟨us, ids, h1, _, h2, rfl, rfl⟩⟩
    | fresh e es => exact ⟨_, _, h3.2, trivial, .inl ⟨us, ids, h1, _, h2, h3.1, rfl, rfl⟩⟩
  · unfold opMove at h ⊢
    split at h
    · obtain ⟨β, us, ids, es', h1, h2, h3, h4, h5, h6, h7, h8⟩ := h
      exact ⟨_, _, h8, by simp [Eff.wf, h1], .inr ⟨β, us, ids, es', h1, h2, h3, h4, h5, h6, h7, rfl, rfl⟩⟩
    · obtain ⟨e, us, ids, es', h1, h2, h3, h4⟩ := h
      exact ⟨_, _, h4, trivial, .inr ⟨e, us, ids, es', h1, h2, h3, rfl, rfl⟩⟩
    · exact h.elim
theorem opIx_lin {t : Nat} {x : AV} {n : Nat} (h : opIx P hp t x n k) : Lin pp (opIx P hp t x n) hp k := by
  unfold opIx at h
  unfold Lin opIx
  split at h
  · obtain ⟨β, h1, h2, h3, h4⟩ := h
    exact ⟨_, _, h4, trivial, β, h1, h2, h3, rfl, rfl⟩
  · obtain ⟨h1, h2, h3, h4⟩ := h
    exact ⟨_, _, h4, trivial, h1, h2, h3, rfl, rfl⟩
  · exact ⟨_, _, h.2.2, trivial, h.1, h.2.1, rfl, rfl⟩
  · exact ⟨_, _, h.2.2, trivial, h.1, h.2.1, rfl, rfl⟩
  · exact h.elim
theorem bnd_ex {ev : Operand → AV} {x : Option Operand} {d : Nat} {kk : Nat → Prop} (h : bnd d ev x kk) : ∃ l, kk l ∧ ∀ kk' : Nat → Prop, kk' l → bnd d ev x kk' := by
  cases x with
  | none => exact ⟨d, h, fun _ h => h⟩
  | some y =>
    obtain ⟨kd, n, h1, h2, h3⟩ := h
    exact ⟨_, h3, fun _ h => ⟨kd, n, h1, h2, h⟩⟩
theorem opSlice_lin {t : Nat} {x : AV} {ev : Operand → AV} {lo hi mx : Option Operand} (h : opSlice P t x ev lo hi mx k) : Lin pp (opSlice P t x ev lo hi mx) hp k := by
  unfold opSlice at h
  unfold Lin opSlice
  split at h
  · obtain ⟨h1, h⟩ := h
    obtain ⟨l, h, b1⟩ := bnd_ex h
    obtain ⟨m, ⟨h2, h3, h⟩, b2⟩ := bnd_ex h
    exact ⟨_, _, h, trivial, h1, b1 _ (b2 _ ⟨h2, h3, rfl, rfl⟩)⟩
  · obtain ⟨h1, h⟩ := h
    obtain ⟨l, h, b1⟩ := bnd_ex h
    obtain ⟨m, h, b2⟩ := bnd_ex h
    obtain ⟨n, ⟨h2, h3, h4, h⟩, b3⟩ := bnd_ex h
    exact ⟨_, _, h, trivial, h1, b1 _ (b2 _ (b3 _ ⟨h2, h3, h4, rfl, rfl⟩))⟩
  · exact h.elim
theorem aval_lin {op : Op} {ty : Nat} {ev : Operand → AV} (hpp : ∀ b j off x, x ∈ op.operands → ev x = .pt b j off → pp b) (h : aval P C id op ty ev hp k) : Lin pp (aval P C id op ty ev hp) hp k := by
  unfold aval at h
  unfold Lin aval
  cases op with
  | move x => exact ⟨_, _, h, trivial, rfl, rfl⟩
  | assign x =>
    dsimp only at h ⊢
    split at h
    · exact ⟨_, _, h, trivial, rfl, rfl⟩
    · exact ⟨_, _, h, trivial, rfl, rfl⟩
  | pick c x y =>
    obtain ⟨t, h1, h⟩ := h
    exact ⟨_, _, h, trivial, t, h1, rfl, rfl⟩
  | alloc t => exact ⟨_, _, h.2, trivial, h.1, rfl, rfl⟩
  | box t x =>
    obtain ⟨cs, h1, h2, h⟩ := h
    exact ⟨_, _, h, trivial, cs, h1, h2, rfl, rfl⟩
  | build t parts =>
    obtain ⟨h0, h⟩ := h
    split at h
    · rename_i hkk
      obtain ⟨h1, cs, h2, h⟩ := h
      exact ⟨_, _, h, trivial, h0, by rw [hkk]; exact ⟨h1, cs, h2, rfl, rfl⟩⟩
    · rename_i hkk
      obtain ⟨h1, cs, h2, h⟩ := h
      exact ⟨_, _, h, trivial, h0, by rw [hkk]; exact ⟨h1, cs, h2, rfl, rfl⟩⟩
    · exact h.elim
  | buildSlice t n parts =>
    dsimp only at h ⊢
    split at h
    · exact ⟨_, _, h.2.2, trivial, h.1, h.2.1, rfl, rfl⟩
    · exact h.elim
  | load t x =>
    dsimp only at h ⊢
    split at h
    · exact ldCell_lin h
    · obtain ⟨β, e, h1, h2, h⟩ := h
      obtain ⟨u, f, q1, q2, q3⟩ := ldCell_lin (hp := hp) h
      exact ⟨u, f, q1, q2, β, e, h1, h2, q3⟩
    · exact h.elim
  | store t x v =>
    dsimp only at h ⊢
    split at h
    · rename_i heq
      obtain ⟨β, e, cs, h1, h2, h3, h4, h5, h⟩ := h
      exact ⟨_, _, h, ⟨by simp [h1], hpp _ _ _ x (by simp [Op.operands]) heq⟩, β, e, cs, h1, h2, h3, h4, h5, rfl, rfl⟩
    · exact h.elim
  | nilCheck x =>
    dsimp only at h ⊢
    split at h
    · exact ⟨_, _, h, trivial, rfl, rfl⟩
    · exact ⟨_, _, h, trivial, rfl, rfl⟩
    · exact h.elim
  | binOp op t x y ty => exact opBin_lin h
  | unOp op ty x => exact opUn_lin h
  | convert s d x => exact opConv_lin h
  | makeSlice t x y =>
    obtain ⟨n, c, h1, h2, h⟩ := h
    split at h
    · rename_i hkk
      exact ⟨_, _, h.2.2, trivial, n, c, h1, h2, by rw [hkk]; exact ⟨h.1, h.2.1, rfl, rfl⟩⟩
    · exact h.elim
  | slice t x lo hi mx => exact opSlice_lin h
  | fieldAddr s x f =>
    obtain ⟨oo, ft, h1, h2, h⟩ := h
    split at h
    · rename_i hkk
      exact ⟨_, _, h, trivial, oo, ft, h1, h2, by rw [hkk]; exact ⟨rfl, rfl⟩⟩
    · rename_i hkk
      exact ⟨_, _, h, trivial, oo, ft, h1, h2, by rw [hkk]; exact ⟨rfl, rfl⟩⟩
    · exact h.elim
  | field s x f =>
    obtain ⟨oo, ft, h1, h⟩ := h
    split at h
    · rename_i hkk
      obtain ⟨u, f, q1, q2, q3⟩ := ldCell_lin (hp := hp) h
      exact ⟨u, f, q1, q2, oo, ft, h1, by rw [hkk]; exact q3⟩
    · exact h.elim
  | indexAddr t x i =>
    obtain ⟨kd, n, h1, h2, h⟩ := h
    obtain ⟨u, f, q1, q2, q3⟩ := opIx_lin h
    exact ⟨u, f, q1, q2, kd, n, h1, h2, q3⟩
  | index t x i =>
    obtain ⟨kd, n, h1, h2, h⟩ := h
    split at h
    · rename_i hk1 hk2
      obtain ⟨h3, h⟩ := h
      exact ⟨_, _, h, trivial, kd, n, h1, h2, by rw [hk1, hk2]; exact ⟨h3, rfl, rfl⟩⟩
    · rename_i hk1 hk2
      obtain ⟨h3, h4, h⟩ := h
      obtain ⟨u, f, q1, q2, q3⟩ := ldCell_lin (hp := hp) h
      exact ⟨u, f, q1, q2, kd, n, h1, h2, by rw [hk1, hk2]; exact ⟨h3, h4, q3⟩⟩
    · exact h.elim
  | makeFunc fn first captured =>
    cases fn with
    | func f => exact ⟨_, _, h.2, trivial, h.1, rfl, rfl⟩
    | _ => exact h.elim
  | extract x i =>
    dsimp only at h ⊢
    split at h
    · obtain ⟨u, h1, h⟩ := h
      exact ⟨_, _, h, trivial, u, h1, rfl, rfl⟩
    · exact h.elim
  | call c =>
    dsimp only at h ⊢
    cases hcal : c.callee with
    | value f =>
      rw [hcal] at h
      cases f with
      | func f => exact opCall_lin h
      | tmp t =>
        dsimp only at h ⊢
        split at h
        · exact opCall_lin h
        · obtain ⟨h1, h⟩ := h
          obtain ⟨u, f, q1, q2, q3⟩ := opCall_lin h
          exact ⟨u, f, q1, q2, h1, q3⟩
        · exact h.elim
      | _ => exact h.elim
    | invoke r m => rw [hcal] at h; exact h.elim
    | builtin bi =>
      rw [hcal] at h
      cases bi with
      | len =>
        dsimp only at h ⊢
        split at h
        · exact opLen_lin h
        · exact h.elim
      | append =>
        dsimp only at h ⊢
        split at h
        · split at h
          · split at h
            · exact h.elim
            · obtain ⟨h1, ns, h2, h⟩ := h
              obtain ⟨u, f, q1, q2, q3⟩ := opApp_lin h
              exact ⟨u, f, q1, q2, h1, ns, h2, q3⟩
          · exact h.elim
        · exact h.elim
      | min =>
        dsimp only at h ⊢
        split at h
        · obtain ⟨kd, p, kd', q, h2, h3, h⟩ := h
          exact ⟨_, _, h, trivial, kd, p, kd', q, h2, h3, rfl, rfl⟩
        · exact h.elim
      | max =>
        dsimp only at h ⊢
        split at h
        · obtain ⟨kd, p, kd', q, h2, h3, h⟩ := h
          exact ⟨_, _, h, trivial, kd, p, kd', q, h2, h3, rfl, rfl⟩
        · exact h.elim
      | _ => exact h.elim
  | _ => exact h.elim
end
end Go.Proofs.YtaphbajfjmhpnaaDoor
