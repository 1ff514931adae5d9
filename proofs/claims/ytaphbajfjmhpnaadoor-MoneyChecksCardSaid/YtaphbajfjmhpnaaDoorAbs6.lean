/-
  Each operation of the machine does what 'aval' says of it: arithmetic, texts, conversions, slices. Conditions: those that each theorem states.
-/
import Derived.Test.YtaphbajfjmhpnaaDoorAbs5
import Derived.Test.YtaphbajfjmhpnaaDoorLib2
import Derived.Lib.AppendStr
import Derived.Laws.BytesArg
import Derived.Laws.MakeOwn
namespace Go.Proofs.YtaphbajfjmhpnaaDoor
open Go.RowKit
set_option maxRecDepth 100000

section
variable {P : Program} {C : World → Prop} {w : World} {M0 : Nat → Prop} {N : Nat} {w0 : Root} {F : Nat → Prop} {φ : Phi} {σ : AS} {a : Act} {hp : Nat → Option Row1} {id : Nat} {o : Oper} {k : AV → Eff → Prop} {K : Act → World → Prop} {Q : Exit → Act → World → Prop}

theorem dec_data (p q : ByteArray) : (p.data == q.data) = decide (p = q) := by
  rw [Bool.eq_iff_iff, beq_iff_eq, decide_eq_true_eq]
  exact ⟨fun h => ByteArray.ext h, fun h => by rw [h]⟩
theorem opStr_sound (b : Begin P M0 N w0 F φ σ a w hp id o) (he : Ends P M0 N w0 F σ id o k K) {op : BinOp} {x y : ByteArray} (hk : opStr op x y k)
    (hr : ∀ r, (Op.stringOp op x y).run P w = .ok r w → (execOp a.eval o).run P w = .ok (.value r) w) : o.wp P a w K Q := by
  have hm : ((IntKind.i64.max : Int)) = 9223372036854775807 := rfl
  unfold opStr at hk
  cases op <;> dsimp only at hk
  case add =>
    obtain ⟨h0, hk⟩ := hk
    refine end_pure b he hk (ex_rep _ rfl) (hr _ ?_)
    have : ¬ (9223372036854775807 < (x.size : Int) + (y.size : Int)) := by omega
    simp [Op.stringOp, hm, this]
  all_goals first
    | exact hk.elim
    | exact end_pure b he hk (ex_rep _ rfl) (hr _ (by simp [Op.stringOp, ByteArray.toList_eq, dec_data]))

theorem run_equal_bool (t : Nat) (p q : Bool) (hu : P.underlying t = some .bool) : (Op.equal t (.bool p) (.bool q)).run P w = .ok (p == q) w := by
  show (Op.equalIn (9999 + 1) t _ _).run P w = _
  unfold Op.equalIn
  simp [run_underlying hu]
theorem run_equal_iface (t x : Nat) (v : Value) {ms : Array (String × TypeId)} (hu : P.underlying t = some (.interface ms)) : (Op.equal t (.iface x v) .nilIface).run P w = .ok false w := by
  show (Op.equalIn (9999 + 1) t _ _).run P w = _
  unfold Op.equalIn
  simp [run_underlying hu]
theorem run_equal_nil (t : Nat) (A : Option Addr) (n c : Nat) {e : TypeId} (hu : P.underlying t = some (.slice e)) : (Op.equal t (.slice A n c) (.slice none 0 0)).run P w = .ok A.isNone w := by
  show (Op.equalIn (9999 + 1) t _ _).run P w = _
  unfold Op.equalIn
  cases A <;> simp [run_underlying hu]
theorem bin_sound (b : Begin P M0 N w0 F φ σ a w hp id o) (he : Ends P M0 N w0 F σ id o k K) {op : BinOp} {t ty : Nat} {x y : Operand} (ho : o.op = .binOp op t x y ty) {ux uy : AV}
    (hx : Rep φ (Mo φ σ.hp M0) w ux (a.eval x)) (hy : Rep φ (Mo φ σ.hp M0) w uy (a.eval y)) (hk : opBin P op t ux uy k) : o.wp P a w K Q := by
  have hrun : ∀ r w', (∀ q, (eqGuard op t x y (a.eval x) (a.eval y)).run P w = .ok q w) → (binOp op t (a.eval x) (a.eval y)).run P w = .ok r w' → (execOp a.eval o).run P w = .ok (.value r) w' := by
    intro r w' h1 h2
    simp [execOp, ho, h1 (), h2]
  unfold opBin at hk
  split at hk
  · rename_i ka p kb q
    have e1 := rep_ex hx rfl
    have e2 := rep_ex hy rfl
    have hg : ∀ r, (eqGuard op t x y (a.eval x) (a.eval y)).run P w = .ok r w := by
      rintro ⟨⟩
      rw [e1, e2]
      unfold eqGuard
      split <;> rfl
    cases op
    case shl =>
      obtain ⟨h0, hk⟩ := hk
      refine end_pure b he hk (ex_rep _ rfl) (hrun _ _ hg ?_)
      have : ¬ q < 0 := by omega
      rw [e1, e2]; simp [binOp, Op.shift, this]
    case shr =>
      obtain ⟨h0, hk⟩ := hk
      refine end_pure b he hk (ex_rep _ rfl) (hrun _ _ hg ?_)
      have : ¬ q < 0 := by omega
      rw [e1, e2]; simp [binOp, Op.shift, this]
    all_goals
      obtain ⟨rfl, hk⟩ := hk
      exact opInt_sound b he hk fun r w' hr => hrun r w' hg (by rw [e1, e2]; simpa [binOp] using hr)
  · have e1 := rep_ex hx rfl
    have e2 := rep_ex hy rfl
    refine opStr_sound b he hk fun r hr => hrun r w ?_ (by rw [e1, e2]; cases op <;> simpa [binOp] using hr)
    rintro ⟨⟩
    rw [e1, e2]
    unfold eqGuard
    split <;> rfl
  · obtain ⟨hk, hb⟩ := hk
    have e1 := rep_ex hx rfl
    have e2 := rep_ex hy rfl
    have hg : ∀ r, (eqGuard op t x y (a.eval x) (a.eval y)).run P w = .ok r w := by
      rintro ⟨⟩
      rw [e1, e2]
      unfold eqGuard
      split <;> rfl
    have hu := aty_bool hb
    cases op
    case eql => exact end_pure b he hk (ex_rep _ rfl) (hrun _ _ hg (by rw [e1, e2]; simp [binOp, run_equal_bool t _ _ hu]))
    case neq => exact end_pure b he hk (ex_rep _ rfl) (hrun _ _ hg (by rw [e1, e2]; simp only [binOp, Sem.run_bind, run_equal_bool t _ _ hu, Result.andThen_ok, Sem.run_pure, bne]))
    all_goals exact hk.elim
  · simp only [Rep] at hx hy
    obtain ⟨vx, e1, _, h1⟩ := hx
    obtain ⟨vy, e2, _, h2⟩ := hy
    cases op <;> first
      | exact hk.elim
      | (obtain ⟨r, h3, hk⟩ := hk
         obtain ⟨h4, h5⟩ := h3 _ _ _ _ _ h1 h2
         refine end_pure b he hk (ex_rep _ rfl) (hrun _ _ ?_ ?_)
         · rintro ⟨⟩; rw [e1, e2]; exact h5 _ _ _
         · rw [e1, e2]; simp [binOp, h4])
  · obtain ⟨hk, hb⟩ := hk
    have e1 := rep_ex hx rfl
    have e2 := rep_ex hy rfl
    have hg : ∀ r, (eqGuard op t x y (a.eval x) (a.eval y)).run P w = .ok r w := by
      rintro ⟨⟩
      rw [e1, e2]
      unfold eqGuard
      split <;> rfl
    obtain ⟨ms, hu⟩ := aty_iface hb
    cases op <;> first
      | exact hk.elim
      | exact end_pure b he hk (ex_rep _ rfl) (hrun _ _ hg (by rw [e1, e2]; simp [binOp, run_equal_iface t _ _ hu]))
  · rename_i es
    obtain ⟨hk, hb⟩ := hk
    have e2 := rep_ex hy rfl
    simp only [Rep] at hx
    obtain ⟨A, c, e1, h1, h2, h3, h4⟩ := hx
    have hg : ∀ r, (eqGuard op t x y (a.eval x) (a.eval y)).run P w = .ok r w := by
      rintro ⟨⟩
      rw [e1, e2]
      unfold eqGuard
      split <;> rfl
    split at hb
    · rename_i e he'
      have hu := aty_slice he'
      cases op <;> first
        | exact hk.elim
        | (refine end_pure b he hk (v := .bool A.isNone) ?_ (hrun _ _ hg (by rw [e1, e2]; simp [binOp, run_equal_nil t _ _ _ hu]))
           simp only [Rep]
           refine ⟨_, rfl, fun hn => ?_⟩
           rcases Classical.em (es = []) with hes | hes
           · exact hes
           · obtain ⟨g, o', sz, vs, rfl, _⟩ := h4 hes
             cases hn)
    · exact hb.elim
  · exact hk.elim

theorem un_sound (b : Begin P M0 N w0 F φ σ a w hp id o) (he : Ends P M0 N w0 F σ id o k K) {op : UnOp} {ty : Nat} {x : Operand} (ho : o.op = .unOp op ty x) {u : AV}
    (hx : Rep φ (Mo φ σ.hp M0) w u (a.eval x)) (hk : opUn op u k) : o.wp P a w K Q := by
  unfold opUn at hk
  split at hk
  · have e1 := rep_ex hx rfl
    exact end_pure b he hk (ex_rep _ rfl) (by simp [execOp, ho, e1, Op.unary])
  · have e1 := rep_ex hx rfl
    exact end_pure b he hk (ex_rep _ rfl) (by simp [execOp, ho, e1, Op.unary, Op.intArith])
  · have e1 := rep_ex hx rfl
    refine opInt_sound b he hk fun r w' hr => ?_
    simp only [execOp, ho, e1, Op.unary]
    dsimp only at hr
    simp only [Sem.run_bind, hr, Result.andThen_ok, Sem.run_pure]
  · exact hk.elim

theorem bcells_vs {M : Nat → Prop} {sz : Nat} : ∀ (l : List UInt8) {vs : List Value}, RepLL φ M w sz (bcells l) vs → vs = l.map fun c => Value.int .u8 c.toNat
  | [], _, h => by simpa [bcells, RepLL] using h
  | c :: l, _, h => by
    simp only [bcells, List.map_cons, RepLL] at h
    obtain ⟨x, y, rfl, _, _, h1, h2⟩ := h
    have := bcells_vs l (by simpa [bcells] using h2)
    rw [this]
    simp only [RepL] at h1
    obtain ⟨v, vs', rfl, h3, rfl⟩ := h1
    simp only [Rep] at h3
    rw [h3.1]
    rfl
theorem vs_bcells {M : Nat → Prop} : ∀ (l : List UInt8), RepLL φ M w 1 (bcells l) (l.map fun c => Value.int .u8 c.toNat)
  | [] => by simp [bcells, RepLL]
  | c :: l => by
    have := RepLL.cons (φ := φ) (M := M) (w := w) (x := [Value.int .u8 c.toNat]) (sz := 1) rfl (by simp [Value.oneCell']) (RepL.cons (ex_rep _ rfl) RepL.nil) (vs_bcells l)
    simpa [bcells] using this

theorem mo_lt (h : St P M0 N w0 F φ σ a w) {b : Nat} (hb : Mo φ σ.hp M0 b) : b < w.heap.size := by
  rcases hb with hb | ⟨i, β, v, h1, _, h3, h4⟩
  · rcases h.m0 b hb with q | q
    · exact Nat.lt_of_lt_of_le q h.below.size
    · exact (h.jk b q).1
  · obtain ⟨_, xs, h5, _⟩ := h.hpr i β v h1 h3
    exact (own_lt h5 h4).2
theorem known_some {t : Nat} (h : (aty P t).known = true) : (P.underlying t).isSome = true := by
  unfold ATy.known aty at h
  dsimp only at h
  cases hu : P.underlying t with
  | none => rw [hu] at h; cases h
  | some d => rfl
theorem conv_sound (b : Begin P M0 N w0 F φ σ a w hp id o) (he : Ends P M0 N w0 F σ id o k K) {src dst : Nat} {x : Operand} (ho : o.op = .convert src dst x) {u : AV}
    (hx : Rep φ (Mo φ σ.hp M0) w u (a.eval x)) (hk : opConv P hp src dst u k) : o.wp P a w K Q := by
  have hrun : ∀ r w', (convert src dst (a.eval x)).run P w = .ok r w' → (execOp a.eval o).run P w = .ok (.value r) w' := by
    intro r w' h2
    simp [execOp, ho, h2]
  unfold opConv at hk
  split at hk
  · rename_i kd' n kd hkk
    have e1 := rep_ex hx rfl
    have hd := aty_int hkk
    refine end_pure b he hk.2 (ex_rep _ rfl) (hrun _ _ ?_)
    rw [e1]
    obtain ⟨d, hd'⟩ := Option.isSome_iff_exists.mp (known_some hk.1)
    simp [convert, run_underlying hd', run_underlying hd, Conv.intToInt]
  · rename_i s hkk
    obtain ⟨h1, hk⟩ := hk
    have e1 := rep_ex hx rfl
    refine end_pure b he hk (ex_rep _ rfl) (hrun _ _ ?_)
    rw [e1]
    simp [convert, run_underlying (aty_str h1), run_underlying (aty_str hkk)]
  · rename_i s e hkk
    obtain ⟨h1, hk⟩ := hk
    have e1 := rep_ex hx rfl
    split at hk
    · rename_i hke
      obtain ⟨hm, hk⟩ := hk
      have hr := run_convert_string_bytes (P := P) w src dst e s (aty_str h1) (aty_slice hkk) (aty_int hke)
      refine end_world b he hk ?_ ?_ (hrun _ _ (by rw [e1]; exact run_bytes_of_string (P := P) w src dst e s (aty_str h1) (aty_slice hkk) (aty_int hke)))
      · exact ((Below.refl w.heap.size w).drew).alloc (by show w.heap.size ≤ w.heap.size; exact Nat.le_refl _) _
      · have hl : (bcells s.data.toList).length = s.size := by simp [bcells]
        simp only [Rep]
        refine ⟨_, _, by rw [hl], ?_, ?_, trivial, fun hn => ⟨w.heap.size, 0, 1, _, rfl, ?_, ?_, ?_, vs_bcells _⟩⟩
        · rw [hl]; exact grownCap_ge _ _ _ _
        · exact grownCap_le_maxLen _ _ _ _ hm
        · intro hb; exact absurd (mo_lt b.st hb) (by omega)
        · show w.heap.size < (w.heap.push _).size; simp
        · intro j u hu
          rw [Nat.zero_add]
          refine (World.cell?_alloc_mark w.drew _ e _ j).trans ?_
          unfold bytesRow
          have hj : j < s.size := by
            have := (List.getElem?_eq_some_iff.1 hu).1
            simpa using this
          rw [Array.getElem?_append_left (by simpa using hj)]
          simpa using hu
    · exact hk.elim
  · rename_i hkk
    obtain ⟨h1, l, h2, hk⟩ := hk
    split at h1
    · rename_i e hks
      split at h1
      · rename_i hke
        obtain ⟨A, c, h3, h4, h5, h6, sz, vs, h7, h8⟩ := rd_rep b hx h2
        have hvs := bcells_vs l h7
        have hl : (bcells l).length = l.length := by simp [bcells]
        refine end_pure b he hk (ex_rep _ rfl) (hrun _ _ ?_)
        rw [h3, hl]
        by_cases hn : l = []
        · subst hn
          rcases A with _ | ad
          · exact run_convert_bytes_nil w src e (aty_slice hks) (aty_int hke) _ c dst (aty_str hkk)
          · exact run_convert_bytes_back w src dst e _ c [] (aty_slice hks) (aty_int hke) (aty_str hkk) fun j hj => by simp at hj
        · obtain ⟨g, o', rfl, _, hat⟩ := h8 (by intro e'; apply hn; simpa [bcells] using e')
          refine run_convert_bytes_back w src dst e _ c l (aty_slice hks) (aty_int hke) (aty_str hkk) fun j hj => ?_
          rw [addr_add]
          refine hat j _ ?_
          rw [hvs]
          simp [hj]
      · exact h1.elim
    · exact h1.elim
  · exact hk.elim

theorem len_sound (b : Begin P M0 N w0 F φ σ a w hp id o) (he : Ends P M0 N w0 F σ id o k K) {t : Nat} {x : Operand} (ho : ∃ c, o.op = .call c ∧ c.callee = .builtin .len ∧ c.args = #[x] ∧ c.argTypes = #[t]) {u : AV}
    (hx : Rep φ (Mo φ σ.hp M0) w u (a.eval x)) (hk : opLen P hp t u k) : o.wp P a w K Q := by
  obtain ⟨c, ho, hc1, hc2, hc3⟩ := ho
  have hrun : ∀ r, (Builtin.len_ #[t] o.type #[a.eval x]).run P w = .ok r w → (execOp a.eval o).run P w = .ok (.value r) w := by
    intro r hr
    simp [execOp, ho, resolve, hc1, hc2, hc3, invoke, builtin, hr]
  unfold opLen at hk
  split at hk
  · rename_i s hkk
    have e1 := rep_ex hx rfl
    exact end_pure b he hk (ex_rep _ rfl) (hrun _ (by rw [e1]; simp [Builtin.len_, run_underlying (aty_str hkk), goInt]))
  · rename_i n e hkk
    exact end_pure b he hk (ex_rep _ rfl) (hrun _ (by simp [Builtin.len_, run_underlying (aty_arr hkk), goInt]))
  · rename_i e hkk
    obtain ⟨es, h1, hk⟩ := hk
    obtain ⟨A, c, h3, _⟩ := rd_rep b hx h1
    exact end_pure b he hk (ex_rep _ rfl) (hrun _ (by rw [h3]; simp [Builtin.len_, run_underlying (aty_slice hkk), goInt]))
  · exact hk.elim
end
end Go.Proofs.YtaphbajfjmhpnaaDoor
