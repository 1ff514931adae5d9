/-
  The comparison of two structs whose fields are numbers, texts, booleans or such structs, over values without memory. Conditions: those that each theorem states.
-/
import Derived.Test.YtcoflmckbcnlpaaGreatDoorGEv
import Derived.Laws.StructEq
namespace Go.Proofs.YtcoflmckbcnlpaaGreatDoor
open Go.RowKit
set_option maxRecDepth 100000
mutual
def eqAt (P : Program) : Nat → TypeId → List AV → List AV → Option Bool
  | 0, _, _, _ => none
  | d + 1, t, xs, ys => match P.underlying t with
    | some (.int _) => (match xs, ys with | [.ex (.int ka a)], [.ex (.int kb b)] => if ka = kb then some (decide (a = b)) else none | _, _ => none)
    | some .string => (match xs, ys with | [.ex (.string a)], [.ex (.string b)] => some (decide (a = b)) | _, _ => none)
    | some .bool => (match xs, ys with | [.ex (.bool a)], [.ex (.bool b)] => some (a == b) | _, _ => none)
    | some (.struct fs) => if P.stoodInHeld t = true then none else eqFs P d fs.toList xs ys
    | _ => none
def eqFs (P : Program) : Nat → List Field → List AV → List AV → Option Bool
  | 0, _, _, _ => none
  | _ + 1, [], _, _ => some true
  | d + 1, f :: fs, xs, ys => if f.name = "_" ∨ (aty P f.type).sz = 0 then none else
      (eqAt P d f.type ((xs.drop f.offset).take (aty P f.type).sz) ((ys.drop f.offset).take (aty P f.type).sz)).bind fun a => (eqFs P d fs xs ys).map (a && ·)
end
section
variable {P : Program} {φ : Phi} {M : Nat → Prop} {w : World}
def IsVal (P : Program) (t : TypeId) (vs : List Value) (X : Value) : Prop := match P.underlying t with
  | some (.struct _) => X = .agg vs.toArray
  | _ => vs = [X]
theorem ex_one {x : Value} {vs : List Value} {X : Value} (h : RepL φ M w [.ex x] vs) (hX : vs = [X]) : X = x := by
  subst hX
  simp only [RepL] at h
  obtain ⟨v, vs', h1, h2, rfl⟩ := h
  simp only [List.cons.injEq, and_true] at h1
  simp only [Rep] at h2
  rw [h1, h2.1]
theorem part_val {t off : Nat} {vs : List Value} {us : List AV} (h : RepL φ M w us vs) {d : Nat} {ys : List AV} {b : Bool} (hs : (aty P t).sz ≠ 0) (he : eqAt P d t ((us.drop off).take (aty P t).sz) ys = some b ∨ eqAt P d t ys ((us.drop off).take (aty P t).sz) = some b) :
    ∃ X, (part t vs.toArray off).run P w = .ok X w ∧ IsVal P t ((vs.drop off).take (aty P t).sz) X := by
  have one : ∀ z : Value, (us.drop off).take (aty P t).sz = [.ex z] → (aty P t).known = true → (∀ fs, P.underlying t ≠ some (.struct fs)) → ∃ X, (part t vs.toArray off).run P w = .ok X w ∧ IsVal P t ((vs.drop off).take (aty P t).sz) X := by
    intro z hz hk hns
    have h1 := (h.drop off).take (aty P t).sz
    rw [hz] at h1
    simp only [RepL] at h1
    obtain ⟨v, vs', h2, h3, rfl⟩ := h1
    refine ⟨v, run_part_one ?_ hk, ?_⟩
    · have : ((vs.drop off).take (aty P t).sz)[0]? = some v := by rw [h2]; rfl
      rw [List.getElem?_take] at this
      split at this
      · rw [List.getElem?_drop] at this; simpa using this
      · cases this
    · unfold IsVal
      split
      · rename_i fs hfs; exact absurd hfs (hns fs)
      · exact h2
  cases d with
  | zero => rcases he with he | he <;> simp [eqAt] at he
  | succ d =>
    cases hu : P.underlying t with
    | none => rcases he with he | he <;> simp [eqAt, hu] at he
    | some T =>
      cases T <;> (try (rcases he with he | he <;> simp [eqAt, hu] at he <;> done))
      case struct fs =>
        have ha : (aty P t).isAgg = true := by simp [aty, ATy.isAgg, hu]
        exact ⟨_, run_part_agg ha (by omega), by simp [IsVal, hu]⟩
      all_goals
        have hk : (aty P t).known = true := by simp [aty, ATy.known, hu]
        rcases he with he | he
        all_goals
          simp only [eqAt, hu] at he
          split at he
          · first
              | exact one _ (by assumption) hk (fun fs h => by cases h)
              | (rename_i h1 h2; first | exact one _ h1 hk (fun fs h => by rw [hu] at h; cases h) | exact one _ h2 hk (fun fs h => by rw [hu] at h; cases h))
          · cases he
mutual
theorem eqAt_run : ∀ (d : Nat) (t : TypeId) (xs ys : List AV) (b : Bool), eqAt P d t xs ys = some b → ∀ (vx vy : List Value) (X Y : Value), RepL φ M w xs vx → RepL φ M w ys vy → IsVal P t vx X → IsVal P t vy Y → ∀ e, (Op.equalIn (d + e) t X Y).run P w = .ok b w
  | 0, t, xs, ys, b, h => by simp [eqAt] at h
  | d + 1, t, xs, ys, b, h => by
    intro vx vy X Y hx hy hX hY e
    unfold IsVal at hX hY
    unfold eqAt at h
    split at h
    · rename_i k hu
      rw [hu] at hX hY
      split at h
      · split at h
        · rename_i hkk
          subst hkk
          rw [ex_one hx hX, ex_one hy hY, show d + 1 + e = (d + e) + 1 by omega, run_equalIn_int w _ _ _ _ _ _ hu, ← Option.some.inj h]
          congr 1
        · cases h
      · cases h
    · rename_i hu
      rw [hu] at hX hY
      split at h
      · rw [ex_one hx hX, ex_one hy hY, show d + 1 + e = (d + e) + 1 by omega, run_equalIn_string w _ _ _ _ hu, ← Option.some.inj h]
        congr 1
        rw [Bool.eq_iff_iff, beq_iff_eq, decide_eq_true_eq, ByteArray.toList_eq, ByteArray.toList_eq]
        exact ⟨fun h => ByteArray.ext (Array.ext' h), fun h => by rw [h]⟩
      · cases h
    · rename_i hu
      rw [hu] at hX hY
      split at h
      · rw [ex_one hx hX, ex_one hy hY, show d + 1 + e = (d + e) + 1 by omega, run_equalIn_bool' w _ _ _ _ hu, ← Option.some.inj h]
      · cases h
    · rename_i fs hu
      rw [hu] at hX hY
      have hf : P.fieldsOf t = fs := by simp [Program.fieldsOf, hu]
      split at h
      · cases h
      · rename_i hs
        rw [hX, hY, show d + 1 + e = (d + e) + 1 by omega, run_equalIn_struct w _ _ _ _ (by rw [hf]; exact hu) (by simpa using hs), hf]
        exact eqFs_run d fs.toList xs ys b h vx vy hx hy e
    · cases h
theorem eqFs_run : ∀ (d : Nat) (fs : List Field) (xs ys : List AV) (b : Bool), eqFs P d fs xs ys = some b → ∀ (vx vy : List Value), RepL φ M w xs vx → RepL φ M w ys vy → ∀ e, (Op.eqFields (d + e) vx.toArray vy.toArray fs).run P w = .ok b w
  | 0, fs, xs, ys, b, h => by simp [eqFs] at h
  | d + 1, [], xs, ys, b, h => by
    intro vx vy hx hy e
    rw [eqFs, Option.some.injEq] at h
    rw [← h]
    rfl
  | d + 1, f :: fs, xs, ys, b, h => by
    intro vx vy hx hy e
    unfold eqFs at h
    split at h
    · cases h
    · rename_i hn
      have hn1 : f.name ≠ "_" := fun h => hn (.inl h)
      have hn2 : (aty P f.type).sz ≠ 0 := fun h => hn (.inr h)
      cases ha : eqAt P d f.type ((xs.drop f.offset).take (aty P f.type).sz) ((ys.drop f.offset).take (aty P f.type).sz) with
      | none => rw [ha] at h; cases h
      | some a =>
        rw [ha, Option.bind_some] at h
        cases hr : eqFs P d fs xs ys with
        | none => rw [hr] at h; cases h
        | some r =>
          rw [hr, Option.map_some, Option.some.injEq] at h
          obtain ⟨X, p1, p2⟩ := part_val hx hn2 (.inl ha)
          obtain ⟨Y, p3, p4⟩ := part_val hy hn2 (.inr ha)
          have g1 := eqAt_run d f.type _ _ a ha _ _ X Y ((hx.drop f.offset).take _) ((hy.drop f.offset).take _) p2 p4 (e + 1)
          have g2 := eqFs_run d fs xs ys r hr vx vy hx hy (e + 1)
          have hd : d + 1 + e = d + (e + 1) := by omega
          rw [hd]
          unfold Op.eqFields
          rw [if_pos hn1]
          simp only [Sem.run_bind, p1, p3, g1, Result.andThen_ok]
          cases a
          · simp only [Bool.not_false, if_true, Sem.run_pure, ← h, Bool.false_and]
          · simp only [Bool.not_true, Bool.false_eq_true, if_false, ← h, Bool.true_and]
            exact g2
end
theorem aggEq_of {t d : Nat} {xs ys : List AV} {b : Bool} {fs : Array Field} (hd : d ≤ 10000) (hu : P.underlying t = some (.struct fs)) (hg : P.eqGuardType P.depth t = false) (h : eqAt P d t xs ys = some b) : AggEq P t xs ys b := by
  intro φ M w vx vy hx hy
  have hv : ∀ vs : List Value, IsVal P t vs (.agg vs.toArray) := fun vs => by unfold IsVal; rw [hu]
  refine ⟨?_, fun x y op => run_eqGuard_agg w op t x y _ _ hg⟩
  have := eqAt_run d t xs ys b h vx vy _ _ hx hy (hv _) (hv _) (10000 - d)
  rw [show d + (10000 - d) = 10000 by omega] at this
  exact this
end
end Go.Proofs.YtcoflmckbcnlpaaGreatDoor