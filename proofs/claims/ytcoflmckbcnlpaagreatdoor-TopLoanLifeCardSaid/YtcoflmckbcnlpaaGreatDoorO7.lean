/-
  Contracts that serve one more example: insertion into a row, numerals, packing. Conditions: those that each theorem states.
-/
import Derived.Test.YtcoflmckbcnlpaaGreatDoorO6
import Derived.Test.YtcoflmckbcnlpaaGreatDoorPkE
import Derived.Test.YtcoflmckbcnlpaaGreatDoorInsMon
import Derived.Test.YtcoflmckbcnlpaaGreatDoorInsLeg
namespace Go.Proofs.YtcoflmckbcnlpaaGreatDoor
open Go.RowKit
set_option maxRecDepth 100000
set_option linter.unusedSimpArgs false
noncomputable def insL (es : List (List AV)) (i : Nat) (y : List AV) : List (List AV) := es.take i ++ y :: es.drop i
noncomputable def insB (e sz bt : Nat) (β : Row1) (ids : List Nat) (b i : Nat) (y : List AV) : Bool := β.mu && (Nat.beq β.ty e && ((β.es.all (·.all p0)) && ((ids.all fun j => !Nat.beq j b) && (((insL (β.es.map (·.map z0)) i y).all (·.all noSl0)) && (Nat.ble i β.es.length && (Nat.beq y.length sz && Nat.ble ((β.es.length + 1) * bt) 140737488355328))))))
noncomputable def insA (e sz bt id : Nat) (hp : Nat → Option Row1) (h : AV) (us : List AV) (ids : List Nat) : Option (AV × Eff) := match h, us with
  | .own b, [.ex (.int .i64 i), .sl [y]] => (hp b).bind fun β => bif decide (0 ≤ i) && insB e sz bt β ids b i.toNat y then some (.own id, .grow b ⟨e, insL (β.es.map (·.map z0)) i.toNat y, true⟩) else none
  | .ex (.slice none 0 0), [.ex (.int .i64 i), .sl [y]] => bif decide (i = 0) && (Nat.beq y.length sz && (y.all noSl0 && Nat.ble bt 140737488355328)) then some (.own id, .new ⟨e, [y], true⟩) else none
  | _, _ => none
noncomputable def orIns (e sz bt : Nat) (hp : Nat → Option Row1) (args : List AV) (id : Nat) : Option (AV × Eff) := match args with
  | h :: rest => (cls hp rest).bind fun x => insA e sz bt id hp h x.1 x.2
  | [] => none
theorem orIns_ok {C : World → Prop} {f e sz bt : Nat} (hM : ∀ (es : List (List AV)) (x : List AV) (i : Nat), i ≤ es.length → x.length = sz → (es.length + 1) * bt ≤ 140737488355328 → ConM Tryz.prog C f e es [.ex (.int .i64 i), .sl [x]] (es.take i ++ x :: es.drop i))
    {hp : Nat → Option Row1} {args : List AV} {id : Nat} {u : AV} {ef : Eff} (h : orIns e sz bt hp args id = some (u, ef)) {k : AV → Eff → Prop} (hk : k u ef) : opCall Tryz.prog C id f hp args k := by
  unfold orIns at h
  split at h
  · rename_i a rest
    obtain ⟨⟨us, ids⟩, hc, h⟩ := some_of h
    dsimp only at h
    unfold insA at h
    split at h
    · rename_i b i y _
      obtain ⟨β, hb, h⟩ := some_of h
      obtain ⟨h1, h⟩ := bif_some h
      cases h
      obtain ⟨h0, h1⟩ := and_b h1
      have i0 := of_decide_eq_true h0
      unfold insB at h1
      obtain ⟨q1, h1⟩ := and_b h1
      obtain ⟨q2, h1⟩ := and_b h1
      obtain ⟨q3, h1⟩ := and_b h1
      obtain ⟨q4, h1⟩ := and_b h1
      obtain ⟨q5, h1⟩ := and_b h1
      obtain ⟨q6, h1⟩ := and_b h1
      obtain ⟨q7, q8⟩ := and_b h1
      have e2 := beq_of q2
      have e7 := beq_of q7
      have e6 := ble_of q6
      have e8 := ble_of q8
      have hcon := hM (β.es.map (·.map z0)) y i.toNat (by rw [List.length_map]; exact e6) e7 (by rw [List.length_map]; exact e8)
      rw [Int.toNat_of_nonneg i0] at hcon
      refine .inr (.inl ⟨β, [.ex (.int .i64 i), .sl [y]], ids, insL (β.es.map (·.map z0)) i.toNat y, hb, q1, q3, hc, fun hm => ?_, q5, ?_, ?_⟩)
      · have := List.all_eq_true.1 q4 b hm
        rw [nbeq_t rfl] at this
        cases this
      · rw [e2]; exact hcon
      · rw [e2]; exact hk
    · rename_i i y _
      obtain ⟨h1, h⟩ := bif_some h
      cases h
      obtain ⟨q1, h1⟩ := and_b h1
      obtain ⟨q2, h1⟩ := and_b h1
      obtain ⟨q3, q4⟩ := and_b h1
      have e1 := of_decide_eq_true q1
      subst e1
      have hcon := hM [] y 0 (Nat.le_refl _) (beq_of q2) (by have := ble_of q4; simpa using this)
      refine .inr (.inl ⟨e, [.ex (.int .i64 0), .sl [y]], ids, [y], hc, ?_, hcon, hk⟩)
      rw [List.all_cons, q3]; rfl
    · cases h
  · cases h
noncomputable def orWI : List AV → Option (AV × Eff)
  | [.ex (.int .i64 n)] => bif decide (-9223372036854775808 ≤ n ∧ n ≤ 9223372036854775807) then some (.ex (.string ⟨(Lib.itoa n).toArray⟩), .frz []) else none
  | _ => none
noncomputable def strs : List (List AV) → Option (List ByteArray)
  | [] => some []
  | [.ex (.string s)] :: l => (strs l).bind fun r => some (s :: r)
  | _ => none
theorem strs_of : ∀ {l : List (List AV)} {r : List ByteArray}, strs l = some r → l = texts r
  | [], r, h => by cases h; rfl
  | x :: l, r, h => by
    unfold strs at h
    split at h
    · rename_i heq; cases heq
    · rename_i s l' heq
      obtain ⟨r', h1, h⟩ := some_of h
      cases h
      cases heq
      rw [strs_of h1]; rfl
    · cases h
noncomputable def orPk (hp : Nat → Option Row1) (args : List AV) : Option (AV × Eff) := (cls hp args).bind fun x => match x.1 with
  | [.sl l] => (strs l).bind fun r => bif Nat.ble ((packB r).length + 40) 140737488355328 && Nat.ble r.length maxLen then some (.ex (.string ⟨(packB r).toArray⟩), .frz []) else none
  | _ => none
noncomputable def orc7 : XO := fun f hp args id => bif Nat.beq f 156 then orIns 168 2 24 hp args id else bif Nat.beq f 189 then orIns 88 3 32 hp args id else
  bif Nat.beq f 205 then orWI args else bif Nat.beq f 204 then orPk hp args else orc2 f hp args id
theorem orc7_ok : OrcOk Tryz.prog CtxP orc7 := by
  intro f hp args id u e h k hk
  unfold orc7 at h
  cases h1 : Nat.beq f 156 with
  | true =>
    rw [h1] at h
    have := Nat.eq_of_beq_eq_true h1
    subst this
    exact orIns_ok (fun es x i a b c => Ins_conMon a b c) h hk
  | false =>
    rw [h1] at h
    cases h2 : Nat.beq f 189 with
    | true =>
      rw [h2] at h
      have := Nat.eq_of_beq_eq_true h2
      subst this
      exact orIns_ok (fun es x i a b c => Ins_conLeg a b c) h hk
    | false =>
      rw [h2] at h
      cases h3 : Nat.beq f 205 with
      | true =>
        rw [h3] at h
        have := Nat.eq_of_beq_eq_true h3
        subst this
        replace h : orWI args = some (u, e) := h
        unfold orWI at h
        split at h
        · rename_i n
          obtain ⟨h4, h⟩ := bif_some h
          cases h
          obtain ⟨a, b⟩ := of_decide_eq_true h4
          exact call_val (ids := []) rfl (TInt_con n a b) hk
        · cases h
      | false =>
        rw [h3] at h
        cases h4 : Nat.beq f 204 with
        | true =>
          rw [h4] at h
          have := Nat.eq_of_beq_eq_true h4
          subst this
          replace h : orPk hp args = some (u, e) := h
          unfold orPk at h
          obtain ⟨⟨us, ids⟩, hc, h⟩ := some_of h
          dsimp only at h
          split at h
          · rename_i l
            obtain ⟨r, hr, h⟩ := some_of h
            obtain ⟨h5, h⟩ := bif_some h
            cases h
            obtain ⟨q1, q2⟩ := and_b h5
            have hl := strs_of hr
            subst hl
            exact call_val hc (TPack_con r (ble_of q1) (ble_of q2)) hk
          · cases h
        | false =>
          rw [h4] at h
          exact orc2_ok f hp args id u e h k hk
end Go.Proofs.YtcoflmckbcnlpaaGreatDoor