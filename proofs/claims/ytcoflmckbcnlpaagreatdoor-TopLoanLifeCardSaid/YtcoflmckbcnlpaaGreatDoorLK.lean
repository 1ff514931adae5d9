/-
  Contracts that serve the examples of the laws; two of the examples. Conditions: those that each theorem states. More of the kind.
-/
import Derived.Test.YtcoflmckbcnlpaaGreatDoorLD
import Derived.Shelf.Spec.BitsCarry
namespace Go.Proofs.YtcoflmckbcnlpaaGreatDoor
open Go.RowKit
set_option maxRecDepth 100000
set_option linter.unusedSimpArgs false
noncomputable def orCode : List AV → Option (AV × Eff)
  | [.ex (.string s)] => bif decide (s.size ≤ 9223372036854775807) then some (.ex (.bool (codeB s.data.toList)), .frz []) else none
  | _ => none
noncomputable def orInt : List AV → Option (AV × Eff)
  | [.agg [.ex (.int .i64 ppm), .ex (.int .i64 every), .ex (.int .i64 mode)], .ex (.int .i64 p)] =>
    bif decide (0 ≤ ppm ∧ ppm ≤ 1000000 ∧ 1 ≤ every ∧ every ≤ 12 ∧ 1 ≤ mode ∧ mode ≤ 6 ∧ 0 ≤ p ∧ p ≤ 1000000000000) then some (.ex (.int .i64 (intr ppm every mode p)), .frz []) else none
  | _ => none
noncomputable def orAdd : List AV → Option (AV × Eff)
  | [.ex (.int .u64 x), .ex (.int .u64 y), .ex (.int .u64 c)] =>
    bif decide (0 ≤ x ∧ 0 ≤ y ∧ 0 ≤ c ∧ c ≤ 1) then some (.tup [.ex (.int .u64 ((x + y + c) % 18446744073709551616)), .ex (.int .u64 ((x + y + c) / 18446744073709551616))], .none) else none
  | _ => none
noncomputable def orc1 : XO := fun f _ args _ => bif Nat.beq f 135 then orAdd args else bif Nat.beq f 82 then orCode args else bif Nat.beq f 60 then orInt args else none
theorem orc1_ok : OrcOk Tryz.prog CtxP orc1 := by
  intro f hp args id u e h k hk
  unfold orc1 at h
  cases h1 : Nat.beq f 135 with
  | true =>
    rw [h1] at h
    have := Nat.eq_of_beq_eq_true h1
    subst this
    replace h : orAdd args = some (u, e) := h
    unfold orAdd at h
    split at h
    · rename_i x y c
      cases hb : decide (0 ≤ x ∧ 0 ≤ y ∧ 0 ≤ c ∧ c ≤ 1) with
      | false => rw [hb] at h; cases h
      | true =>
        rw [hb] at h
        cases h
        obtain ⟨x0, y0, c0, c1⟩ := of_decide_eq_true hb
        refine call_ext (xs := [.int .u64 x, .int .u64 y, .int .u64 c]) (rs := [.int .u64 ((x + y + c) % 18446744073709551616), .int .u64 ((x + y + c) / 18446744073709551616)]) rfl ?_ (by intro r hr; simp only [List.mem_cons, List.not_mem_nil, or_false] at hr; rcases hr with rfl | rfl <;> rfl) hk
        intro w
        have h1 := run_callFunc_extern (P := Tryz.prog) (f := 135) (fn := Tryz.f135) (e := add64Entry) Tryz.func135 (by kernel_rfl) rfl (by kernel_rfl) (by kernel_rfl) #[.int .u64 x, .int .u64 y, .int .u64 c] w
        rw [run_add64 (P := Tryz.prog) x y c x0 y0 c0 c1 w] at h1
        exact h1
    · cases h
  | false =>
    rw [h1] at h
    cases h2 : Nat.beq f 82 with
    | true =>
      rw [h2] at h
      have := Nat.eq_of_beq_eq_true h2
      subst this
      replace h : orCode args = some (u, e) := h
      unfold orCode at h
      split at h
      · rename_i s
        cases hb : decide (s.size ≤ 9223372036854775807) with
        | false => rw [hb] at h; cases h
        | true =>
          rw [hb] at h
          cases h
          exact call_val (ids := []) rfl (Code_con s (of_decide_eq_true hb)) hk
      · cases h
    | false =>
      rw [h2] at h
      cases h3 : Nat.beq f 60 with
      | false => rw [h3] at h; cases h
      | true =>
        rw [h3] at h
        have := Nat.eq_of_beq_eq_true h3
        subst this
        replace h : orInt args = some (u, e) := h
        unfold orInt at h
        split at h
        · rename_i ppm every mode p
          cases hb : decide (0 ≤ ppm ∧ ppm ≤ 1000000 ∧ 1 ≤ every ∧ every ≤ 12 ∧ 1 ≤ mode ∧ mode ≤ 6 ∧ 0 ≤ p ∧ p ≤ 1000000000000) with
          | false => rw [hb] at h; cases h
          | true =>
            rw [hb] at h
            cases h
            obtain ⟨a1, a2, a3, a4, a5, a6, a7, a8⟩ := of_decide_eq_true hb
            exact call_val (ids := []) rfl (interest_con Divide_con ⟨a1, a2, a3, a4, a5, a6⟩ p a7 a8) hk
        · cases h
noncomputable def eng1 : XE := ⟨Tryz.prog, glbE, orc1, fun f => Nat.beq f 64 || Nat.beq f 103 || Nat.beq f 163⟩
end Go.Proofs.YtcoflmckbcnlpaaGreatDoor
namespace Go.Proofs.YtcoflmckbcnlpaaGreatDoor
open Go.RowKit
set_option maxRecDepth 100000
set_option linter.unusedSimpArgs false
noncomputable def orSub : List AV → Option (AV × Eff)
  | [.ex (.int .u64 x), .ex (.int .u64 y), .ex (.int .u64 c)] =>
    bif decide (0 ≤ x ∧ 0 ≤ y ∧ c = 0) then some (.tup [.ex (.int .u64 (((x.toNat + 18446744073709551616 - y.toNat - 0) % 18446744073709551616 : Nat) : Int)), .ex (.int .u64 ((if x.toNat < y.toNat + 0 then 1 else 0 : Nat) : Int))], .none) else none
  | _ => none
noncomputable def orCiv : List AV → Option (AV × Eff)
  | [.ex (.int .i64 x)] => bif decide (0 ≤ x ∧ x < 31) then some (.tup [.ex (.int .i64 2000), .ex (.int .i64 1), .ex (.int .i64 (x + 1))], .frz []) else bif decide (31 ≤ x ∧ x < 60) then some (.tup [.ex (.int .i64 2000), .ex (.int .i64 2), .ex (.int .i64 (x - 30))], .frz []) else none
  | _ => none
noncomputable def orc2 : XO := fun f hp args id => bif Nat.beq f 178 then orSub args else bif Nat.beq f 54 then orCiv args else orc1 f hp args id
theorem civ_1 {x : Int} (h : 0 ≤ x ∧ x < 31) : IsCiv x 2000 1 (x + 1) := by
  have e : mlen 2000 1 = 31 := by decide
  have b : beg 2000 = 0 := by decide
  exact ⟨by decide, by decide, by decide, by decide, by omega, by omega, by rw [b]; show x = 0 + 0 + (x + 1) - 1; omega⟩
theorem civ_2 {x : Int} (h : 31 ≤ x ∧ x < 60) : IsCiv x 2000 2 (x - 30) := by
  have e : mlen 2000 2 = 29 := by decide
  have b : beg 2000 = 0 := by decide
  have c : cum 2000 1 = 31 := by decide
  exact ⟨by decide, by decide, by decide, by decide, by omega, by omega, by rw [b]; show x = 0 + cum 2000 1 + (x - 30) - 1; omega⟩
theorem orc2_ok : OrcOk Tryz.prog CtxP orc2 := by
  intro f hp args id u e h k hk
  unfold orc2 at h
  cases h1 : Nat.beq f 178 with
  | true =>
    rw [h1] at h
    have := Nat.eq_of_beq_eq_true h1
    subst this
    replace h : orSub args = some (u, e) := h
    unfold orSub at h
    split at h
    · rename_i x y c
      cases hb : decide (0 ≤ x ∧ 0 ≤ y ∧ c = 0) with
      | false => rw [hb] at h; cases h
      | true =>
        rw [hb] at h
        cases h
        obtain ⟨x0, y0, rfl⟩ := of_decide_eq_true hb
        obtain ⟨X, rfl⟩ := Int.eq_ofNat_of_zero_le x0
        obtain ⟨Y, rfl⟩ := Int.eq_ofNat_of_zero_le y0
        refine call_ext (xs := [.int .u64 X, .int .u64 Y, .int .u64 0]) (rs := [.int .u64 (((X + 18446744073709551616 - Y - 0) % 18446744073709551616 : Nat) : Int), .int .u64 ((if X < Y + 0 then 1 else 0 : Nat) : Int)]) rfl ?_ (by intro r hr; simp only [List.mem_cons, List.not_mem_nil, or_false] at hr; rcases hr with rfl | rfl <;> rfl) hk
        intro w
        have h1 := run_callFunc_extern (P := Tryz.prog) (f := 178) (fn := Tryz.f178) (e := sub64Entry) Tryz.func178 (by kernel_rfl) rfl (by kernel_rfl) (by kernel_rfl) #[.int .u64 X, .int .u64 Y, .int .u64 0] w
        have h2 := run_sub64 (P := Tryz.prog) X Y 0 (by decide) w
        rw [show ((0 : Nat) : Int) = 0 from rfl] at h2
        rw [h2] at h1
        exact h1
    · cases h
  | false =>
    rw [h1] at h
    cases h2 : Nat.beq f 54 with
    | false =>
      rw [h2] at h
      exact orc1_ok f hp args id u e h k hk
    | true =>
      rw [h2] at h
      have := Nat.eq_of_beq_eq_true h2
      subst this
      replace h : orCiv args = some (u, e) := h
      unfold orCiv at h
      split at h
      · rename_i x
        cases hb : decide (0 ≤ x ∧ x < 31) with
        | true =>
          rw [hb] at h
          cases h
          exact call_val (ids := []) rfl (Civil_con (civ_1 (of_decide_eq_true hb))) hk
        | false =>
          rw [hb] at h
          cases hb2 : decide (31 ≤ x ∧ x < 60) with
          | true =>
            rw [hb2] at h
            cases h
            exact call_val (ids := []) rfl (Civil_con (civ_2 (of_decide_eq_true hb2))) hk
          | false => rw [hb2] at h; cases h
      · cases h
noncomputable def eng2 : XE := ⟨Tryz.prog, glbE, orc2, fun f => Nat.beq f 64 || Nat.beq f 103 || Nat.beq f 163⟩
end Go.Proofs.YtcoflmckbcnlpaaGreatDoor