/-
  The balance of an account in the caller's own journal; the example of the books, run; the law's examples. Conditions: those that each theorem states.
-/
import Derived.Test.YtcoflmckbcnlpaaGreatDoorO8
import Derived.Test.YtcoflmckbcnlpaaGreatDoorO2
import Derived.Test.YtcoflmckbcnlpaaGreatDoorO3
import Derived.Test.YtcoflmckbcnlpaaGreatDoorGEng2
namespace Go.Proofs.YtcoflmckbcnlpaaGreatDoor
open Go.RowKit
set_option maxRecDepth 100000
set_option linter.unusedSimpArgs false
theorem own_row {P : Program} {M0 : Nat → Prop} {w0 : Root} {φ : Phi} {hp : Nat → Option Row1} {nx : Nat} {w : World} (st : StH P M0 w0 φ hp nx w) {b : Nat} {β : Row1} (hb : hp b = some β) (hne : β.es ≠ []) {v : Value} {sz : Nat} (hφ : φ b = some (v, sz + 1)) :
    ∃ g cap xs, v = .slice (some ⟨g, 0, none⟩) β.es.length cap ∧ g < w.heap.size ∧ (∀ j y, xs[j]? = some y → w.cell? ⟨g, 0 + j, none⟩ = some y) ∧ RepLL φ (Mo φ hp M0) w sz β.es xs := by
  obtain ⟨_, xs, h5, h6⟩ := st.1.hpr b β v sz hb hφ
  rcases h5.2 with ⟨q1, q2⟩ | ⟨g, cap, cur, q1, q2, q3, q4, q5, _⟩
  · exact absurd (List.eq_nil_of_length_eq_zero q2) hne
  · refine ⟨g, cap, xs, q1, (Array.getElem?_eq_some_iff.1 q3).1, fun j y hy => ?_, h6⟩
    have := h5.cells (g := g) (by rw [q1]; rfl) j y hy
    rwa [addr_add] at this
theorem BOf_inl {hp : Nat → Option Row1} {nx b b2 : Nat} {m m2 : Bool} (n0 n1 n2 n3 n4 n5 n9 a1 id x1 x2 : Int) (s1 s2 s6 s7 : ByteArray) (hne : a1 ≠ id) (b0 : -1000000000000000000 ≤ x2) (b1 : x2 ≤ 1000000000000000000) (hb : hp b = some ⟨92, [[.ex (.int .i64 n0), .ex (.int .i64 n1), .ex (.int .i64 n2), .ex (.int .i64 n3), .ex (.int .i64 n4), .ex (.int .i64 n5), .ex (.string s6), .ex (.string s7), .own b2, .ex (.int .u64 n9)]], m⟩) (hb2 : hp b2 = some ⟨88, [[.ex (.int .i64 a1), .ex (.int .i64 x1), .ex (.string s1)], [.ex (.int .i64 id), .ex (.int .i64 x2), .ex (.string s2)]], m2⟩) :
    ConI Tryz.prog CtxP 38 [.own b, .ex (.int .i64 id)] hp nx (fun u h n => u = .ex (.int .i64 (-x2)) ∧ h = hp ∧ n = nx) := by
  refine ⟨⟨_, Tryz.func38, rfl, rfl⟩, fun M0 w0 φ w args hC st ha => ?_⟩
  obtain ⟨v, g1, h1⟩ := ha.get (j := 0) rfl
  obtain ⟨v2, g2, h2⟩ := ha.get (j := 1) rfl
  have hlen := ha.len
  obtain ⟨u1, u2, rfl⟩ : ∃ u1 u2, args = [u1, u2] := by
    match args, hlen with
    | [u1, u2], _ => exact ⟨u1, u2, rfl⟩
  cases g1
  cases g2
  simp only [Rep] at h1 h2
  obtain ⟨sz, hφ⟩ := h1
  obtain ⟨rfl, _⟩ := h2
  obtain ⟨g, cap, xs, rfl, hg, hat, hr⟩ := own_row st hb (by simp) hφ
  simp only [RepLL] at hr
  obtain ⟨x, y, rfl, hl, ho, hx, rfl⟩ := hr
  rw [List.append_nil] at hat
  obtain ⟨v0', k0, r0⟩ := hx.get (j := 0) rfl
  obtain ⟨v1', k1, r1⟩ := hx.get (j := 1) rfl
  obtain ⟨v2', k2, r2⟩ := hx.get (j := 2) rfl
  obtain ⟨v3', k3, r3⟩ := hx.get (j := 3) rfl
  obtain ⟨v4', k4, r4⟩ := hx.get (j := 4) rfl
  obtain ⟨v5', k5, r5⟩ := hx.get (j := 5) rfl
  obtain ⟨v6', k6, r6⟩ := hx.get (j := 6) rfl
  obtain ⟨v7', k7, r7⟩ := hx.get (j := 7) rfl
  obtain ⟨v8', k8, r8⟩ := hx.get (j := 8) rfl
  obtain ⟨v9', k9, r9⟩ := hx.get (j := 9) rfl
  simp only [Rep] at r0 r1 r2 r3 r4 r5 r6 r7 r8 r9
  obtain ⟨rfl, _⟩ := r0
  obtain ⟨rfl, _⟩ := r1
  obtain ⟨rfl, _⟩ := r2
  obtain ⟨rfl, _⟩ := r3
  obtain ⟨rfl, _⟩ := r4
  obtain ⟨rfl, _⟩ := r5
  obtain ⟨rfl, _⟩ := r6
  obtain ⟨rfl, _⟩ := r7
  obtain ⟨rfl, _⟩ := r9
  obtain ⟨sz2, hφ2⟩ := r8
  obtain ⟨g2, cap2, xs2, rfl, hg2, hat2, hr2⟩ := own_row st hb2 (by simp) hφ2
  simp only [RepLL] at hr2
  obtain ⟨l1, l2, rfl, hl1, _, hx1, l3, l4, rfl, hl3, _, hx3, rfl⟩ := hr2
  have e1 := hx1.len
  obtain ⟨m0', p0, q0⟩ := hx1.get (j := 0) rfl
  obtain ⟨m1', p1, q1⟩ := hx1.get (j := 1) rfl
  obtain ⟨m2', p2, q2⟩ := hx1.get (j := 2) rfl
  obtain ⟨m3', p3, q3⟩ := hx3.get (j := 0) rfl
  obtain ⟨m4', p4, q4⟩ := hx3.get (j := 1) rfl
  obtain ⟨m5', p5, q5⟩ := hx3.get (j := 2) rfl
  simp only [Rep] at q0 q1 q2 q3 q4 q5
  obtain ⟨rfl, _⟩ := q0
  obtain ⟨rfl, _⟩ := q1
  obtain ⟨rfl, _⟩ := q2
  obtain ⟨rfl, _⟩ := q3
  obtain ⟨rfl, _⟩ := q4
  obtain ⟨rfl, _⟩ := q5
  have e3 : l1.length = 3 := e1
  have lo : ∀ (j : Nat) u, l1[j]? = some u → w.cell? ⟨g2, 0 + j, none⟩ = some u := fun j u hu => hat2 j u (by rw [List.getElem?_append_left (List.getElem?_eq_some_iff.1 hu).1]; exact hu)
  have hi : ∀ (j : Nat) u, l3[j]? = some u → w.cell? ⟨g2, 0 + (3 + j), none⟩ = some u := fun j u hu => hat2 (3 + j) u (by rw [List.getElem?_append_right (by omega), e3, show 3 + j - 3 = j by omega, List.append_nil]; exact hu)
  refine ((callsIn_wide (n := 6)).1 (Of_in Fence.wide 6 trivial trivial trivial rfl (by omega) g 0 cap g2 0 cap2 n0 n1 n2 n3 n4 n5 n9 a1 id x1 x2 s1 s2 s6 s7 hne b0 b1 w hg hg2 (hat 0 _ k0) (hat 1 _ k1) (hat 2 _ k2) (hat 3 _ k3) (hat 4 _ k4) (hat 5 _ k5) (hat 6 _ k6) (hat 7 _ k7) (hat 8 _ k8) (hat 9 _ k9) (lo 0 _ p0) (lo 1 _ p1) (lo 2 _ p2) (hi 0 _ p3) (hi 1 _ p4) (hi 2 _ p5))).mono ?_
  rintro e w' ⟨rfl, hbe⟩
  exact ⟨_, _, _, _, φ, rfl, ⟨rfl, rfl, rfl⟩, Nat.le_refl _, ⟨st.1.on hbe, st.2⟩, by simp only [Rep]; exact ⟨trivial, rfl⟩⟩
noncomputable def legB (id : Int) : List (List AV) → Option Int
  | [[.ex (.int .i64 a1), .ex (.int .i64 _), .ex (.string _)], [.ex (.int .i64 a2), .ex (.int .i64 x2), .ex (.string _)]] => bif decide (a1 ≠ id ∧ a2 = id ∧ -1000000000000000000 ≤ x2 ∧ x2 ≤ 1000000000000000000) then some x2 else none
  | _ => none
noncomputable def entB : List (List AV) → Option Nat
  | [[.ex (.int .i64 _), .ex (.int .i64 _), .ex (.int .i64 _), .ex (.int .i64 _), .ex (.int .i64 _), .ex (.int .i64 _), .ex (.string _), .ex (.string _), .own b2, .ex (.int .u64 _)]] => some b2
  | _ => none
noncomputable def ofX (us : List AV) (hp : Tr Row1) (nx : Nat) : Option (AV × Tr Row1 × Nat) := match us with
  | [.own b, .ex (.int .i64 id)] => (hp.get b).bind fun β => (entB β.es).bind fun b2 => (hp.get b2).bind fun γ => (legB id γ.es).bind fun x => bif Nat.beq β.ty 92 && Nat.beq γ.ty 88 then some (.ex (.int .i64 (-x)), hp, nx) else none
  | _ => none
noncomputable def xoOf : XF := fun f us hp nx => bif Nat.beq f 38 then ofX us hp nx else none
theorem xoOf_ok : XfOk Tryz.prog CtxP xoOf := by
  intro f us hp nx u hp' nx' h
  unfold xoOf at h
  obtain ⟨h1, h⟩ := bif_some h
  have := Nat.eq_of_beq_eq_true h1
  subst this
  unfold ofX at h
  split at h
  · rename_i b id
    obtain ⟨⟨t1, es, m⟩, hb, h⟩ := some_of h
    obtain ⟨b2, he, h⟩ := some_of h
    obtain ⟨⟨t2, es2, m2⟩, hb2, h⟩ := some_of h
    obtain ⟨x, hl, h⟩ := some_of h
    obtain ⟨h2, h⟩ := bif_some h
    cases h
    obtain ⟨q1, q2⟩ := and_b h2
    have q1 := beq_of q1
    have q2 := beq_of q2
    dsimp only at q1 q2 he hl
    subst q1 q2
    unfold entB at he
    split at he
    · cases he
      unfold legB at hl
      split at hl
      · obtain ⟨h3, hl⟩ := bif_some hl
        cases hl
        obtain ⟨a, rfl, c, d⟩ := of_decide_eq_true h3
        exact BOf_inl _ _ _ _ _ _ _ _ _ _ _ _ _ _ _ a c d hb hb2
      · cases hl
    · cases he
  · cases h
noncomputable def eng7 : XE := ⟨Tryz.prog, glbE, orc7, eng2.pf⟩
theorem alive_con : Con Tryz.prog CtxP 14 [] (.val (.ex (.bool true))) :=
  xcallX_con (xo := xoOf) (E := eng7) (n := 1000) base glbE_ok orc7_ok xoOf_ok (by kernel_rfl)
theorem lasts_con : Con Tryz.prog CtxP 5 [] (.val (.ex (.bool true))) := by
  have a1 := alive_con
  have a2 := Lives33_con
  have a3 := Live34_con
  have a4 := Live37_con
  (refine con_val base Tryz.func5 rfl rfl (by kernel_rfl) (Nat.le_of_ble_eq_true rfl) ?_; rw [init_eq])
  (repeat' (first | exact trivial | refine stq ?_ | (refine awp_ret ?_; simp only [then_ret, block_ret, end_ret]) | ((first | refine cv (a1) ?_ | refine cv (a2) ?_ | refine cv (a3) ?_ | refine cv (a4) ?_ | refine stp ?_ | refine nqif_ways (fun h => ?_) ?_ | ((first | refine gif_ways (fun h => ?_) (fun h => ?_) | refine cif_ways (fun h => ?_) (fun h => ?_)) <;> (try simp only [sxn] at h) <;> (try (exfalso; omega)))) <;> (try (refine wS ?_)))))
  all_goals simp only [sxd, z0, p0, Nat.reduceEqDiff, ↓reduceIte, Tryz.f5, *]
end Go.Proofs.YtcoflmckbcnlpaaGreatDoor