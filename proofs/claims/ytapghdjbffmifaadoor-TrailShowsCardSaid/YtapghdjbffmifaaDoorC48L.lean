/-
  The law's own first check of chapter 48 ('lives') returns true. Conditions: none.
-/
import Derived.Test.YtapghdjbffmifaaDoorC48S
import Derived.Test.YtapghdjbffmifaaDoorC48Y
namespace Go.Proofs.YtapghdjbffmifaaDoor
open Go.RowKit
set_option maxRecDepth 100000
set_option linter.unusedSimpArgs false

/-! Lists that were appended. -/
def goodL (l : List MarkV) : Prop := ∀ k m, l[k]? = some m → allowedF (l.take k) m = 0 ∧ m.chain = chainF (l.take k) m
theorem firstBad_none {p : Nat → Bool} : ∀ (n k : Nat), (∀ j, k ≤ j → j < k + n → p j = false) → firstBad p k n = -1
  | 0, _, _ => rfl
  | n + 1, k, h => by
    rw [firstBad, if_neg (by rw [h k (by omega) (by omega)]; simp)]
    exact firstBad_none n (k + 1) fun j h1 h2 => h j (by omega) (by omega)
theorem firstBad_at {p : Nat → Bool} {i : Nat} (hi : p i = true) : ∀ (n k : Nat), k ≤ i → i < k + n → (∀ j, k ≤ j → j < i → p j = false) → firstBad p k n = i
  | 0, k, h1, h2, _ => by omega
  | n + 1, k, h1, h2, h => by
    by_cases e : k = i
    · subst e
      rw [firstBad, if_pos hi]
    · rw [firstBad, if_neg (by rw [h k (by omega) (by omega)]; simp)]
      exact firstBad_at hi n (k + 1) (by omega) (by omega) fun j h3 h4 => h j (by omega) h4
theorem verify_good {l : List MarkV} (h : goodL l) : verifyL l = -1 := by
  refine firstBad_none _ _ fun j _ h2 => ?_
  unfold badAt
  have e := List.getElem?_eq_getElem (l := l) (i := j) (by omega)
  rw [e]
  obtain ⟨g1, g2⟩ := h j _ e
  simp [g1, ← g2]
theorem verify_at {l : List MarkV} {i : Nat} (hi : i < l.length) (hb : badAt l i = true) (h : ∀ j, j < i → badAt l j = false) : verifyL l = i :=
  firstBad_at hb _ _ (by omega) (by omega) fun j _ h2 => h j h2
theorem allowedF_chain (l : List MarkV) (m : MarkV) (c : Int) : allowedF l { m with chain := c } = allowedF l m := rfl
theorem chainF_chain (l : List MarkV) (m : MarkV) (c : Int) : chainF l { m with chain := c } = chainF l m := rfl
theorem good_app {l : List MarkV} {m : MarkV} (h : goodL l) (ha : allowedF l m = 0) : goodL (l ++ [{ m with chain := chainF l m }]) := by
  intro k x hx
  rcases Nat.lt_trichotomy k l.length with hk | hk | hk
  · rw [List.getElem?_append_left hk] at hx
    rw [List.take_append_of_le_length (by omega)]
    exact h k x hx
  · subst hk
    simp at hx
    subst hx
    rw [List.take_append_of_le_length (by omega), List.take_length]
    exact ⟨ha, rfl⟩
  · rw [List.getElem?_eq_none (by simp; omega)] at hx; cases hx
theorem good_nil : goodL [] := fun k x h => by simp at h
theorem appL_ok {l : List MarkV} {m : MarkV} (h : allowedF l m = 0) : appL l m = l ++ [{ m with chain := chainF l m }] := if_pos h

def annB : ByteArray := ⟨#[97, 110, 110]⟩
def mk1 : MarkV := ⟨5, annB, ⟨#[112, 111, 115, 116]⟩, ⟨#[107, 49]⟩, 0⟩
def mk2 : MarkV := ⟨5, ⟨#[98, 111, 98]⟩, ⟨#[112, 111, 115, 116]⟩, ⟨#[107, 50]⟩, 0⟩
def mk3 : MarkV := ⟨6, annB, ⟨#[108, 105, 102, 116]⟩, ⟨#[]⟩, 0⟩
def mA1 : MarkV := { mk1 with chain := chainF [] mk1 }
def mA2 : MarkV := { mk2 with chain := chainF [mA1] mk2 }
def mA3 : MarkV := { mk3 with chain := chainF [mA1, mA2] mk3 }
def mX2 : MarkV := { mA2 with object := ⟨#[107, 51]⟩ }
theorem al1 : allowedF [] mk1 = 0 := by decide +kernel
theorem al2 : allowedF [mA1] mk2 = 0 := by decide +kernel
theorem al3 : allowedF [mA1, mA2] mk3 = 0 := by decide +kernel
theorem bad1 : badAt [mA1, mX2, mA3] 1 = true := by decide +kernel
theorem bad0 : badAt [mA1, mX2, mA3] 0 = false := by decide +kernel
theorem by2 : (byL [mA1, mA2, mA3] annB).length = 2 := by decide +kernel
theorem root3 (a b c : Int) : rootF [a, b, c] = dpair (dpair a b) c := by
  rw [rootF_step (by show 1 < 3; decide), show aboveL [a, b, c] = [dpair a b, c] from rfl, rootF_step (by show 1 < 2; decide), show aboveL [dpair a b, c] = [dpair (dpair a b) c] from rfl]
  exact rootF_end (by show ¬ 1 < 1; decide) rfl
theorem proof3 (a b c : Int) : proofF [a, b, c] 2 = [⟨dpair a b, true⟩] := by
  rw [proofF, dif_pos (by show 1 < 3; decide), show aboveL [a, b, c] = [dpair a b, c] from rfl, show 2 / 2 = 1 from rfl, proofF, dif_pos (by show 1 < 2; decide), proofF_end (by show ¬ 1 < 1; decide)]
  simp [stepAt]
theorem mk_ok {d : Int} {u a o : ByteArray} {c : Int} (h : 0 ≤ d ∧ d ≤ 10 ∧ u.size ≤ 100 ∧ a.size ≤ 100 ∧ o.size ≤ 100) (hc : U64 c) : MarkV.Ok ⟨d, u, a, o, c⟩ := ⟨by dsimp only; omega, by dsimp only; omega, h.2.2.1, h.2.2.2.1, h.2.2.2.2, hc⟩
theorem lives_facts : ∃ (L1 L2 L3 X : List MarkV) (A1 A2 A3 X2 : MarkV), appL [] mk1 = L1 ∧ allowedF [] mk1 = 0 ∧ appL L1 mk2 = L2 ∧ allowedF L1 mk2 = 0 ∧ appL L2 mk3 = L3 ∧ allowedF L2 mk3 = 0 ∧
    (A1.Ok ∧ A2.Ok ∧ A3.Ok) ∧ (L1 = [A1] ∧ L2 = [A1, A2] ∧ L3 = [A1, A2, A3]) ∧ (X2 = { A2 with object := ⟨#[107, 51]⟩ } ∧ X = [A1, X2, A3] ∧ X2.Ok) ∧ verifyL L3 = -1 ∧ verifyL X = 1 ∧ (byL L3 annB).length = 2 := by
  have e1 : appL [] mk1 = [mA1] := appL_ok al1
  have e2 : appL [mA1] mk2 = [mA1, mA2] := appL_ok al2
  have e3 : appL [mA1, mA2] mk3 = [mA1, mA2, mA3] := appL_ok al3
  refine ⟨_, _, _, [mA1, mX2, mA3], mA1, mA2, mA3, mX2, e1, al1, e2, al2, e3, al3, ⟨?_, ?_, ?_⟩, ⟨rfl, rfl, rfl⟩, ⟨rfl, rfl, ?_⟩, ?_, ?_, by2⟩
  · exact mk_ok (by decide) (chainF_u64 _ _)
  · exact mk_ok (by decide) (chainF_u64 _ _)
  · exact mk_ok (by decide) (chainF_u64 _ _)
  · exact mk_ok (by decide) (chainF_u64 _ _)
  · exact verify_good (good_app (good_app (good_app good_nil al1) al2) al3)
  · exact verify_at (i := 1) (by decide) bad1 fun j hj => by
      have : j = 0 := by omega
      subst this
      exact bad0
theorem ok1 : mk1.Ok := mk_ok (by decide) (by unfold U64; omega)
theorem ok2 : mk2.Ok := mk_ok (by decide) (by unfold U64; omega)
theorem ok3 : mk3.Ok := mk_ok (by decide) (by unfold U64; omega)

set_option maxHeartbeats 2000000 in
theorem lives_con : Con Tryd.prog CtxP 15 [] (.val (.ex (.bool true))) := by
  obtain ⟨L1, L2, L3, X, A1, A2, A3, X2, a1, b1, a2, b2, a3, b3, ⟨k1, k2, k3⟩, ⟨l1, l2, l3⟩, ⟨x2, lx, kx⟩, v1, v2, v3⟩ := lives_facts
  have K1 : ∀ m ∈ L1, m.Ok := by rw [l1]; intro m hm; simp at hm; rw [hm]; exact k1
  have K2 : ∀ m ∈ L2, m.Ok := by rw [l2]; intro m hm; simp at hm; rcases hm with rfl | rfl <;> assumption
  have K3 : ∀ m ∈ L3, m.Ok := by rw [l3]; intro m hm; simp at hm; rcases hm with rfl | rfl | rfl <;> assumption
  have KX : ∀ m ∈ X, m.Ok := by rw [lx]; intro m hm; simp at hm; rcases hm with rfl | rfl | rfl <;> assumption
  have n1 : L1.length ≤ 100 := by rw [l1]; show 1 ≤ 100; decide
  have n2 : L2.length ≤ 100 := by rw [l2]; show 2 ≤ 100; decide
  have n3 : L3.length = 3 := by rw [l3]; rfl
  have nx : X.length = 3 := by rw [lx]; rfl
  have i0 := marksC_get? (l := L3) (k := 0) (p := A1) (by rw [l3]; rfl)
  have i1 := marksC_get? (l := L3) (k := 1) (p := A2) (by rw [l3]; rfl)
  have i2 := marksC_get? (l := L3) (k := 2) (p := A3) (by rw [l3]; rfl)
  have ix : (marksC L3).set 1 [.ex (.int .i64 A2.day), .ex (.string A2.user), .ex (.string A2.action), .ex (.string ⟨#[107, 51]⟩), .ex (.int .u64 A2.chain)] = marksC X := by rw [l3, lx, x2]; rfl
  have c3 := (marksC_len L3).trans n3
  have r1 : rootF (leavesL L3) = dpair (dpair (leafF A1) (leafF A2)) (leafF A3) := by rw [l3]; exact root3 _ _ _
  have p1 : proofR L3 2 = [⟨dpair (leafF A1) (leafF A2), true⟩] := by
    unfold proofR
    rw [if_pos (by rw [n3]; decide), l3]
    exact proof3 _ _ _
  have p2 : proofE L3 2 = 0 := by unfold proofE; rw [if_pos (by rw [n3]; decide)]
  have h1 : holdF A3 [⟨dpair (leafF A1) (leafF A2), true⟩] = dpair (dpair (leafF A1) (leafF A2)) (leafF A3) := by unfold holdF; rw [List.foldl_cons, List.foldl_nil, holdOne, if_pos rfl]
  have f1 := marksC_all L3
  have f2 := marksC_p0 X
  have f3 := marksC_z0 X
  have f4 := marksC_len (byL L3 annB)
  clear l1 l2 l3 lx x2
  refine con_val base Tryd.func15 rfl rfl (by kernel_rfl) (Nat.le_of_ble_eq_true rfl) ?_
  rw [init_eq]
  (repeat' (first
    | refine awp_seq ?_
    | refine awp_block ?_
    | (refine awp_ret ?_; simp only [then_ret, block_ret, end_ret])
    | ((first
        | refine call_val (by first | (simp only [vret_1, vfresh, kfr_own, kfrb_at, vret_2, vret_3, karet_at, karets_at, opt_some, cl_agg, cl_fn, cl_pt, cl_rp, cl1_pt, cl1_rp, cl_ex, cl_sl, cl_own, cls_nil, cls_cons, cl1s_nil, cl1s_cons, cl1_int, cl1_bool, cl1_str, cl1_nil, cl1_sl, cl1_own, z0, p0, upd_at, Nat.reduceEqDiff, ↓reduceIte, Option.bind_some, Option.map_some, List.nil_append, List.append_nil, List.cons_append, tmI_0, tmI_s, hpI_at, AV.ex.injEq, Value.bool.injEq, Value.int.injEq, Value.string.injEq, true_and, and_true, List.all_nil, List.map_nil, List.all_cons, List.map_cons, Bool.and_self, Bool.and_true, List.all_append, List.map_append]; (try rfl); done) | (simp only [vret_1, vfresh, kfr_own, kfrb_at, vret_2, vret_3, karet_at, karets_at, opt_some, cl_agg, cl_fn, cl_pt, cl_rp, cl1_pt, cl1_rp, cl_ex, cl_sl, cl_own, cls_nil, cls_cons, cl1s_nil, cl1s_cons, cl1_int, cl1_bool, cl1_str, cl1_nil, cl1_sl, cl1_own, z0, p0, upd_at, Nat.reduceEqDiff, ↓reduceIte, Option.bind_some, Option.map_some, List.nil_append, List.append_nil, List.cons_append, tmI_0, tmI_s, hpI_at, AV.ex.injEq, Value.bool.injEq, Value.int.injEq, Value.string.injEq, true_and, and_true, List.all_nil, List.map_nil, List.all_cons, List.map_cons, Bool.and_self, Bool.and_true, List.all_append, List.map_append, *]; (try rfl); done)) (Append_con [] mk1 (Nat.zero_le _) (fun m hm => by cases hm) ok1) ?_
        | refine call_val (by first | (simp only [vret_1, vfresh, kfr_own, kfrb_at, vret_2, vret_3, karet_at, karets_at, opt_some, cl_agg, cl_fn, cl_pt, cl_rp, cl1_pt, cl1_rp, cl_ex, cl_sl, cl_own, cls_nil, cls_cons, cl1s_nil, cl1s_cons, cl1_int, cl1_bool, cl1_str, cl1_nil, cl1_sl, cl1_own, z0, p0, upd_at, Nat.reduceEqDiff, ↓reduceIte, Option.bind_some, Option.map_some, List.nil_append, List.append_nil, List.cons_append, tmI_0, tmI_s, hpI_at, AV.ex.injEq, Value.bool.injEq, Value.int.injEq, Value.string.injEq, true_and, and_true, List.all_nil, List.map_nil, List.all_cons, List.map_cons, Bool.and_self, Bool.and_true, List.all_append, List.map_append]; (try rfl); done) | (simp only [vret_1, vfresh, kfr_own, kfrb_at, vret_2, vret_3, karet_at, karets_at, opt_some, cl_agg, cl_fn, cl_pt, cl_rp, cl1_pt, cl1_rp, cl_ex, cl_sl, cl_own, cls_nil, cls_cons, cl1s_nil, cl1s_cons, cl1_int, cl1_bool, cl1_str, cl1_nil, cl1_sl, cl1_own, z0, p0, upd_at, Nat.reduceEqDiff, ↓reduceIte, Option.bind_some, Option.map_some, List.nil_append, List.append_nil, List.cons_append, tmI_0, tmI_s, hpI_at, AV.ex.injEq, Value.bool.injEq, Value.int.injEq, Value.string.injEq, true_and, and_true, List.all_nil, List.map_nil, List.all_cons, List.map_cons, Bool.and_self, Bool.and_true, List.all_append, List.map_append, *]; (try rfl); done)) (Append_con L1 mk2 (by omega) K1 ok2) ?_
        | refine call_val (by first | (simp only [vret_1, vfresh, kfr_own, kfrb_at, vret_2, vret_3, karet_at, karets_at, opt_some, cl_agg, cl_fn, cl_pt, cl_rp, cl1_pt, cl1_rp, cl_ex, cl_sl, cl_own, cls_nil, cls_cons, cl1s_nil, cl1s_cons, cl1_int, cl1_bool, cl1_str, cl1_nil, cl1_sl, cl1_own, z0, p0, upd_at, Nat.reduceEqDiff, ↓reduceIte, Option.bind_some, Option.map_some, List.nil_append, List.append_nil, List.cons_append, tmI_0, tmI_s, hpI_at, AV.ex.injEq, Value.bool.injEq, Value.int.injEq, Value.string.injEq, true_and, and_true, List.all_nil, List.map_nil, List.all_cons, List.map_cons, Bool.and_self, Bool.and_true, List.all_append, List.map_append]; (try rfl); done) | (simp only [vret_1, vfresh, kfr_own, kfrb_at, vret_2, vret_3, karet_at, karets_at, opt_some, cl_agg, cl_fn, cl_pt, cl_rp, cl1_pt, cl1_rp, cl_ex, cl_sl, cl_own, cls_nil, cls_cons, cl1s_nil, cl1s_cons, cl1_int, cl1_bool, cl1_str, cl1_nil, cl1_sl, cl1_own, z0, p0, upd_at, Nat.reduceEqDiff, ↓reduceIte, Option.bind_some, Option.map_some, List.nil_append, List.append_nil, List.cons_append, tmI_0, tmI_s, hpI_at, AV.ex.injEq, Value.bool.injEq, Value.int.injEq, Value.string.injEq, true_and, and_true, List.all_nil, List.map_nil, List.all_cons, List.map_cons, Bool.and_self, Bool.and_true, List.all_append, List.map_append, *]; (try rfl); done)) (Append_con L2 mk3 (by omega) K2 ok3) ?_
        | refine call_val (by first | (simp only [vret_1, vfresh, kfr_own, kfrb_at, vret_2, vret_3, karet_at, karets_at, opt_some, cl_agg, cl_fn, cl_pt, cl_rp, cl1_pt, cl1_rp, cl_ex, cl_sl, cl_own, cls_nil, cls_cons, cl1s_nil, cl1s_cons, cl1_int, cl1_bool, cl1_str, cl1_nil, cl1_sl, cl1_own, z0, p0, upd_at, Nat.reduceEqDiff, ↓reduceIte, Option.bind_some, Option.map_some, List.nil_append, List.append_nil, List.cons_append, tmI_0, tmI_s, hpI_at, AV.ex.injEq, Value.bool.injEq, Value.int.injEq, Value.string.injEq, true_and, and_true, List.all_nil, List.map_nil, List.all_cons, List.map_cons, Bool.and_self, Bool.and_true, List.all_append, List.map_append]; (try rfl); done) | (simp only [vret_1, vfresh, kfr_own, kfrb_at, vret_2, vret_3, karet_at, karets_at, opt_some, cl_agg, cl_fn, cl_pt, cl_rp, cl1_pt, cl1_rp, cl_ex, cl_sl, cl_own, cls_nil, cls_cons, cl1s_nil, cl1s_cons, cl1_int, cl1_bool, cl1_str, cl1_nil, cl1_sl, cl1_own, z0, p0, upd_at, Nat.reduceEqDiff, ↓reduceIte, Option.bind_some, Option.map_some, List.nil_append, List.append_nil, List.cons_append, tmI_0, tmI_s, hpI_at, AV.ex.injEq, Value.bool.injEq, Value.int.injEq, Value.string.injEq, true_and, and_true, List.all_nil, List.map_nil, List.all_cons, List.map_cons, Bool.and_self, Bool.and_true, List.all_append, List.map_append, *]; (try rfl); done)) (Verify_con L3 (by omega) K3) ?_
        | refine call_val (by first | (simp only [vret_1, vfresh, kfr_own, kfrb_at, vret_2, vret_3, karet_at, karets_at, opt_some, cl_agg, cl_fn, cl_pt, cl_rp, cl1_pt, cl1_rp, cl_ex, cl_sl, cl_own, cls_nil, cls_cons, cl1s_nil, cl1s_cons, cl1_int, cl1_bool, cl1_str, cl1_nil, cl1_sl, cl1_own, z0, p0, upd_at, Nat.reduceEqDiff, ↓reduceIte, Option.bind_some, Option.map_some, List.nil_append, List.append_nil, List.cons_append, tmI_0, tmI_s, hpI_at, AV.ex.injEq, Value.bool.injEq, Value.int.injEq, Value.string.injEq, true_and, and_true, List.all_nil, List.map_nil, List.all_cons, List.map_cons, Bool.and_self, Bool.and_true, List.all_append, List.map_append]; (try rfl); done) | (simp only [vret_1, vfresh, kfr_own, kfrb_at, vret_2, vret_3, karet_at, karets_at, opt_some, cl_agg, cl_fn, cl_pt, cl_rp, cl1_pt, cl1_rp, cl_ex, cl_sl, cl_own, cls_nil, cls_cons, cl1s_nil, cl1s_cons, cl1_int, cl1_bool, cl1_str, cl1_nil, cl1_sl, cl1_own, z0, p0, upd_at, Nat.reduceEqDiff, ↓reduceIte, Option.bind_some, Option.map_some, List.nil_append, List.append_nil, List.cons_append, tmI_0, tmI_s, hpI_at, AV.ex.injEq, Value.bool.injEq, Value.int.injEq, Value.string.injEq, true_and, and_true, List.all_nil, List.map_nil, List.all_cons, List.map_cons, Bool.and_self, Bool.and_true, List.all_append, List.map_append, *]; (try rfl); done)) (Root_con L3 (by omega) K3) ?_
        | refine call_val (by first | (simp only [vret_1, vfresh, kfr_own, kfrb_at, vret_2, vret_3, karet_at, karets_at, opt_some, cl_agg, cl_fn, cl_pt, cl_rp, cl1_pt, cl1_rp, cl_ex, cl_sl, cl_own, cls_nil, cls_cons, cl1s_nil, cl1s_cons, cl1_int, cl1_bool, cl1_str, cl1_nil, cl1_sl, cl1_own, z0, p0, upd_at, Nat.reduceEqDiff, ↓reduceIte, Option.bind_some, Option.map_some, List.nil_append, List.append_nil, List.cons_append, tmI_0, tmI_s, hpI_at, AV.ex.injEq, Value.bool.injEq, Value.int.injEq, Value.string.injEq, true_and, and_true, List.all_nil, List.map_nil, List.all_cons, List.map_cons, Bool.and_self, Bool.and_true, List.all_append, List.map_append]; (try rfl); done) | (simp only [vret_1, vfresh, kfr_own, kfrb_at, vret_2, vret_3, karet_at, karets_at, opt_some, cl_agg, cl_fn, cl_pt, cl_rp, cl1_pt, cl1_rp, cl_ex, cl_sl, cl_own, cls_nil, cls_cons, cl1s_nil, cl1s_cons, cl1_int, cl1_bool, cl1_str, cl1_nil, cl1_sl, cl1_own, z0, p0, upd_at, Nat.reduceEqDiff, ↓reduceIte, Option.bind_some, Option.map_some, List.nil_append, List.append_nil, List.cons_append, tmI_0, tmI_s, hpI_at, AV.ex.injEq, Value.bool.injEq, Value.int.injEq, Value.string.injEq, true_and, and_true, List.all_nil, List.map_nil, List.all_cons, List.map_cons, Bool.and_self, Bool.and_true, List.all_append, List.map_append, *]; (try rfl); done)) (Proof_con L3 2 (by omega) K3) ?_
        | refine call_val (by first | (simp only [vret_1, vfresh, kfr_own, kfrb_at, vret_2, vret_3, karet_at, karets_at, opt_some, cl_agg, cl_fn, cl_pt, cl_rp, cl1_pt, cl1_rp, cl_ex, cl_sl, cl_own, cls_nil, cls_cons, cl1s_nil, cl1s_cons, cl1_int, cl1_bool, cl1_str, cl1_nil, cl1_sl, cl1_own, z0, p0, upd_at, Nat.reduceEqDiff, ↓reduceIte, Option.bind_some, Option.map_some, List.nil_append, List.append_nil, List.cons_append, tmI_0, tmI_s, hpI_at, AV.ex.injEq, Value.bool.injEq, Value.int.injEq, Value.string.injEq, true_and, and_true, List.all_nil, List.map_nil, List.all_cons, List.map_cons, Bool.and_self, Bool.and_true, List.all_append, List.map_append]; (try rfl); done) | (simp only [vret_1, vfresh, kfr_own, kfrb_at, vret_2, vret_3, karet_at, karets_at, opt_some, cl_agg, cl_fn, cl_pt, cl_rp, cl1_pt, cl1_rp, cl_ex, cl_sl, cl_own, cls_nil, cls_cons, cl1s_nil, cl1s_cons, cl1_int, cl1_bool, cl1_str, cl1_nil, cl1_sl, cl1_own, z0, p0, upd_at, Nat.reduceEqDiff, ↓reduceIte, Option.bind_some, Option.map_some, List.nil_append, List.append_nil, List.cons_append, tmI_0, tmI_s, hpI_at, AV.ex.injEq, Value.bool.injEq, Value.int.injEq, Value.string.injEq, true_and, and_true, List.all_nil, List.map_nil, List.all_cons, List.map_cons, Bool.and_self, Bool.and_true, List.all_append, List.map_append, *]; (try rfl); done)) (Leaf_con A1 k1) ?_
        | refine call_val (by first | (simp only [vret_1, vfresh, kfr_own, kfrb_at, vret_2, vret_3, karet_at, karets_at, opt_some, cl_agg, cl_fn, cl_pt, cl_rp, cl1_pt, cl1_rp, cl_ex, cl_sl, cl_own, cls_nil, cls_cons, cl1s_nil, cl1s_cons, cl1_int, cl1_bool, cl1_str, cl1_nil, cl1_sl, cl1_own, z0, p0, upd_at, Nat.reduceEqDiff, ↓reduceIte, Option.bind_some, Option.map_some, List.nil_append, List.append_nil, List.cons_append, tmI_0, tmI_s, hpI_at, AV.ex.injEq, Value.bool.injEq, Value.int.injEq, Value.string.injEq, true_and, and_true, List.all_nil, List.map_nil, List.all_cons, List.map_cons, Bool.and_self, Bool.and_true, List.all_append, List.map_append]; (try rfl); done) | (simp only [vret_1, vfresh, kfr_own, kfrb_at, vret_2, vret_3, karet_at, karets_at, opt_some, cl_agg, cl_fn, cl_pt, cl_rp, cl1_pt, cl1_rp, cl_ex, cl_sl, cl_own, cls_nil, cls_cons, cl1s_nil, cl1s_cons, cl1_int, cl1_bool, cl1_str, cl1_nil, cl1_sl, cl1_own, z0, p0, upd_at, Nat.reduceEqDiff, ↓reduceIte, Option.bind_some, Option.map_some, List.nil_append, List.append_nil, List.cons_append, tmI_0, tmI_s, hpI_at, AV.ex.injEq, Value.bool.injEq, Value.int.injEq, Value.string.injEq, true_and, and_true, List.all_nil, List.map_nil, List.all_cons, List.map_cons, Bool.and_self, Bool.and_true, List.all_append, List.map_append, *]; (try rfl); done)) (Leaf_con A2 k2) ?_
        | refine call_val (by first | (simp only [vret_1, vfresh, kfr_own, kfrb_at, vret_2, vret_3, karet_at, karets_at, opt_some, cl_agg, cl_fn, cl_pt, cl_rp, cl1_pt, cl1_rp, cl_ex, cl_sl, cl_own, cls_nil, cls_cons, cl1s_nil, cl1s_cons, cl1_int, cl1_bool, cl1_str, cl1_nil, cl1_sl, cl1_own, z0, p0, upd_at, Nat.reduceEqDiff, ↓reduceIte, Option.bind_some, Option.map_some, List.nil_append, List.append_nil, List.cons_append, tmI_0, tmI_s, hpI_at, AV.ex.injEq, Value.bool.injEq, Value.int.injEq, Value.string.injEq, true_and, and_true, List.all_nil, List.map_nil, List.all_cons, List.map_cons, Bool.and_self, Bool.and_true, List.all_append, List.map_append]; (try rfl); done) | (simp only [vret_1, vfresh, kfr_own, kfrb_at, vret_2, vret_3, karet_at, karets_at, opt_some, cl_agg, cl_fn, cl_pt, cl_rp, cl1_pt, cl1_rp, cl_ex, cl_sl, cl_own, cls_nil, cls_cons, cl1s_nil, cl1s_cons, cl1_int, cl1_bool, cl1_str, cl1_nil, cl1_sl, cl1_own, z0, p0, upd_at, Nat.reduceEqDiff, ↓reduceIte, Option.bind_some, Option.map_some, List.nil_append, List.append_nil, List.cons_append, tmI_0, tmI_s, hpI_at, AV.ex.injEq, Value.bool.injEq, Value.int.injEq, Value.string.injEq, true_and, and_true, List.all_nil, List.map_nil, List.all_cons, List.map_cons, Bool.and_self, Bool.and_true, List.all_append, List.map_append, *]; (try rfl); done)) (Leaf_con A3 k3) ?_
        | refine call_val (by first | (simp only [vret_1, vfresh, kfr_own, kfrb_at, vret_2, vret_3, karet_at, karets_at, opt_some, cl_agg, cl_fn, cl_pt, cl_rp, cl1_pt, cl1_rp, cl_ex, cl_sl, cl_own, cls_nil, cls_cons, cl1s_nil, cl1s_cons, cl1_int, cl1_bool, cl1_str, cl1_nil, cl1_sl, cl1_own, z0, p0, upd_at, Nat.reduceEqDiff, ↓reduceIte, Option.bind_some, Option.map_some, List.nil_append, List.append_nil, List.cons_append, tmI_0, tmI_s, hpI_at, AV.ex.injEq, Value.bool.injEq, Value.int.injEq, Value.string.injEq, true_and, and_true, List.all_nil, List.map_nil, List.all_cons, List.map_cons, Bool.and_self, Bool.and_true, List.all_append, List.map_append]; (try rfl); done) | (simp only [vret_1, vfresh, kfr_own, kfrb_at, vret_2, vret_3, karet_at, karets_at, opt_some, cl_agg, cl_fn, cl_pt, cl_rp, cl1_pt, cl1_rp, cl_ex, cl_sl, cl_own, cls_nil, cls_cons, cl1s_nil, cl1s_cons, cl1_int, cl1_bool, cl1_str, cl1_nil, cl1_sl, cl1_own, z0, p0, upd_at, Nat.reduceEqDiff, ↓reduceIte, Option.bind_some, Option.map_some, List.nil_append, List.append_nil, List.cons_append, tmI_0, tmI_s, hpI_at, AV.ex.injEq, Value.bool.injEq, Value.int.injEq, Value.string.injEq, true_and, and_true, List.all_nil, List.map_nil, List.all_cons, List.map_cons, Bool.and_self, Bool.and_true, List.all_append, List.map_append, *]; (try rfl); done)) (RPair_con (leafF A1) (leafF A2) (leafF_u64 _) (leafF_u64 _)) ?_
        | refine call_val (by first | (simp only [vret_1, vfresh, kfr_own, kfrb_at, vret_2, vret_3, karet_at, karets_at, opt_some, cl_agg, cl_fn, cl_pt, cl_rp, cl1_pt, cl1_rp, cl_ex, cl_sl, cl_own, cls_nil, cls_cons, cl1s_nil, cl1s_cons, cl1_int, cl1_bool, cl1_str, cl1_nil, cl1_sl, cl1_own, z0, p0, upd_at, Nat.reduceEqDiff, ↓reduceIte, Option.bind_some, Option.map_some, List.nil_append, List.append_nil, List.cons_append, tmI_0, tmI_s, hpI_at, AV.ex.injEq, Value.bool.injEq, Value.int.injEq, Value.string.injEq, true_and, and_true, List.all_nil, List.map_nil, List.all_cons, List.map_cons, Bool.and_self, Bool.and_true, List.all_append, List.map_append]; (try rfl); done) | (simp only [vret_1, vfresh, kfr_own, kfrb_at, vret_2, vret_3, karet_at, karets_at, opt_some, cl_agg, cl_fn, cl_pt, cl_rp, cl1_pt, cl1_rp, cl_ex, cl_sl, cl_own, cls_nil, cls_cons, cl1s_nil, cl1s_cons, cl1_int, cl1_bool, cl1_str, cl1_nil, cl1_sl, cl1_own, z0, p0, upd_at, Nat.reduceEqDiff, ↓reduceIte, Option.bind_some, Option.map_some, List.nil_append, List.append_nil, List.cons_append, tmI_0, tmI_s, hpI_at, AV.ex.injEq, Value.bool.injEq, Value.int.injEq, Value.string.injEq, true_and, and_true, List.all_nil, List.map_nil, List.all_cons, List.map_cons, Bool.and_self, Bool.and_true, List.all_append, List.map_append, *]; (try rfl); done)) (SameSteps_con [⟨dpair (leafF A1) (leafF A2), true⟩] (by show 1 ≤ 1000000; decide)) ?_
        | refine call_val (by first | (simp only [vret_1, vfresh, kfr_own, kfrb_at, vret_2, vret_3, karet_at, karets_at, opt_some, cl_agg, cl_fn, cl_pt, cl_rp, cl1_pt, cl1_rp, cl_ex, cl_sl, cl_own, cls_nil, cls_cons, cl1s_nil, cl1s_cons, cl1_int, cl1_bool, cl1_str, cl1_nil, cl1_sl, cl1_own, z0, p0, upd_at, Nat.reduceEqDiff, ↓reduceIte, Option.bind_some, Option.map_some, List.nil_append, List.append_nil, List.cons_append, tmI_0, tmI_s, hpI_at, AV.ex.injEq, Value.bool.injEq, Value.int.injEq, Value.string.injEq, true_and, and_true, List.all_nil, List.map_nil, List.all_cons, List.map_cons, Bool.and_self, Bool.and_true, List.all_append, List.map_append]; (try rfl); done) | (simp only [vret_1, vfresh, kfr_own, kfrb_at, vret_2, vret_3, karet_at, karets_at, opt_some, cl_agg, cl_fn, cl_pt, cl_rp, cl1_pt, cl1_rp, cl_ex, cl_sl, cl_own, cls_nil, cls_cons, cl1s_nil, cl1s_cons, cl1_int, cl1_bool, cl1_str, cl1_nil, cl1_sl, cl1_own, z0, p0, upd_at, Nat.reduceEqDiff, ↓reduceIte, Option.bind_some, Option.map_some, List.nil_append, List.append_nil, List.cons_append, tmI_0, tmI_s, hpI_at, AV.ex.injEq, Value.bool.injEq, Value.int.injEq, Value.string.injEq, true_and, and_true, List.all_nil, List.map_nil, List.all_cons, List.map_cons, Bool.and_self, Bool.and_true, List.all_append, List.map_append, *]; (try rfl); done)) (RPair_con (dpair (leafF A1) (leafF A2)) (leafF A3) (dpair_u64 _ _) (leafF_u64 _)) ?_
        | refine call_val (by first | (simp only [vret_1, vfresh, kfr_own, kfrb_at, vret_2, vret_3, karet_at, karets_at, opt_some, cl_agg, cl_fn, cl_pt, cl_rp, cl1_pt, cl1_rp, cl_ex, cl_sl, cl_own, cls_nil, cls_cons, cl1s_nil, cl1s_cons, cl1_int, cl1_bool, cl1_str, cl1_nil, cl1_sl, cl1_own, z0, p0, upd_at, Nat.reduceEqDiff, ↓reduceIte, Option.bind_some, Option.map_some, List.nil_append, List.append_nil, List.cons_append, tmI_0, tmI_s, hpI_at, AV.ex.injEq, Value.bool.injEq, Value.int.injEq, Value.string.injEq, true_and, and_true, List.all_nil, List.map_nil, List.all_cons, List.map_cons, Bool.and_self, Bool.and_true, List.all_append, List.map_append]; (try rfl); done) | (simp only [vret_1, vfresh, kfr_own, kfrb_at, vret_2, vret_3, karet_at, karets_at, opt_some, cl_agg, cl_fn, cl_pt, cl_rp, cl1_pt, cl1_rp, cl_ex, cl_sl, cl_own, cls_nil, cls_cons, cl1s_nil, cl1s_cons, cl1_int, cl1_bool, cl1_str, cl1_nil, cl1_sl, cl1_own, z0, p0, upd_at, Nat.reduceEqDiff, ↓reduceIte, Option.bind_some, Option.map_some, List.nil_append, List.append_nil, List.cons_append, tmI_0, tmI_s, hpI_at, AV.ex.injEq, Value.bool.injEq, Value.int.injEq, Value.string.injEq, true_and, and_true, List.all_nil, List.map_nil, List.all_cons, List.map_cons, Bool.and_self, Bool.and_true, List.all_append, List.map_append, *]; (try rfl); done)) (Holds_con (dpair (dpair (leafF A1) (leafF A2)) (leafF A3)) A3 [⟨dpair (leafF A1) (leafF A2), true⟩] k3 (by show 1 ≤ 1000000; decide) (by intro s hs; simp at hs; rw [hs]; exact dpair_u64 _ _)) ?_
        | refine call_val (by first | (simp only [vret_1, vfresh, kfr_own, kfrb_at, vret_2, vret_3, karet_at, karets_at, opt_some, cl_agg, cl_fn, cl_pt, cl_rp, cl1_pt, cl1_rp, cl_ex, cl_sl, cl_own, cls_nil, cls_cons, cl1s_nil, cl1s_cons, cl1_int, cl1_bool, cl1_str, cl1_nil, cl1_sl, cl1_own, z0, p0, upd_at, Nat.reduceEqDiff, ↓reduceIte, Option.bind_some, Option.map_some, List.nil_append, List.append_nil, List.cons_append, tmI_0, tmI_s, hpI_at, AV.ex.injEq, Value.bool.injEq, Value.int.injEq, Value.string.injEq, true_and, and_true, List.all_nil, List.map_nil, List.all_cons, List.map_cons, Bool.and_self, Bool.and_true, List.all_append, List.map_append]; (try rfl); done) | (simp only [vret_1, vfresh, kfr_own, kfrb_at, vret_2, vret_3, karet_at, karets_at, opt_some, cl_agg, cl_fn, cl_pt, cl_rp, cl1_pt, cl1_rp, cl_ex, cl_sl, cl_own, cls_nil, cls_cons, cl1s_nil, cl1s_cons, cl1_int, cl1_bool, cl1_str, cl1_nil, cl1_sl, cl1_own, z0, p0, upd_at, Nat.reduceEqDiff, ↓reduceIte, Option.bind_some, Option.map_some, List.nil_append, List.append_nil, List.cons_append, tmI_0, tmI_s, hpI_at, AV.ex.injEq, Value.bool.injEq, Value.int.injEq, Value.string.injEq, true_and, and_true, List.all_nil, List.map_nil, List.all_cons, List.map_cons, Bool.and_self, Bool.and_true, List.all_append, List.map_append, *]; (try rfl); done)) (Verify_con X (by omega) KX) ?_
        | refine call_val (by first | (simp only [vret_1, vfresh, kfr_own, kfrb_at, vret_2, vret_3, karet_at, karets_at, opt_some, cl_agg, cl_fn, cl_pt, cl_rp, cl1_pt, cl1_rp, cl_ex, cl_sl, cl_own, cls_nil, cls_cons, cl1s_nil, cl1s_cons, cl1_int, cl1_bool, cl1_str, cl1_nil, cl1_sl, cl1_own, z0, p0, upd_at, Nat.reduceEqDiff, ↓reduceIte, Option.bind_some, Option.map_some, List.nil_append, List.append_nil, List.cons_append, tmI_0, tmI_s, hpI_at, AV.ex.injEq, Value.bool.injEq, Value.int.injEq, Value.string.injEq, true_and, and_true, List.all_nil, List.map_nil, List.all_cons, List.map_cons, Bool.and_self, Bool.and_true, List.all_append, List.map_append]; (try rfl); done) | (simp only [vret_1, vfresh, kfr_own, kfrb_at, vret_2, vret_3, karet_at, karets_at, opt_some, cl_agg, cl_fn, cl_pt, cl_rp, cl1_pt, cl1_rp, cl_ex, cl_sl, cl_own, cls_nil, cls_cons, cl1s_nil, cl1s_cons, cl1_int, cl1_bool, cl1_str, cl1_nil, cl1_sl, cl1_own, z0, p0, upd_at, Nat.reduceEqDiff, ↓reduceIte, Option.bind_some, Option.map_some, List.nil_append, List.append_nil, List.cons_append, tmI_0, tmI_s, hpI_at, AV.ex.injEq, Value.bool.injEq, Value.int.injEq, Value.string.injEq, true_and, and_true, List.all_nil, List.map_nil, List.all_cons, List.map_cons, Bool.and_self, Bool.and_true, List.all_append, List.map_append, *]; (try rfl); done)) (By_con L3 annB (by omega)) ?_
        | refine vplain ?_
        | refine vdraws (by kernel_rfl) ?_
        | refine vbuildS (by simp only [tyb, elemOf_s]) (by simp only [tyb, elemOf_s, List.length_cons, List.length_nil, List.all_cons, List.all_nil, Value.oneCell', Bool.and_self, Nat.reduceAdd, Nat.reduceMul, Nat.reduceLeDiff, Nat.reduceLT, true_and, and_true, and_self, Nat.lt_add_one, Nat.zero_mul, Nat.zero_le, Nat.one_mul]) ?_
        | refine vcond ?_
        | refine awp_exit ?_
        | refine awp_skip ?_
        | refine And.intro (by first | omega | assumption | exact setOk_ge (by decide +kernel) | exact setOk_late (by decide +kernel) (by (simp (disch := omega) only [sx0, sx1, sx2, sx3, sx4, sx5, isBytes, ATy.isAgg, ATy.known, tyb, Nat.reduceAdd, Nat.reduceMul, Nat.reduceEqDiff, Nat.reduceLT, Nat.reduceLeDiff, ↓reduceIte, Option.map_some, Option.bind_some, Option.map_none, Option.isSome_some, Option.isSome_none, Option.isNone_some, Option.isNone_none, Bool.true_or, Bool.or_true, List.length_cons, List.length_nil, List.map_cons, List.map_nil, true_and, and_true, Option.some.injEq, Nat.not_lt_zero, implies_true, List.getElem?_cons_zero, List.getElem?_cons_succ, decide_true, decide_false, Bool.not_true, Bool.not_false, ne_eq, not_false_eq_true, Nat.add_zero, Nat.zero_add, List.all_cons, List.all_nil, Value.oneCell', Bool.and_self, Bool.and_true, Bool.true_and, List.drop_zero, List.drop_succ_cons, List.take_succ_cons, List.take_zero, List.take_nil, List.nil_append, List.cons_append, List.append_nil, List.set_cons_zero, List.set_cons_succ, Int.toNat_natCast, Int.reduceToNat, Bool.false_eq_true, ite_self, beq_self_eq_true, bne_self_eq_false, not_true_eq_false, false_or, or_false, gt_iff_lt, Int.reduceEq, Int.reduceLT, Int.reduceLE, Int.reduceNe, List.forall_mem_cons, List.not_mem_nil, false_implies, forall_const, natS, *]; rfl)) (by refine wkR_row ?_; repeat' (first | exact trivial | refine wkL_c (by decide +kernel) ?_)) | exact Nat.le_of_ble_eq_true (by kernel_rfl)) ?_
        | refine nqif_ways (fun h => ?_) ?_
        | ((first | refine gif_ways (fun h => ?_) (fun h => ?_) | refine cif_ways (fun h => ?_) (fun h => ?_)) <;> (try simp only [decide_eq_true_eq, decide_eq_false_iff_not, Bool.not_eq_true', Bool.not_eq_false', Bool.not_true, Bool.not_false] at h) <;> (try (exfalso; omega)))) <;> (try (simp (disch := omega) only [sx0, sx1, sx2, sx3, sx4, sx5, isBytes, ATy.isAgg, ATy.known, tyb, Nat.reduceAdd, Nat.reduceMul, Nat.reduceEqDiff, Nat.reduceLT, Nat.reduceLeDiff, ↓reduceIte, Option.map_some, Option.bind_some, Option.map_none, Option.isSome_some, Option.isSome_none, Option.isNone_some, Option.isNone_none, Bool.true_or, Bool.or_true, List.length_cons, List.length_nil, List.map_cons, List.map_nil, true_and, and_true, Option.some.injEq, Nat.not_lt_zero, implies_true, List.getElem?_cons_zero, List.getElem?_cons_succ, decide_true, decide_false, Bool.not_true, Bool.not_false, ne_eq, not_false_eq_true, Nat.add_zero, Nat.zero_add, List.all_cons, List.all_nil, Value.oneCell', Bool.and_self, Bool.and_true, Bool.true_and, List.drop_zero, List.drop_succ_cons, List.take_succ_cons, List.take_zero, List.take_nil, List.nil_append, List.cons_append, List.append_nil, List.set_cons_zero, List.set_cons_succ, Int.toNat_natCast, Int.reduceToNat, Bool.false_eq_true, ite_self, beq_self_eq_true, bne_self_eq_false, not_true_eq_false, false_or, or_false, gt_iff_lt, Int.reduceEq, Int.reduceLT, Int.reduceLE, Int.reduceNe, List.forall_mem_cons, List.not_mem_nil, false_implies, forall_const, *])))))
  all_goals simp only [vret_1, vfresh, kfr_own, kfrb_at, vret_2, vret_3, karet_at, karets_at, opt_some, cl_agg, cl_fn, cl_pt, cl_rp, cl1_pt, cl1_rp, cl_ex, cl_sl, cl_own, cls_nil, cls_cons, cl1s_nil, cl1s_cons, cl1_int, cl1_bool, cl1_str, cl1_nil, cl1_sl, cl1_own, z0, p0, upd_at, Nat.reduceEqDiff, ↓reduceIte, Option.bind_some, Option.map_some, List.nil_append, List.append_nil, List.cons_append, tmI_0, tmI_s, hpI_at, AV.ex.injEq, Value.bool.injEq, Value.int.injEq, Value.string.injEq, true_and, and_true, List.all_nil, List.map_nil, List.all_cons, List.map_cons, Bool.and_self, Bool.and_true, List.all_append, List.map_append, Tryd.f15, *]

/-- A mark that the machine can hold. -/
structure MarkV.Wf (m : MarkV) : Prop where
  d0 : -9223372036854775808 ≤ m.day
  d1 : m.day ≤ 9223372036854775807
  u : m.user.size ≤ maxLen
  a : m.action.size ≤ maxLen
  o : m.object.size ≤ maxLen
  c : U64 m.chain
theorem few_ok' {l : List MarkV} (h : fewL l = true) (hw : ∀ m ∈ l, m.Wf) : l.length ≤ 80 ∧ ∀ m ∈ l, m.Ok := by
  unfold fewL at h
  rw [Bool.and_eq_true, decide_eq_true_eq, List.all_eq_true] at h
  refine ⟨h.1, fun m hm => ?_⟩
  have h1 := h.2 m hm
  have h2 := hw m hm
  unfold fewM at h1
  simp only [Bool.and_eq_true, decide_eq_true_eq] at h1
  exact ⟨h2.d0, h2.d1, h1.1.1, h1.1.2, h1.2, h2.c⟩
theorem wf_sizes {l : List MarkV} (hw : ∀ m ∈ l, m.Wf) : ∀ m ∈ l, m.user.size ≤ maxLen ∧ m.action.size ≤ maxLen ∧ m.object.size ≤ maxLen := fun m hm => ⟨(hw m hm).u, (hw m hm).a, (hw m hm).o⟩
end Go.Proofs.YtapghdjbffmifaaDoor
