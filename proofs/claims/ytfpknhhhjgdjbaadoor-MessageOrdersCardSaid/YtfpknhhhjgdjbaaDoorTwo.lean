/-
  Two cells of a struct, copied by one assignment: the operations may come in any order. Conditions: those that the theorem states.
-/
import Derived.Test.YtfpknhhhjgdjbaaDoorGEv
namespace Go.Proofs.YtfpknhhhjgdjbaaDoor
open Go.RowKit
set_option maxRecDepth 100000
set_option linter.unusedSimpArgs false

def twoOk (ops : Array Oper) : Bool :=
  ((List.range 8).all fun j => match ops[j]? with
    | none => true
    | some o => (edgesTo o).all fun e => decide (e < j)) &&
  ([(1, 0), (3, 2), (5, 1), (5, 4), (7, 3), (7, 6), (7, 5)].all fun p => match ops[p.1]? with
    | none => false
    | some o => (edgesTo o).contains p.2)
section
variable {P : Program} {C : World → Prop}
theorem av_fa {ev : Operand → AV} {hp : Nat → Option Row1} {k : AV → Eff → Prop} {i s f ty b j off o ft : Nat} {x : Operand} (h : ev x = .pt b j off) (hF : (aty P s).flds[f]? = some (o, ft)) (hz : (aty P ft).sz ≠ 0) {off' : Nat} (ho : off + o = off') (hk : k (.pt b j off') .none) : aval P C i (.fieldAddr s x f) ty ev hp k := by
  unfold aval
  dsimp only
  rw [h]
  subst ho
  exact ⟨o, ft, hF, hz, hk⟩
theorem av_load {ev : Operand → AV} {hp : Nat → Option Row1} {k : AV → Eff → Prop} {i t ty b j off : Nat} {x : Operand} {β : Row1} {e : List AV} {u : AV} (h : ev x = .pt b j off) (h1 : hp b = some β) (h2 : β.es[j]? = some e) (hZ : (aty P t).isAgg = false ∧ (aty P t).known = true) (h3 : e[off]? = some u) (hk : k u .none) : aval P C i (.load t x) ty ev hp k := by
  unfold aval
  dsimp only
  rw [h]
  refine ⟨β, e, h1, h2, ?_⟩
  unfold ldCell
  rw [if_neg (by rw [hZ.1]; simp)]
  exact ⟨hZ.2, u, h3, hk⟩
theorem av_store {ev : Operand → AV} {hp : Nat → Option Row1} {k : AV → Eff → Prop} {i t ty b off E : Nat} {x v : Operand} {r : List AV} {u : AV} (h : ev x = .pt b 0 off) (h1 : hp b = some ⟨E, [r], true⟩) (hv : ev v = u) (hc : u.cells = some [u]) (hZ : (aty P t).sz = 1) (hl : off < r.length) (hk : k .junk (.set b ⟨E, [r.set off u], true⟩)) : aval P C i (.store t x v) ty ev hp k := by
  unfold aval
  dsimp only
  rw [h, hv]
  refine ⟨_, r, [u], h1, rfl, rfl, hc, ⟨by rw [hZ]; rfl, Nat.zero_lt_succ _, by show off + 1 ≤ _; omega⟩, ?_⟩
  show k .junk (.set b ⟨E, [r.take off ++ [u] ++ r.drop (off + 1)], true⟩)
  rw [show r.take off ++ [u] ++ r.drop (off + 1) = r.set off u by rw [List.set_eq_take_append_cons_drop, if_pos hl, List.append_assoc]; rfl]
  exact hk
theorem v_two {id : Nat} {Q : Exit → AS → Prop} {tm : Nat → AV} {hp : Nat → Option Row1} {nx : Nat} {E t0 t9 f0 f9 c0 c9 s0 s1 s2 s3 s4 s6 tX tY bX bY y0 y1 y2 y3 y4 y5 y6 y7 : Nat} {p0 p1 p2 p3 p4 p5 p6 p7 : String} {a0 a1 a2 a3 a4 a5 a6 a7 : Array Edge}
    {rx ry : List AV} {EX EY : Nat} {mX : Bool} {x0 x9 : AV}
    (hok : twoOk [⟨some s0, .fieldAddr E (.tmp tX) f0, y0, p0, a0, none⟩, ⟨some s1, .load t0 (.tmp s0), y1, p1, a1, none⟩, ⟨some s2, .fieldAddr E (.tmp tX) f9, y2, p2, a2, none⟩, ⟨some s3, .load t9 (.tmp s2), y3, p3, a3, none⟩, ⟨some s4, .fieldAddr E (.tmp tY) f0, y4, p4, a4, none⟩, ⟨none, .store t0 (.tmp s4) (.tmp s1), y5, p5, a5, none⟩, ⟨some s6, .fieldAddr E (.tmp tY) f9, y6, p6, a6, none⟩, ⟨none, .store t9 (.tmp s6) (.tmp s3), y7, p7, a7, none⟩].toArray = true)
    (hnd : [s0, s1, s2, s3, s4, s6, tX, tY].Nodup) (hX : tm tX = .pt bX 0 0) (hY : tm tY = .pt bY 0 0) (hx : hp bX = some ⟨EX, [rx], mX⟩) (hy : hp bY = some ⟨EY, [ry], true⟩) (hne : bX ≠ bY)
    (hF0 : (aty P E).flds[f0]? = some (c0, t0)) (hF9 : (aty P E).flds[f9]? = some (c9, t9)) (hZ0 : (aty P t0).sz = 1 ∧ (aty P t0).isAgg = false ∧ (aty P t0).known = true) (hZ9 : (aty P t9).sz = 1 ∧ (aty P t9).isAgg = false ∧ (aty P t9).known = true)
    (hx0 : rx[c0]? = some x0) (hx9 : rx[c9]? = some x9) (hc0 : x0.cells = some [x0]) (hc9 : x9.cells = some [x9]) (hl0 : c0 < ry.length) (hl9 : c9 < ry.length) {r1 r2 : List AV} (hr1 : ry.set c0 x0 = r1) (hr2 : r1.set c9 x9 = r2)
    (h : Q .normal ⟨upd (upd (upd (upd (upd (upd tm s0 (.pt bX 0 c0)) s1 x0) s2 (.pt bX 0 c9)) s3 x9) s4 (.pt bY 0 c0)) s6 (.pt bY 0 c9), upd hp bY (some ⟨EY, [r2], true⟩), nx + 8⟩) :
    awp P C (.region id [⟨some s0, .fieldAddr E (.tmp tX) f0, y0, p0, a0, none⟩, ⟨some s1, .load t0 (.tmp s0), y1, p1, a1, none⟩, ⟨some s2, .fieldAddr E (.tmp tX) f9, y2, p2, a2, none⟩, ⟨some s3, .load t9 (.tmp s2), y3, p3, a3, none⟩, ⟨some s4, .fieldAddr E (.tmp tY) f0, y4, p4, a4, none⟩, ⟨none, .store t0 (.tmp s4) (.tmp s1), y5, p5, a5, none⟩, ⟨some s6, .fieldAddr E (.tmp tY) f9, y6, p6, a6, none⟩, ⟨none, .store t9 (.tmp s6) (.tmp s3), y7, p7, a7, none⟩].toArray true) Q ⟨tm, hp, nx⟩ := by
  simp only [twoOk, List.all_cons, List.all_nil, Bool.and_true, Bool.and_eq_true, List.getElem?_toArray, List.getElem?_cons_zero, List.getElem?_cons_succ, List.contains_iff_mem] at hok
  obtain ⟨hbk, e10, e32, e51, e54, e73, e76, e75⟩ := hok
  simp only [List.nodup_cons, List.mem_cons, List.not_mem_nil, or_false, not_or, List.nodup_nil, and_true] at hnd
  obtain ⟨⟨n01, n02, n03, n04, n06, n0X, n0Y⟩, ⟨n12, n13, n14, n16, n1X, n1Y⟩, ⟨n23, n24, n26, n2X, n2Y⟩, ⟨n34, n36, n3X, n3Y⟩, ⟨n46, n4X, n4Y⟩, ⟨n6X, n6Y⟩, nXY, _⟩ := hnd
  let tmT : (Nat → Bool) → Nat → AV := fun d t => if t = s0 then (if d 0 = true then .pt bX 0 c0 else tm t) else if t = s1 then (if d 1 = true then x0 else tm t) else if t = s2 then (if d 2 = true then .pt bX 0 c9 else tm t) else if t = s3 then (if d 3 = true then x9 else tm t) else if t = s4 then (if d 4 = true then .pt bY 0 c0 else tm t) else if t = s6 then (if d 6 = true then .pt bY 0 c9 else tm t) else tm t
  let hpT : (Nat → Bool) → Nat → Option Row1 := fun d => if d 7 = true then upd hp bY (some ⟨EY, [r2], true⟩) else if d 5 = true then upd hp bY (some ⟨EY, [r1], true⟩) else hp
  have hpX : ∀ d, hpT d bX = some ⟨EX, [rx], mX⟩ := fun d => by
    show (if d 7 = true then _ else _ : Nat → Option Row1) bX = _
    split
    · exact (upd_ne _ _ hne).trans hx
    · split
      · exact (upd_ne _ _ hne).trans hx
      · exact hx
  have tX' : ∀ d, tmT d tX = .pt bX 0 0 := fun d => by
    show (if tX = s0 then _ else _) = _
    rw [if_neg (Ne.symm n0X), if_neg (Ne.symm n1X), if_neg (Ne.symm n2X), if_neg (Ne.symm n3X), if_neg (Ne.symm n4X), if_neg (Ne.symm n6X)]; exact hX
  have tY' : ∀ d, tmT d tY = .pt bY 0 0 := fun d => by
    show (if tY = s0 then _ else _) = _
    rw [if_neg (Ne.symm n0Y), if_neg (Ne.symm n1Y), if_neg (Ne.symm n2Y), if_neg (Ne.symm n3Y), if_neg (Ne.symm n4Y), if_neg (Ne.symm n6Y)]; exact hY
  have tm_put : ∀ (d : Nat → Bool) (i s : Nat) (v : AV), (i, s, v) ∈ [(0, s0, AV.pt bX 0 c0), (1, s1, x0), (2, s2, AV.pt bX 0 c9), (3, s3, x9), (4, s4, AV.pt bY 0 c0), (6, s6, AV.pt bY 0 c9)] → upd (tmT d) s v = tmT fun q => d q || decide (q = i) := by
    intro d i s v hm
    simp only [List.mem_cons, List.not_mem_nil, or_false, Prod.mk.injEq] at hm
    funext t
    rcases hm with ⟨rfl, rfl, rfl⟩ | ⟨rfl, rfl, rfl⟩ | ⟨rfl, rfl, rfl⟩ | ⟨rfl, rfl, rfl⟩ | ⟨rfl, rfl, rfl⟩ | ⟨rfl, rfl, rfl⟩ <;>
    · by_cases e : t = s
      · subst e
        rw [upd_same]
        simp [tmT, *, Ne.symm n01, Ne.symm n02, Ne.symm n03, Ne.symm n04, Ne.symm n06, Ne.symm n12, Ne.symm n13, Ne.symm n14, Ne.symm n16, Ne.symm n23, Ne.symm n24, Ne.symm n26, Ne.symm n34, Ne.symm n36, Ne.symm n46]
      · rw [upd_ne _ _ e]
        simp [tmT, e]
  have hp_same : ∀ (d : Nat → Bool) (i : Nat), i ≠ 5 → i ≠ 7 → hpT (fun q => d q || decide (q = i)) = hpT d := fun d i h5 h7 => by simp [hpT, Ne.symm h5, Ne.symm h7]
  have tm_same : ∀ (d : Nat → Bool) (i : Nat), i = 5 ∨ i = 7 → tmT (fun q => d q || decide (q = i)) = tmT d := fun d i h => by
    funext t
    rcases h with rfl | rfl <;> simp [tmT]
  refine awp_any ⟨fun d => ⟨tmT d, hpT d, nx⟩, ?_, fun d => rfl, ?_, ?_, ?_, ?_, ?_, ?_⟩
  · have e1 : tmT (fun _ => false) = tm := by funext t; simp [tmT]
    have e2 : hpT (fun _ => false) = hp := by simp [hpT]
    show AS.mk (tmT fun _ => false) (hpT fun _ => false) nx = _
    rw [e1, e2]
  · intro q o e ho he
    rw [List.getElem?_toArray] at ho
    have hq : q < 8 := by have := (List.getElem?_eq_some_iff.1 ho).1; simpa using this
    have h8 := List.all_eq_true.1 hbk q (List.mem_range.2 hq)
    rw [ho] at h8
    exact of_decide_eq_true (List.all_eq_true.1 h8 e he)
  · intro o ho
    simp only [List.mem_cons, List.not_mem_nil, or_false] at ho
    rcases ho with rfl | rfl | rfl | rfl | rfl | rfl | rfl | rfl <;> rfl
  · intro d i o ho hdi hee hcl
    rw [List.getElem?_toArray] at ho
    have fin : ∀ (i s : Nat) (v : AV), (i, s, v) ∈ [(0, s0, AV.pt bX 0 c0), (1, s1, x0), (2, s2, AV.pt bX 0 c9), (3, s3, x9), (4, s4, AV.pt bY 0 c0), (6, s6, AV.pt bY 0 c9)] → i ≠ 5 → i ≠ 7 → AS.mk (upd (tmT d) s v) (hpT d) nx = AS.mk (tmT fun q => d q || decide (q = i)) (hpT fun q => d q || decide (q = i)) nx := fun i s v hm h5 h7 => by rw [tm_put d i s v hm, hp_same d i h5 h7]
    match i, ho, hdi with
    | 0, ho, _ =>
      cases ho
      refine av_fa (tX' d) hF0 (by rw [hZ0.1]; exact Nat.one_ne_zero) (Nat.zero_add _) ?_
      exact fin 0 s0 _ (by simp) (by decide) (by decide)
    | 1, ho, _ =>
      cases ho
      have d0 := hee 0 e10
      refine av_load (show tmT d s0 = .pt bX 0 c0 by simp [tmT, d0]) (hpX d) rfl hZ0.2 hx0 ?_
      exact fin 1 s1 _ (by simp) (by decide) (by decide)
    | 2, ho, _ =>
      cases ho
      refine av_fa (tX' d) hF9 (by rw [hZ9.1]; exact Nat.one_ne_zero) (Nat.zero_add _) ?_
      exact fin 2 s2 _ (by simp) (by decide) (by decide)
    | 3, ho, _ =>
      cases ho
      have d2 := hee 2 e32
      refine av_load (show tmT d s2 = .pt bX 0 c9 by simp [tmT, d2, Ne.symm n02, Ne.symm n12]) (hpX d) rfl hZ9.2 hx9 ?_
      exact fin 3 s3 _ (by simp) (by decide) (by decide)
    | 4, ho, _ =>
      cases ho
      refine av_fa (tY' d) hF0 (by rw [hZ0.1]; exact Nat.one_ne_zero) (Nat.zero_add _) ?_
      exact fin 4 s4 _ (by simp) (by decide) (by decide)
    | 5, ho, hdi =>
      cases ho
      have d1 := hee 1 e51
      have d4 := hee 4 e54
      have d7 : d 7 = false := by
        cases h7 : d 7 with
        | false => rfl
        | true => rw [hcl 7 _ 5 h7 rfl e75] at hdi; cases hdi
      refine av_store (show tmT d s4 = .pt bY 0 c0 by simp [tmT, d4, Ne.symm n04, Ne.symm n14, Ne.symm n24, Ne.symm n34]) (show hpT d bY = _ by simp only [hpT, d7, hdi]; exact hy) (show tmT d s1 = x0 by simp [tmT, d1, Ne.symm n01]) hc0 hZ0.1 hl0 ?_
      rw [hr1]
      show AS.mk (tmT d) (upd (hpT d) bY _) nx = AS.mk (tmT fun q => d q || decide (q = 5)) (hpT fun q => d q || decide (q = 5)) nx
      rw [tm_same d 5 (.inl rfl), show hpT d = hp by simp [hpT, d7, hdi], show hpT (fun q => d q || decide (q = 5)) = upd hp bY (some ⟨EY, [r1], true⟩) by simp [hpT, d7]]
    | 6, ho, _ =>
      cases ho
      refine av_fa (tY' d) hF9 (by rw [hZ9.1]; exact Nat.one_ne_zero) (Nat.zero_add _) ?_
      exact fin 6 s6 _ (by simp) (by decide) (by decide)
    | 7, ho, hdi =>
      cases ho
      have d3 := hee 3 e73
      have d6 := hee 6 e76
      have d5 := hee 5 e75
      refine av_store (show tmT d s6 = .pt bY 0 c9 by simp [tmT, d6, Ne.symm n06, Ne.symm n16, Ne.symm n26, Ne.symm n36, Ne.symm n46]) (show hpT d bY = some ⟨EY, [r1], true⟩ by simp only [hpT, d5, hdi]; exact upd_same _ _ _) (show tmT d s3 = x9 by simp [tmT, d3, Ne.symm n03, Ne.symm n13, Ne.symm n23]) hc9 hZ9.1 (by rw [← hr1, List.length_set]; exact hl9) ?_
      rw [hr2]
      show AS.mk (tmT d) (upd (hpT d) bY _) nx = AS.mk (tmT fun q => d q || decide (q = 7)) (hpT fun q => d q || decide (q = 7)) nx
      rw [tm_same d 7 (.inr rfl), show hpT d = upd hp bY (some ⟨EY, [r1], true⟩) by simp [hpT, d5, hdi], show hpT (fun q => d q || decide (q = 7)) = upd hp bY (some ⟨EY, [r2], true⟩) by simp [hpT]]
      congr 1
      funext x
      by_cases e : x = bY
      · subst e; rw [upd_same, upd_same]
      · rw [upd_ne _ _ e, upd_ne _ _ e, upd_ne _ _ e]
    | n + 8, ho, _ => exact absurd ho (by simp)
  · intro t ht
    simp only [List.filterMap_cons, List.filterMap_nil, List.mem_cons, List.not_mem_nil, or_false, not_or] at ht
    obtain ⟨g0, g1, g2, g3, g4, g6⟩ := ht
    simp [tmT, g0, g1, g2, g3, g4, g6]
  · intro x _ h0
    have h0 : hp x = none := h0
    have e : x ≠ bY := fun e => by rw [e, hy] at h0; cases h0
    show hpT (fun q => decide (q < 8)) x = _
    rw [show hpT (fun q => decide (q < 8)) = upd hp bY (some ⟨EY, [r2], true⟩) by simp [hpT], upd_ne _ _ e]; exact h0
  · have e1 : tmT (fun q => decide (q < 8)) = upd (upd (upd (upd (upd (upd tm s0 (.pt bX 0 c0)) s1 x0) s2 (.pt bX 0 c9)) s3 x9) s4 (.pt bY 0 c0)) s6 (.pt bY 0 c9) := by
      funext t
      by_cases g6 : t = s6
      · subst g6; rw [upd_same]; simp [tmT, Ne.symm n06, Ne.symm n16, Ne.symm n26, Ne.symm n36, Ne.symm n46]
      rw [upd_ne _ _ g6]
      by_cases g4 : t = s4
      · subst g4; rw [upd_same]; simp [tmT, Ne.symm n04, Ne.symm n14, Ne.symm n24, Ne.symm n34]
      rw [upd_ne _ _ g4]
      by_cases g3 : t = s3
      · subst g3; rw [upd_same]; simp [tmT, Ne.symm n03, Ne.symm n13, Ne.symm n23]
      rw [upd_ne _ _ g3]
      by_cases g2 : t = s2
      · subst g2; rw [upd_same]; simp [tmT, Ne.symm n02, Ne.symm n12]
      rw [upd_ne _ _ g2]
      by_cases g1 : t = s1
      · subst g1; rw [upd_same]; simp [tmT, Ne.symm n01]
      rw [upd_ne _ _ g1]
      by_cases g0 : t = s0
      · subst g0; rw [upd_same]; simp [tmT]
      rw [upd_ne _ _ g0]
      simp [tmT, g0, g1, g2, g3, g4, g6]
    have e2 : hpT (fun q => decide (q < 8)) = upd hp bY (some ⟨EY, [r2], true⟩) := by simp [hpT]
    show Q .normal ⟨tmT fun q => decide (q < 8), hpT fun q => decide (q < 8), nx + 8⟩
    rw [e1, e2]
    exact h
end
end Go.Proofs.YtfpknhhhjgdjbaaDoor
