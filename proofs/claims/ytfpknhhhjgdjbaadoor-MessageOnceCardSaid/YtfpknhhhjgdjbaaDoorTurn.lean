/-
  A row out of the end of a row and its beginning, made by one statement: the operations may come in any order. Conditions: those that the theorem states.
-/
import Derived.Test.YtfpknhhhjgdjbaaDoorCat
namespace Go.Proofs.YtfpknhhhjgdjbaaDoor
open Go.RowKit
set_option maxRecDepth 100000
set_option linter.unusedSimpArgs false

def trnDeps : List (Nat × Nat) := [(3, 1), (3, 2), (4, 0), (4, 3), (7, 5), (7, 6), (8, 4), (8, 7), (9, 8)]
def trnOk (ops : Array Oper) : Bool :=
  ((List.range 10).all fun j => match ops[j]? with
    | none => true
    | some o => (edgesTo o).all fun e => decide (e < j)) &&
  (trnDeps.all fun p => match ops[p.1]? with
    | none => false
    | some o => (edgesTo o).contains p.2)
def tmR (tm : Nat → AV) (s : Nat) (L A B : List (List AV)) (k nx out : Nat) (d : Nat → Bool) : Nat → AV := fun t =>
  if t = s then (if d 0 = true then .own nx else tm t)
  else if t = s + 1 then (if d 1 = true then .sl L else tm t)
  else if t = s + 2 then (if d 2 = true then .ex (.int .i64 k) else tm t)
  else if t = s + 3 then (if d 3 = true then .sl B else tm t)
  else if t = s + 4 then (if d 4 = true then .own (nx + 4) else tm t)
  else if t = s + 5 then (if d 5 = true then .sl L else tm t)
  else if t = s + 6 then (if d 6 = true then .ex (.int .i64 k) else tm t)
  else if t = s + 7 then (if d 7 = true then .sl A else tm t)
  else if t = s + 8 then (if d 8 = true then .own (nx + 8) else tm t)
  else if t = out then (if d 9 = true then .own (nx + 8) else tm t)
  else tm t
def hpR' (hp : Nat → Option Row1) (e : Nat) (A B : List (List AV)) (nx : Nat) (d : Nat → Bool) : Nat → Option Row1 := fun x =>
  if x = nx then (if d 4 = true then none else if d 0 = true then some ⟨e, [], true⟩ else hp x)
  else if x = nx + 4 then (if d 8 = true then none else if d 4 = true then some ⟨e, B, true⟩ else hp x)
  else if x = nx + 8 then (if d 8 = true then some ⟨e, B ++ A, true⟩ else hp x)
  else hp x
theorem tmR_put {tm : Nat → AV} {s : Nat} {L A B : List (List AV)} {k nx out : Nat} (ho : out < s) {d : Nat → Bool} {i t : Nat} {u : AV} (h : (i, t, u) ∈ [(0, s, AV.own nx), (1, s + 1, AV.sl L), (2, s + 2, AV.ex (.int .i64 k)), (3, s + 3, AV.sl B), (4, s + 4, AV.own (nx + 4)), (5, s + 5, AV.sl L), (6, s + 6, AV.ex (.int .i64 k)), (7, s + 7, AV.sl A), (8, s + 8, AV.own (nx + 8)), (9, out, AV.own (nx + 8))]) :
    upd (tmR tm s L A B k nx out d) t u = tmR tm s L A B k nx out fun q => d q || decide (q = i) := by
  funext x
  simp only [List.mem_cons, List.not_mem_nil, or_false, Prod.mk.injEq] at h
  rcases h with ⟨rfl, ht, rfl⟩ | ⟨rfl, ht, rfl⟩ | ⟨rfl, ht, rfl⟩ | ⟨rfl, ht, rfl⟩ | ⟨rfl, ht, rfl⟩ | ⟨rfl, ht, rfl⟩ | ⟨rfl, ht, rfl⟩ | ⟨rfl, ht, rfl⟩ | ⟨rfl, ht, rfl⟩ | ⟨rfl, ht, rfl⟩ <;>
  · by_cases e : x = t
    · rw [e, upd_same, ht]
      simp (disch := omega) only [tmR, if_pos, if_neg, decide_true, Bool.or_true, ↓reduceIte]
    · rw [upd_ne _ _ e]
      have e' := mt (fun h => Eq.trans h ht.symm) e
      simp [tmR, e']
theorem any_trn {P : Program} {C : World → Prop} {K : AS → Prop} {ops : Array Oper} {tm : Nat → AV} {hp : Nat → Option Row1} {nx s tL tK out st e m : Nat} {L : List (List AV)} {k : Nat}
    (h1 : ops.toList.map (fun o => (o.dst, o.op, o.guard)) = [(some s, .buildSlice st 0 #[], none), (some (s + 1), .move (.tmp tL), none), (some (s + 2), .move (.tmp tK), none), (some (s + 3), .slice st (.tmp (s + 1)) (some (.tmp (s + 2))) none none, none),
      (some (s + 4), .call ⟨.builtin .append, #[.tmp s, .tmp (s + 3)], #[st, st]⟩, none), (some (s + 5), .move (.tmp tL), none), (some (s + 6), .move (.tmp tK), none), (some (s + 7), .slice st (.tmp (s + 5)) none (some (.tmp (s + 6))) none, none),
      (some (s + 8), .call ⟨.builtin .append, #[.tmp (s + 4), .tmp (s + 7)], #[st, st]⟩, none), (some out, .assign (.tmp (s + 8)), none)])
    (hok : trnOk ops = true) (ho : out < s) (hL : tL < s) (hK : tK < s) (oL : tL ≠ out) (oK : tK ≠ out) (gL : tm tL = .sl L) (gK : tm tK = .ex (.int .i64 k)) (hk : k ≤ L.length) (hm : L.length ≤ m) (hmb : m * (aty P e).bytes ≤ 140737488355328)
    (ht : (aty P st).k = .slice e) (hz : (aty P e).zero.length = (aty P e).sz ∧ 0 < (aty P e).sz ∧ (aty P e).zero.all (·.oneCell') = true) (hby : 1 ≤ (aty P e).bytes) (hl : ∀ x ∈ L, x.length = (aty P e).sz)
    (hfin : ∀ σ' : AS, σ'.tm out = .own (nx + 8) → (∀ t, t < s → t ≠ out → σ'.tm t = tm t) → σ'.hp (nx + 8) = some ⟨e, L.drop k ++ L.take k, true⟩ → (∀ x, x < nx → σ'.hp x = hp x) → σ'.nx = nx + 10 → K σ') : AnyOk P C ops ⟨tm, hp, nx⟩ K := by
  have hn : ops.size = 10 := by
    have := congrArg List.length h1
    simpa using this
  have at_ := fun {i : Nat} {o : Oper} (ho : ops[i]? = some o) => catAt h1 ho
  simp only [trnOk, Bool.and_eq_true] at hok
  obtain ⟨hbk, hdp⟩ := hok
  have dep : ∀ {i j : Nat} {o : Oper}, (i, j) ∈ trnDeps → ops[i]? = some o → j ∈ edgesTo o := fun {i j o} hm ho => by
    have := List.all_eq_true.1 hdp (i, j) hm
    dsimp only at this
    rw [ho] at this
    exact List.contains_iff_mem.1 this
  generalize hA : L.take k = A at *
  generalize hB : L.drop k = B at *
  have lA : A.length = k := by rw [← hA, List.length_take]; omega
  have lB : B.length + k = L.length := by rw [← hB, List.length_drop]; omega
  have wA : ∀ x ∈ A, x.length = (aty P e).sz := fun x hx => hl x (by rw [← hA] at hx; exact List.mem_of_mem_take hx)
  have wB : ∀ x ∈ B, x.length = (aty P e).sz := fun x hx => hl x (by rw [← hB] at hx; exact List.mem_of_mem_drop hx)
  have fits : ∀ n, n ≤ m → n * (aty P e).bytes ≤ 140737488355328 := fun n hn => Nat.le_trans (Nat.mul_le_mul_right _ hn) hmb
  refine ⟨fun d => ⟨tmR tm s L A B k nx out d, hpR' hp e A B nx d, nx⟩, ?_, fun d => rfl, ?_, ?_, ?_, ?_, ?_, ?_⟩
  · have e1 : tmR tm s L A B k nx out (fun _ => false) = tm := by funext t; simp [tmR]
    have e2 : hpR' hp e A B nx (fun _ => false) = hp := by funext x; simp [hpR']
    show AS.mk (tmR tm s L A B k nx out fun _ => false) (hpR' hp e A B nx fun _ => false) nx = _
    rw [e1, e2]
  · intro q o x ho hx
    have hq : q < 10 := by have := (Array.getElem?_eq_some_iff.1 ho).1; omega
    have h8 := List.all_eq_true.1 hbk q (List.mem_range.2 hq)
    rw [ho] at h8
    exact of_decide_eq_true (List.all_eq_true.1 h8 x hx)
  · intro o ho
    obtain ⟨i, hi⟩ := List.mem_iff_getElem?.1 ho
    rw [Array.getElem?_toList] at hi
    have h2 := at_ hi
    have hi10 : i < 10 := by have := (Array.getElem?_eq_some_iff.1 hi).1; omega
    match i, h2 with
    | 0, h2 | 1, h2 | 2, h2 | 3, h2 | 4, h2 | 5, h2 | 6, h2 | 7, h2 | 8, h2 | 9, h2 => simp only [List.getElem?_cons_zero, List.getElem?_cons_succ, Option.some.injEq, Prod.mk.injEq] at h2; exact h2.2.2.symm
  · intro d i o ho' hdi hee hcl
    have h2 := at_ ho'
    have hi10 : i < 10 := by have := (Array.getElem?_eq_some_iff.1 ho').1; omega
    have hX : ∀ t, t < s → t ≠ out → tmR tm s L A B k nx out d t = tm t := fun t h3 h4 => by
      unfold tmR
      simp (disch := omega) only [if_neg]
    have sl : ∀ (i t : Nat) (u : AV), (i, t, u) ∈ [(0, s, AV.own nx), (1, s + 1, AV.sl L), (2, s + 2, AV.ex (.int .i64 k)), (3, s + 3, AV.sl B), (4, s + 4, AV.own (nx + 4)), (5, s + 5, AV.sl L), (6, s + 6, AV.ex (.int .i64 k)), (7, s + 7, AV.sl A), (8, s + 8, AV.own (nx + 8)), (9, out, AV.own (nx + 8))] → d i = true → tmR tm s L A B k nx out d t = u := fun i t u hm hd => by
      simp only [List.mem_cons, List.not_mem_nil, or_false, Prod.mk.injEq] at hm
      rcases hm with ⟨rfl, ht, hu⟩ | ⟨rfl, ht, hu⟩ | ⟨rfl, ht, hu⟩ | ⟨rfl, ht, hu⟩ | ⟨rfl, ht, hu⟩ | ⟨rfl, ht, hu⟩ | ⟨rfl, ht, hu⟩ | ⟨rfl, ht, hu⟩ | ⟨rfl, ht, hu⟩ | ⟨rfl, ht, hu⟩ <;> (rw [ht, hu]; simp (disch := omega) only [tmR, if_pos, if_neg, hd, ↓reduceIte])
    have cl : ∀ {i j : Nat}, (i, j) ∈ trnDeps → d i = true → d j = true := fun {i j} hm hd => by
      have hi : i < 10 := by
        simp only [trnDeps, List.mem_cons, List.not_mem_nil, or_false, Prod.mk.injEq] at hm
        omega
      exact hcl i _ j hd (Array.getElem?_eq_getElem (by omega)) (dep hm (Array.getElem?_eq_getElem (by omega)))
    have need : ∀ {j : Nat}, (i, j) ∈ trnDeps → d j = true := fun {j} hm => hee j (dep hm ho')
    have fin : ∀ (t : Option Tmp) (u : AV) (h : Nat → Option Row1), (∃ s', t = some s' ∧ (i, s', u) ∈ [(0, s, AV.own nx), (1, s + 1, AV.sl L), (2, s + 2, AV.ex (.int .i64 k)), (3, s + 3, AV.sl B), (4, s + 4, AV.own (nx + 4)), (5, s + 5, AV.sl L), (6, s + 6, AV.ex (.int .i64 k)), (7, s + 7, AV.sl A), (8, s + 8, AV.own (nx + 8)), (9, out, AV.own (nx + 8))]) → h = hpR' hp e A B nx (fun q => d q || decide (q = i)) → ({ (⟨tmR tm s L A B k nx out d, hpR' hp e A B nx d, nx⟩ : AS) with hp := h }.put t u) = ⟨tmR tm s L A B k nx out fun q => d q || decide (q = i), hpR' hp e A B nx fun q => d q || decide (q = i), nx⟩ := fun t u h hm hh => by
      obtain ⟨s', rfl, hm⟩ := hm
      rw [hh]
      show AS.mk (upd (tmR tm s L A B k nx out d) s' u) _ nx = _
      rw [tmR_put ho hm]
    have same : i ≠ 0 → i ≠ 4 → i ≠ 8 → hpR' hp e A B nx d = hpR' hp e A B nx (fun q => d q || decide (q = i)) := fun a0 a4 a8 => by
      funext x
      simp [hpR', Ne.symm a0, Ne.symm a4, Ne.symm a8]
    obtain ⟨odst, oop, oty, opos, oafter, oguard⟩ := o
    dsimp only at h2 ⊢
    rcases (show i = 0 ∨ i = 1 ∨ i = 2 ∨ i = 3 ∨ i = 4 ∨ i = 5 ∨ i = 6 ∨ i = 7 ∨ i = 8 ∨ i = 9 by omega) with rfl | rfl | rfl | rfl | rfl | rfl | rfl | rfl | rfl | rfl
    · simp only [List.getElem?_cons_zero, List.getElem?_cons_succ, Option.some.injEq, Prod.mk.injEq] at h2
      obtain ⟨rfl, rfl, rfl⟩ := h2
      refine av_build0 ht hz ?_
      refine fin _ _ _ ⟨_, rfl, by simp⟩ ?_
      have d4 : d 4 = false := by cases h : d 4 with
        | false => rfl
        | true => rw [cl (i := 4) (j := 0) (by decide) h] at hdi; cases hdi
      funext x
      show upd (hpR' hp e A B nx d) (nx + 0) _ x = _
      by_cases hx : x = nx + 0
      · rw [hx, upd_same]; simp [hpR', d4]
      · rw [upd_ne _ _ hx]; have hx' : ¬ x = nx := hx; simp [hpR', hx']
    · simp only [List.getElem?_cons_zero, List.getElem?_cons_succ, Option.some.injEq, Prod.mk.injEq] at h2
      obtain ⟨rfl, rfl, rfl⟩ := h2
      refine av_move (hX tL hL oL |>.trans gL) ?_
      exact fin _ _ _ ⟨_, rfl, by simp⟩ (same (by decide) (by decide) (by decide))
    · simp only [List.getElem?_cons_zero, List.getElem?_cons_succ, Option.some.injEq, Prod.mk.injEq] at h2
      obtain ⟨rfl, rfl, rfl⟩ := h2
      refine av_move (hX tK hK oK |>.trans gK) ?_
      exact fin _ _ _ ⟨_, rfl, by simp⟩ (same (by decide) (by decide) (by decide))
    · simp only [List.getElem?_cons_zero, List.getElem?_cons_succ, Option.some.injEq, Prod.mk.injEq] at h2
      obtain ⟨rfl, rfl, rfl⟩ := h2
      refine av_lo (es := L) (n := k) ht hz.2.1 (sl 1 _ _ (by simp) (need (by decide))) hl (sl 2 _ _ (by simp) (need (by decide))) hk ?_
      rw [hB]
      exact fin _ _ _ ⟨_, rfl, by simp⟩ (same (by decide) (by decide) (by decide))
    · simp only [List.getElem?_cons_zero, List.getElem?_cons_succ, Option.some.injEq, Prod.mk.injEq] at h2
      obtain ⟨rfl, rfl, rfl⟩ := h2
      have d0 : d 0 = true := need (by decide)
      have d8 : d 8 = false := by cases h : d 8 with
        | false => rfl
        | true => rw [cl (i := 8) (j := 4) (by decide) h] at hdi; cases hdi
      refine av_app (b := nx) (es := []) (ns := B) (u := .sl B) ht rfl ⟨hz.1, hz.2.1, hby⟩ wB (sl 0 _ _ (by simp) d0) (by simp [hpR', hdi, d0]) (sl 3 _ _ (by simp) (need (by decide))) rfl (.inr (.inr ⟨_, rfl⟩)) (fits _ (by simp; omega)) ?_
      refine fin _ _ _ ⟨_, rfl, by simp⟩ ?_
      funext x
      show upd (upd (hpR' hp e A B nx d) nx none) (nx + 4) (some ⟨e, [] ++ B, true⟩) x = _
      rw [List.nil_append]
      by_cases hx : x = nx + 4
      · rw [hx, upd_same]; simp [hpR', d8]
      · rw [upd_ne _ _ hx]
        by_cases hx0 : x = nx
        · rw [hx0, upd_same]; simp [hpR']
        · rw [upd_ne _ _ hx0]; simp [hpR', hx, hx0]
    · simp only [List.getElem?_cons_zero, List.getElem?_cons_succ, Option.some.injEq, Prod.mk.injEq] at h2
      obtain ⟨rfl, rfl, rfl⟩ := h2
      refine av_move (hX tL hL oL |>.trans gL) ?_
      exact fin _ _ _ ⟨_, rfl, by simp⟩ (same (by decide) (by decide) (by decide))
    · simp only [List.getElem?_cons_zero, List.getElem?_cons_succ, Option.some.injEq, Prod.mk.injEq] at h2
      obtain ⟨rfl, rfl, rfl⟩ := h2
      refine av_move (hX tK hK oK |>.trans gK) ?_
      exact fin _ _ _ ⟨_, rfl, by simp⟩ (same (by decide) (by decide) (by decide))
    · simp only [List.getElem?_cons_zero, List.getElem?_cons_succ, Option.some.injEq, Prod.mk.injEq] at h2
      obtain ⟨rfl, rfl, rfl⟩ := h2
      refine av_hi (es := L) (n := k) ht hz.2.1 (sl 5 _ _ (by simp) (need (by decide))) hl (sl 6 _ _ (by simp) (need (by decide))) hk ?_
      rw [hA]
      exact fin _ _ _ ⟨_, rfl, by simp⟩ (same (by decide) (by decide) (by decide))
    · simp only [List.getElem?_cons_zero, List.getElem?_cons_succ, Option.some.injEq, Prod.mk.injEq] at h2
      obtain ⟨rfl, rfl, rfl⟩ := h2
      have d4 : d 4 = true := need (by decide)
      have d7 : d 7 = true := need (by decide)
      refine av_app (b := nx + 4) (es := B) (ns := A) (u := .sl A) ht rfl ⟨hz.1, hz.2.1, hby⟩ wA (sl 4 _ _ (by simp) d4) (by simp [hpR', hdi, d4]) (sl 7 _ _ (by simp) d7) rfl (.inr (.inr ⟨_, rfl⟩)) (fits _ (by omega)) ?_
      refine fin _ _ _ ⟨_, rfl, by simp⟩ ?_
      funext x
      show upd (upd (hpR' hp e A B nx d) (nx + 4) none) (nx + 8) (some ⟨e, B ++ A, true⟩) x = _
      by_cases hx : x = nx + 8
      · rw [hx, upd_same]; simp [hpR']
      · rw [upd_ne _ _ hx]
        by_cases hx0 : x = nx + 4
        · rw [hx0, upd_same]; simp [hpR']
        · rw [upd_ne _ _ hx0]; simp [hpR', hx, hx0]
    · simp only [List.getElem?_cons_zero, List.getElem?_cons_succ, Option.some.injEq, Prod.mk.injEq] at h2
      obtain ⟨rfl, rfl, rfl⟩ := h2
      refine av_assign (u := .own (nx + 8)) (sl 8 _ _ (by simp) (need (by decide))) ?_
      exact fin _ _ _ ⟨_, rfl, by simp⟩ (same (by decide) (by decide) (by decide))
  · intro t ht'
    have hw : (ops.toList.filterMap (·.dst)) = [s, s + 1, s + 2, s + 3, s + 4, s + 5, s + 6, s + 7, s + 8, out] := by
      have := congrArg (List.filterMap fun x : Option Tmp × Op × Option (Nat × Bool) => x.1) h1
      rw [List.filterMap_map] at this
      simpa [Function.comp_def] using this
    rw [hw] at ht'
    simp only [List.mem_cons, List.not_mem_nil, or_false, not_or] at ht'
    obtain ⟨w0, w1, w2, w3, w4, w5, w6, w7, w8, w9⟩ := ht'
    simp [tmR, w0, w1, w2, w3, w4, w5, w6, w7, w8, w9]
  · intro x hx h0
    rw [hn] at hx
    show hpR' hp e A B nx (fun q => decide (q < ops.size)) x = none
    dsimp only at hx
    unfold hpR'
    rw [if_neg (by omega), if_neg (by omega), if_neg (by omega)]
    exact h0
  · refine hfin _ ?_ ?_ ?_ ?_ ?_
    · show tmR tm s L A B k nx out (fun q => decide (q < ops.size)) out = _
      unfold tmR
      simp (disch := omega) only [if_neg, if_pos, hn]
      simp
    · intro t h2 h3
      show tmR tm s L A B k nx out (fun q => decide (q < ops.size)) t = _
      unfold tmR
      simp (disch := omega) only [if_neg]
    · show hpR' hp e A B nx (fun q => decide (q < ops.size)) (nx + 8) = _
      unfold hpR'
      simp (disch := omega) only [if_neg, if_pos, hn]
      simp
    · intro x hx
      show hpR' hp e A B nx (fun q => decide (q < ops.size)) x = _
      unfold hpR'
      simp (disch := omega) only [if_neg]
    · show nx + ops.size = _
      rw [hn]
end Go.Proofs.YtfpknhhhjgdjbaaDoor
