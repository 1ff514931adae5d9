/-
  A row out of a part of a row, one element and the rest, made by one statement: the operations may come in any order. Conditions: those that the theorem states.
-/
import Derived.Test.YtfpknhhhjgdjbaaDoorTwo
import Derived.Test.YtfpknhhhjgdjbaaDoorGCon
namespace Go.Proofs.YtfpknhhhjgdjbaaDoor
open Go.RowKit
set_option maxRecDepth 100000
set_option linter.unusedSimpArgs false

section
variable {P : Program} {C : World → Prop} {ev : Operand → AV} {hp : Nat → Option Row1} {k : AV → Eff → Prop}
theorem av_move {i ty : Nat} {x : Operand} {u : AV} (h : ev x = u) (hk : k u .none) : aval P C i (.move x) ty ev hp k := by
  unfold aval
  dsimp only
  rw [h]
  exact hk
theorem av_assign {i ty t : Nat} {u : AV} (h : ev (.tmp t) = u) (hk : k u .none) : aval P C i (.assign (.tmp t)) ty ev hp k := by
  unfold aval
  dsimp only [nilConst]
  rw [h]
  exact hk
theorem av_build0 {i ty t e : Nat} (ht : (aty P t).k = .slice e) (hz : (aty P e).zero.length = (aty P e).sz ∧ 0 < (aty P e).sz ∧ (aty P e).zero.all (·.oneCell') = true) (hk : k (.own i) (.new ⟨e, [], true⟩)) : aval P C i (.buildSlice t 0 #[]) ty ev hp k := by
  unfold aval
  dsimp only
  rw [ht]
  exact ⟨⟨hz.1, hz.2.1, by omega, hz.2.2⟩, ⟨rfl, rfl⟩, .inl hk⟩
theorem av_build1 {i ty t e : Nat} {x : Operand} {r : List AV} (ht : (aty P t).k = .slice e) (hz : (aty P e).zero.length = (aty P e).sz ∧ 0 < (aty P e).sz ∧ (aty P e).zero.all (·.oneCell') = true) (hs : (aty P e).sz ≤ 16777216) (h : ev x = .agg r) (hr : r.length = (aty P e).sz) (hk : k (.own i) (.new ⟨e, [r], true⟩)) : aval P C i (.buildSlice t 1 #[(0, x)]) ty ev hp k := by
  unfold aval
  dsimp only
  rw [ht]
  refine ⟨⟨hz.1, hz.2.1, by omega, hz.2.2⟩, ⟨rfl, ?_⟩, .inl ?_⟩
  · simp [h, AV.cells, hr]
  · simpa [h, AV.cells] using hk
theorem av_hi {i ty t e : Nat} {x y : Operand} {es : List (List AV)} {n : Nat} (ht : (aty P t).k = .slice e) (hz : 0 < (aty P e).sz) (h : ev x = .sl es) (hl : ∀ x ∈ es, x.length = (aty P e).sz) (hy : ev y = .ex (.int .i64 n)) (hn : n ≤ es.length) (hk : k (.sl (es.take n)) .none) : aval P C i (.slice t x none (some y) none) ty ev hp k := by
  unfold aval opSlice
  dsimp only
  rw [ht, h]
  refine ⟨⟨hz, fun _ => rfl, hl⟩, _, _, hy, by omega, by omega, by omega, Nat.le_refl _, ?_⟩
  rw [List.drop_zero, show (n : Int).toNat = n by omega]
  exact hk
theorem av_lo {i ty t e : Nat} {x y : Operand} {es : List (List AV)} {n : Nat} (ht : (aty P t).k = .slice e) (hz : 0 < (aty P e).sz) (h : ev x = .sl es) (hl : ∀ x ∈ es, x.length = (aty P e).sz) (hy : ev y = .ex (.int .i64 n)) (hn : n ≤ es.length) (hk : k (.sl (es.drop n)) .none) : aval P C i (.slice t x (some y) none none) ty ev hp k := by
  unfold aval opSlice
  dsimp only
  rw [ht, h]
  refine ⟨⟨hz, fun _ => rfl, hl⟩, _, _, hy, by omega, by omega, Nat.le_refl _, Nat.le_refl _, ?_⟩
  rw [List.take_length, show (n : Int).toNat = n by omega]
  exact hk
theorem av_app {i ty t t2 e b : Nat} {s x : Operand} {es ns : List (List AV)} {u : AV} (ht : (aty P t).k = .slice e) (ht2 : t2 = t) (hz : (aty P e).zero.length = (aty P e).sz ∧ 0 < (aty P e).sz ∧ 1 ≤ (aty P e).bytes) (hl : ∀ n ∈ ns, n.length = (aty P e).sz) (h : ev s = .own b) (hb : hp b = some ⟨e, es, true⟩) (hx : ev x = u) (hu : rdSl hp u = some ns) (hn : u = .own i ∨ (∃ b2, u = .own b2) ∨ ∃ l, u = .sl l)
    (hsz : (es.length + ns.length) * (aty P e).bytes ≤ 140737488355328) (hk : k (.own i) (.grow b ⟨e, es ++ ns, true⟩)) : aval P C i (.call ⟨.builtin .append, #[s, x], #[t, t2]⟩) ty ev hp k := by
  subst ht2
  have e1 : (match u with | .ex (.string q) => False | _ => True) := by rcases hn with rfl | ⟨b2, rfl⟩ | ⟨l, rfl⟩ <;> trivial
  unfold aval
  dsimp only
  rw [ht, hx]
  rcases hn with rfl | ⟨b2, rfl⟩ | ⟨l, rfl⟩ <;>
  · refine ⟨rfl, ns, hu, ⟨hz.1, hz.2.1, hz.2.2, hl⟩, ?_⟩
    rw [h]
    exact ⟨_, hb, rfl, rfl, hsz, hk⟩
theorem av_add {i ty t t2 : Nat} {x : Operand} {n : Nat} (h : ev x = .ex (.int .i64 n)) (h1 : ev (.const (.int .i64 1)) = .ex (.int .i64 1)) (hn : n ≤ 1000000) (hk : k (.ex (.int .i64 ((n + 1 : Nat) : Int))) .none) : aval P C i (.binOp .add t x (.const (.int .i64 1)) t2) ty ev hp k := by
  unfold aval opBin
  dsimp only
  rw [h, h1]
  refine ⟨rfl, ?_⟩
  unfold opInt
  dsimp only
  rw [show IntKind.i64.wrap ((n : Int) + 1) = ((n + 1 : Nat) : Int) by unfold IntKind.wrap; simp [IntKind.signed, IntKind.bits]; omega]
  exact hk
theorem av_loada {i t ty b : Nat} {x : Operand} {E : Nat} {m : Bool} {r : List AV} (h : ev x = .pt b 0 0) (h1 : hp b = some ⟨E, [r], m⟩) (hZ : (aty P t).isAgg = true ∧ 0 < (aty P t).sz ∧ r.length = (aty P t).sz) (hk : k (.agg r) .none) : aval P C i (.load t x) ty ev hp k := by
  unfold aval
  dsimp only
  rw [h]
  refine ⟨_, r, h1, rfl, ?_⟩
  unfold ldCell
  rw [if_pos hZ.1]
  refine ⟨⟨hZ.2.1, by omega⟩, ?_⟩
  rw [List.drop_zero, List.take_of_length_le (by omega)]
  exact hk
end
def catDeps : List (Nat × Nat) := [(3, 1), (3, 2), (4, 0), (4, 3), (6, 5), (7, 4), (7, 6), (10, 9), (11, 8), (11, 10), (12, 7), (12, 11), (13, 12)]
def catOk (ops : Array Oper) : Bool :=
  ((List.range 14).all fun j => match ops[j]? with
    | none => true
    | some o => (edgesTo o).all fun e => decide (e < j)) &&
  (catDeps.all fun p => match ops[p.1]? with
    | none => false
    | some o => (edgesTo o).contains p.2)
/-- The slots behind the operations of d. -/
def tmC (tm : Nat → AV) (s : Nat) (L A B : List (List AV)) (r : List AV) (k nx out : Nat) (d : Nat → Bool) : Nat → AV := fun t =>
  if t = s then (if d 0 = true then .own nx else tm t)
  else if t = s + 1 then (if d 1 = true then .sl L else tm t)
  else if t = s + 2 then (if d 2 = true then .ex (.int .i64 k) else tm t)
  else if t = s + 3 then (if d 3 = true then .sl A else tm t)
  else if t = s + 4 then (if d 4 = true then .own (nx + 4) else tm t)
  else if t = s + 5 then (if d 5 = true then .agg r else tm t)
  else if t = s + 6 then (if d 6 = true then .own (nx + 6) else tm t)
  else if t = s + 7 then (if d 7 = true then .own (nx + 7) else tm t)
  else if t = s + 8 then (if d 8 = true then .sl L else tm t)
  else if t = s + 9 then (if d 9 = true then .ex (.int .i64 k) else tm t)
  else if t = s + 10 then (if d 10 = true then .ex (.int .i64 ((k + 1 : Nat) : Int)) else tm t)
  else if t = s + 11 then (if d 11 = true then .sl B else tm t)
  else if t = s + 12 then (if d 12 = true then .own (nx + 12) else tm t)
  else if t = out then (if d 13 = true then .own (nx + 12) else tm t)
  else tm t
def hpC (hp : Nat → Option Row1) (e : Nat) (A B : List (List AV)) (r : List AV) (nx : Nat) (d : Nat → Bool) : Nat → Option Row1 := fun x =>
  if x = nx then (if d 4 = true then none else if d 0 = true then some ⟨e, [], true⟩ else hp x)
  else if x = nx + 4 then (if d 7 = true then none else if d 4 = true then some ⟨e, A, true⟩ else hp x)
  else if x = nx + 6 then (if d 6 = true then some ⟨e, [r], true⟩ else hp x)
  else if x = nx + 7 then (if d 12 = true then none else if d 7 = true then some ⟨e, A ++ [r], true⟩ else hp x)
  else if x = nx + 12 then (if d 12 = true then some ⟨e, A ++ [r] ++ B, true⟩ else hp x)
  else hp x
theorem tmC_put {tm : Nat → AV} {s : Nat} {L A B : List (List AV)} {r : List AV} {k nx out : Nat} (ho : out < s) {d : Nat → Bool} {i t : Nat} {u : AV} (h : (i, t, u) ∈ [(0, s, AV.own nx), (1, s + 1, AV.sl L), (2, s + 2, AV.ex (.int .i64 k)), (3, s + 3, AV.sl A), (4, s + 4, AV.own (nx + 4)), (5, s + 5, AV.agg r), (6, s + 6, AV.own (nx + 6)), (7, s + 7, AV.own (nx + 7)), (8, s + 8, AV.sl L), (9, s + 9, AV.ex (.int .i64 k)), (10, s + 10, AV.ex (.int .i64 ((k + 1 : Nat) : Int))), (11, s + 11, AV.sl B), (12, s + 12, AV.own (nx + 12)), (13, out, AV.own (nx + 12))]) :
    upd (tmC tm s L A B r k nx out d) t u = tmC tm s L A B r k nx out fun q => d q || decide (q = i) := by
  funext x
  simp only [List.mem_cons, List.not_mem_nil, or_false, Prod.mk.injEq] at h
  rcases h with ⟨rfl, ht, rfl⟩ | ⟨rfl, ht, rfl⟩ | ⟨rfl, ht, rfl⟩ | ⟨rfl, ht, rfl⟩ | ⟨rfl, ht, rfl⟩ | ⟨rfl, ht, rfl⟩ | ⟨rfl, ht, rfl⟩ | ⟨rfl, ht, rfl⟩ | ⟨rfl, ht, rfl⟩ | ⟨rfl, ht, rfl⟩ | ⟨rfl, ht, rfl⟩ | ⟨rfl, ht, rfl⟩ | ⟨rfl, ht, rfl⟩ | ⟨rfl, ht, rfl⟩ <;>
  · by_cases e : x = t
    · rw [e, upd_same, ht]
      simp (disch := omega) only [tmC, if_pos, if_neg, decide_true, Bool.or_true, ↓reduceIte]
    · rw [upd_ne _ _ e]
      have e' := mt (fun h => Eq.trans h ht.symm) e
      simp [tmC, e']
theorem catAt {l : List (Option Tmp × Op × Option (Nat × Bool))} {ops : Array Oper} (h : ops.toList.map (fun o => (o.dst, o.op, o.guard)) = l) {i : Nat} {o : Oper} (ho : ops[i]? = some o) : l[i]? = some (o.dst, o.op, o.guard) := by
  rw [← h, List.getElem?_map, Array.getElem?_toList, ho]; rfl
theorem any_cat {P : Program} {C : World → Prop} {K : AS → Prop} {ops : Array Oper} {tm : Nat → AV} {hp : Nat → Option Row1} {nx s tL tK tR out st e ti bR m : Nat} {L : List (List AV)} {r : List AV} {k E : Nat} {mR : Bool} {i1 : Nat}
    (h1 : ops.toList.map (fun o => (o.dst, o.op, o.guard)) = [(some s, .buildSlice st 0 #[], none), (some (s + 1), .move (.tmp tL), none), (some (s + 2), .move (.tmp tK), none), (some (s + 3), .slice st (.tmp (s + 1)) none (some (.tmp (s + 2))) none, none),
      (some (s + 4), .call ⟨.builtin .append, #[.tmp s, .tmp (s + 3)], #[st, st]⟩, none), (some (s + 5), .load e (.tmp tR), none), (some (s + 6), .buildSlice st 1 #[(0, .tmp (s + 5))], none), (some (s + 7), .call ⟨.builtin .append, #[.tmp (s + 4), .tmp (s + 6)], #[st, st]⟩, none),
      (some (s + 8), .move (.tmp tL), none), (some (s + 9), .move (.tmp tK), none), (some (s + 10), .binOp .add ti (.tmp (s + 9)) (.const (.int .i64 1)) i1, none), (some (s + 11), .slice st (.tmp (s + 8)) (some (.tmp (s + 10))) none none, none),
      (some (s + 12), .call ⟨.builtin .append, #[.tmp (s + 7), .tmp (s + 11)], #[st, st]⟩, none), (some out, .assign (.tmp (s + 12)), none)])
    (hok : catOk ops = true) (ho : out < s) (hL : tL < s) (hK : tK < s) (hR : tR < s) (oL : tL ≠ out) (oK : tK ≠ out) (oR : tR ≠ out) (gL : tm tL = .sl L) (gK : tm tK = .ex (.int .i64 k)) (gR : tm tR = .pt bR 0 0) (gh : hp bR = some ⟨E, [r], mR⟩) (hb : bR < nx) (hk : k < L.length) (hm : L.length ≤ m) (hmb : m * (aty P e).bytes ≤ 140737488355328) (hm2 : m ≤ 1000000)
    (ht : (aty P st).k = .slice e) (hz : (aty P e).zero.length = (aty P e).sz ∧ 0 < (aty P e).sz ∧ (aty P e).zero.all (·.oneCell') = true) (hby : 1 ≤ (aty P e).bytes) (hsz : (aty P e).sz ≤ 16777216) (hag : (aty P e).isAgg = true) (hl : ∀ x ∈ L, x.length = (aty P e).sz) (hr : r.length = (aty P e).sz)
    (hfin : ∀ σ' : AS, σ'.tm out = .own (nx + 12) → (∀ t, t < s → t ≠ out → σ'.tm t = tm t) → σ'.hp (nx + 12) = some ⟨e, L.take k ++ [r] ++ L.drop (k + 1), true⟩ → (∀ x, x < nx → σ'.hp x = hp x) → σ'.nx = nx + 14 → K σ') : AnyOk P C ops ⟨tm, hp, nx⟩ K := by
  have hn : ops.size = 14 := by
    have := congrArg List.length h1
    simpa using this
  have at_ := fun {i : Nat} {o : Oper} (ho : ops[i]? = some o) => catAt h1 ho
  simp only [catOk, Bool.and_eq_true] at hok
  obtain ⟨hbk, hdp⟩ := hok
  have dep : ∀ {i j : Nat} {o : Oper}, (i, j) ∈ catDeps → ops[i]? = some o → j ∈ edgesTo o := fun {i j o} hm ho => by
    have := List.all_eq_true.1 hdp (i, j) hm
    dsimp only at this
    rw [ho] at this
    exact List.contains_iff_mem.1 this
  generalize hA : L.take k = A at *
  generalize hB : L.drop (k + 1) = B at *
  have lA : A.length = k := by rw [← hA, List.length_take]; omega
  have lB : B.length + (k + 1) = L.length := by rw [← hB, List.length_drop]; omega
  have wA : ∀ x ∈ A, x.length = (aty P e).sz := fun x hx => hl x (by rw [← hA] at hx; exact List.mem_of_mem_take hx)
  have wB : ∀ x ∈ B, x.length = (aty P e).sz := fun x hx => hl x (by rw [← hB] at hx; exact List.mem_of_mem_drop hx)
  have fits : ∀ n, n ≤ m → n * (aty P e).bytes ≤ 140737488355328 := fun n hn => Nat.le_trans (Nat.mul_le_mul_right _ hn) hmb
  refine ⟨fun d => ⟨tmC tm s L A B r k nx out d, hpC hp e A B r nx d, nx⟩, ?_, fun d => rfl, ?_, ?_, ?_, ?_, ?_, ?_⟩
  · have e1 : tmC tm s L A B r k nx out (fun _ => false) = tm := by funext t; simp [tmC]
    have e2 : hpC hp e A B r nx (fun _ => false) = hp := by funext x; simp [hpC]
    show AS.mk (tmC tm s L A B r k nx out fun _ => false) (hpC hp e A B r nx fun _ => false) nx = _
    rw [e1, e2]
  · intro q o x ho hx
    have hq : q < 14 := by have := (Array.getElem?_eq_some_iff.1 ho).1; omega
    have h8 := List.all_eq_true.1 hbk q (List.mem_range.2 hq)
    rw [ho] at h8
    exact of_decide_eq_true (List.all_eq_true.1 h8 x hx)
  · intro o ho
    obtain ⟨i, hi⟩ := List.mem_iff_getElem?.1 ho
    rw [Array.getElem?_toList] at hi
    have h2 := at_ hi
    have hi14 : i < 14 := by have := (Array.getElem?_eq_some_iff.1 hi).1; omega
    match i, h2 with
    | 0, h2 | 1, h2 | 2, h2 | 3, h2 | 4, h2 | 5, h2 | 6, h2 | 7, h2 | 8, h2 | 9, h2 | 10, h2 | 11, h2 | 12, h2 | 13, h2 => simp only [List.getElem?_cons_zero, List.getElem?_cons_succ, Option.some.injEq, Prod.mk.injEq] at h2; exact h2.2.2.symm
  · intro d i o ho' hdi hee hcl
    have h2 := at_ ho'
    have hi14 : i < 14 := by have := (Array.getElem?_eq_some_iff.1 ho').1; omega
    have hX : ∀ t, t < s → t ≠ out → tmC tm s L A B r k nx out d t = tm t := fun t h3 h4 => by
      unfold tmC
      simp (disch := omega) only [if_neg]
    have sl : ∀ (i t : Nat) (u : AV), (i, t, u) ∈ [(0, s, AV.own nx), (1, s + 1, AV.sl L), (2, s + 2, AV.ex (.int .i64 k)), (3, s + 3, AV.sl A), (4, s + 4, AV.own (nx + 4)), (5, s + 5, AV.agg r), (6, s + 6, AV.own (nx + 6)), (7, s + 7, AV.own (nx + 7)), (8, s + 8, AV.sl L), (9, s + 9, AV.ex (.int .i64 k)), (10, s + 10, AV.ex (.int .i64 ((k + 1 : Nat) : Int))), (11, s + 11, AV.sl B), (12, s + 12, AV.own (nx + 12)), (13, out, AV.own (nx + 12))] → d i = true → tmC tm s L A B r k nx out d t = u := fun i t u hm hd => by
      simp only [List.mem_cons, List.not_mem_nil, or_false, Prod.mk.injEq] at hm
      rcases hm with ⟨rfl, ht, hu⟩ | ⟨rfl, ht, hu⟩ | ⟨rfl, ht, hu⟩ | ⟨rfl, ht, hu⟩ | ⟨rfl, ht, hu⟩ | ⟨rfl, ht, hu⟩ | ⟨rfl, ht, hu⟩ | ⟨rfl, ht, hu⟩ | ⟨rfl, ht, hu⟩ | ⟨rfl, ht, hu⟩ | ⟨rfl, ht, hu⟩ | ⟨rfl, ht, hu⟩ | ⟨rfl, ht, hu⟩ | ⟨rfl, ht, hu⟩ <;> (rw [ht, hu]; simp (disch := omega) only [tmC, if_pos, if_neg, hd, ↓reduceIte])
    have cl : ∀ {i j : Nat}, (i, j) ∈ catDeps → d i = true → d j = true := fun {i j} hm hd => by
      have hi : i < 14 := by
        simp only [catDeps, List.mem_cons, List.not_mem_nil, or_false, Prod.mk.injEq] at hm
        omega
      exact hcl i _ j hd (Array.getElem?_eq_getElem (by omega)) (dep hm (Array.getElem?_eq_getElem (by omega)))
    have need : ∀ {j : Nat}, (i, j) ∈ catDeps → d j = true := fun {j} hm => hee j (dep hm ho')
    have fin : ∀ (t : Option Tmp) (u : AV) (h : Nat → Option Row1), (∃ s', t = some s' ∧ (i, s', u) ∈ [(0, s, AV.own nx), (1, s + 1, AV.sl L), (2, s + 2, AV.ex (.int .i64 k)), (3, s + 3, AV.sl A), (4, s + 4, AV.own (nx + 4)), (5, s + 5, AV.agg r), (6, s + 6, AV.own (nx + 6)), (7, s + 7, AV.own (nx + 7)), (8, s + 8, AV.sl L), (9, s + 9, AV.ex (.int .i64 k)), (10, s + 10, AV.ex (.int .i64 ((k + 1 : Nat) : Int))), (11, s + 11, AV.sl B), (12, s + 12, AV.own (nx + 12)), (13, out, AV.own (nx + 12))]) → h = hpC hp e A B r nx (fun q => d q || decide (q = i)) → ({ (⟨tmC tm s L A B r k nx out d, hpC hp e A B r nx d, nx⟩ : AS) with hp := h }.put t u) = ⟨tmC tm s L A B r k nx out fun q => d q || decide (q = i), hpC hp e A B r nx fun q => d q || decide (q = i), nx⟩ := fun t u h hm hh => by
      obtain ⟨s', rfl, hm⟩ := hm
      rw [hh]
      show AS.mk (upd (tmC tm s L A B r k nx out d) s' u) _ nx = _
      rw [tmC_put ho hm]
    have same : i ≠ 0 → i ≠ 4 → i ≠ 6 → i ≠ 7 → i ≠ 12 → hpC hp e A B r nx d = hpC hp e A B r nx (fun q => d q || decide (q = i)) := fun a0 a4 a6 a7 a12 => by
      funext x
      simp [hpC, Ne.symm a0, Ne.symm a4, Ne.symm a6, Ne.symm a7, Ne.symm a12]
    have hpR : hpC hp e A B r nx d bR = some ⟨E, [r], mR⟩ := by
      unfold hpC
      simp (disch := omega) only [if_neg]
      exact gh
    obtain ⟨odst, oop, oty, opos, oafter, oguard⟩ := o
    dsimp only at h2 ⊢
    rcases (show i = 0 ∨ i = 1 ∨ i = 2 ∨ i = 3 ∨ i = 4 ∨ i = 5 ∨ i = 6 ∨ i = 7 ∨ i = 8 ∨ i = 9 ∨ i = 10 ∨ i = 11 ∨ i = 12 ∨ i = 13 by omega) with rfl | rfl | rfl | rfl | rfl | rfl | rfl | rfl | rfl | rfl | rfl | rfl | rfl | rfl
    · simp only [List.getElem?_cons_zero, List.getElem?_cons_succ, Option.some.injEq, Prod.mk.injEq] at h2
      obtain ⟨rfl, rfl, rfl⟩ := h2
      refine av_build0 ht hz ?_
      refine fin _ _ _ ⟨_, rfl, by simp⟩ ?_
      have d4 : d 4 = false := by cases h : d 4 with
        | false => rfl
        | true => rw [cl (i := 4) (j := 0) (by decide) h] at hdi; cases hdi
      funext x
      show upd (hpC hp e A B r nx d) (nx + 0) _ x = _
      by_cases hx : x = nx + 0
      · rw [hx, upd_same]; simp [hpC, d4]
      · rw [upd_ne _ _ hx]; have hx' : ¬ x = nx := hx; simp [hpC, hx']
    · simp only [List.getElem?_cons_zero, List.getElem?_cons_succ, Option.some.injEq, Prod.mk.injEq] at h2
      obtain ⟨rfl, rfl, rfl⟩ := h2
      refine av_move (hX tL hL oL |>.trans gL) ?_
      exact fin _ _ _ ⟨_, rfl, by simp⟩ (same (by decide) (by decide) (by decide) (by decide) (by decide))
    · simp only [List.getElem?_cons_zero, List.getElem?_cons_succ, Option.some.injEq, Prod.mk.injEq] at h2
      obtain ⟨rfl, rfl, rfl⟩ := h2
      refine av_move (hX tK hK oK |>.trans gK) ?_
      exact fin _ _ _ ⟨_, rfl, by simp⟩ (same (by decide) (by decide) (by decide) (by decide) (by decide))
    · simp only [List.getElem?_cons_zero, List.getElem?_cons_succ, Option.some.injEq, Prod.mk.injEq] at h2
      obtain ⟨rfl, rfl, rfl⟩ := h2
      refine av_hi (es := L) (n := k) ht hz.2.1 (sl 1 _ _ (by simp) (need (by decide))) hl (sl 2 _ _ (by simp) (need (by decide))) (by omega) ?_
      rw [hA]
      exact fin _ _ _ ⟨_, rfl, by simp⟩ (same (by decide) (by decide) (by decide) (by decide) (by decide))
    · simp only [List.getElem?_cons_zero, List.getElem?_cons_succ, Option.some.injEq, Prod.mk.injEq] at h2
      obtain ⟨rfl, rfl, rfl⟩ := h2
      have d0 : d 0 = true := need (by decide)
      have d7 : d 7 = false := by cases h : d 7 with
        | false => rfl
        | true => rw [cl (i := 7) (j := 4) (by decide) h] at hdi; cases hdi
      refine av_app (b := nx) (es := []) (ns := A) (u := .sl A) ht rfl ⟨hz.1, hz.2.1, hby⟩ wA (sl 0 _ _ (by simp) d0) (by simp [hpC, hdi, d0]) (sl 3 _ _ (by simp) (need (by decide))) rfl (.inr (.inr ⟨_, rfl⟩)) (fits _ (by rw [lA]; simp; omega)) ?_
      refine fin _ _ _ ⟨_, rfl, by simp⟩ ?_
      funext x
      show upd (upd (hpC hp e A B r nx d) nx none) (nx + 4) (some ⟨e, [] ++ A, true⟩) x = _
      rw [List.nil_append]
      by_cases hx : x = nx + 4
      · rw [hx, upd_same]; simp [hpC, d7]
      · rw [upd_ne _ _ hx]
        by_cases hx0 : x = nx
        · rw [hx0, upd_same]; simp [hpC]
        · rw [upd_ne _ _ hx0]; simp [hpC, hx, hx0]
    · simp only [List.getElem?_cons_zero, List.getElem?_cons_succ, Option.some.injEq, Prod.mk.injEq] at h2
      obtain ⟨rfl, rfl, rfl⟩ := h2
      refine av_loada (hX tR hR oR |>.trans gR) hpR ⟨hag, hz.2.1, hr⟩ ?_
      exact fin _ _ _ ⟨_, rfl, by simp⟩ (same (by decide) (by decide) (by decide) (by decide) (by decide))
    · simp only [List.getElem?_cons_zero, List.getElem?_cons_succ, Option.some.injEq, Prod.mk.injEq] at h2
      obtain ⟨rfl, rfl, rfl⟩ := h2
      refine av_build1 ht hz hsz (sl 5 _ _ (by simp) (need (by decide))) hr ?_
      refine fin _ _ _ ⟨_, rfl, by simp⟩ ?_
      funext x
      show upd (hpC hp e A B r nx d) (nx + 6) _ x = _
      by_cases hx : x = nx + 6
      · rw [hx, upd_same]; simp [hpC]
      · rw [upd_ne _ _ hx]; simp [hpC, hx]
    · simp only [List.getElem?_cons_zero, List.getElem?_cons_succ, Option.some.injEq, Prod.mk.injEq] at h2
      obtain ⟨rfl, rfl, rfl⟩ := h2
      have d4 : d 4 = true := need (by decide)
      have d6 : d 6 = true := need (by decide)
      have d12 : d 12 = false := by cases h : d 12 with
        | false => rfl
        | true => rw [cl (i := 12) (j := 7) (by decide) h] at hdi; cases hdi
      refine av_app (b := nx + 4) (es := A) (ns := [r]) (u := .own (nx + 6)) ht rfl ⟨hz.1, hz.2.1, hby⟩ (by intro n hn; rw [List.mem_singleton.1 hn]; exact hr) (sl 4 _ _ (by simp) d4) (by simp [hpC, hdi, d4]) (sl 6 _ _ (by simp) d6) (by simp [rdSl, hpC, d6]) (.inr (.inl ⟨_, rfl⟩)) (fits _ (by rw [lA]; simp; omega)) ?_
      refine fin _ _ _ ⟨_, rfl, by simp⟩ ?_
      funext x
      show upd (upd (hpC hp e A B r nx d) (nx + 4) none) (nx + 7) (some ⟨e, A ++ [r], true⟩) x = _
      by_cases hx : x = nx + 7
      · rw [hx, upd_same]; simp [hpC, d12]
      · rw [upd_ne _ _ hx]
        by_cases hx0 : x = nx + 4
        · rw [hx0, upd_same]; simp [hpC]
        · rw [upd_ne _ _ hx0]; simp [hpC, hx, hx0]
    · simp only [List.getElem?_cons_zero, List.getElem?_cons_succ, Option.some.injEq, Prod.mk.injEq] at h2
      obtain ⟨rfl, rfl, rfl⟩ := h2
      refine av_move (hX tL hL oL |>.trans gL) ?_
      exact fin _ _ _ ⟨_, rfl, by simp⟩ (same (by decide) (by decide) (by decide) (by decide) (by decide))
    · simp only [List.getElem?_cons_zero, List.getElem?_cons_succ, Option.some.injEq, Prod.mk.injEq] at h2
      obtain ⟨rfl, rfl, rfl⟩ := h2
      refine av_move (hX tK hK oK |>.trans gK) ?_
      exact fin _ _ _ ⟨_, rfl, by simp⟩ (same (by decide) (by decide) (by decide) (by decide) (by decide))
    · simp only [List.getElem?_cons_zero, List.getElem?_cons_succ, Option.some.injEq, Prod.mk.injEq] at h2
      obtain ⟨rfl, rfl, rfl⟩ := h2
      refine av_add (n := k) (sl 9 _ _ (by simp) (need (by decide))) rfl (by omega) ?_
      exact fin _ _ _ ⟨_, rfl, by simp⟩ (same (by decide) (by decide) (by decide) (by decide) (by decide))
    · simp only [List.getElem?_cons_zero, List.getElem?_cons_succ, Option.some.injEq, Prod.mk.injEq] at h2
      obtain ⟨rfl, rfl, rfl⟩ := h2
      refine av_lo (es := L) (n := k + 1) ht hz.2.1 (sl 8 _ _ (by simp) (need (by decide))) hl (sl 10 _ _ (by simp) (need (by decide))) (by omega) ?_
      rw [hB]
      exact fin _ _ _ ⟨_, rfl, by simp⟩ (same (by decide) (by decide) (by decide) (by decide) (by decide))
    · simp only [List.getElem?_cons_zero, List.getElem?_cons_succ, Option.some.injEq, Prod.mk.injEq] at h2
      obtain ⟨rfl, rfl, rfl⟩ := h2
      have d7 : d 7 = true := need (by decide)
      have d11 : d 11 = true := need (by decide)
      refine av_app (b := nx + 7) (es := A ++ [r]) (ns := B) (u := .sl B) ht rfl ⟨hz.1, hz.2.1, hby⟩ wB (sl 7 _ _ (by simp) d7) (by simp [hpC, hdi, d7]) (sl 11 _ _ (by simp) d11) rfl (.inr (.inr ⟨_, rfl⟩)) (fits _ (by rw [List.length_append, lA]; simp; omega)) ?_
      refine fin _ _ _ ⟨_, rfl, by simp⟩ ?_
      funext x
      show upd (upd (hpC hp e A B r nx d) (nx + 7) none) (nx + 12) (some ⟨e, A ++ [r] ++ B, true⟩) x = _
      by_cases hx : x = nx + 12
      · rw [hx, upd_same]; simp [hpC]
      · rw [upd_ne _ _ hx]
        by_cases hx0 : x = nx + 7
        · rw [hx0, upd_same]; simp [hpC]
        · rw [upd_ne _ _ hx0]; simp [hpC, hx, hx0]
    · simp only [List.getElem?_cons_zero, List.getElem?_cons_succ, Option.some.injEq, Prod.mk.injEq] at h2
      obtain ⟨rfl, rfl, rfl⟩ := h2
      refine av_assign (u := .own (nx + 12)) (sl 12 _ _ (by simp) (need (by decide))) ?_
      exact fin _ _ _ ⟨_, rfl, by simp⟩ (same (by decide) (by decide) (by decide) (by decide) (by decide))
  · intro t ht'
    have hw : (ops.toList.filterMap (·.dst)) = [s, s + 1, s + 2, s + 3, s + 4, s + 5, s + 6, s + 7, s + 8, s + 9, s + 10, s + 11, s + 12, out] := by
      have := congrArg (List.filterMap fun x : Option Tmp × Op × Option (Nat × Bool) => x.1) h1
      rw [List.filterMap_map] at this
      simpa [Function.comp_def] using this
    rw [hw] at ht'
    simp only [List.mem_cons, List.not_mem_nil, or_false, not_or] at ht'
    obtain ⟨w0, w1, w2, w3, w4, w5, w6, w7, w8, w9, w10, w11, w12, w13⟩ := ht'
    simp [tmC, w0, w1, w2, w3, w4, w5, w6, w7, w8, w9, w10, w11, w12, w13]
  · intro x hx h0
    rw [hn] at hx
    show hpC hp e A B r nx (fun q => decide (q < ops.size)) x = none
    dsimp only at hx
    unfold hpC
    rw [if_neg (by omega), if_neg (by omega), if_neg (by omega), if_neg (by omega), if_neg (by omega)]
    exact h0
  · refine hfin _ ?_ ?_ ?_ ?_ ?_
    · show tmC tm s L A B r k nx out (fun q => decide (q < ops.size)) out = _
      unfold tmC
      simp (disch := omega) only [if_neg, if_pos, hn]
      simp
    · intro t h2 h3
      show tmC tm s L A B r k nx out (fun q => decide (q < ops.size)) t = _
      unfold tmC
      simp (disch := omega) only [if_neg]
    · show hpC hp e A B r nx (fun q => decide (q < ops.size)) (nx + 12) = _
      unfold hpC
      simp (disch := omega) only [if_neg, if_pos, hn]
      simp
    · intro x hx
      show hpC hp e A B r nx (fun q => decide (q < ops.size)) x = _
      unfold hpC
      simp (disch := omega) only [if_neg]
    · show nx + ops.size = _
      rw [hn]
end Go.Proofs.YtfpknhhhjgdjbaaDoor
