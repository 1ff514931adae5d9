/-
  A region whose operations may come in any order, and of which those that do more than give a value wait for each other. Conditions: those that each theorem states.
-/
import Derived.Test.YtcoflmckbcnlpaaGreatDoorInl
namespace Go.Proofs.YtcoflmckbcnlpaaGreatDoor
open Go.RowKit
set_option maxRecDepth 100000
section
variable {P : Program} {C : World → Prop} {K : AS → Prop} {w0 : Root} {M0 : Nat → Prop} {N : Nat}
theorem any_sem {ops : Array Oper} {Q : Exit → Act → World → Prop} (T : (Nat → Bool) → AS) (F : (Nat → Bool) → Nat → Prop) (J : (Nat → Bool) → Prop)
    (hback : ∀ q o e, ops[q]? = some o → e ∈ edgesTo o → e < q) (hng : ∀ o, o ∈ ops.toList → o.guard = none)
    (hTc : ∀ d d' : Nat → Bool, (∀ q, q < ops.size → d q = d' q) → T d = T d' ∧ F d = F d' ∧ J d = J d')
    (hstep : ∀ d i o φ a w (K : Act → World → Prop), ops[i]? = some o → d i = false → (∀ e, e ∈ edgesTo o → d e = true) → (∀ j o' e, d j = true → ops[j]? = some o' → e ∈ edgesTo o' → d e = true) → St P M0 N w0 (F d) φ (T d) a w → J d →
      (∀ φ' a' w', St P M0 N w0 (F fun q => d q || decide (q = i)) φ' (T fun q => d q || decide (q = i)) a' w' → J (fun q => d q || decide (q = i)) → K a' w') → o.wp P a w K Q)
    (hk : ∀ φ a w, St P M0 N w0 (F fun q => decide (q < ops.size)) φ (T fun q => decide (q < ops.size)) a w → J (fun q => decide (q < ops.size)) → Q .normal a w) :
    ∀ (fuel : Nat) (l : Array Bool) (a : Act) (w : World), cnt ops.size l = fuel → l.size = ops.size → Closed ops l → ((∃ φ, St P M0 N w0 (F fun q => l.getD q false) φ (T fun q => l.getD q false) a w) ∧ J fun q => l.getD q false) → wpAny P .any ops Q fuel l a w := by
  intro fuel
  have done : ∀ (l : Array Bool) a w, l.size = ops.size → (∀ i, i < ops.size → l.getD i false = true) → ((∃ φ, St P M0 N w0 (F fun q => l.getD q false) φ (T fun q => l.getD q false) a w) ∧ J fun q => l.getD q false) → Q .normal a w := by
    rintro l a w hl hz ⟨⟨φ, st⟩, hj⟩
    have e := hTc (fun q => l.getD q false) (fun q => decide (q < ops.size)) fun q h => by rw [hz q h]; simp [h]
    rw [e.1, e.2.1] at st
    rw [e.2.2] at hj
    exact hk φ a w st hj
  induction fuel with
  | zero =>
    intro l a w hc hl hcl hst
    have hz : ∀ i, i < ops.size → l.getD i false = true := fun i hi => by
      have := List.countP_eq_zero.1 hc i (by simpa using hi)
      simpa using this
    refine ⟨?_, done l a w hl hz hst⟩
    refine List.eq_nil_iff_forall_not_mem.2 fun i hi => ?_
    obtain ⟨h0, o, ho, _⟩ := ready_iff.1 hi
    have his := (Array.getElem?_eq_some_iff.1 ho).1
    rw [getD_flip (by omega) true false, hz i his] at h0
    cases h0
  | succ fuel ih =>
    intro l a w hc hl hcl hst
    refine ⟨fun h0 => done l a w hl (fun i hi => ?_) hst, fun i hi => ?_⟩
    · rcases Classical.em (∃ q, q < ops.size ∧ l.getD q false = false) with hex | hex
      · obtain ⟨q0, ⟨h2, h3⟩, h4⟩ := exists_least hex
        have hq0 : ops[q0]? = some ops[q0] := Array.getElem?_eq_getElem h2
        have hrd : q0 ∈ Region.ready .any ops l := ready_iff.2 ⟨by rw [getD_flip (by omega) true false]; exact h3, _, hq0, fun e he => by
          have hlt := hback q0 _ e hq0 he
          cases hh : l.getD e false with
          | true => rfl
          | false => exact absurd (h4 e ⟨by omega, hh⟩) (by omega)⟩
        exact absurd hrd (by rw [h0]; simp)
      · cases hh : l.getD i false with
        | true => rfl
        | false => exact absurd ⟨i, hi, hh⟩ hex
    · obtain ⟨h0, o, ho, hee⟩ := ready_iff.1 hi
      have his := (Array.getElem?_eq_some_iff.1 ho).1
      rw [getD_flip (by omega) true false] at h0
      have hset : ∀ q, (l.setIfInBounds i true).getD q false = if q = i then true else l.getD q false := fun q => by
        by_cases e : i = q
        · subst e; rw [if_pos rfl]; exact getD_set_self (by omega)
        · rw [getD_set_ne false e, if_neg fun h => e h.symm]
      have hcnt : cnt ops.size (l.setIfInBounds i true) = fuel := by
        have := countP_one (f := fun q => !l.getD q false) (g := fun q => !(l.setIfInBounds i true).getD q false) (i := i) (by rw [h0]; rfl) (by rw [hset, if_pos rfl]; rfl) (fun j hj => by rw [hset, if_neg hj]) ops.size
        rw [if_pos his] at this
        unfold cnt at hc ⊢
        omega
      have hmem : o ∈ ops.toList := by simpa using Array.mem_of_getElem? ho
      obtain ⟨⟨φ, st⟩, hj⟩ := hst
      have hT : (fun q => (l.setIfInBounds i true).getD q false) = fun q => (l.getD q false || decide (q = i)) := by
        funext q
        rw [hset]
        by_cases e : q = i
        · rw [if_pos e, e]; simp
        · rw [if_neg e]; simp [e]
      unfold wpOp
      rw [ho]
      dsimp only
      rw [if_pos (by simp [Region.wanted, hng o hmem])]
      refine .inl (hstep (fun q => l.getD q false) i o φ a w _ ho h0 hee (fun j o' e hj hoj he => hcl j o' e hj hoj he) st hj fun φ' a' w' st' hj' => ?_)
      refine ih _ a' w' hcnt (by simpa using hl) (closed_set hl hcl ho hee) ?_
      rw [hT]
      exact ⟨⟨φ', st'⟩, hj'⟩
def cntD (ch : List Nat) (d : Nat → Bool) : Nat := ch.countP d
def PureAt (P : Program) (C : World → Prop) (o : Oper) (i : Nat) (u : AV) (tm : Nat → AV) (hp : Nat → Option Row1) (B : Nat) : Prop :=
  aval P C (B + i) o.op o.type (evT tm) hp (fun u' f' => u' = u ∧ (f' = .none ∨ f' = .frz [])) ∨
  (∀ (M0 : Nat → Prop) (N : Nat) (w0 : Root) (F : Nat → Prop) (φ : Phi) (σ : AS) (a : Act) (w : World), St P M0 N w0 F φ σ a w → σ.hp = hp → C w → (∀ x ∈ o.op.operands, σ.ev x = evT tm x) → ∃ v, Rep φ (Mo φ σ.hp M0) w u v ∧ (execOp a.eval o).run P w = .ok (.value v) w)
def HeavyAt (P : Program) (C : World → Prop) (n : Nat) (o : Oper) (i : Nat) (u : AV) (tm : Nat → AV) (hp hp' : Nat → Option Row1) (B B' : Nat) : Prop :=
  (∃ f, aval P C (B + i) o.op o.type (evT tm) hp (fun u' f' => u' = u ∧ f' = f) ∧ hp' = f.app (B + i) hp ∧ B' = B) ∨
  (∃ f ps, ConI P C f ps hp (B + n) (fun u0 h0 n0 => u0 = u ∧ h0 = hp' ∧ n0 = B') ∧
    ∀ (M0 : Nat → Prop) (φ : Phi) (a : Act) (w : World), (∀ x ∈ o.op.operands, Rep φ (Mo φ hp M0) w (evT tm x) (a.eval x)) → ∃ vs : List Value, RepL φ (Mo φ hp M0) w ps vs ∧ (execOp a.eval o).run P w = .ok (.enter f vs.toArray) w)
structure ChainOk (P : Program) (C : World → Prop) (ops : Array Oper) (σ : AS) (vs : Nat → AV) (ch : List Nat) (H : Nat → Nat → Option Row1) (B : Nat → Nat) : Prop where
  H0 : H 0 = σ.hp
  B0 : B 0 = σ.nx
  mono : ∀ c, c ≤ ch.length → B 0 ≤ B c
  lt : ∀ h ∈ ch, h < ops.size
  nodup : ch.Nodup
  link : ∀ m h h', ch[m]? = some h → ch[m + 1]? = some h' → Reach ops h' h
  ng : ∀ o, o ∈ ops.toList → o.guard = none
  heavy : ∀ m h o, ch[m]? = some h → ops[h]? = some o → HeavyAt P C ops.size o h (vs h) (tmAt ops ops.size vs σ.tm fun q => decide (q < h)) (H m) (H (m + 1)) (B m) (B (m + 1))
  pure : ∀ i o, ops[i]? = some o → i ∉ ch → ∀ c, c ≤ ch.length → (∀ m h, ch[m]? = some h → (Reach ops i h → m < c) ∧ (Reach ops h i → c ≤ m)) → PureAt P C o i (vs i) (tmAt ops ops.size vs σ.tm fun q => decide (q < i)) (H c) (B c)
theorem chain_prefix {d : Nat → Bool} : ∀ {ch : List Nat}, (∀ m h h' : Nat, ch[m]? = some h → ch[m + 1]? = some h' → d h' = true → d h = true) → ∀ m h : Nat, ch[m]? = some h → (d h = true ↔ m < cntD ch d)
  | [], _, m, h, hm => by simp at hm
  | x :: ch, hl, m, h, hm => by
    have ih := chain_prefix (d := d) (ch := ch) fun m g g' h1 h2 => hl (m + 1) g g' (by simpa using h1) (by simpa using h2)
    have key : d x = false → cntD ch d = 0 := by
      intro hx
      have all : ∀ m h : Nat, ch[m]? = some h → d h = false := by
        intro m
        induction m with
        | zero =>
          intro h hm
          cases hd : d h with
          | false => rfl
          | true => have := hl 0 x h rfl (by simpa using hm) hd; rw [hx] at this; cases this
        | succ m ihm =>
          intro h hm
          cases hd : d h with
          | false => rfl
          | true =>
            obtain ⟨g, hg⟩ : ∃ g, ch[m]? = some g := ⟨ch[m]'(by have := (List.getElem?_eq_some_iff.1 hm).1; omega), List.getElem?_eq_getElem _⟩
            have h1 := hl (m + 1) g h (by simpa using hg) (by simpa using hm) hd
            rw [ihm g hg] at h1; cases h1
      refine List.countP_eq_zero.2 fun y hy => ?_
      obtain ⟨m, hm⟩ := List.mem_iff_getElem?.1 hy
      rw [all m y hm]; simp
    cases m with
    | zero =>
      have hxh : x = h := by simpa using hm
      subst hxh
      cases hd : d x with
      | false =>
        have := key hd
        unfold cntD at this ⊢
        rw [List.countP_cons, this, hd]; simp
      | true =>
        unfold cntD
        rw [List.countP_cons, hd]; simp
    | succ m =>
      have hm' : ch[m]? = some h := by simpa using hm
      have h1 := ih m h hm'
      cases hd : d x with
      | false =>
        have h0 := key hd
        rw [h0] at h1
        unfold cntD at h0 ⊢
        rw [List.countP_cons, h0, hd]
        simp only [Bool.false_eq_true, if_false]
        rw [h1]; omega
      | true =>
        unfold cntD at h1 ⊢
        rw [List.countP_cons, hd, h1]; simp
theorem reachF {ops : Array Oper} {d : Nat → Bool} (hcl : ∀ j o e, d j = true → ops[j]? = some o → e ∈ edgesTo o → d e = true) {j i : Nat} (hr : Reach ops j i) : (∀ o e, ops[j]? = some o → e ∈ edgesTo o → d e = true) → d i = true := by
  induction hr with
  | edge ho he => exact fun hh => hh _ _ ho he
  | more ho he _ ih => exact fun hh => ih fun o' e' ho' he' => hcl _ o' e' (hh _ _ ho he) ho' he'
theorem cntD_same {ch : List Nat} {d : Nat → Bool} {i : Nat} (h : i ∉ ch) : cntD ch (fun q => d q || decide (q = i)) = cntD ch d := by
  unfold cntD
  refine List.countP_congr fun q hq => ?_
  have : q ≠ i := fun e => h (e ▸ hq)
  simp [this]
theorem cntD_next {d : Nat → Bool} {i : Nat} (hd : d i = false) : ∀ {ch : List Nat}, ch.Nodup → i ∈ ch → cntD ch (fun q => d q || decide (q = i)) = cntD ch d + 1
  | [], _, h => by simp at h
  | x :: ch, hn, h => by
    have hn' := List.nodup_cons.1 hn
    unfold cntD
    rw [List.countP_cons, List.countP_cons]
    by_cases e : x = i
    · subst e
      have := cntD_same (d := d) hn'.1
      unfold cntD at this
      rw [this, hd]; simp
    · have hm : i ∈ ch := by
        rcases List.mem_cons.1 h with h | h
        · exact absurd h.symm e
        · exact h
      have := cntD_next (d := d) hd hn'.2 hm
      unfold cntD at this
      rw [this]
      simp [e]
      omega
theorem region_chain (Bs : Base P C) {r : Nat} {ops : Array Oper} {σ : AS} {vs : Nat → AV} {ch : List Nat} {H : Nat → Nat → Option Row1} {B : Nat → Nat} {Q : Exit → AS → Prop} (hO : Ord ops ops.size) (h : ChainOk P C ops σ vs ch H B)
    (hq : Q .normal ⟨tmAt ops ops.size vs σ.tm fun q => decide (q < ops.size), H ch.length, B ch.length + ops.size⟩) : awp P C (.region r ops true) Q σ := by
  refine .inr (.inr ?_)
  intro M0 N w0 a w hC hf st
  have hfit : ∀ o ∈ ops.toList, ∀ t, o.dst = some t → t < N := fun o ho t ht => by
    have := List.all_eq_true.1 hf o ho
    rw [ht] at this
    simpa using this
  obtain ⟨⟨φ, st1⟩, st2⟩ := st
  have hrep : ∀ q, (Array.replicate ops.size false).getD q false = false := fun q => by by_cases hjs : q < ops.size <;> simp [hjs]
  have hall : cntD ch (fun q => decide (q < ops.size)) = ch.length := by
    unfold cntD
    exact List.countP_eq_length.2 fun x hx => by simpa using h.lt x hx
  have h0 : ∀ d : Nat → Bool, (∀ q, d q = false) → cntD ch d = 0 := fun d hd => List.countP_eq_zero.2 fun x _ => by rw [hd x]; simp
  refine wp_region_any Bs.mixed (any_sem (M0 := M0) (N := N) (w0 := w0) (fun d => ⟨tmAt ops ops.size vs σ.tm d, H (cntD ch d), σ.nx⟩) (fun d x => B (cntD ch d) ≤ x ∧ ∀ q, q < ops.size → d q = true → x ≠ B (cntD ch d) + q) (fun d => ∀ j, B (cntD ch d) + ops.size ≤ j → H (cntD ch d) j = none)
    hO.back h.ng ?hTc ?hstep ?hk ops.size _ a _ ?hcnt (by simp) ?hcl ?hst)
  case hTc =>
    intro d d' hd
    have e1 : cntD ch d = cntD ch d' := by
      unfold cntD
      exact List.countP_congr fun x hx => by rw [hd x (h.lt x hx)]
    have e2 : tmAt ops ops.size vs σ.tm d = tmAt ops ops.size vs σ.tm d' := funext fun t => tmAt_congr hO fun j o hj _ _ => ⟨hd j hj, fun _ => rfl⟩
    refine ⟨by rw [e1, e2], ?_, by rw [e1]⟩
    funext x
    rw [e1]
    apply propext
    constructor
    · exact fun g => ⟨g.1, fun q hq hdq => g.2 q hq (by rw [hd q hq]; exact hdq)⟩
    · exact fun g => ⟨g.1, fun q hq hdq => g.2 q hq (by rw [← hd q hq]; exact hdq)⟩
  case hk =>
    intro φ a w st hj
    refine ⟨_, hq, ⟨⟨φ, ?_⟩, fun j hj' => ?_⟩, ?_⟩
    · dsimp only at st
      rw [hall] at st
      refine St.sub (St.re (N' := N) (w1 := w0) (σ' := ⟨tmAt ops ops.size vs σ.tm fun q => decide (q < ops.size), H ch.length, B ch.length + ops.size⟩) (a' := a) st rfl rfl rfl rfl st.defers st.size st.tmr st.gh) fun x hx => ?_
      have hx : B ch.length + ops.size ≤ x := hx
      exact ⟨by omega, fun q hq _ => by omega⟩
    · have := hj j (by rw [hall]; exact hj')
      rw [hall] at this
      exact this
    · refine ⟨fun t ht => ?_, ?_⟩
      · exact tmAt_miss fun j o _ ho hd => absurd (List.mem_filterMap.2 ⟨o, by simpa using Array.mem_of_getElem? ho, hd⟩) ht
      · have := h.mono ch.length (Nat.le_refl _)
        rw [h.B0] at this
        show σ.nx ≤ B ch.length + ops.size
        omega
  case hcnt =>
    unfold cnt
    rw [List.countP_eq_length.2 (fun i hi => ?_)]
    · simp
    · have : i < ops.size := by simpa using hi
      simp [this]
  case hcl =>
    intro j o e hj _ _
    rw [hrep j] at hj; cases hj
  case hst =>
    have e0 := h0 _ hrep
    refine ⟨⟨φ, ?_⟩, ?_⟩
    · dsimp only
      rw [e0, h.H0, h.B0]
      have e1 : tmAt ops ops.size vs σ.tm (fun q => (Array.replicate ops.size false).getD q false) = σ.tm := by
        funext t
        exact tmAt_miss fun j o _ _ _ => hrep j
      rw [e1]
      have hb : Below w.heap.size w { w with drawn := w.drawn + 1 } := ⟨rfl, rfl, rfl, Nat.le_refl _, fun _ _ => rfl⟩
      exact (st1.on hb).sub fun x hx => by have := hx.1; omega
    · intro j hj
      (try dsimp only at hj ⊢)
      rw [e0] at hj ⊢
      rw [h.B0] at hj
      rw [h.H0]
      exact st2 j (by omega)
  case hstep =>
    intro d i o φ a w K ho hdi hee hcl st hJ hk
    have hi : i < ops.size := (Array.getElem?_eq_some_iff.1 ho).1
    have hmem : o ∈ ops.toList := by simpa using Array.mem_of_getElem? ho
    have hdo : ∀ t, o.dst = some t → t < N := hfit o hmem
    have hee' : ∀ o' e, ops[i]? = some o' → e ∈ edgesTo o' → d e = true := fun o' e ho' he => by rw [ho] at ho'; cases ho'; exact hee e he
    have pre := chain_prefix (d := d) (ch := ch) fun m h1 h2 g1 g2 hd => reachF hcl (h.link m h1 h2 g1 g2) fun o' e ho' he => hcl h2 o' e hd ho' he
    have look : ∀ t, t ∈ o.looksAt ops → tmAt ops ops.size vs σ.tm (fun q => decide (q < i)) t = tmAt ops ops.size vs σ.tm d t := by
      intro t ht
      refine tmAt_congr hO fun j oj hj hoj hd => ⟨?_, fun _ => rfl⟩
      by_cases hji : j = i
      · subst hji; rw [hdi]; simp
      · rcases hO.side j i oj o t hj hji hoj ho hd ht with h1 | h1
        · rw [hee j h1]; simp; exact hO.back i o j ho h1
        · have hij := hO.back j oj i hoj h1
          have : d j = false := by
            cases hh : d j with
            | false => rfl
            | true => have := hcl j oj i hh hoj h1; rw [hdi] at this; cases this
          rw [this]; simp; omega
    have lookop : ∀ x, x ∈ o.op.operands → evT (tmAt ops ops.size vs σ.tm (fun q => decide (q < i))) x = evT (tmAt ops ops.size vs σ.tm d) x := by
      intro x hx
      cases x with
      | tmp t => exact look t (List.mem_append_left _ (List.mem_filterMap.2 ⟨.tmp t, by simpa using hx, rfl⟩))
      | _ => rfl
    have nxt : ∀ (Hh : Nat → Option Row1), (⟨tmAt ops ops.size vs σ.tm d, Hh, σ.nx⟩ : AS).put o.dst (vs i) = ⟨tmAt ops ops.size vs σ.tm (fun q => d q || decide (q = i)), Hh, σ.nx⟩ := by
      intro Hh
      have e : ((⟨tmAt ops ops.size vs σ.tm d, Hh, σ.nx⟩ : AS).put o.dst (vs i)).tm = tmAt ops ops.size vs σ.tm (fun q => d q || decide (q = i)) := by
        funext t
        by_cases hd : o.dst = some t
        · rw [tmAt_hit hO hi (by simp) ho hd, hd]
          exact upd_same _ _ _
        · have e1 : ((⟨tmAt ops ops.size vs σ.tm d, Hh, σ.nx⟩ : AS).put o.dst (vs i)).tm t = tmAt ops ops.size vs σ.tm d t := by
            cases hdd : o.dst with
            | none => rfl
            | some d => exact upd_ne _ _ fun e => hd (by rw [hdd, e])
          rw [e1]
          refine tmAt_congr hO fun x o' hx ho' hd' => ⟨?_, fun _ => rfl⟩
          have hne : x ≠ i := fun e => by subst e; rw [ho] at ho'; cases ho'; exact hd hd'
          simp [hne]
      rw [← e]
      cases o.dst <;> rfl
    have evs : ∀ x, x ∈ o.op.operands → Rep φ (Mo φ (H (cntD ch d)) M0) w (evT (tmAt ops ops.size vs σ.tm (fun q => decide (q < i))) x) (a.eval x) := by
      intro x hx
      rw [lookop x hx]
      have := st.evr x
      rw [ev_evT] at this
      exact this
    have free : B (cntD ch d) ≤ B (cntD ch d) + i ∧ ∀ q, q < ops.size → d q = true → B (cntD ch d) + i ≠ B (cntD ch d) + q := ⟨by omega, fun q _ hq e => by
      have : q = i := by omega
      subst this; rw [hdi] at hq; cases hq⟩
    by_cases hic : i ∈ ch
    · -- the chain's next one
      obtain ⟨m, hm⟩ := List.mem_iff_getElem?.1 hic
      have hmc : m = cntD ch d := by
        have h1 : ¬ m < cntD ch d := fun hlt => by have := (pre m i hm).2 hlt; rw [hdi] at this; cases this
        rcases Nat.lt_or_ge (cntD ch d) m with hlt | hge
        · exfalso
          obtain ⟨m', rfl⟩ : ∃ m', m = m' + 1 := ⟨m - 1, by omega⟩
          obtain ⟨g, hg⟩ : ∃ g, ch[m']? = some g := ⟨ch[m']'(by have := (List.getElem?_eq_some_iff.1 hm).1; omega), List.getElem?_eq_getElem _⟩
          have h2 := reachF hcl (h.link m' g i hg hm) hee'
          have := (pre m' g hg).1 h2
          omega
        · omega
      have hcn := cntD_next hdi h.nodup hic
      have hhv := h.heavy m i o hm ho
      rw [hmc] at hhv
      rcases hhv with ⟨f, g1, g2, g3⟩ | ⟨f, ps, g1, g2⟩
      · refine aval_sound (hp := H (cntD ch d)) (id := B (cntD ch d) + i) (k := fun u' f' => u' = vs i ∧ f' = f) ⟨st, free, fun x β v hx _ => ⟨β, hx, wkR_refl β⟩, hdo⟩ ?_ Bs.on hC evs g1
        rintro u' f' ⟨rfl, rfl⟩ φ' a' w' st'
        dsimp only at st'
        rw [← g2, nxt] at st'
        refine hk φ' a' w' ?_ ?_
        · (try dsimp only)
          rw [hcn, g3]
          refine st'.sub fun x hx => ⟨⟨hx.1, fun q hq hdq => hx.2 q hq (by rw [hdq]; rfl)⟩, hx.2 i hi (by simp)⟩
        · (try dsimp only)
          rw [hcn, g3]
          intro j hj
          rw [g2]
          have hnone := hJ j hj
          cases f' with
          | none => exact hnone
          | new β => exact (upd_ne _ _ (by omega)).trans hnone
          | set c β =>
            have hc : c ≠ j := fun e => by
              obtain ⟨u, f, q1, q2, q3⟩ := aval_lin (pp := fun _ => True) (fun _ _ _ _ => trivial) g1
              obtain ⟨rfl, rfl⟩ := q1
              have := q2.1
              rw [e] at this
              exact this hnone
            exact (upd_ne _ _ (fun e => hc e.symm)).trans hnone
          | grow c β =>
            refine (upd_ne _ _ (by omega)).trans ?_
            by_cases e : j = c
            · subst e; exact upd_same _ _ _
            · exact (upd_ne _ _ e).trans hnone
          | frz bs =>
            show (if j ∈ bs then (H (cntD ch d) j).map fun β => { β with mu := false } else H (cntD ch d) j) = none
            rw [hnone]; simp
          | alc t z => exact (upd_ne _ _ (by omega)).trans hnone
      · obtain ⟨vals, hvals, hrun⟩ := g2 M0 φ a w evs
        have stn : St P M0 N w0 (fun j => B (cntD ch d) + ops.size ≤ j) φ ⟨tmAt ops ops.size vs σ.tm d, H (cntD ch d), σ.nx⟩ a w := st.sub fun x hx => ⟨by omega, fun q hq _ => by omega⟩
        have hwait := StH.wait stn hJ
        unfold Oper.wp
        rw [hrun]
        refine (g1.2 M0 (w0.wait _ a) φ w vals hC hwait hvals).mono ?_
        rintro e w' ⟨v, u, hp', nx', φ', rfl, ⟨rfl, rfl, rfl⟩, hle, hst, hu⟩
        have hbk := StH.back stn hst σ.nx
        refine hk φ' _ w' ?_ ?_
        · have h9 := hbk.put hu o.dst hdo
          have e9 := nxt (H (cntD ch d + 1))
          dsimp only at h9 e9 ⊢
          rw [hcn]
          rw [e9] at h9
          exact h9.sub fun x hx => hx.1
        · (try dsimp only)
          rw [hcn]
          exact fun j hj => hst.2 j (by omega)
    · -- a value alone
      have hcs := cntD_same (d := d) hic
      have hle : cntD ch d ≤ ch.length := List.countP_le_length
      have hp := h.pure i o ho hic (cntD ch d) hle fun m g hm => ⟨fun hr => (pre m g hm).1 (reachF hcl hr hee'), fun hr => by
        rcases Nat.lt_or_ge m (cntD ch d) with hlt | hge
        · have h1 := (pre m g hm).2 hlt
          have h2 := reachF hcl hr fun o' e ho' he => hcl g o' e h1 ho' he
          rw [hdi] at h2; cases h2
        · exact hge⟩
      have fin : ∀ φ' a' w', St P M0 N w0 (fun x => (B (cntD ch d) ≤ x ∧ ∀ q, q < ops.size → d q = true → x ≠ B (cntD ch d) + q) ∧ x ≠ B (cntD ch d) + i) φ' ((⟨tmAt ops ops.size vs σ.tm d, H (cntD ch d), σ.nx⟩ : AS).put o.dst (vs i)) a' w' → K a' w' := by
        intro φ' a' w' st'
        rw [nxt] at st'
        refine hk φ' a' w' ?_ ?_
        · (try dsimp only)
          rw [hcs]
          exact st'.sub fun x hx => ⟨⟨hx.1, fun q hq hdq => hx.2 q hq (by rw [hdq]; rfl)⟩, hx.2 i hi (by simp)⟩
        · (try dsimp only)
          rw [hcs]
          exact hJ
      rcases hp with hp | hp
      · refine aval_sound (hp := H (cntD ch d)) (id := B (cntD ch d) + i) (k := fun u' f' => u' = vs i ∧ (f' = .none ∨ f' = .frz [])) ⟨st, free, fun x β v hx _ => ⟨β, hx, wkR_refl β⟩, hdo⟩ ?_ Bs.on hC evs hp
        rintro u' f' ⟨rfl, hf'⟩ φ' a' w' st'
        have ef : f'.app (B (cntD ch d) + i) (H (cntD ch d)) = H (cntD ch d) := by
          rcases hf' with rfl | rfl
          · rfl
          · exact frz_nil _ _
        dsimp only at st'
        rw [ef] at st'
        exact fin φ' a' w' st'
      · obtain ⟨v, hv, hrun⟩ := hp M0 N w0 _ φ _ a w st rfl (Bs.on _ _ hC st.below) fun x hx => by rw [ev_evT]; exact (lookop x hx).symm
        exact wp_val hrun (fin φ _ w ((st.sub fun x hx => hx.1).put hv o.dst hdo))
end
end Go.Proofs.YtcoflmckbcnlpaaGreatDoor