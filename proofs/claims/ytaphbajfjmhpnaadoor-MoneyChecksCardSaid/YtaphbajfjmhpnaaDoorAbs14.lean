/-
  A region that draws its order, whole; a body; a function's contract. Conditions: those that each theorem states.
-/
import Derived.Test.YtaphbajfjmhpnaaDoorAbs12
namespace Go.Proofs.YtaphbajfjmhpnaaDoor
open Go.RowKit
set_option maxRecDepth 100000

theorem countP_one {f g : Nat → Bool} {i : Nat} (hf : f i = true) (hg : g i = false) (hh : ∀ j, j ≠ i → f j = g j) : ∀ n, (List.range n).countP f = (List.range n).countP g + if i < n then 1 else 0
  | 0 => by simp
  | n + 1 => by
    rw [List.range_succ, List.countP_append, List.countP_append, countP_one hf hg hh n]
    by_cases h1 : i = n
    · subst h1; simp [hf, hg]
    · have e1 : [n].countP f = [n].countP g := by simp [List.countP_cons, hh n (fun e => h1 e.symm)]
      rw [e1]
      by_cases h2 : i < n
      · rw [if_pos h2, if_pos (by omega : i < n + 1)]; omega
      · rw [if_neg h2, if_neg (by omega : ¬ i < n + 1)]
        omega
theorem countP_from (nd : Nat) : ∀ n, nd ≤ n → (List.range n).countP (fun i => !decide (i < nd)) + nd = n
  | 0, h => by simp; omega
  | n + 1, h => by
    rw [List.range_succ, List.countP_append]
    rcases Nat.lt_or_ge n nd with h1 | h1
    · have hnd : nd = n + 1 := by omega
      subst hnd
      have : (List.range n).countP (fun i => !decide (i < n + 1)) = 0 := by
        rw [List.countP_eq_zero]
        intro x hx
        have : x < n := by simpa using hx
        simp; omega
      rw [this]
      simp
    · have := countP_from nd n h1
      have h2 : ¬ n < nd := by omega
      simp [h2]
      omega
def cnt (n : Nat) (l : Array Bool) : Nat := (List.range n).countP fun i => !l.getD i false

section
variable {P : Program} {C : World → Prop} {K : AS → Prop} {ops : Array Oper} {nd b : Nat} {w0 : Root} {M0 : Nat → Prop} {N : Nat} {Q : Exit → Act → World → Prop}

theorem any_pre (hC : ∀ w w', C w → Below w.heap.size w w' → C w') (hc0 : C w0) (hfit : ∀ o ∈ ops.toList, ∀ t, o.dst = some t → t < N) (hO : Ord ops nd) (hnd : nd ≤ ops.size) (hcov : ∀ j i, nd ≤ j → j < ops.size → i < j → Reach ops j i) {σ0 σn : AS}
    (hk : ∀ σ' a' w', K σ' → SeqSt P M0 N w0 b ops.size σ' a' w' → Fr (ops.toList.filterMap (·.dst)) σ0 σ' → Q .normal a' w')
    {vs : Nat → AV} {H : Nat → Option Row1} {S : Late} (ha : aops P C ops nd b nd (ops.toList.drop nd) K σn) (hnx : σn.nx = σ0.nx) (hH : ∀ x, b + nd ≤ x → σn.hp x = none) (htm : ∀ t, σn.tm t = tmAt ops nd vs σ0.tm (fun q => decide (q < nd)) t)
    (hhp : σn.hp = lateHp S H (fun q => decide (q < nd))) (hS : ∀ s c β γ, S = some (s, c, β, γ) → s + 1 = nd ∧ StepLate P C ops b (vs s) (tmAt ops nd vs σ0.tm (fun x => decide (x < s))) H s c β γ)
    (hlex : ∀ q, q < nd → (∀ s c β γ, S = some (s, c, β, γ) → q ≠ s) → StepOk P C ops b (vs q) (tmAt ops nd vs σ0.tm (fun x => decide (x < q))) H q) : ∀ (fuel : Nat) (l : Array Bool) (a : Act) (w : World), cnt ops.size l = fuel → l.size = ops.size → Closed ops l → (∀ q, nd ≤ q → l.getD q false = false) →
      (∀ s c β γ, S = some (s, c, β, γ) → l.getD s false = true → ∀ q, q < nd → l.getD q false = false → c ≠ b + q) →
      (∃ φ, St P M0 N w0 (fun x => b ≤ x ∧ ∀ q, q < nd → l.getD q false = true → x ≠ b + q) φ ⟨tmAt ops nd vs σ0.tm (fun q => l.getD q false), lateHp S H (fun q => l.getD q false), σ0.nx⟩ a w) → wpAny P .any ops Q fuel l a w := by
  intro fuel
  induction fuel with
  | zero =>
    intro l a w hc hl hcl hge hI hst
    have hz : ∀ i, i < ops.size → l.getD i false = true := fun i hi => by
      have := List.countP_eq_zero.1 hc i (by simpa using hi)
      simpa using this
    have hnn : nd = ops.size := by
      rcases Nat.lt_or_ge nd ops.size with h | h
      · have := hz nd h; rw [hge nd (Nat.le_refl _)] at this; cases this
      · omega
    obtain ⟨φ, hst⟩ := hst
    refine any_tail hC hc0 hfit hO hcov hk 0 nd l σn a w (by omega) (Nat.le_refl _) hl (fun i hi => by rw [hz i hi]; simp; omega) ha ⟨⟨φ, ?_⟩, hH⟩ ?_
    · have e : (⟨tmAt ops nd vs σ0.tm (fun q => l.getD q false), lateHp S H (fun q => l.getD q false), σ0.nx⟩ : AS) = σn := by
        rw [← hnx]
        have : tmAt ops nd vs σ0.tm (fun q => l.getD q false) = σn.tm := by
          funext t
          rw [htm]
          exact tmAt_congr hO fun j o hj ho hd => ⟨by rw [hz j (by omega)]; simp [hj], fun _ => rfl⟩
        have e2 : lateHp S H (fun q => l.getD q false) = σn.hp := by
          rw [hhp]
          exact lateHp_congr fun s c β γ h => by have := (hS s c β γ h).1; rw [hz s (by omega)]; simp; omega
        rw [this, e2]
      rw [e] at hst
      exact hst.sub fun x hx => ⟨by omega, fun q hq _ => by omega⟩
    · refine ⟨fun t ht => ?_, by rw [hnx]; exact Nat.le_refl _⟩
      rw [htm]
      exact tmAt_miss fun j o hj ho hd => absurd (List.mem_filterMap.2 ⟨o, by simpa using Array.mem_of_getElem? ho, hd⟩) ht
  | succ fuel ih =>
    intro l a w hc hl hcl hge hI hst
    by_cases hall : ∀ q, q < nd → l.getD q false = true
    · have hll : ∀ i, i < ops.size → l.getD i false = decide (i < nd) := fun i hi => by
        rcases Nat.lt_or_ge i nd with h | h
        · rw [hall i h]; simp [h]
        · rw [hge i h]; simp; exact h
      have hcc : cnt ops.size l + nd = ops.size := by
        have e1 := countP_from nd ops.size hnd
        have e2 : cnt ops.size l = (List.range ops.size).countP (fun i => !decide (i < nd)) := List.countP_congr fun i hi => by rw [hll i (by simpa using hi)]
        omega
      obtain ⟨φ, hst⟩ := hst
      refine any_tail hC hc0 hfit hO hcov hk (fuel + 1) nd l σn a w (by omega) (Nat.le_refl _) hl hll ha ⟨⟨φ, ?_⟩, hH⟩ ?_
      · have e : (⟨tmAt ops nd vs σ0.tm (fun q => l.getD q false), lateHp S H (fun q => l.getD q false), σ0.nx⟩ : AS) = σn := by
          rw [← hnx]
          have : tmAt ops nd vs σ0.tm (fun q => l.getD q false) = σn.tm := by
            funext t
            rw [htm]
            exact tmAt_congr hO fun j o hj ho hd => ⟨by rw [hall j hj]; simp [hj], fun _ => rfl⟩
          have e2 : lateHp S H (fun q => l.getD q false) = σn.hp := by
            rw [hhp]
            exact lateHp_congr fun s c β γ h => by have := (hS s c β γ h).1; rw [hall s (by omega)]; simp; omega
          rw [this, e2]
        rw [e] at hst
        exact hst.sub fun x hx => ⟨by omega, fun q hq _ => by omega⟩
      · refine ⟨fun t ht => ?_, by rw [hnx]; exact Nat.le_refl _⟩
        rw [htm]
        exact tmAt_miss fun j o hj ho hd => absurd (List.mem_filterMap.2 ⟨o, by simpa using Array.mem_of_getElem? ho, hd⟩) ht
    · -- some of the first are still to come
      have hex : ∃ q, q < nd ∧ l.getD q false = false ∧ ∀ p, p < q → l.getD p false = true := by
        have h1 : ∃ q, q < nd ∧ l.getD q false = false := by
          obtain ⟨q, hq⟩ := Classical.not_forall.1 hall
          obtain ⟨h2, h3⟩ := Classical.not_imp.1 hq
          exact ⟨q, h2, by simpa using h3⟩
        obtain ⟨q, ⟨h2, h3⟩, h4⟩ := exists_least h1
        exact ⟨q, h2, h3, fun p hp => by
          cases hh : l.getD p false with
          | true => rfl
          | false => exact absurd (h4 p ⟨by omega, hh⟩) (by omega)⟩
      obtain ⟨q0, hq1, hq2, hq3⟩ := hex
      have hq0 : ops[q0]? = some ops[q0] := Array.getElem?_eq_getElem (by omega)
      have hrd : q0 ∈ Region.ready .any ops l := ready_iff.2 ⟨by rw [getD_flip (by omega) true false]; exact hq2, _, hq0, fun e he => hq3 e (hO.back q0 _ e hq0 he)⟩
      refine ⟨fun h0 => absurd hrd (by rw [h0]; simp), fun i hi => ?_⟩
      obtain ⟨h0, o, ho, hee⟩ := ready_iff.1 hi
      have his := (Array.getElem?_eq_some_iff.1 ho).1
      rw [getD_flip (by omega) true false] at h0
      have hind : i < nd := by
        rcases Nat.lt_or_ge i nd with h | h
        · exact h
        · have := hcl.reach (hcov i q0 h his (by omega)) fun o2 e ho2 he => by rw [ho] at ho2; cases ho2; exact hee e he
          rw [hq2] at this; cases this
      have hset : ∀ q, (l.setIfInBounds i true).getD q false = if q = i then true else l.getD q false := fun q => by
        by_cases e : i = q
        · subst e; rw [if_pos rfl]; exact getD_set_self (by omega)
        · rw [getD_set_ne false e, if_neg fun h => e h.symm]
      have hcnt : cnt ops.size (l.setIfInBounds i true) = fuel := by
        have := countP_one (f := fun q => !l.getD q false) (g := fun q => !(l.setIfInBounds i true).getD q false) (i := i) (by rw [h0]; rfl) (by rw [hset, if_pos rfl]; rfl) (fun j hj => by rw [hset, if_neg hj]) ops.size
        rw [if_pos his] at this
        unfold cnt at hc ⊢
        omega
      -- what the slots hold
      have hmem : o ∈ ops.toList := by simpa using Array.mem_of_getElem? ho
      have look : ∀ t, t ∈ o.looksAt ops → tmAt ops nd vs σ0.tm (fun x => decide (x < i)) t = tmAt ops nd vs σ0.tm (fun q => l.getD q false) t := by
        intro t ht
        refine tmAt_congr hO fun j oj hj hoj hd => ⟨?_, fun _ => rfl⟩
        by_cases hji : j = i
        · subst hji; rw [h0]; simp
        · rcases hO.side j i oj o t hj hji hoj ho hd ht with h | h
          · rw [hee j h]; simp; exact hO.back i o j ho h
          · have hij := hO.back j oj i hoj h
            have : l.getD j false = false := by
              cases hh : l.getD j false with
              | false => rfl
              | true => have := hcl j oj i hh hoj h; rw [h0] at this; cases this
            rw [this]; simp; omega
      have lookop : ∀ x, x ∈ o.op.operands → evT (tmAt ops nd vs σ0.tm (fun x => decide (x < i))) x = evT (tmAt ops nd vs σ0.tm (fun q => l.getD q false)) x := by
        intro x hx
        cases x with
        | tmp t => exact look t (List.mem_append_left _ (List.mem_filterMap.2 ⟨.tmp t, by simpa using hx, rfl⟩))
        | _ => rfl
      have nxt : ∀ t, ((⟨tmAt ops nd vs σ0.tm (fun q => l.getD q false), lateHp S H (fun q => l.getD q false), σ0.nx⟩ : AS).put o.dst (vs i)).tm t = tmAt ops nd vs σ0.tm (fun q => (l.setIfInBounds i true).getD q false) t := by
        intro t
        by_cases hd : o.dst = some t
        · rw [tmAt_hit hO hind (by rw [hset, if_pos rfl]) ho hd, hd]
          exact upd_same _ _ _
        · have e1 : ((⟨tmAt ops nd vs σ0.tm (fun q => l.getD q false), lateHp S H (fun q => l.getD q false), σ0.nx⟩ : AS).put o.dst (vs i)).tm t = tmAt ops nd vs σ0.tm (fun q => l.getD q false) t := by
            cases hdd : o.dst with
            | none => rfl
            | some d => exact upd_ne _ _ fun e => hd (by rw [hdd, e])
          rw [e1]
          refine tmAt_congr hO fun x o' hx ho' hd' => ⟨?_, fun _ => rfl⟩
          have hne : x ≠ i := fun e => by subst e; rw [ho] at ho'; cases ho'; exact hd hd'
          rw [hset, if_neg hne]
      have go : ∀ a1 w1 hp1, hp1 = lateHp S H (fun q => (l.setIfInBounds i true).getD q false) → (∀ s c β γ, S = some (s, c, β, γ) → (l.setIfInBounds i true).getD s false = true → ∀ q, q < nd → (l.setIfInBounds i true).getD q false = false → c ≠ b + q) →
          (∃ φ, St P M0 N w0 (fun x => (b ≤ x ∧ ∀ q, q < nd → l.getD q false = true → x ≠ b + q) ∧ x ≠ b + i) φ ({ (⟨tmAt ops nd vs σ0.tm (fun q => l.getD q false), lateHp S H (fun q => l.getD q false), σ0.nx⟩ : AS) with hp := hp1 }.put o.dst (vs i)) a1 w1) → wpAny P .any ops Q fuel (l.setIfInBounds i true) a1 w1 := by
        rintro a1 w1 hp1 rfl hI' ⟨φ, h1⟩
        have h1 := h1.put' (hp2 := lateHp S H (fun q => (l.setIfInBounds i true).getD q false)) fun _ h => h
        have e3 : ({ (⟨tmAt ops nd vs σ0.tm (fun q => l.getD q false), lateHp S H (fun q => l.getD q false), σ0.nx⟩ : AS) with hp := lateHp S H (fun q => (l.setIfInBounds i true).getD q false) }.put o.dst (vs i)) = ⟨tmAt ops nd vs σ0.tm (fun q => (l.setIfInBounds i true).getD q false), lateHp S H (fun q => (l.setIfInBounds i true).getD q false), σ0.nx⟩ := by
          rw [← funext nxt]
          cases o.dst <;> rfl
        rw [e3] at h1
        refine ih _ a1 w1 hcnt (by simpa using hl) (closed_set hl hcl ho hee) (fun q hq => by rw [hset, if_neg (by omega)]; exact hge q hq) hI' ⟨φ, h1.sub fun x hx => ⟨⟨hx.1, fun q hq hlq => hx.2 q hq ?_⟩, ?_⟩⟩
        · rw [hset]; split
          · rfl
          · exact hlq
        · exact hx.2 i hind (by rw [hset, if_pos rfl])
      obtain ⟨φ, st⟩ := hst
      unfold wpOp
      rw [ho]
      dsimp only
      have grd : ∀ g want, o.guard = some (g, want) → ∀ d t, (ops[g]?).bind (·.dst) = some d → tmAt ops nd vs σ0.tm (fun x => decide (x < i)) d = .ex (.bool t) → yielded ops a.tmps g = some t := by
        intro g want hg d t hb ht
        refine yielded_of (ops := ops) st hb ?_
        show tmAt ops nd vs σ0.tm (fun q => l.getD q false) d = _
        rw [← look d (List.mem_append_right _ (by rw [hg]; simp [hb])), ht]
      have wanted : Want ops (tmAt ops nd vs σ0.tm (fun x => decide (x < i))) o → Region.wanted o (yielded ops a.tmps) = true := by
        intro hw
        unfold Want at hw
        split at hw
        · rename_i hg; simp [Region.wanted, hg]
        · rename_i g want hg
          obtain ⟨d, hb, ht⟩ := hw
          simp [Region.wanted, hg, grd g want hg d want hb ht]
      have free : b ≤ b + i ∧ ∀ q, q < nd → l.getD q false = true → b + i ≠ b + q := ⟨by omega, fun q hq hlq e => by
        have : q = i := by omega
        subst this; rw [h0] at hlq; cases hlq⟩
      have evs : ∀ x, x ∈ o.op.operands → Rep φ (Mo φ (lateHp S H (fun q => l.getD q false)) M0) w (evT (tmAt ops nd vs σ0.tm (fun x => decide (x < i))) x) (a.eval x) := by
        intro x hx
        rw [lookop x hx]
        have := st.evr x
        rw [ev_evT] at this
        exact this
      by_cases hSi : ∃ c β γ, S = some (i, c, β, γ)
      · obtain ⟨c, β, γ, rfl⟩ := hSi
        obtain ⟨_, o', ho', hw, ⟨x, hx1, j, off, hx2⟩, hc1, hc2, hpq, g2, g3⟩ := hS i c β γ rfl
        rw [ho] at ho'
        cases ho'
        rw [if_pos (wanted hw)]
        have e1 : lateHp (some (i, c, β, γ)) H (fun q => l.getD q false) = H := by
          exact lateHp_f h0
        have hφc : ∃ v, φ c = some v := by
          have := evs x hx1
          rw [hx2] at this
          simp only [Rep] at this
          obtain ⟨h, sz, h1, _⟩ := this
          exact ⟨_, h1⟩
        refine .inl (aval_sound (hp := hpq) (σ := ⟨tmAt ops nd vs σ0.tm (fun q => l.getD q false), lateHp (some (i, c, β, γ)) H (fun q => l.getD q false), σ0.nx⟩) (id := b + i) (k := fun u' f' => u' = vs i ∧ f' = .set c γ) ⟨st, free, fun x δ v hx _ => ⟨δ, by dsimp only; rw [e1]; exact g3 x δ hx, wkR_refl δ⟩, fun t ht => hfit o hmem t ht⟩ ?_ hC hc0 evs g2)
        rintro u' f' ⟨rfl, rfl⟩ φ' a' w' st'
        refine go a' w' _ ?_ ?_ ⟨φ', st'⟩
        · dsimp only [Eff.app]
          rw [e1]
          exact (lateHp_t (by rw [hset, if_pos rfl])).symm
        · intro s c' β' γ' hs _ q hq hlq e
          cases hs
          rw [hset] at hlq
          split at hlq
          · cases hlq
          · obtain ⟨v, hv⟩ := hφc
            have := st.fresh c ⟨by omega, fun q' hq' hlq' e' => by
              have : q' = q := by omega
              rw [this, hlq] at hlq'; cases hlq'⟩
            rw [hv] at this; cases this
      · have hni : ∀ s c β γ, S = some (s, c, β, γ) → i ≠ s := fun s c β γ h e => hSi ⟨c, β, γ, by rw [e]; exact h⟩
        have e1 : lateHp S H (fun q => (l.setIfInBounds i true).getD q false) = lateHp S H (fun q => l.getD q false) := lateHp_congr fun s c β γ h => by
          rw [hset, if_neg fun e => hni s c β γ h e.symm]
        have hI' : ∀ s c β γ, S = some (s, c, β, γ) → (l.setIfInBounds i true).getD s false = true → ∀ q, q < nd → (l.setIfInBounds i true).getD q false = false → c ≠ b + q := by
          intro s c β γ h hs q hq hlq
          rw [hset, if_neg fun e => hni s c β γ h e.symm] at hs
          rw [hset] at hlq
          split at hlq
          · cases hlq
          · exact hI s c β γ h hs q hq hlq
        obtain ⟨o', ho', hs⟩ := hlex i hind hni
        rw [ho] at ho'
        cases ho'
        rcases hs with ⟨hw, f, hpq, g1, g2, g3, g4⟩ | ⟨hu, hj⟩
        · rw [if_pos (wanted hw)]
          refine .inl (aval_sound (hp := hpq) (σ := ⟨tmAt ops nd vs σ0.tm (fun q => l.getD q false), lateHp S H (fun q => l.getD q false), σ0.nx⟩) (id := b + i) (k := fun u' f' => u' = vs i ∧ f' = f) ⟨st, free, fun x β v hx _ => ?_, fun t ht => hfit o hmem t ht⟩ ?_ hC hc0 evs g2)
          · have hHx := g3 x β hx
            cases S with
            | none => exact ⟨β, hHx, wkR_refl β⟩
            | some y =>
              obtain ⟨s, c, β0, γ⟩ := y
              obtain ⟨_, _, _, _, _, hc1, hc2, _⟩ := hS s c β0 γ rfl
              dsimp only [lateHp]
              split
              · by_cases e : x = c
                · subst e
                  rw [hc1] at hHx
                  cases hHx
                  exact ⟨γ, upd_same _ _ _, hc2⟩
                · exact ⟨β, (upd_ne _ _ e).trans hHx, wkR_refl β⟩
              · exact ⟨β, hHx, wkR_refl β⟩
          · rintro u' f' ⟨rfl, rfl⟩ φ' a' w' st'
            have st2 := st'.put' (hp2 := (f'.md true).app (b + i) (lateHp S H (fun q => l.getD q false))) fun τ ht => st_hp ht
            refine go a' w' _ ?_ hI' ⟨φ', st2⟩
            rw [e1]
            have new : ∀ β, f'.md true = .new β → upd (lateHp S H (fun q => l.getD q false)) (b + i) (some β) = lateHp S H (fun q => l.getD q false) := by
              intro β hβ
              have h1 := g4 β hβ
              have h2 : lateHp S H (fun q => l.getD q false) (b + i) = some β := by
                cases S with
                | none => exact h1
                | some y =>
                  obtain ⟨s, c, β0, γ⟩ := y
                  dsimp only [lateHp]
                  split
                  · rename_i hs
                    exact (upd_ne _ _ fun e => hI s c β0 γ rfl hs i hind h0 e.symm).trans h1
                  · exact h1
              funext x
              by_cases e : x = b + i
              · subst e; exact (upd_same _ _ _).trans h2.symm
              · exact upd_ne _ _ e
            cases f' with
            | none => rfl
            | new β => exact new β rfl
            | alc t z => exact new _ rfl
            | set _ _ => cases g1
            | grow _ _ => cases g1
            | frz bs =>
              cases bs with
              | nil => exact frz_nil _ _
              | cons _ _ => cases g1
        · unfold Unwant at hu
          split at hu
          · exact hu.elim
          · rename_i g want hg
            have hnw : ¬ Region.wanted o (yielded ops a.tmps) = true := by
              obtain ⟨d, hb, ⟨t, ht, hne⟩ | ht⟩ := hu
              · simp [Region.wanted, hg, grd g want hg d t hb ht, hne]
              · have hy : yielded ops a.tmps g = none := by
                  refine yielded_und (ops := ops) st hb ?_
                  show tmAt ops nd vs σ0.tm (fun q => l.getD q false) d = _
                  rw [← look d (List.mem_append_right _ (by rw [hg]; simp [hb])), ht]
                simp [Region.wanted, hg, hy]
            rw [if_neg hnw]
            refine go _ w _ e1.symm hI' ⟨φ, ?_⟩
            rw [hj]
            exact (st.sub fun x hx => hx.1).putU o.dst fun t ht => hfit o hmem t ht
end
end Go.Proofs.YtaphbajfjmhpnaaDoor
