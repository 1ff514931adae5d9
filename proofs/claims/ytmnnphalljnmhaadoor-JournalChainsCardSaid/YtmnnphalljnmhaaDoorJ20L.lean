/-
  Chapter 20, plain: journals of accepted entries, and one entry changed. Conditions: those that each theorem states.
-/
import Derived.Test.YtmnnphalljnmhaaDoorJ20I
import Derived.Test.YtmnnphalljnmhaaDoorGNum
namespace Go.Proofs.YtmnnphalljnmhaaDoor
open Go.RowKit
set_option maxRecDepth 100000
set_option linter.unusedSimpArgs false

theorem good_at {j : List EntV} (h : GoodJ j) {i : Nat} {y : EntV} (hy : j[i]? = some y) : examE (j.take i) y = 0 ∧ sealE y i (chainL (j.take i)) = y := by
  have := h.ok i y hy
  unfold badE at this
  exact ⟨Classical.byContradiction fun h => this (.inl h), Classical.byContradiction fun h => this (.inr h)⟩
theorem good_id {j : List EntV} (h : GoodJ j) {i : Nat} {y : EntV} (hy : j[i]? = some y) : y.id = (i : Int) + 1 := (congrArg EntV.id (good_at h hy).2).symm
theorem good_key {j : List EntV} (h : GoodJ j) {i k : Nat} {x y : EntV} (hk : k < i) (hx : j[k]? = some x) (hy : j[i]? = some y) : x.key ≠ y.key := by
  have h1 := (exam_not (good_at h hy).1).2.1
  have hm : x ∈ j.take i := List.mem_of_getElem? (show (j.take i)[k]? = some x by rw [List.getElem?_take, if_pos hk]; exact hx)
  have := List.any_eq_false.1 h1 x hm
  simpa using this
theorem last_take {j : List EntV} {i : Nat} {p : EntV} (hi : i ≤ j.length) (h0 : 0 < i) (hp : j[i - 1]? = some p) : chainL (j.take i) = p.chain ∧ dayL (j.take i) = p.booked := by
  have hl : (j.take i).length = i := by rw [List.length_take]; omega
  refine chainL_at ?_
  rw [hl, List.getElem?_take, if_pos (by omega)]
  exact hp
theorem good_day {j : List EntV} (h : GoodJ j) : ∀ {i k : Nat} {x y : EntV}, k < i → j[k]? = some x → j[i]? = some y → x.booked ≤ y.booked := by
  intro i
  induction i with
  | zero => intro k x y hk; omega
  | succ i ih =>
    intro k x y hk hx hy
    have hil := (List.getElem?_eq_some_iff.1 hy).1
    have hp : j[i]? = some j[i] := List.getElem?_eq_getElem (by omega)
    generalize j[i] = p at hp
    have h1 := (exam_not (good_at h hy).1).2.2.1
    rw [(last_take (i := i + 1) (by omega) (by omega) hp).2] at h1
    have h2 : p.booked ≤ y.booked := by
      rcases Int.lt_or_le y.booked p.booked with h3 | h3
      · exact absurd ⟨take_ne (by omega) (by omega), h3⟩ h1
      · exact h3
    rcases Nat.lt_or_ge k i with hki | hki
    · have := ih hki hx hp; omega
    · have : k = i := by omega
      subst this
      rw [hp] at hx
      cases hx
      exact h2
def chg (c w : EntV) : EntV := { c with id := w.id, chain := w.chain }
theorem chg_fit {c w : EntV} (hc : c.Fit) (hw : w.Fit) : (chg c w).Fit := by
  refine ⟨⟨hw.ok.i1, hc.ok.i2, hc.ok.i3, hc.ok.i4, hc.ok.i5, hc.ok.i6, hc.ok.k, hc.ok.t, hc.ok.l, hc.ok.n, hw.ok.c⟩, fun m hm => ?_, hc.rt.l, hc.rt.n, hc.rt.k, hc.rt.t⟩
  unfold nums chg at hm
  simp only [List.mem_cons, List.not_mem_nil, or_false] at hm
  rcases hm with rfl | rfl | rfl | rfl | rfl | rfl
  · exact hw.ok.i1
  · exact hc.ok.i2
  · exact hc.ok.i3
  · exact hc.ok.i4
  · exact hc.ok.i5
  · exact hc.ok.i6
def chgd (j : List EntV) (k : Nat) (x : EntV) : List EntV := j.take k ++ [x] ++ j.drop (k + 1)
theorem chgd_len {j : List EntV} {k : Nat} {x : EntV} (hk : k < j.length) : (chgd j k x).length = j.length := by
  unfold chgd
  simp only [List.length_append, List.length_take, List.length_drop, List.length_cons, List.length_nil]
  omega
theorem chgd_take {j : List EntV} {k : Nat} {x : EntV} (hk : k < j.length) : (chgd j k x).take k = j.take k := by
  unfold chgd
  have hl : (j.take k).length = k := by rw [List.length_take]; omega
  rw [List.append_assoc, List.take_append_of_le_length (by omega), List.take_of_length_le (by omega)]
theorem chgd_at {j : List EntV} {k : Nat} {x : EntV} (hk : k < j.length) : (chgd j k x)[k]? = some x := by
  unfold chgd
  have hl : (j.take k).length = k := by rw [List.length_take]; omega
  rw [List.append_assoc, List.getElem?_append_right (by omega), hl, Nat.sub_self]; rfl
theorem chgd_same {j : List EntV} {k : Nat} {w : EntV} (h : j[k]? = some w) : chgd j k w = j := by
  unfold chgd
  obtain ⟨hk, rfl⟩ := List.getElem?_eq_some_iff.1 h
  rw [List.append_assoc, List.singleton_append, ← List.drop_eq_getElem_cons hk, List.take_append_drop]
theorem chgd_fits {j : List EntV} {k : Nat} {x : EntV} (hj : Fits j) (hx : x.Fit) : Fits (chgd j k x) := by
  intro e he
  unfold chgd at he
  rcases List.mem_append.1 he with h | h
  · rcases List.mem_append.1 h with h | h
    · exact hj e (List.mem_of_mem_take h)
    · rw [List.mem_singleton.1 h]; exact hx
  · exact hj e (List.mem_of_mem_drop h)
theorem chgd_ents (j : List EntV) (k : Nat) (x : EntV) : (ents j).take k ++ [[.ex (.int .i64 x.id), .ex (.int .i64 x.booked), .ex (.int .i64 x.value), .ex (.int .i64 x.kind), .ex (.int .i64 x.auth), .ex (.int .i64 x.period), .ex (.string x.key), .ex (.string x.text), .sl (legsC x.legs), .ex (.int .u64 x.chain)]] ++ (ents j).drop (k + 1) = ents (chgd j k x) := by
  simp [ents, chgd, List.map_take, List.map_drop, entC]
theorem chg_ver {j : List EntV} (h : GoodJ j) {k : Nat} {w c : EntV} (hw : j[k]? = some w) (hv : verE (chgd j k (chg c w)) = -1) : dchain (chainL (j.take k)) (encE (chg c w)).data.toList = w.chain := by
  have hk := (List.getElem?_eq_some_iff.1 hw).1
  have h1 := verE_ok hv k _ (chgd_at hk)
  unfold badE at h1
  rw [chgd_take hk] at h1
  have h2 : sealE (chg c w) k (chainL (j.take k)) = chg c w := Classical.byContradiction fun h => h1 (.inr h)
  have h3 := congrArg EntV.chain h2
  have h4 : idE (chg c w) k = chg c w := by
    unfold idE chg
    rw [good_id h hw]
  have h5 : (sealE (chg c w) k (chainL (j.take k))).chain = dchain (chainL (j.take k)) (encE (idE (chg c w) k)).data.toList := rfl
  rw [h5, h4] at h3
  exact h3
theorem packB_inj {a b : List ByteArray} (ha : ∀ s ∈ a, s.size ≤ 16384) (hb : ∀ s ∈ b, s.size ≤ 16384) (h : packB a = packB b) : a = b := by
  have h1 := unp_pack a ha
  have h2 := unp_pack b hb
  rw [h, h2] at h1
  exact (Prod.mk.inj h1).1.symm
theorem bytes_inj {a b : List UInt8} (h : (⟨a.toArray⟩ : ByteArray) = ⟨b.toArray⟩) : a = b := by
  have := congrArg (fun x : ByteArray => x.data.toList) h
  simpa using this
theorem iB_inj {m n : Int} (hm : In64 m) (hn : In64 n) (h : iB m = iB n) : m = n := by
  have h1 := (take_itoa m hm.1 hm.2).2
  have h2 := (take_itoa n hn.1 hn.2).2
  rw [bytes_inj h, h2] at h1
  exact h1.symm
theorem encL_inj {x y : LegV} (hx : In64 x.account ∧ In64 x.amount ∧ x.cur.size ≤ 100) (hy : In64 y.account ∧ In64 y.amount ∧ y.cur.size ≤ 100) (h : encL x = encL y) : x = y := by
  have sz : ∀ {z : LegV}, (In64 z.account ∧ In64 z.amount ∧ z.cur.size ≤ 100) → ∀ s ∈ [iB z.account, iB z.amount, z.cur], s.size ≤ 16384 := fun {z} hz s hs => by
    simp only [List.mem_cons, List.not_mem_nil, or_false] at hs
    rcases hs with rfl | rfl | rfl
    · exact Nat.le_trans (iB_size hz.1) (by decide)
    · exact Nat.le_trans (iB_size hz.2.1) (by decide)
    · omega
  have h1 := packB_inj (sz hx) (sz hy) (bytes_inj h)
  simp only [List.cons.injEq, and_true] at h1
  obtain ⟨h2, h3, h4⟩ := h1
  cases x; cases y
  simp only at h2 h3 h4 hx hy
  rw [iB_inj hx.1 hy.1 h2, iB_inj hx.2.1 hy.2.1 h3, h4]
theorem map_inj {l m : List LegV} (hl : ∀ x ∈ l, In64 x.account ∧ In64 x.amount ∧ x.cur.size ≤ 100) (hm : ∀ x ∈ m, In64 x.account ∧ In64 x.amount ∧ x.cur.size ≤ 100) (h : l.map encL = m.map encL) : l = m := by
  induction l generalizing m with
  | nil => cases m with
    | nil => rfl
    | cons _ _ => cases h
  | cons x l ih => cases m with
    | nil => cases h
    | cons y m =>
      rw [List.map_cons, List.map_cons] at h
      obtain ⟨h1, h2⟩ := List.cons.inj h
      rw [encL_inj (hl x List.mem_cons_self) (hm y List.mem_cons_self) h1, ih (fun z hz => hl z (List.mem_cons_of_mem _ hz)) (fun z hz => hm z (List.mem_cons_of_mem _ hz)) h2]
theorem enc_inj {a b : EntV} (ha : a.Rt) (hb : b.Rt) (hc : a.chain = b.chain) (h : encE a = encE b) : a = b := by
  have h1 := packB_inj (fun s hs => Nat.le_trans (flds_size ha s hs) (by decide)) (fun s hs => Nat.le_trans (flds_size hb s hs) (by decide)) (bytes_inj h)
  unfold fldsE nums itoaBs at h1
  simp only [List.map_cons, List.map_nil, List.cons_append, List.nil_append, List.cons.injEq, and_true] at h1
  obtain ⟨g1, g2, g3, g4, g5, g6, gk, gt, gl⟩ := h1
  have hn : ∀ {z : EntV}, z.Rt → In64 z.id ∧ In64 z.booked ∧ In64 z.value ∧ In64 z.kind ∧ In64 z.auth ∧ In64 z.period := fun {z} hz => by
    have := hz.i
    unfold nums at this
    refine ⟨this _ ?_, this _ ?_, this _ ?_, this _ ?_, this _ ?_, this _ ?_⟩ <;> simp
  obtain ⟨a1, a2, a3, a4, a5, a6⟩ := hn ha
  obtain ⟨b1, b2, b3, b4, b5, b6⟩ := hn hb
  have sz : ∀ {z : EntV}, z.Rt → ∀ s ∈ z.legs.map encL, s.size ≤ 16384 := fun {z} hz s hs => by
    obtain ⟨x, hx, rfl⟩ := List.mem_map.1 hs
    exact Nat.le_trans (encL_300 (hz.l x hx)) (by decide)
  have hl := map_inj ha.l hb.l (packB_inj (sz ha) (sz hb) (bytes_inj gl))
  cases a; cases b
  simp only at *
  rw [iB_inj a1 b1 g1, iB_inj a2 b2 g2, iB_inj a3 b3 g3, iB_inj a4 b4 g4, iB_inj a5 b5 g5, iB_inj a6 b6 g6, gk, gt, hl, hc]

end Go.Proofs.YtmnnphalljnmhaaDoor
