/-
  Chapter 19, plain: encodings. Conditions: those that each theorem states.
-/
import Derived.Test.YtmnnphalljnmhaaDoorC19Q
namespace Go.Proofs.YtmnnphalljnmhaaDoor
open Go.RowKit
set_option maxRecDepth 100000
set_option linter.unusedSimpArgs false

/-! Encodings. -/
theorem iB_take {n : Int} (h : In64 n) : takeE (iB n).data.toList = 0 ∧ takeV (iB n).data.toList = n := by
  have := take_itoa n h.1 h.2
  exact this
theorem legD_enc {x : LegV} (h1 : In64 x.account) (h2 : In64 x.amount) (h3 : x.cur.size ≤ 16384) : legD (encL x) = (x, 0) := by
  have e : unpF (encL x).data.toList = ([iB x.account, iB x.amount, x.cur], 0) := unp_pack _ fun s hs => by
    simp only [List.mem_cons, List.not_mem_nil, or_false] at hs
    rcases hs with rfl | rfl | rfl
    · exact Nat.le_trans (iB_size h1) (by decide)
    · exact Nat.le_trans (iB_size h2) (by decide)
    · exact h3
  rw [legD_3 e, if_pos (iB_take h1).1, if_pos (iB_take h2).1, (iB_take h1).2, (iB_take h2).2]
theorem legsT_enc : ∀ {l : List LegV}, (∀ x ∈ l, In64 x.account ∧ In64 x.amount ∧ x.cur.size ≤ 16384) → legsT (l.map encL) = (l, 0)
  | [], _ => rfl
  | x :: l, h => by
    have hx := h x List.mem_cons_self
    have h2 := legsT_enc fun y hy => h y (List.mem_cons_of_mem _ hy)
    rw [List.map_cons, legsT, legD_enc hx.1 hx.2.1 hx.2.2, h2, if_pos rfl, if_pos rfl]
/-- The conditions of the round trip. -/
structure EntV.Rt (e : EntV) : Prop where
  i : ∀ n ∈ nums e, In64 n
  l : ∀ x ∈ e.legs, In64 x.account ∧ In64 x.amount ∧ x.cur.size ≤ 100
  n : e.legs.length ≤ 30
  k : e.key.size ≤ 1000
  t : e.text.size ≤ 1000
theorem EntV.Rt.sm {e : EntV} (h : e.Rt) : e.Sm := ⟨h.i, fun x hx => ⟨(h.l x hx).1, (h.l x hx).2.1, Nat.le_trans (h.l x hx).2.2 (by decide)⟩, Nat.le_trans h.n (by decide), Nat.le_trans h.k (by decide), Nat.le_trans h.t (by decide)⟩
theorem encL_300 {x : LegV} (h : In64 x.account ∧ In64 x.amount ∧ x.cur.size ≤ 100) : (encL x).size ≤ 300 := by
  unfold encL
  rw [mk_size]
  have h1 := iB_size h.1
  have h2 := iB_size h.2.1
  have h3 := h.2.2
  have := packB_len [iB x.account, iB x.amount, x.cur] (fun s hs => by
    simp only [List.mem_cons, List.not_mem_nil, or_false] at hs
    rcases hs with rfl | rfl | rfl <;> omega)
  simp only [sizes_cons, sizes_nil, List.length_cons, List.length_nil] at this
  omega
theorem encLs_10k {e : EntV} (h : e.Rt) : (encLs e.legs).size ≤ 10000 := by
  unfold encLs
  rw [mk_size]
  have hs : ∀ s ∈ e.legs.map encL, s.size ≤ 300 := fun s hs => by
    obtain ⟨x, hx, rfl⟩ := List.mem_map.1 hs
    exact encL_300 (h.l x hx)
  have h1 := packB_len (e.legs.map encL) fun s h => Nat.le_trans (hs s h) (by decide)
  have h2 := sizes_bound hs
  rw [List.length_map] at h1 h2
  have := h.n
  omega
theorem flds_size {e : EntV} (h : e.Rt) : ∀ s ∈ fldsE e, s.size ≤ 10000 := by
  intro s hs
  unfold fldsE at hs
  rcases List.mem_append.1 hs with hs | hs
  · exact Nat.le_trans (itoaBs_sizes h.i s hs) (by decide)
  · have hk := h.k
    have ht := h.t
    have hl := encLs_10k h
    simp only [List.mem_cons, List.not_mem_nil, or_false] at hs
    rcases hs with rfl | rfl | rfl <;> omega
theorem encE_size {e : EntV} (h : e.Rt) : (encE e).size ≤ 100000 := by
  unfold encE
  rw [mk_size]
  have h1 := packB_len (fldsE e) fun s hs => Nat.le_trans (flds_size h s hs) (by decide)
  have h2 := sizes_bound (flds_size h)
  have h3 : (fldsE e).length = 9 := rfl
  omega
theorem sixE_nums {l : List Int} (h : ∀ n ∈ l, In64 n) : sixE (itoaBs l) = 0 := sixE_ok fun j y hy => by
  obtain ⟨n, hn, rfl⟩ := List.mem_map.1 (List.mem_of_getElem? hy)
  exact (iB_take (h n hn)).1
theorem legsD_enc {e : EntV} (h : e.Rt) : legsD (encLs e.legs) = (e.legs, 0) := by
  have e1 : unpF (encLs e.legs).data.toList = (e.legs.map encL, 0) := unp_pack _ fun s hs => by
    obtain ⟨x, hx, rfl⟩ := List.mem_map.1 hs
    exact Nat.le_trans (encL_300 (h.l x hx)) (by decide)
  unfold legsD
  rw [e1, if_pos rfl]
  exact legsT_enc fun x hx => ⟨(h.l x hx).1, (h.l x hx).2.1, Nat.le_trans (h.l x hx).2.2 (by decide)⟩
/-- An entry is restored from its encoding, but for its chain. -/
theorem dec_enc {e : EntV} (h : e.Rt) : decE (encE e) = ({ e with chain := 0 }, 0) := by
  have e1 : unpF (encE e).data.toList = (fldsE e, 0) := unp_pack _ fun s hs => Nat.le_trans (flds_size h s hs) (by decide)
  unfold decE
  rw [e1, if_pos rfl]
  have e2 : fldsE e = [iB e.id, iB e.booked, iB e.value, iB e.kind, iB e.auth, iB e.period, e.key, e.text, encLs e.legs] := rfl
  rw [e2]
  unfold decG
  have e3 : sixE [iB e.id, iB e.booked, iB e.value, iB e.kind, iB e.auth, iB e.period] = 0 := sixE_nums h.i
  have hi := h.i
  unfold nums at hi
  simp only [List.mem_cons, List.not_mem_nil, or_false, forall_eq_or_imp, forall_eq] at hi
  obtain ⟨i1, i2, i3, i4, i5, i6⟩ := hi
  dsimp only
  rw [e3, if_pos rfl, legsD_enc h, if_pos rfl, (iB_take i1).2, (iB_take i2).2, (iB_take i3).2, (iB_take i4).2, (iB_take i5).2, (iB_take i6).2]
/-! What was decoded is its encoding. -/
theorem bytes_of {s : ByteArray} {l : List UInt8} (h : l = s.data.toList) : (⟨l.toArray⟩ : ByteArray) = s := by subst h; rfl
theorem iB_back {t : ByteArray} (h : takeE t.data.toList = 0) : iB (takeV t.data.toList) = t := by
  unfold iB
  rw [itoa_take h]
theorem packs_le : ∀ {l : List ByteArray} {t : ByteArray}, t ∈ l → t.size ≤ (packB l).length
  | [], _, h => by cases h
  | a :: l, t, h => by
    rw [packB_cons]
    simp only [List.length_append, List.length_cons, size_toList]
    rcases List.mem_cons.1 h with e | e
    · subst e; omega
    · have := packs_le e; omega
theorem unp_back {s : ByteArray} {l : List ByteArray} (h : unpF s.data.toList = (l, 0)) : packB l = s.data.toList ∧ ∀ t ∈ l, t.size ≤ s.size := by
  have e := pack_unp s.data.toList.length s.data.toList (Nat.le_refl _) (by rw [h])
  rw [h] at e
  refine ⟨e, fun t ht => ?_⟩
  have := packs_le ht
  rw [e, size_toList] at this
  exact this
theorem legD_back {t : ByteArray} (h : (legD t).2 = 0) : encL (legD t).1 = t ∧ In64 (legD t).1.account ∧ In64 (legD t).1.amount ∧ (legD t).1.cur.size ≤ t.size := by
  obtain ⟨⟨l, e⟩, hU⟩ : ∃ u, unpF t.data.toList = u := ⟨_, rfl⟩
  by_cases he : e = 0
  · subst he
    by_cases h3 : l.length = 3
    · obtain ⟨a, b, c, rfl⟩ := three h3
      rw [legD_3 hU] at h ⊢
      by_cases ha : takeE a.data.toList = 0
      · by_cases hb : takeE b.data.toList = 0
        · rw [if_pos ha, if_pos hb]
          obtain ⟨e1, e2⟩ := unp_back hU
          refine ⟨?_, takeV_bounds _, takeV_bounds _, e2 c (by simp)⟩
          unfold encL
          dsimp only
          rw [iB_back ha, iB_back hb]
          exact bytes_of e1
        · rw [if_pos ha, if_neg hb] at h; exact absurd h hb
      · rw [if_neg ha] at h; exact absurd h ha
    · rw [legD_len hU h3] at h; cases h
  · rw [legD_bad hU he] at h; exact absurd h he
theorem legsT_back : ∀ {l : List ByteArray}, (legsT l).2 = 0 → (legsT l).1.map encL = l ∧ ∀ x ∈ (legsT l).1, In64 x.account ∧ In64 x.amount ∧ ∃ t ∈ l, x.cur.size ≤ t.size
  | [], _ => ⟨rfl, fun x h => (by cases h)⟩
  | t :: l, h => by
    rw [legsT] at h ⊢
    by_cases h1 : (legD t).2 = 0
    · rw [if_pos h1] at h ⊢
      by_cases h2 : (legsT l).2 = 0
      · rw [if_pos h2]
        obtain ⟨a1, a2⟩ := legsT_back h2
        obtain ⟨b1, b2, b3, b4⟩ := legD_back h1
        refine ⟨by rw [List.map_cons, b1, a1], fun x hx => ?_⟩
        rcases List.mem_cons.1 hx with e | e
        · subst e; exact ⟨b2, b3, t, List.mem_cons_self, b4⟩
        · obtain ⟨c1, c2, t', c3, c4⟩ := a2 x e
          exact ⟨c1, c2, t', List.mem_cons_of_mem _ c3, c4⟩
      · rw [if_neg h2] at h; exact absurd h h2
    · rw [if_neg h1] at h; exact absurd h h1
theorem legsD_back {s : ByteArray} (h : (legsD s).2 = 0) : encLs (legsD s).1 = s ∧ (legsD s).1.length ≤ s.size ∧ ∀ x ∈ (legsD s).1, In64 x.account ∧ In64 x.amount ∧ x.cur.size ≤ s.size := by
  unfold legsD at h ⊢
  obtain ⟨⟨l, e⟩, hU⟩ : ∃ u, unpF s.data.toList = u := ⟨_, rfl⟩
  rw [hU] at h ⊢
  dsimp only at h ⊢
  by_cases he : e = 0
  · subst he
    rw [if_pos rfl] at h ⊢
    obtain ⟨a1, a2⟩ := legsT_back h
    obtain ⟨e1, e2⟩ := unp_back hU
    refine ⟨?_, Nat.le_trans (legsT_len l) (unp_many hU), fun x hx => ?_⟩
    · unfold encLs
      rw [a1]
      exact bytes_of e1
    · obtain ⟨c1, c2, t, c3, c4⟩ := a2 x hx
      exact ⟨c1, c2, Nat.le_trans c4 (e2 t c3)⟩
  · rw [if_neg he] at h; exact absurd h he
theorem sixE_zero : ∀ {l : List ByteArray}, sixE l = 0 → ∀ t ∈ l, takeE t.data.toList = 0
  | [], _, _, h => by cases h
  | a :: l, h, t, ht => by
    unfold sixE at h
    by_cases h0 : takeE a.data.toList = 0
    · rw [if_pos h0] at h
      rcases List.mem_cons.1 ht with e | e
      · rw [e]; exact h0
      · exact sixE_zero h t e
    · rw [if_neg h0] at h; exact absurd h h0
theorem dec_back {s : ByteArray} (hs : s.size ≤ 5000) (h : (decE s).2 = 0) : encE (decE s).1 = s ∧ (decE s).1.Sm := by
  unfold decE at h ⊢
  obtain ⟨⟨l, e⟩, hU⟩ : ∃ u, unpF s.data.toList = u := ⟨_, rfl⟩
  rw [hU] at h ⊢
  dsimp only at h ⊢
  by_cases he : e = 0
  · subst he
    rw [if_pos rfl] at h ⊢
    by_cases h9 : l.length = 9
    · obtain ⟨a, b, c, d, f, g, k, t, j, rfl⟩ := nine h9
      obtain ⟨e1, e2⟩ := unp_back hU
      have hdef : decG [a, b, c, d, f, g, k, t, j] = if sixE [a, b, c, d, f, g] = 0 then (if (legsD j).2 = 0 then (⟨takeV a.data.toList, takeV b.data.toList, takeV c.data.toList, takeV d.data.toList, takeV f.data.toList, takeV g.data.toList, k, t, (legsD j).1, 0⟩, 0) else (zeroE, (legsD j).2)) else (zeroE, sixE [a, b, c, d, f, g]) := rfl
      rw [hdef] at h ⊢
      by_cases h6 : sixE [a, b, c, d, f, g] = 0
      · rw [if_pos h6] at h ⊢
        by_cases hj : (legsD j).2 = 0
        · rw [if_pos hj]
          obtain ⟨b1, b2, b3⟩ := legsD_back hj
          have hz := sixE_zero h6
          have hjs := e2 j (by simp)
          refine ⟨?_, ?_, fun x hx => ?_, ?_, ?_, ?_⟩
          · show (⟨(packB [iB (takeV a.data.toList), iB (takeV b.data.toList), iB (takeV c.data.toList), iB (takeV d.data.toList), iB (takeV f.data.toList), iB (takeV g.data.toList), k, t, encLs (legsD j).1]).toArray⟩ : ByteArray) = s
            rw [iB_back (hz a (by simp)), iB_back (hz b (by simp)), iB_back (hz c (by simp)), iB_back (hz d (by simp)), iB_back (hz f (by simp)), iB_back (hz g (by simp)), b1]
            exact bytes_of e1
          · intro n hn
            unfold nums at hn
            simp only [List.mem_cons, List.not_mem_nil, or_false] at hn
            rcases hn with rfl | rfl | rfl | rfl | rfl | rfl <;> exact takeV_bounds _
          · have := b3 x hx
            exact ⟨this.1, this.2.1, by omega⟩
          · show (legsD j).1.length ≤ 10000
            omega
          · have := e2 k (by simp)
            show k.size ≤ 10000
            omega
          · have := e2 t (by simp)
            show t.size ≤ 10000
            omega
        · rw [if_neg hj] at h; exact absurd h hj
      · rw [if_neg h6] at h; exact absurd h h6
    · rw [decG_len h9] at h; cases h
  · rw [if_neg he] at h; exact absurd h he
end Go.Proofs.YtmnnphalljnmhaaDoor
