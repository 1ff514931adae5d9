/-
  Chapter 19, plain: the size of an encoding. Conditions: those that each theorem states.
-/
import Derived.Test.YtmnnphalljnmhaaDoorC19O
namespace Go.Proofs.YtmnnphalljnmhaaDoor
open Go.RowKit
set_option maxRecDepth 100000
set_option linter.unusedSimpArgs false

/-- The conditions of the round trip. -/
structure EntV.Rt (e : EntV) : Prop where
  i : ∀ n ∈ nums e, In64 n
  l : ∀ x ∈ e.legs, In64 x.account ∧ In64 x.amount ∧ x.cur.size ≤ 100
  n : e.legs.length ≤ 30
  k : e.key.size ≤ 1000
  t : e.text.size ≤ 1000
theorem EntV.Rt.sm {e : EntV} (h : e.Rt) : e.Sm := ⟨h.i, fun x hx => ⟨(h.l x hx).1, (h.l x hx).2.1, Nat.le_trans (h.l x hx).2.2 (by decide)⟩, Nat.le_trans h.n (by decide), Nat.le_trans h.k (by decide), Nat.le_trans h.t (by decide)⟩
theorem encL_300 {x : LegV} (h : In64 x.account ∧ In64 x.amount ∧ x.cur.size ≤ 100) : (encL x).size ≤ 300 := by
  unfold encL
  rw [mk_size]
  have h1 := iB_size h.1
  have h2 := iB_size h.2.1
  have h3 := h.2.2
  have := packB_len [iB x.account, iB x.amount, x.cur] (fun s hs => by
    simp only [List.mem_cons, List.not_mem_nil, or_false] at hs
    rcases hs with rfl | rfl | rfl <;> omega)
  simp only [sizes_cons, sizes_nil, List.length_cons, List.length_nil] at this
  omega
theorem encLs_10k {e : EntV} (h : e.Rt) : (encLs e.legs).size ≤ 10000 := by
  unfold encLs
  rw [mk_size]
  have hs : ∀ s ∈ e.legs.map encL, s.size ≤ 300 := fun s hs => by
    obtain ⟨x, hx, rfl⟩ := List.mem_map.1 hs
    exact encL_300 (h.l x hx)
  have h1 := packB_len (e.legs.map encL) fun s h => Nat.le_trans (hs s h) (by decide)
  have h2 := sizes_bound hs
  rw [List.length_map] at h1 h2
  have := h.n
  omega
theorem flds_size {e : EntV} (h : e.Rt) : ∀ s ∈ fldsE e, s.size ≤ 10000 := by
  intro s hs
  unfold fldsE at hs
  rcases List.mem_append.1 hs with hs | hs
  · exact Nat.le_trans (itoaBs_sizes h.i s hs) (by decide)
  · have hk := h.k
    have ht := h.t
    have hl := encLs_10k h
    simp only [List.mem_cons, List.not_mem_nil, or_false] at hs
    rcases hs with rfl | rfl | rfl <;> omega
theorem encE_size {e : EntV} (h : e.Rt) : (encE e).size ≤ 100000 := by
  unfold encE
  rw [mk_size]
  have h1 := packB_len (fldsE e) fun s hs => Nat.le_trans (flds_size h s hs) (by decide)
  have h2 := sizes_bound (flds_size h)
  have h3 : (fldsE e).length = 9 := rfl
  omega
end Go.Proofs.YtmnnphalljnmhaaDoor
