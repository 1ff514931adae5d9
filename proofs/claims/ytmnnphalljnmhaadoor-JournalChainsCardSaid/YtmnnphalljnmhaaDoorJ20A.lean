/-
  Chapter 20, plain: journals; and the contracts of the digests. Conditions: those that each theorem states.
-/
import Derived.Test.YtmnnphalljnmhaaDoorC19S0
import Derived.Test.YtmnnphalljnmhaaDoorC19M
import Derived.Test.YtmnnphalljnmhaaDoorOpen19
import Derived.Test.YtmnnphalljnmhaaDoorDigJ
namespace Go.Proofs.YtmnnphalljnmhaaDoor
open Go.RowKit
set_option maxRecDepth 100000
set_option linter.unusedSimpArgs false

theorem Chain_con (p : Int) (s : ByteArray) (hp : U64 p) (hs : s.size ≤ maxLen) : Con Tryd.prog CtxP 92 [.ex (.int .u64 p), .ex (.string s)] (.val (.ex (.int .u64 (dchain p s.data.toList)))) :=
  con_ex' (vs := [.int .u64 p, .string s]) ⟨_, Tryd.func92, rfl, rfl⟩ rfl fun w => Chain_any p s w hp hs
theorem RChain_con (p : Int) (s : ByteArray) (hp : U64 p) (hs : s.size ≤ maxLen) : Con Tryd.prog CtxP 33 [.ex (.int .u64 p), .ex (.string s)] (.val (.ex (.int .u64 (dchain p s.data.toList)))) :=
  con_ex (vs := [.int .u64 p, .string s]) ⟨_, Tryd.func33, rfl, rfl⟩ rfl fun w _ => RChain_any p s w hp hs
/-! Entries in a row. -/
def ents (l : List EntV) : List (List AV) := l.map entC
theorem ents_len (l : List EntV) : (ents l).length = l.length := by simp [ents]
theorem ents_get {l : List EntV} {k : Nat} {e : EntV} (h : l[k]? = some e) : (ents l)[k]? = some [.ex (.int .i64 e.id), .ex (.int .i64 e.booked), .ex (.int .i64 e.value), .ex (.int .i64 e.kind), .ex (.int .i64 e.auth), .ex (.int .i64 e.period), .ex (.string e.key), .ex (.string e.text), .sl (legsC e.legs), .ex (.int .u64 e.chain)] := by rw [ents, List.getElem?_map, h]; rfl
theorem ents_ten (l : List EntV) : ∀ n ∈ ents l, n.length = 10 := by
  intro n hn
  obtain ⟨x, _, rfl⟩ := List.mem_map.1 hn
  rfl
theorem ents_all (l : List EntV) : ((ents l).all (·.all p0)) = true := by
  rw [List.all_eq_true]
  intro r hr
  obtain ⟨x, _, rfl⟩ := List.mem_map.1 hr
  rfl
theorem ents_z0 (l : List EntV) : (ents l).map (·.map z0) = ents l := by
  rw [ents, List.map_map]; exact List.map_congr_left fun _ _ => rfl
theorem ents_take (l : List EntV) (k : Nat) : (ents l).take k = ents (l.take k) := by simp [ents, List.map_take]
theorem ents_app (a b : List EntV) : ents (a ++ b) = ents a ++ ents b := by simp [ents]
theorem ents_app1 (a : List EntV) (e : EntV) : ents a ++ [[.ex (.int .i64 e.id), .ex (.int .i64 e.booked), .ex (.int .i64 e.value), .ex (.int .i64 e.kind), .ex (.int .i64 e.auth), .ex (.int .i64 e.period), .ex (.string e.key), .ex (.string e.text), .sl (legsC e.legs), .ex (.int .u64 e.chain)]] = ents (a ++ [e]) := by simp [ents, entC]
theorem ents_nil : ents [] = [] := rfl
/-! What a journal is. -/
structure EntV.Fit (e : EntV) : Prop where
  ok : e.Ok
  rt : e.Rt
def Fits (j : List EntV) : Prop := ∀ e ∈ j, e.Fit
theorem fit_of {e : EntV} (h : e.Wf) (hg : greatE e = false) : e.Fit := by
  obtain ⟨g1, g2, g3, g4⟩ := not_great hg
  refine ⟨⟨h.i1, h.i2, h.i3, h.i4, h.i5, h.i6, h.k, h.t, h.l, by omega, h.c⟩, fun n hn => ?_, fun x hx => ⟨(h.l x hx).1, (h.l x hx).2.1, g4 x hx⟩, g1, g2, g3⟩
  unfold nums at hn
  simp only [List.mem_cons, List.not_mem_nil, or_false] at hn
  rcases hn with rfl | rfl | rfl | rfl | rfl | rfl
  · exact h.i1
  · exact h.i2
  · exact h.i3
  · exact h.i4
  · exact h.i5
  · exact h.i6
def chainL (j : List EntV) : Int := (j.getLast?.map EntV.chain).getD 0
def dayL (j : List EntV) : Int := (j.getLast?.map EntV.booked).getD (-1)
def idE (e : EntV) (n : Nat) : EntV := { e with id := (n : Int) + 1 }
def sealE (e : EntV) (n : Nat) (c : Int) : EntV := { idE e n with chain := dchain c (encE (idE e n)).data.toList }
def hasK (j : List EntV) (k : ByteArray) : Bool := j.any fun e => decide (e.key = k)
def examE (j : List EntV) (e : EntV) : Int := if checkE e ≠ 0 then checkE e else if hasK j e.key = true then 12 else if j ≠ [] ∧ e.booked < dayL j then 10 else if 4096 ≤ j.length then 5 else 0
def postE (j : List EntV) (e : EntV) : List EntV × Int := if examE j e = 0 then (j ++ [sealE e j.length (chainL j)], 0) else ([], examE j e)
def badE (j : List EntV) (i : Nat) (e : EntV) : Prop := examE (j.take i) e ≠ 0 ∨ sealE e i (chainL (j.take i)) ≠ e
theorem idE_fit {e : EntV} (h : e.Fit) {n : Nat} (hn : n ≤ 5000) : (idE e n).Fit := by
  have hi : In64 ((n : Int) + 1) := by unfold In64; omega
  refine ⟨⟨hi, h.ok.i2, h.ok.i3, h.ok.i4, h.ok.i5, h.ok.i6, h.ok.k, h.ok.t, h.ok.l, h.ok.n, h.ok.c⟩, fun m hm => ?_, h.rt.l, h.rt.n, h.rt.k, h.rt.t⟩
  unfold nums idE at hm
  simp only [List.mem_cons, List.not_mem_nil, or_false] at hm
  rcases hm with rfl | rfl | rfl | rfl | rfl | rfl
  · exact hi
  · exact h.ok.i2
  · exact h.ok.i3
  · exact h.ok.i4
  · exact h.ok.i5
  · exact h.ok.i6
theorem u64_in {n : Int} (h : U64 n) : InU64 n := h
theorem in_u64 {n : Int} (h : InU64 n) : U64 n := h
theorem sealE_fit {e : EntV} (h : e.Fit) {n : Nat} (hn : n ≤ 5000) (c : Int) : (sealE e n c).Fit := by
  have h2 := idE_fit h hn
  exact ⟨⟨h2.ok.i1, h2.ok.i2, h2.ok.i3, h2.ok.i4, h2.ok.i5, h2.ok.i6, h2.ok.k, h2.ok.t, h2.ok.l, h2.ok.n, u64_in (dchain_u64 _ _)⟩, h2.rt.i, h2.rt.l, h2.rt.n, h2.rt.k, h2.rt.t⟩
theorem enc_id {e : EntV} {c : Int} : encE { e with chain := c } = encE e := rfl
theorem seal_seal (e : EntV) (n : Nat) (c : Int) : sealE (sealE e n c) n c = sealE e n c := rfl
theorem check_seal (e : EntV) (n : Nat) (c : Int) : checkE (sealE e n c) = checkE e := rfl
theorem chainL_u64 {j : List EntV} (h : Fits j) : U64 (chainL j) := by
  unfold chainL
  cases hl : j.getLast? with
  | none => unfold U64; simp
  | some e =>
    have : e ∈ j := List.mem_of_getLast? hl
    exact in_u64 (h e this).ok.c
theorem chainL_at {j : List EntV} {e : EntV} (h : j[j.length - 1]? = some e) : chainL j = e.chain ∧ dayL j = e.booked := by
  unfold chainL dayL
  rw [List.getLast?_eq_getElem?, h]
  exact ⟨rfl, rfl⟩
theorem fits_take {j : List EntV} (h : Fits j) (k : Nat) : Fits (j.take k) := fun e he => h e (List.mem_of_mem_take he)
/-- The first place. -/
def firstB {α : Type} (p : α → Bool) : List α → Nat
  | [] => 0
  | a :: l => if p a = true then 0 else firstB p l + 1
theorem firstB_at {α : Type} {p : α → Bool} : ∀ {l : List α} {k : Nat} {x : α}, l[k]? = some x → (∀ (j : Nat) y, j < k → l[j]? = some y → p y = false) → p x = true → firstB p l = k
  | [], _, _, e, _, _ => by cases e
  | a :: l, 0, x, e, _, h => by cases e; unfold firstB; rw [if_pos h]
  | a :: l, k + 1, x, e, h1, h => by
    unfold firstB
    rw [if_neg (by rw [h1 0 a (by omega) rfl]; simp), firstB_at (l := l) (k := k) e (fun j y hj hy => h1 (j + 1) y (by omega) hy) h]
theorem firstB_end {α : Type} {p : α → Bool} : ∀ {l : List α}, (∀ (j : Nat) y, l[j]? = some y → p y = false) → firstB p l = l.length
  | [], _ => rfl
  | a :: l, h => by
    unfold firstB
    rw [if_neg (by rw [h 0 a rfl]; simp), firstB_end fun j y hy => h (j + 1) y hy]; rfl
def idxB {α : Type} (p : α → Bool) (l : List α) : Int := if firstB p l < l.length then firstB p l else -1
theorem idxB_at {α : Type} {p : α → Bool} {l : List α} {k : Nat} {x : α} (e : l[k]? = some x) (h1 : ∀ (j : Nat) y, j < k → l[j]? = some y → p y = false) (h : p x = true) : idxB p l = k := by
  unfold idxB
  rw [firstB_at e h1 h, if_pos (List.getElem?_eq_some_iff.1 e).1]
theorem idxB_end {α : Type} {p : α → Bool} {l : List α} (h : ∀ (j : Nat) y, l[j]? = some y → p y = false) : idxB p l = -1 := by
  unfold idxB
  rw [firstB_end h, if_neg (Nat.lt_irrefl _)]
theorem idxB_ways {α : Type} (p : α → Bool) (l : List α) : (∃ (k : Nat) (x : α), l[k]? = some x ∧ p x = true ∧ (∀ (j : Nat) y, j < k → l[j]? = some y → p y = false) ∧ idxB p l = k) ∨ ((∀ (j : Nat) y, l[j]? = some y → p y = false) ∧ idxB p l = -1) := by
  have key : ∀ (n : Nat), (∃ (k : Nat) (x : α), l[k]? = some x ∧ p x = true ∧ (∀ (j : Nat) y, j < k → l[j]? = some y → p y = false)) ∨ (∀ (j : Nat) y, j < n → l[j]? = some y → p y = false) := by
    intro n
    induction n with
    | zero => exact .inr fun j y hj _ => by omega
    | succ n ih =>
      rcases ih with h | h
      · exact .inl h
      · cases hx : l[n]? with
        | none =>
          refine .inr fun j y hj hy => ?_
          rcases Nat.lt_or_ge j n with h2 | h2
          · exact h j y h2 hy
          · have : j = n := by omega
            subst this
            rw [hx] at hy; cases hy
        | some x =>
          cases hp : p x with
          | true => exact .inl ⟨n, x, hx, hp, h⟩
          | false => exact .inr (upto (p := fun y => p y = false) hx h hp)
  rcases key l.length with ⟨k, x, e, hx, h1⟩ | h
  · exact .inl ⟨k, x, e, hx, h1, idxB_at e h1 hx⟩
  · exact .inr ⟨fun j y hy => h j y (List.getElem?_eq_some_iff.1 hy).1 hy, idxB_end fun j y hy => h j y (List.getElem?_eq_some_iff.1 hy).1 hy⟩
open Classical in
noncomputable def badB (j : List EntV) (i : Nat) : Bool := match j[i]? with
  | some e => decide (badE j i e)
  | none => false
open Classical in
noncomputable def verE (j : List EntV) : Int := idxB (badB j) (List.range j.length)
open Classical in
theorem verE_at {j : List EntV} {k : Nat} {e : EntV} (h : j[k]? = some e) (h1 : ∀ (i : Nat) y, i < k → j[i]? = some y → ¬ badE j i y) (hb : badE j k e) : verE j = k := by
  unfold verE
  have hl := (List.getElem?_eq_some_iff.1 h).1
  refine idxB_at (x := k) (by rw [List.getElem?_range hl]) (fun i y hi hy => ?_) ?_
  · rw [List.getElem?_range (by omega)] at hy
    cases hy
    unfold badB
    rw [List.getElem?_eq_getElem (by omega)]
    exact decide_eq_false (h1 i _ hi (List.getElem?_eq_getElem (by omega)))
  · unfold badB
    rw [h]
    exact decide_eq_true hb
open Classical in
theorem verE_end {j : List EntV} (h : ∀ (i : Nat) y, j[i]? = some y → ¬ badE j i y) : verE j = -1 := by
  unfold verE
  refine idxB_end fun i y hy => ?_
  have hl := (List.getElem?_eq_some_iff.1 hy).1
  rw [List.length_range] at hl
  rw [List.getElem?_range hl] at hy
  cases hy
  unfold badB
  rw [List.getElem?_eq_getElem hl]
  exact decide_eq_false (h i _ (List.getElem?_eq_getElem hl))
open Classical in
theorem verE_ok {j : List EntV} (h : verE j = -1) : ∀ (i : Nat) y, j[i]? = some y → ¬ badE j i y := by
  intro i y hy hb
  unfold verE at h
  rcases idxB_ways (badB j) (List.range j.length) with ⟨k, x, e, hx, h1, h2⟩ | ⟨h1, h2⟩
  · rw [h2] at h; omega
  · have hl := (List.getElem?_eq_some_iff.1 hy).1
    have h3 := h1 i i (by rw [List.getElem?_range hl])
    unfold badB at h3
    rw [hy] at h3
    exact absurd hb (of_decide_eq_false h3)

end Go.Proofs.YtmnnphalljnmhaaDoor
