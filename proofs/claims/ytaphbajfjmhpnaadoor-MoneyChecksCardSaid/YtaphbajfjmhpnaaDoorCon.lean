/-
  Contracts over values without memory out of contracts over the machine's values. Conditions: those that each theorem states.
-/
import Derived.Test.YtaphbajfjmhpnaaDoorBun
namespace Go.Proofs.YtaphbajfjmhpnaaDoor
open Go.RowKit
set_option maxRecDepth 100000

section
variable {P : Program} {C : World → Prop} {M : Nat → Prop} {w : World}
theorem rep0_ex : ∀ {vs args : List Value}, RepL phi0 M w (vs.map .ex) args → args = vs
  | [], _, h => by simpa [RepL] using h
  | v :: vs, _, h => by
    simp only [List.map_cons, RepL] at h
    obtain ⟨x, xs, rfl, h1, h2⟩ := h
    simp only [Rep] at h1
    rw [h1.1, rep0_ex h2]
theorem con_ex {f : Nat} {vs : List Value} {r : Value} (hc : Callable P f) (hr : r.oneCell' = true) (h : ∀ w, C w → Calls P f vs.toArray w fun e w' => e = .returned r ∧ Below w.heap.size w w') : Con P C f (vs.map .ex) (.val (.ex r)) := by
  refine ⟨hc, fun M w args _ hw ha => ?_⟩
  rw [rep0_ex ha]
  refine (h w hw).mono ?_
  rintro e w' ⟨rfl, hb⟩
  exact ⟨r, rfl, ex_rep r hr, hb⟩
theorem con_ex' {f : Nat} {vs : List Value} {r : Value} (hc : Callable P f) (hr : r.oneCell' = true) (h : ∀ w, Calls P f vs.toArray w fun e w' => e = .returned r ∧ w = w') : Con P C f (vs.map .ex) (.val (.ex r)) :=
  con_ex hc hr fun w _ => (h w).mono fun _ _ ⟨he, hw⟩ => ⟨he, hw ▸ Below.refl _ _⟩
/-- Texts in a row. -/
def texts (l : List ByteArray) : List (List AV) := l.map fun s => [.ex (.string s)]
theorem texts_vs {sz : Nat} : ∀ {l : List ByteArray} {vs : List Value}, RepLL phi0 M w sz (texts l) vs → vs = l.map .string
  | [], _, h => by simpa [texts, RepLL] using h
  | s :: l, _, h => by
    simp only [texts, List.map_cons, RepLL] at h
    obtain ⟨x, y, rfl, _, _, h1, h2⟩ := h
    have h3 := texts_vs (l := l) h2
    simp only [RepL] at h1
    obtain ⟨v, vs', rfl, h4, rfl⟩ := h1
    simp only [Rep] at h4
    rw [h3, h4.1]
    rfl
theorem con_texts {f : Nat} {l : List ByteArray} {r : Value} (hc : Callable P f) (hr : r.oneCell' = true) (h : ∀ A c w, C w → Reads w w.heap.size 1 A l.length (l.map .string) → c ≤ maxLen → l.length ≤ c → True → Calls P f #[.slice A l.length c] w fun e w' => e = .returned r ∧ Below w.heap.size w w') : Con P C f [.sl (texts l)] (.val (.ex r)) := by
  refine ⟨hc, fun M w args _ hw ha => ?_⟩
  simp only [RepL] at ha
  obtain ⟨v, vs', rfl, h1, rfl⟩ := ha
  simp only [Rep] at h1
  have hl : (texts l).length = l.length := by simp [texts]
  obtain ⟨A, c, rfl, h2, h3, h4, h5⟩ := h1
  rw [hl] at h2 ⊢
  refine (h A c w hw ⟨by simp, fun hn => ?_⟩ h3 h2 h4).mono ?_
  · obtain ⟨b, o, sz, vs, rfl, _, h6, h7, h8⟩ := h5 (by intro e; rw [e] at hl; simp at hl; omega)
    rw [texts_vs h8] at h7
    exact ⟨b, o, rfl, h6, h7⟩
  · rintro e w' ⟨rfl, hb⟩
    exact ⟨r, rfl, ex_rep r hr, hb⟩
end
end Go.Proofs.YtaphbajfjmhpnaaDoor
