/-
  Small laws, more. Conditions: none.
-/
import Derived.Test.YtfpknhhhjgdjbaaDoorLib2
namespace Go.Proofs.YtfpknhhhjgdjbaaDoor
theorem bool_ext2 {a b : Bool} (h : a = true ↔ b = true) : a = b := Bool.eq_iff_iff.2 h
theorem ret_bool2 {a b : Bool} (h : a = b) : Ending.returned (.bool a) = .returned (.bool b) := by rw [h]
theorem empty_of_size0 {t : ByteArray} (h : t.size = 0) : t = ⟨#[]⟩ := by apply b_eq; exact List.eq_nil_of_length_eq_zero (by rw [size_list, h])

/-! Rows of elements of the same number of cells. -/
theorem flat_len {α : Type} (f : α → List Value) (sz : Nat) (hf : ∀ x, (f x).length = sz) : ∀ l : List α, (l.flatMap f).length = l.length * sz
  | [] => by simp
  | x :: l => by rw [List.flatMap_cons, List.length_append, hf, flat_len f sz hf l, List.length_cons, Nat.add_mul, Nat.one_mul, Nat.add_comm]
theorem flat_get {α : Type} (f : α → List Value) (sz : Nat) (hf : ∀ x, (f x).length = sz) : ∀ (l : List α) (k j : Nat) (hk : k < l.length), j < sz → (l.flatMap f)[k * sz + j]? = (f l[k])[j]?
  | [], _, _, hk, _ => by simp at hk
  | x :: l, 0, j, _, hj => by rw [List.flatMap_cons, List.getElem?_append_left (by rw [hf]; omega)]; simp
  | x :: l, k + 1, j, hk, hj => by
    rw [List.flatMap_cons, List.getElem?_append_right (by rw [hf, Nat.add_mul]; omega), hf, show (k + 1) * sz + j - sz = k * sz + j by rw [Nat.add_mul]; omega]
    exact flat_get f sz hf l k j (by simpa using hk) hj
/-- The cells of element k of a row that is read. -/
theorem Reads.elem {α : Type} {w : World} {B sz n : Nat} {A : Option Addr} {f : α → List Value} {l : List α} (hf : ∀ x, (f x).length = sz) (h : Reads w B sz A n (l.flatMap f)) (hn : n = l.length) (k : Nat) (hk : k < l.length) :
    ∃ b o, A = some ⟨b, o, none⟩ ∧ b < B ∧ ∀ j u, j < sz → (f l[k])[j]? = some u → w.cell? ⟨b, o + (k * sz + j), none⟩ = some u := by
  obtain ⟨b, o, e, hb, hc⟩ := h.2 (by omega)
  exact ⟨b, o, e, hb, fun j u hj hu => hc _ u (by rw [flat_get f sz hf l k j hk hj]; exact hu)⟩
end Go.Proofs.YtfpknhhhjgdjbaaDoor
