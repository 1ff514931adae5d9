/-
  The packing of texts: sums of sizes, the contracts of Int and Pack. Conditions: those that each theorem states.
-/
import Derived.Test.YtfpknhhhjgdjbaaDoorGCon
import Derived.Test.YtfpknhhhjgdjbaaDoorGWire
import Derived.Lib.ItoaLen
namespace Go.Proofs.YtfpknhhhjgdjbaaDoor
open Go.RowKit
set_option maxRecDepth 100000
set_option linter.unusedSimpArgs false

theorem bytes_ext {a : ByteArray} {l : List UInt8} (h : a.data.toList = l) : a = ⟨l.toArray⟩ := by
  cases a with
  | mk d => cases d with | mk x => simp at h; rw [h]
theorem size_toList (s : ByteArray) : s.data.toList.length = s.size := by rw [Array.length_toList]; rfl
theorem pack1_eq (s : ByteArray) : pack1 s = Lib.decDigits s.size ++ 58 :: s.data.toList := by unfold pack1; rw [Lib.itoa_nonneg]
theorem packB_cons (s : ByteArray) (l : List ByteArray) : packB (s :: l) = Lib.decDigits s.size ++ 58 :: (s.data.toList ++ packB l) := by
  unfold packB
  rw [List.flatMap_cons, pack1_eq]; simp
theorem packB_append (a b : List ByteArray) : packB (a ++ b) = packB a ++ packB b := by unfold packB; rw [List.flatMap_append]
def itoaBs (l : List Int) : List ByteArray := l.map fun n => ⟨(Lib.itoa n).toArray⟩
/-- The sum of the sizes. -/
def sizes (l : List ByteArray) : Nat := (l.map ByteArray.size).sum
theorem sizes_nil : sizes [] = 0 := rfl
theorem sizes_cons (s : ByteArray) (l : List ByteArray) : sizes (s :: l) = s.size + sizes l := by unfold sizes; rw [List.map_cons, List.sum_cons]
theorem sizes_app (a b : List ByteArray) : sizes (a ++ b) = sizes a + sizes b := by unfold sizes; rw [List.map_append, List.sum_append]
theorem sizes_bound {M : Nat} : ∀ {l : List ByteArray}, (∀ s ∈ l, s.size ≤ M) → sizes l ≤ l.length * M
  | [], _ => by simp [sizes]
  | s :: l, h => by
    rw [sizes_cons, List.length_cons, Nat.add_mul, Nat.one_mul]
    have h1 := h s (by simp)
    have h2 := sizes_bound (l := l) fun x hx => h x (by simp [hx])
    omega
theorem packB_len : ∀ (l : List ByteArray), (∀ s ∈ l, s.size ≤ 9223372036854775807) → (packB l).length ≤ sizes l + 22 * l.length
  | [], _ => by simp [packB]
  | s :: l, h => by
    have h1 := h s (by simp)
    have h2 := packB_len l fun x hx => h x (by simp [hx])
    have h3 := Lib.itoa_length_le (s.size : Int) (by omega) (by omega)
    rw [packB_cons, sizes_cons, List.length_append, List.length_cons, List.length_append, List.length_cons, size_toList, ← Lib.itoa_nonneg]
    omega
/-- The texts of numbers are short. -/
theorem itoaBs_sizes : ∀ {l : List Int}, (∀ n ∈ l, -9223372036854775808 ≤ n ∧ n ≤ 9223372036854775807) → ∀ s ∈ itoaBs l, s.size ≤ 21 := by
  intro l h s hs
  unfold itoaBs at hs
  rw [List.mem_map] at hs
  obtain ⟨n, hn, rfl⟩ := hs
  have h1 := Lib.itoa_length_le n (h n hn).1 (h n hn).2
  rw [← size_toList]
  exact h1
theorem itoaBs_len (l : List Int) : (itoaBs l).length = l.length := by unfold itoaBs; rw [List.length_map]
theorem base : Base Tryd.prog CtxP := ⟨by kernel_rfl, fun _ _ h hb => h.on hb⟩
theorem baseC : Base Tryd.prog Ctx := ⟨by kernel_rfl, fun _ _ h hb => h.on hb⟩
/-- What holds where less is asked. -/
theorem up {f : Nat} {us : List AV} {r : Res} (h : Con Tryd.prog CtxP f us r) : Con Tryd.prog Ctx f us r := by
  cases r <;> exact ⟨h.1, fun M w args hM hw ha => h.2 M w args hM hw.p ha⟩
theorem Int_con (n : Int) (h0 : -9223372036854775808 ≤ n) (h1 : n ≤ 9223372036854775807) : Con Tryd.prog CtxP 24 [.ex (.int .i64 n)] (.val (.ex (.string ⟨(Lib.itoa n).toArray⟩))) :=
  con_ex (vs := [.int .i64 n]) ⟨_, Tryd.func24, rfl, rfl⟩ rfl fun w hw => Int_any n h0 h1 w hw
theorem RInt_con (n : Int) (h0 : -9223372036854775808 ≤ n) (h1 : n ≤ 9223372036854775807) : Con Tryd.prog CtxP 25 [.ex (.int .i64 n)] (.val (.ex (.string ⟨(Lib.itoa n).toArray⟩))) :=
  con_ex' (vs := [.int .i64 n]) ⟨_, Tryd.func25, rfl, rfl⟩ rfl fun w => RInt_any n h0 h1 w
theorem Pack_con (l : List ByteArray) (h : (packB l).length + 40 ≤ 140737488355328) (hn : l.length ≤ maxLen) : Con Tryd.prog CtxP 17 [.sl (texts l)] (.val (.ex (.string ⟨(packB l).toArray⟩))) :=
  con_texts ⟨_, Tryd.func17, rfl, rfl⟩ rfl fun A c w hw hr _ _ _ => Pack_any l A c _ w hr (Nat.le_refl _) h hn hw
theorem RPack_con (l : List ByteArray) (h : (packB l).length + 40 ≤ 140737488355328) (hn : l.length ≤ maxLen) : Con Tryd.prog CtxP 18 [.sl (texts l)] (.val (.ex (.string ⟨(packB l).toArray⟩))) :=
  con_texts ⟨_, Tryd.func18, rfl, rfl⟩ rfl fun A c w _ hr _ _ _ => RPack_any l A c _ w hr (Nat.le_refl _) h hn
theorem byte_at (s : ByteArray) (k : Nat) (hk : k < s.size) : s.data.toList[k]? = some (s[k]'hk) := by
  have : k < s.data.toList.length := by rw [size_toList]; exact hk
  rw [List.getElem?_eq_getElem this]; rfl
end Go.Proofs.YtfpknhhhjgdjbaaDoor
