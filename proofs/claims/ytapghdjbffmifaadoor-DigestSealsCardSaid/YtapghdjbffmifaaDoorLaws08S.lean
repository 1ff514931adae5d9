/-
  What a text that was given check digits gives the walks of the law DigestSeals. Conditions: strings fit in memory; bytes are bytes; the listed variables hold what the program's text lays.
-/
import Derived.Test.YtapghdjbffmifaaDoorLaws08C
import Derived.BigRegion
import Derived.Deep.RegionWith
namespace Go.Proofs.YtapghdjbffmifaaDoor
open Go.RowKit
set_option maxRecDepth 100000

/-- What a text that was sealed gives the walks. -/
structure Sealing (s t : ByteArray) (k : Nat) (a : Int) : Prop where
  put : ∀ W, Calls Tryd.prog 37 #[.string s] W fun e w' => e = .returned (.tuple #[.string t, .int .i64 0]) ∧ W = w'
  ok : ∀ W, Calls Tryd.prog 39 #[.string t] W fun e w' => e = .returned (.bool true) ∧ W = w'
  head : t.extract 0 s.size = s
  place : a % (t.size : Int) = k
  lt : k < t.size
  len : ((t.size : Int) != (s.size : Int) + 2) = false
  le : s.size ≤ t.size
  most : t.size ≤ 48
  other : ∀ c : UInt8, okc c = true → isLet c = isLet (t[k]'lt) → isSealed (t.extract 0 k ++ (⟨#[c]⟩ : ByteArray) ++ t.extract (k + 1) t.size).data.toList = decide (c = t[k]'lt)
theorem sealing (s : ByteArray) (a : Int) (g1 : ¬ s.size < 1) (g2 : ¬ 46 < s.size) (g3 : okl s.data.toList = true) : ∃ t k, Sealing s t k a := by
  have c1 := fun W => Seal_any s W
  have e1 : sealT s.data.toList = (sealL s.data.toList, 0) := by unfold sealT; rw [size_list, if_neg (by omega), if_pos g3]
  rw [e1] at c1
  have q1 := sealed_seal (l := s.data.toList) (by rw [size_list]; omega) (by rw [size_list]; omega) g3
  have q2 := seal_length s.data.toList
  rw [size_list] at q2
  have q3 := seal_ok g3
  have q4 := seal_one s.data.toList
  have q5 : (sealL s.data.toList).take s.size = s.data.toList := by unfold sealL; rw [← size_list s]; exact List.take_left' rfl
  generalize sealL s.data.toList = l at c1 q1 q2 q3 q4 q5
  obtain ⟨t, ht⟩ : ∃ t : ByteArray, t = ⟨l.toArray⟩ := ⟨_, rfl⟩
  have htl : t.data.toList = l := by rw [ht, b_mk]
  have hts : t.size = s.size + 2 := by rw [ht, bsize_mk, q2]
  have c2 := fun W => Sealed_any t W (by unfold maxLen; omega)
  rw [htl, q1] at c2
  change ∀ W, Calls _ _ _ _ (fun e w' => e = .returned (.tuple #[.string (⟨l.toArray⟩ : ByteArray), .int .i64 0]) ∧ W = w') at c1
  rw [← ht] at c1
  have q6 : (t.extract 0 s.size).data.toList = s.data.toList := by rw [Lib.extract_data, htl]; simpa using q5
  have hpos : (0 : Int) < t.size := by omega
  have hk0 := Int.emod_nonneg a (show (t.size : Int) ≠ 0 by omega)
  have hk1 := Int.emod_lt_of_pos a hpos
  obtain ⟨k, hkk⟩ : ∃ k : Nat, a % (t.size : Int) = k := ⟨(a % (t.size : Int)).toNat, by omega⟩
  have hkn : k < t.size := by omega
  refine ⟨t, k, c1, c2, b_eq q6, hkk, hkn, by rw [bne_eq_false_iff_eq]; omega, by omega, by omega, ?_⟩
  intro c hb hk
  rw [b_app, b_app, Lib.extract_data, Lib.extract_data, htl]
  have h1 := byte_get t k hkn
  rw [htl] at h1
  have h2 : k < l.length := (List.getElem?_eq_some_iff.1 h1).1
  have h3 := List.drop_eq_getElem_cons h2
  have h4 : l[k] = t[k] := Option.some.inj ((List.getElem?_eq_getElem h2).symm.trans h1)
  have e1 : l = l.take k ++ t[k] :: l.drop (k + 1) := by rw [← h4, ← h3, List.take_append_drop]
  have e2 := sealed_other (l := l) (a := l.take k) (b := l.drop (k + 1)) (x := t[k]) (c := c) (by omega) (by omega) q3 q4 e1 hb hk
  rw [← e2]
  congr 1
  have h5 : t.size - (k + 1) = l.length - (k + 1) := by rw [q2, hts]
  rw [h5]
  simp [List.take_of_length_le]

theorem conv_one (c : UInt8) (w : World) : (convert 54 9 (.slice (some ⟨w.heap.size, 0, none⟩) 1 1)).run Tryd.prog ((w.alloc (.cells #[.int .u8 (c.toNat : Int)] 5)).drew) = .ok (.string ⟨#[c]⟩) ((w.alloc (.cells #[.int .u8 (c.toNat : Int)] 5)).drew) :=
  run_convert_bytes_back _ 54 9 5 _ 1 [c] Tryd.underlying54 Tryd.underlying5 Tryd.underlying9 fun j hj => by
    have hj0 : j = 0 := by simpa using hj
    subst hj0
    simp [Addr.add, go_sem]
theorem Plain_one (c : UInt8) (W : World) : Calls Tryd.prog 41 #[.string ⟨#[c]⟩] W fun e w' => e = .returned (.bool (okc c)) ∧ W = w' := by
  have := Plain_any ⟨#[c]⟩ W (small [c] (by simp))
  rw [show okl (ByteArray.data ⟨#[c]⟩).toList = okc c from by simp [okl]] at this
  exact this

end Go.Proofs.YtapghdjbffmifaaDoor
