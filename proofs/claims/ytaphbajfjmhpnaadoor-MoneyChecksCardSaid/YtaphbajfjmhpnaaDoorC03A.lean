/-
  Chapter 03, walked: the bytes of codes and of plain texts (ranges over strings). Conditions: strings fit in memory.
-/
import Derived.Test.YtaphbajfjmhpnaaDoorTy
import Derived.Test.YtaphbajfjmhpnaaDoorNum3b
import Derived.Test.YtaphbajfjmhpnaaDoorEqs
import Derived.Laws.RangeAny
import Derived.Laws.RangeString
namespace Go.Proofs.YtaphbajfjmhpnaaDoor
open Go.RowKit
set_option maxRecDepth 100000
set_option linter.unusedSimpArgs false

theorem base : Base Tryd.prog Ctx := ⟨by kernel_rfl, fun _ _ h hb => h.on hb⟩
theorem size_toList (s : ByteArray) : s.data.toList.length = s.size := by rw [Array.length_toList]; rfl
theorem byte_at (s : ByteArray) (k : Nat) (hk : k < s.size) : s.data.toList[k]? = some (s[k]'hk) := by
  have : k < s.data.toList.length := by rw [size_toList]; exact hk
  rw [List.getElem?_eq_getElem this]; rfl
theorem below_iter (w : World) (s : ByteArray) (pos : Nat) : Below w.heap.size w (w.iter s pos) := Below.alloc (Below.refl _ _) (Nat.le_refl _) _
theorem allp_next {p : UInt8 → Bool} {l : List UInt8} {k : Nat} {c : UInt8} (e : l[k]? = some c) (h : (l.take k).all p = true) (hc : p c = true) : (l.take (k + 1)).all p = true := by
  rw [List.take_add_one, e, List.all_append, h]; simp [hc]
theorem allp_end {p : UInt8 → Bool} {l : List UInt8} {k : Nat} (hk : l.length ≤ k) (h : (l.take k).all p = true) : l.all p = true := by rw [List.take_of_length_le hk] at h; exact h
theorem allp_bad {p : UInt8 → Bool} {l : List UInt8} {k : Nat} {c : UInt8} (e : l[k]? = some c) (hc : p c = false) : l.all p = false := by
  rw [← Bool.not_eq_true, List.all_eq_true]
  intro h
  have := h c (List.mem_of_getElem? e)
  rw [hc] at this; cases this
theorem isU_iff {c : UInt8} : isU c = true ↔ 65 ≤ c.toNat ∧ c.toNat ≤ 90 := by unfold isU; rw [Bool.and_eq_true, decide_eq_true_eq, decide_eq_true_eq]
theorem isD_iff {c : UInt8} : isD c = true ↔ 48 ≤ c.toNat ∧ c.toNat ≤ 57 := by unfold isD; rw [Bool.and_eq_true, decide_eq_true_eq, decide_eq_true_eq]
/-- The rune at a byte: the byte, or what is greater than every one. -/
theorem rune_at (s : ByteArray) (pos : Nat) (h : pos < s.size) : ((s[pos]'h).toNat < 128 ∧ Utf8.decode s pos = ((s[pos]'h).toNat, 1)) ∨ (128 ≤ (s[pos]'h).toNat ∧ 128 ≤ (Utf8.decode s pos).1) := by
  by_cases ha : (s[pos]'h).toNat < 128
  · exact .inl ⟨ha, decode_ascii s pos h ha⟩
  · exact .inr ⟨by omega, (decode_high s pos h (by omega)).1⟩

def allD (l : List UInt8) : Bool := l.all isD
theorem Code_any (s : ByteArray) (hs : s.size ≤ 9223372036854775807) (w : World) : Calls Tryd.prog 13 #[.string s] w fun e w' => e = .returned (.bool (codeB s.data.toList)) ∧ Below w.heap.size w w' := by
  go_enter Tryd.func13, Tryd.ntmps13
  go_wp2
  go_loopw [3] (fun n w' => ∃ pos : Nat, w' = w.iter s pos ∧ n = .int .i64 pos ∧ pos ≤ s.size ∧ Hid ((s.data.toList.take pos).all isU = true)) (fun _ w' => s.size - w'.iterPos w.heap.size)
  case atStart => exact ⟨0, rfl, rfl, Nat.zero_le _, Lib.hid rfl⟩
  case round =>
    obtain ⟨pos, rfl, rfl, hp', hA⟩ := hrel
    by_cases hp : pos < s.size
    · have f1 := byte_at s pos hp
      by_cases hu : isU (s[pos]'hp) = true
      · have hn := Lib.hid (allp_next f1 hA.out hu)
        rw [isU_iff] at hu
        have hnx : ∀ ty, (Instr.next (.pointer (some ⟨w.heap.size, 0, none⟩)) true ty).run Tryd.prog (w.iter s pos) = _ := fun ty => run_next_ascii w s pos ty hp (by omega)
        have h1 : ¬ (((s[pos]'hp).toNat : Int) < 65) := by omega
        have h2 : ¬ (90 < ((s[pos]'hp).toNat : Int)) := by omega
        clear f1 hA
        go_wp2
        go_roundw
        case rel => exact ⟨pos + 1, rfl, by go_num, by omega, hn⟩
        case measure => simp; omega
      · have hb : codeB s.data.toList = false := by
          unfold codeB
          rw [allp_bad f1 (by simpa using hu), Bool.and_false]
        have hb' := Lib.hid hb
        have hnx : ∀ ty, (Instr.next (.pointer (some ⟨w.heap.size, 0, none⟩)) true ty).run Tryd.prog (w.iter s pos) = _ := fun ty => run_next_any w s pos ty hp
        have hr : ((Utf8.decode s pos).1 : Int) < 65 ∨ 90 < ((Utf8.decode s pos).1 : Int) := by
          rw [isU_iff] at hu
          rcases rune_at s pos hp with ⟨h1, h2⟩ | ⟨h1, h2⟩
          · rw [h2]; show ((s[pos]'hp).toNat : Int) < 65 ∨ 90 < ((s[pos]'hp).toNat : Int); omega
          · omega
        generalize Utf8.decode s pos = cw at hnx hr
        obtain ⟨c, wd⟩ := cw
        dsimp only at hnx hr
        have hB := Lib.hid (below_iter w s (pos + wd))
        clear f1 hA hb hu
        rcases hr with hr | hr
        · go_wp2
          go_ret
          exact ⟨by rw [hb'.out]; rfl, hB.out⟩
        · have hr2 : ¬ ((c : Int) < 65) := by omega
          go_wp2
          go_ret
          exact ⟨by rw [hb'.out]; rfl, hB.out⟩
    · have hnx : ∀ ty, (Instr.next (.pointer (some ⟨w.heap.size, 0, none⟩)) true ty).run Tryd.prog (w.iter s pos) = _ := fun ty => run_next_end w s pos ty hp
      have hb : codeB s.data.toList = decide ((pos : Int) = 3) := by
        unfold codeB
        rw [allp_end (by rw [size_toList]; omega) hA.out, Bool.and_true, size_toList]
        rw [decide_eq_decide]; omega
      have hb' := Lib.hid hb
      have hB := Lib.hid (below_iter w s pos)
      clear hb hA
      go_wp2
      go_ret
      exact ⟨by rw [hb'.out]; rfl, hB.out⟩

theorem plain_any (s : ByteArray) (hs : s.size ≤ 9223372036854775807) (w : World) : Calls Tryd.prog 37 #[.string s] w fun e w' => e = .returned (.bool (allD s.data.toList)) ∧ Below w.heap.size w w' := by
  go_enter Tryd.func37, Tryd.ntmps37
  go_wp2
  go_loopw [4] (fun _ w' => ∃ pos : Nat, w' = w.iter s pos ∧ pos ≤ s.size ∧ Hid ((s.data.toList.take pos).all isD = true)) (fun _ w' => s.size - w'.iterPos w.heap.size)
  case atStart => exact ⟨0, rfl, Nat.zero_le _, Lib.hid rfl⟩
  case round =>
    obtain ⟨pos, rfl, hp', hA⟩ := hrel
    by_cases hp : pos < s.size
    · have f1 := byte_at s pos hp
      by_cases hu : isD (s[pos]'hp) = true
      · have hn := Lib.hid (allp_next f1 hA.out hu)
        rw [isD_iff] at hu
        have hnx : ∀ ty, (Instr.next (.pointer (some ⟨w.heap.size, 0, none⟩)) true ty).run Tryd.prog (w.iter s pos) = _ := fun ty => run_next_ascii w s pos ty hp (by omega)
        have h1 : ¬ (((s[pos]'hp).toNat : Int) < 48) := by omega
        have h2 : ¬ (57 < ((s[pos]'hp).toNat : Int)) := by omega
        clear f1 hA
        go_wp2
        go_roundw
        case rel => exact ⟨pos + 1, rfl, by omega, hn⟩
        case measure => simp; omega
      · have hb : allD s.data.toList = false := allp_bad f1 (show isD (s[pos]'hp) = false by simpa using hu)
        have hb' := Lib.hid hb
        have hnx : ∀ ty, (Instr.next (.pointer (some ⟨w.heap.size, 0, none⟩)) true ty).run Tryd.prog (w.iter s pos) = _ := fun ty => run_next_any w s pos ty hp
        have hr : ((Utf8.decode s pos).1 : Int) < 48 ∨ 57 < ((Utf8.decode s pos).1 : Int) := by
          rw [isD_iff] at hu
          rcases rune_at s pos hp with ⟨h1, h2⟩ | ⟨h1, h2⟩
          · rw [h2]; show ((s[pos]'hp).toNat : Int) < 48 ∨ 57 < ((s[pos]'hp).toNat : Int); omega
          · omega
        generalize Utf8.decode s pos = cw at hnx hr
        obtain ⟨c, wd⟩ := cw
        dsimp only at hnx hr
        have hB := Lib.hid (below_iter w s (pos + wd))
        clear f1 hA hb hu
        rcases hr with hr | hr
        · go_wp2
          go_ret
          exact ⟨by rw [hb'.out]; rfl, hB.out⟩
        · have hr2 : ¬ ((c : Int) < 48) := by omega
          go_wp2
          go_ret
          exact ⟨by rw [hb'.out]; rfl, hB.out⟩
    · have hnx : ∀ ty, (Instr.next (.pointer (some ⟨w.heap.size, 0, none⟩)) true ty).run Tryd.prog (w.iter s pos) = _ := fun ty => run_next_end w s pos ty hp
      have hb' := Lib.hid (show allD s.data.toList = true from allp_end (show s.data.toList.length ≤ pos by rw [size_toList]; omega) hA.out)
      have hB := Lib.hid (below_iter w s pos)
      clear hA
      go_wp2
      go_ret
      exact ⟨by rw [hb'.out]; rfl, hB.out⟩
theorem Code_con (s : ByteArray) (hs : s.size ≤ 9223372036854775807) : Con Tryd.prog Ctx 13 [.ex (.string s)] (.val (.ex (.bool (codeB s.data.toList)))) :=
  con_ex (vs := [.string s]) ⟨_, Tryd.func13, rfl, rfl⟩ rfl fun w _ => Code_any s hs w
theorem plain_con (s : ByteArray) (hs : s.size ≤ 9223372036854775807) : Con Tryd.prog Ctx 37 [.ex (.string s)] (.val (.ex (.bool (allD s.data.toList)))) :=
  con_ex (vs := [.string s]) ⟨_, Tryd.func37, rfl, rfl⟩ rfl fun w _ => plain_any s hs w
theorem Itoa_con (n : Int) (h0 : -9223372036854775808 ≤ n) (h1 : n ≤ 9223372036854775807) : Con Tryd.prog Ctx 28 [.ex (.int .i64 n)] (.val (.ex (.string ⟨(Lib.itoa n).toArray⟩))) :=
  con_ex (vs := [.int .i64 n]) ⟨_, Tryd.func28, rfl, rfl⟩ rfl fun w hw => Itoa_any n h0 h1 w hw
end Go.Proofs.YtaphbajfjmhpnaaDoor
