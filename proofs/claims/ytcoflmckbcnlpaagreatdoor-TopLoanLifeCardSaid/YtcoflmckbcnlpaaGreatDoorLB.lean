/-
  Codes of currencies, walked; plain lists. Conditions: strings fit in memory. More of the kind.
-/
import Derived.Test.YtcoflmckbcnlpaaGreatDoorLA
import Derived.Laws.RangeAny
import Derived.Laws.RangeString
namespace Go.Proofs.YtcoflmckbcnlpaaGreatDoor
open Go.RowKit
set_option maxRecDepth 100000
set_option linter.unusedSimpArgs false
def isU (c : UInt8) : Bool := decide (65 ≤ c.toNat) && decide (c.toNat ≤ 90)
def codeB (l : List UInt8) : Bool := decide (l.length = 3) && l.all isU
theorem size_toList (s : ByteArray) : s.data.toList.length = s.size := by rw [Array.length_toList]; rfl
theorem byte_at (s : ByteArray) (k : Nat) (hk : k < s.size) : s.data.toList[k]? = some (s[k]'hk) := by
  have : k < s.data.toList.length := by rw [size_toList]; exact hk
  rw [List.getElem?_eq_getElem this]; rfl
theorem below_iter (w : World) (s : ByteArray) (pos : Nat) : Below w.heap.size w (w.iter s pos) := Below.alloc (Below.refl _ _) (Nat.le_refl _) _
theorem allp_next {p : UInt8 → Bool} {l : List UInt8} {k : Nat} {c : UInt8} (e : l[k]? = some c) (h : (l.take k).all p = true) (hc : p c = true) : (l.take (k + 1)).all p = true := by
  rw [List.take_add_one, e, List.all_append, h]; simp [hc]
theorem allp_end {p : UInt8 → Bool} {l : List UInt8} {k : Nat} (hk : l.length ≤ k) (h : (l.take k).all p = true) : l.all p = true := by rw [List.take_of_length_le hk] at h; exact h
theorem allp_bad {p : UInt8 → Bool} {l : List UInt8} {k : Nat} {c : UInt8} (e : l[k]? = some c) (hc : p c = false) : l.all p = false := by
  rw [← Bool.not_eq_true, List.all_eq_true]
  intro h
  have := h c (List.mem_of_getElem? e)
  rw [hc] at this; cases this
theorem isU_iff {c : UInt8} : isU c = true ↔ 65 ≤ c.toNat ∧ c.toNat ≤ 90 := by unfold isU; rw [Bool.and_eq_true, decide_eq_true_eq, decide_eq_true_eq]
theorem rune_at (s : ByteArray) (pos : Nat) (h : pos < s.size) : ((s[pos]'h).toNat < 128 ∧ Utf8.decode s pos = ((s[pos]'h).toNat, 1)) ∨ (128 ≤ (s[pos]'h).toNat ∧ 128 ≤ (Utf8.decode s pos).1) := by
  by_cases ha : (s[pos]'h).toNat < 128
  · exact .inl ⟨ha, decode_ascii s pos h ha⟩
  · exact .inr ⟨by omega, (decode_high s pos h (by omega)).1⟩
theorem Code_any (s : ByteArray) (hs : s.size ≤ 9223372036854775807) (w : World) : Calls Tryz.prog 82 #[.string s] w fun e w' => e = .returned (.bool (codeB s.data.toList)) ∧ Below w.heap.size w w' := by
  go_enter Tryz.func82, Tryz.ntmps82
  go_wp2
  go_loopw [3] (fun n w' => ∃ pos : Nat, w' = w.iter s pos ∧ n = .int .i64 pos ∧ pos ≤ s.size ∧ Hid ((s.data.toList.take pos).all isU = true)) (fun _ w' => s.size - w'.iterPos w.heap.size)
  case atStart => exact ⟨0, rfl, rfl, Nat.zero_le _, Lib.hid rfl⟩
  case round =>
    obtain ⟨pos, rfl, rfl, hp', hA⟩ := hrel
    by_cases hp : pos < s.size
    · have f1 := byte_at s pos hp
      by_cases hu : isU (s[pos]'hp) = true
      · have hn := Lib.hid (allp_next f1 hA.out hu)
        rw [isU_iff] at hu
        have hnx : ∀ ty, (Instr.next (.pointer (some ⟨w.heap.size, 0, none⟩)) true ty).run Tryz.prog (w.iter s pos) = _ := fun ty => run_next_ascii w s pos ty hp (by omega)
        have h1 : ¬ (((s[pos]'hp).toNat : Int) < 65) := by omega
        have h2 : ¬ (90 < ((s[pos]'hp).toNat : Int)) := by omega
        clear f1 hA
        go_wp2
        go_roundw
        case rel => exact ⟨pos + 1, rfl, by go_num, by omega, hn⟩
        case measure => simp; omega
      · have hb : codeB s.data.toList = false := by
          unfold codeB
          rw [allp_bad f1 (by simpa using hu), Bool.and_false]
        have hb' := Lib.hid hb
        have hnx : ∀ ty, (Instr.next (.pointer (some ⟨w.heap.size, 0, none⟩)) true ty).run Tryz.prog (w.iter s pos) = _ := fun ty => run_next_any w s pos ty hp
        have hr : ((Utf8.decode s pos).1 : Int) < 65 ∨ 90 < ((Utf8.decode s pos).1 : Int) := by
          rw [isU_iff] at hu
          rcases rune_at s pos hp with ⟨h1, h2⟩ | ⟨h1, h2⟩
          · rw [h2]; show ((s[pos]'hp).toNat : Int) < 65 ∨ 90 < ((s[pos]'hp).toNat : Int); omega
          · omega
        generalize Utf8.decode s pos = cw at hnx hr
        obtain ⟨c, wd⟩ := cw
        dsimp only at hnx hr
        have hB := Lib.hid (below_iter w s (pos + wd))
        clear f1 hA hb hu
        rcases hr with hr | hr
        · go_wp2
          go_ret
          exact ⟨by rw [hb'.out]; rfl, hB.out⟩
        · have hr2 : ¬ ((c : Int) < 65) := by omega
          go_wp2
          go_ret
          exact ⟨by rw [hb'.out]; rfl, hB.out⟩
    · have hnx : ∀ ty, (Instr.next (.pointer (some ⟨w.heap.size, 0, none⟩)) true ty).run Tryz.prog (w.iter s pos) = _ := fun ty => run_next_end w s pos ty hp
      have hb : codeB s.data.toList = decide ((pos : Int) = 3) := by
        unfold codeB
        rw [allp_end (by rw [size_toList]; omega) hA.out, Bool.and_true, size_toList]
        rw [decide_eq_decide]; omega
      have hb' := Lib.hid hb
      have hB := Lib.hid (below_iter w s pos)
      clear hb hA
      go_wp2
      go_ret
      exact ⟨by rw [hb'.out]; rfl, hB.out⟩
theorem Code_con (s : ByteArray) (hs : s.size ≤ 9223372036854775807) : Con Tryz.prog CtxP 82 [.ex (.string s)] (.val (.ex (.bool (codeB s.data.toList)))) :=
  con_ex (vs := [.string s]) ⟨_, Tryz.func82, rfl, rfl⟩ rfl fun w _ => Code_any s hs w
theorem codeB_len {l : List UInt8} (h : l.length ≠ 3) : codeB l = false := by unfold codeB; rw [decide_eq_false h]; rfl
theorem codeB_bad {l : List UInt8} {k : Nat} {c : UInt8} (e : l[k]? = some c) (hc : isU c = false) : codeB l = false := by unfold codeB; rw [allp_bad e hc, Bool.and_false]
theorem codeB_ok {l : List UInt8} (h : l.length = 3) (h2 : l.all isU = true) : codeB l = true := by unfold codeB; rw [decide_eq_true h, h2]; rfl
theorem isU_no {c : UInt8} (h : ¬ isU c = true) : c.toNat < 65 ∨ 90 < c.toNat := by rw [isU_iff] at h; omega
theorem RCode_con (s : ByteArray) (hs : s.size ≤ 9223372036854775807) : Con Tryz.prog CtxP 34 [.ex (.string s)] (.val (.ex (.bool (codeB s.data.toList)))) := by
  refine con_val base Tryz.func34 rfl rfl (by kernel_rfl) (Nat.le_of_ble_eq_true rfl) ?_
  rw [init_eq]
  by_cases s3 : s.size = 3
  · (repeat' (first | exact trivial | refine stq ?_ | (refine awp_ret ?_; simp only [then_ret, block_ret, end_ret]) | ((first | refine stp ?_ | refine nqif_ways (fun h => ?_) ?_ | ((first | refine gif_ways (fun h => ?_) (fun h => ?_) | refine cif_ways (fun h => ?_) (fun h => ?_)) <;> (try simp only [sxn] at h) <;> (try (exfalso; omega)))) <;> (try (refine wS ?_)))))
    refine vloop (fun n tm hp nx => ∃ k : Nat, n = 3 - k ∧ k ≤ 3 ∧ tm 0 = .ex (.string s) ∧ tm 3 = .ex (.int .i64 k) ∧ Hid ((s.data.toList.take k).all isU = true)) 3 ⟨0, rfl, Nat.zero_le _, by exact byS, by exact byS, Lib.hid rfl⟩ ?_
    rintro n tm hp nx ⟨k, hn, hkl, g0, g3, hH⟩
    by_cases hlt : k < 3
    · have f1 := byte_at s k (by omega)
      generalize hc : s[k]'(by omega) = c at f1
      by_cases hu : isU c = true
      · have hnx := Lib.hid (allp_next f1 hH.out hu)
        rw [isU_iff] at hu
        obtain ⟨u1, u2⟩ := hu
        clear f1
        (repeat' (first | exact trivial | refine stq ?_ | (refine awp_ret ?_; simp only [then_ret, block_ret, end_ret]) | ((first | refine stp ?_ | refine nqif_ways (fun h => ?_) ?_ | ((first | refine gif_ways (fun h => ?_) (fun h => ?_) | refine cif_ways (fun h => ?_) (fun h => ?_)) <;> (try simp only [sxn] at h) <;> (try (exfalso; omega)))) <;> (try (refine wS ?_)))))
        exact kround_i (3 - (k + 1)) (by omega) ⟨k + 1, rfl, by omega, by exact byS, by exact byS, hnx⟩
      · have hr := codeB_bad f1 (show isU c = false by simpa using hu)
        have hu2 := isU_no hu
        clear f1 hu
        (repeat' (first | exact trivial | refine stq ?_ | (refine awp_ret ?_; simp only [then_ret, block_ret, end_ret]) | ((first | refine stp ?_ | refine nqif_ways (fun h => ?_) ?_ | ((first | refine gif_ways (fun h => ?_) (fun h => ?_) | refine cif_ways (fun h => ?_) (fun h => ?_)) <;> (try simp only [sxn] at h) <;> (try (exfalso; omega)))) <;> (try (refine wS ?_)))))
        all_goals simp only [sxd, z0, p0, Nat.reduceEqDiff, ↓reduceIte, Tryz.f34, *]
    · have hr := codeB_ok (by rw [size_toList]; exact s3) (allp_end (show s.data.toList.length ≤ k by rw [size_toList]; omega) hH.out)
      (repeat' (first | exact trivial | refine stq ?_ | (refine awp_ret ?_; simp only [then_ret, block_ret, end_ret]) | ((first | refine stp ?_ | refine nqif_ways (fun h => ?_) ?_ | ((first | refine gif_ways (fun h => ?_) (fun h => ?_) | refine cif_ways (fun h => ?_) (fun h => ?_)) <;> (try simp only [sxn] at h) <;> (try (exfalso; omega)))) <;> (try (refine wS ?_)))))
      all_goals simp only [sxd, z0, p0, Nat.reduceEqDiff, ↓reduceIte, Tryz.f34, *]
  · have hr := codeB_len (l := s.data.toList) (by rw [size_toList]; exact s3)
    (repeat' (first | exact trivial | refine stq ?_ | (refine awp_ret ?_; simp only [then_ret, block_ret, end_ret]) | ((first | refine stp ?_ | refine nqif_ways (fun h => ?_) ?_ | ((first | refine gif_ways (fun h => ?_) (fun h => ?_) | refine cif_ways (fun h => ?_) (fun h => ?_)) <;> (try simp only [sxn] at h) <;> (try (exfalso; omega)))) <;> (try (refine wS ?_)))))
    all_goals simp only [sxd, z0, p0, Nat.reduceEqDiff, ↓reduceIte, Tryz.f34, *]
def firstB {α : Type} (p : α → Bool) : List α → Nat
  | [] => 0
  | a :: l => if p a = true then 0 else firstB p l + 1
theorem firstB_at {α : Type} {p : α → Bool} : ∀ {l : List α} {k : Nat} {x : α}, l[k]? = some x → (∀ (j : Nat) y, j < k → l[j]? = some y → p y = false) → p x = true → firstB p l = k
  | [], _, _, e, _, _ => by cases e
  | a :: l, 0, x, e, _, h => by cases e; unfold firstB; rw [if_pos h]
  | a :: l, k + 1, x, e, h1, h => by
    unfold firstB
    rw [if_neg (by rw [h1 0 a (by omega) rfl]; simp), firstB_at (l := l) (k := k) e (fun j y hj hy => h1 (j + 1) y (by omega) hy) h]
theorem firstB_end {α : Type} {p : α → Bool} : ∀ {l : List α}, (∀ (j : Nat) y, l[j]? = some y → p y = false) → firstB p l = l.length
  | [], _ => rfl
  | a :: l, h => by
    unfold firstB
    rw [if_neg (by rw [h 0 a rfl]; simp), firstB_end fun j y hy => h (j + 1) y hy]; rfl
def idxB {α : Type} (p : α → Bool) (l : List α) : Int := if firstB p l < l.length then firstB p l else -1
theorem idxB_at {α : Type} {p : α → Bool} {l : List α} {k : Nat} {x : α} (e : l[k]? = some x) (h1 : ∀ (j : Nat) y, j < k → l[j]? = some y → p y = false) (h : p x = true) : idxB p l = k := by
  unfold idxB
  rw [firstB_at e h1 h, if_pos (List.getElem?_eq_some_iff.1 e).1]
theorem idxB_end {α : Type} {p : α → Bool} {l : List α} (h : ∀ (j : Nat) y, l[j]? = some y → p y = false) : idxB p l = -1 := by
  unfold idxB
  rw [firstB_end h, if_neg (Nat.lt_irrefl _)]
theorem upto {α : Type} {p : α → Prop} {l : List α} {k : Nat} {x : α} (e : l[k]? = some x) (h : ∀ (j : Nat) y, j < k → l[j]? = some y → p y) (hx : p x) : ∀ (j : Nat) y, j < k + 1 → l[j]? = some y → p y := by
  intro j y hj hy
  rcases Nat.lt_or_ge j k with hl | hl
  · exact h j y hl hy
  · have : j = k := by omega
    subst this
    rw [e] at hy
    rw [← Option.some.inj hy]; exact hx
theorem idxB_any {α : Type} (p : α → Bool) : ∀ l : List α, decide (0 ≤ idxB p l) = l.any p
  | [] => rfl
  | a :: l => by
    have ih := idxB_any p l
    have e : idxB p (a :: l) = if p a = true then 0 else (if idxB p l < 0 then -1 else idxB p l + 1) := by
      unfold idxB
      rw [firstB, List.length_cons]
      split
      · rw [if_pos (by omega)]; rfl
      · rcases Nat.lt_or_ge (firstB p l) l.length with h | h
        · rw [if_pos (show firstB p l + 1 < l.length + 1 by omega), if_pos h, if_neg (by omega)]; omega
        · rw [if_neg (show ¬ firstB p l + 1 < l.length + 1 by omega), if_neg (show ¬ firstB p l < l.length by omega), if_pos (by omega)]
    rw [List.any_cons, ← ih, e]
    cases p a with
    | true => simp
    | false =>
      simp only [Bool.false_eq_true, if_false, Bool.false_or]
      split
      · rw [decide_eq_false (by omega), decide_eq_false (by omega)]
      · rw [decide_eq_true (by omega), decide_eq_true (by omega)]
end Go.Proofs.YtcoflmckbcnlpaaGreatDoor
namespace Go.Proofs.YtcoflmckbcnlpaaGreatDoor
open Go.RowKit
set_option maxRecDepth 100000
set_option linter.unusedSimpArgs false
def intsC (l : List Int) : List (List AV) := l.map fun n => [.ex (.int .i64 n)]
theorem ints_len (l : List Int) : (intsC l).length = l.length := by simp [intsC]
theorem ints_get {l : List Int} {k : Nat} {m : Int} (h : l[k]? = some m) : (intsC l)[k]? = some [.ex (.int .i64 m)] := by rw [intsC, List.getElem?_map, h]; rfl
theorem IndexI_con (l : List Int) (lo hi : Int) (f : Nat) (p : Int → Bool) (hj : l.length ≤ 1000000) (hcl : ∀ x : Int, x ∈ l → Con Tryz.prog CtxP f [.ex (.int .i64 x), .rp [.ex (.int .i64 lo)] 0, .rp [.ex (.int .i64 hi)] 0] (.val (.ex (.bool (p x))))) : Con Tryz.prog CtxP 206 [.sl (intsC l), .fn f [.rp [.ex (.int .i64 lo)] 0, .rp [.ex (.int .i64 hi)] 0]] (.val (.ex (.int .i64 (idxB p l)))) := by
  refine con_val base Tryz.func206 rfl rfl (by kernel_rfl) (Nat.le_of_ble_eq_true rfl) ?_
  rw [init_eq]
  have q1 := ints_len l
  have hcl := Lib.hid hcl
  (repeat' (first | exact trivial | refine stq ?_ | (refine awp_ret ?_; simp only [then_ret, block_ret, end_ret]) | ((first | refine stp ?_ | refine nqif_ways (fun h => ?_) ?_ | ((first | refine gif_ways (fun h => ?_) (fun h => ?_) | refine cif_ways (fun h => ?_) (fun h => ?_)) <;> (try simp only [sxn] at h) <;> (try (exfalso; omega)))) <;> (try (refine wS ?_)))))
  refine vloop (fun n tm hp nx => ∃ k : Nat, n = l.length - k ∧ k ≤ l.length ∧ tm 0 = .sl (intsC l) ∧ tm 1 = .fn f [.rp [.ex (.int .i64 lo)] 0, .rp [.ex (.int .i64 hi)] 0] ∧ tm 7 = .ex (.int .i64 l.length) ∧ tm 8 = .ex (.int .i64 k) ∧ Hid (∀ (i : Nat) y, i < k → l[i]? = some y → p y = false)) l.length ⟨0, rfl, Nat.zero_le _, by exact byS, by exact byS, by exact byS, by exact byS, Lib.hid fun i y hi => absurd hi (Nat.not_lt_zero _)⟩ ?_
  rintro n tm hp nx ⟨k, hn, hk, g0, g1, g7, g8, hH⟩
  by_cases hlt : k < l.length
  · have e0 : l[k]? = some l[k] := List.getElem?_eq_getElem hlt
    have hc := hcl.out _ (List.getElem_mem hlt)
    generalize l[k] = x at e0 hc
    have q4 := ints_get e0
    cases hx : p x with
    | true =>
      have hr : idxB p l = k := idxB_at e0 hH.out hx
      rw [hx] at hc
      clear hx e0
      (repeat' (first | exact trivial | refine stq ?_ | (refine awp_ret ?_; simp only [then_ret, block_ret, end_ret]) | ((first | refine cv (hc) ?_ | refine stp ?_ | refine nqif_ways (fun h => ?_) ?_ | ((first | refine gif_ways (fun h => ?_) (fun h => ?_) | refine cif_ways (fun h => ?_) (fun h => ?_)) <;> (try simp only [sxn] at h) <;> (try (exfalso; omega)))) <;> (try (refine wS ?_)))))
      all_goals simp only [sxd, z0, p0, Nat.reduceEqDiff, ↓reduceIte, Tryz.f206, *]
    | false =>
      have n1 := Lib.hid (upto e0 hH.out hx)
      rw [hx] at hc
      clear hx e0
      (repeat' (first | exact trivial | refine stq ?_ | (refine awp_ret ?_; simp only [then_ret, block_ret, end_ret]) | ((first | refine cv (hc) ?_ | refine stp ?_ | refine nqif_ways (fun h => ?_) ?_ | ((first | refine gif_ways (fun h => ?_) (fun h => ?_) | refine cif_ways (fun h => ?_) (fun h => ?_)) <;> (try simp only [sxn] at h) <;> (try (exfalso; omega)))) <;> (try (refine wS ?_)))))
      exact kround_i (l.length - (k + 1)) (by omega) ⟨k + 1, rfl, by omega, by exact byS, by exact byS, by exact byS, by exact byS, n1⟩
  · have hr : idxB p l = -1 := idxB_end (fun q y hy => hH.out q y (by have := (List.getElem?_eq_some_iff.1 hy).1; omega) hy)
    (repeat' (first | exact trivial | refine stq ?_ | (refine awp_ret ?_; simp only [then_ret, block_ret, end_ret]) | ((first | refine stp ?_ | refine nqif_ways (fun h => ?_) ?_ | ((first | refine gif_ways (fun h => ?_) (fun h => ?_) | refine cif_ways (fun h => ?_) (fun h => ?_)) <;> (try simp only [sxn] at h) <;> (try (exfalso; omega)))) <;> (try (refine wS ?_)))))
    all_goals simp only [sxd, z0, p0, Nat.reduceEqDiff, ↓reduceIte, Tryz.f206, *]
def outB (lo hi x : Int) : Bool := decide (x < lo) || decide (hi < x)
theorem within1_con (x lo hi : Int) : Con Tryz.prog CtxP 177 [.ex (.int .i64 x), .rp [.ex (.int .i64 lo)] 0, .rp [.ex (.int .i64 hi)] 0] (.val (.ex (.bool (outB lo hi x)))) := by
  refine con_val base Tryz.func177 rfl rfl (by kernel_rfl) (Nat.le_of_ble_eq_true rfl) ?_
  rw [init_eq]
  by_cases h : x < lo
  · have hr : outB lo hi x = true := by unfold outB; rw [decide_eq_true h]; rfl
    (repeat' (first | exact trivial | refine stq ?_ | (refine awp_ret ?_; simp only [then_ret, block_ret, end_ret]) | ((first | refine stp ?_ | refine nqif_ways (fun h => ?_) ?_ | ((first | refine gif_ways (fun h => ?_) (fun h => ?_) | refine cif_ways (fun h => ?_) (fun h => ?_)) <;> (try simp only [sxn] at h) <;> (try (exfalso; omega)))) <;> (try (refine wS ?_)))))
    all_goals simp only [sxd, z0, p0, Nat.reduceEqDiff, ↓reduceIte, Tryz.f177, *]
  · have hr : outB lo hi x = decide (hi < x) := by unfold outB; rw [decide_eq_false h]; rfl
    (repeat' (first | exact trivial | refine stq ?_ | (refine awp_ret ?_; simp only [then_ret, block_ret, end_ret]) | ((first | refine stp ?_ | refine nqif_ways (fun h => ?_) ?_ | ((first | refine gif_ways (fun h => ?_) (fun h => ?_) | refine cif_ways (fun h => ?_) (fun h => ?_)) <;> (try simp only [sxn] at h) <;> (try (exfalso; omega)))) <;> (try (refine wS ?_)))))
    all_goals simp only [sxd, z0, p0, Nat.reduceEqDiff, ↓reduceIte, Tryz.f177, *]
theorem ContainsF_con (l : List Int) (lo hi : Int) (hj : l.length ≤ 1000000) : Con Tryz.prog CtxP 176 [.sl (intsC l), .fn 177 [.rp [.ex (.int .i64 lo)] 0, .rp [.ex (.int .i64 hi)] 0]] (.val (.ex (.bool (l.any (outB lo hi))))) := by
  rw [← idxB_any]
  refine con_val base Tryz.func176 rfl rfl (by kernel_rfl) (Nat.le_of_ble_eq_true rfl) ?_
  rw [init_eq]
  have hc := IndexI_con l lo hi 177 (outB lo hi) hj fun x _ => within1_con x lo hi
  generalize idxB (outB lo hi) l = I at hc
  (repeat' (first | exact trivial | refine stq ?_ | (refine awp_ret ?_; simp only [then_ret, block_ret, end_ret]) | ((first | refine cv (hc) ?_ | refine stp ?_ | refine nqif_ways (fun h => ?_) ?_ | ((first | refine gif_ways (fun h => ?_) (fun h => ?_) | refine cif_ways (fun h => ?_) (fun h => ?_)) <;> (try simp only [sxn] at h) <;> (try (exfalso; omega)))) <;> (try (refine wS ?_)))))
  all_goals simp only [sxd, z0, p0, Nat.reduceEqDiff, ↓reduceIte, Tryz.f176, *]
theorem within_con (l : List Int) (lo hi : Int) (hj : l.length ≤ 1000000) : Con Tryz.prog CtxP 125 [.sl (intsC l), .ex (.int .i64 lo), .ex (.int .i64 hi)] (.val (.ex (.bool (!l.any (outB lo hi))))) := by
  refine con_val base Tryz.func125 rfl rfl (by kernel_rfl) (Nat.le_of_ble_eq_true rfl) ?_
  rw [init_eq]
  have hc := ContainsF_con l lo hi hj
  generalize l.any (outB lo hi) = I at hc
  (repeat' (first | exact trivial | refine stq ?_ | (refine awp_ret ?_; simp only [then_ret, block_ret, end_ret]) | ((first | refine cv (hc) ?_ | refine stp ?_ | refine nqif_ways (fun h => ?_) ?_ | ((first | refine gif_ways (fun h => ?_) (fun h => ?_) | refine cif_ways (fun h => ?_) (fun h => ?_)) <;> (try simp only [sxn] at h) <;> (try (exfalso; omega)))) <;> (try (refine wS ?_)))))
  all_goals simp only [sxd, z0, p0, Nat.reduceEqDiff, ↓reduceIte, Tryz.f125, *]
theorem IndexE_con (l : List Int) (v : Int) (hj : l.length ≤ 1000000) : Con Tryz.prog CtxP 207 [.sl (intsC l), .ex (.int .i64 v)] (.val (.ex (.int .i64 (idxB (fun x => decide (v = x)) l)))) := by
  refine con_val base Tryz.func207 rfl rfl (by kernel_rfl) (Nat.le_of_ble_eq_true rfl) ?_
  rw [init_eq]
  have q1 := ints_len l
  (repeat' (first | exact trivial | refine stq ?_ | (refine awp_ret ?_; simp only [then_ret, block_ret, end_ret]) | ((first | refine stp ?_ | refine nqif_ways (fun h => ?_) ?_ | ((first | refine gif_ways (fun h => ?_) (fun h => ?_) | refine cif_ways (fun h => ?_) (fun h => ?_)) <;> (try simp only [sxn] at h) <;> (try (exfalso; omega)))) <;> (try (refine wS ?_)))))
  refine vloop (fun n tm hp nx => ∃ k : Nat, n = l.length - k ∧ k ≤ l.length ∧ tm 0 = .sl (intsC l) ∧ tm 1 = .ex (.int .i64 v) ∧ tm 7 = .ex (.int .i64 l.length) ∧ tm 8 = .ex (.int .i64 k) ∧ Hid (∀ (i : Nat) y, i < k → l[i]? = some y → (fun x => decide (v = x)) y = false)) l.length ⟨0, rfl, Nat.zero_le _, by exact byS, by exact byS, by exact byS, by exact byS, Lib.hid fun i y hi => absurd hi (Nat.not_lt_zero _)⟩ ?_
  rintro n tm hp nx ⟨k, hn, hk, g0, g1, g7, g8, hH⟩
  by_cases hlt : k < l.length
  · have e0 : l[k]? = some l[k] := List.getElem?_eq_getElem hlt
    generalize l[k] = x at e0
    have q4 := ints_get e0
    by_cases hx : v = x
    · have hr : idxB (fun x => decide (v = x)) l = k := idxB_at e0 hH.out (decide_eq_true hx)
      have hd : decide (v = x) = true := decide_eq_true hx
      clear hx e0 hH
      (repeat' (first | exact trivial | refine stq ?_ | (refine awp_ret ?_; simp only [then_ret, block_ret, end_ret]) | ((first | refine stp ?_ | refine nqif_ways (fun h => ?_) ?_ | ((first | refine gif_ways (fun h => ?_) (fun h => ?_) | refine cif_ways (fun h => ?_) (fun h => ?_)) <;> (try simp only [sxn] at h) <;> (try (exfalso; omega)))) <;> (try (refine wS ?_)))))
      all_goals simp only [sxd, z0, p0, Nat.reduceEqDiff, ↓reduceIte, Tryz.f207, *]
    · have n1 := Lib.hid (upto e0 hH.out (decide_eq_false hx))
      have hd : decide (v = x) = false := decide_eq_false hx
      clear hx e0 hH
      (repeat' (first | exact trivial | refine stq ?_ | (refine awp_ret ?_; simp only [then_ret, block_ret, end_ret]) | ((first | refine stp ?_ | refine nqif_ways (fun h => ?_) ?_ | ((first | refine gif_ways (fun h => ?_) (fun h => ?_) | refine cif_ways (fun h => ?_) (fun h => ?_)) <;> (try simp only [sxn] at h) <;> (try (exfalso; omega)))) <;> (try (refine wS ?_)))))
      exact kround_i (l.length - (k + 1)) (by omega) ⟨k + 1, rfl, by omega, by exact byS, by exact byS, by exact byS, by exact byS, n1⟩
  · have hr : idxB (fun x => decide (v = x)) l = -1 := idxB_end (fun q y hy => hH.out q y (by have := (List.getElem?_eq_some_iff.1 hy).1; omega) hy)
    clear hH
    (repeat' (first | exact trivial | refine stq ?_ | (refine awp_ret ?_; simp only [then_ret, block_ret, end_ret]) | ((first | refine stp ?_ | refine nqif_ways (fun h => ?_) ?_ | ((first | refine gif_ways (fun h => ?_) (fun h => ?_) | refine cif_ways (fun h => ?_) (fun h => ?_)) <;> (try simp only [sxn] at h) <;> (try (exfalso; omega)))) <;> (try (refine wS ?_)))))
    all_goals simp only [sxd, z0, p0, Nat.reduceEqDiff, ↓reduceIte, Tryz.f207, *]
def hasB (l : List Int) (v : Int) : Bool := l.any fun x => decide (v = x)
theorem Contains_con (l : List Int) (v : Int) (hj : l.length ≤ 1000000) : Con Tryz.prog CtxP 180 [.sl (intsC l), .ex (.int .i64 v)] (.val (.ex (.bool (hasB l v)))) := by
  unfold hasB
  rw [← idxB_any]
  refine con_val base Tryz.func180 rfl rfl (by kernel_rfl) (Nat.le_of_ble_eq_true rfl) ?_
  rw [init_eq]
  have hc := IndexE_con l v hj
  generalize idxB (fun x => decide (v = x)) l = I at hc
  (repeat' (first | exact trivial | refine stq ?_ | (refine awp_ret ?_; simp only [then_ret, block_ret, end_ret]) | ((first | refine cv (hc) ?_ | refine stp ?_ | refine nqif_ways (fun h => ?_) ?_ | ((first | refine gif_ways (fun h => ?_) (fun h => ?_) | refine cif_ways (fun h => ?_) (fun h => ?_)) <;> (try simp only [sxn] at h) <;> (try (exfalso; omega)))) <;> (try (refine wS ?_)))))
  all_goals simp only [sxd, z0, p0, Nat.reduceEqDiff, ↓reduceIte, Tryz.f180, *]
def Asc (l : List Int) : Prop := ∀ (k : Nat) x y, l[k]? = some x → l[k + 1]? = some y → x < y
open Classical in
noncomputable def ascB (l : List Int) : Bool := decide (Asc l)
theorem ascB_bad {l : List Int} {k : Nat} {x y : Int} (e1 : l[k]? = some x) (e2 : l[k + 1]? = some y) (h : y ≤ x) : ascB l = false := by
  classical
  unfold ascB
  exact decide_eq_false fun hh => by have := hh k x y e1 e2; omega
theorem ascB_ok {l : List Int} {k : Nat} (hk : l.length ≤ k) (h : ∀ (j : Nat) x y, j + 1 < k → l[j]? = some x → l[j + 1]? = some y → x < y) : ascB l = true := by
  classical
  unfold ascB
  exact decide_eq_true fun j x y e1 e2 => h j x y (by have := (List.getElem?_eq_some_iff.1 e2).1; omega) e1 e2
theorem asc_next {l : List Int} {k : Nat} {x y : Int} (h : ∀ (j : Nat) x y, j + 1 < k → l[j]? = some x → l[j + 1]? = some y → x < y) (k1 : 1 ≤ k) (e1 : l[k - 1]? = some x) (e2 : l[k]? = some y) (hxy : x < y) : ∀ (j : Nat) x y, j + 1 < k + 1 → l[j]? = some x → l[j + 1]? = some y → x < y := by
  intro j a b hj ea eb
  rcases Nat.lt_or_ge (j + 1) k with h1 | h1
  · exact h j a b h1 ea eb
  · have : j = k - 1 := by omega
    subst this
    rw [show k - 1 + 1 = k by omega] at eb
    rw [e1] at ea; rw [e2] at eb
    cases ea; cases eb; exact hxy
theorem ascending_con (l : List Int) (hj : l.length ≤ 1000000) : Con Tryz.prog CtxP 126 [.sl (intsC l)] (.val (.ex (.bool (ascB l)))) := by
  refine con_val base Tryz.func126 rfl rfl (by kernel_rfl) (Nat.le_of_ble_eq_true rfl) ?_
  rw [init_eq]
  have q1 := ints_len l
  (repeat' (first | exact trivial | refine stq ?_ | (refine awp_ret ?_; simp only [then_ret, block_ret, end_ret]) | ((first | refine stp ?_ | refine nqif_ways (fun h => ?_) ?_ | ((first | refine gif_ways (fun h => ?_) (fun h => ?_) | refine cif_ways (fun h => ?_) (fun h => ?_)) <;> (try simp only [sxn] at h) <;> (try (exfalso; omega)))) <;> (try (refine wS ?_)))))
  refine vloop (fun n tm hp nx => ∃ k : Nat, n = l.length + 1 - k ∧ 1 ≤ k ∧ k ≤ l.length + 1 ∧ tm 0 = .sl (intsC l) ∧ tm 3 = .ex (.int .i64 k) ∧ Hid (∀ (j : Nat) x y, j + 1 < k → l[j]? = some x → l[j + 1]? = some y → x < y)) _ ⟨1, rfl, Nat.le_refl _, by omega, by exact byS, by exact byS, Lib.hid fun j x y hj => absurd hj (by omega)⟩ ?_
  rintro n tm hp nx ⟨k, hn, hk1, hk, g0, g3, hH⟩
  by_cases hlt : k < l.length
  · have e0 : l[k]? = some l[k] := List.getElem?_eq_getElem hlt
    have e1 : l[k - 1]? = some l[k - 1] := List.getElem?_eq_getElem (by omega)
    generalize l[k] = y at e0
    generalize l[k - 1] = x at e1
    have q4 := ints_get e0
    have q5 := ints_get e1
    have q6 : ((k : Int) - 1).toNat = k - 1 := by omega
    by_cases hx : y ≤ x
    · have hr : ascB l = false := ascB_bad (k := k - 1) e1 (by rw [show k - 1 + 1 = k by omega]; exact e0) hx
      clear e0 e1 hH
      (repeat' (first | exact trivial | refine stq ?_ | (refine awp_ret ?_; simp only [then_ret, block_ret, end_ret]) | ((first | refine stp ?_ | refine nqif_ways (fun h => ?_) ?_ | ((first | refine gif_ways (fun h => ?_) (fun h => ?_) | refine cif_ways (fun h => ?_) (fun h => ?_)) <;> (try simp only [sxn] at h) <;> (try (exfalso; omega)))) <;> (try (refine wS ?_)))))
      all_goals simp only [sxd, z0, p0, Nat.reduceEqDiff, ↓reduceIte, Tryz.f126, *]
    · have n1 := Lib.hid (asc_next hH.out hk1 e1 e0 (by omega))
      clear e0 e1 hH
      (repeat' (first | exact trivial | refine stq ?_ | (refine awp_ret ?_; simp only [then_ret, block_ret, end_ret]) | ((first | refine stp ?_ | refine nqif_ways (fun h => ?_) ?_ | ((first | refine gif_ways (fun h => ?_) (fun h => ?_) | refine cif_ways (fun h => ?_) (fun h => ?_)) <;> (try simp only [sxn] at h) <;> (try (exfalso; omega)))) <;> (try (refine wS ?_)))))
      exact kround_i (l.length + 1 - (k + 1)) (by omega) ⟨k + 1, rfl, by omega, by omega, by exact byS, by exact byS, n1⟩
  · have hr : ascB l = true := ascB_ok (by omega) hH.out
    clear hH
    (repeat' (first | exact trivial | refine stq ?_ | (refine awp_ret ?_; simp only [then_ret, block_ret, end_ret]) | ((first | refine stp ?_ | refine nqif_ways (fun h => ?_) ?_ | ((first | refine gif_ways (fun h => ?_) (fun h => ?_) | refine cif_ways (fun h => ?_) (fun h => ?_)) <;> (try simp only [sxn] at h) <;> (try (exfalso; omega)))) <;> (try (refine wS ?_)))))
    all_goals simp only [sxd, z0, p0, Nat.reduceEqDiff, ↓reduceIte, Tryz.f126, *]
theorem Rises_con (l : List Int) (hj : l.length ≤ 1000000) : Con Tryz.prog CtxP 69 [.sl (intsC l)] (.val (.ex (.bool (ascB l)))) := by
  refine con_val base Tryz.func69 rfl rfl (by kernel_rfl) (Nat.le_of_ble_eq_true rfl) ?_
  rw [init_eq]
  have q1 := ints_len l
  (repeat' (first | exact trivial | refine stq ?_ | (refine awp_ret ?_; simp only [then_ret, block_ret, end_ret]) | ((first | refine stp ?_ | refine nqif_ways (fun h => ?_) ?_ | ((first | refine gif_ways (fun h => ?_) (fun h => ?_) | refine cif_ways (fun h => ?_) (fun h => ?_)) <;> (try simp only [sxn] at h) <;> (try (exfalso; omega)))) <;> (try (refine wS ?_)))))
  refine vloop (fun n tm hp nx => ∃ k : Nat, n = l.length + 1 - k ∧ 1 ≤ k ∧ k ≤ l.length + 1 ∧ tm 0 = .sl (intsC l) ∧ tm 3 = .ex (.int .i64 k) ∧ Hid (∀ (j : Nat) x y, j + 1 < k → l[j]? = some x → l[j + 1]? = some y → x < y)) _ ⟨1, rfl, Nat.le_refl _, by omega, by exact byS, by exact byS, Lib.hid fun j x y hj => absurd hj (by omega)⟩ ?_
  rintro n tm hp nx ⟨k, hn, hk1, hk, g0, g3, hH⟩
  by_cases hlt : k < l.length
  · have e0 : l[k]? = some l[k] := List.getElem?_eq_getElem hlt
    have e1 : l[k - 1]? = some l[k - 1] := List.getElem?_eq_getElem (by omega)
    generalize l[k] = y at e0
    generalize l[k - 1] = x at e1
    have q4 := ints_get e0
    have q5 := ints_get e1
    have q6 : ((k : Int) - 1).toNat = k - 1 := by omega
    by_cases hx : y ≤ x
    · have hr : ascB l = false := ascB_bad (k := k - 1) e1 (by rw [show k - 1 + 1 = k by omega]; exact e0) hx
      clear e0 e1 hH
      (repeat' (first | exact trivial | refine stq ?_ | (refine awp_ret ?_; simp only [then_ret, block_ret, end_ret]) | ((first | refine stp ?_ | refine nqif_ways (fun h => ?_) ?_ | ((first | refine gif_ways (fun h => ?_) (fun h => ?_) | refine cif_ways (fun h => ?_) (fun h => ?_)) <;> (try simp only [sxn] at h) <;> (try (exfalso; omega)))) <;> (try (refine wS ?_)))))
      all_goals simp only [sxd, z0, p0, Nat.reduceEqDiff, ↓reduceIte, Tryz.f69, *]
    · have n1 := Lib.hid (asc_next hH.out hk1 e1 e0 (by omega))
      clear e0 e1 hH
      (repeat' (first | exact trivial | refine stq ?_ | (refine awp_ret ?_; simp only [then_ret, block_ret, end_ret]) | ((first | refine stp ?_ | refine nqif_ways (fun h => ?_) ?_ | ((first | refine gif_ways (fun h => ?_) (fun h => ?_) | refine cif_ways (fun h => ?_) (fun h => ?_)) <;> (try simp only [sxn] at h) <;> (try (exfalso; omega)))) <;> (try (refine wS ?_)))))
      exact kround_i (l.length + 1 - (k + 1)) (by omega) ⟨k + 1, rfl, by omega, by omega, by exact byS, by exact byS, n1⟩
  · have hr : ascB l = true := ascB_ok (by omega) hH.out
    clear hH
    (repeat' (first | exact trivial | refine stq ?_ | (refine awp_ret ?_; simp only [then_ret, block_ret, end_ret]) | ((first | refine stp ?_ | refine nqif_ways (fun h => ?_) ?_ | ((first | refine gif_ways (fun h => ?_) (fun h => ?_) | refine cif_ways (fun h => ?_) (fun h => ?_)) <;> (try simp only [sxn] at h) <;> (try (exfalso; omega)))) <;> (try (refine wS ?_)))))
    all_goals simp only [sxd, z0, p0, Nat.reduceEqDiff, ↓reduceIte, Tryz.f69, *]
end Go.Proofs.YtcoflmckbcnlpaaGreatDoor
namespace Go.Proofs.YtcoflmckbcnlpaaGreatDoor
open Go.RowKit
set_option maxRecDepth 100000
set_option linter.unusedSimpArgs false
def lowB (c : UInt8) : Prop := 97 ≤ c.toNat ∧ c.toNat ≤ 122
def nameOk (k : Nat) (c : UInt8) : Prop := lowB c ∨ (k ≠ 0 ∧ (c.toNat = 95 ∨ (48 ≤ c.toNat ∧ c.toNat ≤ 57)))
open Classical in
noncomputable def nameB (s : ByteArray) : Bool := decide (1 ≤ s.size ∧ s.size ≤ 16 ∧ ∀ k c, s.data.toList[k]? = some c → nameOk k c)
theorem nameB_bad {s : ByteArray} {k : Nat} {c : UInt8} (e : s.data.toList[k]? = some c) (h : ¬ nameOk k c) : nameB s = false := by
  classical
  unfold nameB
  exact decide_eq_false fun hh => h (hh.2.2 k c e)
theorem nameB_len {s : ByteArray} (h : ¬ (1 ≤ s.size ∧ s.size ≤ 16)) : nameB s = false := by
  classical
  unfold nameB
  exact decide_eq_false fun hh => h ⟨hh.1, hh.2.1⟩
theorem nameB_ok {s : ByteArray} {k : Nat} (hk : s.size ≤ k) (h1 : 1 ≤ s.size ∧ s.size ≤ 16) (h : ∀ j c, j < k → s.data.toList[j]? = some c → nameOk j c) : nameB s = true := by
  classical
  unfold nameB
  exact decide_eq_true ⟨h1.1, h1.2, fun j c e => h j c (by have := (List.getElem?_eq_some_iff.1 e).1; rw [size_toList] at this; omega) e⟩
theorem name_next {s : ByteArray} {k : Nat} {x : UInt8} (e : s.data.toList[k]? = some x) (h : ∀ j c, j < k → s.data.toList[j]? = some c → nameOk j c) (hx : nameOk k x) : ∀ j c, j < k + 1 → s.data.toList[j]? = some c → nameOk j c := by
  intro j y hj hy
  rcases Nat.lt_or_ge j k with hl | hl
  · exact h j y hl hy
  · have : j = k := by omega
    subst this
    rw [e] at hy
    cases hy; exact hx
theorem name_con (s : ByteArray) (hs : s.size ≤ 9223372036854775807) : Con Tryz.prog CtxP 124 [.ex (.string s)] (.val (.ex (.bool (nameB s)))) := by
  refine con_val base Tryz.func124 rfl rfl (by kernel_rfl) (Nat.le_of_ble_eq_true rfl) ?_
  rw [init_eq]
  (repeat' (first | exact trivial | refine stq ?_ | (refine awp_ret ?_; simp only [then_ret, block_ret, end_ret]) | ((first | refine stp ?_ | refine nqif_ways (fun h => ?_) ?_ | ((first | refine gif_ways (fun h => ?_) (fun h => ?_) | refine cif_ways (fun h => ?_) (fun h => ?_)) <;> (try simp only [sxn] at h) <;> (try (exfalso; omega)))) <;> (try (refine wS ?_)))))
  refine vloop (fun n tm hp nx => ∃ k : Nat, n = s.size - k ∧ k ≤ s.size ∧ tm 0 = .ex (.string s) ∧ tm 7 = .ex (.int .i64 s.size) ∧ tm 8 = .ex (.int .i64 k) ∧ Hid (∀ j c, j < k → s.data.toList[j]? = some c → nameOk j c)) _ ⟨0, rfl, Nat.zero_le _, by exact byS, by exact byS, by exact byS, Lib.hid fun j c hj => absurd hj (Nat.not_lt_zero _)⟩ ?_
  rintro n tm hp nx ⟨k, hn, hk, g0, g7, g8, hH⟩
  by_cases hlt : k < s.size
  · have f1 := byte_at s k hlt
    generalize hc : s[k]'hlt = c at f1
    by_cases hu : nameOk k c
    · have hnx := Lib.hid (name_next f1 hH.out hu)
      clear f1 hH
      rcases hu with ⟨u1, u2⟩ | ⟨u0, hu⟩
      · (repeat' (first | exact trivial | refine stq ?_ | (refine awp_ret ?_; simp only [then_ret, block_ret, end_ret]) | ((first | refine stp ?_ | refine nqif_ways (fun h => ?_) ?_ | ((first | refine gif_ways (fun h => ?_) (fun h => ?_) | refine cif_ways (fun h => ?_) (fun h => ?_)) <;> (try simp only [sxn] at h) <;> (try (exfalso; omega)))) <;> (try (refine wS ?_)))))
        all_goals exact kround_i (s.size - (k + 1)) (by omega) ⟨k + 1, rfl, by omega, by exact byS, by exact byS, by exact byS, hnx⟩
      · have u3 : ¬ (97 ≤ (c.toNat : Int)) := by omega
        have u4 : ¬ ((k : Int) = 0) := by omega
        rcases hu with u1 | ⟨u1, u2⟩
        · have u5 : (c.toNat : Int) = 95 := by omega
          (repeat' (first | exact trivial | refine stq ?_ | (refine awp_ret ?_; simp only [then_ret, block_ret, end_ret]) | ((first | refine stp ?_ | refine nqif_ways (fun h => ?_) ?_ | ((first | refine gif_ways (fun h => ?_) (fun h => ?_) | refine cif_ways (fun h => ?_) (fun h => ?_)) <;> (try simp only [sxn] at h) <;> (try (exfalso; omega)))) <;> (try (refine wS ?_)))))
          all_goals exact kround_i (s.size - (k + 1)) (by omega) ⟨k + 1, rfl, by omega, by exact byS, by exact byS, by exact byS, hnx⟩
        · have u5 : ¬ ((c.toNat : Int) = 95) := by omega
          (repeat' (first | exact trivial | refine stq ?_ | (refine awp_ret ?_; simp only [then_ret, block_ret, end_ret]) | ((first | refine stp ?_ | refine nqif_ways (fun h => ?_) ?_ | ((first | refine gif_ways (fun h => ?_) (fun h => ?_) | refine cif_ways (fun h => ?_) (fun h => ?_)) <;> (try simp only [sxn] at h) <;> (try (exfalso; omega)))) <;> (try (refine wS ?_)))))
          all_goals exact kround_i (s.size - (k + 1)) (by omega) ⟨k + 1, rfl, by omega, by exact byS, by exact byS, by exact byS, hnx⟩
    · have hr := nameB_bad f1 hu
      have hu2 : ¬ (97 ≤ c.toNat ∧ c.toNat ≤ 122) := fun h => hu (.inl h)
      have hu3 : k = 0 ∨ (k ≠ 0 ∧ c.toNat ≠ 95 ∧ ¬ (48 ≤ c.toNat ∧ c.toNat ≤ 57)) := by
        rcases Nat.eq_zero_or_pos k with h | h
        · exact .inl h
        · refine .inr ⟨by omega, fun h2 => hu (.inr ⟨by omega, .inl h2⟩), fun h2 => hu (.inr ⟨by omega, .inr h2⟩)⟩
      clear f1 hu hH
      rcases hu3 with h | ⟨h0, h, h2⟩
      · subst h
        have g9 : tm 8 = .ex (.int .i64 0) := g8
        clear g8
        have hlow : (c.toNat : Int) < 97 ∨ 122 < (c.toNat : Int) := by omega
        rcases hlow with hl | hl
        · have hl2 : ¬ (97 ≤ (c.toNat : Int)) := by omega
          (repeat' (first | exact trivial | refine stq ?_ | (refine awp_ret ?_; simp only [then_ret, block_ret, end_ret]) | ((first | refine stp ?_ | refine nqif_ways (fun h => ?_) ?_ | ((first | refine gif_ways (fun h => ?_) (fun h => ?_) | refine cif_ways (fun h => ?_) (fun h => ?_)) <;> (try simp only [sxn] at h) <;> (try (exfalso; omega)))) <;> (try (refine wS ?_)))))
          all_goals simp only [sxd, z0, p0, Nat.reduceEqDiff, ↓reduceIte, Tryz.f124, *]
        · have hl2 : (97 ≤ (c.toNat : Int)) := by omega
          have hl3 : ¬ ((c.toNat : Int) ≤ 122) := by omega
          (repeat' (first | exact trivial | refine stq ?_ | (refine awp_ret ?_; simp only [then_ret, block_ret, end_ret]) | ((first | refine stp ?_ | refine nqif_ways (fun h => ?_) ?_ | ((first | refine gif_ways (fun h => ?_) (fun h => ?_) | refine cif_ways (fun h => ?_) (fun h => ?_)) <;> (try simp only [sxn] at h) <;> (try (exfalso; omega)))) <;> (try (refine wS ?_)))))
          all_goals simp only [sxd, z0, p0, Nat.reduceEqDiff, ↓reduceIte, Tryz.f124, *]
      · have h3 : ¬ ((c.toNat : Int) = 95) := by omega
        have hk0 : ¬ ((k : Int) = 0) := by omega
        have hlow : (c.toNat : Int) < 48 ∨ (57 < (c.toNat : Int) ∧ (c.toNat : Int) < 97) ∨ 122 < (c.toNat : Int) := by omega
        rcases hlow with hl | ⟨hl, hl4⟩ | hl
        · have hl2 : ¬ (97 ≤ (c.toNat : Int)) := by omega
          (repeat' (first | exact trivial | refine stq ?_ | (refine awp_ret ?_; simp only [then_ret, block_ret, end_ret]) | ((first | refine stp ?_ | refine nqif_ways (fun h => ?_) ?_ | ((first | refine gif_ways (fun h => ?_) (fun h => ?_) | refine cif_ways (fun h => ?_) (fun h => ?_)) <;> (try simp only [sxn] at h) <;> (try (exfalso; omega)))) <;> (try (refine wS ?_)))))
          all_goals simp only [sxd, z0, p0, Nat.reduceEqDiff, ↓reduceIte, Tryz.f124, *]
        · have hl2 : ¬ (97 ≤ (c.toNat : Int)) := by omega
          have hl3 : ¬ ((c.toNat : Int) < 48) := by omega
          (repeat' (first | exact trivial | refine stq ?_ | (refine awp_ret ?_; simp only [then_ret, block_ret, end_ret]) | ((first | refine stp ?_ | refine nqif_ways (fun h => ?_) ?_ | ((first | refine gif_ways (fun h => ?_) (fun h => ?_) | refine cif_ways (fun h => ?_) (fun h => ?_)) <;> (try simp only [sxn] at h) <;> (try (exfalso; omega)))) <;> (try (refine wS ?_)))))
          all_goals simp only [sxd, z0, p0, Nat.reduceEqDiff, ↓reduceIte, Tryz.f124, *]
        · have hl2 : (97 ≤ (c.toNat : Int)) := by omega
          have hl3 : ¬ ((c.toNat : Int) ≤ 122) := by omega
          have hl4 : ¬ ((c.toNat : Int) < 48) := by omega
          have hl5 : (57 < (c.toNat : Int)) := by omega
          (repeat' (first | exact trivial | refine stq ?_ | (refine awp_ret ?_; simp only [then_ret, block_ret, end_ret]) | ((first | refine stp ?_ | refine nqif_ways (fun h => ?_) ?_ | ((first | refine gif_ways (fun h => ?_) (fun h => ?_) | refine cif_ways (fun h => ?_) (fun h => ?_)) <;> (try simp only [sxn] at h) <;> (try (exfalso; omega)))) <;> (try (refine wS ?_)))))
          all_goals simp only [sxd, z0, p0, Nat.reduceEqDiff, ↓reduceIte, Tryz.f124, *]
  · by_cases h1 : 1 ≤ s.size
    · have h1' : (1 : Int) ≤ (s.size : Int) := by omega
      by_cases h2 : s.size ≤ 16
      · have h2' : (s.size : Int) ≤ 16 := by omega
        have hr := nameB_ok (by omega : s.size ≤ k) ⟨h1, h2⟩ hH.out
        clear hH
        (repeat' (first | exact trivial | refine stq ?_ | (refine awp_ret ?_; simp only [then_ret, block_ret, end_ret]) | ((first | refine stp ?_ | refine nqif_ways (fun h => ?_) ?_ | ((first | refine gif_ways (fun h => ?_) (fun h => ?_) | refine cif_ways (fun h => ?_) (fun h => ?_)) <;> (try simp only [sxn] at h) <;> (try (exfalso; omega)))) <;> (try (refine wS ?_)))))
        all_goals simp only [sxd, z0, p0, Nat.reduceEqDiff, ↓reduceIte, Tryz.f124, *]
      · have h2' : ¬ ((s.size : Int) ≤ 16) := by omega
        have hr := nameB_len (s := s) (fun h => h2 h.2)
        clear hH
        (repeat' (first | exact trivial | refine stq ?_ | (refine awp_ret ?_; simp only [then_ret, block_ret, end_ret]) | ((first | refine stp ?_ | refine nqif_ways (fun h => ?_) ?_ | ((first | refine gif_ways (fun h => ?_) (fun h => ?_) | refine cif_ways (fun h => ?_) (fun h => ?_)) <;> (try simp only [sxn] at h) <;> (try (exfalso; omega)))) <;> (try (refine wS ?_)))))
        all_goals simp only [sxd, z0, p0, Nat.reduceEqDiff, ↓reduceIte, Tryz.f124, *]
    · have h1' : ¬ ((1 : Int) ≤ (s.size : Int)) := by omega
      have hr := nameB_len (s := s) (fun h => h1 h.1)
      clear hH
      (repeat' (first | exact trivial | refine stq ?_ | (refine awp_ret ?_; simp only [then_ret, block_ret, end_ret]) | ((first | refine stp ?_ | refine nqif_ways (fun h => ?_) ?_ | ((first | refine gif_ways (fun h => ?_) (fun h => ?_) | refine cif_ways (fun h => ?_) (fun h => ?_)) <;> (try simp only [sxn] at h) <;> (try (exfalso; omega)))) <;> (try (refine wS ?_)))))
      all_goals simp only [sxd, z0, p0, Nat.reduceEqDiff, ↓reduceIte, Tryz.f124, *]
end Go.Proofs.YtcoflmckbcnlpaaGreatDoor
namespace Go.Proofs.YtcoflmckbcnlpaaGreatDoor
open Go.RowKit
set_option maxRecDepth 100000
set_option linter.unusedSimpArgs false
theorem RName_con (s : ByteArray) (hs : s.size ≤ 9223372036854775807) : Con Tryz.prog CtxP 68 [.ex (.string s)] (.val (.ex (.bool (nameB s)))) := by
  refine con_val base Tryz.func68 rfl rfl (by kernel_rfl) (Nat.le_of_ble_eq_true rfl) ?_
  rw [init_eq]
  by_cases h1 : 1 ≤ s.size
  · have h1' : ¬ ((s.size : Int) < 1) := by omega
    by_cases h2 : s.size ≤ 16
    · have h2' : ¬ (16 < (s.size : Int)) := by omega
      have f0 := byte_at s 0 h1
      generalize hc0 : s[0]'h1 = c0 at f0
      have hss : 0 < s.size := h1
      by_cases hlow : lowB c0
      · obtain ⟨u1, u2⟩ := hlow
        have u3 : ¬ ((c0.toNat : Int) < 97) := by omega
        have u4 : ¬ (122 < (c0.toNat : Int)) := by omega
        have hlow2 := Lib.hid (show lowB c0 from ⟨u1, u2⟩)
        have f0h := Lib.hid f0
        clear f0
        (repeat' (first | exact trivial | refine stq ?_ | (refine awp_ret ?_; simp only [then_ret, block_ret, end_ret]) | ((first | refine stp ?_ | refine nqif_ways (fun h => ?_) ?_ | ((first | refine gif_ways (fun h => ?_) (fun h => ?_) | refine cif_ways (fun h => ?_) (fun h => ?_)) <;> (try simp only [sxn] at h) <;> (try (exfalso; omega)))) <;> (try (refine wS ?_)))))
        refine vloop (fun n tm hp nx => ∃ k : Nat, n = s.size - k ∧ k ≤ s.size ∧ tm 0 = .ex (.string s) ∧ tm 3 = .ex (.int .i64 k) ∧ Hid (∀ j c, j < k → s.data.toList[j]? = some c → nameOk j c)) _ ⟨0, rfl, Nat.zero_le _, by exact byS, by exact byS, Lib.hid fun j c hj => absurd hj (Nat.not_lt_zero _)⟩ ?_
        rintro n tm hp nx ⟨k, hn, hk, g0, g3, hH⟩
        clear hc0 u1 u2 u3 u4
        by_cases hlt : k < s.size
        · have f1 := byte_at s k hlt
          generalize hc : s[k]'hlt = c at f1
          have hsame : k = 0 → c = c0 := by
            intro h
            subst h
            have := f0h.out
            rw [f1] at this
            cases this; rfl
          by_cases hu : nameOk k c
          · have hnx := Lib.hid (name_next f1 hH.out hu)
            clear f1 hH hsame
            rcases hu with ⟨u1, u2⟩ | ⟨u0, hu⟩
            · have u3 : ¬ ((c.toNat : Int) < 97) := by omega
              have u4 : ¬ (122 < (c.toNat : Int)) := by omega
              (repeat' (first | exact trivial | refine stq ?_ | (refine awp_ret ?_; simp only [then_ret, block_ret, end_ret]) | ((first | refine stp ?_ | refine nqif_ways (fun h => ?_) ?_ | ((first | refine gif_ways (fun h => ?_) (fun h => ?_) | refine cif_ways (fun h => ?_) (fun h => ?_)) <;> (try simp only [sxn] at h) <;> (try (exfalso; omega)))) <;> (try (refine wS ?_)))))
              all_goals exact kround_i (s.size - (k + 1)) (by omega) ⟨k + 1, rfl, by omega, by exact byS, by exact byS, hnx⟩
            · rcases hu with u1 | ⟨u1, u2⟩
              · have u5 : (c.toNat : Int) = 95 := by omega
                (repeat' (first | exact trivial | refine stq ?_ | (refine awp_ret ?_; simp only [then_ret, block_ret, end_ret]) | ((first | refine stp ?_ | refine nqif_ways (fun h => ?_) ?_ | ((first | refine gif_ways (fun h => ?_) (fun h => ?_) | refine cif_ways (fun h => ?_) (fun h => ?_)) <;> (try simp only [sxn] at h) <;> (try (exfalso; omega)))) <;> (try (refine wS ?_)))))
                all_goals exact kround_i (s.size - (k + 1)) (by omega) ⟨k + 1, rfl, by omega, by exact byS, by exact byS, hnx⟩
              · have u5 : ¬ ((c.toNat : Int) < 48) := by omega
                have u6 : ¬ (57 < (c.toNat : Int)) := by omega
                have u7 : (c.toNat : Int) < 97 := by omega
                (repeat' (first | exact trivial | refine stq ?_ | (refine awp_ret ?_; simp only [then_ret, block_ret, end_ret]) | ((first | refine stp ?_ | refine nqif_ways (fun h => ?_) ?_ | ((first | refine gif_ways (fun h => ?_) (fun h => ?_) | refine cif_ways (fun h => ?_) (fun h => ?_)) <;> (try simp only [sxn] at h) <;> (try (exfalso; omega)))) <;> (try (refine wS ?_)))))
                all_goals exact kround_i (s.size - (k + 1)) (by omega) ⟨k + 1, rfl, by omega, by exact byS, by exact byS, hnx⟩
          · have hr := nameB_bad f1 hu
            have hk0 : k ≠ 0 := by
              intro h
              exact hu (.inl (by rw [hsame h]; exact hlow2.out))
            have hu2 : ¬ (97 ≤ c.toNat ∧ c.toNat ≤ 122) := fun h => hu (.inl h)
            have hu3 : c.toNat ≠ 95 ∧ ¬ (48 ≤ c.toNat ∧ c.toNat ≤ 57) := ⟨fun h2 => hu (.inr ⟨hk0, .inl h2⟩), fun h2 => hu (.inr ⟨hk0, .inr h2⟩)⟩
            obtain ⟨hu4, hu5⟩ := hu3
            have hw : ((c.toNat : Int) < 48) ∨ (¬ ((c.toNat : Int) < 48) ∧ 57 < (c.toNat : Int) ∧ (c.toNat : Int) < 97) ∨ (¬ ((c.toNat : Int) < 97) ∧ ¬ ((c.toNat : Int) < 48) ∧ 122 < (c.toNat : Int) ∧ 57 < (c.toNat : Int)) := by omega
            have hu6 : ¬ ((c.toNat : Int) = 95) := by omega
            clear f1 hu hH hsame hk0 hu2 hu5
            rcases hw with w1 | ⟨w1, w2, w3⟩ | ⟨w1, w2, w3, w4⟩
            · have w5 : (c.toNat : Int) < 97 := by omega
              (repeat' (first | exact trivial | refine stq ?_ | (refine awp_ret ?_; simp only [then_ret, block_ret, end_ret]) | ((first | refine stp ?_ | refine nqif_ways (fun h => ?_) ?_ | ((first | refine gif_ways (fun h => ?_) (fun h => ?_) | refine cif_ways (fun h => ?_) (fun h => ?_)) <;> (try simp only [sxn] at h) <;> (try (exfalso; omega)))) <;> (try (refine wS ?_)))))
              all_goals simp only [sxd, z0, p0, Nat.reduceEqDiff, ↓reduceIte, Tryz.f68, *]
            · (repeat' (first | exact trivial | refine stq ?_ | (refine awp_ret ?_; simp only [then_ret, block_ret, end_ret]) | ((first | refine stp ?_ | refine nqif_ways (fun h => ?_) ?_ | ((first | refine gif_ways (fun h => ?_) (fun h => ?_) | refine cif_ways (fun h => ?_) (fun h => ?_)) <;> (try simp only [sxn] at h) <;> (try (exfalso; omega)))) <;> (try (refine wS ?_)))))
              all_goals simp only [sxd, z0, p0, Nat.reduceEqDiff, ↓reduceIte, Tryz.f68, *]
            · (repeat' (first | exact trivial | refine stq ?_ | (refine awp_ret ?_; simp only [then_ret, block_ret, end_ret]) | ((first | refine stp ?_ | refine nqif_ways (fun h => ?_) ?_ | ((first | refine gif_ways (fun h => ?_) (fun h => ?_) | refine cif_ways (fun h => ?_) (fun h => ?_)) <;> (try simp only [sxn] at h) <;> (try (exfalso; omega)))) <;> (try (refine wS ?_)))))
              all_goals simp only [sxd, z0, p0, Nat.reduceEqDiff, ↓reduceIte, Tryz.f68, *]
        · have hr := nameB_ok (by omega : s.size ≤ k) ⟨h1, h2⟩ hH.out
          clear hH
          (repeat' (first | exact trivial | refine stq ?_ | (refine awp_ret ?_; simp only [then_ret, block_ret, end_ret]) | ((first | refine stp ?_ | refine nqif_ways (fun h => ?_) ?_ | ((first | refine gif_ways (fun h => ?_) (fun h => ?_) | refine cif_ways (fun h => ?_) (fun h => ?_)) <;> (try simp only [sxn] at h) <;> (try (exfalso; omega)))) <;> (try (refine wS ?_)))))
          all_goals simp only [sxd, z0, p0, Nat.reduceEqDiff, ↓reduceIte, Tryz.f68, *]
      · have hr : nameB s = false := nameB_bad f0 (fun h => by
          rcases h with h | ⟨h, _⟩
          · exact hlow h
          · exact h rfl)
        have hlow2 : (c0.toNat : Int) < 97 ∨ (¬ ((c0.toNat : Int) < 97) ∧ 122 < (c0.toNat : Int)) := by
          have : ¬ (97 ≤ c0.toNat ∧ c0.toNat ≤ 122) := hlow
          omega
        clear f0 hlow
        rcases hlow2 with w1 | ⟨w1, w2⟩
        · (repeat' (first | exact trivial | refine stq ?_ | (refine awp_ret ?_; simp only [then_ret, block_ret, end_ret]) | ((first | refine stp ?_ | refine nqif_ways (fun h => ?_) ?_ | ((first | refine gif_ways (fun h => ?_) (fun h => ?_) | refine cif_ways (fun h => ?_) (fun h => ?_)) <;> (try simp only [sxn] at h) <;> (try (exfalso; omega)))) <;> (try (refine wS ?_)))))
          all_goals simp only [sxd, z0, p0, Nat.reduceEqDiff, ↓reduceIte, Tryz.f68, *]
        · (repeat' (first | exact trivial | refine stq ?_ | (refine awp_ret ?_; simp only [then_ret, block_ret, end_ret]) | ((first | refine stp ?_ | refine nqif_ways (fun h => ?_) ?_ | ((first | refine gif_ways (fun h => ?_) (fun h => ?_) | refine cif_ways (fun h => ?_) (fun h => ?_)) <;> (try simp only [sxn] at h) <;> (try (exfalso; omega)))) <;> (try (refine wS ?_)))))
          all_goals simp only [sxd, z0, p0, Nat.reduceEqDiff, ↓reduceIte, Tryz.f68, *]
    · have h2' : 16 < (s.size : Int) := by omega
      have hr := nameB_len (s := s) (fun h => h2 h.2)
      (repeat' (first | exact trivial | refine stq ?_ | (refine awp_ret ?_; simp only [then_ret, block_ret, end_ret]) | ((first | refine stp ?_ | refine nqif_ways (fun h => ?_) ?_ | ((first | refine gif_ways (fun h => ?_) (fun h => ?_) | refine cif_ways (fun h => ?_) (fun h => ?_)) <;> (try simp only [sxn] at h) <;> (try (exfalso; omega)))) <;> (try (refine wS ?_)))))
      all_goals simp only [sxd, z0, p0, Nat.reduceEqDiff, ↓reduceIte, Tryz.f68, *]
  · have h1' : (s.size : Int) < 1 := by omega
    have hr := nameB_len (s := s) (fun h => h1 h.1)
    (repeat' (first | exact trivial | refine stq ?_ | (refine awp_ret ?_; simp only [then_ret, block_ret, end_ret]) | ((first | refine stp ?_ | refine nqif_ways (fun h => ?_) ?_ | ((first | refine gif_ways (fun h => ?_) (fun h => ?_) | refine cif_ways (fun h => ?_) (fun h => ?_)) <;> (try simp only [sxn] at h) <;> (try (exfalso; omega)))) <;> (try (refine wS ?_)))))
    all_goals simp only [sxd, z0, p0, Nat.reduceEqDiff, ↓reduceIte, Tryz.f68, *]
structure CalV where
  name : ByteArray
  we : List Int
  ho : List Int
noncomputable def calE (c : CalV) : Int := if nameB c.name = true then (if c.we.length < 7 ∧ c.we.any (outB 0 6) = false ∧ ascB c.we = true then (if c.ho.length ≤ 400 then (if c.ho.any (outB 0 73048) = false then (if ascB c.ho = true then 0 else 10) else 1) else 5) else 1) else 4
theorem calCheck_con (c : CalV) (hs : c.name.size ≤ 9223372036854775807) (hw : c.we.length ≤ 1000000) (hh : c.ho.length ≤ 1000000) : Con Tryz.prog CtxP 83 [.agg [.ex (.string c.name), .sl (intsC c.we), .sl (intsC c.ho)]] (.val (.ex (.int .i64 (calE c)))) := by
  obtain ⟨nm, we, ho⟩ := c
  dsimp only at *
  have a1 := name_con nm hs
  have a2 := within_con we 0 6 hw
  have a3 := ascending_con we hw
  have a4 := within_con ho 0 73048 hh
  have a5 := ascending_con ho hh
  have b1 := ints_len we
  have b2 := ints_len ho
  have hr : calE ⟨nm, we, ho⟩ = if nameB nm = true then (if we.length < 7 ∧ we.any (outB 0 6) = false ∧ ascB we = true then (if ho.length ≤ 400 then (if ho.any (outB 0 73048) = false then (if ascB ho = true then 0 else 10) else 1) else 5) else 1) else 4 := rfl
  generalize calE ⟨nm, we, ho⟩ = E at *
  generalize nameB nm = n1 at *
  generalize we.any (outB 0 6) = n2 at *
  generalize ascB we = n3 at *
  generalize ho.any (outB 0 73048) = n4 at *
  generalize ascB ho = n5 at *
  refine con_val base Tryz.func83 rfl rfl (by kernel_rfl) (Nat.le_of_ble_eq_true rfl) ?_
  rw [init_eq]
  (repeat' (first | exact trivial | refine stq ?_ | (refine awp_ret ?_; simp only [then_ret, block_ret, end_ret]) | ((first | refine cv (a1) ?_ | refine cv (a2) ?_ | refine cv (a3) ?_ | refine cv (a4) ?_ | refine cv (a5) ?_ | refine stp ?_ | refine nqif_ways (fun h => ?_) ?_ | ((first | refine gif_ways (fun h => ?_) (fun h => ?_) | refine cif_ways (fun h => ?_) (fun h => ?_)) <;> (try simp only [sxn] at h) <;> (try (exfalso; omega)))) <;> (try (refine wS ?_)))))
  all_goals (try simp only [sxd, z0, p0, Nat.reduceEqDiff, ↓reduceIte, Tryz.f83])
  all_goals (subst hr; simp_all <;> omega)
end Go.Proofs.YtcoflmckbcnlpaaGreatDoor
namespace Go.Proofs.YtcoflmckbcnlpaaGreatDoor
open Go.RowKit
set_option maxRecDepth 100000
set_option linter.unusedSimpArgs false
theorem any_bad {α : Type} {p : α → Bool} {l : List α} {k : Nat} {x : α} (e : l[k]? = some x) (h : p x = true) : l.any p = true := List.any_eq_true.2 ⟨x, List.mem_of_getElem? e, h⟩
theorem any_ok {α : Type} {p : α → Bool} {l : List α} {k : Nat} (hk : l.length ≤ k) (h : ∀ (j : Nat) y, j < k → l[j]? = some y → p y = false) : l.any p = false := by
  rw [List.any_eq_false]
  intro x hx
  obtain ⟨j, hj⟩ := List.mem_iff_getElem?.1 hx
  rw [h j x (by have := (List.getElem?_eq_some_iff.1 hj).1; omega) hj]
  simp
theorem outB_in {lo hi x : Int} (h : outB lo hi x = false) : ¬ x < lo ∧ ¬ hi < x := by
  unfold outB at h
  rw [Bool.or_eq_false_iff, decide_eq_false_iff_not, decide_eq_false_iff_not] at h
  exact h
theorem outB_out {lo hi x : Int} (h : outB lo hi x = true) : x < lo ∨ (¬ x < lo ∧ hi < x) := by
  unfold outB at h
  rw [Bool.or_eq_true, decide_eq_true_eq, decide_eq_true_eq] at h
  omega
theorem outB_day {x : Int} : outB 0 73048 x = !dayB x := by
  unfold outB dayB
  rw [Bool.eq_iff_iff]; simp
theorem RcalCheck_con (c : CalV) (hs : c.name.size ≤ 9223372036854775807) (hw : c.we.length ≤ 1000000) (hh : c.ho.length ≤ 1000000) : Con Tryz.prog CtxP 35 [.agg [.ex (.string c.name), .sl (intsC c.we), .sl (intsC c.ho)]] (.val (.ex (.int .i64 (calE c)))) := by
  obtain ⟨nm, we, ho⟩ := c
  dsimp only at *
  have a1 := RName_con nm hs
  have a3 := Rises_con we hw
  have a5 := Rises_con ho hh
  have b1 := ints_len we
  have b2 := ints_len ho
  have hr : calE ⟨nm, we, ho⟩ = if nameB nm = true then (if we.length < 7 ∧ we.any (outB 0 6) = false ∧ ascB we = true then (if ho.length ≤ 400 then (if ho.any (outB 0 73048) = false then (if ascB ho = true then 0 else 10) else 1) else 5) else 1) else 4 := rfl
  generalize calE ⟨nm, we, ho⟩ = E at *
  generalize hn1 : nameB nm = n1 at *
  generalize hn3 : ascB we = n3 at *
  generalize hn5 : ascB ho = n5 at *
  refine con_val base Tryz.func35 rfl rfl (by kernel_rfl) (Nat.le_of_ble_eq_true rfl) ?_
  rw [init_eq]
  cases n1 with
  | false =>
    rw [if_neg (by simp)] at hr
    (repeat' (first | exact trivial | refine stq ?_ | (refine awp_ret ?_; simp only [then_ret, block_ret, end_ret]) | ((first | refine cv (a1) ?_ | refine stp ?_ | refine nqif_ways (fun h => ?_) ?_ | ((first | refine gif_ways (fun h => ?_) (fun h => ?_) | refine cif_ways (fun h => ?_) (fun h => ?_)) <;> (try simp only [sxn] at h) <;> (try (exfalso; omega)))) <;> (try (refine wS ?_)))))
    all_goals simp only [sxd, z0, p0, Nat.reduceEqDiff, ↓reduceIte, Tryz.f35, *]
  | true =>
    rw [if_pos rfl] at hr
    replace hr := Lib.hid hr
    (repeat' (first | exact trivial | refine stq ?_ | (refine awp_ret ?_; simp only [then_ret, block_ret, end_ret]) | ((first | refine cv (a1) ?_ | refine stp ?_ | refine nqif_ways (fun h => ?_) ?_ | ((first | refine gif_ways (fun h => ?_) (fun h => ?_) | refine cif_ways (fun h => ?_) (fun h => ?_)) <;> (try simp only [sxn] at h) <;> (try (exfalso; omega)))) <;> (try (refine wS ?_)))))
    clear a1 hn1
    refine vloop (fun n tm hp nx => ∃ (k b : Nat), n = we.length - k ∧ k ≤ we.length ∧ tm 1 = .pt b 0 0 ∧ hp b = some ⟨26, [[.ex (.string nm), .sl (intsC we), .sl (intsC ho)]], true⟩ ∧ b < nx ∧ tm 3 = .ex (.int .i64 k) ∧ Hid (∀ (j : Nat) y, j < k → we[j]? = some y → outB 0 6 y = false)) we.length ⟨0, _, rfl, Nat.zero_le _, by exact byQ, by exact byQ, by omega, by exact byS, Lib.hid (fun j y hj _ => by omega)⟩ ?_
    rintro n tm hp nx ⟨k, b, hnn, hkl, g1, gh, hb, g3, hA⟩
    by_cases hlt : k < we.length
    · have e0 : we[k]? = some we[k] := List.getElem?_eq_getElem hlt
      generalize we[k] = x at e0
      have q4 := ints_get e0
      cases hx : outB 0 6 x with
      | true =>
        have hr2 : E = 1 := by rw [hr.out, if_neg (by rw [any_bad e0 hx]; simp)]
        have hx2 := outB_out hx
        clear hx e0 hA hr
        rcases hx2 with h | ⟨h, h2⟩
        · (repeat' (first | exact trivial | refine stq ?_ | (refine awp_ret ?_; simp only [then_ret, block_ret, end_ret]) | ((first | refine stp ?_ | refine nqif_ways (fun h => ?_) ?_ | ((first | refine gif_ways (fun h => ?_) (fun h => ?_) | refine cif_ways (fun h => ?_) (fun h => ?_)) <;> (try simp only [sxn] at h) <;> (try (exfalso; omega)))) <;> (try (refine wS ?_)))))
          all_goals simp only [sxd, z0, p0, Nat.reduceEqDiff, ↓reduceIte, Tryz.f35, *]
        · (repeat' (first | exact trivial | refine stq ?_ | (refine awp_ret ?_; simp only [then_ret, block_ret, end_ret]) | ((first | refine stp ?_ | refine nqif_ways (fun h => ?_) ?_ | ((first | refine gif_ways (fun h => ?_) (fun h => ?_) | refine cif_ways (fun h => ?_) (fun h => ?_)) <;> (try simp only [sxn] at h) <;> (try (exfalso; omega)))) <;> (try (refine wS ?_)))))
          all_goals simp only [sxd, z0, p0, Nat.reduceEqDiff, ↓reduceIte, Tryz.f35, *]
      | false =>
        have n1 := Lib.hid (upto e0 hA.out hx)
        obtain ⟨h, h2⟩ := outB_in hx
        clear hx e0 hA
        (repeat' (first | exact trivial | refine stq ?_ | (refine awp_ret ?_; simp only [then_ret, block_ret, end_ret]) | ((first | refine stp ?_ | refine nqif_ways (fun h => ?_) ?_ | ((first | refine gif_ways (fun h => ?_) (fun h => ?_) | refine cif_ways (fun h => ?_) (fun h => ?_)) <;> (try simp only [sxn] at h) <;> (try (exfalso; omega)))) <;> (try (refine wS ?_)))))
        exact kround_i (we.length - (k + 1)) (by omega) ⟨k + 1, b, rfl, by omega, by exact byS, by exact byQ, by omega, by exact byS, n1⟩
    · have hany : we.any (outB 0 6) = false := any_ok (by omega) hA.out
      rw [hany] at hr
      clear hA hany
      by_cases hl : we.length < 7
      · have hl' : ¬ (6 < (we.length : Int)) := by omega
        cases n3 with
        | false =>
          have hr2 : E = 1 := by rw [hr.out, if_neg (by simp)]
          clear hr
          (repeat' (first | exact trivial | refine stq ?_ | (refine awp_ret ?_; simp only [then_ret, block_ret, end_ret]) | ((first | refine cv (a3) ?_ | refine stp ?_ | refine nqif_ways (fun h => ?_) ?_ | ((first | refine gif_ways (fun h => ?_) (fun h => ?_) | refine cif_ways (fun h => ?_) (fun h => ?_)) <;> (try simp only [sxn] at h) <;> (try (exfalso; omega)))) <;> (try (refine wS ?_)))))
          all_goals simp only [sxd, z0, p0, Nat.reduceEqDiff, ↓reduceIte, Tryz.f35, *]
        | true =>
          replace hr := Lib.hid (by have := hr.out; rwa [if_pos ⟨hl, rfl, rfl⟩] at this : E = if ho.length ≤ 400 then (if ho.any (outB 0 73048) = false then (if n5 = true then 0 else 10) else 1) else 5)
          by_cases h4 : ho.length ≤ 400
          · have h4' : ¬ (400 < (ho.length : Int)) := by omega
            replace hr := Lib.hid (by have := hr.out; rwa [if_pos h4] at this : E = if ho.any (outB 0 73048) = false then (if n5 = true then 0 else 10) else 1)
            (repeat' (first | exact trivial | refine stq ?_ | (refine awp_ret ?_; simp only [then_ret, block_ret, end_ret]) | ((first | refine cv (a3) ?_ | refine stp ?_ | refine nqif_ways (fun h => ?_) ?_ | ((first | refine gif_ways (fun h => ?_) (fun h => ?_) | refine cif_ways (fun h => ?_) (fun h => ?_)) <;> (try simp only [sxn] at h) <;> (try (exfalso; omega)))) <;> (try (refine wS ?_)))))
            clear a3 hn3 hl hl' hlt hkl hnn g3 hw hs
            refine vloop (fun n tm hp nx => ∃ (k b : Nat), n = ho.length - k ∧ k ≤ ho.length ∧ tm 1 = .pt b 0 0 ∧ hp b = some ⟨26, [[.ex (.string nm), .sl (intsC we), .sl (intsC ho)]], true⟩ ∧ b < nx ∧ tm 4 = .ex (.int .i64 k) ∧ Hid (∀ (j : Nat) y, j < k → ho[j]? = some y → outB 0 73048 y = false)) ho.length ⟨0, b, rfl, Nat.zero_le _, by exact byQ, by exact byQ, by omega, by exact byS, Lib.hid (fun j y hj _ => by omega)⟩ ?_
            clear g1 gh hb
            rintro n tm hp nx ⟨k, b, hnn, hkl, g1, gh, hb, g4, hA⟩
            by_cases hlt : k < ho.length
            · have e0 : ho[k]? = some ho[k] := List.getElem?_eq_getElem hlt
              generalize ho[k] = x at e0
              have q4 := ints_get e0
              have hv := RdayValid_con x
              cases hx : outB 0 73048 x with
              | true =>
                have hr2 : E = 1 := by rw [hr.out, if_neg (by rw [any_bad e0 hx]; simp)]
                have hx2 : dayB x = false := by rw [outB_day] at hx; simpa using hx
                rw [hx2] at hv
                clear hx e0 hA hr hx2
                (repeat' (first | exact trivial | refine stq ?_ | (refine awp_ret ?_; simp only [then_ret, block_ret, end_ret]) | ((first | refine cv (hv) ?_ | refine stp ?_ | refine nqif_ways (fun h => ?_) ?_ | ((first | refine gif_ways (fun h => ?_) (fun h => ?_) | refine cif_ways (fun h => ?_) (fun h => ?_)) <;> (try simp only [sxn] at h) <;> (try (exfalso; omega)))) <;> (try (refine wS ?_)))))
                all_goals simp only [sxd, z0, p0, Nat.reduceEqDiff, ↓reduceIte, Tryz.f35, *]
              | false =>
                have n1 := Lib.hid (upto e0 hA.out hx)
                have hx2 : dayB x = true := by rw [outB_day] at hx; simpa using hx
                rw [hx2] at hv
                clear hx e0 hA hx2
                (repeat' (first | exact trivial | refine stq ?_ | (refine awp_ret ?_; simp only [then_ret, block_ret, end_ret]) | ((first | refine cv (hv) ?_ | refine stp ?_ | refine nqif_ways (fun h => ?_) ?_ | ((first | refine gif_ways (fun h => ?_) (fun h => ?_) | refine cif_ways (fun h => ?_) (fun h => ?_)) <;> (try simp only [sxn] at h) <;> (try (exfalso; omega)))) <;> (try (refine wS ?_)))))
                exact kround_i (ho.length - (k + 1)) (by omega) ⟨k + 1, b, rfl, by omega, by exact byS, by exact byQ, by omega, by exact byS, n1⟩
            · have hany : ho.any (outB 0 73048) = false := any_ok (by omega) hA.out
              rw [hany] at hr
              clear hA hany
              have hr2 := hr.out
              rw [if_pos rfl] at hr2
              clear hr
              cases n5 with
              | false =>
                rw [if_neg (by simp)] at hr2
                (repeat' (first | exact trivial | refine stq ?_ | (refine awp_ret ?_; simp only [then_ret, block_ret, end_ret]) | ((first | refine cv (a5) ?_ | refine stp ?_ | refine nqif_ways (fun h => ?_) ?_ | ((first | refine gif_ways (fun h => ?_) (fun h => ?_) | refine cif_ways (fun h => ?_) (fun h => ?_)) <;> (try simp only [sxn] at h) <;> (try (exfalso; omega)))) <;> (try (refine wS ?_)))))
                all_goals simp only [sxd, z0, p0, Nat.reduceEqDiff, ↓reduceIte, Tryz.f35, *]
              | true =>
                rw [if_pos rfl] at hr2
                (repeat' (first | exact trivial | refine stq ?_ | (refine awp_ret ?_; simp only [then_ret, block_ret, end_ret]) | ((first | refine cv (a5) ?_ | refine stp ?_ | refine nqif_ways (fun h => ?_) ?_ | ((first | refine gif_ways (fun h => ?_) (fun h => ?_) | refine cif_ways (fun h => ?_) (fun h => ?_)) <;> (try simp only [sxn] at h) <;> (try (exfalso; omega)))) <;> (try (refine wS ?_)))))
                all_goals simp only [sxd, z0, p0, Nat.reduceEqDiff, ↓reduceIte, Tryz.f35, *]
          · have h4' : (400 < (ho.length : Int)) := by omega
            have hr2 : E = 5 := by rw [hr.out, if_neg h4]
            clear hr
            (repeat' (first | exact trivial | refine stq ?_ | (refine awp_ret ?_; simp only [then_ret, block_ret, end_ret]) | ((first | refine cv (a3) ?_ | refine stp ?_ | refine nqif_ways (fun h => ?_) ?_ | ((first | refine gif_ways (fun h => ?_) (fun h => ?_) | refine cif_ways (fun h => ?_) (fun h => ?_)) <;> (try simp only [sxn] at h) <;> (try (exfalso; omega)))) <;> (try (refine wS ?_)))))
            all_goals simp only [sxd, z0, p0, Nat.reduceEqDiff, ↓reduceIte, Tryz.f35, *]
      · have hl' : (6 < (we.length : Int)) := by omega
        have hr2 : E = 1 := by rw [hr.out, if_neg (fun h => hl h.1)]
        clear hr
        (repeat' (first | exact trivial | refine stq ?_ | (refine awp_ret ?_; simp only [then_ret, block_ret, end_ret]) | ((first | refine stp ?_ | refine nqif_ways (fun h => ?_) ?_ | ((first | refine gif_ways (fun h => ?_) (fun h => ?_) | refine cif_ways (fun h => ?_) (fun h => ?_)) <;> (try simp only [sxn] at h) <;> (try (exfalso; omega)))) <;> (try (refine wS ?_)))))
        all_goals simp only [sxd, z0, p0, Nat.reduceEqDiff, ↓reduceIte, Tryz.f35, *]
theorem Rrate_con (x : Int) : Con Tryz.prog CtxP 31 [.ex (.int .i64 x)] (.val (.ex (.bool (!outB 0 1000000 x)))) := by
  refine con_val base Tryz.func31 rfl rfl (by kernel_rfl) (Nat.le_of_ble_eq_true rfl) ?_
  rw [init_eq]
  (repeat' (first | exact trivial | refine stq ?_ | (refine awp_ret ?_; simp only [then_ret, block_ret, end_ret]) | ((first | refine stp ?_ | refine nqif_ways (fun h => ?_) ?_ | ((first | refine gif_ways (fun h => ?_) (fun h => ?_) | refine cif_ways (fun h => ?_) (fun h => ?_)) <;> (try simp only [sxn] at h) <;> (try (exfalso; omega)))) <;> (try (refine wS ?_)))))
  all_goals (try simp only [sxd, z0, p0, Nat.reduceEqDiff, ↓reduceIte, Tryz.f31])
  all_goals (unfold outB; rw [Bool.eq_iff_iff]; simp <;> omega)
theorem Rmode_con (x : Int) : Con Tryz.prog CtxP 33 [.ex (.int .i64 x)] (.val (.ex (.bool (!outB 1 6 x)))) := by
  refine con_val base Tryz.func33 rfl rfl (by kernel_rfl) (Nat.le_of_ble_eq_true rfl) ?_
  rw [init_eq]
  (repeat' (first | exact trivial | refine stq ?_ | (refine awp_ret ?_; simp only [then_ret, block_ret, end_ret]) | ((first | refine stp ?_ | refine nqif_ways (fun h => ?_) ?_ | ((first | refine gif_ways (fun h => ?_) (fun h => ?_) | refine cif_ways (fun h => ?_) (fun h => ?_)) <;> (try simp only [sxn] at h) <;> (try (exfalso; omega)))) <;> (try (refine wS ?_)))))
  all_goals (try simp only [sxd, z0, p0, Nat.reduceEqDiff, ↓reduceIte, Tryz.f33])
  all_goals (unfold outB; rw [Bool.eq_iff_iff]; simp <;> omega)
theorem mode_con (x : Int) : Con Tryz.prog CtxP 81 [.ex (.int .i64 x)] (.val (.ex (.bool (!outB 1 6 x)))) := by
  refine con_val base Tryz.func81 rfl rfl (by kernel_rfl) (Nat.le_of_ble_eq_true rfl) ?_
  rw [init_eq]
  (repeat' (first | exact trivial | refine stq ?_ | (refine awp_ret ?_; simp only [then_ret, block_ret, end_ret]) | ((first | refine stp ?_ | refine nqif_ways (fun h => ?_) ?_ | ((first | refine gif_ways (fun h => ?_) (fun h => ?_) | refine cif_ways (fun h => ?_) (fun h => ?_)) <;> (try simp only [sxn] at h) <;> (try (exfalso; omega)))) <;> (try (refine wS ?_)))))
  all_goals (try simp only [sxd, z0, p0, Nat.reduceEqDiff, ↓reduceIte, Tryz.f81])
  all_goals (unfold outB; rw [Bool.eq_iff_iff]; simp <;> omega)
end Go.Proofs.YtcoflmckbcnlpaaGreatDoor