/-
  Encodings of texts and of numbers, written and read. Conditions: none (no program in it).
-/
import Derived.Test.YtfpknhhhjgdjbaaDoorNum7
namespace Go.Proofs.YtfpknhhhjgdjbaaDoor
open Go.RowKit
set_option maxRecDepth 100000

/-- The bytes ahead of the first colon. -/
def cutL : List UInt8 → List UInt8
  | [] => []
  | c :: r => if c = 58 then [] else c :: cutL r
theorem cut_le : ∀ s : List UInt8, (cutL s).length ≤ s.length
  | [] => Nat.le_refl _
  | c :: r => by
    rw [cutL]
    split
    · simp
    · have := cut_le r
      simp; omega
theorem cut_app : ∀ (a b : List UInt8), (∀ c ∈ a, c ≠ 58) → cutL (a ++ 58 :: b) = a
  | [], b, _ => by rw [List.nil_append, cutL, if_pos rfl]
  | c :: a, b, h => by
    rw [List.cons_append, cutL, if_neg (h c (by simp)), cut_app a b fun x hx => h x (by simp [hx])]
theorem cut_none : ∀ (a : List UInt8), (∀ c ∈ a, c ≠ 58) → cutL a = a
  | [], _ => rfl
  | c :: a, h => by
    rw [cutL, if_neg (h c (by simp)), cut_none a fun x hx => h x (by simp [hx])]
theorem cut_ne : ∀ (s : List UInt8), ∀ c ∈ cutL s, c ≠ 58
  | [], c, h => by cases h
  | x :: r, c, h => by
    rw [cutL] at h
    split at h
    · cases h
    · rename_i hx
      rcases List.mem_cons.1 h with rfl | h
      · exact hx
      · exact cut_ne r c h
theorem cut_split : ∀ (s : List UInt8), (cutL s).length < s.length → s = cutL s ++ 58 :: s.drop ((cutL s).length + 1)
  | [], h => by cases h
  | c :: r, h => by
    rw [cutL] at h ⊢
    by_cases hc : c = 58
    · rw [if_pos hc, hc]; rfl
    · rw [if_neg hc] at h ⊢
      have := cut_split r (by simpa using h)
      rw [List.length_cons, List.drop_succ_cons, List.cons_append, ← this]
theorem cut_prefix (a b : List UInt8) (h : ∀ c ∈ a, c ≠ 58) : ∃ q, cutL (a ++ b) = a ++ q := by
  induction a with
  | nil => exact ⟨cutL b, rfl⟩
  | cons x a ih =>
    obtain ⟨q, hq⟩ := ih fun c hc => h c (by simp [hc])
    exact ⟨q, by rw [List.cons_append, cutL, if_neg (h x (by simp)), hq, List.cons_append]⟩

/-- The length at the beginning of an encoding. -/
def lenF (s : List UInt8) : Option Nat := if (cutL s).length < s.length ∧ natL (cutL s) = true ∧ natV 0 (cutL s) ≤ 16384 then some (natV 0 (cutL s)) else none
def headN (s : List UInt8) : Nat := (cutL s).length + 1
def textF (s : List UInt8) (n : Nat) : ByteArray := ⟨((s.take (headN s + n)).drop (headN s)).toArray⟩
def restF (s : List UInt8) (n : Nat) : List UInt8 := s.drop (headN s + n)
/-- The texts with an encoding, or the error. -/
def unpF (s : List UInt8) : List ByteArray × Int :=
  if _h : s = [] then ([], 0) else
  match lenF s with
  | none => ([], 2)
  | some n => if s.length < headN s + n then ([], 24) else
    if (unpF (restF s n)).2 = 0 then (textF s n :: (unpF (restF s n)).1, 0) else ([], (unpF (restF s n)).2)
termination_by s.length
decreasing_by all_goals
  have := List.length_pos_iff.2 _h
  rw [restF, List.length_drop, headN]
  omega
def comb (acc : List ByteArray) (p : List ByteArray × Int) : List ByteArray × Int := if p.2 = 0 then (acc ++ p.1, 0) else ([], p.2)
theorem unp_nil : unpF [] = ([], 0) := by rw [unpF, dif_pos rfl]
theorem unp_syntax {s : List UInt8} (h0 : s ≠ []) (h : lenF s = none) : unpF s = ([], 2) := by rw [unpF, dif_neg h0, h]
theorem unp_trunc {s : List UInt8} {n : Nat} (h0 : s ≠ []) (h : lenF s = some n) (h1 : s.length < headN s + n) : unpF s = ([], 24) := by rw [unpF, dif_neg h0, h]; exact if_pos h1
theorem unp_one {s : List UInt8} {n : Nat} (h0 : s ≠ []) (h : lenF s = some n) (h1 : ¬ s.length < headN s + n) : unpF s = comb [textF s n] (unpF (restF s n)) := by
  rw [unpF, dif_neg h0, h]
  show (if s.length < headN s + n then _ else _) = _
  rw [if_neg h1]
  rfl
theorem comb_nil (p : List ByteArray × Int) (hp : p.2 = 0 ∨ p.1 = []) : comb [] p = p := by
  unfold comb
  obtain ⟨a, e⟩ := p
  dsimp only at *
  split
  · rename_i h; rw [h, List.nil_append]
  · rename_i h
    rcases hp with hp | hp
    · exact absurd hp h
    · rw [hp]
theorem comb_comb (a b : List ByteArray) (p : List ByteArray × Int) : comb a (comb b p) = comb (a ++ b) p := by
  unfold comb
  by_cases h : p.2 = 0
  · rw [if_pos h, if_pos rfl, if_pos h, List.append_assoc]
  · rw [if_neg h, if_neg h, if_neg h]
theorem comb_good (a : List ByteArray) : comb a ([], 0) = (a, 0) := by unfold comb; rw [if_pos rfl, List.append_nil]
theorem comb_bad (a : List ByteArray) (e : Int) (h : e ≠ 0) : comb a ([], e) = ([], e) := by unfold comb; rw [if_neg h]
theorem unp_cases : ∀ (n : Nat) (s : List UInt8), s.length ≤ n → (unpF s).2 = 0 ∨ (unpF s).1 = [] ∧ ((unpF s).2 = 2 ∨ (unpF s).2 = 24)
  | 0, s, h => by
    have : s = [] := List.eq_nil_of_length_eq_zero (by omega)
    subst this
    rw [unp_nil]; exact .inl rfl
  | n + 1, s, h => by
    by_cases h0 : s = []
    · subst h0; rw [unp_nil]; exact .inl rfl
    · cases h1 : lenF s with
      | none => rw [unp_syntax h0 h1]; exact .inr ⟨rfl, .inl rfl⟩
      | some m =>
        by_cases h2 : s.length < headN s + m
        · rw [unp_trunc h0 h1 h2]; exact .inr ⟨rfl, .inr rfl⟩
        · rw [unp_one h0 h1 h2]
          have := List.length_pos_iff.2 h0
          rcases unp_cases n (restF s m) (by rw [restF, List.length_drop, headN]; omega) with h3 | ⟨h3, h4⟩
          · unfold comb; rw [if_pos h3]; exact .inl rfl
          · unfold comb
            rw [if_neg (by rcases h4 with h4 | h4 <;> rw [h4] <;> decide)]
            exact .inr ⟨rfl, h4⟩
theorem unp_comb (s : List UInt8) : comb [] (unpF s) = unpF s := comb_nil _ ((unp_cases _ s (Nat.le_refl _)).imp id fun h => h.1)
/-- One round of reading. -/
theorem unp_next {s S : List UInt8} {acc : List ByteArray} {n : Nat} (h0 : s ≠ []) (h : lenF s = some n) (h1 : ¬ s.length < headN s + n) (hv : unpF S = comb acc (unpF s)) : unpF S = comb (acc ++ [textF s n]) (unpF (restF s n)) := by
  rw [hv, unp_one h0 h h1, comb_comb]
theorem unp_end {S : List UInt8} {acc : List ByteArray} (hv : unpF S = comb acc (unpF [])) : unpF S = (acc, 0) := by rw [hv, unp_nil, comb_good]
theorem unp_stop2 {s S : List UInt8} {acc : List ByteArray} (h0 : s ≠ []) (h : lenF s = none) (hv : unpF S = comb acc (unpF s)) : unpF S = ([], 2) := by rw [hv, unp_syntax h0 h, comb_bad _ _ (by decide)]
theorem unp_stop24 {s S : List UInt8} {acc : List ByteArray} {n : Nat} (h0 : s ≠ []) (h : lenF s = some n) (h1 : s.length < headN s + n) (hv : unpF S = comb acc (unpF s)) : unpF S = ([], 24) := by rw [hv, unp_trunc h0 h h1, comb_bad _ _ (by decide)]
theorem text_size {s : List UInt8} {n : Nat} (h1 : ¬ s.length < headN s + n) : (textF s n).size = n := by
  unfold textF
  rw [← ByteArray.size_data]
  simp
  omega
theorem lenF_le {s : List UInt8} {n : Nat} (h : lenF s = some n) : n ≤ 16384 ∧ headN s ≤ s.length := by
  unfold lenF at h
  split at h
  · rename_i q
    injection h with h
    unfold headN
    omega
  · cases h
theorem unp_len : ∀ (n : Nat) (s : List UInt8), s.length ≤ n → (unpF s).1.length ≤ s.length
  | 0, s, h => by
    have : s = [] := List.eq_nil_of_length_eq_zero (by omega)
    subst this
    rw [unp_nil]; simp
  | n + 1, s, h => by
    by_cases h0 : s = []
    · subst h0; rw [unp_nil]; simp
    · cases h1 : lenF s with
      | none => rw [unp_syntax h0 h1]; simp
      | some m =>
        by_cases h2 : s.length < headN s + m
        · rw [unp_trunc h0 h1 h2]; simp
        · rw [unp_one h0 h1 h2]
          have h4 : (restF s m).length + headN s + m = s.length := by rw [restF, List.length_drop]; omega
          have h5 : 1 ≤ headN s := by unfold headN; omega
          have := unp_len n (restF s m) (by omega)
          unfold comb
          split
          · simp; omega
          · simp
theorem unp_sizes : ∀ (n : Nat) (s : List UInt8), s.length ≤ n → ∀ t ∈ (unpF s).1, t.size ≤ 16384
  | 0, s, h, t, ht => by
    have : s = [] := List.eq_nil_of_length_eq_zero (by omega)
    subst this
    rw [unp_nil] at ht; cases ht
  | n + 1, s, h, t, ht => by
    by_cases h0 : s = []
    · subst h0; rw [unp_nil] at ht; cases ht
    · cases h1 : lenF s with
      | none => rw [unp_syntax h0 h1] at ht; cases ht
      | some m =>
        by_cases h2 : s.length < headN s + m
        · rw [unp_trunc h0 h1 h2] at ht; cases ht
        · rw [unp_one h0 h1 h2] at ht
          unfold comb at ht
          have h5 : 1 ≤ headN s := by unfold headN; omega
          split at ht
          · rcases List.mem_append.1 ht with ht | ht
            · simp only [List.mem_singleton] at ht
              rw [ht, text_size h2]; exact (lenF_le h1).1
            · exact unp_sizes n (restF s m) (by rw [restF, List.length_drop]; omega) t ht
          · cases ht

theorem dec_ne58 (u : Nat) : ∀ c ∈ Lib.decDigits u, c ≠ 58 := by
  intro c hc e
  have h := List.all_eq_true.1 (dec_all u u (Nat.le_refl _)) c hc
  subst e
  simp [isD] at h
theorem size_toList (s : ByteArray) : s.data.toList.length = s.size := by rw [Array.length_toList]; rfl
theorem pack1_eq (s : ByteArray) : pack1 s = Lib.decDigits s.size ++ 58 :: s.data.toList := by unfold pack1; rw [Lib.itoa_nonneg]
theorem packB_cons (s : ByteArray) (l : List ByteArray) : packB (s :: l) = Lib.decDigits s.size ++ 58 :: (s.data.toList ++ packB l) := by
  unfold packB
  rw [List.flatMap_cons, pack1_eq]; simp
theorem packB_append (a b : List ByteArray) : packB (a ++ b) = packB a ++ packB b := by unfold packB; rw [List.flatMap_append]
theorem unp_pack : ∀ (l : List ByteArray), (∀ s ∈ l, s.size ≤ 16384) → unpF (packB l) = (l, 0)
  | [], _ => by
    show unpF [] = _
    exact unp_nil
  | s :: l, h => by
    have e := packB_cons s l
    have hc : cutL (packB (s :: l)) = Lib.decDigits s.size := by rw [e]; exact cut_app _ _ (dec_ne58 _)
    have hs := h s (by simp)
    have hl : (packB (s :: l)).length = (Lib.decDigits s.size).length + 1 + s.size + (packB l).length := by
      rw [e]; simp; omega
    have h1 : lenF (packB (s :: l)) = some s.size := by
      unfold lenF
      rw [hc, natL_dec, dec_val _ _ (Nat.le_refl _), if_pos ⟨by omega, rfl, hs⟩]
    have hn : headN (packB (s :: l)) = (Lib.decDigits s.size).length + 1 := by unfold headN; rw [hc]
    have h0 : packB (s :: l) ≠ [] := fun z => by rw [z] at hl; simp at hl; omega
    have e2 : packB (s :: l) = (Lib.decDigits s.size ++ [58]) ++ (s.data.toList ++ packB l) := by rw [e]; simp
    have hd : (Lib.decDigits s.size ++ [58]).length = headN (packB (s :: l)) := by rw [hn]; simp
    have ht : textF (packB (s :: l)) s.size = s := by
      unfold textF
      rw [← hd]
      conv => lhs; rw [e2]
      rw [List.take_append, List.take_of_length_le (by omega), List.drop_append, List.drop_of_length_le (Nat.le_refl _), List.nil_append, Nat.sub_self, List.drop_zero, Nat.add_sub_cancel_left, List.take_append_of_le_length (by rw [size_toList]; exact Nat.le_refl _), List.take_of_length_le (by rw [size_toList]; exact Nat.le_refl _)]
    have hr : restF (packB (s :: l)) s.size = packB l := by
      unfold restF
      rw [← hd]
      conv => lhs; rw [e2]
      rw [List.drop_append, List.drop_of_length_le (by omega), List.nil_append, Nat.add_sub_cancel_left, List.drop_append, List.drop_of_length_le (by rw [size_toList]; exact Nat.le_refl _), size_toList, Nat.sub_self]; rfl
    rw [unp_one h0 h1 (by omega), ht, hr, unp_pack l fun x hx => h x (by simp [hx])]
    rfl
theorem pack_unp : ∀ (n : Nat) (s : List UInt8), s.length ≤ n → (unpF s).2 = 0 → packB (unpF s).1 = s
  | 0, s, h, _ => by
    have : s = [] := List.eq_nil_of_length_eq_zero (by omega)
    subst this
    rw [unp_nil]; rfl
  | n + 1, s, h, he => by
    by_cases h0 : s = []
    · subst h0; rw [unp_nil]; rfl
    · cases h1 : lenF s with
      | none => rw [unp_syntax h0 h1] at he; cases he
      | some m =>
        by_cases h2 : s.length < headN s + m
        · rw [unp_trunc h0 h1 h2] at he; cases he
        · have h5 : 1 ≤ headN s := by unfold headN; omega
          have hrl : (restF s m).length ≤ n := by rw [restF, List.length_drop]; omega
          rw [unp_one h0 h1 h2] at he ⊢
          unfold comb at he ⊢
          by_cases h3 : (unpF (restF s m)).2 = 0
          · rw [if_pos h3]
            show packB (textF s m :: (unpF (restF s m)).1) = s
            rw [packB_cons, text_size h2, pack_unp n _ hrl h3]
            unfold lenF at h1
            split at h1
            · rename_i q
              injection h1 with h1
              have hd := dec_nat _ _ (Nat.le_refl _) q.2.1
              rw [h1] at hd
              rw [hd]
              have hsp := cut_split s q.1
              conv => rhs; rw [hsp]
              congr 2
              show ((s.take (headN s + m)).drop (headN s)) ++ s.drop (headN s + m) = s.drop (headN s)
              rw [← List.drop_drop, List.drop_take, Nat.add_sub_cancel_left, List.take_append_drop]
            · cases h1
          · rw [if_neg h3] at he; exact absurd he h3

/-- The numbers with decimal forms, or the first error. -/
def takes : List ByteArray → List Int × Int
  | [] => ([], 0)
  | t :: r => if takeE t.data.toList = 0 then (if (takes r).2 = 0 then (takeV t.data.toList :: (takes r).1, 0) else ([], (takes r).2)) else ([], takeE t.data.toList)
def combI (acc : List Int) (p : List Int × Int) : List Int × Int := if p.2 = 0 then (acc ++ p.1, 0) else ([], p.2)
theorem combI_comb (a b : List Int) (p : List Int × Int) : combI a (combI b p) = combI (a ++ b) p := by
  unfold combI
  by_cases h : p.2 = 0
  · rw [if_pos h, if_pos rfl, if_pos h, List.append_assoc]
  · rw [if_neg h, if_neg h, if_neg h]
theorem takes_bad : ∀ (l : List ByteArray), (takes l).2 = 0 ∨ (takes l).1 = []
  | [] => .inl rfl
  | t :: r => by
    unfold takes
    split
    · split
      · exact .inl rfl
      · exact .inr rfl
    · exact .inr rfl
theorem takes_comb (l : List ByteArray) : combI [] (takes l) = takes l := by
  unfold combI
  rcases takes_bad l with h | h
  · rw [if_pos h, List.nil_append]
    exact Prod.ext rfl h.symm
  · by_cases h2 : (takes l).2 = 0
    · rw [if_pos h2, List.nil_append]
      exact Prod.ext rfl h2.symm
    · rw [if_neg h2]
      exact Prod.ext h.symm rfl
theorem takes_next {L : List ByteArray} {T : List Int × Int} {k : Nat} {t : ByteArray} {acc : List Int} (e : L[k]? = some t) (h : takeE t.data.toList = 0) (hv : T = combI acc (takes (L.drop k))) : T = combI (acc ++ [takeV t.data.toList]) (takes (L.drop (k + 1))) := by
  obtain ⟨h1, rfl⟩ := List.getElem?_eq_some_iff.1 e
  rw [hv, List.drop_eq_getElem_cons h1, takes, if_pos h, ← combI_comb]
  rfl
theorem takes_stop {L : List ByteArray} {T : List Int × Int} {k : Nat} {t : ByteArray} {acc : List Int} (e : L[k]? = some t) (h : takeE t.data.toList ≠ 0) (hv : T = combI acc (takes (L.drop k))) : T = ([], takeE t.data.toList) := by
  obtain ⟨h1, rfl⟩ := List.getElem?_eq_some_iff.1 e
  rw [hv, List.drop_eq_getElem_cons h1, takes, if_neg h]
  unfold combI
  rw [if_neg h]
theorem takes_end {L : List ByteArray} {T : List Int × Int} {k : Nat} {acc : List Int} (h : L.length ≤ k) (hv : T = combI acc (takes (L.drop k))) : T = (acc, 0) := by
  rw [hv, List.drop_of_length_le h]
  unfold combI takes
  rw [if_pos rfl, List.append_nil]
def takeIntsF (s : List UInt8) (most : Int) : List Int × Int := if (unpF s).2 = 0 then (if most < (unpF s).1.length then ([], 5) else takes (unpF s).1) else ([], (unpF s).2)
def itoaBs (l : List Int) : List ByteArray := l.map fun n => ⟨(Lib.itoa n).toArray⟩
theorem takes_itoa : ∀ (m : List Int), (∀ n ∈ m, -9223372036854775808 ≤ n ∧ n ≤ 9223372036854775807) → takes (itoaBs m) = (m, 0)
  | [], _ => rfl
  | n :: m, h => by
    obtain ⟨h1, h2⟩ := take_itoa n (h n (by simp)).1 (h n (by simp)).2
    have ih := takes_itoa m fun x hx => h x (by simp [hx])
    show takes (⟨(Lib.itoa n).toArray⟩ :: itoaBs m) = _
    rw [takes, ih]
    show (if takeE (Lib.itoa n) = 0 then _ else _) = _
    rw [if_pos h1, if_pos rfl]
    show (takeV (Lib.itoa n) :: m, (0 : Int)) = _
    rw [h2]
theorem itoa_takes : ∀ (l : List ByteArray), (takes l).2 = 0 → itoaBs (takes l).1 = l
  | [], _ => rfl
  | t :: r, h => by
    unfold takes at h ⊢
    by_cases h1 : takeE t.data.toList = 0
    · rw [if_pos h1] at h ⊢
      by_cases h2 : (takes r).2 = 0
      · rw [if_pos h2]
        show (⟨(Lib.itoa (takeV t.data.toList)).toArray⟩ : ByteArray) :: itoaBs (takes r).1 = _
        rw [itoa_take h1, itoa_takes r h2]
      · rw [if_neg h2] at h; exact absurd h h2
    · rw [if_neg h1] at h; exact absurd h h1
theorem takes_i64 : ∀ (l : List ByteArray), ∀ n ∈ (takes l).1, -9223372036854775808 ≤ n ∧ n ≤ 9223372036854775807
  | [], n, h => by cases h
  | t :: r, n, h => by
    unfold takes at h
    split at h
    · split at h
      · rcases List.mem_cons.1 h with rfl | h
        · exact takeV_bounds _
        · exact takes_i64 r n h
      · cases h
    · cases h
theorem takes_len : ∀ (l : List ByteArray), (takes l).1.length ≤ l.length
  | [] => Nat.le_refl _
  | t :: r => by
    unfold takes
    split
    · split
      · have := takes_len r
        simp; omega
      · simp
    · simp
end Go.Proofs.YtfpknhhhjgdjbaaDoor
