/-
  Chapter 43, plain: the numbers that are missing; encodings of messages. Conditions: those that each theorem states.
-/
import Derived.Test.YtfpknhhhjgdjbaaDoorM43P
import Derived.Test.YtfpknhhhjgdjbaaDoorGC07
namespace Go.Proofs.YtfpknhhhjgdjbaaDoor
open Go.RowKit
set_option maxRecDepth 100000
set_option linter.unusedSimpArgs false

def gstep (s : ByteArray) (g : Int) (m : MsgV) : Int := if m.sender = s then (if g < m.seq then m.seq else g) else g
def greatS (l : List MsgV) (s : ByteArray) : Int := l.foldl (gstep s) 0
theorem great_next {l : List MsgV} {s : ByteArray} {k : Nat} {m : MsgV} (e : l[k]? = some m) : greatS (l.take (k + 1)) s = gstep s (greatS (l.take k) s) m := by
  unfold greatS
  rw [List.take_add_one, e, List.foldl_append]; rfl
theorem great_fold : ∀ (l : List MsgV) (s : ByteArray) (g : Int), (∀ m ∈ l, In64 m.seq) → 0 ≤ g → In64 g → 0 ≤ l.foldl (gstep s) g ∧ In64 (l.foldl (gstep s) g)
  | [], _, _, _, h0, h1 => ⟨h0, h1⟩
  | m :: l, s, g, hm, h0, h1 => by
    have hi := hm m List.mem_cons_self
    refine great_fold l s (gstep s g m) (fun x hx => hm x (List.mem_cons_of_mem _ hx)) ?_ ?_ <;> unfold gstep <;> split <;> (try split) <;> first | assumption | omega
theorem great_ge (l : List MsgV) (s : ByteArray) (h : ∀ m ∈ l, In64 m.seq) : 0 ≤ greatS l s ∧ In64 (greatS l s) := great_fold l s 0 h (Int.le_refl 0) (by unfold In64; decide)
def hasS (l : List MsgV) (s : ByteArray) (n : Int) : Bool := l.any fun m => decide (m.sender = s) && decide (m.seq = n)
def upTo (k : Nat) : List Int := (List.range k).map fun (n : Nat) => (n : Int) + 1
theorem upTo_next (k : Nat) : upTo (k + 1) = upTo k ++ [(k : Int) + 1] := by unfold upTo; rw [List.range_succ, List.map_append]; rfl
def missK (l : List MsgV) (s : ByteArray) (k : Nat) : List Int := (upTo k).filter fun n => !hasS l s n
theorem missK_yes {l : List MsgV} {s : ByteArray} {k : Nat} (h : hasS l s ((k : Int) + 1) = false) : missK l s (k + 1) = missK l s k ++ [(k : Int) + 1] := by
  unfold missK
  rw [upTo_next, List.filter_append]
  simp [h]
theorem missK_no {l : List MsgV} {s : ByteArray} {k : Nat} (h : hasS l s ((k : Int) + 1) = true) : missK l s (k + 1) = missK l s k := by
  unfold missK
  rw [upTo_next, List.filter_append]
  simp [h]
theorem missK_pre (l : List MsgV) (s : ByteArray) (k : Nat) : ∀ d : Nat, ∃ r, missK l s (k + d) = missK l s k ++ r
  | 0 => ⟨[], by simp⟩
  | d + 1 => by
    obtain ⟨r, h⟩ := missK_pre l s k d
    cases hh : hasS l s (((k + d : Nat) : Int) + 1) with
    | true => exact ⟨r, by rw [← Nat.add_assoc, missK_no hh, h]⟩
    | false => exact ⟨r ++ [((k + d : Nat) : Int) + 1], by rw [← Nat.add_assoc, missK_yes hh, h, List.append_assoc]⟩
theorem missK_take {l : List MsgV} {s : ByteArray} {k n : Nat} (hk : k ≤ n) (h : 4096 ≤ (missK l s k).length) : (missK l s n).take 4096 = (missK l s k).take 4096 := by
  obtain ⟨r, hr⟩ := missK_pre l s k (n - k)
  rw [show k + (n - k) = n by omega] at hr
  rw [hr, List.take_append_of_le_length h]
theorem missK_nil (s : ByteArray) (k : Nat) : missK [] s k = upTo k := by
  unfold missK hasS
  simp
theorem upTo_len (k : Nat) : (upTo k).length = k := by simp [upTo]
theorem upTo_get {k i : Nat} (h : i < k) : (upTo k)[i]? = some ((i : Int) + 1) := by simp [upTo, h]
theorem missK_one (m : MsgV) (l : List MsgV) (s : ByteArray) : ∀ k, (missK l s k).length ≤ (missK (m :: l) s k).length + (if 1 ≤ m.seq ∧ m.seq ≤ k then 1 else 0)
  | 0 => by simp [missK, upTo]
  | k + 1 => by
    have ih := missK_one m l s k
    cases h1 : hasS l s ((k : Int) + 1) with
    | true =>
      have h2 : hasS (m :: l) s ((k : Int) + 1) = true := by unfold hasS at *; rw [List.any_cons, h1, Bool.or_true]
      rw [missK_no h1, missK_no h2]
      split at ih <;> split <;> omega
    | false =>
      rw [missK_yes h1, List.length_append]
      cases h2 : hasS (m :: l) s ((k : Int) + 1) with
      | false =>
        rw [missK_yes h2, List.length_append]
        simp only [List.length_cons, List.length_nil]
        split at ih <;> split <;> omega
      | true =>
        rw [missK_no h2]
        have h3 : m.seq = (k : Int) + 1 := by
          unfold hasS at h1 h2
          rw [List.any_cons, h1, Bool.or_false, Bool.and_eq_true, decide_eq_true_eq, decide_eq_true_eq] at h2
          exact h2.2
        simp only [List.length_cons, List.length_nil]
        rw [if_pos ⟨by omega, by omega⟩]
        rw [if_neg (by omega)] at ih
        omega
/-- Few numbers are there. -/
theorem missK_many (s : ByteArray) (k : Nat) : ∀ l : List MsgV, k ≤ (missK l s k).length + l.length
  | [] => by rw [missK_nil, upTo_len]; omega
  | m :: l => by
    have h1 := missK_many s k l
    have h2 := missK_one m l s k
    rw [List.length_cons]
    split at h2 <;> omega
def missM (l : List MsgV) (s : ByteArray) : List Int := (missK l s (greatS l s).toNat).take 4096
/-- What the program's bound leaves. -/
theorem missM_cap {l : List MsgV} {s : ByteArray} {n : Nat} (hn : n = (greatS l s).toNat ∨ (n ≤ (greatS l s).toNat ∧ n = 4096 + l.length)) : missM l s = (missK l s n).take 4096 := by
  rcases hn with rfl | ⟨h1, h2⟩
  · rfl
  · have := missK_many s n l
    exact missK_take h1 (by omega)
theorem missM_end {l : List MsgV} {s : ByteArray} {n k : Nat} (hn : missM l s = (missK l s n).take 4096) (hk : k ≤ n) (h : (missK l s k).length ≤ 4096) (hs : n ≤ k ∨ 4096 ≤ (missK l s k).length) : missK l s k = missM l s := by
  rcases hs with h1 | h1
  · have : k = n := by omega
    subst this
    rw [hn, List.take_of_length_le h]
  · rw [hn, missK_take hk h1, List.take_of_length_le h]
/-- Ascending numbers from 1 on. -/
theorem upTo_asc : ∀ k, (upTo k).Pairwise (· < ·) ∧ ∀ x ∈ upTo k, 1 ≤ x ∧ x ≤ k
  | 0 => by simp [upTo]
  | k + 1 => by
    obtain ⟨h1, h2⟩ := upTo_asc k
    rw [upTo_next]
    refine ⟨List.pairwise_append.2 ⟨h1, List.pairwise_singleton _ _, fun a ha b hb => ?_⟩, fun x hx => ?_⟩
    · rw [List.mem_singleton] at hb
      have := h2 a ha
      omega
    · rcases List.mem_append.1 hx with hx | hx
      · have := h2 x hx; omega
      · rw [List.mem_singleton] at hx; omega
theorem missM_asc (l : List MsgV) (s : ByteArray) : (missM l s).Pairwise (· < ·) ∧ ∀ x ∈ missM l s, 1 ≤ x ∧ x ≤ (greatS l s).toNat := by
  obtain ⟨h1, h2⟩ := upTo_asc (greatS l s).toNat
  unfold missM missK
  refine ⟨((h1.filter _).sublist (List.take_sublist _ _)), fun x hx => h2 x (List.mem_filter.1 (List.mem_of_mem_take hx)).1⟩
theorem missM_len (l : List MsgV) (s : ByteArray) : (missM l s).length ≤ 4096 := by unfold missM; rw [List.length_take]; omega
/-- What the program's map holds. -/
def seenL (l : List MsgV) (s : ByteArray) : List Int := (l.filter fun m => decide (m.sender = s)).map (·.seq)
def mapL (d : List Int) (k : Nat) : List (List AV) := (d.reverse.map fun n => [.ex (.int .i64 n), .ex (.bool false)]) ++ (upTo k).reverse.map fun n => [.ex (.int .i64 n), .ex (.bool true)]
theorem mapL_next (k : Nat) : [.ex (.int .i64 ((k : Int) + 1)), .ex (.bool true)] :: mapL [] k = mapL [] (k + 1) := by
  unfold mapL
  rw [upTo_next]; simp
theorem mapL_del (d : List Int) (n : Int) (k : Nat) : [.ex (.int .i64 n), .ex (.bool false)] :: mapL d k = mapL (d ++ [n]) k := by
  unfold mapL
  simp
theorem mapL_len (d : List Int) (k : Nat) : (mapL d k).length = d.length + k := by simp [mapL, upTo]
theorem look_up (k : Nat) (n : Int) : lookA (mapL [] k) (.int .i64 n) = some (decide (1 ≤ n) && decide (n ≤ k)) := by
  induction k with
  | zero =>
    have : mapL [] 0 = [] := rfl
    rw [this, lookA]
    congr 1
    symm
    rw [Bool.and_eq_false_iff, decide_eq_false_iff_not, decide_eq_false_iff_not]
    omega
  | succ k ih =>
    rw [← mapL_next, lookA]
    by_cases h : n = (k : Int) + 1
    · subst h
      simp only [if_pos, Option.some.injEq]
      rw [decide_eq_true (by omega), decide_eq_true (by omega)]; rfl
    · have h2 : ¬ (Value.int .i64 ((k : Int) + 1) = Value.int .i64 n) := fun e => by injection e with _ e; omega
      simp only [if_neg h2, ih, Option.some.injEq]
      congr 1
      rw [decide_eq_decide]; omega
theorem look_all (n : Int) (k : Nat) : ∀ d : List Int, lookA (mapL d k) (.int .i64 n) = some (!d.contains n && (decide (1 ≤ n) && decide (n ≤ k))) := by
  have key : ∀ d : List Int, lookA (mapL d.reverse k) (.int .i64 n) = some (!d.contains n && (decide (1 ≤ n) && decide (n ≤ k))) := by
    intro d
    induction d with
    | nil => rw [List.reverse_nil, look_up]; simp
    | cons a d ih =>
      rw [List.reverse_cons, ← mapL_del, lookA]
      by_cases h : a = n
      · subst h
        simp
      · have h2 : ¬ (Value.int .i64 a = Value.int .i64 n) := fun e => by injection e with _ e; omega
        simp only [if_neg h2, ih, Option.some.injEq]
        rw [List.contains_cons, show (n == a) = false by simp; omega, Bool.false_or]
  intro d
  have := key d.reverse
  rw [List.reverse_reverse] at this
  rw [this, List.contains_reverse]
theorem seen_has (l : List MsgV) (s : ByteArray) (n : Int) : (seenL l s).contains n = hasS l s n := by
  induction l with
  | nil => rfl
  | cons m l ih =>
    unfold seenL hasS at *
    rw [List.any_cons, List.filter_cons]
    by_cases h : m.sender = s
    · rw [if_pos (by simpa using h), List.map_cons, List.contains_cons, ih, decide_eq_true h, Bool.true_and]
      congr 1
      rw [Bool.eq_iff_iff]; simp; exact ⟨fun h => h.symm, fun h => h.symm⟩
    · rw [if_neg (by simpa using h), ih, decide_eq_false h, Bool.false_and, Bool.false_or]
theorem seen_yes {l : List MsgV} {s : ByteArray} {k : Nat} {m : MsgV} (e : l[k]? = some m) (h : m.sender = s) : seenL (l.take (k + 1)) s = seenL (l.take k) s ++ [m.seq] := by
  unfold seenL
  rw [List.take_add_one, e]; simp [h]
theorem seen_no {l : List MsgV} {s : ByteArray} {k : Nat} {m : MsgV} (e : l[k]? = some m) (h : ¬ m.sender = s) : seenL (l.take (k + 1)) s = seenL (l.take k) s := by
  unfold seenL
  rw [List.take_add_one, e]; simp [h]
theorem seen_len (l : List MsgV) (s : ByteArray) : (seenL l s).length ≤ l.length := by
  unfold seenL
  rw [List.length_map]
  exact List.length_filter_le _ _

def iB (n : Int) : ByteArray := ⟨(Lib.itoa n).toArray⟩
def nums (m : MsgV) : List Int := [m.seq, m.kind, m.account, m.amount, m.day]
def fldsM (m : MsgV) : List ByteArray := m.sender :: (itoaBs (nums m) ++ [m.text])
def encM (m : MsgV) : ByteArray := ⟨(packB (fldsM m)).toArray⟩
/-- A message with short texts. -/
structure MsgV.Fit (m : MsgV) : Prop where
  i : ∀ n ∈ nums m, In64 n
  s : m.sender.size ≤ 5000
  t : m.text.size ≤ 5000
theorem nums_in {m : MsgV} (h : m.Ok) : ∀ n ∈ nums m, In64 n := by
  intro n hn
  simp only [nums, List.mem_cons, List.not_mem_nil, or_false] at hn
  rcases hn with rfl | rfl | rfl | rfl | rfl
  · exact h.i1
  · exact h.i2
  · exact h.i3
  · exact h.i4
  · exact h.i5
theorem flds_size {m : MsgV} (h : m.Fit) : ∀ s ∈ fldsM m, s.size ≤ 5000 := by
  intro s hs
  unfold fldsM at hs
  rcases List.mem_cons.1 hs with rfl | hs
  · exact h.s
  · rcases List.mem_append.1 hs with hs | hs
    · have := itoaBs_sizes (fun n hn => h.i n hn) s hs; omega
    · rw [List.mem_singleton.1 hs]; exact h.t
theorem flds_len (m : MsgV) : (fldsM m).length = 7 := rfl
theorem encM_pk {m : MsgV} (h : m.Fit) : (packB (fldsM m)).length ≤ 35154 := by
  have h1 := packB_len (fldsM m) fun s hs => Nat.le_trans (flds_size h s hs) (by decide)
  have h2 := sizes_bound (flds_size h)
  rw [flds_len] at h1 h2
  omega
theorem mk_size (l : List UInt8) : (⟨l.toArray⟩ : ByteArray).size = l.length := by rw [← size_toList]
theorem encM_size {m : MsgV} (h : m.Fit) : (encM m).size ≤ 35154 := by unfold encM; rw [mk_size]; exact encM_pk h
def fiveE : List ByteArray → Int
  | [] => 0
  | t :: r => if takeE t.data.toList = 0 then fiveE r else takeE t.data.toList
theorem fiveE_stop {l : List ByteArray} {k : Nat} {t : ByteArray} (e : l[k]? = some t) (h1 : ∀ (j : Nat) y, j < k → l[j]? = some y → takeE y.data.toList = 0) (h : takeE t.data.toList ≠ 0) : fiveE l = takeE t.data.toList := by
  induction l generalizing k with
  | nil => cases e
  | cons a l ih =>
    cases k with
    | zero => cases e; unfold fiveE; rw [if_neg h]
    | succ k =>
      unfold fiveE
      rw [if_pos (h1 0 a (by omega) rfl)]
      exact ih (by simpa using e) fun j y hj hy => h1 (j + 1) y (by omega) (by simpa using hy)
theorem fiveE_ok : ∀ {l : List ByteArray}, (∀ (j : Nat) y, l[j]? = some y → takeE y.data.toList = 0) → fiveE l = 0
  | [], _ => rfl
  | a :: l, h => by
    unfold fiveE
    rw [if_pos (h 0 a rfl)]
    exact fiveE_ok fun j y hy => h (j + 1) y (by simpa using hy)
theorem fiveE_zero : ∀ {l : List ByteArray}, fiveE l = 0 → ∀ t ∈ l, takeE t.data.toList = 0
  | [], _, t, ht => by simp at ht
  | a :: l, h, t, ht => by
    unfold fiveE at h
    by_cases ha : takeE a.data.toList = 0
    · rw [if_pos ha] at h
      rcases List.mem_cons.1 ht with rfl | ht
      · exact ha
      · exact fiveE_zero h t ht
    · rw [if_neg ha] at h; exact absurd h ha
def decG (l : List ByteArray) : MsgV × Int := match l with
  | [s, a, b, c, d, e, t] => if fiveE [a, b, c, d, e] = 0 then (⟨s, takeV a.data.toList, takeV b.data.toList, takeV c.data.toList, takeV d.data.toList, takeV e.data.toList, t⟩, 0) else (zeroM, fiveE [a, b, c, d, e])
  | _ => (zeroM, 25)
def decM (s : ByteArray) : MsgV × Int := if (unpF s.data.toList).2 = 0 then decG (unpF s.data.toList).1 else (zeroM, (unpF s.data.toList).2)
theorem decG_len {l : List ByteArray} (h : l.length ≠ 7) : decG l = (zeroM, 25) := by
  unfold decG
  split
  · exact absurd rfl h
  · rfl
theorem seven {α : Type} {l : List α} (h : l.length = 7) : ∃ s a b c d e t, l = [s, a, b, c, d, e, t] := by
  match l, h with
  | [s, a, b, c, d, e, t], _ => exact ⟨s, a, b, c, d, e, t, rfl⟩
theorem iB_take {n : Int} (h : In64 n) : takeE (iB n).data.toList = 0 ∧ takeV (iB n).data.toList = n := take_itoa n h.1 h.2
theorem dec_enc {m : MsgV} (h : m.Fit) : decM (encM m) = (m, 0) := by
  have h1 : unpF (encM m).data.toList = (fldsM m, 0) := unp_pack _ fun s hs => Nat.le_trans (flds_size h s hs) (by decide)
  unfold decM
  rw [h1, if_pos rfl]
  have hi : ∀ n ∈ nums m, In64 n := h.i
  simp only [nums, List.forall_mem_cons] at hi
  obtain ⟨g1, g2, g3, g4, g5, _⟩ := hi
  show decG [m.sender, iB m.seq, iB m.kind, iB m.account, iB m.amount, iB m.day, m.text] = _
  unfold decG
  dsimp only
  have hz : fiveE [iB m.seq, iB m.kind, iB m.account, iB m.amount, iB m.day] = 0 := by
    simp only [fiveE, (iB_take g1).1, (iB_take g2).1, (iB_take g3).1, (iB_take g4).1, (iB_take g5).1, if_pos]
  rw [hz, if_pos rfl, (iB_take g1).2, (iB_take g2).2, (iB_take g3).2, (iB_take g4).2, (iB_take g5).2]
theorem bytes_of {s : ByteArray} {l : List UInt8} (h : l = s.data.toList) : (⟨l.toArray⟩ : ByteArray) = s := by subst h; rfl
theorem iB_back {t : ByteArray} (h : takeE t.data.toList = 0) : iB (takeV t.data.toList) = t := by
  unfold iB
  exact bytes_of (itoa_take h)
theorem packs_le : ∀ {l : List ByteArray} {t : ByteArray}, t ∈ l → t.size ≤ (packB l).length
  | [], _, h => by simp at h
  | a :: l, t, h => by
    rw [packB_cons]
    simp only [List.length_append, List.length_cons, size_toList]
    rcases List.mem_cons.1 h with rfl | h
    · omega
    · have := packs_le h; omega
theorem dec_back {s : ByteArray} (h : (decM s).2 = 0) : encM (decM s).1 = s ∧ (∀ n ∈ nums (decM s).1, In64 n) ∧ (decM s).1.sender.size ≤ s.size ∧ (decM s).1.text.size ≤ s.size := by
  unfold decM at h ⊢
  by_cases hu : (unpF s.data.toList).2 = 0
  · rw [if_pos hu] at h ⊢
    have hp := pack_unp _ s.data.toList (Nat.le_refl _) hu
    have hsz : ∀ t ∈ (unpF s.data.toList).1, t.size ≤ s.size := fun t ht => by
      have := packs_le ht
      rw [hp, size_toList] at this; exact this
    generalize (unpF s.data.toList).1 = l at *
    by_cases hl : l.length = 7
    · obtain ⟨a, b, c, d, e, f, g, rfl⟩ := seven hl
      unfold decG at h ⊢
      dsimp only at h ⊢
      by_cases hz : fiveE [b, c, d, e, f] = 0
      · rw [if_pos hz] at h ⊢
        have hq := fiveE_zero hz
        simp only [List.forall_mem_cons] at hq hsz
        obtain ⟨q1, q2, q3, q4, q5, _⟩ := hq
        refine ⟨?_, ?_, hsz.1, hsz.2.2.2.2.2.2.1⟩
        · show (⟨(packB [a, iB (takeV b.data.toList), iB (takeV c.data.toList), iB (takeV d.data.toList), iB (takeV e.data.toList), iB (takeV f.data.toList), g]).toArray⟩ : ByteArray) = s
          rw [iB_back q1, iB_back q2, iB_back q3, iB_back q4, iB_back q5]
          exact bytes_of hp
        · simp only [nums, List.forall_mem_cons]
          exact ⟨takeV_bounds _, takeV_bounds _, takeV_bounds _, takeV_bounds _, takeV_bounds _, fun _ h => by simp at h⟩
      · rw [if_neg hz] at h
        exact absurd h hz
    · rw [decG_len hl] at h
      exact absurd h (by decide)
  · rw [if_neg hu] at h
    exact absurd h hu
end Go.Proofs.YtfpknhhhjgdjbaaDoor
