/-
  Days, months and years, plain: where a month ends; the open day that a rule gives does not go back from month to month. Conditions: those that each theorem states. More of the kind.
-/
import Derived.Test.YtcoflmckbcnlpaaGreatDoorGLib
namespace Go.Proofs.YtcoflmckbcnlpaaGreatDoor
set_option maxRecDepth 100000
set_option linter.unusedSimpArgs false
def leapB (y : Int) : Bool := decide (y % 4 = 0) && (!decide (y % 100 = 0) || decide (y % 400 = 0))
def mlen (y m : Int) : Int := if m = 2 then (if leapB y = true then 29 else 28) else if m = 4 ∨ m = 6 ∨ m = 9 ∨ m = 11 then 30 else 31
def beg (y : Int) : Int := 365 * (y - 2000) + (y - 2000 + 3) / 4 - (if 2100 < y then 1 else 0)
def cum (y : Int) : Nat → Int
  | 0 => 0
  | m + 1 => cum y m + mlen y ((m : Int) + 1)
theorem mlen_ge (y m : Int) : 28 ≤ mlen y m ∧ mlen y m ≤ 31 := by
  unfold mlen
  split
  · split <;> omega
  · split <;> omega
theorem cum_mono (y : Int) : ∀ (a d : Nat), cum y a ≤ cum y (a + d)
  | _, 0 => Int.le_refl _
  | a, d + 1 => by
    have h1 := cum_mono y a d
    have h2 := mlen_ge y (((a + d : Nat) : Int) + 1)
    rw [← Nat.add_assoc]
    show _ ≤ cum y (a + d) + _
    omega
theorem cum_le {y : Int} {a b : Nat} (h : a ≤ b) : cum y a ≤ cum y b := by
  have := cum_mono y a (b - a)
  rwa [show a + (b - a) = b by omega] at this
theorem cum_ge0 (y : Int) (a : Nat) : 0 ≤ cum y a := cum_le (Nat.zero_le a)
theorem cum12 (y : Int) : cum y 12 = 365 + (if leapB y = true then 1 else 0) := by
  simp only [cum, mlen]
  cases leapB y <;> decide
theorem beg_next' : ∀ k : Fin 200, beg (2000 + ((k : Nat) : Int) + 1) = beg (2000 + ((k : Nat) : Int)) + 365 + (if leapB (2000 + ((k : Nat) : Int)) = true then 1 else 0) := by decide +kernel
theorem beg_next {y : Int} (h1 : 2000 ≤ y) (h2 : y ≤ 2199) : beg (y + 1) = beg y + cum y 12 := by
  have := beg_next' ⟨(y - 2000).toNat, by omega⟩
  dsimp only at this
  rw [show 2000 + ((y - 2000).toNat : Int) = y by omega] at this
  rw [this, cum12]; omega
theorem beg_mono {y : Int} (h1 : 2000 ≤ y) : ∀ d : Nat, y + d ≤ 2200 → beg y ≤ beg (y + d)
  | 0, _ => by simp
  | d + 1, h => by
    have h2 := beg_mono h1 d (by omega)
    have h3 := beg_next (y := y + d) (by omega) (by omega)
    have h4 := cum_ge0 (y + d) 12
    rw [show y + ((d + 1 : Nat) : Int) = y + d + 1 by omega, h3]; omega
theorem beg_le {y z : Int} (h1 : 2000 ≤ y) (h : y ≤ z) (h2 : z ≤ 2200) : beg y ≤ beg z := by
  have := beg_mono h1 (z - y).toNat (by omega)
  rwa [show y + ((z - y).toNat : Int) = z by omega] at this
structure IsCiv (x y m d : Int) : Prop where
  y1 : 2000 ≤ y
  y2 : y ≤ 2199
  m1 : 1 ≤ m
  m2 : m ≤ 12
  d1 : 1 ≤ d
  d2 : d ≤ mlen y m
  e : x = beg y + cum y (m.toNat - 1) + d - 1
theorem cum_at {y m : Int} (h : 1 ≤ m) : cum y m.toNat = cum y (m.toNat - 1) + mlen y m := by
  obtain ⟨k, hk⟩ : ∃ k, m.toNat = k + 1 := ⟨m.toNat - 1, by omega⟩
  rw [hk, Nat.add_sub_cancel]
  show cum y k + mlen y ((k : Int) + 1) = _
  rw [show (k : Int) + 1 = m by omega]
theorem month_end {x y m d x' y' m' d' : Int} (h : IsCiv x y m d) (h' : IsCiv x' y' m' d') (hl : 12 * y + m < 12 * y' + m') : x - d + mlen y m < x' := by
  have e1 := cum_at (y := y) h.m1
  have a1 := h.e
  have a2 := h'.e
  have b1 := h'.d1
  rcases Int.lt_or_le y y' with hy | hy
  · have h1 := beg_next h.y1 h.y2
    have h2 := beg_le (y := y + 1) (z := y') (by have := h.y1; omega) (by omega) (by have := h'.y2; omega)
    have h3 := cum_le (y := y) (a := m.toNat) (b := 12) (by have := h.m2; omega)
    have h4 := cum_ge0 y' (m'.toNat - 1)
    omega
  · have hyy : y = y' := by
      have := h.m1; have := h.m2; have := h'.m1; have := h'.m2; omega
    subst hyy
    have h3 := cum_le (y := y) (a := m.toNat) (b := m'.toNat - 1) (by omega)
    omega
theorem civ_range {x y m d : Int} (h : IsCiv x y m d) : 0 ≤ x ∧ x ≤ 73048 := by
  have a1 := h.e
  have h1 := beg_le (y := 2000) (z := y) (by decide) h.y1 (by have := h.y2; omega)
  have h0 : beg 2000 = 0 := by decide
  have h2 := cum_ge0 y (m.toNat - 1)
  have h3 := h.d1
  have e1 := cum_at (y := y) h.m1
  have h4 := cum_le (y := y) (a := m.toNat) (b := 12) (by have := h.m2; omega)
  have h5 := beg_next h.y1 h.y2
  have h6 := beg_le (y := y + 1) (z := 2200) (by have := h.y1; omega) (by have := h.y2; omega) (by decide)
  have h7 : beg 2200 = 73049 := by decide
  have h8 := h.d2
  exact ⟨by omega, by omega⟩
def nextF (o : Int → Bool) : Nat → Int → Option Int
  | 0, _ => none
  | n + 1, x => if x ≤ 73048 then (if o x = true then some x else nextF o n (x + 1)) else none
def prevF (o : Int → Bool) : Nat → Int → Option Int
  | 0, _ => none
  | n + 1, x => if 0 ≤ x then (if o x = true then some x else prevF o n (x - 1)) else none
theorem next_spec {o : Int → Bool} : ∀ {n : Nat} {x r : Int}, nextF o n x = some r → x ≤ r ∧ r ≤ 73048 ∧ o r = true
  | 0, _, _, h => by cases h
  | n + 1, x, r, h => by
    unfold nextF at h
    split at h
    · split at h
      · rename_i h1 h2; cases h; exact ⟨Int.le_refl _, h1, h2⟩
      · have := next_spec h; exact ⟨by omega, this.2⟩
    · cases h
theorem prev_spec {o : Int → Bool} : ∀ {n : Nat} {x r : Int}, prevF o n x = some r → r ≤ x ∧ 0 ≤ r ∧ o r = true ∧ ∀ z, r < z → z ≤ x → o z = false
  | 0, _, _, h => by cases h
  | n + 1, x, r, h => by
    unfold prevF at h
    split at h
    · split at h
      · rename_i h1 h2; cases h; exact ⟨Int.le_refl _, h1, h2, fun z h3 h4 => by omega⟩
      · rename_i h1 h2
        obtain ⟨g1, g2, g3, g4⟩ := prev_spec h
        refine ⟨by omega, g2, g3, fun z h3 h4 => ?_⟩
        rcases Int.lt_or_le (x - 1) z with h5 | h5
        · rw [show z = x by omega]
          exact Bool.eq_false_iff.2 h2
        · exact g4 z h3 h5
    · cases h
def adjF (o : Int → Bool) (me x : Int) : Option Int := match nextF o 73050 x with
  | some r => if r ≤ me then some r else prevF o 73050 x
  | none => prevF o 73050 x
theorem adj_ways {o : Int → Bool} {me x a : Int} (h : adjF o me x = some a) : (x ≤ a ∧ a ≤ me ∧ a ≤ 73048 ∧ o a = true) ∨ (a ≤ x ∧ 0 ≤ a ∧ o a = true ∧ ∀ z, a < z → z ≤ x → o z = false) := by
  unfold adjF at h
  split at h
  · rename_i r hr
    split at h
    · rename_i hm
      cases h
      have := next_spec hr
      exact .inl ⟨this.1, hm, this.2⟩
    · exact .inr (prev_spec h)
  · exact .inr (prev_spec h)
theorem adj_mono {o : Int → Bool} {me x a me' x' a' : Int} (h : adjF o me x = some a) (h' : adjF o me' x' = some a') (h1 : x < x') (h2 : me < x') : a ≤ a' := by
  have ha : a < x' ∧ o a = true := by
    rcases adj_ways h with q | q
    · exact ⟨by omega, q.2.2.2⟩
    · exact ⟨by omega, q.2.2.1⟩
  rcases adj_ways h' with q | q
  · omega
  · rcases Int.lt_or_le a' a with h3 | h3
    · have := q.2.2.2 a h3 (by omega)
      rw [ha.2] at this; cases this
    · exact h3
theorem adj_range {o : Int → Bool} {me x a : Int} (h : adjF o me x = some a) (h0 : 0 ≤ x) (h1 : x ≤ 73048) : 0 ≤ a ∧ a ≤ 73048 := by
  rcases adj_ways h with q | q <;> omega
end Go.Proofs.YtcoflmckbcnlpaaGreatDoor
namespace Go.Proofs.YtcoflmckbcnlpaaGreatDoor
set_option maxRecDepth 100000
set_option linter.unusedSimpArgs false
def moreN (q r n mode : Int) : Int := if mode = 1 ∨ mode = 3 then 0 else if mode = 2 ∨ mode = 4 then 1 else if n - r < r then 1 else if r < n - r then 0 else if mode = 6 then q % 2 else 1
def rdiv (x n mode : Int) : Int := if x % n = 0 then x / n else x / n + moreN (x / n) (x % n) n mode
theorem more_01 (q r n mode : Int) : 0 ≤ moreN q r n mode ∧ moreN q r n mode ≤ 1 := by
  unfold moreN
  split
  · omega
  · split
    · omega
    · split
      · omega
      · split
        · omega
        · split <;> omega
theorem more_mono {q r r' n mode : Int} (h : r ≤ r') : moreN q r n mode ≤ moreN q r' n mode := by
  by_cases h1 : mode = 1 ∨ mode = 3
  · unfold moreN; rw [if_pos h1, if_pos h1]; exact Int.le_refl _
  · by_cases h2 : mode = 2 ∨ mode = 4
    · unfold moreN; rw [if_neg h1, if_pos h2, if_neg h1, if_pos h2]; exact Int.le_refl _
    · by_cases h3 : n - r' < r'
      · have e : moreN q r' n mode = 1 := by unfold moreN; rw [if_neg h1, if_neg h2, if_pos h3]
        have := more_01 q r n mode
        omega
      · by_cases h4 : r < n - r
        · have e : moreN q r n mode = 0 := by unfold moreN; rw [if_neg h1, if_neg h2, if_neg (by omega), if_pos h4]
          have := more_01 q r' n mode
          omega
        · have : r = r' := by omega
          rw [this]
          exact Int.le_refl _
theorem rdiv_01 (x n mode : Int) : x / n ≤ rdiv x n mode ∧ rdiv x n mode ≤ x / n + 1 := by
  have := more_01 (x / n) (x % n) n mode
  unfold rdiv
  split <;> omega
theorem rdiv_mono {x x' n mode : Int} (hn : 0 < n) (h : x ≤ x') : rdiv x n mode ≤ rdiv x' n mode := by
  have h1 := rdiv_01 x n mode
  have h2 := rdiv_01 x' n mode
  have hq : x / n ≤ x' / n := Int.ediv_le_ediv hn h
  rcases Int.lt_or_le (x / n) (x' / n) with h3 | h3
  · omega
  · have e : x' / n = x / n := by omega
    have a1 := Int.mul_ediv_add_emod x n
    have a2 := Int.mul_ediv_add_emod x' n
    rw [e] at a2
    have a3 := Int.emod_nonneg x (by omega : n ≠ 0)
    have a4 := Int.emod_nonneg x' (by omega : n ≠ 0)
    have hr : x % n ≤ x' % n := by omega
    unfold rdiv
    rw [e]
    have m1 := more_01 (x / n) (x' % n) n mode
    split
    · split <;> omega
    · rw [if_neg (by omega)]
      have := more_mono (q := x / n) (n := n) (mode := mode) hr
      omega
theorem rdiv_le {x n p mode : Int} (hn : 0 < n) (h : x ≤ p * n) : rdiv x n mode ≤ p := by
  have h1 := rdiv_01 x n mode
  have hq : x / n ≤ p := by
    have := Int.ediv_le_ediv hn h
    rwa [Int.mul_ediv_cancel _ (by omega)] at this
  rcases Int.lt_or_le (x / n) p with h3 | h3
  · omega
  · have e : x / n = p := by omega
    have a1 := Int.mul_ediv_add_emod x n
    rw [e, Int.mul_comm] at a1
    have a3 := Int.emod_nonneg x (by omega : n ≠ 0)
    unfold rdiv
    rw [if_pos (by omega)]
    omega
theorem rdiv_nonneg {x n mode : Int} (hn : 0 < n) (h : 0 ≤ x) : 0 ≤ rdiv x n mode := by
  have h1 := rdiv_01 x n mode
  have := Int.ediv_nonneg h (by omega : 0 ≤ n)
  omega
def intr (ppm every mode p : Int) : Int := rdiv (p * (ppm * every)) 12000000 mode
theorem intr_mono {ppm every mode p p' : Int} (hk : 0 ≤ ppm * every) (h : p ≤ p') : intr ppm every mode p ≤ intr ppm every mode p' :=
  rdiv_mono (by decide) (Int.mul_le_mul_of_nonneg_right h hk)
theorem intr_le {ppm every mode p : Int} (hk : ppm * every ≤ 12000000) (h : 0 ≤ p) : intr ppm every mode p ≤ p :=
  rdiv_le (by decide) (Int.mul_le_mul_of_nonneg_left hk h)
theorem intr_nonneg {ppm every mode p : Int} (hk : 0 ≤ ppm * every) (h : 0 ≤ p) : 0 ≤ intr ppm every mode p :=
  rdiv_nonneg (by decide) (Int.mul_nonneg h hk)
def restF (I : Int → Int) (pay : Int) : Nat → Int → Option Int
  | 0, p => some p
  | n + 1, p => if 1000000000000 < max 0 (p + I p - pay) then none else restF I pay n (max 0 (p + I p - pay))
theorem rest_ge {I : Int → Int} {pay p0 : Int} (hI : ∀ p p', p ≤ p' → I p ≤ I p') (h : pay < I p0) : ∀ (n : Nat) (p r : Int), p0 ≤ p → restF I pay n p = some r → p0 ≤ r
  | 0, p, r, hp, e => by cases e; exact hp
  | n + 1, p, r, hp, e => by
    unfold restF at e
    split at e
    · cases e
    · refine rest_ge hI h n _ r ?_ e
      have := hI p0 p hp
      omega
theorem pay_ge {I : Int → Int} {pay p0 r : Int} {n : Nat} (hI : ∀ p p', p ≤ p' → I p ≤ I p') (e : restF I pay n p0 = some r) (h : r < p0) : I p0 ≤ pay := by
  rcases Int.lt_or_le pay (I p0) with h1 | h1
  · have := rest_ge hI h1 n p0 r (Int.le_refl _) e
    omega
  · exact h1
structure DueV where
  no : Int
  day : Int
  pr : Int
  it : Int
def partF (method prin count pay : Int) (i : Nat) (left it : Int) : Int :=
  if method = 2 then prin / count + (if (i : Int) < prin % count then 1 else 0) else if method = 3 then 0 else min (pay - it) left
def buildF (I : Int → Int) (part : Nat → Int → Int → Int) : Nat → Int → List Int → List DueV
  | _, _, [] => []
  | i, left, d :: ds => match ds with
    | [] => [⟨(i : Int) + 1, d, left, I left⟩]
    | _ :: _ => ⟨(i : Int) + 1, d, part i left (I left), I left⟩ :: buildF I part (i + 1) (left - part i left (I left)) ds
def sumPr (l : List DueV) : Int := (l.map (·.pr)).sum
def sumIt (l : List DueV) : Int := (l.map (·.it)).sum
theorem sumPr_cons (x : DueV) (l : List DueV) : sumPr (x :: l) = x.pr + sumPr l := by simp [sumPr]
theorem sumIt_cons (x : DueV) (l : List DueV) : sumIt (x :: l) = x.it + sumIt l := by simp [sumIt]
theorem build_spec {I : Int → Int} {part : Nat → Int → Int → Int} {M : Int} {Inv : Nat → Int → Prop} (hI : ∀ p, 0 ≤ p → p ≤ M → 0 ≤ I p ∧ I p ≤ M) (h0 : ∀ i p, Inv i p → 0 ≤ p ∧ p ≤ M) {c : Nat}
    (hp : ∀ i p, Inv i p → i + 1 < c → 0 ≤ part i p (I p) ∧ part i p (I p) ≤ p ∧ Inv (i + 1) (p - part i p (I p))) :
    ∀ (ds : List Int) (i : Nat) (left : Int), Inv i left → i + ds.length = c → ds ≠ [] → sumPr (buildF I part i left ds) = left ∧ (buildF I part i left ds).length = ds.length ∧
      (∀ x ∈ buildF I part i left ds, 0 ≤ x.pr ∧ x.pr ≤ M ∧ 0 ≤ x.it ∧ x.it ≤ M) ∧ (∀ (k : Nat) x, (buildF I part i left ds)[k]? = some x → x.no = ((i + k : Nat) : Int) + 1 ∧ ds[k]? = some x.day)
  | [], _, _, _, _, h => absurd rfl h
  | [d], i, left, hi, hc, _ => by
    have a := h0 i left hi
    have b := hI left a.1 a.2
    refine ⟨by simp [buildF, sumPr], rfl, fun x hx => ?_, fun k x hx => ?_⟩
    · simp only [buildF, List.mem_singleton] at hx
      subst hx
      exact ⟨a.1, a.2, b.1, b.2⟩
    · simp only [buildF] at hx
      cases k with
      | zero => cases hx; exact ⟨by simp, rfl⟩
      | succ k => simp at hx
  | d :: d2 :: ds, i, left, hi, hc, _ => by
    have a := h0 i left hi
    have b := hI left a.1 a.2
    obtain ⟨q1, q2, q3⟩ := hp i left hi (by simp at hc; omega)
    obtain ⟨r1, r2, r3, r4⟩ := build_spec hI h0 hp (d2 :: ds) (i + 1) (left - part i left (I left)) q3 (by simp at hc ⊢; omega) (by simp)
    have e : buildF I part i left (d :: d2 :: ds) = ⟨(i : Int) + 1, d, part i left (I left), I left⟩ :: buildF I part (i + 1) (left - part i left (I left)) (d2 :: ds) := by rw [buildF]
    rw [e]
    refine ⟨by rw [sumPr_cons, r1]; show part i left (I left) + _ = left; omega, by rw [List.length_cons, r2]; rfl, fun x hx => ?_, fun k x hx => ?_⟩
    · rcases List.mem_cons.1 hx with rfl | hx
      · exact ⟨q1, by show part i left (I left) ≤ M; omega, b.1, b.2⟩
      · exact r3 x hx
    · cases k with
      | zero => cases hx; exact ⟨by simp, rfl⟩
      | succ k =>
        have := r4 k x (by simpa using hx)
        exact ⟨by rw [this.1]; omega, by simpa using this.2⟩
end Go.Proofs.YtcoflmckbcnlpaaGreatDoor
namespace Go.Proofs.YtcoflmckbcnlpaaGreatDoor
set_option maxRecDepth 100000
set_option linter.unusedSimpArgs false
theorem sumPr_app (a b : List DueV) : sumPr (a ++ b) = sumPr a + sumPr b := by simp [sumPr]
theorem sumIt_app (a b : List DueV) : sumIt (a ++ b) = sumIt a + sumIt b := by simp [sumIt]
theorem sumPr_next {l : List DueV} {k : Nat} {x : DueV} (e : l[k]? = some x) : sumPr (l.take (k + 1)) = sumPr (l.take k) + x.pr := by
  rw [List.take_add_one, e, sumPr_app]; simp [sumPr]
theorem sumIt_next {l : List DueV} {k : Nat} {x : DueV} (e : l[k]? = some x) : sumIt (l.take (k + 1)) = sumIt (l.take k) + x.it := by
  rw [List.take_add_one, e, sumIt_app]; simp [sumIt]
theorem sumPr_nonneg : ∀ {l : List DueV}, (∀ x ∈ l, 0 ≤ x.pr) → 0 ≤ sumPr l
  | [], _ => by simp [sumPr]
  | x :: l, h => by
    have := sumPr_nonneg (l := l) fun y hy => h y (List.mem_cons_of_mem _ hy)
    have := h x List.mem_cons_self
    rw [sumPr_cons]; omega
theorem sumIt_nonneg : ∀ {l : List DueV}, (∀ x ∈ l, 0 ≤ x.it) → 0 ≤ sumIt l
  | [], _ => by simp [sumIt]
  | x :: l, h => by
    have := sumIt_nonneg (l := l) fun y hy => h y (List.mem_cons_of_mem _ hy)
    have := h x List.mem_cons_self
    rw [sumIt_cons]; omega
theorem sumPr_le {l : List DueV} (h : ∀ x ∈ l, 0 ≤ x.pr) (k : Nat) : sumPr (l.take k) ≤ sumPr l := by
  have h1 := sumPr_app (l.take k) (l.drop k)
  rw [List.take_append_drop] at h1
  have := sumPr_nonneg (l := l.drop k) fun x hx => h x (List.mem_of_mem_drop hx)
  omega
theorem sumIt_le {l : List DueV} (h : ∀ x ∈ l, 0 ≤ x.it) (k : Nat) : sumIt (l.take k) ≤ sumIt l := by
  have h1 := sumIt_app (l.take k) (l.drop k)
  rw [List.take_append_drop] at h1
  have := sumIt_nonneg (l := l.drop k) fun x hx => h x (List.mem_of_mem_drop hx)
  omega
structure Sched (l : List DueV) : Prop where
  pos : ∀ x ∈ l, 0 ≤ x.pr ∧ x.pr ≤ 1000000000000 ∧ 0 ≤ x.it ∧ x.it ≤ 1000000000000 ∧ 0 ≤ x.day ∧ x.day ≤ 73048
  no : ∀ (k : Nat) x, l[k]? = some x → x.no = (k : Int) + 1
  ord : ∀ (i j : Nat) x y, i ≤ j → l[i]? = some x → l[j]? = some y → x.day ≤ y.day
def kindL (l : List (Int × Int)) (k : Int) : Int := ((l.filter fun p => decide (p.1 = k)).map (·.2)).sum
def daysF (on paidP paidI : Int) : Int → Int → List DueV → Int
  | _, _, [] => 0
  | p, i, d :: l => if d.day ≤ on ∧ (paidP < p + d.pr ∨ paidI < i + d.it) then on - d.day else daysF on paidP paidI (p + d.pr) (i + d.it) l
theorem days_zero {on paidP paidI : Int} : ∀ (l : List DueV) (p i : Int), (∀ (k : Nat) x, l[k]? = some x → x.day ≤ on → p + sumPr (l.take (k + 1)) ≤ paidP ∧ i + sumIt (l.take (k + 1)) ≤ paidI) → daysF on paidP paidI p i l = 0
  | [], _, _, _ => rfl
  | d :: l, p, i, h => by
    unfold daysF
    have h0 := h 0 d rfl
    simp only [List.take_succ_cons, List.take_zero, sumPr_cons, sumIt_cons] at h0
    rw [if_neg (by
      rintro ⟨h1, h2⟩
      have := h0 h1
      simp [sumPr, sumIt] at this
      omega)]
    refine days_zero l _ _ fun k x hx hd => ?_
    have := h (k + 1) x (by simpa using hx) hd
    rw [List.take_succ_cons, sumPr_cons, sumIt_cons] at this
    omega
end Go.Proofs.YtcoflmckbcnlpaaGreatDoor
namespace Go.Proofs.YtcoflmckbcnlpaaGreatDoor
set_option maxRecDepth 100000
set_option linter.unusedSimpArgs false
def addX (M a : Int) : Int := beg (M / 12) + cum (M / 12) (M % 12).toNat + min a (mlen (M / 12) (M % 12 + 1)) - 1
def endX (M : Int) : Int := beg (M / 12) + cum (M / 12) (M % 12).toNat + mlen (M / 12) (M % 12 + 1) - 1
theorem addX_civ {M a : Int} (h1 : 24000 ≤ M) (h2 : M < 26400) (ha : 1 ≤ a) : IsCiv (addX M a) (M / 12) (M % 12 + 1) (min a (mlen (M / 12) (M % 12 + 1))) := by
  have h3 := mlen_ge (M / 12) (M % 12 + 1)
  refine ⟨by omega, by omega, by omega, by omega, by omega, by omega, ?_⟩
  unfold addX
  rw [show (M % 12 + 1).toNat - 1 = (M % 12).toNat by omega]
theorem addX_lt {M M' a : Int} (h1 : 24000 ≤ M) (h2 : M < M') (h3 : M' < 26400) (ha : 1 ≤ a) : endX M < addX M' a ∧ addX M a ≤ endX M := by
  have c1 := addX_civ (a := a) h1 (by omega) ha
  have c2 := addX_civ (a := a) (M := M') (by omega) h3 ha
  have := month_end c1 c2 (by omega)
  unfold addX at this
  unfold endX addX
  omega
def dayAt (o : Int → Bool) (M0 a every : Int) (i : Nat) : Option Int :=
  if 24000 ≤ M0 + ((i : Int) + 1) * every ∧ M0 + ((i : Int) + 1) * every < 26400 then adjF o (endX (M0 + ((i : Int) + 1) * every)) (addX (M0 + ((i : Int) + 1) * every) a) else none
theorem dayAt_mono {o : Int → Bool} {M0 a every : Int} {i j : Nat} {x y : Int} (he : 1 ≤ every) (ha : 1 ≤ a) (hij : i ≤ j) (h : dayAt o M0 a every i = some x) (h' : dayAt o M0 a every j = some y) : x ≤ y := by
  rcases Nat.lt_or_ge i j with hl | hl
  · unfold dayAt at h h'
    split at h
    · split at h'
      · rename_i g1 g2
        have hlt : M0 + ((i : Int) + 1) * every < M0 + ((j : Int) + 1) * every := by
          have : ((i : Int) + 1) * every < ((j : Int) + 1) * every := Int.mul_lt_mul_of_pos_right (by omega) (by omega)
          omega
        have := addX_lt g1.1 hlt g2.2 ha
        exact adj_mono h h' (by omega) this.1
      · cases h'
    · cases h
  · have : i = j := by omega
    subst this
    rw [h] at h'
    cases h'; exact Int.le_refl _
theorem dayAt_range {o : Int → Bool} {M0 a every : Int} {i : Nat} {x : Int} (ha : 1 ≤ a) (h : dayAt o M0 a every i = some x) : 0 ≤ x ∧ x ≤ 73048 := by
  unfold dayAt at h
  split at h
  · rename_i g
    have := civ_range (addX_civ g.1 g.2 ha)
    exact adj_range h this.1 this.2
  · cases h
def partInv (method P c : Int) (i : Nat) (left : Int) : Prop := 0 ≤ left ∧ left ≤ P ∧ (method = 2 → (i : Int) ≤ c ∧ left = P - i * (P / c) - min (i : Int) (P % c))
theorem part_step {I : Int → Int} {method P c pay : Int} (hP : 1 ≤ P) (hc : 1 ≤ c) (hI : ∀ p p', p ≤ p' → I p ≤ I p') (hI0 : ∀ p, 0 ≤ p → 0 ≤ I p) (hpay : method ≠ 2 → method ≠ 3 → I P ≤ pay) {i : Nat} {left : Int} (h : partInv method P c i left) (hi : ((i + 1 : Nat) : Int) < c) :
    0 ≤ partF method P c pay i left (I left) ∧ partF method P c pay i left (I left) ≤ left ∧ partInv method P c (i + 1) (left - partF method P c pay i left (I left)) := by
  obtain ⟨h0, h1, h2⟩ := h
  by_cases m2 : method = 2
  · obtain ⟨h3, h4⟩ := h2 m2
    have e : partF method P c pay i left (I left) = P / c + (if (i : Int) < P % c then 1 else 0) := by unfold partF; rw [if_pos m2]
    have a1 := Int.mul_ediv_add_emod P c
    have a2 := Int.emod_nonneg P (by omega : c ≠ 0)
    have a3 := Int.emod_lt_of_pos P (by omega : 0 < c)
    have a4 := Int.ediv_nonneg (by omega : 0 ≤ P) (by omega : 0 ≤ c)
    have hnext : left - (P / c + (if (i : Int) < P % c then 1 else 0)) = P - ((i + 1 : Nat) : Int) * (P / c) - min ((i + 1 : Nat) : Int) (P % c) := by
      rw [h4, show ((i + 1 : Nat) : Int) * (P / c) = i * (P / c) + P / c by rw [Int.natCast_add, Int.add_mul]; simp]
      split <;> omega
    have hge : 0 ≤ P - ((i + 1 : Nat) : Int) * (P / c) - min ((i + 1 : Nat) : Int) (P % c) := by
      have : ((i + 1 : Nat) : Int) * (P / c) ≤ c * (P / c) := Int.mul_le_mul_of_nonneg_right (by omega) a4
      omega
    rw [e]
    have hsp : 0 ≤ P / c + (if (i : Int) < P % c then 1 else 0) := by split <;> omega
    exact ⟨hsp, by omega, by omega, by omega, fun _ => ⟨by omega, hnext⟩⟩
  · by_cases m3 : method = 3
    · have e : partF method P c pay i left (I left) = 0 := by unfold partF; rw [if_neg m2, if_pos m3]
      rw [e]
      exact ⟨Int.le_refl _, h0, by omega, by omega, fun h => absurd h m2⟩
    · have e : partF method P c pay i left (I left) = min (pay - I left) left := by unfold partF; rw [if_neg m2, if_neg m3]
      have b1 := hpay m2 m3
      have b2 := hI left P h1
      rw [e]
      exact ⟨by omega, by omega, by omega, by omega, fun h => absurd h m2⟩
theorem part_start (method : Int) {P c : Int} (hP : 1 ≤ P) (hc : 1 ≤ c) : partInv method P c 0 P := by
  have a2 := Int.emod_nonneg P (by omega : c ≠ 0)
  exact ⟨by omega, Int.le_refl _, fun _ => ⟨by simp; omega, by simp; omega⟩⟩
end Go.Proofs.YtcoflmckbcnlpaaGreatDoor
namespace Go.Proofs.YtcoflmckbcnlpaaGreatDoor
set_option maxRecDepth 100000
set_option linter.unusedSimpArgs false
end Go.Proofs.YtcoflmckbcnlpaaGreatDoor
namespace Go.Proofs.YtcoflmckbcnlpaaGreatDoor
set_option maxRecDepth 100000
set_option linter.unusedSimpArgs false
def stAt (R : List DueV) (k : Nat) : Int := if sumPr (R.take k) = sumPr R ∧ sumIt (R.take k) = sumIt R then 2 else 1
theorem sumPr_mono {l : List DueV} (h : ∀ x ∈ l, 0 ≤ x.pr) {j k : Nat} (hj : j ≤ k) : sumPr (l.take j) ≤ sumPr (l.take k) := by
  have := sumPr_le (l := l.take k) (fun x hx => h x (List.mem_of_mem_take hx)) j
  rwa [List.take_take, Nat.min_eq_left hj] at this
theorem sumIt_mono {l : List DueV} (h : ∀ x ∈ l, 0 ≤ x.it) {j k : Nat} (hj : j ≤ k) : sumIt (l.take j) ≤ sumIt (l.take k) := by
  have := sumIt_le (l := l.take k) (fun x hx => h x (List.mem_of_mem_take hx)) j
  rwa [List.take_take, Nat.min_eq_left hj] at this
theorem Sched.p {l : List DueV} (h : Sched l) : ∀ x ∈ l, 0 ≤ x.pr := fun x hx => (h.pos x hx).1
theorem Sched.i {l : List DueV} (h : Sched l) : ∀ x ∈ l, 0 ≤ x.it := fun x hx => (h.pos x hx).2.2.1
theorem st_start {R : List DueV} (h : 1 ≤ sumPr R) : stAt R 0 = 1 := by
  unfold stAt
  rw [if_neg]
  rintro ⟨h1, _⟩
  simp [sumPr] at h1
  unfold sumPr at h
  omega
theorem st_end (R : List DueV) : stAt R R.length = 2 := by
  unfold stAt
  rw [List.take_length, if_pos ⟨rfl, rfl⟩]
theorem st_skip {R : List DueV} (hs : Sched R) {k : Nat} {x : DueV} (e : R[k]? = some x) (h : x.pr + x.it = 0) : x.pr = 0 ∧ x.it = 0 ∧ sumPr (R.take (k + 1)) = sumPr (R.take k) ∧ sumIt (R.take (k + 1)) = sumIt (R.take k) ∧ stAt R (k + 1) = stAt R k := by
  have hm := List.mem_iff_getElem?.2 ⟨k, e⟩
  have h1 := hs.p x hm
  have h2 := hs.i x hm
  have e1 := sumPr_next e
  have e2 := sumIt_next e
  have a1 : x.pr = 0 := by omega
  have a2 : x.it = 0 := by omega
  rw [a1, Int.add_zero] at e1
  rw [a2, Int.add_zero] at e2
  refine ⟨a1, a2, e1, e2, ?_⟩
  unfold stAt
  rw [e1, e2]
theorem st_done {R : List DueV} (hs : Sched R) {k : Nat} {x : DueV} (e : R[k]? = some x) (h : stAt R k ≠ 1) : x.pr + x.it = 0 := by
  have hm := List.mem_iff_getElem?.2 ⟨k, e⟩
  have h1 := hs.p x hm
  have h2 := hs.i x hm
  have e1 := sumPr_next e
  have e2 := sumIt_next e
  have e3 := sumPr_le hs.p (k + 1)
  have e4 := sumIt_le hs.i (k + 1)
  unfold stAt at h
  by_cases hc : sumPr (R.take k) = sumPr R ∧ sumIt (R.take k) = sumIt R
  · omega
  · rw [if_neg hc] at h
    exact absurd rfl h
theorem st_active {R : List DueV} {k : Nat} (h : stAt R k = 1) : ¬ (sumPr (R.take k) = sumPr R ∧ sumIt (R.take k) = sumIt R) := by
  intro hc
  unfold stAt at h
  rw [if_pos hc] at h
  omega
theorem life_days {R : List DueV} (hs : Sched R) {k : Nat} {x : DueV} (e : R[k]? = some x) (h2 : ∀ y, R[k + 1]? = some y → y.day ≠ x.day) : daysF x.day (sumPr (R.take (k + 1))) (sumIt (R.take (k + 1))) 0 0 R = 0 := by
  refine days_zero R 0 0 fun j y hy hd => ?_
  have hjk : j ≤ k := by
    rcases Nat.lt_or_ge k j with hlt | hge
    · exfalso
      have hj := (List.getElem?_eq_some_iff.1 hy).1
      have e2 : R[k + 1]? = some R[k + 1] := List.getElem?_eq_getElem (by omega)
      have q1 := h2 _ e2
      have q2 := hs.ord k (k + 1) x _ (by omega) e e2
      have q3 := hs.ord (k + 1) j _ y (by omega) e2 hy
      omega
    · exact hge
  have a1 := sumPr_mono hs.p (j := j + 1) (k := k + 1) (by omega)
  have a2 := sumIt_mono hs.i (j := j + 1) (k := k + 1) (by omega)
  exact ⟨by omega, by omega⟩
theorem life_due {R : List DueV} (hs : Sched R) {k : Nat} {x : DueV} (e : R[k]? = some x) (h2 : ∀ y, R[k + 1]? = some y → y.day ≠ x.day) : (∀ (j : Nat) y, j < k + 1 → R[j]? = some y → ¬ x.day < y.day) ∧ (∀ (j : Nat) y, k + 1 ≤ j → R[j]? = some y → x.day < y.day) := by
  refine ⟨fun j y hj hy => ?_, fun j y hj hy => ?_⟩
  · have := hs.ord j k y x (by omega) hy e
    omega
  · have hlt := (List.getElem?_eq_some_iff.1 hy).1
    have e2 : R[k + 1]? = some R[k + 1] := List.getElem?_eq_getElem (by omega)
    have q1 := h2 _ e2
    have q2 := hs.ord k (k + 1) x _ (by omega) e e2
    have q3 := hs.ord (k + 1) j _ y hj e2 hy
    omega
end Go.Proofs.YtcoflmckbcnlpaaGreatDoor