/-
  Chapter 43, plain: messages, their places, what receiving is, which numbers are missing. Conditions: those that each theorem states.
-/
import Derived.Test.YtfpknhhhjgdjbaaDoorM43A
namespace Go.Proofs.YtfpknhhhjgdjbaaDoor
open Go.RowKit
set_option maxRecDepth 100000
set_option linter.unusedSimpArgs false

def In64 (n : Int) : Prop := -9223372036854775808 ≤ n ∧ n ≤ 9223372036854775807
structure MsgV where
  sender : ByteArray
  seq : Int
  kind : Int
  account : Int
  amount : Int
  day : Int
  text : ByteArray
theorem msg_iff (a b : MsgV) : a = b ↔ (a.sender = b.sender ∧ a.seq = b.seq ∧ a.kind = b.kind ∧ a.account = b.account ∧ a.amount = b.amount ∧ a.day = b.day ∧ a.text = b.text) := by
  constructor
  · intro h; subst h; exact ⟨rfl, rfl, rfl, rfl, rfl, rfl, rfl⟩
  · intro ⟨h1, h2, h3, h4, h5, h6, h7⟩
    cases a; cases b
    dsimp only at *
    subst h1 h2 h3 h4 h5 h6 h7; rfl
instance : DecidableEq MsgV := fun a b => decidable_of_iff _ (msg_iff a b).symm
def zeroM : MsgV := ⟨⟨#[]⟩, 0, 0, 0, 0, 0, ⟨#[]⟩⟩
def msgC (m : MsgV) : List AV := [.ex (.string m.sender), .ex (.int .i64 m.seq), .ex (.int .i64 m.kind), .ex (.int .i64 m.account), .ex (.int .i64 m.amount), .ex (.int .i64 m.day), .ex (.string m.text)]
def msgs (l : List MsgV) : List (List AV) := l.map msgC
structure MsgV.Ok (m : MsgV) : Prop where
  i1 : In64 m.seq
  i2 : In64 m.kind
  i3 : In64 m.account
  i4 : In64 m.amount
  i5 : In64 m.day
  s : m.sender.size ≤ 140737488355328
  t : m.text.size ≤ 140737488355328
theorem msgs_len (l : List MsgV) : (msgs l).length = l.length := by simp [msgs]
theorem msgs_get {l : List MsgV} {k : Nat} {m : MsgV} (h : l[k]? = some m) : (msgs l)[k]? = some [.ex (.string m.sender), .ex (.int .i64 m.seq), .ex (.int .i64 m.kind), .ex (.int .i64 m.account), .ex (.int .i64 m.amount), .ex (.int .i64 m.day), .ex (.string m.text)] := by rw [msgs, List.getElem?_map, h]; rfl
theorem msgs_seven (l : List MsgV) : ∀ n ∈ msgs l, n.length = 7 := by
  intro n hn
  obtain ⟨m, _, rfl⟩ := List.mem_map.1 hn
  rfl
theorem msgs_all (l : List MsgV) : ((msgs l).all (·.all p0)) = true := by
  rw [List.all_eq_true]
  intro n hn
  obtain ⟨m, _, rfl⟩ := List.mem_map.1 hn
  rfl
theorem msgs_z0 (l : List MsgV) : (msgs l).map (·.map z0) = msgs l := by
  rw [msgs, List.map_map]
  exact List.map_congr_left fun m _ => rfl
theorem msgs_take (l : List MsgV) (k : Nat) : (msgs l).take k = msgs (l.take k) := by simp [msgs, List.map_take]
theorem msgs_drop (l : List MsgV) (k : Nat) : (msgs l).drop k = msgs (l.drop k) := by simp [msgs, List.map_drop]
theorem msgs_app (a b : List MsgV) : msgs (a ++ b) = msgs a ++ msgs b := by simp [msgs]
theorem msgs_app1 (a : List MsgV) (m : MsgV) : msgs a ++ [[.ex (.string m.sender), .ex (.int .i64 m.seq), .ex (.int .i64 m.kind), .ex (.int .i64 m.account), .ex (.int .i64 m.amount), .ex (.int .i64 m.day), .ex (.string m.text)]] = msgs (a ++ [m]) := by simp [msgs, msgC]
theorem msgs_nil : msgs [] = [] := rfl

theorem bytesLess_eq : ∀ (a b : List UInt8), Op.bytesLess a b = decide (a < b)
  | [], [] => by simp [Op.bytesLess]
  | [], _ :: _ => by simp [Op.bytesLess]
  | _ :: _, [] => by simp [Op.bytesLess]
  | x :: a, y :: b => by
    simp only [Op.bytesLess, bytesLess_eq a b, List.cons_lt_cons_iff]
    by_cases h1 : x < y
    · simp [h1]
    · by_cases h2 : x = y
      · subst h2; simp
      · simp [h1, h2]
def cmpI (a b : Int) : Int := if a < b then -1 else if b < a then 1 else 0
def ltS (a b : ByteArray) : Bool := Op.bytesLess a.data.toList b.data.toList
def cmpS (a b : ByteArray) : Int := if ltS a b = true then -1 else if a = b then 0 else 1
def orI (x y : Int) : Int := if x = 0 then y else x
theorem ltS_trans {a b c : ByteArray} (h1 : ltS a b = true) (h2 : ltS b c = true) : ltS a c = true := by
  unfold ltS at *
  rw [bytesLess_eq, decide_eq_true_eq] at *
  exact List.lt_trans h1 h2
theorem ltS_irrefl (a : ByteArray) : ltS a a = false := by
  unfold ltS
  rw [bytesLess_eq, decide_eq_false_iff_not]
  exact List.lt_irrefl _
theorem ltS_total {a b : ByteArray} (h1 : ltS a b = false) (h2 : a ≠ b) : ltS b a = true := by
  unfold ltS at *
  rw [bytesLess_eq, decide_eq_false_iff_not] at h1
  rw [bytesLess_eq, decide_eq_true_eq]
  refine List.not_le.1 fun h3 => h2 ?_
  exact ByteArray.ext (Array.ext' (List.le_antisymm h3 (List.not_lt.1 h1)))
theorem cmpI_lt {a b : Int} : cmpI a b < 0 ↔ a < b := by unfold cmpI; split <;> (try split) <;> omega
theorem cmpI_gt {a b : Int} : 0 < cmpI a b ↔ b < a := by unfold cmpI; split <;> (try split) <;> omega
theorem cmpI_eq {a b : Int} : cmpI a b = 0 ↔ a = b := by unfold cmpI; split <;> (try split) <;> omega
theorem cmpS_neg {a b : ByteArray} : cmpS a b < 0 ↔ ltS a b = true := by
  unfold cmpS
  split
  · rename_i h; simp [h]
  · rename_i h
    split <;> simp [h]
theorem cmpS_zero {a b : ByteArray} : cmpS a b = 0 ↔ a = b := by
  unfold cmpS
  split
  · rename_i h
    refine ⟨fun h => by omega, fun e => ?_⟩
    subst e
    rw [ltS_irrefl] at h; cases h
  · split
    · rename_i h; simp [h]
    · rename_i h; simp [h]
theorem cmpS_pos {a b : ByteArray} : 0 < cmpS a b ↔ ltS b a = true := by
  constructor
  · intro h
    have h1 : ltS a b = false := by
      cases hh : ltS a b with
      | false => rfl
      | true => have := cmpS_neg.2 hh; omega
    exact ltS_total h1 fun e => by have := cmpS_zero.2 e; omega
  · intro h
    have h1 : ¬ cmpS a b < 0 := fun hh => by
      have := ltS_trans h (cmpS_neg.1 hh)
      rw [ltS_irrefl] at this; cases this
    have h2 : ¬ cmpS a b = 0 := fun hh => by
      rw [cmpS_zero.1 hh, ltS_irrefl] at h; cases h
    omega
/-- The order of places. -/
def cmpM (a b : MsgV) : Int := orI (cmpS a.sender b.sender) (cmpI a.seq b.seq)
def Plc (a b : MsgV) : Prop := a.sender = b.sender ∧ a.seq = b.seq
def Lt (a b : MsgV) : Prop := ltS a.sender b.sender = true ∨ (a.sender = b.sender ∧ a.seq < b.seq)
theorem cmpM_zero {a b : MsgV} : cmpM a b = 0 ↔ Plc a b := by
  unfold cmpM orI Plc
  split
  · rename_i h
    rw [cmpI_eq]
    exact ⟨fun e => ⟨cmpS_zero.1 h, e⟩, fun e => e.2⟩
  · rename_i h
    exact ⟨fun e => absurd e h, fun e => absurd (cmpS_zero.2 e.1) h⟩
theorem cmpM_neg {a b : MsgV} : cmpM a b < 0 ↔ Lt a b := by
  unfold cmpM orI Lt
  split
  · rename_i h
    rw [cmpI_lt]
    have h' := cmpS_zero.1 h
    constructor
    · exact fun h => .inr ⟨h', h⟩
    · rintro (h | h)
      · rw [h', ltS_irrefl] at h; cases h
      · exact h.2
  · rename_i h
    rw [cmpS_neg]
    have : ¬ a.sender = b.sender := fun e => h (cmpS_zero.2 e)
    constructor
    · exact .inl
    · rintro (h | h)
      · exact h
      · exact absurd h.1 this
theorem cmpM_pos {a b : MsgV} : 0 < cmpM a b ↔ Lt b a := by
  unfold cmpM orI Lt
  split
  · rename_i h
    rw [cmpI_gt]
    have h' := cmpS_zero.1 h
    constructor
    · exact fun h => .inr ⟨h'.symm, h⟩
    · rintro (h | h)
      · rw [h', ltS_irrefl] at h; cases h
      · exact h.2
  · rename_i h
    rw [cmpS_pos]
    have : ¬ b.sender = a.sender := fun e => h (cmpS_zero.2 e.symm)
    constructor
    · exact .inl
    · rintro (h | h)
      · exact h
      · exact absurd h.1 this
theorem Lt.trans {a b c : MsgV} (h1 : Lt a b) (h2 : Lt b c) : Lt a c := by
  rcases h1 with h1 | h1 <;> rcases h2 with h2 | h2
  · exact .inl (ltS_trans h1 h2)
  · exact .inl (by rw [← h2.1]; exact h1)
  · exact .inl (by rw [h1.1]; exact h2)
  · exact .inr ⟨h1.1.trans h2.1, by omega⟩
theorem Lt.irrefl {a : MsgV} (h : Lt a a) : False := by
  rcases h with h | h
  · rw [ltS_irrefl] at h; cases h
  · omega
theorem Lt.total (a b : MsgV) : Lt a b ∨ Plc a b ∨ Lt b a := by
  rcases Int.lt_trichotomy (cmpM a b) 0 with h | h | h
  · exact .inl (cmpM_neg.1 h)
  · exact .inr (.inl (cmpM_zero.1 h))
  · exact .inr (.inr (cmpM_pos.1 h))
def same (m x : MsgV) : Bool := decide (cmpM x m = 0)
def later (m x : MsgV) : Bool := decide (0 < cmpM x m)
theorem same_iff {m x : MsgV} : same m x = true ↔ Plc x m := by unfold same; rw [decide_eq_true_eq, cmpM_zero]
theorem same_no {m x : MsgV} : same m x = false ↔ ¬ Plc x m := by unfold same; rw [decide_eq_false_iff_not, cmpM_zero]
theorem later_iff {m x : MsgV} : later m x = true ↔ Lt m x := by unfold later; rw [decide_eq_true_eq, cmpM_pos]
theorem later_no {m x : MsgV} : later m x = false ↔ ¬ Lt m x := by unfold later; rw [decide_eq_false_iff_not, cmpM_pos]

theorem upto {α : Type} {p : α → Prop} {l : List α} {k : Nat} {x : α} (e : l[k]? = some x) (h : ∀ (j : Nat) y, j < k → l[j]? = some y → p y) (hx : p x) : ∀ (j : Nat) y, j < k + 1 → l[j]? = some y → p y :=
  up1 (p := fun _ y => p y) e h hx
/-- The first place. -/
def firstB {α : Type} (p : α → Bool) : List α → Nat
  | [] => 0
  | a :: l => if p a = true then 0 else firstB p l + 1
theorem firstB_at {α : Type} {p : α → Bool} : ∀ {l : List α} {k : Nat} {x : α}, l[k]? = some x → (∀ (j : Nat) y, j < k → l[j]? = some y → p y = false) → p x = true → firstB p l = k
  | [], _, _, e, _, _ => by cases e
  | a :: l, 0, x, e, _, h => by cases e; unfold firstB; rw [if_pos h]
  | a :: l, k + 1, x, e, h1, h => by
    unfold firstB
    rw [if_neg (by rw [h1 0 a (by omega) rfl]; simp), firstB_at (l := l) (k := k) e (fun j y hj hy => h1 (j + 1) y (by omega) hy) h]
theorem firstB_end {α : Type} {p : α → Bool} : ∀ {l : List α}, (∀ (j : Nat) y, l[j]? = some y → p y = false) → firstB p l = l.length
  | [], _ => rfl
  | a :: l, h => by
    unfold firstB
    rw [if_neg (by rw [h 0 a rfl]; simp), firstB_end fun j y hy => h (j + 1) y hy]; rfl
theorem firstB_le {α : Type} (p : α → Bool) : ∀ l : List α, firstB p l ≤ l.length
  | [] => Nat.le_refl _
  | a :: l => by
    have := firstB_le p l
    unfold firstB
    rw [List.length_cons]
    split <;> omega
def idxB {α : Type} (p : α → Bool) (l : List α) : Int := if firstB p l < l.length then firstB p l else -1
theorem idxB_at {α : Type} {p : α → Bool} {l : List α} {k : Nat} {x : α} (e : l[k]? = some x) (h1 : ∀ (j : Nat) y, j < k → l[j]? = some y → p y = false) (h : p x = true) : idxB p l = k := by
  unfold idxB
  rw [firstB_at e h1 h, if_pos (List.getElem?_eq_some_iff.1 e).1]
theorem idxB_end {α : Type} {p : α → Bool} {l : List α} (h : ∀ (j : Nat) y, l[j]? = some y → p y = false) : idxB p l = -1 := by
  unfold idxB
  rw [firstB_end h, if_neg (Nat.lt_irrefl _)]
theorem first_ways {α : Type} (p : α → Bool) : ∀ l : List α, (∃ (k : Nat) (x : α), l[k]? = some x ∧ p x = true ∧ (∀ (j : Nat) y, j < k → l[j]? = some y → p y = false)) ∨ (∀ (j : Nat) y, l[j]? = some y → p y = false)
  | [] => .inr fun j y hy => by simp at hy
  | a :: l => by
    cases ha : p a with
    | true => exact .inl ⟨0, a, rfl, ha, fun j y hj => absurd hj (Nat.not_lt_zero _)⟩
    | false =>
      rcases first_ways p l with ⟨k, x, e, hx, h⟩ | h
      · refine .inl ⟨k + 1, x, e, hx, fun j y hj hy => ?_⟩
        cases j with
        | zero => cases hy; exact ha
        | succ j => exact h j y (by omega) hy
      · refine .inr fun j y hy => ?_
        cases j with
        | zero => cases hy; exact ha
        | succ j => exact h j y hy
theorem idxB_ways {α : Type} (p : α → Bool) (l : List α) : (∃ (k : Nat) (x : α), l[k]? = some x ∧ p x = true ∧ (∀ (j : Nat) y, j < k → l[j]? = some y → p y = false) ∧ idxB p l = k ∧ firstB p l = k) ∨ ((∀ (j : Nat) y, l[j]? = some y → p y = false) ∧ idxB p l = -1 ∧ firstB p l = l.length) := by
  rcases first_ways p l with ⟨k, x, e, hx, h⟩ | h
  · exact .inl ⟨k, x, e, hx, h, idxB_at e h hx, firstB_at e h hx⟩
  · exact .inr ⟨h, idxB_end h, firstB_end h⟩

def badM (m : MsgV) : Bool := decide (m.seq < 1) || decide (1000000000 < m.seq) || decide (m.kind < 1) || decide (3 < m.kind) || decide (m.account < 1000) || decide (m.amount < 1) || decide (1000000000000 < m.amount) || !dayB m.day || !textB 32 64 m.text
def checkM (m : MsgV) : Int := if nameB m.sender = true then (if badM m = true then 1 else 0) else 4
def insM (l : List MsgV) (m : MsgV) : List MsgV := l.take (firstB (later m) l) ++ m :: l.drop (firstB (later m) l)
def recvM (l : List MsgV) (m : MsgV) : List MsgV × Bool × Int :=
  if checkM m = 0 then
    match l[firstB (same m) l]? with
    | some x => if x = m then (l, false, 0) else ([], false, 13)
    | none => if 4096 ≤ l.length then ([], false, 5) else (insM l m, true, 0)
  else ([], false, checkM m)
theorem recv_bad {l : List MsgV} {m : MsgV} (h : checkM m ≠ 0) : recvM l m = ([], false, checkM m) := by unfold recvM; rw [if_neg h]
theorem recv_found {l : List MsgV} {m x : MsgV} {k : Nat} (h : checkM m = 0) (e : l[k]? = some x) (h1 : ∀ (j : Nat) y, j < k → l[j]? = some y → same m y = false) (h2 : same m x = true) : recvM l m = if x = m then (l, false, 0) else ([], false, 13) := by
  unfold recvM
  rw [if_pos h, firstB_at e h1 h2, e]
theorem recv_none {l : List MsgV} {m : MsgV} (h : checkM m = 0) (h1 : ∀ (j : Nat) y, l[j]? = some y → same m y = false) : recvM l m = if 4096 ≤ l.length then ([], false, 5) else (insM l m, true, 0) := by
  unfold recvM
  rw [if_pos h, firstB_end h1, List.getElem?_eq_none (Nat.le_refl _)]
theorem recv_len (l : List MsgV) (m : MsgV) : (recvM l m).1.length ≤ l.length + 1 := by
  unfold recvM
  split
  · split
    · split <;> simp
    · split
      · simp
      · unfold insM; simp; omega
  · simp
/-- The first of a place is the message. -/
def At1 (l : List MsgV) (m : MsgV) : Prop := ∃ k, l[k]? = some m ∧ ∀ (j : Nat) y, j < k → l[j]? = some y → same m y = false
theorem same_refl (m : MsgV) : same m m = true := same_iff.2 ⟨rfl, rfl⟩
theorem recv_at {l : List MsgV} {m : MsgV} (h : checkM m = 0) (ha : At1 l m) : recvM l m = (l, false, 0) := by
  obtain ⟨k, e, h1⟩ := ha
  rw [recv_found h e h1 (same_refl m), if_pos rfl]
theorem same_plc {m x : MsgV} (h : Plc x m) (y : MsgV) : same x y = same m y := by
  have : (same x y = true) ↔ (same m y = true) := by
    rw [same_iff, same_iff]
    exact ⟨fun k => ⟨k.1.trans h.1, k.2.trans h.2⟩, fun k => ⟨k.1.trans h.1.symm, k.2.trans h.2.symm⟩⟩
  cases h1 : same x y <;> cases h2 : same m y <;> simp_all
theorem recv_conf {l : List MsgV} {m x : MsgV} (h : checkM x = 0) (hp : Plc x m) (hx : x ≠ m) (ha : At1 l m) : recvM l x = ([], false, 13) := by
  obtain ⟨k, e, h1⟩ := ha
  rw [recv_found h e (fun j y hj hy => by rw [same_plc hp]; exact h1 j y hj hy) (by rw [same_plc hp]; exact same_refl m), if_neg fun q => hx q.symm]
theorem insM_at {l : List MsgV} {m x : MsgV} (ha : At1 l m) (hx : ¬ Plc x m) : At1 (insM l x) m := by
  obtain ⟨k, e, h1⟩ := ha
  unfold insM
  have hq := firstB_le (later x) l
  generalize firstB (later x) l = q at hq
  have hlk := (List.getElem?_eq_some_iff.1 e).1
  have htl : (l.take q).length = q := by rw [List.length_take]; omega
  rcases Nat.lt_or_ge k q with hkq | hkq
  · refine ⟨k, ?_, fun j y hj hy => ?_⟩
    · rw [List.getElem?_append_left (by omega), List.getElem?_take, if_pos hkq, e]
    · rw [List.getElem?_append_left (by omega), List.getElem?_take, if_pos (by omega)] at hy
      exact h1 j y hj hy
  · refine ⟨k + 1, ?_, fun j y hj hy => ?_⟩
    · rw [List.getElem?_append_right (by omega), htl, show k + 1 - q = (k - q) + 1 by omega, List.getElem?_cons_succ, List.getElem?_drop, show q + (k - q) = k by omega, e]
    · rcases Nat.lt_or_ge j q with hjq | hjq
      · rw [List.getElem?_append_left (by omega), List.getElem?_take, if_pos (by omega)] at hy
        exact h1 j y (by omega) hy
      · rw [List.getElem?_append_right (by omega), htl] at hy
        rcases Nat.eq_or_lt_of_le hjq with hz | hz
        · subst hz
          rw [Nat.sub_self] at hy
          cases hy
          exact same_no.2 hx
        · rw [show j - q = (j - 1 - q) + 1 by omega, List.getElem?_cons_succ, List.getElem?_drop, show q + (j - 1 - q) = j - 1 by omega] at hy
          exact h1 (j - 1) y (by omega) hy
theorem insM_new {l : List MsgV} {m : MsgV} (h1 : ∀ (j : Nat) y, l[j]? = some y → same m y = false) : At1 (insM l m) m := by
  unfold insM
  have hq := firstB_le (later m) l
  generalize firstB (later m) l = q at hq
  have htl : (l.take q).length = q := by rw [List.length_take]; omega
  refine ⟨q, ?_, fun j y hj hy => ?_⟩
  · rw [List.getElem?_append_right (by omega), htl, Nat.sub_self]; rfl
  · rw [List.getElem?_append_left (by omega), List.getElem?_take, if_pos (by omega)] at hy
    exact h1 j y hy
theorem recv_ways (l : List MsgV) (m : MsgV) : (checkM m ≠ 0 ∧ recvM l m = ([], false, checkM m)) ∨ (checkM m = 0 ∧ At1 l m ∧ recvM l m = (l, false, 0)) ∨ (checkM m = 0 ∧ (∃ x, Plc x m ∧ x ∈ l ∧ x ≠ m) ∧ recvM l m = ([], false, 13)) ∨ (checkM m = 0 ∧ (∀ (j : Nat) y, l[j]? = some y → same m y = false) ∧ 4096 ≤ l.length ∧ recvM l m = ([], false, 5)) ∨
    (checkM m = 0 ∧ (∀ (j : Nat) y, l[j]? = some y → same m y = false) ∧ l.length < 4096 ∧ recvM l m = (insM l m, true, 0)) := by
  by_cases h : checkM m = 0
  · rcases first_ways (same m) l with ⟨k, x, e, hx, h1⟩ | h1
    · have := recv_found h e h1 hx
      by_cases hm : x = m
      · subst hm
        rw [if_pos rfl] at this
        exact .inr (.inl ⟨h, ⟨k, e, h1⟩, this⟩)
      · rw [if_neg hm] at this
        exact .inr (.inr (.inl ⟨h, ⟨x, same_iff.1 hx, List.mem_of_getElem? e, hm⟩, this⟩))
    · have := recv_none h h1
      by_cases hl : 4096 ≤ l.length
      · rw [if_pos hl] at this
        exact .inr (.inr (.inr (.inl ⟨h, h1, hl, this⟩)))
      · rw [if_neg hl] at this
        exact .inr (.inr (.inr (.inr ⟨h, h1, by omega, this⟩)))
  · exact .inl ⟨h, recv_bad h⟩
theorem recv_ok_at {l : List MsgV} {m : MsgV} (h : (recvM l m).2.2 = 0) : checkM m = 0 ∧ At1 (recvM l m).1 m := by
  rcases recv_ways l m with ⟨h1, h2⟩ | ⟨h1, h3, h2⟩ | ⟨h1, _, h2⟩ | ⟨h1, _, _, h2⟩ | ⟨h1, h3, _, h2⟩
  · rw [h2] at h; exact absurd h h1
  · rw [h2]; exact ⟨h1, h3⟩
  · rw [h2] at h; exact absurd h (by decide)
  · rw [h2] at h; exact absurd h (by decide)
  · rw [h2]; exact ⟨h1, insM_new h3⟩
theorem at_same {l : List MsgV} {m : MsgV} (ha : At1 l m) : ∃ (j : Nat) (y : MsgV), l[j]? = some y ∧ same m y = true := by
  obtain ⟨k, e, _⟩ := ha
  exact ⟨k, m, e, same_refl m⟩
theorem recv_keep {l : List MsgV} {m x : MsgV} (ha : At1 l m) (h : (recvM l x).2.2 = 0) : At1 (recvM l x).1 m := by
  rcases recv_ways l x with ⟨h1, h2⟩ | ⟨h1, h3, h2⟩ | ⟨h1, _, h2⟩ | ⟨h1, _, _, h2⟩ | ⟨h1, h3, _, h2⟩
  · rw [h2] at h; exact absurd h h1
  · rw [h2]; exact ha
  · rw [h2] at h; exact absurd h (by decide)
  · rw [h2] at h; exact absurd h (by decide)
  · rw [h2]
    refine insM_at ha fun hp => ?_
    obtain ⟨j, y, hy, hs⟩ := at_same ha
    have := h3 j y hy
    rw [same_plc hp, hs] at this
    cases this
def recv1 (l : List MsgV) (m : MsgV) : List MsgV := if (recvM l m).2.2 = 0 then (recvM l m).1 else l
def rcvd (l more : List MsgV) : List MsgV := more.foldl recv1 l
theorem rcvd_next {l more : List MsgV} {k : Nat} {m : MsgV} (e : more[k]? = some m) : rcvd l (more.take (k + 1)) = recv1 (rcvd l (more.take k)) m := by
  unfold rcvd
  rw [List.take_add_one, e, List.foldl_append]; rfl
theorem rcvd_at {m : MsgV} : ∀ (more l : List MsgV), At1 l m → At1 (rcvd l more) m
  | [], _, h => h
  | x :: more, l, h => by
    refine rcvd_at more (recv1 l x) ?_
    unfold recv1
    split
    · rename_i h2; exact recv_keep h h2
    · exact h
theorem recv1_len (l : List MsgV) (m : MsgV) : (recv1 l m).length ≤ l.length + 1 := by
  unfold recv1
  split
  · exact recv_len l m
  · omega
theorem rcvd_len : ∀ (more l : List MsgV), (rcvd l more).length ≤ l.length + more.length
  | [], _ => by simp [rcvd]
  | x :: more, l => by
    have h1 := rcvd_len more (recv1 l x)
    have h2 := recv1_len l x
    show (rcvd (recv1 l x) more).length ≤ _
    rw [List.length_cons]; omega
theorem insM_mem {l : List MsgV} {m x : MsgV} : x ∈ insM l m ↔ x = m ∨ x ∈ l := by
  unfold insM
  rw [List.mem_append, List.mem_cons]
  have : x ∈ l ↔ x ∈ l.take (firstB (later m) l) ∨ x ∈ l.drop (firstB (later m) l) := by
    rw [← List.mem_append, List.take_append_drop]
  rw [this]
  constructor
  · rintro (h | h | h)
    · exact .inr (.inl h)
    · exact .inl h
    · exact .inr (.inr h)
  · rintro (h | h | h)
    · exact .inr (.inl h)
    · exact .inl h
    · exact .inr (.inr h)
theorem recv_mem {l : List MsgV} {m x : MsgV} (h : x ∈ (recvM l m).1) : x = m ∨ x ∈ l := by
  rcases recv_ways l m with ⟨h1, h2⟩ | ⟨h1, h3, h2⟩ | ⟨h1, _, h2⟩ | ⟨h1, _, _, h2⟩ | ⟨h1, h3, _, h2⟩ <;> rw [h2] at h
  · exact absurd h (by simp)
  · exact .inr h
  · exact absurd h (by simp)
  · exact absurd h (by simp)
  · exact insM_mem.1 h
/-- In order of places. -/
def Srt (l : List MsgV) : Prop := l.Pairwise Lt
theorem ins_rec (m : MsgV) : ∀ l : List MsgV, Srt l → (∀ x ∈ l, ¬ Plc x m) → Srt (insM l m)
  | [], _, _ => List.pairwise_singleton _ _
  | a :: l, hs, hp => by
    unfold Srt at hs
    rw [List.pairwise_cons] at hs
    cases hl : later m a with
    | true =>
      have : insM (a :: l) m = m :: a :: l := by unfold insM firstB; rw [if_pos hl]; rfl
      rw [this]
      unfold Srt
      rw [List.pairwise_cons, List.pairwise_cons]
      have h1 := later_iff.1 hl
      refine ⟨fun x hx => ?_, hs⟩
      rcases List.mem_cons.1 hx with rfl | hx
      · exact h1
      · exact h1.trans (hs.1 x hx)
    | false =>
      have hf : firstB (later m) (a :: l) = firstB (later m) l + 1 := by rw [firstB, if_neg (by rw [hl]; simp)]
      have : insM (a :: l) m = a :: insM l m := by unfold insM; rw [hf]; rfl
      rw [this]
      unfold Srt
      rw [List.pairwise_cons]
      refine ⟨fun x hx => ?_, ins_rec m l hs.2 fun x hx => hp x (List.mem_cons_of_mem _ hx)⟩
      rcases insM_mem.1 hx with rfl | hx
      · rcases Lt.total a x with h | h | h
        · exact h
        · exact absurd h (hp a List.mem_cons_self)
        · exact absurd h (later_no.1 hl)
      · exact hs.1 x hx
theorem srt_ext : ∀ {a b : List MsgV}, Srt a → Srt b → (∀ m, m ∈ a ↔ m ∈ b) → a = b
  | [], [], _, _, _ => rfl
  | [], x :: b, _, _, h => by have := (h x).2 List.mem_cons_self; simp at this
  | x :: a, [], _, _, h => by have := (h x).1 List.mem_cons_self; simp at this
  | x :: a, y :: b, ha, hb, h => by
    unfold Srt at ha hb
    rw [List.pairwise_cons] at ha hb
    have hxy : x = y := by
      rcases List.mem_cons.1 ((h x).1 List.mem_cons_self) with e | e
      · exact e
      · rcases List.mem_cons.1 ((h y).2 List.mem_cons_self) with e2 | e2
        · exact e2.symm
        · exact absurd ((hb.1 x e).trans (ha.1 y e2)) fun q => q.irrefl
    subst hxy
    refine congrArg _ (srt_ext ha.2 hb.2 fun m => ⟨fun hm => ?_, fun hm => ?_⟩)
    · rcases List.mem_cons.1 ((h m).1 (List.mem_cons_of_mem _ hm)) with e | e
      · subst e; exact absurd (ha.1 m hm) fun q => q.irrefl
      · exact e
    · rcases List.mem_cons.1 ((h m).2 (List.mem_cons_of_mem _ hm)) with e | e
      · subst e; exact absurd (hb.1 m hm) fun q => q.irrefl
      · exact e
def Dist (l : List MsgV) : Prop := l.Pairwise fun a b => ¬ Plc a b
theorem Dist.turn {a b : List MsgV} (h : Dist (a ++ b)) : Dist (b ++ a) :=
  (List.pairwise_append_comm (fun {x y} hxy hp => hxy ⟨hp.1.symm, hp.2.symm⟩)).1 h
theorem rcvd_inv : ∀ (more p a : List MsgV), Dist (p ++ more) → p.length + more.length ≤ 4000 → a.length ≤ p.length → Srt a → (∀ x, x ∈ a ↔ x ∈ p ∧ checkM x = 0) → Srt (rcvd a more) ∧ ∀ x, x ∈ rcvd a more ↔ x ∈ p ++ more ∧ checkM x = 0
  | [], p, a, _, _, _, hs, hm => ⟨hs, fun x => by rw [List.append_nil]; exact hm x⟩
  | m :: more, p, a, hd, hn, hl, hs, hm => by
    rw [List.length_cons] at hn
    have hd2 : Dist ((p ++ [m]) ++ more) := by rw [List.append_assoc]; exact hd
    have hpm : ∀ x ∈ p, ¬ Plc x m := fun x hx => (List.pairwise_append.1 hd).2.2 x hx m List.mem_cons_self
    have hnone : ∀ (j : Nat) y, a[j]? = some y → same m y = false := fun j y hy => same_no.2 (hpm y ((hm y).1 (List.mem_of_getElem? hy)).1)
    have key : Srt (recv1 a m) ∧ (recv1 a m).length ≤ (p ++ [m]).length ∧ ∀ x, x ∈ recv1 a m ↔ x ∈ p ++ [m] ∧ checkM x = 0 := by
      have hl2 : (p ++ [m]).length = p.length + 1 := by simp
      by_cases hc : checkM m = 0
      · have hr := recv_none hc hnone
        rw [if_neg (by omega)] at hr
        have h1 : recv1 a m = insM a m := by unfold recv1; rw [hr, if_pos rfl]
        have h2 := recv1_len a m
        rw [h1] at h2 ⊢
        refine ⟨ins_rec m a hs fun x hx => hpm x ((hm x).1 hx).1, by omega, fun x => ?_⟩
        rw [insM_mem, hm x, List.mem_append, List.mem_singleton]
        constructor
        · rintro (rfl | h)
          · exact ⟨.inr rfl, hc⟩
          · exact ⟨.inl h.1, h.2⟩
        · rintro ⟨h | h, h3⟩
          · exact .inr ⟨h, h3⟩
          · exact .inl h
      · have h1 : recv1 a m = a := by unfold recv1; rw [recv_bad hc, if_neg hc]
        rw [h1]
        refine ⟨hs, by omega, fun x => ?_⟩
        rw [hm x, List.mem_append, List.mem_singleton]
        constructor
        · exact fun h => ⟨.inl h.1, h.2⟩
        · rintro ⟨h | h, h3⟩
          · exact ⟨h, h3⟩
          · subst h; exact absurd h3 hc
    have := rcvd_inv more (p ++ [m]) (recv1 a m) hd2 (by simp; omega) key.2.1 key.1 key.2.2
    rw [List.append_assoc] at this
    exact this
theorem rcvd_turn {a b : List MsgV} (hd : Dist (a ++ b)) (hn : a.length + b.length ≤ 4000) : Srt (rcvd [] (a ++ b)) ∧ rcvd [] (b ++ a) = rcvd [] (a ++ b) := by
  have h1 := rcvd_inv (a ++ b) [] [] hd (by simp; omega) (Nat.le_refl _) List.Pairwise.nil (by simp)
  have h2 := rcvd_inv (b ++ a) [] [] hd.turn (by simp; omega) (Nat.le_refl _) List.Pairwise.nil (by simp)
  refine ⟨h1.1, srt_ext h2.1 h1.1 fun m => ?_⟩
  rw [h2.2, h1.2]
  simp only [List.nil_append, List.mem_append]
  exact ⟨fun h => ⟨h.1.symm, h.2⟩, fun h => ⟨h.1.symm, h.2⟩⟩
end Go.Proofs.YtfpknhhhjgdjbaaDoor
