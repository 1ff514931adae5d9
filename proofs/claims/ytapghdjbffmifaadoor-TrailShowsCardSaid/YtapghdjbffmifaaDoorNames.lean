/-
  Names and plain texts: the plain functions, and the walks of trail.named, trail.plain, date.Valid and of the reference's. Conditions: strings fit in memory.
-/
import Derived.Test.YtapghdjbffmifaaDoorRows
import Derived.Test.YtapghdjbffmifaaDoorLib
import Derived.Test.YtapghdjbffmifaaDoorLib3
namespace Go.Proofs.YtapghdjbffmifaaDoor
open Go.RowKit
set_option maxRecDepth 100000

def lowc (c : UInt8) : Bool := decide (97 ≤ c.toNat ∧ c.toNat ≤ 122)
def nmc (c : UInt8) : Bool := decide ((97 ≤ c.toNat ∧ c.toNat ≤ 122) ∨ (48 ≤ c.toNat ∧ c.toNat ≤ 57) ∨ c.toNat = 95)
def prc (c : UInt8) : Bool := decide (32 ≤ c.toNat ∧ c.toNat ≤ 126)
/-- The beginning of a name, or nothing. -/
def pfx : List UInt8 → Bool
  | [] => true
  | c :: l => lowc c && l.all nmc
def namedL (l : List UInt8) : Bool := pfx l && decide (1 ≤ l.length) && decide (l.length ≤ 16)
def plainL (l : List UInt8) : Bool := l.all prc && decide (l.length ≤ 64)
theorem pfx_snoc (l : List UInt8) (c : UInt8) (h : l ≠ []) : pfx (l ++ [c]) = (pfx l && nmc c) := by
  cases l with
  | nil => exact absurd rfl h
  | cons x l => simp [pfx, Bool.and_assoc]
theorem pfx_one (c : UInt8) : pfx [c] = lowc c := by simp [pfx]
theorem pfx_prefix : ∀ (a b : List UInt8), pfx (a ++ b) = true → pfx a = true
  | [], _, _ => rfl
  | c :: a, b, h => by
    simp only [List.cons_append, pfx, List.all_append, Bool.and_eq_true] at h ⊢
    exact ⟨h.1, h.2.1⟩
theorem nm_of {c : UInt8} (h : (97 ≤ (c.toNat : Int) ∧ (c.toNat : Int) ≤ 122) ∨ (48 ≤ (c.toNat : Int) ∧ (c.toNat : Int) ≤ 57) ∨ (c.toNat : Int) = 95) : nmc c = true := by unfold nmc; rw [decide_eq_true_eq]; omega
theorem nm_not {c : UInt8} (h : ¬ ((97 ≤ (c.toNat : Int) ∧ (c.toNat : Int) ≤ 122) ∨ (48 ≤ (c.toNat : Int) ∧ (c.toNat : Int) ≤ 57) ∨ (c.toNat : Int) = 95)) : nmc c = false := by unfold nmc; rw [decide_eq_false_iff_not]; omega
theorem lo_of {c : UInt8} (h : 97 ≤ (c.toNat : Int) ∧ (c.toNat : Int) ≤ 122) : lowc c = true := by unfold lowc; rw [decide_eq_true_eq]; omega
theorem lo_not {c : UInt8} (h : ¬ (97 ≤ (c.toNat : Int) ∧ (c.toNat : Int) ≤ 122)) : lowc c = false := by unfold lowc; rw [decide_eq_false_iff_not]; omega
theorem pr_of {c : UInt8} (h : 32 ≤ (c.toNat : Int) ∧ (c.toNat : Int) ≤ 126) : prc c = true := by unfold prc; rw [decide_eq_true_eq]; omega
theorem pr_not {c : UInt8} (h : ¬ (32 ≤ (c.toNat : Int) ∧ (c.toNat : Int) ≤ 126)) : prc c = false := by unfold prc; rw [decide_eq_false_iff_not]; omega
theorem split_at (s : ByteArray) (k : Nat) (h : k < s.size) : s.data.toList = s.data.toList.take k ++ [s[k]] ++ s.data.toList.drop (k + 1) := by
  rw [← take_snoc s k h, List.take_append_drop]
theorem all_bad {p : UInt8 → Bool} {s : ByteArray} {k : Nat} (h : k < s.size) (hc : p s[k] = false) : s.data.toList.all p = false := by
  rw [List.all_eq_false]; exact ⟨s[k], List.mem_of_getElem? (byte_get s k h), by simp [hc]⟩
theorem take_ne (s : ByteArray) (k : Nat) (h : 0 < k) (hk : k ≤ s.size) : s.data.toList.take k ≠ [] := by
  intro e
  have := congrArg List.length e
  rw [List.length_take, size_list, Nat.min_eq_left hk, List.length_nil] at this
  omega
/-- A bad byte at place k fells the name. -/
theorem pfx_bad {s : ByteArray} {k : Nat} (h : k < s.size) (hp : pfx (s.data.toList.take k ++ [s[k]]) = false) : pfx s.data.toList = false := by
  rcases hh : pfx s.data.toList with _ | _
  · rfl
  · rw [split_at s k h] at hh
    rw [pfx_prefix _ _ hh] at hp; cases hp
theorem pfx_at0 {s : ByteArray} (h : 0 < s.size) : pfx (s.data.toList.take 0 ++ [s[0]]) = lowc s[0] := by simp [pfx]
theorem pfx_at {s : ByteArray} {k : Nat} (h0 : 0 < k) (h : k < s.size) (hp : pfx (s.data.toList.take k) = true) : pfx (s.data.toList.take k ++ [s[k]]) = nmc s[k] := by
  rw [pfx_snoc _ _ (take_ne s k h0 (by omega)), hp]; rfl

/-- trail.named -/
theorem named_any (s : ByteArray) (w : World) (hs : s.size ≤ maxLen) :
    Calls Tryd.prog 73 #[.string s] w fun e w' => e = .returned (.bool (namedL s.data.toList)) ∧ w = w' := by
  unfold maxLen at hs
  go_enter Tryd.func73, Tryd.ntmps73
  go_wp2
  go_loop [8] (fun i => ∃ (k : Nat), k ≤ s.size ∧ i = .int .i64 k ∧ Hid (pfx (s.data.toList.take k) = true)) (fun i => s.size - (intOf i).toNat)
  case atStart => exact ⟨0, Nat.zero_le _, rfl, Lib.hid rfl⟩
  case round =>
    obtain ⟨k, hk, rfl, hH⟩ := hrel
    by_cases hlt : k < s.size
    · have HB : Hid (pfx (s.data.toList.take k ++ [s[k]]) = false → namedL s.data.toList = false) := Lib.hid fun h => by unfold namedL; rw [pfx_bad hlt h]; rfl
      have HT := Lib.hid (take_snoc s k hlt)
      by_cases h0 : k = 0
      · subst h0
        have HP := Lib.hid (pfx_at0 (s := s) hlt)
        have hz : ((0 : Int) == 0) = true := rfl
        rcases (show s[0].toNat < 97 ∨ (97 ≤ s[0].toNat ∧ s[0].toNat ≤ 122) ∨ 123 ≤ s[0].toNat by omega) with c1 | ⟨c1, c2⟩ | c1
        all_goals go_wp2
        all_goals first
          | (exfalso; rename_i hx; simp at hx; omega)
          | (go_ret; exact ⟨ret_bool2 (HB.out (by rw [HP.out]; exact lo_not (by omega))).symm, rfl⟩)
          | (go_round
             case rel => exact ⟨1, by omega, rfl, Lib.hid (by rw [HT.out, HP.out]; exact lo_of (by omega))⟩
             case measure => simp [intOf]; omega)
      · have HP := Lib.hid (pfx_at (s := s) (by omega) hlt hH.out)
        have hz : ((k : Int) == 0) = false := by rw [beq_eq_false_iff_ne]; omega
        rcases (show s[k].toNat < 48 ∨ (48 ≤ s[k].toNat ∧ s[k].toNat ≤ 57) ∨ (58 ≤ s[k].toNat ∧ s[k].toNat ≤ 94) ∨ s[k].toNat = 95 ∨ s[k].toNat = 96 ∨ (97 ≤ s[k].toNat ∧ s[k].toNat ≤ 122) ∨ 123 ≤ s[k].toNat by omega) with c1 | ⟨c1, c2⟩ | ⟨c1, c2⟩ | c1 | c1 | ⟨c1, c2⟩ | c1
        all_goals go_wp2
        all_goals first
          | (exfalso; rename_i hx; simp at hx; omega)
          | (go_ret; exact ⟨ret_bool2 (HB.out (by rw [HP.out]; exact nm_not (by omega))).symm, rfl⟩)
          | (go_round
             case rel => exact ⟨k + 1, by omega, by go_num, Lib.hid (by rw [HT.out, HP.out]; exact nm_of (by omega))⟩
             case measure => simp [intOf]; omega)
    · rw [take_all s k hlt] at hH
      have HN : Hid (namedL s.data.toList = (decide (1 ≤ s.size) && decide (s.size ≤ 16))) := Lib.hid (by unfold namedL; rw [hH.out, size_list]; rfl)
      go_wp2
      all_goals (go_ret; refine ⟨ret_bool2 ?_, rfl⟩; rw [HN.out]; apply bool_ext2; simp <;> omega)

/-- trail.plain -/
theorem plain_any (s : ByteArray) (w : World) (hs : s.size ≤ maxLen) :
    Calls Tryd.prog 74 #[.string s] w fun e w' => e = .returned (.bool (plainL s.data.toList)) ∧ w = w' := by
  unfold maxLen at hs
  go_enter Tryd.func74, Tryd.ntmps74
  go_wp2
  go_loop [6] (fun i => ∃ (k : Nat), k ≤ s.size ∧ i = .int .i64 k ∧ Hid ((s.data.toList.take k).all prc = true)) (fun i => s.size - (intOf i).toNat)
  case atStart => exact ⟨0, Nat.zero_le _, rfl, Lib.hid rfl⟩
  case round =>
    obtain ⟨k, hk, rfl, hH⟩ := hrel
    by_cases hlt : k < s.size
    · have HB : Hid (prc s[k] = false → plainL s.data.toList = false) := Lib.hid fun h => by unfold plainL; rw [all_bad hlt h]; rfl
      have HT := Lib.hid (take_snoc s k hlt)
      go_wp2
      all_goals first
        | (go_ret; exact ⟨ret_bool2 (HB.out (pr_not (by omega))).symm, rfl⟩)
        | (go_round
           case rel => exact ⟨k + 1, by omega, by go_num, Lib.hid (by rw [HT.out, List.all_append, hH.out]; simp [pr_of (c := s[k]) (by omega)])⟩
           case measure => simp [intOf]; omega)
    · rw [take_all s k hlt] at hH
      have HN : Hid (plainL s.data.toList = decide (s.size ≤ 64)) := Lib.hid (by unfold plainL; rw [hH.out, size_list]; rfl)
      go_wp2
      all_goals (go_ret; refine ⟨ret_bool2 ?_, rfl⟩; rw [HN.out]; apply bool_ext2; simp <;> omega)

/-- R48.plain -/
theorem Rplain_any (s : ByteArray) (w : World) (hs : s.size ≤ maxLen) :
    Calls Tryd.prog 79 #[.string s] w fun e w' => e = .returned (.bool (plainL s.data.toList)) ∧ w = w' := by
  unfold maxLen at hs
  by_cases h64 : 64 < s.size
  · have HN : Hid (plainL s.data.toList = false) := Lib.hid (by unfold plainL; rw [size_list, show decide (s.size ≤ 64) = false from by simp; omega, Bool.and_false])
    go_enter Tryd.func79, Tryd.ntmps79
    go_wp2
    go_ret
    exact ⟨ret_bool2 HN.out.symm, rfl⟩
  · have HN : Hid (plainL s.data.toList = s.data.toList.all prc) := Lib.hid (by unfold plainL; rw [size_list, show decide (s.size ≤ 64) = true from by simp; omega, Bool.and_true])
    go_enter Tryd.func79, Tryd.ntmps79
    go_wp2
    go_loop [3] (fun i => ∃ (k : Nat), k ≤ s.size ∧ i = .int .i64 k ∧ Hid ((s.data.toList.take k).all prc = true)) (fun i => s.size - (intOf i).toNat)
    case atStart => exact ⟨0, Nat.zero_le _, rfl, Lib.hid rfl⟩
    case round =>
      obtain ⟨k, hk, rfl, hH⟩ := hrel
      by_cases hlt : k < s.size
      · have HB : Hid (prc s[k] = false → plainL s.data.toList = false) := Lib.hid fun h => by rw [HN.out]; exact all_bad hlt h
        have HT := Lib.hid (take_snoc s k hlt)
        go_wp2
        all_goals first
          | (exfalso; rename_i hx; simp at hx; omega)
          | (go_ret; exact ⟨ret_bool2 (HB.out (pr_not (by omega))).symm, rfl⟩)
          | (go_round
             case rel => exact ⟨k + 1, by omega, by go_num, Lib.hid (by rw [HT.out, List.all_append, hH.out]; simp [pr_of (c := s[k]) (by omega)])⟩
             case measure => simp [intOf]; omega)
      · rw [take_all s k hlt] at hH
        go_wp2
        go_ret
        exact ⟨ret_bool2 (HN.out.trans hH.out).symm, rfl⟩

set_option maxHeartbeats 2000000 in
/-- R15.Name -/
theorem Name_any (s : ByteArray) (w : World) (hs : s.size ≤ maxLen) :
    Calls Tryd.prog 78 #[.string s] w fun e w' => e = .returned (.bool (namedL s.data.toList)) ∧ w = w' := by
  unfold maxLen at hs
  by_cases h0 : s.size = 0
  · have HE := empty_of_size0 h0
    subst HE
    go_enter Tryd.func78, Tryd.ntmps78
    go_wp2
    go_ret
    exact ⟨rfl, rfl⟩
  have hne : s.toList.isEmpty = false := by
    rw [ByteArray.toList_eq]
    rcases hh : s.data.toList with _ | ⟨c, l⟩
    · have := size_list s; rw [hh] at this; simp at this; omega
    · rfl
  by_cases h16 : 16 < s.size
  · have HN : Hid (namedL s.data.toList = false) := Lib.hid (by unfold namedL; rw [size_list, show decide (s.size ≤ 16) = false from by simp; omega, Bool.and_false])
    go_enter Tryd.func78, Tryd.ntmps78
    go_wp2
    go_ret
    exact ⟨ret_bool2 HN.out.symm, rfl⟩
  have HN : Hid (namedL s.data.toList = pfx s.data.toList) := Lib.hid (by unfold namedL; rw [size_list, show decide (s.size ≤ 16) = true from by simp; omega, show decide (1 ≤ s.size) = true from by simp; omega, Bool.and_true, Bool.and_true])
  have hp : 0 < s.size := by omega
  have HP := Lib.hid (pfx_at0 (s := s) hp)
  have HB0 : Hid (lowc s[0] = false → namedL s.data.toList = false) := Lib.hid fun h => by rw [HN.out]; exact pfx_bad hp (by rw [HP.out, h])
  by_cases hl : 97 ≤ s[0].toNat ∧ s[0].toNat ≤ 122
  · obtain ⟨l0, l1⟩ := hl
    have HT1 : Hid (pfx (s.data.toList.take 1) = true) := Lib.hid (by rw [take_snoc s 0 hp, HP.out]; exact lo_of (by omega))
    clear h0
    go_enter Tryd.func78, Tryd.ntmps78
    go_wp2
    go_loop [3] (fun i => ∃ (k : Nat), 1 ≤ k ∧ k ≤ s.size ∧ i = .int .i64 k ∧ Hid (pfx (s.data.toList.take k) = true)) (fun i => s.size - (intOf i).toNat)
    case atStart => exact ⟨1, Nat.le_refl _, hp, rfl, HT1⟩
    case round =>
      obtain ⟨k, k1, hk, rfl, hH⟩ := hrel
      by_cases hlt : k < s.size
      · have HB : Hid (nmc s[k] = false → namedL s.data.toList = false) := Lib.hid fun h => by rw [HN.out]; exact pfx_bad hlt (by rw [pfx_at k1 hlt hH.out, h])
        have HT := Lib.hid (take_snoc s k hlt)
        have HPk := Lib.hid (pfx_at k1 hlt hH.out)
        rcases (show s[k].toNat < 48 ∨ (48 ≤ s[k].toNat ∧ s[k].toNat ≤ 57) ∨ (58 ≤ s[k].toNat ∧ s[k].toNat ≤ 94) ∨ s[k].toNat = 95 ∨ s[k].toNat = 96 ∨ (97 ≤ s[k].toNat ∧ s[k].toNat ≤ 122) ∨ 123 ≤ s[k].toNat by omega) with c1 | ⟨c1, c2⟩ | ⟨c1, c2⟩ | c1 | c1 | ⟨c1, c2⟩ | c1
        all_goals go_wp2
        all_goals first
          | (exfalso; rename_i hx; simp at hx; omega)
          | (go_ret; exact ⟨ret_bool2 (HB.out (nm_not (by omega))).symm, rfl⟩)
          | (go_round
             case rel => exact ⟨k + 1, by omega, by omega, by go_num, Lib.hid (by rw [HT.out, HPk.out]; exact nm_of (by omega))⟩
             case measure => simp [intOf]; omega)
      · rw [take_all s k hlt] at hH
        go_wp2
        go_ret
        exact ⟨ret_bool2 (HN.out.trans hH.out).symm, rfl⟩
  · have HN2 := Lib.hid (HB0.out (lo_not (by omega)))
    rcases (show s[0].toNat < 97 ∨ (97 ≤ s[0].toNat ∧ 122 < s[0].toNat) by omega) with hq | ⟨hq, hq2⟩
    all_goals
      clear hl h0
      go_enter Tryd.func78, Tryd.ntmps78
      go_wp2
      go_ret
      exact ⟨ret_bool2 HN2.out.symm, rfl⟩

def validD (n : Int) : Bool := decide (0 ≤ n) && decide (n ≤ 73048)
/-- date.Valid -/
theorem Valid_any (n : Int) (w : World) : Calls Tryd.prog 72 #[.int .i64 n] w fun e w' => e = .returned (.bool (validD n)) ∧ w = w' := by
  by_cases h0 : 0 ≤ n
  all_goals
    first
      | (have HN : Hid (validD n = decide (n ≤ 73048)) := Lib.hid (by unfold validD; rw [decide_eq_true h0]; rfl))
      | (have HN : Hid (validD n = false) := Lib.hid (by unfold validD; rw [decide_eq_false h0]; rfl))
    go_enter Tryd.func72, Tryd.ntmps72
    go_wp2
    go_ret
    exact ⟨ret_bool2 HN.out.symm, rfl⟩
/-- R04.Valid -/
theorem RValid_any (n : Int) (w : World) : Calls Tryd.prog 77 #[.int .i64 n] w fun e w' => e = .returned (.bool (validD n)) ∧ w = w' := by
  by_cases h0 : 0 ≤ n
  all_goals
    first
      | (have HN : Hid (validD n = decide (n ≤ 73048)) := Lib.hid (by unfold validD; rw [decide_eq_true h0]; rfl))
      | (have HN : Hid (validD n = false) := Lib.hid (by unfold validD; rw [decide_eq_false h0]; rfl))
    go_enter Tryd.func77, Tryd.ntmps77
    go_wp2
    go_ret
    exact ⟨ret_bool2 HN.out.symm, rfl⟩
end Go.Proofs.YtapghdjbffmifaaDoor
