/-
  The value of a text modulo 97: the plain function, and the walks of digest.remainder, Mod97, Sealed and of the reference's Plain, rest, Mod97, Sealed. Conditions: strings fit in memory.
-/
import Derived.Test.YtapghdjbffmifaaDoorRows
import Derived.Test.YtapghdjbffmifaaDoorLib
namespace Go.Proofs.YtapghdjbffmifaaDoor
open Go.RowKit
set_option maxRecDepth 100000

/-- A digit or a capital letter. -/
def okc (c : UInt8) : Bool := decide ((48 ≤ c.toNat ∧ c.toNat ≤ 57) ∨ (65 ≤ c.toNat ∧ c.toNat ≤ 90))
def okl (l : List UInt8) : Bool := l.all okc
def st97 (n : Int) (c : UInt8) : Int := if c.toNat ≤ 57 then (10 * n + (c.toNat - 48)) % 97 else (100 * n + (c.toNat - 65) + 10) % 97
def m97 (l : List UInt8) : Int := l.foldl st97 0
def rem97 (l : List UInt8) : Int := if okl l = true then m97 l else 0

theorem okl_snoc (l : List UInt8) (c : UInt8) : okl (l ++ [c]) = (okl l && okc c) := by simp [okl]
theorem okl_nil : okl [] = true := rfl
theorem m97_snoc (l : List UInt8) (c : UInt8) : m97 (l ++ [c]) = st97 (m97 l) c := by simp [m97]
theorem m97_nil : m97 [] = 0 := rfl
theorem okc_yes {c : UInt8} (h : (48 ≤ (c.toNat : Int) ∧ (c.toNat : Int) ≤ 57) ∨ (65 ≤ (c.toNat : Int) ∧ (c.toNat : Int) ≤ 90)) : okc c = true := by
  unfold okc; rw [decide_eq_true_eq]; omega
theorem okc_no {c : UInt8} (h : ¬ ((48 ≤ (c.toNat : Int) ∧ (c.toNat : Int) ≤ 57) ∨ (65 ≤ (c.toNat : Int) ∧ (c.toNat : Int) ≤ 90))) : okc c = false := by
  unfold okc; rw [decide_eq_false_iff_not]; omega
theorem okl_at {s : ByteArray} {k : Nat} (h : k < s.size) (hc : okc s[k] = false) : okl s.data.toList = false := by
  unfold okl
  rw [List.all_eq_false]
  refine ⟨s[k], ?_, by simp [hc]⟩
  exact List.mem_of_getElem? (byte_get s k h)
theorem st97_mod (n : Int) (c : UInt8) : 0 ≤ st97 n c ∧ st97 n c < 97 := by unfold st97; split <;> omega
theorem m97_mod (l : List UInt8) : 0 ≤ m97 l ∧ m97 l < 97 := by
  rcases List.eq_nil_or_concat l with rfl | ⟨a, c, rfl⟩
  · decide
  · rw [List.concat_eq_append, m97_snoc]; exact st97_mod _ _
theorem st97_dig {n : Int} {c : UInt8} (h : (c.toNat : Int) ≤ 57) : st97 n c = (10 * n + (c.toNat - 48)) % 97 := by unfold st97; rw [if_pos (by omega)]
theorem st97_let {n : Int} {c : UInt8} (h : 57 < (c.toNat : Int)) : st97 n c = (100 * n + (c.toNat - 65) + 10) % 97 := by unfold st97; rw [if_neg (by omega)]
theorem bool_ext {a b : Bool} (h : a = true ↔ b = true) : a = b := Bool.eq_iff_iff.2 h
theorem ret_bool {a b : Bool} (h : a = b) : Ending.returned (.bool a) = .returned (.bool b) := by rw [h]
theorem tup_ib {k : IntKind} {a b : Int} {x y : Bool} (h : a = b) (h' : x = y) : Ending.returned (.tuple #[.int k a, .bool x]) = .returned (.tuple #[.int k b, .bool y]) := by rw [h, h']

/-- digest.remainder -/
theorem remainder_any (s : ByteArray) (w : World) (hs : s.size ≤ maxLen) :
    Calls Tryd.prog 64 #[.string s] w fun e w' => e = .returned (.tuple #[.int .i64 (rem97 s.data.toList), .bool (okl s.data.toList)]) ∧ w = w' := by
  unfold maxLen at hs
  go_enter Tryd.func64, Tryd.ntmps64
  go_wp2
  go_loop [4, 9] (fun n i => ∃ (k : Nat) (m : Int), k ≤ s.size ∧ i = .int .i64 k ∧ 0 ≤ m ∧ m < 97 ∧ n = .int .i64 m ∧ Hid (m = m97 (s.data.toList.take k) ∧ okl (s.data.toList.take k) = true)) (fun _ i => s.size - (intOf i).toNat)
  case atStart => exact ⟨0, 0, Nat.zero_le _, rfl, by omega, by omega, rfl, Lib.hid ⟨rfl, rfl⟩⟩
  case round =>
    obtain ⟨k, m, hk, rfl, hm0, hm1, rfl, hH⟩ := hrel
    by_cases hlt : k < s.size
    · go_wp2
      all_goals first
        | (go_ret2
           have ho := okl_at hlt (okc_no (c := s[k]) (by omega))
           exact ⟨tup_ib (by simp [rem97, ho]) ho.symm, rfl⟩)
        | (go_round
           case rel =>
             refine ⟨k + 1, _, by omega, by go_num, ?_, ?_, rfl, Lib.hid ⟨?_, ?_⟩⟩
             · omega
             · omega
             · rw [take_snoc s k hlt, m97_snoc, ← hH.out.1]; first | (rw [st97_dig (by omega)]; done) | (rw [st97_let (by omega)]; done)
             · rw [take_snoc s k hlt, okl_snoc, hH.out.2, okc_yes (by omega)]; rfl
           case measure => simp [intOf]; omega)
    · go_wp2
      go_ret2
      rw [take_all s k hlt] at hH
      exact ⟨tup_ib (by simp [rem97, hH.out.2, hH.out.1]) hH.out.2.symm, rfl⟩

/-- R08.Plain -/
theorem Plain_any (s : ByteArray) (w : World) (hs : s.size ≤ maxLen) :
    Calls Tryd.prog 41 #[.string s] w fun e w' => e = .returned (.bool (okl s.data.toList)) ∧ w = w' := by
  unfold maxLen at hs
  go_enter Tryd.func41, Tryd.ntmps41
  go_wp2
  go_loop [3] (fun i => ∃ (k : Nat), k ≤ s.size ∧ i = .int .i64 k ∧ Hid (okl (s.data.toList.take k) = true)) (fun i => s.size - (intOf i).toNat)
  case atStart => exact ⟨0, Nat.zero_le _, rfl, Lib.hid rfl⟩
  case round =>
    obtain ⟨k, hk, rfl, hH⟩ := hrel
    by_cases hlt : k < s.size
    · go_wp2
      all_goals first
        | (go_ret
           have ho := okl_at hlt (okc_no (c := s[k]) (by omega))
           exact ⟨by rw [ho]; rfl, rfl⟩)
        | (go_round
           case rel =>
             refine ⟨k + 1, by omega, by go_num, Lib.hid ?_⟩
             rw [take_snoc s k hlt, okl_snoc, hH.out, okc_yes (by omega)]; rfl
           case measure => simp [intOf]; omega)
    · go_wp2
      go_ret
      rw [take_all s k hlt] at hH
      exact ⟨by rw [hH.out]; rfl, rfl⟩

/-- R08.rest -/
theorem rest_any (s : ByteArray) (w : World) (hs : s.size ≤ maxLen) (hok : Hid (okl s.data.toList = true)) :
    Calls Tryd.prog 65 #[.string s] w fun e w' => e = .returned (.int .i64 (m97 s.data.toList)) ∧ w = w' := by
  unfold maxLen at hs
  go_enter Tryd.func65, Tryd.ntmps65
  go_wp2
  go_loop [3, 4] (fun n i => ∃ (k : Nat) (m : Int), k ≤ s.size ∧ i = .int .i64 k ∧ 0 ≤ m ∧ m < 97 ∧ n = .int .i64 m ∧ Hid (m = m97 (s.data.toList.take k))) (fun _ i => s.size - (intOf i).toNat)
  case atStart => exact ⟨0, 0, Nat.zero_le _, rfl, by omega, by omega, rfl, Lib.hid rfl⟩
  case round =>
    obtain ⟨k, m, hk, rfl, hm0, hm1, rfl, hH⟩ := hrel
    by_cases hlt : k < s.size
    · have hc : (48 ≤ (s[k].toNat : Int) ∧ (s[k].toNat : Int) ≤ 57) ∨ (65 ≤ (s[k].toNat : Int) ∧ (s[k].toNat : Int) ≤ 90) := by
        have h1 := List.all_eq_true.1 hok.out s[k] (List.mem_of_getElem? (byte_get s k hlt))
        unfold okc at h1; rw [decide_eq_true_eq] at h1; omega
      rcases hc with ⟨c1, c2⟩ | ⟨c1, c2⟩
      · go_wp2
        go_round
        case rel =>
          refine ⟨k + 1, _, by omega, by go_num, ?_, ?_, rfl, Lib.hid ?_⟩
          · omega
          · omega
          · rw [take_snoc s k hlt, m97_snoc, ← hH.out, st97_dig (by omega)]
        case measure => simp [intOf]; omega
      · have c3 : ¬ (s[k].toNat : Int) ≤ 57 := by omega
        go_wp2
        go_round
        case rel =>
          refine ⟨k + 1, _, by omega, by go_num, ?_, ?_, rfl, Lib.hid ?_⟩
          · omega
          · omega
          · rw [take_snoc s k hlt, m97_snoc, ← hH.out, st97_let (by omega)]
        case measure => simp [intOf]; omega
    · go_wp2
      go_ret
      rw [take_all s k hlt] at hH
      exact ⟨ret_int hH.out, rfl⟩

/-- Mod97: the value, and the error's number. -/
def mod97 (l : List UInt8) : Int × Int := if l.length < 1 ∨ 48 < l.length then (0, 5) else if okl l = true then (m97 l, 0) else (0, 2)
theorem tup_ii {k k' : IntKind} {a b c d : Int} (h : a = b) (h' : c = d) : Ending.returned (.tuple #[.int k a, .int k' c]) = .returned (.tuple #[.int k b, .int k' d]) := by rw [h, h']

/-- digest.Mod97 -/
theorem Mod97_any (s : ByteArray) (w : World) (hs : s.size ≤ maxLen) :
    Calls Tryd.prog 35 #[.string s] w fun e w' => e = .returned (.tuple #[.int .i64 (mod97 s.data.toList).1, .int .i64 (mod97 s.data.toList).2]) ∧ w = w' := by
  have hsz := size_list s
  by_cases h1 : s.size < 1 ∨ 48 < s.size
  · have hm : mod97 s.data.toList = (0, 5) := by unfold mod97; rw [if_pos (by rw [hsz]; exact h1)]
    have HM := Lib.hid hm; clear hm hsz hs
    rcases h1 with h1 | h1
    · go_enter Tryd.func35, Tryd.ntmps35
      go_wp2_with fail
      go_ret2
      exact ⟨by rw [HM.out]; rfl, rfl⟩
    · have h2 : ¬ s.size < 1 := by omega
      go_enter Tryd.func35, Tryd.ntmps35
      go_wp2_with fail
      go_ret2
      exact ⟨by rw [HM.out]; rfl, rfl⟩
  · have h2 : ¬ s.size < 1 := by omega
    have h3 : ¬ 48 < s.size := by omega
    have hm : mod97 s.data.toList = if okl s.data.toList = true then (m97 s.data.toList, 0) else (0, 2) := by unfold mod97; rw [if_neg (by rw [hsz]; exact h1)]
    have HM := Lib.hid hm; clear hm hsz h1
    have HR : Hid (rem97 s.data.toList = if okl s.data.toList = true then m97 s.data.toList else 0) := Lib.hid rfl
    have hrem := remainder_any s w hs
    generalize rem97 s.data.toList = r at hrem HR
    rcases hb : okl s.data.toList with _ | _
    · rw [hb] at HM HR hrem
      have H := Lib.hid hrem; clear hrem hb
      go_enter Tryd.func35, Tryd.ntmps35
      go_wp2_with fail
      refine (H.out).mono ?_; rintro e w' ⟨rfl, rfl⟩
      go_wp2
      go_ret2
      exact ⟨by rw [HM.out]; rfl, rfl⟩
    · rw [hb] at HM HR hrem
      have H := Lib.hid hrem; clear hrem hb
      go_enter Tryd.func35, Tryd.ntmps35
      go_wp2_with fail
      refine (H.out).mono ?_; rintro e w' ⟨rfl, rfl⟩
      go_wp2
      go_ret2
      exact ⟨tup_ii (by rw [HM.out, HR.out]; rfl) (by rw [HM.out]; rfl), rfl⟩

/-- R08.Mod97 -/
theorem RMod97_any (s : ByteArray) (w : World) (hs : s.size ≤ maxLen) :
    Calls Tryd.prog 36 #[.string s] w fun e w' => e = .returned (.tuple #[.int .i64 (mod97 s.data.toList).1, .int .i64 (mod97 s.data.toList).2]) ∧ w = w' := by
  have hsz := size_list s
  by_cases h1 : s.size < 1 ∨ 48 < s.size
  · have hm : mod97 s.data.toList = (0, 5) := by unfold mod97; rw [if_pos (by rw [hsz]; exact h1)]
    have HM := Lib.hid hm; clear hm hsz hs
    rcases h1 with h1 | h1
    · go_enter Tryd.func36, Tryd.ntmps36
      go_wp2_with fail
      go_ret2
      exact ⟨by rw [HM.out]; rfl, rfl⟩
    · have h2 : ¬ s.size < 1 := by omega
      go_enter Tryd.func36, Tryd.ntmps36
      go_wp2_with fail
      go_ret2
      exact ⟨by rw [HM.out]; rfl, rfl⟩
  · have h2 : ¬ s.size < 1 := by omega
    have h3 : ¬ 48 < s.size := by omega
    have hm : mod97 s.data.toList = if okl s.data.toList = true then (m97 s.data.toList, 0) else (0, 2) := by unfold mod97; rw [if_neg (by rw [hsz]; exact h1)]
    have HM := Lib.hid hm; clear hm hsz h1
    have hp := Plain_any s w hs
    rcases hb : okl s.data.toList with _ | _
    · rw [hb] at HM hp
      have H := Lib.hid hp; clear hp hb
      go_enter Tryd.func36, Tryd.ntmps36
      go_wp2_with fail
      refine (H.out).mono ?_; rintro e w' ⟨rfl, rfl⟩
      go_wp2
      go_ret2
      exact ⟨by rw [HM.out]; rfl, rfl⟩
    · have hr := rest_any s w hs (Lib.hid hb)
      rw [hb] at HM hp
      have H := Lib.hid hp; clear hp hb
      have H2 := Lib.hid hr; clear hr
      go_enter Tryd.func36, Tryd.ntmps36
      go_wp2_with fail
      refine (H.out).mono ?_; rintro e w' ⟨rfl, rfl⟩
      go_wp2_with fail
      refine (H2.out).mono ?_; rintro e w' ⟨rfl, rfl⟩
      go_wp2
      go_ret2
      exact ⟨by rw [HM.out]; rfl, rfl⟩

end Go.Proofs.YtapghdjbffmifaaDoor
