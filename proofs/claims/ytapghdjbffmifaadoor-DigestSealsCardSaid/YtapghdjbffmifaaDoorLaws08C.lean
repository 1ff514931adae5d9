/-
  The walks of the laws DigestTexts and DigestSeals: each returns true, and nothing that was there turns. Conditions: strings fit in memory; bytes are bytes; the listed variables hold what the program's text lays.
-/
import Derived.Test.YtapghdjbffmifaaDoorLive08
import Derived.Test.YtapghdjbffmifaaDoorSealP
namespace Go.Proofs.YtapghdjbffmifaaDoor
open Go.RowKit
set_option maxRecDepth 100000

theorem letter_is (c : UInt8) (w : World) : Calls Tryd.prog 42 #[.int .u8 c.toNat] w fun e w' => e = .returned (.bool (isLet c)) ∧ w = w' := letter_any c w

set_option maxHeartbeats 800000 in
theorem texts_walk (s t : ByteArray) (hs : s.size ≤ maxLen) (ht : t.size ≤ maxLen) (w : World) (hc : Ctx w) :
    Calls Tryd.prog 12 #[.string s, .string t] w fun e w' => e = .returned (.bool true) ∧ Below w.heap.size w w' := by
  have L := Lib.hid (fun W (h : Ctx W) => live08 W h)
  have c1 := fun W => Plain_any s W hs
  have c2 := fun W => Plain_any t W ht
  by_cases g : (¬ s.size < 1 ∧ ¬ t.size < 1 ∧ ¬ 24 < s.size ∧ ¬ 24 < t.size) ∧ okl s.data.toList = true ∧ okl t.data.toList = true
  · obtain ⟨⟨g1, g2, g3, g4⟩, g5, g6⟩ := g
    have c3 := fun W => Mod97_any s W hs
    have c4 := fun W => Mod97_any t W ht
    have c5 := fun W => Mod97_any (s ++ t) W (by rw [bsize_app]; unfold maxLen; omega)
    have m1 : mod97 s.data.toList = (m97 s.data.toList, 0) := by unfold mod97; rw [size_list, if_neg (by omega), if_pos g5]
    have m2 : mod97 t.data.toList = (m97 t.data.toList, 0) := by unfold mod97; rw [size_list, if_neg (by omega), if_pos g6]
    have m3 : mod97 (s ++ t).data.toList = (m97 (s.data.toList ++ t.data.toList), 0) := by
      unfold mod97; rw [b_app, List.length_append, size_list, size_list, if_neg (by omega), if_pos (by rw [okl_append, g5, g6]; rfl)]
    rw [m1] at c3
    rw [m2] at c4
    rw [m3] at c5
    rw [g5] at c1
    rw [g6] at c2
    have M := Lib.hid (texts_97 (s := s.data.toList) g6)
    have hb1 := m97_mod s.data.toList
    have hb2 := m97_mod t.data.toList
    generalize m97 (s.data.toList ++ t.data.toList) = z at c5 M
    generalize m97 t.data.toList = y at c4 M hb2
    obtain ⟨x, hx⟩ : ∃ x, x = m97 s.data.toList := ⟨_, rfl⟩
    rw [← hx] at c3 M hb1
    obtain ⟨x0, x1⟩ := hb1
    obtain ⟨y0, y1⟩ := hb2
    have C1 := Lib.hid c1; have C2 := Lib.hid c2; have C3 := Lib.hid c3; have C4 := Lib.hid c4; have C5 := Lib.hid c5
    clear c1 c2 c3 c4 c5 m1 m2 m3 g5 g6 hx
    go_enter Tryd.func12, Tryd.ntmps12
    go_wp2_with fail
    refine (C1.out _).mono ?_; rintro e w' ⟨rfl, rfl⟩
    go_wp2_with fail
    refine (C2.out _).mono ?_; rintro e w' ⟨rfl, rfl⟩
    go_wp2_with fail
    refine (C3.out _).mono ?_; rintro e w' ⟨rfl, rfl⟩
    go_wp2_with fail
    refine (C4.out _).mono ?_; rintro e w' ⟨rfl, rfl⟩
    go_wp2_with fail
    refine (C5.out _).mono ?_; rintro e w' ⟨rfl, rfl⟩
    go_wp2_with fail
    go_loop [5, 11] (fun a i => ∃ (k : Nat) (m : Int), i = .int .i64 k ∧ k ≤ t.size ∧ a = .int .i64 m ∧ 0 ≤ m ∧ m < 97 ∧ Hid (m = (t.data.toList.take k).foldl shift1 x)) (fun _ i => t.size - (intOf i).toNat)
    case atStart => exact ⟨0, x, rfl, by omega, rfl, x0, x1, Lib.hid rfl⟩
    case round =>
      obtain ⟨k, m, rfl, hk, rfl, hm0, hm1, hm⟩ := hrel
      by_cases hlt : k < t.size
      · have HT := Lib.hid (take_snoc t k hlt)
        have c6 := letter_is t[k]
        have hs1 : Hid (isLet t[k] = true → shift1 m t[k] = 10 * (10 * m % 97) % 97) := Lib.hid fun h => by unfold shift1; rw [if_pos h]
        have hs2 : Hid (isLet t[k] = false → shift1 m t[k] = 10 * m % 97) := Lib.hid fun h => by unfold shift1; rw [h]; rfl
        have HF : Hid ((t.data.toList.take (k + 1)).foldl shift1 x = shift1 m t[k]) := Lib.hid (by rw [HT.out, List.foldl_append, ← hm.out]; rfl)
        rcases hb : isLet t[k] with _ | _
        · rw [hb] at c6
          have C6 := Lib.hid c6
          have HF2 := Lib.hid (HF.out.trans (hs2.out hb))
          clear c6 hs1 hs2 HF hb
          go_wp2_with fail
          refine (C6.out _).mono ?_; rintro e w' ⟨rfl, rfl⟩
          go_wp2_with fail
          go_round
          case rel => exact ⟨k + 1, _, by go_num, by omega, rfl, by omega, by omega, Lib.hid HF2.out.symm⟩
          case measure => simp [intOf]; omega
        · rw [hb] at c6
          have C6 := Lib.hid c6
          have HF2 := Lib.hid (HF.out.trans (hs1.out hb))
          clear c6 hs1 hs2 HF hb
          go_wp2_with fail
          refine (C6.out _).mono ?_; rintro e w' ⟨rfl, rfl⟩
          go_wp2_with fail
          go_round
          case rel => exact ⟨k + 1, _, by go_num, by omega, rfl, by omega, by omega, Lib.hid HF2.out.symm⟩
          case measure => simp [intOf]; omega
      · rw [take_all t k hlt] at hm
        have hz : z = (m + y) % 97 := by rw [M.out, hm.out]
        subst hz
        clear M hm
        go_wp2_with fail
        refine (L.out _ hc).mono ?_; rintro e w1 ⟨rfl, hb⟩
        have HB := Lib.hid hb; clear hb
        go_wp2_with fail
        go_ret
        exact ⟨rfl, HB.out⟩
  · rcases (show s.size < 1 ∨ (¬ s.size < 1 ∧ t.size < 1) ∨ (¬ s.size < 1 ∧ ¬ t.size < 1 ∧ 24 < s.size) ∨ (¬ s.size < 1 ∧ ¬ t.size < 1 ∧ ¬ 24 < s.size ∧ 24 < t.size) ∨ ((¬ s.size < 1 ∧ ¬ t.size < 1 ∧ ¬ 24 < s.size ∧ ¬ 24 < t.size) ∧ ¬ (okl s.data.toList = true ∧ okl t.data.toList = true)) by
      by_cases h1 : s.size < 1
      · exact .inl h1
      by_cases h2 : t.size < 1
      · exact .inr (.inl ⟨h1, h2⟩)
      by_cases h3 : 24 < s.size
      · exact .inr (.inr (.inl ⟨h1, h2, h3⟩))
      by_cases h4 : 24 < t.size
      · exact .inr (.inr (.inr (.inl ⟨h1, h2, h3, h4⟩)))
      exact .inr (.inr (.inr (.inr ⟨⟨h1, h2, h3, h4⟩, fun h => g ⟨⟨h1, h2, h3, h4⟩, h⟩⟩)))) with g1 | ⟨g1, g2⟩ | ⟨g1, g2, g3⟩ | ⟨g1, g2, g3, g4⟩ | ⟨⟨g1, g2, g3, g4⟩, g5⟩
    · clear g c1 c2
      go_enter Tryd.func12, Tryd.ntmps12
      go_wp2_with fail
      refine (L.out _ hc).mono ?_; rintro e w1 ⟨rfl, hb⟩
      have HB := Lib.hid hb; clear hb
      go_wp2_with fail
      go_ret
      exact ⟨rfl, HB.out⟩
    · clear g c1 c2
      go_enter Tryd.func12, Tryd.ntmps12
      go_wp2_with fail
      refine (L.out _ hc).mono ?_; rintro e w1 ⟨rfl, hb⟩
      have HB := Lib.hid hb; clear hb
      go_wp2_with fail
      go_ret
      exact ⟨rfl, HB.out⟩
    · clear g c1 c2
      go_enter Tryd.func12, Tryd.ntmps12
      go_wp2_with fail
      refine (L.out _ hc).mono ?_; rintro e w1 ⟨rfl, hb⟩
      have HB := Lib.hid hb; clear hb
      go_wp2_with fail
      go_ret
      exact ⟨rfl, HB.out⟩
    · clear g c1 c2
      go_enter Tryd.func12, Tryd.ntmps12
      go_wp2_with fail
      refine (L.out _ hc).mono ?_; rintro e w1 ⟨rfl, hb⟩
      have HB := Lib.hid hb; clear hb
      go_wp2_with fail
      go_ret
      exact ⟨rfl, HB.out⟩
    · rcases hb1 : okl s.data.toList with _ | _
      · rw [hb1] at c1
        have C1 := Lib.hid c1
        clear g c1 c2 g5 hb1
        go_enter Tryd.func12, Tryd.ntmps12
        go_wp2_with fail
        refine (C1.out _).mono ?_; rintro e w' ⟨rfl, rfl⟩
        go_wp2_with fail
        refine (L.out _ hc).mono ?_; rintro e w1 ⟨rfl, hb⟩
        have HB := Lib.hid hb; clear hb
        go_wp2_with fail
        go_ret
        exact ⟨rfl, HB.out⟩
      · have hb2 : okl t.data.toList = false := by rcases h : okl t.data.toList with _ | _; rfl; exact absurd ⟨hb1, h⟩ g5
        rw [hb1] at c1
        rw [hb2] at c2
        have C1 := Lib.hid c1; have C2 := Lib.hid c2
        clear g c1 c2 g5 hb1 hb2
        go_enter Tryd.func12, Tryd.ntmps12
        go_wp2_with fail
        refine (C1.out _).mono ?_; rintro e w' ⟨rfl, rfl⟩
        go_wp2_with fail
        refine (C2.out _).mono ?_; rintro e w' ⟨rfl, rfl⟩
        go_wp2_with fail
        refine (L.out _ hc).mono ?_; rintro e w1 ⟨rfl, hb⟩
        have HB := Lib.hid hb; clear hb
        go_wp2_with fail
        go_ret
        exact ⟨rfl, HB.out⟩
end Go.Proofs.YtapghdjbffmifaaDoor
