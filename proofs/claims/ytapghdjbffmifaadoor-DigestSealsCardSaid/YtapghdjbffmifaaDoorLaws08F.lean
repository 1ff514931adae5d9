/-
  The walk of the law DigestSeals, whole: it returns true, and nothing that was there turns. Conditions: strings fit in memory; bytes are bytes; the listed variables hold what the program's text lays.
-/
import Derived.Test.YtapghdjbffmifaaDoorLaws08E
namespace Go.Proofs.YtapghdjbffmifaaDoor
open Go.RowKit
set_option maxRecDepth 100000

theorem seals_no (s : ByteArray) (a : Int) (c : UInt8) (h1 : ¬ 200 < s.size) (hs : s.size ≤ maxLen) (g : ¬ ((¬ s.size < 1 ∧ ¬ 46 < s.size) ∧ okl s.data.toList = true)) (w : World) (hc : Ctx w) :
    Calls Tryd.prog 11 #[.string s, .int .u8 a, .int .u8 c.toNat] w fun e w' => e = .returned (.bool true) ∧ Below w.heap.size w w' := by
  have L := Lib.hid (fun W (h : Ctx W) => live08 W h)
  have c1 := fun W => Seal_any s W
  have c2 := fun W => Plain_any s W hs
  rcases (show s.size < 1 ∨ (¬ s.size < 1 ∧ 46 < s.size) ∨ ((¬ s.size < 1 ∧ ¬ 46 < s.size) ∧ okl s.data.toList = false) by
      by_cases h2 : s.size < 1
      · exact .inl h2
      by_cases h3 : 46 < s.size
      · exact .inr (.inl ⟨h2, h3⟩)
      refine .inr (.inr ⟨⟨h2, h3⟩, ?_⟩)
      rcases h : okl s.data.toList with _ | _
      · rfl
      · exact absurd ⟨⟨h2, h3⟩, h⟩ g) with h2 | ⟨h2, h3⟩ | ⟨⟨h2, h3⟩, h4⟩
  · have e1 : sealT s.data.toList = ([], 5) := by unfold sealT; rw [size_list, if_pos (.inl h2)]
    rw [e1] at c1
    have C1 := Lib.hid c1; clear c1 c2 g e1
    go_enter Tryd.func11, Tryd.ntmps11
    go_wp2_with fail
    refine (C1.out _).mono ?_; rintro e w' ⟨rfl, rfl⟩
    go_wp2_with fail
    refine (L.out _ hc).mono ?_; rintro e w1 ⟨rfl, hb⟩
    have HB := Lib.hid hb; clear hb
    go_wp2_with fail
    go_ret
    exact ⟨rfl, HB.out⟩
  · have e1 : sealT s.data.toList = ([], 5) := by unfold sealT; rw [size_list, if_pos (.inr h3)]
    rw [e1] at c1
    have C1 := Lib.hid c1; clear c1 c2 g e1
    go_enter Tryd.func11, Tryd.ntmps11
    go_wp2_with fail
    refine (C1.out _).mono ?_; rintro e w' ⟨rfl, rfl⟩
    go_wp2_with fail
    refine (L.out _ hc).mono ?_; rintro e w1 ⟨rfl, hb⟩
    have HB := Lib.hid hb; clear hb
    go_wp2_with fail
    go_ret
    exact ⟨rfl, HB.out⟩
  · have e1 : sealT s.data.toList = ([], 2) := by unfold sealT; rw [size_list, if_neg (by omega), if_neg (by rw [h4]; decide)]
    rw [e1] at c1
    rw [h4] at c2
    have C1 := Lib.hid c1; have C2 := Lib.hid c2; clear c1 c2 g e1 h4
    go_enter Tryd.func11, Tryd.ntmps11
    go_wp2_with fail
    refine (C1.out _).mono ?_; rintro e w' ⟨rfl, rfl⟩
    go_wp2_with fail
    refine (C2.out _).mono ?_; rintro e w' ⟨rfl, rfl⟩
    go_wp2_with fail
    refine (L.out _ hc).mono ?_; rintro e w1 ⟨rfl, hb⟩
    have HB := Lib.hid hb; clear hb
    go_wp2_with fail
    go_ret
    exact ⟨rfl, HB.out⟩

theorem seals_walk (s : ByteArray) (a : Int) (c : UInt8) (ha : 0 ≤ a ∧ a ≤ 255) (hs : s.size ≤ maxLen) (w : World) (hc : Ctx w) :
    Calls Tryd.prog 11 #[.string s, .int .u8 a, .int .u8 c.toNat] w fun e w' => e = .returned (.bool true) ∧ Below w.heap.size w w' := by
  by_cases h1 : 200 < s.size
  · have L := Lib.hid (fun W (h : Ctx W) => live08 W h)
    go_enter Tryd.func11, Tryd.ntmps11
    go_wp2_with fail
    refine (L.out _ hc).mono ?_; rintro e w1 ⟨rfl, hb⟩
    have HB := Lib.hid hb; clear hb
    go_wp2_with fail
    go_ret
    exact ⟨rfl, HB.out⟩
  by_cases g : (¬ s.size < 1 ∧ ¬ 46 < s.size) ∧ okl s.data.toList = true
  · obtain ⟨t, k, hS⟩ := sealing s a g.1.1 g.1.2 g.2
    rcases hb : okc c with _ | _
    · exact seals_A s t k a c hS ha h1 hb w hc
    · by_cases hl : isLet c = isLet (t[k]'hS.lt)
      · exact seals_B2 s t k a c hS hS.lt ha h1 hb hl w hc
      · exact seals_B1 s t k a c hS hS.lt ha h1 hb hl w hc
  · exact seals_no s a c h1 hs g w hc
end Go.Proofs.YtapghdjbffmifaaDoor
