/-
  The walks of the laws DigestRests, DigestNumbers: each returns true, and nothing that was there turns. Conditions: strings fit in memory; the listed variables hold what the program's text lays.
-/
import Derived.Test.YtapghdjbffmifaaDoorLive08
namespace Go.Proofs.YtapghdjbffmifaaDoor
open Go.RowKit
set_option maxRecDepth 100000

theorem rests_walk (s : ByteArray) (hs : s.size ≤ maxLen) (w : World) (hc : Ctx w) :
    Calls Tryd.prog 9 #[.string s] w fun e w' => e = .returned (.bool true) ∧ Below w.heap.size w w' := by
  have L := Lib.hid (live08 w hc)
  have c1 := Mod97_any s w hs
  have c2 := RMod97_any s w hs
  generalize mod97 s.data.toList = r at c1 c2
  obtain ⟨x, y⟩ := r
  have C1 := Lib.hid c1; have C2 := Lib.hid c2
  clear c1 c2
  by_cases h : 200 < s.size
  · go_enter Tryd.func9, Tryd.ntmps9
    go_wp2_with fail
    refine (L.out).mono ?_; rintro e w1 ⟨rfl, hb⟩
    have HB := Lib.hid hb; clear hb
    go_wp2_with fail
    go_ret
    exact ⟨rfl, HB.out⟩
  · go_enter Tryd.func9, Tryd.ntmps9
    go_wp2_with fail
    refine (C1.out).mono ?_; rintro e w' ⟨rfl, rfl⟩
    go_wp2_with fail
    refine (C2.out).mono ?_; rintro e w' ⟨rfl, rfl⟩
    go_wp2_with fail
    refine (L.out).mono ?_; rintro e w1 ⟨rfl, hb⟩
    have HB := Lib.hid hb; clear hb
    go_wp2_with fail
    go_ret
    exact ⟨rfl, HB.out⟩

theorem numbers_walk (s : ByteArray) (hs : s.size ≤ maxLen) (w : World) (hc : Ctx w) :
    Calls Tryd.prog 10 #[.string s] w fun e w' => e = .returned (.bool true) ∧ Below w.heap.size w w' := by
  have L := Lib.hid (fun W (h : Ctx W) => live08 W h)
  have c1 := Seal_any s w
  have c2 := fun W => RSeal_any s W hs
  have c3 := fun W => Sealed_any s W hs
  have c4 := fun W => RSealed_any s W hs
  generalize sealT s.data.toList = r at c1 c2
  obtain ⟨x, y⟩ := r
  generalize isSealed s.data.toList = z at c3 c4
  have C1 := Lib.hid c1; have C2 := Lib.hid c2; have C3 := Lib.hid c3; have C4 := Lib.hid c4
  clear c1 c2 c3 c4
  by_cases h : 200 < s.size
  · go_enter Tryd.func10, Tryd.ntmps10
    go_wp2_with fail
    refine (L.out _ hc).mono ?_; rintro e w1 ⟨rfl, hb⟩
    have HB := Lib.hid hb; clear hb
    go_wp2_with fail
    go_ret
    exact ⟨rfl, HB.out⟩
  · go_enter Tryd.func10, Tryd.ntmps10
    go_wp2_with fail
    refine (C1.out).mono ?_; rintro e w' ⟨rfl, rfl⟩
    go_wp2_with fail
    refine (C2.out _).mono ?_; rintro e w1 ⟨rfl, hb⟩
    have hc1 := hc.on hb
    have HB := Lib.hid hb; clear hb
    go_wp2_with fail
    refine (C3.out _).mono ?_; rintro e w' ⟨rfl, rfl⟩
    go_wp2_with fail
    refine (C4.out _).mono ?_; rintro e w' ⟨rfl, rfl⟩
    go_wp2_with fail
    refine (L.out _ hc1).mono ?_; rintro e w2 ⟨rfl, hb⟩
    have HB2 := Lib.hid hb; clear hb
    go_wp2_with fail
    go_ret
    exact ⟨rfl, Below.then HB.out HB2.out⟩
end Go.Proofs.YtapghdjbffmifaaDoor
