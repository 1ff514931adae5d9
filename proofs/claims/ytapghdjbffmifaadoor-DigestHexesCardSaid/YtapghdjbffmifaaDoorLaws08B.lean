/-
  The walks of the laws DigestHashes and DigestHexes: each returns true, and nothing that was there turns. Conditions: numbers are uint64; strings fit in memory; the listed variables hold what the program's text lays.
-/
import Derived.Test.YtapghdjbffmifaaDoorLive08
namespace Go.Proofs.YtapghdjbffmifaaDoor
open Go.RowKit
set_option maxRecDepth 100000

set_option maxHeartbeats 800000 in
theorem hashes_walk (p : Int) (s t : ByteArray) (hp : U64 p) (hs : s.size ≤ maxLen) (ht : t.size ≤ maxLen) (w : World) (hc : Ctx w) :
    Calls Tryd.prog 13 #[.int .u64 p, .string s, .string t] w fun e w' => e = .returned (.bool true) ∧ Below w.heap.size w w' := by
  have L := Lib.hid (fun W (h : Ctx W) => live08 W h)
  by_cases h1 : 2000 < s.size
  · go_enter Tryd.func13, Tryd.ntmps13
    go_wp2_with fail
    refine (L.out _ hc).mono ?_; rintro e w1 ⟨rfl, hb⟩
    have HB := Lib.hid hb; clear hb
    go_wp2_with fail
    go_ret
    exact ⟨rfl, HB.out⟩
  by_cases h2 : 2000 < t.size
  · go_enter Tryd.func13, Tryd.ntmps13
    go_wp2_with fail
    refine (L.out _ hc).mono ?_; rintro e w1 ⟨rfl, hb⟩
    have HB := Lib.hid hb; clear hb
    go_wp2_with fail
    go_ret
    exact ⟨rfl, HB.out⟩
  have hst : (s ++ t).size ≤ maxLen := by rw [bsize_app]; unfold maxLen; omega
  have c1 := fun W => Hash_any s W hs
  have c2 := fun W => RHash_any s W hs
  have c3 := fun W => Chain_any p s W hp hs
  have c4 := fun W => RChain_any p s W hp hs
  have c5 := fun W => Hash_any t W ht
  have c6 := fun W => RHash_any t W ht
  have c7 := fun W => Pair_any p (dhash t.data.toList) W hp (dhash_u64 _)
  have c8 := fun W => RPair_any p (dhash t.data.toList) W hp (dhash_u64 _)
  have c9 := fun W => Hash_any (s ++ t) W hst
  have c10 := fun W => Chain_any p (s ++ t) W hp hst
  have c11 := fun h W => Rextend_any h t W ht
  rw [b_app] at c9 c10
  have e1 : dhash (s.data.toList ++ t.data.toList) = dext (dhash s.data.toList) t.data.toList := dext_append _ _ _
  have e2 : dchain p (s.data.toList ++ t.data.toList) = dext (dchain p s.data.toList) t.data.toList := dext_append _ _ _
  rw [e1] at c9
  rw [e2] at c10
  clear e1 e2
  generalize dhash s.data.toList = a1 at *
  generalize dhash t.data.toList = a2 at *
  generalize dchain p s.data.toList = a3 at *
  generalize dpair p a2 = a4 at *
  have k1 := c11 a1; have k2 := c11 a3
  generalize dext a1 t.data.toList = a5 at *
  generalize dext a3 t.data.toList = a6 at *
  have C1 := Lib.hid c1; have C2 := Lib.hid c2; have C3 := Lib.hid c3; have C4 := Lib.hid c4; have C5 := Lib.hid c5; have C6 := Lib.hid c6; have C7 := Lib.hid c7; have C8 := Lib.hid c8; have C9 := Lib.hid c9; have C10 := Lib.hid c10; have K1 := Lib.hid k1; have K2 := Lib.hid k2
  clear c1 c2 c3 c4 c5 c6 c7 c8 c9 c10 c11 k1 k2 hst
  go_enter Tryd.func13, Tryd.ntmps13
  go_wp2_with fail
  refine (C1.out _).mono ?_; rintro e w' ⟨rfl, rfl⟩
  go_wp2_with fail
  refine (C2.out _).mono ?_; rintro e w' ⟨rfl, rfl⟩
  go_wp2_with fail
  refine (C3.out _).mono ?_; rintro e w' ⟨rfl, rfl⟩
  go_wp2_with fail
  refine (C4.out _).mono ?_; rintro e w1 ⟨rfl, hb1⟩
  have B1 := Lib.hid hb1; clear hb1
  go_wp2_with fail
  refine (C5.out _).mono ?_; rintro e w' ⟨rfl, rfl⟩
  go_wp2_with fail
  refine (C7.out _).mono ?_; rintro e w' ⟨rfl, rfl⟩
  go_wp2_with fail
  refine (C6.out _).mono ?_; rintro e w' ⟨rfl, rfl⟩
  go_wp2_with fail
  refine (C8.out _).mono ?_; rintro e w2 ⟨rfl, hb2⟩
  have B2 := Lib.hid hb2; clear hb2
  go_wp2_with fail
  refine (C9.out _).mono ?_; rintro e w' ⟨rfl, rfl⟩
  go_wp2_with fail
  refine (C1.out _).mono ?_; rintro e w' ⟨rfl, rfl⟩
  go_wp2_with fail
  refine (K1.out _).mono ?_; rintro e w' ⟨rfl, rfl⟩
  go_wp2_with fail
  refine (C10.out _).mono ?_; rintro e w' ⟨rfl, rfl⟩
  go_wp2_with fail
  refine (C3.out _).mono ?_; rintro e w' ⟨rfl, rfl⟩
  go_wp2_with fail
  refine (K2.out _).mono ?_; rintro e w' ⟨rfl, rfl⟩
  have hc2 := (hc.on B1.out).on B2.out
  go_wp2_with fail
  refine (L.out _ hc2).mono ?_; rintro e w3 ⟨rfl, hb3⟩
  have B3 := Lib.hid hb3; clear hb3
  go_wp2_with fail
  go_ret
  exact ⟨rfl, Below.then (Below.then B1.out B2.out) B3.out⟩

theorem hexes_walk (h : Int) (s : ByteArray) (hh : U64 h) (w : World) (hc : Ctx w) :
    Calls Tryd.prog 8 #[.int .u64 h, .string s] w fun e w' => e = .returned (.bool true) ∧ Below w.heap.size w w' := by
  have L := Lib.hid (fun W (h : Ctx W) => live08 W h)
  by_cases h1 : 100 < s.size
  · go_enter Tryd.func8, Tryd.ntmps8
    go_wp2_with fail
    refine (L.out _ hc).mono ?_; rintro e w1 ⟨rfl, hb⟩
    have HB := Lib.hid hb; clear hb
    go_wp2_with fail
    go_ret
    exact ⟨rfl, HB.out⟩
  have c1 := fun W hW => Unhex_any s (by omega) (fun n h => pvalE_u64 h) W hW
  have c2 := fun W => RUnhex_any s W
  have c3 := fun W hW => Hex_any h hh W hW
  have c4 := fun W hW => Unhex_any ⟨(hex16 h).toArray⟩ (by rw [bsize_mk, show (hex16 h).length = 16 from hexLow_length h 16]; omega) (fun n h => pvalE_u64 h) W hW
  have c5 := fun W => RHex_any h hh W
  rw [unhex_same] at c1
  rw [b_mk, unhex_same, unhex_hex h hh] at c4
  have hx : ∀ x, unhexT s.data.toList = (x, 0) → hex16 x = s.data.toList ∧ U64 x := fun x hx => by
    rw [← unhex_same] at hx
    unfold unhexP at hx
    split at hx
    · simp at hx
    · rename_i y hy
      split at hx
      · rename_i hz
        simp only [Prod.mk.injEq, and_true] at hx
        subst hx
        exact ⟨hz, pvalE_u64 hy⟩
      · simp at hx
  have hy : (unhexT s.data.toList).2 = 0 ∨ unhexT s.data.toList = (0, 2) := by unfold unhexT; split <;> simp
  generalize unhexT s.data.toList = r at c1 c2 hx hy
  generalize hex16 h = g at c3 c4 c5
  obtain ⟨x, y⟩ := r
  have C1 := Lib.hid c1; have C2 := Lib.hid c2; have C3 := Lib.hid c3; have C4 := Lib.hid c4; have C5 := Lib.hid c5
  clear c1 c2 c3 c4 c5
  rcases hy with hy | hy
  · obtain rfl : y = 0 := hy
    obtain ⟨e1, e2⟩ := hx x rfl
    have c6 := fun W hW => Hex_any x e2 W hW
    rw [e1, str_self] at c6
    have C6 := Lib.hid c6
    clear c6 e1 hx
    go_enter Tryd.func8, Tryd.ntmps8
    go_wp2_with fail
    refine (C1.out _ hc).mono ?_; rintro e w1 ⟨rfl, hb1⟩
    have hc1 := hc.on hb1
    have B1 := Lib.hid hb1; clear hb1
    go_wp2_with fail
    refine (C2.out _).mono ?_; rintro e w' ⟨rfl, rfl⟩
    go_wp2_with fail
    refine (C3.out _ hc1).mono ?_; rintro e w2 ⟨rfl, hb2⟩
    have hc2 := hc1.on hb2
    have B2 := Lib.hid hb2; clear hb2
    go_wp2_with fail
    refine (C4.out _ hc2).mono ?_; rintro e w3 ⟨rfl, hb3⟩
    have hc3 := hc2.on hb3
    have B3 := Lib.hid hb3; clear hb3
    go_wp2_with fail
    refine (C3.out _ hc3).mono ?_; rintro e w4 ⟨rfl, hb4⟩
    have hc4 := hc3.on hb4
    have B4 := Lib.hid hb4; clear hb4
    go_wp2_with fail
    refine (C5.out _).mono ?_; rintro e w' ⟨rfl, rfl⟩
    go_wp2_with fail
    refine (C6.out _ hc4).mono ?_; rintro e w5 ⟨rfl, hb5⟩
    have hc5 := hc4.on hb5
    have B5 := Lib.hid hb5; clear hb5
    go_wp2_with fail
    refine (L.out _ hc5).mono ?_; rintro e w6 ⟨rfl, hb6⟩
    have B6 := Lib.hid hb6; clear hb6
    go_wp2_with fail
    go_ret
    exact ⟨rfl, Below.then (Below.then (Below.then (Below.then (Below.then B1.out B2.out) B3.out) B4.out) B5.out) B6.out⟩
  · simp only [Prod.mk.injEq] at hy
    obtain ⟨rfl, rfl⟩ := hy
    clear hx
    go_enter Tryd.func8, Tryd.ntmps8
    go_wp2_with fail
    refine (C1.out _ hc).mono ?_; rintro e w1 ⟨rfl, hb1⟩
    have hc1 := hc.on hb1
    have B1 := Lib.hid hb1; clear hb1
    go_wp2_with fail
    refine (C2.out _).mono ?_; rintro e w' ⟨rfl, rfl⟩
    go_wp2_with fail
    refine (C3.out _ hc1).mono ?_; rintro e w2 ⟨rfl, hb2⟩
    have hc2 := hc1.on hb2
    have B2 := Lib.hid hb2; clear hb2
    go_wp2_with fail
    refine (C4.out _ hc2).mono ?_; rintro e w3 ⟨rfl, hb3⟩
    have hc3 := hc2.on hb3
    have B3 := Lib.hid hb3; clear hb3
    go_wp2_with fail
    refine (C3.out _ hc3).mono ?_; rintro e w4 ⟨rfl, hb4⟩
    have hc4 := hc3.on hb4
    have B4 := Lib.hid hb4; clear hb4
    go_wp2_with fail
    refine (C5.out _).mono ?_; rintro e w' ⟨rfl, rfl⟩
    go_wp2_with fail
    refine (L.out _ hc4).mono ?_; rintro e w6 ⟨rfl, hb6⟩
    have B6 := Lib.hid hb6; clear hb6
    go_wp2_with fail
    go_ret
    exact ⟨rfl, Below.then (Below.then (Below.then (Below.then B1.out B2.out) B3.out) B4.out) B6.out⟩
end Go.Proofs.YtapghdjbffmifaaDoor
