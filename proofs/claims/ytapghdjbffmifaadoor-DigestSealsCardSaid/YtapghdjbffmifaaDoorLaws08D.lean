/-
  The walk of the law DigestSeals where the new byte is no digit or letter: it returns true, and nothing that was there turns. Conditions: strings fit in memory; bytes are bytes; the listed variables hold what the program's text lays.
-/
import Derived.Test.YtapghdjbffmifaaDoorLaws08S
import Derived.BigRegion
import Derived.Deep.RegionWith
namespace Go.Proofs.YtapghdjbffmifaaDoor
open Go.RowKit
set_option maxRecDepth 100000

set_option maxHeartbeats 1600000 in
theorem seals_A (s t : ByteArray) (k : Nat) (a : Int) (c : UInt8) (hS : Sealing s t k a) (ha : 0 ≤ a ∧ a ≤ 255) (h1 : ¬ 200 < s.size) (hb : okc c = false) (w : World) (hc : Ctx w) :
    Calls Tryd.prog 11 #[.string s, .int .u8 a, .int .u8 c.toNat] w fun e w' => e = .returned (.bool true) ∧ Below w.heap.size w w' := by
  have c3 := Plain_one c
  rw [hb] at c3
  have C3 := Lib.hid c3; clear c3 hb
  have L := Lib.hid (fun W (h : Ctx W) => live08 W h)
  have C1 := Lib.hid hS.put; have C2 := Lib.hid hS.ok
  have q8 := hS.head; have hk' := hS.place; have hkn := hS.lt; have z2 := hS.len; have z3 := hS.le; have z4 := hS.most
  have HS := Lib.hid hS
  clear hS
  obtain ⟨a0, a1⟩ := ha
  go_enter Tryd.func11, Tryd.ntmps11
  go_wp2_with fail
  refine (C1.out _).mono ?_; rintro e w' ⟨rfl, rfl⟩
  go_wp2_with fail
  refine (C2.out _).mono ?_; rintro e w' ⟨rfl, rfl⟩
  go_wp2_with fail
  rw [hk']
  have hcv1 := conv_one c w
  clear hk'
  go_region
  clear hcv1
  have hbw : Below w.heap.size w ((w.alloc (.cells #[.int .u8 (c.toNat : Int)] 5)).drew) := (Below.alloc1 _ _).drew
  obtain ⟨W1, hW1⟩ : ∃ W1, W1 = (w.alloc (.cells #[.int .u8 (c.toNat : Int)] 5)).drew := ⟨_, rfl⟩
  rw [← hW1] at hbw ⊢
  clear hW1
  have hcW := hc.on hbw
  have B1 := Lib.hid hbw; clear hbw
  obtain ⟨o, ho⟩ : ∃ o, o = t.extract 0 k ++ (⟨#[c]⟩ : ByteArray) ++ t.extract (k + 1) t.size := ⟨_, rfl⟩
  rw [← ho]
  have HO := Lib.hid ho; clear ho
  have hcv2 := conv_one c W1
  go_wp2
  refine wp_region_any (by kernel_rfl) ?_
  change wpAny _ _ _ _ _ _ _ (World.drew _)
  refine wpAny_ready (rs := [0]) (by kernel_rfl) (by simp) ?_
  refine AllReady.cons rfl (fun K hK => ?_) AllReady.nil
  go_simp
  refine hK _ _ ?_
  clear hK K
  refine wpAny_ready (rs := [1]) (by kernel_rfl) (by simp) ?_
  refine AllReady.cons rfl (fun K hK => ?_) AllReady.nil
  go_simp
  refine hK _ _ ?_
  clear hK K
  refine wpAny_ready (rs := [2]) (by kernel_rfl) (by simp) ?_
  refine AllReady.cons rfl (fun K hK => ?_) AllReady.nil
  go_simp
  refine hK _ _ ?_
  clear hK K
  refine wpAny_ready (rs := [3]) (by kernel_rfl) (by simp) ?_
  refine AllReady.cons rfl (fun K hK => ?_) AllReady.nil
  go_simp
  go_wp2_with (go_at_call 41; refine (C3.out _).mono ?_; rintro e w' ⟨rfl, rfl⟩)
  refine wpAny_ready (rs := [4]) (by kernel_rfl) (by simp) ?_
  refine AllReady.cons rfl (fun K hK => ?_) AllReady.nil
  go_simp
  refine hK _ _ ?_
  clear hK K
  refine wpAny_ready (rs := [5]) (by kernel_rfl) (by simp) ?_
  refine AllReady.cons rfl (fun K hK => ?_) AllReady.nil
  go_simp
  refine hK _ _ ?_
  clear hK K
  refine wpAny_take (i := 6) (v := undef) rfl (by kernel_rfl) (by kernel_rfl) (by kernel_rfl) (fun _ _ _ h => h) (Or.inr ⟨by rfl, rfl⟩) ?_
  go_simp
  refine wpAny_take (i := 7) (v := undef) rfl (by kernel_rfl) (by kernel_rfl) (by kernel_rfl) (fun _ _ _ h => h) (Or.inr ⟨by rfl, rfl⟩) ?_
  go_simp
  refine wpAny_take (i := 8) (v := undef) rfl (by kernel_rfl) (by kernel_rfl) (by kernel_rfl) (fun _ _ _ h => h) (Or.inr ⟨by rfl, rfl⟩) ?_
  go_simp
  refine wpAny_take (i := 9) (v := undef) rfl (by kernel_rfl) (by kernel_rfl) (by kernel_rfl) (fun _ _ _ h => h) (Or.inr ⟨by rfl, rfl⟩) ?_
  go_simp
  refine wpAny_take (i := 10) (v := undef) rfl (by kernel_rfl) (by kernel_rfl) (by kernel_rfl) (fun _ _ _ h => h) (Or.inr ⟨by rfl, rfl⟩) ?_
  go_simp
  refine wpAny_take (i := 11) (v := undef) rfl (by kernel_rfl) (by kernel_rfl) (by kernel_rfl) (fun _ _ _ h => h) (Or.inr ⟨by rfl, rfl⟩) ?_
  go_simp
  refine wpAny_take (i := 12) (v := undef) rfl (by kernel_rfl) (by kernel_rfl) (by kernel_rfl) (fun _ _ _ h => h) (Or.inr ⟨by rfl, rfl⟩) ?_
  go_simp
  refine wpAny_ready (rs := [13]) (by kernel_rfl) (by simp) ?_
  refine AllReady.cons rfl (fun K hK => ?_) AllReady.nil
  go_simp
  refine hK _ _ ?_
  clear hK K
  refine wpAny_done (by kernel_rfl) ?_ _
  have hbl := (Below.alloc1 W1 (.cells #[.int .u8 (c.toNat : Int)] 5)).drew
  have hc2 := hcW.on hbl
  have BL := Lib.hid hbl; clear hbl
  go_wp2_with fail
  refine (L.out _ hc2).mono ?_
  rintro e w2 ⟨rfl, hb2⟩
  have B2 := Lib.hid hb2; clear hb2
  go_wp2_with fail
  go_ret
  exact ⟨rfl, Below.then (Below.then B1.out BL.out) B2.out⟩
end Go.Proofs.YtapghdjbffmifaaDoor
