/-
  The law's own first check ('live') returns true. Conditions: the listed variables hold what the program's text lays.
-/
import Derived.Test.YtapghdjbffmifaaDoorHexC
import Derived.Test.YtapghdjbffmifaaDoorDigC
namespace Go.Proofs.YtapghdjbffmifaaDoor
open Go.RowKit
set_option maxRecDepth 100000

theorem small (l : List UInt8) (h : l.length ≤ 1000) : (⟨l.toArray⟩ : ByteArray).size ≤ maxLen := by rw [bsize_mk]; unfold maxLen; omega
/-- law08.live -/
theorem live08 (w : World) (hc : Ctx w) :
    Calls Tryd.prog 30 #[] w fun e w' => e = .returned (.bool true) ∧ Below w.heap.size w w' := by
  have c1 := fun W => Mod97_any ⟨#[90, 90]⟩ W (small [90, 90] (by decide))
  rw [show mod97 (ByteArray.data ⟨#[90, 90]⟩).toList = (43, 0) from by decide] at c1
  have c2 := fun W => Seal_any ⟨#[67, 66, 48, 48, 48, 48, 49, 48, 48, 48]⟩ W
  rw [show sealT (ByteArray.data ⟨#[67, 66, 48, 48, 48, 48, 49, 48, 48, 48]⟩).toList = ([67, 66, 48, 48, 48, 48, 49, 48, 48, 48, 51, 51], 0) from by decide +kernel] at c2
  have c3 := fun W => Mod97_any ⟨#[97]⟩ W (small [97] (by decide))
  rw [show mod97 (ByteArray.data ⟨#[97]⟩).toList = (0, 2) from by decide] at c3
  have c4 := fun W => Unhex_any ⟨#[97, 102, 54, 51, 100, 99, 52, 99, 56, 54, 48, 49, 101, 99, 56, 99]⟩ (by rw [show (⟨#[97, 102, 54, 51, 100, 99, 52, 99, 56, 54, 48, 49, 101, 99, 56, 99]⟩ : ByteArray).size = 16 from rfl]; omega) (fun n h => pvalE_u64 h) W
  rw [unhex_same, show unhexT (ByteArray.data ⟨#[97, 102, 54, 51, 100, 99, 52, 99, 56, 54, 48, 49, 101, 99, 56, 99]⟩).toList = (12638187200555641996, 0) from by decide +kernel] at c4
  have c5 := fun W => Hash_any ⟨#[]⟩ W (small [] (by decide))
  rw [show dhash (ByteArray.data ⟨#[]⟩).toList = 14695981039346656037 from rfl] at c5
  have c6 := fun W => Hash_any ⟨#[97]⟩ W (small [97] (by decide))
  rw [show dhash (ByteArray.data ⟨#[97]⟩).toList = 12638187200555641996 from by decide +kernel] at c6
  have c7 := fun W => Sealed_any ⟨#[67, 66, 48, 48, 48, 48, 49, 48, 48, 48, 51, 51]⟩ W (small [67, 66, 48, 48, 48, 48, 49, 48, 48, 48, 51, 51] (by decide))
  rw [show isSealed (ByteArray.data ⟨#[67, 66, 48, 48, 48, 48, 49, 48, 48, 48, 51, 51]⟩).toList = true from by decide +kernel] at c7
  have c8 := fun W => Sealed_any ⟨#[67, 66, 48, 48, 48, 48, 49, 48, 48, 48, 51, 52]⟩ W (small [67, 66, 48, 48, 48, 48, 49, 48, 48, 48, 51, 52] (by decide))
  rw [show isSealed (ByteArray.data ⟨#[67, 66, 48, 48, 48, 48, 49, 48, 48, 48, 51, 52]⟩).toList = false from by decide +kernel] at c8
  have C1 := Lib.hid c1; have C2 := Lib.hid c2; have C3 := Lib.hid c3; have C4 := Lib.hid c4; have C5 := Lib.hid c5; have C6 := Lib.hid c6; have C7 := Lib.hid c7; have C8 := Lib.hid c8
  clear c1 c2 c3 c4 c5 c6 c7 c8
  go_enter Tryd.func30, Tryd.ntmps30
  go_wp2_with fail
  refine (C1.out _).mono ?_; rintro e w' ⟨rfl, rfl⟩
  go_wp2_with fail
  refine (C2.out _).mono ?_; rintro e w' ⟨rfl, rfl⟩
  go_wp2_with fail
  refine (C3.out _).mono ?_; rintro e w' ⟨rfl, rfl⟩
  go_wp2_with fail
  refine (C4.out _ hc).mono ?_; rintro e w1 ⟨rfl, hb⟩
  have HB := Lib.hid hb; clear hb
  go_wp2_with fail
  refine (C5.out _).mono ?_; rintro e w' ⟨rfl, rfl⟩
  go_wp2_with fail
  refine (C6.out _).mono ?_; rintro e w' ⟨rfl, rfl⟩
  go_wp2_with fail
  refine (C7.out _).mono ?_; rintro e w' ⟨rfl, rfl⟩
  go_wp2_with fail
  refine (C8.out _).mono ?_; rintro e w' ⟨rfl, rfl⟩
  go_wp2_with fail
  go_ret
  exact ⟨rfl, HB.out⟩
end Go.Proofs.YtapghdjbffmifaaDoor
