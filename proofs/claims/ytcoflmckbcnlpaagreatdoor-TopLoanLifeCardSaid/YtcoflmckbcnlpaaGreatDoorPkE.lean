/-
  wire.Int and wire.Pack, walked; their contracts. Conditions: the packed text fits in memory.
-/
import Derived.Test.YtcoflmckbcnlpaaGreatDoorE0
import Derived.Test.YtcoflmckbcnlpaaGreatDoorGLib
import Derived.Test.YtcoflmckbcnlpaaGreatDoorShelf
import Derived.Lib.ItoaLen
namespace Go.Proofs.YtcoflmckbcnlpaaGreatDoor
open Go.RowKit
set_option maxRecDepth 100000
set_option linter.unusedSimpArgs false
theorem CtxP.tab {w : World} (h : CtxP w) {B : Nat} (hB : (6 + 1) ≤ B) : Lib.TabBelow Tryz.prog B w "internal/strconv.uint64pow10" .u64 Lib.pow10Tab := fun w' hb => (h w' (hb.mono hB)).pow
theorem below_grow' (w : World) (k : Nat) (os : Array Obj) : Below w.heap.size w (Go.Sort.grow (w.drewN k) os) := Lib.below_grow _ _ (Nat.le_refl _) _ _
theorem ItoaP_any (n : Int) (h0 : -9223372036854775808 ≤ n) (h1 : n ≤ 9223372036854775807) (w : World) (hc : CtxP w) :
    Calls Tryz.prog 228 #[.int .i64 n] w fun e w' => e = .returned (.string ⟨(Lib.itoa n).toArray⟩) ∧ Below w.heap.size w w' :=
  (Tryz.strconv_Itoa n h0 h1 w hc.here.pow).mono fun _ _ ⟨he, k, os, hw⟩ => ⟨he, by rw [hw]; exact below_grow' w k os⟩
theorem elt_u8 : Elt Tryz.prog 310 5 1 1 := Elt.mk' (z := .int .u8 0) Tryz.underlying310 (by kernel_rfl) rfl (by omega)
def pack1 (s : ByteArray) : List UInt8 := Lib.itoa s.size ++ 58 :: s.data.toList
def packB (ss : List ByteArray) : List UInt8 := ss.flatMap pack1
theorem packB_take (ss : List ByteArray) (k : Nat) (h : k < ss.length) : packB (ss.take (k + 1)) = packB (ss.take k) ++ pack1 ss[k] := by
  unfold packB
  rw [List.take_succ_eq_append_getElem h, List.flatMap_append]
  simp
theorem packB_le (ss : List ByteArray) (k : Nat) : (packB (ss.take k)).length ≤ (packB ss).length := by
  conv => rhs; rw [← List.take_append_drop k ss]
  unfold packB
  rw [List.flatMap_append, List.length_append]
  omega
theorem pack1_length (s : ByteArray) : (pack1 s).length = (Lib.itoa s.size).length + 1 + s.size := by unfold pack1; simp; omega
theorem Int_any (n : Int) (h0 : -9223372036854775808 ≤ n) (h1 : n ≤ 9223372036854775807) (w : World) (hc : CtxP w) :
    Calls Tryz.prog 205 #[.int .i64 n] w fun e w' => e = .returned (.string ⟨(Lib.itoa n).toArray⟩) ∧ Below w.heap.size w w' := by
  have HC := Lib.hid (ItoaP_any n h0 h1 w hc)
  go_enter Tryz.func205, Tryz.ntmps205
  go_wp2_with fail
  refine HC.out.mono ?_; rintro e w' ⟨rfl, hb⟩
  have HB := Lib.hid hb; clear hb
  go_wp2
  go_ret
  exact ⟨rfl, HB.out⟩
section
variable {ops : Array Oper} {rest : List Oper} {o : Oper} {a : Act} {Q : Exit → Act → World → Prop}
theorem wpList_appS {w : World} (hgd : o.guard = none) (sl x : Operand)
    (ho : o.op = .call { callee := .builtin .append, args := #[sl, x], argTypes := #[310, 9] }) (base : Nat)
    (v : Value) (n : Nat) (l : List UInt8) (hs : a.eval sl = v) (hown : w.ownsRow base 5 1 v n (Lib.byteCells l)) (s : ByteArray) (hx : a.eval x = .string s)
    (hlim : n + s.size ≤ 140737488355328) (hbase : base ≤ w.heap.size)
    (h : ∀ v' w', w'.ownsRow base 5 1 v' (n + s.size) (Lib.byteCells (l ++ s.data.toList)) → Below base w w' → wpList Tryz.prog ops Q rest (a.put o.dst v') w') : wpList Tryz.prog ops Q (o :: rest) a w := by
  obtain ⟨i, h1, h2, h3, h4⟩ := info_parts (show (Tryz.prog.info? 5).map (fun i => (i.zero, i.size, i.bytes)) = some (some (.int .u8 0), 1, 1) by kernel_rfl)
  refine Lib.wpList_append_own_string w hgd sl x 310 9 ho base 5 i Tryz.underlying310 Tryz.underlying9 h1 h2 h3 h4 v n _ hs hown s hx (by unfold maxLen; omega) hlim hbase fun v' w' h5 h6 _ => h v' w' ?_ ((Below.refl base w).grown h6 hbase fun k hk => (hown.lt k hk).1)
  have e : Lib.byteCells (l ++ s.data.toList) = Lib.byteCells l ++ Lib.strCells s := by rw [Lib.strCells_eq]; simp [Lib.byteCells]
  rw [e]; exact h5
end
theorem Pack_any (ss : List ByteArray) (A : Option Addr) (c B : Nat) (w : World) (hr : Reads w B 1 A ss.length (ss.map .string)) (hB : B ≤ w.heap.size) (hlim : (packB ss).length + 40 ≤ 140737488355328) (hn : ss.length ≤ maxLen) (hc : CtxP w) :
    Calls Tryz.prog 204 #[.slice A ss.length c] w fun e w' => e = .returned (.string ⟨(packB ss).toArray⟩) ∧ Below w.heap.size w w' := by
  unfold maxLen at hn
  have HR := Lib.hid hr
  have HL := Lib.hid hlim
  clear hr hlim
  go_enter Tryz.func204, Tryz.ntmps204
  go_wp2
  go_loopw [3, 8] (fun v i wr => ∃ k : Nat, k ≤ ss.length ∧ i = .int .i64 k ∧ Hid (wr.ownsRow w.heap.size 5 1 v (packB (ss.take k)).length (Lib.byteCells (packB (ss.take k)))) ∧ Hid (Below w.heap.size w wr)) (fun _ i _ => ss.length - (intOf i).toNat)
  case atStart => exact ⟨0, Nat.zero_le _, rfl, Lib.hid ⟨rfl, .inl ⟨rfl, rfl⟩⟩, Lib.hid (Below.refl _ _)⟩
  case round =>
    obtain ⟨k, hk, rfl, ho, hb⟩ := hrel
    by_cases hlt : k < ss.length
    · obtain ⟨b, o, rfl, hbB, hat⟩ := HR.out.2 (by omega)
      have hcell : wr.cell? ⟨b, o + k, none⟩ = some (.string ss[k]) := (hat.below hb.out (by omega)).cell (by simp [hlt])
      have hp1 := packB_take ss k hlt
      have hp2 := packB_le ss (k + 1)
      have hl := HL.out
      rw [hp1, List.length_append, pack1_length] at hp2
      have hss : ss[k].size ≤ 140737488355328 := by omega
      have hsz := hb.out.size
      have HC := Lib.hid (Tryz.strconv_AppendInt_10 w.heap.size _ (ss[k].size : Int) (by omega) (by omega) _ _ wr ho.out hsz (by omega) ((hc.below hb.out hc.here.size).tab hc.here.size))
      have HP := Lib.hid hp1
      have HP2 := Lib.hid hp2
      clear hp1 hp2 hl
      generalize hsk : ss[k] = s at *
      go_wp2_with fail
      refine HC.out.mono ?_
      rintro e w1 ⟨v1, rfl, o1, b1, _⟩
      have HO1 := Lib.hid o1; have HB1 := Lib.hid b1; have hs1 := b1.size
      clear o1 b1
      go_wp2_with (at_builtin; refine wpList_push elt_u8 rfl (.tmp 16) (.tmp 17) rfl w.heap.size _ _ _ rfl HO1.out [.int .u8 58] rfl rfl ?c1 ?c2 (by omega) (by omega) ?_)
      case c1 => intro u hu; simp at hu; subst hu; rfl
      case c2 => have := HP2.out; have := HL.out; omega
      intro v2 w2 o2 b2
      rw [show Lib.byteCells (packB (ss.take k)) ++ (Lib.byteCells (Lib.itoa s.size) ++ [.int .u8 58]) = Lib.byteCells (packB (ss.take k) ++ Lib.itoa s.size ++ [58]) by simp [Lib.byteCells]] at o2
      have HO2 := Lib.hid o2; have HB2 := Lib.hid b2; have hs2 := b2.size
      clear o2 b2
      go_wp2_with (at_builtin; refine wpList_appS rfl (.tmp 19) (.tmp 20) rfl w.heap.size _ _ _ rfl HO2.out s rfl ?c3 (by omega) ?_)
      case c3 => have := HP2.out; have := HL.out; omega
      intro v3 w3 o3 b3
      have HO3 := Lib.hid o3; have HB3 := Lib.hid b3
      clear o3 b3
      go_wp2
      go_roundw
      case rel =>
        refine ⟨k + 1, by omega, by go_num, Lib.hid ?_, Lib.hid (((hb.out.trans HB1.out).trans HB2.out).trans HB3.out)⟩
        have e : packB (ss.take k) ++ (Lib.itoa s.size ++ 58 :: s.data.toList) = packB (ss.take (k + 1)) := by rw [HP.out]; rfl
        have h3 := HO3.out
        rw [e, show (packB (ss.take k)).length + (Lib.itoa s.size).length + 1 + s.size = (packB (ss.take (k + 1))).length by rw [← e]; simp; omega] at h3
        exact h3
      case measure => simp [intOf]; omega
    · obtain rfl : k = ss.length := by omega
      have ho' := ho.out
      rw [List.take_length] at ho'
      have hcv := conv_own (src := 310) (dst := 9) ho' Tryz.underlying310 Tryz.underlying5 Tryz.underlying9
      clear ho'
      go_wp2
      go_ret
      exact ⟨rfl, hb.out⟩
theorem size_toList (s : ByteArray) : s.data.toList.length = s.size := by rw [Array.length_toList]; rfl
theorem TInt_con (n : Int) (h0 : -9223372036854775808 ≤ n) (h1 : n ≤ 9223372036854775807) : Con Tryz.prog CtxP 205 [.ex (.int .i64 n)] (.val (.ex (.string ⟨(Lib.itoa n).toArray⟩))) :=
  con_ex (vs := [.int .i64 n]) ⟨_, Tryz.func205, rfl, rfl⟩ rfl fun w hw => Int_any n h0 h1 w hw
theorem TPack_con (l : List ByteArray) (h : (packB l).length + 40 ≤ 140737488355328) (hn : l.length ≤ maxLen) : Con Tryz.prog CtxP 204 [.sl (texts l)] (.val (.ex (.string ⟨(packB l).toArray⟩))) :=
  con_texts ⟨_, Tryz.func204, rfl, rfl⟩ rfl fun A c w hw hr _ _ _ => Pack_any l A c _ w hr (Nat.le_refl _) h hn hw
end Go.Proofs.YtcoflmckbcnlpaaGreatDoor