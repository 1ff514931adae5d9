/-
  The packing of texts: the plain function, and the walks of wire.Int, wire.Pack and of the reference's natural, Int, Pack. Conditions: the texts fit in memory; the library's table of powers of ten reads as its text lays it.
  The packing of texts: the plain function, and the walks of wire.Int, wire.Pack and of the reference's Pack. Conditions: the packed text fits in memory; the library's table of powers of ten reads as its text lays it.
-/
import Derived.Test.YtfpknhhhjgdjbaaDoorRows
import Derived.Test.YtfpknhhhjgdjbaaDoorGLib
import Derived.Test.YtfpknhhhjgdjbaaDoorCtx
import Derived.Lib.Zigzag
import Derived.Lib.ItoaLen
namespace Go.Proofs.YtfpknhhhjgdjbaaDoor
open Go.RowKit
set_option maxRecDepth 100000

def slen : Value → Nat
  | .string t => t.size
  | _ => 0
def dgt (d : Nat) : UInt8 := UInt8.ofNat (48 + d)
theorem cut10 : ∀ d : Fin 10, (⟨#[48, 49, 50, 51, 52, 53, 54, 55, 56, 57]⟩ : ByteArray).extract d.val (d.val + 1) = ⟨#[dgt d.val]⟩ := by decide +kernel
theorem cut10' (d : Nat) (h : d < 10) : (⟨#[48, 49, 50, 51, 52, 53, 54, 55, 56, 57]⟩ : ByteArray).extract d (d + 1) = ⟨#[dgt d]⟩ := cut10 ⟨d, h⟩
/-- What a numeral is whose last digits stand already. -/
def dd (m : Nat) (t : List UInt8) : List UInt8 := if m = 0 ∧ t ≠ [] then t else Lib.decDigits m ++ t
theorem dd_step (m : Nat) (t : List UInt8) (h : t = [] ∨ m ≠ 0) : dd (m / 10) (UInt8.ofNat (48 + m % 10) :: t) = dd m t := by
  have e : dd m t = Lib.decDigits m ++ t := by
    unfold dd
    rw [if_neg]
    rintro ⟨a, b⟩
    rcases h with h | h
    · exact b h
    · exact h a
  rw [e, Lib.decDigits]
  by_cases h10 : m < 10
  · rw [dif_pos h10, show m / 10 = 0 by omega, Nat.mod_eq_of_lt h10]; unfold dd; rw [if_pos ⟨rfl, by simp⟩]; rfl
  · rw [dif_neg h10]; unfold dd; rw [if_neg (by rintro ⟨a, _⟩; omega)]; simp
theorem dd_end (t : List UInt8) (h : t ≠ []) : dd 0 t = t := by unfold dd; rw [if_pos ⟨rfl, h⟩]
theorem pow10_step {m j : Nat} (h : m < 10 ^ (j + 1)) : m / 10 < 10 ^ j := by
  rw [Nat.pow_succ] at h
  exact Nat.div_lt_of_lt_mul (by omega)
/-- One round of the numeral. -/
theorem natural_step {m : Int} {k d : Nat} {t : ByteArray} {L : List UInt8} (m0 : 0 ≤ m) (hd : m % 10 = d) (ht : t.size = k) (hk : k ≤ 20) (hp : m.toNat < 10 ^ (20 - k)) (hL : dd m.toNat t.data.toList = L) (h : k = 0 ∨ 0 < m) :
    k < 20 ∧ (m / 10).toNat < 10 ^ (20 - (k + 1)) ∧ dd (m / 10).toNat ((⟨#[dgt d]⟩ : ByteArray) ++ t).data.toList = L := by
  have hk20 : k < 20 := by
    rcases Nat.lt_or_ge k 20 with h1 | h1
    · exact h1
    · obtain rfl : k = 20 := by omega
      simp at hp
      omega
  have e1 : (m / 10).toNat = m.toNat / 10 := by omega
  have e2 : m.toNat % 10 = d := by omega
  refine ⟨hk20, ?_, ?_⟩
  · rw [e1]; exact pow10_step (by rw [show 20 - (k + 1) + 1 = 20 - k by omega]; exact hp)
  · rw [e1, b_app, ← hL, ← e2]
    exact dd_step m.toNat t.data.toList (by
      rcases h with h | h
      · left; exact List.eq_nil_of_length_eq_zero (by rw [size_list]; omega)
      · right; omega)

/-- R07.natural -/
theorem natural_any (u : Nat) (hu : u ≤ 18446744073709551615) (w : World) :
    Calls Tryd.prog 54 #[.int .u64 (u : Int)] w fun e w' => e = .returned (.string ⟨(Lib.decDigits u).toArray⟩) ∧ w = w' := by
  go_enter Tryd.func54, Tryd.ntmps54
  go_wp2
  go_loop [0, 3] (fun n s => ∃ (m : Int) (k : Nat) (t : ByteArray), n = .int .u64 m ∧ s = .string t ∧ 0 ≤ m ∧ m ≤ 18446744073709551615 ∧ t.size = k ∧ k ≤ 20 ∧ Hid (m.toNat < 10 ^ (20 - k) ∧ dd m.toNat t.data.toList = Lib.decDigits u)) (fun _ s => 20 - slen s)
  case atStart => exact ⟨u, 0, ⟨#[]⟩, rfl, rfl, by omega, by omega, rfl, by omega, Lib.hid ⟨by simp; omega, by simp [dd]⟩⟩
  case round =>
    obtain ⟨m, k, t, rfl, rfl, m0, m1, ht, hk, hh⟩ := hrel
    obtain ⟨d, hd⟩ : ∃ d : Nat, m % 10 = (d : Int) := ⟨(m % 10).toNat, by omega⟩
    have hd10 : d < 10 := by omega
    have c1 := cut10' d hd10
    have HS : Hid ((k = 0 ∨ 0 < m) → k < 20 ∧ (m / 10).toNat < 10 ^ (20 - (k + 1)) ∧ dd (m / 10).toNat ((⟨#[dgt d]⟩ : ByteArray) ++ t).data.toList = Lib.decDigits u) := Lib.hid (natural_step m0 hd ht hk hh.out.1 hh.out.2)
    have hsz : ((⟨#[dgt d]⟩ : ByteArray) ++ t).size = k + 1 := by rw [bsize_app, ht]; show 1 + k = _; omega
    have HZ := Lib.hid hsz
    clear hsz
    by_cases h0 : k = 0
    · subst h0
      have HE := empty_of_size0 ht
      subst HE
      go_wp2
      go_round
      case rel => exact ⟨m / 10, 1, _, rfl, rfl, by omega, by omega, HZ.out, by omega, Lib.hid (HS.out (.inl rfl)).2⟩
      case measure => exact Nat.lt_of_lt_of_eq (Nat.sub_lt_sub_left (by decide) (Nat.lt_of_lt_of_eq (by decide) HZ.out.symm)) rfl
    · have hne : t.toList.isEmpty = false := by
        rw [ByteArray.toList_eq]
        rcases hq : t.data.toList with _ | ⟨c, l⟩
        · have := size_list t; rw [hq] at this; simp at this; omega
        · rfl
      by_cases hm : 0 < m
      · have hk20 := (HS.out (.inr hm)).1
        go_wp2
        go_round
        case rel => exact ⟨m / 10, k + 1, _, rfl, rfl, by omega, by omega, HZ.out, by omega, Lib.hid (HS.out (.inr hm)).2⟩
        case measure => exact Nat.sub_lt_sub_left (show t.size < 20 by omega) (Nat.lt_of_lt_of_eq (show t.size < k + 1 by omega) HZ.out.symm)
      · have hm0 : m = 0 := by omega
        subst hm0
        have HR : Hid (t = ⟨(Lib.decDigits u).toArray⟩) := Lib.hid (by
          apply b_eq
          rw [b_mk, ← hh.out.2]
          exact (dd_end _ (fun e => h0 (by rw [← ht, ← size_list, e]; rfl))).symm)
        go_wp2
        go_ret
        exact ⟨by rw [← HR.out]; rfl, rfl⟩

/-- '^uint64(n) + 1' of a number below zero. -/
theorem neg_u64 (u : Nat) (h1 : 1 ≤ u) (h2 : u ≤ 9223372036854775808) : IntKind.u64.wrap (bits .xor .u64 IntKind.u64.max (IntKind.u64.wrap (-(u : Int))) + 1) = u := by
  have e1 : IntKind.u64.wrap (-(u : Int)) = ((18446744073709551616 - u : Nat) : Int) := by rw [IntKind.wrap_u64]; omega
  have e2 : IntKind.u64.max = ((2 ^ 64 - 1 : Nat) : Int) := by decide
  rw [e1, e2, bits_xor_u64_nat _ _ (by decide) (by omega), Lib.xor_ones64 _ (by omega), IntKind.wrap_u64]
  omega

/-- R07.Int -/
theorem RInt_any (n : Int) (h0 : -9223372036854775808 ≤ n) (h1 : n ≤ 9223372036854775807) (w : World) :
    Calls Tryd.prog 25 #[.int .i64 n] w fun e w' => e = .returned (.string ⟨(Lib.itoa n).toArray⟩) ∧ w = w' := by
  by_cases hn : 0 ≤ n
  · obtain ⟨u, rfl⟩ : ∃ u : Nat, n = (u : Int) := ⟨n.toNat, by omega⟩
    have HC := Lib.hid (natural_any u (by omega) w)
    have HE := Lib.hid (Lib.itoa_nonneg u)
    have hw : IntKind.u64.wrap (u : Int) = u := by rw [IntKind.wrap_u64]; omega
    go_enter Tryd.func25, Tryd.ntmps25
    go_wp2_with fail
    refine HC.out.mono ?_; rintro e w' ⟨rfl, rfl⟩
    go_wp2
    go_ret
    exact ⟨by rw [HE.out]; rfl, rfl⟩
  · obtain ⟨u, hu⟩ : ∃ u : Nat, n = -(u : Int) := ⟨(-n).toNat, by omega⟩
    subst hu
    have HC := Lib.hid (natural_any u (by omega) w)
    have HE := Lib.hid (Lib.itoa_neg u (by omega))
    have HN := Lib.hid (neg_u64 u (by omega) (by omega))
    have hD : (⟨(Lib.decDigits u).toArray⟩ : ByteArray).size ≤ 21 := by
      have := Lib.itoa_length_le (-(u : Int)) h0 h1
      rw [HE.out, List.length_cons] at this
      rw [bsize_mk]; omega
    have HV : Hid ((⟨#[45]⟩ : ByteArray) ++ ⟨(Lib.decDigits u).toArray⟩ = ⟨(Lib.itoa (-(u : Int))).toArray⟩) := Lib.hid (b_eq (by rw [b_app, b_mk, HE.out, b_mk]; rfl))
    clear HE
    generalize (⟨(Lib.decDigits u).toArray⟩ : ByteArray) = D at *
    go_enter Tryd.func25, Tryd.ntmps25
    go_wp2_with fail
    rw [HN.out]
    refine HC.out.mono ?_; rintro e w' ⟨rfl, rfl⟩
    go_wp2
    go_ret
    exact ⟨congrArg (fun b => Ending.returned (.string b)) HV.out, rfl⟩
end Go.Proofs.YtfpknhhhjgdjbaaDoor
namespace Go.Proofs.YtfpknhhhjgdjbaaDoor
open Go.RowKit
set_option maxRecDepth 100000

/-- One text with its length ahead. -/
theorem elt_u8 : Elt Tryd.prog 62 5 1 1 := Elt.mk' (z := .int .u8 0) Tryd.underlying62 (by kernel_rfl) rfl (by omega)
def pack1 (s : ByteArray) : List UInt8 := Lib.itoa s.size ++ 58 :: s.data.toList
def packB (ss : List ByteArray) : List UInt8 := ss.flatMap pack1
theorem packB_take (ss : List ByteArray) (k : Nat) (h : k < ss.length) : packB (ss.take (k + 1)) = packB (ss.take k) ++ pack1 ss[k] := by
  unfold packB
  rw [List.take_succ_eq_append_getElem h, List.flatMap_append]
  simp
theorem packB_le (ss : List ByteArray) (k : Nat) : (packB (ss.take k)).length ≤ (packB ss).length := by
  conv => rhs; rw [← List.take_append_drop k ss]
  unfold packB
  rw [List.flatMap_append, List.length_append]
  omega
theorem pack1_length (s : ByteArray) : (pack1 s).length = (Lib.itoa s.size).length + 1 + s.size := by unfold pack1; simp; omega

/-- wire.Int -/
theorem Int_any (n : Int) (h0 : -9223372036854775808 ≤ n) (h1 : n ≤ 9223372036854775807) (w : World) (hc : CtxP w) :
    Calls Tryd.prog 24 #[.int .i64 n] w fun e w' => e = .returned (.string ⟨(Lib.itoa n).toArray⟩) ∧ Below w.heap.size w w' := by
  have HC := Lib.hid (ItoaP_any n h0 h1 w hc)
  go_enter Tryd.func24, Tryd.ntmps24
  go_wp2_with fail
  refine HC.out.mono ?_; rintro e w' ⟨rfl, hb⟩
  have HB := Lib.hid hb; clear hb
  go_wp2
  go_ret
  exact ⟨rfl, HB.out⟩

section
variable {ops : Array Oper} {rest : List Oper} {o : Oper} {a : Act} {Q : Exit → Act → World → Prop}
/-- append(b, s...) of a string. -/
theorem wpList_appS {w : World} (hgd : o.guard = none) (sl x : Operand)
    (ho : o.op = .call { callee := .builtin .append, args := #[sl, x], argTypes := #[62, 9] }) (base : Nat)
    (v : Value) (n : Nat) (l : List UInt8) (hs : a.eval sl = v) (hown : w.ownsRow base 5 1 v n (Lib.byteCells l)) (s : ByteArray) (hx : a.eval x = .string s)
    (hlim : n + s.size ≤ 140737488355328) (hbase : base ≤ w.heap.size)
    (h : ∀ v' w', w'.ownsRow base 5 1 v' (n + s.size) (Lib.byteCells (l ++ s.data.toList)) → Below base w w' → wpList Tryd.prog ops Q rest (a.put o.dst v') w') : wpList Tryd.prog ops Q (o :: rest) a w := by
  obtain ⟨i, h1, h2, h3, h4⟩ := info_parts (show (Tryd.prog.info? 5).map (fun i => (i.zero, i.size, i.bytes)) = some (some (.int .u8 0), 1, 1) by kernel_rfl)
  refine Lib.wpList_append_own_string w hgd sl x 62 9 ho base 5 i Tryd.underlying62 Tryd.underlying9 h1 h2 h3 h4 v n _ hs hown s hx (by unfold maxLen; omega) hlim hbase fun v' w' h5 h6 _ => h v' w' ?_ ((Below.refl base w).grown h6 hbase fun k hk => (hown.lt k hk).1)
  have e : Lib.byteCells (l ++ s.data.toList) = Lib.byteCells l ++ Lib.strCells s := by rw [Lib.strCells_eq]; simp [Lib.byteCells]
  rw [e]; exact h5
end

/-- wire.Pack -/
theorem Pack_any (ss : List ByteArray) (A : Option Addr) (c B : Nat) (w : World) (hr : Reads w B 1 A ss.length (ss.map .string)) (hB : B ≤ w.heap.size) (hlim : (packB ss).length + 40 ≤ 140737488355328) (hn : ss.length ≤ maxLen) (hc : CtxP w) :
    Calls Tryd.prog 17 #[.slice A ss.length c] w fun e w' => e = .returned (.string ⟨(packB ss).toArray⟩) ∧ Below w.heap.size w w' := by
  unfold maxLen at hn
  have HR := Lib.hid hr
  have HL := Lib.hid hlim
  clear hr hlim
  go_enter Tryd.func17, Tryd.ntmps17
  go_wp2
  go_loopw [3, 8] (fun v i wr => ∃ k : Nat, k ≤ ss.length ∧ i = .int .i64 k ∧ Hid (wr.ownsRow w.heap.size 5 1 v (packB (ss.take k)).length (Lib.byteCells (packB (ss.take k)))) ∧ Hid (Below w.heap.size w wr)) (fun _ i _ => ss.length - (intOf i).toNat)
  case atStart => exact ⟨0, Nat.zero_le _, rfl, Lib.hid ⟨rfl, .inl ⟨rfl, rfl⟩⟩, Lib.hid (Below.refl _ _)⟩
  case round =>
    obtain ⟨k, hk, rfl, ho, hb⟩ := hrel
    by_cases hlt : k < ss.length
    · obtain ⟨b, o, rfl, hbB, hat⟩ := HR.out.2 (by omega)
      have hcell : wr.cell? ⟨b, o + k, none⟩ = some (.string ss[k]) := (hat.below hb.out (by omega)).cell (by simp [hlt])
      have hp1 := packB_take ss k hlt
      have hp2 := packB_le ss (k + 1)
      have hl := HL.out
      rw [hp1, List.length_append, pack1_length] at hp2
      have hss : ss[k].size ≤ 140737488355328 := by omega
      have hsz := hb.out.size
      have HC := Lib.hid (Tryd.strconv_AppendInt_10 w.heap.size _ (ss[k].size : Int) (by omega) (by omega) _ _ wr ho.out hsz (by omega) ((hc.below hb.out hc.here.size).tab hc.here.size))
      have HP := Lib.hid hp1
      have HP2 := Lib.hid hp2
      clear hp1 hp2 hl
      generalize hsk : ss[k] = s at *
      go_wp2_with fail
      refine HC.out.mono ?_
      rintro e w1 ⟨v1, rfl, o1, b1, _⟩
      have HO1 := Lib.hid o1; have HB1 := Lib.hid b1; have hs1 := b1.size
      clear o1 b1
      go_wp2_with (at_builtin; refine wpList_push elt_u8 rfl (.tmp 16) (.tmp 17) rfl w.heap.size _ _ _ rfl HO1.out [.int .u8 58] rfl rfl ?c1 ?c2 (by omega) (by omega) ?_)
      case c1 => intro u hu; simp at hu; subst hu; rfl
      case c2 => have := HP2.out; have := HL.out; omega
      intro v2 w2 o2 b2
      rw [show Lib.byteCells (packB (ss.take k)) ++ (Lib.byteCells (Lib.itoa s.size) ++ [.int .u8 58]) = Lib.byteCells (packB (ss.take k) ++ Lib.itoa s.size ++ [58]) by simp [Lib.byteCells]] at o2
      have HO2 := Lib.hid o2; have HB2 := Lib.hid b2; have hs2 := b2.size
      clear o2 b2
      go_wp2_with (at_builtin; refine wpList_appS rfl (.tmp 19) (.tmp 20) rfl w.heap.size _ _ _ rfl HO2.out s rfl ?c3 (by omega) ?_)
      case c3 => have := HP2.out; have := HL.out; omega
      intro v3 w3 o3 b3
      have HO3 := Lib.hid o3; have HB3 := Lib.hid b3
      clear o3 b3
      go_wp2
      go_roundw
      case rel =>
        refine ⟨k + 1, by omega, by go_num, Lib.hid ?_, Lib.hid (((hb.out.trans HB1.out).trans HB2.out).trans HB3.out)⟩
        have e : packB (ss.take k) ++ (Lib.itoa s.size ++ 58 :: s.data.toList) = packB (ss.take (k + 1)) := by rw [HP.out]; rfl
        have h3 := HO3.out
        rw [e, show (packB (ss.take k)).length + (Lib.itoa s.size).length + 1 + s.size = (packB (ss.take (k + 1))).length by rw [← e]; simp; omega] at h3
        exact h3
      case measure => simp [intOf]; omega
    · obtain rfl : k = ss.length := by omega
      have ho' := ho.out
      rw [List.take_length] at ho'
      have hcv := conv_own (src := 62) (dst := 9) ho' Tryd.underlying62 Tryd.underlying5 Tryd.underlying9
      clear ho'
      go_wp2
      go_ret
      exact ⟨rfl, hb.out⟩

/-- R07.Pack -/
theorem RPack_any (ss : List ByteArray) (A : Option Addr) (c B : Nat) (w : World) (hr : Reads w B 1 A ss.length (ss.map .string)) (hB : B ≤ w.heap.size) (hlim : (packB ss).length + 40 ≤ 140737488355328) (hn : ss.length ≤ maxLen) :
    Calls Tryd.prog 18 #[.slice A ss.length c] w fun e w' => e = .returned (.string ⟨(packB ss).toArray⟩) ∧ Below w.heap.size w w' := by
  unfold maxLen at hn
  have HR := Lib.hid hr
  have HL := Lib.hid hlim
  clear hr hlim
  go_enter Tryd.func18, Tryd.ntmps18
  go_wp2
  go_loopw [3, 4] (fun v i wr => ∃ (k : Nat) (t : ByteArray), k ≤ ss.length ∧ i = .int .i64 k ∧ v = .string t ∧ t.size ≤ 140737488355328 ∧ Hid (t = ⟨(packB (ss.take k)).toArray⟩) ∧ Hid (Below w.heap.size w wr)) (fun _ i _ => ss.length - (intOf i).toNat)
  case atStart => exact ⟨0, _, Nat.zero_le _, rfl, rfl, by decide, Lib.hid rfl, Lib.hid (Below.refl _ _)⟩
  case round =>
    obtain ⟨k, t, hk, rfl, rfl, ht, hh, hb⟩ := hrel
    by_cases hlt : k < ss.length
    · obtain ⟨b, o, rfl, hbB, hat⟩ := HR.out.2 (by omega)
      have hcell : wr.cell? ⟨b, o + k, none⟩ = some (.string ss[k]) := (hat.below hb.out (by omega)).cell (by simp [hlt])
      have hp1 := packB_take ss k hlt
      have hp2 := packB_le ss (k + 1)
      have hl := HL.out
      rw [hp1, List.length_append, pack1_length] at hp2
      have ht2 : t.size = (packB (ss.take k)).length := by rw [hh.out, bsize_mk]
      have hss : ss[k].size ≤ 140737488355328 := by omega
      have hit : (⟨(Lib.itoa ss[k].size).toArray⟩ : ByteArray).size ≤ 21 := by rw [bsize_mk]; exact Lib.itoa_length_le _ (by omega) (by omega)
      have HC := Lib.hid fun W => RInt_any (ss[k].size : Int) (by omega) (by omega) W
      have HE : Hid ((((t ++ ⟨(Lib.itoa ss[k].size).toArray⟩) ++ ⟨#[58]⟩) ++ ss[k] : ByteArray) = ⟨(packB (ss.take (k + 1))).toArray⟩) := Lib.hid (by
        apply b_eq
        rw [b_app, b_app, b_app, b_mk, b_mk, hp1, hh.out, b_mk]
        simp [pack1])
      have HZ : Hid ((packB (ss.take (k + 1))).length ≤ 140737488355328) := Lib.hid (by have := packB_le ss (k + 1); omega)
      clear hp1 hp2 hl ht2
      generalize hsk : ss[k] = s at *
      have k0 : (0 : Int) ≤ (k : Int) := by omega
      have k1 : (k : Int) < (ss.length : Int) := by omega
      generalize hit2 : (⟨(Lib.itoa s.size).toArray⟩ : ByteArray) = it at *
      go_wp2
      go_quiet (first | (go_at_call 25; refine Calls.quiet_of_same ((HC.out _).mono fun _ _ ⟨he, hw⟩ => ⟨he, hw.symm⟩)))
      go_wp2
      go_roundw
      case rel => exact ⟨k + 1, _, by omega, by go_num, rfl, by rw [HE.out, bsize_mk]; exact HZ.out, Lib.hid HE.out, Lib.hid (below_drewN hb.out _)⟩
      case measure => simp [intOf]; omega
    · obtain rfl : k = ss.length := by omega
      have HF : Hid (t = ⟨(packB ss).toArray⟩) := Lib.hid (by rw [hh.out, List.take_length])
      go_wp2
      go_ret
      exact ⟨by rw [HF.out]; rfl, hb.out⟩
end Go.Proofs.YtfpknhhhjgdjbaaDoor
