/-
  Chapter 03, walked: amounts, read. Conditions: those that each theorem states.
-/
import Derived.Test.YtaphbajfjmhpnaaDoorC03G
namespace Go.Proofs.YtaphbajfjmhpnaaDoor
open Go.RowKit
set_option maxRecDepth 100000
set_option linter.unusedSimpArgs false

theorem Con.calls_tup {P : Program} {C : World → Prop} {f : Nat} {vs rs : List Value} (h : Con P C f (vs.map .ex) (.val (.tup (rs.map .ex)))) (hv : ∀ v ∈ vs, v.oneCell' = true) (w : World) (hw : C w) : Calls P f vs.toArray w fun e w' => e = .returned (.tuple rs.toArray) ∧ Below w.heap.size w w' := by
  refine (h.2 (fun _ => False) w vs (fun _ h => h.elim) hw (repL_exs hv)).mono ?_
  rintro e w' ⟨v, rfl, hr, hb⟩
  simp only [Rep] at hr
  obtain ⟨xs, rfl, h2⟩ := hr
  rw [rep0_ex h2]
  exact ⟨rfl, hb⟩
theorem split_con (s : ByteArray) (d : Nat) (hs : s.size ≤ 140737488355328) (hd4 : d ≤ 4) : Con Tryd.prog Ctx 31 [.ex (.string s), .ex (.int .i64 d)] (.val (.tup [.ex (.string (splitT (splitF (digL s.data.toList) d))), .ex (.bool (splitF (digL s.data.toList) d).isSome)])) := by
  by_cases h : d = 0
  · subst h; exact split_0 s hs
  · exact split_d s d hs (by omega) hd4
theorem ones1 (v : Value) (h : v.oneCell' = true) : ∀ x ∈ [v], x.oneCell' = true := by simpa using h
theorem ones2 (v u : Value) (h : v.oneCell' = true) (h2 : u.oneCell' = true) : ∀ x ∈ [v, u], x.oneCell' = true := by simpa using ⟨h, h2⟩
theorem places_any (d : Int) (w : World) (hw : Ctx w) : Calls Tryd.prog 27 #[.int .i64 d] w fun e w' => e = .returned (.bool (placesB d)) ∧ Below w.heap.size w w' :=
  Con.calls_ex (vs := [.int .i64 d]) (places_con d) (ones1 _ rfl) w hw
theorem split_any (s : ByteArray) (d : Nat) (hs : s.size ≤ 140737488355328) (hd4 : d ≤ 4) (w : World) (hw : Ctx w) : Calls Tryd.prog 31 #[.string s, .int .i64 d] w fun e w' => e = .returned (.tuple #[.string (splitT (splitF (digL s.data.toList) d)), .bool (splitF (digL s.data.toList) d).isSome]) ∧ Below w.heap.size w w' :=
  Con.calls_tup (vs := [.string s, .int .i64 d]) (rs := [.string _, .bool _]) (split_con s d hs hd4) (ones2 _ _ rfl rfl) w hw
theorem left_any (s : ByteArray) (hs : s.size ≤ 9223372036854775807) (w : World) (hw : Ctx w) : Calls Tryd.prog 32 #[.string s, .string ⟨#[48]⟩] w fun e w' => e = .returned (.string ⟨(trimZ s.data.toList).toArray⟩) ∧ Below w.heap.size w w' :=
  Con.calls_ex (vs := [.string s, .string ⟨#[48]⟩]) (TrimLeft_con s hs) (ones2 _ _ rfl rfl) w hw
theorem has_any (s : ByteArray) (hs : s.size ≤ 9223372036854775807) (w : World) (hw : Ctx w) : Calls Tryd.prog 33 #[.string s, .string ⟨#[45]⟩] w fun e w' => e = .returned (.bool (negL s.data.toList)) ∧ Below w.heap.size w w' :=
  Con.calls_ex (vs := [.string s, .string ⟨#[45]⟩]) (HasPrefix_con s 45 hs) (ones2 _ _ rfl rfl) w hw
theorem parse_no {l : List UInt8} {d : Int} (h : placesB d = false) : parseV l d = 0 ∧ parseE l d = 1 := by unfold parseV parseE; rw [if_neg (by rw [h]; simp), if_neg (by rw [h]; simp)]; exact ⟨rfl, rfl⟩
theorem parse_yes {l : List UInt8} {d : Nat} (h : placesB d = true) : parseV l d = parseV' (negL l) (splitF (digL l) d) ∧ parseE l d = parseE' (negL l) (splitF (digL l) d) := by unfold parseV parseE; rw [if_pos h, if_pos h, Int.toNat_natCast]; exact ⟨rfl, rfl⟩
theorem parse'_none {m : Bool} : parseV' m none = 0 ∧ parseE' m none = 2 := ⟨rfl, rfl⟩
theorem parse'_zero {m : Bool} {D : List UInt8} (h : natV 0 D = 0) : parseV' m (some D) = 0 ∧ parseE' m (some D) = if m = true then 2 else 0 := by unfold parseV' parseE'; dsimp only; rw [if_pos h, if_pos h]; exact ⟨rfl, rfl⟩
theorem parse'_big {m : Bool} {D : List UInt8} (h : 1000000000000 < natV 0 D) : parseV' m (some D) = 0 ∧ parseE' m (some D) = 6 := by
  have h0 : ¬ natV 0 D = 0 := by omega
  unfold parseV' parseE'; dsimp only; rw [if_neg h0, if_neg h0, if_pos h, if_pos h]; exact ⟨rfl, rfl⟩
theorem parse'_ok {m : Bool} {D : List UInt8} (h0 : natV 0 D ≠ 0) (h : natV 0 D ≤ 1000000000000) : parseV' m (some D) = (if m = true then -(natV 0 D : Int) else natV 0 D) ∧ parseE' m (some D) = 0 := by
  have h1 : ¬ 1000000000000 < natV 0 D := by omega
  unfold parseV' parseE'; dsimp only; rw [if_neg h0, if_neg h0, if_neg h1, if_neg h1]; exact ⟨rfl, rfl⟩
theorem nat_neg {l : List UInt8} (h : natL l = true) : negL l = false := by
  rw [natL_iff] at h
  obtain ⟨h1, h2, _⟩ := h
  cases l with
  | nil => exact absurd rfl h2
  | cons c r =>
    rw [List.all_cons, Bool.and_eq_true] at h1
    exact neg_dig h1.1
theorem nat_dec {l : List UInt8} (h : natL l = true) : decL l = true ∧ digL l = l := by
  have h1 := nat_neg h
  have h2 : digL l = l := by unfold digL; rw [h1, if_neg (by simp)]
  refine ⟨?_, h2⟩
  unfold decL
  rw [h2, h, h1]; rfl
theorem nat_atoi {l : List UInt8} (h : natL l = true) : Lib.atoiAll l = if natV 0 l ≤ 9223372036854775807 then .ok (natV 0 l : Int) else .range := by
  obtain ⟨h1, h2⟩ := nat_dec h
  have h3 := nat_neg h
  have hf : fitL l = decide (natV 0 l ≤ 9223372036854775807) := by unfold fitL; rw [h2, h3]; rfl
  rw [atoi_dec h1]
  by_cases hv : natV 0 l ≤ 9223372036854775807
  · have hf2 : fitL l = true := by rw [hf]; exact decide_eq_true hv
    rw [if_pos hf2, if_pos hv]
    simp [takeV, h1, hf2, h2, h3]
  · have hf2 : fitL l = false := by rw [hf]; exact decide_eq_false hv
    rw [if_neg (by rw [hf2]; simp), if_neg hv]

theorem split_len {T D : List UInt8} {d : Nat} (h : splitF T d = some D) : D.length ≤ T.length := by
  unfold splitF at h
  split at h
  · split at h
    · cases h; exact Nat.le_refl _
    · cases h
  · split at h
    · cases h
    · split at h
      · cases h
        rw [List.length_append, List.length_take, List.length_drop]
        omega
      · cases h
theorem dig_len (l : List UInt8) : (digL l).length ≤ l.length := by
  unfold digL
  split
  · rw [List.length_drop]; omega
  · omega
theorem Parse_no (s : ByteArray) (d : Int) (w : World) (hw : Ctx w) (h : placesB d = false) : Calls Tryd.prog 17 #[.string s, .int .i64 d] w fun e w' => e = .returned (.tuple #[.int .i64 (parseV s.data.toList d), .int .i64 (parseE s.data.toList d)]) ∧ Below w.heap.size w w' := by
  have hd := Lib.hid (places_any d)
  obtain ⟨r1, r2⟩ := parse_no (l := s.data.toList) h
  have R1 := Lib.hid r1
  have R2 := Lib.hid r2
  clear r1 r2
  go_enter Tryd.func17, Tryd.ntmps17
  go_wp2_with fail
  refine (hd.out _ hw).mono ?_
  rintro e w1 ⟨rfl, hb⟩
  have B1 := Lib.hid hb
  rw [h]
  clear hb hd
  go_wp2
  go_ret2
  exact ⟨by rw [R1.out, R2.out]; rfl, B1.out⟩
theorem Parse_none (s : ByteArray) (d : Nat) (hs : s.size ≤ 140737488355328) (hd4 : d ≤ 4) (w : World) (hw : Ctx w) (h : placesB d = true) (hsp : splitF (digL s.data.toList) d = none) : Calls Tryd.prog 17 #[.string s, .int .i64 d] w fun e w' => e = .returned (.tuple #[.int .i64 (parseV s.data.toList d), .int .i64 (parseE s.data.toList d)]) ∧ Below w.heap.size w w' := by
  have hd := Lib.hid (places_any (d : Int))
  have hS := Lib.hid (split_any s d hs hd4)
  rw [hsp] at hS
  have hL := Lib.hid (left_any ⟨#[]⟩ (by decide))
  have hP := Lib.hid (has_any s (by omega))
  obtain ⟨r1, r2⟩ := parse_yes (l := s.data.toList) h
  rw [hsp] at r1 r2
  have R1 := Lib.hid r1
  have R2 := Lib.hid r2
  clear r1 r2 hsp
  go_enter Tryd.func17, Tryd.ntmps17
  go_wp2_with fail
  refine (hd.out _ hw).mono ?_
  rintro e w1 ⟨rfl, hb⟩
  have B1 := Lib.hid hb
  have C1 := Lib.hid (hw.on hb)
  rw [h]
  clear hb hd
  go_wp2_with fail
  refine (hS.out _ C1.out).mono ?_
  rintro e w2 ⟨rfl, hb⟩
  have B2 := Lib.hid (B1.out.trans (hb.mono B1.out.size))
  have C2 := Lib.hid (C1.out.on hb)
  clear hb hS
  go_wp2_with fail
  refine (hL.out _ C2.out).mono ?_
  rintro e w3 ⟨rfl, hb⟩
  have B3 := Lib.hid (B2.out.trans (hb.mono B2.out.size))
  have C3 := Lib.hid (C2.out.on hb)
  clear hb hL
  go_wp2_with fail
  refine (hP.out _ C3.out).mono ?_
  rintro e w4 ⟨rfl, hb⟩
  have B4 := Lib.hid (B3.out.trans (hb.mono B3.out.size))
  clear hb hP
  go_wp2
  go_ret2
  exact ⟨by rw [R1.out, R2.out]; rfl, B4.out⟩
theorem Parse_zero (s : ByteArray) (d : Nat) (D : List UInt8) (hs : s.size ≤ 140737488355328) (hd4 : d ≤ 4) (w : World) (hw : Ctx w) (h : placesB d = true) (hsp : splitF (digL s.data.toList) d = some D) (ht : trimZ D = []) : Calls Tryd.prog 17 #[.string s, .int .i64 d] w fun e w' => e = .returned (.tuple #[.int .i64 (parseV s.data.toList d), .int .i64 (parseE s.data.toList d)]) ∧ Below w.heap.size w w' := by
  have hd := Lib.hid (places_any (d : Int))
  have hS := Lib.hid (split_any s d hs hd4)
  rw [hsp] at hS
  have hDz : D.length ≤ s.size := by
    have := split_len hsp
    have h2 := dig_len s.data.toList
    rw [size_toList] at h2
    omega
  have hL := Lib.hid (left_any ⟨D.toArray⟩ (by rw [← size_toList]; show D.length ≤ _; omega))
  rw [show (⟨D.toArray⟩ : ByteArray).data.toList = D from rfl, ht] at hL
  have hP := Lib.hid (has_any s (by omega))
  obtain ⟨r1, r2⟩ := parse_yes (l := s.data.toList) h
  obtain ⟨z1, z2⟩ := parse'_zero (m := negL s.data.toList) (trim_zero (split_all hsp) ht)
  rw [hsp] at r1 r2
  have R1 := Lib.hid (r1.trans z1)
  have R2 := Lib.hid (r2.trans z2)
  clear r1 r2 z1 z2 hsp
  go_enter Tryd.func17, Tryd.ntmps17
  go_wp2_with fail
  refine (hd.out _ hw).mono ?_
  rintro e w1 ⟨rfl, hb⟩
  have B1 := Lib.hid hb
  have C1 := Lib.hid (hw.on hb)
  rw [h]
  clear hb hd
  go_wp2_with fail
  refine (hS.out _ C1.out).mono ?_
  rintro e w2 ⟨rfl, hb⟩
  have B2 := Lib.hid (B1.out.trans (hb.mono B1.out.size))
  have C2 := Lib.hid (C1.out.on hb)
  clear hb hS
  go_wp2_with fail
  refine (hL.out _ C2.out).mono ?_
  rintro e w3 ⟨rfl, hb⟩
  have B3 := Lib.hid (B2.out.trans (hb.mono B2.out.size))
  have C3 := Lib.hid (C2.out.on hb)
  clear hb hL
  go_wp2_with fail
  refine (hP.out _ C3.out).mono ?_
  rintro e w4 ⟨rfl, hb⟩
  have B4 := Lib.hid (B3.out.trans (hb.mono B3.out.size))
  clear hb hP
  cases hm : negL s.data.toList with
  | true =>
    rw [hm, if_pos rfl] at R2
    go_wp2
    go_ret2
    exact ⟨by rw [R1.out, R2.out]; rfl, B4.out⟩
  | false =>
    rw [hm, if_neg (by simp)] at R2
    go_wp2
    go_ret2
    exact ⟨by rw [R1.out, R2.out]; rfl, B4.out⟩
theorem Parse_some (s : ByteArray) (d : Nat) (D : List UInt8) (hs : s.size ≤ 140737488355328) (hd4 : d ≤ 4) (w : World) (hw : Ctx w) (h : placesB d = true) (hsp : splitF (digL s.data.toList) d = some D) (ht : trimZ D ≠ []) : Calls Tryd.prog 17 #[.string s, .int .i64 d] w fun e w' => e = .returned (.tuple #[.int .i64 (parseV s.data.toList d), .int .i64 (parseE s.data.toList d)]) ∧ Below w.heap.size w w' := by
  have hd := Lib.hid (places_any (d : Int))
  have hS := Lib.hid (split_any s d hs hd4)
  rw [hsp] at hS
  have hDz : D.length ≤ s.size := by
    have := split_len hsp
    have h2 := dig_len s.data.toList
    rw [size_toList] at h2
    omega
  have hL := Lib.hid (left_any ⟨D.toArray⟩ (by rw [← size_toList]; show D.length ≤ _; omega))
  obtain ⟨t, htt⟩ : ∃ t : ByteArray, ⟨(trimZ D).toArray⟩ = t := ⟨_, rfl⟩
  have htl : t.data.toList = trimZ D := by rw [← htt]
  rw [show (⟨D.toArray⟩ : ByteArray).data.toList = D from rfl, htt] at hL
  have hP := Lib.hid (has_any s (by omega))
  have htz : t.size ≤ 140737488355328 := by
    rw [← size_toList, htl]
    have : (trimZ D).length ≤ D.length := (List.dropWhile_sublist _).length_le
    omega
  have hte : t.toList.isEmpty = false := by
    rw [ByteArray.toList_eq, htl]
    cases hq : trimZ D with
    | nil => exact absurd hq ht
    | cons _ _ => rfl
  have hA := nat_atoi (trim_nat (split_all hsp) ht)
  rw [trim_val D (split_all hsp), ← htl] at hA
  have hpos := trim_pos (split_all hsp) ht
  obtain ⟨r1, r2⟩ := parse_yes (l := s.data.toList) h
  rw [hsp] at r1 r2
  obtain ⟨v, hv⟩ : ∃ v, natV 0 D = v := ⟨_, rfl⟩
  have z1 := @parse'_big (negL s.data.toList) D
  have z2 := @parse'_ok (negL s.data.toList) D
  rw [hv] at hA hpos z1 z2
  rw [← r1, ← r2] at z1 z2
  have Z1 := Lib.hid z1
  have Z2 := Lib.hid z2
  have hA' := Lib.hid hA
  clear r1 r2 z1 z2 hsp htt htl hv hA
  go_enter Tryd.func17, Tryd.ntmps17
  go_wp2_with fail
  refine (hd.out _ hw).mono ?_
  rintro e w1 ⟨rfl, hb⟩
  have B1 := Lib.hid hb
  have C1 := Lib.hid (hw.on hb)
  rw [h]
  clear hb hd
  go_wp2_with fail
  refine (hS.out _ C1.out).mono ?_
  rintro e w2 ⟨rfl, hb⟩
  have B2 := Lib.hid (B1.out.trans (hb.mono B1.out.size))
  have C2 := Lib.hid (C1.out.on hb)
  clear hb hS
  go_wp2_with fail
  refine (hL.out _ C2.out).mono ?_
  rintro e w3 ⟨rfl, hb⟩
  have B3 := Lib.hid (B2.out.trans (hb.mono B2.out.size))
  have C3 := Lib.hid (C2.out.on hb)
  clear hb hL
  go_wp2_with fail
  refine (hP.out _ C3.out).mono ?_
  rintro e w4 ⟨rfl, hb⟩
  have B4 := Lib.hid (B3.out.trans (hb.mono B3.out.size))
  have C4 := Lib.hid (C3.out.on hb)
  clear hb hP
  by_cases hfit : v ≤ 9223372036854775807
  · have hC := Lib.hid (Tryd.strconv_Atoi_ok t (by omega) v (by rw [hA'.out, if_pos hfit]) w4)
    cases hm : negL s.data.toList with
    | true =>
      go_wp2_with fail
      refine hC.out.mono ?_
      rintro e w5 ⟨rfl, hor⟩
      have B5 := Lib.hid (show Below w.heap.size w w5 from by
        rcases hor with rfl | ⟨x, rfl⟩
        · exact B4.out
        · exact B4.out.trans ((Lib.bytesWorld_below _ _ _).mono B4.out.size))
      clear hor
      by_cases hbig : v ≤ 1000000000000
      · obtain ⟨q1, q2⟩ := Z2.out (by omega) hbig
        rw [hm, if_pos rfl] at q1
        have Q1 := Lib.hid q1
        have Q2 := Lib.hid q2
        have hb1 : ¬ (1000000000000 < (v : Int)) := by omega
        clear q1 q2
        go_wp2
        go_ret2
        exact ⟨by rw [Q1.out, Q2.out]; rfl, B5.out⟩
      · obtain ⟨q1, q2⟩ := Z1.out (by omega)
        have Q1 := Lib.hid q1
        have Q2 := Lib.hid q2
        have hb1 : 1000000000000 < (v : Int) := by omega
        clear q1 q2
        go_wp2
        go_ret2
        exact ⟨by rw [Q1.out, Q2.out]; rfl, B5.out⟩
    | false =>
      go_wp2_with fail
      refine hC.out.mono ?_
      rintro e w5 ⟨rfl, hor⟩
      have B5 := Lib.hid (show Below w.heap.size w w5 from by
        rcases hor with rfl | ⟨x, rfl⟩
        · exact B4.out
        · exact B4.out.trans ((Lib.bytesWorld_below _ _ _).mono B4.out.size))
      clear hor
      by_cases hbig : v ≤ 1000000000000
      · obtain ⟨q1, q2⟩ := Z2.out (by omega) hbig
        rw [hm, if_neg (by simp)] at q1
        have Q1 := Lib.hid q1
        have Q2 := Lib.hid q2
        have hb1 : ¬ (1000000000000 < (v : Int)) := by omega
        clear q1 q2
        go_wp2
        go_ret2
        exact ⟨by rw [Q1.out, Q2.out]; rfl, B5.out⟩
      · obtain ⟨q1, q2⟩ := Z1.out (by omega)
        have Q1 := Lib.hid q1
        have Q2 := Lib.hid q2
        have hb1 : 1000000000000 < (v : Int) := by omega
        clear q1 q2
        go_wp2
        go_ret2
        exact ⟨by rw [Q1.out, Q2.out]; rfl, B5.out⟩
  · obtain ⟨te, pe, hv⟩ := C4.out.here.errR
    have hC := Lib.hid (Tryd.strconv_Atoi_range t (by omega) (by rw [hA'.out, if_neg hfit]) _ w4 hv (.inr ⟨te, pe, rfl⟩))
    obtain ⟨q1, q2⟩ := Z1.out (by omega)
    have Q1 := Lib.hid q1
    have Q2 := Lib.hid q2
    clear q1 q2 hv
    cases hm : negL s.data.toList with
    | true =>
      go_wp2_with fail
      refine hC.out.mono ?_
      rintro e w5 ⟨N, rfl, hN, hc, hb⟩
      have B5 := Lib.hid (B4.out.trans (hb.mono B4.out.size))
      clear hb hc
      go_wp2
      go_ret2
      exact ⟨by rw [Q1.out, Q2.out]; rfl, B5.out⟩
    | false =>
      go_wp2_with fail
      refine hC.out.mono ?_
      rintro e w5 ⟨N, rfl, hN, hc, hb⟩
      have B5 := Lib.hid (B4.out.trans (hb.mono B4.out.size))
      clear hb hc
      go_wp2
      go_ret2
      exact ⟨by rw [Q1.out, Q2.out]; rfl, B5.out⟩
theorem Parse_con (s : ByteArray) (d : Int) (hs : s.size ≤ 140737488355328) : Con Tryd.prog Ctx 17 [.ex (.string s), .ex (.int .i64 d)] (.val (.tup [.ex (.int .i64 (parseV s.data.toList d)), .ex (.int .i64 (parseE s.data.toList d))])) :=
  con_tup (vs := [.string s, .int .i64 d]) (rs := [.int .i64 _, .int .i64 _]) ⟨_, Tryd.func17, rfl, rfl⟩ (ones2 _ _ rfl rfl) fun w hw => by
    cases h : placesB d with
    | false => exact Parse_no s d w hw h
    | true =>
      obtain ⟨d1, d2⟩ := placesB_iff.1 h
      obtain ⟨e, rfl⟩ : ∃ e : Nat, d = e := ⟨d.toNat, by omega⟩
      cases hsp : splitF (digL s.data.toList) e with
      | none => exact Parse_none s e hs (by omega) w hw h hsp
      | some D =>
        by_cases ht : trimZ D = []
        · exact Parse_zero s e D hs (by omega) w hw h hsp ht
        · exact Parse_some s e D hs (by omega) w hw h hsp ht
end Go.Proofs.YtaphbajfjmhpnaaDoor
