/-
  Chapter 19, walked: the net of legs. Conditions: those that each theorem states.
-/
import Derived.Test.YtmnnphalljnmhaaDoorC19D
import Derived.Test.YtmnnphalljnmhaaDoorInsLeg
namespace Go.Proofs.YtmnnphalljnmhaaDoor
open Go.RowKit
set_option maxRecDepth 100000
set_option linter.unusedSimpArgs false

theorem initM_eq {e : Nat} {es : List (List AV)} {us : List AV} : initM e es us = ⟨tmI (.own 0 :: us), upd hpI 0 (some ⟨e, es, true⟩), 1⟩ := rfl
theorem cmpI_lt {a b : Int} : cmpI a b < 0 ↔ a < b := by unfold cmpI; split <;> (try split) <;> omega
theorem cmpI_eq {a b : Int} : cmpI a b = 0 ↔ a = b := by unfold cmpI; split <;> (try split) <;> omega
theorem cmpS_neg {a b : ByteArray} : cmpS a b < 0 ↔ ltS a b = true := by
  unfold cmpS
  split
  · rename_i h; simp [h]
  · rename_i h
    split <;> simp [h]
theorem cmpS_zero {a b : ByteArray} : cmpS a b = 0 ↔ a = b := by
  unfold cmpS
  split
  · rename_i h
    refine ⟨fun h => by omega, fun e => ?_⟩
    subst e
    rw [ltS_irrefl] at h; cases h
  · split
    · rename_i h; simp [h]
    · rename_i h; simp [h]
theorem cmpL_lt {a b : LegV} : cmpL a b < 0 ↔ a.account < b.account ∨ (a.account = b.account ∧ ltS a.cur b.cur = true) := by
  unfold cmpL orI
  split
  · rename_i h
    rw [cmpS_neg]
    have := cmpI_eq.1 h
    constructor
    · exact fun h => .inr ⟨this, h⟩
    · rintro (h | h)
      · omega
      · exact h.2
  · rename_i h
    rw [cmpI_lt]
    have : ¬ a.account = b.account := fun e => h (cmpI_eq.2 e)
    constructor
    · exact .inl
    · rintro (h | h)
      · exact h
      · exact absurd h.1 this
theorem cmpL_eq {a b : LegV} : cmpL a b = 0 ↔ a.account = b.account ∧ a.cur = b.cur := by
  unfold cmpL orI
  split
  · rename_i h
    rw [cmpS_zero]
    exact ⟨fun e => ⟨cmpI_eq.1 h, e⟩, fun e => e.2⟩
  · rename_i h
    exact ⟨fun e => absurd e h, fun e => absurd (cmpI_eq.2 e.1) h⟩
theorem cmpL_trans {a b c : LegV} (h1 : cmpL a b < 0) (h2 : cmpL b c < 0) : cmpL a c < 0 := by
  rw [cmpL_lt] at *
  rcases h1 with h1 | h1 <;> rcases h2 with h2 | h2
  · exact .inl (by omega)
  · exact .inl (by omega)
  · exact .inl (by omega)
  · exact .inr ⟨by omega, ltS_trans h1.2 h2.2⟩
theorem cmpL_total {a b : LegV} (h1 : ¬ cmpL a b < 0) (h2 : ¬ cmpL a b = 0) : cmpL b a < 0 := by
  rw [cmpL_lt] at *
  rw [cmpL_eq] at h2
  rcases Int.lt_trichotomy a.account b.account with h | h | h
  · exact absurd (.inl h) h1
  · refine .inr ⟨h.symm, ltS_total ?_ fun e => h2 ⟨h, e⟩⟩
    cases hh : ltS a.cur b.cur with
    | false => rfl
    | true => exact absurd (.inr ⟨h, hh⟩) h1
  · exact .inl h
/-- The same place. -/
theorem cmpL_left {a a' b : LegV} (h1 : a.account = a'.account) (h2 : a.cur = a'.cur) : cmpL a b = cmpL a' b := by unfold cmpL; rw [h1, h2]
theorem cmpL_right {a b b' : LegV} (h1 : b.account = b'.account) (h2 : b.cur = b'.cur) : cmpL a b = cmpL a b' := by unfold cmpL; rw [h1, h2]
def SortL (l : List LegV) : Prop := ∀ (i j : Nat) a b, i < j → l[i]? = some a → l[j]? = some b → cmpL a b < 0
theorem SortL.mono {l : List LegV} (h : SortL l) (x : LegV) : Mono (fun m : LegV => decide (cmpL m x < 0)) l := fun i j a b hij ha hb hl => by
  rw [decide_eq_true_eq] at *
  exact cmpL_trans (h i j a b hij ha hb) hl
def lI (l : List LegV) (x : LegV) : Nat := bsI (fun m : LegV => decide (cmpL m x < 0)) l
def lB (l : List LegV) (x : LegV) : Bool := bsB (fun m : LegV => decide (cmpL m x < 0)) (fun m => decide (cmpL m x = 0)) l
def addL (l : List LegV) (x : LegV) : List LegV :=
  if lB l x = true then l.set (lI l x) ⟨x.account, IntKind.i64.wrap ((l[lI l x]?.map LegV.amount).getD 0 + x.amount), x.cur⟩
  else l.take (lI l x) ++ x :: l.drop (lI l x)
def collL (l : List LegV) : List LegV := l.foldl addL []
theorem lI_le (l : List LegV) (x : LegV) : lI l x ≤ l.length := by
  unfold lI bsI
  exact (List.takeWhile_sublist _).length_le
theorem lB_true {l : List LegV} {x : LegV} (h : lB l x = true) : ∃ m, l[lI l x]? = some m ∧ m.account = x.account ∧ m.cur = x.cur := by
  unfold lB bsB at h
  split at h
  · rename_i m hm
    exact ⟨m, hm, cmpL_eq.1 (of_decide_eq_true h)⟩
  · cases h
theorem lB_false {l : List LegV} {x : LegV} (h : lB l x = false) : ∀ m, l[lI l x]? = some m → cmpL x m < 0 := by
  intro m hm
  unfold lB bsB at h
  have hs := bs_stop (lt := fun m : LegV => decide (cmpL m x < 0)) hm
  have hm' : l[bsI (fun m : LegV => decide (cmpL m x < 0)) l]? = some m := hm
  rw [hm'] at h
  exact cmpL_total (of_decide_eq_false hs) (of_decide_eq_false h)
theorem addL_sort {l : List LegV} (h : SortL l) (x : LegV) : SortL (addL l x) := by
  unfold addL
  split
  · rename_i hb
    obtain ⟨m, hm, hc1, hc2⟩ := lB_true hb
    intro i j a b hij ha hb'
    have key : ∀ (q : Nat) z, (l.set (lI l x) ⟨x.account, IntKind.i64.wrap ((l[lI l x]?.map LegV.amount).getD 0 + x.amount), x.cur⟩)[q]? = some z → ∃ z', l[q]? = some z' ∧ z'.account = z.account ∧ z'.cur = z.cur := by
      intro q z hz
      rw [List.getElem?_set] at hz
      split at hz
      · rename_i he
        subst he
        split at hz
        · cases hz; exact ⟨m, hm, hc1, hc2⟩
        · cases hz
      · exact ⟨z, hz, rfl, rfl⟩
    obtain ⟨a', ha', e1, e2⟩ := key i a ha
    obtain ⟨b', hb', e3, e4⟩ := key j b hb'
    rw [← cmpL_left e1 e2, ← cmpL_right e3 e4]
    exact h i j a' b' hij ha' hb'
  · rename_i hb
    have hb : lB l x = false := by simpa using hb
    have hle := lI_le l x
    have htl : (l.take (lI l x)).length = lI l x := by rw [List.length_take]; omega
    have key : ∀ (q : Nat) z, (l.take (lI l x) ++ x :: l.drop (lI l x))[q]? = some z → (q < lI l x ∧ l[q]? = some z) ∨ (q = lI l x ∧ z = x) ∨ (lI l x < q ∧ l[q - 1]? = some z) := by
      intro q z hz
      rcases Nat.lt_trichotomy q (lI l x) with h1 | h1 | h1
      · rw [List.getElem?_append_left (by omega), List.getElem?_take, if_pos h1] at hz
        exact .inl ⟨h1, hz⟩
      · rw [List.getElem?_append_right (by omega), htl, h1, Nat.sub_self] at hz
        simp at hz
        exact .inr (.inl ⟨h1, hz.symm⟩)
      · rw [List.getElem?_append_right (by omega), htl] at hz
        obtain ⟨r, hr⟩ : ∃ r, q - lI l x = r + 1 := ⟨q - lI l x - 1, by omega⟩
        rw [hr, List.getElem?_cons_succ, List.getElem?_drop, show lI l x + r = q - 1 by omega] at hz
        exact .inr (.inr ⟨h1, hz⟩)
    have lo : ∀ (q : Nat) z, q < lI l x → l[q]? = some z → cmpL z x < 0 := fun q z hq hz => of_decide_eq_true (bs_lt (lt := fun m : LegV => decide (cmpL m x < 0)) hq hz)
    have up : ∀ (q : Nat) z, lI l x ≤ q → l[q]? = some z → cmpL x z < 0 := by
      intro q z hq hz
      have hlt : lI l x < l.length := by have := (List.getElem?_eq_some_iff.1 hz).1; omega
      have e1 : l[lI l x]? = some l[lI l x] := List.getElem?_eq_getElem hlt
      have h1 := lB_false hb _ e1
      rcases Nat.lt_or_ge (lI l x) q with h2 | h2
      · exact cmpL_trans h1 (h _ _ _ _ h2 e1 hz)
      · have : q = lI l x := by omega
        subst this
        rw [e1] at hz
        rw [← Option.some.inj hz]; exact h1
    intro i j a b hij ha hb'
    rcases key i a ha with ⟨a1, a2⟩ | ⟨a1, a2⟩ | ⟨a1, a2⟩ <;> rcases key j b hb' with ⟨b1, b2⟩ | ⟨b1, b2⟩ | ⟨b1, b2⟩
    · exact h i j a b hij a2 b2
    · rw [b2]; exact lo i a a1 a2
    · exact h i (j - 1) a b (by omega) a2 b2
    · omega
    · omega
    · rw [a2]; exact up (j - 1) b (by omega) b2
    · omega
    · omega
    · exact h (i - 1) (j - 1) a b (by omega) a2 b2
theorem addL_len (l : List LegV) (x : LegV) : (addL l x).length ≤ l.length + 1 := by
  unfold addL
  split
  · rw [List.length_set]; omega
  · have := lI_le l x
    rw [List.length_append, List.length_cons, List.length_take, List.length_drop]; omega
theorem coll_step {l : List LegV} {k : Nat} {x : LegV} (e : l[k]? = some x) : collL (l.take (k + 1)) = addL (collL (l.take k)) x := by
  unfold collL
  rw [List.take_add_one, e, List.foldl_append]; rfl
theorem coll_sort : ∀ (l : List LegV) (o : List LegV), SortL o → SortL (l.foldl addL o)
  | [], _, h => h
  | x :: l, _, h => coll_sort l _ (addL_sort h x)
theorem collL_sort (l : List LegV) : SortL (collL l) := coll_sort l [] (fun i j a b _ h => by cases h)
theorem coll_len : ∀ (l : List LegV) (o : List LegV), (l.foldl addL o).length ≤ o.length + l.length
  | [], _ => Nat.le_refl _
  | x :: l, o => by
    have h1 := coll_len l (addL o x)
    have h2 := addL_len o x
    rw [List.foldl_cons, List.length_cons]; omega
theorem collL_len (l : List LegV) : (collL l).length ≤ l.length := by have := coll_len l []; simpa [collL] using this
theorem addL_t {l : List LegV} {x : LegV} {i : Nat} {m : LegV} (hb : lB l x = true) (hi : lI l x = i) (e : l[i]? = some m) :
    legsC (addL l x) = (legsC l).set i [.ex (.int .i64 x.account), .ex (.int .i64 (IntKind.i64.wrap (m.amount + x.amount))), .ex (.string x.cur)] := by
  unfold addL
  rw [if_pos hb, hi, e, legsC, List.map_set]; rfl
theorem addL_f {l : List LegV} {x : LegV} {i : Nat} (hb : lB l x = false) (hi : lI l x = i) :
    legsC (addL l x) = (legsC l).take i ++ [.ex (.int .i64 x.account), .ex (.int .i64 x.amount), .ex (.string x.cur)] :: (legsC l).drop i := by
  unfold addL
  rw [if_neg (by rw [hb]; simp), hi]
  unfold legsC
  rw [List.map_append, List.map_cons, List.map_take, List.map_drop]; rfl
theorem collect_con (l : List LegV) (hl : l.length ≤ 1000) : ConM Tryd.prog CtxP 77 62 [] [.sl (legsC l)] (legsC (collL l)) := by
  refine con_moved base Tryd.func77 rfl rfl (by kernel_rfl) (Nat.le_of_ble_eq_true rfl) (legs_ns _) ?_
  rw [initM_eq]
  have q1 := legs_len l
  (repeat' (first | refine awp_seq ?_ | refine awp_block ?_ | (refine awp_ret ?_; simp only [then_ret, block_ret, end_ret]) | ((first | refine vplain ?_ | refine vdraws (by kernel_rfl) ?_ | refine vbuildS (by simp only [tyb, elemOf_s]) (by simp only [tyb, sxb, Value.oneCell', Nat.reduceAdd, Nat.reduceMul, Nat.reduceLeDiff, Nat.reduceLT]) ?_ | refine vcond ?_ | refine awp_exit ?_ | refine awp_skip ?_ | refine And.intro (by first | omega | assumption | exact setOk_ge (by decide +kernel) | exact setOk_late (by decide +kernel) (by (simp (disch := omega) only [sx, Value.oneCell', ↓reduceIte, Nat.reduceAdd, Nat.reduceMul, Nat.reduceEqDiff, Nat.reduceLT, Nat.reduceLeDiff, Int.reduceToNat, Int.reduceEq, Int.reduceLT, Int.reduceLE, Int.reduceNe, natS, *]; rfl)) (by refine wkR_row ?_; repeat' (first | exact trivial | refine wkL_c (by decide +kernel) ?_)) | exact Nat.le_of_ble_eq_true (by kernel_rfl)) ?_ | refine nqif_ways (fun h => ?_) ?_ | ((first | refine gif_ways (fun h => ?_) (fun h => ?_) | refine cif_ways (fun h => ?_) (fun h => ?_)) <;> (try simp only [sxn] at h) <;> (try (exfalso; omega)))) <;> (try (simp (disch := omega) only [sx, Value.oneCell', ↓reduceIte, Nat.reduceAdd, Nat.reduceMul, Nat.reduceEqDiff, Nat.reduceLT, Nat.reduceLeDiff, Int.reduceToNat, Int.reduceEq, Int.reduceLT, Int.reduceLE, Int.reduceNe, *])))))
  refine vloop (fun n tm hp nx => ∃ (k b : Nat) (O : List LegV), n = l.length - k ∧ k ≤ l.length ∧ tm 9 = .sl (legsC l) ∧ tm 10 = .ex (.int .i64 l.length) ∧ tm 11 = .ex (.int .i64 k) ∧ tm 0 = .own b ∧ hp b = some ⟨62, legsC O, true⟩ ∧ b < nx ∧ Hid (O = collL (l.take k))) l.length ⟨0, _, [], rfl, Nat.zero_le _, by (first | rfl | (simp (disch := omega) only [sx, natS, ↓reduceIte, Nat.reduceAdd, Nat.reduceEqDiff, Nat.reduceLeDiff, *])), by (first | rfl | (simp (disch := omega) only [sx, natS, ↓reduceIte, Nat.reduceAdd, Nat.reduceEqDiff, Nat.reduceLeDiff, *])), by (first | rfl | (simp (disch := omega) only [sx, natS, ↓reduceIte, Nat.reduceAdd, Nat.reduceEqDiff, Nat.reduceLeDiff, *])), by (first | rfl | (simp (disch := omega) only [sx, natS, ↓reduceIte, Nat.reduceAdd, Nat.reduceEqDiff, Nat.reduceLeDiff, *])), by (simp (disch := omega) only [sx, natS, ↓reduceIte, Nat.reduceAdd, Nat.reduceEqDiff, Nat.reduceLeDiff, *]; (try rfl)), by omega, Lib.hid rfl⟩ ?_
  rintro n tm hp nx ⟨k, b, O, hn, hk, g8, g9, g10, g3, gh, hb, hO⟩
  by_cases hlt : k < l.length
  · have e0 : l[k]? = some l[k] := List.getElem?_eq_getElem hlt
    generalize l[k] = x at e0
    have hs : SortL O := hO.out ▸ collL_sort _
    have hOl : O.length ≤ k := by rw [hO.out]; have := collL_len (l.take k); rw [List.length_take] at this; omega
    have n1 : Hid (addL O x = collL (l.take (k + 1))) := Lib.hid (by rw [coll_step e0, ← hO.out])
    have q4 := legs_get e0
    have hBS := BSLeg_con O x (by omega) (hs.mono x)
    have hm1 := lI_le O x
    have hml := legs_len O
    have f1 := legs_all O
    have f3 := legs_z0 O
    clear hs hO e0
    cases hmb : lB O x with
    | true =>
      obtain ⟨m, em, hc, hc2⟩ := lB_true hmb
      have hmt := addL_t hmb rfl em
      unfold lB at hmb
      rw [hmb] at hBS
      unfold lI at hmt em hm1
      generalize bsI (fun m : LegV => decide (cmpL m x < 0)) O = i at hBS hmt em hm1
      have hil : i < O.length := (List.getElem?_eq_some_iff.1 em).1
      have hA := hmt.symm
      have q5 := legs_get em
      rw [hc, hc2] at q5
      clear hmt em hmb hc hc2
      (repeat' (first | refine awp_seq ?_ | refine awp_block ?_ | (refine awp_ret ?_; simp only [then_ret, block_ret, end_ret]) | ((first | refine call_val (by first | (simp only [sxd, z0, p0, Nat.reduceEqDiff, ↓reduceIte]; (try rfl); done) | (simp (disch := omega) only [sxd, z0, p0, sx, Value.oneCell', ↓reduceIte, Nat.reduceAdd, Nat.reduceMul, Nat.reduceEqDiff, Nat.reduceLT, Nat.reduceLeDiff, Int.reduceToNat, Int.reduceEq, Int.reduceLT, Int.reduceLE, Int.reduceNe, *]; (try rfl); done)) (hBS) ?_ | refine vplain ?_ | refine vdraws (by kernel_rfl) ?_ | refine vbuildS (by simp only [tyb, elemOf_s]) (by simp only [tyb, sxb, Value.oneCell', Nat.reduceAdd, Nat.reduceMul, Nat.reduceLeDiff, Nat.reduceLT]) ?_ | refine vcond ?_ | refine awp_exit ?_ | refine awp_skip ?_ | refine And.intro (by first | omega | assumption | exact setOk_ge (by decide +kernel) | exact setOk_late (by decide +kernel) (by (simp (disch := omega) only [sx, Value.oneCell', ↓reduceIte, Nat.reduceAdd, Nat.reduceMul, Nat.reduceEqDiff, Nat.reduceLT, Nat.reduceLeDiff, Int.reduceToNat, Int.reduceEq, Int.reduceLT, Int.reduceLE, Int.reduceNe, natS, *]; rfl)) (by refine wkR_row ?_; repeat' (first | exact trivial | refine wkL_c (by decide +kernel) ?_)) | exact Nat.le_of_ble_eq_true (by kernel_rfl)) ?_ | refine nqif_ways (fun h => ?_) ?_ | ((first | refine gif_ways (fun h => ?_) (fun h => ?_) | refine cif_ways (fun h => ?_) (fun h => ?_)) <;> (try simp only [sxn] at h) <;> (try (exfalso; omega)))) <;> (try (simp (disch := omega) only [sx, Value.oneCell', ↓reduceIte, Nat.reduceAdd, Nat.reduceMul, Nat.reduceEqDiff, Nat.reduceLT, Nat.reduceLeDiff, Int.reduceToNat, Int.reduceEq, Int.reduceLT, Int.reduceLE, Int.reduceNe, *])))))
      exact kround_i (l.length - (k + 1)) (by omega) ⟨k + 1, b, addL O x, rfl, by omega, by (first | rfl | (simp (disch := omega) only [sx, natS, ↓reduceIte, Nat.reduceAdd, Nat.reduceEqDiff, Nat.reduceLeDiff, *])), by (first | rfl | (simp (disch := omega) only [sx, natS, ↓reduceIte, Nat.reduceAdd, Nat.reduceEqDiff, Nat.reduceLeDiff, *])), by (first | rfl | (simp (disch := omega) only [sx, natS, ↓reduceIte, Nat.reduceAdd, Nat.reduceEqDiff, Nat.reduceLeDiff, *])), by (first | rfl | (simp (disch := omega) only [sx, natS, ↓reduceIte, Nat.reduceAdd, Nat.reduceEqDiff, Nat.reduceLeDiff, *])), by (first | rfl | (simp (disch := omega) only [sx, natS, ↓reduceIte, Nat.reduceAdd, Nat.reduceEqDiff, Nat.reduceLeDiff, *])), by omega, n1⟩
    | false =>
      have hmt := addL_f hmb rfl
      unfold lB at hmb
      rw [hmb] at hBS
      unfold lI at hmt hm1
      generalize bsI (fun m : LegV => decide (cmpL m x < 0)) O = i at hBS hmt hm1
      have hI := Ins_conLeg (C := CtxP) (es := legsC O) (x := [.ex (.int .i64 x.account), .ex (.int .i64 x.amount), .ex (.string x.cur)]) (i := i) (by omega) rfl (by omega)
      rw [← hmt] at hI
      have f4 := legs_ns (addL O x)
      clear hmt hmb
      (repeat' (first | refine awp_seq ?_ | refine awp_block ?_ | (refine awp_ret ?_; simp only [then_ret, block_ret, end_ret]) | ((first | refine call_val (by first | (simp only [sxd, z0, p0, Nat.reduceEqDiff, ↓reduceIte]; (try rfl); done) | (simp (disch := omega) only [sxd, z0, p0, sx, Value.oneCell', ↓reduceIte, Nat.reduceAdd, Nat.reduceMul, Nat.reduceEqDiff, Nat.reduceLT, Nat.reduceLeDiff, Int.reduceToNat, Int.reduceEq, Int.reduceLT, Int.reduceLE, Int.reduceNe, *]; (try rfl); done)) (hBS) ?_ | refine call_mv (by (simp (disch := omega) only [sx, natS, ↓reduceIte, Nat.reduceAdd, Nat.reduceEqDiff, Nat.reduceLeDiff, *]; (try rfl))) rfl (by first | assumption | rfl) (by first | (simp only [sxd, z0, p0, Nat.reduceEqDiff, ↓reduceIte]; (try rfl); done) | (simp (disch := omega) only [sxd, z0, p0, sx, Value.oneCell', ↓reduceIte, Nat.reduceAdd, Nat.reduceMul, Nat.reduceEqDiff, Nat.reduceLT, Nat.reduceLeDiff, Int.reduceToNat, Int.reduceEq, Int.reduceLT, Int.reduceLE, Int.reduceNe, *]; (try rfl); done)) (by first | exact List.not_mem_nil | (simp only [List.mem_cons, List.not_mem_nil, or_false]; omega)) (by first | assumption | rfl) (by first | assumption | rfl) (hI) ?_ | refine vplain ?_ | refine vdraws (by kernel_rfl) ?_ | refine vbuildS (by simp only [tyb, elemOf_s]) (by simp only [tyb, sxb, Value.oneCell', Nat.reduceAdd, Nat.reduceMul, Nat.reduceLeDiff, Nat.reduceLT]) ?_ | refine vcond ?_ | refine awp_exit ?_ | refine awp_skip ?_ | refine And.intro (by first | omega | assumption | exact setOk_ge (by decide +kernel) | exact setOk_late (by decide +kernel) (by (simp (disch := omega) only [sx, Value.oneCell', ↓reduceIte, Nat.reduceAdd, Nat.reduceMul, Nat.reduceEqDiff, Nat.reduceLT, Nat.reduceLeDiff, Int.reduceToNat, Int.reduceEq, Int.reduceLT, Int.reduceLE, Int.reduceNe, natS, *]; rfl)) (by refine wkR_row ?_; repeat' (first | exact trivial | refine wkL_c (by decide +kernel) ?_)) | exact Nat.le_of_ble_eq_true (by kernel_rfl)) ?_ | refine nqif_ways (fun h => ?_) ?_ | ((first | refine gif_ways (fun h => ?_) (fun h => ?_) | refine cif_ways (fun h => ?_) (fun h => ?_)) <;> (try simp only [sxn] at h) <;> (try (exfalso; omega)))) <;> (try (simp (disch := omega) only [sx, Value.oneCell', ↓reduceIte, Nat.reduceAdd, Nat.reduceMul, Nat.reduceEqDiff, Nat.reduceLT, Nat.reduceLeDiff, Int.reduceToNat, Int.reduceEq, Int.reduceLT, Int.reduceLE, Int.reduceNe, *])))))
      exact kround_i (l.length - (k + 1)) (by omega) ⟨k + 1, _, addL O x, rfl, by omega, by (first | rfl | (simp (disch := omega) only [sx, natS, ↓reduceIte, Nat.reduceAdd, Nat.reduceEqDiff, Nat.reduceLeDiff, *])), by (first | rfl | (simp (disch := omega) only [sx, natS, ↓reduceIte, Nat.reduceAdd, Nat.reduceEqDiff, Nat.reduceLeDiff, *])), by (first | rfl | (simp (disch := omega) only [sx, natS, ↓reduceIte, Nat.reduceAdd, Nat.reduceEqDiff, Nat.reduceLeDiff, *])), by (first | rfl | (simp (disch := omega) only [sx, natS, ↓reduceIte, Nat.reduceAdd, Nat.reduceEqDiff, Nat.reduceLeDiff, *])), by (simp (disch := omega) only [sx, natS, ↓reduceIte, Nat.reduceAdd, Nat.reduceEqDiff, Nat.reduceLeDiff, *]; (try rfl)), by omega, n1⟩
  · have hOe : O = collL l := by rw [hO.out, List.take_of_length_le (by omega)]
    subst hOe
    have f1 := legs_all (collL l)
    have f3 := legs_z0 (collL l)
    (repeat' (first | refine awp_seq ?_ | refine awp_block ?_ | (refine awp_ret ?_; simp only [then_ret, block_ret, end_ret]) | ((first | refine vplain ?_ | refine vdraws (by kernel_rfl) ?_ | refine vbuildS (by simp only [tyb, elemOf_s]) (by simp only [tyb, sxb, Value.oneCell', Nat.reduceAdd, Nat.reduceMul, Nat.reduceLeDiff, Nat.reduceLT]) ?_ | refine vcond ?_ | refine awp_exit ?_ | refine awp_skip ?_ | refine And.intro (by first | omega | assumption | exact setOk_ge (by decide +kernel) | exact setOk_late (by decide +kernel) (by (simp (disch := omega) only [sx, Value.oneCell', ↓reduceIte, Nat.reduceAdd, Nat.reduceMul, Nat.reduceEqDiff, Nat.reduceLT, Nat.reduceLeDiff, Int.reduceToNat, Int.reduceEq, Int.reduceLT, Int.reduceLE, Int.reduceNe, natS, *]; rfl)) (by refine wkR_row ?_; repeat' (first | exact trivial | refine wkL_c (by decide +kernel) ?_)) | exact Nat.le_of_ble_eq_true (by kernel_rfl)) ?_ | refine nqif_ways (fun h => ?_) ?_ | ((first | refine gif_ways (fun h => ?_) (fun h => ?_) | refine cif_ways (fun h => ?_) (fun h => ?_)) <;> (try simp only [sxn] at h) <;> (try (exfalso; omega)))) <;> (try (simp (disch := omega) only [sx, Value.oneCell', ↓reduceIte, Nat.reduceAdd, Nat.reduceMul, Nat.reduceEqDiff, Nat.reduceLT, Nat.reduceLeDiff, Int.reduceToNat, Int.reduceEq, Int.reduceLT, Int.reduceLE, Int.reduceNe, *])))))
    all_goals simp only [sxd, z0, p0, Nat.reduceEqDiff, ↓reduceIte, Tryd.f77, *]
end Go.Proofs.YtmnnphalljnmhaaDoor
