/-
  Chapter 19, walked: the encoding of an entry, the program's and the document's. Conditions: entries that are small.
-/
import Derived.Test.YtmnnphalljnmhaaDoorC19M
namespace Go.Proofs.YtmnnphalljnmhaaDoor
open Go.RowKit
set_option maxRecDepth 100000
set_option linter.unusedSimpArgs false

def iB (n : Int) : ByteArray := ⟨(Lib.itoa n).toArray⟩
def encL (x : LegV) : ByteArray := ⟨(packB [iB x.account, iB x.amount, x.cur]).toArray⟩
def encLs (l : List LegV) : ByteArray := ⟨(packB (l.map encL)).toArray⟩
def nums (e : EntV) : List Int := [e.id, e.booked, e.value, e.kind, e.auth, e.period]
def fldsE (e : EntV) : List ByteArray := itoaBs (nums e) ++ [e.key, e.text, encLs e.legs]
def encE (e : EntV) : ByteArray := ⟨(packB (fldsE e)).toArray⟩
def LegV.Sm (x : LegV) : Prop := In64 x.account ∧ In64 x.amount ∧ x.cur.size ≤ 10000
structure EntV.Sm (e : EntV) : Prop where
  i : ∀ n ∈ nums e, In64 n
  l : ∀ x ∈ e.legs, x.Sm
  n : e.legs.length ≤ 10000
  k : e.key.size ≤ 10000
  t : e.text.size ≤ 10000
theorem iB_size {n : Int} (h : In64 n) : (iB n).size ≤ 21 := by
  unfold iB
  rw [← size_toList]
  exact Lib.itoa_length_le n h.1 h.2
theorem mk_size (l : List UInt8) : (⟨l.toArray⟩ : ByteArray).size = l.length := by rw [← size_toList]
theorem pk3 {x : LegV} (h : x.Sm) : (packB [iB x.account, iB x.amount, x.cur]).length ≤ 10200 := by
  have h1 := iB_size h.1
  have h2 := iB_size h.2.1
  have h3 := h.2.2
  have := packB_len [iB x.account, iB x.amount, x.cur] (fun s hs => by
    simp only [List.mem_cons, List.not_mem_nil, or_false] at hs
    rcases hs with rfl | rfl | rfl <;> omega)
  simp only [sizes_cons, sizes_nil, List.length_cons, List.length_nil] at this
  omega
theorem encL_size {x : LegV} (h : x.Sm) : (encL x).size ≤ 10200 := by unfold encL; rw [mk_size]; exact pk3 h
theorem pkLs {l : List LegV} (h : ∀ x ∈ l, x.Sm) (hl : l.length ≤ 10000) : (packB (l.map encL)).length ≤ 102220000 := by
  have hs : ∀ s ∈ l.map encL, s.size ≤ 10200 := fun s hs => by
    obtain ⟨x, hx, rfl⟩ := List.mem_map.1 hs
    exact encL_size (h x hx)
  have h1 := packB_len (l.map encL) fun s h => Nat.le_trans (hs s h) (by decide)
  have h2 := sizes_bound hs
  rw [List.length_map] at h1 h2
  have h3 : l.length * 10200 ≤ 10000 * 10200 := Nat.mul_le_mul_right _ hl
  omega
theorem pkE {e : EntV} (h : e.Sm) : (packB (fldsE e)).length ≤ 102300000 := by
  have h1 : (encLs e.legs).size ≤ 102220000 := by unfold encLs; rw [mk_size]; exact pkLs h.l h.n
  have h2 := itoaBs_sizes h.i
  have hk := h.k
  have ht := h.t
  have h3 := packB_len (fldsE e) (fun s hs => by
    unfold fldsE at hs
    rcases List.mem_append.1 hs with hs | hs
    · exact Nat.le_trans (h2 s hs) (by decide)
    · simp only [List.mem_cons, List.not_mem_nil, or_false] at hs
      rcases hs with rfl | rfl | rfl <;> omega)
  have h4 := sizes_bound h2
  unfold fldsE at h3 ⊢
  rw [sizes_app, List.length_append, itoaBs_len] at h3
  rw [itoaBs_len] at h4
  simp only [sizes_cons, sizes_nil, List.length_cons, List.length_nil] at h3
  have h5 : (nums e).length = 6 := rfl
  omega
theorem encs_next {l : List LegV} {k : Nat} {x : LegV} (e : l[k]? = some x) : texts ((l.take k).map encL) ++ [[.ex (.string ⟨(packB [⟨(Lib.itoa x.account).toArray⟩, ⟨(Lib.itoa x.amount).toArray⟩, x.cur]).toArray⟩)]] = texts ((l.take (k + 1)).map encL) := by
  rw [List.take_add_one, e]
  simp [texts, encL, iB]
theorem nums_next {l : List Int} {k : Nat} {n : Int} (e : l[k]? = some n) : texts (itoaBs (l.take k)) ++ [[.ex (.string ⟨(Lib.itoa n).toArray⟩)]] = texts (itoaBs (l.take (k + 1))) := by
  rw [List.take_add_one, e]
  simp [texts, itoaBs]
theorem texts_len' (l : List ByteArray) : (texts l).length = l.length := by simp [texts]
theorem texts_all' (l : List ByteArray) : ((texts l).all (·.all p0)) = true := by
  rw [List.all_eq_true]
  intro r hr
  obtain ⟨x, _, rfl⟩ := List.mem_map.1 hr
  rfl
theorem texts_z0' (l : List ByteArray) : (texts l).map (·.map z0) = texts l := by
  rw [texts, List.map_map]; exact List.map_congr_left fun _ _ => rfl
theorem flds_eq (e : EntV) : texts (itoaBs (nums e)) ++ [[.ex (.string e.key)], [.ex (.string e.text)], [.ex (.string ⟨(packB (e.legs.map encL)).toArray⟩)]] = texts (fldsE e) := by
  simp [texts, fldsE, encLs]
set_option maxHeartbeats 4000000 in
theorem Encode_con (e : EntV) (h : e.Sm) : Con Tryd.prog CtxP 48 [.agg [.ex (.int .i64 e.id), .ex (.int .i64 e.booked), .ex (.int .i64 e.value), .ex (.int .i64 e.kind), .ex (.int .i64 e.auth), .ex (.int .i64 e.period), .ex (.string e.key), .ex (.string e.text), .sl (legsC e.legs), .ex (.int .u64 e.chain)]] (.val (.ex (.string (encE e)))) := by
  refine con_val base Tryd.func48 rfl rfl (by kernel_rfl) (Nat.le_of_ble_eq_true rfl) ?_
  rw [init_eq]
  have q1 := legs_len e.legs
  have hn := h.n
  have hl := Lib.hid h.l
  have hP := Pack_con (e.legs.map encL) (by have := pkLs h.l h.n; omega) (Nat.le_trans (show (e.legs.map encL).length ≤ 10000 by rw [List.length_map]; exact hn) (by decide))
  have hPE := Pack_con (fldsE e) (by have := pkE h; omega) (Nat.le_trans (show (fldsE e).length ≤ 9 by unfold fldsE; rw [List.length_append, itoaBs_len]; exact Nat.le_refl _) (by decide))
  have hi := Lib.hid h.i
  clear h
  (repeat' (first | refine awp_seq ?_ | refine awp_block ?_ | (refine awp_ret ?_; simp only [then_ret, block_ret, end_ret]) | ((first | refine vplain ?_ | refine vdraws (by kernel_rfl) ?_ | refine vbuildS (by simp only [tyb, elemOf_s]) (by simp only [tyb, sxb, Value.oneCell', Nat.reduceAdd, Nat.reduceMul, Nat.reduceLeDiff, Nat.reduceLT]) ?_ | refine vcond ?_ | refine awp_exit ?_ | refine awp_skip ?_ | refine And.intro (by first | omega | assumption | exact setOk_ge (by decide +kernel) | exact setOk_late (by decide +kernel) (by (simp (disch := omega) only [sx, Value.oneCell', ↓reduceIte, Nat.reduceAdd, Nat.reduceMul, Nat.reduceEqDiff, Nat.reduceLT, Nat.reduceLeDiff, Int.reduceToNat, Int.reduceEq, Int.reduceLT, Int.reduceLE, Int.reduceNe, natS, *]; rfl)) (by refine wkR_row ?_; repeat' (first | exact trivial | refine wkL_c (by decide +kernel) ?_)) | exact Nat.le_of_ble_eq_true (by kernel_rfl)) ?_ | refine nqif_ways (fun h => ?_) ?_ | ((first | refine gif_ways (fun h => ?_) (fun h => ?_) | refine cif_ways (fun h => ?_) (fun h => ?_)) <;> (try simp only [sxn] at h) <;> (try (exfalso; omega)))) <;> (try (simp (disch := omega) only [sx, Value.oneCell', ↓reduceIte, Nat.reduceAdd, Nat.reduceMul, Nat.reduceEqDiff, Nat.reduceLT, Nat.reduceLeDiff, Int.reduceToNat, Int.reduceEq, Int.reduceLT, Int.reduceLE, Int.reduceNe, *])))))
  refine vloop (fun n tm hp nx => ∃ (k b1 b3 b4 : Nat), n = e.legs.length - k ∧ k ≤ e.legs.length ∧ tm 1 = .pt b1 0 0 ∧ hp b1 = some ⟨26, [[.ex (.int .i64 e.id), .ex (.int .i64 e.booked), .ex (.int .i64 e.value), .ex (.int .i64 e.kind), .ex (.int .i64 e.auth), .ex (.int .i64 e.period), .ex (.string e.key), .ex (.string e.text), .sl (legsC e.legs), .ex (.int .u64 e.chain)]], true⟩ ∧ b1 < nx ∧ tm 3 = .own b3 ∧ hp b3 = some ⟨9, texts ((e.legs.take k).map encL), true⟩ ∧ b3 < nx ∧ tm 4 = .own b4 ∧ hp b4 = some ⟨9, [], true⟩ ∧ b4 < nx ∧
    ¬ b1 = b3 ∧ ¬ b3 = b1 ∧ ¬ b1 = b4 ∧ ¬ b4 = b1 ∧ ¬ b3 = b4 ∧ ¬ b4 = b3 ∧ tm 10 = .sl (legsC e.legs) ∧ tm 11 = .ex (.int .i64 e.legs.length) ∧ tm 12 = .ex (.int .i64 k)) e.legs.length ⟨0, _, _, _, rfl, Nat.zero_le _, by (simp (disch := omega) only [sx, natS, ↓reduceIte, Nat.reduceAdd, Nat.reduceEqDiff, Nat.reduceLeDiff, *]; (try rfl)), by (simp (disch := omega) only [sx, natS, ↓reduceIte, Nat.reduceAdd, Nat.reduceEqDiff, Nat.reduceLeDiff, *]; (try rfl)), by omega, by (simp (disch := omega) only [sx, natS, ↓reduceIte, Nat.reduceAdd, Nat.reduceEqDiff, Nat.reduceLeDiff, *]; (try rfl)), by (simp (disch := omega) only [sx, natS, ↓reduceIte, Nat.reduceAdd, Nat.reduceEqDiff, Nat.reduceLeDiff, *]; (try rfl)), by omega, by (simp (disch := omega) only [sx, natS, ↓reduceIte, Nat.reduceAdd, Nat.reduceEqDiff, Nat.reduceLeDiff, *]; (try rfl)), by (simp (disch := omega) only [sx, natS, ↓reduceIte, Nat.reduceAdd, Nat.reduceEqDiff, Nat.reduceLeDiff, *]; (try rfl)), by omega, by omega, by omega, by omega, by omega, by omega, by omega, by (first | rfl | (simp (disch := omega) only [sx, natS, ↓reduceIte, Nat.reduceAdd, Nat.reduceEqDiff, Nat.reduceLeDiff, *])), by (first | rfl | (simp (disch := omega) only [sx, natS, ↓reduceIte, Nat.reduceAdd, Nat.reduceEqDiff, Nat.reduceLeDiff, *])), by (first | rfl | (simp (disch := omega) only [sx, natS, ↓reduceIte, Nat.reduceAdd, Nat.reduceEqDiff, Nat.reduceLeDiff, *]))⟩ ?_
  rintro n tm hp nx ⟨k, b1, b3, b4, hnn, hk, g1, gh1, hb1, g3, gh3, hb3, g4, gh4, hb4, n1, n2, n3, n4, n5, n6, g10, g11, g12⟩
  by_cases hlt : k < e.legs.length
  · have e0 : e.legs[k]? = some e.legs[k] := List.getElem?_eq_getElem hlt
    have hx := hl.out _ (List.getElem_mem hlt)
    generalize e.legs[k] = x at e0 hx
    have q4 := legs_get e0
    have hA := encs_next e0
    have q5 : (texts ((e.legs.take k).map encL)).length = k := by rw [texts_len', List.length_map, List.length_take]; omega
    have c1 := Int_con x.account hx.1.1 hx.1.2
    have c2 := Int_con x.amount hx.2.1.1 hx.2.1.2
    have c3 := Pack_con [⟨(Lib.itoa x.account).toArray⟩, ⟨(Lib.itoa x.amount).toArray⟩, x.cur] (by have := pk3 hx; unfold iB at this; omega) (by show 3 ≤ maxLen; decide)
    rw [show texts [⟨(Lib.itoa x.account).toArray⟩, ⟨(Lib.itoa x.amount).toArray⟩, x.cur] = [[.ex (.string ⟨(Lib.itoa x.account).toArray⟩)], [.ex (.string ⟨(Lib.itoa x.amount).toArray⟩)], [.ex (.string x.cur)]] from rfl] at c3
    clear e0 hx hP hPE
    (repeat' (first | refine awp_seq ?_ | refine awp_block ?_ | (refine awp_ret ?_; simp only [then_ret, block_ret, end_ret]) | ((first | refine call_val (by first | (simp only [sxd, z0, p0, Nat.reduceEqDiff, ↓reduceIte]; (try rfl); done) | (simp (disch := omega) only [sxd, z0, p0, sx, Value.oneCell', ↓reduceIte, Nat.reduceAdd, Nat.reduceMul, Nat.reduceEqDiff, Nat.reduceLT, Nat.reduceLeDiff, Int.reduceToNat, Int.reduceEq, Int.reduceLT, Int.reduceLE, Int.reduceNe, *]; (try rfl); done)) (c1) ?_ | refine call_val (by first | (simp only [sxd, z0, p0, Nat.reduceEqDiff, ↓reduceIte]; (try rfl); done) | (simp (disch := omega) only [sxd, z0, p0, sx, Value.oneCell', ↓reduceIte, Nat.reduceAdd, Nat.reduceMul, Nat.reduceEqDiff, Nat.reduceLT, Nat.reduceLeDiff, Int.reduceToNat, Int.reduceEq, Int.reduceLT, Int.reduceLE, Int.reduceNe, *]; (try rfl); done)) (c2) ?_ | refine call_val (by first | (simp only [sxd, z0, p0, Nat.reduceEqDiff, ↓reduceIte]; (try rfl); done) | (simp (disch := omega) only [sxd, z0, p0, sx, Value.oneCell', ↓reduceIte, Nat.reduceAdd, Nat.reduceMul, Nat.reduceEqDiff, Nat.reduceLT, Nat.reduceLeDiff, Int.reduceToNat, Int.reduceEq, Int.reduceLT, Int.reduceLE, Int.reduceNe, *]; (try rfl); done)) (c3) ?_ | refine vplain ?_ | refine vdraws (by kernel_rfl) ?_ | refine vbuildS (by simp only [tyb, elemOf_s]) (by simp only [tyb, sxb, Value.oneCell', Nat.reduceAdd, Nat.reduceMul, Nat.reduceLeDiff, Nat.reduceLT]) ?_ | refine vcond ?_ | refine awp_exit ?_ | refine awp_skip ?_ | refine And.intro (by first | omega | assumption | exact setOk_ge (by decide +kernel) | exact setOk_late (by decide +kernel) (by (simp (disch := omega) only [sx, Value.oneCell', ↓reduceIte, Nat.reduceAdd, Nat.reduceMul, Nat.reduceEqDiff, Nat.reduceLT, Nat.reduceLeDiff, Int.reduceToNat, Int.reduceEq, Int.reduceLT, Int.reduceLE, Int.reduceNe, natS, *]; rfl)) (by refine wkR_row ?_; repeat' (first | exact trivial | refine wkL_c (by decide +kernel) ?_)) | exact Nat.le_of_ble_eq_true (by kernel_rfl)) ?_ | refine nqif_ways (fun h => ?_) ?_ | ((first | refine gif_ways (fun h => ?_) (fun h => ?_) | refine cif_ways (fun h => ?_) (fun h => ?_)) <;> (try simp only [sxn] at h) <;> (try (exfalso; omega)))) <;> (try (simp (disch := omega) only [sx, Value.oneCell', ↓reduceIte, Nat.reduceAdd, Nat.reduceMul, Nat.reduceEqDiff, Nat.reduceLT, Nat.reduceLeDiff, Int.reduceToNat, Int.reduceEq, Int.reduceLT, Int.reduceLE, Int.reduceNe, *])))))
    exact kround_i (e.legs.length - (k + 1)) (by omega) ⟨k + 1, b1, _, b4, rfl, by omega, by (simp (disch := omega) only [sx, natS, ↓reduceIte, Nat.reduceAdd, Nat.reduceEqDiff, Nat.reduceLeDiff, *]; (try rfl)), by (simp (disch := omega) only [sx, natS, ↓reduceIte, Nat.reduceAdd, Nat.reduceEqDiff, Nat.reduceLeDiff, *]; (try rfl)), by omega, by (simp (disch := omega) only [sx, natS, ↓reduceIte, Nat.reduceAdd, Nat.reduceEqDiff, Nat.reduceLeDiff, *]; (try rfl)), by (simp (disch := omega) only [sx, natS, ↓reduceIte, Nat.reduceAdd, Nat.reduceEqDiff, Nat.reduceLeDiff, *]; (try rfl)), by omega, by (simp (disch := omega) only [sx, natS, ↓reduceIte, Nat.reduceAdd, Nat.reduceEqDiff, Nat.reduceLeDiff, *]; (try rfl)), by (simp (disch := omega) only [sx, natS, ↓reduceIte, Nat.reduceAdd, Nat.reduceEqDiff, Nat.reduceLeDiff, *]; (try rfl)), by omega, by omega, by omega, by omega, by omega, by omega, by omega, by (first | rfl | (simp (disch := omega) only [sx, natS, ↓reduceIte, Nat.reduceAdd, Nat.reduceEqDiff, Nat.reduceLeDiff, *])), by (first | rfl | (simp (disch := omega) only [sx, natS, ↓reduceIte, Nat.reduceAdd, Nat.reduceEqDiff, Nat.reduceLeDiff, *])), by (simp (disch := omega) only [sx, natS, ↓reduceIte, Nat.reduceAdd, Nat.reduceEqDiff, Nat.reduceLeDiff, *]; (try rfl))⟩
  · have hke : e.legs.take k = e.legs := List.take_of_length_le (by omega)
    rw [hke] at gh3
    have f1 := texts_all' (e.legs.map encL)
    have f2 := texts_z0' (e.legs.map encL)
    clear hl
    (repeat' (first | refine awp_seq ?_ | refine awp_block ?_ | (refine awp_ret ?_; simp only [then_ret, block_ret, end_ret]) | ((first | refine vplain ?_ | refine vdraws (by kernel_rfl) ?_ | refine vbuildS (by simp only [tyb, elemOf_s]) (by simp only [tyb, sxb, Value.oneCell', Nat.reduceAdd, Nat.reduceMul, Nat.reduceLeDiff, Nat.reduceLT]) ?_ | refine vcond ?_ | refine awp_exit ?_ | refine awp_skip ?_ | refine And.intro (by first | omega | assumption | exact setOk_ge (by decide +kernel) | exact setOk_late (by decide +kernel) (by (simp (disch := omega) only [sx, Value.oneCell', ↓reduceIte, Nat.reduceAdd, Nat.reduceMul, Nat.reduceEqDiff, Nat.reduceLT, Nat.reduceLeDiff, Int.reduceToNat, Int.reduceEq, Int.reduceLT, Int.reduceLE, Int.reduceNe, natS, *]; rfl)) (by refine wkR_row ?_; repeat' (first | exact trivial | refine wkL_c (by decide +kernel) ?_)) | exact Nat.le_of_ble_eq_true (by kernel_rfl)) ?_ | refine nqif_ways (fun h => ?_) ?_ | ((first | refine gif_ways (fun h => ?_) (fun h => ?_) | refine cif_ways (fun h => ?_) (fun h => ?_)) <;> (try simp only [sxn] at h) <;> (try (exfalso; omega)))) <;> (try (simp (maxSteps := 4000000) (disch := omega) only [sx, Value.oneCell', ↓reduceIte, Nat.reduceAdd, Nat.reduceMul, Nat.reduceEqDiff, Nat.reduceLT, Nat.reduceLeDiff, Int.reduceToNat, Int.reduceEq, Int.reduceLT, Int.reduceLE, Int.reduceNe, *])))))
    refine vloop (fun n tm hp nx => ∃ (k b4 : Nat), n = 6 - k ∧ k ≤ 6 ∧ tm 1 = .pt b1 0 0 ∧ hp b1 = some ⟨26, [[.ex (.int .i64 e.id), .ex (.int .i64 e.booked), .ex (.int .i64 e.value), .ex (.int .i64 e.kind), .ex (.int .i64 e.auth), .ex (.int .i64 e.period), .ex (.string e.key), .ex (.string e.text), .sl (legsC e.legs), .ex (.int .u64 e.chain)]], true⟩ ∧ b1 < nx ∧ tm 3 = .own b3 ∧ hp b3 = some ⟨9, texts (e.legs.map encL), true⟩ ∧ b3 < nx ∧ tm 4 = .own b4 ∧ hp b4 = some ⟨9, texts (itoaBs ((nums e).take k)), true⟩ ∧ b4 < nx ∧
      ¬ b1 = b4 ∧ ¬ b4 = b1 ∧ ¬ b3 = b4 ∧ ¬ b4 = b3 ∧ tm 42 = .agg [.ex (.int .i64 e.id), .ex (.int .i64 e.booked), .ex (.int .i64 e.value), .ex (.int .i64 e.kind), .ex (.int .i64 e.auth), .ex (.int .i64 e.period)] ∧ tm 43 = .ex (.int .i64 k)) 6 ⟨0, b4, rfl, Nat.zero_le _, by (simp (disch := omega) only [sx, natS, ↓reduceIte, Nat.reduceAdd, Nat.reduceEqDiff, Nat.reduceLeDiff, *]; (try rfl)), by (simp (disch := omega) only [sx, natS, ↓reduceIte, Nat.reduceAdd, Nat.reduceEqDiff, Nat.reduceLeDiff, *]; (try rfl)), by omega, by (simp (disch := omega) only [sx, natS, ↓reduceIte, Nat.reduceAdd, Nat.reduceEqDiff, Nat.reduceLeDiff, *]; (try rfl)), by (simp (disch := omega) only [sx, natS, ↓reduceIte, Nat.reduceAdd, Nat.reduceEqDiff, Nat.reduceLeDiff, *]; (try rfl)), by omega, by (simp (disch := omega) only [sx, natS, ↓reduceIte, Nat.reduceAdd, Nat.reduceEqDiff, Nat.reduceLeDiff, *]; (try rfl)), by (simp (disch := omega) only [sx, natS, ↓reduceIte, Nat.reduceAdd, Nat.reduceEqDiff, Nat.reduceLeDiff, *]; (try rfl)), by omega, by omega, by omega, by omega, by omega, by (simp (disch := omega) only [sx, natS, ↓reduceIte, Nat.reduceAdd, Nat.reduceEqDiff, Nat.reduceLeDiff, *]; (try rfl)), by (first | rfl | (simp (disch := omega) only [sx, natS, ↓reduceIte, Nat.reduceAdd, Nat.reduceEqDiff, Nat.reduceLeDiff, *]))⟩ ?_
    clear g1 gh1 hb1 g3 gh3 hb3 g4 gh4 hb4 g10 g11 g12 n3 n4 n5 n6
    rintro n tm hp nx ⟨k, b4, hnn, hk, g1, gh1, hb1, g3, gh3, hb3, g4, gh4, hb4, n3, n4, n5, n6, g42, g43⟩
    by_cases hlt : k < 6
    · have e0 : (nums e)[k]? = some ((nums e)[k]'hlt) := List.getElem?_eq_getElem (show k < (nums e).length from hlt)
      have hx := hi.out _ (List.getElem_mem (show k < (nums e).length from hlt))
      generalize (nums e)[k]'hlt = x at e0 hx
      have q4 : ([.ex (.int .i64 e.id), .ex (.int .i64 e.booked), .ex (.int .i64 e.value), .ex (.int .i64 e.kind), .ex (.int .i64 e.auth), .ex (.int .i64 e.period)] : List AV)[k]? = some (.ex (.int .i64 x)) := by
        have : ([.ex (.int .i64 e.id), .ex (.int .i64 e.booked), .ex (.int .i64 e.value), .ex (.int .i64 e.kind), .ex (.int .i64 e.auth), .ex (.int .i64 e.period)] : List AV) = (nums e).map fun n => .ex (.int .i64 n) := rfl
        rw [this, List.getElem?_map, e0]; rfl
      have hA := nums_next e0
      have q5 : (texts (itoaBs ((nums e).take k))).length = k := by rw [texts_len', itoaBs_len, List.length_take]; have : (nums e).length = 6 := rfl; omega
      have c1 := Int_con x hx.1 hx.2
      clear e0 hx hP hPE
      have hk1 : k * 1 = k := Nat.mul_one k
      (repeat' (first | refine awp_seq ?_ | refine awp_block ?_ | (refine awp_ret ?_; simp only [then_ret, block_ret, end_ret]) | ((first | refine call_val (by first | (simp only [sxd, z0, p0, Nat.reduceEqDiff, ↓reduceIte]; (try rfl); done) | (simp (disch := omega) only [sxd, z0, p0, sx, Value.oneCell', ↓reduceIte, Nat.reduceAdd, Nat.reduceMul, Nat.reduceEqDiff, Nat.reduceLT, Nat.reduceLeDiff, Int.reduceToNat, Int.reduceEq, Int.reduceLT, Int.reduceLE, Int.reduceNe, *]; (try rfl); done)) (c1) ?_ | refine vplain ?_ | refine vdraws (by kernel_rfl) ?_ | refine vbuildS (by simp only [tyb, elemOf_s]) (by simp only [tyb, sxb, Value.oneCell', Nat.reduceAdd, Nat.reduceMul, Nat.reduceLeDiff, Nat.reduceLT]) ?_ | refine vcond ?_ | refine awp_exit ?_ | refine awp_skip ?_ | refine And.intro (by first | omega | assumption | exact setOk_ge (by decide +kernel) | exact setOk_late (by decide +kernel) (by (simp (disch := omega) only [sx, Value.oneCell', ↓reduceIte, Nat.reduceAdd, Nat.reduceMul, Nat.reduceEqDiff, Nat.reduceLT, Nat.reduceLeDiff, Int.reduceToNat, Int.reduceEq, Int.reduceLT, Int.reduceLE, Int.reduceNe, natS, *]; rfl)) (by refine wkR_row ?_; repeat' (first | exact trivial | refine wkL_c (by decide +kernel) ?_)) | exact Nat.le_of_ble_eq_true (by kernel_rfl)) ?_ | refine nqif_ways (fun h => ?_) ?_ | ((first | refine gif_ways (fun h => ?_) (fun h => ?_) | refine cif_ways (fun h => ?_) (fun h => ?_)) <;> (try simp only [sxn] at h) <;> (try (exfalso; omega)))) <;> (try (simp (maxSteps := 4000000) (disch := omega) only [sx, Value.oneCell', ↓reduceIte, Nat.reduceAdd, Nat.reduceMul, Nat.reduceEqDiff, Nat.reduceLT, Nat.reduceLeDiff, Int.reduceToNat, Int.reduceEq, Int.reduceLT, Int.reduceLE, Int.reduceNe, *])))))
      exact kround_i (6 - (k + 1)) (by omega) ⟨k + 1, _, by omega, by omega, by (simp (disch := omega) only [sx, natS, ↓reduceIte, Nat.reduceAdd, Nat.reduceEqDiff, Nat.reduceLeDiff, *]; (try rfl)), by (simp (disch := omega) only [sx, natS, ↓reduceIte, Nat.reduceAdd, Nat.reduceEqDiff, Nat.reduceLeDiff, *]; (try rfl)), by omega, by (simp (disch := omega) only [sx, natS, ↓reduceIte, Nat.reduceAdd, Nat.reduceEqDiff, Nat.reduceLeDiff, *]; (try rfl)), by (simp (disch := omega) only [sx, natS, ↓reduceIte, Nat.reduceAdd, Nat.reduceEqDiff, Nat.reduceLeDiff, *]; (try rfl)), by omega, by (simp (disch := omega) only [sx, natS, ↓reduceIte, Nat.reduceAdd, Nat.reduceEqDiff, Nat.reduceLeDiff, *]; (try rfl)), by (simp (disch := omega) only [sx, natS, ↓reduceIte, Nat.reduceAdd, Nat.reduceEqDiff, Nat.reduceLeDiff, *]; (try rfl)), by omega, by omega, by omega, by omega, by omega, by (simp (disch := omega) only [sx, natS, ↓reduceIte, Nat.reduceAdd, Nat.reduceEqDiff, Nat.reduceLeDiff, *]; (try rfl)), by (simp (disch := omega) only [sx, natS, ↓reduceIte, Nat.reduceAdd, Nat.reduceEqDiff, Nat.reduceLeDiff, *]; (try rfl))⟩
    · have hke : (nums e).take k = nums e := List.take_of_length_le (by have : (nums e).length = 6 := rfl; omega)
      rw [hke] at gh4
      have hA := flds_eq e
      have f3 := texts_all' (fldsE e)
      have f4 := texts_z0' (fldsE e)
      have q5 : (texts (itoaBs (nums e))).length = 6 := by rw [texts_len', itoaBs_len]; rfl
      have hE : (⟨(packB (fldsE e)).toArray⟩ : ByteArray) = encE e := rfl
      have hk6 : ¬ (k : Int) < 6 := by omega
      (repeat' (first | refine awp_seq ?_ | refine awp_block ?_ | (refine awp_ret ?_; simp only [then_ret, block_ret, end_ret]) | ((first | refine call_val (by first | (simp only [sxd, z0, p0, Nat.reduceEqDiff, ↓reduceIte]; (try rfl); done) | (simp (disch := omega) only [sxd, z0, p0, sx, Value.oneCell', ↓reduceIte, Nat.reduceAdd, Nat.reduceMul, Nat.reduceEqDiff, Nat.reduceLT, Nat.reduceLeDiff, Int.reduceToNat, Int.reduceEq, Int.reduceLT, Int.reduceLE, Int.reduceNe, *]; (try rfl); done)) (hP) ?_ | refine call_val (by first | (simp only [sxd, z0, p0, Nat.reduceEqDiff, ↓reduceIte]; (try rfl); done) | (simp (disch := omega) only [sxd, z0, p0, sx, Value.oneCell', ↓reduceIte, Nat.reduceAdd, Nat.reduceMul, Nat.reduceEqDiff, Nat.reduceLT, Nat.reduceLeDiff, Int.reduceToNat, Int.reduceEq, Int.reduceLT, Int.reduceLE, Int.reduceNe, *]; (try rfl); done)) (hPE) ?_ | refine vplain ?_ | refine vdraws (by kernel_rfl) ?_ | refine vbuildS (by simp only [tyb, elemOf_s]) (by simp only [tyb, sxb, Value.oneCell', Nat.reduceAdd, Nat.reduceMul, Nat.reduceLeDiff, Nat.reduceLT]) ?_ | refine vcond ?_ | refine awp_exit ?_ | refine awp_skip ?_ | refine And.intro (by first | omega | assumption | exact setOk_ge (by decide +kernel) | exact setOk_late (by decide +kernel) (by (simp (disch := omega) only [sx, Value.oneCell', ↓reduceIte, Nat.reduceAdd, Nat.reduceMul, Nat.reduceEqDiff, Nat.reduceLT, Nat.reduceLeDiff, Int.reduceToNat, Int.reduceEq, Int.reduceLT, Int.reduceLE, Int.reduceNe, natS, *]; rfl)) (by refine wkR_row ?_; repeat' (first | exact trivial | refine wkL_c (by decide +kernel) ?_)) | exact Nat.le_of_ble_eq_true (by kernel_rfl)) ?_ | refine nqif_ways (fun h => ?_) ?_ | ((first | refine gif_ways (fun h => ?_) (fun h => ?_) | refine cif_ways (fun h => ?_) (fun h => ?_)) <;> (try simp only [sxn] at h) <;> (try (exfalso; omega)))) <;> (try (simp (maxSteps := 4000000) (disch := omega) only [sx, Value.oneCell', ↓reduceIte, Nat.reduceAdd, Nat.reduceMul, Nat.reduceEqDiff, Nat.reduceLT, Nat.reduceLeDiff, Int.reduceToNat, Int.reduceEq, Int.reduceLT, Int.reduceLE, Int.reduceNe, *])))))
      all_goals simp only [sxd, z0, p0, Nat.reduceEqDiff, ↓reduceIte, Tryd.f48, *]
set_option maxHeartbeats 4000000 in
theorem REncode_con (e : EntV) (h : e.Sm) : Con Tryd.prog CtxP 32 [.agg [.ex (.int .i64 e.id), .ex (.int .i64 e.booked), .ex (.int .i64 e.value), .ex (.int .i64 e.kind), .ex (.int .i64 e.auth), .ex (.int .i64 e.period), .ex (.string e.key), .ex (.string e.text), .sl (legsC e.legs), .ex (.int .u64 e.chain)]] (.val (.ex (.string (encE e)))) := by
  refine con_val base Tryd.func32 rfl rfl (by kernel_rfl) (Nat.le_of_ble_eq_true rfl) ?_
  rw [init_eq]
  have q1 := legs_len e.legs
  have hn := h.n
  have hl := Lib.hid h.l
  have hP := RPack_con (e.legs.map encL) (by have := pkLs h.l h.n; omega) (Nat.le_trans (show (e.legs.map encL).length ≤ 10000 by rw [List.length_map]; exact hn) (by decide))
  have hPE := RPack_con (fldsE e) (by have := pkE h; omega) (Nat.le_trans (show (fldsE e).length ≤ 9 by unfold fldsE; rw [List.length_append, itoaBs_len]; exact Nat.le_refl _) (by decide))
  have hi := Lib.hid h.i
  clear h
  (repeat' (first | refine awp_seq ?_ | refine awp_block ?_ | (refine awp_ret ?_; simp only [then_ret, block_ret, end_ret]) | ((first | refine vplain ?_ | refine vdraws (by kernel_rfl) ?_ | refine vbuildS (by simp only [tyb, elemOf_s]) (by simp only [tyb, sxb, Value.oneCell', Nat.reduceAdd, Nat.reduceMul, Nat.reduceLeDiff, Nat.reduceLT]) ?_ | refine vcond ?_ | refine awp_exit ?_ | refine awp_skip ?_ | refine And.intro (by first | omega | assumption | exact setOk_ge (by decide +kernel) | exact setOk_late (by decide +kernel) (by (simp (disch := omega) only [sx, Value.oneCell', ↓reduceIte, Nat.reduceAdd, Nat.reduceMul, Nat.reduceEqDiff, Nat.reduceLT, Nat.reduceLeDiff, Int.reduceToNat, Int.reduceEq, Int.reduceLT, Int.reduceLE, Int.reduceNe, natS, *]; rfl)) (by refine wkR_row ?_; repeat' (first | exact trivial | refine wkL_c (by decide +kernel) ?_)) | exact Nat.le_of_ble_eq_true (by kernel_rfl)) ?_ | refine nqif_ways (fun h => ?_) ?_ | ((first | refine gif_ways (fun h => ?_) (fun h => ?_) | refine cif_ways (fun h => ?_) (fun h => ?_)) <;> (try simp only [sxn] at h) <;> (try (exfalso; omega)))) <;> (try (simp (disch := omega) only [sx, Value.oneCell', ↓reduceIte, Nat.reduceAdd, Nat.reduceMul, Nat.reduceEqDiff, Nat.reduceLT, Nat.reduceLeDiff, Int.reduceToNat, Int.reduceEq, Int.reduceLT, Int.reduceLE, Int.reduceNe, *])))))
  refine vloop (fun n tm hp nx => ∃ (k b1 b3 : Nat), n = e.legs.length - k ∧ k ≤ e.legs.length ∧ tm 1 = .pt b1 0 0 ∧ hp b1 = some ⟨26, [[.ex (.int .i64 e.id), .ex (.int .i64 e.booked), .ex (.int .i64 e.value), .ex (.int .i64 e.kind), .ex (.int .i64 e.auth), .ex (.int .i64 e.period), .ex (.string e.key), .ex (.string e.text), .sl (legsC e.legs), .ex (.int .u64 e.chain)]], true⟩ ∧ b1 < nx ∧ tm 3 = .own b3 ∧ hp b3 = some ⟨9, texts ((e.legs.take k).map encL), true⟩ ∧ b3 < nx ∧
    ¬ b1 = b3 ∧ ¬ b3 = b1 ∧ tm 4 = .ex (.int .i64 k)) e.legs.length ⟨0, _, _, rfl, Nat.zero_le _, by (simp (disch := omega) only [sx, natS, ↓reduceIte, Nat.reduceAdd, Nat.reduceEqDiff, Nat.reduceLeDiff, *]; (try rfl)), by (simp (disch := omega) only [sx, natS, ↓reduceIte, Nat.reduceAdd, Nat.reduceEqDiff, Nat.reduceLeDiff, *]; (try rfl)), by omega, by (simp (disch := omega) only [sx, natS, ↓reduceIte, Nat.reduceAdd, Nat.reduceEqDiff, Nat.reduceLeDiff, *]; (try rfl)), by (simp (disch := omega) only [sx, natS, ↓reduceIte, Nat.reduceAdd, Nat.reduceEqDiff, Nat.reduceLeDiff, *]; (try rfl)), by omega, by omega, by omega, by (first | rfl | (simp (disch := omega) only [sx, natS, ↓reduceIte, Nat.reduceAdd, Nat.reduceEqDiff, Nat.reduceLeDiff, *]))⟩ ?_
  rintro n tm hp nx ⟨k, b1, b3, hnn, hk, g1, gh1, hb1, g3, gh3, hb3, n1, n2, g4⟩
  by_cases hlt : k < e.legs.length
  · have e0 : e.legs[k]? = some e.legs[k] := List.getElem?_eq_getElem hlt
    have hx := hl.out _ (List.getElem_mem hlt)
    generalize e.legs[k] = x at e0 hx
    have q4 := legs_get e0
    have hA := encs_next e0
    have q5 : (texts ((e.legs.take k).map encL)).length = k := by rw [texts_len', List.length_map, List.length_take]; omega
    have c1 := RInt_con x.account hx.1.1 hx.1.2
    have c2 := RInt_con x.amount hx.2.1.1 hx.2.1.2
    have c3 := RPack_con [⟨(Lib.itoa x.account).toArray⟩, ⟨(Lib.itoa x.amount).toArray⟩, x.cur] (by have := pk3 hx; unfold iB at this; omega) (by show 3 ≤ maxLen; decide)
    rw [show texts [⟨(Lib.itoa x.account).toArray⟩, ⟨(Lib.itoa x.amount).toArray⟩, x.cur] = [[.ex (.string ⟨(Lib.itoa x.account).toArray⟩)], [.ex (.string ⟨(Lib.itoa x.amount).toArray⟩)], [.ex (.string x.cur)]] from rfl] at c3
    clear e0 hx hP hPE
    (repeat' (first | refine awp_seq ?_ | refine awp_block ?_ | (refine awp_ret ?_; simp only [then_ret, block_ret, end_ret]) | ((first | refine call_val (by first | (simp only [sxd, z0, p0, Nat.reduceEqDiff, ↓reduceIte]; (try rfl); done) | (simp (disch := omega) only [sxd, z0, p0, sx, Value.oneCell', ↓reduceIte, Nat.reduceAdd, Nat.reduceMul, Nat.reduceEqDiff, Nat.reduceLT, Nat.reduceLeDiff, Int.reduceToNat, Int.reduceEq, Int.reduceLT, Int.reduceLE, Int.reduceNe, *]; (try rfl); done)) (c1) ?_ | refine call_val (by first | (simp only [sxd, z0, p0, Nat.reduceEqDiff, ↓reduceIte]; (try rfl); done) | (simp (disch := omega) only [sxd, z0, p0, sx, Value.oneCell', ↓reduceIte, Nat.reduceAdd, Nat.reduceMul, Nat.reduceEqDiff, Nat.reduceLT, Nat.reduceLeDiff, Int.reduceToNat, Int.reduceEq, Int.reduceLT, Int.reduceLE, Int.reduceNe, *]; (try rfl); done)) (c2) ?_ | refine call_val (by first | (simp only [sxd, z0, p0, Nat.reduceEqDiff, ↓reduceIte]; (try rfl); done) | (simp (disch := omega) only [sxd, z0, p0, sx, Value.oneCell', ↓reduceIte, Nat.reduceAdd, Nat.reduceMul, Nat.reduceEqDiff, Nat.reduceLT, Nat.reduceLeDiff, Int.reduceToNat, Int.reduceEq, Int.reduceLT, Int.reduceLE, Int.reduceNe, *]; (try rfl); done)) (c3) ?_ | refine vplain ?_ | refine vdraws (by kernel_rfl) ?_ | refine vbuildS (by simp only [tyb, elemOf_s]) (by simp only [tyb, sxb, Value.oneCell', Nat.reduceAdd, Nat.reduceMul, Nat.reduceLeDiff, Nat.reduceLT]) ?_ | refine vcond ?_ | refine awp_exit ?_ | refine awp_skip ?_ | refine And.intro (by first | omega | assumption | exact setOk_ge (by decide +kernel) | exact setOk_late (by decide +kernel) (by (simp (disch := omega) only [sx, Value.oneCell', ↓reduceIte, Nat.reduceAdd, Nat.reduceMul, Nat.reduceEqDiff, Nat.reduceLT, Nat.reduceLeDiff, Int.reduceToNat, Int.reduceEq, Int.reduceLT, Int.reduceLE, Int.reduceNe, natS, *]; rfl)) (by refine wkR_row ?_; repeat' (first | exact trivial | refine wkL_c (by decide +kernel) ?_)) | exact Nat.le_of_ble_eq_true (by kernel_rfl)) ?_ | refine nqif_ways (fun h => ?_) ?_ | ((first | refine gif_ways (fun h => ?_) (fun h => ?_) | refine cif_ways (fun h => ?_) (fun h => ?_)) <;> (try simp only [sxn] at h) <;> (try (exfalso; omega)))) <;> (try (simp (disch := omega) only [sx, Value.oneCell', ↓reduceIte, Nat.reduceAdd, Nat.reduceMul, Nat.reduceEqDiff, Nat.reduceLT, Nat.reduceLeDiff, Int.reduceToNat, Int.reduceEq, Int.reduceLT, Int.reduceLE, Int.reduceNe, *])))))
    exact kround_i (e.legs.length - (k + 1)) (by omega) ⟨k + 1, b1, _, rfl, by omega, by (simp (disch := omega) only [sx, natS, ↓reduceIte, Nat.reduceAdd, Nat.reduceEqDiff, Nat.reduceLeDiff, *]; (try rfl)), by (simp (disch := omega) only [sx, natS, ↓reduceIte, Nat.reduceAdd, Nat.reduceEqDiff, Nat.reduceLeDiff, *]; (try rfl)), by omega, by (simp (disch := omega) only [sx, natS, ↓reduceIte, Nat.reduceAdd, Nat.reduceEqDiff, Nat.reduceLeDiff, *]; (try rfl)), by (simp (disch := omega) only [sx, natS, ↓reduceIte, Nat.reduceAdd, Nat.reduceEqDiff, Nat.reduceLeDiff, *]; (try rfl)), by omega, by omega, by omega, by (simp (disch := omega) only [sx, natS, ↓reduceIte, Nat.reduceAdd, Nat.reduceEqDiff, Nat.reduceLeDiff, *]; (try rfl))⟩
  · have hke : e.legs.take k = e.legs := List.take_of_length_le (by omega)
    rw [hke] at gh3
    have f1 := texts_all' (e.legs.map encL)
    have f2 := texts_z0' (e.legs.map encL)
    have i1 := RInt_con e.id (hi.out _ (by simp [nums])).1 (hi.out _ (by simp [nums])).2
    have i2 := RInt_con e.booked (hi.out _ (by simp [nums])).1 (hi.out _ (by simp [nums])).2
    have i3 := RInt_con e.value (hi.out _ (by simp [nums])).1 (hi.out _ (by simp [nums])).2
    have i4 := RInt_con e.kind (hi.out _ (by simp [nums])).1 (hi.out _ (by simp [nums])).2
    have i5 := RInt_con e.auth (hi.out _ (by simp [nums])).1 (hi.out _ (by simp [nums])).2
    have i6 := RInt_con e.period (hi.out _ (by simp [nums])).1 (hi.out _ (by simp [nums])).2
    have hA : texts (fldsE e) = [[.ex (.string ⟨(Lib.itoa e.id).toArray⟩)], [.ex (.string ⟨(Lib.itoa e.booked).toArray⟩)], [.ex (.string ⟨(Lib.itoa e.value).toArray⟩)], [.ex (.string ⟨(Lib.itoa e.kind).toArray⟩)], [.ex (.string ⟨(Lib.itoa e.auth).toArray⟩)], [.ex (.string ⟨(Lib.itoa e.period).toArray⟩)], [.ex (.string e.key)], [.ex (.string e.text)], [.ex (.string ⟨(packB (e.legs.map encL)).toArray⟩)]] := rfl
    rw [hA] at hPE
    have hE : (⟨(packB (fldsE e)).toArray⟩ : ByteArray) = encE e := rfl
    clear hl hi hA
    (repeat' (first | refine awp_seq ?_ | refine awp_block ?_ | (refine awp_ret ?_; simp only [then_ret, block_ret, end_ret]) | ((first | refine call_val (by first | (simp only [sxd, z0, p0, Nat.reduceEqDiff, ↓reduceIte]; (try rfl); done) | (simp (disch := omega) only [sxd, z0, p0, sx, Value.oneCell', ↓reduceIte, Nat.reduceAdd, Nat.reduceMul, Nat.reduceEqDiff, Nat.reduceLT, Nat.reduceLeDiff, Int.reduceToNat, Int.reduceEq, Int.reduceLT, Int.reduceLE, Int.reduceNe, *]; (try rfl); done)) (hP) ?_ | refine call_val (by first | (simp only [sxd, z0, p0, Nat.reduceEqDiff, ↓reduceIte]; (try rfl); done) | (simp (disch := omega) only [sxd, z0, p0, sx, Value.oneCell', ↓reduceIte, Nat.reduceAdd, Nat.reduceMul, Nat.reduceEqDiff, Nat.reduceLT, Nat.reduceLeDiff, Int.reduceToNat, Int.reduceEq, Int.reduceLT, Int.reduceLE, Int.reduceNe, *]; (try rfl); done)) (hPE) ?_ | refine call_val (by first | (simp only [sxd, z0, p0, Nat.reduceEqDiff, ↓reduceIte]; (try rfl); done) | (simp (disch := omega) only [sxd, z0, p0, sx, Value.oneCell', ↓reduceIte, Nat.reduceAdd, Nat.reduceMul, Nat.reduceEqDiff, Nat.reduceLT, Nat.reduceLeDiff, Int.reduceToNat, Int.reduceEq, Int.reduceLT, Int.reduceLE, Int.reduceNe, *]; (try rfl); done)) (i1) ?_ | refine call_val (by first | (simp only [sxd, z0, p0, Nat.reduceEqDiff, ↓reduceIte]; (try rfl); done) | (simp (disch := omega) only [sxd, z0, p0, sx, Value.oneCell', ↓reduceIte, Nat.reduceAdd, Nat.reduceMul, Nat.reduceEqDiff, Nat.reduceLT, Nat.reduceLeDiff, Int.reduceToNat, Int.reduceEq, Int.reduceLT, Int.reduceLE, Int.reduceNe, *]; (try rfl); done)) (i2) ?_ | refine call_val (by first | (simp only [sxd, z0, p0, Nat.reduceEqDiff, ↓reduceIte]; (try rfl); done) | (simp (disch := omega) only [sxd, z0, p0, sx, Value.oneCell', ↓reduceIte, Nat.reduceAdd, Nat.reduceMul, Nat.reduceEqDiff, Nat.reduceLT, Nat.reduceLeDiff, Int.reduceToNat, Int.reduceEq, Int.reduceLT, Int.reduceLE, Int.reduceNe, *]; (try rfl); done)) (i3) ?_ | refine call_val (by first | (simp only [sxd, z0, p0, Nat.reduceEqDiff, ↓reduceIte]; (try rfl); done) | (simp (disch := omega) only [sxd, z0, p0, sx, Value.oneCell', ↓reduceIte, Nat.reduceAdd, Nat.reduceMul, Nat.reduceEqDiff, Nat.reduceLT, Nat.reduceLeDiff, Int.reduceToNat, Int.reduceEq, Int.reduceLT, Int.reduceLE, Int.reduceNe, *]; (try rfl); done)) (i4) ?_ | refine call_val (by first | (simp only [sxd, z0, p0, Nat.reduceEqDiff, ↓reduceIte]; (try rfl); done) | (simp (disch := omega) only [sxd, z0, p0, sx, Value.oneCell', ↓reduceIte, Nat.reduceAdd, Nat.reduceMul, Nat.reduceEqDiff, Nat.reduceLT, Nat.reduceLeDiff, Int.reduceToNat, Int.reduceEq, Int.reduceLT, Int.reduceLE, Int.reduceNe, *]; (try rfl); done)) (i5) ?_ | refine call_val (by first | (simp only [sxd, z0, p0, Nat.reduceEqDiff, ↓reduceIte]; (try rfl); done) | (simp (disch := omega) only [sxd, z0, p0, sx, Value.oneCell', ↓reduceIte, Nat.reduceAdd, Nat.reduceMul, Nat.reduceEqDiff, Nat.reduceLT, Nat.reduceLeDiff, Int.reduceToNat, Int.reduceEq, Int.reduceLT, Int.reduceLE, Int.reduceNe, *]; (try rfl); done)) (i6) ?_ | refine vplain ?_ | refine vdraws (by kernel_rfl) ?_ | refine vbuildS (by simp only [tyb, elemOf_s]) (by simp only [tyb, sxb, Value.oneCell', Nat.reduceAdd, Nat.reduceMul, Nat.reduceLeDiff, Nat.reduceLT]) ?_ | refine vcond ?_ | refine awp_exit ?_ | refine awp_skip ?_ | refine And.intro (by first | omega | assumption | exact setOk_ge (by decide +kernel) | exact setOk_late (by decide +kernel) (by (simp (disch := omega) only [sx, Value.oneCell', ↓reduceIte, Nat.reduceAdd, Nat.reduceMul, Nat.reduceEqDiff, Nat.reduceLT, Nat.reduceLeDiff, Int.reduceToNat, Int.reduceEq, Int.reduceLT, Int.reduceLE, Int.reduceNe, natS, *]; rfl)) (by refine wkR_row ?_; repeat' (first | exact trivial | refine wkL_c (by decide +kernel) ?_)) | exact Nat.le_of_ble_eq_true (by kernel_rfl)) ?_ | refine nqif_ways (fun h => ?_) ?_ | ((first | refine gif_ways (fun h => ?_) (fun h => ?_) | refine cif_ways (fun h => ?_) (fun h => ?_)) <;> (try simp only [sxn] at h) <;> (try (exfalso; omega)))) <;> (try (simp (maxSteps := 4000000) (disch := omega) only [sx, Value.oneCell', ↓reduceIte, Nat.reduceAdd, Nat.reduceMul, Nat.reduceEqDiff, Nat.reduceLT, Nat.reduceLeDiff, Int.reduceToNat, Int.reduceEq, Int.reduceLT, Int.reduceLE, Int.reduceNe, *])))))
    all_goals simp only [sxd, z0, p0, Nat.reduceEqDiff, ↓reduceIte, Tryd.f32, *]
end Go.Proofs.YtmnnphalljnmhaaDoor
