/-
  Chapter 19, walked: entries out of texts. Conditions: texts of at most a million bytes.
-/
import Derived.Test.YtmnnphalljnmhaaDoorC19P
namespace Go.Proofs.YtmnnphalljnmhaaDoor
open Go.RowKit
set_option maxRecDepth 100000
set_option linter.unusedSimpArgs false

def six (l : List ByteArray) : List Int := (l.take 6).map fun t => takeV t.data.toList
def sixE : List ByteArray → Int
  | [] => 0
  | t :: r => if takeE t.data.toList = 0 then sixE r else takeE t.data.toList
theorem sixE_stop {l : List ByteArray} {k : Nat} {t : ByteArray} (e : l[k]? = some t) (h1 : ∀ (j : Nat) y, j < k → l[j]? = some y → takeE y.data.toList = 0) (h : takeE t.data.toList ≠ 0) : sixE l = takeE t.data.toList := by
  induction l generalizing k with
  | nil => cases e
  | cons a l ih =>
    cases k with
    | zero => cases e; unfold sixE; rw [if_neg h]
    | succ k =>
      unfold sixE
      rw [if_pos (h1 0 a (by omega) rfl)]
      exact ih (by simpa using e) fun j y hj hy => h1 (j + 1) y (by omega) (by simpa using hy)
theorem sixE_ok : ∀ {l : List ByteArray}, (∀ (j : Nat) y, l[j]? = some y → takeE y.data.toList = 0) → sixE l = 0
  | [], _ => rfl
  | a :: l, h => by
    unfold sixE
    rw [if_pos (h 0 a rfl)]
    exact sixE_ok fun j y hy => h (j + 1) y (by simpa using hy)
def decG (l : List ByteArray) : EntV × Int := match l with
  | [a, b, c, d, e, f, g, i, j] => if sixE [a, b, c, d, e, f] = 0 then (if (legsD j).2 = 0 then (⟨takeV a.data.toList, takeV b.data.toList, takeV c.data.toList, takeV d.data.toList, takeV e.data.toList, takeV f.data.toList, g, i, (legsD j).1, 0⟩, 0) else (zeroE, (legsD j).2)) else (zeroE, sixE [a, b, c, d, e, f])
  | _ => (zeroE, 25)
def decE (s : ByteArray) : EntV × Int := if (unpF s.data.toList).2 = 0 then decG (unpF s.data.toList).1 else (zeroE, (unpF s.data.toList).2)
theorem decG_len {l : List ByteArray} (h : l.length ≠ 9) : decG l = (zeroE, 25) := by
  unfold decG
  split
  · exact absurd rfl h
  · rfl
def arrK (v : List Int) (k : Nat) : List AV := (v.take k).map (fun n => .ex (.int .i64 n)) ++ List.replicate (6 - k) (.ex (.int .i64 0))
theorem arrK_len {v : List Int} {k : Nat} (hv : v.length = 6) (hk : k ≤ 6) : (arrK v k).length = 6 := by
  unfold arrK
  rw [List.length_append, List.length_map, List.length_take, List.length_replicate]; omega
theorem arrK_next {v : List Int} {k : Nat} {n : Int} (e : v[k]? = some n) (hv : v.length = 6) (hk : k < 6) : (arrK v k).take k ++ [.ex (.int .i64 n)] ++ (arrK v k).drop (k + 1) = arrK v (k + 1) := by
  unfold arrK
  have h1 : ((v.take k).map fun n => AV.ex (.int .i64 n)).length = k := by rw [List.length_map, List.length_take]; omega
  rw [List.take_left' h1, List.drop_append, List.drop_of_length_le (by omega), h1, List.nil_append, List.drop_replicate, List.take_add_one, e, List.map_append]
  have h2 : 6 - k - (k + 1 - k) = 6 - (k + 1) := by omega
  rw [h2]
  simp
theorem texts_nine (a b c d e f g i j : ByteArray) : texts [a, b, c, d, e, f, g, i, j] = [[.ex (.string a)], [.ex (.string b)], [.ex (.string c)], [.ex (.string d)], [.ex (.string e)], [.ex (.string f)], [.ex (.string g)], [.ex (.string i)], [.ex (.string j)]] := rfl

set_option maxHeartbeats 8000000 in
theorem Decode_con_9 (s a b c d e f g i j : ByteArray) (hs : s.size ≤ 1000000) (c1 : Con Tryd.prog Ctx 82 [.ex (.string s)] (.val (.tup [.sl [[.ex (.string a)], [.ex (.string b)], [.ex (.string c)], [.ex (.string d)], [.ex (.string e)], [.ex (.string f)], [.ex (.string g)], [.ex (.string i)], [.ex (.string j)]], .ex (.int .i64 0)]))) (hsz : Hid (∀ t ∈ [a, b, c, d, e, f, g, i, j], t.size ≤ 16384)) :
    Con Tryd.prog Ctx 46 [.ex (.string s)] (.val (.tup [.agg [.ex (.int .i64 (decG [a, b, c, d, e, f, g, i, j]).1.id), .ex (.int .i64 (decG [a, b, c, d, e, f, g, i, j]).1.booked), .ex (.int .i64 (decG [a, b, c, d, e, f, g, i, j]).1.value), .ex (.int .i64 (decG [a, b, c, d, e, f, g, i, j]).1.kind), .ex (.int .i64 (decG [a, b, c, d, e, f, g, i, j]).1.auth), .ex (.int .i64 (decG [a, b, c, d, e, f, g, i, j]).1.period), .ex (.string (decG [a, b, c, d, e, f, g, i, j]).1.key), .ex (.string (decG [a, b, c, d, e, f, g, i, j]).1.text), .sl (legsC (decG [a, b, c, d, e, f, g, i, j]).1.legs), .ex (.int .u64 (decG [a, b, c, d, e, f, g, i, j]).1.chain)], .ex (.int .i64 (decG [a, b, c, d, e, f, g, i, j]).2)])) := by
  have q1 := texts_nine a b c d e f g i j
  have hv : ([takeV a.data.toList, takeV b.data.toList, takeV c.data.toList, takeV d.data.toList, takeV e.data.toList, takeV f.data.toList] : List Int).length = 6 := rfl
  have hj : j.size ≤ 16384 := hsz.out j (by simp)
  have hdef0 := Lib.hid (show decG [a, b, c, d, e, f, g, i, j] = if sixE [a, b, c, d, e, f] = 0 then (if (legsD j).2 = 0 then (⟨takeV a.data.toList, takeV b.data.toList, takeV c.data.toList, takeV d.data.toList, takeV e.data.toList, takeV f.data.toList, g, i, (legsD j).1, 0⟩, 0) else (zeroE, (legsD j).2)) else (zeroE, sixE [a, b, c, d, e, f]) from rfl)
  refine con_val baseC Tryd.func46 rfl rfl (by kernel_rfl) (Nat.le_of_ble_eq_true rfl) ?_
  rw [init_eq]
  (repeat' (first | refine awp_seq ?_ | refine awp_block ?_ | (refine awp_ret ?_; simp only [then_ret, block_ret, end_ret]) | ((first | refine call_val (by first | (simp only [sxd, z0, p0, Nat.reduceEqDiff, ↓reduceIte]; (try rfl); done) | (simp (disch := omega) only [sxd, z0, p0, sx, Value.oneCell', ↓reduceIte, Nat.reduceAdd, Nat.reduceMul, Nat.reduceEqDiff, Nat.reduceLT, Nat.reduceLeDiff, Int.reduceToNat, Int.reduceEq, Int.reduceLT, Int.reduceLE, Int.reduceNe, *]; (try rfl); done)) (c1) ?_ | refine vplain ?_ | refine vdraws (by kernel_rfl) ?_ | refine vcond ?_ | refine awp_exit ?_ | refine awp_skip ?_ | refine And.intro (by first | omega | assumption | exact setOk_ge (by decide +kernel) | exact setOk_late (by decide +kernel) (by (simp (disch := omega) only [sx, Value.oneCell', ↓reduceIte, Nat.reduceAdd, Nat.reduceMul, Nat.reduceEqDiff, Nat.reduceLT, Nat.reduceLeDiff, Int.reduceToNat, Int.reduceEq, Int.reduceLT, Int.reduceLE, Int.reduceNe, natS, *]; rfl)) (by refine wkR_row ?_; repeat' (first | exact trivial | refine wkL_c (by decide +kernel) ?_)) | exact Nat.le_of_ble_eq_true (by kernel_rfl)) ?_ | refine nqif_ways (fun h => ?_) ?_ | ((first | refine gif_ways (fun h => ?_) (fun h => ?_) | refine cif_ways (fun h => ?_) (fun h => ?_)) <;> (try simp only [sxn] at h) <;> (try (exfalso; omega)))) <;> (try (simp (maxSteps := 4000000) (disch := omega) only [sx, Value.oneCell', ↓reduceIte, Nat.reduceAdd, Nat.reduceMul, Nat.reduceEqDiff, Nat.reduceLT, Nat.reduceLeDiff, Int.reduceToNat, Int.reduceEq, Int.reduceLT, Int.reduceLE, Int.reduceNe, *])))))
  refine vloop (fun n tm hp nx => ∃ (k b2 b6 : Nat) (A : List AV), n = 6 - k ∧ k ≤ 6 ∧ tm 2 = .pt b2 0 0 ∧ hp b2 = some ⟨26, [[.ex (.int .i64 0), .ex (.int .i64 0), .ex (.int .i64 0), .ex (.int .i64 0), .ex (.int .i64 0), .ex (.int .i64 0), .ex (.string ⟨#[]⟩), .ex (.string ⟨#[]⟩), .ex (.slice none 0 0), .ex (.int .u64 0)]], true⟩ ∧ b2 < nx ∧ tm 4 = .sl [[.ex (.string a)], [.ex (.string b)], [.ex (.string c)], [.ex (.string d)], [.ex (.string e)], [.ex (.string f)], [.ex (.string g)], [.ex (.string i)], [.ex (.string j)]] ∧ tm 6 = .pt b6 0 0 ∧ hp b6 = some ⟨94, [A], true⟩ ∧ b6 < nx ∧ ¬ b2 = b6 ∧ ¬ b6 = b2 ∧ tm 22 = .ex (.int .i64 k) ∧ A.length = 6 ∧ Hid (A = arrK [takeV a.data.toList, takeV b.data.toList, takeV c.data.toList, takeV d.data.toList, takeV e.data.toList, takeV f.data.toList] k) ∧ Hid (∀ (q : Nat) y, q < k → [a, b, c, d, e, f][q]? = some y → takeE y.data.toList = 0)) 6 ⟨0, _, _, _, rfl, Nat.zero_le _, by (simp (disch := omega) only [sx, natS, ↓reduceIte, Nat.reduceAdd, Nat.reduceEqDiff, Nat.reduceLeDiff, *]; (try rfl)), by (simp (disch := omega) only [sx, natS, ↓reduceIte, Nat.reduceAdd, Nat.reduceEqDiff, Nat.reduceLeDiff, *]; (try rfl)), by omega, by (simp (disch := omega) only [sx, natS, ↓reduceIte, Nat.reduceAdd, Nat.reduceEqDiff, Nat.reduceLeDiff, *]; (try rfl)), by (simp (disch := omega) only [sx, natS, ↓reduceIte, Nat.reduceAdd, Nat.reduceEqDiff, Nat.reduceLeDiff, *]; (try rfl)), by (simp (disch := omega) only [sx, natS, ↓reduceIte, Nat.reduceAdd, Nat.reduceEqDiff, Nat.reduceLeDiff, *]; (try rfl)), by omega, by omega, by omega, by (first | rfl | (simp (disch := omega) only [sx, natS, ↓reduceIte, Nat.reduceAdd, Nat.reduceEqDiff, Nat.reduceLeDiff, *])), rfl, Lib.hid rfl, Lib.hid (fun q y hq _ => by omega)⟩ ?_
  clear c1
  rintro n tm hp nx ⟨k, b2, b6, A, hn, hk, g2, gh2, hb2, g4, g6, gh6, hb6, n1, n2, g22, hA6, hA, hE⟩
  by_cases hlt : k < 6
  · obtain ⟨t, e0⟩ : ∃ t, [a, b, c, d, e, f][k]? = some t := ⟨_, List.getElem?_eq_getElem (show k < [a, b, c, d, e, f].length from hlt)⟩
    have q4 : ([[.ex (.string a)], [.ex (.string b)], [.ex (.string c)], [.ex (.string d)], [.ex (.string e)], [.ex (.string f)], [.ex (.string g)], [.ex (.string i)], [.ex (.string j)]] : List (List AV))[k]? = some [.ex (.string t)] := by
      rw [← q1]
      refine texts_get' ?_
      have : [a, b, c, d, e, f, g, i, j] = [a, b, c, d, e, f] ++ [g, i, j] := rfl
      rw [this, List.getElem?_append_left (show k < [a, b, c, d, e, f].length from hlt)]
      exact e0
    have c2 := TakeInt_con t (Nat.le_trans (hsz.out t (by show t ∈ [a, b, c, d, e, f] ++ [g, i, j]; exact List.mem_append_left _ (List.mem_of_getElem? e0))) (by decide))
    have hk1 : k * 1 = k := Nat.mul_one k
    by_cases ht : takeE t.data.toList = 0
    · have e1 : ([takeV a.data.toList, takeV b.data.toList, takeV c.data.toList, takeV d.data.toList, takeV e.data.toList, takeV f.data.toList] : List Int)[k]? = some (takeV t.data.toList) := by
        have : ([takeV a.data.toList, takeV b.data.toList, takeV c.data.toList, takeV d.data.toList, takeV e.data.toList, takeV f.data.toList] : List Int) = [a, b, c, d, e, f].map fun t => takeV t.data.toList := rfl
        rw [this, List.getElem?_map, e0]; rfl
      have hst := arrK_next e1 hv hlt
      rw [← hA.out] at hst
      have hst2 := Lib.hid hst
      have hl2 := arrK_len (k := k + 1) hv (by omega)
      have hE2 := Lib.hid (upto (p := fun y : ByteArray => takeE y.data.toList = 0) e0 hE.out ht)
      rw [ht] at c2
      clear e0 e1 ht hst hsz q1 hdef0
      (repeat' (first | refine awp_seq ?_ | refine awp_block ?_ | (refine awp_ret ?_; simp only [then_ret, block_ret, end_ret]) | ((first | refine call_val (by first | (simp only [sxd, z0, p0, Nat.reduceEqDiff, ↓reduceIte]; (try rfl); done) | (simp (disch := omega) only [sxd, z0, p0, sx, Value.oneCell', ↓reduceIte, Nat.reduceAdd, Nat.reduceMul, Nat.reduceEqDiff, Nat.reduceLT, Nat.reduceLeDiff, Int.reduceToNat, Int.reduceEq, Int.reduceLT, Int.reduceLE, Int.reduceNe, *]; (try rfl); done)) (c2) ?_ | refine vplain ?_ | refine vdraws (by kernel_rfl) ?_ | refine vcond ?_ | refine awp_exit ?_ | refine awp_skip ?_ | refine And.intro (by first | omega | assumption | exact setOk_ge (by decide +kernel) | exact setOk_late (by decide +kernel) (by (simp (disch := omega) only [sx, Value.oneCell', ↓reduceIte, Nat.reduceAdd, Nat.reduceMul, Nat.reduceEqDiff, Nat.reduceLT, Nat.reduceLeDiff, Int.reduceToNat, Int.reduceEq, Int.reduceLT, Int.reduceLE, Int.reduceNe, natS, *]; rfl)) (by refine wkR_row ?_; repeat' (first | exact trivial | refine wkL_c (by decide +kernel) ?_)) | exact Nat.le_of_ble_eq_true (by kernel_rfl)) ?_ | refine nqif_ways (fun h => ?_) ?_ | ((first | refine gif_ways (fun h => ?_) (fun h => ?_) | refine cif_ways (fun h => ?_) (fun h => ?_)) <;> (try simp only [sxn] at h) <;> (try (exfalso; omega)))) <;> (try (simp (maxSteps := 4000000) (disch := omega) only [sx, Value.oneCell', ↓reduceIte, Nat.reduceAdd, Nat.reduceMul, Nat.reduceEqDiff, Nat.reduceLT, Nat.reduceLeDiff, Int.reduceToNat, Int.reduceEq, Int.reduceLT, Int.reduceLE, Int.reduceNe, *])))))
      exact kround_i (6 - (k + 1)) (by omega) ⟨k + 1, b2, b6, _, by omega, by omega, by (simp (disch := omega) only [sx, natS, ↓reduceIte, Nat.reduceAdd, Nat.reduceEqDiff, Nat.reduceLeDiff, *]; (try rfl)), by (simp (disch := omega) only [sx, natS, ↓reduceIte, Nat.reduceAdd, Nat.reduceEqDiff, Nat.reduceLeDiff, *]; (try rfl)), by omega, by (simp (disch := omega) only [sx, natS, ↓reduceIte, Nat.reduceAdd, Nat.reduceEqDiff, Nat.reduceLeDiff, *]; (try rfl)), by (simp (disch := omega) only [sx, natS, ↓reduceIte, Nat.reduceAdd, Nat.reduceEqDiff, Nat.reduceLeDiff, *]; (try rfl)), by (simp (disch := omega) only [sx, natS, ↓reduceIte, Nat.reduceAdd, Nat.reduceEqDiff, Nat.reduceLeDiff, *]; (try rfl)), by omega, n1, n2, by (simp (disch := omega) only [sx, natS, ↓reduceIte, Nat.reduceAdd, Nat.reduceEqDiff, Nat.reduceLeDiff, *]; (try rfl)), by (rw [hst2.out]; exact hl2), hst2, hE2⟩
    · have hr := sixE_stop e0 hE.out ht
      have hdef := hdef0.out
      rw [hr, if_neg ht] at hdef
      rw [hdef]
      unfold zeroE
      rw [legs_nil]
      clear e0 hr hsz q1 hdef hdef0
      (repeat' (first | refine awp_seq ?_ | refine awp_block ?_ | (refine awp_ret ?_; simp only [then_ret, block_ret, end_ret]) | ((first | refine call_val (by first | (simp only [sxd, z0, p0, Nat.reduceEqDiff, ↓reduceIte]; (try rfl); done) | (simp (disch := omega) only [sxd, z0, p0, sx, Value.oneCell', ↓reduceIte, Nat.reduceAdd, Nat.reduceMul, Nat.reduceEqDiff, Nat.reduceLT, Nat.reduceLeDiff, Int.reduceToNat, Int.reduceEq, Int.reduceLT, Int.reduceLE, Int.reduceNe, *]; (try rfl); done)) (c2) ?_ | refine vplain ?_ | refine vdraws (by kernel_rfl) ?_ | refine vcond ?_ | refine awp_exit ?_ | refine awp_skip ?_ | refine And.intro (by first | omega | assumption | exact setOk_ge (by decide +kernel) | exact setOk_late (by decide +kernel) (by (simp (disch := omega) only [sx, Value.oneCell', ↓reduceIte, Nat.reduceAdd, Nat.reduceMul, Nat.reduceEqDiff, Nat.reduceLT, Nat.reduceLeDiff, Int.reduceToNat, Int.reduceEq, Int.reduceLT, Int.reduceLE, Int.reduceNe, natS, *]; rfl)) (by refine wkR_row ?_; repeat' (first | exact trivial | refine wkL_c (by decide +kernel) ?_)) | exact Nat.le_of_ble_eq_true (by kernel_rfl)) ?_ | refine nqif_ways (fun h => ?_) ?_ | ((first | refine gif_ways (fun h => ?_) (fun h => ?_) | refine cif_ways (fun h => ?_) (fun h => ?_)) <;> (try simp only [sxn] at h) <;> (try (exfalso; omega)))) <;> (try (simp (maxSteps := 4000000) (disch := omega) only [sx, Value.oneCell', ↓reduceIte, Nat.reduceAdd, Nat.reduceMul, Nat.reduceEqDiff, Nat.reduceLT, Nat.reduceLeDiff, Int.reduceToNat, Int.reduceEq, Int.reduceLT, Int.reduceLE, Int.reduceNe, *])))))
      all_goals (refine aretc_2 rfl (by (simp (disch := omega) only [sx, natS, ↓reduceIte, Nat.reduceAdd, Nat.reduceEqDiff, Nat.reduceLeDiff, *]; (try rfl))) (by (simp (disch := omega) only [sx, natS, ↓reduceIte, Nat.reduceAdd, Nat.reduceEqDiff, Nat.reduceLeDiff, *]; (try rfl))) (by first | rfl | (simp (disch := omega) only [sx, natS, ↓reduceIte, Nat.reduceAdd, Nat.reduceEqDiff, Nat.reduceLeDiff, *]; (try rfl))) (by simp only [ATy.isAgg, tyb]) (by simp only [tyb]; rfl) (by exact Nat.zero_lt_succ _) (by (simp (disch := omega) only [sx, natS, ↓reduceIte, Nat.reduceAdd, Nat.reduceEqDiff, Nat.reduceLeDiff, *]; (try rfl))) (by first | (simp only [sxd, z0, p0, Nat.reduceEqDiff, ↓reduceIte]; rfl) | (simp only [sxd, z0, p0, Nat.reduceEqDiff, ↓reduceIte, *]; rfl) | (simp (disch := omega) only [sxd, z0, p0, Nat.reduceEqDiff, ↓reduceIte, sx, Value.oneCell', ↓reduceIte, Nat.reduceAdd, Nat.reduceMul, Nat.reduceEqDiff, Nat.reduceLT, Nat.reduceLeDiff, Int.reduceToNat, Int.reduceEq, Int.reduceLT, Int.reduceLE, Int.reduceNe, *]; rfl)) ?_)
      all_goals first | rfl | simp only [*]
  · have hk6 : k = 6 := by omega
    subst hk6
    have hr : sixE [a, b, c, d, e, f] = 0 := sixE_ok fun q y hy => hE.out q y (List.getElem?_eq_some_iff.1 hy).1 hy
    have hA1 : A = [.ex (.int .i64 (takeV a.data.toList)), .ex (.int .i64 (takeV b.data.toList)), .ex (.int .i64 (takeV c.data.toList)), .ex (.int .i64 (takeV d.data.toList)), .ex (.int .i64 (takeV e.data.toList)), .ex (.int .i64 (takeV f.data.toList))] := hA.out
    subst hA1
    have hdef := hdef0.out
    rw [hr, if_pos rfl] at hdef
    have c3 := legs_con j (by omega)
    clear hA hE hr hsz q1
    by_cases hz : (legsD j).2 = 0
    · rw [hz, if_pos rfl] at hdef
      rw [hdef]
      rw [hz] at c3
      clear hdef hz
      (repeat' (first | refine awp_seq ?_ | refine awp_block ?_ | (refine awp_ret ?_; simp only [then_ret, block_ret, end_ret]) | ((first | refine call_val (by first | (simp only [sxd, z0, p0, Nat.reduceEqDiff, ↓reduceIte]; (try rfl); done) | (simp (disch := omega) only [sxd, z0, p0, sx, Value.oneCell', ↓reduceIte, Nat.reduceAdd, Nat.reduceMul, Nat.reduceEqDiff, Nat.reduceLT, Nat.reduceLeDiff, Int.reduceToNat, Int.reduceEq, Int.reduceLT, Int.reduceLE, Int.reduceNe, *]; (try rfl); done)) (c3) ?_ | refine vplain ?_ | refine vdraws (by kernel_rfl) ?_ | refine vcond ?_ | refine awp_exit ?_ | refine awp_skip ?_ | refine And.intro (by first | omega | assumption | exact setOk_ge (by decide +kernel) | exact setOk_late (by decide +kernel) (by (simp (disch := omega) only [sx, Value.oneCell', ↓reduceIte, Nat.reduceAdd, Nat.reduceMul, Nat.reduceEqDiff, Nat.reduceLT, Nat.reduceLeDiff, Int.reduceToNat, Int.reduceEq, Int.reduceLT, Int.reduceLE, Int.reduceNe, natS, *]; rfl)) (by refine wkR_row ?_; repeat' (first | exact trivial | refine wkL_c (by decide +kernel) ?_)) | exact Nat.le_of_ble_eq_true (by kernel_rfl)) ?_ | refine nqif_ways (fun h => ?_) ?_ | ((first | refine gif_ways (fun h => ?_) (fun h => ?_) | refine cif_ways (fun h => ?_) (fun h => ?_)) <;> (try simp only [sxn] at h) <;> (try (exfalso; omega)))) <;> (try (simp (maxSteps := 4000000) (disch := omega) only [sx, Value.oneCell', ↓reduceIte, Nat.reduceAdd, Nat.reduceMul, Nat.reduceEqDiff, Nat.reduceLT, Nat.reduceLeDiff, Int.reduceToNat, Int.reduceEq, Int.reduceLT, Int.reduceLE, Int.reduceNe, *])))))
      all_goals (refine aretc_2 rfl (by (simp (disch := omega) only [sx, natS, ↓reduceIte, Nat.reduceAdd, Nat.reduceEqDiff, Nat.reduceLeDiff, *]; (try rfl))) (by (simp (disch := omega) only [sx, natS, ↓reduceIte, Nat.reduceAdd, Nat.reduceEqDiff, Nat.reduceLeDiff, *]; (try rfl))) (by first | rfl | (simp (disch := omega) only [sx, natS, ↓reduceIte, Nat.reduceAdd, Nat.reduceEqDiff, Nat.reduceLeDiff, *]; (try rfl))) (by simp only [ATy.isAgg, tyb]) (by simp only [tyb]; rfl) (by exact Nat.zero_lt_succ _) (by (simp (disch := omega) only [sx, natS, ↓reduceIte, Nat.reduceAdd, Nat.reduceEqDiff, Nat.reduceLeDiff, *]; (try rfl))) (by first | (simp only [sxd, z0, p0, Nat.reduceEqDiff, ↓reduceIte]; rfl) | (simp only [sxd, z0, p0, Nat.reduceEqDiff, ↓reduceIte, *]; rfl) | (simp (disch := omega) only [sxd, z0, p0, Nat.reduceEqDiff, ↓reduceIte, sx, Value.oneCell', ↓reduceIte, Nat.reduceAdd, Nat.reduceMul, Nat.reduceEqDiff, Nat.reduceLT, Nat.reduceLeDiff, Int.reduceToNat, Int.reduceEq, Int.reduceLT, Int.reduceLE, Int.reduceNe, *]; rfl)) ?_)
      all_goals first | rfl | simp only [*]
    · rw [if_neg hz] at hdef
      rw [hdef]
      unfold zeroE
      rw [legs_nil]
      clear hdef
      (repeat' (first | refine awp_seq ?_ | refine awp_block ?_ | (refine awp_ret ?_; simp only [then_ret, block_ret, end_ret]) | ((first | refine call_val (by first | (simp only [sxd, z0, p0, Nat.reduceEqDiff, ↓reduceIte]; (try rfl); done) | (simp (disch := omega) only [sxd, z0, p0, sx, Value.oneCell', ↓reduceIte, Nat.reduceAdd, Nat.reduceMul, Nat.reduceEqDiff, Nat.reduceLT, Nat.reduceLeDiff, Int.reduceToNat, Int.reduceEq, Int.reduceLT, Int.reduceLE, Int.reduceNe, *]; (try rfl); done)) (c3) ?_ | refine vplain ?_ | refine vdraws (by kernel_rfl) ?_ | refine vcond ?_ | refine awp_exit ?_ | refine awp_skip ?_ | refine And.intro (by first | omega | assumption | exact setOk_ge (by decide +kernel) | exact setOk_late (by decide +kernel) (by (simp (disch := omega) only [sx, Value.oneCell', ↓reduceIte, Nat.reduceAdd, Nat.reduceMul, Nat.reduceEqDiff, Nat.reduceLT, Nat.reduceLeDiff, Int.reduceToNat, Int.reduceEq, Int.reduceLT, Int.reduceLE, Int.reduceNe, natS, *]; rfl)) (by refine wkR_row ?_; repeat' (first | exact trivial | refine wkL_c (by decide +kernel) ?_)) | exact Nat.le_of_ble_eq_true (by kernel_rfl)) ?_ | refine nqif_ways (fun h => ?_) ?_ | ((first | refine gif_ways (fun h => ?_) (fun h => ?_) | refine cif_ways (fun h => ?_) (fun h => ?_)) <;> (try simp only [sxn] at h) <;> (try (exfalso; omega)))) <;> (try (simp (maxSteps := 4000000) (disch := omega) only [sx, Value.oneCell', ↓reduceIte, Nat.reduceAdd, Nat.reduceMul, Nat.reduceEqDiff, Nat.reduceLT, Nat.reduceLeDiff, Int.reduceToNat, Int.reduceEq, Int.reduceLT, Int.reduceLE, Int.reduceNe, *])))))
      all_goals (refine aretc_2 rfl (by (simp (disch := omega) only [sx, natS, ↓reduceIte, Nat.reduceAdd, Nat.reduceEqDiff, Nat.reduceLeDiff, *]; (try rfl))) (by (simp (disch := omega) only [sx, natS, ↓reduceIte, Nat.reduceAdd, Nat.reduceEqDiff, Nat.reduceLeDiff, *]; (try rfl))) (by first | rfl | (simp (disch := omega) only [sx, natS, ↓reduceIte, Nat.reduceAdd, Nat.reduceEqDiff, Nat.reduceLeDiff, *]; (try rfl))) (by simp only [ATy.isAgg, tyb]) (by simp only [tyb]; rfl) (by exact Nat.zero_lt_succ _) (by (simp (disch := omega) only [sx, natS, ↓reduceIte, Nat.reduceAdd, Nat.reduceEqDiff, Nat.reduceLeDiff, *]; (try rfl))) (by first | (simp only [sxd, z0, p0, Nat.reduceEqDiff, ↓reduceIte]; rfl) | (simp only [sxd, z0, p0, Nat.reduceEqDiff, ↓reduceIte, *]; rfl) | (simp (disch := omega) only [sxd, z0, p0, Nat.reduceEqDiff, ↓reduceIte, sx, Value.oneCell', ↓reduceIte, Nat.reduceAdd, Nat.reduceMul, Nat.reduceEqDiff, Nat.reduceLT, Nat.reduceLeDiff, Int.reduceToNat, Int.reduceEq, Int.reduceLT, Int.reduceLE, Int.reduceNe, *]; rfl)) ?_)
      all_goals first | rfl | simp only [*]

theorem Decode_con (s : ByteArray) (hs : s.size ≤ 1000000) : Con Tryd.prog Ctx 46 [.ex (.string s)] (.val (.tup [.agg [.ex (.int .i64 (decE s).1.id), .ex (.int .i64 (decE s).1.booked), .ex (.int .i64 (decE s).1.value), .ex (.int .i64 (decE s).1.kind), .ex (.int .i64 (decE s).1.auth), .ex (.int .i64 (decE s).1.period), .ex (.string (decE s).1.key), .ex (.string (decE s).1.text), .sl (legsC (decE s).1.legs), .ex (.int .u64 (decE s).1.chain)], .ex (.int .i64 (decE s).2)])) := by
  have c1 := up (Unpack_con s hs)
  unfold decE
  obtain ⟨⟨l, e⟩, hU⟩ : ∃ u, unpF s.data.toList = u := ⟨_, rfl⟩
  rw [hU] at c1 ⊢
  have hsz := Lib.hid (unp_small hU)
  have hln := unp_many hU
  clear hU
  by_cases he : e = 0
  · subst he
    rw [if_pos rfl]
    dsimp only
    by_cases h9 : l.length = 9
    · obtain ⟨a, b, c, d, e, f, g, i, j, rfl⟩ := nine h9
      exact Decode_con_9 s a b c d e f g i j hs c1 hsz
    · rw [decG_len h9]
      have q := texts_len' l
      unfold zeroE
      rw [legs_nil]
      clear hsz
      (refine con_val baseC Tryd.func46 rfl rfl (by kernel_rfl) (Nat.le_of_ble_eq_true rfl) ?_; rw [init_eq])
      (repeat' (first | refine awp_seq ?_ | refine awp_block ?_ | (refine awp_ret ?_; simp only [then_ret, block_ret, end_ret]) | ((first | refine call_val (by first | (simp only [sxd, z0, p0, Nat.reduceEqDiff, ↓reduceIte]; (try rfl); done) | (simp (disch := omega) only [sxd, z0, p0, sx, Value.oneCell', ↓reduceIte, Nat.reduceAdd, Nat.reduceMul, Nat.reduceEqDiff, Nat.reduceLT, Nat.reduceLeDiff, Int.reduceToNat, Int.reduceEq, Int.reduceLT, Int.reduceLE, Int.reduceNe, *]; (try rfl); done)) (c1) ?_ | refine vplain ?_ | refine vdraws (by kernel_rfl) ?_ | refine vcond ?_ | refine awp_exit ?_ | refine awp_skip ?_ | refine And.intro (by first | omega | assumption | exact setOk_ge (by decide +kernel) | exact setOk_late (by decide +kernel) (by (simp (disch := omega) only [sx, Value.oneCell', ↓reduceIte, Nat.reduceAdd, Nat.reduceMul, Nat.reduceEqDiff, Nat.reduceLT, Nat.reduceLeDiff, Int.reduceToNat, Int.reduceEq, Int.reduceLT, Int.reduceLE, Int.reduceNe, natS, *]; rfl)) (by refine wkR_row ?_; repeat' (first | exact trivial | refine wkL_c (by decide +kernel) ?_)) | exact Nat.le_of_ble_eq_true (by kernel_rfl)) ?_ | refine nqif_ways (fun h => ?_) ?_ | ((first | refine gif_ways (fun h => ?_) (fun h => ?_) | refine cif_ways (fun h => ?_) (fun h => ?_)) <;> (try simp only [sxn] at h) <;> (try (exfalso; omega)))) <;> (try (simp (disch := omega) only [sx, Value.oneCell', ↓reduceIte, Nat.reduceAdd, Nat.reduceMul, Nat.reduceEqDiff, Nat.reduceLT, Nat.reduceLeDiff, Int.reduceToNat, Int.reduceEq, Int.reduceLT, Int.reduceLE, Int.reduceNe, *])))))
      all_goals (refine aretc_2 rfl (by (simp (disch := omega) only [sx, natS, ↓reduceIte, Nat.reduceAdd, Nat.reduceEqDiff, Nat.reduceLeDiff, *]; (try rfl))) (by (simp (disch := omega) only [sx, natS, ↓reduceIte, Nat.reduceAdd, Nat.reduceEqDiff, Nat.reduceLeDiff, *]; (try rfl))) (by first | rfl | (simp (disch := omega) only [sx, natS, ↓reduceIte, Nat.reduceAdd, Nat.reduceEqDiff, Nat.reduceLeDiff, *]; (try rfl))) (by simp only [ATy.isAgg, tyb]) (by simp only [tyb]; rfl) (by exact Nat.zero_lt_succ _) (by (simp (disch := omega) only [sx, natS, ↓reduceIte, Nat.reduceAdd, Nat.reduceEqDiff, Nat.reduceLeDiff, *]; (try rfl))) (by first | (simp only [sxd, z0, p0, Nat.reduceEqDiff, ↓reduceIte]; rfl) | (simp only [sxd, z0, p0, Nat.reduceEqDiff, ↓reduceIte, *]; rfl) | (simp (disch := omega) only [sxd, z0, p0, Nat.reduceEqDiff, ↓reduceIte, sx, Value.oneCell', ↓reduceIte, Nat.reduceAdd, Nat.reduceMul, Nat.reduceEqDiff, Nat.reduceLT, Nat.reduceLeDiff, Int.reduceToNat, Int.reduceEq, Int.reduceLT, Int.reduceLE, Int.reduceNe, *]; rfl)) ?_)
      all_goals first | rfl | simp only [*]
  · rw [if_neg he]
    dsimp only
    unfold zeroE
    rw [legs_nil]
    clear hsz
    (refine con_val baseC Tryd.func46 rfl rfl (by kernel_rfl) (Nat.le_of_ble_eq_true rfl) ?_; rw [init_eq])
    (repeat' (first | refine awp_seq ?_ | refine awp_block ?_ | (refine awp_ret ?_; simp only [then_ret, block_ret, end_ret]) | ((first | refine call_val (by first | (simp only [sxd, z0, p0, Nat.reduceEqDiff, ↓reduceIte]; (try rfl); done) | (simp (disch := omega) only [sxd, z0, p0, sx, Value.oneCell', ↓reduceIte, Nat.reduceAdd, Nat.reduceMul, Nat.reduceEqDiff, Nat.reduceLT, Nat.reduceLeDiff, Int.reduceToNat, Int.reduceEq, Int.reduceLT, Int.reduceLE, Int.reduceNe, *]; (try rfl); done)) (c1) ?_ | refine vplain ?_ | refine vdraws (by kernel_rfl) ?_ | refine vcond ?_ | refine awp_exit ?_ | refine awp_skip ?_ | refine And.intro (by first | omega | assumption | exact setOk_ge (by decide +kernel) | exact setOk_late (by decide +kernel) (by (simp (disch := omega) only [sx, Value.oneCell', ↓reduceIte, Nat.reduceAdd, Nat.reduceMul, Nat.reduceEqDiff, Nat.reduceLT, Nat.reduceLeDiff, Int.reduceToNat, Int.reduceEq, Int.reduceLT, Int.reduceLE, Int.reduceNe, natS, *]; rfl)) (by refine wkR_row ?_; repeat' (first | exact trivial | refine wkL_c (by decide +kernel) ?_)) | exact Nat.le_of_ble_eq_true (by kernel_rfl)) ?_ | refine nqif_ways (fun h => ?_) ?_ | ((first | refine gif_ways (fun h => ?_) (fun h => ?_) | refine cif_ways (fun h => ?_) (fun h => ?_)) <;> (try simp only [sxn] at h) <;> (try (exfalso; omega)))) <;> (try (simp (disch := omega) only [sx, Value.oneCell', ↓reduceIte, Nat.reduceAdd, Nat.reduceMul, Nat.reduceEqDiff, Nat.reduceLT, Nat.reduceLeDiff, Int.reduceToNat, Int.reduceEq, Int.reduceLT, Int.reduceLE, Int.reduceNe, *])))))
    all_goals (refine aretc_2 rfl (by (simp (disch := omega) only [sx, natS, ↓reduceIte, Nat.reduceAdd, Nat.reduceEqDiff, Nat.reduceLeDiff, *]; (try rfl))) (by (simp (disch := omega) only [sx, natS, ↓reduceIte, Nat.reduceAdd, Nat.reduceEqDiff, Nat.reduceLeDiff, *]; (try rfl))) (by first | rfl | (simp (disch := omega) only [sx, natS, ↓reduceIte, Nat.reduceAdd, Nat.reduceEqDiff, Nat.reduceLeDiff, *]; (try rfl))) (by simp only [ATy.isAgg, tyb]) (by simp only [tyb]; rfl) (by exact Nat.zero_lt_succ _) (by (simp (disch := omega) only [sx, natS, ↓reduceIte, Nat.reduceAdd, Nat.reduceEqDiff, Nat.reduceLeDiff, *]; (try rfl))) (by first | (simp only [sxd, z0, p0, Nat.reduceEqDiff, ↓reduceIte]; rfl) | (simp only [sxd, z0, p0, Nat.reduceEqDiff, ↓reduceIte, *]; rfl) | (simp (disch := omega) only [sxd, z0, p0, Nat.reduceEqDiff, ↓reduceIte, sx, Value.oneCell', ↓reduceIte, Nat.reduceAdd, Nat.reduceMul, Nat.reduceEqDiff, Nat.reduceLT, Nat.reduceLeDiff, Int.reduceToNat, Int.reduceEq, Int.reduceLT, Int.reduceLE, Int.reduceNe, *]; rfl)) ?_)
    all_goals first | rfl | simp only [*]
end Go.Proofs.YtmnnphalljnmhaaDoor
