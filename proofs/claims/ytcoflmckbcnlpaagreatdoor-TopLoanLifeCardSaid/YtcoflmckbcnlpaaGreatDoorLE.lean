/-
  The least payment, walked. Conditions: those that each theorem states.
  The installments, walked. Conditions: those that each theorem states.
-/
import Derived.Test.YtcoflmckbcnlpaaGreatDoorLD
namespace Go.Proofs.YtcoflmckbcnlpaaGreatDoor
open Go.RowKit
set_option maxRecDepth 100000
set_option linter.unusedSimpArgs false
def enoughB (I : Int → Int) (cnt : Nat) (p bal pay : Int) : Bool := (restF I pay cnt p).isSome && decide (restV (restF I pay cnt p) ≤ bal)
def bsF (en : Int → Bool) : Nat → Int → Int → Int
  | 0, _, h => h
  | n + 1, l, h => if l < h then (if en ((l + h) / 2) = true then bsF en n l ((l + h) / 2) else bsF en n ((l + h) / 2 + 1) h) else h
theorem bsF_spec {en : Int → Bool} : ∀ (n : Nat) (l h : Int), en h = true → l ≤ h → en (bsF en n l h) = true ∧ l ≤ bsF en n l h ∧ bsF en n l h ≤ h
  | 0, l, h, e, hl => ⟨e, hl, Int.le_refl _⟩
  | n + 1, l, h, e, hl => by
    rw [bsF]
    split
    · split
      · rename_i h1 h2
        have := bsF_spec n l ((l + h) / 2) h2 (by omega)
        exact ⟨this.1, this.2.1, by omega⟩
      · rename_i h1 h2
        have := bsF_spec n ((l + h) / 2 + 1) h e (by omega)
        exact ⟨this.1, by omega, this.2.2⟩
    · exact ⟨e, hl, Int.le_refl _⟩
theorem pay1_con (hD : DivOk) {ppm every mode : Int} (h : ITerm ppm every mode) (p cnt bal pay : Int) (h0 : 0 ≤ p) (h1 : p ≤ 1000000000000) (c1 : cnt ≤ 1000) (y0 : 0 ≤ pay) (y1 : pay ≤ 1000000000000) :
    Con Tryz.prog CtxP 58 [.ex (.int .i64 pay), .rp [.ex (.int .i64 ppm), .ex (.int .i64 every), .ex (.int .i64 mode)] 0, .rp [.ex (.int .i64 p)] 0, .rp [.ex (.int .i64 cnt)] 0, .rp [.ex (.int .i64 bal)] 0] (.val (.ex (.bool (enoughB (intr ppm every mode) cnt.toNat p bal pay)))) := by
  have a1 := rest_con hD h p cnt pay h0 h1 c1 y0 y1
  unfold enoughB
  generalize restF (intr ppm every mode) pay cnt.toNat p = R at *
  cases R with
  | none =>
    have r1 : restV none = 0 := rfl
    have r2 : (none : Option Int).isSome = false := rfl
    rw [r2] at a1
    (refine con_val base Tryz.func58 rfl rfl (by kernel_rfl) (Nat.le_of_ble_eq_true rfl) ?_; rw [init_eq])
    (repeat' (first | exact trivial | refine stq ?_ | (refine awp_ret ?_; simp only [then_ret, block_ret, end_ret]) | ((first | refine cv (a1) ?_ | refine stp ?_ | refine nqif_ways (fun h => ?_) ?_ | ((first | refine gif_ways (fun h => ?_) (fun h => ?_) | refine cif_ways (fun h => ?_) (fun h => ?_)) <;> (try simp only [sxn] at h) <;> (try (exfalso; omega)))) <;> (try (refine wS ?_)))))
    all_goals simp only [sxd, z0, p0, Nat.reduceEqDiff, ↓reduceIte, Tryz.f58, *]
    all_goals rfl
  | some z =>
    have r1 : restV (some z) = z := rfl
    have r2 : (some z).isSome = true := rfl
    rw [r1, r2] at *
    (refine con_val base Tryz.func58 rfl rfl (by kernel_rfl) (Nat.le_of_ble_eq_true rfl) ?_; rw [init_eq])
    (repeat' (first | exact trivial | refine stq ?_ | (refine awp_ret ?_; simp only [then_ret, block_ret, end_ret]) | ((first | refine cv (a1) ?_ | refine stp ?_ | refine nqif_ways (fun h => ?_) ?_ | ((first | refine gif_ways (fun h => ?_) (fun h => ?_) | refine cif_ways (fun h => ?_) (fun h => ?_)) <;> (try simp only [sxn] at h) <;> (try (exfalso; omega)))) <;> (try (refine wS ?_)))))
    all_goals simp only [sxd, z0, p0, Nat.reduceEqDiff, ↓reduceIte, Tryz.f58, *]
    all_goals rfl
theorem bs_step {en : Int → Bool} {n : Nat} {l h : Int} (hl : l < h) : bsF en (n + 1) l h = if en ((l + h) / 2) = true then bsF en n l ((l + h) / 2) else bsF en n ((l + h) / 2 + 1) h := by rw [bsF, if_pos hl]
theorem bs_end {en : Int → Bool} {n : Nat} {l h : Int} (hl : ¬ l < h) : bsF en n l h = h := by
  cases n with
  | zero => rfl
  | succ n => rw [bsF, if_neg hl]
set_option maxHeartbeats 2000000 in
theorem Payment_con (hD : DivOk) {ppm every mode : Int} (h : ITerm ppm every mode) (p cnt bal : Int) (h0 : 0 ≤ p) (h1 : p ≤ 1000000000000) (c0 : 1 ≤ cnt) (c1 : cnt ≤ 120) (l0 : 0 ≤ bal) (l1 : bal ≤ p) {R E : Int}
    (hR : (enoughB (intr ppm every mode) cnt.toNat p bal 1000000000000 = true ∧ R = bsF (enoughB (intr ppm every mode) cnt.toNat p bal) 1000000000000 0 1000000000000 ∧ E = 0) ∨ (enoughB (intr ppm every mode) cnt.toNat p bal 1000000000000 = false ∧ R = 0 ∧ E = 6)) :
    Con Tryz.prog CtxP 19 [.ex (.int .i64 p), .ex (.int .i64 ppm), .ex (.int .i64 every), .ex (.int .i64 mode), .ex (.int .i64 cnt), .ex (.int .i64 bal)] (.val (.tup [.ex (.int .i64 R), .ex (.int .i64 E)])) := by
  have a1 := accepted_con h p h0 h1
  have hP := Lib.hid fun pay (y0 : 0 ≤ pay) (y1 : pay ≤ 1000000000000) => pay1_con hD h p cnt bal pay h0 h1 (by omega) y0 y1
  have a2 := hP.out 1000000000000 (by decide) (by decide)
  generalize enoughB (intr ppm every mode) cnt.toNat p bal = en at *
  have f1 : ¬ cnt < 1 := by omega
  have f2 : ¬ 120 < cnt := by omega
  have f3 : ¬ bal < 0 := by omega
  have f4 : ¬ p < bal := by omega
  rcases hR with ⟨e1, e2, e3⟩ | ⟨e1, e2, e3⟩
  · rw [e1] at a2
    replace e2 := Lib.hid e2
    subst e3
    (refine con_val base Tryz.func19 rfl rfl (by kernel_rfl) (Nat.le_of_ble_eq_true rfl) ?_; rw [init_eq])
    (repeat' (first | exact trivial | refine stq ?_ | (refine awp_ret ?_; simp only [then_ret, block_ret, end_ret]) | ((first | refine cv (a1) ?_ | refine cv (a2) ?_ | refine stp ?_ | refine nqif_ways (fun h => ?_) ?_ | ((first | refine gif_ways (fun h => ?_) (fun h => ?_) | refine cif_ways (fun h => ?_) (fun h => ?_)) <;> (try simp only [sxn] at h) <;> (try (exfalso; omega)))) <;> (try (refine wS ?_)))))
    refine vloop (fun n tm hp nx => ∃ (j b6 b10 b11 b14 : Nat) (l u : Int), n = j ∧ 0 ≤ l ∧ l ≤ u ∧ u ≤ 1000000000000 ∧ u - l ≤ j ∧ Hid (R = bsF en j l u) ∧ tm 15 = .fn 58 [.pt b14 0 0, .pt b6 0 0, .pt b10 0 0, .pt b11 0 0] ∧ hp b14 = some ⟨114, [[.ex (.int .i64 ppm), .ex (.int .i64 every), .ex (.int .i64 mode)]], true⟩ ∧ b14 < nx ∧ hp b6 = some ⟨3, [[.ex (.int .i64 p)]], true⟩ ∧ b6 < nx ∧ hp b10 = some ⟨3, [[.ex (.int .i64 cnt)]], true⟩ ∧ b10 < nx ∧ hp b11 = some ⟨3, [[.ex (.int .i64 bal)]], true⟩ ∧ b11 < nx ∧ tm 16 = .ex (.int .i64 l) ∧ tm 17 = .ex (.int .i64 u)) 1000000000000 ⟨1000000000000, _, _, _, _, 0, 1000000000000, rfl, by decide, by decide, by decide, by decide, e2, by exact byQ, by exact byQ, by omega, by exact byQ, by omega, by exact byQ, by omega, by exact byQ, by omega, by exact byS, by exact byS⟩ ?_
    clear a1 a2 e2
    rintro n tm hp nx ⟨j, b6, b10, b11, b14, l, u, rfl, q0, q1, q2, q3, hz, t15, g14, n14, g6, n6, g10, n10, g11, n11, t16, t17⟩
    by_cases hlu : l < u
    · have a3 := hP.out ((l + u) / 2) (by omega) (by omega)
      have e4 : (l + u).tdiv 2 = (l + u) / 2 := tdiv_nn (by omega)
      have hs := hz.out
      obtain ⟨j, rfl⟩ : ∃ i, n = i + 1 := ⟨n - 1, by omega⟩
      rw [bs_step hlu] at hs
      have m0 : l ≤ (l + u) / 2 ∧ (l + u) / 2 < u := by omega
      have m1 := m0.1
      have m2 := m0.2
      generalize (l + u) / 2 = md at *
      clear hz hP m0
      cases hen : en md with
      | true =>
        rw [hen] at a3 hs
        rw [if_pos rfl] at hs
        replace hs := Lib.hid hs
        clear hen e1
        (repeat' (first | exact trivial | refine stq ?_ | (refine awp_ret ?_; simp only [then_ret, block_ret, end_ret]) | ((first | refine cv (a3) ?_ | refine stp ?_ | refine nqif_ways (fun h => ?_) ?_ | ((first | refine gif_ways (fun h => ?_) (fun h => ?_) | refine cif_ways (fun h => ?_) (fun h => ?_)) <;> (try simp only [sxn] at h) <;> (try (exfalso; omega)))) <;> (try (refine wS ?_)))))
        all_goals exact kround_i j (by omega) ⟨j, b6, b10, b11, b14, l, md, rfl, by omega, by omega, by omega, by omega, hs, by exact byQ, by exact byQ, by omega, by exact byQ, by omega, by exact byQ, by omega, by exact byQ, by omega, by exact byS, by exact byS⟩
      | false =>
        rw [hen] at a3 hs
        rw [if_neg (by simp)] at hs
        replace hs := Lib.hid hs
        clear hen e1
        (repeat' (first | exact trivial | refine stq ?_ | (refine awp_ret ?_; simp only [then_ret, block_ret, end_ret]) | ((first | refine cv (a3) ?_ | refine stp ?_ | refine nqif_ways (fun h => ?_) ?_ | ((first | refine gif_ways (fun h => ?_) (fun h => ?_) | refine cif_ways (fun h => ?_) (fun h => ?_)) <;> (try simp only [sxn] at h) <;> (try (exfalso; omega)))) <;> (try (refine wS ?_)))))
        all_goals exact kround_i j (by omega) ⟨j, b6, b10, b11, b14, md + 1, u, rfl, by omega, by omega, by omega, by omega, hs, by exact byQ, by exact byQ, by omega, by exact byQ, by omega, by exact byQ, by omega, by exact byQ, by omega, by exact byS, by exact byS⟩
    · have hs := hz.out
      rw [bs_end hlu] at hs
      subst hs
      clear hz hP e1
      (repeat' (first | exact trivial | refine stq ?_ | (refine awp_ret ?_; simp only [then_ret, block_ret, end_ret]) | ((first | refine stp ?_ | refine nqif_ways (fun h => ?_) ?_ | ((first | refine gif_ways (fun h => ?_) (fun h => ?_) | refine cif_ways (fun h => ?_) (fun h => ?_)) <;> (try simp only [sxn] at h) <;> (try (exfalso; omega)))) <;> (try (refine wS ?_)))))
      all_goals simp only [sxd, z0, p0, Nat.reduceEqDiff, ↓reduceIte, Tryz.f19, *]
  · rw [e1] at a2
    subst e2 e3
    (refine con_val base Tryz.func19 rfl rfl (by kernel_rfl) (Nat.le_of_ble_eq_true rfl) ?_; rw [init_eq])
    (repeat' (first | exact trivial | refine stq ?_ | (refine awp_ret ?_; simp only [then_ret, block_ret, end_ret]) | ((first | refine cv (a1) ?_ | refine cv (a2) ?_ | refine stp ?_ | refine nqif_ways (fun h => ?_) ?_ | ((first | refine gif_ways (fun h => ?_) (fun h => ?_) | refine cif_ways (fun h => ?_) (fun h => ?_)) <;> (try simp only [sxn] at h) <;> (try (exfalso; omega)))) <;> (try (refine wS ?_)))))
    all_goals simp only [sxd, z0, p0, Nat.reduceEqDiff, ↓reduceIte, Tryz.f19, *]
end Go.Proofs.YtcoflmckbcnlpaaGreatDoor
namespace Go.Proofs.YtcoflmckbcnlpaaGreatDoor
open Go.RowKit
set_option maxRecDepth 100000
set_option linter.unusedSimpArgs false
def dueC (d : DueV) : List AV := [.ex (.int .i64 d.no), .ex (.int .i64 d.day), .ex (.int .i64 d.pr), .ex (.int .i64 d.it)]
def duesC (l : List DueV) : List (List AV) := l.map dueC
theorem dues_len (l : List DueV) : (duesC l).length = l.length := by simp [duesC]
theorem dues_get {l : List DueV} {k : Nat} {d : DueV} (h : l[k]? = some d) : (duesC l)[k]? = some [.ex (.int .i64 d.no), .ex (.int .i64 d.day), .ex (.int .i64 d.pr), .ex (.int .i64 d.it)] := by rw [duesC, List.getElem?_map, h]; rfl
theorem dues_app1 (l : List DueV) (a b c e : Int) : duesC l ++ [[.ex (.int .i64 a), .ex (.int .i64 b), .ex (.int .i64 c), .ex (.int .i64 e)]] = duesC (l ++ [⟨a, b, c, e⟩]) := by simp [duesC, dueC]
theorem dues_p0 (l : List DueV) : ((duesC l).all (·.all p0)) = true := by
  rw [List.all_eq_true]
  intro n hn
  obtain ⟨m, _, rfl⟩ := List.mem_map.1 hn
  rfl
theorem dues_z0 (l : List DueV) : (duesC l).map (·.map z0) = duesC l := by
  rw [duesC, List.map_map]
  exact List.map_congr_left fun m _ => rfl
theorem principal_con (t : TermV) (i : Nat) (left it pay : Int) (p0 : 1 ≤ t.prin) (p1 : t.prin ≤ 1000000000000) (c0 : 1 ≤ t.count) (c1 : t.count ≤ 120) (i1 : i ≤ 1000) (l0 : 0 ≤ left) (l1 : left ≤ 1000000000000) (n0 : 0 ≤ it) (n1 : it ≤ 1000000000000) (y0 : 0 ≤ pay) (y1 : pay ≤ 1000000000000) :
    Con Tryz.prog CtxP 21 [.agg [.ex (.int .i64 t.method), .ex (.int .i64 t.prin), .ex (.int .i64 t.ppm), .ex (.int .i64 t.start), .ex (.int .i64 t.every), .ex (.int .i64 t.count), .ex (.int .i64 t.bal), .ex (.int .i64 t.mode), .ex (.int .i64 t.pen), .ex (.int .i64 t.fee), .ex (.string t.cal), .ex (.string t.cur)], .ex (.int .i64 i), .ex (.int .i64 left), .ex (.int .i64 it), .ex (.int .i64 pay)] (.val (.ex (.int .i64 (partF t.method t.prin t.count pay i left it)))) := by
  have e1 : t.prin.tdiv t.count = t.prin / t.count := tdiv_nn (by omega)
  have e2 : t.prin.tmod t.count = t.prin % t.count := tmod_nn (by omega)
  have b1 : 0 ≤ t.prin / t.count := Int.ediv_nonneg (by omega) (by omega)
  have b2 : t.prin / t.count ≤ t.prin := Int.ediv_le_self _ (by omega)
  have hc : ¬ t.count = 0 := by omega
  by_cases m2 : t.method = 2
  · have hr : partF t.method t.prin t.count pay i left it = t.prin / t.count + (if (i : Int) < t.prin % t.count then 1 else 0) := by unfold partF; rw [if_pos m2]
    generalize partF t.method t.prin t.count pay i left it = R at *
    generalize t.prin / t.count = q at *
    generalize t.prin % t.count = r at *
    by_cases hi : (i : Int) < r
    · rw [if_pos hi] at hr
      (refine con_val base Tryz.func21 rfl rfl (by kernel_rfl) (Nat.le_of_ble_eq_true rfl) ?_; rw [init_eq])
      (repeat' (first | exact trivial | refine stq ?_ | (refine awp_ret ?_; simp only [then_ret, block_ret, end_ret]) | ((first | refine stp ?_ | refine nqif_ways (fun h => ?_) ?_ | ((first | refine gif_ways (fun h => ?_) (fun h => ?_) | refine cif_ways (fun h => ?_) (fun h => ?_)) <;> (try simp only [sxn] at h) <;> (try (exfalso; omega)))) <;> (try (refine wS ?_)))))
      all_goals simp only [sxd, z0, p0, Nat.reduceEqDiff, ↓reduceIte, Tryz.f21, *]
    · rw [if_neg hi] at hr
      replace hr : R = q := by omega
      (refine con_val base Tryz.func21 rfl rfl (by kernel_rfl) (Nat.le_of_ble_eq_true rfl) ?_; rw [init_eq])
      (repeat' (first | exact trivial | refine stq ?_ | (refine awp_ret ?_; simp only [then_ret, block_ret, end_ret]) | ((first | refine stp ?_ | refine nqif_ways (fun h => ?_) ?_ | ((first | refine gif_ways (fun h => ?_) (fun h => ?_) | refine cif_ways (fun h => ?_) (fun h => ?_)) <;> (try simp only [sxn] at h) <;> (try (exfalso; omega)))) <;> (try (refine wS ?_)))))
      all_goals simp only [sxd, z0, p0, Nat.reduceEqDiff, ↓reduceIte, Tryz.f21, *]
  · by_cases m3 : t.method = 3
    · have hr : partF t.method t.prin t.count pay i left it = 0 := by unfold partF; rw [if_neg m2, if_pos m3]
      generalize partF t.method t.prin t.count pay i left it = R at *
      (refine con_val base Tryz.func21 rfl rfl (by kernel_rfl) (Nat.le_of_ble_eq_true rfl) ?_; rw [init_eq])
      (repeat' (first | exact trivial | refine stq ?_ | (refine awp_ret ?_; simp only [then_ret, block_ret, end_ret]) | ((first | refine stp ?_ | refine nqif_ways (fun h => ?_) ?_ | ((first | refine gif_ways (fun h => ?_) (fun h => ?_) | refine cif_ways (fun h => ?_) (fun h => ?_)) <;> (try simp only [sxn] at h) <;> (try (exfalso; omega)))) <;> (try (refine wS ?_)))))
      all_goals simp only [sxd, z0, p0, Nat.reduceEqDiff, ↓reduceIte, Tryz.f21, *]
    · have hr : partF t.method t.prin t.count pay i left it = if left < pay - it then left else pay - it := by unfold partF; rw [if_neg m2, if_neg m3]; split <;> omega
      generalize partF t.method t.prin t.count pay i left it = R at *
      (refine con_val base Tryz.func21 rfl rfl (by kernel_rfl) (Nat.le_of_ble_eq_true rfl) ?_; rw [init_eq])
      (repeat' (first | exact trivial | refine stq ?_ | (refine awp_ret ?_; simp only [then_ret, block_ret, end_ret]) | ((first | refine stp ?_ | refine nqif_ways (fun h => ?_) ?_ | ((first | refine gif_ways (fun h => ?_) (fun h => ?_) | refine cif_ways (fun h => ?_) (fun h => ?_)) <;> (try simp only [sxn] at h) <;> (try (exfalso; omega)))) <;> (try (refine wS ?_)))))
      all_goals simp only [sxd, z0, p0, Nat.reduceEqDiff, ↓reduceIte, Tryz.f21, *]
theorem build_mid {I : Int → Int} {part : Nat → Int → Int → Int} {ds : List Int} {k : Nat} {d left : Int} (e : ds[k]? = some d) (h : k + 1 < ds.length) : buildF I part k left (ds.drop k) = ⟨(k : Int) + 1, d, part k left (I left), I left⟩ :: buildF I part (k + 1) (left - part k left (I left)) (ds.drop (k + 1)) := by
  have hk : k < ds.length := by omega
  rw [List.drop_eq_getElem_cons hk, List.drop_eq_getElem_cons h]
  have : ds[k] = d := by rw [List.getElem?_eq_getElem hk] at e; exact Option.some.inj e
  rw [this, buildF]
theorem build_end {I : Int → Int} {part : Nat → Int → Int → Int} {ds : List Int} {k : Nat} {d left : Int} (e : ds[k]? = some d) (h : k + 1 = ds.length) : buildF I part k left (ds.drop k) = [⟨(k : Int) + 1, d, left, I left⟩] := by
  have hk : k < ds.length := by omega
  rw [List.drop_eq_getElem_cons hk, List.drop_of_length_le (by omega)]
  have : ds[k] = d := by rw [List.getElem?_eq_getElem hk] at e; exact Option.some.inj e
  rw [this, buildF]
def payM (t : TermV) : Bool := decide (t.method = 1) || decide (t.method = 4)
set_option maxHeartbeats 4000000 in
theorem Build_con (hD : DivOk) {t : TermV} {c : CalV} (g : Good t c) {ds : List Int} {E1 pay E2 : Int} (a1 : Con Tryz.prog CtxP 18 [.agg [.ex (.int .i64 t.method), .ex (.int .i64 t.prin), .ex (.int .i64 t.ppm), .ex (.int .i64 t.start), .ex (.int .i64 t.every), .ex (.int .i64 t.count), .ex (.int .i64 t.bal), .ex (.int .i64 t.mode), .ex (.int .i64 t.pen), .ex (.int .i64 t.fee), .ex (.string t.cal), .ex (.string t.cur)], .agg [.ex (.string c.name), .sl (intsC c.we), .sl (intsC c.ho)]] (.val (.tup [.sl (intsC ds), .ex (.int .i64 E1)])))
    (a2 : payM t = true → Con Tryz.prog CtxP 19 [.ex (.int .i64 t.prin), .ex (.int .i64 t.ppm), .ex (.int .i64 t.every), .ex (.int .i64 t.mode), .ex (.int .i64 t.count), .ex (.int .i64 t.bal)] (.val (.tup [.ex (.int .i64 pay), .ex (.int .i64 E2)])))
    (hpay : payM t = false → pay = 0 ∧ E2 = 0) (y0 : 0 ≤ pay) (y1 : pay ≤ 1000000000000) (hge : payM t = true → E2 = 0 → intr t.ppm t.every t.mode t.prin ≤ pay) (hd0 : E1 = 0 → ds.length = t.count.toNat) {R : List DueV} {E : Int}
    (hR : (E1 ≠ 0 ∧ R = [] ∧ E = E1) ∨ (E1 = 0 ∧ E2 ≠ 0 ∧ R = [] ∧ E = E2) ∨ (E1 = 0 ∧ E2 = 0 ∧ E = 0 ∧ R = buildF (intr t.ppm t.every t.mode) (fun i left it => partF t.method t.prin t.count pay i left it) 0 t.prin ds)) :
    Con Tryz.prog CtxP 7 [.agg [.ex (.int .i64 t.method), .ex (.int .i64 t.prin), .ex (.int .i64 t.ppm), .ex (.int .i64 t.start), .ex (.int .i64 t.every), .ex (.int .i64 t.count), .ex (.int .i64 t.bal), .ex (.int .i64 t.mode), .ex (.int .i64 t.pen), .ex (.int .i64 t.fee), .ex (.string t.cal), .ex (.string t.cur)], .agg [.ex (.string c.name), .sl (intsC c.we), .sl (intsC c.ho)]] (.val (.tup [.sl (duesC R), .ex (.int .i64 E)])) := by
  obtain ⟨⟨p1, p2⟩, ⟨p3, p4⟩, p5, p6, p7, p8, ⟨p9, p10⟩, p11, p12⟩ := g.n1
  have hit : ITerm t.ppm t.every t.mode := by
    have q := outB_in p5
    have q2 := outB_in g.n2.2.2
    exact ⟨by omega, by omega, p9, p10, by omega, by omega⟩
  have hII := Lib.hid fun p (h0 : 0 ≤ p) (h1 : p ≤ 1000000000000) => Interest_con hD hit p h0 h1
  have b1 := ints_len ds
  rcases hR with ⟨r1, r2, r3⟩ | ⟨r1, r2, r3, r4⟩ | ⟨r1, r2, r3, r4⟩
  · subst r2 r3
    clear a2 hpay hge hd0
    (refine con_val base Tryz.func7 rfl rfl (by kernel_rfl) (Nat.le_of_ble_eq_true rfl) ?_; rw [init_eq])
    (repeat' (first | exact trivial | refine stq ?_ | (refine awp_ret ?_; simp only [then_ret, block_ret, end_ret]) | ((first | refine cv (a1) ?_ | refine stp ?_ | refine nqif_ways (fun h => ?_) ?_ | ((first | refine gif_ways (fun h => ?_) (fun h => ?_) | refine cif_ways (fun h => ?_) (fun h => ?_)) <;> (try simp only [sxn] at h) <;> (try (exfalso; omega)))) <;> (try (refine wS ?_)))))
    all_goals simp only [sxd, z0, p0, Nat.reduceEqDiff, ↓reduceIte, Tryz.f7, *]
    all_goals rfl
  · subst r1 r3 r4
    have hm : payM t = true := by
      cases h : payM t with
      | true => rfl
      | false => exact absurd (hpay h).2 r2
    have a3 := a2 hm
    unfold payM at hm
    clear a2 hpay hge hd0
    by_cases m1 : t.method = 1
    · (refine con_val base Tryz.func7 rfl rfl (by kernel_rfl) (Nat.le_of_ble_eq_true rfl) ?_; rw [init_eq])
      (repeat' (first | exact trivial | refine stq ?_ | (refine awp_ret ?_; simp only [then_ret, block_ret, end_ret]) | ((first | refine cv (a1) ?_ | refine cv (a3) ?_ | refine stp ?_ | refine nqif_ways (fun h => ?_) ?_ | ((first | refine gif_ways (fun h => ?_) (fun h => ?_) | refine cif_ways (fun h => ?_) (fun h => ?_)) <;> (try simp only [sxn] at h) <;> (try (exfalso; omega)))) <;> (try (refine wS ?_)))))
      all_goals simp only [sxd, z0, p0, Nat.reduceEqDiff, ↓reduceIte, Tryz.f7, *]
      all_goals rfl
    · have m4 : t.method = 4 := by
        rw [decide_eq_false m1, Bool.false_or] at hm
        exact of_decide_eq_true hm
      (refine con_val base Tryz.func7 rfl rfl (by kernel_rfl) (Nat.le_of_ble_eq_true rfl) ?_; rw [init_eq])
      (repeat' (first | exact trivial | refine stq ?_ | (refine awp_ret ?_; simp only [then_ret, block_ret, end_ret]) | ((first | refine cv (a1) ?_ | refine cv (a3) ?_ | refine stp ?_ | refine nqif_ways (fun h => ?_) ?_ | ((first | refine gif_ways (fun h => ?_) (fun h => ?_) | refine cif_ways (fun h => ?_) (fun h => ?_)) <;> (try simp only [sxn] at h) <;> (try (exfalso; omega)))) <;> (try (refine wS ?_)))))
      all_goals simp only [sxd, z0, p0, Nat.reduceEqDiff, ↓reduceIte, Tryz.f7, *]
      all_goals rfl
  · subst r1 r2 r3
    have hlen := hd0 rfl
    have hcnt := g.cnt
    replace r4 := Lib.hid r4
    have hI0 := Lib.hid fun p (h0 : 0 ≤ p) => intr_nonneg (mode := t.mode) hit.k0 h0
    have hI1 := Lib.hid fun p (h0 : 0 ≤ p) => intr_le (mode := t.mode) hit.k1 h0
    have hImono := Lib.hid fun p p' (h0 : p ≤ p') => intr_mono (mode := t.mode) hit.k0 h0
    have hpg : t.method ≠ 2 → t.method ≠ 3 → intr t.ppm t.every t.mode t.prin ≤ pay := fun h2 h3 => hge (by
      unfold payM
      rw [Bool.or_eq_true, decide_eq_true_eq, decide_eq_true_eq]; omega) rfl
    replace r4 := r4.out
    generalize intr t.ppm t.every t.mode = I at *
    generalize hPFd : (fun (i : Nat) (left it : Int) => partF t.method t.prin t.count pay i left it) = PF at *
    have start := Lib.hid (show (0 < ds.length ∧ partInv t.method t.prin t.count 0 t.prin ∧ R = [] ++ buildF I PF 0 t.prin (ds.drop 0)) ∨ (0 = ds.length ∧ R = []) from .inl ⟨by omega, part_start t.method p3 p11, by rw [r4]; rfl⟩)
    have hPFe := Lib.hid fun (i : Nat) (left it : Int) => show PF i left it = partF t.method t.prin t.count pay i left it by rw [← hPFd]
    clear hPFd
    have hd1 : 0 < ds.length := by omega
    have hd2 : ds.length ≤ 40 := by omega
    replace hlen := Lib.hid hlen
    replace hd0 := Lib.hid hd0
    replace hge := Lib.hid hge
    replace r4 := Lib.hid r4
    cases hm : payM t with
    | true =>
      have a3 := a2 hm
      unfold payM at hm
      clear a2 hpay
      by_cases m1 : t.method = 1
      · (refine con_val base Tryz.func7 rfl rfl (by kernel_rfl) (Nat.le_of_ble_eq_true rfl) ?_; rw [init_eq])
        (repeat' (first | exact trivial | refine stq ?_ | (refine awp_ret ?_; simp only [then_ret, block_ret, end_ret]) | ((first | refine cv (a1) ?_ | refine cv (a3) ?_ | refine stp ?_ | refine nqif_ways (fun h => ?_) ?_ | ((first | refine gif_ways (fun h => ?_) (fun h => ?_) | refine cif_ways (fun h => ?_) (fun h => ?_)) <;> (try simp only [sxn] at h) <;> (try (exfalso; omega)))) <;> (try (refine wS ?_)))))
        clear a1 a3
        refine vloop (fun n tm hp nx => ∃ (k b b2 : Nat) (left : Int) (acc : List DueV), n = ds.length - k ∧ k ≤ ds.length ∧ acc.length = k ∧ 0 ≤ left ∧ left ≤ 1000000000000 ∧ Hid ((k < ds.length ∧ partInv t.method t.prin t.count k left ∧ R = acc ++ buildF I PF k left (ds.drop k)) ∨ (k = ds.length ∧ R = acc)) ∧ tm 2 = .pt b2 0 0 ∧ hp b2 = some ⟨23, [[.ex (.int .i64 t.method), .ex (.int .i64 t.prin), .ex (.int .i64 t.ppm), .ex (.int .i64 t.start), .ex (.int .i64 t.every), .ex (.int .i64 t.count), .ex (.int .i64 t.bal), .ex (.int .i64 t.mode), .ex (.int .i64 t.pen), .ex (.int .i64 t.fee), .ex (.string t.cal), .ex (.string t.cur)]], true⟩ ∧ b2 < nx ∧ tm 6 = .sl (intsC ds) ∧ tm 8 = .ex (.int .i64 pay) ∧ tm 9 = .ex (.int .i64 left) ∧ tm 57 = .sl (intsC ds) ∧ tm 58 = .ex (.int .i64 ds.length) ∧ tm 59 = .ex (.int .i64 k) ∧ tm 10 = .own b ∧ hp b = some ⟨39, duesC acc, true⟩ ∧ b < nx ∧ b2 ≠ b) ds.length ⟨0, _, _, t.prin, [], rfl, Nat.zero_le _, rfl, by omega, by omega, start, by exact byQ, by exact byQ, by omega, by exact byS, by exact byS, by exact byS, by exact byS, by exact byS, by exact byS, by (simp (disch := omega) only [sx, Value.oneCell', ↓reduceIte, Nat.reduceAdd, Nat.reduceMul, Nat.reduceEqDiff, Nat.reduceLT, Nat.reduceLeDiff, Int.reduceToNat, Int.reduceEq, Int.reduceLT, Int.reduceLE, Int.reduceNe, natS, *]; rfl), by exact byS, by omega, by omega⟩ ?_
        rintro n tm hp nx ⟨k, b, b2, left, acc, rfl, hkl, hal, l0, l1, hH, g2, gh2, hb2, g6, g8, g9, g57, g58, g59, g10, gh, hb, hbb⟩
        have q3 := dues_len acc
        clear start
        replace m1 := Lib.hid m1
        try replace m4 := Lib.hid m4
        by_cases hlt : k < ds.length
        · have e0 : ds[k]? = some ds[k] := List.getElem?_eq_getElem hlt
          generalize ds[k] = x at e0
          have q4 := ints_get e0
          have hlt' : (k : Int) < ds.length := by omega
          obtain ⟨hinv, hRe⟩ : partInv t.method t.prin t.count k left ∧ R = acc ++ buildF I PF k left (ds.drop k) := by
            rcases hH.out with h | h
            · exact h.2
            · omega
          have aI := hII.out left l0 l1
          have i0 := hI0.out left l0
          have i1 := hI1.out left l0
          by_cases hl2 : k + 1 < ds.length
          · have hl2' : (k : Int) < ds.length - 1 := by omega
            have aP := principal_con t k left (I left) pay p3 p4 p11 p12 (by omega) l0 l1 i0 (by omega) y0 y1
            have hst := part_step p3 p11 hImono.out hI0.out hpg (i := k) hinv (by have := hlen.out; omega)
            rw [build_mid e0 hl2] at hRe
            have hPF : PF k left (I left) = partF t.method t.prin t.count pay k left (I left) := hPFe.out k left (I left)
            rw [hPF] at hRe
            obtain ⟨s1, s2, s3⟩ := hst
            have q6 := dues_app1 acc ((k : Int) + 1) x (partF t.method t.prin t.count pay k left (I left)) (I left)
            have hnx := Lib.hid (show (k + 1 < ds.length ∧ partInv t.method t.prin t.count (k + 1) (left - partF t.method t.prin t.count pay k left (I left)) ∧ R = (acc ++ [⟨(k : Int) + 1, x, partF t.method t.prin t.count pay k left (I left), I left⟩]) ++ buildF I PF (k + 1) (left - partF t.method t.prin t.count pay k left (I left)) (ds.drop (k + 1))) ∨ (k + 1 = ds.length ∧ R = acc ++ [⟨(k : Int) + 1, x, partF t.method t.prin t.count pay k left (I left), I left⟩]) from .inl ⟨hl2, s3, by rw [hRe]; simp⟩)
            replace hII := Lib.hid hII
            clear hH hinv hRe hPF s3 e0
            generalize partF t.method t.prin t.count pay k left (I left) = pf at *
            generalize I left = iv at *
            (repeat' (first | exact trivial | refine stq ?_ | (refine awp_ret ?_; simp only [then_ret, block_ret, end_ret]) | ((first | refine cv (aI) ?_ | refine cv (aP) ?_ | refine stp ?_ | refine nqif_ways (fun h => ?_) ?_ | ((first | refine gif_ways (fun h => ?_) (fun h => ?_) | refine cif_ways (fun h => ?_) (fun h => ?_)) <;> (try simp only [sxn] at h) <;> (try (exfalso; omega)))) <;> (try (refine wS ?_)))))
            all_goals exact kround_i (ds.length - (k + 1)) (by omega) ⟨k + 1, _, b2, left - pf, acc ++ [⟨(k : Int) + 1, x, pf, iv⟩], rfl, by omega, by simp; omega, by omega, by omega, hnx, by exact byS, by exact byQ, by omega, by exact byS, by exact byS, by exact byS, by exact byS, by exact byS, by exact byS, by (simp (disch := omega) only [sx, Value.oneCell', ↓reduceIte, Nat.reduceAdd, Nat.reduceMul, Nat.reduceEqDiff, Nat.reduceLT, Nat.reduceLeDiff, Int.reduceToNat, Int.reduceEq, Int.reduceLT, Int.reduceLE, Int.reduceNe, natS, *]; rfl), by exact byS, by omega, by omega⟩
          · have hl2' : ¬ (k : Int) < ds.length - 1 := by omega
            rw [build_end e0 (by omega)] at hRe
            have q6 := dues_app1 acc ((k : Int) + 1) x left (I left)
            have hnx := Lib.hid (show (k + 1 < ds.length ∧ partInv t.method t.prin t.count (k + 1) 0 ∧ R = (acc ++ [⟨(k : Int) + 1, x, left, I left⟩]) ++ buildF I PF (k + 1) 0 (ds.drop (k + 1))) ∨ (k + 1 = ds.length ∧ R = acc ++ [⟨(k : Int) + 1, x, left, I left⟩]) from .inr ⟨by omega, hRe⟩)
            have q7 : left - left = 0 := by omega
            clear hH hinv hRe e0
            generalize I left = iv at *
            (repeat' (first | exact trivial | refine stq ?_ | (refine awp_ret ?_; simp only [then_ret, block_ret, end_ret]) | ((first | refine cv (aI) ?_ | refine stp ?_ | refine nqif_ways (fun h => ?_) ?_ | ((first | refine gif_ways (fun h => ?_) (fun h => ?_) | refine cif_ways (fun h => ?_) (fun h => ?_)) <;> (try simp only [sxn] at h) <;> (try (exfalso; omega)))) <;> (try (refine wS ?_)))))
            all_goals exact kround_i (ds.length - (k + 1)) (by omega) ⟨k + 1, _, b2, 0, acc ++ [⟨(k : Int) + 1, x, left, iv⟩], rfl, by omega, by simp; omega, by omega, by omega, hnx, by exact byS, by exact byQ, by omega, by exact byS, by exact byS, by exact byS, by exact byS, by exact byS, by exact byS, by (simp (disch := omega) only [sx, Value.oneCell', ↓reduceIte, Nat.reduceAdd, Nat.reduceMul, Nat.reduceEqDiff, Nat.reduceLT, Nat.reduceLeDiff, Int.reduceToNat, Int.reduceEq, Int.reduceLT, Int.reduceLE, Int.reduceNe, natS, *]; rfl), by exact byS, by omega, by omega⟩
        · have hlt' : ¬ (k : Int) < ds.length := by omega
          have hRe : R = acc := by
            rcases hH.out with h | h
            · omega
            · exact h.2
          subst hRe
          have q7 := dues_p0 R
          have q8 := dues_z0 R
          clear hH hII hI0 hI1 hImono r4 hpg hd0
          (repeat' (first | exact trivial | refine stq ?_ | (refine awp_ret ?_; simp only [then_ret, block_ret, end_ret]) | ((first | refine stp ?_ | refine nqif_ways (fun h => ?_) ?_ | ((first | refine gif_ways (fun h => ?_) (fun h => ?_) | refine cif_ways (fun h => ?_) (fun h => ?_)) <;> (try simp only [sxn] at h) <;> (try (exfalso; omega)))) <;> (try (refine wS ?_)))))
          all_goals simp only [sxd, z0, p0, Nat.reduceEqDiff, ↓reduceIte, Tryz.f7, *]
      · have m4 : t.method = 4 := by
          rw [decide_eq_false m1, Bool.false_or] at hm
          exact of_decide_eq_true hm
        (refine con_val base Tryz.func7 rfl rfl (by kernel_rfl) (Nat.le_of_ble_eq_true rfl) ?_; rw [init_eq])
        (repeat' (first | exact trivial | refine stq ?_ | (refine awp_ret ?_; simp only [then_ret, block_ret, end_ret]) | ((first | refine cv (a1) ?_ | refine cv (a3) ?_ | refine stp ?_ | refine nqif_ways (fun h => ?_) ?_ | ((first | refine gif_ways (fun h => ?_) (fun h => ?_) | refine cif_ways (fun h => ?_) (fun h => ?_)) <;> (try simp only [sxn] at h) <;> (try (exfalso; omega)))) <;> (try (refine wS ?_)))))
        clear a1 a3
        refine vloop (fun n tm hp nx => ∃ (k b b2 : Nat) (left : Int) (acc : List DueV), n = ds.length - k ∧ k ≤ ds.length ∧ acc.length = k ∧ 0 ≤ left ∧ left ≤ 1000000000000 ∧ Hid ((k < ds.length ∧ partInv t.method t.prin t.count k left ∧ R = acc ++ buildF I PF k left (ds.drop k)) ∨ (k = ds.length ∧ R = acc)) ∧ tm 2 = .pt b2 0 0 ∧ hp b2 = some ⟨23, [[.ex (.int .i64 t.method), .ex (.int .i64 t.prin), .ex (.int .i64 t.ppm), .ex (.int .i64 t.start), .ex (.int .i64 t.every), .ex (.int .i64 t.count), .ex (.int .i64 t.bal), .ex (.int .i64 t.mode), .ex (.int .i64 t.pen), .ex (.int .i64 t.fee), .ex (.string t.cal), .ex (.string t.cur)]], true⟩ ∧ b2 < nx ∧ tm 6 = .sl (intsC ds) ∧ tm 8 = .ex (.int .i64 pay) ∧ tm 9 = .ex (.int .i64 left) ∧ tm 57 = .sl (intsC ds) ∧ tm 58 = .ex (.int .i64 ds.length) ∧ tm 59 = .ex (.int .i64 k) ∧ tm 10 = .own b ∧ hp b = some ⟨39, duesC acc, true⟩ ∧ b < nx ∧ b2 ≠ b) ds.length ⟨0, _, _, t.prin, [], rfl, Nat.zero_le _, rfl, by omega, by omega, start, by exact byQ, by exact byQ, by omega, by exact byS, by exact byS, by exact byS, by exact byS, by exact byS, by exact byS, by (simp (disch := omega) only [sx, Value.oneCell', ↓reduceIte, Nat.reduceAdd, Nat.reduceMul, Nat.reduceEqDiff, Nat.reduceLT, Nat.reduceLeDiff, Int.reduceToNat, Int.reduceEq, Int.reduceLT, Int.reduceLE, Int.reduceNe, natS, *]; rfl), by exact byS, by omega, by omega⟩ ?_
        rintro n tm hp nx ⟨k, b, b2, left, acc, rfl, hkl, hal, l0, l1, hH, g2, gh2, hb2, g6, g8, g9, g57, g58, g59, g10, gh, hb, hbb⟩
        have q3 := dues_len acc
        clear start
        replace m1 := Lib.hid m1
        try replace m4 := Lib.hid m4
        by_cases hlt : k < ds.length
        · have e0 : ds[k]? = some ds[k] := List.getElem?_eq_getElem hlt
          generalize ds[k] = x at e0
          have q4 := ints_get e0
          have hlt' : (k : Int) < ds.length := by omega
          obtain ⟨hinv, hRe⟩ : partInv t.method t.prin t.count k left ∧ R = acc ++ buildF I PF k left (ds.drop k) := by
            rcases hH.out with h | h
            · exact h.2
            · omega
          have aI := hII.out left l0 l1
          have i0 := hI0.out left l0
          have i1 := hI1.out left l0
          by_cases hl2 : k + 1 < ds.length
          · have hl2' : (k : Int) < ds.length - 1 := by omega
            have aP := principal_con t k left (I left) pay p3 p4 p11 p12 (by omega) l0 l1 i0 (by omega) y0 y1
            have hst := part_step p3 p11 hImono.out hI0.out hpg (i := k) hinv (by have := hlen.out; omega)
            rw [build_mid e0 hl2] at hRe
            have hPF : PF k left (I left) = partF t.method t.prin t.count pay k left (I left) := hPFe.out k left (I left)
            rw [hPF] at hRe
            obtain ⟨s1, s2, s3⟩ := hst
            have q6 := dues_app1 acc ((k : Int) + 1) x (partF t.method t.prin t.count pay k left (I left)) (I left)
            have hnx := Lib.hid (show (k + 1 < ds.length ∧ partInv t.method t.prin t.count (k + 1) (left - partF t.method t.prin t.count pay k left (I left)) ∧ R = (acc ++ [⟨(k : Int) + 1, x, partF t.method t.prin t.count pay k left (I left), I left⟩]) ++ buildF I PF (k + 1) (left - partF t.method t.prin t.count pay k left (I left)) (ds.drop (k + 1))) ∨ (k + 1 = ds.length ∧ R = acc ++ [⟨(k : Int) + 1, x, partF t.method t.prin t.count pay k left (I left), I left⟩]) from .inl ⟨hl2, s3, by rw [hRe]; simp⟩)
            replace hII := Lib.hid hII
            clear hH hinv hRe hPF s3 e0
            generalize partF t.method t.prin t.count pay k left (I left) = pf at *
            generalize I left = iv at *
            (repeat' (first | exact trivial | refine stq ?_ | (refine awp_ret ?_; simp only [then_ret, block_ret, end_ret]) | ((first | refine cv (aI) ?_ | refine cv (aP) ?_ | refine stp ?_ | refine nqif_ways (fun h => ?_) ?_ | ((first | refine gif_ways (fun h => ?_) (fun h => ?_) | refine cif_ways (fun h => ?_) (fun h => ?_)) <;> (try simp only [sxn] at h) <;> (try (exfalso; omega)))) <;> (try (refine wS ?_)))))
            all_goals exact kround_i (ds.length - (k + 1)) (by omega) ⟨k + 1, _, b2, left - pf, acc ++ [⟨(k : Int) + 1, x, pf, iv⟩], rfl, by omega, by simp; omega, by omega, by omega, hnx, by exact byS, by exact byQ, by omega, by exact byS, by exact byS, by exact byS, by exact byS, by exact byS, by exact byS, by (simp (disch := omega) only [sx, Value.oneCell', ↓reduceIte, Nat.reduceAdd, Nat.reduceMul, Nat.reduceEqDiff, Nat.reduceLT, Nat.reduceLeDiff, Int.reduceToNat, Int.reduceEq, Int.reduceLT, Int.reduceLE, Int.reduceNe, natS, *]; rfl), by exact byS, by omega, by omega⟩
          · have hl2' : ¬ (k : Int) < ds.length - 1 := by omega
            rw [build_end e0 (by omega)] at hRe
            have q6 := dues_app1 acc ((k : Int) + 1) x left (I left)
            have hnx := Lib.hid (show (k + 1 < ds.length ∧ partInv t.method t.prin t.count (k + 1) 0 ∧ R = (acc ++ [⟨(k : Int) + 1, x, left, I left⟩]) ++ buildF I PF (k + 1) 0 (ds.drop (k + 1))) ∨ (k + 1 = ds.length ∧ R = acc ++ [⟨(k : Int) + 1, x, left, I left⟩]) from .inr ⟨by omega, hRe⟩)
            have q7 : left - left = 0 := by omega
            clear hH hinv hRe e0
            generalize I left = iv at *
            (repeat' (first | exact trivial | refine stq ?_ | (refine awp_ret ?_; simp only [then_ret, block_ret, end_ret]) | ((first | refine cv (aI) ?_ | refine stp ?_ | refine nqif_ways (fun h => ?_) ?_ | ((first | refine gif_ways (fun h => ?_) (fun h => ?_) | refine cif_ways (fun h => ?_) (fun h => ?_)) <;> (try simp only [sxn] at h) <;> (try (exfalso; omega)))) <;> (try (refine wS ?_)))))
            all_goals exact kround_i (ds.length - (k + 1)) (by omega) ⟨k + 1, _, b2, 0, acc ++ [⟨(k : Int) + 1, x, left, iv⟩], rfl, by omega, by simp; omega, by omega, by omega, hnx, by exact byS, by exact byQ, by omega, by exact byS, by exact byS, by exact byS, by exact byS, by exact byS, by exact byS, by (simp (disch := omega) only [sx, Value.oneCell', ↓reduceIte, Nat.reduceAdd, Nat.reduceMul, Nat.reduceEqDiff, Nat.reduceLT, Nat.reduceLeDiff, Int.reduceToNat, Int.reduceEq, Int.reduceLT, Int.reduceLE, Int.reduceNe, natS, *]; rfl), by exact byS, by omega, by omega⟩
        · have hlt' : ¬ (k : Int) < ds.length := by omega
          have hRe : R = acc := by
            rcases hH.out with h | h
            · omega
            · exact h.2
          subst hRe
          have q7 := dues_p0 R
          have q8 := dues_z0 R
          clear hH hII hI0 hI1 hImono r4 hpg hd0
          (repeat' (first | exact trivial | refine stq ?_ | (refine awp_ret ?_; simp only [then_ret, block_ret, end_ret]) | ((first | refine stp ?_ | refine nqif_ways (fun h => ?_) ?_ | ((first | refine gif_ways (fun h => ?_) (fun h => ?_) | refine cif_ways (fun h => ?_) (fun h => ?_)) <;> (try simp only [sxn] at h) <;> (try (exfalso; omega)))) <;> (try (refine wS ?_)))))
          all_goals simp only [sxd, z0, p0, Nat.reduceEqDiff, ↓reduceIte, Tryz.f7, *]
    | false =>
      have hp0 := (hpay hm).1
      unfold payM at hm
      rw [Bool.or_eq_false_iff, decide_eq_false_iff_not, decide_eq_false_iff_not] at hm
      obtain ⟨m1, m4⟩ := hm
      clear a2 hpay
      subst hp0
      (refine con_val base Tryz.func7 rfl rfl (by kernel_rfl) (Nat.le_of_ble_eq_true rfl) ?_; rw [init_eq])
      (repeat' (first | exact trivial | refine stq ?_ | (refine awp_ret ?_; simp only [then_ret, block_ret, end_ret]) | ((first | refine cv (a1) ?_ | refine stp ?_ | refine nqif_ways (fun h => ?_) ?_ | ((first | refine gif_ways (fun h => ?_) (fun h => ?_) | refine cif_ways (fun h => ?_) (fun h => ?_)) <;> (try simp only [sxn] at h) <;> (try (exfalso; omega)))) <;> (try (refine wS ?_)))))
      clear a1
      refine vloop (fun n tm hp nx => ∃ (k b b2 : Nat) (left : Int) (acc : List DueV), n = ds.length - k ∧ k ≤ ds.length ∧ acc.length = k ∧ 0 ≤ left ∧ left ≤ 1000000000000 ∧ Hid ((k < ds.length ∧ partInv t.method t.prin t.count k left ∧ R = acc ++ buildF I PF k left (ds.drop k)) ∨ (k = ds.length ∧ R = acc)) ∧ tm 2 = .pt b2 0 0 ∧ hp b2 = some ⟨23, [[.ex (.int .i64 t.method), .ex (.int .i64 t.prin), .ex (.int .i64 t.ppm), .ex (.int .i64 t.start), .ex (.int .i64 t.every), .ex (.int .i64 t.count), .ex (.int .i64 t.bal), .ex (.int .i64 t.mode), .ex (.int .i64 t.pen), .ex (.int .i64 t.fee), .ex (.string t.cal), .ex (.string t.cur)]], true⟩ ∧ b2 < nx ∧ tm 6 = .sl (intsC ds) ∧ tm 8 = .ex (.int .i64 0) ∧ tm 9 = .ex (.int .i64 left) ∧ tm 57 = .sl (intsC ds) ∧ tm 58 = .ex (.int .i64 ds.length) ∧ tm 59 = .ex (.int .i64 k) ∧ tm 10 = .own b ∧ hp b = some ⟨39, duesC acc, true⟩ ∧ b < nx ∧ b2 ≠ b) ds.length ⟨0, _, _, t.prin, [], rfl, Nat.zero_le _, rfl, by omega, by omega, start, by exact byQ, by exact byQ, by omega, by exact byS, by exact byS, by exact byS, by exact byS, by exact byS, by exact byS, by (simp (disch := omega) only [sx, Value.oneCell', ↓reduceIte, Nat.reduceAdd, Nat.reduceMul, Nat.reduceEqDiff, Nat.reduceLT, Nat.reduceLeDiff, Int.reduceToNat, Int.reduceEq, Int.reduceLT, Int.reduceLE, Int.reduceNe, natS, *]; rfl), by exact byS, by omega, by omega⟩ ?_
      rintro n tm hp nx ⟨k, b, b2, left, acc, rfl, hkl, hal, l0, l1, hH, g2, gh2, hb2, g6, g8, g9, g57, g58, g59, g10, gh, hb, hbb⟩
      have q3 := dues_len acc
      clear start
      replace m1 := Lib.hid m1
      try replace m4 := Lib.hid m4
      by_cases hlt : k < ds.length
      · have e0 : ds[k]? = some ds[k] := List.getElem?_eq_getElem hlt
        generalize ds[k] = x at e0
        have q4 := ints_get e0
        have hlt' : (k : Int) < ds.length := by omega
        obtain ⟨hinv, hRe⟩ : partInv t.method t.prin t.count k left ∧ R = acc ++ buildF I PF k left (ds.drop k) := by
          rcases hH.out with h | h
          · exact h.2
          · omega
        have aI := hII.out left l0 l1
        have i0 := hI0.out left l0
        have i1 := hI1.out left l0
        by_cases hl2 : k + 1 < ds.length
        · have hl2' : (k : Int) < ds.length - 1 := by omega
          have aP := principal_con t k left (I left) 0 p3 p4 p11 p12 (by omega) l0 l1 i0 (by omega) y0 y1
          have hst := part_step p3 p11 hImono.out hI0.out hpg (i := k) hinv (by have := hlen.out; omega)
          rw [build_mid e0 hl2] at hRe
          have hPF : PF k left (I left) = partF t.method t.prin t.count 0 k left (I left) := hPFe.out k left (I left)
          rw [hPF] at hRe
          obtain ⟨s1, s2, s3⟩ := hst
          have q6 := dues_app1 acc ((k : Int) + 1) x (partF t.method t.prin t.count 0 k left (I left)) (I left)
          have hnx := Lib.hid (show (k + 1 < ds.length ∧ partInv t.method t.prin t.count (k + 1) (left - partF t.method t.prin t.count 0 k left (I left)) ∧ R = (acc ++ [⟨(k : Int) + 1, x, partF t.method t.prin t.count 0 k left (I left), I left⟩]) ++ buildF I PF (k + 1) (left - partF t.method t.prin t.count 0 k left (I left)) (ds.drop (k + 1))) ∨ (k + 1 = ds.length ∧ R = acc ++ [⟨(k : Int) + 1, x, partF t.method t.prin t.count 0 k left (I left), I left⟩]) from .inl ⟨hl2, s3, by rw [hRe]; simp⟩)
          replace hII := Lib.hid hII
          clear hH hinv hRe hPF s3 e0
          generalize partF t.method t.prin t.count 0 k left (I left) = pf at *
          generalize I left = iv at *
          (repeat' (first | exact trivial | refine stq ?_ | (refine awp_ret ?_; simp only [then_ret, block_ret, end_ret]) | ((first | refine cv (aI) ?_ | refine cv (aP) ?_ | refine stp ?_ | refine nqif_ways (fun h => ?_) ?_ | ((first | refine gif_ways (fun h => ?_) (fun h => ?_) | refine cif_ways (fun h => ?_) (fun h => ?_)) <;> (try simp only [sxn] at h) <;> (try (exfalso; omega)))) <;> (try (refine wS ?_)))))
          all_goals exact kround_i (ds.length - (k + 1)) (by omega) ⟨k + 1, _, b2, left - pf, acc ++ [⟨(k : Int) + 1, x, pf, iv⟩], rfl, by omega, by simp; omega, by omega, by omega, hnx, by exact byS, by exact byQ, by omega, by exact byS, by exact byS, by exact byS, by exact byS, by exact byS, by exact byS, by (simp (disch := omega) only [sx, Value.oneCell', ↓reduceIte, Nat.reduceAdd, Nat.reduceMul, Nat.reduceEqDiff, Nat.reduceLT, Nat.reduceLeDiff, Int.reduceToNat, Int.reduceEq, Int.reduceLT, Int.reduceLE, Int.reduceNe, natS, *]; rfl), by exact byS, by omega, by omega⟩
        · have hl2' : ¬ (k : Int) < ds.length - 1 := by omega
          rw [build_end e0 (by omega)] at hRe
          have q6 := dues_app1 acc ((k : Int) + 1) x left (I left)
          have hnx := Lib.hid (show (k + 1 < ds.length ∧ partInv t.method t.prin t.count (k + 1) 0 ∧ R = (acc ++ [⟨(k : Int) + 1, x, left, I left⟩]) ++ buildF I PF (k + 1) 0 (ds.drop (k + 1))) ∨ (k + 1 = ds.length ∧ R = acc ++ [⟨(k : Int) + 1, x, left, I left⟩]) from .inr ⟨by omega, hRe⟩)
          have q7 : left - left = 0 := by omega
          clear hH hinv hRe e0
          generalize I left = iv at *
          (repeat' (first | exact trivial | refine stq ?_ | (refine awp_ret ?_; simp only [then_ret, block_ret, end_ret]) | ((first | refine cv (aI) ?_ | refine stp ?_ | refine nqif_ways (fun h => ?_) ?_ | ((first | refine gif_ways (fun h => ?_) (fun h => ?_) | refine cif_ways (fun h => ?_) (fun h => ?_)) <;> (try simp only [sxn] at h) <;> (try (exfalso; omega)))) <;> (try (refine wS ?_)))))
          all_goals exact kround_i (ds.length - (k + 1)) (by omega) ⟨k + 1, _, b2, 0, acc ++ [⟨(k : Int) + 1, x, left, iv⟩], rfl, by omega, by simp; omega, by omega, by omega, hnx, by exact byS, by exact byQ, by omega, by exact byS, by exact byS, by exact byS, by exact byS, by exact byS, by exact byS, by (simp (disch := omega) only [sx, Value.oneCell', ↓reduceIte, Nat.reduceAdd, Nat.reduceMul, Nat.reduceEqDiff, Nat.reduceLT, Nat.reduceLeDiff, Int.reduceToNat, Int.reduceEq, Int.reduceLT, Int.reduceLE, Int.reduceNe, natS, *]; rfl), by exact byS, by omega, by omega⟩
      · have hlt' : ¬ (k : Int) < ds.length := by omega
        have hRe : R = acc := by
          rcases hH.out with h | h
          · omega
          · exact h.2
        subst hRe
        have q7 := dues_p0 R
        have q8 := dues_z0 R
        clear hH hII hI0 hI1 hImono r4 hpg hd0
        (repeat' (first | exact trivial | refine stq ?_ | (refine awp_ret ?_; simp only [then_ret, block_ret, end_ret]) | ((first | refine stp ?_ | refine nqif_ways (fun h => ?_) ?_ | ((first | refine gif_ways (fun h => ?_) (fun h => ?_) | refine cif_ways (fun h => ?_) (fun h => ?_)) <;> (try simp only [sxn] at h) <;> (try (exfalso; omega)))) <;> (try (refine wS ?_)))))
        all_goals simp only [sxd, z0, p0, Nat.reduceEqDiff, ↓reduceIte, Tryz.f7, *]
end Go.Proofs.YtcoflmckbcnlpaaGreatDoor