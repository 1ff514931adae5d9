/-
  A schedule of accepted terms: it is given, or there is an error. Conditions: those that each theorem states.
-/
import Derived.Test.YtcoflmckbcnlpaaGreatDoorLD
import Derived.Test.YtcoflmckbcnlpaaGreatDoorLE
import Derived.Test.YtcoflmckbcnlpaaGreatDoorLC
import Derived.Test.YtcoflmckbcnlpaaGreatDoorLF
import Derived.Test.YtcoflmckbcnlpaaGreatDoorGT
namespace Go.Proofs.YtcoflmckbcnlpaaGreatDoor
open Go.RowKit
set_option maxRecDepth 100000
set_option linter.unusedSimpArgs false
theorem Good.it {t : TermV} {c : CalV} (g : Good t c) : ITerm t.ppm t.every t.mode := by
  obtain ⟨⟨p1, p2⟩, ⟨p3, p4⟩, p5, p6, p7, p8, ⟨p9, p10⟩, p11, p12⟩ := g.n1
  have q := outB_in p5
  have q2 := outB_in g.n2.2.2
  exact ⟨by omega, by omega, p9, p10, by omega, by omega⟩
theorem Pay_ex {t : TermV} {c : CalV} (g : Good t c) : ∃ pay E2 : Int, (payM t = true → Con Tryz.prog CtxP 19 [.ex (.int .i64 t.prin), .ex (.int .i64 t.ppm), .ex (.int .i64 t.every), .ex (.int .i64 t.mode), .ex (.int .i64 t.count), .ex (.int .i64 t.bal)] (.val (.tup [.ex (.int .i64 pay), .ex (.int .i64 E2)]))) ∧
    (payM t = false → pay = 0 ∧ E2 = 0) ∧ 0 ≤ pay ∧ pay ≤ 1000000000000 ∧ (payM t = true → E2 = 0 → intr t.ppm t.every t.mode t.prin ≤ pay) := by
  have hit := g.it
  obtain ⟨⟨p1, p2⟩, ⟨p3, p4⟩, p5, p6, p7, p8, ⟨p9, p10⟩, p11, p12⟩ := g.n1
  obtain ⟨⟨b1, b2⟩, _, _⟩ := g.n2
  cases hm : payM t with
  | false => exact ⟨0, 0, (fun h => by cases h), fun _ => ⟨rfl, rfl⟩, by decide, by decide, (fun h => by cases h)⟩
  | true =>
    cases he : enoughB (intr t.ppm t.every t.mode) t.count.toNat t.prin t.bal 1000000000000 with
    | false => exact ⟨0, 6, fun _ => Payment_con Divide_con hit t.prin t.count t.bal (by omega) p4 p11 p12 b1 (by omega) (.inr ⟨he, rfl, rfl⟩), (fun h => by cases h), by decide, by decide, fun _ h => by cases h⟩
    | true =>
      have hs := bsF_spec (en := enoughB (intr t.ppm t.every t.mode) t.count.toNat t.prin t.bal) 1000000000000 0 1000000000000 he (by decide)
      refine ⟨_, 0, fun _ => Payment_con Divide_con hit t.prin t.count t.bal (by omega) p4 p11 p12 b1 (by omega) (.inl ⟨he, rfl, rfl⟩), (fun h => by cases h), hs.2.1, hs.2.2, fun _ _ => ?_⟩
      have h1 := hs.1
      generalize bsF (enoughB (intr t.ppm t.every t.mode) t.count.toNat t.prin t.bal) 1000000000000 0 1000000000000 = pay at h1
      unfold enoughB at h1
      rw [Bool.and_eq_true, decide_eq_true_eq] at h1
      obtain ⟨h1, h2⟩ := h1
      cases hr : restF (intr t.ppm t.every t.mode) pay t.count.toNat t.prin with
      | none => rw [hr] at h1; cases h1
      | some r =>
        rw [hr] at h2
        have h3 : r ≤ t.bal := h2
        exact pay_ge (fun p p' h => intr_mono hit.k0 h) hr (by omega)
theorem Sch_ex {t : TermV} {c : CalV} (g : Good t c) : ∃ (R : List DueV) (E : Int), Con Tryz.prog CtxP 7 [.agg [.ex (.int .i64 t.method), .ex (.int .i64 t.prin), .ex (.int .i64 t.ppm), .ex (.int .i64 t.start), .ex (.int .i64 t.every), .ex (.int .i64 t.count), .ex (.int .i64 t.bal), .ex (.int .i64 t.mode), .ex (.int .i64 t.pen), .ex (.int .i64 t.fee), .ex (.string t.cal), .ex (.string t.cur)], .agg [.ex (.string c.name), .sl (intsC c.we), .sl (intsC c.ho)]] (.val (.tup [.sl (duesC R), .ex (.int .i64 E)])) ∧
    ((E = 0 ∧ Duly R ∧ sumPr R = t.prin ∧ R.length ≤ 40) ∨ (E ≠ 0 ∧ R = [])) := by
  have hit := g.it
  obtain ⟨pay, E2, a2, hpay, y0, y1, hge⟩ := Pay_ex g
  obtain ⟨g1, g2, g3, g4, g5⟩ := g.pos
  have hcnt := g.cnt
  obtain ⟨p3, p4⟩ := g.n1.2.1
  obtain ⟨m1, m2⟩ := g.n1.1
  obtain ⟨y, m, a, hc⟩ := civ_ex g4 g5
  rcases days_ways (dayAt (openB c) (12 * y + m - 1) a t.every) t.count.toNat with ⟨ds, hds⟩ | ⟨k, ds, hk, hds, hn⟩
  · have a1 := Days_con g hc (.inl ⟨hds, rfl⟩)
    have hlen := days_len hds
    by_cases hE : E2 = 0
    · refine ⟨_, 0, Build_con Divide_con g a1 a2 hpay y0 y1 hge (fun _ => hlen) (.inr (.inr ⟨rfl, hE, rfl, rfl⟩)), .inl ⟨rfl, ?_⟩⟩
      have hp2 : t.method ≠ 2 → t.method ≠ 3 → intr t.ppm t.every t.mode t.prin ≤ pay := by
        intro h2 h3
        refine hge ?_ hE
        unfold payM
        have : t.method = 1 ∨ t.method = 4 := by omega
        rcases this with h | h <;> rw [h] <;> rfl
      obtain ⟨s1, s2, s3, s4⟩ := build_spec (I := intr t.ppm t.every t.mode) (part := fun i left it => partF t.method t.prin t.count pay i left it) (M := 1000000000000) (Inv := partInv t.method t.prin t.count)
        (fun p h0 h1 => ⟨intr_nonneg hit.k0 h0, Int.le_trans (intr_le hit.k1 h0) h1⟩) (fun i p h => ⟨h.1, by have := h.2.1; omega⟩) (c := t.count.toNat)
        (fun i p h hi => part_step p3 g1 (fun p p' h => intr_mono hit.k0 h) (fun p h => intr_nonneg hit.k0 h) hp2 h (by omega)) ds 0 t.prin (part_start t.method p3 g1) (by omega) (by intro h; rw [h] at hlen; simp at hlen; omega)
      have hday : ∀ (k : Nat) (x : DueV), (buildF (intr t.ppm t.every t.mode) (fun i left it => partF t.method t.prin t.count pay i left it) 0 t.prin ds)[k]? = some x → dayAt (openB c) (12 * y + m - 1) a t.every k = some x.day := by
        intro k x hx
        have h1 := (List.getElem?_eq_some_iff.1 hx).1
        rw [← days_at hds k (by omega)]
        exact (s4 k x hx).2
      generalize buildF (intr t.ppm t.every t.mode) (fun i left it => partF t.method t.prin t.count pay i left it) 0 t.prin ds = R at *
      refine ⟨⟨by omega, ⟨fun x hx => ?_, fun k x hx => ?_, fun i j x z hij hx hz => ?_⟩⟩, s1, by omega⟩
      · obtain ⟨k, hk⟩ := List.mem_iff_getElem?.1 hx
        have h1 := s3 x hx
        have h2 := dayAt_range hc.d1 (hday k x hk)
        exact ⟨h1.1, h1.2.1, h1.2.2.1, h1.2.2.2, h2.1, h2.2⟩
      · have := (s4 k x hx).1
        rw [this]; omega
      · exact dayAt_mono g2 hc.d1 hij (hday i x hx) (hday j z hz)
    · exact ⟨[], E2, Build_con Divide_con g a1 a2 hpay y0 y1 hge (fun _ => hlen) (.inr (.inl ⟨rfl, hE, rfl, rfl⟩)), .inr ⟨hE, rfl⟩⟩
  · have a1 := Days_con g hc (.inr ⟨rfl, k, ds, hk, hds, hn, rfl⟩)
    have hne : dayErr (openB c) (12 * y + m - 1) a t.every k ≠ 0 := by
      unfold dayErr
      split <;> decide
    exact ⟨[], _, Build_con Divide_con g a1 a2 hpay y0 y1 hge (fun h => absurd h hne) (.inl ⟨hne, rfl, rfl⟩), .inr ⟨hne, rfl⟩⟩
end Go.Proofs.YtcoflmckbcnlpaaGreatDoor