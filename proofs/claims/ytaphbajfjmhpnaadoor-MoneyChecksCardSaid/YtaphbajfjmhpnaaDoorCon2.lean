/-
  Contracts over values without memory, of tuples, and back to the machine's values. Conditions: those that each theorem states.
-/
import Derived.Test.YtaphbajfjmhpnaaDoorCon
namespace Go.Proofs.YtaphbajfjmhpnaaDoor
open Go.RowKit
set_option maxRecDepth 100000

theorem repL_exs {φ : Phi} {M : Nat → Prop} {w : World} : ∀ {rs : List Value}, (∀ r ∈ rs, r.oneCell' = true) → RepL φ M w (rs.map .ex) rs
  | [], _ => RepL.nil
  | r :: rs, h => RepL.cons (ex_rep r (h r (by simp))) (repL_exs fun x hx => h x (by simp [hx]))
theorem con_tup {P : Program} {C : World → Prop} {f : Nat} {vs rs : List Value} (hc : Callable P f) (hr : ∀ r ∈ rs, r.oneCell' = true) (h : ∀ w, C w → Calls P f vs.toArray w fun e w' => e = .returned (.tuple rs.toArray) ∧ Below w.heap.size w w') : Con P C f (vs.map .ex) (.val (.tup (rs.map .ex))) := by
  refine ⟨hc, fun M w args _ hw ha => ?_⟩
  rw [rep0_ex ha]
  refine (h w hw).mono ?_
  rintro e w' ⟨rfl, hb⟩
  refine ⟨_, rfl, ?_, hb⟩
  simp only [Rep]
  exact ⟨rs, rfl, repL_exs hr⟩
theorem Con.calls_ex {P : Program} {C : World → Prop} {f : Nat} {vs : List Value} {r : Value} (h : Con P C f (vs.map .ex) (.val (.ex r))) (hv : ∀ v ∈ vs, v.oneCell' = true) (w : World) (hw : C w) : Calls P f vs.toArray w fun e w' => e = .returned r ∧ Below w.heap.size w w' := by
  refine (h.2 (fun _ => False) w vs (fun _ h => h.elim) hw (repL_exs hv)).mono ?_
  rintro e w' ⟨v, rfl, hr, hb⟩
  simp only [Rep] at hr
  rw [hr.1]
  exact ⟨rfl, hb⟩
/-- The result is a struct that lies in a cell, and a second one. -/
theorem aretc_2 {P : Program} {σ : AS} {kk : AV → Prop} {rs : Array ResultVar} {x ty t b j : Nat} {β : Row1} {e : List AV} {v : AV} {us : List AV} {ids : List Nat} (hrs : rs = #[.cell x ty, .tmp t]) (h1 : σ.tm x = .pt b j 0) (h2 : σ.hp b = some β) (h3 : β.es[j]? = some e)
    (hag : (aty P ty).isAgg = true) (hsz : (aty P ty).sz = e.length) (h0 : 0 < e.length) (hv : σ.tm t = v) (h5 : cls σ.hp [.agg e, v] = some (us, ids)) (hk : kk (.tup us)) : aret P rs σ kk := by
  subst hrs
  rw [aret_2]
  simp only [ares1, h1]
  refine ⟨β, e, h2, h3, ?_⟩
  unfold ldCell
  rw [if_pos hag, hsz, List.drop_zero, List.take_length]
  refine ⟨⟨h0, by omega⟩, ?_⟩
  show opt (cls σ.hp [.agg e, σ.tm t]) _
  rw [hv, h5]
  exact hk
theorem aretc_1 {P : Program} {σ : AS} {kk : AV → Prop} {rs : Array ResultVar} {x ty b j : Nat} {β : Row1} {e : List AV} {u : AV} {ids : List Nat} (hrs : rs = #[.cell x ty]) (h1 : σ.tm x = .pt b j 0) (h2 : σ.hp b = some β) (h3 : β.es[j]? = some e)
    (hag : (aty P ty).isAgg = true) (hsz : (aty P ty).sz = e.length) (h0 : 0 < e.length) (h5 : cl σ.hp (.agg e) = some (u, ids)) (hk : kk u) : aret P rs σ kk := by
  subst hrs
  rw [aret_1]
  simp only [ares1, h1]
  refine ⟨β, e, h2, h3, ?_⟩
  unfold ldCell
  rw [if_pos hag, hsz, List.drop_zero, List.take_length]
  refine ⟨⟨h0, by omega⟩, ?_⟩
  show opt (cl σ.hp (.agg e)) _
  rw [h5]
  exact hk
theorem bin_sleq {P : Program} {t : Nat} {k : AV → Eff → Prop} {x y : ByteArray} : opBin P .leq t (.ex (.string x)) (.ex (.string y)) k = k (.ex (.bool (Op.bytesLess x.data.toList y.data.toList || decide (x = y)))) .none := by simp [opBin, opStr]
theorem bin_sgeq {P : Program} {t : Nat} {k : AV → Eff → Prop} {x y : ByteArray} : opBin P .geq t (.ex (.string x)) (.ex (.string y)) k = k (.ex (.bool (!Op.bytesLess x.data.toList y.data.toList))) .none := by simp [opBin, opStr]
end Go.Proofs.YtaphbajfjmhpnaaDoor
