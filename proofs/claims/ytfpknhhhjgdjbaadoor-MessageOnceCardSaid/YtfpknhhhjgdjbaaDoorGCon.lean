/-
  What the program's types are, one row a type. Conditions: none.
  Contracts over values without memory out of contracts over the machine's values. Conditions: those that each theorem states.
  A call that is handed a row to keep, in the form that walks use; struct results that lie in a cell. Conditions: those that each theorem states.
  Struct results that lie in a cell. Conditions: those that each theorem states.
-/
import Derived.Test.YtfpknhhhjgdjbaaDoorGEv
import Derived.Test.YtfpknhhhjgdjbaaDoorRows
namespace Go.Proofs.YtfpknhhhjgdjbaaDoor
open Go.RowKit
set_option maxRecDepth 100000
set_option linter.defProp false

theorem ty_2 : aty Tryd.prog 2 = ⟨.int .i64, 1, 8, [.int .i64 0], []⟩ := by kernel_rfl
theorem ty_3 : aty Tryd.prog 3 = ⟨.int .i64, 1, 8, [.int .i64 0], []⟩ := by kernel_rfl
theorem ty_4 : aty Tryd.prog 4 = ⟨.bool, 1, 1, [.bool false], []⟩ := by kernel_rfl
theorem ty_5 : aty Tryd.prog 5 = ⟨.int .u8, 1, 1, [.int .u8 0], []⟩ := by kernel_rfl
theorem ty_9 : aty Tryd.prog 9 = ⟨.str, 1, 16, [.string ⟨#[]⟩], []⟩ := by kernel_rfl
theorem ty_12 : aty Tryd.prog 12 = ⟨.int .u64, 1, 8, [.int .u64 0], []⟩ := by kernel_rfl
theorem ty_13 : aty Tryd.prog 13 = ⟨.struct, 2, 24, [.string ⟨#[]⟩, .int .u64 0], [(0, 9), (1, 12)]⟩ := by kernel_rfl
theorem ty_21 : aty Tryd.prog 21 = ⟨.int .i32, 1, 4, [.int .i32 0], []⟩ := by kernel_rfl
theorem ty_22 : aty Tryd.prog 22 = ⟨.slice 9, 1, 24, [.slice none 0 0], []⟩ := by kernel_rfl
theorem ty_27 : aty Tryd.prog 27 = ⟨.int .i64, 1, 8, [.int .i64 0], []⟩ := by kernel_rfl
theorem ty_36 : aty Tryd.prog 36 = ⟨.slice 3, 1, 24, [.slice none 0 0], []⟩ := by kernel_rfl
theorem ty_43 : aty Tryd.prog 43 = ⟨.struct, 7, 72, [.string ⟨#[]⟩, .int .i64 0, .int .i64 0, .int .i64 0, .int .i64 0, .int .i64 0, .string ⟨#[]⟩], [(0, 9), (1, 3), (2, 3), (3, 3), (4, 3), (5, 3), (6, 9)]⟩ := by kernel_rfl
theorem ty_44 : aty Tryd.prog 44 = ⟨.struct, 7, 72, [.string ⟨#[]⟩, .int .i64 0, .int .i64 0, .int .i64 0, .int .i64 0, .int .i64 0, .string ⟨#[]⟩], [(0, 9), (1, 3), (2, 3), (3, 3), (4, 3), (5, 3), (6, 9)]⟩ := by kernel_rfl
theorem ty_51 : aty Tryd.prog 51 = ⟨.slice 44, 1, 24, [.slice none 0 0], []⟩ := by kernel_rfl
theorem ty_62 : aty Tryd.prog 62 = ⟨.slice 5, 1, 24, [.slice none 0 0], []⟩ := by kernel_rfl
theorem ty_69 : aty Tryd.prog 69 = ⟨.iface, 1, 16, [.nilIface], []⟩ := by kernel_rfl
theorem ty_72 : aty Tryd.prog 72 = ⟨.int .u64, 1, 8, [.int .u64 0], []⟩ := by kernel_rfl
theorem ty_74 : aty Tryd.prog 74 = ⟨.arr 5 3, 5, 40, [.int .i64 0, .int .i64 0, .int .i64 0, .int .i64 0, .int .i64 0], []⟩ := by kernel_rfl
theorem ty_83 : aty Tryd.prog 83 = ⟨.other, 1, 8, [.map none], []⟩ := by kernel_rfl
theorem ty_91 : aty Tryd.prog 91 = ⟨.int .i64, 1, 8, [.int .i64 0], []⟩ := by kernel_rfl
theorem ty_94 : aty Tryd.prog 94 = ⟨.ptr 108, 1, 8, [.pointer none], []⟩ := by kernel_rfl
theorem ty_98 : aty Tryd.prog 98 = ⟨.arr 24 5, 24, 24, [.int .u8 0, .int .u8 0, .int .u8 0, .int .u8 0, .int .u8 0, .int .u8 0, .int .u8 0, .int .u8 0, .int .u8 0, .int .u8 0, .int .u8 0, .int .u8 0, .int .u8 0, .int .u8 0, .int .u8 0, .int .u8 0, .int .u8 0, .int .u8 0, .int .u8 0, .int .u8 0, .int .u8 0, .int .u8 0, .int .u8 0, .int .u8 0], []⟩ := by kernel_rfl
theorem ty_105 : aty Tryd.prog 105 = ⟨.int .u64, 1, 8, [.int .u64 0], []⟩ := by kernel_rfl
theorem ty_107 : aty Tryd.prog 107 = ⟨.struct, 3, 48, [.string ⟨#[]⟩, .string ⟨#[]⟩, .nilIface], [(0, 9), (1, 9), (2, 69)]⟩ := by kernel_rfl
theorem ty_108 : aty Tryd.prog 108 = ⟨.struct, 3, 48, [.string ⟨#[]⟩, .string ⟨#[]⟩, .nilIface], [(0, 9), (1, 9), (2, 69)]⟩ := by kernel_rfl
theorem ty_113 : aty Tryd.prog 113 = ⟨.arr 20 72, 20, 160, [.int .u64 0, .int .u64 0, .int .u64 0, .int .u64 0, .int .u64 0, .int .u64 0, .int .u64 0, .int .u64 0, .int .u64 0, .int .u64 0, .int .u64 0, .int .u64 0, .int .u64 0, .int .u64 0, .int .u64 0, .int .u64 0, .int .u64 0, .int .u64 0, .int .u64 0, .int .u64 0], []⟩ := by kernel_rfl
theorem ty_114 : aty Tryd.prog 114 = ⟨.int .u32, 1, 4, [.int .u32 0], []⟩ := by kernel_rfl
theorem ty_118 : aty Tryd.prog 118 = ⟨.ptr 5, 1, 8, [.pointer none], []⟩ := by kernel_rfl
theorem ty_119 : aty Tryd.prog 119 = ⟨.ptr 121, 1, 8, [.pointer none], []⟩ := by kernel_rfl
theorem ty_120 : aty Tryd.prog 120 = ⟨.struct, 1, 16, [.string ⟨#[]⟩], [(0, 9)]⟩ := by kernel_rfl
theorem ty_121 : aty Tryd.prog 121 = ⟨.struct, 1, 16, [.string ⟨#[]⟩], [(0, 9)]⟩ := by kernel_rfl
theorem ty_123 : aty Tryd.prog 123 = ⟨.arr 32 5, 32, 32, [.int .u8 0, .int .u8 0, .int .u8 0, .int .u8 0, .int .u8 0, .int .u8 0, .int .u8 0, .int .u8 0, .int .u8 0, .int .u8 0, .int .u8 0, .int .u8 0, .int .u8 0, .int .u8 0, .int .u8 0, .int .u8 0, .int .u8 0, .int .u8 0, .int .u8 0, .int .u8 0, .int .u8 0, .int .u8 0, .int .u8 0, .int .u8 0, .int .u8 0, .int .u8 0, .int .u8 0, .int .u8 0, .int .u8 0, .int .u8 0, .int .u8 0, .int .u8 0], []⟩ := by kernel_rfl
def tyb := And.intro ty_2 (And.intro ty_3 (And.intro ty_4 (And.intro ty_5 (And.intro ty_9 (And.intro ty_12 (And.intro ty_13 (And.intro ty_21 (And.intro ty_22 (And.intro ty_27 (And.intro ty_36 (And.intro ty_43 (And.intro ty_44 (And.intro ty_51 (And.intro ty_62 (And.intro ty_69 (And.intro ty_72 (And.intro ty_74 (And.intro ty_83 (And.intro ty_91 (And.intro ty_94 (And.intro ty_98 (And.intro ty_105 (And.intro ty_107 (And.intro ty_108 (And.intro ty_113 (And.intro ty_114 (And.intro ty_118 (And.intro ty_119 (And.intro ty_120 (And.intro ty_121 (ty_123)))))))))))))))))))))))))))))))
def sx := And.intro sx0 (And.intro sx1 (And.intro sx2 (And.intro sx3 (And.intro sx4 (And.intro sx5 (And.intro sx6 (And.intro sx7 (And.intro sx8 (tyb)))))))))
end Go.Proofs.YtfpknhhhjgdjbaaDoor
namespace Go.Proofs.YtfpknhhhjgdjbaaDoor
open Go.RowKit
set_option maxRecDepth 100000

section
variable {P : Program} {C : World → Prop} {M : Nat → Prop} {w : World}
theorem rep0_ex : ∀ {vs args : List Value}, RepL phi0 M w (vs.map .ex) args → args = vs
  | [], _, h => by simpa [RepL] using h
  | v :: vs, _, h => by
    simp only [List.map_cons, RepL] at h
    obtain ⟨x, xs, rfl, h1, h2⟩ := h
    simp only [Rep] at h1
    rw [h1.1, rep0_ex h2]
theorem con_ex {f : Nat} {vs : List Value} {r : Value} (hc : Callable P f) (hr : r.oneCell' = true) (h : ∀ w, C w → Calls P f vs.toArray w fun e w' => e = .returned r ∧ Below w.heap.size w w') : Con P C f (vs.map .ex) (.val (.ex r)) := by
  refine ⟨hc, fun M w args _ hw ha => ?_⟩
  rw [rep0_ex ha]
  refine (h w hw).mono ?_
  rintro e w' ⟨rfl, hb⟩
  exact ⟨r, rfl, ex_rep r hr, hb⟩
theorem con_ex' {f : Nat} {vs : List Value} {r : Value} (hc : Callable P f) (hr : r.oneCell' = true) (h : ∀ w, Calls P f vs.toArray w fun e w' => e = .returned r ∧ w = w') : Con P C f (vs.map .ex) (.val (.ex r)) :=
  con_ex hc hr fun w _ => (h w).mono fun _ _ ⟨he, hw⟩ => ⟨he, hw ▸ Below.refl _ _⟩
/-- Texts in a row. -/
def texts (l : List ByteArray) : List (List AV) := l.map fun s => [.ex (.string s)]
theorem texts_vs {sz : Nat} : ∀ {l : List ByteArray} {vs : List Value}, RepLL phi0 M w sz (texts l) vs → vs = l.map .string
  | [], _, h => by simpa [texts, RepLL] using h
  | s :: l, _, h => by
    simp only [texts, List.map_cons, RepLL] at h
    obtain ⟨x, y, rfl, _, _, h1, h2⟩ := h
    have h3 := texts_vs (l := l) h2
    simp only [RepL] at h1
    obtain ⟨v, vs', rfl, h4, rfl⟩ := h1
    simp only [Rep] at h4
    rw [h3, h4.1]
    rfl
theorem con_texts {f : Nat} {l : List ByteArray} {r : Value} (hc : Callable P f) (hr : r.oneCell' = true) (h : ∀ A c w, C w → Reads w w.heap.size 1 A l.length (l.map .string) → c ≤ maxLen → l.length ≤ c → True → Calls P f #[.slice A l.length c] w fun e w' => e = .returned r ∧ Below w.heap.size w w') : Con P C f [.sl (texts l)] (.val (.ex r)) := by
  refine ⟨hc, fun M w args _ hw ha => ?_⟩
  simp only [RepL] at ha
  obtain ⟨v, vs', rfl, h1, rfl⟩ := ha
  simp only [Rep] at h1
  have hl : (texts l).length = l.length := by simp [texts]
  obtain ⟨A, c, rfl, h2, h3, h4, h5⟩ := h1
  rw [hl] at h2 ⊢
  refine (h A c w hw ⟨by simp, fun hn => ?_⟩ h3 h2 h4).mono ?_
  · obtain ⟨b, o, sz, vs, rfl, _, h6, h7, h8⟩ := h5 (by intro e; rw [e] at hl; simp at hl; omega)
    rw [texts_vs h8] at h7
    exact ⟨b, o, rfl, h6, h7⟩
  · rintro e w' ⟨rfl, hb⟩
    exact ⟨r, rfl, ex_rep r hr, hb⟩
end
end Go.Proofs.YtfpknhhhjgdjbaaDoor
namespace Go.Proofs.YtfpknhhhjgdjbaaDoor
open Go.RowKit
set_option maxRecDepth 100000

section
variable {P : Program} {C : World → Prop} {hp : Nat → Option Row1} {k : AV → Eff → Prop} {id : Nat}
theorem call_mv {f b e : Nat} {β : Row1} {es es' : List (List AV)} {rest us : List AV} {ids : List Nat} (h1 : hp b = some β) (h0 : β = ⟨e, es, true⟩) (h2 : (es.all (·.all p0)) = true) (h3 : cls hp rest = some (us, ids)) (h4 : b ∉ ids) (h5 : (es'.all (·.all noSl0)) = true) (hz : es.map (·.map z0) = es) (h6 : ConM P C f e es us es') (h7 : k (.own id) (.grow b ⟨e, es', true⟩)) : opCall P C id f hp (.own b :: rest) k :=
  call_moved (by rw [h1, h0]) h2 h3 h4 h5 (by rw [hz]; exact h6) h7
end
end Go.Proofs.YtfpknhhhjgdjbaaDoor
namespace Go.Proofs.YtfpknhhhjgdjbaaDoor
open Go.RowKit
set_option maxRecDepth 100000

/-- The result is a struct that lies in a cell, and a second one. -/
theorem aretc_2 {P : Program} {σ : AS} {kk : AV → Prop} {rs : Array ResultVar} {x ty t b j : Nat} {β : Row1} {e : List AV} {v : AV} {us : List AV} {ids : List Nat} (hrs : rs = #[.cell x ty, .tmp t]) (h1 : σ.tm x = .pt b j 0) (h2 : σ.hp b = some β) (h3 : β.es[j]? = some e)
    (hag : (aty P ty).isAgg = true) (hsz : (aty P ty).sz = e.length) (h0 : 0 < e.length) (hv : σ.tm t = v) (h5 : cls σ.hp [.agg e, v] = some (us, ids)) (hk : kk (.tup us)) : aret P rs σ kk := by
  subst hrs
  rw [aret_2]
  simp only [ares1, h1]
  refine ⟨β, e, h2, h3, ?_⟩
  unfold ldCell
  rw [if_pos hag, hsz, List.drop_zero, List.take_length]
  refine ⟨⟨h0, by omega⟩, ?_⟩
  show opt (cls σ.hp [.agg e, σ.tm t]) _
  rw [hv, h5]
  exact hk
theorem aretc_1 {P : Program} {σ : AS} {kk : AV → Prop} {rs : Array ResultVar} {x ty b j : Nat} {β : Row1} {e : List AV} {u : AV} {ids : List Nat} (hrs : rs = #[.cell x ty]) (h1 : σ.tm x = .pt b j 0) (h2 : σ.hp b = some β) (h3 : β.es[j]? = some e)
    (hag : (aty P ty).isAgg = true) (hsz : (aty P ty).sz = e.length) (h0 : 0 < e.length) (h5 : cl σ.hp (.agg e) = some (u, ids)) (hk : kk u) : aret P rs σ kk := by
  subst hrs
  rw [aret_1]
  simp only [ares1, h1]
  refine ⟨β, e, h2, h3, ?_⟩
  unfold ldCell
  rw [if_pos hag, hsz, List.drop_zero, List.take_length]
  refine ⟨⟨h0, by omega⟩, ?_⟩
  show opt (cl σ.hp (.agg e)) _
  rw [h5]
  exact hk
/-- The result is a struct in a cell, with a new row in it. -/
theorem aaggc {P : Program} {σ : AS} {j : Nat} {kk : List AV → Nat → List (List AV) → Prop} {rs : Array ResultVar} {x ty b i b2 : Nat} {β γ : Row1} {e : List AV} (hrs : rs = #[.cell x ty]) (h1 : σ.tm x = .pt b i 0) (h2 : σ.hp b = some β) (h3 : β.es[i]? = some e)
    (hag : (aty P ty).isAgg = true) (hsz : (aty P ty).sz = e.length) (h0 : 0 < e.length) (g1 : e[j]? = some (.own b2)) (g2 : σ.hp b2 = some γ) (g3 : γ.mu = true) (g4 : (γ.es.all (·.all p0)) = true) (g5 : ((e.set j (.ex (.bool false))).all noSl0) = true) (hk : kk (e.set j .junk) γ.ty (γ.es.map (·.map z0))) : aaggf P rs σ j kk := by
  subst hrs
  unfold aaggf
  simp only [ares1, h1]
  refine ⟨β, e, h2, h3, ?_⟩
  unfold ldCell
  rw [if_pos hag, hsz, List.drop_zero, List.take_length]
  exact ⟨⟨h0, by omega⟩, e, b2, γ, rfl, g1, g2, g3, g4, g5, hk⟩
theorem call_aggf {P : Program} {C : World → Prop} {hp : Nat → Option Row1} {k : AV → Eff → Prop} {id : Nat} {f : Nat} {args us cs : List AV} {j e : Nat} {es : List (List AV)} (h1 : cls hp args = some (us, [])) (h2 : Con P C f us (.aggf cs j e es)) (h3 : k (.agg (cs.set j (.own id))) (.new ⟨e, es, true⟩)) : opCall P C id f hp args k :=
  .inl ⟨us, [], h1, _, h2, rfl, h3⟩
/-- A new row that is only read. -/
theorem con_slv {P : Program} {C : World → Prop} {f : Nat} {us : List AV} {e : Nat} {es : List (List AV)} (h0 : 0 < (aty P e).sz) (h : Con P C f us (.fresh e es)) : Con P C f us (.val (.sl es)) := by
  refine ⟨h.1, fun M w args hM hw ha => ?_⟩
  refine (h.2 M w args hM hw ha).mono ?_
  rintro ex w' ⟨v, xs, rfl, h1, h2, h3⟩
  refine ⟨v, rfl, ?_, h3⟩
  obtain ⟨A, c, hv, h4, h5⟩ := own_form h1
  simp only [Rep]
  refine ⟨A, c, hv, h4, h5, trivial, fun hne => ?_⟩
  have hxs : xs ≠ [] := by
    intro e0
    have := h1.1
    rw [e0, List.length_nil] at this
    have h6 : 0 < es.length * (aty P e).sz := Nat.mul_pos (List.length_pos_iff.2 hne) h0
    omega
  obtain ⟨g, c', hv', _, _, hob, _, hlt, hge, hat, _⟩ := own_at h1 hxs
  have hA : A = some ⟨g, 0, none⟩ := by
    rw [hv] at hv'
    injection hv'
  refine ⟨g, 0, (aty P e).sz, xs, hA, fun hm => ?_, hlt, hat, RepLL.keep (w := w') (w' := w') (fun b hlt hn => ⟨fun hm => hn (.inl hm), hlt, rfl⟩) (Ext.refl phi0) _ _ _ h2⟩
  have := hM g hm
  omega
end Go.Proofs.YtfpknhhhjgdjbaaDoor
