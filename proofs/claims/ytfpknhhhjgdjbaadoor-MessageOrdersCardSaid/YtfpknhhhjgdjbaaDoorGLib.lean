/-
  Words for memory and small laws, over any program: a slice that reads as a list of cells; an append of one element, of a slice, to a row of the call's own; bytes as a string. Conditions: none beyond those each theorem states.
  Small laws on byte arrays. Conditions: none.
  Small laws, more. Conditions: none.
-/
import Derived.WalkKit
import Derived.WalkSpells
import Derived.WalkLawsBesides
import Derived.Outline
import Derived.Deep.QuietTactic
import Derived.Deep.Draws
import Derived.BigQuiet
import Derived.Lib.Hide
import Derived.Lib.AppendStr
import Derived.Lib.AppendIntMem
import Derived.Laws.Shifts
import Derived.Laws.ShiftsVar
import Derived.Laws.ShiftsVarLaws
import Derived.Maps.AppendAt
import Derived.Deep.LoopGhost
import Derived.Deep.RegionHeld3
namespace Go.Proofs.YtfpknhhhjgdjbaaDoor
open Go.RowKit

/-- A row of cells lies at a place. -/
def At (w : World) (b o : Nat) (cs : List Value) : Prop := ∀ j u, cs[j]? = some u → w.cell? ⟨b, o + j, none⟩ = some u

/-- A slice's address leads to n elements of sz cells each, below block B. -/
def Reads (w : World) (B sz : Nat) (A : Option Addr) (n : Nat) (cs : List Value) : Prop :=
  cs.length = n * sz ∧ (0 < n → ∃ b o, A = some ⟨b, o, none⟩ ∧ b < B ∧ At w b o cs)

section
variable {w w' : World} {B B' sz n : Nat} {A : Option Addr} {cs : List Value}
theorem Reads.nil (w : World) (B sz : Nat) (A : Option Addr) : Reads w B sz A 0 [] := ⟨by simp, fun h => absurd h (by omega)⟩
theorem At.below {b o : Nat} (h : At w b o cs) (hb : Below B w w') (hlt : b < B) : At w' b o cs := fun j u hu => (hb.cell (p := ⟨b, o + j, none⟩) hlt).trans (h j u hu)
theorem Reads.below (h : Reads w B sz A n cs) (hb : Below B w w') : Reads w' B sz A n cs :=
  ⟨h.1, fun hn => by obtain ⟨b, o, e, hlt, hc⟩ := h.2 hn; exact ⟨b, o, e, hlt, hc.below hb hlt⟩⟩
theorem Reads.up (h : Reads w B sz A n cs) (hB : B ≤ B') : Reads w B' sz A n cs :=
  ⟨h.1, fun hn => by obtain ⟨b, o, e, hlt, hc⟩ := h.2 hn; exact ⟨b, o, e, by omega, hc⟩⟩
theorem Reads.at_ (h : Reads w B sz A n cs) (hn : 0 < n) : ∃ b o, A = some ⟨b, o, none⟩ ∧ b < B ∧ At w b o cs := h.2 hn
theorem Reads.of_own {base e c : Nat} (h : w.ownsRow base e sz (.slice A n c) n cs) : Reads w w.heap.size sz A n cs := by
  refine ⟨h.1, fun hn => ?_⟩
  rcases h.2 with ⟨h1, h2⟩ | ⟨g, cap, cur, hv, _, hg, _, _, _, ht⟩
  · omega
  · injection hv with hv _ _
    subst hv
    refine ⟨g, 0, rfl, (Array.getElem?_eq_some_iff.1 hg).1, fun j u hu => ?_⟩
    have := h.cells (g := g) rfl j u hu
    rw [Addr.add_lit] at this
    exact this
theorem Reads.take {k : Nat} (h : Reads w B sz A n cs) (hk : k ≤ n) : Reads w B sz A k (cs.take (k * sz)) := by
  refine ⟨by rw [List.length_take, h.1]; exact Nat.min_eq_left (Nat.mul_le_mul_right _ hk), fun hn => ?_⟩
  obtain ⟨b, o, e, hlt, hc⟩ := h.2 (by omega)
  exact ⟨b, o, e, hlt, fun j u hu => hc j u (by
    have hj : j < k * sz := by
      have := (List.getElem?_eq_some_iff.1 hu).1
      rw [List.length_take] at this
      omega
    rwa [List.getElem?_take_of_lt hj] at hu)⟩
theorem At.drop {b o : Nat} (h : At w b o cs) (k : Nat) : At w b (o + k) (cs.drop k) := fun j u hu => by
  rw [List.getElem?_drop] at hu
  rw [Nat.add_assoc]
  exact h _ u hu
theorem At.cell {b o : Nat} (h : At w b o cs) {j : Nat} {u : Value} (hu : cs[j]? = some u) : w.cell? ⟨b, o + j, none⟩ = some u := h j u hu
end

theorem below_drewN {B : Nat} {a w : World} (h : Below B a w) (n : Nat) : Below B a (w.drewN n) := ⟨h.os, h.tape, h.output, h.size, h.block⟩
theorem Below.alloc1 (w : World) (o : Obj) : Below w.heap.size w (w.alloc o) := (Below.refl _ _).alloc (Nat.le_refl _) o
/-- Below chains: the first world's size is the mark. -/
theorem Below.then {a b c : World} (h : Below a.heap.size a b) (k : Below b.heap.size b c) : Below a.heap.size a c := h.trans (k.mono h.size)
theorem Below.thenB {B : Nat} {a b c : World} (hB : B ≤ a.heap.size) (h : Below B a b) (k : Below b.heap.size b c) : Below B a c := h.trans (k.mono (Nat.le_trans hB h.size))

theorem own_form {w : World} {B e sz n : Nat} {v : Value} {cs : List Value} (h : w.ownsRow B e sz v n cs) : ∃ A c, v = .slice A n c ∧ n ≤ c ∧ c ≤ maxLen := by
  rcases h.2 with ⟨rfl, rfl⟩ | ⟨g, cap, cur, rfl, _, _, h1, h2, _⟩
  · exact ⟨none, 0, rfl, Nat.le_refl _, by decide⟩
  · exact ⟨_, _, rfl, h1, h2⟩
/-- A row of the call's own stays through whatever turns nothing below the heap's end. -/
theorem own_below {w w' : World} {B e sz n : Nat} {v : Value} {cs : List Value} (h : w.ownsRow B e sz v n cs) (hb : Below w.heap.size w w') : w'.ownsRow B e sz v n cs := by
  refine ⟨h.1, ?_⟩
  rcases h.2 with h2 | ⟨g, cap, cur, hv, hg, hh, r⟩
  · exact .inl h2
  · exact .inr ⟨g, cap, cur, hv, hg, (hb.block g (Array.getElem?_eq_some_iff.1 hh).1).trans hh, r⟩
/-- A lower mark serves as well. -/
theorem own_base {w : World} {B B' e sz n : Nat} {v : Value} {cs : List Value} (h : w.ownsRow B e sz v n cs) (hB : B' ≤ B) : w.ownsRow B' e sz v n cs := by
  refine ⟨h.1, ?_⟩
  rcases h.2 with h2 | ⟨g, cap, cur, hv, hg, r⟩
  · exact .inl h2
  · exact .inr ⟨g, cap, cur, hv, Nat.le_trans hB hg, r⟩
/-- 'string(b)' of a row of bytes of the call's own. -/
theorem conv_own {P : Program} {w : World} {B e n : Nat} {v : Value} {l : List UInt8} (h : w.ownsRow B e 1 v n (Lib.byteCells l)) {src dst : TypeId}
    (hs : P.underlying src = some (.slice e)) (he : P.underlying e = some (.int .u8)) (hd : P.underlying dst = some .string) : (convert src dst v).run P w = .ok (.string ⟨l.toArray⟩) w := by
  have hn : n = l.length := by have := h.1; simp [Lib.byteCells] at this; omega
  subst hn
  rcases h.2 with ⟨rfl, h0⟩ | ⟨g, cap, cur, rfl, _⟩
  · have : l = [] := List.eq_nil_of_length_eq_zero h0
    subst this
    exact run_convert_bytes_nil w src e hs he 0 0 dst hd
  · refine run_convert_bytes_back w src dst e _ cap l hs he hd fun j hj => ?_
    exact h.cells (g := g) rfl j _ (by simp [Lib.byteCells, hj])
/-- 'string(b)' of bytes that are read. -/
theorem conv_reads {P : Program} {w : World} {B e n c : Nat} {A : Option Addr} {l : List UInt8} (h : Reads w B 1 A n (Lib.byteCells l)) {src dst : TypeId}
    (hs : P.underlying src = some (.slice e)) (he : P.underlying e = some (.int .u8)) (hd : P.underlying dst = some .string) (h0 : n = 0 → A = none ∨ ∃ b o, A = some ⟨b, o, none⟩) : (convert src dst (.slice A n c)).run P w = .ok (.string ⟨l.toArray⟩) w := by
  have hn : n = l.length := by have := h.1; simp [Lib.byteCells] at this; omega
  rcases Nat.eq_zero_or_pos n with hz | hp
  · have : l = [] := List.eq_nil_of_length_eq_zero (by omega)
    subst this
    rcases h0 hz with rfl | ⟨b, o, rfl⟩
    · exact run_convert_bytes_nil w src e hs he n c dst hd
    · subst hz
      exact run_convert_bytes_back w src dst e _ c [] hs he hd fun j hj => by simp at hj
  · obtain ⟨b, o, rfl, _, hc⟩ := h.2 hp
    subst hn
    refine run_convert_bytes_back w src dst e _ c l hs he hd fun j hj => ?_
    rw [Addr.add_lit]
    exact hc j _ (by simp [Lib.byteCells, hj])

/-- What the laws on append ask of an element's type. -/
structure Elt (P : Program) (t e : TypeId) (size bytes : Nat) : Prop where
  slice : P.underlying t = some (.slice e)
  info : ∃ i z, P.info? e = some i ∧ i.zero = some z ∧ i.size = size ∧ i.bytes = bytes ∧ z.cells.size = size
  pos : 0 < size
theorem Elt.mk' {P : Program} {t e : TypeId} {size bytes : Nat} {z : Value} (h : P.underlying t = some (.slice e)) (hi : (P.info? e).map (fun i => (i.zero, i.size, i.bytes)) = some (some z, size, bytes))
    (hz : z.cells.size = size) (hp : 0 < size) : Elt P t e size bytes := by
  obtain ⟨i, h1, h2, h3, h4⟩ := info_parts hi
  exact ⟨h, ⟨i, z, h1, h2, h3, h4, hz⟩, hp⟩

section
variable {P : Program} {ops : Array Oper} {rest : List Oper} {o : Oper} {a : Act} {Q : Exit → Act → World → Prop}
/-- append(s, x) of one element: the element lies in a new block of its own. -/
theorem wpList_push {W : World} {t e : TypeId} {size bytes : Nat} (E : Elt P t e size bytes) (hgd : o.guard = none) (s x : Operand)
    (ho : o.op = .call { callee := .builtin .append, args := #[s, x], argTypes := #[t, t] }) (base : Nat)
    (v : Value) (n : Nat) (xs : List Value) (hs : a.eval s = v) (hown : W.ownsRow base e size v n xs)
    (news : List Value) (hx : a.eval x = .slice (some ⟨W.heap.size, 0, none⟩) 1 1) (hl : news.length = size) (h1 : ∀ u ∈ news, u.oneCell' = true)
    (hlim : (n + 1) * bytes ≤ 140737488355328) (hb : 1 ≤ bytes) (hbase : base ≤ W.heap.size)
    (h : ∀ v' w', w'.ownsRow base e size v' (n + 1) (xs ++ news) → Below base W w' → wpList P ops Q rest (a.put o.dst v') w') : wpList P ops Q (o :: rest) a (W.alloc (.cells news.toArray e)) := by
  obtain ⟨i, z, hi, hz, h3, h4, h5⟩ := E.info
  have hn : n + 1 ≤ (n + 1) * bytes := Nat.le_mul_of_pos_right _ hb
  refine wpList_append_own _ hgd s x t ho base e i z size bytes E.slice hi hz h3 h4 h5 E.pos v n xs hs (hown.alloc _) ⟨W.heap.size, 0, none⟩ 1 1 news hx (by omega) (fun j u hu => ?_) h1 (by unfold maxLen; omega) hlim (by simp; omega) fun v' w' h2 h3 _ => h v' w' h2 ?_
  · rw [Addr.add_lit, World.cell?_alloc_new, Nat.zero_add]
    simpa using hu
  · refine ((Below.refl base W).alloc hbase _).grown h3 (by simp; omega) fun k hk => (hown.lt k hk).1
/-- append(s, x...) of a slice that is read. -/
theorem wpList_app {w : World} {t e : TypeId} {size bytes : Nat} (E : Elt P t e size bytes) (hgd : o.guard = none) (s x : Operand)
    (ho : o.op = .call { callee := .builtin .append, args := #[s, x], argTypes := #[t, t] }) (base : Nat)
    (v : Value) (n : Nat) (xs : List Value) (hs : a.eval s = v) (hown : w.ownsRow base e size v n xs)
    (B : Nat) (A : Option Addr) (m c : Nat) (news : List Value) (hx : a.eval x = .slice A m c) (hr : Reads w B size A m news) (h0 : m = 0 → A = none ∨ ∃ b o, A = some ⟨b, o, none⟩) (h1 : ∀ u ∈ news, u.oneCell' = true)
    (hlim : (n + m) * bytes ≤ 140737488355328) (hb : 1 ≤ bytes) (hbase : base ≤ w.heap.size)
    (h : ∀ v' w', w'.ownsRow base e size v' (n + m) (xs ++ news) → Below base w w' → wpList P ops Q rest (a.put o.dst v') w') : wpList P ops Q (o :: rest) a w := by
  obtain ⟨i, z, hi, hz, h3, h4, h5⟩ := E.info
  have hn : n + m ≤ (n + m) * bytes := Nat.le_mul_of_pos_right _ hb
  have fin : ∀ w', w.grownBy w' v.ownBlock → Below base w w' := fun w' hg => (Below.refl base w).grown hg hbase fun k hk => (hown.lt k hk).1
  rcases Nat.eq_zero_or_pos m with hm | hm
  · have hnews : news = [] := List.eq_nil_of_length_eq_zero (by have := hr.1; rw [hm] at this; omega)
    rcases h0 hm with rfl | ⟨b, o', rfl⟩
    · refine wpList_plain hgd fun K hK' => ?_
      have hrun : (Builtin.append_ #[t, t] o.type #[v, .slice none m c]).run P w = .ok v w := by
        subst hm
        rcases hown.2 with ⟨rfl, rfl⟩ | ⟨g, cap, cur, rfl, _, _, hnc, _⟩
        · simp [Builtin.append_, run_underlying E.slice, sizeOf, typeInfo, hi, Builtin.lenOf, Builtin.firstCells]
        · simp [Builtin.append_, run_underlying E.slice, sizeOf, typeInfo, hi, Builtin.lenOf, Builtin.firstCells, hnc, storeCells]
      unfold Oper.wp
      simp [execOp, ho, resolve, invoke, builtin, hs, hx, hrun, Result.andThen]
      exact hK' _ _ (h v w (by rw [hm, hnews]; simpa using hown) (Below.refl _ _))
    · exact wpList_append_own _ hgd s x t ho base e i z size bytes E.slice hi hz h3 h4 h5 E.pos v n xs hs hown ⟨b, o', none⟩ m c news hx hr.1 (fun j u hu => by rw [hnews] at hu; simp at hu) h1 (by unfold maxLen; omega) hlim hbase fun v' w' h2 h3 _ => h v' w' h2 (fin w' h3)
  · obtain ⟨b, o', rfl, _, hc⟩ := hr.2 hm
    exact wpList_append_own _ hgd s x t ho base e i z size bytes E.slice hi hz h3 h4 h5 E.pos v n xs hs hown ⟨b, o', none⟩ m c news hx hr.1 (fun j u hu => by rw [Addr.add_lit]; exact hc j u hu) h1 (by unfold maxLen; omega) hlim hbase fun v' w' h2 h3 _ => h v' w' h2 (fin w' h3)
end

theorem byteCells_one (l : List UInt8) : ∀ u ∈ Lib.byteCells l, u.oneCell' = true := by
  intro u hu
  obtain ⟨_, _, rfl⟩ := List.mem_map.1 hu
  rfl
theorem byteCells_snoc (l : List UInt8) (c : UInt8) : Lib.byteCells l ++ [.int .u8 c.toNat] = Lib.byteCells (l ++ [c]) := by simp [Lib.byteCells]
theorem ret_int {k : IntKind} {a b : Int} (h : a = b) : Ending.returned (.int k a) = .returned (.int k b) := by rw [h]
theorem str_eq {l m : List UInt8} (h : l = m) : Value.string ⟨l.toArray⟩ = .string ⟨m.toArray⟩ := by rw [h]
theorem str_self (s : ByteArray) : (⟨s.data.toList.toArray⟩ : ByteArray) = s := by cases s; simp
theorem toList_mk (l : List UInt8) : (⟨l.toArray⟩ : ByteArray).data.toList = l := by simp
theorem size_list (s : ByteArray) : s.data.toList.length = s.size := by simp
theorem byte_get (s : ByteArray) (k : Nat) (h : k < s.size) : s.data.toList[k]? = some s[k] := by
  rw [List.getElem?_eq_getElem (by simpa using h)]; rfl
theorem take_snoc (s : ByteArray) (k : Nat) (h : k < s.size) : s.data.toList.take (k + 1) = s.data.toList.take k ++ [s[k]] := by
  rw [List.take_succ_eq_append_getElem (by simpa using h)]; rfl
theorem take_all (s : ByteArray) (k : Nat) (h : ¬ k < s.size) : s.data.toList.take k = s.data.toList := List.take_of_length_le (by simp; omega)
theorem byte_lt (c : UInt8) : c.toNat < 256 := UInt8.toNat_lt c
theorem ofNat_toNat (n : Nat) (h : n < 256) : ((UInt8.ofNat n).toNat : Int) = n := by
  rw [UInt8.toNat_ofNat']; omega
end Go.Proofs.YtfpknhhhjgdjbaaDoor
namespace Go.Proofs.YtfpknhhhjgdjbaaDoor
theorem bsize_mk (l : List UInt8) : (⟨l.toArray⟩ : ByteArray).size = l.length := by simp [ByteArray.size]
theorem bsize_app (a b : ByteArray) : (a ++ b).size = a.size + b.size := ByteArray.size_append
theorem b_eq {a b : ByteArray} (h : a.data.toList = b.data.toList) : a = b := ByteArray.ext (Array.toList_inj.1 h)
theorem b_app (a b : ByteArray) : (a ++ b).data.toList = a.data.toList ++ b.data.toList := by simp
theorem b_mk (l : List UInt8) : (⟨l.toArray⟩ : ByteArray).data.toList = l := by simp
end Go.Proofs.YtfpknhhhjgdjbaaDoor
namespace Go.Proofs.YtfpknhhhjgdjbaaDoor
theorem bool_ext2 {a b : Bool} (h : a = true ↔ b = true) : a = b := Bool.eq_iff_iff.2 h
theorem ret_bool2 {a b : Bool} (h : a = b) : Ending.returned (.bool a) = .returned (.bool b) := by rw [h]
theorem empty_of_size0 {t : ByteArray} (h : t.size = 0) : t = ⟨#[]⟩ := by apply b_eq; exact List.eq_nil_of_length_eq_zero (by rw [size_list, h])

/-! Rows of elements of the same number of cells. -/
theorem flat_len {α : Type} (f : α → List Value) (sz : Nat) (hf : ∀ x, (f x).length = sz) : ∀ l : List α, (l.flatMap f).length = l.length * sz
  | [] => by simp
  | x :: l => by rw [List.flatMap_cons, List.length_append, hf, flat_len f sz hf l, List.length_cons, Nat.add_mul, Nat.one_mul, Nat.add_comm]
theorem flat_get {α : Type} (f : α → List Value) (sz : Nat) (hf : ∀ x, (f x).length = sz) : ∀ (l : List α) (k j : Nat) (hk : k < l.length), j < sz → (l.flatMap f)[k * sz + j]? = (f l[k])[j]?
  | [], _, _, hk, _ => by simp at hk
  | x :: l, 0, j, _, hj => by rw [List.flatMap_cons, List.getElem?_append_left (by rw [hf]; omega)]; simp
  | x :: l, k + 1, j, hk, hj => by
    rw [List.flatMap_cons, List.getElem?_append_right (by rw [hf, Nat.add_mul]; omega), hf, show (k + 1) * sz + j - sz = k * sz + j by rw [Nat.add_mul]; omega]
    exact flat_get f sz hf l k j (by simpa using hk) hj
/-- The cells of element k of a row that is read. -/
theorem Reads.elem {α : Type} {w : World} {B sz n : Nat} {A : Option Addr} {f : α → List Value} {l : List α} (hf : ∀ x, (f x).length = sz) (h : Reads w B sz A n (l.flatMap f)) (hn : n = l.length) (k : Nat) (hk : k < l.length) :
    ∃ b o, A = some ⟨b, o, none⟩ ∧ b < B ∧ ∀ j u, j < sz → (f l[k])[j]? = some u → w.cell? ⟨b, o + (k * sz + j), none⟩ = some u := by
  obtain ⟨b, o, e, hb, hc⟩ := h.2 (by omega)
  exact ⟨b, o, e, hb, fun j u hj hu => hc _ u (by rw [flat_get f sz hf l k j hk hj]; exact hu)⟩
end Go.Proofs.YtfpknhhhjgdjbaaDoor
