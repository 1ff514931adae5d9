/-
  Chapter 48's plain functions: the chain value, the leaf, what is appended. Conditions: the texts are short.
-/
import Derived.Test.YtapghdjbffmifaaDoorC48
namespace Go.Proofs.YtapghdjbffmifaaDoor
open Go.RowKit
set_option maxRecDepth 100000

def prevC (l : List MarkV) : Int := match l.getLast? with
  | some p => p.chain
  | none => 0
def itoaB (n : Int) : ByteArray := ⟨(Lib.itoa n).toArray⟩
def hexB (n : Int) : ByteArray := ⟨(hex16 n).toArray⟩
def packM (m : MarkV) : List UInt8 := packB [itoaB m.day, m.user, m.action, m.object]
def packF (m : MarkV) : List UInt8 := packB [hexB m.chain, itoaB m.day, m.user, m.action, m.object]
def chainF (l : List MarkV) (m : MarkV) : Int := dchain (prevC l) (packM m)
def leafF (m : MarkV) : Int := dhash (packF m)
theorem itoaB_size (n : Int) (h0 : -9223372036854775808 ≤ n) (h1 : n ≤ 9223372036854775807) : (itoaB n).size ≤ 21 := by
  unfold itoaB; rw [bsize_mk]; exact Lib.itoa_length_le n h0 h1
theorem hexB_size (n : Int) : (hexB n).size = 16 := by
  unfold hexB; rw [bsize_mk]; exact hexLow_length n 16
theorem pack1_le (s : ByteArray) (h : s.size ≤ 1000000) : (pack1 s).length ≤ s.size + 22 := by
  rw [pack1_length]
  have := Lib.itoa_length_le (s.size : Int) (by omega) (by omega)
  omega
theorem packM_le {m : MarkV} (h : m.Ok) : (packM m).length ≤ 1000 := by
  have a := itoaB_size m.day h.d0 h.d1
  have h1 := pack1_le (itoaB m.day) (by omega)
  have h2 := pack1_le m.user (by have := h.u; omega)
  have h3 := pack1_le m.action (by have := h.a; omega)
  have h4 := pack1_le m.object (by have := h.o; omega)
  have := h.u; have := h.a; have := h.o
  unfold packM packB
  simp only [List.flatMap_cons, List.flatMap_nil, List.length_append, List.length_nil]
  omega
theorem packF_le {m : MarkV} (h : m.Ok) : (packF m).length ≤ 1000 := by
  have a := itoaB_size m.day h.d0 h.d1
  have b := hexB_size m.chain
  have h0 := pack1_le (hexB m.chain) (by omega)
  have h1 := pack1_le (itoaB m.day) (by omega)
  have h2 := pack1_le m.user (by have := h.u; omega)
  have h3 := pack1_le m.action (by have := h.a; omega)
  have h4 := pack1_le m.object (by have := h.o; omega)
  have := h.u; have := h.a; have := h.o
  unfold packF packB
  simp only [List.flatMap_cons, List.flatMap_nil, List.length_append, List.length_nil]
  omega
theorem prevC_u64 {l : List MarkV} (h : ∀ m ∈ l, m.Ok) : U64 (prevC l) := by
  unfold prevC
  split
  · rename_i p hp; exact (h p (List.mem_of_getLast? hp)).c
  · unfold U64; omega
theorem chainF_u64 (l : List MarkV) (m : MarkV) : U64 (chainF l m) := dchain_u64 _ _
theorem leafF_u64 (m : MarkV) : U64 (leafF m) := dhash_u64 _
theorem prevC_nil : prevC [] = 0 := rfl
theorem last_of {l : List MarkV} (h : 0 < l.length) : ∃ p, l.getLast? = some p ∧ l[l.length - 1]? = some p ∧ p ∈ l :=
  ⟨l[l.length - 1], by rw [List.getLast?_eq_getElem?, List.getElem?_eq_getElem (by omega)], List.getElem?_eq_getElem (by omega), List.getElem_mem _⟩
theorem marksC_get? {l : List MarkV} {k : Nat} {p : MarkV} (h : l[k]? = some p) : (marksC l)[k]? = some [.ex (.int .i64 p.day), .ex (.string p.user), .ex (.string p.action), .ex (.string p.object), .ex (.int .u64 p.chain)] := by
  rw [marksC, List.getElem?_map, h]; rfl
/-! The calls of chains and leaves. -/
theorem packM_size {m : MarkV} (h : m.Ok) : ByteArray.size ⟨(packM m).toArray⟩ ≤ maxLen := by rw [bsize_mk]; exact Nat.le_trans (packM_le h) (by decide)
theorem packF_size {m : MarkV} (h : m.Ok) : ByteArray.size ⟨(packF m).toArray⟩ ≤ maxLen := by rw [bsize_mk]; exact Nat.le_trans (packF_le h) (by decide)
theorem PackM_con (m : MarkV) (h : m.Ok) : Con Tryd.prog CtxP 75 [.sl [[.ex (.string ⟨(Lib.itoa m.day).toArray⟩)], [.ex (.string m.user)], [.ex (.string m.action)], [.ex (.string m.object)]]] (.val (.ex (.string ⟨(packM m).toArray⟩))) :=
  Pack_con [itoaB m.day, m.user, m.action, m.object] (Nat.le_trans (Nat.add_le_add_right (packM_le h) 40) (by decide)) (by show 4 ≤ maxLen; decide)
theorem PackF_con (m : MarkV) (h : m.Ok) : Con Tryd.prog CtxP 75 [.sl [[.ex (.string ⟨(hex16 m.chain).toArray⟩)], [.ex (.string ⟨(Lib.itoa m.day).toArray⟩)], [.ex (.string m.user)], [.ex (.string m.action)], [.ex (.string m.object)]]] (.val (.ex (.string ⟨(packF m).toArray⟩))) :=
  Pack_con [hexB m.chain, itoaB m.day, m.user, m.action, m.object] (Nat.le_trans (Nat.add_le_add_right (packF_le h) 40) (by decide)) (by show 5 ≤ maxLen; decide)
theorem RPackM_con (m : MarkV) (h : m.Ok) : Con Tryd.prog CtxP 70 [.sl [[.ex (.string ⟨(Lib.itoa m.day).toArray⟩)], [.ex (.string m.user)], [.ex (.string m.action)], [.ex (.string m.object)]]] (.val (.ex (.string ⟨(packM m).toArray⟩))) :=
  RPack_con [itoaB m.day, m.user, m.action, m.object] (Nat.le_trans (Nat.add_le_add_right (packM_le h) 40) (by decide)) (by show 4 ≤ maxLen; decide)
theorem RPackF_con (m : MarkV) (h : m.Ok) : Con Tryd.prog CtxP 70 [.sl [[.ex (.string ⟨(hex16 m.chain).toArray⟩)], [.ex (.string ⟨(Lib.itoa m.day).toArray⟩)], [.ex (.string m.user)], [.ex (.string m.action)], [.ex (.string m.object)]]] (.val (.ex (.string ⟨(packF m).toArray⟩))) :=
  RPack_con [hexB m.chain, itoaB m.day, m.user, m.action, m.object] (Nat.le_trans (Nat.add_le_add_right (packF_le h) 40) (by decide)) (by show 5 ≤ maxLen; decide)
theorem ChainM_con (l : List MarkV) (m : MarkV) (hk : ∀ m ∈ l, m.Ok) (h : m.Ok) : Con Tryd.prog CtxP 45 [.ex (.int .u64 (prevC l)), .ex (.string ⟨(packM m).toArray⟩)] (.val (.ex (.int .u64 (chainF l m)))) := by
  have := Chain_con (prevC l) ⟨(packM m).toArray⟩ (prevC_u64 hk) (packM_size h)
  rwa [b_mk] at this
theorem HashF_con (m : MarkV) (h : m.Ok) : Con Tryd.prog CtxP 43 [.ex (.string ⟨(packF m).toArray⟩)] (.val (.ex (.int .u64 (leafF m)))) := by
  have := Hash_con ⟨(packF m).toArray⟩ (packF_size h)
  rwa [b_mk] at this
theorem RChainM_con (l : List MarkV) (m : MarkV) (hk : ∀ m ∈ l, m.Ok) (h : m.Ok) : Con Tryd.prog CtxP 46 [.ex (.int .u64 (prevC l)), .ex (.string ⟨(packM m).toArray⟩)] (.val (.ex (.int .u64 (chainF l m)))) := by
  have := RChain_con (prevC l) ⟨(packM m).toArray⟩ (prevC_u64 hk) (packM_size h)
  rwa [b_mk] at this
theorem RHashF_con (m : MarkV) (h : m.Ok) : Con Tryd.prog CtxP 44 [.ex (.string ⟨(packF m).toArray⟩)] (.val (.ex (.int .u64 (leafF m)))) := by
  have := RHash_con ⟨(packF m).toArray⟩ (packF_size h)
  rwa [b_mk] at this
end Go.Proofs.YtapghdjbffmifaaDoor
