/-
  The contracts of the functions that the trail's functions call. Conditions: those that each theorem states.
-/
import Derived.Test.YtapghdjbffmifaaDoorTy
import Derived.Test.YtapghdjbffmifaaDoorCon
import Derived.Test.YtapghdjbffmifaaDoorMarkD
import Derived.Test.YtapghdjbffmifaaDoorHexP
namespace Go.Proofs.YtapghdjbffmifaaDoor
open Go.RowKit
set_option maxRecDepth 100000
set_option linter.unusedSimpArgs false

theorem base : Base Tryd.prog CtxP := ⟨by kernel_rfl, fun _ _ h hb => h.on hb⟩
theorem Int_con (n : Int) (h0 : -9223372036854775808 ≤ n) (h1 : n ≤ 9223372036854775807) : Con Tryd.prog CtxP 76 [.ex (.int .i64 n)] (.val (.ex (.string ⟨(Lib.itoa n).toArray⟩))) :=
  con_ex (vs := [.int .i64 n]) ⟨_, Tryd.func76, rfl, rfl⟩ rfl fun w hw => Int_any n h0 h1 w hw
theorem RInt_con (n : Int) (h0 : -9223372036854775808 ≤ n) (h1 : n ≤ 9223372036854775807) : Con Tryd.prog CtxP 71 [.ex (.int .i64 n)] (.val (.ex (.string ⟨(Lib.itoa n).toArray⟩))) :=
  con_ex' (vs := [.int .i64 n]) ⟨_, Tryd.func71, rfl, rfl⟩ rfl fun w => RInt_any n h0 h1 w
theorem Hash_con (s : ByteArray) (hs : s.size ≤ maxLen) : Con Tryd.prog CtxP 43 [.ex (.string s)] (.val (.ex (.int .u64 (dhash s.data.toList)))) :=
  con_ex' (vs := [.string s]) ⟨_, Tryd.func43, rfl, rfl⟩ rfl fun w => Hash_any s w hs
theorem RHash_con (s : ByteArray) (hs : s.size ≤ maxLen) : Con Tryd.prog CtxP 44 [.ex (.string s)] (.val (.ex (.int .u64 (dhash s.data.toList)))) :=
  con_ex' (vs := [.string s]) ⟨_, Tryd.func44, rfl, rfl⟩ rfl fun w => RHash_any s w hs
theorem Chain_con (p : Int) (s : ByteArray) (hp : U64 p) (hs : s.size ≤ maxLen) : Con Tryd.prog CtxP 45 [.ex (.int .u64 p), .ex (.string s)] (.val (.ex (.int .u64 (dchain p s.data.toList)))) :=
  con_ex' (vs := [.int .u64 p, .string s]) ⟨_, Tryd.func45, rfl, rfl⟩ rfl fun w => Chain_any p s w hp hs
theorem RChain_con (p : Int) (s : ByteArray) (hp : U64 p) (hs : s.size ≤ maxLen) : Con Tryd.prog CtxP 46 [.ex (.int .u64 p), .ex (.string s)] (.val (.ex (.int .u64 (dchain p s.data.toList)))) :=
  con_ex (vs := [.int .u64 p, .string s]) ⟨_, Tryd.func46, rfl, rfl⟩ rfl fun w _ => RChain_any p s w hp hs
theorem Pair_con (a b : Int) (ha : U64 a) (hb : U64 b) : Con Tryd.prog CtxP 47 [.ex (.int .u64 a), .ex (.int .u64 b)] (.val (.ex (.int .u64 (dpair a b)))) :=
  con_ex' (vs := [.int .u64 a, .int .u64 b]) ⟨_, Tryd.func47, rfl, rfl⟩ rfl fun w => Pair_any a b w ha hb
theorem RPair_con (a b : Int) (ha : U64 a) (hb : U64 b) : Con Tryd.prog CtxP 48 [.ex (.int .u64 a), .ex (.int .u64 b)] (.val (.ex (.int .u64 (dpair a b)))) :=
  con_ex (vs := [.int .u64 a, .int .u64 b]) ⟨_, Tryd.func48, rfl, rfl⟩ rfl fun w _ => RPair_any a b w ha hb
theorem Hex_con (u : Int) (hu : U64 u) : Con Tryd.prog CtxP 33 [.ex (.int .u64 u)] (.val (.ex (.string ⟨(hex16 u).toArray⟩))) :=
  con_ex (vs := [.int .u64 u]) ⟨_, Tryd.func33, rfl, rfl⟩ rfl fun w hw => Hex_any u hu w hw
theorem RHex_con (u : Int) (hu : U64 u) : Con Tryd.prog CtxP 34 [.ex (.int .u64 u)] (.val (.ex (.string ⟨(hex16 u).toArray⟩))) :=
  con_ex' (vs := [.int .u64 u]) ⟨_, Tryd.func34, rfl, rfl⟩ rfl fun w => RHex_any u hu w
theorem Valid_con (n : Int) : Con Tryd.prog CtxP 72 [.ex (.int .i64 n)] (.val (.ex (.bool (validD n)))) :=
  con_ex' (vs := [.int .i64 n]) ⟨_, Tryd.func72, rfl, rfl⟩ rfl fun w => Valid_any n w
theorem RValid_con (n : Int) : Con Tryd.prog CtxP 77 [.ex (.int .i64 n)] (.val (.ex (.bool (validD n)))) :=
  con_ex' (vs := [.int .i64 n]) ⟨_, Tryd.func77, rfl, rfl⟩ rfl fun w => RValid_any n w
theorem named_con (s : ByteArray) (hs : s.size ≤ maxLen) : Con Tryd.prog CtxP 73 [.ex (.string s)] (.val (.ex (.bool (namedL s.data.toList)))) :=
  con_ex' (vs := [.string s]) ⟨_, Tryd.func73, rfl, rfl⟩ rfl fun w => named_any s w hs
theorem Name_con (s : ByteArray) (hs : s.size ≤ maxLen) : Con Tryd.prog CtxP 78 [.ex (.string s)] (.val (.ex (.bool (namedL s.data.toList)))) :=
  con_ex' (vs := [.string s]) ⟨_, Tryd.func78, rfl, rfl⟩ rfl fun w => Name_any s w hs
theorem plain_con (s : ByteArray) (hs : s.size ≤ maxLen) : Con Tryd.prog CtxP 74 [.ex (.string s)] (.val (.ex (.bool (plainL s.data.toList)))) :=
  con_ex' (vs := [.string s]) ⟨_, Tryd.func74, rfl, rfl⟩ rfl fun w => plain_any s w hs
theorem Rplain_con (s : ByteArray) (hs : s.size ≤ maxLen) : Con Tryd.prog CtxP 79 [.ex (.string s)] (.val (.ex (.bool (plainL s.data.toList)))) :=
  con_ex' (vs := [.string s]) ⟨_, Tryd.func79, rfl, rfl⟩ rfl fun w => Rplain_any s w hs
theorem Pack_con (l : List ByteArray) (h : (packB l).length + 40 ≤ 140737488355328) (hn : l.length ≤ maxLen) : Con Tryd.prog CtxP 75 [.sl (texts l)] (.val (.ex (.string ⟨(packB l).toArray⟩))) :=
  con_texts ⟨_, Tryd.func75, rfl, rfl⟩ rfl fun A c w hw hr _ _ _ => Pack_any l A c _ w hr (Nat.le_refl _) h hn hw
theorem RPack_con (l : List ByteArray) (h : (packB l).length + 40 ≤ 140737488355328) (hn : l.length ≤ maxLen) : Con Tryd.prog CtxP 70 [.sl (texts l)] (.val (.ex (.string ⟨(packB l).toArray⟩))) :=
  con_texts ⟨_, Tryd.func70, rfl, rfl⟩ rfl fun A c w _ hr _ _ _ => RPack_any l A c _ w hr (Nat.le_refl _) h hn

/-! Marks. -/
def markC (m : MarkV) : List AV := [.ex (.int .i64 m.day), .ex (.string m.user), .ex (.string m.action), .ex (.string m.object), .ex (.int .u64 m.chain)]
def marksC (l : List MarkV) : List (List AV) := l.map markC
theorem marksC_len (l : List MarkV) : (marksC l).length = l.length := by simp [marksC]
theorem marksC_get (l : List MarkV) (k : Nat) (h : k < l.length) : (marksC l)[k]? = some (markC l[k]) := by simp [marksC, h]
theorem marksC_all (l : List MarkV) : ∀ x ∈ marksC l, x.length = 5 := by
  intro x hx
  simp only [marksC, List.mem_map] at hx
  obtain ⟨m, _, rfl⟩ := hx
  rfl
theorem marksC_p0 (l : List MarkV) : ((marksC l).all (·.all p0)) = true := by
  rw [List.all_eq_true]
  intro x hx
  simp only [marksC, List.mem_map] at hx
  obtain ⟨m, _, rfl⟩ := hx
  rfl
theorem marksC_z0 (l : List MarkV) : (marksC l).map (·.map z0) = marksC l := by
  rw [marksC, List.map_map]
  exact List.map_congr_left fun m _ => rfl
theorem marksC_app (a b : List MarkV) : marksC a ++ marksC b = marksC (a ++ b) := by simp [marksC]
theorem marksC_take (l : List MarkV) (k : Nat) : (marksC l).take k = marksC (l.take k) := by simp [marksC]
end Go.Proofs.YtapghdjbffmifaaDoor
