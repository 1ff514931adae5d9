/-
  The balance of an account in a journal of one entry of two legs, walked. Conditions: those that each theorem states.
-/
import Derived.RangeFuncNested
import Derived.RangeFuncBound
import Derived.RangeFuncCalls
import Derived.RangeFuncLeaves
import Derived.Shelf.Abstract
import Derived.Shelf.RegionOpen
import Derived.WalkKit
import Derived.OwnWalkIn
import Derived.TacticsInMore
import Derived.LoopNIn
import Derived.LoopIn
import Derived.Test.YtcoflmckbcnlpaaGreatDoorGCon
namespace Go.Proofs.YtcoflmckbcnlpaaGreatDoor
open Go.RowKit Go.Shelf
set_option maxRecDepth 100000
set_option linter.unusedSimpArgs false
attribute [local go_sem] Oper.semAt_some
theorem cell_more {W : World} {a : Addr} {v : Value} (o : Obj) (h : W.cell? a = some v) : (W.alloc o).cell? a = some v := cell_kept h (World.grownBy_alloc W o none) (fun r e => by cases e)
set_option maxHeartbeats 2000000 in
theorem mov_in (F : Fence) (n : Nat) (h : F.fn 77) (hro : F.round = none) (a : Option Addr) (len cap : Nat) (id : Int) (w : World) :
    CallsIn F n Tryz.prog 77 #[.slice a len cap, .int .i64 id] w fun e w' => e = .returned (.func (.func 122) #[] #[.pointer (some ⟨w.heap.size, 0, none⟩), .pointer (some ⟨w.heap.size + 1, 0, none⟩)]) ∧ w' = (w.alloc (.cells #[.slice a len cap] 79)).alloc (.cells #[.int .i64 id] 3) := by
  refine callsIn_of_wp Tryz.func77 rfl h ?_ hro
  simp only [Tryz.ntmps77, List.size_toArray, List.length_cons, List.length_nil, Nat.reduceAdd, Nat.reduceSub, Array.replicate_succ, Array.replicate_zero, List.push_toArray, List.append_toArray, List.nil_append, List.cons_append]
  gi_wp2
  go_ret
  simp
set_option maxHeartbeats 4000000 in
theorem mov1_in (F : Fence) (n : Nat) (h : F.fn 122) (hro : F.round = none) (hn : 1 ≤ n) (l Bj Ba n₀ bj oj cj bl ol cl : Nat) (n0 n1 n2 n3 n4 n5 n9 a1 id x1 x2 : Int) (s1 s2 s6 s7 : ByteArray) (hne : a1 ≠ id) (hbj : bj < n₀) (hbl : bl < n₀) (J Jx : List Unit → World → Prop)
    (hY : ∀ pre x W, J pre W → pre.length < 1 → YieldAt F (n - 1) Tryz.prog l #[(.agg #[.int .i64 n0, .int .i64 n1, .int .i64 n2, .int .i64 n3, .int .i64 n4, .int .i64 n5, .string s6, .string s7, .slice (some ⟨bl, ol, none⟩) 2 cl, .int .u64 n9]), .int .i64 x2] W fun e W' => (e = .returned (.bool true) ∧ J (pre ++ [x]) W' ∧ Below n₀ W W') ∨ (e = .returned (.bool false) ∧ Jx (pre ++ [x]) W'))
    (W : World) (hJ : AbidesFrom W.heap.size J) (hn₀ : n₀ ≤ W.heap.size) (hBj : W.cell? ⟨Bj, 0, none⟩ = some (.slice (some ⟨bj, oj, none⟩) 1 cj)) (hBa : W.cell? ⟨Ba, 0, none⟩ = some (.int .i64 id))
    (c0 : W.cell? ⟨bj, oj, none⟩ = some (.int .i64 n0)) (c1 : W.cell? ⟨bj, oj + 1, none⟩ = some (.int .i64 n1)) (c2 : W.cell? ⟨bj, oj + 2, none⟩ = some (.int .i64 n2)) (c3 : W.cell? ⟨bj, oj + 3, none⟩ = some (.int .i64 n3)) (c4 : W.cell? ⟨bj, oj + 4, none⟩ = some (.int .i64 n4)) (c5 : W.cell? ⟨bj, oj + 5, none⟩ = some (.int .i64 n5)) (c6 : W.cell? ⟨bj, oj + 6, none⟩ = some (.string s6)) (c7 : W.cell? ⟨bj, oj + 7, none⟩ = some (.string s7)) (c8 : W.cell? ⟨bj, oj + 8, none⟩ = some (.slice (some ⟨bl, ol, none⟩) 2 cl)) (c9 : W.cell? ⟨bj, oj + 9, none⟩ = some (.int .u64 n9))
    (d0 : W.cell? ⟨bl, ol, none⟩ = some (.int .i64 a1)) (d1 : W.cell? ⟨bl, ol + 1, none⟩ = some (.int .i64 x1)) (d2 : W.cell? ⟨bl, ol + 2, none⟩ = some (.string s1)) (d3 : W.cell? ⟨bl, ol + 3, none⟩ = some (.int .i64 id)) (d4 : W.cell? ⟨bl, ol + 4, none⟩ = some (.int .i64 x2)) (d5 : W.cell? ⟨bl, ol + 5, none⟩ = some (.string s2)) (h0 : J [] W) :
    CallsIn F n Tryz.prog 122 #[.func (.yield l) #[] #[], .pointer (some ⟨Bj, 0, none⟩), .pointer (some ⟨Ba, 0, none⟩)] W fun e W' => (∃ v, e = .returned v) ∧ ((∃ ys, ys = [()] ∧ J ys W') ∨ (∃ pre, True ∧ Jx pre W')) := by
  refine callsIn_of_wp Tryz.func122 rfl h ?_ hro
  simp only [Tryz.ntmps122, List.size_toArray, List.length_cons, List.length_nil, Nat.reduceAdd, Nat.reduceSub, Array.replicate_succ, Array.replicate_zero, List.push_toArray, List.append_toArray, List.nil_append, List.cons_append]
  have hal : ∀ (s : List Unit) (X : World) (o : Obj), W.heap.size ≤ X.heap.size → J s X → J s (X.alloc o) := fun s X o _ hs => hJ s X _ none hs (World.grownBy_alloc X o none) (fun r e => by cases e)
  gi_wp2
  gi_loopw [10] (fun i wr => (i = .int .i64 0 ∧ wr = W) ∨ (i = .int .i64 1 ∧ J [()] wr)) (fun i _ => 1 - (intOf i).toNat)
  case atStart => exact .inl ⟨rfl, rfl⟩
  case round =>
    rcases hrel with ⟨rfl, hwr⟩ | ⟨rfl, hJs⟩
    · rw [hwr]
      clear hwr
      gi_wp2
      gi_loopw [17] (fun k wv => (k = .int .i64 0 ∧ wv = (W.alloc (.cells #[.int .i64 n0, .int .i64 n1, .int .i64 n2, .int .i64 n3, .int .i64 n4, .int .i64 n5, .string s6, .string s7, .slice (some ⟨bl, ol, none⟩) 2 cl, .int .u64 n9] 92))) ∨ (k = .int .i64 1 ∧ wv = ((W.alloc (.cells #[.int .i64 n0, .int .i64 n1, .int .i64 n2, .int .i64 n3, .int .i64 n4, .int .i64 n5, .string s6, .string s7, .slice (some ⟨bl, ol, none⟩) 2 cl, .int .u64 n9] 92)).alloc (.cells #[.int .i64 a1, .int .i64 x1, .string s1] 88))) ∨ (k = .int .i64 2 ∧ J [()] wv)) (fun k _ => 2 - (intOf k).toNat)
      case atStart => exact .inl ⟨rfl, rfl⟩
      case round =>
        rcases hrel with ⟨rfl, hwv⟩ | ⟨rfl, hwv⟩ | ⟨rfl, hJs⟩
        · rw [hwv]
          clear hwv
          have p0 := cell_more (.cells #[.int .i64 n0, .int .i64 n1, .int .i64 n2, .int .i64 n3, .int .i64 n4, .int .i64 n5, .string s6, .string s7, .slice (some ⟨bl, ol, none⟩) 2 cl, .int .u64 n9] 92) d0
          have p1 := cell_more (.cells #[.int .i64 n0, .int .i64 n1, .int .i64 n2, .int .i64 n3, .int .i64 n4, .int .i64 n5, .string s6, .string s7, .slice (some ⟨bl, ol, none⟩) 2 cl, .int .u64 n9] 92) d1
          have p2 := cell_more (.cells #[.int .i64 n0, .int .i64 n1, .int .i64 n2, .int .i64 n3, .int .i64 n4, .int .i64 n5, .string s6, .string s7, .slice (some ⟨bl, ol, none⟩) 2 cl, .int .u64 n9] 92) d2
          have p3 := cell_more (.cells #[.int .i64 n0, .int .i64 n1, .int .i64 n2, .int .i64 n3, .int .i64 n4, .int .i64 n5, .string s6, .string s7, .slice (some ⟨bl, ol, none⟩) 2 cl, .int .u64 n9] 92) hBa
          have p4 := cell_more (.cells #[.int .i64 a1, .int .i64 x1, .string s1] 88) p3
          have hne' : ¬ a1 = id := hne
          gi_wp2
          refine ⟨fun _ h => (by cases h), ?_⟩
          gi_wp2
          go_roundw
          case rel => exact .inr (.inl ⟨by first | rfl | trivial, by first | rfl | trivial⟩)
          case measure => simp [intOf]
        · rw [hwv]
          clear hwv
          have p0 := cell_more (.cells #[.int .i64 a1, .int .i64 x1, .string s1] 88) (cell_more (.cells #[.int .i64 n0, .int .i64 n1, .int .i64 n2, .int .i64 n3, .int .i64 n4, .int .i64 n5, .string s6, .string s7, .slice (some ⟨bl, ol, none⟩) 2 cl, .int .u64 n9] 92) d3)
          have p1 := cell_more (.cells #[.int .i64 a1, .int .i64 x1, .string s1] 88) (cell_more (.cells #[.int .i64 n0, .int .i64 n1, .int .i64 n2, .int .i64 n3, .int .i64 n4, .int .i64 n5, .string s6, .string s7, .slice (some ⟨bl, ol, none⟩) 2 cl, .int .u64 n9] 92) d4)
          have p2 := cell_more (.cells #[.int .i64 a1, .int .i64 x1, .string s1] 88) (cell_more (.cells #[.int .i64 n0, .int .i64 n1, .int .i64 n2, .int .i64 n3, .int .i64 n4, .int .i64 n5, .string s6, .string s7, .slice (some ⟨bl, ol, none⟩) 2 cl, .int .u64 n9] 92) d5)
          have p4 := cell_more (.cells #[.int .i64 id, .int .i64 x2, .string s2] 88) (cell_more (.cells #[.int .i64 a1, .int .i64 x1, .string s1] 88) (cell_more (.cells #[.int .i64 n0, .int .i64 n1, .int .i64 n2, .int .i64 n3, .int .i64 n4, .int .i64 n5, .string s6, .string s7, .slice (some ⟨bl, ol, none⟩) 2 cl, .int .u64 n9] 92) hBa))
          obtain ⟨fn, tmps, assign, body, hy, hR⟩ := hY [] () (((W.alloc (.cells #[.int .i64 n0, .int .i64 n1, .int .i64 n2, .int .i64 n3, .int .i64 n4, .int .i64 n5, .string s6, .string s7, .slice (some ⟨bl, ol, none⟩) 2 cl, .int .u64 n9] 92)).alloc (.cells #[.int .i64 a1, .int .i64 x1, .string s1] 88)).alloc (.cells #[.int .i64 id, .int .i64 x2, .string s2] 88)) (hal _ _ _ (by simp; omega) (hal _ _ _ (by simp) (hal _ _ _ (Nat.le_refl _) h0))) (by simp)
          gi_wp2
          refine hR.mono ?_
          rintro e W3 (⟨rfl, hJ3, hk3⟩ | ⟨rfl, hJx3⟩)
          · gi_wp2
            go_roundw
            case rel => exact .inr (.inr ⟨rfl, hJ3⟩)
            case measure => simp [intOf]
          · gi_wp2
            refine bodyPost_ret (results_none rfl _ _ _) rfl ?_
            exact ⟨⟨_, rfl⟩, .inr ⟨_, trivial, hJx3⟩⟩
        · gi_wp2
          go_roundw
          case rel => exact .inr ⟨rfl, hJs⟩
          case measure => simp [intOf]
    · gi_wp2
      go_end0
      exact ⟨⟨_, rfl⟩, .inl ⟨_, rfl, hJs⟩⟩
theorem mov_stops (F : Fence) (n : Nat) (h : F.fn 122) (hro : F.round = none) (hn : 1 ≤ n) (Bj Ba n₀ bj oj cj bl ol cl : Nat) (n0 n1 n2 n3 n4 n5 n9 a1 id x1 x2 : Int) (s1 s2 s6 s7 : ByteArray) (hne : a1 ≠ id) (hbj : bj < n₀) (hbl : bl < n₀) (w : World) (hn₀ : n₀ ≤ w.heap.size) (hBj0 : Bj < w.heap.size) (hBa0 : Ba < w.heap.size)
    (hBj : w.cell? ⟨Bj, 0, none⟩ = some (.slice (some ⟨bj, oj, none⟩) 1 cj)) (hBa : w.cell? ⟨Ba, 0, none⟩ = some (.int .i64 id)) (c0 : w.cell? ⟨bj, oj, none⟩ = some (.int .i64 n0)) (c1 : w.cell? ⟨bj, oj + 1, none⟩ = some (.int .i64 n1)) (c2 : w.cell? ⟨bj, oj + 2, none⟩ = some (.int .i64 n2)) (c3 : w.cell? ⟨bj, oj + 3, none⟩ = some (.int .i64 n3)) (c4 : w.cell? ⟨bj, oj + 4, none⟩ = some (.int .i64 n4)) (c5 : w.cell? ⟨bj, oj + 5, none⟩ = some (.int .i64 n5)) (c6 : w.cell? ⟨bj, oj + 6, none⟩ = some (.string s6)) (c7 : w.cell? ⟨bj, oj + 7, none⟩ = some (.string s7)) (c8 : w.cell? ⟨bj, oj + 8, none⟩ = some (.slice (some ⟨bl, ol, none⟩) 2 cl)) (c9 : w.cell? ⟨bj, oj + 9, none⟩ = some (.int .u64 n9))
    (d0 : w.cell? ⟨bl, ol, none⟩ = some (.int .i64 a1)) (d1 : w.cell? ⟨bl, ol + 1, none⟩ = some (.int .i64 x1)) (d2 : w.cell? ⟨bl, ol + 2, none⟩ = some (.string s1)) (d3 : w.cell? ⟨bl, ol + 3, none⟩ = some (.int .i64 id)) (d4 : w.cell? ⟨bl, ol + 4, none⟩ = some (.int .i64 x2)) (d5 : w.cell? ⟨bl, ol + 5, none⟩ = some (.string s2)) :
    SeqStopsK F n Tryz.prog 122 #[.pointer (some ⟨Bj, 0, none⟩), .pointer (some ⟨Ba, 0, none⟩)] (fun _ : Unit => #[(.agg #[.int .i64 n0, .int .i64 n1, .int .i64 n2, .int .i64 n3, .int .i64 n4, .int .i64 n5, .string s6, .string s7, .slice (some ⟨bl, ol, none⟩) 2 cl, .int .u64 n9]), .int .i64 x2]) (Below n₀) (fun ys => ys = [()]) (fun _ => True) 1 w := fun l J Jx W hW hJ _ hY h0 =>
  mov1_in F n h hro hn l Bj Ba n₀ bj oj cj bl ol cl n0 n1 n2 n3 n4 n5 n9 a1 id x1 x2 s1 s2 s6 s7 hne hbj hbl J Jx hY W hJ (Nat.le_trans hn₀ hW.size) ((hW.cell (p := ⟨Bj, 0, none⟩) hBj0).trans hBj) ((hW.cell (p := ⟨Ba, 0, none⟩) hBa0).trans hBa)
    ((hW.cell (p := ⟨bj, oj, none⟩) (Nat.lt_of_lt_of_le hbj hn₀)).trans c0) ((hW.cell (p := ⟨bj, oj + 1, none⟩) (Nat.lt_of_lt_of_le hbj hn₀)).trans c1) ((hW.cell (p := ⟨bj, oj + 2, none⟩) (Nat.lt_of_lt_of_le hbj hn₀)).trans c2) ((hW.cell (p := ⟨bj, oj + 3, none⟩) (Nat.lt_of_lt_of_le hbj hn₀)).trans c3) ((hW.cell (p := ⟨bj, oj + 4, none⟩) (Nat.lt_of_lt_of_le hbj hn₀)).trans c4) ((hW.cell (p := ⟨bj, oj + 5, none⟩) (Nat.lt_of_lt_of_le hbj hn₀)).trans c5) ((hW.cell (p := ⟨bj, oj + 6, none⟩) (Nat.lt_of_lt_of_le hbj hn₀)).trans c6) ((hW.cell (p := ⟨bj, oj + 7, none⟩) (Nat.lt_of_lt_of_le hbj hn₀)).trans c7) ((hW.cell (p := ⟨bj, oj + 8, none⟩) (Nat.lt_of_lt_of_le hbj hn₀)).trans c8) ((hW.cell (p := ⟨bj, oj + 9, none⟩) (Nat.lt_of_lt_of_le hbj hn₀)).trans c9)
    ((hW.cell (p := ⟨bl, ol, none⟩) (Nat.lt_of_lt_of_le hbl hn₀)).trans d0) ((hW.cell (p := ⟨bl, ol + 1, none⟩) (Nat.lt_of_lt_of_le hbl hn₀)).trans d1) ((hW.cell (p := ⟨bl, ol + 2, none⟩) (Nat.lt_of_lt_of_le hbl hn₀)).trans d2) ((hW.cell (p := ⟨bl, ol + 3, none⟩) (Nat.lt_of_lt_of_le hbl hn₀)).trans d3) ((hW.cell (p := ⟨bl, ol + 4, none⟩) (Nat.lt_of_lt_of_le hbl hn₀)).trans d4) ((hW.cell (p := ⟨bl, ol + 5, none⟩) (Nat.lt_of_lt_of_le hbl hn₀)).trans d5) h0
def sumU (x : Int) : List Unit → Int := List.foldl (fun s _ => wrap64 (s - x)) 0
theorem sumU_snoc (x : Int) (pre : List Unit) (u : Unit) : sumU x (pre ++ [u]) = wrap64 (sumU x pre - x) := by simp [sumU]
set_option maxHeartbeats 4000000 in
theorem Of_in (F : Fence) (n : Nat) (h1' : F.fn 38) (h2' : F.fn 77) (h3' : F.fn 122) (hro : F.round = none) (hn : 3 ≤ n) (bj oj cj bl ol cl : Nat) (n0 n1 n2 n3 n4 n5 n9 a1 id x1 x2 : Int) (s1 s2 s6 s7 : ByteArray) (hne : a1 ≠ id) (b0 : -1000000000000000000 ≤ x2) (b1 : x2 ≤ 1000000000000000000) (w : World) (hbj : bj < w.heap.size) (hbl : bl < w.heap.size)
    (c0 : w.cell? ⟨bj, oj, none⟩ = some (.int .i64 n0)) (c1 : w.cell? ⟨bj, oj + 1, none⟩ = some (.int .i64 n1)) (c2 : w.cell? ⟨bj, oj + 2, none⟩ = some (.int .i64 n2)) (c3 : w.cell? ⟨bj, oj + 3, none⟩ = some (.int .i64 n3)) (c4 : w.cell? ⟨bj, oj + 4, none⟩ = some (.int .i64 n4)) (c5 : w.cell? ⟨bj, oj + 5, none⟩ = some (.int .i64 n5)) (c6 : w.cell? ⟨bj, oj + 6, none⟩ = some (.string s6)) (c7 : w.cell? ⟨bj, oj + 7, none⟩ = some (.string s7)) (c8 : w.cell? ⟨bj, oj + 8, none⟩ = some (.slice (some ⟨bl, ol, none⟩) 2 cl)) (c9 : w.cell? ⟨bj, oj + 9, none⟩ = some (.int .u64 n9))
    (d0 : w.cell? ⟨bl, ol, none⟩ = some (.int .i64 a1)) (d1 : w.cell? ⟨bl, ol + 1, none⟩ = some (.int .i64 x1)) (d2 : w.cell? ⟨bl, ol + 2, none⟩ = some (.string s1)) (d3 : w.cell? ⟨bl, ol + 3, none⟩ = some (.int .i64 id)) (d4 : w.cell? ⟨bl, ol + 4, none⟩ = some (.int .i64 x2)) (d5 : w.cell? ⟨bl, ol + 5, none⟩ = some (.string s2)) :
    CallsIn F n Tryz.prog 38 #[.slice (some ⟨bj, oj, none⟩) 1 cj, .int .i64 id] w fun e W' => e = .returned (.int .i64 (-x2)) ∧ Below w.heap.size w W' := by
  have h1 : 1 ≤ n := by omega
  refine callsIn_of_wp_marks Tryz.func38 rfl h1' ?_ hro
  simp only [Tryz.ntmps38, List.size_toArray, List.length_cons, List.length_nil, Nat.reduceAdd, Nat.reduceSub, Array.replicate_succ, Array.replicate_zero, List.push_toArray, List.append_toArray, List.nil_append, List.cons_append]
  gi_wp2_with (gi_at_call 77; refine (mov_in F (n - 1) h2' hro _ _ _ _ _).mono ?_; rintro e w' ⟨rfl, rfl⟩)
  have bS := Boxed.new w 3 (.int .i64 0)
  have bJ := Boxed.new (w.alloc (.cells #[.int .i64 0] 3)) 79 (.slice (some ⟨bj, oj, none⟩) 1 cj)
  have bA := Boxed.new ((w.alloc (.cells #[.int .i64 0] 3)).alloc (.cells #[.slice (some ⟨bj, oj, none⟩) 1 cj] 79)) 3 (.int .i64 id)
  rw [World.size_alloc] at bJ bA
  rw [World.size_alloc] at bA
  have hB0 : Below w.heap.size w (((w.alloc (.cells #[.int .i64 0] 3)).alloc (.cells #[.slice (some ⟨bj, oj, none⟩) 1 cj] 79)).alloc (.cells #[.int .i64 id] 3)) := (((Below.refl _ w).alloc (Nat.le_refl _) _).alloc (by simp) _).alloc (by simp; omega) _
  refine wpIn_rangeFunc_ownG hro h1 (gf := 122) (lb := #[.pointer (some ⟨w.heap.size + 1, 0, none⟩), .pointer (some ⟨w.heap.size + 1 + 1, 0, none⟩)]) rfl h3' (enters_of Tryz.func122 (by kernel_rfl) rfl)
    (mov_stops F (n - 1) h3' hro (by omega) (w.heap.size + 1) (w.heap.size + 1 + 1) w.heap.size bj oj cj bl ol cl n0 n1 n2 n3 n4 n5 n9 a1 id x1 x2 s1 s2 s6 s7 hne hbj hbl _ (by simp; omega) (by simp) (by simp) (cell_more _ bJ.cell) bA.cell ((hB0.cell (p := ⟨bj, oj, none⟩) hbj).trans c0) ((hB0.cell (p := ⟨bj, oj + 1, none⟩) hbj).trans c1) ((hB0.cell (p := ⟨bj, oj + 2, none⟩) hbj).trans c2) ((hB0.cell (p := ⟨bj, oj + 3, none⟩) hbj).trans c3) ((hB0.cell (p := ⟨bj, oj + 4, none⟩) hbj).trans c4) ((hB0.cell (p := ⟨bj, oj + 5, none⟩) hbj).trans c5) ((hB0.cell (p := ⟨bj, oj + 6, none⟩) hbj).trans c6) ((hB0.cell (p := ⟨bj, oj + 7, none⟩) hbj).trans c7) ((hB0.cell (p := ⟨bj, oj + 8, none⟩) hbj).trans c8) ((hB0.cell (p := ⟨bj, oj + 9, none⟩) hbj).trans c9) ((hB0.cell (p := ⟨bl, ol, none⟩) hbl).trans d0) ((hB0.cell (p := ⟨bl, ol + 1, none⟩) hbl).trans d1) ((hB0.cell (p := ⟨bl, ol + 2, none⟩) hbl).trans d2) ((hB0.cell (p := ⟨bl, ol + 3, none⟩) hbl).trans d3) ((hB0.cell (p := ⟨bl, ol + 4, none⟩) hbl).trans d4) ((hB0.cell (p := ⟨bl, ol + 5, none⟩) hbl).trans d5)) belowK_t (belowK_b (by simp; omega)) (Below.refl _ _) (fun _ => rfl)
    (fun pre W => (W.cell? ⟨w.heap.size, 0, none⟩ = some (.int .i64 (sumU x2 pre)) ∧ W.frozen? ⟨w.heap.size, 0, none⟩ = false) ∧ Below w.heap.size w W)
    (fun _ _ _ => False)
    (OwnFrom.and (Own.from (fun s A B row hs hg hr => ⟨cell_kept hs.1 hg hr, (frozen_kept hs.1 hg hr).trans hs.2⟩) _) (ownFrom_below (Nat.le_refl _) (by simp; omega)))
    (fun _ _ _ _ _ hs _ _ => hs)
    ⟨⟨((bS.alloc _).alloc _).cell, ((bS.alloc _).alloc _).frozen⟩, hB0⟩
    (fun _ => { tmps := #[.slice (some ⟨bj, oj, none⟩) 1 cj, .int .i64 id, undef, undef, .int .i64 0, .pointer (some ⟨w.heap.size, 0, none⟩), undef, .int .i64 x2, .slice (some ⟨bj, oj, none⟩) 1 cj, .int .i64 id, .func (.func 122) #[] #[.pointer (some ⟨w.heap.size + 1, 0, none⟩), .pointer (some ⟨w.heap.size + 1 + 1, 0, none⟩)], (.agg #[.int .i64 n0, .int .i64 n1, .int .i64 n2, .int .i64 n3, .int .i64 n4, .int .i64 n5, .string s6, .string s7, .slice (some ⟨bl, ol, none⟩) 2 cl, .int .u64 n9]), .int .i64 x2, undef, undef, undef, undef], defers := [] }) ?assign ?body ?done ?stop
  case assign =>
    intro l x W K hK
    gi_wp2
    exact hK
  case body =>
    rintro l pre x W ⟨⟨hc, hf⟩, hB⟩ _
    gi_wp2
    exact ⟨(KeepsOthers.setCell _ _ _).from _, (Below.refl w.heap.size W).setCell (p := ⟨w.heap.size, 0, none⟩) (Nat.le_refl _) _, ⟨by rw [sumU_snoc]; exact World.cell?_setCell_same' _ _ _ (by rw [hc]; rfl), by rw [World.frozen?_setCell]; exact hf⟩, hB.setCell (p := ⟨w.heap.size, 0, none⟩) (Nat.le_refl _) _⟩
  case done =>
    rintro D ys W hD rfl ⟨⟨hc, _⟩, hB⟩ hK
    have hw : sumU x2 [()] = -x2 := by
      show wrap64 (0 - x2) = -x2
      unfold wrap64
      omega
    rw [hw] at hc
    gi_wp2
    refine ⟨by simp, .inl ⟨_, _, rfl, run_takeDeferred hK, ?_⟩⟩
    exact ⟨_, results_tmp rfl _ _ _, rfl, hB.trans (belowK_b (w := w) (Nat.le_refl _) W D _ _ (by simp at hD; omega) hK rfl rfl)⟩
  case stop =>
    rintro D c pre W _ _ h _
    exact h.elim
end Go.Proofs.YtcoflmckbcnlpaaGreatDoor