/-
  Chapter 19, walked: the document's sums and net. Conditions: amounts are int64.
-/
import Derived.Test.YtmnnphalljnmhaaDoorC19I
namespace Go.Proofs.YtmnnphalljnmhaaDoor
open Go.RowKit
set_option maxRecDepth 100000
set_option linter.unusedSimpArgs false

theorem mI_lt {l : List MonV} {s : ByteArray} {j : Nat} {m : MonV} (h : j < mI l s) (e : l[j]? = some m) : Op.bytesLess m.cur.data.toList s.data.toList = true := bs_lt (lt := fun m : MonV => ltS m.cur s) h e
theorem mI_stop {l : List MonV} {s : ByteArray} {j : Nat} {m : MonV} (h : mI l s = j) (e : l[j]? = some m) : Op.bytesLess m.cur.data.toList s.data.toList = false := by
  subst h
  exact bs_stop (lt := fun m : MonV => ltS m.cur s) e
theorem mB_at {l : List MonV} {s : ByteArray} {j : Nat} {m : MonV} (h : mI l s = j) (e : l[j]? = some m) : mB l s = decide (m.cur = s) := bs_found h e
theorem mB_end {l : List MonV} {s : ByteArray} {j : Nat} (h : mI l s = j) (e : l.length ≤ j) : mB l s = false := bs_none h e
theorem addM_t2 {l : List MonV} {s : ByteArray} {a : Int} {i : Nat} {m : MonV} (hi : mI l s = i) (e : l[i]? = some m) (hc : m.cur = s) :
    (monsC l).take i ++ [[.ex (.string s), .ex (.int .i64 (IntKind.i64.wrap (a + m.amount)))]] ++ (monsC l).drop (i + 1) = monsC (addM l s a) := by
  have hb : mB l s = true := by rw [mB_at hi e]; exact decide_eq_true hc
  rw [addM_t hb hi e, List.set_eq_take_append_cons_drop, if_pos (by rw [mons_len]; exact (List.getElem?_eq_some_iff.1 e).1), hc, Int.add_comm a]
  simp
theorem addM_f2 {l : List MonV} {s : ByteArray} {a : Int} {i : Nat} (hb : mB l s = false) (hi : mI l s = i) (ha : In64 a) :
    (monsC l).take i ++ [[.ex (.string s), .ex (.int .i64 a)]] ++ (monsC l).drop i = monsC (addM l s a) := by
  have hle : i ≤ (monsC l).length := by rw [mons_len, ← hi]; exact mI_le l s
  rw [addM_f hb hi, List.set_append_right _ _ (by rw [List.length_take]; omega), List.length_take, Nat.min_eq_left hle, Nat.sub_self, List.set_cons_zero, Int.zero_add, wrap_i64 ha.1 ha.2]
  simp
theorem mons_two (l : List MonV) : ∀ n ∈ monsC l, n.length = 2 := by
  intro n hn
  obtain ⟨x, _, rfl⟩ := List.mem_map.1 hn
  rfl
theorem legs_three (l : List LegV) : ∀ n ∈ legsC l, n.length = 3 := by
  intro n hn
  obtain ⟨x, _, rfl⟩ := List.mem_map.1 hn
  rfl
theorem take_w {l : List (List AV)} {w : Nat} (h : ∀ n ∈ l, n.length = w) (i : Nat) : ∀ n ∈ l.take i, n.length = w := fun n hn => h n (List.mem_of_mem_take hn)
theorem drop_w {l : List (List AV)} {w : Nat} (h : ∀ n ∈ l, n.length = w) (i : Nat) : ∀ n ∈ l.drop i, n.length = w := fun n hn => h n (List.mem_of_mem_drop hn)
theorem take_n {l : List (List AV)} {n i : Nat} (h : l.length = n) (hi : i ≤ n) : (l.take i).length = i := by rw [List.length_take]; omega
theorem take_n1 {l : List (List AV)} {n i : Nat} (h : l.length = n) (hi : i ≤ n) (x : List AV) : (l.take i ++ [x]).length = i + 1 := by rw [List.length_append, take_n h hi]; rfl
theorem drop_n {l : List (List AV)} {n i : Nat} (h : l.length = n) : (l.drop i).length = n - i := by rw [List.length_drop, h]
end Go.Proofs.YtmnnphalljnmhaaDoor
