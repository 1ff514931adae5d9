/-
  MessageOrders is proved: for every input the law returns true and the input reads as it did; and its card, tied to the program's text. Conditions: the listed package-level variables read as listed (tied by the card).
-/
import Derived.Test.YtfpknhhhjgdjbaaDoorOpen43
import Derived.Test.YtfpknhhhjgdjbaaDoorLaidD
import Derived.Test.YtfpknhhhjgdjbaaDoorM43O
import Derived.Test.YtfpknhhhjgdjbaaDoorTie
import Derived.Test.YtfpknhhhjgdjbaaDoorCards
import Derived.SevenTiedAt
namespace Go.Proofs.YtfpknhhhjgdjbaaDoor
open Go.ChangeShapes Go.WideShapes Go.ChangeAt Go.WideMaps Go.WideElems Go.RowKit
open Go.ChangeMaps (open_string)
set_option maxRecDepth 100000

theorem messageOrders_lifted (os : Os) (started : os.Started) (H : Type) (enc : TypeId × Value → H) :
    ReturnsInHanded {} Tryd.checked os 13 .any (fun w args => (Rows.messageOrdersSpec.pre enc Tryd.prog Tryd.f13 [] false w args ∧ laidMetH Tryd.prog laidD w) ∧ sizedMet enc Tryd.prog Tryd.f13 (OpenSpec.ofChange Rows.messageOrdersSpec) false w args)
      (Rows.messageOrdersSpec.post enc Tryd.prog Tryd.f13 false true false false) := by
  refine returnsInHanded_of_change_and (C := Tryd.checked) (X := fun w _ => laidMetH Tryd.prog laidD w) (fun _ _ _ hh h => h.of_heap hh) own started (by kernel_rfl) Tryd.func13
    (ChangeSpec.witness_shaped (enc := enc) (C := Tryd.checked) (os := os) (X := fun w _ => laidMetH Tryd.prog laidD w) false (World.doorLaid Tryd.prog 400 os) #[.slice none 0 0, .int .i64 0] 8 rfl (World.shaped_of_RefB (by kernel_rfl) (by kernel_rfl)) (by kernel_rfl) (by kernel_rfl) (by kernel_rfl) (doorD os _)) ?_
  intro W base args ds gs before hval0 hW _ hsz hL _
  have hval : ∀ (j : Nat) t v, Tryd.f13.params[j]? = some t → args[j]? = some v → Value.okWide Tryd.prog W .any base t v := hval0
  have hW' := hW
  obtain ⟨p, q, hA0, hV, rfl, _, _⟩ := hW
  have hA : DataW.TrodAll enc Tryd.prog W 0 (fun _ => true) true Tryd.f13.params.toList args.toList ds p := hA0
  have hlt : ∀ x ∈ p, x.block < W.heap.size := fun x hx => hW'.lt x (List.mem_append_left _ hx)
  obtain ⟨hg, _⟩ := trodVars_none hV
  subst hg
  rw [Tryd.params13] at hA hval
  obtain ⟨args⟩ := args
  simp only [List.getElem?_toArray] at hval
  change DataW.TrodAll enc Tryd.prog W 0 (fun _ => true) true [51, 3] args ds p at hA
  obtain ⟨v0, vs0, d0, ds0, p0, q0, e0, e'0, e''0, h0, r0⟩ := trodAll_cons hA
  subst e0; subst e'0; subst e''0
  obtain ⟨v1, vs1, d1, ds1, p1, q1, e1, e'1, e''1, h1, r1⟩ := trodAll_cons r0
  subst e1; subst e'1; subst e''1
  obtain ⟨e1, e2, e3⟩ := trodAll_nil r1
  subst e1; subst e2; subst e3
  have hc := ctx_of_laidD hL
  obtain ⟨u0, R0, S0⟩ := arg_rep ok_msgs (hval 0 51 v0 rfl rfl) h0 (sized_of hsz (j := 0) rfl rfl)
  obtain ⟨l0, rfl, hl0, hw0⟩ := a_msgs S0
  obtain ⟨u1, R1, S1⟩ := arg_rep ok_int (hval 1 3 v1 rfl rfl) h1 (sized_of hsz (j := 1) rfl rfl)
  obtain ⟨n1, rfl, hn1⟩ := a_int S1
  refine (con_law (MessageOrders_con l0 n1 hw0 hn1) hc (RepL.cons R0 (RepL.cons R1 RepL.nil))).mono fun e W' ⟨he, hb⟩ => ?_
  subst he
  exact ⟨_, rfl, law_post rfl rfl Tryd.underlying4 (by kernel_rfl) hW' rfl hb⟩
theorem messageOrders_row : Rows.MessageOrdersSaid :=
  OpenClaim.holds_of_wide 13 Tryd.f13 rfl rfl rfl rfl rfl rfl rfl ⟨rfl, rfl, rfl, rfl, rfl⟩ rfl rfl rfl rfl rfl (by kernel_rfl) Tryd.func13 (by kernel_rfl)
    (of_decide_eq_true (by kernel_rfl)) (by unfold Func.isWrapper; rw [if_neg (of_decide_eq_false (by kernel_rfl))]; exact ⟨rfl, rfl⟩)
    (fun os started H enc _ => messageOrders_lifted os started H enc)
theorem messageOrders_holds : Rows.MessageOrdersCardSaid :=
  Claim7.holds_tied_plain_at .later [] [.data, .data, .data, .sentinel, .sentinel] true (true, "fc3d24fd060b9bb91e564ac813a4130e30c32ee119466cb54064a5c8996e8a72") true
    messageOrders_row (fun _ h => by cases h) (by kernel_rfl) (fun _ h => by cases h) messageOrders_row_tie rfl ⟨rfl, rfl⟩ (by kernel_rfl) rfl
    (fun f fn hf hfn => by
      obtain rfl : f = 13 := Option.some.inj ((show Tryd.prog.funcNamed "corebank/corebanklaw43.MessageOrders" = some 13 by kernel_rfl).symm.trans hf) |>.symm
      obtain rfl : fn = Tryd.f13 := (Option.some.inj (Tryd.func13.symm.trans hfn)).symm
      exact ⟨by kernel_rfl, fun j t ht => by
        rw [Tryd.params13] at ht
        have hm : t ∈ [51, 3] := by simpa using Array.mem_of_getElem? ht
        have hall : ([51, 3].all fun u => !Tryd.prog.wantsStandIn u) = true := by kernel_rfl
        exact (show Tryd.prog.wantsStandIn t = false by simpa using List.all_eq_true.1 hall t hm)⟩)
    (by kernel_rfl)
#print axioms messageOrders_holds
end Go.Proofs.YtfpknhhhjgdjbaaDoor
