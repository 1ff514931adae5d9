/-
  MessageOnce is proved: for every input the law returns true and the input reads as it did; and its card, tied to the program's text. Conditions: the listed package-level variables read as listed (tied by the card).
-/
import Derived.Test.YtfpknhhhjgdjbaaDoorOpen43
import Derived.Test.YtfpknhhhjgdjbaaDoorLaidD
import Derived.Test.YtfpknhhhjgdjbaaDoorM43O
import Derived.Test.YtfpknhhhjgdjbaaDoorTie
import Derived.Test.YtfpknhhhjgdjbaaDoorCards
import Derived.SevenTiedAt
namespace Go.Proofs.YtfpknhhhjgdjbaaDoor
open Go.ChangeShapes Go.WideShapes Go.ChangeAt Go.WideMaps Go.WideElems Go.RowKit
open Go.ChangeMaps (open_string)
set_option maxRecDepth 100000

theorem messageOnce_lifted (os : Os) (started : os.Started) (H : Type) (enc : TypeId × Value → H) :
    ReturnsInHanded {} Tryd.checked os 14 .any (fun w args => (Rows.messageOnceSpec.pre enc Tryd.prog Tryd.f14 [] false w args ∧ laidMetH Tryd.prog laidD w) ∧ sizedMet enc Tryd.prog Tryd.f14 (OpenSpec.ofChange Rows.messageOnceSpec) false w args)
      (Rows.messageOnceSpec.post enc Tryd.prog Tryd.f14 false true false false) := by
  refine returnsInHanded_of_change_and (C := Tryd.checked) (X := fun w _ => laidMetH Tryd.prog laidD w) (fun _ _ _ hh h => h.of_heap hh) own started (by kernel_rfl) Tryd.func14
    (ChangeSpec.witness_shaped (enc := enc) (C := Tryd.checked) (os := os) (X := fun w _ => laidMetH Tryd.prog laidD w) false (World.doorLaid Tryd.prog 400 os) #[.slice none 0 0, .slice none 0 0, .agg #[.string ⟨#[]⟩, .int .i64 0, .int .i64 0, .int .i64 0, .int .i64 0, .int .i64 0, .string ⟨#[]⟩]] 8 rfl (World.shaped_of_RefB (by kernel_rfl) (by kernel_rfl)) (by kernel_rfl) (by kernel_rfl) (by kernel_rfl) (doorD os _)) ?_
  intro W base args ds gs before hval0 hW _ hsz hL _
  have hval : ∀ (j : Nat) t v, Tryd.f14.params[j]? = some t → args[j]? = some v → Value.okWide Tryd.prog W .any base t v := hval0
  have hW' := hW
  obtain ⟨p, q, hA0, hV, rfl, _, _⟩ := hW
  have hA : DataW.TrodAll enc Tryd.prog W 0 (fun _ => true) true Tryd.f14.params.toList args.toList ds p := hA0
  have hlt : ∀ x ∈ p, x.block < W.heap.size := fun x hx => hW'.lt x (List.mem_append_left _ hx)
  obtain ⟨hg, _⟩ := trodVars_none hV
  subst hg
  rw [Tryd.params14] at hA hval
  obtain ⟨args⟩ := args
  simp only [List.getElem?_toArray] at hval
  change DataW.TrodAll enc Tryd.prog W 0 (fun _ => true) true [51, 51, 44] args ds p at hA
  obtain ⟨v0, vs0, d0, ds0, p0, q0, e0, e'0, e''0, h0, r0⟩ := trodAll_cons hA
  subst e0; subst e'0; subst e''0
  obtain ⟨v1, vs1, d1, ds1, p1, q1, e1, e'1, e''1, h1, r1⟩ := trodAll_cons r0
  subst e1; subst e'1; subst e''1
  obtain ⟨v2, vs2, d2, ds2, p2, q2, e2, e'2, e''2, h2, r2⟩ := trodAll_cons r1
  subst e2; subst e'2; subst e''2
  obtain ⟨e1, e2, e3⟩ := trodAll_nil r2
  subst e1; subst e2; subst e3
  have hc := ctx_of_laidD hL
  obtain ⟨u0, R0, S0⟩ := arg_rep ok_msgs (hval 0 51 v0 rfl rfl) h0 (sized_of hsz (j := 0) rfl rfl)
  obtain ⟨l0, rfl, hl0, hw0⟩ := a_msgs S0
  obtain ⟨u1, R1, S1⟩ := arg_rep ok_msgs (hval 1 51 v1 rfl rfl) h1 (sized_of hsz (j := 1) rfl rfl)
  obtain ⟨l1, rfl, hl1, hw1⟩ := a_msgs S1
  obtain ⟨u2, R2, S2⟩ := arg_rep ok_msg (hval 2 44 v2 rfl rfl) h2 (sized_of hsz (j := 2) rfl rfl)
  obtain ⟨m2, rfl, hm2⟩ := a_msg S2
  refine (con_law (MessageOnce_con l0 l1 m2 hw0 hw1 hm2) hc (RepL.cons R0 (RepL.cons R1 (RepL.cons R2 RepL.nil)))).mono fun e W' ⟨he, hb⟩ => ?_
  subst he
  exact ⟨_, rfl, law_post rfl rfl Tryd.underlying4 (by kernel_rfl) hW' rfl hb⟩
theorem messageOnce_row : Rows.MessageOnceSaid :=
  OpenClaim.holds_of_wide 14 Tryd.f14 rfl rfl rfl rfl rfl rfl rfl ⟨rfl, rfl, rfl, rfl, rfl⟩ rfl rfl rfl rfl rfl (by kernel_rfl) Tryd.func14 (by kernel_rfl)
    (of_decide_eq_true (by kernel_rfl)) (by unfold Func.isWrapper; rw [if_neg (of_decide_eq_false (by kernel_rfl))]; exact ⟨rfl, rfl⟩)
    (fun os started H enc _ => messageOnce_lifted os started H enc)
theorem messageOnce_holds : Rows.MessageOnceCardSaid :=
  Claim7.holds_tied_plain_at .later [] [.data, .data, .data, .sentinel, .sentinel] true (true, "fc3d24fd060b9bb91e564ac813a4130e30c32ee119466cb54064a5c8996e8a72") true
    messageOnce_row (fun _ h => by cases h) (by kernel_rfl) (fun _ h => by cases h) messageOnce_row_tie rfl ⟨rfl, rfl⟩ (by kernel_rfl) rfl
    (fun f fn hf hfn => by
      obtain rfl : f = 14 := Option.some.inj ((show Tryd.prog.funcNamed "corebank/corebanklaw43.MessageOnce" = some 14 by kernel_rfl).symm.trans hf) |>.symm
      obtain rfl : fn = Tryd.f14 := (Option.some.inj (Tryd.func14.symm.trans hfn)).symm
      exact ⟨by kernel_rfl, fun j t ht => by
        rw [Tryd.params14] at ht
        have hm : t ∈ [51, 51, 44] := by simpa using Array.mem_of_getElem? ht
        have hall : ([51, 51, 44].all fun u => !Tryd.prog.wantsStandIn u) = true := by kernel_rfl
        exact (show Tryd.prog.wantsStandIn t = false by simpa using List.all_eq_true.1 hall t hm)⟩)
    (by kernel_rfl)
#print axioms messageOnce_holds
end Go.Proofs.YtfpknhhhjgdjbaaDoor
