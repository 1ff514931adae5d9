/-
  TopLoanLife is proved: for every input the law returns true and the input reads as it did; and its card, tied to the program's text. Conditions: the listed package-level variables read as listed (tied by the card).
-/
import Derived.Test.YtcoflmckbcnlpaaGreatDoorOpenE
import Derived.Test.YtcoflmckbcnlpaaGreatDoorLaidE
import Derived.Test.YtcoflmckbcnlpaaGreatDoorLJ
import Derived.Test.YtcoflmckbcnlpaaGreatDoorO9
import Derived.Test.YtcoflmckbcnlpaaGreatDoorRowE
import Derived.Test.YtcoflmckbcnlpaaGreatDoorTie
import Derived.Test.YtcoflmckbcnlpaaGreatDoorCards
import Derived.SevenTiedAt
namespace Go.Proofs.YtcoflmckbcnlpaaGreatDoor
open Go.ChangeShapes Go.WideShapes Go.ChangeAt Go.WideMaps Go.WideElems Go.RowKit
open Go.ChangeMaps (open_string)
set_option maxRecDepth 100000
theorem topLoanLife_lifted (os : Os) (started : os.Started) (H : Type) (enc : TypeId × Value → H) :
    ReturnsInHanded {} Tryz.checked os 3 .any (fun w args => (Rows.topLoanLifeSpec.pre enc Tryz.prog Tryz.f3 [] false w args ∧ laidMetH Tryz.prog laidE w) ∧ sizedMet enc Tryz.prog Tryz.f3 (OpenSpec.ofChange Rows.topLoanLifeSpec) false w args)
      (Rows.topLoanLifeSpec.post enc Tryz.prog Tryz.f3 false true false false) := by
  refine returnsInHanded_of_change_and (C := Tryz.checked) (X := fun w _ => laidMetH Tryz.prog laidE w) (fun _ _ _ hh h => h.of_heap hh) own started (by kernel_rfl) Tryz.func3
    (ChangeSpec.witness_shaped (enc := enc) (C := Tryz.checked) (os := os) (X := fun w _ => laidMetH Tryz.prog laidE w) false (World.laidAll Tryz.prog os laidE) #[.agg #[.int .i64 0, .int .i64 0, .int .i64 0, .int .i64 0, .int .i64 0, .int .i64 0, .int .i64 0, .int .i64 0, .int .i64 0, .int .i64 0, .string ⟨#[]⟩, .string ⟨#[]⟩], .agg #[.string ⟨#[]⟩, .slice none 0 0, .slice none 0 0]] 8 (World.laidAll_os _ _ _) (World.shaped_of_ZipB (by kernel_rfl) (by kernel_rfl)) (by kernel_rfl) (by kernel_rfl) (by kernel_rfl) (doorE os _)) ?_
  intro W base args ds gs before hval0 hW _ hsz hL _
  have hval : ∀ (j : Nat) t v, Tryz.f3.params[j]? = some t → args[j]? = some v → Value.okWide Tryz.prog W .any base t v := hval0
  have hW' := hW
  obtain ⟨p, q, hA0, hV, rfl, _, _⟩ := hW
  have hA : DataW.TrodAll enc Tryz.prog W 0 (fun _ => true) true Tryz.f3.params.toList args.toList ds p := hA0
  have hlt : ∀ x ∈ p, x.block < W.heap.size := fun x hx => hW'.lt x (List.mem_append_left _ hx)
  obtain ⟨hg, _⟩ := trodVars_none hV
  subst hg
  rw [Tryz.params3] at hA hval
  obtain ⟨args⟩ := args
  simp only [List.getElem?_toArray] at hval
  change DataW.TrodAll enc Tryz.prog W 0 (fun _ => true) true [23, 26] args ds p at hA
  obtain ⟨v0, vs0, d0, ds0, p0, q0, e0, e'0, e''0, h0, r0⟩ := trodAll_cons hA
  subst e0; subst e'0; subst e''0
  obtain ⟨v1, vs1, d1, ds1, p1, q1, e1, e'1, e''1, h1, r1⟩ := trodAll_cons r0
  subst e1; subst e'1; subst e''1
  obtain ⟨e1, e2, e3⟩ := trodAll_nil r1
  subst e1; subst e2; subst e3
  have hc := ctx_of_laidE hL
  obtain ⟨u0, R0, S0⟩ := arg_rep ok_trm (hval 0 23 v0 rfl rfl) h0 (sized_of hsz (j := 0) rfl rfl)
  obtain ⟨t0, rfl, ht0⟩ := trm_of S0
  obtain ⟨u1, R1, S1⟩ := arg_rep ok_cal (hval 1 26 v1 rfl rfl) h1 (sized_of hsz (j := 1) rfl rfl)
  obtain ⟨c1, rfl, hn1, hw1, hh1⟩ := cal_of S1
  refine (con_law (Top_con (t := t0) (c := c1) lasts_con ht0 hn1 hw1 hh1) hc (RepL.cons R0 (RepL.cons R1 RepL.nil))).mono fun e W' ⟨he, hb⟩ => ?_
  subst he
  exact ⟨_, rfl, law_post rfl rfl Tryz.underlying4 (by kernel_rfl) hW' rfl hb⟩
theorem topLoanLife_row : Rows.TopLoanLifeSaid :=
  OpenClaim.holds_of_wide 3 Tryz.f3 rfl rfl rfl rfl rfl rfl rfl ⟨rfl, rfl, rfl, rfl, rfl⟩ rfl rfl rfl rfl rfl (by as_aux_lemma => kernel_rfl) Tryz.func3 topLoanLife_closed
    (of_decide_eq_true (by as_aux_lemma => kernel_rfl)) (by unfold Func.isWrapper; rw [if_neg (of_decide_eq_false (by kernel_rfl))]; exact ⟨rfl, rfl⟩)
    (fun os started H enc _ => topLoanLife_lifted os started H enc)
theorem topLoanLife_holds : Rows.TopLoanLifeCardSaid :=
  Claim7.holds_tied_plain_at .later [] [.data, .data, .data, .data, .sentinel, .sentinel, .listed, .data, .data] true (true, "229061b40d7238c45e5469fea3349405f37976bb70d379a074d713a940d7f17a") true
    topLoanLife_row (fun _ h => by cases h) (by kernel_rfl) (fun _ h => by cases h) topLoanLife_row_tie rfl ⟨rfl, rfl⟩ (by kernel_rfl) rfl
    (fun f fn hf hfn => by
      obtain rfl : f = 3 := Option.some.inj ((show Tryz.prog.funcNamed "corebank/corebanktop.TopLoanLife" = some 3 by kernel_rfl).symm.trans hf) |>.symm
      obtain rfl : fn = Tryz.f3 := (Option.some.inj (Tryz.func3.symm.trans hfn)).symm
      exact ⟨by kernel_rfl, fun j t ht => by
        rw [Tryz.params3] at ht
        have hm : t ∈ [23, 26] := by simpa using Array.mem_of_getElem? ht
        have hall : ([23, 26].all fun u => !Tryz.prog.wantsStandIn u) = true := by kernel_rfl
        exact (show Tryz.prog.wantsStandIn t = false by simpa using List.all_eq_true.1 hall t hm)⟩)
    (by kernel_rfl)
#print axioms topLoanLife_holds
end Go.Proofs.YtcoflmckbcnlpaaGreatDoor