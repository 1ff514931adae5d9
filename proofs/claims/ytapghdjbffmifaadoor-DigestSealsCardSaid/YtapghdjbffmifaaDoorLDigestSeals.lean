/-
  DigestSeals is proved: for every input the law returns true and the input reads as it did; and its card, tied to the program's text. Conditions: the listed package-level variables read as listed (tied by the card).
-/
import Derived.Test.YtapghdjbffmifaaDoorLaws08F
import Derived.Test.YtapghdjbffmifaaDoorLaidD
import Derived.Test.YtapghdjbffmifaaDoorWf
import Derived.Test.YtapghdjbffmifaaDoorTie
import Derived.Test.YtapghdjbffmifaaDoorCards
import Derived.SevenTiedAt
namespace Go.Proofs.YtapghdjbffmifaaDoor
open Go.ChangeShapes Go.WideShapes Go.ChangeAt Go.WideMaps Go.WideElems Go.RowKit
open Go.ChangeMaps (open_string)
set_option maxRecDepth 100000

theorem digestSeals_lifted (os : Os) (started : os.Started) (H : Type) (enc : TypeId × Value → H) :
    ReturnsInHanded {} Tryd.checked os 11 .any (fun w args => (Rows.digestSealsSpec.pre enc Tryd.prog Tryd.f11 [] false w args ∧ laidMetH Tryd.prog laidD w) ∧ sizedMet enc Tryd.prog Tryd.f11 (OpenSpec.ofChange Rows.digestSealsSpec) false w args)
      (Rows.digestSealsSpec.post enc Tryd.prog Tryd.f11 false true false false) := by
  refine returnsInHanded_of_change_and (C := Tryd.checked) (X := fun w _ => laidMetH Tryd.prog laidD w) (fun _ _ _ hh h => h.of_heap hh) own started (by kernel_rfl) Tryd.func11
    (ChangeSpec.witness_shaped (enc := enc) (C := Tryd.checked) (os := os) (X := fun w _ => laidMetH Tryd.prog laidD w) false (World.doorLaid Tryd.prog 400 os) #[.string ⟨#[]⟩, .int .u8 0, .int .u8 0] 8 rfl (World.shaped_of_RefB (by kernel_rfl) (by kernel_rfl)) (by kernel_rfl) (by kernel_rfl) (by kernel_rfl) (doorD os _)) ?_
  intro W base args ds gs before hval0 hW _ hsz hL _
  have hval : ∀ (j : Nat) t v, Tryd.f11.params[j]? = some t → args[j]? = some v → Value.okWide Tryd.prog W .any base t v := hval0
  have hW' := hW
  obtain ⟨p, q, hA0, hV, rfl, _, _⟩ := hW
  have hA : DataW.TrodAll enc Tryd.prog W 0 (fun _ => true) true Tryd.f11.params.toList args.toList ds p := hA0
  have hlt : ∀ x ∈ p, x.block < W.heap.size := fun x hx => hW'.lt x (List.mem_append_left _ hx)
  obtain ⟨hg, _⟩ := trodVars_none hV
  subst hg
  rw [Tryd.params11] at hA hval
  obtain ⟨args⟩ := args
  simp only [List.getElem?_toArray] at hval
  change DataW.TrodAll enc Tryd.prog W 0 (fun _ => true) true [9, 5, 5] args ds p at hA
  obtain ⟨v0, vs0, d0, ds0, p0, q0, e0, e'0, e''0, h0, r0⟩ := trodAll_cons hA
  subst e0; subst e'0; subst e''0
  obtain ⟨v1, vs1, d1, ds1, p1, q1, e1, e'1, e''1, h1, r1⟩ := trodAll_cons r0
  subst e1; subst e'1; subst e''1
  obtain ⟨v2, vs2, d2, ds2, p2, q2, e2, e'2, e''2, h2, r2⟩ := trodAll_cons r1
  subst e2; subst e'2; subst e''2
  obtain ⟨e1, e2, e3⟩ := trodAll_nil r2
  subst e1; subst e2; subst e3
  have hc := ctx_of_laidD hL
  obtain ⟨s, e4, e5, e6, hs⟩ := open_string Tryd.underlying9 (hval 0 9 v0 rfl rfl) h0
  subst e4; subst e5; subst e6
  obtain ⟨x, f0, f1, f2, wx⟩ := open_int Tryd.underlying5 (hval 1 5 v1 rfl rfl) h1
  subst f0; subst f1; subst f2
  obtain ⟨y, g0, g1, g2, wy⟩ := open_int Tryd.underlying5 (hval 2 5 v2 rfl rfl) h2
  subst g0; subst g1; subst g2
  have hx := u8_of_wf wx
  obtain ⟨c, hy⟩ := byte_of_wf wy
  subst hy
  refine (seals_walk s x c hx hs W hc).mono fun e W' ⟨he, hb⟩ => ?_
  subst he
  exact ⟨_, rfl, law_post rfl rfl Tryd.underlying4 (by kernel_rfl) hW' rfl hb⟩
theorem digestSeals_row : Rows.DigestSealsSaid :=
  OpenClaim.holds_of_wide 11 Tryd.f11 rfl rfl rfl rfl rfl rfl rfl ⟨rfl, rfl, rfl, rfl, rfl⟩ rfl rfl rfl rfl rfl (by kernel_rfl) Tryd.func11 (by kernel_rfl)
    (of_decide_eq_true (by kernel_rfl)) (by unfold Func.isWrapper; rw [if_neg (of_decide_eq_false (by kernel_rfl))]; exact ⟨rfl, rfl⟩)
    (fun os started H enc _ => digestSeals_lifted os started H enc)
theorem digestSeals_holds : Rows.DigestSealsCardSaid :=
  Claim7.holds_tied_plain_at .later [] [.data, .data, .data, .sentinel, .sentinel] true (true, "8e0e29b0a17def2a2313c5f350772daf81812df657ce399830241510592ac8cf") true
    digestSeals_row (fun _ h => by cases h) (by kernel_rfl) (fun _ h => by cases h) digestSeals_row_tie rfl ⟨rfl, rfl⟩ (by kernel_rfl) rfl
    (fun f fn hf hfn => by
      obtain rfl : f = 11 := Option.some.inj ((show Tryd.prog.funcNamed "corebank/corebanklaw08.DigestSeals" = some 11 by kernel_rfl).symm.trans hf) |>.symm
      obtain rfl : fn = Tryd.f11 := (Option.some.inj (Tryd.func11.symm.trans hfn)).symm
      exact ⟨by kernel_rfl, fun j t ht => by
        rw [Tryd.params11] at ht
        have hm : t ∈ [9, 5, 5] := by simpa using Array.mem_of_getElem? ht
        have hall : ([9, 5, 5].all fun u => !Tryd.prog.wantsStandIn u) = true := by kernel_rfl
        exact (show Tryd.prog.wantsStandIn t = false by simpa using List.all_eq_true.1 hall t hm)⟩)
    (by kernel_rfl)
#print axioms digestSeals_holds
end Go.Proofs.YtapghdjbffmifaaDoor
