/-
  TopLate is proved: for every input the law returns true and the input reads as it did. Conditions: the listed package-level variables read as listed (tied by the card).
-/
import Derived.Test.YtbhffbgbhgjdiaaGreatDoorM21
import Derived.Test.YtbhffbgbhgjdiaaGreatDoorLaidF
import Derived.Test.YtbhffbgbhgjdiaaGreatDoorV4
import Derived.Test.YtbhffbgbhgjdiaaGreatDoorM42
import Derived.Test.YtbhffbgbhgjdiaaGreatDoorRowF
set_option linter.unusedSimpArgs false
set_option linter.unusedVariables false
namespace Go.Proofs.YtbhffbgbhgjdiaaGreatDoor
open Go.ChangeShapes Go.WideShapes Go.ChangeAt Go.WideMaps Go.WideElems Go.RowKit
open Go.ChangeMaps (open_string)
set_option maxRecDepth 100000
theorem topLate_lifted(os:Os)(started:os.Started)(H:Type)(enc:TypeId×Value→H) :
  ReturnsInHanded {} Tryz.checked os 3 .any (fun w args=>(Rows.topLateSpec.pre enc Tryz.prog Tryz.f3 [] false w args∧laidMetH Tryz.prog Nf w)∧sizedMet enc Tryz.prog Tryz.f3 (OpenSpec.ofChange Rows.topLateSpec) false w args)
   (Rows.topLateSpec.post enc Tryz.prog Tryz.f3 false true false false):=by
 refine returnsInHanded_of_change_and (C:=Tryz.checked) (X:=fun w _=>laidMetH Tryz.prog Nf w) (fun _ _ _ hh h=>h.of_heap hh) own started (by kernel_rfl) Tryz.func3
  (ChangeSpec.witness_shaped (enc:=enc) (C:=Tryz.checked) (os:=os) (X:=fun w _=>laidMetH Tryz.prog Nf w) false (World.laidAll Tryz.prog os Nf) #[.agg #[.slice none 0 0,.slice none 0 0,.slice none 0 0,.int .i64 0,.int .i64 0,.int .i64 0,.int .i64 0,.int .i64 0,.int .i64 0,.int .i64 0,.int .i64 0,.int .i64 0,.int .i64 0,.int .i64 0,.int .i64 0,.int .i64 0,.int .i64 0,.slice none 0 0,.slice none 0 0,.slice none 0 0,.slice none 0 0,.slice none 0 0],.int .i64 0,.slice none 0 0] 8 (World.laidAll_os _ _ _) (World.shaped_of_ZipB (by kernel_rfl) (by kernel_rfl)) (by kernel_rfl) (by kernel_rfl) (by kernel_rfl) (Awr os _)) ?_
 intro W base args ds gs before hval0 hW _ hsz hL _
 have hval:∀ (j:Nat) t v,Tryz.f3.params[j]?=some t→args[j]?=some v→Value.okWide Tryz.prog W .any base t v:=hval0
 have hW':=hW
 obtain⟨p,q,hA0,hV,rfl,_,_⟩:=hW
 have hA:DataW.TrodAll enc Tryz.prog W 0 (fun _=>true) true Tryz.f3.params.toList args.toList ds p:=hA0
 have hlt:∀ x∈p,x.block<W.heap.size:=fun x hx=>hW'.lt x (List.mem_append_left _ hx)
 obtain⟨hg,_⟩:=trodVars_none hV
 subst hg
 rw[Tryz.params3] at hA hval
 obtain⟨args⟩:=args
 simp only[List.getElem?_toArray] at hval
 change DataW.TrodAll enc Tryz.prog W 0 (fun _=>true) true [33,3,29] args ds p at hA
 obtain⟨v0,vs0,d0,ds0,p0,q0,e0,e'0,e''0,h0,r0⟩:=trodAll_cons hA
 subst e0;subst e'0;subst e''0
 obtain⟨v1,vs1,d1,ds1,p1,q1,e1,e'1,e''1,h1,r1⟩:=trodAll_cons r0
 subst e1;subst e'1;subst e''1
 obtain⟨v2,vs2,d2,ds2,p2,q2,e2,e'2,e''2,h2,r2⟩:=trodAll_cons r1
 subst e2;subst e'2;subst e''2
 obtain⟨e1,e2,e3⟩:=trodAll_nil r2
 subst e1;subst e2;subst e3
 have hc:=Uh hL
 obtain⟨k0,us0,R0,S0⟩:=Aah A56 (t:=33) (by decide) Tryz.underlying33 (hval 0 33 v0 rfl rfl) h0 (Qs hsz (j:=0) rfl rfl)
 obtain⟨b,j,rfl,hb,hpl,hj⟩:=Age S0
 obtain⟨u1,R1,S1⟩:=Ai2 ok_int (hval 1 3 v1 rfl rfl) h1 (Qs hsz (j:=1) rfl rfl)
 obtain⟨id,rfl,hid⟩:=Am0 S1
 obtain⟨k2,es2,R2,S2⟩:=X3 A56 (t:=29) (by decide) Tryz.underlying29 (hval 2 29 v2 rfl rfl) h2 (Qs hsz (j:=2) rfl rfl)
 obtain⟨es,rfl,hes⟩:=Alz S2
 refine (Aj4 (Ww A6v hb hpl hj hid hes) hc (RepL.cons R0 (RepL.cons R1 (RepL.cons R2 RepL.nil)))).mono fun e W' ⟨he,hb⟩=>?_
 subst he
 exact⟨_,rfl,Aeb rfl rfl Tryz.underlying4 (by kernel_rfl) hW' rfl hb⟩
theorem topLate_row:Rows.TopLateSaid :=
 OpenClaim.holds_of_wide 3 Tryz.f3 rfl rfl rfl rfl rfl rfl rfl ⟨rfl,rfl,rfl,rfl,rfl⟩ rfl rfl rfl rfl rfl (by as_aux_lemma=>kernel_rfl) Tryz.func3 topLate_closed
  (of_decide_eq_true (by as_aux_lemma=>kernel_rfl)) (by unfold Func.isWrapper;rw[if_neg (of_decide_eq_false (by kernel_rfl))];exact⟨rfl,rfl⟩)
  (fun os started H enc _=>topLate_lifted os started H enc)
end Go.Proofs.YtbhffbgbhgjdiaaGreatDoor
