/-
  A period of the examples' books, run. Conditions: none.
-/
import Derived.Test.YtbhffbgbhgjdiaaGreatDoorM39
import Derived.Test.YtbhffbgbhgjdiaaGreatDoorM16
set_option linter.unusedSimpArgs false
set_option linter.unusedVariables false
namespace Go.Proofs.YtbhffbgbhgjdiaaGreatDoor
open Go.RowKit
set_option maxRecDepth 100000
noncomputable def str(l:List UInt8):AV:=.ex (.string ⟨l.toArray⟩)
noncomputable def Yo:AV:=.ex (.slice none 0 0)
noncomputable def Vw:AV:=.agg [.sl [[(str [69,85,82]),gI 2]],Yo,.sl [[gI 1,gI 0,gI 1,(str [99,97,115,104])],[gI 5,gI 0,gI 5,(str [112,97,105,100])],[gI 6,gI 0,gI 4,(str [101,97,114,110,101,100])],[gI 7,gI 0,gI 2,(str [116,97,120])]],gI 0,gI 0,gI 5,gI 6,gI 0,gI 7,gI 0,gI 0,gI 0,gI 0,gI 0,gI 0,gI 0,gI 0,.sl [[(str [115,97,118,101]),(str [69,85,82]),(str []),gI 0,gI 1,gI 0,gI 250000,.sl [[gI 0,gI 15000]],gB false,gI 2,gI 6,gB true,Yo,gB false,gI 2,gI 6,gB false,Yo,Yo]],.sl [[gI 1000,gI 0,gI 0,gI 0,(str [97]),(str [115,97,118,101]),(str [67,66,48,48,48,48,49,48,48,48,51,51])]],.sl [[gI 1,gI 0,gI 0,gI 1,gI 0,gI 0,(str [97]),(str []),.sl [[gI 1,gI 100000,(str [69,85,82])],[gI 1000,gI (-100000),(str [69,85,82])]],.ex (.int .u64 0)]],Yo,Yo]
noncomputable def Alq:AV:=.tup [.agg [gI 1000,gI 0,gI 30,gI 127,gI 0,gI 31,gI 0,gI 0,.ex (.int .u64 636840000000),gI 0,.ex (.int .u64 0)],gI 0]
noncomputable def eqO(o:Option AV)(r:AV):Bool:=match o with|some u=>X5 u r|none=>false
theorem Pr{o:Option AV}{r:AV}(h:eqO o r=true):o=some r:=by
 unfold eqO at h
 split at h
 ·rw[Kp h]
 ·cases h
noncomputable def A4t:List AV:=[(str [115,97,118,101]),(str [69,85,82]),(str []),gI 0,gI 1,gI 0,gI 250000,.sl [[gI 0,gI 15000]],gB false,gI 2,gI 6,gB true,.sl [],gB false,gI 2,gI 6,gB false,.sl [],.sl []]
noncomputable def Apr:AV:=.agg [gI 0,.ex (.int .u64 6588000000000)]
theorem A0l(x:Int)(h0:0≤x)(h1:x≤73048):Cn 254 [gI 2,gI x] (.val (gI 4392)):=by
 have a1:=Aw x
 obtain⟨⟨y1,m1,d1⟩,g1,c1⟩:=I3 x
 rw[show C6 x=true by unfold C6;simp;omega] at a1
 clear g1
 refine cvS Tryz.func254 ?_
 (repeat' (first|exact trivial|refine stR ?_|((first|refine cv (a1) ?_|refine cv (c1) ?_|refine stp ?_|refine A0 (fun h=>?_) ?_|(refine gw (fun h=>?_) (fun h=>?_)<;>(try (exfalso;omega))))<;>(try (refine wS ?_)))))
 all_goals simp only[sxd,z0,p0,Nat.reduceEqDiff,↓reduceIte,Tryz.f254, *]
theorem Aa6:Cn 251 [.agg A4t,gI 100000] (.val (.agg [.sl [[gI 0,gI 15000]],gB false,gI 2,gI 6,gB true])) :=
 Av (E:=eng7) (n:=1000) base Bk Je (Pr (by kernel_rfl))
theorem A0j:Cn 252 [.sl [[gI 0,gI 15000]],gB false,gI 100000] (.val (.sl [[gI 100000,gI 15000]])) :=
 Av (E:=eng7) (n:=1000) base Bk Je (Pr (by kernel_rfl))
theorem A08:Cn 253 [.sl [[gI 100000,gI 15000]],gI 4392] (.val (.tup [.agg [gI 0,.ex (.int .u64 6588000000000)],gI 0])) :=
 Av (E:=eng7) (n:=1000) base Bk Je (Pr (by kernel_rfl))
theorem Y8(x:Int)(h0:0≤x)(h1:x≤73048):Cn 210 [.agg A4t,gI 100000,gI x] (.val Apr):=by
 have c1:=Aa6
 have c2:=A0j
 have c3:=A0l x h0 h1
 have c4:=A08
 unfold Apr
 unfold A4t str at *
 refine cvS Tryz.func210 ?_
 (repeat' (first|exact trivial|refine stR ?_|((first|refine cv (c1) ?_|refine cv (c2) ?_|refine cv (c3) ?_|refine cv (c4) ?_|refine stp ?_|refine A0 (fun h=>?_) ?_|(refine gw (fun h=>?_) (fun h=>?_)<;>(try (exfalso;omega))))<;>(try (refine wS ?_)))))
 all_goals (refine rc1 rfl ?_)
 all_goals rfl
noncomputable def Ari(hp:Nat→Option A4)(args:List AV):Option (AV×Eff):=(cls hp args).bind fun x=>match x.1 with
 | [.agg p,.ex (.int .i64 n),.ex (.int .i64 d)]=>bif eqL X5 p A4t && decide (n=100000∧0≤d∧d≤73048) then some (Apr,.frz []) else none
 | _=>none
noncomputable def Arm:XO:=fun f hp args id=>bif Nat.beq f 210 then Ari hp args else Alp f hp args id
theorem Vg:Er Tryz.prog CtxP Arm:=by
 intro f hp args id u e h k hk
 unfold Arm at h
 cases h1:Nat.beq f 210 with
 | false =>
  rw[h1] at h
  exact Je f hp args id u e h k hk
 | true =>
  rw[h1] at h
  have:=Nat.eq_of_beq_eq_true h1
  subst this
  replace h:Ari hp args=some (u,e):=h
  unfold Ari at h
  obtain⟨⟨us,ids⟩,hc,h⟩:=A5 h
  dsimp only at h
  split at h
  ·rename_i p n d
   obtain⟨h2,h⟩:=A6 h
   cases h
   obtain⟨q1,q2⟩:=Ad h2
   obtain⟨rfl,d0,d1⟩:=of_decide_eq_true q2
   have hp:=Il (fun _ _=>Kp) q1
   subst hp
   exact Dl hc (Y8 d d0 d1) hk
  ·cases h
noncomputable def Ap2:XE:=⟨Tryz.prog,Acq,Arm,eng7.pf⟩
theorem Aa1:Cn 51 [Vw,Yo,gI 1000,gI 30] (.val Alq) :=
 Av (E:=Ap2) (n:=1000) base Bk Vg (Pr (by kernel_rfl))
end Go.Proofs.YtbhffbgbhgjdiaaGreatDoor
