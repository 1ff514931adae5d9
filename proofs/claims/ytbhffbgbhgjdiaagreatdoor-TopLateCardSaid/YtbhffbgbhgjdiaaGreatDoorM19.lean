/-
  Parts of the proof: S31 S32. Conditions: those that each theorem states.
-/
import Derived.Test.YtbhffbgbhgjdiaaGreatDoorM18
import Derived.Test.YtbhffbgbhgjdiaaGreatDoorM9
set_option linter.unusedSimpArgs false
set_option linter.unusedVariables false
namespace Go.Proofs.YtbhffbgbhgjdiaaGreatDoor
open Go.RowKit
set_option maxRecDepth 100000
theorem A9x(n:Int)(h:I64 n):Cn 88 [gI n] (.val (.ex (.string ⟨(Lib.itoa n).toArray⟩))) :=
 A10 (vs:=[.int .i64 n]) ⟨_,Tryz.func88,rfl,rfl⟩ rfl fun w hw=>Lv n h.1 h.2 w hw
theorem Tx(n:Int)(h:I64 n):∃ s:ByteArray,s.size≤21∧Cn 88 [gI n] (.val (gS s)):=by
 refine⟨_, ?_,A9x n h⟩
 rw[← Cs]
 exact Lib.itoa_length_le n h.1 h.2
def Fp(b:BkV)(cur:ByteArray)(old p:PerV):List LegV :=
 [⟨b.plan.p3,IntKind.i64.wrap (p.cr-old.cr),cur⟩,⟨b.plan.p4,IntKind.i64.wrap (0-(IntKind.i64.wrap (p.db-old.db))),cur⟩,⟨b.plan.p6,IntKind.i64.wrap (0-(IntKind.i64.wrap (p.tax-old.tax))),cur⟩,
  ⟨p.acc,IntKind.i64.wrap (IntKind.i64.wrap (IntKind.i64.wrap (0-(IntKind.i64.wrap (p.cr-old.cr)))+IntKind.i64.wrap (p.db-old.db))+IntKind.i64.wrap (p.tax-old.tax)),cur⟩]
theorem Su(b:BkV)(cur:ByteArray)(old p:PerV):Q64 (As p.acc (Fp b cur old p)) (D7 b p.acc p-D7 b p.acc old):=by
 unfold Fp D7
 simp only[As]
 have w:=Ah6
 have a1:=w (p.cr-old.cr)
 have a2:=w (p.db-old.db)
 have a3:=w (p.tax-old.tax)
 generalize IntKind.i64.wrap (p.cr-old.cr)=x1 at *
 generalize IntKind.i64.wrap (p.db-old.db)=x2 at *
 generalize IntKind.i64.wrap (p.tax-old.tax)=x3 at *
 have a4:=w (0-x2)
 have a5:=w (0-x3)
 have a6:=w (0-x1)
 generalize IntKind.i64.wrap (0-x1)=x4 at *
 have a7:=w (x4+x2)
 generalize IntKind.i64.wrap (x4+x2)=x5 at *
 have a8:=w (x5+x3)
 generalize IntKind.i64.wrap (x5+x3)=x6 at *
 generalize IntKind.i64.wrap (0-x2)=x7 at *
 generalize IntKind.i64.wrap (0-x3)=x8 at *
 clear w
 unfold Q64 at *
 simp only[if_true]
 repeat' split
 all_goals omega
theorem Ahm(l:List LegV)(hl:l.length≤1000):Cn 70 [.sl (Ac l)] (.val (.sl (Ac (Jm l)))):=by
 refine cvS Tryz.func70 ?_
 have f1:=Ew (Dz l)
 have f2:=L9 (Dz l)
 have f3:=Fb (Dz l)
 have f4:=Ew (Jm l)
 have f5:=L9 (Jm l)
 have f6:=Fb (Jm l)
 have hle:=Mi l
 have hD:Nr Tryz.prog CtxP 128 103 (Ac (Dz l)) [.ex (.func (.func 129) #[] #[])] (Ac (Jm l)):=A07 (Dz l) (by omega)
 (repeat' (first|exact trivial|refine stR ?_|((first|refine Xd byA (by first|assumption|rfl) (Xj l hl) ?_|refine Ub (by exact byQ) rfl (by first|assumption|rfl) byA (by first|exact List.not_mem_nil|(simp only[List.mem_cons,List.not_mem_nil,or_false];omega)) (by first|assumption|rfl) (by first|assumption|rfl) (hD) ?_|refine stp ?_|refine A0 (fun h=>?_) ?_|(refine gw (fun h=>?_) (fun h=>?_)<;>(try (exfalso;omega))))<;>(try (refine wS ?_)))))
 all_goals simp only[sxd,z0,p0,Nat.reduceEqDiff,↓reduceIte,Tryz.f70, *]
theorem L8(a n:Int)(v:ProdV):Cn 87 [gI a,gI n,.rp (Bw v) 0] (.val (.agg [gI a,gI n,gS v.cur])):=by
 unfold Bw
 refine cvS Tryz.func87 ?_
 (repeat' (first|exact trivial|refine stR ?_|((first|refine stp ?_|refine A0 (fun h=>?_) ?_|(refine gw (fun h=>?_) (fun h=>?_)<;>(try (exfalso;omega))))<;>(try (refine wS ?_)))))
 all_goals (refine rc1 rfl ?_)
 all_goals first|rfl|trivial
def Ly(b:BkV):Prop:=I64 b.plan.p3∧I64 b.plan.p4∧I64 b.plan.p6
theorem Aef{b:BkV}(hpl:Ly b){cur:ByteArray}(hc:Sz cur.size)(old:PerV){p:PerV}(hp:I64 p.acc):∀ y∈Fp b cur old p,Kj y:=by
 intro y hy
 unfold Fp at hy
 simp only[List.mem_cons,List.not_mem_nil,or_false] at hy
 rcases hy with rfl|rfl|rfl|rfl
 ·exact⟨⟨hpl.1,Ls _⟩,hc⟩
 ·exact⟨⟨hpl.2.1,Ls _⟩,hc⟩
 ·exact⟨⟨hpl.2.2,Ls _⟩,hc⟩
 ·exact⟨⟨hp,Ls _⟩,hc⟩
namespace D
set_option maxHeartbeats 4000000 in
theorem Wi{b:BkV}(hb:b.Ok)(hpl:Ly b)(j:List EntV)(old p:PerV)(h1:I64 p.acc)(h2:0≤p.to∧p.to≤73048)(h3:I64 old.cnt)(bk:Int)(hbk:I64 bk) :
  ∃ x:EntV×Bool,((x.2=true∧x.1.legs=Jm (Fp b (B5 b p.acc p.to).1.cur old p)∧x.1.booked=bk∧x.1.value=(if p.to<73048 then p.to+1 else 73048)∧x.1.auth=1∧x.1.Ok)∨(x.2=false∧x.1=Xr∧((B5 b p.acc p.to).2=true→Jm (Fp b (B5 b p.acc p.to).1.cur old p)=[]))) ∧
   Cn 36 [.agg (bkC b (Ab j)),.agg (Cc old),.agg (Cc p),gI bk] (.val (.tup [.agg (Al x.1),gB x.2])):=by
 have c1:=G0 hb (Ab j) p.acc p.to
 have hcur:=(Jf hb p.acc p.to).s2
 generalize B5 b p.acc p.to=v at *
 obtain⟨v,v2⟩:=v
 dsimp only at *
 cases v2 with
 | false =>
  unfold gP Bw at c1
  unfold Cc bkC at *
  dsimp only at c1
  refine caS (fun x:EntV×Bool=>.tup [.agg (Al x.1),gB x.2]) Tryz.func36 ?_
  (repeat' (first|exact trivial|refine stR ?_|((first|refine cv (c1) ?_|refine stp ?_|refine A0 (fun h=>?_) ?_|(refine gw (fun h=>?_) (fun h=>?_)<;>(try (exfalso;omega))))<;>(try (refine wS ?_)))))
  all_goals (refine rc3 rfl ?_)
  all_goals exact⟨(⟨_,_,_,_,_,_,_,_,[],_⟩,_),rfl,.inr ⟨rfl,rfl⟩⟩
 | true =>
  have c2:=L8 b.plan.p3 (IntKind.i64.wrap (p.cr-old.cr)) v
  have c3:=L8 b.plan.p4 (IntKind.i64.wrap (0-(IntKind.i64.wrap (p.db-old.db)))) v
  have c4:=L8 b.plan.p6 (IntKind.i64.wrap (0-(IntKind.i64.wrap (p.tax-old.tax)))) v
  have c5:=L8 p.acc (IntKind.i64.wrap (IntKind.i64.wrap (IntKind.i64.wrap (0-(IntKind.i64.wrap (p.cr-old.cr)))+IntKind.i64.wrap (p.db-old.db))+IntKind.i64.wrap (p.tax-old.tax))) v
  have hok:=Ar2 (Aef hpl hcur old h1)
  have c6:Cn 70 [.sl (Ac (Fp b v.cur old p))] (.val (.sl (Ac (Jm (Fp b v.cur old p))))):=Ahm _ (by show 4≤1000;decide)
  have hlen:(Jm (Fp b v.cur old p)).length≤4:=Aeu _
  generalize hN:Jm (Fp b v.cur old p)=N at *
  unfold Fp Ac at c6
  simp only[List.map_cons,List.map_nil,Yh] at c6
  have q1:=B9 N
  have f1:=A4g N
  have f2:=Fb N
  obtain⟨s1,l1,c7⟩:=Tx p.acc h1
  obtain⟨s2,l2,c8⟩:=Tx p.to (by unfold I64;omega)
  obtain⟨s3,l3,c9⟩:=Tx old.cnt h3
  rw[show List.map Yh N=Ac N from rfl] at c6
  unfold gP at c1
  unfold Bw at c1 c2 c3 c4 c5
  unfold Cc bkC at *
  dsimp only at c1
  obtain⟨h21,h22⟩:=h2
  have hto64:I64 p.to:=by unfold I64;omega
  have hk:Hid (I64 bk∧Sz N.length∧(∀ x∈N,Sz x.cur.size)∧(∀ x∈N,I64 x.account∧I64 x.amount)∧Sz (N.length*32)):=Lib.hid ⟨hbk,by unfold Sz;omega,fun x hx=>(hok x hx).2,fun x hx=>(hok x hx).1,by unfold Sz;omega⟩
  clear hok hbk hN hcur hpl
  by_cases hN0:N=[]
  ·subst hN0
   have e0:Ac []=[]:=rfl
   clear hlen q1 f1 f2 hk
   refine caS (fun x:EntV×Bool=>.tup [.agg (Al x.1),gB x.2]) Tryz.func36 ?_
   (repeat' (first|exact trivial|refine stR ?_|((first|refine cv (c1) ?_|refine cv (c2) ?_|refine cv (c3) ?_|refine cv (c4) ?_|refine cv (c5) ?_|refine cv (c6) ?_|refine cv (c7) ?_|refine cv (c8) ?_|refine cv (c9) ?_|refine stp ?_|refine A0 (fun h=>?_) ?_|(refine gw (fun h=>?_) (fun h=>?_)<;>(try (exfalso;omega))))<;>(try (refine wS ?_)))))
   all_goals (refine rc3 rfl ?_)
   all_goals first
    | exact⟨(⟨_,_,_,_,_,_,_,_,[],_⟩,_),rfl,.inr ⟨rfl,rfl⟩⟩
    | exact⟨(⟨_,_,_,_,_,_,_,_,[],_⟩,_),rfl,.inr ⟨rfl,rfl,fun _=>rfl⟩⟩
  ·have hns:K2 (AV.sl (Ac N))=false:=by
    cases N with
    | nil=>exact absurd rfl hN0
    | cons y ys=>rfl
   have hl0:1≤N.length:=List.length_pos_iff.2 hN0
   clear hN0
   have z1:∀ a b:ByteArray,(a++b).size=a.size+b.size:=fun a b=>ByteArray.size_append
   have z2:(⟨#[105,110,116,47]⟩:ByteArray).size=4:=rfl
   have z3:(⟨#[47]⟩:ByteArray).size=1:=rfl
   refine caS (fun x:EntV×Bool=>.tup [.agg (Al x.1),gB x.2]) Tryz.func36 ?_
   (repeat' (first|exact trivial|refine stR ?_|((first|refine cv (c1) ?_|refine cv (c2) ?_|refine cv (c3) ?_|refine cv (c4) ?_|refine cv (c5) ?_|refine cv (c6) ?_|refine cv (c7) ?_|refine cv (c8) ?_|refine cv (c9) ?_|refine stp ?_|refine A0 (fun h=>?_) ?_|(refine gw (fun h=>?_) (fun h=>?_)<;>(try (exfalso;omega))))<;>(try (simp (maxSteps:=4000000) (disch:=omega) only[sx,Value.oneCell',↓reduceIte,Nat.reduceAdd,Nat.reduceMul,Nat.reduceEqDiff,Nat.reduceLT,Nat.reduceLeDiff,Int.reduceToNat,Int.reduceEq,Int.reduceLT,Int.reduceLE,Int.reduceNe, *])))))
   all_goals (refine rc3 rfl ?_)
   all_goals
    refine⟨(⟨_,_,_,_,_,_,_,_,N,_⟩,true),rfl,.inl ⟨rfl,rfl,rfl,rfl,rfl,⟨?_, ?_,hk.out.2.1,hk.out.2.2.1,⟨?_,hk.out.1, ?_, ?_, ?_, ?_⟩, ?_,hk.out.2.2.2.1,hk.out.2.2.2.2⟩⟩⟩
    ·unfold Sz;dsimp only;simp only[z1,z2,z3];omega
    ·unfold Sz;dsimp only;decide
    all_goals first
     | exact hto64
     | (unfold I64;dsimp only;omega)
     | (refine⟨?_, ?_⟩<;>dsimp only<;>decide)
end D
theorem I7(x:Int):∃ e:Int,(0≤e→x≤e)∧Cn 58 [gI x] (.val (gI e)):=by
 have hd:=Aw x
 cases hv:C6 x with
 | false =>
  rw[hv] at hd
  refine⟨-1,fun h=>by omega, ?_⟩
  refine cvS Tryz.func58 ?_
  (repeat' (first|exact trivial|refine stR ?_|((first|refine cv (hd) ?_|refine stp ?_|refine A0 (fun h=>?_) ?_|(refine gw (fun h=>?_) (fun h=>?_)<;>(try (exfalso;omega))))<;>(try (refine wS ?_)))))
  all_goals simp only[sxd,z0,p0,Nat.reduceEqDiff,↓reduceIte,Tryz.f58, *]
 | true =>
  rw[hv] at hd
  obtain⟨a1,a2⟩:=Gz.1 hv
  obtain⟨y,m,d,hc⟩:=Abc a1 a2
  have y1:=hc.y1
  have m1:=hc.m1
  have m2:=hc.m2
  have d1:=hc.d1
  have d2:=hc.d2
  have hC:=Rs hc
  have hl:=Q7 y m (by omega) (by omega) (by omega)
  have ml:=V8 y m
  generalize Is y m=L at *
  refine⟨x-d+L,fun _=>by omega, ?_⟩
  clear hc hv
  refine cvS Tryz.func58 ?_
  (repeat' (first|exact trivial|refine stR ?_|((first|refine cv (hd) ?_|refine cv (hC) ?_|refine cv (hl) ?_|refine stp ?_|refine A0 (fun h=>?_) ?_|(refine gw (fun h=>?_) (fun h=>?_)<;>(try (exfalso;omega))))<;>(try (refine wS ?_)))))
  all_goals simp only[sxd,z0,p0,Nat.reduceEqDiff,↓reduceIte,Tryz.f58, *]
noncomputable def meF(x:Int):Int:=Classical.choose (I7 x)
theorem K0{x:Int}(h:0≤meF x):x≤meF x:=(Classical.choose_spec (I7 x)).1 h
theorem A4j(x:Int):Cn 58 [gI x] (.val (.ex (.int .i64 (meF x)))):=(Classical.choose_spec (I7 x)).2
namespace D
theorem Ac2(n x:Int):∃ z:Bool,True∧Cn 25 [gI n,gI x] (.val (gB z)):=by
 obtain⟨⟨y,m,d⟩,_,c1⟩:=I3 x
 by_cases h:1≤n
 ·by_cases h0:n=0
  ·omega
  ·refine caS gB Tryz.func25 ?_
   (repeat' (first|exact trivial|refine stR ?_|((first|refine cv (c1) ?_|refine stp ?_|refine A0 (fun h=>?_) ?_|(refine gw (fun h=>?_) (fun h=>?_)<;>(try (exfalso;omega))))<;>(try (refine wS ?_)))))
   all_goals (simp only[sxd,z0,p0,Nat.reduceEqDiff,↓reduceIte,Tryz.f25, *];exact aX)
 ·refine caS gB Tryz.func25 ?_
  (repeat' (first|exact trivial|refine stR ?_|((first|refine cv (c1) ?_|refine stp ?_|refine A0 (fun h=>?_) ?_|(refine gw (fun h=>?_) (fun h=>?_)<;>(try (exfalso;omega))))<;>(try (refine wS ?_)))))
  all_goals (simp only[sxd,z0,p0,Nat.reduceEqDiff,↓reduceIte,Tryz.f25, *];exact aX)
end D
noncomputable def A1a(n x:Int):Bool:=Classical.choose (D.Ac2 n x)
theorem Ac1(n x:Int):Cn 25 [gI n,gI x] (.val (.ex (.bool (A1a n x)))):=(Classical.choose_spec (D.Ac2 n x)).2
noncomputable def okE(b:BkV)(id d:Int):Bool:=(B5 b id d).2 && A1a (B5 b id d).1.every d
noncomputable def H2(b:BkV)(id to d:Int):List Int :=
 if h0:0≤d∧d≤to then (if okE b id d=true then [d] else [])++(if h:d<meF (d+1) then H2 b id to (meF (d+1)) else []) else []
 termination_by (to+1-d).toNat
 decreasing_by omega
theorem Ff{b:BkV}{id to d:Int}(h:¬ (0≤d∧d≤to)):H2 b id to d=[]:=by
 rw[H2,dif_neg h]
theorem Up{b:BkV}{id to d:Int}(h0:0≤d)(h1:d≤to):H2 b id to d=(if okE b id d=true then [d] else [])++H2 b id to (meF (d+1)):=by
 rw[H2,dif_pos ⟨h0,h1⟩]
 congr 1
 split
 ·rfl
 ·rename_i h
  rw[Ff]
  rintro⟨h2,_⟩
  have:=K0 h2
  omega
end Go.Proofs.YtbhffbgbhgjdiaaGreatDoor
