/-
  Parts of the proof: U7 U9 U21. Conditions: those that each theorem states.
-/
import Derived.Test.YtbhffbgbhgjdiaaGreatDoorM29
import Derived.Test.YtbhffbgbhgjdiaaGreatDoorM10
set_option linter.unusedSimpArgs false
set_option linter.unusedVariables false
namespace Go.Proofs.YtbhffbgbhgjdiaaGreatDoor
open Go.RowKit
set_option maxRecDepth 100000
namespace D
set_option maxHeartbeats 4000000 in
theorem X7(p q:ProdV):∃ z:Bool,True∧Cn 148 [.agg (Bw p),.agg (Bw q)] (.val (gB z)):=by
 unfold Bw
 refine caS gB Tryz.func148 ?_
 (repeat' (first|exact trivial|refine stR ?_|((first|refine stp ?_|refine A0 (fun h=>?_) ?_|(refine gw (fun h=>?_) (fun h=>?_)<;>(try (exfalso;omega))))<;>(try (refine wS ?_)))))
 all_goals (simp only[sxd,z0,p0,Nat.reduceEqDiff,↓reduceIte,Tryz.f148, *];exact aX)
set_option maxHeartbeats 4000000 in
theorem Ab9{l:List ProdV}(hn:Sz l.length):∃ z:Int,True∧Cn 96 [.sl (Db l)] (.val (gI z)):=by
 unfold Sz at hn
 have hln:=H8 l
 refine caS gI Tryz.func96 ?_
 (repeat' (first|exact trivial|refine stR ?_|((first|refine stp ?_|refine A0 (fun h=>?_) ?_|(refine gw (fun h=>?_) (fun h=>?_)<;>(try (exfalso;omega))))<;>(try (refine wS ?_)))))
 all_goals first
  | (simp only[sxd,z0,p0,Nat.reduceEqDiff,↓reduceIte,Tryz.f96, *];exact aX)
  | skip
 refine A9 (fun n tm hp nx=>∃ k:Nat,n=l.length+1-k∧k≤l.length+1∧1≤k∧tm 0=.sl (Db l)∧tm 3=gI k) l.length ⟨1,by omega,by omega,Nat.le_refl _,byS,byS⟩ ?_
 rintro n tm hp nx ⟨k,hnn,hk,hk1,g0,g3⟩
 by_cases hlt:k<l.length
 ·have e1:=List.getElem?_eq_getElem hlt
  have e2:=List.getElem?_eq_getElem (show k-1<l.length by omega)
  have e3:((k:Int)-1).toNat=k-1:=by omega
  generalize l[k]=x at e1
  generalize (l[k-1]'(by omega))=y at e2
  have e4:=Cl e1
  have e5:=Cl e2
  obtain⟨z,_,c1⟩:=X7 y x
  unfold Bw at c1
  clear e1 e2
  (repeat' (first|exact trivial|refine stR ?_|((first|refine cv (c1) ?_|refine stp ?_|refine A0 (fun h=>?_) ?_|(refine gw (fun h=>?_) (fun h=>?_)<;>(try (exfalso;omega))))<;>(try (refine wS ?_)))))
  all_goals first
   | exact A3 (l.length+1-(k+1)) (by omega) ⟨k+1,rfl,by omega,by omega,byS,byS⟩
   | (simp only[sxd,z0,p0,Nat.reduceEqDiff,↓reduceIte,Tryz.f96, *];exact aX)
 ·(repeat' (first|exact trivial|refine stR ?_|((first|refine stp ?_|refine A0 (fun h=>?_) ?_|(refine gw (fun h=>?_) (fun h=>?_)<;>(try (exfalso;omega))))<;>(try (refine wS ?_)))))
  refine A9 (fun n tm hp nx=>∃ k:Nat,n=l.length+1-k∧k≤l.length+1∧1≤k∧tm 0=.sl (Db l)∧tm 4=gI k) l.length ⟨1,by omega,by omega,Nat.le_refl _,byS,byS⟩ ?_
  clear hnn hk hk1 g0 g3 hlt
  rintro n tm hp nx ⟨k,hnn,hk,hk1,g0,g3⟩
  by_cases hlt:k<l.length
  ·have e1:=List.getElem?_eq_getElem hlt
   have e2:=List.getElem?_eq_getElem (show k-1<l.length by omega)
   have e3:((k:Int)-1).toNat=k-1:=by omega
   generalize l[k]=x at e1
   generalize (l[k-1]'(by omega))=y at e2
   have e4:=Cl e1
   have e5:=Cl e2
   clear e1 e2
   (repeat' (first|exact trivial|refine stR ?_|((first|refine stp ?_|refine A0 (fun h=>?_) ?_|(refine gw (fun h=>?_) (fun h=>?_)<;>(try (exfalso;omega))))<;>(try (refine wS ?_)))))
   all_goals first
    | exact A3 (l.length+1-(k+1)) (by omega) ⟨k+1,rfl,by omega,by omega,byS,byS⟩
    | (simp only[sxd,z0,p0,Nat.reduceEqDiff,↓reduceIte,Tryz.f96, *];exact aX)
  ·(repeat' (first|exact trivial|refine stR ?_|((first|refine stp ?_|refine A0 (fun h=>?_) ?_|(refine gw (fun h=>?_) (fun h=>?_)<;>(try (exfalso;omega))))<;>(try (refine wS ?_)))))
   all_goals (simp only[sxd,z0,p0,Nat.reduceEqDiff,↓reduceIte,Tryz.f96, *];exact aX)
set_option maxHeartbeats 4000000 in
theorem A3b{l:List ProdV}(hl:∀ p∈l,p.Ok)(hn:Sz l.length)(nm:ByteArray)(day:Int):∃ x:ProdV×Bool,x.1.Ok∧Cn 155 [.sl (Db l),gS nm,gI day] (.val (gP x)):=by
 unfold Sz at hn
 have hln:=H8 l
 refine caS gP Tryz.func155 ?_
 (repeat' (first|exact trivial|refine stR ?_|((first|refine stp ?_|refine A0 (fun h=>?_) ?_|(refine gw (fun h=>?_) (fun h=>?_)<;>(try (exfalso;omega))))<;>(try (refine wS ?_)))))
 refine A9 (fun n tm hp nx=>∃ (k:Nat) (b:Int),n=l.length-k∧k≤l.length∧tm 0=.sl (Db l)∧tm 1=gS nm∧tm 2=gI day∧tm 6=.pt 0 0 0∧hp 0=some ⟨72,[[.ex (.string ⟨#[]⟩),.ex (.string ⟨#[]⟩),.ex (.string ⟨#[]⟩),gI 0,gI 0,gI 0,gI 0,.ex (.slice none 0 0),gB false,gI 0,gI 0,gB false,.ex (.slice none 0 0),gB false,gI 0,gI 0,gB false,.ex (.slice none 0 0),.ex (.slice none 0 0)]],true⟩∧0<nx∧tm 8=gI b∧tm 9=gI k∧(b=-1∨(0≤b∧b.toNat<l.length))) l.length ⟨0,-1,rfl,Nat.zero_le _,byS,byS,byS,byS,byQ,by omega,byS,byS,.inl rfl⟩ ?_
 rintro n tm hp nx ⟨k,b,hnn,hk,g0,g1,g2,g6,b0,hx,g8,g13,hb⟩
 by_cases hlt:k<l.length
 ·have e1:=List.getElem?_eq_getElem hlt
  generalize l[k]=p at e1
  have e0:=Cl e1
  rcases hb with rfl|⟨hb0,hb1⟩
  ·(repeat' (first|exact trivial|refine stR ?_|((first|refine stp ?_|refine A0 (fun h=>?_) ?_|(refine gw (fun h=>?_) (fun h=>?_)<;>(try (exfalso;omega))))<;>(try (refine wS ?_)))))
   all_goals first
    | exact A3 (l.length-(k+1)) (by omega) ⟨k+1,-1,rfl,by omega,byS,byS,byS,byS,byQ,by omega,byS,byS,.inl rfl⟩
    | exact A3 (l.length-(k+1)) (by omega) ⟨k+1,k,rfl,by omega,byS,byS,byS,byS,byQ,by omega,byS,byS,.inr ⟨by omega,by omega⟩⟩
  ·have e2:=List.getElem?_eq_getElem hb1
   generalize l[b.toNat]=q at e2
   have e3:=Cl e2
   have hb2:¬ b<0:=by omega
   (repeat' (first|exact trivial|refine stR ?_|((first|refine stp ?_|refine A0 (fun h=>?_) ?_|(refine gw (fun h=>?_) (fun h=>?_)<;>(try (exfalso;omega))))<;>(try (refine wS ?_)))))
   all_goals first
    | exact A3 (l.length-(k+1)) (by omega) ⟨k+1,b,rfl,by omega,byS,byS,byS,byS,byQ,by omega,byS,byS,.inr ⟨by omega,by omega⟩⟩
    | exact A3 (l.length-(k+1)) (by omega) ⟨k+1,k,rfl,by omega,byS,byS,byS,byS,byQ,by omega,byS,byS,.inr ⟨by omega,by omega⟩⟩
 ·rcases hb with rfl|⟨hb0,hb1⟩
  ·(repeat' (first|exact trivial|refine stR ?_|((first|refine stp ?_|refine A0 (fun h=>?_) ?_|(refine gw (fun h=>?_) (fun h=>?_)<;>(try (exfalso;omega))))<;>(try (refine wS ?_)))))
   all_goals ((refine rc3 rfl ?_);exact⟨(prodZ,false),rfl,Qj⟩)
  ·have e2:=List.getElem?_eq_getElem hb1
   have hq:=hl _ (List.getElem_mem hb1)
   generalize l[b.toNat]=q at e2 hq
   have e3:=Cl e2
   have hb2:¬ b<0:=by omega
   (repeat' (first|exact trivial|refine stR ?_|((first|refine stp ?_|refine A0 (fun h=>?_) ?_|(refine gw (fun h=>?_) (fun h=>?_)<;>(try (exfalso;omega))))<;>(try (refine wS ?_)))))
   all_goals ((refine rc3 rfl ?_);exact⟨(q,true),rfl,hq⟩)
end D
abbrev gAc(z:AccV×Bool):AV:=.tup [.agg [gI z.1.id,gI z.1.opened,gI z.1.closed,gI z.1.extra,gS z.1.owner,gS z.1.product,gS z.1.number],gB z.2]
namespace D
set_option maxHeartbeats 4000000 in
theorem Ru(b:BkV)(hn:Sz b.accs.length)(j:List (List AV))(id:Int):∃ z:AccV×Bool,True∧Cn 203 [.agg (bkC b j),gI id] (.val (gAc z)):=by
 unfold Sz at hn
 have hl:=Gt b.accs
 unfold bkC
 refine caS gAc Tryz.func203 ?_
 (repeat' (first|exact trivial|refine stR ?_|((first|refine stp ?_|refine A0 (fun h=>?_) ?_|(refine gw (fun h=>?_) (fun h=>?_)<;>(try (exfalso;omega))))<;>(try (refine wS ?_)))))
 refine A9 (fun n tm hp nx=>∃ k:Nat,n=b.accs.length-k∧k≤b.accs.length∧tm 1=gI id∧tm 6=gI k∧tm 2=.pt 0 0 0∧tm 4=.pt 1 0 0∧hp 0=some ⟨33,[bkC b j],true⟩∧hp 1=some ⟨59,[[gI 0,gI 0,gI 0,gI 0,gS ⟨#[]⟩,gS ⟨#[]⟩,gS ⟨#[]⟩]],true⟩∧1<nx) (b.accs.length) ⟨0,rfl,Nat.zero_le _,byS,byS,byS,byS,by unfold bkC;exact byQ,byQ,by omega⟩ ?_
 rintro n tm hp nx ⟨k,rfl,hk,g1,g6,g2,g4,h0,h1,hx⟩
 unfold bkC at h0
 by_cases hlt:k<b.accs.length
 ·have e:=I8 (List.getElem?_eq_getElem hlt)
  generalize b.accs[k]=a at *
  (repeat' (first|exact trivial|refine stR ?_|((first|refine stp ?_|refine A0 (fun h=>?_) ?_|(refine gw (fun h=>?_) (fun h=>?_)<;>(try (exfalso;omega))))<;>(try (refine wS ?_)))))
  all_goals first
   | exact A3 (b.accs.length-(k+1)) (by omega) ⟨k+1,rfl,by omega,byS,byS,byS,byS,by unfold bkC;exact byQ,byQ,by omega⟩
   | ((refine rc3 rfl ?_);first|exact⟨(⟨_,_,_,_,_,_,_⟩,_),rfl⟩|exact⟨(⟨_,_,_,_,_,_,_⟩,_),rfl,trivial⟩)
 ·(repeat' (first|exact trivial|refine stR ?_|((first|refine stp ?_|refine A0 (fun h=>?_) ?_|(refine gw (fun h=>?_) (fun h=>?_)<;>(try (exfalso;omega))))<;>(try (refine wS ?_)))))
  all_goals ((refine rc3 rfl ?_);first|exact⟨(⟨_,_,_,_,_,_,_⟩,_),rfl⟩|exact⟨(⟨_,_,_,_,_,_,_⟩,_),rfl,trivial⟩)
set_option maxHeartbeats 4000000 in
theorem Wa(b:BkV)(hn:Sz b.accs.length)(j:List (List AV))(id day:Int):∃ z:Bool,True∧Cn 204 [.agg (bkC b j),gI id,gI day] (.val (gB z)):=by
 obtain⟨⟨⟨a1,a2,a3,a4,a5,a6,a7⟩,f⟩,_,c1⟩:=Ru b hn j id
 unfold bkC at *
 refine caS gB Tryz.func204 ?_
 (repeat' (first|exact trivial|refine stR ?_|((first|refine cv (c1) ?_|refine stp ?_|refine A0 (fun h=>?_) ?_|(refine gw (fun h=>?_) (fun h=>?_)<;>(try (exfalso;omega))))<;>(try (refine wS ?_)))))
 all_goals (simp only[sxd,z0,p0,Nat.reduceEqDiff,↓reduceIte,Tryz.f204, *];exact aX)
set_option maxHeartbeats 4000000 in
theorem A2c{b:BkV}(hb:b.Ok)(j:List (List AV)){a:AccV}(ha:a.Ok):∃ z:Int,True∧Cn 100 [.agg (bkC b j),.agg (D6 a)] (.val (gI z)):=by
 obtain⟨x1,_,c1⟩:=Hs a.owner ha.s1
 obtain⟨⟨p,f⟩,_,c2⟩:=A3b hb.r4 hb.n4 a.product a.opened
 unfold gP Bw at c2
 dsimp only at c2
 clear hb ha
 unfold bkC D6
 refine caS gI Tryz.func100 ?_
 (repeat' (first|exact trivial|refine stR ?_|((first|refine cv (c1) ?_|refine cv (c2) ?_|refine stp ?_|refine A0 (fun h=>?_) ?_|(refine gw (fun h=>?_) (fun h=>?_)<;>(try (exfalso;omega))))<;>(try (refine wS ?_)))))
 all_goals (simp only[sxd,z0,p0,Nat.reduceEqDiff,↓reduceIte,Tryz.f100, *];exact aX)
end D
namespace D
set_option maxHeartbeats 4000000 in
theorem Yz(L:List (List AV))(hn:Sz L.length)(hL:∀ x∈L,Fz x)(id:Int):∃ z:Bool,True∧Cn 202 [.sl L,gI id] (.val (gB z)):=by
 unfold Sz at hn
 replace hL:=Lib.hid hL
 refine caS gB Tryz.func202 ?_
 (repeat' (first|exact trivial|refine stR ?_|((first|refine stp ?_|refine A0 (fun h=>?_) ?_|(refine gw (fun h=>?_) (fun h=>?_)<;>(try (exfalso;omega))))<;>(try (refine wS ?_)))))
 refine A9 (fun n tm hp nx=>∃ k:Nat,n=L.length-k∧k≤L.length∧tm 0=.sl L∧tm 1=gI id∧tm 5=gI k) (L.length) ⟨0,rfl,Nat.zero_le _,byS,byS,byS⟩ ?_
 rintro n tm hp nx ⟨k,rfl,hk,g0,g1,g5⟩
 by_cases hlt:k<L.length
 ·obtain⟨a,b,c,s,e,_⟩:=Px hL.out hlt
  (repeat' (first|exact trivial|refine stR ?_|((first|refine stp ?_|refine A0 (fun h=>?_) ?_|(refine gw (fun h=>?_) (fun h=>?_)<;>(try (exfalso;omega))))<;>(try (refine wS ?_)))))
  all_goals first
   | exact A3 (L.length-(k+1)) (by omega) ⟨k+1,rfl,by omega,byS,byS,byS⟩
   | (simp only[sxd,z0,p0,Nat.reduceEqDiff,↓reduceIte,Tryz.f202, *];exact aX)
 ·(repeat' (first|exact trivial|refine stR ?_|((first|refine stp ?_|refine A0 (fun h=>?_) ?_|(refine gw (fun h=>?_) (fun h=>?_)<;>(try (exfalso;omega))))<;>(try (refine wS ?_)))))
  all_goals (simp only[sxd,z0,p0,Nat.reduceEqDiff,↓reduceIte,Tryz.f202, *];exact aX)
set_option maxHeartbeats 8000000 in
theorem Aed{b:BkV}(hb:b.Ok)(j:List (List AV))(x:LegV)(day:Int):∃ z:Int,True∧Cn 159 [.agg (bkC b j),.agg [gI x.account,gI x.amount,gS x.cur],gI day] (.val (gI z)):=by
 obtain⟨⟨x2,y2⟩,⟨s2,n2,rfl⟩,c1⟩:=Nl hb.r1 hb.n1 x.cur
 obtain⟨⟨⟨f1,f2,f3,f4⟩,f5⟩,_,c2⟩:=Lu b.chart hb.n3 hb.r3 x.account
 obtain⟨z3,_,c3⟩:=Yz b.chart hb.n3 hb.r3 x.account
 obtain⟨⟨⟨a1,a2,a3,a4,a5,a6,a7⟩,a8⟩,_,c4⟩:=Ru b hb.n5 j x.account
 obtain⟨⟨p,f⟩,_,c5⟩:=A3b hb.r4 hb.n4 a6 a2
 obtain⟨z6,_,c6⟩:=Wa b hb.n5 j x.account day
 unfold gP Bw at c5
 unfold bkC at *
 dsimp only at *
 clear hb
 refine caS gI Tryz.func159 ?_
 (repeat' (first|exact trivial|refine stR ?_|((first|refine cv (c1) ?_|refine cv (c2) ?_|refine cv (c3) ?_|refine cv (c4) ?_|refine cv (c5) ?_|refine cv (c6) ?_|refine stp ?_|refine A0 (fun h=>?_) ?_|(refine gw (fun h=>?_) (fun h=>?_)<;>(try (exfalso;omega))))<;>(try (refine wS ?_)))))
 all_goals (simp only[sxd,z0,p0,Nat.reduceEqDiff,↓reduceIte,Tryz.f159, *];exact aX)
set_option maxHeartbeats 8000000 in
theorem A5l{b:BkV}(hb:b.Ok)(j:List (List AV)){e:EntV}(hn:Sz e.legs.length):∃ z:Int,True∧Cn 102 [.agg (bkC b j),.agg (Al e)] (.val (gI z)):=by
 unfold Sz at hn
 have hl:=B9 e.legs
 have cl:=Lib.hid fun (x:LegV)=>Aed hb j x e.booked
 clear hb
 unfold bkC Al
 refine caS gI Tryz.func102 ?_
 (repeat' (first|exact trivial|refine stR ?_|((first|refine stp ?_|refine A0 (fun h=>?_) ?_|(refine gw (fun h=>?_) (fun h=>?_)<;>(try (exfalso;omega))))<;>(try (refine wS ?_)))))
 refine A9 (fun n tm hp nx=>∃ k:Nat,n=e.legs.length-k∧k≤e.legs.length∧tm 2=.pt 0 0 0∧tm 3=.pt 1 0 0∧hp 0=some ⟨33,[bkC b j],true⟩∧hp 1=some ⟨39,[[gI e.id,gI e.booked,gI e.value,gI e.kind,gI e.auth,gI e.period,gS e.key,gS e.text,.sl (Ac e.legs),.ex (.int .u64 e.chain)]],true⟩∧1<nx∧tm 5=gI k) e.legs.length ⟨0,rfl,Nat.zero_le _,byS,byS,by unfold bkC;exact byQ,byQ,by omega,byS⟩ ?_
 rintro n tm hp nx ⟨k,hnn,hk,g2,g3,b0,b1,hx,g5⟩
 unfold bkC at b0
 by_cases hlt:k<e.legs.length
 ·have e1:=Bq (List.getElem?_eq_getElem hlt)
  generalize e.legs[k]=x at e1
  obtain⟨w,_,c1⟩:=cl.out x
  unfold bkC at c1
  clear cl
  (repeat' (first|exact trivial|refine stR ?_|((first|refine cv (c1) ?_|refine stp ?_|refine A0 (fun h=>?_) ?_|(refine gw (fun h=>?_) (fun h=>?_)<;>(try (exfalso;omega))))<;>(try (refine wS ?_)))))
  all_goals first
   | exact A3 (e.legs.length-(k+1)) (by omega) ⟨k+1,rfl,by omega,byS,byS,by unfold bkC;exact byQ,byQ,by omega,byS⟩
   | (simp only[sxd,z0,p0,Nat.reduceEqDiff,↓reduceIte,Tryz.f102, *];exact aX)
 ·clear cl
  (repeat' (first|exact trivial|refine stR ?_|((first|refine stp ?_|refine A0 (fun h=>?_) ?_|(refine gw (fun h=>?_) (fun h=>?_)<;>(try (exfalso;omega))))<;>(try (refine wS ?_)))))
  all_goals (simp only[sxd,z0,p0,Nat.reduceEqDiff,↓reduceIte,Tryz.f102, *];exact aX)
end D
end Go.Proofs.YtbhffbgbhgjdiaaGreatDoor
