/-
  Parts of the proof: S21 S22 S23 S24 S25. Conditions: those that each theorem states.
-/
import Derived.Test.YtbhffbgbhgjdiaaGreatDoorM16
set_option linter.unusedSimpArgs false
set_option linter.unusedVariables false
namespace Go.Proofs.YtbhffbgbhgjdiaaGreatDoor
open Go.RowKit
set_option maxRecDepth 100000
variable{P:Program}
theorem rc5{σ:AS}{kk:AV→Prop}{rs:Array ResultVar}{x ty t t2 b j:Nat}{β:A4}{e:List AV}{v v2:AV}{us:List AV}{ids:List Nat}(hrs:rs=#[.tmp t,.cell x ty,.tmp t2])(hk:kk (.tup us))(h1:σ.tm x=.pt b j 0:=by exact byQ)(h2:σ.hp b=some β:=by exact byQ)(h3:β.es[j]?=some e:=by exact byS)
  (hag:(aty P ty).isAgg=true:=by simp only[ATy.isAgg,tyb]) (hsz:(aty P ty).sz=e.length:=by simp only[tyb];rfl) (h0:0<e.length:=by exact Nat.zero_lt_succ _) (hv:σ.tm t=v:=by exact byQ) (hv2:σ.tm t2=v2:=by exact byQ) (h5:cls σ.hp [v,.agg e,v2]=some (us,ids):=by first|(simp only[sxd,z0,p0,Nat.reduceEqDiff,↓reduceIte];rfl)|(simp only[sxd,z0,p0,Nat.reduceEqDiff,↓reduceIte, *];rfl)):Dy P rs σ kk:=by
 subst hrs
 rw[U1]
 simp only[B1,h1]
 refine⟨β,e,h2,h3, ?_⟩
 unfold Ar
 rw[if_pos hag,hsz,List.drop_zero,List.take_length]
 refine⟨⟨h0,by omega⟩, ?_⟩
 show opt (cls σ.hp [σ.tm t,.agg e,σ.tm t2]) _
 rw[hv,hv2,h5]
 exact hk
namespace D
theorem Rq{x:Int×Int}(h:OkW x)(mode:Int):∃ z:Int×(Int×Int)×Int,(I64 z.1∧OkW z.2.1)∧Cn 165 [gW x,gI mode] (.val (.tup [gI z.1,gW z.2.1,gI z.2.2])):=by
 have g0:I64 1603080000000:=by unfold I64;omega
 obtain⟨⟨d,dc⟩,g1,c1⟩:=Rt h g0 mode
 obtain⟨vb,_,c2⟩:=Zr d
 obtain⟨⟨m1,m2⟩,g2,c3⟩:=A0e (x:=d) g1 g0
 obtain⟨⟨⟨s1,s2⟩,sc⟩,⟨g3,g4⟩,c4⟩:=Ao3 h g2
 obtain⟨a,b⟩:=x
 clear h g2 g0
 dsimp only at *
 refine caS (fun z:Int×(Int×Int)×Int=>.tup [gI z.1,gW z.2.1,gI z.2.2]) Tryz.func165 ?_
 (repeat' (first|exact trivial|refine stR ?_|((first|refine cv (c1) ?_|refine cv (c2) ?_|refine cv (c3) ?_|refine cv (c4) ?_|refine stp ?_|refine A0 (fun h=>?_) ?_|(refine gw (fun h=>?_) (fun h=>?_)<;>(try (exfalso;omega))))<;>(try (refine wS ?_)))))
 all_goals (refine rc5 rfl ?_)
 all_goals exact⟨(_,(_,_),_),rfl,by exact uok,⟨by exact uok,by exact uok⟩⟩
theorem Oq{p q:Int}(hp:I64 p)(hq:I64 q)(mode:Int):∃ z:Int×Int,True∧Cn 112 [gI p,gI q,gI mode] (.val (gII z)):=by
 obtain⟨b1,_,c1⟩:=Zr p
 obtain⟨b2,_,c2⟩:=Wx mode
 obtain⟨⟨m1,m2⟩,g2,c3⟩:=A0e hp hq
 obtain⟨⟨d,dc⟩,g3,c4⟩:=Rt g2 (n:=1000000) (by unfold I64;omega) mode
 clear hp hq g2
 dsimp only at *
 refine caS gII Tryz.func112 ?_
 (repeat' (first|exact trivial|refine stR ?_|((first|refine cv (c1) ?_|refine cv (c2) ?_|refine cv (c3) ?_|refine cv (c4) ?_|refine stp ?_|refine A0 (fun h=>?_) ?_|(refine gw (fun h=>?_) (fun h=>?_)<;>(try (exfalso;omega))))<;>(try (refine wS ?_)))))
 all_goals (simp only[sxd,z0,p0,Nat.reduceEqDiff,↓reduceIte,Tryz.f112, *];first|exact⟨(_,_),rfl,trivial⟩|exact⟨(_,_),rfl⟩)
end D
def L5(x:IntV):List AV:=[.sl (An x.tiers),gB x.marg,gI x.basis,gI x.mode,gB x.keep]
theorem Lp(l:List (Int×Int)):((An l).all (·.all p0))=true:=by
 simp [An,Ti,p0]
theorem Lq(l:List (Int×Int)):(An l).map (·.map z0)=An l:=by
 simp [An,Ti,z0]
theorem N1(l:List (Int×Int)):∀ n∈An l,n.length=2:=by
 intro n hn
 obtain⟨x,_,rfl⟩:=List.mem_map.1 hn
 rfl
namespace D
theorem Ahp{p:ProdV}(h:p.Ok)(n:Int):∃ x:IntV,x.Ok∧Cn 251 [.agg (Bw p),gI n] (.val (.agg (L5 x))):=by
 have c1:=Gk (An p.cr.tiers) (Lp _) (Lq _) (N1 _) (by rw[Dh];exact h.c.y)
 have c2:=Gk (An p.db.tiers) (Lp _) (Lq _) (N1 _) (by rw[Dh];exact h.d.y)
 have h1:=h.c
 have h2:=h.d
 clear h
 unfold Bw
 refine caS (fun x:IntV=>.agg (L5 x)) Tryz.func251 ?_
 (repeat' (first|exact trivial|refine stR ?_|((first|refine cv (c1) ?_|refine cv (c2) ?_|refine stp ?_|refine A0 (fun h=>?_) ?_|(refine gw (fun h=>?_) (fun h=>?_)<;>(try (exfalso;omega))))<;>(try (refine wS ?_)))))
 all_goals (refine rc1 rfl ?_)
 all_goals first|exact⟨p.cr,rfl,h1⟩|exact⟨p.db,rfl,h2⟩
end D
namespace D
theorem A3k{acc:List (Int×Int)}{a c:Int}(h:∀ y∈acc,I64 y.1∧I64 y.2)(ha:I64 a)(hc:I64 c):∀ y∈acc++[(a,c)],I64 y.1∧I64 y.2:=by
 intro y hy
 rcases List.mem_append.1 hy with hy|hy
 ·exact h y hy
 ·rw[List.mem_singleton.1 hy];exact⟨ha,hc⟩
set_option maxHeartbeats 4000000 in
theorem A5u(l:List (Int×Int))(hl:Sz (l.length*16))(hi:∀ y∈l,I64 y.1∧I64 y.2)(m:Bool){n:Int}(hn:I64 n):∃ z:List (Int×Int),(z.length≤l.length+1∧∀ y∈z,I64 y.1∧I64 y.2)∧Cn 252 [.sl (An l),gB m,gI n] (.val (.sl (An z))):=by
 have hl0:Sz l.length:=by unfold Sz at *;omega
 obtain⟨c,_,c1⟩:=Tg l hl0
 obtain⟨s,hs,c2⟩:=A50 n hn
 obtain⟨r,hr,c3⟩:=Ahn l hl0 hi hn
 unfold Sz at hl hl0
 have q1:=Dh l
 have hsr:∀ y∈[(s,r)],I64 y.1∧I64 y.2:=by intro y hy;rw[List.mem_singleton.1 hy];exact⟨hs,hr⟩
 replace hsr:=Lib.hid hsr
 replace hi:=Lib.hid hi
 clear hn hs hr
 have hz0:=Lib.hid (show ∀ y∈([]:List (Int×Int)),I64 y.1∧I64 y.2 from fun y hy=>by cases hy)
 have e0:An []=[]:=rfl
 have e1':An [(s,r)]=[[gI s,gI r]]:=rfl
 refine caS (fun z=>.sl (An z)) Tryz.func252 ?_
 (repeat' (first|exact trivial|refine stR ?_|((first|refine cv (c1) ?_|refine cv (c2) ?_|refine cv (c3) ?_|refine Pc (by simp only[tyb,Eu]) (by simp only[tyb,sxb,Value.oneCell',Nat.reduceAdd,Nat.reduceMul,Nat.reduceLeDiff,Nat.reduceLT]) ?_|refine Oz (by first|((simp (disch:=omega) only[sx,C7,↓reduceIte,Nat.reduceAdd,Nat.reduceEqDiff,Nat.reduceLeDiff, *];(try rfl));done)|((simp (disch:=omega) only[sx,C7,↓reduceIte,Nat.reduceAdd,Nat.reduceEqDiff,Nat.reduceLeDiff, *];(try rfl));assumption)|((simp (disch:=omega) only[sx,C7,↓reduceIte,Nat.reduceAdd,Nat.reduceEqDiff,Nat.reduceLeDiff, *];(try rfl));omega)) (by first|omega|(simp only[List.length_cons,List.length_nil, *];omega)) (by first|((simp (disch:=omega) only[sx,C7,↓reduceIte,Nat.reduceAdd,Nat.reduceEqDiff,Nat.reduceLeDiff, *];(try rfl));done)|(simp only[tyb,List.length_cons,List.length_nil, *];omega)) ?_|refine Kn (by first|((simp (disch:=omega) only[sx,C7,↓reduceIte,Nat.reduceAdd,Nat.reduceEqDiff,Nat.reduceLeDiff, *];(try rfl));done)|((simp (disch:=omega) only[sx,C7,↓reduceIte,Nat.reduceAdd,Nat.reduceEqDiff,Nat.reduceLeDiff, *];(try rfl));assumption)|((simp (disch:=omega) only[sx,C7,↓reduceIte,Nat.reduceAdd,Nat.reduceEqDiff,Nat.reduceLeDiff, *];(try rfl));omega)) (by first|rfl|assumption) ?_|refine stp ?_|refine A0 (fun h=>?_) ?_|(refine gw (fun h=>?_) (fun h=>?_)<;>(try (exfalso;omega))))<;>(try (refine wS ?_)))))
 all_goals first
  | (simp only[sxd,z0,p0,Nat.reduceEqDiff,↓reduceIte,Tryz.f252, *];exact⟨[],rfl,by simp,hz0.out⟩)
  | (simp only[sxd,z0,p0,Nat.reduceEqDiff,↓reduceIte,Tryz.f252, *];exact⟨[(s,r)],rfl,by simp,hsr.out⟩)
  | skip
 refine A9 (fun n' tm hp nx=>∃ (k b:Nat) (acc:List (Int×Int)),n'=l.length-k∧k≤l.length∧acc.length≤k∧tm 0=.sl (An l)∧tm 7=gI s∧tm 34=.sl (An l)∧tm 35=gI l.length∧tm 36=gI k∧tm 8=.own b∧hp b=some ⟨350,An acc,true⟩∧b<nx∧Hid (∀ y∈acc,I64 y.1∧I64 y.2)) (l.length) ⟨0,_,[],rfl,Nat.zero_le _,Nat.zero_le _,byS,byS,byS,byS,byS,by exact byO,byQ,by omega,hz0⟩ ?_
 rintro n' tm hp nx ⟨k,b,acc,rfl,hk,hak,g0,g7,g34,g35,g36,g8,hb,hbn,hacc⟩
 have qa:=Dh acc
 have qs:∀ a c:Int,An acc++[[gI a,gI c]]=An (acc++[(a,c)]):=fun a c=>by simp [An,Ti]
 have f1:=Lp acc
 have f2:=Lq acc
 by_cases hlt:k<l.length
 ·have e1:=Ca (List.getElem?_eq_getElem hlt)
  have hx:=Lib.hid (hi.out _ (List.getElem_mem hlt))
  have k1:((k:Int)+1).toNat=k+1:=by omega
  by_cases hnx:k+1<l.length
  ·have e2:=Ca (List.getElem?_eq_getElem hnx)
   generalize l[k+1]=y at *
   generalize l[k]=x at *
   (repeat' (first|exact trivial|refine stR ?_|((first|refine Pc (by simp only[tyb,Eu]) (by simp only[tyb,sxb,Value.oneCell',Nat.reduceAdd,Nat.reduceMul,Nat.reduceLeDiff,Nat.reduceLT]) ?_|refine Oz (by first|((simp (disch:=omega) only[sx,C7,↓reduceIte,Nat.reduceAdd,Nat.reduceEqDiff,Nat.reduceLeDiff, *];(try rfl));done)|((simp (disch:=omega) only[sx,C7,↓reduceIte,Nat.reduceAdd,Nat.reduceEqDiff,Nat.reduceLeDiff, *];(try rfl));assumption)|((simp (disch:=omega) only[sx,C7,↓reduceIte,Nat.reduceAdd,Nat.reduceEqDiff,Nat.reduceLeDiff, *];(try rfl));omega)) (by first|omega|(simp only[List.length_cons,List.length_nil, *];omega)) (by first|((simp (disch:=omega) only[sx,C7,↓reduceIte,Nat.reduceAdd,Nat.reduceEqDiff,Nat.reduceLeDiff, *];(try rfl));done)|(simp only[tyb,List.length_cons,List.length_nil, *];omega)) ?_|refine Kn (by first|((simp (disch:=omega) only[sx,C7,↓reduceIte,Nat.reduceAdd,Nat.reduceEqDiff,Nat.reduceLeDiff, *];(try rfl));done)|((simp (disch:=omega) only[sx,C7,↓reduceIte,Nat.reduceAdd,Nat.reduceEqDiff,Nat.reduceLeDiff, *];(try rfl));assumption)|((simp (disch:=omega) only[sx,C7,↓reduceIte,Nat.reduceAdd,Nat.reduceEqDiff,Nat.reduceLeDiff, *];(try rfl));omega)) (by first|rfl|assumption) ?_|refine stp ?_|refine A0 (fun h=>?_) ?_|(refine gw (fun h=>?_) (fun h=>?_)<;>(try (exfalso;omega))))<;>(try (refine wS ?_)))))
   all_goals first
    | exact A3 (l.length-(k+1)) (by omega) ⟨k+1,b,acc,rfl,by omega,by omega,byS,byS,byS,byS,byS,byS,byQ,by omega,hacc⟩
    | exact A3 (l.length-(k+1)) (by omega) ⟨k+1,_,acc++[(_,_)],rfl,by omega,by rw[List.length_append];exact Nat.succ_le_succ hak,byS,byS,byS,byS,byS,by exact byO,byQ,by omega,Lib.hid (A3k hacc.out (by exact uok) hx.out.2)⟩
  ·generalize l[k]=x at *
   (repeat' (first|exact trivial|refine stR ?_|((first|refine Pc (by simp only[tyb,Eu]) (by simp only[tyb,sxb,Value.oneCell',Nat.reduceAdd,Nat.reduceMul,Nat.reduceLeDiff,Nat.reduceLT]) ?_|refine Oz (by first|((simp (disch:=omega) only[sx,C7,↓reduceIte,Nat.reduceAdd,Nat.reduceEqDiff,Nat.reduceLeDiff, *];(try rfl));done)|((simp (disch:=omega) only[sx,C7,↓reduceIte,Nat.reduceAdd,Nat.reduceEqDiff,Nat.reduceLeDiff, *];(try rfl));assumption)|((simp (disch:=omega) only[sx,C7,↓reduceIte,Nat.reduceAdd,Nat.reduceEqDiff,Nat.reduceLeDiff, *];(try rfl));omega)) (by first|omega|(simp only[List.length_cons,List.length_nil, *];omega)) (by first|((simp (disch:=omega) only[sx,C7,↓reduceIte,Nat.reduceAdd,Nat.reduceEqDiff,Nat.reduceLeDiff, *];(try rfl));done)|(simp only[tyb,List.length_cons,List.length_nil, *];omega)) ?_|refine Kn (by first|((simp (disch:=omega) only[sx,C7,↓reduceIte,Nat.reduceAdd,Nat.reduceEqDiff,Nat.reduceLeDiff, *];(try rfl));done)|((simp (disch:=omega) only[sx,C7,↓reduceIte,Nat.reduceAdd,Nat.reduceEqDiff,Nat.reduceLeDiff, *];(try rfl));assumption)|((simp (disch:=omega) only[sx,C7,↓reduceIte,Nat.reduceAdd,Nat.reduceEqDiff,Nat.reduceLeDiff, *];(try rfl));omega)) (by first|rfl|assumption) ?_|refine stp ?_|refine A0 (fun h=>?_) ?_|(refine gw (fun h=>?_) (fun h=>?_)<;>(try (exfalso;omega))))<;>(try (refine wS ?_)))))
   all_goals first
    | exact A3 (l.length-(k+1)) (by omega) ⟨k+1,b,acc,rfl,by omega,by omega,byS,byS,byS,byS,byS,byS,byQ,by omega,hacc⟩
    | exact A3 (l.length-(k+1)) (by omega) ⟨k+1,_,acc++[(_,_)],rfl,by omega,by rw[List.length_append];exact Nat.succ_le_succ hak,byS,byS,byS,byS,byS,by exact byO,byQ,by omega,Lib.hid (A3k hacc.out (by exact uok) hx.out.2)⟩
 ·(repeat' (first|exact trivial|refine stR ?_|((first|refine stp ?_|refine A0 (fun h=>?_) ?_|(refine gw (fun h=>?_) (fun h=>?_)<;>(try (exfalso;omega))))<;>(try (refine wS ?_)))))
  all_goals (simp only[sxd,z0,p0,Nat.reduceEqDiff,↓reduceIte,Tryz.f252, *];exact⟨acc,rfl,by omega,hacc.out⟩)
end D
namespace D
set_option maxHeartbeats 4000000 in
theorem A5k(l:List (Int×Int))(hl:Sz l.length)(hi:∀ y∈l,I64 y.1∧I64 y.2)(n:Int):∃ z:(Int×Int)×Int,OkW z.1∧Cn 253 [.sl (An l),gI n] (.val (gWI z)):=by
 unfold Sz at hl
 have q1:=Dh l
 have w0:OkW (0,0):=⟨by unfold I64;dsimp only;omega,by unfold U64;dsimp only;omega⟩
 by_cases hn:0≤n∧n≤6412320000
 ·obtain⟨n0,n1⟩:=hn
  replace hi:=Lib.hid hi
  refine caS gWI Tryz.func253 ?_
  (repeat' (first|exact trivial|refine stR ?_|((first|refine stp ?_|refine A0 (fun h=>?_) ?_|(refine gw (fun h=>?_) (fun h=>?_)<;>(try (exfalso;omega))))<;>(try (refine wS ?_)))))
  ·(refine rc3 rfl ?_)
   exact⟨((_,_),_),rfl,w0⟩
  refine A9 (fun n' tm hp nx=>∃ (k:Nat) (a c:Int),n'=l.length-k∧k≤l.length∧tm 1=gI n∧tm 22=.sl (An l)∧tm 23=gI l.length∧tm 24=gI k∧tm 4=.pt 0 0 0∧tm 6=.pt 11 0 0∧hp 0=some ⟨50,[[gI 0,.ex (.int .u64 0)]],true⟩∧hp 11=some ⟨50,[[gI a,.ex (.int .u64 c)]],true⟩∧11<nx∧Hid (OkW (a,c))) (l.length) ⟨0,0,0,rfl,Nat.zero_le _,byS,byS,byS,byS,byS,byS,byQ,byQ,by omega,Lib.hid w0⟩ ?_
  rintro n' tm hp nx ⟨k,a,c,rfl,hk,g1,g22,g23,g24,g4,g6,b0,b11,hx,hac⟩
  by_cases hlt:k<l.length
  ·have e1:=Ca (List.getElem?_eq_getElem hlt)
   have hxi:=hi.out _ (List.getElem_mem hlt)
   obtain⟨⟨m1,m2⟩,gm,c1⟩:=A0e hxi.1 hxi.2
   obtain⟨⟨⟨s1,s2⟩,sc⟩,gs,c2⟩:=Aa5 gm (n:=n) ⟨by omega,by omega⟩
   obtain⟨⟨⟨t1,t2⟩,tc⟩,gt,c3⟩:=Og hac.out gs
   replace gt:=Lib.hid gt
   clear hxi gm gs
   generalize l[k]=x at *
   dsimp only at *
   (repeat' (first|exact trivial|refine stR ?_|((first|refine cv (c1) ?_|refine cv (c2) ?_|refine cv (c3) ?_|refine stp ?_|refine A0 (fun h=>?_) ?_|(refine gw (fun h=>?_) (fun h=>?_)<;>(try (exfalso;omega))))<;>(try (refine wS ?_)))))
   all_goals first
    | exact A3 (l.length-(k+1)) (by omega) ⟨k+1,t1,t2,rfl,by omega,byS,byS,byS,byS,byS,byS,byQ,byQ,by omega,gt⟩
    | ((refine rc3 rfl ?_);exact⟨((_,_),_),rfl,w0⟩)
  ·(repeat' (first|exact trivial|refine stR ?_|((first|refine stp ?_|refine A0 (fun h=>?_) ?_|(refine gw (fun h=>?_) (fun h=>?_)<;>(try (exfalso;omega))))<;>(try (refine wS ?_)))))
   all_goals (refine rc3 rfl ?_)
   all_goals exact⟨((_,_),_),rfl,hac.out⟩
 ·refine caS gWI Tryz.func253 ?_
  (repeat' (first|exact trivial|refine stR ?_|((first|refine stp ?_|refine A0 (fun h=>?_) ?_|(refine gw (fun h=>?_) (fun h=>?_)<;>(try (exfalso;omega))))<;>(try (refine wS ?_)))))
  all_goals (refine rc3 rfl ?_)
  all_goals exact⟨((_,_),_),rfl,w0⟩
end D
namespace D
theorem Sl{p:ProdV}(h:p.Ok){n:Int}(hn:I64 n)(day:Int):∃ z:Int×Int,OkW z∧Cn 210 [.agg (Bw p),gI n,gI day] (.val (gW z)):=by
 have w0:OkW (0,0):=⟨by unfold I64;dsimp only;omega,by unfold U64;dsimp only;omega⟩
 obtain⟨x,hx,c1⟩:=Ahp h n
 obtain⟨l,⟨hl,hli⟩,c2⟩:=A5u x.tiers hx.y hx.t x.marg hn
 obtain⟨w,_,c3⟩:=A5w x.basis day
 obtain⟨⟨⟨g1,g2⟩,gc⟩,hg,c4⟩:=A5k l (by have:=hx.y;unfold Sz at *;omega) hli w
 unfold L5 at c1
 unfold Bw at *
 clear h hx hn hl hli
 dsimp only at *
 refine caS gW Tryz.func210 ?_
 (repeat' (first|exact trivial|refine stR ?_|((first|refine cv (c1) ?_|refine cv (c2) ?_|refine cv (c3) ?_|refine cv (c4) ?_|refine stp ?_|refine A0 (fun h=>?_) ?_|(refine gw (fun h=>?_) (fun h=>?_)<;>(try (exfalso;omega))))<;>(try (refine wS ?_)))))
 all_goals (refine rc1 rfl ?_)
 all_goals first|exact⟨(_,_),rfl,w0⟩|exact⟨(_,_),rfl,hg⟩
end D
noncomputable def grF(p:ProdV)(n day:Int):Int×Int:=open Classical in
 if h:p.Ok∧I64 n then Classical.choose (D.Sl h.1 h.2 day) else (0,0)
theorem Y7{p:ProdV}(h:p.Ok){n:Int}(hn:I64 n)(day:Int):OkW (grF p n day)∧Cn 210 [.agg (Bw p),gI n,gI day] (.val (gW (grF p n day))):=by
 unfold grF
 rw[dif_pos ⟨h,hn⟩]
 exact Classical.choose_spec (D.Sl h hn day)
end Go.Proofs.YtbhffbgbhgjdiaaGreatDoor
