/-
  Parts of the proof: S33 S34 S35 S36 S37 S38. Conditions: those that each theorem states.
-/
import Derived.Test.YtbhffbgbhgjdiaaGreatDoorM19
import Derived.Test.YtbhffbgbhgjdiaaGreatDoorM9
import Derived.Test.YtbhffbgbhgjdiaaGreatDoorM14
set_option linter.unusedSimpArgs false
set_option linter.unusedVariables false
namespace Go.Proofs.YtbhffbgbhgjdiaaGreatDoor
open Go.RowKit
set_option maxRecDepth 100000
section
variable{P:Program}
theorem rI3{σ:AS}{kk:AV→Prop}{rs:Array ResultVar}{x ty y ty2 t b j b2 j2:Nat}{β γ:A4}{e e2:List AV}{v:AV}(hrs:rs=#[.cell x ty,.cell y ty2,.tmp t])(hk:kk (.tup [.agg e,.agg e2,v]))(h1:σ.tm x=.pt b j 0:=by exact byQ)(h2:σ.hp b=some β:=by exact byQ)(h3:β.es[j]?=some e:=by exact byS)
  (g1:σ.tm y=.pt b2 j2 0:=by exact byQ) (g2:σ.hp b2=some γ:=by exact byQ) (g3:γ.es[j2]?=some e2:=by exact byS)
  (hag:(aty P ty).isAgg=true:=by simp only[ATy.isAgg,tyb]) (hsz:(aty P ty).sz=e.length:=by simp only[tyb];rfl) (h0:0<e.length:=by exact Nat.zero_lt_succ _) (hag2:(aty P ty2).isAgg=true:=by simp only[ATy.isAgg,tyb]) (hsz2:(aty P ty2).sz=e2.length:=by simp only[tyb];rfl) (h02:0<e2.length:=by exact Nat.zero_lt_succ _)
  (hv:σ.tm t=v:=by exact byQ):C1 P rs σ kk:=by
 subst hrs
 unfold C1
 dsimp only
 simp only[B1,h1]
 refine⟨β,e,h2,h3, ?_⟩
 unfold Ar
 rw[if_pos hag,hsz,List.drop_zero,List.take_length]
 refine⟨⟨h0,by omega⟩, ?_⟩
 simp only[g1]
 refine⟨γ,e2,g2,g3, ?_⟩
 rw[if_pos hag2,hsz2,List.drop_zero,List.take_length]
 refine⟨⟨h02,by omega⟩, ?_⟩
 rw[hv]
 exact hk
theorem rI1{σ:AS}{kk:AV→Prop}{rs:Array ResultVar}{x ty t t2 b j:Nat}{β:A4}{e:List AV}{v v2:AV}(hrs:rs=#[.cell x ty,.tmp t,.tmp t2])(hk:kk (.tup [.agg e,v,v2]))(h1:σ.tm x=.pt b j 0:=by exact byQ)(h2:σ.hp b=some β:=by exact byQ)(h3:β.es[j]?=some e:=by exact byS)
  (hag:(aty P ty).isAgg=true:=by simp only[ATy.isAgg,tyb]) (hsz:(aty P ty).sz=e.length:=by simp only[tyb];rfl) (h0:0<e.length:=by exact Nat.zero_lt_succ _)
  (hv:σ.tm t=v:=by exact byQ) (hv2:σ.tm t2=v2:=by exact byQ):C1 P rs σ kk:=by
 subst hrs
 unfold C1
 dsimp only
 simp only[B1,h1]
 refine⟨β,e,h2,h3, ?_⟩
 unfold Ar
 rw[if_pos hag,hsz,List.drop_zero,List.take_length]
 refine⟨⟨h0,by omega⟩, ?_⟩
 rw[hv,hv2]
 exact hk
end
theorem Aqt(b:BkV)(id:Int):D7 b id perZ=0:=by unfold D7 perZ;simp
theorem Qi{b:BkV}{cur:ByteArray}{old p:PerV}{x:EntV}(hl:x.legs=Jm (Fp b cur old p))(hv:x.value=p.to+1)(hk:x.booked≤73048)(j:List EntV)(n:Nat)(c:Int) :
  (∀ t,Q64 (B6 73048 t p.acc (j++[Co x n c])) (B6 73048 t p.acc j+if p.to+1≤t then D7 b p.acc p-D7 b p.acc old else 0))∧Q64 (Aj p.acc (j++[Co x n c])) (Aj p.acc j+(D7 b p.acc p-D7 b p.acc old)):=by
 have h1:=(Q4 p.acc (Fp b cur old p)).trans (Su b cur old p)
 rw[← hl] at h1
 constructor
 ·intro t
  rw[Hp _ _ _ _ _ _ _ hk,hv]
  split
  ·exact (Q64.refl _).add h1
  ·exact Q64.refl _
 ·rw[Gn]
  exact (Q64.refl _).add h1
theorem A24{b:BkV}{cur:ByteArray}{old p:PerV}(hl:Jm (Fp b cur old p)=[])(j:List EntV) :
  (∀ t,Q64 (B6 73048 t p.acc j) (B6 73048 t p.acc j+if p.to+1≤t then D7 b p.acc p-D7 b p.acc old else 0))∧Q64 (Aj p.acc j) (Aj p.acc j+(D7 b p.acc p-D7 b p.acc old)):=by
 have h1:=(Q4 p.acc (Fp b cur old p)).trans (Su b cur old p)
 rw[hl] at h1
 have h2:Q64 0 (D7 b p.acc p-D7 b p.acc old):=h1
 constructor
 ·intro t
  split
  ·have:=(Q64.refl (B6 73048 t p.acc j)).add h2
   rwa [Int.add_zero] at this
  ·rw[Int.add_zero];exact Q64.refl _
 ·have:=(Q64.refl (Aj p.acc j)).add h2
  rwa [Int.add_zero] at this
theorem Lj{j:List EntV}(hj:JOk j){x:EntV}(hx:x.Ok)(hn:j.length≤4096){c:Int}(hc:U64 c):JOk (j++[Co x j.length c]):=by
 refine⟨?_,fun y hy=>?_⟩
 ·rw[List.length_append,List.length_singleton];unfold Sz;omega
 ·rcases List.mem_append.1 hy with h|h
  ·exact hj.e y h
  ·rw[List.mem_singleton.1 h]
   exact Z9 hx (by omega) hc
structure Oo(b:BkV)(id d:Int)(j j2:List EntV)(l:List PerV)(p:PerV):Prop where
 e:(Bu b (Bp j id) l.getLast? id d).2=0
 s:bare (Bu b (Bp j id) l.getLast? id d).1=bare p
 ok:p.Ok
 ac:p.acc=id
 to:p.to=d
 jo:JOk j2
 m:∀ t,Q64 (B6 73048 t id j2) (B6 73048 t id j+if d+1≤t then D7 b id p else 0)
 a:Q64 (Aj id j2) (Aj id j+D7 b id p)
set_option maxHeartbeats 4000000 in
theorem Aev{b:BkV}(hb:b.Ok)(hpl:Ly b){j:List EntV}(hj:JOk j){l:List PerV}(hl:Sz l.length){id d bk:Int}(hid:I64 id)(hd:d<73048)(hbk:I64 bk)(ha:∀ p∈l,p.acc=id)(hp:∀ p∈l,p.Ok){hp0:Nat→Option A4}{nx q:Nat}(hq:hp0 q=some ⟨52,Bo l,true⟩)(hqn:q<nx) :
  ConI Tryz.prog CtxP 26 [.agg (bkC b (Ab j)),.own q,gI id,gI d,gI bk] hp0 nx (fun u h n=>(∀ i,i<nx→h i=hp0 i)∧∃ (x:List AV) (p:PerV) (e:Int),u=.tup [.agg x,.agg (Cc p),gI e]∧x.length=22∧(e=0→∃ j2,x=bkC b (Ab j2)∧Oo b id d j j2 l p)):=by
 have c1:=D.Ot hb j hj l hl id d ha hp
 have f1:=Hq l
 have f2:=Hr l
 have hlast:∀ p,l.getLast?=some p→p.Ok:=fun p h=>hp p (List.mem_of_getLast? h)
 have hqx:¬ q=nx:=by omega
 have i0:I64 perZ.cnt:=by unfold I64 perZ;dsimp only;omega
 by_cases he:(Bu b (Bp j id) l.getLast? id d).2=0
 ·obtain⟨hto,hac,hcn⟩:=Oa he
  obtain⟨hok,hprod⟩:=A4r hb (B:=Bp j id) (fun d=>Im _) hlast he
  obtain⟨⟨x,sm⟩,hx,c2⟩:=D.Wi hb hpl j perZ (Bu b (Bp j id) l.getLast? id d).1 (by rw[hac];exact hid) hok.t i0 bk hbk
  have hN:∀ j2 k,JOk j2→I64 k→(∀ t,Q64 (B6 73048 t id j2) (B6 73048 t id j+if d+1≤t then D7 b id (Bu b (Bp j id) l.getLast? id d).1 else 0))→Q64 (Aj id j2) (Aj id j+D7 b id (Bu b (Bp j id) l.getLast? id d).1)→Oo b id d j j2 l { (Bu b (Bp j id) l.getLast? id d).1 with cnt:=k }:=fun j2 k h1 hk h2 h3 =>
   ⟨he,rfl,⟨hok.t,hok.r1,hok.r2,hk⟩,hac,hto,h1,h2,h3⟩
  have hz:=Aqt b id
  have hself:(Bu b (Bp j id) l.getLast? id d).1={ (Bu b (Bp j id) l.getLast? id d).1 with cnt:=0 }:=by rw[← hcn]
  rw[he] at c1
  rw[hac] at hx
  rw[hto] at hx
  have pm:=@Qi b (B5 b id d).1.cur perZ (Bu b (Bp j id) l.getLast? id d).1 x
  have nm:=@A24 b (B5 b id d).1.cur perZ (Bu b (Bp j id) l.getLast? id d).1
  rw[hac,hto,hz] at pm nm
  simp only[Int.sub_zero] at pm nm
  rw[hself] at c1 c2
  generalize (Bu b (Bp j id) l.getLast? id d).1=P at *
  obtain⟨pa,pb,pc,pd,pe,pf,pg,ph,pi,pj,pk⟩:=P
  try dsimp only at hac hto hcn hx
  subst hac hto hcn
  rcases hx with⟨h1,h2,h3,h4,h5,h6⟩|⟨h1,h2,h3⟩
  ·try dsimp only at h1 h2 h3 h4 h5 h6
   subst h1
   obtain⟨l2,n,hn,c3⟩:=Nz hb j hj x h6 h5
   by_cases h0:n=0
   ·subst h0
    obtain⟨hg,hjn,c,hc,rfl⟩:=hn rfl
    obtain⟨m1,m2⟩:=pm h2 (by rw[h4,if_pos hd]) hg.b.2 j j.length c
    have hfin:=Lib.hid (hN _ 1 (Lj hj h6 hjn hc) (by unfold I64;omega) m1 m2)
    clear pm nm hN hn m1 m2 h2 h3 h4 h5 h6 hok hlast ha hp hself hg hc hz
    unfold bkR at c3
    rw[if_pos rfl] at c3
    generalize j++[Co x j.length c]=j2 at *
    refine En base Tryz.func26 rfl rfl (by kernel_rfl) (Nat.le_of_ble_eq_true rfl) ?_
    unfold Cc perZ at *
    unfold Al at c2 c3
    unfold bkC at *
    try dsimp only at c1 c2 c3
    show awp Tryz.prog CtxP _ _ ⟨tmI _,hp0,nx⟩
    (repeat' (first|exact trivial|refine stR ?_|((first|refine cv (c1) ?_|refine cv (c2) ?_|refine cv (c3) ?_|refine stn ?_|refine A0 (fun h=>?_) ?_|(refine gw (fun h=>?_) (fun h=>?_)<;>(try (exfalso;omega))))<;>(try (refine wS ?_)))))
    refine (?_:awp Tryz.prog CtxP (.region 10 nxt10_ops true) _ _)
    refine Anh base (by exact byQ) (by exact byQ) (by exact byQ) (by exact byQ) (by exact byQ) (by exact byQ) (by exact byQ) (by exact byQ) rfl rfl rfl rfl (by omega) (by omega) (by omega) (by omega) (by omega) (by omega) (by omega) (by omega) (by omega) (by omega) (by omega) (by omega) fun tm' e10 e11 e12=>?_
    show awp Tryz.prog CtxP _ _ ⟨_,_,_⟩
    (repeat' (first|exact trivial|refine stR ?_|((first|refine stn ?_|refine A0 (fun h=>?_) ?_|(refine gw (fun h=>?_) (fun h=>?_)<;>(try (exfalso;omega))))<;>(try (refine wS ?_)))))
    all_goals (refine rI3 rfl ?_)
    all_goals exact⟨fun i hi=>(by have hix:¬ i=nx:=(by omega);exact byQ),_,⟨_,_,_,_,_,_,_,_,_,_,_⟩,0,rfl,rfl,fun _=>⟨_,rfl,hfin.out⟩⟩
   ·clear pm nm hN hn h2 h3 h4 h5 h6 hok hlast ha hp hself hz
    unfold bkR at c3
    rw[if_neg h0,show bkZ.map z0=[.sl [],.sl [],.sl [],gI 0,gI 0,gI 0,gI 0,gI 0,gI 0,gI 0,gI 0,gI 0,gI 0,gI 0,gI 0,gI 0,gI 0,.sl [],.sl [],.sl [],.sl [],.sl []] from rfl] at c3
    refine En base Tryz.func26 rfl rfl (by kernel_rfl) (Nat.le_of_ble_eq_true rfl) ?_
    unfold Cc perZ at *
    unfold Al at c2 c3
    unfold bkC at *
    show awp Tryz.prog CtxP _ _ ⟨tmI _,hp0,nx⟩
    (repeat' (first|exact trivial|refine stR ?_|((first|refine cv (c1) ?_|refine cv (c2) ?_|refine cv (c3) ?_|refine stn ?_|refine A0 (fun h=>?_) ?_|(refine gw (fun h=>?_) (fun h=>?_)<;>(try (exfalso;omega))))<;>(try (refine wS ?_)))))
    refine (?_:awp Tryz.prog CtxP (.region 8 nxt8_ops true) _ _)
    refine B0y base (by exact byQ) (by exact byQ) (by exact byQ) (by exact byQ) (by exact byQ) (by exact byQ) (by exact byQ) (by exact byQ) (by exact byQ) rfl rfl rfl rfl (by omega) (by omega) (by omega) (by omega) (by omega) (by omega) (by omega) (by omega) (by omega) (by omega) (by omega) (by omega) fun tm' e10 e11 e12=>?_
    show awp Tryz.prog CtxP _ _ ⟨_,_,_⟩
    (repeat' (first|exact trivial|refine stR ?_|((first|refine stn ?_|refine A0 (fun h=>?_) ?_|(refine gw (fun h=>?_) (fun h=>?_)<;>(try (exfalso;omega))))<;>(try (refine wS ?_)))))
    all_goals (refine rI3 rfl ?_)
    all_goals exact⟨fun i hi=>(by have hix:¬ i=nx:=(by omega);exact byQ),_,⟨_,_,_,_,_,_,_,_,_,_,_⟩,_,rfl,rfl,fun h=>absurd h h0⟩
  ·try dsimp only at h1 h2 h3
   subst h1 h2
   obtain⟨m1,m2⟩:=nm (h3 hprod) j
   have hfin:=Lib.hid (hN j 0 hj (by unfold I64;omega) m1 m2)
   clear pm nm hN m1 m2 h3 hok hlast ha hp hself hz
   refine En base Tryz.func26 rfl rfl (by kernel_rfl) (Nat.le_of_ble_eq_true rfl) ?_
   unfold Cc perZ at *
   unfold Al Xr at c2
   unfold Ac at c2
   simp only[List.map_nil] at c2
   unfold bkC at *
   show awp Tryz.prog CtxP _ _ ⟨tmI _,hp0,nx⟩
   (repeat' (first|exact trivial|refine stR ?_|((first|refine cv (c1) ?_|refine cv (c2) ?_|refine stn ?_|refine A0 (fun h=>?_) ?_|(refine gw (fun h=>?_) (fun h=>?_)<;>(try (exfalso;omega))))<;>(try (refine wS ?_)))))
   refine (?_:awp Tryz.prog CtxP (.region 10 nxt10_ops true) _ _)
   refine Anh base (by exact byQ) (by exact byQ) (by exact byQ) (by exact byQ) (by exact byQ) (by exact byQ) (by exact byQ) (by exact byQ) rfl rfl rfl rfl (by omega) (by omega) (by omega) (by omega) (by omega) (by omega) (by omega) (by omega) (by omega) (by omega) (by omega) (by omega) fun tm' e10 e11 e12=>?_
   show awp Tryz.prog CtxP _ _ ⟨_,_,_⟩
   (repeat' (first|exact trivial|refine stR ?_|((first|refine stn ?_|refine A0 (fun h=>?_) ?_|(refine gw (fun h=>?_) (fun h=>?_)<;>(try (exfalso;omega))))<;>(try (refine wS ?_)))))
   all_goals (refine rI3 rfl ?_)
   all_goals exact⟨fun i hi=>(by have hix:¬ i=nx:=(by omega);exact byQ),_,⟨_,_,_,_,_,_,_,_,_,_,_⟩,0,rfl,rfl,fun _=>⟨_,rfl,hfin.out⟩⟩
 ·have hne:¬ (Bu b (Bp j id) l.getLast? id d).2=0:=he
  generalize Bu b (Bp j id) l.getLast? id d=P at *
  obtain⟨⟨pa,pb,pc,pd,pe,pf,pg,ph,pi,pj,pk⟩,er⟩:=P
  replace hne:¬ er=0:=hne
  clear he hlast ha hp
  refine En base Tryz.func26 rfl rfl (by kernel_rfl) (Nat.le_of_ble_eq_true rfl) ?_
  unfold Cc perZ at *
  unfold bkC at *
  show awp Tryz.prog CtxP _ _ ⟨tmI _,hp0,nx⟩
  (repeat' (first|exact trivial|refine stR ?_|((first|refine cv (c1) ?_|refine stn ?_|refine A0 (fun h=>?_) ?_|(refine gw (fun h=>?_) (fun h=>?_)<;>(try (exfalso;omega))))<;>(try (refine wS ?_)))))
  refine (?_:awp Tryz.prog CtxP (.region 3 nxt3_ops true) _ _)
  refine B0x base (by exact byQ) (by exact byQ) (by exact byQ) (by exact byQ) (by exact byQ) (by exact byQ) (by exact byQ) (by exact byQ) (by exact byQ) rfl rfl rfl rfl (by omega) (by omega) (by omega) (by omega) (by omega) (by omega) (by omega) (by omega) (by omega) (by omega) (by omega) (by omega) fun tm' e10 e11 e12=>?_
  show awp Tryz.prog CtxP _ _ ⟨_,_,_⟩
  (repeat' (first|exact trivial|refine stR ?_|((first|refine stn ?_|refine A0 (fun h=>?_) ?_|(refine gw (fun h=>?_) (fun h=>?_)<;>(try (exfalso;omega))))<;>(try (refine wS ?_)))))
  all_goals (refine rI3 rfl ?_)
  all_goals exact⟨fun i hi=>(by have hix:¬ i=nx:=(by omega);exact byQ),_,⟨_,_,_,_,_,_,_,_,_,_,_⟩,_,rfl,rfl,fun h=>absurd h hne⟩
structure B08(p:Prop):Prop where
 out:p
theorem Jb{P:Program}{C:World→Prop}{Q:Exit→AS→Prop}{σ:AS}{r:Nat}{ops:Array Oper}(h:B08 (awp P C (.region r ops false) Q σ)):awp P C (.region r ops false) Q σ:=h.out
structure Rw(b:BkV)(id bk:Int)(n0:Nat)(hp:Nat→Option A4)(nx:Nat)(j:List EntV)(l:List PerV)(q:Nat):Prop where
 hB:hp n0=some ⟨33,[bkC b (Ab j)],true⟩
 hI:hp (n0+1)=some ⟨3,[[gI id]],true⟩
 hK:hp (n0+2)=some ⟨3,[[gI bk]],true⟩
 hO:hp (n0+40)=some ⟨40,[[.own q]],true⟩
 hE:hp (n0+45)=some ⟨41,[[gI 0]],true⟩
 hq:hp q=some ⟨52,Bo l,true⟩
 lt:n0+45<nx∧q<nx∧n0+38<q∧¬ q=n0+40∧¬ q=n0+45
def Aiy(n0:Nat):List AV:=[.pt n0 0 0,.pt (n0+1) 0 0,.pt (n0+40) 0 0,.pt (n0+2) 0 0,.pt (n0+45) 0 0]
def Avh(b:BkV)(id bk d:Int)(n0:Nat)(hp:Nat→Option A4)(nx:Nat)(j:List EntV)(l:List PerV)(q:Nat)(u:AV)(h:Nat→Option A4)(n:Nat):Prop :=
 (∀ i,i<nx→¬ i=n0→¬ i=n0+40→¬ i=n0+45→¬ i=q→h i=hp i) ∧
  ((u=gB true∧okE b id d=false∧Rw b id bk n0 h n j l q)∨(u=gB true∧okE b id d=true∧∃ j2 p q2,nx≤q2∧Rw b id bk n0 h n j2 (l++[p]) q2∧Oo b id d j j2 l p) ∨
    (u=gB false∧∃ e:Int,¬ e=0∧h (n0+45)=some ⟨41,[[gI e]],true⟩∧n0+45<n))
set_option maxHeartbeats 4000000 in
theorem Aiz{b:BkV}(hb:b.Ok)(hpl:Ly b){j:List EntV}(hj:JOk j){l:List PerV}(hl:l.length≤100000){id d bk:Int}(hid:I64 id)(hd:d<73048)(hbk:I64 bk)(ha:∀ p∈l,p.acc=id)(hp:∀ p∈l,p.Ok){hp0:Nat→Option A4}{n0 nx q:Nat}(hR:Rw b id bk n0 hp0 nx j l q) :
  ConI Tryz.prog CtxP 23 (gI d :: Aiy n0) hp0 nx (Avh b id bk d n0 hp0 nx j l q):=by
 have c1:=D.G0 hb (Ab j) id d
 have hok:okE b id d=((B5 b id d).2 && A1a (B5 b id d).1.every d):=rfl
 have c2:=Ac1 (B5 b id d).1.every d
 have hnx:=@Aev b hb hpl j hj l (by unfold Sz;omega) id d bk hid hd hbk ha hp
 have hR0:=Lib.hid hR
 obtain⟨hB,hI,hK,hO,hE,hq,h1,h2,h3,h4,h5⟩:=hR
 generalize B5 b id d=v at *
 obtain⟨v,v2⟩:=v
 dsimp only at c1 c2 hok
 have g1:¬ q=n0:=by omega
 have g2:¬ q=n0+1:=by omega
 have g3:¬ q=n0+2:=by omega
 have g4:¬ q=nx:=by omega
 have g5:¬ n0=q:=by omega
 have g6:¬ n0=nx:=by omega
 have s1:¬ n0+1=q:=by omega
 have s2:¬ n0+2=q:=by omega
 have s3:¬ n0+40=q:=by omega
 have s4:¬ n0+45=q:=by omega
 have f1:=Hq l
 have f2:=Hr l
 have f3:=Cz l
 unfold Aiy
 by_cases hv:v2=true∧A1a v.every d=true
 ·obtain⟨rfl,hv2⟩:=hv
  rw[hv2] at c2 hok
  have hokt:okE b id d=true:=hok
  clear hok hv2
  refine En base Tryz.func23 rfl rfl (by kernel_rfl) (Nat.le_of_ble_eq_true rfl) ?_
  unfold gP Bw at c1
  unfold bkC at c1 hB
  show awp Tryz.prog CtxP _ _ ⟨tmI _,hp0,nx⟩
  (repeat' (first|exact trivial|refine stR ?_|((first|refine cv (c1) ?_|refine cv (c2) ?_|refine Jb (r:=5) ?_|refine stp ?_|refine A0 (fun h=>?_) ?_|(refine gw (fun h=>?_) (fun h=>?_)<;>(try (exfalso;omega))))<;>(try (refine wS ?_)))))
  refine⟨?_⟩
  refine G3 ?_
  refine Bh base [_,_,_,_,_] 0 _ ?_
  (refine wS ?_)
  refine Pz rfl rfl rfl (by rfl) (hnx (q:=q) (by exact byQ) (by omega)) ?_
  rintro u hp1 nx1 ⟨hk,x,p,e,rfl,hx22,hN⟩ hle
  have kB:hp1 n0=_:=(hk n0 (by omega)).trans (by exact byQ)
  have kI:hp1 (n0+1)=_:=(hk (n0+1) (by omega)).trans (by exact byQ)
  have kK:hp1 (n0+2)=_:=(hk (n0+2) (by omega)).trans (by exact byQ)
  have kO:hp1 (n0+40)=_:=(hk (n0+40) (by omega)).trans (by exact byQ)
  have kE:hp1 (n0+45)=_:=(hk (n0+45) (by omega)).trans (by exact byQ)
  have kq:hp1 q=_:=(hk q (by omega)).trans (by exact byQ)
  have kP:hp1 (nx+20)=_:=(hk (nx+20) (by omega)).trans (by exact byQ)
  have kk:Hid (∀ i,i<nx→hp1 i=hp0 i):=Lib.hid fun i hi=>(hk i (by omega)).trans (by have hix:¬ i=nx:=(by omega);exact byQ)
  clear hk hB hI hK hO hE hq
  have g7:¬ q=nx+20:=by omega
  have g8:¬ q=nx1:=by omega
  have s5:¬ nx+20=q:=by omega
  have qs:Bo l++[[gI p.acc,gI p.frm,gI p.to,gI p.cr,gI p.db,gI p.tax,gI p.cnt,gI p.c1,gU p.c2,gI p.d1,gU p.d2]]=Bo (l++[p]):=by simp [Bo,Cc]
  by_cases he:e=0
  ·subst he
   obtain⟨j2,rfl,hN2⟩:=hN rfl
   replace hN2:=Lib.hid hN2
   clear hN hx22
   unfold bkC Cc
   refine Bh base [_,_,_,_,_,_,_] _ _ ?_
   (refine wS ?_)
   refine Cd ?_
   show awp Tryz.prog CtxP _ _ ⟨_,_,_⟩
   (repeat' (first|exact trivial|refine stR ?_|((first|refine stp ?_|refine A0 (fun h=>?_) ?_|(refine gw (fun h=>?_) (fun h=>?_)<;>(try (exfalso;omega))))<;>(try (refine wS ?_)))))
   unfold C1
   refine⟨fun i a1 a2 a3 a4 a5=>?_,.inr (.inl ⟨?_,hokt,j2,p,nx1+18,by omega,⟨?_, ?_, ?_, ?_, ?_, ?_, ?_⟩,hN2.out⟩)⟩
   ·refine Eq.trans ?_ (kk.out i a1)
    have b1:¬ i=nx+20:=by omega
    exact byQ
   ·exact byQ
   ·unfold bkC;exact byQ
   ·exact byQ
   ·exact byQ
   ·exact byQ
   ·exact byQ
   ·exact byQ
   ·exact⟨by omega,by omega,by omega,by omega,by omega⟩
  ·clear hN qs
   unfold Cc
   refine Bh base [_,_,_,_,_,_,_] _ _ ?_
   (refine wS ?_)
   refine Cd ?_
   show awp Tryz.prog CtxP _ _ ⟨_,_,_⟩
   (repeat' (first|exact trivial|refine stR ?_|((first|refine stp ?_|refine A0 (fun h=>?_) ?_|(refine gw (fun h=>?_) (fun h=>?_)<;>(try (exfalso;omega))))<;>(try (refine wS ?_)))))
   unfold C1
   refine⟨fun i a1 a2 a3 a4 a5=>?_,.inr (.inr ⟨?_,e,he, ?_, ?_⟩)⟩
   ·refine Eq.trans ?_ (kk.out i a1)
    have b1:¬ i=nx+20:=by omega
    exact byQ
   ·exact byQ
   ·exact byQ
   ·omega
 ·have hokf:okE b id d=false:=by
   rw[hok]
   cases v2<;>cases he:A1a v.every d<;>simp_all
  have hfin:∀ σ:AS,σ.tm 7=gB true→(∀ i,i<nx→σ.hp i=hp0 i)→nx≤σ.nx→C1 Tryz.prog #[.tmp 7] σ (fun u=>Avh b id bk d n0 hp0 nx j l q u σ.hp σ.nx):=by
   intro σ t7 hs hle
   have hR1:=hR0.out
   unfold C1
   refine⟨fun i a1 _ _ _ _=>hs i a1,.inl ⟨t7,hokf,⟨(hs _ (by omega)).trans hR1.hB,(hs _ (by omega)).trans hR1.hI,(hs _ (by omega)).trans hR1.hK,(hs _ (by omega)).trans hR1.hO,(hs _ (by omega)).trans hR1.hE,(hs _ (by omega)).trans hR1.hq,⟨by omega,by omega,by omega,h4,h5⟩⟩⟩⟩
  have hvv:v2=true→A1a v.every d=false:=fun h=>by
   cases he:A1a v.every d with
   | true=>exact absurd ⟨h,he⟩ hv
   | false=>rfl
  clear hok hv hnx
  refine En base Tryz.func23 rfl rfl (by kernel_rfl) (Nat.le_of_ble_eq_true rfl) ?_
  unfold gP Bw at c1
  unfold bkC at c1 hB
  show awp Tryz.prog CtxP _ _ ⟨tmI _,hp0,nx⟩
  cases v2 with
  | false =>
   clear hvv c2
   (repeat' (first|exact trivial|refine stR ?_|((first|refine cv (c1) ?_|refine stp ?_|refine A0 (fun h=>?_) ?_|(refine gw (fun h=>?_) (fun h=>?_)<;>(try (exfalso;omega))))<;>(try (refine wS ?_)))))
   all_goals
    refine hfin _ ?_ ?_ ?_
    ·exact byQ
    ·intro i hi
     have b1:¬ i=nx:=by omega
     exact byQ
    ·dsimp only;omega
  | true =>
   rw[hvv rfl] at c2
   clear hvv
   (repeat' (first|exact trivial|refine stR ?_|((first|refine cv (c1) ?_|refine cv (c2) ?_|refine stp ?_|refine A0 (fun h=>?_) ?_|(refine gw (fun h=>?_) (fun h=>?_)<;>(try (exfalso;omega))))<;>(try (refine wS ?_)))))
   all_goals
    refine hfin _ ?_ ?_ ?_
    ·exact byQ
    ·intro i hi
     have b1:¬ i=nx:=by omega
     exact byQ
    ·dsimp only;omega
def Rk(id:Int)(j:List EntV):Int→Int:=fun d=>B6 73048 d id j
structure Gl(b:BkV)(id:Int)(j0 j:List EntV)(l:List PerV):Prop where
 jo:JOk j
 inv:(Zb b id).Inv l.length (Rk id j) (Rk id j0) (Aj id j) (Aj id j0) l
 ac:∀ p∈l,p.acc=id
 ok:∀ p∈l,p.Ok
theorem A8i(l:List PerV):C3 l l.length=l.getLast?:=by
 cases l with
 | nil=>rfl
 | cons x l =>
  show (x :: l)[l.length]?=_
  rw[List.getLast?_eq_getElem?]
  rfl
theorem A4u{b:BkV}{id:Int}{j:List EntV}(hj:JOk j):Gl b id j j []:=⟨hj,Ajw _ _,fun p h=>(by cases h),fun p h=>(by cases h)⟩
theorem Aga{b:BkV}{id d:Int}{j0 j j2:List EntV}{l:List PerV}{p:PerV}(h:Gl b id j0 j l)(hn:Oo b id d j j2 l p)(ht:∀ q∈l,q.to<d):Gl b id j0 j2 (l++[p]):=by
 refine⟨hn.jo, ?_,fun q hq=>?_,fun q hq=>?_⟩
 ·have hlam:(Zb b id).lam (Bu b (Bp j id) l.getLast? id d).1=D7 b id p:=(Zb b id).same_lam _ _ hn.s
  refine Ajy (t:=d) (p:=(Bu b (Bp j id) l.getLast? id d).1) h.inv ht ?_ hn.s (fun t=>?_) ?_
  ·rw[A8i]
   show (if (Bu b (Bp j id) l.getLast? id d).2=0 then some (Bu b (Bp j id) l.getLast? id d).1 else none)=_
   rw[if_pos hn.e]
  ·rw[hlam];exact hn.m t
  ·rw[hlam];exact hn.a
 ·rcases List.mem_append.1 hq with h1|h1
  ·exact h.ac q h1
  ·rw[List.mem_singleton.1 h1];exact hn.ac
 ·rcases List.mem_append.1 hq with h1|h1
  ·exact h.ok q h1
  ·rw[List.mem_singleton.1 h1];exact hn.ok
structure MonI(b:BkV)(id bk to:Int)(n0:Nat)(j0:List EntV)(E:List Int)(hp0:Nat→Option A4)(nx0 q0:Nat)(d:Int)(hp:Nat→Option A4)(nx:Nat)(j:List EntV)(l:List PerV)(q:Nat):Prop where
 rw:Rw b id bk n0 hp nx j l q
 ok:Gl b id j0 j l
 ends:l.map PerV.to++H2 b id to d=E
 lt:0≤d→∀ p∈l,p.to<d
 len:(0≤d→(l.length:Int)≤d)∧(l.length:Int)≤73048
 kk:∀ i,i<nx0→¬ i=n0→¬ i=n0+40→¬ i=n0+45→¬ i=q0→hp i=hp0 i
 nx:nx0≤nx
 q:q=q0∨nx0≤q
def Anz(b:BkV)(id bk:Int)(n0:Nat)(j0:List EntV)(E:List Int)(hp0:Nat→Option A4)(nx0 q0:Nat)(h:Nat→Option A4)(n:Nat):Prop :=
 (∀ i,i<nx0→¬ i=n0→¬ i=n0+40→¬ i=n0+45→¬ i=q0→h i=hp0 i) ∧
  ((∃ j l q,Rw b id bk n0 h n j l q∧Gl b id j0 j l∧l.map PerV.to=E∧(l.length:Int)≤73048)∨(∃ e:Int,¬ e=0∧h (n0+45)=some ⟨41,[[gI e]],true⟩∧n0+45<n))
theorem Rw.up{b:BkV}{id bk:Int}{n0:Nat}{hp:Nat→Option A4}{nx nx':Nat}{j:List EntV}{l:List PerV}{q:Nat}(h:Rw b id bk n0 hp nx j l q)(hn:nx≤nx'):Rw b id bk n0 hp nx' j l q :=
 ⟨h.hB,h.hI,h.hK,h.hO,h.hE,h.hq,by obtain⟨a,b,c,d,e⟩:=h.lt;exact⟨by omega,by omega,c,d,e⟩⟩
theorem MonI.up{b:BkV}{id bk to:Int}{n0:Nat}{j0:List EntV}{E:List Int}{hp0:Nat→Option A4}{nx0 q0:Nat}{d:Int}{hp:Nat→Option A4}{nx nx':Nat}{j:List EntV}{l:List PerV}{q:Nat}(h:MonI b id bk to n0 j0 E hp0 nx0 q0 d hp nx j l q)(hn:nx≤nx'):MonI b id bk to n0 j0 E hp0 nx0 q0 d hp nx' j l q :=
 ⟨h.rw.up hn,h.ok,h.ends,h.lt,h.len,h.kk,by have:=h.nx;omega,h.q⟩
def A6t(to d:Int):Nat:=if 0≤d then (to+2-d).toNat else 0
theorem A3y{to d:Int}(h0:0≤d)(h1:d≤to):A6t to (meF (d+1))<A6t to d:=by
 unfold A6t
 rw[if_pos h0]
 split
 ·rename_i h
  have:=K0 h
  omega
 ·omega
theorem Aqx{b:BkV}{id bk to:Int}{n0:Nat}{j0:List EntV}{E:List Int}{hp0:Nat→Option A4}{nx0 q0:Nat}{d:Int}{hp:Nat→Option A4}{nx:Nat}{j:List EntV}{l:List PerV}{q:Nat}(h:MonI b id bk to n0 j0 E hp0 nx0 q0 d hp nx j l q){hp1:Nat→Option A4}(hk:∀ i,i<nx→¬ i=n0→¬ i=n0+40→¬ i=n0+45→¬ i=q→hp1 i=hp i) :
  ∀ i,i<nx0→¬ i=n0→¬ i=n0+40→¬ i=n0+45→¬ i=q0→hp1 i=hp0 i:=by
 intro i a1 a2 a3 a4 a5
 have hq:¬ i=q:=by
  rcases h.q with rfl|hq
  ·exact a5
  ·omega
 rw[hk i (by have:=h.nx;omega) a2 a3 a4 hq]
 exact h.kk i a1 a2 a3 a4 a5
theorem A7v{b:BkV}{id bk to:Int}{n0:Nat}{j0:List EntV}{E:List Int}{hp0:Nat→Option A4}{nx0 q0:Nat}{d:Int}{hp:Nat→Option A4}{nx:Nat}{j:List EntV}{l:List PerV}{q:Nat}(h:MonI b id bk to n0 j0 E hp0 nx0 q0 d hp nx j l q)(h0:0≤d)(h1:d≤to)(ht:to≤73008){hp1:Nat→Option A4}{nx1:Nat}(hn:nx≤nx1)(hk:∀ i,i<nx→¬ i=n0→¬ i=n0+40→¬ i=n0+45→¬ i=q→hp1 i=hp i)(hok:okE b id d=false)(hR:Rw b id bk n0 hp1 nx1 j l q) :
  MonI b id bk to n0 j0 E hp0 nx0 q0 (meF (d+1)) hp1 nx1 j l q:=by
 refine⟨hR,h.ok, ?_,fun hm p hp=>?_,⟨fun hm=>?_,h.len.2⟩,fun i a1 a2 a3 a4 a5=>?_,by have:=h.nx;omega,h.q⟩
 ·rw[← h.ends,Up h0 h1,hok];simp
 ·have:=h.lt h0 p hp
  have:=K0 hm
  omega
 ·have:=h.len.1 h0
  have:=K0 hm
  omega
 ·have hq:¬ i=q:=by
   rcases h.q with rfl|hq
   ·exact a5
   ·omega
  rw[hk i (by have:=h.nx;omega) a2 a3 a4 hq]
  exact h.kk i a1 a2 a3 a4 a5
theorem A7w{b:BkV}{id bk to:Int}{n0:Nat}{j0:List EntV}{E:List Int}{hp0:Nat→Option A4}{nx0 q0:Nat}{d:Int}{hp:Nat→Option A4}{nx:Nat}{j:List EntV}{l:List PerV}{q:Nat}(h:MonI b id bk to n0 j0 E hp0 nx0 q0 d hp nx j l q)(h0:0≤d)(h1:d≤to)(ht:to≤73008){hp1:Nat→Option A4}{nx1:Nat}(hn:nx≤nx1)(hk:∀ i,i<nx→¬ i=n0→¬ i=n0+40→¬ i=n0+45→¬ i=q→hp1 i=hp i)(hok:okE b id d=true){j2:List EntV}{p:PerV}{q2:Nat}(hR:Rw b id bk n0 hp1 nx1 j2 (l++[p]) q2)(hN:Oo b id d j j2 l p)(hq2:nx≤q2) :
  MonI b id bk to n0 j0 E hp0 nx0 q0 (meF (d+1)) hp1 nx1 j2 (l++[p]) q2:=by
 have hl:=h.len.1 h0
 refine⟨hR,Aga h.ok hN (h.lt h0), ?_,fun hm r hr=>?_,⟨fun hm=>?_, ?_⟩,fun i a1 a2 a3 a4 a5=>?_,by have:=h.nx;omega,.inr (by have:=h.nx;omega)⟩
 ·rw[← h.ends,Up h0 h1,hok,List.map_append]
  simp [hN.to]
 ·have:=K0 hm
  rcases List.mem_append.1 hr with h2|h2
  ·have:=h.lt h0 r h2;omega
  ·rw[List.mem_singleton.1 h2,hN.to];omega
 ·have:=K0 hm
  rw[List.length_append,List.length_singleton]
  omega
 ·rw[List.length_append,List.length_singleton]
  omega
 ·have hq:¬ i=q:=by
   rcases h.q with rfl|hq
   ·exact a5
   ·omega
  rw[hk i (by have:=h.nx;omega) a2 a3 a4 hq]
  exact h.kk i a1 a2 a3 a4 a5
set_option maxHeartbeats 4000000 in
theorem A21{b:BkV}(hb:b.Ok)(hpl:Ly b){j0:List EntV}(hj:JOk j0){id frm to bk:Int}(hid:I64 id)(ht:to≤73008)(hbk:I64 bk){hp0:Nat→Option A4}{n0 nx0 q0:Nat}(hR:Rw b id bk n0 hp0 nx0 j0 [] q0) :
  ConI Tryz.prog CtxP 22 [gI frm,gI to,.fn 23 (Aiy n0)] hp0 nx0 (fun _ h n=>Anz b id bk n0 j0 (H2 b id to (meF frm)) hp0 nx0 q0 h n):=by
 have c1:=A4j frm
 have c2:=fun d=>A4j d
 refine En base Tryz.func22 rfl rfl (by kernel_rfl) (Nat.le_of_ble_eq_true rfl) ?_
 show awp Tryz.prog CtxP _ _ ⟨tmI _,hp0,nx0⟩
 have hR1:=Lib.hid (show MonI b id bk to n0 j0 (H2 b id to (meF frm)) hp0 nx0 q0 (meF frm) hp0 nx0 j0 [] q0 from ⟨hR,A4u hj,rfl,fun _ p h=>(by cases h),⟨fun h=>h,by decide⟩,fun _ _ _ _ _ _=>rfl,Nat.le_refl _,.inl rfl⟩)
 clear hR
 generalize H2 b id to (meF frm)=E at *
 (repeat' (first|exact trivial|refine stR ?_|((first|refine cv (c1) ?_|refine stp ?_|refine A0 (fun h=>?_) ?_|(refine gw (fun h=>?_) (fun h=>?_)<;>(try (exfalso;omega))))<;>(try (refine wS ?_)))))
 refine A9 (fun n tm hp nx=>∃ (d:Int) (j:List EntV) (l:List PerV) (q:Nat),n=A6t to d∧tm 1=gI to∧tm 2=.fn 23 (Aiy n0)∧tm 6=gI d∧Hid (MonI b id bk to n0 j0 E hp0 nx0 q0 d hp nx j l q)) _ ⟨_,_,_,_,rfl,byS,byS,byQ,Lib.hid (hR1.out.up (by omega))⟩ ?_
 clear hR1
 rintro n tm hp nx ⟨d,j,l,q,rfl,g1,g2,g6,hI⟩
 by_cases h0:0≤d
 ·by_cases h1:d≤to
  ·have c3:=c2 (d+1)
   have d1:d+1≤73009:=by omega
   clear c1 c2
   (repeat' (first|exact trivial|refine stR ?_|((first|refine cv (c3) ?_|refine Jb (r:=3) ?_|refine stp ?_|refine A0 (fun h=>?_) ?_|(refine gw (fun h=>?_) (fun h=>?_)<;>(try (exfalso;omega))))<;>(try (refine wS ?_)))))
   refine⟨?_⟩
   refine G3 ?_
   refine Bh base [_,_] 0 _ ?_
   (refine wS ?_)
   have hI1:=hI.out
   refine Aju rfl rfl rfl (by exact byQ) (by rfl) (Aiz hb hpl (id:=id) (bk:=bk) (j:=j) (l:=l) (q:=q) (n0:=n0) (d:=d) hI1.ok.jo (by have:=hI1.len.2;omega) hid (by omega) hbk hI1.ok.ac hI1.ok.ok (hI1.rw.up (by omega))) ?_
   rintro u hp1 nx1 hC hle
   obtain⟨hk,hC⟩:=hC
   have hk2:∀ i,i<nx→¬ i=n0→¬ i=n0+40→¬ i=n0+45→¬ i=q→hp1 i=hp i:=fun i a1 a2 a3 a4 a5=>hk i (by omega) a2 a3 a4 a5
   have hk3:=Lib.hid (Aqx hI1 hk2)
   clear hk
   rcases hC with⟨rfl,hok,hR2⟩|⟨rfl,hok,j2,p,q2,hq2,hR2,hN⟩|⟨rfl,e,he,hE,hn1⟩
   ·have hn:=Lib.hid (A7v hI1 h0 h1 ht (by omega) hk2 hok hR2)
    clear hk2 hI1 hR2
    refine Bh base [_] _ _ ?_
    (refine wS ?_)
    refine Cd ?_
    show awp Tryz.prog CtxP _ _ ⟨_,_,_⟩
    (repeat' (first|exact trivial|refine stR ?_|((first|refine cv (c3) ?_|refine stp ?_|refine A0 (fun h=>?_) ?_|(refine gw (fun h=>?_) (fun h=>?_)<;>(try (exfalso;omega))))<;>(try (refine wS ?_)))))
    all_goals exact A3 (A6t to (meF (d+1))) (A3y h0 h1) ⟨meF (d+1),_,_,_,rfl,byS,byS,byQ,Lib.hid (hn.out.up (by omega))⟩
   ·have hn:=Lib.hid (A7w hI1 h0 h1 ht (by omega) hk2 hok hR2 hN (by omega))
    clear hk2 hI1 hR2 hN
    refine Bh base [_] _ _ ?_
    (refine wS ?_)
    refine Cd ?_
    show awp Tryz.prog CtxP _ _ ⟨_,_,_⟩
    (repeat' (first|exact trivial|refine stR ?_|((first|refine cv (c3) ?_|refine stp ?_|refine A0 (fun h=>?_) ?_|(refine gw (fun h=>?_) (fun h=>?_)<;>(try (exfalso;omega))))<;>(try (refine wS ?_)))))
    all_goals exact A3 (A6t to (meF (d+1))) (A3y h0 h1) ⟨meF (d+1),_,_,_,rfl,byS,byS,byQ,Lib.hid (hn.out.up (by omega))⟩
   ·replace hE:=Lib.hid hE
    clear hk2 hI1
    refine Bh base [_] _ _ ?_
    (refine wS ?_)
    refine Cd ?_
    show awp Tryz.prog CtxP _ _ ⟨_,_,_⟩
    (repeat' (first|exact trivial|refine stR ?_|((first|refine stp ?_|refine A0 (fun h=>?_) ?_|(refine gw (fun h=>?_) (fun h=>?_)<;>(try (exfalso;omega))))<;>(try (refine wS ?_)))))
    all_goals first
     | (unfold C1;exact⟨hk3.out,.inr ⟨e,he,hE.out,by omega⟩⟩)
     | exact⟨hk3.out,.inr ⟨e,he,hE.out,by omega⟩⟩
     | exact .inr ⟨e,he,hE.out,by omega⟩
  ·have hfin:∀ m,nx≤m→Anz b id bk n0 j0 E hp0 nx0 q0 hp m:=fun m hm=>by
    have h:=hI.out
    refine⟨h.kk,.inl ⟨j,l,q,h.rw.up hm,h.ok, ?_,h.len.2⟩⟩
    have:=h.ends
    rwa [Ff (fun h=>h1 h.2),List.append_nil] at this
   (repeat' (first|exact trivial|refine stR ?_|((first|refine stp ?_|refine A0 (fun h=>?_) ?_|(refine gw (fun h=>?_) (fun h=>?_)<;>(try (exfalso;omega))))<;>(try (refine wS ?_)))))
   all_goals
    unfold C1
    exact hfin _ (by omega)
 ·have hfin:∀ m,nx≤m→Anz b id bk n0 j0 E hp0 nx0 q0 hp m:=fun m hm=>by
   have h:=hI.out
   refine⟨h.kk,.inl ⟨j,l,q,h.rw.up hm,h.ok, ?_,h.len.2⟩⟩
   have:=h.ends
   rwa [Ff (fun h=>h0 h.1),List.append_nil] at this
  (repeat' (first|exact trivial|refine stR ?_|((first|refine stp ?_|refine A0 (fun h=>?_) ?_|(refine gw (fun h=>?_) (fun h=>?_)<;>(try (exfalso;omega))))<;>(try (refine wS ?_)))))
  all_goals
   unfold C1
   exact hfin _ (by omega)
theorem Rb:Cn 21 [.sl []] (.fresh 52 []):=by
 refine Gy base Tryz.func21 rfl rfl (by kernel_rfl) (Nat.le_of_ble_eq_true rfl) ?_
 rw[Jc]
 (repeat' (first|exact trivial|refine stR ?_|((first|refine stp ?_|refine A0 (fun h=>?_) ?_|(refine gw (fun h=>?_) (fun h=>?_)<;>(try (exfalso;omega))))<;>(try (refine wS ?_)))))
 all_goals simp only[sxd,z0,p0,Nat.reduceEqDiff,↓reduceIte,Tryz.f21, *]
noncomputable def Jp(b:BkV)(id to:Int):List Int:=match C2 id b.accs with
 | none=>[]
 | some a=>if to<a.opened then [] else H2 b id to (meF a.opened)
def Aho(b:BkV)(id to:Int)(j:List EntV)(hp0:Nat→Option A4)(nx0:Nat)(u:AV)(h:Nat→Option A4)(n:Nat):Prop :=
 (∀ i, i < nx0 → h i = hp0 i) ∧ ((∃ (k:Nat) (e:Int),¬ e=0∧u=.tup [.agg bkZ,.own k,gI e]∧nx0≤k∧k<n∧h k=some ⟨52,[],true⟩) ∨
  (∃ j2 l q,u=.tup [.agg (bkC b (Ab j2)),.own q,gI 0]∧nx0≤q∧q<n∧h q=some ⟨52,Bo l,true⟩∧Gl b id j j2 l∧l.map PerV.to=Jp b id to∧(l.length:Int)≤73048∧∃ a,C2 id b.accs=some a))
theorem Od{b:BkV}{id to:Int}{j:List EntV}{hp0 h:Nat→Option A4}{nx0 n k:Nat}{e:Int}(hs:∀ i,i<nx0→h i=hp0 i)(he:¬ e=0)(h1:nx0≤k)(h2:k<n)(h3:h k=some ⟨52,[],true⟩):Aho b id to j hp0 nx0 (.tup [.agg bkZ,.own k,gI e]) h n:=⟨hs,.inl ⟨k,e,he,rfl,h1,h2,h3⟩⟩
theorem Ag9{b:BkV}{id to:Int}{j j2:List EntV}{l:List PerV}{hp0 h:Nat→Option A4}{nx0 n q:Nat}(hs:∀ i,i<nx0→h i=hp0 i)(h1:nx0≤q)(h2:q<n)(h3:h q=some ⟨52,Bo l,true⟩)(h4:Gl b id j j2 l)(h5:l.map PerV.to=Jp b id to)(h6:(l.length:Int)≤73048)(h7:∃ a,C2 id b.accs=some a):Aho b id to j hp0 nx0 (.tup [.agg (bkC b (Ab j2)),.own q,gI 0]) h n:=⟨hs,.inr ⟨j2,l,q,rfl,h1,h2,h3,h4,h5,h6,h7⟩⟩
set_option maxHeartbeats 8000000 in
theorem A3g{b:BkV}(hb:b.Ok)(hpl:Ly b){j:List EntV}(hj:JOk j){id to bk:Int}(hid:I64 id)(ht:to≤73008)(hbk:I64 bk){hp0:Nat→Option A4}{nx0:Nat} :
  ConI Tryz.prog CtxP 6 [.agg (bkC b (Ab j)),.ex (.slice none 0 0),gI id,gI to,gI bk] hp0 nx0 (Aho b id to j hp0 nx0):=by
 have c1:=D.Ep b (Ab j) hb.n5 id
 have c3:=Aw to
 have c4:=Aw bk
 have c7:=Rb
 refine En base Tryz.func6 rfl rfl (by kernel_rfl) (Nat.le_of_ble_eq_true rfl) ?_
 cases ho:C2 id b.accs with
 | none =>
  rw[ho] at c1
  unfold Kc D6 Tz at c1
  simp only[Option.getD_none,Option.isSome_none] at c1
  unfold bkC at *
  show awp Tryz.prog CtxP _ _ ⟨tmI _,hp0,nx0⟩
  (repeat' (first|exact trivial|refine stR ?_|((first|refine cv (c1) ?_|refine stp ?_|refine A0 (fun h=>?_) ?_|(refine gw (fun h=>?_) (fun h=>?_)<;>(try (exfalso;omega))))<;>(try (refine wS ?_)))))
  all_goals (refine rI1 rfl ?_)
  all_goals exact Od (fun i hi=>(by have hix:¬ i=nx0:=(by omega);exact byQ)) (by decide) (by omega) (by omega) byQ
 | some a =>
  have haid:=Y3 ho
  rw[ho] at c1
  unfold Kc D6 at c1
  simp only[Option.getD_some,Option.isSome_some] at c1
  have c2:=Sj [] (by unfold Sz;decide) a (fun p h=>(by cases h)) (fun p h=>(by cases h))
  rw[show Bo []=[] from rfl,show D4 ([]:List PerV).getLast? a=a.opened from rfl] at c2
  unfold D6 at c2
  have c5:=Aw a.opened
  have hE:Jp b id to=if to<a.opened then [] else H2 b id to (meF a.opened):=by unfold Jp;rw[ho]
  have hfa:=Lib.hid (show ∃ a,C2 id b.accs=some a from ⟨a,ho⟩)
  clear ho
  by_cases hgt:to<a.opened
  ·rw[if_pos hgt] at hE
   have hE2:=Lib.hid hE
   have hn:=Lib.hid (A4u (b:=b) (id:=id) hj)
   clear hE
   unfold bkC at *
   show awp Tryz.prog CtxP _ _ ⟨tmI _,hp0,nx0⟩
   (repeat' (first|exact trivial|refine stR ?_|((first|refine cv (c1) ?_|refine cv (c2) ?_|refine cv (c3) ?_|refine cv (c4) ?_|refine cv (c5) ?_|refine cf (c7) ?_|refine stn ?_|refine A0 (fun h=>?_) ?_|(refine gw (fun h=>?_) (fun h=>?_)<;>(try (exfalso;omega))))<;>(try (refine wS ?_)))))
   all_goals first
    | (refine rI1 rfl ?_
       exact Od (fun i hi=>(by have hix:¬ i=nx0:=(by omega);exact byQ)) (by decide) (by omega) (by omega) byQ)
    | (refine (?_:awp Tryz.prog CtxP (.region 9 run9_ops true) _ _)
       refine B11 base (by exact byQ) (by exact byQ) (by exact byQ) (by exact byQ) (by exact byQ) (by exact byQ) rfl rfl (by omega) (by omega) (by omega) (by omega) (by omega) (by omega) fun tm' e10 e11 e12=>?_
       show awp Tryz.prog CtxP _ _ ⟨_,_,_⟩
       (repeat' (first|exact trivial|refine stR ?_|((first|refine stn ?_|refine A0 (fun h=>?_) ?_|(refine gw (fun h=>?_) (fun h=>?_)<;>(try (exfalso;omega))))<;>(try (refine wS ?_)))))
       all_goals (refine rI1 rfl ?_)
       all_goals exact Ag9 (b:=b) (j2:=j) (l:=[]) (fun i hi=>(by have hix:¬ i=nx0:=(by omega);exact byQ)) (by omega) (by omega) byQ hn.out hE2.out.symm (by decide) hfa.out)
  ·rw[if_neg hgt] at hE
   have hE2:=Lib.hid hE
   clear hE
   unfold bkC at c1
   unfold bkC
   show awp Tryz.prog CtxP _ _ ⟨tmI _,hp0,nx0⟩
   (repeat' (first|exact trivial|refine stR ?_|((first|refine cv (c1) ?_|refine cv (c2) ?_|refine cv (c3) ?_|refine cv (c4) ?_|refine cv (c5) ?_|refine cf (c7) ?_|refine Jb (r:=11) ?_|refine stn ?_|refine A0 (fun h=>?_) ?_|(refine gw (fun h=>?_) (fun h=>?_)<;>(try (exfalso;omega))))<;>(try (refine wS ?_)))))
   all_goals first
    | (refine rI1 rfl ?_
       exact Od (fun i hi=>(by have hix:¬ i=nx0:=(by omega);exact byQ)) (by decide) (by omega) (by omega) byQ)
    | skip
   refine⟨?_⟩
   refine G3 ?_
   refine Bh base [_,_,_] 0 _ ?_
   (refine wS ?_)
   refine Pz rfl rfl rfl (by rfl) (A21 hb hpl hj (q0:=nx0+6+9+2+4+17+1) hid ht hbk ⟨by unfold bkC;exact byQ,by exact byQ,by exact byQ,by exact byQ,by exact byQ,by exact byQ,by omega⟩) ?_
   rintro u hp1 nx1 ⟨hk,hM⟩ hle
   have kk:Hid (∀ i,i<nx0→hp1 i=hp0 i):=Lib.hid fun i hi=>(hk i (by omega) (by omega) (by omega) (by omega) (by omega)).trans (by have hix:¬ i=nx0:=(by omega);exact byQ)
   have kR:hp1 (nx0+3)=_:=(hk (nx0+3) (by omega) (by omega) (by omega) (by omega) (by omega)).trans (by exact byQ)
   clear hk
   rcases hM with⟨j2,l,q,hR,hS,hEn,hLn⟩|⟨e,he,hE,hn1⟩
   ·have hO:=hR.hO
    have hq:=hR.hq
    have hB:=hR.hB
    have hER:=hR.hE
    obtain⟨h1,h2,h3,h4,h5⟩:=hR.lt
    have hfin:Hid (∀ (h:Nat→Option A4) (n:Nat),(∀ i,i<nx0→h i=hp0 i)→q<n→h q=some ⟨52,Bo l,true⟩→Aho b id to j hp0 nx0 (.tup [.agg (bkC b (Ab j2)),.own q,gI 0]) h n):=Lib.hid fun h n a1 a2 a3=>Ag9 a1 (by omega) a2 a3 hS (hEn.trans hE2.out.symm) hLn hfa.out
    clear hR hS hEn hLn
    unfold bkC at hB hfin
    refine Cd ?_
    show awp Tryz.prog CtxP _ _ ⟨_,_,_⟩
    (repeat' (first|exact trivial|refine stR ?_|((first|refine stn ?_|refine A0 (fun h=>?_) ?_|(refine gw (fun h=>?_) (fun h=>?_)<;>(try (exfalso;omega))))<;>(try (refine wS ?_)))))
    refine (?_:awp Tryz.prog CtxP (.region 14 run14_ops true) _ _)
    refine Ayn base (by exact byQ) (by exact byQ) (by exact byQ) (by exact byQ) (by exact byQ) (by exact byQ) rfl rfl (by omega) (by omega) (by omega) (by omega) (by omega) (by omega) fun tm' e10 e11 e12=>?_
    show awp Tryz.prog CtxP _ _ ⟨_,_,_⟩
    (repeat' (first|exact trivial|refine stR ?_|((first|refine stn ?_|refine A0 (fun h=>?_) ?_|(refine gw (fun h=>?_) (fun h=>?_)<;>(try (exfalso;omega))))<;>(try (refine wS ?_)))))
    all_goals (refine rI1 rfl ?_)
    all_goals exact hfin.out _ _ (fun i hi=>Eq.trans (by have hix:¬ i=nx0+3:=(by omega);exact byQ) (kk.out i hi)) (by omega) byQ
   ·refine Cd ?_
    show awp Tryz.prog CtxP _ _ ⟨_,_,_⟩
    (repeat' (first|exact trivial|refine stR ?_|((first|refine stn ?_|refine A0 (fun h=>?_) ?_|(refine gw (fun h=>?_) (fun h=>?_)<;>(try (exfalso;omega))))<;>(try (refine wS ?_)))))
    refine (?_:awp Tryz.prog CtxP (.region 13 run13_ops true) _ _)
    refine Aym base (by exact byQ) (by exact byQ) (by exact byQ) (by exact byQ) rfl rfl (by omega) (by omega) (by omega) (by omega) fun tm' e10 e11 e12=>?_
    show awp Tryz.prog CtxP _ _ ⟨_,_,_⟩
    (repeat' (first|exact trivial|refine stR ?_|((first|refine stn ?_|refine A0 (fun h=>?_) ?_|(refine gw (fun h=>?_) (fun h=>?_)<;>(try (exfalso;omega))))<;>(try (refine wS ?_)))))
    all_goals (refine rI1 rfl ?_)
    all_goals exact Od (fun i hi=>Eq.trans (by have hix:¬ i=nx0+3:=(by omega);exact byQ) (kk.out i hi)) he (by omega) (by omega) byQ
theorem Afs(a b c d e f g h i j k a' b' c' d' e' f' g' h' i' j' k':Int):Ik Tryz.prog 60 52 [gI a,gI b,gI c,gI d,gI e,gI f,gI g,gI h,gU i,gI j,gU k] [gI a',gI b',gI c',gI d',gI e',gI f',gI g',gI h',gU i',gI j',gU k']=some (decide (a=a') && (decide (b=b') && (decide (c=c') && (decide (d=d') && (decide (e=e') && (decide (f=f') && (decide (g=g') && ((decide (h=h') && (decide (i=i') && true)) && ((decide (j=j') && (decide (k=k') && true)) && true))))))))):=by kernel_rfl
theorem per_same(a b c d e f g h i j k:Int):Hy Tryz.prog 52 [gI a,gI b,gI c,gI d,gI e,gI f,gI g,gI h,gU i,gI j,gU k] [gI a,gI b,gI c,gI d,gI e,gI f,gI g,gI h,gU i,gI j,gU k] true:=by
 have h:=Ia (d:=60) (by decide) Tryz.underlying52 (by kernel_rfl) (Afs a b c d e f g h i j k a b c d e f g h i j k)
 simpa using h
def Du(m n:Nat):List (List AV):=(List.range' m (n-m)).map fun i:Nat=>[gI (i:Int)]
theorem Qe{m n:Nat}(h:n≤m):Du m n=[]:=by unfold Du;rw[Nat.sub_eq_zero_of_le h];rfl
theorem A83{m n:Nat}(h:m≤n):Du m n++[[gI n]]=Du m (n+1):=by
 unfold Du
 rw[show n+1-m=(n-m)+1 by omega,List.range'_concat,List.map_append,show m+1*(n-m)=n by omega]
 rfl
theorem Ys(m n:Nat):(Du m n).length=n-m:=by unfold Du;simp
theorem Ale(m n:Nat):((Du m n).all (·.all p0))=true:=by simp [Du,p0]
theorem Alf(m n:Nat):(Du m n).map (·.map z0)=Du m n:=by simp [Du,z0]
theorem Af5{m n k:Nat}(h:m+k<n):(Du m n)[k]?=some [gI (m+k:Nat)]:=by
 unfold Du
 rw[List.getElem?_map,List.getElem?_range' (by omega)]
 simp
set_option maxHeartbeats 4000000 in
theorem Wu(l:List PerV)(hl:Sz l.length):Cn 10 [.sl (Bo l),.sl (Bo l)] (.val (gB true)):=by
 unfold Sz at hl
 have q1:=Cz l
 refine cvS Tryz.func10 ?_
 (repeat' (first|exact trivial|refine stR ?_|((first|refine stp ?_|refine A0 (fun h=>?_) ?_|(refine gw (fun h=>?_) (fun h=>?_)<;>(try (exfalso;omega))))<;>(try (refine wS ?_)))))
 refine A9 (fun n tm hp nx=>∃ k:Nat,n=l.length-k∧k≤l.length∧tm 0=.sl (Bo l)∧tm 1=.sl (Bo l)∧tm 5=gI k) _ ⟨0,rfl,Nat.zero_le _,byS,byS,byS⟩ ?_
 rintro n tm hp nx ⟨k,rfl,hk,g0,g1,g5⟩
 by_cases hlt:k<l.length
 ·have e:=Ed (List.getElem?_eq_getElem hlt)
  have a1:=per_same l[k].acc l[k].frm l[k].to l[k].cr l[k].db l[k].tax l[k].cnt l[k].c1 l[k].c2 l[k].d1 l[k].d2
  generalize l[k]=p at *
  (repeat' (first|exact trivial|refine stR ?_|((first|refine Ow (a1) ?_|refine stp ?_|refine A0 (fun h=>?_) ?_|(refine gw (fun h=>?_) (fun h=>?_)<;>(try (exfalso;omega))))<;>(try (refine wS ?_)))))
  all_goals exact A3 (l.length-(k+1)) (by omega) ⟨k+1,rfl,by omega,byS,byS,by first|exact byQ|exact byN⟩
 ·(repeat' (first|exact trivial|refine stR ?_|((first|refine stp ?_|refine A0 (fun h=>?_) ?_|(refine gw (fun h=>?_) (fun h=>?_)<;>(try (exfalso;omega))))<;>(try (refine wS ?_)))))
  all_goals simp only[sxd,z0,p0,Nat.reduceEqDiff,↓reduceIte,Tryz.f10, *]
set_option maxHeartbeats 4000000 in
theorem Tq(l:List PerV)(hl:l.length≤100000)(id v:Int)(ha:∀ p∈l,p.acc=id)(m:Nat)(hm:m≤l.length)(h1:∀ k p,l[k]?=some p→k<m→p.to<v)(h2:∀ k p,l[k]?=some p→m≤k→v≤p.to) :
  Cn 34 [.sl (Bo l),gI id,gI v] (.val (.sl (Du m l.length))):=by
 have q1:=Cz l
 have e0:Du m 0=[]:=Qe (Nat.zero_le _)
 refine cvS Tryz.func34 ?_
 (repeat' (first|exact trivial|refine stR ?_|((first|refine stp ?_|refine A0 (fun h=>?_) ?_|(refine gw (fun h=>?_) (fun h=>?_)<;>(try (exfalso;omega))))<;>(try (refine wS ?_)))))
 refine A9 (fun n tm hp nx=>∃ k q:Nat,n=l.length-k∧k≤l.length∧tm 1=gI id∧tm 2=gI v∧tm 10=.sl (Bo l)∧tm 11=gI l.length∧tm 12=gI k∧tm 7=.own q∧hp q=some ⟨3,Du m k,true⟩∧q<nx) _ ⟨0,_,rfl,Nat.zero_le _,byS,byS,byS,byS,byS,byQ,byQ,by omega⟩ ?_
 rintro n tm hp nx ⟨k,q,rfl,hk,g1,g2,g10,g11,g12,g7,hq,hqn⟩
 have f1:=Ys m k
 have f2:=Ale m k
 have f3:=Alf m k
 by_cases hlt:k<l.length
 ·have e:=Ed (List.getElem?_eq_getElem hlt)
  have hac:=ha l[k] (List.getElem_mem hlt)
  have h1:=h1 k l[k] (List.getElem?_eq_getElem hlt)
  have h2:=h2 k l[k] (List.getElem?_eq_getElem hlt)
  generalize l[k]=p at *
  by_cases hmk:m≤k
  ·have h3:=h2 hmk
   have qs:=A83 hmk
   clear h1 h2 ha
   (repeat' (first|exact trivial|refine stR ?_|((first|refine stp ?_|refine A0 (fun h=>?_) ?_|(refine gw (fun h=>?_) (fun h=>?_)<;>(try (exfalso;omega))))<;>(try (refine wS ?_)))))
   all_goals exact A3 (l.length-(k+1)) (by omega) ⟨k+1,_,rfl,by omega,byS,byS,byS,byS,by first|exact byQ|exact byN,byQ,by first|exact byQ|exact byO,by omega⟩
  ·have h3:=h1 (by omega)
   have e1:Du m (k+1)=[]:=Qe (by omega)
   have e2:Du m k=[]:=Qe (by omega)
   rw[e2] at hq f1 f2 f3
   clear h1 h2 ha
   (repeat' (first|exact trivial|refine stR ?_|((first|refine stp ?_|refine A0 (fun h=>?_) ?_|(refine gw (fun h=>?_) (fun h=>?_)<;>(try (exfalso;omega))))<;>(try (refine wS ?_)))))
   all_goals exact A3 (l.length-(k+1)) (by omega) ⟨k+1,q,rfl,by omega,byS,byS,byS,byS,by first|exact byQ|exact byN,byQ,by rw[e1];first|exact byQ|exact byO,by omega⟩
 ·have hkk:k=l.length:=by omega
  subst hkk
  (repeat' (first|exact trivial|refine stR ?_|((first|refine stp ?_|refine A0 (fun h=>?_) ?_|(refine gw (fun h=>?_) (fun h=>?_)<;>(try (exfalso;omega))))<;>(try (refine wS ?_)))))
  all_goals simp only[sxd,z0,p0,Nat.reduceEqDiff,↓reduceIte,Tryz.f34, *]
theorem A7o(l:List PerV)(k:Nat)(h:k≤l.length):(l.take k).getLast?=C3 l k:=by
 cases k with
 | zero=>rfl
 | succ k =>
  rw[List.getLast?_eq_getElem?,List.length_take,Nat.min_eq_left h]
  show (l.take (k+1))[k]?=l[k]?
  rw[List.getElem?_take_of_lt (by omega)]
theorem A8g(l:List PerV)(k:Nat):(Bo l).take k=Bo (l.take k):=by simp [Bo]
namespace D
set_option maxHeartbeats 4000000 in
theorem L0{b:BkV}(hb:b.Ok)(j:List EntV)(hj:JOk j)(l:List PerV)(hl:Sz l.length)(id:Int)(ha:∀ p∈l,p.acc=id)(hp:∀ p∈l,p.Ok)(k:Nat)(p:PerV)(hk:l[k]?=some p) :
  Cn 35 [.agg (bkC b (Ab j)),.sl (Bo l),gI k] (.val (.tup [.agg (Cc (Bu b (Bp j id) (C3 l k) id p.to).1),gI (Bu b (Bp j id) (C3 l k) id p.to).2])):=by
 have hlt:k<l.length:=(List.getElem?_eq_some_iff.1 hk).1
 have hac:=ha p (List.mem_of_getElem? hk)
 have c1:=Ot hb j hj (l.take k) (by unfold Sz at *;rw[List.length_take];omega) id p.to (fun q hq=>ha q (List.mem_of_mem_take hq)) (fun q hq=>hp q (List.mem_of_mem_take hq))
 rw[A7o l k (by omega),← A8g] at c1
 have e:=Ed hk
 rw[hac] at e
 unfold Sz at hl
 have q1:=Cz l
 have fw:=Z3 l
 have i1:0≤k∧k≤k∧k≤l.length:=by omega
 generalize Bu b (Bp j id) (C3 l k) id p.to=x at *
 clear ha hp hk hj hb
 generalize p.to=pt at *
 obtain⟨⟨x1,x2,x3,x4,x5,x6,x7,x8,x9,x10,x11⟩,y⟩:=x
 suffices key:∃ x:PerV×Int,x=(⟨x1,x2,x3,x4,x5,x6,x7,x8,x9,x10,x11⟩,y)∧Cn 35 [.agg (bkC b (Ab j)),.sl (Bo l),gI k] (.val (.tup [.agg (Cc x.1),gI x.2])) by
  obtain⟨x,rfl,h⟩:=key
  exact h
 unfold bkC Cc at *
 dsimp only at *
 generalize Bo l=L at *
 refine caS (fun x:PerV×Int=>.tup [.agg (Cc x.1),gI x.2]) Tryz.func35 ?_
 (repeat' (first|exact trivial|refine stR ?_|((first|refine cv (c1) ?_|refine stp ?_|refine A0 (fun h=>?_) ?_|(refine gw (fun h=>?_) (fun h=>?_)<;>(try (exfalso;omega))))<;>(try (refine wS ?_)))))
 all_goals (refine rc3 rfl ?_)
 all_goals exact⟨(⟨_,_,_,_,_,_,_,_,_,_,_⟩,_),rfl,rfl⟩
end D
set_option maxHeartbeats 4000000 in
theorem Ack{b:BkV}(hb:b.Ok)(j:List EntV)(hj:JOk j)(l:List PerV)(hl:Sz l.length)(id:Int)(ha:∀ p∈l,p.acc=id)(hp:∀ p∈l,p.Ok)(k:Nat)(p:PerV)(hk:l[k]?=some p)
  (h0:(Bu b (Bp j id) (C3 l k) id p.to).2=0) (hs:bare (Bu b (Bp j id) (C3 l k) id p.to).1=bare p):Cn 39 [.agg (bkC b (Ab j)),.sl (Bo l),gI k] (.val (gB true)):=by
 have hlt:k<l.length:=(List.getElem?_eq_some_iff.1 hk).1
 have c1:=D.L0 hb j hj l hl id ha hp k p hk
 have e:=Ed hk
 have q1:=Cz l
 rw[h0] at c1
 generalize (Bu b (Bp j id) (C3 l k) id p.to).1=x at *
 clear hk
 obtain⟨x1,x2,x3,x4,x5,x6,x7,x8,x9,x10,x11⟩:=x
 obtain⟨p1,p2,p3,p4,p5,p6,p7,p8,p9,p10,p11⟩:=p
 simp only[bare,PerV.mk.injEq,true_and] at hs
 obtain⟨rfl,rfl,rfl,rfl,rfl,rfl,rfl,rfl,rfl,rfl⟩:=hs
 have a1:=per_same x1 x2 x3 x4 x5 x6 p7 x8 x9 x10 x11
 unfold Sz at hl
 clear ha hp hj hb h0
 dsimp only at *
 unfold bkC Cc at *
 dsimp only at *
 generalize Bo l=L at *
 refine cvS Tryz.func39 ?_
 (repeat' (first|exact trivial|refine stR ?_|((first|refine cv (c1) ?_|refine Ow (a1) ?_|refine stp ?_|refine A0 (fun h=>?_) ?_|(refine gw (fun h=>?_) (fun h=>?_)<;>(try (exfalso;omega))))<;>(try (refine wS ?_)))))
 all_goals simp only[sxd,z0,p0,Nat.reduceEqDiff,↓reduceIte,Tryz.f39, *]
set_option maxHeartbeats 4000000 in
theorem A5f{b:BkV}(hb:b.Ok)(j:List EntV)(hj:JOk j)(l:List PerV)(hl:Sz l.length)(id:Int)(ha:∀ p∈l,p.acc=id)(hp:∀ p∈l,p.Ok){a:AccV}(hfa:C2 id b.accs=some a)
  (hs:∀ k p,l[k]?=some p→(Bu b (Bp j id) (C3 l k) id p.to).2=0∧bare (Bu b (Bp j id) (C3 l k) id p.to).1=bare p):Cn 12 [.agg (bkC b (Ab j)),.sl (Bo l),gI id] (.val (gB true)):=by
 have c1:=D.Ep b (Ab j) hb.n5 id
 have c2:=Lib.hid fun (k:Nat) (hk:k<l.length)=>Ack hb j hj l hl id ha hp k l[k] (List.getElem?_eq_getElem hk) (hs k _ (List.getElem?_eq_getElem hk)).1 (hs k _ (List.getElem?_eq_getElem hk)).2
 unfold Sz at hl
 have q1:=Cz l
 rw[hfa] at c1
 unfold Kc D6 at c1
 simp only[Option.getD_some,Option.isSome_some] at c1
 clear hs hfa hp hj hb
 unfold bkC at *
 refine cvS Tryz.func12 ?_
 (repeat' (first|exact trivial|refine stR ?_|((first|refine cv (c1) ?_|refine stp ?_|refine A0 (fun h=>?_) ?_|(refine gw (fun h=>?_) (fun h=>?_)<;>(try (exfalso;omega))))<;>(try (refine wS ?_)))))
 refine A9 (fun n tm hp nx=>∃ k:Nat,n=l.length-k∧k≤l.length∧tm 1=.sl (Bo l)∧tm 2=gI id∧tm 3=.pt 0 0 0∧hp 0=some ⟨33,[bkC b (Ab j)],true⟩∧tm 19=.sl (Bo l)∧tm 20=gI l.length∧tm 21=gI k∧0<nx) _ ⟨0,rfl,Nat.zero_le _,byS,byS,byS,by unfold bkC;exact byQ,byS,byS,byS,by omega⟩ ?_
 clear c1
 rintro n tm hp nx ⟨k,rfl,hk,g1,g2,g3,h0,g19,g20,g21,hn⟩
 unfold bkC at h0
 by_cases hlt:k<l.length
 ·have e:=Ed (List.getElem?_eq_getElem hlt)
  have hac:=ha l[k] (List.getElem_mem hlt)
  have c3:=c2.out k hlt
  generalize l[k]=p at *
  clear c2 ha
  unfold bkC at c3
  (repeat' (first|exact trivial|refine stR ?_|((first|refine cv (c3) ?_|refine stp ?_|refine A0 (fun h=>?_) ?_|(refine gw (fun h=>?_) (fun h=>?_)<;>(try (exfalso;omega))))<;>(try (refine wS ?_)))))
  all_goals exact A3 (l.length-(k+1)) (by omega) ⟨k+1,rfl,by omega,byS,byS,byS,by unfold bkC;exact byQ,byS,byS,by first|exact byQ|exact byN,by omega⟩
 ·(repeat' (first|exact trivial|refine stR ?_|((first|refine stp ?_|refine A0 (fun h=>?_) ?_|(refine gw (fun h=>?_) (fun h=>?_)<;>(try (exfalso;omega))))<;>(try (refine wS ?_)))))
  all_goals simp only[sxd,z0,p0,Nat.reduceEqDiff,↓reduceIte,Tryz.f12, *]
end Go.Proofs.YtbhffbgbhgjdiaaGreatDoor
