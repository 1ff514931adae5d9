/-
  Parts of the proof: S26 S27 S28 S29 S30. Conditions: those that each theorem states.
-/
import Derived.Test.YtbhffbgbhgjdiaaGreatDoorM17
import Derived.Test.YtbhffbgbhgjdiaaGreatDoorM11
import Derived.Test.YtbhffbgbhgjdiaaGreatDoorM14
set_option linter.unusedSimpArgs false
set_option linter.unusedVariables false
namespace Go.Proofs.YtbhffbgbhgjdiaaGreatDoor
open Go.RowKit
set_option maxRecDepth 100000
def Bp(j:List EntV)(id d:Int):Int:=wrap64 (-(B6 73048 d id j))
structure Dk where
 id:Int
 day:Int
 bal:Int
 e1:Int
 e2:Int
 o1:Int
 o2:Int
def Ui(x:Dk):List AV:=[gI x.id,gI x.day,gI x.bal,gI x.e1,gU x.e2,gI x.o1,gU x.o2]
noncomputable def Pn(b:BkV)(bal:Int)(id d:Int):Dk :=
 if A5x (C2 id b.accs) d then
  if (B5 b id d).2 then
   if 0<bal then ⟨id,d,bal,(grF (B5 b id d).1 bal d).1,(grF (B5 b id d).1 bal d).2,0,0⟩
   else if bal<0 then ⟨id,d,bal,0,0,(grF (B5 b id d).1 bal d).1,(grF (B5 b id d).1 bal d).2⟩
   else ⟨id,d,bal,0,0,0,0⟩
  else ⟨id,d,bal,0,0,0,0⟩
 else ⟨id,d,0,0,0,0,0⟩
namespace D
theorem A14{b:BkV}(hb:b.Ok)(j:List EntV)(hj:Sz j.length)(hl:∀ e∈j,Sz e.legs.length)(id d:Int):Cn 208 [gI d,.rp [gI id] 0,.rp (bkC b (Ab j)) 0] (.val (.agg (Ui (Pn b (Bp j id d) id d)))):=by
 have c1:=Of b (Ab j) hb.n5 id d
 have c2:=A9m j hj hl id 73048 d
 have c3:=G0 hb (Ab j) id d
 have hbal:I64 (Bp j id d):=Im _
 have c4:=(Y7 (Jf hb id d) hbal d).2
 have key:∃ x:Dk,x=Pn b (Bp j id d) id d∧Cn 208 [gI d,.rp [gI id] 0,.rp (bkC b (Ab j)) 0] (.val (.agg (Ui x))):=by
  unfold Pn
  replace c2:Cn 209 [.sl (Ab j),gI id,gI 73048,gI d] (.val (gI (Bp j id d))):=c2
  clear hbal
  generalize Bp j id d=bal at *
  generalize grF (B5 b id d).1 bal d=gr at *
  generalize B5 b id d=pr at *
  generalize A5x (C2 id b.accs) d=ac at *
  obtain⟨p,o⟩:=pr
  obtain⟨r1,r2⟩:=gr
  unfold gP Bw at *
  unfold bkC at *
  dsimp only at *
  clear hb hj hl
  refine caS (fun x:Dk=>.agg (Ui x)) Tryz.func208 ?_
  (repeat' (first|exact trivial|refine stR ?_|((first|refine cv (c1) ?_|refine cv (c2) ?_|refine cv (c3) ?_|refine cv (c4) ?_|refine stp ?_|refine A0 (fun h=>?_) ?_|(refine gw (fun h=>?_) (fun h=>?_)<;>(try (exfalso;omega))))<;>(try (refine wS ?_)))))
  all_goals (refine rc1 rfl ?_)
  all_goals refine⟨⟨_,_,_,_,_,_,_⟩,rfl, ?_⟩
  all_goals (clear c1 c2 c3 c4;(repeat' split)<;>first|rfl|(exfalso;omega)|(exfalso;simp_all;done))
 obtain⟨x,rfl,h⟩:=key
 exact h
end D
def C0(l:List Dk):List (List AV):=l.map Ui
theorem S8(l:List Dk):(C0 l).length=l.length:=by simp [C0]
theorem Abw(l:List Dk):((C0 l).all (·.all p0))=true:=by simp [C0,Ui,p0]
theorem Abx(l:List Dk):(C0 l).map (·.map z0)=C0 l:=by simp [C0,Ui,z0]
noncomputable def Po(b:BkV)(B:Int→Int)(id frm:Int)(n:Nat):List Dk:=(List.range n).map fun i:Nat=>Pn b (B (frm+i)) id (frm+i)
theorem Abv(b:BkV)(B:Int→Int)(id frm:Int)(n:Nat):(Po b B id frm n).length=n:=by simp [Po]
theorem A6q(b:BkV)(B:Int→Int)(id frm:Int)(n:Nat):Po b B id frm (n+1)=Po b B id frm n++[Pn b (B (frm+n)) id (frm+n)]:=by simp [Po,List.range_succ]
noncomputable def Gs(b:BkV)(B:Int→Int)(id frm to:Int):List Dk×Int :=
 if (C2 id b.accs).isNone then ([],11)
 else if C6 frm=false∨C6 to=false∨to<frm∨4000≤to-frm then ([],1)
 else (Po b B id frm (to-frm+1).toNat,0)
namespace D
theorem A6p(b:BkV)(j:List (List AV))(id:Int):Cn 162 [.agg (bkC b j),gI id] (.val (.fn 208 [.rp [gI id] 0,.rp (bkC b j) 0])):=by
 have key:∃ x:AV,x=.fn 208 [.rp [gI id] 0,.rp (bkC b j) 0]∧Cn 162 [.agg (bkC b j),gI id] (.val ((fun x=>x) x)):=by
  unfold bkC
  refine caS (fun x=>x) Tryz.func162 ?_
  (repeat' (first|exact trivial|refine stR ?_|((first|refine stp ?_|refine A0 (fun h=>?_) ?_|(refine gw (fun h=>?_) (fun h=>?_)<;>(try (exfalso;omega))))<;>(try (refine wS ?_)))))
  all_goals (simp only[sxd,z0,p0,Nat.reduceEqDiff,↓reduceIte,Tryz.f162, *])
  all_goals exact⟨_,rfl,rfl⟩
 obtain⟨x,rfl,h⟩:=key
 exact h
theorem A0i{b:BkV}(hb:b.Ok)(j:List EntV)(hj:Sz j.length)(hl:∀ e∈j,Sz e.legs.length)(id frm to:Int):Cn 109 [.agg (bkC b (Ab j)),gI id,gI frm,gI to] (.val (.tup [.sl (C0 (Gs b (Bp j id) id frm to).1),gI (Gs b (Bp j id) id frm to).2])):=by
 have c1:=Ep b (Ab j) hb.n5 id
 have c2:=Aw frm
 have c3:=Aw to
 have c4:=A6p b (Ab j) id
 have c5:=fun d=>A14 hb j hj hl id d
 have key:∃ x:List Dk×Int,x=Gs b (Bp j id) id frm to∧Cn 109 [.agg (bkC b (Ab j)),gI id,gI frm,gI to] (.val (.tup [.sl (C0 x.1),gI x.2])):=by
  have hgood:(C2 id b.accs).isNone=false→C6 frm=true→C6 to=true→frm≤to→to-frm<4000→Gs b (Bp j id) id frm to=(Po b (Bp j id) id frm (to-frm+1).toNat,0):=by
   intro h1 h2 h3 h4 h5
   unfold Gs
   rw[if_neg (by rw[h1];decide),if_neg (by rw[h2,h3];simp;omega)]
  have hbad:(C2 id b.accs).isNone=false→(C6 frm=false∨C6 to=false∨to<frm∨4000≤to-frm)→Gs b (Bp j id) id frm to=([],1):=by
   intro h1 h2
   unfold Gs
   rw[if_neg (by rw[h1];decide),if_pos h2]
  have hnone:(C2 id b.accs).isNone=true→Gs b (Bp j id) id frm to=([],11):=by
   intro h1
   unfold Gs
   rw[if_pos h1]
  have e0:C0 []=[]:=rfl
  unfold Kc at c1
  cases ho:C2 id b.accs with
  | none =>
   rw[ho] at c1 hnone
   have hR:=hnone rfl
   rw[hR]
   unfold D6 Tz at c1
   simp only[Option.getD_none,Option.isSome_none] at c1
   clear hgood hbad hnone c2 c3 c4 c5 ho
   unfold bkC at *
   refine caS (fun x:List Dk×Int=>.tup [.sl (C0 x.1),gI x.2]) Tryz.func109 ?_
   (repeat' (first|exact trivial|refine stR ?_|((first|refine cv (c1) ?_|refine stp ?_|refine A0 (fun h=>?_) ?_|(refine gw (fun h=>?_) (fun h=>?_)<;>(try (exfalso;omega))))<;>(try (refine wS ?_)))))
   all_goals (simp only[sxd,z0,p0,Nat.reduceEqDiff,↓reduceIte,Tryz.f109, *];exact⟨([],11),rfl,rfl⟩)
  | some a =>
   rw[ho] at c1 hgood hbad
   replace hgood:=hgood rfl
   replace hbad:=hbad rfl
   clear hnone
   unfold D6 at c1
   simp only[Option.getD_some,Option.isSome_some] at c1
   clear ho
   by_cases hv:C6 frm=true∧C6 to=true∧frm≤to∧to-frm<4000
   ·obtain⟨v1,v2,v3,v4⟩:=hv
    have hR:=Lib.hid (hgood v1 v2 v3 v4)
    rw[v1] at c2
    rw[v2] at c3
    rw[Gz] at v1 v2
    obtain⟨v5,v6⟩:=v1
    obtain⟨v7,v8⟩:=v2
    clear hgood hbad
    have c6:∀ d,∃ x:Dk,x=Pn b (Bp j id d) id d∧Cn 208 [gI d,.rp [gI id] 0,.rp (bkC b (Ab j)) 0] (.val (.agg (Ui x))):=fun d=>⟨_,rfl,c5 d⟩
    clear c5
    have eN:∃ N:Nat,N=(to-frm+1).toNat:=⟨_,rfl⟩
    obtain⟨N,hN⟩:=eN
    have hN1:(N:Int)=to-frm+1:=by omega
    have hL:=Lib.hid (A6q b (Bp j id) id frm)
    have hL0:Po b (Bp j id) id frm 0=[]:=rfl
    rw[← hN] at hR
    clear hN
    generalize Po b (Bp j id) id frm=DL at *
    replace c6:=Lib.hid (fun d=>c6 d)
    unfold bkC at c1 c4
    refine caS (fun x:List Dk×Int=>.tup [.sl (C0 x.1),gI x.2]) Tryz.func109 ?_
    unfold bkC
    (repeat' (first|exact trivial|refine stR ?_|((first|refine cv (c1) ?_|refine cv (c2) ?_|refine cv (c3) ?_|refine cv (c4) ?_|refine stp ?_|refine A0 (fun h=>?_) ?_|(refine gw (fun h=>?_) (fun h=>?_)<;>(try (exfalso;omega))))<;>(try (refine wS ?_)))))
    refine A9 (fun n' tm hp nx=>∃ (k q:Nat) (acc:List Dk),n'=N-k∧k≤N∧Hid (acc=DL k)∧acc.length=k∧tm 3=gI to∧tm 12=.fn 208 [.rp [gI id] 0,.rp (bkC b (Ab j)) 0]∧tm 14=gI (frm+k)∧tm 13=.own q∧hp q=some ⟨234,C0 acc,true⟩∧q<nx) N ⟨0,_,[],rfl,Nat.zero_le _,Lib.hid hL0.symm,rfl,byS,byS,by exact byN,byQ,byQ,by omega⟩ ?_
    clear c1 c2 c3 c4
    rintro n' tm hp nx ⟨k,q,acc,rfl,hk,hacc,hlen,g3,g12,g14,g13,hq,hqn⟩
    have qa:=S8 acc
    have f1:=Abw acc
    have f2:=Abx acc
    by_cases hlt:k<N
    ·obtain⟨x,hx,cx⟩:=c6.out (frm+k)
     have hnext:Hid (acc++[x]=DL (k+1)):=Lib.hid (by rw[hL.out k,← hacc.out,← hx])
     have qs:C0 acc++[[gI x.id,gI x.day,gI x.bal,gI x.e1,gU x.e2,gI x.o1,gU x.o2]]=C0 (acc++[x]):=by simp [C0,Ui]
     unfold Ui at cx
     clear hx hL hacc hR
     (repeat' (first|exact trivial|refine stR ?_|((first|refine cv (cx) ?_|refine stp ?_|refine A0 (fun h=>?_) ?_|(refine gw (fun h=>?_) (fun h=>?_)<;>(try (exfalso;omega))))<;>(try (refine wS ?_)))))
     all_goals exact A3 (N-(k+1)) (by omega) ⟨k+1,_,acc++[x],rfl,by omega,hnext,by rw[List.length_append,hlen];rfl,byS,byS,by exact byN,byQ,by first|exact byQ|exact byO,by omega⟩
    ·have hkN:k=N:=by omega
     subst hkN
     have hfin:Gs b (Bp j id) id frm to=(acc,0):=by rw[hR.out,hacc.out]
     rw[hfin]
     clear hfin hR hacc hL
     (repeat' (first|exact trivial|refine stR ?_|((first|refine stp ?_|refine A0 (fun h=>?_) ?_|(refine gw (fun h=>?_) (fun h=>?_)<;>(try (exfalso;omega))))<;>(try (refine wS ?_)))))
     all_goals (simp only[sxd,z0,p0,Nat.reduceEqDiff,↓reduceIte,Tryz.f109, *];exact⟨(acc,0),rfl,rfl⟩)
   ·have hR := hbad (by
     cases h1:C6 frm<;>cases h2:C6 to<;>simp_all<;>omega)
    rw[hR]
    clear hR
    clear hgood hbad c4 c5
    have e0:C0 []=[]:=rfl
    have hv2:(C6 frm=true∧C6 to=true→to<frm∨4000≤to-frm):=by
     rintro⟨h1,h2⟩
     apply Classical.byContradiction
     intro hn
     exact hv ⟨h1,h2,by omega,by omega⟩
    clear hv
    have r1:=fun h:C6 frm=true=>Gz.1 h
    have r2:=fun h:C6 to=true=>Gz.1 h
    generalize C6 frm=v1 at *
    generalize C6 to=v2 at *
    unfold bkC at *
    cases v1 with
    | false =>
     clear hv2 r1 r2 c3
     refine caS (fun x:List Dk×Int=>.tup [.sl (C0 x.1),gI x.2]) Tryz.func109 ?_
     (repeat' (first|exact trivial|refine stR ?_|((first|refine cv (c1) ?_|refine cv (c2) ?_|refine stp ?_|refine A0 (fun h=>?_) ?_|(refine gw (fun h=>?_) (fun h=>?_)<;>(try (exfalso;omega))))<;>(try (refine wS ?_)))))
     all_goals (simp only[sxd,z0,p0,Nat.reduceEqDiff,↓reduceIte,Tryz.f109, *];exact⟨([],1),rfl,rfl⟩)
    | true =>
     cases v2 with
     | false =>
      clear hv2 r1 r2
      refine caS (fun x:List Dk×Int=>.tup [.sl (C0 x.1),gI x.2]) Tryz.func109 ?_
      (repeat' (first|exact trivial|refine stR ?_|((first|refine cv (c1) ?_|refine cv (c2) ?_|refine cv (c3) ?_|refine stp ?_|refine A0 (fun h=>?_) ?_|(refine gw (fun h=>?_) (fun h=>?_)<;>(try (exfalso;omega))))<;>(try (refine wS ?_)))))
      all_goals (simp only[sxd,z0,p0,Nat.reduceEqDiff,↓reduceIte,Tryz.f109, *];exact⟨([],1),rfl,rfl⟩)
     | true =>
      obtain⟨a1,a2⟩:=r1 rfl
      obtain⟨a3,a4⟩:=r2 rfl
      have hv3:=hv2 ⟨rfl,rfl⟩
      clear hv2 r1 r2
      by_cases h5:to<frm
      ·refine caS (fun x:List Dk×Int=>.tup [.sl (C0 x.1),gI x.2]) Tryz.func109 ?_
       (repeat' (first|exact trivial|refine stR ?_|((first|refine cv (c1) ?_|refine cv (c2) ?_|refine cv (c3) ?_|refine stp ?_|refine A0 (fun h=>?_) ?_|(refine gw (fun h=>?_) (fun h=>?_)<;>(try (exfalso;omega))))<;>(try (refine wS ?_)))))
       all_goals (simp only[sxd,z0,p0,Nat.reduceEqDiff,↓reduceIte,Tryz.f109, *];exact⟨([],1),rfl,rfl⟩)
      ·have h6:4000≤to-frm:=by omega
       refine caS (fun x:List Dk×Int=>.tup [.sl (C0 x.1),gI x.2]) Tryz.func109 ?_
       (repeat' (first|exact trivial|refine stR ?_|((first|refine cv (c1) ?_|refine cv (c2) ?_|refine cv (c3) ?_|refine stp ?_|refine A0 (fun h=>?_) ?_|(refine gw (fun h=>?_) (fun h=>?_)<;>(try (exfalso;omega))))<;>(try (refine wS ?_)))))
       all_goals (simp only[sxd,z0,p0,Nat.reduceEqDiff,↓reduceIte,Tryz.f109, *];exact⟨([],1),rfl,rfl⟩)
 obtain⟨x,rfl,h⟩:=key
 exact h
end D
structure PerV where
 acc:Int
 frm:Int
 to:Int
 cr:Int
 db:Int
 tax:Int
 cnt:Int
 c1:Int
 c2:Int
 d1:Int
 d2:Int
def Cc(p:PerV):List AV:=[gI p.acc,gI p.frm,gI p.to,gI p.cr,gI p.db,gI p.tax,gI p.cnt,gI p.c1,gU p.c2,gI p.d1,gU p.d2]
def Bo(l:List PerV):List (List AV):=l.map Cc
def perZ:PerV:=⟨0,0,0,0,0,0,0,0,0,0,0⟩
structure PerV.Ok(p:PerV):Prop where
 t:0≤p.to∧p.to≤73048
 r1:OkW (p.c1,p.c2)
 r2:OkW (p.d1,p.d2)
 i:I64 p.cnt
theorem Cz(l:List PerV):(Bo l).length=l.length:=by simp [Bo]
theorem Ed{l:List PerV}{k:Nat}{p:PerV}(h:l[k]?=some p):(Bo l)[k]?=some [gI p.acc,gI p.frm,gI p.to,gI p.cr,gI p.db,gI p.tax,gI p.cnt,gI p.c1,gU p.c2,gI p.d1,gU p.d2]:=by rw[Bo,List.getElem?_map,h];rfl
theorem Hq(l:List PerV):((Bo l).all (·.all p0))=true:=by simp [Bo,Cc,p0]
theorem Hr(l:List PerV):(Bo l).map (·.map z0)=Bo l:=by simp [Bo,Cc,z0]
theorem Z3(l:List PerV):∀ n∈Bo l,n.length=11:=by
 intro n hn
 obtain⟨x,_,rfl⟩:=List.mem_map.1 hn
 rfl
theorem A6r{l:List Dk}{k:Nat}{x:Dk}(h:l[k]?=some x):(C0 l)[k]?=some [gI x.id,gI x.day,gI x.bal,gI x.e1,gU x.e2,gI x.o1,gU x.o2]:=by rw[C0,List.getElem?_map,h];rfl
theorem rc6{P:Program}{σ:AS}{kk:AV→Prop}{rs:Array ResultVar}{x ty y ty2 t b j b2 j2:Nat}{β γ:A4}{e e2:List AV}{v:AV}{us:List AV}{ids:List Nat}(hrs:rs=#[.cell x ty,.cell y ty2,.tmp t])(hk:kk (.tup us))(h1:σ.tm x=.pt b j 0:=by exact byQ)(h2:σ.hp b=some β:=by exact byQ)(h3:β.es[j]?=some e:=by exact byS)
  (g1:σ.tm y=.pt b2 j2 0:=by exact byQ) (g2:σ.hp b2=some γ:=by exact byQ) (g3:γ.es[j2]?=some e2:=by exact byS)
  (hag:(aty P ty).isAgg=true:=by simp only[ATy.isAgg,tyb]) (hsz:(aty P ty).sz=e.length:=by simp only[tyb];rfl) (h0:0<e.length:=by exact Nat.zero_lt_succ _) (hag2:(aty P ty2).isAgg=true:=by simp only[ATy.isAgg,tyb]) (hsz2:(aty P ty2).sz=e2.length:=by simp only[tyb];rfl) (h02:0<e2.length:=by exact Nat.zero_lt_succ _)
  (hv:σ.tm t=v:=by exact byQ) (h5:cls σ.hp [.agg e,.agg e2,v]=some (us,ids):=by first|(simp only[sxd,z0,p0,Nat.reduceEqDiff,↓reduceIte];rfl)|(simp only[sxd,z0,p0,Nat.reduceEqDiff,↓reduceIte, *];rfl)):Dy P rs σ kk:=by
 subst hrs
 rw[U1]
 simp only[B1,h1]
 refine⟨β,e,h2,h3, ?_⟩
 unfold Ar
 rw[if_pos hag,hsz,List.drop_zero,List.take_length]
 refine⟨⟨h0,by omega⟩, ?_⟩
 simp only[g1]
 refine⟨γ,e2,g2,g3, ?_⟩
 rw[if_pos hag2,hsz2,List.drop_zero,List.take_length]
 refine⟨⟨h02,by omega⟩, ?_⟩
 show opt (cls σ.hp [.agg e,.agg e2,σ.tm t]) _
 rw[hv,h5]
 exact hk
def D4(prev:Option PerV)(a:AccV):Int:=match prev with
 | some p=>p.to+1
 | none=>a.opened
def Q1(o:Option PerV):AV:=.tup [.agg (Cc (o.getD perZ)),gB o.isSome]
theorem Wn(l:List PerV)(hl:Sz l.length)(id:Int)(ha:∀ p∈l,p.acc=id):Cn 52 [.sl (Bo l),gI id] (.val (Q1 l.getLast?)):=by
 unfold Sz at hl
 have q1:=Cz l
 rcases List.eq_nil_or_concat l with rfl|⟨k,p,rfl⟩
 ·have e0:Bo []=[]:=rfl
  have e1:Q1 ([]:List PerV).getLast?=.tup [.agg (Cc perZ),gB false]:=rfl
  rw[e1]
  unfold Cc perZ
  refine cvS Tryz.func52 ?_
  (repeat' (first|exact trivial|refine stR ?_|((first|refine stp ?_|refine A0 (fun h=>?_) ?_|(refine gw (fun h=>?_) (fun h=>?_)<;>(try (exfalso;omega))))<;>(try (refine wS ?_)))))
  refine A9 (fun n tm hp nx=>tm 4=.pt 0 0 0∧hp 0=some ⟨52,[[gI 0,gI 0,gI 0,gI 0,gI 0,gI 0,gI 0,gI 0,gU 0,gI 0,gU 0]],true⟩∧tm 6=.ex (.int .i64 (-1))∧0<nx) 0 ⟨byS,byQ,byS,by omega⟩ ?_
  rintro n tm hp nx ⟨g4,h0,g6,hn⟩
  (repeat' (first|exact trivial|refine stR ?_|((first|refine stp ?_|refine A0 (fun h=>?_) ?_|(refine gw (fun h=>?_) (fun h=>?_)<;>(try (exfalso;omega))))<;>(try (refine wS ?_)))))
  all_goals (refine rc3 rfl ?_)
  all_goals rfl
 ·have hp:=ha p (by simp)
  have e1:Q1 (k++[p]).getLast?=.tup [.agg (Cc p),gB true]:=by simp [Q1]
  rw[List.concat_eq_append] at *
  rw[e1]
  unfold Cc
  have e2:=Ed (l:=k++[p]) (k:=k.length) (p:=p) (by simp)
  generalize hL:Bo (k++[p])=L at *
  rw[List.length_append,List.length_singleton] at *
  have e3:((k.length:Int)).toNat=k.length:=by omega
  clear ha e1
  refine cvS Tryz.func52 ?_
  (repeat' (first|exact trivial|refine stR ?_|((first|refine stp ?_|refine A0 (fun h=>?_) ?_|(refine gw (fun h=>?_) (fun h=>?_)<;>(try (exfalso;omega))))<;>(try (refine wS ?_)))))
  refine A9 (fun n tm hp nx=>tm 0=.sl L∧tm 1=gI id∧tm 4=.pt 0 0 0∧hp 0=some ⟨52,[[gI 0,gI 0,gI 0,gI 0,gI 0,gI 0,gI 0,gI 0,gU 0,gI 0,gU 0]],true⟩∧tm 6=gI k.length∧0<nx) 0 ⟨byS,byS,byS,byQ,by exact byN,by omega⟩ ?_
  rintro n tm hp nx ⟨g0,g1,g4,h0,g6,hn⟩
  (repeat' (first|exact trivial|refine stR ?_|((first|refine stp ?_|refine A0 (fun h=>?_) ?_|(refine gw (fun h=>?_) (fun h=>?_)<;>(try (exfalso;omega))))<;>(try (refine wS ?_)))))
  all_goals (refine rc3 rfl ?_)
  all_goals rfl
theorem Sj(l:List PerV)(hl:Sz l.length)(a:AccV)(ha:∀ p∈l,p.acc=a.id)(ht:∀ p∈l,p.Ok):Cn 19 [.sl (Bo l),.agg (D6 a)] (.val (gI (D4 l.getLast? a))):=by
 have c1:=Wn l hl a.id ha
 have hm:∀ p,l.getLast?=some p→0≤p.to∧p.to≤73048:=fun p hp=>(ht p (List.mem_of_getLast? hp)).t
 generalize l.getLast?=o at *
 unfold D6
 cases o with
 | none =>
  unfold Q1 Cc perZ at c1
  simp only[Option.getD_none,Option.isSome_none] at c1
  unfold D4
  dsimp only at *
  refine cvS Tryz.func19 ?_
  (repeat' (first|exact trivial|refine stR ?_|((first|refine cv (c1) ?_|refine stp ?_|refine A0 (fun h=>?_) ?_|(refine gw (fun h=>?_) (fun h=>?_)<;>(try (exfalso;omega))))<;>(try (refine wS ?_)))))
  all_goals simp only[sxd,z0,p0,Nat.reduceEqDiff,↓reduceIte,Tryz.f19, *]
 | some p =>
  obtain⟨h1,h2⟩:=hm p rfl
  unfold Q1 Cc at c1
  simp only[Option.getD_some,Option.isSome_some] at c1
  unfold D4
  dsimp only at *
  refine cvS Tryz.func19 ?_
  (repeat' (first|exact trivial|refine stR ?_|((first|refine cv (c1) ?_|refine stp ?_|refine A0 (fun h=>?_) ?_|(refine gw (fun h=>?_) (fun h=>?_)<;>(try (exfalso;omega))))<;>(try (refine wS ?_)))))
  all_goals simp only[sxd,z0,p0,Nat.reduceEqDiff,↓reduceIte,Tryz.f19, *]
namespace D
theorem Qr(x:IntV){g r:Int×Int}(hg:OkW g)(hr:OkW r):∃ z:Int×(Int×Int)×Int,(I64 z.1∧OkW z.2.1)∧Cn 111 [.agg (L5 x),gW g,gW r] (.val (.tup [gI z.1,gW z.2.1,gI z.2.2])):=by
 have w0:OkW (0,0):=⟨by unfold I64;dsimp only;omega,by unfold U64;dsimp only;omega⟩
 obtain⟨⟨⟨s1,s2⟩,sc⟩,gs,c1⟩:=Og hg hr
 obtain⟨m1,_,c2⟩:=A9q gs w0
 obtain⟨m2,_,c3⟩:=A9q hg w0
 obtain⟨⟨n1,⟨p1,p2⟩,e1⟩,⟨h1,h2⟩,c4⟩:=Rq gs x.mode
 obtain⟨⟨n2,⟨p3,p4⟩,e2⟩,⟨h3,h4⟩,c5⟩:=Rq hg x.mode
 have i0:I64 0:=by unfold I64;omega
 obtain⟨a,b⟩:=g
 obtain⟨c,d⟩:=r
 unfold L5
 clear hr
 dsimp only at *
 refine caS (fun z:Int×(Int×Int)×Int=>.tup [gI z.1,gW z.2.1,gI z.2.2]) Tryz.func111 ?_
 (repeat' (first|exact trivial|refine stR ?_|((first|refine cv (c1) ?_|refine cv (c2) ?_|refine cv (c3) ?_|refine cv (c4) ?_|refine cv (c5) ?_|refine stp ?_|refine A0 (fun h=>?_) ?_|(refine gw (fun h=>?_) (fun h=>?_)<;>(try (exfalso;omega))))<;>(try (refine wS ?_)))))
 all_goals (refine rc5 rfl ?_)
 all_goals exact⟨(_,(_,_),_),rfl,by assumption,by assumption⟩
end D
noncomputable def M1(x y:Int×Int):(Int×Int)×Int:=open Classical in
 if h:OkW x∧OkW y then Classical.choose (D.Og h.1 h.2) else ((0,0),0)
theorem J3{x y:Int×Int}(hx:OkW x)(hy:OkW y):OkW (M1 x y).1∧Cn 163 [gW x,gW y] (.val (gWI (M1 x y))):=by
 unfold M1
 rw[dif_pos ⟨hx,hy⟩]
 exact Classical.choose_spec (D.Og hx hy)
noncomputable def N4:List Dk→(Int×Int)→(Int×Int)→Option ((Int×Int)×(Int×Int))
 | [],a,b=>some (a,b)
 | d :: l,a,b=>if (M1 a (d.e1,d.e2)).2=0∧(M1 b (d.o1,d.o2)).2=0 then N4 l (M1 a (d.e1,d.e2)).1 (M1 b (d.o1,d.o2)).1 else none
noncomputable def D3(l:List Dk):(Int×Int)×(Int×Int)×Int:=match N4 l (0,0) (0,0) with
 | some (a,b)=>(a,b,0)
 | none=>((0,0),(0,0),6)
theorem A9b{l:List Dk}{k:Nat}{x:Dk}(h:l[k]?=some x)(a b:Int×Int):N4 (l.drop k) a b=if (M1 a (x.e1,x.e2)).2=0∧(M1 b (x.o1,x.o2)).2=0 then N4 (l.drop (k+1)) (M1 a (x.e1,x.e2)).1 (M1 b (x.o1,x.o2)).1 else none:=by
 obtain⟨hk,rfl⟩:=List.getElem?_eq_some_iff.1 h
 rw[List.drop_eq_getElem_cons hk,N4]
def A9r(l:List Dk):Prop:=∀ d∈l,OkW (d.e1,d.e2)∧OkW (d.o1,d.o2)
theorem Agq{l:List Dk}(h:N4 l (0,0) (0,0)=none):D3 l=((0,0),(0,0),6):=by unfold D3;rw[h]
theorem A9a{l:List Dk}{a b:Int×Int}(h:N4 l (0,0) (0,0)=some (a,b)):D3 l=(a,b,0):=by unfold D3;rw[h]
set_option maxHeartbeats 2000000 in
theorem Tj{l:List Dk}(hl:Sz l.length)(hok:A9r l):(OkW (D3 l).1∧OkW (D3 l).2.1)∧Cn 110 [.sl (C0 l)] (.val (.tup [gW (D3 l).1,gW (D3 l).2.1,gI (D3 l).2.2])):=by
 unfold Sz at hl
 have q1:=S8 l
 have w0:OkW (0,0):=⟨by unfold I64;dsimp only;omega,by unfold U64;dsimp only;omega⟩
 constructor
 ·have:∀ (m:List Dk) (a b:Int×Int),(∀ d∈m,OkW (d.e1,d.e2)∧OkW (d.o1,d.o2))→OkW a→OkW b→∀ x,N4 m a b=some x→OkW x.1∧OkW x.2:=by
   intro m
   induction m with
   | nil=>intro a b _ ha hb x hx;unfold N4 at hx;cases hx;exact⟨ha,hb⟩
   | cons d m ih =>
    intro a b hm ha hb x hx
    unfold N4 at hx
    split at hx
    ·have hd:=hm d List.mem_cons_self
     exact ih _ _ (fun y hy=>hm y (List.mem_cons_of_mem _ hy)) (J3 ha hd.1).1 (J3 hb hd.2).1 x hx
    ·cases hx
  unfold D3
  split
  ·rename_i a b h
   exact this l _ _ hok w0 w0 _ h
  ·exact⟨w0,w0⟩
 ·replace hok:=Lib.hid hok
  refine cvS Tryz.func110 ?_
  (repeat' (first|exact trivial|refine stR ?_|((first|refine stn ?_|refine A0 (fun h=>?_) ?_|(refine gw (fun h=>?_) (fun h=>?_)<;>(try (exfalso;omega))))<;>(try (refine wS ?_)))))
  refine A9 (fun n tm hp nx=>∃ (k:Nat) (a1 a2 b1 b2:Int),n=l.length-k∧k≤l.length∧tm 13=.sl (C0 l)∧tm 14=gI l.length∧tm 15=gI k∧tm 2=.pt 0 0 0∧tm 3=.pt 1 0 0∧tm 5=.pt 3 0 0∧tm 6=.pt 4 0 0∧hp 0=some ⟨50,[[gI 0,.ex (.int .u64 0)]],true⟩∧hp 1=some ⟨50,[[gI 0,.ex (.int .u64 0)]],true⟩∧hp 3=some ⟨50,[[gI a1,.ex (.int .u64 a2)]],true⟩∧hp 4=some ⟨50,[[gI b1,.ex (.int .u64 b2)]],true⟩∧4<nx∧Hid (OkW (a1,a2)∧OkW (b1,b2))∧Hid (N4 l (0,0) (0,0)=N4 (l.drop k) (a1,a2) (b1,b2))) l.length ⟨0,0,0,0,0,rfl,Nat.zero_le _,byS,byS,byS,byS,byS,byS,byS,byQ,byQ,byQ,byQ,by omega,Lib.hid ⟨w0,w0⟩,Lib.hid rfl⟩ ?_
  rintro n tm hp nx ⟨k,a1,a2,b1,b2,rfl,hk,g13,g14,g15,g2,g3,g5,g6,h0,h1,h3,h4,hx,hab,hS⟩
  by_cases hlt:k<l.length
  ·have e0:=List.getElem?_eq_getElem hlt
   have e1:=A6r e0
   have hd:=hok.out _ (List.getElem_mem hlt)
   have hS2:=Lib.hid (hS.out.trans (A9b e0 (a1,a2) (b1,b2)))
   generalize l[k]=x at *
   obtain⟨gs,c1⟩:=J3 hab.out.1 hd.1
   obtain⟨gt,c2⟩:=J3 hab.out.2 hd.2
   generalize M1 (a1,a2) (x.e1,x.e2)=A1 at *
   generalize M1 (b1,b2) (x.o1,x.o2)=A2 at *
   obtain⟨⟨s1,s2⟩,sc⟩:=A1
   obtain⟨⟨t1,t2⟩,tc⟩:=A2
   have hn:=Lib.hid (And.intro gs gt)
   clear hd gs gt e0 hS
   dsimp only at *
   by_cases hz:sc=0∧tc=0
   ·have hn2:=Lib.hid (hS2.out.trans (if_pos hz))
    obtain⟨rfl,rfl⟩:=hz
    clear hS2 hab
    (repeat' (first|exact trivial|refine stR ?_|((first|refine cv (c1) ?_|refine cv (c2) ?_|refine stn ?_|refine A0 (fun h=>?_) ?_|(refine gw (fun h=>?_) (fun h=>?_)<;>(try (exfalso;omega))))<;>(try (refine wS ?_)))))
    refine (?_:awp Tryz.prog CtxP (.region 9 tot9_ops true) _ _)
    refine B12 base (by exact byQ) (by exact byQ) (by exact byQ) (by exact byQ) (by exact byQ) (by exact byQ) (by exact byQ) (by exact byQ) (by omega) (by omega) (by omega) (by omega) (by omega) (by omega) (by omega) (by omega) (by omega) (by omega) (by omega) (by omega) fun tm' e2 e3 e5 e6 e13 e14 e15=>?_
    show awp Tryz.prog CtxP _ _ ⟨_,_,_⟩
    (repeat' (first|exact trivial|refine stR ?_|((first|refine stn ?_|refine A0 (fun h=>?_) ?_|(refine gw (fun h=>?_) (fun h=>?_)<;>(try (exfalso;omega))))<;>(try (refine wS ?_)))))
    all_goals exact A3 (l.length-(k+1)) (by omega) ⟨k+1,s1,s2,t1,t2,rfl,by omega,byS,byS,byS,byS,byS,byS,byS,byQ,byQ,byQ,byQ,by omega,hn,hn2⟩
   ·have hr:=Agq (hS2.out.trans (if_neg hz))
    rw[hr]
    clear hS2 hab hr hn
    have hz2:sc=0→¬ tc=0:=fun h k=>hz ⟨h,k⟩
    by_cases hsc:sc=0
    ·have htc:=hz2 hsc
     clear hz hz2
     (repeat' (first|exact trivial|refine stR ?_|((first|refine cv (c1) ?_|refine cv (c2) ?_|refine stn ?_|refine A0 (fun h=>?_) ?_|(refine gw (fun h=>?_) (fun h=>?_)<;>(try (exfalso;omega))))<;>(try (refine wS ?_)))))
     all_goals (refine rc6 rfl ?_)
     all_goals rfl
    ·clear hz hz2
     (repeat' (first|exact trivial|refine stR ?_|((first|refine cv (c1) ?_|refine cv (c2) ?_|refine stn ?_|refine A0 (fun h=>?_) ?_|(refine gw (fun h=>?_) (fun h=>?_)<;>(try (exfalso;omega))))<;>(try (refine wS ?_)))))
     all_goals (refine rc6 rfl ?_)
     all_goals rfl
  ·have hr:=A9a (hS.out.trans (by rw[List.drop_of_length_le (by omega),N4]))
   rw[hr]
   clear hS hab hr
   (repeat' (first|exact trivial|refine stR ?_|((first|refine stn ?_|refine A0 (fun h=>?_) ?_|(refine gw (fun h=>?_) (fun h=>?_)<;>(try (exfalso;omega))))<;>(try (refine wS ?_)))))
   refine (?_:awp Tryz.prog CtxP (.region 11 tot11_ops true) _ _)
   refine Ays base (by exact byQ) (by exact byQ) (by exact byQ) (by exact byQ) (by exact byQ) (by exact byQ) (by exact byQ) (by exact byQ) (by omega) (by omega) (by omega) (by omega) (by omega) (by omega) (by omega) (by omega) (by omega) (by omega) (by omega) (by omega) fun tm' e2 e3 e4=>?_
   show awp Tryz.prog CtxP _ _ ⟨_,_,_⟩
   (repeat' (first|exact trivial|refine stR ?_|((first|refine stn ?_|refine A0 (fun h=>?_) ?_|(refine gw (fun h=>?_) (fun h=>?_)<;>(try (exfalso;omega))))<;>(try (refine wS ?_)))))
   all_goals (refine rc6 rfl ?_)
   all_goals rfl
noncomputable def Dr(x:IntV)(g r:Int×Int):Int×(Int×Int)×Int:=open Classical in
 if h:OkW g∧OkW r then Classical.choose (D.Qr x h.1 h.2) else (0,(0,0),0)
theorem Jh(x:IntV){g r:Int×Int}(hg:OkW g)(hr:OkW r):(I64 (Dr x g r).1∧OkW (Dr x g r).2.1)∧Cn 111 [.agg (L5 x),gW g,gW r] (.val (.tup [gI (Dr x g r).1,gW (Dr x g r).2.1,gI (Dr x g r).2.2])):=by
 unfold Dr
 rw[dif_pos ⟨hg,hr⟩]
 exact Classical.choose_spec (D.Qr x hg hr)
noncomputable def Z1(p q mode:Int):Int×Int:=open Classical in
 if h:I64 p∧I64 q then Classical.choose (D.Oq h.1 h.2 mode) else (0,0)
theorem A8f{p q:Int}(hp:I64 p)(hq:I64 q)(mode:Int):Cn 112 [gI p,gI q,gI mode] (.val (gII (Z1 p q mode))):=by
 unfold Z1
 rw[dif_pos ⟨hp,hq⟩]
 exact (Classical.choose_spec (D.Oq hp hq mode)).2
theorem Aj7{b:BkV}(hb:b.Ok){bal:Int}(hbal:I64 bal)(id d:Int):OkW ((Pn b bal id d).e1,(Pn b bal id d).e2)∧OkW ((Pn b bal id d).o1,(Pn b bal id d).o2):=by
 have w0:OkW (0,0):=⟨by unfold I64;dsimp only;omega,by unfold U64;dsimp only;omega⟩
 have hg:=(Y7 (Jf hb id d) hbal d).1
 unfold Pn
 repeat' split
 all_goals first|exact⟨hg,w0⟩|exact⟨w0,hg⟩|exact⟨w0,w0⟩
theorem A4w{b:BkV}(hb:b.Ok){B:Int→Int}(hB:∀ d,I64 (B d))(id frm to:Int):Sz (Gs b B id frm to).1.length∧A9r (Gs b B id frm to).1:=by
 unfold Gs
 split
 ·exact⟨by simp [Sz],fun d hd=>by cases hd⟩
 ·split
  ·exact⟨by simp [Sz],fun d hd=>by cases hd⟩
  ·rename_i h
   refine⟨?_,fun d hd=>?_⟩
   ·rw[Abv]
    unfold Sz
    omega
   ·unfold Po at hd
    obtain⟨i,_,rfl⟩:=List.mem_map.1 hd
    exact Aj7 hb (hB _) id _
noncomputable def Vj(s:List Dk×Int)(v:ProdV×Bool)(q:PerV)(id frm to:Int):PerV×Int :=
 if ¬ s.2=0 then (perZ,s.2)
 else if v.2=false then (perZ,11)
 else if ¬ (D3 s.1).2.2=0 then (perZ,(D3 s.1).2.2)
 else if ¬ (Dr v.1.cr (D3 s.1).1 (q.c1,q.c2)).2.2=0 then (perZ,(Dr v.1.cr (D3 s.1).1 (q.c1,q.c2)).2.2)
 else if ¬ (Dr v.1.db (D3 s.1).2.1 (q.d1,q.d2)).2.2=0 then (perZ,(Dr v.1.db (D3 s.1).2.1 (q.d1,q.d2)).2.2)
 else if ¬ (Z1 (Dr v.1.cr (D3 s.1).1 (q.c1,q.c2)).1 v.1.tax 1).2=0 then (perZ,(Z1 (Dr v.1.cr (D3 s.1).1 (q.c1,q.c2)).1 v.1.tax 1).2)
 else (⟨id,frm,to,(Dr v.1.cr (D3 s.1).1 (q.c1,q.c2)).1,(Dr v.1.db (D3 s.1).2.1 (q.d1,q.d2)).1,(Z1 (Dr v.1.cr (D3 s.1).1 (q.c1,q.c2)).1 v.1.tax 1).1,0,
  (Dr v.1.cr (D3 s.1).1 (q.c1,q.c2)).2.1.1,(Dr v.1.cr (D3 s.1).1 (q.c1,q.c2)).2.1.2,(Dr v.1.db (D3 s.1).2.1 (q.d1,q.d2)).2.1.1,(Dr v.1.db (D3 s.1).2.1 (q.d1,q.d2)).2.1.2⟩,0)
noncomputable def Bu(b:BkV)(B:Int→Int)(prev:Option PerV)(id to:Int):PerV×Int :=
 match C2 id b.accs with
 | none=>(perZ,11)
 | some a =>
  if C6 to=false∨C6 (D4 prev a)=false∨to<D4 prev a then (perZ,1)
  else Vj (Gs b B id (D4 prev a) to) (B5 b id to) (prev.getD perZ) id (D4 prev a) to
theorem Y3{id:Int}{l:List AccV}{a:AccV}(h:C2 id l=some a):a.id=id:=by
 unfold C2 at h
 have:=List.find?_some h
 simpa using this
namespace D
set_option maxHeartbeats 4000000 in
theorem Ot{b:BkV}(hb:b.Ok)(j:List EntV)(hj:JOk j)(l:List PerV)(hl:Sz l.length)(id to:Int)(ha:∀ p∈l,p.acc=id)(hp:∀ p∈l,p.Ok) :
  Cn 51 [.agg (bkC b (Ab j)),.sl (Bo l),gI id,gI to] (.val (.tup [.agg (Cc (Bu b (Bp j id) l.getLast? id to).1),gI (Bu b (Bp j id) l.getLast? id to).2])):=by
 have c1:=Ep b (Ab j) hb.n5 id
 unfold Bu
 cases ho:C2 id b.accs with
 | none =>
  rw[ho] at c1
  unfold Kc D6 Tz at c1
  simp only[Option.getD_none,Option.isSome_none] at c1
  clear ho ha hp
  unfold bkC Cc perZ at *
  suffices key:∃ x:PerV×Int,x=(perZ,11)∧Cn 51 [.agg (bkC b (Ab j)),.sl (Bo l),gI id,gI to] (.val (.tup [.agg (Cc x.1),gI x.2])) by
   obtain⟨x,rfl,h⟩:=key
   exact h
  unfold bkC
  refine caS (fun x:PerV×Int=>.tup [.agg (Cc x.1),gI x.2]) Tryz.func51 ?_
  (repeat' (first|exact trivial|refine stR ?_|((first|refine cv (c1) ?_|refine stp ?_|refine A0 (fun h=>?_) ?_|(refine gw (fun h=>?_) (fun h=>?_)<;>(try (exfalso;omega))))<;>(try (refine wS ?_)))))
  all_goals (refine rc3 rfl ?_)
  all_goals exact⟨(⟨_,_,_,_,_,_,_,_,_,_,_⟩,_),rfl,rfl⟩
 | some a =>
  have hid:=Y3 ho
  rw[ho] at c1
  unfold Kc D6 at c1
  simp only[Option.getD_some,Option.isSome_some] at c1
  have c2:=Sj l hl a (by rw[hid];exact ha) hp
  unfold D6 at c2
  have c3:=Aw to
  have c4:=Aw (D4 l.getLast? a)
  have c5:=A0i hb j hj.n (fun e he=>(hj.e e he).n) id (D4 l.getLast? a) to
  have c6:=G0 hb (Ab j) id to
  have hB:∀ d,I64 (Bp j id d):=fun d=>Im _
  have hs:=A4w hb hB id (D4 l.getLast? a) to
  obtain⟨⟨t1,t2⟩,c7⟩:=Tj hs.1 hs.2
  have c8:=Wn l hl id ha
  have w0:OkW (0,0):=⟨by unfold I64;dsimp only;omega,by unfold U64;dsimp only;omega⟩
  have hq:OkW ((l.getLast?.getD perZ).c1,(l.getLast?.getD perZ).c2)∧OkW ((l.getLast?.getD perZ).d1,(l.getLast?.getD perZ).d2):=by
   cases hl:l.getLast? with
   | none=>exact⟨w0,w0⟩
   | some p=>exact⟨(hp p (List.mem_of_getLast? hl)).r1,(hp p (List.mem_of_getLast? hl)).r2⟩
  obtain⟨⟨g1,_⟩,c9⟩:=Jh (B5 b id to).1.cr t1 hq.1
  have c10:=(Jh (B5 b id to).1.db t2 hq.2).2
  have c11:=A8f g1 (Jf hb id to).i4 1
  clear ha hp hid ho hs hB t1 t2 hq g1 w0 hb hj hl
  suffices key:∃ x:PerV×Int,x=(if C6 to=false∨C6 (D4 l.getLast? a)=false∨to<D4 l.getLast? a then (perZ,1) else Vj (Gs b (Bp j id) id (D4 l.getLast? a) to) (B5 b id to) (l.getLast?.getD perZ) id (D4 l.getLast? a) to)∧Cn 51 [.agg (bkC b (Ab j)),.sl (Bo l),gI id,gI to] (.val (.tup [.agg (Cc x.1),gI x.2])) by
   obtain⟨x,rfl,h⟩:=key
   exact h
  unfold Vj
  unfold Q1 at c8
  generalize D4 l.getLast? a=fr at *
  generalize l.getLast?.getD perZ=q at *
  generalize l.getLast?.isSome=qs at *
  generalize Gs b (Bp j id) id fr to=s at *
  generalize B5 b id to=v at *
  obtain⟨s1,s2⟩:=s
  obtain⟨v1,v2⟩:=v
  dsimp only at *
  generalize D3 s1=T at *
  obtain⟨⟨t1,t2⟩,⟨t3,t4⟩,te⟩:=T
  dsimp only at *
  generalize Dr v1.cr (t1,t2) (q.c1,q.c2)=S1 at *
  generalize Dr v1.db (t3,t4) (q.d1,q.d2)=S2 at *
  obtain⟨n1,⟨r1,r2⟩,e1⟩:=S1
  obtain⟨n2,⟨r3,r4⟩,e2⟩:=S2
  dsimp only at *
  generalize Z1 n1 v1.tax 1=X at *
  obtain⟨x1,x2⟩:=X
  dsimp only at *
  generalize C6 to=d1 at *
  generalize C6 fr=d2 at *
  unfold gP Bw at c6
  unfold L5 at c9 c10
  unfold Cc at c8
  unfold bkC at *
  dsimp only at *
  refine caS (fun x:PerV×Int=>.tup [.agg (Cc x.1),gI x.2]) Tryz.func51 ?_
  (repeat' (first|exact trivial|refine stR ?_|((first|refine cv (c1) ?_|refine cv (c2) ?_|refine cv (c3) ?_|refine cv (c4) ?_|refine cv (c5) ?_|refine cv (c6) ?_|refine cv (c7) ?_|refine cv (c8) ?_|refine cv (c9) ?_|refine cv (c10) ?_|refine cv (c11) ?_|refine stp ?_|refine A0 (fun h=>?_) ?_|(refine gw (fun h=>?_) (fun h=>?_)<;>(try (exfalso;omega))))<;>(try (refine wS ?_)))))
  all_goals (refine rc3 rfl ?_)
  all_goals refine⟨(⟨_,_,_,_,_,_,_,_,_,_,_⟩,_),rfl, ?_⟩
  all_goals (clear c1 c2 c3 c4 c5 c6 c7 c8 c9 c10 c11;(repeat' split)<;>first|rfl|(exfalso;omega)|(exfalso;simp_all;done))
end D
theorem Tm{x y:Int}(h:Q64 x y):wrap64 x=wrap64 y:=by unfold wrap64;unfold Q64 at h;omega
def D7(b:BkV)(id:Int)(p:PerV):Int:=(if b.plan.p3=id then p.cr else 0)-(if b.plan.p4=id then p.db else 0)-(if b.plan.p6=id then p.tax else 0)+(p.db+p.tax-p.cr)
def bare(p:PerV):PerV:={ p with cnt:=0 }
theorem Alx{b:BkV}{B B':Int→Int}{id frm to:Int}(h:∀ d,d≤to→B d=B' d):Gs b B id frm to=Gs b B' id frm to:=by
 unfold Gs
 split
 ·rfl
 ·split
  ·rfl
  ·rename_i hc
   congr 1
   unfold Po
   refine List.map_congr_left fun i hi=>?_
   rw[h (frm+i)]
   have:=List.mem_range.1 hi
   omega
theorem Ka{s:List Dk×Int}{v:ProdV×Bool}{q:PerV}{id frm to:Int}(h:(Vj s v q id frm to).2=0):v.2=true∧Vj s v q id frm to =
  (⟨id,frm,to,(Dr v.1.cr (D3 s.1).1 (q.c1,q.c2)).1,(Dr v.1.db (D3 s.1).2.1 (q.d1,q.d2)).1,(Z1 (Dr v.1.cr (D3 s.1).1 (q.c1,q.c2)).1 v.1.tax 1).1,0,
  (Dr v.1.cr (D3 s.1).1 (q.c1,q.c2)).2.1.1,(Dr v.1.cr (D3 s.1).1 (q.c1,q.c2)).2.1.2,(Dr v.1.db (D3 s.1).2.1 (q.d1,q.d2)).2.1.1,(Dr v.1.db (D3 s.1).2.1 (q.d1,q.d2)).2.1.2⟩,0):=by
 unfold Vj at *
 by_cases a1:¬ s.2=0
 ·rw[if_pos a1] at h;exact absurd h a1
 rw[if_neg a1] at h ⊢
 by_cases a2:v.2=false
 ·rw[if_pos a2] at h;exact absurd (show (11:Int)=0 from h) (by decide)
 rw[if_neg a2] at h ⊢
 by_cases a3:¬ (D3 s.1).2.2=0
 ·rw[if_pos a3] at h;exact absurd h a3
 rw[if_neg a3] at h ⊢
 by_cases a4:¬ (Dr v.1.cr (D3 s.1).1 (q.c1,q.c2)).2.2=0
 ·rw[if_pos a4] at h;exact absurd h a4
 rw[if_neg a4] at h ⊢
 by_cases a5:¬ (Dr v.1.db (D3 s.1).2.1 (q.d1,q.d2)).2.2=0
 ·rw[if_pos a5] at h;exact absurd h a5
 rw[if_neg a5] at h ⊢
 by_cases a6:¬ (Z1 (Dr v.1.cr (D3 s.1).1 (q.c1,q.c2)).1 v.1.tax 1).2=0
 ·rw[if_pos a6] at h;exact absurd h a6
 rw[if_neg a6]
 exact⟨by simpa using a2,rfl⟩
theorem Qg{b:BkV}{B:Int→Int}{o:Option PerV}{id to:Int}(h:(Bu b B o id to).2=0):∃ a,C2 id b.accs=some a∧C6 to=true∧(B5 b id to).2=true∧Bu b B o id to=Vj (Gs b B id (D4 o a) to) (B5 b id to) (o.getD perZ) id (D4 o a) to∧(Vj (Gs b B id (D4 o a) to) (B5 b id to) (o.getD perZ) id (D4 o a) to).2=0:=by
 unfold Bu at *
 cases ha:C2 id b.accs with
 | none=>rw[ha] at h;exact absurd (show (11:Int)=0 from h) (by decide)
 | some a =>
  rw[ha] at h
  dsimp only at h ⊢
  by_cases h1:C6 to=false∨C6 (D4 o a)=false∨to<D4 o a
  ·rw[if_pos h1] at h;exact absurd (show (1:Int)=0 from h) (by decide)
  rw[if_neg h1] at h ⊢
  refine⟨a,rfl, ?_,(Ka h).1,rfl,h⟩
  cases hd:C6 to with
  | true=>rfl
  | false=>exact absurd (.inl hd) h1
theorem Oa{b:BkV}{B:Int→Int}{o:Option PerV}{id to:Int}(h:(Bu b B o id to).2=0):(Bu b B o id to).1.to=to∧(Bu b B o id to).1.acc=id∧(Bu b B o id to).1.cnt=0:=by
 obtain⟨a,_,_,_,h1,h2⟩:=Qg h
 rw[h1,(Ka h2).2]
 exact⟨rfl,rfl,rfl⟩
theorem A4r{b:BkV}(hb:b.Ok){B:Int→Int}(hB:∀ d,I64 (B d)){o:Option PerV}(ho:∀ p,o=some p→p.Ok){id to:Int}(h:(Bu b B o id to).2=0):(Bu b B o id to).1.Ok∧(B5 b id to).2=true:=by
 obtain⟨a,_,hd,hp,h1,h2⟩:=Qg h
 refine⟨?_,hp⟩
 have w0:OkW (0,0):=⟨by unfold I64;dsimp only;omega,by unfold U64;dsimp only;omega⟩
 have hq:OkW ((o.getD perZ).c1,(o.getD perZ).c2)∧OkW ((o.getD perZ).d1,(o.getD perZ).d2):=by
  cases o with
  | none=>exact⟨w0,w0⟩
  | some p=>exact⟨(ho p rfl).r1,(ho p rfl).r2⟩
 have hs:=A4w hb hB id (D4 o a) to
 have ht:=(Tj hs.1 hs.2).1
 have g1:=(Jh (B5 b id to).1.cr ht.1 hq.1).1.2
 have g2:=(Jh (B5 b id to).1.db ht.2 hq.2).1.2
 rw[h1,(Ka h2).2]
 exact⟨Gz.1 hd,g1,g2,by unfold I64;dsimp only;omega⟩
noncomputable def Zb(b:BkV)(id:Int):Settle PerV where
 W:=wrap64
 hW _ _ h:=Tm h
 per B o t:=if (Bu b B o id t).2=0 then some (Bu b B o id t).1 else none
 to:=PerV.to
 lam:=D7 b id
 same p q:=bare p=bare q
 same_refl _:=rfl
 same_symm _ _ h:=h.symm
 same_trans _ _ _ h k:=h.trans k
 same_to p q h:=by have h1:=congrArg PerV.to h;exact h1
 same_lam p q h:=by have h1:=congrArg (D7 b id) h;exact h1
 per_to B l t p h:=by
  split at h
  ·rename_i h0
   cases h
   exact (Oa h0).1
  ·cases h
 per_at B B' l t h:=by
  have:Bu b B l id t=Bu b B' l id t:=by
   unfold Bu
   split
   ·rfl
   ·rw[Alx h]
  rw[this]
 per_same B p q t h:=by
  have h1:p.to=q.to:=by have h1:=congrArg PerV.to h;exact h1
  have h2:p.c1=q.c1:=by have h1:=congrArg PerV.c1 h;exact h1
  have h3:p.c2=q.c2:=by have h1:=congrArg PerV.c2 h;exact h1
  have h4:p.d1=q.d1:=by have h1:=congrArg PerV.d1 h;exact h1
  have h5:p.d2=q.d2:=by have h1:=congrArg PerV.d2 h;exact h1
  have:Bu b B (some p) id t=Bu b B (some q) id t:=by
   unfold Bu Vj D4
   simp only[Option.getD_some,h1,h2,h3,h4,h5]
  rw[this]
end Go.Proofs.YtbhffbgbhgjdiaaGreatDoor
