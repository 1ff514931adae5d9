/-
  Parts of the proof: S40 V1 V3 V5. Conditions: those that each theorem states.
-/
import Derived.Test.YtbhffbgbhgjdiaaGreatDoorM27
set_option linter.unusedSimpArgs false
set_option linter.unusedVariables false
namespace Go.Proofs.YtbhffbgbhgjdiaaGreatDoor
open Go.RowKit
set_option maxRecDepth 100000
theorem Rc(L:List (List AV))(f1:(L.all (·.all p0))=true)(f2:L.map (·.map z0)=L)(f3:∀ n∈L,n.length=11)(f4:L.length*88≤140737488355328):Cn 21 [.sl L] (.fresh 52 L):=by
 refine Gy base Tryz.func21 rfl rfl (by kernel_rfl) (Nat.le_of_ble_eq_true rfl) ?_
 rw[Jc]
 (repeat' (first|exact trivial|refine stR ?_|((first|refine stp ?_|refine A0 (fun h=>?_) ?_|(refine gw (fun h=>?_) (fun h=>?_)<;>(try (exfalso;omega))))<;>(try (refine wS ?_)))))
 all_goals simp only[sxd,z0,p0,Nat.reduceEqDiff,↓reduceIte,Tryz.f21, *]
def Ao0(b:BkV)(id:Int)(X:Int→Int)(Y:Int)(l0:List PerV)(hp0:Nat→Option A4)(nx0:Nat)(u:AV)(h:Nat→Option A4)(n:Nat):Prop :=
 (∀ i, i < nx0 → h i = hp0 i) ∧ ((∃ (k k2:Nat) (e:Int),¬ e=0∧u=.tup [.agg bkZ,.own k,.own k2,gI e]∧nx0≤k∧nx0≤k2∧h k=some ⟨52,[],true⟩∧h k2=some ⟨39,[],true⟩) ∨
  (∃ (j2:List EntV) (l2:List PerV) (q q2:Nat) (es:List EntV),u=.tup [.agg (bkC b (Ab j2)),.own q,.own q2,gI 0]∧nx0≤q∧nx0≤q2∧h q=some ⟨52,Bo l2,true⟩∧h q2=some ⟨39,Ab es,true⟩∧RecOk b id X Y l0 l0.length j2 l2∧j2.length≤5000))
theorem Ob{b:BkV}{id:Int}{X:Int→Int}{Y:Int}{l0:List PerV}{hp0 h:Nat→Option A4}{nx0 n k k2:Nat}{e:Int}(hs:∀ i,i<nx0→h i=hp0 i)(he:¬ e=0)(h1:nx0≤k)(h2:nx0≤k2)(h3:h k=some ⟨52,[],true⟩)(h4:h k2=some ⟨39,[],true⟩):Ao0 b id X Y l0 hp0 nx0 (.tup [.agg bkZ,.own k,.own k2,gI e]) h n:=⟨hs,.inl ⟨k,k2,e,he,rfl,h1,h2,h3,h4⟩⟩
theorem Alu{b:BkV}{id:Int}{X:Int→Int}{Y:Int}{l0 l2:List PerV}{j2 es:List EntV}{hp0 h:Nat→Option A4}{nx0 n q q2:Nat}(hs:∀ i,i<nx0→h i=hp0 i)(h1:nx0≤q)(h2:nx0≤q2)(h3:h q=some ⟨52,Bo l2,true⟩)(h4:h q2=some ⟨39,Ab es,true⟩)(h5:RecOk b id X Y l0 l0.length j2 l2)(h6:j2.length≤5000):Ao0 b id X Y l0 hp0 nx0 (.tup [.agg (bkC b (Ab j2)),.own q,.own q2,gI 0]) h n:=⟨hs,.inr ⟨j2,l2,q,q2,es,rfl,h1,h2,h3,h4,h5,h6⟩⟩
structure B09(b:BkV)(id bk:Int)(X:Int→Int)(Y:Int)(l0:List PerV)(m nx0 n16:Nat)(hp0:Nat→Option A4)(k:Nat)(tm:Nat→AV)(hp:Nat→Option A4)(nx:Nat)(j:List EntV)(l:List PerV)(q q2:Nat)(es:List EntV):Prop where
 g4:tm 4=gI bk
 g10:tm 10=.pt (nx0+1) 0 0
 g16:tm 16=.pt n16 0 0
 g17:tm 17=.own q
 g18:tm 18=.own q2
 g48:tm 48=.sl (Du m l0.length)
 g49:tm 49=gI (l0.length-m:Nat)
 g50:tm 50=gI k
 h10:hp (nx0+1)=some ⟨33,[bkZ],true⟩
 h16:hp n16=some ⟨33,[bkC b (Ab j)],true⟩
 hq:hp q=some ⟨52,Bo l,true⟩
 hq2:hp q2=some ⟨39,Ab es,true⟩
 hk:∀ i,i<nx0→hp i=hp0 i
 lt:nx0+1<n16∧n16<nx∧nx0+1<q∧q<nx∧nx0+1<q2∧q2<nx∧¬ q=q2∧¬ q=n16∧¬ q2=n16
 ok:RecOk b id X Y l0 (m+k) j l
 le:es.length≤k∧j.length≤5000
theorem Z2(l:List PerV)(i:Nat)(p:PerV):(Bo l).set i (Cc p)=Bo (l.set i p):=by simp [Bo,List.map_set]
theorem A70(l:List EntV)(e:EntV):Ab l++[Al e]=Ab (l++[e]):=by simp [Ab]
theorem Ayr{l l0:List PerV}(h:l.map PerV.to=l0.map PerV.to){c:Int}(h0:∀ p∈l0,p.to<c):∀ p∈l,p.to<c:=fun p hp=>by
 have h1:p.to∈l.map PerV.to:=List.mem_map.2 ⟨p,hp,rfl⟩
 rw[h] at h1
 obtain⟨q,hq,e⟩:=List.mem_map.1 h1
 rw[← e]
 exact h0 q hq
set_option maxHeartbeats 8000000 in
theorem Re{b:BkV}(hb:b.Ok)(hpl:Ly b){id v bk:Int}(hid:I64 id)(hbk:I64 bk){X:Int→Int}{Y:Int}{m:Nat}{j:List EntV}{l:List PerV}(hr:RecOk b id X Y l m j l)(hj:j.length≤5000)(hm:m≤l.length)(hl:l.length≤100000)(ht:∀ p∈l,p.to<73048)
  (h1:∀ k p,l[k]?=some p→k<m→p.to<v) (h2:∀ k p,l[k]?=some p→m≤k→v≤p.to) {hp0:Nat→Option A4} {nx0:Nat} :
  ConI Tryz.prog CtxP 9 [.agg (bkC b (Ab j)),.sl (Bo l),gI id,gI v,gI bk] hp0 nx0 (Ao0 b id X Y l hp0 nx0):=by
 have c1:=D.Ep b (Ab j) hb.n5 id
 have c2:=Aw bk
 have c3:=D.Ts hb hr.jo (by omega)
 have c4:=Rc (Bo l) (Hq l) (Hr l) (Z3 l) (by rw[Cz];omega)
 have c5:=Tq l hl id v hr.ac m hm h1 h2
 refine En base Tryz.func9 rfl rfl (by kernel_rfl) (Nat.le_of_ble_eq_true rfl) ?_
 cases ho:C2 id b.accs with
 | none =>
  rw[ho] at c1
  unfold Kc D6 Tz at c1
  simp only[Option.getD_none,Option.isSome_none] at c1
  clear hr h1 h2 ht c3 c4 c5
  unfold bkC at *
  show awp Tryz.prog CtxP _ _ ⟨tmI _,hp0,nx0⟩
  (repeat' (first|exact trivial|refine stR ?_|((first|refine cv (c1) ?_|refine stp ?_|refine A0 (fun h=>?_) ?_|(refine gw (fun h=>?_) (fun h=>?_)<;>(try (exfalso;omega))))<;>(try (refine wS ?_)))))
  all_goals (refine rI4 rfl ?_)
  all_goals exact Ob (fun i hi=>(by have hix:¬ i=nx0:=(by omega);exact byQ)) (by decide) (by omega) (by omega) byQ byQ
 | some a =>
  rw[ho] at c1
  unfold Kc D6 at c1
  simp only[Option.getD_some,Option.isSome_some] at c1
  have q1:=Ys m l.length
  replace ht:=Lib.hid ht
  replace hr:=Lib.hid hr
  have e0:Ab []=[]:=rfl
  clear h1 h2 ho
  unfold bkC at c1 c3
  unfold bkC
  show awp Tryz.prog CtxP _ _ ⟨tmI _,hp0,nx0⟩
  (repeat' (first|exact trivial|refine stR ?_|((first|refine cv (c1) ?_|refine cv (c2) ?_|refine cv (c3) ?_|refine cf (c4) ?_|refine cv (c5) ?_|refine stp ?_|refine A0 (fun h=>?_) ?_|(refine gw (fun h=>?_) (fun h=>?_)<;>(try (exfalso;omega))))<;>(try (refine wS ?_)))))
  all_goals first
   | (refine rI4 rfl ?_
      exact Ob (fun i hi=>(by have hix:¬ i=nx0:=(by omega);exact byQ)) (by decide) (by omega) (by omega) byQ byQ)
   | skip
  refine A9 (fun n tm hp nx=>∃ (k:Nat) (j':List EntV) (l':List PerV) (q q2:Nat) (es:List EntV),n=l.length-m-k∧k≤l.length-m∧B09 b id bk X Y l m nx0 (nx0+23) hp0 k tm hp nx j' l' q q2 es) _ ⟨0,j,l,nx0+22,nx0+26,[],rfl,Nat.zero_le _,⟨byS,byS,byS,byS,byS,byS,by first|exact byQ|exact byN,byS,byQ,by unfold bkC;exact byQ,byQ,byQ,fun i hi=>(by have hix:¬ i=nx0:=(by omega);exact byQ),by omega,hr.out,⟨Nat.zero_le _,hj⟩⟩⟩ ?_
  clear c1 c2 c3 c4 c5 hr
  rintro n tm hp nx ⟨k,j',l',q,q2,es,rfl,hk,hI⟩
  have hok:=hI.ok
  have hlen:=hok.len
  have hto:=Ayr hok.tos ht.out
  have g4:=hI.g4
  have g10:=hI.g10
  have g16:=hI.g16
  have g17:=hI.g17
  have g18:=hI.g18
  have g48:=hI.g48
  have g49:=hI.g49
  have g50:=hI.g50
  have h10:=hI.h10
  have h16:=hI.h16
  have hq:=hI.hq
  have hq2:=hI.hq2
  have hkk:=Lib.hid hI.hk
  obtain⟨r1,r2,r3,r4,r5,r6,r7,r8,r9⟩:=hI.lt
  obtain⟨z1,z2⟩:=hI.le
  clear hI
  have s1:¬ q2=q:=by omega
  have s2:¬ nx0+23=q:=by omega
  have s3:¬ nx0+23=q2:=by omega
  have s4:¬ nx0+1=q:=by omega
  have s5:¬ nx0+1=q2:=by omega
  have s6:¬ q=nx0+1:=by omega
  have s7:¬ q2=nx0+1:=by omega
  have q3:=Cz l'
  have f1:=Hq l'
  have f2:=Hr l'
  have f3:=Bt es
  unfold bkC bkZ at *
  by_cases hlt:k<l.length-m
  ·obtain⟨i,hi⟩:∃ i,i=m+k:=⟨_,rfl⟩
   have hil:i<l'.length:=by omega
   have e1:=Af5 (m:=m) (n:=l.length) (k:=k) (by omega)
   rw[← hi] at e1 hok
   obtain⟨old,ho⟩:∃ p,l'[i]?=some p:=⟨_,List.getElem?_eq_getElem hil⟩
   have e2:=Ed ho
   obtain⟨P,e,cc,hf⟩:=A8s hb hpl hid hok (by omega) ho (hto old (List.mem_of_getElem? ho)) hbk
   have hset:=fun p=>Z2 l' i p
   obtain⟨o1,o2,o3,o4,o5,o6,o7,o8,o9,o10,o11⟩:=old
   obtain⟨p1,p2,p3,p4,p5,p6,p7,p8,p9,p10,p11⟩:=P
   unfold Cc at cc
   dsimp only at cc e2 hf
   unfold bkC at cc
   have him:=Lib.hid hi
   clear hto ho hok hi
   by_cases he:e=0
   ·subst he
    obtain⟨hsame,x,okx,l2,n,cen,cpo,hpo⟩:=hf rfl
    unfold Cc bkC at cen
    unfold bkC at cpo
    dsimp only at cen
    replace hsame:=Lib.hid hsame
    replace hpo:=Lib.hid hpo
    clear hf
    by_cases hs:p4=o4∧p5=o5∧p6=o6
    ·obtain⟨rfl,rfl,rfl⟩:=hs
     have hN:=hsame.out rfl rfl rfl
     have hst:=hset ⟨p1,p2,p3,p4,p5,p6,o7,p8,p9,p10,p11⟩
     unfold Cc at hst
     clear hsame hpo cen cpo hset
     (repeat' (first|exact trivial|refine stR ?_|((first|refine cv (cc) ?_|refine stp ?_|refine A0 (fun h=>?_) ?_|(refine gw (fun h=>?_) (fun h=>?_)<;>(try (exfalso;omega))))<;>(try (refine wS ?_)))))
     all_goals exact A3 (l.length-m-(k+1)) (by omega) ⟨k+1,j',_,q,q2,es,rfl,by omega,⟨byS,byS,byS,byS,byS,byS,byS,by first|exact byQ|exact byN,by unfold bkZ;exact byQ,by unfold bkC;exact byQ,byQ,by first|exact byQ|exact byO,fun i' hi'=>Eq.trans (by have b1:¬ i'=q:=(by omega);have b2:¬ i'=q2:=(by omega);have b3:¬ i'=nx0+23:=(by omega);exact byQ) (hkk.out i' hi'),by omega,(by have e:=him.out;rw[show m+(k+1)=i+1 by omega];exact hN),⟨by first|omega|(rw[List.length_append,List.length_singleton];omega),by omega⟩⟩⟩
    ·have hd:¬ p4=o4∨(o4=p4∧¬ p5=o5)∨(o4=p4∧o5=p5∧¬ p6=o6):=by
      by_cases a1:p4=o4
      ·by_cases a2:p5=o5
       ·by_cases a3:p6=o6
        ·exact absurd ⟨a1,a2,a3⟩ hs
        ·exact .inr (.inr ⟨a1.symm,a2.symm,a3⟩)
       ·exact .inr (.inl ⟨a1.symm,a2⟩)
      ·exact .inl a1
     clear hs hsame
     unfold Al at cen cpo
     by_cases hn:n=0
     ·subst hn
      obtain⟨y,rfl,hy,hyl,hN⟩:=hpo.out rfl
      have hN:=hN (IntKind.i64.wrap (o7+1)) (Sn _)
      have ccl:=D.Oh hy
      have e3:=Ch (l:=j'++[y]) (k:=j'.length) (e:=y) (by simp)
      have f4:(Ab (j'++[y])).length=j'.length+1:=by rw[Bt,List.length_append];rfl
      have f5:=Pq (j'++[y])
      have e4:(((j'.length+1:Nat):Int)-1).toNat=j'.length:=by omega
      have hsn:=A70 es y
      have hst:=hset ⟨p1,p2,p3,p4,p5,p6,IntKind.i64.wrap (o7+1),p8,p9,p10,p11⟩
      unfold bkR at cpo
      rw[if_pos rfl] at cpo
      unfold bkC at cpo
      unfold Al at ccl hsn
      unfold Cc at hst
      clear hset hpo hy
      generalize j'++[y]=j2 at *
      rcases hd with hd|⟨rfl,hd⟩|⟨rfl,rfl,hd⟩
      ·(repeat' (first|exact trivial|refine stR ?_|((first|refine cv (cc) ?_|refine cv (cen) ?_|refine cv (cpo) ?_|refine cv (ccl) ?_|refine stp ?_|refine A0 (fun h=>?_) ?_|(refine gw (fun h=>?_) (fun h=>?_)<;>(try (exfalso;omega))))<;>(try (refine wS ?_)))))
       all_goals exact A3 (l.length-m-(k+1)) (by omega) ⟨k+1,j2,_,q,_,es++[y],rfl,by omega,⟨byS,byS,byS,byS,byS,byS,byS,by first|exact byQ|exact byN,by unfold bkZ;exact byQ,by unfold bkC;exact byQ,byQ,by first|exact byQ|exact byO,fun i' hi'=>Eq.trans (by have b1:¬ i'=q:=(by omega);have b2:¬ i'=q2:=(by omega);have b3:¬ i'=nx0+23:=(by omega);exact byQ) (hkk.out i' hi'),by omega,(by have e:=him.out;rw[show m+(k+1)=i+1 by omega];exact hN),⟨by first|omega|(rw[List.length_append,List.length_singleton];omega),by omega⟩⟩⟩
      ·(repeat' (first|exact trivial|refine stR ?_|((first|refine cv (cc) ?_|refine cv (cen) ?_|refine cv (cpo) ?_|refine cv (ccl) ?_|refine stp ?_|refine A0 (fun h=>?_) ?_|(refine gw (fun h=>?_) (fun h=>?_)<;>(try (exfalso;omega))))<;>(try (refine wS ?_)))))
       all_goals exact A3 (l.length-m-(k+1)) (by omega) ⟨k+1,j2,_,q,_,es++[y],rfl,by omega,⟨byS,byS,byS,byS,byS,byS,byS,by first|exact byQ|exact byN,by unfold bkZ;exact byQ,by unfold bkC;exact byQ,byQ,by first|exact byQ|exact byO,fun i' hi'=>Eq.trans (by have b1:¬ i'=q:=(by omega);have b2:¬ i'=q2:=(by omega);have b3:¬ i'=nx0+23:=(by omega);exact byQ) (hkk.out i' hi'),by omega,(by have e:=him.out;rw[show m+(k+1)=i+1 by omega];exact hN),⟨by first|omega|(rw[List.length_append,List.length_singleton];omega),by omega⟩⟩⟩
      ·(repeat' (first|exact trivial|refine stR ?_|((first|refine cv (cc) ?_|refine cv (cen) ?_|refine cv (cpo) ?_|refine cv (ccl) ?_|refine stp ?_|refine A0 (fun h=>?_) ?_|(refine gw (fun h=>?_) (fun h=>?_)<;>(try (exfalso;omega))))<;>(try (refine wS ?_)))))
       all_goals exact A3 (l.length-m-(k+1)) (by omega) ⟨k+1,j2,_,q,_,es++[y],rfl,by omega,⟨byS,byS,byS,byS,byS,byS,byS,by first|exact byQ|exact byN,by unfold bkZ;exact byQ,by unfold bkC;exact byQ,byQ,by first|exact byQ|exact byO,fun i' hi'=>Eq.trans (by have b1:¬ i'=q:=(by omega);have b2:¬ i'=q2:=(by omega);have b3:¬ i'=nx0+23:=(by omega);exact byQ) (hkk.out i' hi'),by omega,(by have e:=him.out;rw[show m+(k+1)=i+1 by omega];exact hN),⟨by first|omega|(rw[List.length_append,List.length_singleton];omega),by omega⟩⟩⟩
     ·unfold bkR at cpo
      rw[if_neg hn,show bkZ.map z0=[.sl [],.sl [],.sl [],gI 0,gI 0,gI 0,gI 0,gI 0,gI 0,gI 0,gI 0,gI 0,gI 0,gI 0,gI 0,gI 0,gI 0,.sl [],.sl [],.sl [],.sl [],.sl []] from rfl] at cpo
      clear hset hpo
      rcases hd with hd|⟨rfl,hd⟩|⟨rfl,rfl,hd⟩
      all_goals
       (repeat' (first|exact trivial|refine stR ?_|((first|refine cv (cc) ?_|refine cv (cen) ?_|refine cv (cpo) ?_|refine stp ?_|refine A0 (fun h=>?_) ?_|(refine gw (fun h=>?_) (fun h=>?_)<;>(try (exfalso;omega))))<;>(try (refine wS ?_)))))
       all_goals (refine rI4 rfl ?_)
       all_goals exact Ob (fun i hi=>Eq.trans (by have hix:¬ i=nx0+1:=(by omega);exact byQ) (hkk.out i hi)) hn (by omega) (by omega) byQ byQ
   ·clear hf hset
    (repeat' (first|exact trivial|refine stR ?_|((first|refine cv (cc) ?_|refine stp ?_|refine A0 (fun h=>?_) ?_|(refine gw (fun h=>?_) (fun h=>?_)<;>(try (exfalso;omega))))<;>(try (refine wS ?_)))))
    all_goals (refine rI4 rfl ?_)
    all_goals exact Ob (fun i hi=>Eq.trans (by have hix:¬ i=nx0+1:=(by omega);exact byQ) (hkk.out i hi)) he (by omega) (by omega) byQ byQ
  ·have hend:m+k=l.length:=by omega
   rw[hend] at hok
   clear hto
   (repeat' (first|exact trivial|refine stR ?_|((first|refine stp ?_|refine A0 (fun h=>?_) ?_|(refine gw (fun h=>?_) (fun h=>?_)<;>(try (exfalso;omega))))<;>(try (refine wS ?_)))))
   all_goals (refine rI4 rfl ?_)
   all_goals exact Alu (fun i hi=>Eq.trans (by have hix:¬ i=nx0+1:=(by omega);exact byQ) (hkk.out i hi)) (by omega) (by omega) byQ byQ hok z2
theorem A3r{h:Nat→Option A4}{x:List AV}(hx:x.all p0=true):cl h (.agg x)=some (.agg (x.map z0),[]):=by
 show (Ij h x).map _=_
 rw[A3o hx]
 rfl
theorem Ue{h:Nat→Option A4}{q t:Nat}{es:List (List AV)}{m:Bool}(hq:h q=some ⟨t,es,m⟩)(hp:(es.all (·.all p0))=true):cl h (.own q)=some (.sl (es.map (·.map z0)),[q]):=by
 show cl1 h (.own q)=_
 show (h q).bind _=_
 rw[hq]
 show (if (es.all (·.all p0))=true then _ else _)=_
 rw[if_pos hp]
theorem Ab0(b:BkV)(l:List (List AV)):(bkC b l).all p0=true:=by simp [bkC,p0]
theorem Ab1(b:BkV)(l:List (List AV)):(bkC b l).map z0=bkC b l:=by simp [bkC,z0]
theorem Ab2:bkZ.all p0=true:=by simp [bkZ,p0]
theorem A3q{h:Nat→Option A4}{x:List AV}{q t:Nat}{es:List (List AV)}{m:Bool}{e:Int}(hx:x.all p0=true)(hq:h q=some ⟨t,es,m⟩)(hp:(es.all (·.all p0))=true):clR h (.tup [.agg x,.own q,gI e])=some (.tup [.agg (x.map z0),.sl (es.map (·.map z0)),gI e],[q]):=by
 show (cls h [.agg x,.own q,gI e]).map _=_
 show (((cl h (.agg x)).bind fun x=>((cl h (.own q)).bind fun y=>((some (gI e,[])).bind fun z=>some ([z.1],z.2++[])).bind fun z=>some (y.1 :: z.1,y.2++z.2)).bind fun y=>some (x.1 :: y.1,x.2++y.2)).map _)=_
 rw[A3r hx,Ue hq hp]
 rfl
theorem A3p{h:Nat→Option A4}{x:List AV}{q t q2 t2:Nat}{es es2:List (List AV)}{m m2:Bool}{e:Int}(hx:x.all p0=true)(hq:h q=some ⟨t,es,m⟩)(hp:(es.all (·.all p0))=true)(hq2:h q2=some ⟨t2,es2,m2⟩)(hp2:(es2.all (·.all p0))=true) :
  clR h (.tup [.agg x,.own q,.own q2,gI e])=some (.tup [.agg (x.map z0),.sl (es.map (·.map z0)),.sl (es2.map (·.map z0)),gI e],[q,q2]):=by
 show (((cl h (.agg x)).bind fun x=>((cl h (.own q)).bind fun y=>((cl h (.own q2)).bind fun w=>((some (gI e,[])).bind fun z=>some ([z.1],z.2++[])).bind fun z=>some (w.1 :: z.1,w.2++z.2)).bind fun z=>some (y.1 :: z.1,y.2++z.2)).bind fun y=>some (x.1 :: y.1,x.2++y.2)).map _)=_
 rw[A3r hx,Ue hq hp,Ue hq2 hp2]
 rfl
def B0b(b:BkV)(id to:Int)(j:List EntV)(u:AV):Prop :=
 (∃ e:Int,¬ e=0∧u=.tup [.agg (bkZ.map z0),.sl [],gI e]) ∨
  (∃ j2 l,u=.tup [.agg (bkC b (Ab j2)),.sl (Bo l),gI 0]∧Gl b id j j2 l∧l.map PerV.to=Jp b id to∧(l.length:Int)≤73048∧∃ a,C2 id b.accs=some a)
theorem Ao2{b:BkV}(hb:b.Ok)(hpl:Ly b){j:List EntV}(hj:JOk j){id to bk:Int}(hid:I64 id)(ht:to≤73008)(hbk:I64 bk){hp0:Nat→Option A4}{nx0:Nat} :
  ConI Tryz.prog CtxP 6 [.agg (bkC b (Ab j)),.ex (.slice none 0 0),gI id,gI to,gI bk] hp0 nx0 (fun u h _=>h=hp0∧B0b b id to j u):=by
 refine ConI.close (A3g hb hpl hj hid ht hbk) ?_
 rintro u h n ⟨hk,⟨k,e,he,rfl,h1,h2,h3⟩|⟨j2,l,q,rfl,h1,h2,h3,h4,h5,h6,h7⟩⟩
 ·refine⟨hk,_,_,A3q Ab2 h3 rfl,fun i hi=>?_,.inl ⟨e,he,rfl⟩⟩
  rw[List.mem_singleton.1 hi];exact h1
 ·refine⟨hk,_,_,A3q (Ab0 b (Ab j2)) h3 (Hq l),fun i hi=>?_,.inr ⟨j2,l,by rw[Ab1,Hr],h4,h5,h6,h7⟩⟩
  rw[List.mem_singleton.1 hi];exact h1
def B0a(b:BkV)(id:Int)(X:Int→Int)(Y:Int)(l0:List PerV)(u:AV):Prop :=
 (∃ e:Int,¬ e=0∧u=.tup [.agg (bkZ.map z0),.sl [],.sl [],gI e]) ∨
  (∃ (j2:List EntV) (l2:List PerV) (es:List EntV),u=.tup [.agg (bkC b (Ab j2)),.sl (Bo l2),.sl (Ab es),gI 0]∧RecOk b id X Y l0 l0.length j2 l2∧j2.length≤5000)
theorem Ac7(l:List EntV):(Ab l).map (·.map z0)=Ab l:=Fk fun x hx=>by obtain⟨e,_,rfl⟩:=List.mem_map.1 hx;exact (A41 e).2
theorem Ac6(l:List EntV):((Ab l).all (·.all p0))=true:=Fj fun x hx=>by obtain⟨e,_,rfl⟩:=List.mem_map.1 hx;exact (A41 e).1
theorem Ao1{b:BkV}(hb:b.Ok)(hpl:Ly b){id v bk:Int}(hid:I64 id)(hbk:I64 bk){X:Int→Int}{Y:Int}{m:Nat}{j:List EntV}{l:List PerV}(hr:RecOk b id X Y l m j l)(hj:j.length≤5000)(hm:m≤l.length)(hl:l.length≤100000)(ht:∀ p∈l,p.to<73048)
  (h1:∀ k p,l[k]?=some p→k<m→p.to<v) (h2:∀ k p,l[k]?=some p→m≤k→v≤p.to) {hp0:Nat→Option A4} {nx0:Nat} :
  ConI Tryz.prog CtxP 9 [.agg (bkC b (Ab j)),.sl (Bo l),gI id,gI v,gI bk] hp0 nx0 (fun u h _=>h=hp0∧B0a b id X Y l u):=by
 refine ConI.close (Re hb hpl hid hbk hr hj hm hl ht h1 h2) ?_
 rintro u h n ⟨hk,⟨k,k2,e,he,rfl,g1,g2,g3,g4⟩|⟨j2,l2,q,q2,es,rfl,g1,g2,g3,g4,g5,g6⟩⟩
 ·refine⟨hk,_,_,A3p Ab2 g3 rfl g4 rfl,fun i hi=>?_,.inl ⟨e,he,rfl⟩⟩
  simp only[List.mem_cons,List.not_mem_nil,or_false] at hi
  rcases hi with rfl|rfl<;>assumption
 ·refine⟨hk,_,_,A3p (Ab0 b (Ab j2)) g3 (Hq l2) g4 (Ac6 es),fun i hi=>?_,.inr ⟨j2,l2,es,by rw[Ab1,Hr,Ac7],g5,g6⟩⟩
  simp only[List.mem_cons,List.not_mem_nil,or_false] at hi
  rcases hi with rfl|rfl<;>assumption
structure N7(b:BkV)(id to:Int)(jf ja:List EntV)(l:List PerV):Prop where
 f:JOk jf
 a:JOk ja
 inv:(Zb b id).Inv l.length (Rk id jf) (Rk id ja) (Aj id jf) (Aj id ja) l
 ac:∀ p∈l,p.acc=id
 ok:∀ p∈l,p.Ok
 tos:l.map PerV.to=Jp b id to
 len:l.length≤100000
theorem A1x{b:BkV}{id to:Int}{j0 jf:List EntV}{l:List PerV}(h0:JOk j0)(h:Gl b id j0 jf l)(ht:l.map PerV.to=Jp b id to)(hl:(l.length:Int)≤73048):N7 b id to jf j0 l :=
 ⟨h.jo,h0,h.inv,h.ac,h.ok,ht,by omega⟩
def Hm(l:List PerV)(v:Int):Nat:=l.findIdx fun p=>decide (v≤p.to)
theorem A77(l:List PerV)(v:Int):Hm l v≤l.length:=List.findIdx_le_length
theorem Si{l:List PerV}{v:Int}{k:Nat}{p:PerV}(h:l[k]?=some p)(hk:k<Hm l v):p.to<v:=by
 have hlt:=(List.getElem?_eq_some_iff.1 h).1
 have e:=(List.getElem?_eq_some_iff.1 h).2
 have h4:¬ v≤(l[k]'hlt).to:=by simpa using List.not_of_lt_findIdx hk
 rw[e] at h4
 omega
theorem A76{l:List PerV}{v:Int}(hup:∀ (i j:Nat) q r,i<j→l[i]?=some q→l[j]?=some r→q.to<r.to){k:Nat}{p:PerV}(h:l[k]?=some p)(hk:Hm l v≤k):v≤p.to:=by
 have hlt:=(List.getElem?_eq_some_iff.1 h).1
 have hf:Hm l v<l.length:=by omega
 have h1:v≤(l[Hm l v]'hf).to:=of_decide_eq_true (List.findIdx_getElem (p:=fun p:PerV=>decide (v≤p.to)) (xs:=l) (w:=hf))
 rcases Nat.lt_or_ge (Hm l v) k with h2|h2
 ·have:=hup (Hm l v) k _ p h2 (List.getElem?_eq_getElem hf) h
  omega
 ·have:Hm l v=k:=by omega
  subst this
  have e:=(List.getElem?_eq_some_iff.1 h).2
  rw[← e]
  exact h1
theorem A7q{b:BkV}{id to:Int}{jf ja:List EntV}{l:List PerV}(h:N7 b id to jf ja l){x:EntV}(hx:x.Ok)(hb:x.booked≤73048)(hn:jf.length≤4096){c:Int}(hc:U64 c) :
  RecOk b id (fun t=>Rk id ja t+if x.value≤t then As id x.legs else 0) (Aj id ja+As id x.legs) l (Hm l x.value) (jf++[Co x jf.length c]) l:=by
 refine⟨Lj h.f hx hn hc, ?_,h.ac,h.ok,rfl⟩
 refine Acz h.inv (fun i q hi hq=>Si hq hi) (fun d=>?_) (fun d=>Q64.refl _) ?_ (Q64.refl _)
 ·show Q64 (B6 73048 d id (jf++[Co x jf.length c])) _
  rw[Hp _ _ _ _ _ _ _ hb]
  exact Q64.refl _
 ·rw[Gn]
  exact Q64.refl _
theorem A7p{b:BkV}{id to:Int}{jf ja:List EntV}{l:List PerV}(h:N7 b id to jf ja l){x:EntV}(hx:x.Ok)(hb:x.booked≤73048)(hn:ja.length≤4096){c:Int}(hc:U64 c){j2:List EntV}{l2:List PerV}
  (hr:RecOk b id (fun t=>Rk id ja t+if x.value≤t then As id x.legs else 0) (Aj id ja+As id x.legs) l l.length j2 l2):N7 b id to j2 (ja++[Co x ja.length c]) l2:=by
 have hlen:=hr.len
 refine⟨hr.jo,Lj h.a hx hn hc, ?_,hr.ac,hr.ok,by rw[hr.tos,h.tos],by rw[hlen];exact h.len⟩
 have e1:Rk id (ja++[Co x ja.length c])=fun t=>Rk id ja t+if x.value≤t then As id x.legs else 0:=by
  funext t
  exact Hp _ _ _ _ _ _ _ hb
 have e2:Aj id (ja++[Co x ja.length c])=Aj id ja+As id x.legs:=Gn _ _ _ _ _
 rw[e1,e2,hlen]
 exact hr.inv
theorem Aea{b:BkV}{id to:Int}{jf ja jw:List EntV}{l w:List PerV}(h:N7 b id to jf ja l)(hw:Gl b id ja jw w)(ht:w.map PerV.to=Jp b id to) :
  w.length=l.length∧(∀ (i:Nat) p q,l[i]?=some p→w[i]?=some q→bare p=bare q)∧wrap64 (-(Aj id jw))=wrap64 (-(Aj id jf)):=by
 have htt:l.map PerV.to=w.map PerV.to:=by rw[h.tos,ht]
 have hlen:l.length=w.length:=by have:=congrArg List.length htt;simpa using this
 have hs:=Ad0 h.inv hw.inv (fun d=>Q64.refl _) htt
 refine⟨hlen.symm,hs, ?_⟩
 have:=A7d h.inv hw.inv (Q64.refl _) hlen hs
 exact Tm this.symm.neg
theorem Ajc{b:BkV}{id to:Int}:∀ (n:Nat) (d:Int),(to+1-d).toNat≤n→∀ t∈H2 b id to d,t≤to:=by
 intro n
 induction n with
 | zero =>
  intro d hd t ht
  rw[Ff (by omega)] at ht
  cases ht
 | succ n ih =>
  intro d hd t ht
  by_cases h:0≤d∧d≤to
  ·rw[Up h.1 h.2] at ht
   rcases List.mem_append.1 ht with ht|ht
   ·split at ht
    ·rw[List.mem_singleton.1 ht];exact h.2
    ·cases ht
   ·by_cases h2:0≤meF (d+1)
    ·have:=K0 h2
     exact ih _ (by omega) t ht
    ·rw[Ff (fun h3=>h2 h3.1)] at ht
     cases ht
  ·rw[Ff h] at ht
   cases ht
theorem Ac3{b:BkV}{id to:Int}:∀ t∈Jp b id to,t≤to:=by
 intro t ht
 unfold Jp at ht
 split at ht
 ·cases ht
 ·split at ht
  ·cases ht
  ·exact Ajc _ _ (Nat.le_refl _) t ht
theorem Al0{b:BkV}{id to:Int}{jf ja:List EntV}{l:List PerV}(h:N7 b id to jf ja l)(ht:to≤73008):∀ p∈l,p.to<73048:=by
 intro p hp
 have h1:p.to∈l.map PerV.to:=List.mem_map_of_mem hp
 rw[h.tos] at h1
 have:=Ac3 _ h1
 omega
theorem A1w{b:BkV}{id to:Int}{jf ja:List EntV}{l:List PerV}(h:N7 b id to jf ja l):∀ k p,l[k]?=some p→(Bu b (Bp jf id) (C3 l k) id p.to).2=0∧bare (Bu b (Bp jf id) (C3 l k) id p.to).1=bare p:=by
 intro k p hk
 obtain⟨q,h1,h2⟩:=h.inv.p k p (List.getElem?_eq_some_iff.1 hk).1 hk
 change (if (Bu b (Bp jf id) (C3 l k) id p.to).2=0 then some (Bu b (Bp jf id) (C3 l k) id p.to).1 else none)=some q at h1
 split at h1
 ·rename_i h3
  cases h1
  exact⟨h3,h2⟩
 ·cases h1
def Mh:List PerV→List PerV→List PerV
 | w :: ws,p :: ps=>{ w with cnt:=p.cnt } :: Mh ws ps
 | ws,_=>ws
theorem Abm:∀ (w l:List PerV),w.length=l.length→(∀ (i:Nat) p q,l[i]?=some p→w[i]?=some q→bare p=bare q)→Mh w l=l
 | [],[],_,_=>rfl
 | [],_ :: _,h,_=>by cases h
 | _ :: _,[],h,_=>by cases h
 | a :: w,p :: l,h,hs=>by
  have h0:bare p=bare a:=hs 0 p a rfl rfl
  have ht:=Abm w l (by simpa using h) fun i x y h1 h2=>hs (i+1) x y h1 h2
  show { a with cnt:=p.cnt } :: Mh w l=p :: l
  rw[ht]
  congr 1
  obtain⟨a1,a2,a3,a4,a5,a6,a7,a8,a9,a10,a11⟩:=a
  obtain⟨b1,b2,b3,b4,b5,b6,b7,b8,b9,b10,b11⟩:=p
  unfold bare at h0
  simp only[PerV.mk.injEq] at h0
  obtain⟨rfl,rfl,rfl,rfl,rfl,rfl,_,rfl,rfl,rfl,rfl⟩:=h0
  rfl
def I1(w l:List PerV)(k:Nat):List PerV:=Mh (w.take k) (l.take k)++w.drop k
theorem Kz:∀ (w l:List PerV),(Mh w l).length=w.length
 | [],l=>by cases l<;>rfl
 | a :: w,[]=>rfl
 | a :: w,p :: l=>by show (Mh w l).length+1=_;rw[Kz w l];rfl
theorem S5:∀ (w l:List PerV) (a p:PerV),w.length=l.length→Mh (w++[a]) (l++[p])=Mh w l++[{ a with cnt:=p.cnt }]
 | [],[],a,p,_=>rfl
 | [],_ :: _,_,_,h=>by cases h
 | _ :: _,[],_,_,h=>by cases h
 | x :: w,y :: l,a,p,h=>by
  show { x with cnt:=y.cnt } :: Mh (w++[a]) (l++[p])={ x with cnt:=y.cnt } :: (Mh w l++[{ a with cnt:=p.cnt }])
  rw[S5 w l a p (by simpa using h)]
theorem Abl(w l:List PerV)(k:Nat):(I1 w l k).length=w.length:=by
 unfold I1
 rw[List.length_append,Kz,List.length_take,List.length_drop]
 omega
theorem Abk{w l:List PerV}{k:Nat}{a:PerV}(h:w[k]?=some a):(I1 w l k)[k]?=some a:=by
 have hlt:=(List.getElem?_eq_some_iff.1 h).1
 unfold I1
 have e:(Mh (w.take k) (l.take k)).length=k:=by rw[Kz,List.length_take];omega
 rw[List.getElem?_append_right (by omega),e,Nat.sub_self,List.getElem?_drop,Nat.add_zero]
 exact h
theorem A6l{w l:List PerV}{k:Nat}{a p:PerV}(h:w[k]?=some a)(h2:l[k]?=some p):(I1 w l k).set k { a with cnt:=p.cnt }=I1 w l (k+1):=by
 obtain⟨hlt,ha⟩:=List.getElem?_eq_some_iff.1 h
 obtain⟨hlt2,hp⟩:=List.getElem?_eq_some_iff.1 h2
 unfold I1
 have e:(Mh (w.take k) (l.take k)).length=k:=by rw[Kz,List.length_take];omega
 rw[List.set_append_right _ _ (by omega),e,Nat.sub_self,List.drop_eq_getElem_cons hlt,ha,List.take_succ_eq_append_getElem hlt,List.take_succ_eq_append_getElem hlt2,ha,hp,S5 _ _ _ _ (by rw[List.length_take,List.length_take];omega)]
 simp
theorem A6m(w l:List PerV):I1 w l 0=w:=by unfold I1;simp [Mh]
theorem Abj{w l:List PerV}(h:w.length=l.length)(hs:∀ (i:Nat) p q,l[i]?=some p→w[i]?=some q→bare p=bare q):I1 w l w.length=l:=by
 unfold I1
 rw[List.take_length,h,List.take_length,← h,List.drop_length,List.append_nil]
 exact Abm w l h hs
end Go.Proofs.YtbhffbgbhgjdiaaGreatDoor
