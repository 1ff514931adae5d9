/-
  The law, walked. Conditions: those that each theorem states.
-/
import Derived.Test.YtbhffbgbhgjdiaaGreatDoorM36
import Derived.Test.YtbhffbgbhgjdiaaGreatDoorM28
import Derived.Test.YtbhffbgbhgjdiaaGreatDoorM11
import Derived.Test.YtbhffbgbhgjdiaaGreatDoorM23
set_option linter.unusedSimpArgs false
set_option linter.unusedVariables false
namespace Go.Proofs.YtbhffbgbhgjdiaaGreatDoor
open Go.RowKit
set_option maxRecDepth 100000
structure Avk(b:BkV)(id to bk:Int)(es:List EntV)(k:Nat)(tm:Nat→AV)(hp:Nat→Option A4)(nx:Nat)(jf ja:List EntV)(l:List PerV)(q r:Nat):Prop where
 g1:tm 1=gI id
 g2:tm 2=.sl (Ab es)
 g7:tm 7=gI to
 g9:tm 9=gI bk
 g10:tm 10=.pt q 0 0
 g11:tm 11=.sl (Bo l)
 g13:tm 13=.pt r 0 0
 g14:tm 14=gI k
 hq:hp q=some ⟨33,[bkC b (Ab jf)],true⟩
 hr:hp r=some ⟨33,[bkC b (Ab ja)],true⟩
 lt:q<nx∧r<nx∧¬ q=r
 ok:N7 b id to jf ja l
set_option maxHeartbeats 8000000 in
theorem Ww(ce:Cn 5 [] (.val (gB true))){b:BkV}(hb:b.Ok)(hpl:Ly b){j0:List EntV}(hj:JOk j0){id:Int}(hid:I64 id){es:List EntV}(hes:JOk es) :
  Cn 3 [.agg (bkC b (Ab j0)),gI id,.sl (Ab es)] (.val (gB true)):=by
 obtain⟨sb,_,cs⟩:=D.Agj hb hj
 have n1:=hj.n
 have n2:=hes.n
 have n3:=hb.n5
 unfold Sz at n1 n2 n3
 have l1:=Bt j0
 have l2:=Bt es
 have l3:=Gt b.accs
 unfold bkC at cs
 unfold bkC
 refine cvS Tryz.func3 ?_
 (repeat' (first|exact trivial|refine stR ?_|((first|refine cv (cs) ?_|refine cv (ce) ?_|refine stp ?_|refine A0 (fun h=>?_) ?_|(refine gw (fun h=>?_) (fun h=>?_)<;>(try (exfalso;omega))))<;>(try (refine wS ?_)))))
 all_goals first
  | (simp only[sxd,z0,p0,Nat.reduceEqDiff,↓reduceIte,Tryz.f3, *];done)
  | skip
 all_goals refine A9 (fun n tm hp nx=>∃ (k:Nat) (m:Int),n=j0.length-k∧k≤j0.length∧tm 1=gI id∧tm 2=.sl (Ab es)∧tm 3=.pt 0 0 0∧hp 0=some ⟨33,[bkC b (Ab j0)],true⟩∧0<nx∧tm 7=gI m∧tm 8=gI k) j0.length ⟨0,0,rfl,Nat.zero_le _,byS,byS,byS,by unfold bkC;exact byQ,by omega,byS,byS⟩ ?_
 all_goals
  clear cs
  rintro n tm hp nx ⟨k,m,hnn,hk,g1,g2,g3,h0,hx,g7,g8⟩
  unfold bkC at h0
  by_cases hlt:k<j0.length
  ·have e1:=Ch (List.getElem?_eq_getElem hlt)
   generalize j0[k]=e at *
   (repeat' (first|exact trivial|refine stR ?_|((first|refine stp ?_|refine A0 (fun h=>?_) ?_|(refine gw (fun h=>?_) (fun h=>?_)<;>(try (exfalso;omega))))<;>(try (refine wS ?_)))))
   all_goals exact A3 (j0.length-(k+1)) (by omega) ⟨k+1,_,rfl,by omega,byS,byS,byS,by unfold bkC;exact byQ,by omega,byS,byS⟩
  ·obtain⟨to,hto⟩:∃ to,IntKind.i64.wrap (m+31)=to:=⟨_,rfl⟩
   have ito:I64 to:=hto▸Sn _
   by_cases hgt:73008<to
   ·(repeat' (first|exact trivial|refine stR ?_|((first|refine cv (ce) ?_|refine stp ?_|refine A0 (fun h=>?_) ?_|(refine gw (fun h=>?_) (fun h=>?_)<;>(try (exfalso;omega))))<;>(try (refine wS ?_)))))
    all_goals simp only[sxd,z0,p0,Nat.reduceEqDiff,↓reduceIte,Tryz.f3, *]
   have hle:to≤73008:=by omega
   have hbk:I64 (to+1):=by unfold I64 at *;omega
   have hw:IntKind.i64.wrap (to+1)=to+1:=by rw[IntKind.wrap_i64];unfold I64 at ito;omega
   obtain⟨bk,hb1⟩:∃ bk,to+1=bk:=⟨_,rfl⟩
   rw[hb1] at hbk
   replace hw:IntKind.i64.wrap (to+1)=bk:=hw.trans hb1
   have hb2:=Lib.hid hb1
   clear hb1
   (repeat' (first|exact trivial|refine stR ?_|((first|refine Jb (r:=12) ?_|refine stp ?_|refine A0 (fun h=>?_) ?_|(refine gw (fun h=>?_) (fun h=>?_)<;>(try (exfalso;omega))))<;>(try (refine wS ?_)))))
   refine⟨?_⟩
   refine G3 ?_
   refine Bh base [_,_,_,_] 0 _ ?_
   (refine wS ?_)
   refine Pz rfl rfl rfl (by rfl) (Ao2 hb hpl hj hid hle hbk) ?_
   rintro u hp1 nx1 ⟨rfl,hQ⟩ hnx
   rcases hQ with⟨e,he,rfl⟩|⟨jf,l,rfl,hS,hE,hL,a,hfa⟩
   ·rw[show bkZ.map z0=[.sl [],.sl [],.sl [],gI 0,gI 0,gI 0,gI 0,gI 0,gI 0,gI 0,gI 0,gI 0,gI 0,gI 0,gI 0,gI 0,gI 0,.sl [],.sl [],.sl [],.sl [],.sl []] from rfl]
    refine Bh base [_,_,_,_,_,_,_,_] _ _ ?_
    (refine wS ?_)
    refine Cd ?_
    show awp Tryz.prog CtxP _ _ ⟨_,_,_⟩
    (repeat' (first|exact trivial|refine stR ?_|((first|refine cv (ce) ?_|refine stp ?_|refine A0 (fun h=>?_) ?_|(refine gw (fun h=>?_) (fun h=>?_)<;>(try (exfalso;omega))))<;>(try (refine wS ?_)))))
    all_goals simp only[sxd,z0,p0,Nat.reduceEqDiff,↓reduceIte,Tryz.f3, *]
   ·have hI:=Lib.hid (A1x hj hS hE hL)
    have hfh:=Lib.hid hfa
    clear hS hE hL hfa
    unfold bkC
    refine Bh base [_,_,_,_,_,_,_,_] _ _ ?_
    (refine wS ?_)
    refine Cd ?_
    show awp Tryz.prog CtxP _ _ ⟨_,_,_⟩
    (repeat' (first|exact trivial|refine stR ?_|((first|refine stp ?_|refine A0 (fun h=>?_) ?_|(refine gw (fun h=>?_) (fun h=>?_)<;>(try (exfalso;omega))))<;>(try (refine wS ?_)))))
    refine A9 (fun n tm hp nx=>∃ (k:Nat) (jf ja:List EntV) (l:List PerV) (q r:Nat),n=es.length-k∧k≤es.length∧Avk b id to bk es k tm hp nx jf ja l q r) es.length ⟨0,jf,j0,l,nx1+9,nx1+13+2+1,rfl,Nat.zero_le _,⟨byS,byS,byS,byS,byS,byS,byS,byS,by unfold bkC;exact byQ,by unfold bkC;exact byQ,by omega,hI.out⟩⟩ ?_
    clear hI h0 hx g1 g2 g3 g7 g8 hk hlt hnn hnx hto
    rintro n tm hp nx ⟨k,jf,ja,l,q,r,rfl,hk,hR⟩
    have hI:=hR.ok
    have g1:=hR.g1
    have g2:=hR.g2
    have g7:=hR.g7
    have g9:=hR.g9
    have g10:=hR.g10
    have g11:=hR.g11
    have g13:=hR.g13
    have g14:=hR.g14
    have hq:=hR.hq
    have hr:=hR.hr
    obtain⟨r1,r2,r3⟩:=hR.lt
    clear hR
    have s1:¬ r=q:=by omega
    have f1:=Hq l
    have f2:=Hr l
    unfold bkC at hq hr
    by_cases hlt:k<es.length
    ·have e1:=Ch (List.getElem?_eq_getElem hlt)
     have hoe:=hes.e _ (List.getElem_mem hlt)
     generalize es[k]=e at *
     have cr:=Ag6 e bk
     have okx:=Ag5 hoe hbk
     have hxb:(Js e bk).booked≤73048:=by show bk≤73048;have:=hb2.out;omega
     have hxa:(Js e bk).auth=1:=rfl
     obtain⟨x,hx⟩:∃ x,Js e bk=x:=⟨_,rfl⟩
     rw[hx] at cr okx hxb hxa
     clear hx hoe
     obtain⟨l1,n1,hn1,cp⟩:=Nz hb jf hI.f x okx hxa
     obtain⟨l2,n2,hn2,cp2⟩:=Nz hb ja hI.a x okx hxa
     have hRnd:=Lib.hid hI
     unfold Al at cr cp cp2
     unfold bkR at cp cp2
     by_cases h1:n1=0
     ·subst h1
      obtain⟨_,hjn,c1,hc1,rfl⟩:=hn1 rfl
      have hrk:=A7q hI okx hxb hjn hc1
      have hup:=hI.inv.up
      have hli:=hI.len
      have hto2:=Al0 hI hle
      have hjl:(jf++[Co x jf.length c1]).length≤5000:=by rw[List.length_append,List.length_singleton];omega
      have hNx:=Lib.hid fun (hjan:ja.length≤4096) c (hc:U64 c) j2 l2 hr2=>A7p (j2:=j2) (l2:=l2) hI okx hxb hjan hc hr2
      rw[if_pos rfl] at cp
      generalize jf++[Co x jf.length c1]=j1 at *
      have hRc:=Lib.hid fun hp0 nx0=>Ao1 (hp0:=hp0) (nx0:=nx0) hb hpl hid hbk hrk hjl (A77 l x.value) hli hto2 (fun k p h1 h2=>Si h1 h2) (fun k p h1 h2=>A76 hup h1 h2)
      replace hn2:=Lib.hid hn2
      clear hn1 hrk hup hli hto2 hjl hI okx hxb hxa hRnd hc1 hjn
      unfold bkC at cp
      (repeat' (first|exact trivial|refine stR ?_|((first|refine cv (cr) ?_|refine cv (cp) ?_|refine Jb (r:=22) ?_|refine stp ?_|refine A0 (fun h=>?_) ?_|(refine gw (fun h=>?_) (fun h=>?_)<;>(try (exfalso;omega))))<;>(try (refine wS ?_)))))
      refine⟨?_⟩
      refine G3 ?_
      refine Bh base [_,_,_,_,_,_] 0 _ ?_
      (refine wS ?_)
      refine Pz rfl rfl rfl (by rfl) (hRc.out _ _) ?_
      rintro u hp1 nx1 ⟨rfl,hQ⟩ hnx
      clear cr cp hRc
      rcases hQ with⟨e',he',rfl⟩|⟨j2,l2',es2,rfl,hr2,hlen2⟩
      ·rw[show bkZ.map z0=[.sl [],.sl [],.sl [],gI 0,gI 0,gI 0,gI 0,gI 0,gI 0,gI 0,gI 0,gI 0,gI 0,gI 0,gI 0,gI 0,gI 0,.sl [],.sl [],.sl [],.sl [],.sl []] from rfl]
       refine Bh base [_,_,_,_,_,_,_,_,_,_] _ _ ?_
       (refine wS ?_)
       refine Cd ?_
       show awp Tryz.prog CtxP _ _ ⟨_,_,_⟩
       by_cases h2:n2=0
       ·rw[if_pos h2] at cp2
        unfold bkC at cp2
        (repeat' (first|exact trivial|refine stR ?_|((first|refine cv (cp2) ?_|refine cv (ce) ?_|refine stp ?_|refine A0 (fun h=>?_) ?_|(refine gw (fun h=>?_) (fun h=>?_)<;>(try (exfalso;omega))))<;>(try (refine wS ?_)))))
        all_goals simp only[sxd,z0,p0,Nat.reduceEqDiff,↓reduceIte,Tryz.f3, *]
       ·rw[if_neg h2,show bkZ.map z0=[.sl [],.sl [],.sl [],gI 0,gI 0,gI 0,gI 0,gI 0,gI 0,gI 0,gI 0,gI 0,gI 0,gI 0,gI 0,gI 0,gI 0,.sl [],.sl [],.sl [],.sl [],.sl []] from rfl] at cp2
        (repeat' (first|exact trivial|refine stR ?_|((first|refine cv (cp2) ?_|refine cv (ce) ?_|refine stp ?_|refine A0 (fun h=>?_) ?_|(refine gw (fun h=>?_) (fun h=>?_)<;>(try (exfalso;omega))))<;>(try (refine wS ?_)))))
        all_goals simp only[sxd,z0,p0,Nat.reduceEqDiff,↓reduceIte,Tryz.f3, *]
      ·unfold bkC
       refine Bh base [_,_,_,_,_,_,_,_,_,_] _ _ ?_
       (refine wS ?_)
       refine Cd ?_
       show awp Tryz.prog CtxP _ _ ⟨_,_,_⟩
       by_cases h2:n2=0
       ·subst h2
        obtain⟨_,hjan,c2,hc2,rfl⟩:=hn2.out rfl
        have hnew:=Lib.hid (hNx.out hjan c2 hc2 _ _ hr2)
        generalize ja++[Co x ja.length c2]=ja2 at *
        rw[if_pos rfl] at cp2
        unfold bkC at cp2
        clear hNx hn2 hr2 ce hjan hc2
        (repeat' (first|exact trivial|refine stR ?_|((first|refine cv (cp2) ?_|refine stp ?_|refine A0 (fun h=>?_) ?_|(refine gw (fun h=>?_) (fun h=>?_)<;>(try (exfalso;omega))))<;>(try (refine wS ?_)))))
        all_goals exact A3 (es.length-(k+1)) (by omega) ⟨k+1,j2,ja2,l2',q,r,rfl,by omega,⟨byS,byS,byS,byS,byS,byS,byS,byS,by unfold bkC;exact byQ,by unfold bkC;exact byQ,by omega,hnew.out⟩⟩
       ·rw[if_neg h2,show bkZ.map z0=[.sl [],.sl [],.sl [],gI 0,gI 0,gI 0,gI 0,gI 0,gI 0,gI 0,gI 0,gI 0,gI 0,gI 0,gI 0,gI 0,gI 0,.sl [],.sl [],.sl [],.sl [],.sl []] from rfl] at cp2
        (repeat' (first|exact trivial|refine stR ?_|((first|refine cv (cp2) ?_|refine cv (ce) ?_|refine stp ?_|refine A0 (fun h=>?_) ?_|(refine gw (fun h=>?_) (fun h=>?_)<;>(try (exfalso;omega))))<;>(try (refine wS ?_)))))
        all_goals simp only[sxd,z0,p0,Nat.reduceEqDiff,↓reduceIte,Tryz.f3, *]
     ·rw[if_neg h1,show bkZ.map z0=[.sl [],.sl [],.sl [],gI 0,gI 0,gI 0,gI 0,gI 0,gI 0,gI 0,gI 0,gI 0,gI 0,gI 0,gI 0,gI 0,gI 0,.sl [],.sl [],.sl [],.sl [],.sl []] from rfl] at cp
      clear cp2 hn1 hn2 hI okx hxb hxa ce
      unfold bkC at cp
      (repeat' (first|exact trivial|refine stR ?_|((first|refine cv (cr) ?_|refine cv (cp) ?_|refine stp ?_|refine A0 (fun h=>?_) ?_|(refine gw (fun h=>?_) (fun h=>?_)<;>(try (exfalso;omega))))<;>(try (refine wS ?_)))))
      all_goals exact A3 (es.length-(k+1)) (by omega) ⟨k+1,jf,ja,l,q,r,rfl,by omega,⟨byS,byS,byS,byS,byS,byS,byS,byS,by unfold bkC;exact byQ,by unfold bkC;exact byQ,by omega,hRnd.out⟩⟩
    ·(repeat' (first|exact trivial|refine stR ?_|((first|refine Jb (r:=29) ?_|refine stp ?_|refine A0 (fun h=>?_) ?_|(refine gw (fun h=>?_) (fun h=>?_)<;>(try (exfalso;omega))))<;>(try (refine wS ?_)))))
     refine⟨?_⟩
     refine G3 ?_
     refine Bh base [_,_,_,_] 0 _ ?_
     (refine wS ?_)
     refine Pz rfl rfl rfl (by rfl) (A3g hb hpl hI.a hid hle hbk) ?_
     rintro u hp1 nx1 ⟨hk1,hM⟩ hnx
     have hq1:hp1 q=_:=(hk1 q (by omega)).trans (by exact byQ)
     clear hk1
     rcases hM with⟨kk,e,he,rfl,k1,k2,k3⟩|⟨jw,w,qw,rfl,k1,k2,k3,hSw,hEw,hLw,_⟩
     ·unfold bkZ
      refine Bh base [_,_,_,_,_,_,_,_] _ _ ?_
      (refine wS ?_)
      refine Cd ?_
      show awp Tryz.prog CtxP _ _ ⟨_,_,_⟩
      (repeat' (first|exact trivial|refine stR ?_|((first|refine cv (ce) ?_|refine stp ?_|refine A0 (fun h=>?_) ?_|(refine gw (fun h=>?_) (fun h=>?_)<;>(try (exfalso;omega))))<;>(try (refine wS ?_)))))
      all_goals simp only[sxd,z0,p0,Nat.reduceEqDiff,↓reduceIte,Tryz.f3, *]
     ·obtain⟨hlen,hbare,hbal⟩:=Aea hI hSw hEw
      have m1:=Cz w
      have m2:=Cz l
      have hSh:=Lib.hid hSw
      have hIh:=Lib.hid hI
      have hbr:=Lib.hid hbare
      have hbl:=Lib.hid hbal
      have hlw:w.length≤73048:=by omega
      clear hSw hEw hbare hbal hI hLw
      unfold bkC
      refine Bh base [_,_,_,_,_,_,_,_] _ _ ?_
      (refine wS ?_)
      refine Cd ?_
      show awp Tryz.prog CtxP _ _ ⟨_,_,_⟩
      (repeat' (first|exact trivial|refine stR ?_|((first|refine stp ?_|refine A0 (fun h=>?_) ?_|(refine gw (fun h=>?_) (fun h=>?_)<;>(try (exfalso;omega))))<;>(try (refine wS ?_)))))
      have j1:qw<nx1:=by omega
      refine A9 (fun n tm hp nx=>∃ i:Nat,n=l.length-i∧i≤l.length∧tm 1=gI id∧tm 10=.pt q 0 0∧hp q=some ⟨33,[bkC b (Ab jf)],true⟩∧tm 11=.sl (Bo l)∧tm 24=.pt (nx1+9) 0 0∧hp (nx1+9)=some ⟨33,[bkC b (Ab jw)],true⟩∧tm 25=.own qw∧hp qw=some ⟨52,Bo (I1 w l i),true⟩∧tm 27=gI i∧nx1+9<nx) l.length ⟨0,rfl,Nat.zero_le _,byS,byS,by unfold bkC;exact byQ,byS,byS,by unfold bkC;exact byQ,byS,by rw[A6m];exact byQ,byS,by omega⟩ ?_
      have t1:¬ q=qw:=by omega
      have t2:¬ nx1+9=qw:=by omega
      have t3:¬ nx1+9=q:=by omega
      have t4:¬ qw=nx1+9:=by omega
      have t5:¬ qw=q:=by omega
      have t6:¬ q=nx1+9:=by omega
      clear hq hr hq1 k3 g1 g2 g7 g9 g10 g11 g13 g14 hk hlt
      rintro n tm' hp' nx' ⟨i,rfl,hi,g1,g10,hq,g11,g24,hw24,g25,hqw,g27,hn⟩
      have m3:=Cz (I1 w l i)
      rw[Abl] at m3
      unfold bkC at hq hw24
      by_cases hil:i<w.length
      ·have hil2:i<l.length:=by omega
       have e1:=Ed (Abk (l:=l) (List.getElem?_eq_getElem hil))
       have e2:=Ed (List.getElem?_eq_getElem hil2)
       have hset:∀ z:PerV,(Bo (I1 w l i)).set i (Cc z)=Bo ((I1 w l i).set i z):=fun z=>Z2 _ _ _
       have hs1:=hset { w[i] with cnt:=l[i].cnt }
       rw[A6l (List.getElem?_eq_getElem hil) (List.getElem?_eq_getElem hil2)] at hs1
       unfold Cc at hs1
       dsimp only at hs1
       clear hset ce
       generalize w[i]=a1 at *
       generalize l[i]=p1 at *
       have hK:=Lib.hid (show I1 w l (i+1)=I1 w l (i+1) from rfl)
       generalize I1 w l i=K at *
       (repeat' (first|exact trivial|refine stR ?_|((first|refine stp ?_|refine A0 (fun h=>?_) ?_|(refine gw (fun h=>?_) (fun h=>?_)<;>(try (exfalso;omega))))<;>(try (refine wS ?_)))))
       all_goals exact A3 (l.length-(i+1)) (by omega) ⟨i+1,rfl,by omega,byS,byS,by unfold bkC;exact byQ,byS,byS,by unfold bkC;exact byQ,byS,byQ,byS,by omega⟩
      ·have hie:i=w.length:=by omega
       subst hie
       rw[Abj hlen hbr.out] at hqw m3
       obtain⟨a2,hfa⟩:∃ a,C2 id b.accs=some a:=⟨_,hfh.out⟩
       have zl:Sz l.length:=by unfold Sz;omega
       have c1:=Wu l zl
       have c2:=A0f jw hSh.out.jo.n (fun e he=>(hSh.out.jo.e e he).n) id
       have c3:=A0f jf hIh.out.f.n (fun e he=>(hIh.out.f.e e he).n) id
       have c4:=A5f hb jf hIh.out.f l zl id hIh.out.ac hIh.out.ok hfa (A1w hIh.out)
       rw[hbl.out] at c2
       generalize wrap64 (-(Aj id jf))=W0 at *
       unfold bkC at c4
       clear hSh hIh hbr hbl hfa hfh zl
       (repeat' (first|exact trivial|refine stR ?_|((first|refine cv (c1) ?_|refine cv (c2) ?_|refine cv (c3) ?_|refine cv (c4) ?_|refine cv (ce) ?_|refine stp ?_|refine A0 (fun h=>?_) ?_|(refine gw (fun h=>?_) (fun h=>?_)<;>(try (exfalso;omega))))<;>(try (refine wS ?_)))))
       all_goals simp only[sxd,z0,p0,Nat.reduceEqDiff,↓reduceIte,Tryz.f3, *]
end Go.Proofs.YtbhffbgbhgjdiaaGreatDoor
