/-
  Parts of the proof: Z1 Z6 Z2 Z3 Z7. Conditions: those that each theorem states.
-/
import Derived.Test.YtbhffbgbhgjdiaaGreatDoorM12
import Derived.Test.YtbhffbgbhgjdiaaGreatDoorM11
import Derived.Test.YtbhffbgbhgjdiaaGreatDoorGEng2
import Derived.Test.YtbhffbgbhgjdiaaGreatDoorM9
import Derived.Test.YtbhffbgbhgjdiaaGreatDoorM4
import Derived.Test.YtbhffbgbhgjdiaaGreatDoorM4
import Derived.Shelf.Spec.BitsCarry
set_option linter.unusedSimpArgs false
set_option linter.unusedVariables false
namespace Go.Proofs.YtbhffbgbhgjdiaaGreatDoor
open Go.RowKit
set_option maxRecDepth 100000
noncomputable def Afl:List AV→Option (AV×Eff)
 | [.ex (.int .u64 x),.ex (.int .u64 y),.ex (.int .u64 c)] =>
  bif decide (0≤x∧0≤y∧0≤c∧c≤1) then some (.tup [.ex (.int .u64 ((x+y+c) % 18446744073709551616)),.ex (.int .u64 ((x+y+c) / 18446744073709551616))],.none) else none
 | _=>none
noncomputable def Afn:List AV→Option (AV×Eff)
 | [.ex (.int .u64 x),.ex (.int .u64 y),.ex (.int .u64 c)] =>
  bif decide (0≤x∧0≤y∧c=0) then some (.tup [.ex (.int .u64 (((x.toNat+18446744073709551616-y.toNat-0) % 18446744073709551616:Nat):Int)),.ex (.int .u64 ((if x.toNat<y.toNat+0 then 1 else 0:Nat):Int))],.none) else none
 | _=>none
theorem Afm{id:Nat}{hp:Nat→Option A4}{args:List AV}{u:AV}{e:Eff}(h:Afl args=some (u,e)){k:AV→Eff→Prop}(hk:k u e):B8 Tryz.prog CtxP id 211 hp args k:=by
 unfold Afl at h
 split at h
 ·rename_i x y c
  cases hb:decide (0≤x∧0≤y∧0≤c∧c≤1) with
  | false=>rw[hb] at h;cases h
  | true =>
   rw[hb] at h
   cases h
   obtain⟨x0,y0,c0,c1⟩:=of_decide_eq_true hb
   exact Gw (xs:=[.int .u64 x,.int .u64 y,.int .u64 c]) (rs:=[.int .u64 ((x+y+c) % 18446744073709551616),.int .u64 ((x+y+c) / 18446744073709551616)]) rfl (J2 x0 y0 c0 c1) (by intro r hr;simp only[List.mem_cons,List.not_mem_nil,or_false] at hr;rcases hr with rfl|rfl<;>rfl) hk
 ·cases h
theorem Afo{id:Nat}{hp:Nat→Option A4}{args:List AV}{u:AV}{e:Eff}(h:Afn args=some (u,e)){k:AV→Eff→Prop}(hk:k u e):B8 Tryz.prog CtxP id 255 hp args k:=by
 unfold Afn at h
 split at h
 ·rename_i x y c
  cases hb:decide (0≤x∧0≤y∧c=0) with
  | false=>rw[hb] at h;cases h
  | true =>
   rw[hb] at h
   cases h
   obtain⟨x0,y0,rfl⟩:=of_decide_eq_true hb
   obtain⟨X,rfl⟩:=Int.eq_ofNat_of_zero_le x0
   obtain⟨Y,rfl⟩:=Int.eq_ofNat_of_zero_le y0
   refine Gw (xs:=[.int .u64 X,.int .u64 Y,.int .u64 0]) (rs:=[.int .u64 (((X+18446744073709551616-Y-0) % 18446744073709551616:Nat):Int),.int .u64 ((if X<Y+0 then 1 else 0:Nat):Int)]) rfl ?_ (by intro r hr;simp only[List.mem_cons,List.not_mem_nil,or_false] at hr;rcases hr with rfl|rfl<;>rfl) hk
   intro w
   have h1:=run_callFunc_extern (P:=Tryz.prog) (f:=255) (fn:=Tryz.f255) (e:=sub64Entry) Tryz.func255 (by kernel_rfl) rfl (by kernel_rfl) (by kernel_rfl) #[.int .u64 X,.int .u64 Y,.int .u64 0] w
   have h2:=run_sub64 (P:=Tryz.prog) X Y 0 (by decide) w
   rw[show ((0:Nat):Int)=0 from rfl] at h2
   rw[h2] at h1
   exact h1
 ·cases h
noncomputable def Apu(es:List (List AV))(i:Nat)(y:List AV):List (List AV):=es.take i++y :: es.drop i
noncomputable def Axc(e sz bt:Nat)(β:A4)(ids:List Nat)(b i:Nat)(y:List AV):Bool:=β.mu && (Nat.beq β.ty e && ((β.es.all (·.all p0)) && ((ids.all fun j=>!Nat.beq j b) && (((Apu (β.es.map (·.map z0)) i y).all (·.all Dt)) && (Nat.ble i β.es.length && (Nat.beq y.length sz && Nat.ble ((β.es.length+1)*bt) 140737488355328))))))
noncomputable def Axb(e sz bt id:Nat)(hp:Nat→Option A4)(h:AV)(us:List AV)(ids:List Nat):Option (AV×Eff):=match h,us with
 | .own b,[.ex (.int .i64 i),.sl [y]]=>(hp b).bind fun β=>bif decide (0≤i) && Axc e sz bt β ids b i.toNat y then some (.own id,.grow b ⟨e,Apu (β.es.map (·.map z0)) i.toNat y,true⟩) else none
 | .ex (.slice none 0 0),[.ex (.int .i64 i),.sl [y]]=>bif decide (i=0) && (Nat.beq y.length sz && (y.all Dt && Nat.ble bt 140737488355328)) then some (.own id,.new ⟨e,[y],true⟩) else none
 | _,_=>none
noncomputable def A4p(e sz bt:Nat)(hp:Nat→Option A4)(args:List AV)(id:Nat):Option (AV×Eff):=match args with
 | h :: rest=>(cls hp rest).bind fun x=>Axb e sz bt id hp h x.1 x.2
 | []=>none
theorem Yw{C:World→Prop}{f e sz bt:Nat}(hM:∀ (es:List (List AV)) (x:List AV) (i:Nat),i≤es.length→x.length=sz→(es.length+1)*bt≤140737488355328→Nr Tryz.prog C f e es [gI i,.sl [x]] (es.take i++x :: es.drop i))
  {hp:Nat→Option A4} {args:List AV} {id:Nat} {u:AV} {ef:Eff} (h:A4p e sz bt hp args id=some (u,ef)) {k:AV→Eff→Prop} (hk:k u ef):B8 Tryz.prog C id f hp args k:=by
 unfold A4p at h
 split at h
 ·rename_i a rest
  obtain⟨⟨us,ids⟩,hc,h⟩:=A5 h
  dsimp only at h
  unfold Axb at h
  split at h
  ·rename_i b i y _
   obtain⟨β,hb,h⟩:=A5 h
   obtain⟨h1,h⟩:=A6 h
   cases h
   obtain⟨h0,h1⟩:=Ad h1
   have i0:=of_decide_eq_true h0
   unfold Axc at h1
   obtain⟨q1,h1⟩:=Ad h1
   obtain⟨q2,h1⟩:=Ad h1
   obtain⟨q3,h1⟩:=Ad h1
   obtain⟨q4,h1⟩:=Ad h1
   obtain⟨q5,h1⟩:=Ad h1
   obtain⟨q6,h1⟩:=Ad h1
   obtain⟨q7,q8⟩:=Ad h1
   have e2:=Bd q2
   have e7:=Bd q7
   have e6:=Ai q6
   have e8:=Ai q8
   have hcon:=hM (β.es.map (·.map z0)) y i.toNat (by rw[List.length_map];exact e6) e7 (by rw[List.length_map];exact e8)
   rw[Int.toNat_of_nonneg i0] at hcon
   refine .inr (.inl ⟨β,[gI i,.sl [y]],ids,Apu (β.es.map (·.map z0)) i.toNat y,hb,q1,q3,hc,fun hm=>?_,q5, ?_, ?_⟩)
   ·have:=List.all_eq_true.1 q4 b hm
    rw[K1 rfl] at this
    cases this
   ·rw[e2];exact hcon
   ·rw[e2];exact hk
  ·rename_i i y _
   obtain⟨h1,h⟩:=A6 h
   cases h
   obtain⟨q1,h1⟩:=Ad h1
   obtain⟨q2,h1⟩:=Ad h1
   obtain⟨q3,q4⟩:=Ad h1
   have e1:=of_decide_eq_true q1
   subst e1
   have hcon:=hM [] y 0 (Nat.le_refl _) (Bd q2) (by have:=Ai q4;simpa using this)
   refine .inr (.inl ⟨e,[gI 0,.sl [y]],ids,[y],hc, ?_,hcon,hk⟩)
   rw[List.all_cons,q3];rfl
  ·cases h
 ·cases h
noncomputable def A8e:List AV→Option (AV×Eff)
 | [.ex (.int .i64 n)]=>bif decide (-9223372036854775808≤n∧n≤9223372036854775807) then some (.ex (.string ⟨(Lib.itoa n).toArray⟩),.frz []) else none
 | _=>none
noncomputable def strs:List (List AV)→Option (List ByteArray)
 | []=>some []
 | [.ex (.string s)] :: l=>(strs l).bind fun r=>some (s :: r)
 | _=>none
theorem A51:∀ {l:List (List AV)} {r:List ByteArray},strs l=some r→l=texts r
 | [],r,h=>by cases h;rfl
 | x :: l,r,h=>by
  unfold strs at h
  split at h
  ·rename_i heq;cases heq
  ·rename_i s l' heq
   obtain⟨r',h1,h⟩:=A5 h
   cases h
   cases heq
   rw[A51 h1];rfl
  ·cases h
noncomputable def Ark(hp:Nat→Option A4)(args:List AV):Option (AV×Eff):=(cls hp args).bind fun x=>match x.1 with
 | [.sl l]=>(strs l).bind fun r=>bif Nat.ble ((Cr r).length+40) 140737488355328 && Nat.ble r.length maxLen then some (.ex (.string ⟨(Cr r).toArray⟩),.frz []) else none
 | _=>none
noncomputable def Yj:List (List AV)→Option (List LegV)
 | []=>some []
 | [.ex (.int .i64 a),.ex (.int .i64 n),.ex (.string s)] :: l=>(Yj l).bind fun r=>some (⟨a,n,s⟩ :: r)
 | _=>none
theorem Q6:∀ {l:List (List AV)} {r:List LegV},Yj l=some r→l=Ac r
 | [],r,h=>by cases h;rfl
 | x :: l,r,h=>by
  unfold Yj at h
  split at h
  ·rename_i heq;cases heq
  ·rename_i a n s l' heq
   obtain⟨r',h1,h⟩:=A5 h
   cases h
   cases heq
   rw[Q6 h1];rfl
  ·cases h
noncomputable def Xs:List (List AV)→Option (List EntV)
 | []=>some []
 | [.ex (.int .i64 a),.ex (.int .i64 b),.ex (.int .i64 c),.ex (.int .i64 d),.ex (.int .i64 e),.ex (.int .i64 f),.ex (.string s),.ex (.string t),.sl g,.ex (.int .u64 z)] :: l=>(Yj g).bind fun q=>(Xs l).bind fun r=>some (⟨a,b,c,d,e,f,s,t,q,z⟩ :: r)
 | _=>none
theorem Pp:∀ {l:List (List AV)} {r:List EntV},Xs l=some r→l=Ab r
 | [],r,h=>by cases h;rfl
 | x :: l,r,h=>by
  unfold Xs at h
  split at h
  ·rename_i heq;cases heq
  ·rename_i a b c d e f s t g z l' heq
   obtain⟨q,h0,h⟩:=A5 h
   obtain⟨r',h1,h⟩:=A5 h
   cases h
   cases heq
   rw[Pp h1,Q6 h0];rfl
  ·cases h
noncomputable def okJ(j:List EntV):Bool:=Nat.ble j.length 1000 && j.all fun e=>Nat.ble e.legs.length 1000
theorem Afd{j:List EntV}(h:okJ j=true):Sz j.length∧∀ e∈j,Sz e.legs.length:=by
 obtain⟨h1,h2⟩:=Ad h
 have:=Ai h1
 refine⟨by unfold Sz;omega,fun e he=>?_⟩
 have:=Ai (List.all_eq_true.1 h2 e he)
 unfold Sz
 omega
noncomputable def Arj(hp:Nat→Option A4)(args:List AV):Option (AV×Eff):=(cls hp args).bind fun x=>match x.1 with
 | [.sl l,.ex (.int .i64 id)]=>(Xs l).bind fun j=>bif okJ j then some (.ex (.int .i64 (wrap64 (-(Aj id j)))),.frz []) else none
 | _=>none
noncomputable def Arh(hp:Nat→Option A4)(args:List AV):Option (AV×Eff):=(cls hp args).bind fun x=>match x.1 with
 | [.sl l,.ex (.int .i64 id),.ex (.int .i64 D),.ex (.int .i64 V)]=>(Xs l).bind fun j=>bif okJ j then some (.ex (.int .i64 (wrap64 (-(B6 D V id j)))),.frz []) else none
 | _=>none
theorem Alo{id:Nat}{hp:Nat→Option A4}{args:List AV}{u:AV}{e:Eff}(h:Arj hp args=some (u,e)){k:AV→Eff→Prop}(hk:k u e):B8 Tryz.prog CtxP id 11 hp args k:=by
 unfold Arj at h
 obtain⟨⟨us,ids⟩,hc,h⟩:=A5 h
 dsimp only at h
 split at h
 ·rename_i l i
  obtain⟨j,hj,h⟩:=A5 h
  obtain⟨h1,h⟩:=A6 h
  cases h
  obtain⟨q1,q2⟩:=Afd h1
  have hl:=Pp hj
  subst hl
  exact Dl hc (A0f j q1 q2 i) hk
 ·cases h
theorem Aln{id:Nat}{hp:Nat→Option A4}{args:List AV}{u:AV}{e:Eff}(h:Arh hp args=some (u,e)){k:AV→Eff→Prop}(hk:k u e):B8 Tryz.prog CtxP id 209 hp args k:=by
 unfold Arh at h
 obtain⟨⟨us,ids⟩,hc,h⟩:=A5 h
 dsimp only at h
 split at h
 ·rename_i l i D V
  obtain⟨j,hj,h⟩:=A5 h
  obtain⟨h1,h⟩:=A6 h
  cases h
  obtain⟨q1,q2⟩:=Afd h1
  have hl:=Pp hj
  subst hl
  exact Dl hc (A9m j q1 q2 i D V) hk
 ·cases h
noncomputable def Alp:XO:=fun f hp args id=>bif Nat.beq f 121 then A4p 122 2 24 hp args id else bif Nat.beq f 177 then A4p 103 3 32 hp args id else
 bif Nat.beq f 191 then A8e args else bif Nat.beq f 190 then Ark hp args else bif Nat.beq f 88 then A8e args else bif Nat.beq f 11 then Arj hp args else bif Nat.beq f 209 then Arh hp args else
 bif Nat.beq f 211 then Afl args else bif Nat.beq f 255 then Afn args else none
theorem Je:Er Tryz.prog CtxP Alp:=by
 intro f hp args id u e h k hk
 unfold Alp at h
 cases h1:Nat.beq f 121 with
 | true =>
  rw[h1] at h
  have:=Nat.eq_of_beq_eq_true h1
  subst this
  exact Yw (fun es x i a b c=>On a b c) h hk
 | false =>
 rw[h1] at h
 clear h1
 cases h1:Nat.beq f 177 with
 | true =>
  rw[h1] at h
  have:=Nat.eq_of_beq_eq_true h1
  subst this
  exact Yw (fun es x i a b c=>Om a b c) h hk
 | false =>
 rw[h1] at h
 clear h1
 cases h1:Nat.beq f 191 with
 | true =>
  rw[h1] at h
  have:=Nat.eq_of_beq_eq_true h1
  subst this
  replace h:A8e args=some (u,e):=h
  unfold A8e at h
  split at h
  ·rename_i n
   obtain⟨h4,h⟩:=A6 h
   cases h
   obtain⟨a,b⟩:=of_decide_eq_true h4
   exact Dl (ids:=[]) rfl (Wv n a b) hk
  ·cases h
 | false =>
 rw[h1] at h
 clear h1
 cases h1:Nat.beq f 190 with
 | true =>
  rw[h1] at h
  have:=Nat.eq_of_beq_eq_true h1
  subst this
  replace h:Ark hp args=some (u,e):=h
  unfold Ark at h
  obtain⟨⟨us,ids⟩,hc,h⟩:=A5 h
  dsimp only at h
  split at h
  ·rename_i l
   obtain⟨r,hr,h⟩:=A5 h
   obtain⟨h5,h⟩:=A6 h
   cases h
   obtain⟨q1,q2⟩:=Ad h5
   have hl:=A51 hr
   subst hl
   exact Dl hc (Rv r (Ai q1) (Ai q2)) hk
  ·cases h
 | false =>
 rw[h1] at h
 clear h1
 cases h1:Nat.beq f 88 with
 | true =>
  rw[h1] at h
  have:=Nat.eq_of_beq_eq_true h1
  subst this
  replace h:A8e args=some (u,e):=h
  unfold A8e at h
  split at h
  ·rename_i n
   obtain⟨h4,h⟩:=A6 h
   cases h
   obtain⟨a,b⟩:=of_decide_eq_true h4
   exact Dl (ids:=[]) rfl (A10 (vs:=[.int .i64 n]) ⟨_,Tryz.func88,rfl,rfl⟩ rfl fun w hw=>Lv n a b w hw) hk
  ·cases h
 | false =>
 rw[h1] at h
 clear h1
 cases h1:Nat.beq f 11 with
 | true =>
  rw[h1] at h
  have:=Nat.eq_of_beq_eq_true h1
  subst this
  exact Alo h hk
 | false =>
 rw[h1] at h
 clear h1
 cases h1:Nat.beq f 209 with
 | true =>
  rw[h1] at h
  have:=Nat.eq_of_beq_eq_true h1
  subst this
  exact Aln h hk
 | false =>
 rw[h1] at h
 clear h1
 cases h1:Nat.beq f 211 with
 | true =>
  rw[h1] at h
  have:=Nat.eq_of_beq_eq_true h1
  subst this
  exact Afm h hk
 | false =>
 rw[h1] at h
 clear h1
 cases h1:Nat.beq f 255 with
 | true =>
  rw[h1] at h
  have:=Nat.eq_of_beq_eq_true h1
  subst this
  exact Afo h hk
 | false =>
 rw[h1] at h
 cases h
noncomputable def eng7:XE:=⟨Tryz.prog,Acq,Alp,fun f=>Nat.beq f 128⟩
theorem A4q{P:Program}{M0:Nat→Prop}{w0:Root}{φ:Phi}{hp:Nat→Option A4}{nx:Nat}{w:World}(st:StH P M0 w0 φ hp nx w){b:Nat}{β:A4}(hb:hp b=some β)(hne:β.es≠[]){v:Value}{sz:Nat}(hφ:φ b=some (v,sz+1)) :
  ∃ g cap xs,v=.slice (some ⟨g,0,none⟩) β.es.length cap∧g<w.heap.size∧(∀ j y,xs[j]?=some y→w.cell? ⟨g,0+j,none⟩=some y)∧RepLL φ (Mo φ hp M0) w sz β.es xs:=by
 obtain⟨_,xs,h5,h6⟩:=st.1.hpr b β v sz hb hφ
 rcases h5.2 with⟨q1,q2⟩|⟨g,cap,cur,q1,q2,q3,q4,q5,_⟩
 ·exact absurd (List.eq_nil_of_length_eq_zero q2) hne
 ·refine⟨g,cap,xs,q1,(Array.getElem?_eq_some_iff.1 q3).1,fun j y hy=>?_,h6⟩
  have:=h5.cells (g:=g) (by rw[q1];rfl) j y hy
  rwa [addr_add] at this
def Ac4(e:EntV)(b2:Nat):List AV:=[gI e.id,gI e.booked,gI e.value,gI e.kind,gI e.auth,gI e.period,gS e.key,gS e.text,.own b2,.ex (.int .u64 e.chain)]
theorem Afp{P:Program}{M0:Nat→Prop}{w0:Root}{φ:Phi}{hp:Nat→Option A4}{nx:Nat}{w:World}(st:StH P M0 w0 φ hp nx w){b b2:Nat}{m m2:Bool}{e:EntV}(hne:e.legs≠[])(hb:hp b=some ⟨39,[Ac4 e b2],m⟩)(hb2:hp b2=some ⟨103,Ac e.legs,m2⟩){v:Value}{sz:Nat}(hφ:φ b=some (v,sz+1)) :
  ∃ A c js,v=.slice A js.length c∧js.length=1∧F2 JR [e] js∧JMem w.heap.size w A js:=by
 obtain⟨g,cap,xs,rfl,hg,hat,hr⟩:=A4q st hb (by simp) hφ
 simp only[RepLL] at hr
 obtain⟨x,y,rfl,hl,ho,hx,rfl⟩:=hr
 rw[List.append_nil] at hat
 unfold Ac4 at hx
 obtain⟨v0',k0,r0⟩:=hx.get (j:=0) rfl
 obtain⟨v1',k1,r1⟩:=hx.get (j:=1) rfl
 obtain⟨v2',k2,r2⟩:=hx.get (j:=2) rfl
 obtain⟨v3',k3,r3⟩:=hx.get (j:=3) rfl
 obtain⟨v4',k4,r4⟩:=hx.get (j:=4) rfl
 obtain⟨v5',k5,r5⟩:=hx.get (j:=5) rfl
 obtain⟨v6',k6,r6⟩:=hx.get (j:=6) rfl
 obtain⟨v7',k7,r7⟩:=hx.get (j:=7) rfl
 obtain⟨v8',k8,r8⟩:=hx.get (j:=8) rfl
 obtain⟨v9',k9,r9⟩:=hx.get (j:=9) rfl
 simp only[Rep] at r0 r1 r2 r3 r4 r5 r6 r7 r8 r9
 obtain⟨rfl,_⟩:=r0
 obtain⟨rfl,_⟩:=r1
 obtain⟨rfl,_⟩:=r2
 obtain⟨rfl,_⟩:=r3
 obtain⟨rfl,_⟩:=r4
 obtain⟨rfl,_⟩:=r5
 obtain⟨rfl,_⟩:=r6
 obtain⟨rfl,_⟩:=r7
 obtain⟨rfl,_⟩:=r9
 obtain⟨sz2,hφ2⟩:=r8
 have hne2:Ac e.legs≠[]:=by
  intro h0
  apply hne
  have:=congrArg List.length h0
  rw[B9] at this
  exact List.eq_nil_of_length_eq_zero this
 obtain⟨g2,cap2,xs2,rfl,hg2,hat2,hr2⟩:=A4q st hb2 hne2 hφ2
 dsimp only at hr2
 refine⟨some ⟨g,0,none⟩,cap,[⟨e.id,e.booked,e.value,e.kind,e.auth,e.period,e.key,e.text,some ⟨g2,0,none⟩,cap2,e.chain,e.legs.map fun l=>(l.account,l.amount,l.cur)⟩],rfl,rfl,.cons ⟨rfl,rfl,rfl⟩ .nil, ?_, ?_⟩
 ·intro k x hx
  match k,hx with
  | 0,hx =>
   cases hx
   refine⟨g,0,rfl,hg, ?_⟩
   have hl2:(Ac e.legs).length=(e.legs.map fun l=>(l.account,l.amount,l.cur)).length:=by rw[B9,List.length_map]
   exact⟨hat 0 _ k0,hat 1 _ k1,hat 2 _ k2,hat 3 _ k3,hat 4 _ k4,hat 5 _ k5,hat 6 _ k6,hat 7 _ k7,by rw[show (0+0*10+8:Nat)=0+8 from rfl,hat 8 _ k8,hl2],hat 9 _ k9⟩
  | k+1,hx=>simp at hx
 ·intro x hx m y hy
  rw[List.mem_singleton.1 hx] at hy ⊢
  dsimp only at hy ⊢
  rw[List.getElem?_map] at hy
  obtain⟨l,hl1,rfl⟩:=Option.map_eq_some_iff.1 hy
  have hg:=Bq hl1
  obtain⟨p,q,s,rfl,hp,hs,_,hR,_,_⟩:=hr2.get hg
  have h3:=hR.len
  obtain⟨w0,t0,u0⟩:=hR.get (j:=0) rfl
  obtain⟨w1,t1,u1⟩:=hR.get (j:=1) rfl
  obtain⟨w2,t2,u2⟩:=hR.get (j:=2) rfl
  simp only[Rep] at u0 u1 u2
  obtain⟨rfl,_⟩:=u0
  obtain⟨rfl,_⟩:=u1
  obtain⟨rfl,_⟩:=u2
  have hsz:sz2=3:=by rw[← hs,h3];rfl
  subst hsz
  have hc2:∀ (i:Nat) u,q[i]?=some u→w.cell? ⟨g2,0+m*3+i,none⟩=some u:=fun i u hu=>by
   have hi:=(List.getElem?_eq_some_iff.1 hu).1
   have:=hat2 (m*3+i) u (by rw[List.getElem?_append_left (by rw[List.length_append];omega),List.getElem?_append_right (by omega),hp,Nat.add_sub_cancel_left];exact hu)
   rwa [← Nat.add_assoc] at this
  exact⟨g2,0,rfl,hg2,hc2 0 _ t0,hc2 1 _ t1,hc2 2 _ t2⟩
theorem Ahi{hp:Nat→Option A4}{nx b b2:Nat}{m m2:Bool}{e:EntV}(id:Int)(hne:e.legs≠[])(hl:Sz e.legs.length)(hb:hp b=some ⟨39,[Ac4 e b2],m⟩)(hb2:hp b2=some ⟨103,Ac e.legs,m2⟩) :
  ConI Tryz.prog CtxP 11 [.own b,gI id] hp nx (fun u h n=>u=.ex (.int .i64 (wrap64 (-(Aj id [e]))))∧h=hp∧n=nx):=by
 refine⟨⟨_,Tryz.func11,rfl,rfl⟩,fun M0 w0 φ w args hC st ha=>?_⟩
 obtain⟨v,g1,h1⟩:=ha.get (j:=0) rfl
 obtain⟨v2,g2,h2⟩:=ha.get (j:=1) rfl
 have hlen:=ha.len
 obtain⟨u1,u2,rfl⟩:∃ u1 u2,args=[u1,u2]:=by
  match args,hlen with
  | [u1,u2],_=>exact⟨u1,u2,rfl⟩
 cases g1
 cases g2
 simp only[Rep] at h1 h2
 obtain⟨sz,hφ⟩:=h1
 obtain⟨rfl,_⟩:=h2
 obtain⟨A,c,js,rfl,hjl,hF,hM⟩:=Afp st hne hb hb2 hφ
 refine ((callsIn_wide (n:=6)).1 (Amr Fence.wide 6 trivial trivial trivial rfl (by omega) A c id js w (by omega) (O8 hF (fun x hx=>by rw[List.mem_singleton.1 hx];exact hl)) hM)).mono ?_
 rintro r w' ⟨rfl,hbe⟩
 exact⟨_,_,_,_,φ,rfl,⟨rfl,rfl,rfl⟩,Nat.le_refl _,⟨st.1.on hbe,st.2⟩,by simp only[Rep];exact⟨by rw[Tc,Ahe id [e] js hF],rfl⟩⟩
theorem Ahh{hp:Nat→Option A4}{nx b b2:Nat}{m m2:Bool}{e:EntV}(id D V:Int)(hne:e.legs≠[])(hl:Sz e.legs.length)(hb:hp b=some ⟨39,[Ac4 e b2],m⟩)(hb2:hp b2=some ⟨103,Ac e.legs,m2⟩) :
  ConI Tryz.prog CtxP 209 [.own b,gI id,gI D,gI V] hp nx (fun u h n=>u=.ex (.int .i64 (wrap64 (-(B6 D V id [e]))))∧h=hp∧n=nx):=by
 refine⟨⟨_,Tryz.func209,rfl,rfl⟩,fun M0 w0 φ w args hC st ha=>?_⟩
 obtain⟨v,g1,h1⟩:=ha.get (j:=0) rfl
 obtain⟨v2,g2,h2⟩:=ha.get (j:=1) rfl
 obtain⟨v3,g3,h3⟩:=ha.get (j:=2) rfl
 obtain⟨v4,g4,h4⟩:=ha.get (j:=3) rfl
 have hlen:=ha.len
 obtain⟨u1,u2,u3,u4,rfl⟩:∃ u1 u2 u3 u4,args=[u1,u2,u3,u4]:=by
  match args,hlen with
  | [u1,u2,u3,u4],_=>exact⟨u1,u2,u3,u4,rfl⟩
 cases g1
 cases g2
 cases g3
 cases g4
 simp only[Rep] at h1 h2 h3 h4
 obtain⟨sz,hφ⟩:=h1
 obtain⟨rfl,_⟩:=h2
 obtain⟨rfl,_⟩:=h3
 obtain⟨rfl,_⟩:=h4
 obtain⟨A,c,js,rfl,hjl,hF,hM⟩:=Afp st hne hb hb2 hφ
 refine ((callsIn_wide (n:=6)).1 (Amn Fence.wide 6 trivial trivial trivial rfl (by omega) A c id D V js w (by omega) (O8 hF (fun x hx=>by rw[List.mem_singleton.1 hx];exact hl)) hM)).mono ?_
 rintro r w' ⟨rfl,hbe⟩
 exact⟨_,_,_,_,φ,rfl,⟨rfl,rfl,rfl⟩,Nat.le_refl _,⟨st.1.on hbe,st.2⟩,by simp only[Rep];exact⟨by rw[Td,A5d D V id [e] js hF],rfl⟩⟩
noncomputable def Aws:List (List AV)→Option (EntV×Nat)
 | [[.ex (.int .i64 a),.ex (.int .i64 b),.ex (.int .i64 c),.ex (.int .i64 d),.ex (.int .i64 e),.ex (.int .i64 f),.ex (.string s),.ex (.string t),.own b2,.ex (.int .u64 z)]]=>some (⟨a,b,c,d,e,f,s,t,[],z⟩,b2)
 | _=>none
noncomputable def Ajd(hp:Tr A4)(b:Nat):Option (EntV×Nat):=(hp.get b).bind fun β=>(Aws β.es).bind fun x=>(hp.get x.2).bind fun γ=>(Yj γ.es).bind fun l=>bif Nat.beq β.ty 39 && (Nat.beq γ.ty 103 && (!l.isEmpty && Nat.ble l.length 1000)) then some ({ x.1 with legs:=l },x.2) else none
theorem A40{hp:Tr A4}{b:Nat}{e:EntV}{b2:Nat}(h:Ajd hp b=some (e,b2)):e.legs≠[]∧Sz e.legs.length∧(∃ m,hp.get b=some ⟨39,[Ac4 e b2],m⟩)∧∃ m2,hp.get b2=some ⟨103,Ac e.legs,m2⟩:=by
 unfold Ajd at h
 obtain⟨⟨t1,es,m⟩,hb,h⟩:=A5 h
 obtain⟨⟨x,b3⟩,he,h⟩:=A5 h
 obtain⟨⟨t2,es2,m2⟩,hb2,h⟩:=A5 h
 obtain⟨l,hl,h⟩:=A5 h
 obtain⟨h2,h⟩:=A6 h
 cases h
 obtain⟨q1,q2⟩:=Ad h2
 obtain⟨q2,q3⟩:=Ad q2
 obtain⟨q3,q4⟩:=Ad q3
 have q1:=Bd q1
 have q2:=Bd q2
 have q4:=Ai q4
 dsimp only at q1 q2 he hl hb2 q4
 subst q1 q2
 have hl2:=Q6 hl
 subst hl2
 unfold Aws at he
 split at he
 ·cases he
  refine⟨?_,by unfold Sz;dsimp only;omega,⟨m,hb⟩,m2,hb2⟩
  dsimp only
  intro h0
  rw[h0] at q3
  cases q3
 ·cases he
noncomputable def ofX(us:List AV)(hp:Tr A4)(nx:Nat):Option (AV×Tr A4×Nat):=match us with
 | [.own b,.ex (.int .i64 id)]=>(Ajd hp b).bind fun x=>some (.ex (.int .i64 (wrap64 (-(Aj id [x.1])))),hp,nx)
 | _=>none
noncomputable def atX(us:List AV)(hp:Tr A4)(nx:Nat):Option (AV×Tr A4×Nat):=match us with
 | [.own b,.ex (.int .i64 id),.ex (.int .i64 D),.ex (.int .i64 V)]=>(Ajd hp b).bind fun x=>some (.ex (.int .i64 (wrap64 (-(B6 D V id [x.1])))),hp,nx)
 | _=>none
noncomputable def Ahb:XF:=fun f us hp nx=>bif Nat.beq f 11 then ofX us hp nx else bif Nat.beq f 209 then atX us hp nx else none
theorem W5:Hi Tryz.prog CtxP Ahb:=by
 intro f us hp nx u hp' nx' h
 unfold Ahb at h
 cases h1:Nat.beq f 11 with
 | true =>
  rw[h1] at h
  have:=Nat.eq_of_beq_eq_true h1
  subst this
  replace h:ofX us hp nx=some (u,hp',nx'):=h
  unfold ofX at h
  split at h
  ·rename_i b id
   obtain⟨⟨e,b2⟩,he,h⟩:=A5 h
   cases h
   obtain⟨k1,k2,⟨m,k3⟩,m2,k4⟩:=A40 he
   exact Ahi id k1 k2 k3 k4
  ·cases h
 | false =>
 rw[h1] at h
 clear h1
 cases h1:Nat.beq f 209 with
 | true =>
  rw[h1] at h
  have:=Nat.eq_of_beq_eq_true h1
  subst this
  replace h:atX us hp nx=some (u,hp',nx'):=h
  unfold atX at h
  split at h
  ·rename_i b id D V
   obtain⟨⟨e,b2⟩,he,h⟩:=A5 h
   cases h
   obtain⟨k1,k2,⟨m,k3⟩,m2,k4⟩:=A40 he
   exact Ahh id D V k1 k2 k3 k4
  ·cases h
 | false =>
 rw[h1] at h
 cases h
theorem A60:Cn 15 [] (.val (gB true)) :=
 R4 (xo:=Ahb) (E:=eng7) (n:=1000) base Bk Je W5 (by kernel_rfl)
theorem Wp:Cn 17 [] (.val (gB true)) :=
 Av (E:=eng7) (n:=1000) base Bk Je (by kernel_rfl)
noncomputable def A6s(f:AV→Option AV):List AV→Option (List AV)
 | []=>some []
 | u :: us=>(f u).bind fun x=>(A6s f us).bind fun y=>some (x :: y)
noncomputable def A3x(f:AV→Option AV):List (List AV)→Option (List (List AV))
 | []=>some []
 | u :: us=>(A6s f u).bind fun x=>(A3x f us).bind fun y=>some (x :: y)
noncomputable def Awo(f:AV→Option AV)(o:Option A4):Option AV:=o.bind fun β=>(A3x f β.es).map .sl
noncomputable def Aoz(f:AV→Option AV)(hp:Nat→Option A4):AV→Option AV
 | .own b=>Awo f (hp b)
 | .agg cs=>(A6s f cs).map .agg
 | .ex v=>some (.ex v)
 | .sl es=>some (.sl es)
 | _=>none
noncomputable def dcl(hp:Nat→Option A4)(n:Nat):AV→Option AV:=Nat.rec (fun _=>none) (fun _ ih=>Aoz ih hp) n
abbrev MF:Nat→Prop:=fun _=>False
section
variable{P:Program}{C:World→Prop}{M0:Nat→Prop}{w0:Root}{φ:Phi}{hp:Nat→Option A4}{nx:Nat}{w:World}
abbrev DOk(φ:Phi)(hp:Nat→Option A4)(M0:Nat→Prop)(w:World)(f:AV→Option AV):Prop:=∀ u u' v,f u=some u'→Rep φ (Mo φ hp M0) w u v→Rep Bb MF w u' v
theorem L1{f:AV→Option AV}(hf:DOk φ hp M0 w f):∀ {us us':List AV} {vs:List Value},A6s f us=some us'→RepL φ (Mo φ hp M0) w us vs→RepL Bb MF w us' vs
 | [],_,_,h,hr=>by
  cases h
  simp only[RepL] at hr
  subst hr
  exact RepL.nil
 | u :: us,_,_,h,hr=>by
  obtain⟨x,h1,h⟩:=A5 h
  obtain⟨y,h2,h⟩:=A5 h
  cases h
  simp only[RepL] at hr
  obtain⟨v,vs',rfl,h3,h4⟩:=hr
  exact RepL.cons (hf _ _ _ h1 h3) (L1 hf h2 h4)
theorem Sa{f:AV→Option AV}(hf:DOk φ hp M0 w f){sz:Nat}:∀ {es es':List (List AV)} {vs:List Value},A3x f es=some es'→RepLL φ (Mo φ hp M0) w sz es vs→RepLL Bb MF w sz es' vs
 | [],_,_,h,hr=>by
  cases h
  simp only[RepLL] at hr
  subst hr
  exact RepLL.nil sz
 | u :: us,_,_,h,hr=>by
  obtain⟨x,h1,h⟩:=A5 h
  obtain⟨y,h2,h⟩:=A5 h
  cases h
  simp only[RepLL] at hr
  obtain⟨a,b,rfl,h3,h4,h5,h6⟩:=hr
  exact RepLL.cons h3 h4 (L1 hf h1 h5) (Sa hf h2 h6)
theorem S9{f:AV→Option AV}:∀ {es es':List (List AV)},A3x f es=some es'→es'.length=es.length
 | [],_,h=>by cases h;rfl
 | u :: us,_,h=>by
  obtain⟨x,h1,h⟩:=A5 h
  obtain⟨y,h2,h⟩:=A5 h
  cases h
  rw[List.length_cons,List.length_cons,S9 h2]
theorem Aj8(st:StH P M0 w0 φ hp nx w):∀ n:Nat,DOk φ hp M0 w (dcl hp n):=by
 intro n
 induction n with
 | zero=>intro u u' v h;cases h
 | succ n ih =>
  intro u u' v h hr
  change Aoz (dcl hp n) hp u=some u' at h
  unfold Aoz at h
  split at h
  ·rename_i b
   unfold Awo at h
   obtain⟨β,hb,h⟩:=A5 h
   obtain⟨es,he,h⟩:=Option.map_eq_some_iff.1 h
   subst h
   have hlen:=S9 he
   simp only[Rep] at hr
   obtain⟨sz,hφ⟩:=hr
   obtain⟨_,xs,h5,h6⟩:=st.1.hpr b β v sz hb hφ
   have hz:=Sa ih he h6
   simp only[Rep]
   rcases h5.2 with⟨q1,q2⟩|⟨g,cap,cur,q1,q2,q3,q4,q5,_⟩
   ·exact⟨none,0,by rw[hlen,q1,q2],by rw[hlen];omega,by decide,trivial,fun hn=>absurd (List.eq_nil_of_length_eq_zero (by rw[hlen];exact q2)) hn⟩
   ·refine⟨some ⟨g,0,none⟩,cap,by rw[hlen];exact q1,by rw[hlen];exact q4,q5,trivial,fun _=>⟨g,0,sz,xs,rfl,(fun h=>h),(Array.getElem?_eq_some_iff.1 q3).1, ?_,hz⟩⟩
    intro j y hy
    have:=h5.cells (g:=g) (by rw[q1];rfl) j y hy
    rwa [addr_add] at this
  ·rename_i cs
   obtain⟨es,he,h⟩:=Option.map_eq_some_iff.1 h
   subst h
   simp only[Rep] at hr ⊢
   obtain⟨vs,h1,h2,h3⟩:=hr
   exact⟨vs,h1,h2,L1 ih he h3⟩
  ·cases h
   simp only[Rep] at hr ⊢
   exact hr
  ·rename_i es
   cases h
   have h':=Rep.keep (φ':=φ) (M':=MF) (fun b hlt hn=>⟨fun h=>h.elim,hlt,rfl⟩) (Ext.refl φ) _ _ hr
   simp only[Rep] at h' ⊢
   exact h'
  ·cases h
noncomputable def Apj(f:AV→Bool):AV→Bool
 | .ex _=>true
 | .agg cs=>cs.all f
 | .tup cs=>cs.all f
 | _=>false
noncomputable def flt(n:Nat):AV→Bool:=Nat.rec (fun _=>false) (fun _ ih=>Apj ih) n
theorem Ajr{φ':Phi}{M M':Nat→Prop}:∀ (n:Nat) {u:AV} {v:Value},flt n u=true→Rep φ M w u v→Rep φ' M' w u v:=by
 intro n
 induction n with
 | zero=>intro u v h;cases h
 | succ n ih =>
  have hL:∀ {us:List AV} {vs:List Value},us.all (flt n)=true→RepL φ M w us vs→RepL φ' M' w us vs:=by
   intro us
   induction us with
   | nil =>
    intro vs _ h
    simp only[RepL] at h ⊢
    exact h
   | cons u us ihu =>
    intro vs ha h
    rw[List.all_cons,Bool.and_eq_true] at ha
    simp only[RepL] at h
    obtain⟨v,vs',rfl,h3,h4⟩:=h
    exact RepL.cons (ih ha.1 h3) (ihu ha.2 h4)
  intro u v h hr
  change Apj (flt n) u=true at h
  unfold Apj at h
  split at h
  ·simp only[Rep] at hr ⊢;exact hr
  ·simp only[Rep] at hr ⊢
   obtain⟨vs,h1,h2,h3⟩:=hr
   exact⟨vs,h1,h2,hL h h3⟩
  ·simp only[Rep] at hr ⊢
   obtain⟨vs,h1,h3⟩:=hr
   exact⟨vs,h1,hL h h3⟩
  ·cases h
noncomputable def xoK(g:FuncId)(us:List AV)(r:AV)(xo:XF):XF:=fun f args hp nx=>bif Nat.beq f g then (A6s (dcl hp.get 8) args).bind fun x=>bif eqL X5 x us then some (r,hp,nx) else none else xo f args hp nx
theorem Aha{g:FuncId}{us:List AV}{r:AV}{xo:XF}(B:Dj P C)(hr:Con P C g us (.val r))(hf:flt 4 r=true)(hx:Hi P C xo):Hi P C (xoK g us r xo):=by
 intro f args hp nx u hp' nx' h
 unfold xoK at h
 cases h1:Nat.beq f g with
 | false =>
  rw[h1] at h
  exact hx _ _ _ _ _ _ _ h
 | true =>
  rw[h1] at h
  have:=Nat.eq_of_beq_eq_true h1
  subst this
  obtain⟨x,h2,h⟩:=A5 (show (A6s (dcl hp.get 8) args).bind _=some (u,hp',nx') from h)
  obtain⟨h3,h⟩:=A6 h
  cases h
  have he:=Il (fun _ _=>Kp) h3
  subst he
  refine⟨hr.1,fun M0 w0 φ w vs hC st ha=>?_⟩
  refine (hr.2 MF w vs (fun b h=>h.elim) (B.on _ _ hC st.1.below) (L1 (Aj8 st 8) h2 ha)).mono ?_
  rintro e w' ⟨v,rfl,hv,hb⟩
  exact⟨v,r,hp.get,nx,φ,rfl,⟨rfl,rfl,rfl⟩,Nat.le_refl _,⟨st.1.on hb,st.2⟩,Ajr 4 hf hv⟩
end
end Go.Proofs.YtbhffbgbhgjdiaaGreatDoor
