/-
  Each operation of the machine does what 'aval' says of it: slices of slices, calls; and all operations together. Conditions: those that each theorem states. More of the kind.
-/
import Derived.Test.YtbhffbgbhgjdiaaGreatDoorGIns
import Derived.Deep.LoopGhost
import Derived.Maps.OwnSet
import Derived.Scope
set_option linter.unusedSimpArgs false
set_option linter.unusedVariables false
namespace Go.Proofs.YtbhffbgbhgjdiaaGreatDoor
open Go.RowKit
set_option maxRecDepth 100000
section
variable{P:Program}{C:World→Prop}{w:World}{M0:Nat→Prop}{N:Nat}{w0:Root}{F:Nat→Prop}{φ:Phi}{σ:AS}{a:Act}{hp:Nat→Option A4}{id:Nat}{o:Oper}{k:AV→Eff→Prop}{K:Act→World→Prop}{Q:Exit→Act→World→Prop}
theorem F9{M:Nat→Prop}{ev:Operand→AV}{x:Option Operand}{d:Nat}{kk:Nat→Prop}(hx:∀ y,x=some y→Rep φ M w (ev y) (a.eval y))(h:bnd d ev x kk) :
  ∃ l,kk l∧((x=none∧l=d)∨∃ y kd n,x=some y∧a.eval y=.int kd n∧0≤n∧n.toNat=l):=by
 cases x with
 | none=>exact⟨d,h,.inl ⟨rfl,rfl⟩⟩
 | some y =>
  obtain⟨kd,n,h1,h2,h3⟩:=h
  exact⟨n.toNat,h3,.inr ⟨y,kd,n,rfl,Lg (hx y rfl) h1,h2,rfl⟩⟩
theorem D1{kd:IntKind}{n:Int}{y:Nat}{code:BoundsCode}(h0:0≤n)(h:n.toNat≤y):(Instr.sliceBound (.int kd n) y code).run P w=.ok n.toNat w:=by
 have:n≤(y:Int):=by omega
 simp [Instr.sliceBound,asIntOf,h0,this]
theorem Mz{t e:Nat}{lo hi mx:Option Operand}(hkk:(aty P t).k=.slice e)(hpos:0<(aty P e).sz)(hmh:hi=none→mx=none){A:Option Addr}{n c:Nat}{vx:Value}(hx:vx=.slice A n c)(hnc:n≤c){l h m:Nat}
  (h1:(lo=none∧l=0)∨∃ y kd q,lo=some y∧a.eval y=.int kd q∧0≤q∧q.toNat=l) (h2:(hi=none∧h=n)∨∃ y kd q,hi=some y∧a.eval y=.int kd q∧0≤q∧q.toNat=h)
  (h6:(mx=none∧m=n)∨∃ y kd q,mx=some y∧a.eval y=.int kd q∧0≤q∧q.toNat=m) (h3:l≤h) (h4:h≤m) (h5:m≤n) :
  ∃ m',h≤m'∧m'≤c∧(mx=none→m'=c)∧(Instr.sliceAt t vx (lo.map a.eval) (hi.map a.eval) (mx.map a.eval)).run P w=.ok (.slice (if m'=l then A else A.map (·.add (l*(aty P e).sz))) (h-l) (m'-l)) w:=by
 obtain⟨i,hi',hz,_⟩:=Cb hpos
 rw[hx]
 rcases h6 with⟨rfl,rfl⟩|⟨y3,kd3,n3,rfl,q1,q2,rfl⟩
 ·refine⟨c,by omega,Nat.le_refl _,fun _=>rfl, ?_⟩
  rcases h2 with⟨rfl,rfl⟩|⟨y2,kd2,n2,rfl,p1,p2,rfl⟩<;>rcases h1 with⟨rfl,rfl⟩|⟨y1,kd1,n1,rfl,r1,r2,rfl⟩
  ·simp [Instr.sliceAt,Instr.slice,run_underlying (Ah hkk),Instr.sliceBounds,sizeOf,typeInfo,hi']
  ·simp [Instr.sliceAt,Instr.slice,run_underlying (Ah hkk),Instr.sliceBounds,sizeOf,typeInfo,hi',hz,r1,D1 r2 h3]
  ·simp [Instr.sliceAt,Instr.slice,run_underlying (Ah hkk),Instr.sliceBounds,sizeOf,typeInfo,hi',p1,D1 p2 (show n2.toNat≤c by omega)]
  ·simp [Instr.sliceAt,Instr.slice,run_underlying (Ah hkk),Instr.sliceBounds,sizeOf,typeInfo,hi',hz,p1,D1 p2 (show n2.toNat≤c by omega),r1,D1 r2 h3]
 ·refine⟨n3.toNat,h4,by omega,(fun e=>by cases e), ?_⟩
  rcases h2 with⟨rfl,rfl⟩|⟨y2,kd2,n2,rfl,p1,p2,rfl⟩
  ·exact absurd (hmh rfl) (by simp)
  ·rcases h1 with⟨rfl,rfl⟩|⟨y1,kd1,n1,rfl,r1,r2,rfl⟩
   ·simp [Instr.sliceAt,Instr.slice,run_underlying (Ah hkk),Instr.sliceBounds,sizeOf,typeInfo,hi',p1,q1,D1 q2 (show n3.toNat≤c by omega),D1 p2 h4]
   ·simp [Instr.sliceAt,Instr.slice,run_underlying (Ah hkk),Instr.sliceBounds,sizeOf,typeInfo,hi',hz,p1,q1,D1 q2 (show n3.toNat≤c by omega),D1 p2 h4,r1,D1 r2 h3]
theorem Tb{φ':Phi}{M:Nat→Prop}{es:List (List AV)}{A:Option Addr}{sz n c l h m m':Nat}(hx:Rep φ' M w (.sl es) (.slice A n c))(hall:∀ x∈es,x.length=sz)(h3:l≤h)(h4:h≤m)(h5:m≤es.length)(k1:h≤m')(k2:m'≤c) :
  Rep φ' M w (.sl ((es.take h).drop l)) (.slice (if m'=l then A else A.map (·.add (l*sz))) (h-l) (m'-l)):=by
 simp only[Rep] at hx ⊢
 obtain⟨A',c',g1,g2,g3,g4,g5⟩:=hx
 cases g1
 have hlen:((es.take h).drop l).length=h-l:=by rw[List.length_drop,List.length_take];omega
 refine⟨_,_,by rw[hlen],by omega,by omega,trivial,fun hn=>?_⟩
 have hlt:l<h:=by
  rcases Nat.lt_or_ge l h with hh|hh
  ·exact hh
  ·exact absurd (List.eq_nil_of_length_eq_zero (by rw[hlen];omega)) hn
 obtain⟨b',o',sz',vs,f1,f2,f3,f4,f5⟩:=g5 (by intro e';rw[e'] at h5;simp at h5;omega)
 have f6:=(f5.resize hall).take h
 have f7:=f6.drop l
 rw[if_neg (by omega)]
 refine⟨b',o'+l*sz,sz,_,by rw[f1];simp [addr_add],f2,f3, ?_,f7⟩
 refine At.drop (w:=w) (b:=b') (o:=o') (cs:=vs.take (h*sz)) (fun j u hu=>f4 j u ?_) _
 rw[List.getElem?_take] at hu
 split at hu
 ·exact hu
 ·cases hu
theorem Ahf{M M':Nat→Prop}(hM:∀ b,M' b→M b){u:AV}{v:Value}(h:Rep φ M w u v)(hp0:p0 u=true):Rep Bb M' w (z0 u) v∧v.oneCell'=true:=by
 have hk:Keep M M' w w:=fun b hlt hn=>⟨fun h=>hn (hM b h),hlt,rfl⟩
 unfold p0 at hp0
 split at hp0
 ·rename_i x
  unfold z0
  split
  ·rename_i heq
   cases heq
   simp only[Rep] at h ⊢
   obtain⟨rfl,h2⟩:=h
   exact⟨⟨none,0,rfl,Nat.le_refl _,by decide,trivial,fun hn=>absurd rfl hn⟩,h2⟩
  ·simp only[Rep] at h ⊢
   exact⟨h,by rw[h.1];exact h.2⟩
 ·rename_i es
  unfold z0
  have h':=Rep.keep hk (Ext.refl φ) _ _ h
  simp only[Rep] at h' ⊢
  obtain⟨A,c,rfl,r⟩:=h'
  exact⟨⟨A,c,rfl,r⟩,rfl⟩
 ·cases hp0
theorem W9{M M':Nat→Prop}(hM:∀ b,M' b→M b):∀ {us:List AV} {vs:List Value},RepL φ M w us vs→us.all p0=true→RepL Bb M' w (us.map z0) vs
 | [],_,h,_=>by simp only[RepL] at h;subst h;exact RepL.nil
 | u :: us,_,h,hp0=>by
  simp only[RepL] at h
  obtain⟨v,vs',rfl,h2,h3⟩:=h
  rw[List.all_cons,Bool.and_eq_true] at hp0
  exact RepL.cons (Ahf hM h2 hp0.1).1 (W9 hM h3 hp0.2)
theorem Iy{M M':Nat→Prop}(hM:∀ b,M' b→M b){sz:Nat}:∀ {es:List (List AV)} {vs:List Value},RepLL φ M w sz es vs→(es.all (·.all p0))=true→RepLL Bb M' w sz (es.map (·.map z0)) vs
 | [],_,h,_=>by simp only[RepLL] at h;subst h;exact RepLL.nil sz
 | e :: es,_,h,hp0=>by
  simp only[RepLL] at h
  obtain⟨x,y,rfl,h2,h3,h4,h5⟩:=h
  rw[List.all_cons,Bool.and_eq_true] at hp0
  exact RepLL.cons h2 h3 (W9 hM h4 hp0.1) (Iy hM h5 hp0.2)
def Mf(φ:Phi)(hp:Nat→Option A4)(M0:Nat→Prop)(ids:List Nat)(b:Nat):Prop:=Mo φ ((Eff.frz ids).app 0 hp) M0 b
theorem Ir{ids:List Nat}{b:Nat}(h:Mf φ hp M0 ids b):Mo φ hp M0 b:=by
 rcases h with h|⟨i,β,v,h1,h2,h3,h4⟩
 ·exact .inl h
 ·simp only[Eff.app] at h1
  split at h1
  ·cases hh:hp i with
   | none=>rw[hh] at h1;cases h1
   | some γ=>rw[hh] at h1;cases h1;cases h2
  ·exact .inr ⟨i,β,v,h1,h2,h3,h4⟩
theorem Aeo(st:St P M0 N w0 F φ σ a w){ids:List Nat}{i b:Nat}{β:A4}{v:Value×Nat}(hi:i∈ids)(h1:σ.hp i=some β)(h2:φ i=some v)(h3:v.1.ownBlock=some b):¬ Mf φ σ.hp M0 ids b:=by
 rintro (h|⟨j,γ,x,k1,k2,k3,k4⟩)
 ·rcases st.m0 b h with q|q
  ·exact absurd q (by have:=(st.lt h1 h2 h3).1;omega)
  ·exact st.jo i β v b h1 h2 h3 q
 ·simp only[Eff.app] at k1
  split at k1
  ·cases hh:σ.hp j with
   | none=>rw[hh] at k1;cases k1
   | some δ=>rw[hh] at k1;cases k1;cases k2
  ·rename_i hn
   have:=st.inj j i γ β x v b k1 h1 k3 h2 k4 h3
   exact hn (this▸hi)
theorem Ud(st:St P M0 N w0 F φ σ a w)(hpx:∀ b β v,hp b=some β→φ b=some v→∃ γ,σ.hp b=some γ∧wkR β γ){u u':AV}{v:Value}{ids all:List Nat}(h:Rep φ (Mo φ σ.hp M0) w u v)(hc:cl1 hp u=some (u',ids))(hs:∀ i∈ids,i∈all) :
  Rep Bb (Mf φ σ.hp M0 all) w u' v∧v.oneCell'=true:=by
 have old:∀ u,(if p0 u then some (z0 u,([]:List Nat)) else none)=some (u',ids)→Rep φ (Mo φ σ.hp M0) w u v→Rep Bb (Mf φ σ.hp M0 all) w u' v∧v.oneCell'=true:=by
  intro u hc h
  split at hc
  ·rename_i hp0
   cases hc
   exact Ahf (fun b hb=>Ir hb) h hp0
  ·cases hc
 unfold cl1 at hc
 split at hc
 ·rename_i i
  cases hh:hp i with
  | none=>rw[hh] at hc;cases hc
  | some β =>
   rw[hh] at hc
   dsimp only[Option.bind_some] at hc
   split at hc
   ·rename_i hall
    cases hc
    simp only[Rep] at h
    obtain⟨sz,hφ⟩:=h
    obtain⟨γ,hb,_⟩:=hpx i β _ hh hφ
    obtain⟨_,xs,h5,h6⟩:=F4 st hpx hh hφ
    have hz:=Iy (M':=Mf φ σ.hp M0 all) (fun b hb=>Ir hb) h6 hall
    refine⟨?_,st.ones i _ hφ⟩
    simp only[Rep]
    rcases h5.2 with⟨q1,q2⟩|⟨g,cap,cur,q1,q2,q3,q4,q5,_⟩
    ·exact⟨none,0,by rw[List.length_map,q1,q2],by rw[List.length_map];omega,by decide,trivial,fun hn=>absurd (List.eq_nil_of_length_eq_zero (by rw[List.length_map];exact q2)) hn⟩
    ·refine⟨some ⟨g,0,none⟩,cap,by rw[List.length_map];exact q1,by rw[List.length_map];exact q4,q5,trivial,fun _=>⟨g,0,sz,xs,rfl, ?_,(Array.getElem?_eq_some_iff.1 q3).1, ?_,hz⟩⟩
     ·exact Aeo st (hs i (by simp)) hb hφ (by rw[q1];rfl)
     ·intro j y hy
      have:=h5.cells (g:=g) (by rw[q1];rfl) j y hy
      rwa [addr_add] at this
   ·cases hc
 ·rename_i i j off
  cases hh:hp i with
  | none=>rw[hh] at hc;cases hc
  | some β =>
   rw[hh] at hc
   dsimp only[Option.bind_some] at hc
   cases he:β.es[j]? with
   | none=>rw[he] at hc;cases hc
   | some e =>
    rw[he] at hc
    dsimp only[Option.bind_some] at hc
    split at hc
    ·rename_i hall
     cases hc
     rw[Bool.and_eq_true,Bool.not_eq_true'] at hall
     simp only[Rep] at h
     obtain⟨hd,sz,hφ,hv⟩:=h
     obtain⟨γ,hb,_⟩:=hpx i β _ hh hφ
     obtain⟨_,xs,h5,h6⟩:=F4 st hpx hh hφ
     obtain⟨p,q,r,q1,q2,q3,q4,q5,_,_⟩:=h6.get he
     have hne:xs≠[]:=by
      intro e'
      rw[e'] at q1
      have hq:q=[]:=by simp at q1;exact q1.2.1
      rw[hq] at q5
      have:=RepL.len q5
      cases e with
      | nil=>simp at hall
      | cons _ _=>simp at this
     obtain⟨g,c,r1,r2,r3,r4,r5,r6,r7,r8,_⟩:=Gp h5 hne
     refine⟨?_,by rw[hv];rfl⟩
     simp only[Rep]
     refine⟨g,j*sz,q,by rw[hv,r5], ?_,r6, ?_,q4,W9 (fun b hb=>Ir hb) q5 hall.1⟩
     ·exact Aeo st (hs i (by simp)) hb hφ r4
     ·rw[q1] at r8
      have:=At.part r8
      rwa [q2,Nat.zero_add] at this
    ·cases hc
 ·cases hc
  have h':=Rep.keep (φ':=φ) (M':=Mf φ σ.hp M0 all) (fun b hlt hn=>⟨fun h=>hn (Ir h),hlt,rfl⟩) (Ext.refl φ) _ _ h
  simp only[Rep] at h' ⊢
  refine⟨h', ?_⟩
  obtain⟨_,_,_,rfl,_⟩:=h'
  rfl
 ·exact old _ hc h
theorem Pf(st:St P M0 N w0 F φ σ a w)(hpx:∀ b β v,hp b=some β→φ b=some v→∃ γ,σ.hp b=some γ∧wkR β γ):∀ {us us':List AV} {vs:List Value} {ids all:List Nat},RepL φ (Mo φ σ.hp M0) w us vs→Ij hp us=some (us',ids)→(∀ i∈ids,i∈all) →
  RepL Bb (Mf φ σ.hp M0 all) w us' vs
 | [],_,_,_,_,h,hc,_=>by
  simp only[Ij,Option.some.injEq,Prod.mk.injEq] at hc
  obtain⟨rfl,rfl⟩:=hc
  simp only[RepL] at h ⊢
  exact h
 | u :: us,_,_,_,_,h,hc,hs=>by
  simp only[RepL] at h
  obtain⟨v,vs',rfl,h2,h3⟩:=h
  simp only[Ij] at hc
  cases h4:cl1 hp u with
  | none=>rw[h4] at hc;cases hc
  | some x =>
   rw[h4] at hc
   dsimp only[Option.bind_some] at hc
   cases h5:Ij hp us with
   | none=>rw[h5] at hc;cases hc
   | some y =>
    rw[h5] at hc
    dsimp only[Option.bind_some] at hc
    cases hc
    exact RepL.cons (Ud st hpx h2 h4 fun i hi=>hs i (List.mem_append_left _ hi)).1 (Pf st hpx h3 h5 fun i hi=>hs i (List.mem_append_right _ hi))
theorem Pg(st:St P M0 N w0 F φ σ a w)(hpx:∀ b β v,hp b=some β→φ b=some v→∃ γ,σ.hp b=some γ∧wkR β γ){u u':AV}{v:Value}{ids all:List Nat}(h:Rep φ (Mo φ σ.hp M0) w u v)(hc:cl hp u=some (u',ids))(hs:∀ i∈ids,i∈all) :
  Rep Bb (Mf φ σ.hp M0 all) w u' v:=by
 unfold cl at hc
 split at hc
 ·rename_i cs
  cases h1:Ij hp cs with
  | none=>rw[h1] at hc;cases hc
  | some x =>
   rw[h1] at hc
   cases hc
   simp only[Rep] at h ⊢
   obtain⟨vs,h2,h3,h4⟩:=h
   exact⟨vs,h2,h3,Pf st hpx h4 h1 hs⟩
 ·rename_i f cs
  cases h1:Ij hp cs with
  | none=>rw[h1] at hc;cases hc
  | some x =>
   rw[h1] at hc
   cases hc
   simp only[Rep] at h ⊢
   obtain⟨vs,h2,h4⟩:=h
   exact⟨vs,h2,Pf st hpx h4 h1 hs⟩
 ·exact (Ud st hpx h hc hs).1
theorem Fa(st:St P M0 N w0 F φ σ a w)(hpx:∀ b β v,hp b=some β→φ b=some v→∃ γ,σ.hp b=some γ∧wkR β γ):∀ {us us':List AV} {vs:List Value} {ids all:List Nat},RepL φ (Mo φ σ.hp M0) w us vs→cls hp us=some (us',ids)→(∀ i∈ids,i∈all) →
  RepL Bb (Mf φ σ.hp M0 all) w us' vs
 | [],_,_,_,_,h,hc,_=>by
  simp only[cls,Option.some.injEq,Prod.mk.injEq] at hc
  obtain⟨rfl,rfl⟩:=hc
  simp only[RepL] at h ⊢
  exact h
 | u :: us,_,_,_,_,h,hc,hs=>by
  simp only[RepL] at h
  obtain⟨v,vs',rfl,h2,h3⟩:=h
  simp only[cls] at hc
  cases h4:cl hp u with
  | none=>rw[h4] at hc;cases hc
  | some x =>
   rw[h4] at hc
   dsimp only[Option.bind_some] at hc
   cases h5:cls hp us with
   | none=>rw[h5] at hc;cases hc
   | some y =>
    rw[h5] at hc
    dsimp only[Option.bind_some] at hc
    cases hc
    exact RepL.cons (Pg st hpx h2 h4 fun i hi=>hs i (List.mem_append_left _ hi)) (Fa st hpx h3 h5 fun i hi=>hs i (List.mem_append_right _ hi))
theorem RepLL.lens{M:Nat→Prop}{sz:Nat}:∀ {es:List (List AV)} {xs:List Value},RepLL φ M w sz es xs→∀ e∈es,e.length=sz
 | [],_,_,_,h=>by cases h
 | e :: es,_,h,x,hx=>by
  simp only[RepLL] at h
  obtain⟨y,z,rfl,h2,h3,h4,h5⟩:=h
  rcases List.mem_cons.1 hx with rfl|hx
  ·rw[← RepL.len h4,h2]
  ·exact RepLL.lens h5 x hx
theorem Zd(b:Bn P M0 N w0 F φ σ a w hp id o)(he:Ends P M0 N w0 F σ id o k K){t:Nat}{x:Operand}{lo hi mx:Option Operand}(ho:o.op=.slice t x lo hi mx){ev:Operand→AV}{u:AV}
  (hx:Rep φ (Mo φ σ.hp M0) w u (a.eval x)) (hlo:∀ y,lo=some y→Rep φ (Mo φ σ.hp M0) w (ev y) (a.eval y)) (hhi:∀ y,hi=some y→Rep φ (Mo φ σ.hp M0) w (ev y) (a.eval y)) (hmx:∀ y,mx=some y→Rep φ (Mo φ σ.hp M0) w (ev y) (a.eval y))
  (hk:B7 P hp id t u ev lo hi mx k):o.wp P a w K Q:=by
 have hrun:∀ r,(Instr.sliceAt t (a.eval x) (lo.map a.eval) (hi.map a.eval) (mx.map a.eval)).run P w=.ok r w→(execOp a.eval o).run P w=.ok (.value r) w:=by
  intro r hr
  simp [execOp,ho,hr]
 unfold B7 at hk
 split at hk
 ·rename_i s hkk
  obtain⟨rfl,hk⟩:=hk
  have e1:=Au hx rfl
  obtain⟨l,hk,h1⟩:=F9 hlo hk
  obtain⟨h,⟨h2,h3,hk⟩,h4⟩:=F9 hhi hk
  refine Aa b he hk (Aq _ rfl) (hrun _ ?_)
  rw[e1]
  rcases h1 with⟨rfl,rfl⟩|⟨y,kd,n,rfl,q1,q2,rfl⟩<;>rcases h4 with⟨rfl,rfl⟩|⟨y',kd',n',rfl,r1,r2,rfl⟩ <;>
   simp [Instr.sliceAt,Instr.slice,run_underlying (El hkk),Instr.sliceBounds, *,D1]
 ·rename_i e es hkk
  obtain⟨⟨hpos,hmh,hall⟩,hk⟩:=hk
  obtain⟨l,hk,h1⟩:=F9 hlo hk
  obtain⟨h,hk,h2⟩:=F9 hhi hk
  obtain⟨m,⟨h3,h4,h5,hk⟩,h6⟩:=F9 hmx hk
  have hx':=hx
  simp only[Rep] at hx
  obtain⟨A,c,g1,g2,g3,_⟩:=hx
  obtain⟨m',k1,k2,_,hr⟩:=Mz (w:=w) hkk hpos hmh g1 g2 h1 h2 h6 h3 h4 h5
  rw[g1] at hx'
  exact Aa b he hk (Tb hx' hall h3 h4 h5 k1 k2) (hrun _ hr)
 ·rename_i e i hkk
  obtain⟨β,hb,⟨rfl,hpos,rfl⟩,hk⟩:=hk
  obtain⟨l,hk1,h1⟩:=F9 hlo hk
  obtain⟨h,⟨⟨h3,h4⟩,hk2⟩,h2⟩:=F9 hhi hk1
  clear hk hk1
  have hxr:=hx
  simp only[Rep] at hx
  obtain⟨sz,hφ⟩:=hx
  obtain⟨γ,hg,wt,wm,wl⟩:=b.hpx i β _ hb hφ
  obtain⟨hsz,xs,h5,h6⟩:=F4 b.st b.hpx hb hφ
  have hform:∃ A c,a.eval x=.slice A β.es.length c∧β.es.length≤c∧((A=none∧c=0)∨∃ g cur,A=some ⟨g,0,none⟩∧w0.heap.size≤g∧w.heap[g]?=some (.cells cur β.ty (0,0))∧c≤maxLen∧cur.size=c*sz∧cur.toList.take (β.es.length*sz)=xs):=by
   rcases h5.2 with⟨q1,q2⟩|⟨g,cap,cur,q1,q2,q3,q4,q5,q6,q7⟩
   ·exact⟨none,0,by rw[q1,q2],Nat.le_of_eq q2,.inl ⟨rfl,rfl⟩⟩
   ·exact⟨_,cap,q1,q4,.inr ⟨g,cur,rfl,q2,q3,q5,q6,q7⟩⟩
  obtain⟨A,c,g1,g2,g3⟩:=hform
  obtain⟨m',k1,k2,k3,hr⟩:=Mz (w:=w) hkk hpos (fun _=>rfl) (m:=β.es.length) g1 g2 h1 h2 (.inl ⟨rfl,rfl⟩) h3 h4 (Nat.le_refl _)
  have k3:=k3 rfl
  subst k3
  rcases hk2 with⟨hall,hk⟩|⟨⟨rfl,hlh⟩,hk⟩|⟨⟨rfl,hmu⟩,hk⟩
  ·have hcl:=Ud b.st b.hpx hxr (u':=.sl (β.es.map (·.map z0))) (ids:=[i]) (all:=[i]) (by simp only[cl1,hb,Option.bind_some];rw[if_pos hall]) (fun _ h=>h)
   rw[g1] at hcl
   have hlens:∀ x∈β.es.map (·.map z0),x.length=(aty P β.ty).sz:=by
    intro x hx
    obtain⟨y,hy,rfl⟩:=List.mem_map.1 hx
    rw[List.length_map,← hsz]
    exact h6.lens y hy
   have hrep:=Tb hcl.1 hlens h3 h4 (by rw[List.length_map];exact Nat.le_refl _) k1 k2
   exact Eg (hrun _ hr) (he _ _ hk φ _ w (((b.st.frz [i]).sub fun _ h=>h.1).put (Rep.keep (Keep.refl _ w) (Pt φ) _ _ hrep) o.dst b.dst))
  ·rcases h2 with⟨_,rfl⟩|⟨_,_,_,hh,_⟩
   ·rcases g3 with⟨rfl,rfl⟩|⟨g,cur,rfl,g4,g5,g6,g7,g8⟩
    ·omega
    ·rw[if_neg (by omega)] at hr
     refine Aa b he hk ?_ (hrun _ hr)
     simp only[Rep]
     exact⟨sz,g,β.es.length,m',by rw[← g1];exact hφ,hlh,by simp [addr_add,hsz]⟩
   ·cases hh
  ·rcases h1 with⟨_,rfl⟩|⟨_,_,_,hh,_⟩
   ·have hv:(Value.slice (if m'=0 then A else A.map (·.add (0*(aty P β.ty).sz))) (h-0) (m'-0))=.slice A h m':=by
     rcases g3 with⟨rfl,rfl⟩|⟨g,cur,rfl,g4⟩
     ·rfl
     ·split
      ·simp
      ·simp [addr_add]
    rw[hv] at hr
    have hlen:(β.es.take h).length=h:=by rw[List.length_take];omega
    have hown:w.ownsRow w0.heap.size β.ty sz (.slice A h m') (β.es.take h).length (xs.take (h*sz)):=by
     rw[hlen]
     refine⟨by rw[List.length_take,h5.1,Nat.min_eq_left (Nat.mul_le_mul_right _ h4)], ?_⟩
     rcases g3 with⟨rfl,rfl⟩|⟨g,cur,rfl,g4,g5,g6,g7,g8⟩
     ·exact .inl ⟨by congr 1;omega,by omega⟩
     ·refine .inr ⟨g,m',cur,rfl,g4,g5,k1,g6,g7, ?_⟩
      rw[← g8,List.take_take,Nat.min_eq_left (Nat.mul_le_mul_right _ h4)]
    obtain⟨φ',q1,q2,q3⟩:=b.st.grow hg (wm.symm.trans hmu) hφ b.free (w':=w) ⟨rfl,rfl,rfl,Nat.le_refl _,fun _ _ _=>rfl⟩ (by rw[← wt];exact hown)
     (fun k hk=>.inl (by rw[g1];cases A<;>exact hk)) rfl (h6.take h)
    rw[← wt] at q3
    exact Eg (hrun _ hr) (he _ _ hk φ' _ w (q3.put (by simp only[Rep];exact⟨_,q2⟩) o.dst b.dst))
   ·cases hh
 ·rename_i len e i j off hkk
  obtain⟨⟨hpos,rfl,rfl,rfl,rfl,hml⟩,hk⟩:=hk
  simp only[Rep] at hx
  obtain⟨hd,sz,hφ,g1⟩:=hx
  obtain⟨ii,hi,hz,_⟩:=Cb hpos
  refine Aa b he hk (v:=.slice (some ⟨Ig hd,off,none⟩) len len) ?_ (hrun _ ?_)
  ·simp only[Rep]
   exact⟨hd,sz,_,len,hφ,rfl,Nat.le_refl _,fun _=>rfl,hml⟩
  ·rw[g1]
   simp [Instr.sliceAt,Instr.sureAddr,run_underlying (G2 hkk),Instr.sliceBounds,sizeOf,typeInfo,hi,Addr.add]
 ·rename_i e i off n hkk
  obtain⟨⟨hpos,rfl⟩,hk⟩:=hk
  obtain⟨l,hk1,h1⟩:=F9 hlo hk
  obtain⟨h,⟨⟨h3,h4⟩,hk2⟩,h2⟩:=F9 hhi hk1
  simp only[Rep] at hx
  obtain⟨hd,sz,A,c,hφ,g1,g2,g3,g4⟩:=hx
  obtain⟨m',k1,k2,k3,hr⟩:=Mz (w:=w) hkk hpos (fun _=>rfl) (m:=n) g1 g2 h1 h2 (.inl ⟨rfl,rfl⟩) h3 h4 (Nat.le_refl _)
  refine Aa b he hk2 ?_ (hrun _ hr)
  simp only[Rep]
  refine⟨hd,sz,_,_,hφ,rfl,by omega,fun hne=>?_,Nat.le_trans (Nat.sub_le _ _) (Nat.le_trans k2 g4)⟩
  rw[if_neg (by omega),g3 (by omega)]
  simp [addr_add]
 ·exact hk.elim
theorem T3{M M':Nat→Prop}{w w':World}{φ':Phi}{u:AV}{v:Value}(hn:Dt u=true)(h:Rep φ M w u v):Rep φ' M' w' u v:=by
 unfold Dt at hn
 split at hn
 ·simp only[Rep] at h ⊢;exact h
 ·simp only[Rep] at h ⊢
  obtain⟨A,c,h1,h2,h3,h4,_⟩:=h
  exact⟨A,c,h1,h2,h3,h4,fun hn=>absurd rfl hn⟩
 ·cases hn
theorem K3{M M':Nat→Prop}{w w':World}{φ':Phi}:∀ {us:List AV} {vs:List Value},us.all Dt=true→RepL φ M w us vs→RepL φ' M' w' us vs
 | [],_,_,h=>by simp only[RepL] at h ⊢;exact h
 | u :: us,_,hn,h=>by
  simp only[RepL] at h
  obtain⟨v,vs',rfl,h2,h3⟩:=h
  rw[List.all_cons,Bool.and_eq_true] at hn
  exact RepL.cons (T3 hn.1 h2) (K3 hn.2 h3)
theorem T4{M M':Nat→Prop}{w w':World}{φ':Phi}{u:AV}{v:Value}(hn:Lc u=true)(h:Rep φ M w u v):Rep φ' M' w' u v:=by
 unfold Lc at hn
 split at hn
 ·simp only[Rep] at h ⊢
  obtain⟨vs,h1,h2,h3⟩:=h
  exact⟨vs,h1,h2,K3 hn h3⟩
 ·exact T3 hn h
theorem Qc{M M':Nat→Prop}{w w':World}{φ':Phi}:∀ {us:List AV} {vs:List Value},us.all Lc=true→RepL φ M w us vs→RepL φ' M' w' us vs
 | [],_,_,h=>by simp only[RepL] at h ⊢;exact h
 | u :: us,_,hn,h=>by
  simp only[RepL] at h
  obtain⟨v,vs',rfl,h2,h3⟩:=h
  rw[List.all_cons,Bool.and_eq_true] at hn
  exact RepL.cons (T4 hn.1 h2) (Qc hn.2 h3)
theorem Af1{M M':Nat→Prop}{w w':World}{φ':Phi}{u:AV}{v:Value}(hn:K2 u=true)(h:Rep φ M w u v):Rep φ' M' w' u v:=by
 unfold K2 at hn
 split at hn
 ·simp only[Rep] at h ⊢
  obtain⟨vs,h1,h3⟩:=h
  exact⟨vs,h1,Qc hn h3⟩
 ·exact T4 hn h
theorem Gb{M M':Nat→Prop}{φ φ':Phi}{w w':World}{sz:Nat}:∀ {es:List (List AV)} {vs:List Value},(es.all (·.all Dt))=true→RepLL φ M w sz es vs→RepLL φ' M' w' sz es vs
 | [],_,_,h=>by simp only[RepLL] at h ⊢;exact h
 | e :: es,_,hn,h=>by
  simp only[RepLL] at h
  obtain⟨x,y,rfl,h2,h3,h4,h5⟩:=h
  rw[List.all_cons,Bool.and_eq_true] at hn
  exact RepLL.cons h2 h3 (K3 hn.1 h4) (Gb hn.2 h5)
theorem Rn{M:Nat→Prop}{ev:Operand→AV}:∀ {l:List Operand},(∀ x∈l,Rep φ M w (ev x) (a.eval x))→RepL φ M w (l.map ev) (l.map a.eval)
 | [],_=>RepL.nil
 | _ :: _,h=>RepL.cons (h _ (by simp)) (Rn fun y hy=>h y (by simp [hy]))
theorem G8(hp:Nat→Option A4)(i:Nat):(Eff.frz []).app i hp=hp:=by
 funext j
 simp [Eff.app]
theorem Ei{f:FuncId}(hc:Cw P f)(args:Array Value)(w:World):(callFunc f args).run P w=.ok (.enter f args) w:=by
 obtain⟨fn,g1,g2,g3⟩:=hc
 cases hbd:fn.body with
 | none=>rw[hbd] at g2;cases g2
 | some bd =>
  simp only[callFunc,Sem.run_bind,Result.andThen_ok,run_program,g1,g3,hbd]
  simp
theorem RepL.set1{M:Nat→Prop}{u:AV}{v:Value}:∀ {j:Nat} {us:List AV} {vs:List Value},RepL φ M w us vs→vs[j]?=some v→Rep φ M w u v→RepL φ M w (us.set j u) vs
 | _,[],_,h,hj,_=>by simp only[RepL] at h;subst h;cases hj
 | 0,x :: us,_,h,hj,hu=>by
  simp only[RepL] at h
  obtain⟨q,vs',rfl,h2,h3⟩:=h
  simp at hj
  subst hj
  exact RepL.cons hu h3
 | j+1,x :: us,_,h,hj,hu=>by
  simp only[RepL] at h
  obtain⟨q,vs',rfl,h2,h3⟩:=h
  exact RepL.cons h2 (RepL.set1 h3 (by simpa using hj) hu)
theorem Qn{M:Nat→Prop}:∀ {vs args:List Value},RepL φ M w (vs.map AV.ex) args→args=vs
 | [],_,h=>by simpa [RepL] using h
 | v :: vs,_,h=>by
  simp only[List.map_cons,RepL] at h
  obtain⟨x,xs,rfl,h1,h2⟩:=h
  simp only[Rep] at h1
  rw[h1.1,Qn h2]
theorem Xy{M:Nat→Prop}:∀ {rs:List Value},(∀ r∈rs,r.oneCell'=true)→RepL φ M w (rs.map AV.ex) rs
 | [],_=>RepL.nil
 | r :: rs,h=>RepL.cons (Aq r (h r (by simp))) (Xy fun x hx=>h x (by simp [hx]))
theorem Md(b:Bn P M0 N w0 F φ σ a w hp id o)(he:Ends P M0 N w0 F σ id o k K)(hC:∀ w w',C w→Below w.heap.size w w'→C w')(hc0:C w0){f:FuncId}{as:List AV}{vs:List Value}
  (hargs:RepL φ (Mo φ σ.hp M0) w as vs) (henter:(execOp a.eval o).run P w=(callFunc f vs.toArray).run P w) (hk:B8 P C id f hp as k):o.wp P a w K Q:=by
 have hCw:=hC w0 w hc0 b.st.below
 have enter:Cw P f→(execOp a.eval o).run P w=.ok (.enter f vs.toArray) w:=fun hc=>by rw[henter,Ei hc]
 rcases hk with⟨us,ids,h1,R,hcon,hk⟩|hk|⟨xs,rs,rfl,hx,hr,hk⟩
 rotate_right
 ·rw[Qn hargs] at henter
  refine Aa b he hk (v:=.tuple rs.toArray) ?_ (by rw[henter,hx w])
  simp only[Rep]
  exact⟨rs,rfl,Xy hr⟩
 ·have hcl:=Fa b.st b.hpx hargs h1 (all:=ids) (fun _ h=>h)
  have hM:∀ q,Mf φ σ.hp M0 ids q→q<w.heap.size:=fun q hq=>A4k b.st (Ir hq)
  have hcallable:Cw P f:=by cases R<;>exact hcon.1
  unfold Oper.wp
  rw[enter hcallable]
  cases R with
  | val r =>
   refine (hcon.2 _ w _ hM hCw hcl).mono ?_
   rintro e w' ⟨v,rfl,hr,hb⟩
   dsimp only at hk ⊢
   by_cases hn:K2 r=true
   ·rw[if_pos hn] at hk
    have hst:=((b.st.on hb).sub (F':=fun i=>F i∧i≠id) fun _ h=>h.1).put (u:=r) (v:=v) (Af1 hn hr) o.dst b.dst
    refine he _ _ hk φ _ w' ?_
    rw[G8]
    exact hst
   ·rw[if_neg hn] at hk
    refine he _ _ hk φ _ w' ?_
    exact (((b.st.frz ids).on hb).sub (F':=fun i=>F i∧i≠id) fun _ h=>h.1).put (Rep.keep (Keep.refl _ w') (Pt φ) _ _ hr) o.dst b.dst
  | fresh e es =>
   refine (hcon.2 _ w _ hM hCw hcl).mono ?_
   rintro e' w' ⟨v,xs,rfl,hown,hr,hb⟩
   obtain⟨hids,hk⟩:=hk
   subst hids
   dsimp only at hk ⊢
   have hmf:∀ q,Mf φ σ.hp M0 [] q↔Mo φ σ.hp M0 q:=fun q=>by unfold Mf;rw[G8]
   have hown':w'.ownsRow w0.heap.size e (aty P e).sz v es.length xs:=Yx hown b.st.below.size
   have hg:w.grownBy w' none:=⟨hb.os,hb.tape,hb.output,hb.size,fun q hq _=>hb.block q hq⟩
   have hkp:Keep (fun q=>Mf φ σ.hp M0 [] q∨v.ownBlock=some q) (fun q=>Mo φ σ.hp M0 q∨v.ownBlock=some q) w' w':=fun q hlt hn=>⟨fun h=>hn (h.imp (hmf q).2 fun h=>h),hlt,rfl⟩
   have hv1:v.oneCell'=true:=by obtain⟨A',c',hv,_⟩:=Ft hown;rw[hv];rfl
   obtain⟨φ',g1,g2,g3⟩:=b.st.new b.free hg hown' (fun q hq=>(hown.lt q hq).1) hv1 (RepLL.keep hkp (Pt φ) _ _ _ hr) rfl
   exact he _ _ hk φ' _ w' (g3.put (by simp only[Rep];exact⟨_,g2⟩) o.dst b.dst)
  | aggf cs j e es =>
   refine (hcon.2 _ w _ hM hCw hcl).mono ?_
   rintro e' w' ⟨vs',v,xs,rfl,hone,hcs,hj,hown,hr,hb⟩
   obtain⟨hids,hk⟩:=hk
   subst hids
   dsimp only at hk ⊢
   have hmf:∀ q,Mf φ σ.hp M0 [] q↔Mo φ σ.hp M0 q:=fun q=>by unfold Mf;rw[G8]
   have hown':w'.ownsRow w0.heap.size e (aty P e).sz v es.length xs:=Yx hown b.st.below.size
   have hg:w.grownBy w' none:=⟨hb.os,hb.tape,hb.output,hb.size,fun q hq _=>hb.block q hq⟩
   have hkp:Keep (fun q=>Mf φ σ.hp M0 [] q∨v.ownBlock=some q) (fun q=>Mo φ σ.hp M0 q∨v.ownBlock=some q) w' w':=fun q hlt hn=>⟨fun h=>hn (h.imp (hmf q).2 fun h=>h),hlt,rfl⟩
   have hv1:v.oneCell'=true:=by obtain⟨A',c',hv,_⟩:=Ft hown;rw[hv];rfl
   have hst:=b.st.newE b.free hg (n:=(aty P e).sz+1) (fun q hq=>(hown.lt q hq).1) hv1 (fun z ez=>by cases ez;exact⟨rfl,xs,hown',RepLL.keep hkp (Pt φ) _ _ _ hr⟩) (fun ez=>by cases ez)
   have hk2:Keep (fun q=>Mf φ σ.hp M0 [] q∨v.ownBlock=some q) (Mo (upd φ id (some (v,(aty P e).sz+1))) (upd σ.hp id (some ⟨e,es,true⟩)) M0) w' w':=by
    intro q hlt hn
    refine⟨?_,hlt,rfl⟩
    rintro (h0|⟨i,β,x,q1,q2,q3,q4⟩)
    ·exact hn (.inl (.inl h0))
    ·by_cases ei:i=id
     ·subst ei
      rw[Af] at q3
      cases q3
      exact hn (.inr q4)
     ·rw[Am _ _ ei] at q1 q3
      exact hn (.inl ((hmf q).2 (.inr ⟨i,β,x,q1,q2,q3,q4⟩)))
   refine he _ _ hk _ _ w' (hst.put ?_ o.dst b.dst)
   simp only[Rep]
   refine⟨vs',rfl,hone, ?_⟩
   exact RepL.set1 (RepL.keep hk2 (Pt _) _ _ hcs) hj (by simp only[Rep];exact⟨_,Af _ _ _⟩)
 ·unfold Vf at hk
  split at hk
  ·rename_i i rest
   obtain⟨β,us,ids,es',h1,h2,h3,h4,h5,h6,hcon,hk⟩:=hk
   simp only[RepL] at hargs
   obtain⟨hd,vs',rfl,hhd,hargs⟩:=hargs
   simp only[Rep] at hhd
   obtain⟨sz,hφ⟩:=hhd
   obtain⟨γ,hb,wt,wm,_⟩:=b.hpx i β _ h1 hφ
   obtain⟨hsz,xs,h7,h8⟩:=F4 b.st b.hpx h1 hφ
   subst hsz
   have hcl:=Fa b.st b.hpx hargs h4 (all:=ids) (fun _ h=>h)
   have hM:∀ q,Mf φ σ.hp M0 ids q→q<w.heap.size:=fun q hq=>A4k b.st (Ir hq)
   have hrow:=Iy (M':=Mf φ σ.hp M0 ids) (fun b hb=>Ir hb) h8 h3
   have hown:∀ q,hd.ownBlock=some q→Mf φ σ.hp M0 ids q:=fun q hq=>.inr ⟨i,γ,_,by simp only[Eff.app];rw[if_neg h5];exact hb,wm.symm.trans h2,hφ,hq⟩
   unfold Oper.wp
   rw[enter hcon.1]
   refine (hcon.2 _ w0 w hd xs vs' hc0 b.st.below hM (by rw[List.length_map];exact h7) hrow hown hcl).mono ?_
   rintro e w' ⟨v,xs',rfl,g1,g2,g3,g4⟩
   have hv1:v.oneCell'=true:=by obtain⟨A',c',hv,_⟩:=Ft g1;rw[hv];rfl
   obtain⟨φ',q1,q2,q3⟩:=b.st.grow hb (wm.symm.trans h2) hφ b.free (es:=es') (xs:=xs') (v':=v) g3 (by rw[← wt];exact g1) g4 hv1 (Gb h6 g2)
   rw[← wt] at q3
   exact he _ _ hk φ' _ w' (q3.put (by simp only[Rep];exact⟨_,q2⟩) o.dst b.dst)
  ·rename_i rest
   obtain⟨e,us,ids,es',h4,h6,hcon,hk⟩:=hk
   simp only[RepL] at hargs
   obtain⟨hd,vs',rfl,hhd,hargs⟩:=hargs
   have hv:=Au hhd rfl
   subst hv
   have hcl:=Fa b.st b.hpx hargs h4 (all:=ids) (fun _ h=>h)
   have hM:∀ q,Mf φ σ.hp M0 ids q→q<w.heap.size:=fun q hq=>A4k b.st (Ir hq)
   unfold Oper.wp
   rw[enter hcon.1]
   refine (hcon.2 _ w0 w (.slice none 0 0) [] vs' hc0 b.st.below hM (World.ownsRow_nil w w0.heap.size e (aty P e).sz) (RepLL.nil _) (fun q hq=>by cases hq) hcl).mono ?_
   rintro e' w' ⟨v,xs',rfl,g1,g2,g3,g4⟩
   have hv1:v.oneCell'=true:=by obtain⟨A',c',hv,_⟩:=Ft g1;rw[hv];rfl
   obtain⟨φ',q1,q2,q3⟩:=b.st.new b.free (w':=w') g3 g1 (fun q hq=>(g4 q hq).elim (fun h=>by cases h) fun h=>h) hv1 (Gb h6 g2) rfl
   exact he _ _ hk φ' _ w' (q3.put (by simp only[Rep];exact⟨_,q2⟩) o.dst b.dst)
  ·exact hk.elim
theorem A0u(b:Bn P M0 N w0 F φ σ a w hp id o)(he:Ends P M0 N w0 F σ id o k K)(hC:∀ w w',C w→Below w.heap.size w w'→C w')(hc0:C w0){c:Call}{f:FuncId}(ho:o.op=.call c)(hcal:c.callee=.value (.func f)){ev:Operand→AV}
  (hx:∀ x∈c.args.toList,Rep φ (Mo φ σ.hp M0) w (ev x) (a.eval x)) (hk:B8 P C id f hp (c.args.toList.map ev) k):o.wp P a w K Q:=by
 refine Md b he hC hc0 (vs:=c.args.toList.map a.eval) (Rn hx) ?_ hk
 have hae:(c.args.toList.map a.eval).toArray=c.args.map a.eval:=by apply Array.ext';simp
 rw[hae]
 simp [execOp,ho,resolve,hcal,Act.eval,Deferred.ofValue,invoke]
theorem Xe(b:Bn P M0 N w0 F φ σ a w hp id o)(he:Ends P M0 N w0 F σ id o k K)(hC:∀ w w',C w→Below w.heap.size w w'→C w')(hc0:C w0){c:Call}{t:Nat}(ho:o.op=.call c)(hcal:c.callee=.value (.tmp t)){ev:Operand→AV}
  (hx:∀ x∈c.args.toList,Rep φ (Mo φ σ.hp M0) w (ev x) (a.eval x)) (hv:Rep φ (Mo φ σ.hp M0) w (ev (.tmp t)) (a.eval (.tmp t)))
  (hk:match ev (.tmp t) with|.fn f caps=>B8 P C id f hp (c.args.toList.map ev++caps) k|.ex (.func (.func f) x y)=>(x=#[]∧y=#[])∧B8 P C id f hp (c.args.toList.map ev) k|_=>False):o.wp P a w K Q:=by
 split at hk
 ·rename_i f caps heq
  rw[heq] at hv
  simp only[Rep] at hv
  obtain⟨vs,h1,h2⟩:=hv
  refine Md b he hC hc0 (vs:=c.args.toList.map a.eval++vs) ((Rn hx).app h2) ?_ hk
  have hae:(c.args.toList.map a.eval++vs).toArray=c.args.map a.eval++vs.toArray:=by apply Array.ext';simp
  rw[hae]
  simp [execOp,ho,resolve,hcal,h1,Deferred.ofValue,invoke]
 ·rename_i f x y heq
  obtain⟨⟨rfl,rfl⟩,hk⟩:=hk
  have h1:=Au hv heq
  refine Md b he hC hc0 (vs:=c.args.toList.map a.eval) (Rn hx) ?_ hk
  have hae:(c.args.toList.map a.eval).toArray=c.args.map a.eval:=by apply Array.ext';simp
  rw[hae]
  simp [execOp,ho,resolve,hcal,h1,Deferred.ofValue,invoke]
 ·exact hk.elim
end
end Go.Proofs.YtbhffbgbhgjdiaaGreatDoor
namespace Go.Proofs.YtbhffbgbhgjdiaaGreatDoor
open Go.RowKit
set_option maxRecDepth 100000
section
variable{P:Program}{C:World→Prop}{w:World}{M0:Nat→Prop}{N:Nat}{w0:Root}{F:Nat→Prop}{φ:Phi}{σ:AS}{a:Act}{hp:Nat→Option A4}{id:Nat}{o:Oper}{k:AV→Eff→Prop}{K:Act→World→Prop}{Q:Exit→Act→World→Prop}
theorem Rj(b:Bn P M0 N w0 F φ σ a w hp id o)(he:Ends P M0 N w0 F σ id o k K){t:Nat}{r:Option Operand}(ho:o.op=.makeMap t r){ev:Operand→AV}
  (hk:A7 P C id (.makeMap t r) o.type ev hp k):o.wp P a w K Q:=by
 obtain⟨⟨rfl,kt,et,h1,h2,h3⟩,hk⟩:=hk
 have hst:=b.st.newE b.free (w':=w.alloc (.map #[] 0)) (World.grownBy_alloc w _ none) (n:=0) (ty:=t) (es:=[]) (v:=.slice (some ⟨w.heap.size,0,none⟩) 0 0) (fun q hq=>by cases hq;exact Nat.le_refl _) rfl (fun z ez=>by cases ez)
  (fun _ => ⟨w.heap.size,kt,et,0,_,rfl,b.st.below.size,h1,h2,h3,World.ownsMap_made w P kt _,Nat.le_refl _,fun kv kl v q1 q2=>by
    simp only[I0,Option.some.injEq] at q2
    subst q2
    rfl⟩)
 exact Eg (v:=.map (some w.heap.size)) (by simp [execOp,ho,run_makeMap]) (he _ _ hk _ _ _ (hst.put (by simp only[Rep];exact⟨_,Af _ _ _,rfl⟩) o.dst b.dst))
theorem A20(st:St P M0 N w0 F φ σ a w)(hpx:∀ b β v,hp b=some β→φ b=some v→∃ γ,σ.hp b=some γ∧wkR β γ){i:Nat}{β:A4}{v:Value}(h1:hp i=some β)(h2:φ i=some (v,0)):Hf P w w0.heap.size β v:=by
 obtain⟨γ,k1,k2,_,k3⟩:=hpx i β _ h1 h2
 obtain⟨g,kt,et,n,D,q1,q2,q3,q4,q5,q6,q7,q8⟩:=st.hpm i γ v k1 h2
 exact⟨g,kt,et,n,D,q1,q2,by rw[k2];exact q3,q4,q5,q6,by rw[Iw k3];exact q7,fun kv kl v a1 a2=>q8 kv kl v a1 (Mq k3 a2)⟩
theorem Sv{kx kv:Value}{bv v:Bool}{es:List (List AV)}(h:I0 ([.ex kx,.ex (.bool bv)] :: es) kv=some v):(kx=kv∧v=bv)∨(kx≠kv∧I0 es kv=some v):=by
 unfold I0 at h
 dsimp only at h
 split at h
 ·rename_i e
  exact .inl ⟨e,(Option.some.inj h).symm⟩
 ·rename_i e
  exact .inr ⟨e,h⟩
theorem Nx(b:Bn P M0 N w0 F φ σ a w hp id o)(he:Ends P M0 N w0 F σ id o k K){t:Nat}{m x v:Operand}(ho:o.op=.mapUpdate t m x v){ev:Operand→AV}
  (hm:Rep φ (Mo φ σ.hp M0) w (ev m) (a.eval m)) (hx:Rep φ (Mo φ σ.hp M0) w (ev x) (a.eval x)) (hv:Rep φ (Mo φ σ.hp M0) w (ev v) (a.eval v)) (hk:A7 P C id (.mapUpdate t m x v) o.type ev hp k):o.wp P a w K Q:=by
 unfold A7 at hk
 dsimp only at hk
 split at hk
 ·rename_i i heq
  obtain⟨β,kx,bv,h1,⟨h2,rfl⟩,h3,⟨kt',et',kl,h4,h5⟩,h6,h7,hk⟩:=hk
  rw[heq] at hm
  simp only[Rep] at hm
  obtain⟨hd,hφ,hmv⟩:=hm
  have e1:=Au hx h3
  have e2:=Au hv h6
  obtain⟨γ,hb,wt,wm,wl⟩:=b.hpx i β _ h1 hφ
  obtain⟨g,kt,et,n,D,q1,q2,q3,q4,q5,q6,q7,q8⟩:=A20 b.st b.hpx h1 hφ
  rw[h4] at q3
  cases q3
  obtain⟨w',hr,hown,hg⟩:=q6.update q5 h4 (Nat.lt_of_le_of_lt q7 h7) h5 (plainElem_bool q4.1 bv)
  subst q1
  have hD:Maps.IsMap D:=q6.isMap
  have hst:=b.st.setG hb (wm.symm.trans h2) hφ (w':=w') hg (es:=[.ex kx,.ex (.bool bv)] :: β.es) (fun z ez=>by cases ez)
   (fun _ => ⟨g,kt',et',n+1,D.put kl (.lit (.bool bv)),rfl,q2,by rw[← wt];exact h4,q4,q5,hown,by rw[List.length_cons];omega,fun kv kl' v' a1 a2=>by
     rcases Sv a2 with⟨rfl,rfl⟩|⟨hne,a3⟩
     ·rw[h5] at a1
      cases a1
      exact Maps.atKey_put_same hD (q5.key h5) _ _
     ·rw[Maps.atKey_put_other (fun e=>hne (q5.inj h5 (by rw[← e];exact a1)))]
      exact q8 kv kl' v' a1 a3⟩)
  rw[← wt] at hst
  refine Ah5 (w':=w') ?_ (he _ _ hk φ _ w' ((hst.sub fun _ h=>h.1).putJ undef o.dst b.dst))
  simp [execOp,ho,hmv,e1,e2,Ig,hr]
 ·exact hk.elim
theorem Qh{e:Nat}{v:Value}{bv:Bool}{ps:List MemPlace}(he:P.underlying e=some .bool)(h:plainElem (H:=Unit) P e v=some (.lit (.bool bv),ps)):v=.bool bv:=by
 cases v<;>simp [plainElem,he] at h
 rw[h.1]
theorem V5(b:Bn P M0 N w0 F φ σ a w hp id o)(he:Ends P M0 N w0 F σ id o k K){t:Nat}{m x:Operand}{c:Bool}(ho:o.op=.lookup t m x c){ev:Operand→AV}
  (hm:Rep φ (Mo φ σ.hp M0) w (ev m) (a.eval m)) (hx:Rep φ (Mo φ σ.hp M0) w (ev x) (a.eval x)) (hk:A7 P C id (.lookup t m x c) o.type ev hp k):o.wp P a w K Q:=by
 unfold A7 at hk
 dsimp only at hk
 split at hk
 ·rename_i i heq
  obtain⟨β,kx,bv,h1,⟨rfl,rfl⟩,h3,⟨kt',et',kl,h4,h5⟩,h6,hk⟩:=hk
  rw[heq] at hm
  simp only[Rep] at hm
  obtain⟨hd,hφ,hmv⟩:=hm
  have e1:=Au hx h3
  obtain⟨g,kt,et,n,D,rfl,q2,q3,q4,q5,q6,q7,q8⟩:=A20 b.st b.hpx h1 hφ
  rw[h4] at q3
  cases q3
  have hz:(zeroValue et').run P w=.ok (.bool false) w:=q4.2 w
  obtain⟨v,ps,hr,hv⟩:=q6.lookup q5 h4 hz (plainElem_bool q4.1 false) h5
  rw[q8 kx kl bv h5 h6] at hv
  have hvb:v=.bool bv:=Qh q4.1 hv
  subst hvb
  refine Aa b he hk (Aq _ rfl) ?_
  simp [execOp,ho,hmv,e1,Ig,hr]
 ·exact hk.elim
theorem Uj(b:Bn P M0 N w0 F φ σ a w hp id o)(he:Ends P M0 N w0 F σ id o k K){c:Call}(ho:o.op=.call c)(hcal:c.callee=.builtin .delete){m x:Operand}{t kt:Nat}(ha:c.args=#[m,x])(hat:c.argTypes=#[t,kt]){ev:Operand→AV}
  (hm:Rep φ (Mo φ σ.hp M0) w (ev m) (a.eval m)) (hx:Rep φ (Mo φ σ.hp M0) w (ev x) (a.eval x))
  (hk:match ev m with|.mp b=>∃ β kx,hp b=some β∧(β.mu=true∧β.ty=t)∧ev x=.ex kx∧Jo P t kx∧(∃ et,P.underlying t=some (.map kt et))∧k .junk (.set b ⟨β.ty,[.ex kx,.ex (.bool false)] :: β.es,true⟩)|_=>False):o.wp P a w K Q:=by
 split at hk
 ·rename_i i heq
  obtain⟨β,kx,h1,⟨h2,rfl⟩,h3,⟨kt',et',kl,h4,h5⟩,⟨et2,h6⟩,hk⟩:=hk
  rw[heq] at hm
  simp only[Rep] at hm
  obtain⟨hd,hφ,hmv⟩:=hm
  have e1:=Au hx h3
  obtain⟨γ,hb,wt,wm,wl⟩:=b.hpx i β _ h1 hφ
  obtain⟨g,kt1,et1,n,D,q1,q2,q3,q4,q5,q6,q7,q8⟩:=A20 b.st b.hpx h1 hφ
  rw[h4] at q3 h6
  cases q3
  cases h6
  obtain⟨w',hr,hown,hg⟩:=q6.drop q5 h4 h5 o.type
  subst q1
  have hst:=b.st.setG hb (wm.symm.trans h2) hφ (w':=w') hg.grown (es:=[.ex kx,.ex (.bool false)] :: β.es) (fun z ez=>by cases ez)
   (fun _ => ⟨g,kt,et',n,D.del kl,rfl,q2,by rw[← wt];exact h4,q4,q5,hown,by rw[List.length_cons];omega,fun kv kl' v' a1 a2=>by
     rcases Sv a2 with⟨rfl,rfl⟩|⟨hne,a3⟩
     ·rw[h5] at a1
      cases a1
      exact Maps.atKey_del_same _
     ·rw[Maps.atKey_del_other (fun e=>hne (q5.inj h5 (by rw[← e];exact a1)))]
      exact q8 kv kl' v' a1 a3⟩)
  rw[← wt] at hst
  refine Eg (v:=.tuple #[]) (w':=w') ?_ (he _ _ hk φ _ w' ((hst.sub fun _ h=>h.1).putJ _ o.dst b.dst))
  simp [execOp,ho,resolve,hcal,ha,hat,invoke,builtin,hmv,e1,Ig,hr]
 ·exact hk.elim
theorem Mx{base ty sz n c g:Nat}{hd:Value}{xs ys:List Value}{cur:Array Value}(h:w.ownsRow base ty sz hd n xs)(r1:hd=.slice (some ⟨g,0,none⟩) n c)(r2:n≤c)(r3:c≤maxLen)(r7:base≤g)
  (s1:w.heap[g]?=some (.cells cur ty (0,0))) (s2:cur.size=c*sz) (s3:cur.toList.take (n*sz)=xs) {i:Nat} (hi:i+ys.length≤n*sz) :
  (w.setRow g (cur.toList.take i++ys++cur.toList.drop (i+ys.length)).toArray).ownsRow base ty sz hd n (xs.take i++ys++xs.drop (i+ys.length)):=by
 have hcl:cur.toList.length=c*sz:=by rw[Array.length_toList,s2]
 have hns:n*sz≤c*sz:=Nat.mul_le_mul_right _ r2
 have hxl:=h.1
 refine⟨by simp only[List.length_append,List.length_take,List.length_drop];omega,.inr ⟨g,c,_,r1,r7,setRow_heap w g cur _ ty _ s1,r2,r3, ?_, ?_⟩⟩
 ·simp only[List.size_toArray,List.length_append,List.length_take,List.length_drop,hcl]
  omega
 ·have hcur:cur.toList=xs++cur.toList.drop (n*sz):=by rw[← s3,List.take_append_drop]
  have e1:cur.toList.take i=xs.take i:=by rw[hcur,List.take_append_of_le_length (by omega)]
  have e2:cur.toList.drop (i+ys.length)=xs.drop (i+ys.length)++cur.toList.drop (n*sz):=by rw[hcur,List.drop_append_of_le_length (by omega),← hcur]
  rw[e1,e2,← List.append_assoc]
  refine List.take_left' ?_
  simp only[List.length_append,List.length_take,List.length_drop];omega
theorem Xg(b:Bn P M0 N w0 F φ σ a w hp id o)(he:Ends P M0 N w0 F σ id o k K){c:Call}(ho:o.op=.call c)(hcal:c.callee=.builtin .clear){x:Operand}{t e i lo:Nat}(ha:c.args=#[x])(hat:c.argTypes=#[t])(hkk:(aty P t).k=.slice e)
  (hx:Rep φ (Mo φ σ.hp M0) w (.vw i lo) (a.eval x))
  (hk:∃ β,hp i=some β∧(β.mu=true∧β.ty=e)∧((aty P e).zero.length=(aty P e).sz∧0<(aty P e).sz∧(aty P e).zero.all (·.oneCell')=true)∧k .junk (.set i ⟨β.ty,β.es.take lo++List.replicate (β.es.length-lo) ((aty P e).zero.map .ex),true⟩)):o.wp P a w K Q:=by
 obtain⟨β,h1,⟨h2,rfl⟩,⟨z1,z2,z3⟩,hk⟩:=hk
 obtain⟨ii,z,hi,hz,hs,_,hzc⟩:=Fl z2 z1
 simp only[Rep] at hx
 obtain⟨sz,g,n,cc,hφ,hlo,hxv⟩:=hx
 obtain⟨γ,hb,wt,wm,wl⟩:=b.hpx i β _ h1 hφ
 obtain⟨hsz,xs,h5,h6⟩:=F4 b.st b.hpx h1 hφ
 subst hsz
 have hne:xs≠[]:=by
  rcases h5.2 with⟨q,_⟩|⟨g',cap,cur,q1,_,_,q4,_⟩
  ·cases q
  ·cases q1
   intro e
   have:=h5.1
   rw[e,List.length_nil] at this
   have:=Nat.mul_pos (show 0<β.es.length by omega) z2
   omega
 obtain⟨g',c',r1,r2,r3,r4,r5,r6,r7,r8,cur,s1,s2,s3⟩:=Gp h5 hne
 cases r1
 have hzl:=To hzc (β.es.length-lo)
 have hys:(List.replicate (β.es.length-lo) (aty P β.ty).zero).flatten.length=(β.es.length-lo)*(aty P β.ty).sz:=by simp [z1]
 have hmul:lo*(aty P β.ty).sz+(β.es.length-lo)*(aty P β.ty).sz=β.es.length*(aty P β.ty).sz:=by rw[← Nat.add_mul];congr 1;omega
 have hcs:β.es.length*(aty P β.ty).sz≤cc*(aty P β.ty).sz:=Nat.mul_le_mul_right _ r2
 have hones:∀ v∈(List.replicate (β.es.length-lo) (aty P β.ty).zero).flatten,v.oneCell'=true:=by
  intro v hv
  obtain⟨l,hl,hvl⟩:=List.mem_flatten.1 hv
  rw[List.eq_of_mem_replicate hl] at hvl
  exact List.all_eq_true.1 z3 v hvl
 have hst:=run_storeCells_at P g (lo*(aty P β.ty).sz) β.ty (List.replicate (β.es.length-lo) (aty P β.ty).zero).flatten 0 cur w s1 (by rw[hys];omega) hones
 simp only[Nat.add_zero] at hst
 have hown:=Mx h5 rfl r2 r3 r7 s1 s2 s3 (i:=lo*(aty P β.ty).sz) (ys:=(List.replicate (β.es.length-lo) (aty P β.ty).zero).flatten) (by rw[hys];omega)
 have hrow:RepLL φ (Mo φ σ.hp M0) w (aty P β.ty).sz (β.es.take lo++List.replicate (β.es.length-lo) ((aty P β.ty).zero.map .ex)) (xs.take (lo*(aty P β.ty).sz)++(List.replicate (β.es.length-lo) (aty P β.ty).zero).flatten++xs.drop (lo*(aty P β.ty).sz+(List.replicate (β.es.length-lo) (aty P β.ty).zero).flatten.length)):=by
  rw[List.drop_of_length_le (by rw[hys,hmul,h5.1];exact Nat.le_refl _),List.append_nil]
  exact (h6.take lo).app (Mw _ _ z1 (List.all_eq_true.1 z3) _)
 have hlen:(β.es.take lo++List.replicate (β.es.length-lo) ((aty P β.ty).zero.map AV.ex)).length=β.es.length:=by rw[List.length_append,List.length_take,List.length_replicate];omega
 have hfin:=b.st.set hb (wm.symm.trans h2) hφ (w':=w.setRow g _) ⟨rfl,rfl,rfl,by simp,fun k' _ hk'=>setRow_other w g k' _ fun e'=>hk' (by rw[r4,e'])⟩ (by rw[← wt,hlen];exact hown) hrow
 rw[← wt] at hfin
 refine Eg (v:=.tuple #[]) ?_ (he _ _ hk φ _ _ ((hfin.sub fun _ h=>h.1).putJ _ o.dst b.dst))
 obtain⟨mm,hmm⟩:∃ mm,β.es.length-lo=mm+1:=⟨β.es.length-lo-1,by omega⟩
 have hrun:(Builtin.clear_ #[t] o.type #[a.eval x]).run P w=.ok (.tuple #[]) (w.setRow g (cur.toList.take (lo*(aty P β.ty).sz)++(List.replicate (β.es.length-lo) (aty P β.ty).zero).flatten++cur.toList.drop (lo*(aty P β.ty).sz+(List.replicate (β.es.length-lo) (aty P β.ty).zero).flatten.length)).toArray):=by
  rw[hxv]
  rw[hmm] at hzl hst ⊢
  simp [Builtin.clear_,run_underlying (Ah hkk),zeroValue,typeInfo,hi,hz,hzl,hst]
 simp [execOp,ho,resolve,hcal,ha,hat,invoke,builtin,hrun]
theorem Tp{φ':Phi}{M:Nat→Prop}{z:List Value}(h:∀ v∈z,v.oneCell'=true):∀ n:Nat,RepL φ' M w (List.replicate n (z.map AV.ex)).flatten (List.replicate n z).flatten
 | 0=>by simp only[List.replicate_zero,List.flatten_nil,RepL]
 | n+1=>by
  rw[List.replicate_succ,List.replicate_succ,List.flatten_cons,List.flatten_cons]
  refine RepL.app ?_ (Tp h n)
  clear n
  induction z with
  | nil=>exact RepL.nil
  | cons v z ih=>exact RepL.cons (Aq v (h v (by simp))) (ih fun u hu=>h u (by simp [hu]))
theorem Uf(b:Bn P M0 N w0 F φ σ a w hp id o)(he:Ends P M0 N w0 F σ id o k K){c:Call}(ho:o.op=.call c)(hcal:c.callee=.builtin .clear){x:Operand}{t e i off m:Nat}(ha:c.args=#[x])(hat:c.argTypes=#[t])(hkk:(aty P t).k=.slice e)
  (hx:Rep φ (Mo φ σ.hp M0) w (.asl i off m) (a.eval x))
  (hk:∃ β r,hp i=some β∧(β.mu=true∧β.es=[r]∧0<m∧off+m*(aty P e).sz≤r.length)∧((aty P e).zero.length=(aty P e).sz∧0<(aty P e).sz∧(aty P e).zero.all (·.oneCell')=true) ∧
    k .junk (.set i ⟨β.ty,[r.take off++(List.replicate m ((aty P e).zero.map AV.ex)).flatten++r.drop (off+m*(aty P e).sz)],true⟩)):o.wp P a w K Q:=by
 obtain⟨β,r,h1,⟨h2,hes,hm,hoff⟩,⟨z1,z2,z3⟩,hk⟩:=hk
 obtain⟨ii,z,hi,hz,hs,_,hzc⟩:=Fl z2 z1
 simp only[Rep] at hx
 obtain⟨hd,sz,A,cc,hφ,hxv,hcc,hA,_⟩:=hx
 have hA:=hA (by omega)
 obtain⟨γ,hb,wt,wm,wl⟩:=b.hpx i β _ h1 hφ
 obtain⟨hsz,xs,h5,h6⟩:=F4 b.st b.hpx h1 hφ
 subst hsz
 rw[hes] at h5 h6
 have h6':=h6
 simp only[RepLL] at h6
 obtain⟨x1,y1,hxs,hl1,ho1,hr1,rfl⟩:=h6
 rw[List.append_nil] at hxs
 subst hxs
 have hrl:xs.length=r.length:=hr1.len
 have hpos2:0<m*(aty P e).sz:=Nat.mul_pos hm z2
 have hne:xs≠[]:=by
  intro e
  rw[e,List.length_nil] at hrl
  omega
 obtain⟨g,c',r1,r2,r3,r4,r5,r6,r7,r8,cur,s1,s2,s3⟩:=Gp h5 hne
 have hzl:=To hzc m
 have hys:(List.replicate m (aty P e).zero).flatten.length=m*(aty P e).sz:=by simp [z1]
 have hones:∀ v∈(List.replicate m (aty P e).zero).flatten,v.oneCell'=true:=by
  intro v hv
  obtain⟨l,hl,hvl⟩:=List.mem_flatten.1 hv
  rw[List.eq_of_mem_replicate hl] at hvl
  exact List.all_eq_true.1 z3 v hvl
 have hcs:1*(aty P β.ty).sz≤c'*(aty P β.ty).sz:=Nat.mul_le_mul_right _ r2
 have h51:=h5.1
 have hst:=run_storeCells_at P g off β.ty (List.replicate m (aty P e).zero).flatten 0 cur w s1 (by rw[hys];simp only[List.length_singleton] at h51;omega) hones
 simp only[Nat.add_zero] at hst
 have hown:=Mx h5 r1 r2 r3 r7 s1 s2 s3 (i:=off) (ys:=(List.replicate m (aty P e).zero).flatten) (by rw[hys];simp only[List.length_singleton] at h51 ⊢;omega)
 have hrl2:RepL φ (Mo φ σ.hp M0) w (r.take off++(List.replicate m ((aty P e).zero.map AV.ex)).flatten++r.drop (off+m*(aty P e).sz)) (xs.take off++(List.replicate m (aty P e).zero).flatten++xs.drop (off+(List.replicate m (aty P e).zero).flatten.length)):=by
  rw[hys]
  exact ((hr1.take off).app (Tp (List.all_eq_true.1 z3) m)).app (hr1.drop _)
 have hlen3:(xs.take off++(List.replicate m (aty P e).zero).flatten++xs.drop (off+(List.replicate m (aty P e).zero).flatten.length)).length=(aty P β.ty).sz:=by
  simp only[List.length_append,List.length_take,List.length_drop,hys]
  omega
 have hone3:∀ v∈(xs.take off++(List.replicate m (aty P e).zero).flatten++xs.drop (off+(List.replicate m (aty P e).zero).flatten.length)),v.oneCell'=true:=by
  intro v hv
  rcases List.mem_append.1 hv with hv|hv
  ·rcases List.mem_append.1 hv with hv|hv
   ·exact ho1 v (List.mem_of_mem_take hv)
   ·exact hones v hv
  ·exact ho1 v (List.mem_of_mem_drop hv)
 have hrow:RepLL φ (Mo φ σ.hp M0) w (aty P β.ty).sz [r.take off++(List.replicate m ((aty P e).zero.map AV.ex)).flatten++r.drop (off+m*(aty P e).sz)] (xs.take off++(List.replicate m (aty P e).zero).flatten++xs.drop (off+(List.replicate m (aty P e).zero).flatten.length)):=by
  have:=RepLL.cons hlen3 hone3 hrl2 (RepLL.nil (φ:=φ) (M:=Mo φ σ.hp M0) (w:=w) (aty P β.ty).sz)
  rwa [List.append_nil] at this
 have hfin:=b.st.set hb (wm.symm.trans h2) hφ (w':=w.setRow g _) ⟨rfl,rfl,rfl,by simp,fun k' _ hk'=>setRow_other w g k' _ fun e'=>hk' (by rw[r4,e'])⟩ (by rw[← wt];exact hown) hrow
 rw[← wt] at hfin
 refine Eg (v:=.tuple #[]) ?_ (he _ _ hk φ _ _ ((hfin.sub fun _ h=>h.1).putJ _ o.dst b.dst))
 obtain⟨mm,hmm⟩:∃ mm,m=mm+1:=⟨m-1,by omega⟩
 have hrun:(Builtin.clear_ #[t] o.type #[a.eval x]).run P w=.ok (.tuple #[]) (w.setRow g (cur.toList.take off++(List.replicate m (aty P e).zero).flatten++cur.toList.drop (off+(List.replicate m (aty P e).zero).flatten.length)).toArray):=by
  rw[hxv,hA,r5]
  rw[hmm] at hzl hst ⊢
  simp [Builtin.clear_,run_underlying (Ah hkk),zeroValue,typeInfo,hi,hz,hzl,hst]
 simp [execOp,ho,resolve,hcal,ha,hat,invoke,builtin,hrun]
theorem A13(b:Bn P M0 N w0 F φ σ a w hp id o)(he:Ends P M0 N w0 F σ id o k K){c:Call}(ho:o.op=.call c)(hcal:c.callee=.builtin .copy){x y:Operand}{t t2 e i:Nat}(ha:c.args=#[x,y])(hat:c.argTypes=#[t,t2])(hkk:(aty P t).k=.slice e){ev:Operand→AV}
  (hx:Rep φ (Mo φ σ.hp M0) w (.own i) (a.eval x)) (hy:Rep φ (Mo φ σ.hp M0) w (ev y) (a.eval y))
  (hk:∃ β ns,hp i=some β∧(β.mu=true∧β.ty=e∧0<(aty P e).sz)∧Fc hp (ev y)=some ns∧(∀ n∈ns,n.length=(aty P e).sz)∧ns.length≤β.es.length∧k (.ex (.int .i64 ns.length)) (.set i ⟨β.ty,ns++β.es.drop ns.length,true⟩)):o.wp P a w K Q:=by
 obtain⟨β,ns,h1,⟨h2,rfl,z2⟩,h3,h4,h5,hk⟩:=hk
 obtain⟨A,cc,g1,g2,g3,_,sz',vs,g5,g6⟩:=Vo b hy h3
 have g5:=g5.resize h4
 simp only[Rep] at hx
 obtain⟨sz,hφ⟩:=hx
 obtain⟨γ,hb,wt,wm,wl⟩:=b.hpx i β _ h1 hφ
 obtain⟨hsz,xs,h6,h7⟩:=F4 b.st b.hpx h1 hφ
 subst hsz
 obtain⟨ii,hi,hz,_⟩:=Cb z2
 have hlen:(ns++β.es.drop ns.length).length=β.es.length:=by rw[List.length_append,List.length_drop];omega
 have hrep:RepLL φ (Mo φ σ.hp M0) w (aty P β.ty).sz (ns++β.es.drop ns.length) (xs.take 0++vs++xs.drop (0+vs.length)):=by
  rw[List.take_zero,List.nil_append,Nat.zero_add,g5.len]
  exact g5.app (h7.drop _)
 by_cases hn:ns=[]
 ·subst hn
  have hv0:vs=[]:=by simp only[RepLL] at g5;exact g5
  subst hv0
  have hfin:=b.st.set hb (wm.symm.trans h2) hφ (w':=w) (es:=[]++β.es.drop 0) (xs:=xs) ⟨rfl,rfl,rfl,Nat.le_refl _,fun _ _ _=>rfl⟩ (by rw[← wt,List.nil_append,List.drop_zero];exact h6) (by rw[List.nil_append,List.drop_zero];exact h7)
  rw[← wt] at hfin
  refine Eg (v:=.int .i64 0) ?_ (he _ _ hk φ _ _ ((hfin.sub fun _ h=>h.1).put (Aq _ rfl) o.dst b.dst))
  have hl:∀ (x:Addr),(loadCells x 0).run P w=.ok #[] w:=fun x=>by simpa using run_loadCells_list (P:=P) w x [] (by simp)
  have hd:∃ B n c',a.eval x=.slice B n c':=by
   rcases h6.2 with⟨q,_⟩|⟨g',cap,cur,q1,_⟩
   ·exact⟨_,_,_,q⟩
   ·exact⟨_,_,_,q1⟩
  obtain⟨B,n,c',hd⟩:=hd
  simp only[List.length_nil] at g1
  have hrun:(Builtin.copy_ #[t,t2] o.type #[a.eval x,a.eval y]).run P w=.ok (.int .i64 0) w:=by
   rw[hd,g1]
   cases A<;>cases B<;>simp [Builtin.copy_,run_underlying (Ah hkk),Builtin.lenOf,Builtin.firstCells,sizeOf,typeInfo,hi,storeCells,hl,goInt]
  simp [execOp,ho,resolve,hcal,ha,hat,invoke,builtin,hrun]
 ·obtain⟨gs,os,rfl,gl,gat⟩:=g6 hn
  have hvl:=g5.len
  have hne:xs≠[]:=by
   intro e
   have:=h6.1
   rw[e,List.length_nil] at this
   have hpos:0<ns.length:=List.length_pos_iff.2 hn
   have:=Nat.mul_pos (show 0<β.es.length by omega) z2
   omega
  obtain⟨g,c',r1,r2,r3,r4,r5,r6,r7,r8,cur,s1,s2,s3⟩:=Gp h6 hne
  have hmul:ns.length*(aty P β.ty).sz≤β.es.length*(aty P β.ty).sz:=Nat.mul_le_mul_right _ h5
  have hcs:β.es.length*(aty P β.ty).sz≤c'*(aty P β.ty).sz:=Nat.mul_le_mul_right _ r2
  have hmin:Nat.min ns.length β.es.length=ns.length:=Nat.min_eq_left h5
  have hr:=By (P:=P) w t t2 o.type β.ty (aty P β.ty).sz g 0 β.es.length c' ⟨gs,os,none⟩ ns.length cc cur β.ty vs (Ah hkk) (by rw[hi];simp [hz]) s1 (by rw[hvl,hmin])
   (fun j v hj=>by rw[addr_add];exact gat j v hj) (by omega) g5.ones
  have hown:=Mx h6 r1 r2 r3 r7 s1 s2 s3 (i:=0) (ys:=vs) (by omega)
  have hfin:=b.st.set hb (wm.symm.trans h2) hφ (w':=w.setRow g _) ⟨rfl,rfl,rfl,by simp,fun k' _ hk'=>setRow_other w g k' _ fun e'=>hk' (by rw[r4,e'])⟩ (by rw[← wt,hlen];exact hown) hrep
  rw[← wt] at hfin
  refine Eg (v:=.int .i64 ns.length) ?_ (he _ _ hk φ _ _ ((hfin.sub fun _ h=>h.1).put (Aq _ rfl) o.dst b.dst))
  rw[← r1,← g1,hmin] at hr
  simp [execOp,ho,resolve,hcal,ha,hat,invoke,builtin,hr,goInt]
theorem Dq(b:Bn P M0 N w0 F φ σ a w hp id o)(he:Ends P M0 N w0 F σ id o k K)(hC:∀ w w',C w→Below w.heap.size w w'→C w')(hc0:C w0){ev:Operand→AV}
  (hx:∀ x∈o.op.operands,Rep φ (Mo φ σ.hp M0) w (ev x) (a.eval x)) (hk:A7 P C id o.op o.type ev hp k):o.wp P a w K Q:=by
 obtain⟨dst,op,type,pos,after,guard⟩:=o
 dsimp only at hk hx
 have ho:=(rfl:(Oper.mk dst op type pos after guard).op=op)
 cases op with
 | move x=>exact Aa b he hk (hx x (by simp [Op.operands])) (by simp [execOp])
 | assign x=>exact U3 b he ho (hx x (by simp [Op.operands])) hk
 | pick c x y =>
  obtain⟨t,h1,hk⟩:=hk
  have e1:=Au (hx c (by simp [Op.operands])) h1
  refine Aa b he hk (v:=if t then a.eval x else a.eval y) ?_ (by simp [execOp,e1,asBool])
  cases t
  ·exact hx y (by simp [Op.operands])
  ·exact hx x (by simp [Op.operands])
 | alloc t=>exact X1 b he ho hk
 | box t x=>exact A6a b he ho (hx x (by simp [Op.operands])) hk
 | build t parts=>exact Xc b he ho (fun x h=>hx x.2 (by simp [Op.operands];exact⟨x.1,by simpa using h⟩)) hk
 | buildSlice t n parts=>exact M9 b he ho (fun x h=>hx x.2 (by simp [Op.operands];exact⟨x.1,by simpa using h⟩)) hk
 | load t x=>exact A1y (C:=C) b he ho (hx x (by simp [Op.operands])) hk
 | store t x v=>exact Zf (C:=C) b he ho (hx x (by simp [Op.operands])) (hx v (by simp [Op.operands])) hk
 | nilCheck x=>exact Qb (C:=C) b he ho (hx x (by simp [Op.operands])) hk
 | binOp op t x y ty=>exact A67 b he ho (hx x (by simp [Op.operands])) (hx y (by simp [Op.operands])) hk
 | unOp op ty x=>exact Agt b he ho (hx x (by simp [Op.operands])) hk
 | convert s d x=>exact A12 b he ho (hx x (by simp [Op.operands])) hk
 | makeSlice t x y=>exact Nw (C:=C) b he ho (hx x (by simp [Op.operands])) (hx y (by simp [Op.operands])) hk
 | slice t x lo hi mx=>exact Zd b he ho (hx x (by simp [Op.operands])) (fun y h=>hx y (by simp [Op.operands,h])) (fun y h=>hx y (by simp [Op.operands,h])) (fun y h=>hx y (by simp [Op.operands,h])) hk
 | fieldAddr s x f=>exact Nu (C:=C) b he ho (hx x (by simp [Op.operands])) hk
 | field s x f=>exact Xz (C:=C) b he ho (hx x (by simp [Op.operands])) hk
 | indexAddr t x i=>exact Nv b he ho (hx x (by simp [Op.operands])) (hx i (by simp [Op.operands])) hk
 | index t x i=>exact Yb b he ho (hx x (by simp [Op.operands])) (hx i (by simp [Op.operands])) hk
 | extract x i=>exact Rh (C:=C) b he ho (hx x (by simp [Op.operands])) hk
 | makeMap t r=>exact Rj b he ho hk
 | mapUpdate t m x v=>exact Nx b he ho (hx m (by simp [Op.operands])) (hx x (by simp [Op.operands])) (hx v (by simp [Op.operands])) hk
 | lookup t m x c=>exact V5 b he ho (hx m (by simp [Op.operands])) (hx x (by simp [Op.operands])) hk
 | makeFunc fn first captured =>
  cases fn with
  | func f =>
   obtain⟨rfl,hk⟩:=hk
   refine Aa b he hk (v:=.func (.func f) #[] (captured.toList.map a.eval).toArray) ?_ ?_
   ·simp only[Rep]
    exact⟨_,rfl,Rn fun x hx'=>hx x (by simp [Op.operands];simpa using hx')⟩
   ·have:(captured.toList.map a.eval).toArray=captured.map a.eval:=by apply Array.ext';simp
    rw[this]
    simp [execOp,Instr.makeFunc]
  | _=>exact hk.elim
 | call c =>
  unfold A7 at hk
  dsimp only at hk
  have harg:∀ x∈c.args.toList,Rep φ (Mo φ σ.hp M0) w (ev x) (a.eval x):=fun x h=>hx x (by simp [Op.operands,Call.operands];exact .inr (by simpa using h))
  cases hcal:c.callee with
  | value f =>
   rw[hcal] at hk
   cases f with
   | func f=>exact A0u b he hC hc0 ho hcal harg hk
   | tmp t=>exact Xe b he hC hc0 ho hcal harg (hx (.tmp t) (by simp [Op.operands,Call.operands,hcal])) hk
   | _=>exact hk.elim
  | invoke r m=>rw[hcal] at hk;exact hk.elim
  | builtin bi =>
   rw[hcal] at hk
   cases bi with
   | len =>
    dsimp only at hk
    split at hk
    ·rename_i x t h1 h2
     exact A7t b he ⟨c,ho,hcal,by apply Array.ext';simpa using h1,by apply Array.ext';simpa using h2⟩ (harg x (by rw[h1];simp)) hk
    ·exact hk.elim
   | append =>
    dsimp only at hk
    split at hk
    ·rename_i s x t t2 h1 h2
     split at hk
     ·rename_i e hkk
      have hs:=harg s (by rw[h1];simp)
      have hxx:=harg x (by rw[h1];simp)
      split at hk
      ·exact hk.elim
      ·obtain⟨rfl,ns,h3,hk⟩:=hk
       obtain⟨A,cc,g1,_,_,g4,sz,vs,g5,g6⟩:=Vo b hxx h3
       refine Ahw b he hkk hs g1 g4 g5 g6 ?_ hk
       intro r w' hr
       have ha1:c.args=#[s,x]:=by apply Array.ext';simpa using h1
       have ha2:c.argTypes=#[t2,t2]:=by apply Array.ext';simpa using h2
       simp [execOp,resolve,hcal,ha1,ha2,invoke,builtin,hr]
     ·exact hk.elim
    ·exact hk.elim
   | delete =>
    dsimp only at hk
    split at hk
    ·rename_i m x t kt h1 h2
     exact Uj b he ho hcal (by apply Array.ext';simpa using h1) (by apply Array.ext';simpa using h2) (harg m (by rw[h1];simp)) (harg x (by rw[h1];simp)) hk
    ·exact hk.elim
   | clear =>
    dsimp only at hk
    split at hk
    ·rename_i x t h1 h2
     split at hk
     ·rename_i e i lo hkk heq
      exact Xg b he ho hcal (by apply Array.ext';simpa using h1) (by apply Array.ext';simpa using h2) hkk (heq▸harg x (by rw[h1];simp)) hk
     ·rename_i e i off m hkk heq
      exact Uf b he ho hcal (by apply Array.ext';simpa using h1) (by apply Array.ext';simpa using h2) hkk (heq▸harg x (by rw[h1];simp)) hk
     ·exact hk.elim
    ·exact hk.elim
   | copy =>
    dsimp only at hk
    split at hk
    ·rename_i x y t t2 h1 h2
     split at hk
     ·rename_i e i hkk heq
      exact A13 b he ho hcal (by apply Array.ext';simpa using h1) (by apply Array.ext';simpa using h2) hkk (heq▸harg x (by rw[h1];simp)) (harg y (by rw[h1];simp)) hk
     ·exact hk.elim
    ·exact hk.elim
   | min =>
    dsimp only at hk
    split at hk
    ·rename_i x y h1
     obtain⟨kd,p,kd',q,h2,h3,hk⟩:=hk
     have e1:=Au (harg x (by rw[h1];simp)) h2
     have e2:=Au (harg y (by rw[h1];simp)) h3
     have ha1:c.args=#[x,y]:=by apply Array.ext';simpa using h1
     refine Aa b he hk (Aq _ rfl) ?_
     simp [execOp,resolve,hcal,ha1,invoke,builtin,Builtin.min_,Builtin.min2,e1,e2]
    ·exact hk.elim
   | max =>
    dsimp only at hk
    split at hk
    ·rename_i x y h1
     obtain⟨kd,p,kd',q,h2,h3,hk⟩:=hk
     have e1:=Au (harg x (by rw[h1];simp)) h2
     have e2:=Au (harg y (by rw[h1];simp)) h3
     have ha1:c.args=#[x,y]:=by apply Array.ext';simpa using h1
     refine Aa b he hk (Aq _ rfl) ?_
     simp [execOp,resolve,hcal,ha1,invoke,builtin,Builtin.max_,Builtin.max2,e1,e2]
    ·rename_i x y z h1
     obtain⟨kd,p,kd',q,kd2,r,h2,h3,h4,hk⟩:=hk
     have e1:=Au (harg x (by rw[h1];simp)) h2
     have e2:=Au (harg y (by rw[h1];simp)) h3
     have e3:=Au (harg z (by rw[h1];simp)) h4
     have ha1:c.args=#[x,y,z]:=by apply Array.ext';simpa using h1
     refine Aa b he hk (Aq _ rfl) ?_
     simp [execOp,resolve,hcal,ha1,invoke,builtin,Builtin.max_,Builtin.max2,e1,e2,e3]
    ·exact hk.elim
   | _=>exact hk.elim
 | _=>exact hk.elim
end
end Go.Proofs.YtbhffbgbhgjdiaaGreatDoor
namespace Go.Proofs.YtbhffbgbhgjdiaaGreatDoor
open Go.RowKit
set_option maxRecDepth 100000
def Eff.wf(pp:Nat→Prop)(hp:Nat→Option A4):Eff→Prop
 | .set b _=>hp b≠Option.none∧pp b
 | .grow b _=>hp b≠Option.none
 | _=>True
def AV.isOf(b:Nat):AV→Prop
 | .pt c _ _=>c=b
 | .mp c=>c=b
 | .vw c _=>c=b
 | .own c=>c=b
 | .asl c _ _=>c=b
 | _=>False
theorem A7g{φ:Phi}{M:Nat→Prop}{w:World}{c:Nat}{u:AV}{v:Value}(h:Rep φ M w u v)(hc:u.isOf c):∃ x,φ c=some x:=by
 cases u with
 | pt d k off=>cases hc;simp only[Rep] at h;obtain⟨_,_,h,_⟩:=h;exact⟨_,h⟩
 | mp d=>cases hc;simp only[Rep] at h;obtain⟨_,h,_⟩:=h;exact⟨_,h⟩
 | vw d lo=>cases hc;simp only[Rep] at h;obtain⟨_,_,_,_,h,_⟩:=h;exact⟨_,h⟩
 | own d=>cases hc;simp only[Rep] at h;obtain⟨_,h⟩:=h;exact⟨_,h⟩
 | asl d off n=>cases hc;simp only[Rep] at h;obtain⟨_,_,_,_,h,_⟩:=h;exact⟨_,h⟩
 | _=>exact hc.elim
def Lin(pp:Nat→Prop)(A:(AV→Eff→Prop)→Prop)(hp:Nat→Option A4)(k:AV→Eff→Prop):Prop:=∃ u f,k u f∧f.wf pp hp∧A (fun u' f'=>u'=u∧f'=f)
section
variable{P:Program}{C:World→Prop}{hp:Nat→Option A4}{k:AV→Eff→Prop}{id:Nat}{pp:Nat→Prop}
theorem T6{op:BinOp}{kd:IntKind}{a b:Int}(h:Da op kd a b k):Lin pp (Da op kd a b) hp k:=by
 cases op<;>first
  | exact h.elim
  | exact⟨_,_,h,trivial,rfl,rfl⟩
  | exact⟨_,_,h.2,trivial,h.1,rfl,rfl⟩
theorem A8b{op:BinOp}{a b:ByteArray}(h:Gc op a b k):Lin pp (Gc op a b) hp k:=by
 cases op<;>first
  | exact h.elim
  | exact⟨_,_,h,trivial,rfl,rfl⟩
  | exact⟨_,_,h.2,trivial,h.1,rfl,rfl⟩
theorem A87{op:BinOp}{t:Nat}{x y:AV}(h:Ag P op t x y k):Lin pp (Ag P op t x y) hp k:=by
 unfold Ag at h
 split at h
 ·rename_i ka a kb b
  cases op
  case shl=>exact⟨_,_,h.2,trivial,h.1,rfl,rfl⟩
  case shr=>exact⟨_,_,h.2,trivial,h.1,rfl,rfl⟩
  all_goals
   obtain⟨h1,h2⟩:=h
   obtain⟨u,f,q1,q2,q3⟩:=T6 (hp:=hp) h2
   exact⟨u,f,q1,q2,h1,q3⟩
 ·exact A8b h
 ·obtain⟨h,h2⟩:=h
  cases op<;>first
   | exact h.elim
   | exact⟨_,_,h,trivial,⟨rfl,rfl⟩,h2⟩
 ·cases op<;>first
   | exact h.elim
   | (obtain⟨b,h1,h2⟩:=h;exact⟨_,_,h2,trivial,b,h1,rfl,rfl⟩)
 ·obtain⟨h,h2⟩:=h
  cases op<;>first
   | exact h.elim
   | exact⟨_,_,h,trivial,⟨rfl,rfl⟩,h2⟩
 ·obtain⟨h,h2⟩:=h
  cases op<;>first
   | exact h.elim
   | exact⟨_,_,h,trivial,⟨rfl,rfl⟩,h2⟩
 ·exact h.elim
theorem Afi{op:UnOp}{x:AV}(h:Jn op x k):Lin pp (Jn op x) hp k:=by
 unfold Jn at h
 split at h
 ·exact⟨_,_,h,trivial,rfl,rfl⟩
 ·exact⟨_,_,h,trivial,rfl,rfl⟩
 ·exact T6 h
 ·exact h.elim
theorem A2a{s d:Nat}{x:AV}(h:Bm P hp s d x k):Lin pp (Bm P hp s d x) hp k:=by
 unfold Bm at h
 unfold Lin Bm
 split at h
 ·exact⟨_,_,h.2,trivial,h.1,rfl,rfl⟩
 ·exact⟨_,_,h.2,trivial,h.1,rfl,rfl⟩
 ·obtain⟨h1,h⟩:=h
  split at h
  ·exact⟨_,_,h.2,trivial,h1,h.1,rfl,rfl⟩
  ·exact h.elim
 ·obtain⟨h1,l,h2,h3⟩:=h
  exact⟨_,_,h3,trivial,h1,l,h2,rfl,rfl⟩
 ·exact h.elim
theorem Ho{t:Nat}{cs:List AV}{off:Nat}(h:Ar P t cs off k):Lin pp (Ar P t cs off) hp k:=by
 unfold Ar at h
 unfold Lin Ar
 split at h
 ·rename_i hg
  exact⟨_,_,h.2,trivial,by rw[if_pos hg];exact⟨h.1,rfl,rfl⟩⟩
 ·rename_i hg
  obtain⟨h1,u,h2,h3⟩:=h
  exact⟨_,_,h3,trivial,by rw[if_neg hg];exact⟨h1,u,h2,rfl,rfl⟩⟩
theorem A89{t:Nat}{x:AV}(h:Cf P hp t x k):Lin pp (Cf P hp t x) hp k:=by
 unfold Cf at h
 unfold Lin Cf
 split at h
 ·exact⟨_,_,h,trivial,rfl,rfl⟩
 ·exact⟨_,_,h,trivial,rfl,rfl⟩
 ·exact⟨_,_,h,trivial,rfl,rfl⟩
 ·rename_i hna _
  obtain⟨es,h1,h2⟩:=h
  exact⟨_,_,h2,trivial,es,h1,rfl,rfl⟩
 ·exact h.elim
theorem A85{e:Nat}{s:AV}{ns:List (List AV)}(h:D9 P hp id e s ns k):Lin pp (D9 P hp id e s ns) hp k:=by
 unfold D9 at h
 unfold Lin D9
 obtain⟨h0,h⟩:=h
 split at h
 ·obtain⟨β,h1,h2,h3,h4,h5⟩:=h
  exact⟨_,_,h5,by simp [Eff.wf,h1],h0,β,h1,h2,h3,h4,rfl,rfl⟩
 ·exact⟨_,_,h.2,trivial,h0,h.1,rfl,rfl⟩
 ·rcases h with⟨h1,h⟩|⟨h1,h⟩
  ·exact⟨_,_,h,trivial,h0,.inl ⟨h1,rfl,rfl⟩⟩
  ·exact⟨_,_,h,trivial,h0,.inr ⟨h1,rfl,rfl⟩⟩
 ·exact h.elim
theorem K7{f:Nat}{args:List AV}(h:B8 P C id f hp args k):Lin pp (B8 P C id f hp args) hp k:=by
 unfold B8 at h
 unfold Lin B8
 rcases h with⟨us,ids,h1,R,h2,h3⟩|h|⟨xs,rs,rfl,h1,h2,h3⟩
 rotate_right
 ·exact⟨_,_,h3,trivial,.inr (.inr ⟨xs,rs,rfl,h1,h2,rfl,rfl⟩)⟩
 ·cases R with
  | val r=>exact⟨_,_,h3,trivial,.inl ⟨us,ids,h1,_,h2,rfl,rfl⟩⟩
  | fresh e es=>exact⟨_,_,h3.2,trivial,.inl ⟨us,ids,h1,_,h2,h3.1,rfl,rfl⟩⟩
  | aggf cs j e es=>exact⟨_,_,h3.2,trivial,.inl ⟨us,ids,h1,_,h2,h3.1,rfl,rfl⟩⟩
 ·unfold Vf at h ⊢
  split at h
  ·obtain⟨β,us,ids,es',h1,h2,h3,h4,h5,h6,h7,h8⟩:=h
   exact⟨_,_,h8,by simp [Eff.wf,h1],.inr (.inl ⟨β,us,ids,es',h1,h2,h3,h4,h5,h6,h7,rfl,rfl⟩)⟩
  ·obtain⟨e,us,ids,es',h1,h2,h3,h4⟩:=h
   exact⟨_,_,h4,trivial,.inr (.inl ⟨e,us,ids,es',h1,h2,h3,rfl,rfl⟩)⟩
  ·exact h.elim
theorem Aff{t:Nat}{x:AV}{n:Nat}(h:Ek P hp t x n k):Lin pp (Ek P hp t x n) hp k:=by
 unfold Ek at h
 unfold Lin Ek
 split at h
 ·obtain⟨β,h1,h2,h3,h4⟩:=h
  exact⟨_,_,h4,trivial,β,h1,h2,h3,rfl,rfl⟩
 ·obtain⟨h1,h2,h3,h4⟩:=h
  exact⟨_,_,h4,trivial,h1,h2,h3,rfl,rfl⟩
 ·exact⟨_,_,h.2.2,trivial,h.1,h.2.1,rfl,rfl⟩
 ·exact⟨_,_,h.2.2,trivial,h.1,h.2.1,rfl,rfl⟩
 ·exact⟨_,_,h.2.2,trivial,h.1,h.2.1,rfl,rfl⟩
 ·exact h.elim
theorem D2{ev:Operand→AV}{x:Option Operand}{d:Nat}{kk:Nat→Prop}(h:bnd d ev x kk):∃ l,kk l∧∀ kk':Nat→Prop,kk' l→bnd d ev x kk':=by
 cases x with
 | none=>exact⟨d,h,fun _ h=>h⟩
 | some y =>
  obtain⟨kd,n,h1,h2,h3⟩:=h
  exact⟨_,h3,fun _ h=>⟨kd,n,h1,h2,h⟩⟩
theorem Yt{t:Nat}{x:AV}{ev:Operand→AV}{lo hi mx:Option Operand}(h:B7 P hp id t x ev lo hi mx k):Lin pp (B7 P hp id t x ev lo hi mx) hp k:=by
 unfold B7 at h
 unfold Lin B7
 split at h
 ·obtain⟨h1,h⟩:=h
  obtain⟨l,h,b1⟩:=D2 h
  obtain⟨m,⟨h2,h3,h⟩,b2⟩:=D2 h
  exact⟨_,_,h,trivial,h1,b1 _ (b2 _ ⟨h2,h3,rfl,rfl⟩)⟩
 ·obtain⟨h1,h⟩:=h
  obtain⟨l,h,b1⟩:=D2 h
  obtain⟨m,h,b2⟩:=D2 h
  obtain⟨n,⟨h2,h3,h4,h⟩,b3⟩:=D2 h
  exact⟨_,_,h,trivial,h1,b1 _ (b2 _ (b3 _ ⟨h2,h3,h4,rfl,rfl⟩))⟩
 ·obtain⟨β,h0,h1,h⟩:=h
  obtain⟨l,h,b1⟩:=D2 h
  obtain⟨m,⟨h2,h⟩,b2⟩:=D2 h
  rcases h with⟨h3,h⟩|⟨h3,h⟩|⟨h3,h⟩
  ·exact⟨_,_,h,trivial,β,h0,h1,b1 _ (b2 _ ⟨h2,.inl ⟨h3,rfl,rfl⟩⟩)⟩
  ·exact⟨_,_,h,trivial,β,h0,h1,b1 _ (b2 _ ⟨h2,.inr (.inl ⟨h3,rfl,rfl⟩)⟩)⟩
  ·exact⟨_,_,h,by simp [Eff.wf,h0],β,h0,h1,b1 _ (b2 _ ⟨h2,.inr (.inr ⟨h3,rfl,rfl⟩)⟩)⟩
 ·exact⟨_,_,h.2,trivial,h.1,rfl,rfl⟩
 ·obtain⟨h1,h⟩:=h
  obtain⟨l,h,b1⟩:=D2 h
  obtain⟨m,⟨h2,h⟩,b2⟩:=D2 h
  exact⟨_,_,h,trivial,h1,b1 _ (b2 _ ⟨h2,rfl,rfl⟩)⟩
 ·exact h.elim
theorem Kq{op:Op}{ty:Nat}{ev:Operand→AV}(hpp:∀ b x,x∈op.operands→(ev x).isOf b→pp b)(h:A7 P C id op ty ev hp k):Lin pp (A7 P C id op ty ev hp) hp k:=by
 unfold A7 at h
 unfold Lin A7
 cases op with
 | move x=>exact⟨_,_,h,trivial,rfl,rfl⟩
 | assign x =>
  dsimp only at h ⊢
  split at h
  ·exact⟨_,_,h,trivial,rfl,rfl⟩
  ·exact⟨_,_,h,trivial,rfl,rfl⟩
 | pick c x y =>
  obtain⟨t,h1,h⟩:=h
  exact⟨_,_,h,trivial,t,h1,rfl,rfl⟩
 | alloc t=>exact⟨_,_,h.2,trivial,h.1,rfl,rfl⟩
 | box t x =>
  obtain⟨cs,h1,h2,h⟩:=h
  exact⟨_,_,h,trivial,cs,h1,h2,rfl,rfl⟩
 | build t parts =>
  obtain⟨h0,h⟩:=h
  split at h
  ·rename_i hkk
   obtain⟨h1,cs,h2,h⟩:=h
   exact⟨_,_,h,trivial,h0,by rw[hkk];exact⟨h1,cs,h2,rfl,rfl⟩⟩
  ·rename_i hkk
   obtain⟨h1,cs,h2,h⟩:=h
   exact⟨_,_,h,trivial,h0,by rw[hkk];exact⟨h1,cs,h2,rfl,rfl⟩⟩
  ·exact h.elim
 | buildSlice t n parts =>
  dsimp only at h ⊢
  split at h
  ·rcases h.2.2 with hk|⟨h0,hk⟩
   ·exact⟨_,_,hk,trivial,h.1,h.2.1,.inl ⟨rfl,rfl⟩⟩
   ·exact⟨_,_,hk,trivial,h.1,h.2.1,.inr ⟨h0,rfl,rfl⟩⟩
  ·exact h.elim
 | load t x =>
  dsimp only at h ⊢
  split at h
  ·exact Ho h
  ·obtain⟨β,e,h1,h2,h⟩:=h
   obtain⟨u,f,q1,q2,q3⟩:=Ho (hp:=hp) h
   exact⟨u,f,q1,q2,β,e,h1,h2,q3⟩
  ·exact h.elim
 | store t x v =>
  dsimp only at h ⊢
  split at h
  ·rename_i heq
   obtain⟨β,e,cs,h1,h2,h3,h4,h5,h⟩:=h
   exact⟨_,_,h,⟨by simp [h1],hpp _ x (by simp [Op.operands]) (by rw[heq];rfl)⟩,β,e,cs,h1,h2,h3,h4,h5,rfl,rfl⟩
  ·exact h.elim
 | nilCheck x =>
  dsimp only at h ⊢
  split at h
  ·exact⟨_,_,h,trivial,rfl,rfl⟩
  ·exact⟨_,_,h,trivial,rfl,rfl⟩
  ·exact h.elim
 | binOp op t x y ty=>exact A87 h
 | unOp op ty x=>exact Afi h
 | convert s d x=>exact A2a h
 | makeSlice t x y =>
  obtain⟨n,c,h1,h2,h⟩:=h
  split at h
  ·rename_i hkk
   obtain⟨h3,h⟩:=h
   split at h
   ·rename_i hn
    exact⟨_,_,h.2,trivial,n,c,h1,h2,by rw[hkk];exact⟨h3,by rw[if_pos hn];exact⟨h.1,rfl,rfl⟩⟩⟩
   ·rename_i hn
    exact⟨_,_,h.2,trivial,n,c,h1,h2,by rw[hkk];exact⟨h3,by rw[if_neg hn];exact⟨h.1,rfl,rfl⟩⟩⟩
  ·exact h.elim
 | makeMap t r=>exact⟨_,_,h.2,trivial,h.1,rfl,rfl⟩
 | mapUpdate t m x v =>
  dsimp only at h ⊢
  split at h
  ·rename_i heq
   obtain⟨β,kx,bv,h1,h2,h3,h4,h5,h6,h⟩:=h
   exact⟨_,_,h,⟨by simp [h1],hpp _ m (by simp [Op.operands]) (by rw[heq];rfl)⟩,β,kx,bv,h1,h2,h3,h4,h5,h6,rfl,rfl⟩
  ·exact h.elim
 | lookup t m x c =>
  dsimp only at h ⊢
  split at h
  ·obtain⟨β,kx,bv,h1,h2,h3,h4,h5,h⟩:=h
   exact⟨_,_,h,trivial,β,kx,bv,h1,h2,h3,h4,h5,rfl,rfl⟩
  ·exact h.elim
 | slice t x lo hi mx=>exact Yt h
 | fieldAddr s x f =>
  obtain⟨oo,ft,h1,h2,h⟩:=h
  split at h
  ·rename_i hkk
   exact⟨_,_,h,trivial,oo,ft,h1,h2,by rw[hkk];exact⟨rfl,rfl⟩⟩
  ·rename_i hkk
   exact⟨_,_,h,trivial,oo,ft,h1,h2,by rw[hkk];exact⟨rfl,rfl⟩⟩
  ·exact h.elim
 | field s x f =>
  obtain⟨oo,ft,h1,h⟩:=h
  split at h
  ·rename_i hkk
   obtain⟨u,f,q1,q2,q3⟩:=Ho (hp:=hp) h
   exact⟨u,f,q1,q2,oo,ft,h1,by rw[hkk];exact q3⟩
  ·exact h.elim
 | indexAddr t x i =>
  obtain⟨kd,n,h1,h2,h⟩:=h
  obtain⟨u,f,q1,q2,q3⟩:=Aff h
  exact⟨u,f,q1,q2,kd,n,h1,h2,q3⟩
 | index t x i =>
  obtain⟨kd,n,h1,h2,h⟩:=h
  split at h
  ·rename_i hk1 hk2
   obtain⟨h3,h⟩:=h
   exact⟨_,_,h,trivial,kd,n,h1,h2,by rw[hk1,hk2];exact⟨h3,rfl,rfl⟩⟩
  ·rename_i hk1 hk2
   obtain⟨h3,h4,h⟩:=h
   obtain⟨u,f,q1,q2,q3⟩:=Ho (hp:=hp) h
   exact⟨u,f,q1,q2,kd,n,h1,h2,by rw[hk1,hk2];exact⟨h3,h4,q3⟩⟩
  ·exact h.elim
 | makeFunc fn first captured =>
  cases fn with
  | func f=>exact⟨_,_,h.2,trivial,h.1,rfl,rfl⟩
  | _=>exact h.elim
 | extract x i =>
  dsimp only at h ⊢
  split at h
  ·obtain⟨u,h1,h⟩:=h
   exact⟨_,_,h,trivial,u,h1,rfl,rfl⟩
  ·exact h.elim
 | call c =>
  have harg:∀ x∈c.args.toList,x∈(Op.call c).operands:=fun x h=>by simp [Op.operands,Call.operands];exact .inr (by simpa using h)
  dsimp only at h ⊢
  cases hcal:c.callee with
  | value f =>
   rw[hcal] at h
   cases f with
   | func f=>exact K7 h
   | tmp t =>
    dsimp only at h ⊢
    split at h
    ·exact K7 h
    ·obtain⟨h1,h⟩:=h
     obtain⟨u,f,q1,q2,q3⟩:=K7 h
     exact⟨u,f,q1,q2,h1,q3⟩
    ·exact h.elim
   | _=>exact h.elim
  | invoke r m=>rw[hcal] at h;exact h.elim
  | builtin bi =>
   rw[hcal] at h
   cases bi with
   | len =>
    dsimp only at h ⊢
    split at h
    ·exact A89 h
    ·exact h.elim
   | append =>
    dsimp only at h ⊢
    split at h
    ·split at h
     ·split at h
      ·exact h.elim
      ·obtain⟨h1,ns,h2,h⟩:=h
       obtain⟨u,f,q1,q2,q3⟩:=A85 h
       exact⟨u,f,q1,q2,h1,ns,h2,q3⟩
     ·exact h.elim
    ·exact h.elim
   | delete =>
    dsimp only at h ⊢
    split at h
    ·rename_i m x t kt q1 q2
     split at h
     ·rename_i heq
      obtain⟨β,kx,h1,h2,h3,h4,h5,h⟩:=h
      exact⟨_,_,h,⟨by simp [h1],hpp _ m (harg m (by rw[q1];simp)) (by rw[heq];rfl)⟩,β,kx,h1,h2,h3,h4,h5,rfl,rfl⟩
     ·exact h.elim
    ·exact h.elim
   | clear =>
    dsimp only at h ⊢
    split at h
    ·rename_i x t q1 q2
     split at h
     ·rename_i hkk heq
      obtain⟨β,h1,h2,h3,h⟩:=h
      exact⟨_,_,h,⟨by simp [h1],hpp _ x (harg x (by rw[q1];simp)) (by rw[heq];rfl)⟩,β,h1,h2,h3,rfl,rfl⟩
     ·rename_i hkk heq
      obtain⟨β,r,h1,h2,h3,h⟩:=h
      exact⟨_,_,h,⟨by simp [h1],hpp _ x (harg x (by rw[q1];simp)) (by rw[heq];rfl)⟩,β,r,h1,h2,h3,rfl,rfl⟩
     ·exact h.elim
    ·exact h.elim
   | copy =>
    dsimp only at h ⊢
    split at h
    ·rename_i x y t t2 q1 q2
     split at h
     ·rename_i hkk heq
      obtain⟨β,ns,h1,h2,h3,h4,h5,h⟩:=h
      exact⟨_,_,h,⟨by simp [h1],hpp _ x (harg x (by rw[q1];simp)) (by rw[heq];rfl)⟩,β,ns,h1,h2,h3,h4,h5,rfl,rfl⟩
     ·exact h.elim
    ·exact h.elim
   | min =>
    dsimp only at h ⊢
    split at h
    ·obtain⟨kd,p,kd',q,h2,h3,h⟩:=h
     exact⟨_,_,h,trivial,kd,p,kd',q,h2,h3,rfl,rfl⟩
    ·exact h.elim
   | max =>
    dsimp only at h ⊢
    split at h
    ·obtain⟨kd,p,kd',q,h2,h3,h⟩:=h
     exact⟨_,_,h,trivial,kd,p,kd',q,h2,h3,rfl,rfl⟩
    ·obtain⟨kd,p,kd',q,kd2,r,h2,h3,h4,h⟩:=h
     exact⟨_,_,h,trivial,kd,p,kd',q,kd2,r,h2,h3,h4,rfl,rfl⟩
    ·exact h.elim
   | _=>exact h.elim
 | _=>exact h.elim
end
end Go.Proofs.YtbhffbgbhgjdiaaGreatDoor
namespace Go.Proofs.YtbhffbgbhgjdiaaGreatDoor
open Go.RowKit
set_option maxRecDepth 100000
section
variable{P:Program}{C:World→Prop}{w:World}{M0:Nat→Prop}{N:Nat}{w0:Root}{σ:AS}{a:Act}{K:AS→Prop}{Q:Exit→Act→World→Prop}{ops:Array Oper}{nd b:Nat}
theorem Fr.refl(ws:List Nat)(σ:AS):Fr ws σ σ:=⟨fun _ _=>rfl,Nat.le_refl _⟩
theorem Fr.trans{ws:List Nat}{x y z:AS}(h:Fr ws x y)(k:Fr ws y z):Fr ws x z:=⟨fun t ht=>(k.1 t ht).trans (h.1 t ht),Nat.le_trans h.2 k.2⟩
theorem Fr.mono{ws ws':List Nat}{x y:AS}(h:Fr ws x y)(hs:∀ t,t∈ws→t∈ws'):Fr ws' x y:=⟨fun t ht=>h.1 t fun h'=>ht (hs t h'),h.2⟩
theorem F3(σ:AS)(d:Option Tmp)(u:AV):(σ.put d u).hp=σ.hp:=by cases d<;>rfl
theorem Gq(σ:AS)(d:Option Tmp)(u:AV):(σ.put d u).nx=σ.nx:=by cases d<;>rfl
theorem Fv(σ:AS)(d:Option Tmp)(u:AV){ws:List Nat}(h:∀ t,d=some t→t∈ws):Fr ws σ (σ.put d u):=by
 refine⟨fun t ht=>?_,by rw[Gq];exact Nat.le_refl _⟩
 cases d with
 | none=>rfl
 | some d=>exact Am _ _ fun e=>ht (e▸h d rfl)
theorem Ie{pp:Nat→Prop}{hp:Nat→Option A4}{f:Eff}{id j:Nat}(hw:f.wf pp hp)(hj:hp j=none)(hne:j≠id):f.app id hp j=none:=by
 cases f with
 | none=>exact hj
 | new β=>exact (Am _ _ hne).trans hj
 | set b β=>exact (Am _ _ fun e=>hw.1 (by rw[← e];exact hj)).trans hj
 | alc t z=>exact (Am _ _ hne).trans hj
 | grow b β =>
  refine (Am _ _ hne).trans ?_
  by_cases e:j=b
  ·rw[e];exact Af _ _ _
  ·exact (Am _ _ e).trans hj
 | frz bs =>
  simp only[Eff.app]
  split
  ·rw[hj];rfl
  ·exact hj
theorem Ayp{F:Nat→Prop}{φ:Phi}{f:Eff}{draw:Bool}{id:Nat}(st:St P M0 N w0 F φ { σ with hp:=f.app id σ.hp } a w):St P M0 N w0 F φ { σ with hp:=(f.md draw).app id σ.hp } a w:=by
 cases f with
 | alc t z =>
  cases draw with
  | false=>exact st
  | true =>
   have:=st.weak (b:=id) (β:=⟨t,[blank z],true⟩) (γ:=⟨t,[z],true⟩) (Af _ _ _) ⟨rfl,rfl,Xb z,trivial⟩
   have e:upd (upd σ.hp id (some ⟨t,[z],true⟩)) id (some ⟨t,[blank z],true⟩)=upd σ.hp id (some ⟨t,[blank z],true⟩):=by
    funext x
    simp only[upd]
    split<;>rfl
   dsimp only[Eff.app] at this
   rw[e] at this
   exact this
 | none=>exact st
 | new β=>exact st
 | set b β=>exact st
 | grow b β=>exact st
 | frz bs=>exact st
theorem Agm{F:Nat→Prop}{φ:Phi}{f:Eff}{draw:Bool}{id:Nat}{τ:AS}{hp0:Nat→Option A4}(st:St P M0 N w0 F φ { τ with hp:=f.app id hp0 } a w):St P M0 N w0 F φ { τ with hp:=(f.md draw).app id hp0 } a w :=
 Ayp (σ:={ τ with hp:=hp0 }) st
theorem A4i{pp:Nat→Prop}{hp:Nat→Option A4}{f:Eff}{draw:Bool}{id j:Nat}(hw:f.wf pp hp)(hj:hp j=none)(hne:j≠id):(f.md draw).app id hp j=none:=by
 cases f with
 | alc t z=>cases draw<;>exact (Am _ _ hne).trans hj
 | none=>exact Ie hw hj hne
 | new β=>exact Ie hw hj hne
 | set b β=>exact Ie hw hj hne
 | grow b β=>exact Ie hw hj hne
 | frz bs=>exact Ie hw hj hne
theorem St.put'{F:Nat→Prop}{φ:Phi}{d:Option Tmp}{u:AV}{hp1 hp2:Nat→Option A4}(st:St P M0 N w0 F φ ({ σ with hp:=hp1 }.put d u) a w)(h:∀ τ:AS,St P M0 N w0 F φ { τ with hp:=hp1 } a w→St P M0 N w0 F φ { τ with hp:=hp2 } a w):St P M0 N w0 F φ ({ σ with hp:=hp2 }.put d u) a w:=by
 cases d with
 | none=>exact h σ st
 | some d=>exact h { σ with tm:=upd σ.tm d u } st
theorem Km(hC:∀ w w',C w→Below w.heap.size w w'→C w')(hc0:C w0){draw last:Bool}{i:Nat}{o:Oper}(hd:∀ t,o.dst=some t→t<N)(h:aop P C draw last (b+i) o K σ)(st:Cx P M0 N w0 b i σ a w)
  {KK:Act→World→Prop} (hk:∀ σ' a' w',K σ'→Cx P M0 N w0 b (i+1) σ' a' w'→(∀ ws,(∀ t,o.dst=some t→t∈ws)→Fr ws σ σ')→KK a' w'):o.wp P a w KK Q:=by
 obtain⟨⟨φ,st1⟩,st2⟩:=st
 obtain⟨u,f,⟨_,h1⟩,h2,h3⟩:=Kq (pp:=fun _=>True) (fun _ _ _ _=>trivial) h
 refine Dq (hp:=σ.hp) (k:=fun u' f'=>u'=u∧f'=f) ⟨st1,Nat.le_refl _,fun _ β _ h _=>⟨β,h,Cp β⟩,hd⟩ ?_ hC hc0 (fun x _=>st1.evr x) h3
 rintro u' f' ⟨rfl,rfl⟩ φ' a' w' st'
 refine hk _ _ _ h1 ⟨⟨φ',(st'.put' fun τ ht=>Agm ht).sub fun j hj=>⟨by omega,by omega⟩⟩,fun j hj=>?_⟩ fun ws hws=>?_
 ·rw[F3]
  exact A4i h2 (st2 j (by omega)) (by omega)
 ·exact (show Fr ws σ { σ with hp:=(f'.md draw).app (b+i) σ.hp } from ⟨fun _ _=>rfl,Nat.le_refl _⟩).trans (Fv _ _ _ hws)
theorem Fh{i:Nat}{o:Oper}(hd:∀ t,o.dst=some t→t<N)(st:Cx P M0 N w0 b i σ a w):Cx P M0 N w0 b (i+1) (σ.put o.dst .und) (a.put o.dst undef) w:=by
 obtain⟨⟨φ,st1⟩,st2⟩:=st
 exact⟨⟨φ,(st1.sub fun j hj=>by omega).putU o.dst hd⟩,fun j hj=>by rw[F3];exact st2 j (by omega)⟩
theorem Fx{φ:Phi}{F:Nat→Prop}(st:St P M0 N w0 F φ σ a w){g d:Nat}{t:Bool}(hg:(ops[g]?).bind (·.dst)=some d)(ht:σ.tm d=.ex (.bool t)):yielded ops a.tmps g=some t:=by
 have h:=st.tmr d
 rw[ht] at h
 simp only[Rep] at h
 have h1:a.tmps[d]?=some (.bool t):=by
  rw[Array.getD_eq_getD_getElem?] at h
  cases hh:a.tmps[d]? with
  | none=>rw[hh] at h;simp [undef] at h
  | some v=>rw[hh] at h;rw[← h.1];rfl
 simp only[yielded,hg,Option.bind_some,h1]
theorem Gi{φ:Phi}{F:Nat→Prop}(st:St P M0 N w0 F φ σ a w){g d:Nat}(hg:(ops[g]?).bind (·.dst)=some d)(ht:σ.tm d=.und):yielded ops a.tmps g=none:=by
 have h:=st.tmr d
 rw[ht] at h
 simp only[Rep] at h
 rw[Array.getD_eq_getD_getElem?] at h
 simp only[yielded,hg,Option.bind_some]
 cases hh:a.tmps[d]? with
 | none=>rfl
 | some v =>
  rw[hh] at h
  simp only[Option.getD_some] at h
  rw[h];rfl
theorem X2(hC:∀ w w',C w→Below w.heap.size w w'→C w')(hc0:C w0):∀ (rest:List Oper) (i:Nat) (σ:AS) (a:Act) (w:World),(∀ o∈rest,∀ t,o.dst=some t→t<N)→Ax P C ops nd b i rest K σ→Cx P M0 N w0 b i σ a w →
  (∀ σ' a' w',K σ'→Cx P M0 N w0 b (i+rest.length) σ' a' w'→Fr (rest.filterMap (·.dst)) σ σ'→Q .normal a' w')→wpList P ops Q rest a w
 | [],i,σ,a,w,_,h,st,hk=>hk σ a w h st (Fr.refl _ _)
 | o :: rest,i,σ,a,w,hd,h,st,hk=>by
  have hsub:∀ ws':List Nat,∀ t,t∈rest.filterMap (·.dst)→t∈(o :: rest).filterMap (·.dst):=by
   intro _ t ht
   rw[List.filterMap_cons]
   split
   ·exact ht
   ·exact List.mem_cons_of_mem _ ht
  have hhd:∀ t,o.dst=some t→t∈(o :: rest).filterMap (·.dst):=by
   intro t ht
   rw[List.filterMap_cons,ht]
   exact List.mem_cons_self
  have go:∀ σ1 a1 w1,Ax P C ops nd b (i+1) rest K σ1→Cx P M0 N w0 b (i+1) σ1 a1 w1→Fr ((o :: rest).filterMap (·.dst)) σ σ1→wpList P ops Q rest a1 w1:=by
   intro σ1 a1 w1 h1 st1 hf
   refine X2 hC hc0 rest (i+1) σ1 a1 w1 (fun x hx=>hd x (by simp [hx])) h1 st1 fun σ' a' w' h2 st2 hf2=>?_
   refine hk σ' a' w' h2 ?_ (hf.trans (hf2.mono (hsub [])))
   rwa [List.length_cons,show i+(rest.length+1)=i+1+rest.length by omega]
  unfold Ax at h
  unfold wpList
  split at h
  ·rename_i hg
   rw[if_pos (by simp [Region.wanted,hg])]
   exact .inl (Km hC hc0 (hd o (by simp)) h st fun σ' a' w' h1 st1 hf=>go σ' a' w' h1 st1 (hf _ hhd))
  ·rename_i g want hg
   obtain⟨⟨φ,st1⟩,st2⟩:=st
   rcases h with⟨t,h1,h⟩|⟨h1,h⟩
   rotate_left
   ·cases hb:(ops[g]?).bind (·.dst) with
    | none=>rw[hb] at h1;cases h1
    | some d =>
     rw[hb] at h1
     have hy:=Gi (ops:=ops) st1 hb (by simpa using h1)
     rw[if_neg (by simp [Region.wanted,hg,hy])]
     exact go _ _ _ h (Fh (hd o (by simp)) ⟨⟨φ,st1⟩,st2⟩) (Fv _ _ _ hhd)
   cases hb:(ops[g]?).bind (·.dst) with
   | none=>rw[hb] at h1;cases h1
   | some d =>
    rw[hb] at h1
    have hy:=Fx (ops:=ops) st1 hb (by simpa using h1)
    by_cases ht:t=want
    ·rw[if_pos ht] at h
     rw[if_pos (by simp [Region.wanted,hg,hy,ht])]
     exact .inl (Km hC hc0 (hd o (by simp)) h ⟨⟨φ,st1⟩,st2⟩ fun σ' a' w' h1 st1 hf=>go σ' a' w' h1 st1 (hf _ hhd))
    ·rw[if_neg ht] at h
     rw[if_neg (by simp [Region.wanted,hg,hy,ht])]
     exact go _ _ _ h (Fh (hd o (by simp)) ⟨⟨φ,st1⟩,st2⟩) (Fv _ _ _ hhd)
end
end Go.Proofs.YtbhffbgbhgjdiaaGreatDoor
namespace Go.Proofs.YtbhffbgbhgjdiaaGreatDoor
open Go.RowKit
set_option maxRecDepth 100000
inductive Reach (ops:Array Oper):Nat→Nat→Prop where
 | edge {j e:Nat} {o:Oper}:ops[j]?=some o→e∈Ap o→Reach ops j e
 | more {j e i:Nat} {o:Oper}:ops[j]?=some o→e∈Ap o→Reach ops e i→Reach ops j i
theorem Yl{ops:Array Oper}{acc:List Nat}(hacc:∀ j i,(acc.getD j 0).testBit i=true→Reach ops j i)(j i:Nat){o:Oper}(ho:ops[j]?=some o):∀ (l:List Nat) (m:Nat),(∀ e∈l,e∈Ap o)→(m.testBit i=true→Reach ops j i) →
  (l.foldl (fun m i=>m ||| 2 ^ i ||| acc.getD i 0) m).testBit i=true→Reach ops j i
 | [],m,_,hm,h=>hm h
 | e :: l,m,hl,hm,h=>by
  rw[List.foldl_cons] at h
  refine Yl hacc j i ho l _ (fun x hx=>hl x (by simp [hx])) ?_ h
  intro hb
  rw[Nat.testBit_or,Nat.testBit_or,Bool.or_eq_true,Bool.or_eq_true,Nat.testBit_two_pow] at hb
  rcases hb with (hb|hb)|hb
  ·exact hm hb
  ·have:e=i:=by simpa using hb
   subst this
   exact .edge ho (hl e (by simp))
  ·exact .more ho (hl e (by simp)) (hacc e i hb)
theorem Ao{ops:Array Oper}:∀ (rest:List Oper) (acc:List Nat),(∀ j,rest[j]?=ops[acc.length+j]?)→(∀ j i,(acc.getD j 0).testBit i=true→Reach ops j i)→∀ j i,((Ym acc rest).getD j 0).testBit i=true→Reach ops j i
 | [],acc,_,h,j,i,hb=>h j i hb
 | o :: rest,acc,hr,h,j,i,hb=>by
  refine Ao rest (acc++[Q8 acc o]) (fun q=>?_) (fun q i hb=>?_) j i hb
  ·have:=hr (q+1)
   rw[List.getElem?_cons_succ] at this
   rw[this,List.length_append,List.length_singleton]
   congr 1
   omega
  ·have ho:ops[acc.length]?=some o:=by have:=hr 0;simpa using this.symm
   rcases Nat.lt_trichotomy q acc.length with hq|hq|hq
   ·rw[List.getD_eq_getElem?_getD,List.getElem?_append_left hq,← List.getD_eq_getElem?_getD] at hb
    exact h q i hb
   ·subst hq
    have:(acc++[Q8 acc o]).getD acc.length 0=Q8 acc o:=by simp
    rw[this] at hb
    exact Yl h acc.length i ho (Ap o) 0 (fun _ h=>h) (fun hz=>by simp at hz) hb
   ·have:(acc++[Q8 acc o]).getD q 0=0:=by
     rw[List.getD_eq_getElem?_getD,List.getElem?_eq_none (by simp;omega)];rfl
    rw[this] at hb
    simp at hb
theorem Qu{ms:List Nat}:∀ (n j:Nat),Hb ms n≤j→j<n→cover ms j=true
 | 0,j,_,h=>absurd h (by omega)
 | n+1,j,h,hj=>by
  unfold Hb at h
  split at h
  ·rename_i hc
   rcases Nat.lt_or_ge j n with hlt|hge
   ·exact Qu n j h hlt
   ·have:j=n:=by omega
    rw[this];exact hc
  ·omega
theorem A53{ms:List Nat}:∀ n,Hb ms n≤n
 | 0=>Nat.le_refl _
 | n+1=>by unfold Hb;split;exact Nat.le_succ_of_le (A53 n);exact Nat.le_refl _
theorem Xn{ops:Array Oper}{j i:Nat}(h:drawn ops≤j)(hj:j<ops.size)(hi:i<j):Reach ops j i:=by
 have hc:=Qu ops.size j h hj
 unfold cover at hc
 have:=List.all_eq_true.1 hc i (by simpa using hi)
 exact Ao ops.toList [] (fun j=>by simp) (fun j i hb=>by simp at hb) j i this
def Closed(ops:Array Oper)(l:Array Bool):Prop:=∀ j o e,l.getD j false=true→ops[j]?=some o→e∈Ap o→l.getD e false=true
theorem Closed.reach{ops:Array Oper}{l:Array Bool}(h:Closed ops l){j i:Nat}(hr:Reach ops j i):(∀ o e,ops[j]?=some o→e∈Ap o→l.getD e false=true)→l.getD i false=true:=by
 induction hr with
 | edge ho he=>exact fun hh=>hh _ _ ho he
 | more ho he _ ih=>exact fun hh=>ih fun o' e' ho' he'=>h _ o' e' (hh _ _ ho he) ho' he'
theorem Abz{o:Oper}{e:Edge}(h:e∈o.after)(hb:Region.binds .any e=true):e.on∈Ap o:=by
 unfold Ap
 exact List.mem_map.2 ⟨e,List.mem_filter.2 ⟨by simpa using h,hb⟩,rfl⟩
theorem Aen{o:Oper}{i:Nat}(h:i∈Ap o):∃ e∈o.after,Region.binds .any e=true∧e.on=i:=by
 unfold Ap at h
 obtain⟨e,h1,rfl⟩:=List.mem_map.1 h
 obtain⟨h2,h3⟩:=List.mem_filter.1 h1
 exact⟨e,by simpa using h2,h3,rfl⟩
theorem Cm{ops:Array Oper}{l:Array Bool}{j:Nat}:j∈Region.ready .any ops l↔l.getD j true=false∧∃ o,ops[j]?=some o∧∀ e,e∈Ap o→l.getD e false=true:=by
 rw[mem_ready]
 constructor
 ·rintro⟨h0,o,ho,h⟩
  exact⟨h0,o,ho,fun e he=>by obtain⟨x,h1,h2,rfl⟩:=Aen he;exact h x h1 h2⟩
 ·rintro⟨h0,o,ho,h⟩
  exact⟨h0,o,ho,fun e he hb=>h _ (Abz he hb)⟩
structure Ord(ops:Array Oper)(nd:Nat):Prop where
 back:∀ (j:Nat) (o:Oper) (e:Nat),ops[j]?=some o→e∈Ap o→e<j
 sel:∀ (j:Nat) (o:Oper) (cs:Array SelectCase) (b:Bool),ops[j]?=some o→o.op≠.select cs b
 once:∀ (i j:Nat) (oi oj:Oper) (d:Tmp),i<nd→ops[i]?=some oi→ops[j]?=some oj→oi.dst=some d→oj.dst=some d→i=j
 side:∀ (i j:Nat) (oi oj:Oper) (d:Tmp),i<nd→i≠j→ops[i]?=some oi→ops[j]?=some oj→oi.dst=some d→d∈oj.looksAt ops→i∈Ap oj∨j∈Ap oi
theorem Fs{ops:Array Oper}{nd:Nat}(h:D5 ops nd=true):Ord ops nd:=by
 unfold D5 at h
 have key:∀ (j:Nat) (o:Oper),ops[j]?=some o→((Ap o).all (fun i=>decide (i<j))=true)∧(∀ (cs:Array SelectCase) (b:Bool),o.op≠.select cs b) ∧
   ∀ i,i<nd→∀ (oi:Oper) (d:Tmp),ops[i]?=some oi→oi.dst=some d→i=j∨(o.dst≠some d∧(d∈o.looksAt ops→i∈Ap o∨j∈Ap oi)):=by
  intro j o ho
  have hj:j<ops.size:=(Array.getElem?_eq_some_iff.1 ho).1
  have:=List.all_eq_true.1 h j (by simpa using hj)
  rw[ho] at this
  simp only[Bool.and_eq_true] at this
  obtain⟨⟨⟨h1,_⟩,h2⟩,h3⟩:=this
  refine⟨h1,fun cs b e=>(by rw[e] at h2;cases h2),fun i hi oi d hoi hd=>?_⟩
  have:=List.all_eq_true.1 h3 i (by simpa using hi)
  rw[hoi] at this
  simp only[hd] at this
  rw[Bool.or_eq_true,Bool.and_eq_true,Bool.or_eq_true,Bool.or_eq_true] at this
  rcases this with h4|⟨h4,h5⟩
  ·exact .inl (by simpa using h4)
  ·refine .inr ⟨by simpa using h4,fun hm=>?_⟩
   rcases h5 with (h5|h5)|h5
   ·simp at h5;exact absurd hm h5
   ·exact .inl (by simpa using h5)
   ·exact .inr (by simpa using h5)
 refine⟨fun j o e ho he=>by simpa using List.all_eq_true.1 (key j o ho).1 e he,fun j o cs b ho=>(key j o ho).2.1 cs b, ?_, ?_⟩
 ·intro i j oi oj d hi hoi hoj hdi hdj
  rcases (key j oj hoj).2.2 i hi oi d hoi hdi with h4|⟨h4,_⟩
  ·exact h4
  ·exact absurd hdj h4
 ·intro i j oi oj d hi hne hoi hoj hd hm
  rcases (key j oj hoj).2.2 i hi oi d hoi hd with h4|⟨_,h4⟩
  ·exact absurd h4 hne
  ·exact h4 hm
def A8(ops:Array Oper)(nd:Nat)(vs:Nat→AV)(tm:Nat→AV)(l:Nat→Bool)(t:Nat):AV :=
 match (List.range nd).find? fun j=>l j && (((ops[j]?).bind (·.dst)) == some t) with
 | some j=>vs j
 | none=>tm t
theorem Hd{ops:Array Oper}{nd:Nat}{vs tm:Nat→AV}{l:Nat→Bool}{t i:Nat}{o:Oper}(hO:Ord ops nd)(hi:i<nd)(hl:l i=true)(ho:ops[i]?=some o)(hd:o.dst=some t):A8 ops nd vs tm l t=vs i:=by
 unfold A8
 cases hf:(List.range nd).find? fun j=>l j && (((ops[j]?).bind (·.dst)) == some t) with
 | none =>
  have:=List.find?_eq_none.1 hf i (by simpa using hi)
  simp [hl,ho,hd] at this
 | some j =>
  have h1:=List.find?_some hf
  have h2:=List.mem_of_find?_eq_some hf
  rw[Bool.and_eq_true,beq_iff_eq] at h1
  cases hoj:ops[j]? with
  | none=>rw[hoj] at h1;simp at h1
  | some oj =>
   rw[hoj] at h1
   have:=hO.once j i oj o t (by simpa using h2) hoj ho (by simpa using h1.2) hd
   rw[this]
theorem Di{ops:Array Oper}{nd:Nat}{vs tm:Nat→AV}{l:Nat→Bool}{t:Nat}(h:∀ j o,j<nd→ops[j]?=some o→o.dst=some t→l j=false):A8 ops nd vs tm l t=tm t:=by
 unfold A8
 have:((List.range nd).find? fun j=>l j && (((ops[j]?).bind (·.dst)) == some t))=none:=by
  rw[List.find?_eq_none]
  intro j hj
  cases hoj:ops[j]? with
  | none=>simp
  | some oj =>
   by_cases hd:oj.dst=some t
   ·simp [h j oj (by simpa using hj) hoj hd]
   ·simp [hd]
 rw[this]
theorem Ce{ops:Array Oper}{nd:Nat}{vs vs' tm:Nat→AV}{l l':Nat→Bool}{t:Nat}(hO:Ord ops nd)(h:∀ j o,j<nd→ops[j]?=some o→o.dst=some t→l j=l' j∧(l j=true→vs j=vs' j)):A8 ops nd vs tm l t=A8 ops nd vs' tm l' t:=by
 by_cases hex:∃ j o,j<nd∧ops[j]?=some o∧o.dst=some t∧l j=true
 ·obtain⟨j,o,h1,h2,h3,h4⟩:=hex
  have:=h j o h1 h2 h3
  rw[Hd hO h1 h4 h2 h3,Hd hO h1 (this.1▸h4) h2 h3,this.2 h4]
 ·have h0:∀ j o,j<nd→ops[j]?=some o→o.dst=some t→l j=false:=fun j o h1 h2 h3=>by
   cases hl:l j with
   | false=>rfl
   | true=>exact absurd ⟨j,o,h1,h2,h3,hl⟩ hex
  rw[Di h0,Di fun j o h1 h2 h3=>by rw[← (h j o h1 h2 h3).1];exact h0 j o h1 h2 h3]
def evT(tm:Nat→AV):Operand→AV:=AS.ev ⟨tm,fun _=>none,0⟩
theorem Jz(σ:AS):σ.ev=evT σ.tm:=by funext x;cases x<;>rfl
def Want(ops:Array Oper)(tm:Nat→AV)(o:Oper):Prop:=match o.guard with
 | none=>True
 | some (g,want)=>∃ d,(ops[g]?).bind (·.dst)=some d∧tm d=.ex (.bool want)
def A0k(ops:Array Oper)(tm:Nat→AV)(o:Oper):Prop:=match o.guard with
 | none=>False
 | some (g,want)=>∃ d,(ops[g]?).bind (·.dst)=some d∧((∃ t,tm d=.ex (.bool t)∧t≠want)∨tm d=.und)
def StepOk(P:Program)(C:World→Prop)(ops:Array Oper)(b:Nat)(u:AV)(tm:Nat→AV)(H:Nat→Option A4)(q:Nat):Prop :=
 ∃ o,ops[q]?=some o ∧
  ((Want ops tm o∧∃ f hpq,f.quiet=true∧A7 P C (b+q) o.op o.type (evT tm) hpq (fun u' f'=>u'=u∧f'=f)∧(∀ x β,hpq x=some β→H x=some β)∧(∀ β,f.md true=.new β→H (b+q)=some β)) ∨
   (A0k ops tm o∧u=.und))
abbrev A9y:=Option (Nat×Nat×A4×A4)
def Az(S:A9y)(H:Nat→Option A4)(l:Nat→Bool):Nat→Option A4:=match S with
 | none=>H
 | some (s,c,_,γ)=>if l s then upd H c (some γ) else H
def Ov(P:Program)(C:World→Prop)(ops:Array Oper)(b:Nat)(u:AV)(tm:Nat→AV)(H:Nat→Option A4)(q c:Nat)(β γ:A4):Prop :=
 ∃ o,ops[q]?=some o∧Want ops tm o∧(∃ x,x∈o.op.operands∧(evT tm x).isOf c)∧H c=some β∧wkR β γ ∧
  ∃ hpq,A7 P C (b+q) o.op o.type (evT tm) hpq (fun u' f'=>u'=u∧f'=.set c γ)∧(∀ x δ,hpq x=some δ→H x=some δ)
theorem Yg{s c:Nat}{β γ:A4}{H:Nat→Option A4}{l:Nat→Bool}(h:l s=false):Az (some (s,c,β,γ)) H l=H:=by
 unfold Az;simp [h]
theorem Ae9{s c:Nat}{β γ:A4}{H:Nat→Option A4}{l:Nat→Bool}(h:l s=true):Az (some (s,c,β,γ)) H l=upd H c (some γ):=by
 unfold Az;simp [h]
theorem Hn{S:A9y}{H:Nat→Option A4}{l l':Nat→Bool}(h:∀ s c β γ,S=some (s,c,β,γ)→l s=l' s):Az S H l=Az S H l':=by
 cases S with
 | none=>rfl
 | some x =>
  obtain⟨s,c,β,γ⟩:=x
  unfold Az
  dsimp only
  rw[h s c β γ rfl]
theorem StepOk.up{P:Program}{C:World→Prop}{ops:Array Oper}{b:Nat}{u:AV}{tm:Nat→AV}{H H':Nat→Option A4}{q:Nat}(h:StepOk P C ops b u tm H q)(hh:∀ x β,H x=some β→H' x=some β):StepOk P C ops b u tm H' q:=by
 obtain⟨o,h1,h2⟩:=h
 refine⟨o,h1,h2.imp ?_ fun h=>h⟩
 rintro⟨hw,f,hpq,g1,g2,g3,g4⟩
 exact⟨hw,f,hpq,g1,g2,fun x β hx=>hh _ _ (g3 x β hx),fun β e=>hh _ _ (g4 β e)⟩
section
variable{P:Program}{C:World→Prop}{K:AS→Prop}{ops:Array Oper}{nd b:Nat}
theorem A8k{f:Eff}(hq:f.quiet=true){id:Nat}{hp:Nat→Option A4}(hid:hp id=none):(∀ x β,hp x=some β→f.app id hp x=some β)∧(∀ β,f=.new β→f.app id hp id=some β)∧(∀ x,x≠id→f.app id hp x=hp x):=by
 cases f with
 | none=>exact⟨fun _ _ h=>h,fun _ h=>(by cases h),fun _ _=>rfl⟩
 | new β=>exact⟨fun x γ h=>(Am _ _ fun e=>(by rw[e,hid] at h;cases h)).trans h,fun γ h=>(by cases h;exact Af _ _ _),fun x hx=>Am _ _ hx⟩
 | set b β=>cases hq
 | grow b β=>cases hq
 | alc t z=>exact⟨fun x γ h=>(Am _ _ fun e=>(by rw[e,hid] at h;cases h)).trans h,fun γ h=>(by cases h),fun x hx=>Am _ _ hx⟩
 | frz bs =>
  cases bs with
  | nil=>exact⟨fun x β h=>(by rw[G8];exact h),fun _ h=>(by cases h),fun x _=>(by rw[G8])⟩
  | cons _ _=>cases hq
theorem Al7(hO:Ord ops nd)(hnd:nd≤ops.size){σ:AS}(h:Ax P C ops nd b 0 ops.toList K σ)(hn:∀ x,b≤x→σ.hp x=none):∀ j,j≤nd →
  ∃ (vs:Nat→AV) (σj:AS) (H:Nat→Option A4) (S:A9y),Ax P C ops nd b j (ops.toList.drop j) K σj∧σj.nx=σ.nx∧(∀ x,b+j≤x→σj.hp x=none)∧(∀ x,x<b→H x=σ.hp x)∧(∀ t,σj.tm t=A8 ops nd vs σ.tm (fun q=>decide (q<j)) t) ∧
   σj.hp=Az S H (fun q=>decide (q<j))∧(∀ s c β γ,S=some (s,c,β,γ)→j=nd∧s+1=nd∧Ov P C ops b (vs s) (A8 ops nd vs σ.tm (fun x=>decide (x<s))) H s c β γ) ∧
   ∀ q,q<j→(∀ s c β γ,S=some (s,c,β,γ)→q≠s)→StepOk P C ops b (vs q) (A8 ops nd vs σ.tm (fun x=>decide (x<q))) H q:=by
 intro j
 induction j with
 | zero =>
  intro _
  exact⟨fun _=>.junk,σ,σ.hp,none,by simpa using h,rfl,fun x hx=>hn x (by omega),fun _ _=>rfl,fun t=>(Di fun _ _ _ _ _=>by simp).symm,rfl,fun _ _ _ _ h=>(by cases h),fun q hq=>absurd hq (by omega)⟩
 | succ j ih =>
  intro hj
  obtain⟨vs,σj,H,S,h1,h2,h3,h4,h5,hH,hS,h6⟩:=ih (by omega)
  obtain rfl:S=none:=by
   cases S with
   | none=>rfl
   | some x=>have:=(hS x.1 x.2.1 x.2.2.1 x.2.2.2 rfl).1;omega
  obtain rfl:σj.hp=H:=hH
  have hlt:j<ops.size:=by omega
  have hoj:ops[j]?=some ops[j]:=Array.getElem?_eq_getElem hlt
  generalize hoo:ops[j]=o at hoj
  have hdrop:ops.toList.drop j=o :: ops.toList.drop (j+1):=by
   rw[List.drop_eq_getElem_cons (by simpa using hlt)]
   simp [hoo]
  rw[hdrop] at h1
  have htm:σj.tm=A8 ops nd vs σ.tm (fun q=>decide (q<j)):=funext h5
  have tmj:∀ (u:AV) (q:Nat),q≤j→A8 ops nd (upd vs j u) σ.tm (fun x=>decide (x<q))=A8 ops nd vs σ.tm (fun x=>decide (x<q)):=fun u q hq=>by
   funext t
   refine Ce hO fun x o' hx _ _=>⟨rfl,fun hl=>Am _ _ ?_⟩
   have:x<q:=by simpa using hl
   omega
  have nxt:∀ (u:AV) (t:Nat),(σj.put o.dst u).tm t=A8 ops nd (upd vs j u) σ.tm (fun q=>decide (q<j+1)) t:=by
   intro u t
   by_cases hd:o.dst=some t
   ·rw[Hd hO (by omega) (by simp) hoj hd,Af,hd]
    exact Af _ _ _
   ·have e1:(σj.put o.dst u).tm t=σj.tm t:=by
     cases hdd:o.dst with
     | none=>rfl
     | some d=>exact Am _ _ fun e=>hd (by rw[hdd,e])
    rw[e1,h5]
    refine Ce hO fun x o' hx ho' hd'=>?_
    have hne:x≠j:=fun e=>by subst e;rw[hoj] at ho';cases ho';exact hd hd'
    exact⟨by simp;omega,fun hl=>(Am _ _ hne).symm⟩
  have old:∀ (u:AV) (H:Nat→Option A4),(∀ x β,σj.hp x=some β→H x=some β)→∀ q,q<j→StepOk P C ops b (upd vs j u q) (A8 ops nd (upd vs j u) σ.tm (fun x=>decide (x<q))) H q:=by
   intro u H hH q hq
   rw[tmj u q (by omega),Am _ _ (by omega)]
   exact (h6 q hq fun _ _ _ _ h=>(by cases h)).up hH
  have exec:Want ops σj.tm o→aop P C (decide (j<nd)) (decide (j+1=nd)) (b+j) o (Ax P C ops nd b (j+1) (ops.toList.drop (j+1)) K) σj→∃ (vs:Nat→AV) (σ':AS) (H:Nat→Option A4) (S:A9y),Ax P C ops nd b (j+1) (ops.toList.drop (j+1)) K σ'∧σ'.nx=σ.nx∧(∀ x,b+(j+1)≤x→σ'.hp x=none)∧(∀ x,x<b→H x=σ.hp x)∧(∀ t,σ'.tm t=A8 ops nd vs σ.tm (fun q=>decide (q<j+1)) t) ∧
    σ'.hp=Az S H (fun q=>decide (q<j+1))∧(∀ s c β γ,S=some (s,c,β,γ)→j+1=nd∧s+1=nd∧Ov P C ops b (vs s) (A8 ops nd vs σ.tm (fun x=>decide (x<s))) H s c β γ) ∧
    ∀ q,q<j+1→(∀ s c β γ,S=some (s,c,β,γ)→q≠s)→StepOk P C ops b (vs q) (A8 ops nd vs σ.tm (fun x=>decide (x<q))) H q:=by
   intro hw ha
   obtain⟨u,f,⟨hq,h7⟩,hwf,h9⟩:=Kq (pp:=fun c=>∃ x,x∈o.op.operands∧(σj.ev x).isOf c) (fun c x h1 h2=>⟨x,h1,h2⟩) ha
   have hq':=hq (by simpa using (show j<nd by omega))
   have hdj:decide (j<nd)=true:=by simpa using (show j<nd by omega)
   rw[hdj] at h7
   by_cases hqf:f.quiet=true
   ·have hqm:(f.md true).quiet=true:=by cases f<;>first|rfl|exact hqf
    obtain⟨a1,a2,a3⟩:=A8k hqm (h3 (b+j) (Nat.le_refl _))
    refine⟨upd vs j u,_,(f.md true).app (b+j) σj.hp,none,h7,by rw[Gq];exact h2,fun x hx=>?_,fun x hx=>?_,fun t=>?_,by rw[F3];rfl,fun _ _ _ _ h=>(by cases h),fun q hq2 _=>?_⟩
    ·rw[F3];exact (a3 x (by omega)).trans (h3 x (by omega))
    ·exact (a3 x (by omega)).trans (h4 x hx)
    ·rw[← nxt u t];cases o.dst<;>rfl
    ·rcases Nat.lt_or_ge q j with hlt'|hge
     ·exact old u _ a1 q hlt'
     ·obtain rfl:q=j:=by omega
      rw[tmj u q (Nat.le_refl _),Af,← htm]
      refine⟨o,hoj,.inl ⟨hw,f,σj.hp,hqf, ?_,a1,fun β e=>a2 β e⟩⟩
      rw[← Jz]
      exact h9
   cases f with
   | set c γ =>
    obtain⟨hlast,β,hb1,hb2⟩:=hq'
    have hlast:j+1=nd:=by simpa using hlast
    have hcx:∀ x,b+j≤x→x≠c:=fun x hx e=>by rw[← e,h3 x hx] at hb1;cases hb1
    refine⟨upd vs j u,_,σj.hp,some (j,c,β,γ),h7,by rw[Gq];exact h2,fun x hx=>?_,h4,fun t=>?_, ?_,fun s c' β' γ' hs=>?_,fun q hq2 hne=>?_⟩
    ·rw[F3];exact (Am _ _ (hcx x (by omega))).trans (h3 x (by omega))
    ·rw[← nxt u t];cases o.dst<;>rfl
    ·rw[F3]
     show upd σj.hp c (some γ)=_
     unfold Az
     dsimp only
     rw[if_pos (by simp)]
    ·cases hs
     refine⟨hlast,hlast,o,hoj, ?_, ?_,hb1,hb2,σj.hp, ?_,fun _ _ h=>h⟩
     ·rw[tmj u j (Nat.le_refl _),← htm];exact hw
     ·rw[tmj u j (Nat.le_refl _),← htm,← Jz];exact hwf.2
     ·rw[tmj u j (Nat.le_refl _),Af,← htm,← Jz];exact h9
    ·have hne':=hne j c β γ rfl
     exact old u _ (fun _ _ h=>h) q (by omega)
   | none=>exact absurd hq' hqf
   | new β=>exact absurd hq' hqf
   | grow c β=>exact absurd hq' hqf
   | frz bs=>exact absurd hq' hqf
   | alc t z=>exact absurd hq' hqf
  unfold Ax at h1
  split at h1
  ·rename_i hg
   exact exec (by unfold Want;rw[hg];trivial) h1
  ·rename_i g want hg
   obtain ⟨d, hb, hcase⟩ : ∃ d, (ops[g]?).bind (·.dst) = some d ∧ ((∃ t,σj.tm d=.ex (.bool t)∧t=want∧aop P C (decide (j<nd)) (decide (j+1=nd)) (b+j) o (Ax P C ops nd b (j+1) (ops.toList.drop (j+1)) K) σj) ∨
     (((∃ t,σj.tm d=.ex (.bool t)∧t≠want)∨σj.tm d=.und)∧Ax P C ops nd b (j+1) (ops.toList.drop (j+1)) K (σj.put o.dst .und))):=by
    rcases h1 with⟨t,g1,h1⟩|⟨g1,h1⟩
    ·cases hb:(ops[g]?).bind (·.dst) with
     | none=>rw[hb] at g1;cases g1
     | some d =>
      rw[hb] at g1
      have g2:σj.tm d=.ex (.bool t):=by simpa using g1
      by_cases ht:t=want
      ·rw[if_pos ht] at h1
       exact⟨d,rfl,.inl ⟨t,g2,ht,h1⟩⟩
      ·rw[if_neg ht] at h1
       exact⟨d,rfl,.inr ⟨.inl ⟨t,g2,ht⟩,h1⟩⟩
    ·cases hb:(ops[g]?).bind (·.dst) with
     | none=>rw[hb] at g1;cases g1
     | some d =>
      rw[hb] at g1
      exact⟨d,rfl,.inr ⟨.inr (by simpa using g1),h1⟩⟩
   rcases hcase with⟨t,g2,ht,h1⟩|⟨g2,h1⟩
   ·exact exec (by unfold Want;rw[hg];exact⟨d,hb,by rw[g2,ht]⟩) h1
   ·refine⟨upd vs j .und,_,σj.hp,none,h1,by rw[Gq];exact h2,fun x hx=>by rw[F3];exact h3 x (by omega),h4,nxt .und,by rw[F3];rfl,fun _ _ _ _ h=>(by cases h),fun q hq2 _=>?_⟩
    rcases Nat.lt_or_ge q j with hlt'|hge
    ·exact old .und _ (fun _ _ h=>h) q hlt'
    ·obtain rfl:q=j:=by omega
     rw[tmj .und q (Nat.le_refl _),Af,← htm]
     exact⟨o,hoj,.inr ⟨by unfold A0k;rw[hg];exact⟨d,hb,g2⟩,rfl⟩⟩
variable{w0:Root}{M0:Nat→Prop}{N:Nat}{Q:Exit→Act→World→Prop}
theorem Eo{l:Array Bool}{i:Nat}(h:i<l.size):(l.setIfInBounds i true).getD i false=true:=by simp [h]
theorem Ci{l:Array Bool}{i:Nat}(h:i<l.size)(d e:Bool):l.getD i d=l.getD i e:=by simp [h]
theorem Jw{l:Array Bool}{i:Nat}{o:Oper}(hl:l.size=ops.size)(hc:Closed ops l)(ho:ops[i]?=some o)(he:∀ e,e∈Ap o→l.getD e false=true):Closed ops (l.setIfInBounds i true):=by
 intro j oj e hj hoj hee
 have hi:i<l.size:=by rw[hl];exact (Array.getElem?_eq_some_iff.1 ho).1
 by_cases hji:i=j
 ·subst hji
  rw[ho] at hoj
  cases hoj
  exact getD_set_true (he e hee)
 ·rw[getD_set_ne false hji] at hj
  exact getD_set_true (hc j oj e hj hoj hee)
theorem Oy(hC:∀ w w',C w→Below w.heap.size w w'→C w')(hc0:C w0)(hfit:∀ o∈ops.toList,∀ t,o.dst=some t→t<N)(hO:Ord ops nd)(hcov:∀ j i,nd≤j→j<ops.size→i<j→Reach ops j i){σ0:AS}
  (hk:∀ σ' a' w',K σ'→Cx P M0 N w0 b ops.size σ' a' w'→Fr (ops.toList.filterMap (·.dst)) σ0 σ'→Q .normal a' w'):∀ (fuel j:Nat) (l:Array Bool) (σ:AS) (a:Act) (w:World),fuel+j=ops.size→nd≤j→l.size=ops.size→(∀ i,i<ops.size→l.getD i false=decide (i<j)) →
   Ax P C ops nd b j (ops.toList.drop j) K σ→Cx P M0 N w0 b j σ a w→Fr (ops.toList.filterMap (·.dst)) σ0 σ→wpAny P .any ops Q fuel l a w
 | 0,j,l,σ,a,w,hf,hj,hl,hll,h,st,hfr=>by
  have hdrop:ops.toList.drop j=[]:=List.drop_eq_nil_of_le (by simp;omega)
  rw[hdrop] at h
  refine⟨?_,hk σ a w h (by rwa [show ops.size=j by omega]) hfr⟩
  rw[List.eq_nil_iff_forall_not_mem]
  intro i hi
  obtain⟨h0,o,ho,_⟩:=Cm.1 hi
  have hlt:=(Array.getElem?_eq_some_iff.1 ho).1
  have:=hll i hlt
  rw[Ci (by omega) true false,this] at h0
  simp at h0
  omega
 | fuel+1,j,l,σ,a,w,hf,hj,hl,hll,h,st,hfr=>by
  have hlt:j<ops.size:=by omega
  have hoj:ops[j]?=some ops[j]:=Array.getElem?_eq_getElem hlt
  generalize hoo:ops[j]=o at hoj
  have hmem:o∈ops.toList:=by rw[← hoo];simp
  have hdrop:ops.toList.drop j=o :: ops.toList.drop (j+1):=by
   rw[List.drop_eq_getElem_cons (by simpa using hlt)]
   simp [hoo]
  have hrd : j ∈ Region.ready .any ops l := Cm.2 ⟨by rw[Ci (by omega) true false,hll j hlt];simp,o,hoj,fun e he=>by
   have:=hO.back j o e hoj he
   rw[hll e (by omega)];simpa using this⟩
  refine⟨fun h0=>absurd hrd (by rw[h0];simp),fun i hi=>?_⟩
  have hij:i=j:=by
   obtain⟨h0,o',ho',hee⟩:=Cm.1 hi
   have hlt':=(Array.getElem?_eq_some_iff.1 ho').1
   rw[Ci (by omega) true false,hll i hlt'] at h0
   have hge:j≤i:=by simpa using h0
   rcases Nat.lt_or_ge j i with hlt2|hge2
   ·have hcl:Closed ops l:=by
     intro q oq e hq hoq he
     have hqs:=(Array.getElem?_eq_some_iff.1 hoq).1
     rw[hll q hqs] at hq
     have:=hO.back q oq e hoq he
     rw[hll e (by omega)]
     have:q<j:=by simpa using hq
     simp;omega
    have:=hcl.reach (hcov i j (by omega) hlt' hlt2) fun o2 e ho2 he=>by rw[ho'] at ho2;cases ho2;exact hee e he
    rw[hll j hlt] at this
    simp at this
   ·omega
  subst hij
  have hset:∀ q,q<ops.size→(l.setIfInBounds i true).getD q false=decide (q<i+1):=by
   intro q hq
   by_cases e:i=q
   ·subst e;rw[Eo (by omega)];simp
   ·rw[getD_set_ne false e,hll q hq]
    by_cases hqi:q<i
    ·simp [hqi];omega
    ·simp [hqi];omega
  have hmemd:∀ t,o.dst=some t→t∈ops.toList.filterMap (·.dst):=fun t ht=>List.mem_filterMap.2 ⟨o,hmem,ht⟩
  have go:∀ σ1 a1 w1,Ax P C ops nd b (i+1) (ops.toList.drop (i+1)) K σ1→Cx P M0 N w0 b (i+1) σ1 a1 w1→Fr (ops.toList.filterMap (·.dst)) σ σ1→wpAny P .any ops Q fuel (l.setIfInBounds i true) a1 w1:=fun σ1 a1 w1 h1 st1 hf1 =>
   Oy hC hc0 hfit hO hcov hk fuel (i+1) _ σ1 a1 w1 (by omega) (by omega) (by simpa using hl) hset h1 st1 (hfr.trans hf1)
  rw[hdrop] at h
  unfold Ax at h
  unfold wpOp
  rw[hoj]
  dsimp only
  split at h
  ·rename_i hg
   rw[if_pos (by simp [Region.wanted,hg])]
   exact .inl (Km hC hc0 (hfit o hmem) h st fun σ' a' w' h1 st1 hf=>go σ' a' w' h1 st1 (hf _ hmemd))
  ·rename_i g want hg
   obtain⟨⟨φ,st1⟩,st2⟩:=st
   rcases h with⟨t,h1,h⟩|⟨h1,h⟩
   rotate_left
   ·cases hb:(ops[g]?).bind (·.dst) with
    | none=>rw[hb] at h1;cases h1
    | some d =>
     rw[hb] at h1
     have hy:=Gi (ops:=ops) st1 hb (by simpa using h1)
     rw[if_neg (by simp [Region.wanted,hg,hy])]
     exact go _ _ _ h (Fh (hfit o hmem) ⟨⟨φ,st1⟩,st2⟩) (Fv _ _ _ hmemd)
   cases hb:(ops[g]?).bind (·.dst) with
   | none=>rw[hb] at h1;cases h1
   | some d =>
    rw[hb] at h1
    have hy:=Fx (ops:=ops) st1 hb (by simpa using h1)
    by_cases ht:t=want
    ·rw[if_pos ht] at h
     rw[if_pos (by simp [Region.wanted,hg,hy,ht])]
     exact .inl (Km hC hc0 (hfit o hmem) h ⟨⟨φ,st1⟩,st2⟩ fun σ' a' w' h1 st1 hf=>go σ' a' w' h1 st1 (hf _ hmemd))
    ·rw[if_neg ht] at h
     rw[if_neg (by simp [Region.wanted,hg,hy,ht])]
     exact go _ _ _ h (Fh (hfit o hmem) ⟨⟨φ,st1⟩,st2⟩) (Fv _ _ _ hmemd)
end
end Go.Proofs.YtbhffbgbhgjdiaaGreatDoor
namespace Go.Proofs.YtbhffbgbhgjdiaaGreatDoor
open Go.RowKit
set_option maxRecDepth 100000
theorem Hj{f g:Nat→Bool}{i:Nat}(hf:f i=true)(hg:g i=false)(hh:∀ j,j≠i→f j=g j):∀ n,(List.range n).countP f=(List.range n).countP g+if i<n then 1 else 0
 | 0=>by simp
 | n+1=>by
  rw[List.range_succ,List.countP_append,List.countP_append,Hj hf hg hh n]
  by_cases h1:i=n
  ·subst h1;simp [hf,hg]
  ·have e1:[n].countP f=[n].countP g:=by simp [List.countP_cons,hh n (fun e=>h1 e.symm)]
   rw[e1]
   by_cases h2:i<n
   ·rw[if_pos h2,if_pos (by omega:i<n+1)];omega
   ·rw[if_neg h2,if_neg (by omega:¬ i<n+1)]
    omega
theorem Na(nd:Nat):∀ n,nd≤n→(List.range n).countP (fun i=>!decide (i<nd))+nd=n
 | 0,h=>by simp;omega
 | n+1,h=>by
  rw[List.range_succ,List.countP_append]
  rcases Nat.lt_or_ge n nd with h1|h1
  ·have hnd:nd=n+1:=by omega
   subst hnd
   have:(List.range n).countP (fun i=>!decide (i<n+1))=0:=by
    rw[List.countP_eq_zero]
    intro x hx
    have:x<n:=by simpa using hx
    simp;omega
   rw[this]
   simp
  ·have:=Na nd n h1
   have h2:¬ n<nd:=by omega
   simp [h2]
   omega
def cnt(n:Nat)(l:Array Bool):Nat:=(List.range n).countP fun i=>!l.getD i false
section
variable{P:Program}{C:World→Prop}{K:AS→Prop}{ops:Array Oper}{nd b:Nat}{w0:Root}{M0:Nat→Prop}{N:Nat}{Q:Exit→Act→World→Prop}
theorem Ahu(hC:∀ w w',C w→Below w.heap.size w w'→C w')(hc0:C w0)(hfit:∀ o∈ops.toList,∀ t,o.dst=some t→t<N)(hO:Ord ops nd)(hnd:nd≤ops.size)(hcov:∀ j i,nd≤j→j<ops.size→i<j→Reach ops j i){σ0 σn:AS}
  (hk:∀ σ' a' w',K σ'→Cx P M0 N w0 b ops.size σ' a' w'→Fr (ops.toList.filterMap (·.dst)) σ0 σ'→Q .normal a' w')
  {vs:Nat→AV} {H:Nat→Option A4} {S:A9y} (ha:Ax P C ops nd b nd (ops.toList.drop nd) K σn) (hnx:σn.nx=σ0.nx) (hH:∀ x,b+nd≤x→σn.hp x=none) (htm:∀ t,σn.tm t=A8 ops nd vs σ0.tm (fun q=>decide (q<nd)) t)
  (hhp:σn.hp=Az S H (fun q=>decide (q<nd))) (hS:∀ s c β γ,S=some (s,c,β,γ)→s+1=nd∧Ov P C ops b (vs s) (A8 ops nd vs σ0.tm (fun x=>decide (x<s))) H s c β γ)
  (hlex:∀ q,q<nd→(∀ s c β γ,S=some (s,c,β,γ)→q≠s)→StepOk P C ops b (vs q) (A8 ops nd vs σ0.tm (fun x=>decide (x<q))) H q):∀ (fuel:Nat) (l:Array Bool) (a:Act) (w:World),cnt ops.size l=fuel→l.size=ops.size→Closed ops l→(∀ q,nd≤q→l.getD q false=false) →
   (∀ s c β γ,S=some (s,c,β,γ)→l.getD s false=true→∀ q,q<nd→l.getD q false=false→c≠b+q) →
   (∃ φ,St P M0 N w0 (fun x=>b≤x∧∀ q,q<nd→l.getD q false=true→x≠b+q) φ ⟨A8 ops nd vs σ0.tm (fun q=>l.getD q false),Az S H (fun q=>l.getD q false),σ0.nx⟩ a w)→wpAny P .any ops Q fuel l a w:=by
 intro fuel
 induction fuel with
 | zero =>
  intro l a w hc hl hcl hge hI hst
  have hz:∀ i,i<ops.size→l.getD i false=true:=fun i hi=>by
   have:=List.countP_eq_zero.1 hc i (by simpa using hi)
   simpa using this
  have hnn:nd=ops.size:=by
   rcases Nat.lt_or_ge nd ops.size with h|h
   ·have:=hz nd h;rw[hge nd (Nat.le_refl _)] at this;cases this
   ·omega
  obtain⟨φ,hst⟩:=hst
  refine Oy hC hc0 hfit hO hcov hk 0 nd l σn a w (by omega) (Nat.le_refl _) hl (fun i hi=>by rw[hz i hi];simp;omega) ha ⟨⟨φ, ?_⟩,hH⟩ ?_
  ·have e:(⟨A8 ops nd vs σ0.tm (fun q=>l.getD q false),Az S H (fun q=>l.getD q false),σ0.nx⟩:AS)=σn:=by
    rw[← hnx]
    have:A8 ops nd vs σ0.tm (fun q=>l.getD q false)=σn.tm:=by
     funext t
     rw[htm]
     exact Ce hO fun j o hj ho hd=>⟨by rw[hz j (by omega)];simp [hj],fun _=>rfl⟩
    have e2:Az S H (fun q=>l.getD q false)=σn.hp:=by
     rw[hhp]
     exact Hn fun s c β γ h=>by have:=(hS s c β γ h).1;rw[hz s (by omega)];simp;omega
    rw[this,e2]
   rw[e] at hst
   exact hst.sub fun x hx=>⟨by omega,fun q hq _=>by omega⟩
  ·refine⟨fun t ht=>?_,by rw[hnx];exact Nat.le_refl _⟩
   rw[htm]
   exact Di fun j o hj ho hd=>absurd (List.mem_filterMap.2 ⟨o,by simpa using Array.mem_of_getElem? ho,hd⟩) ht
 | succ fuel ih =>
  intro l a w hc hl hcl hge hI hst
  by_cases hall:∀ q,q<nd→l.getD q false=true
  ·have hll:∀ i,i<ops.size→l.getD i false=decide (i<nd):=fun i hi=>by
    rcases Nat.lt_or_ge i nd with h|h
    ·rw[hall i h];simp [h]
    ·rw[hge i h];simp;exact h
   have hcc:cnt ops.size l+nd=ops.size:=by
    have e1:=Na nd ops.size hnd
    have e2:cnt ops.size l=(List.range ops.size).countP (fun i=>!decide (i<nd)):=List.countP_congr fun i hi=>by rw[hll i (by simpa using hi)]
    omega
   obtain⟨φ,hst⟩:=hst
   refine Oy hC hc0 hfit hO hcov hk (fuel+1) nd l σn a w (by omega) (Nat.le_refl _) hl hll ha ⟨⟨φ, ?_⟩,hH⟩ ?_
   ·have e:(⟨A8 ops nd vs σ0.tm (fun q=>l.getD q false),Az S H (fun q=>l.getD q false),σ0.nx⟩:AS)=σn:=by
     rw[← hnx]
     have:A8 ops nd vs σ0.tm (fun q=>l.getD q false)=σn.tm:=by
      funext t
      rw[htm]
      exact Ce hO fun j o hj ho hd=>⟨by rw[hall j hj];simp [hj],fun _=>rfl⟩
     have e2:Az S H (fun q=>l.getD q false)=σn.hp:=by
      rw[hhp]
      exact Hn fun s c β γ h=>by have:=(hS s c β γ h).1;rw[hall s (by omega)];simp;omega
     rw[this,e2]
    rw[e] at hst
    exact hst.sub fun x hx=>⟨by omega,fun q hq _=>by omega⟩
   ·refine⟨fun t ht=>?_,by rw[hnx];exact Nat.le_refl _⟩
    rw[htm]
    exact Di fun j o hj ho hd=>absurd (List.mem_filterMap.2 ⟨o,by simpa using Array.mem_of_getElem? ho,hd⟩) ht
  ·
   have hex:∃ q,q<nd∧l.getD q false=false∧∀ p,p<q→l.getD p false=true:=by
    have h1:∃ q,q<nd∧l.getD q false=false:=by
     obtain⟨q,hq⟩:=Classical.not_forall.1 hall
     obtain⟨h2,h3⟩:=Classical.not_imp.1 hq
     exact⟨q,h2,by simpa using h3⟩
    obtain⟨q,⟨h2,h3⟩,h4⟩:=exists_least h1
    exact ⟨q,h2,h3,fun p hp=>by
     cases hh:l.getD p false with
     | true=>rfl
     | false=>exact absurd (h4 p ⟨by omega,hh⟩) (by omega)⟩
   obtain⟨q0,hq1,hq2,hq3⟩:=hex
   have hq0:ops[q0]?=some ops[q0]:=Array.getElem?_eq_getElem (by omega)
   have hrd:q0∈Region.ready .any ops l:=Cm.2 ⟨by rw[Ci (by omega) true false];exact hq2,_,hq0,fun e he=>hq3 e (hO.back q0 _ e hq0 he)⟩
   refine⟨fun h0=>absurd hrd (by rw[h0];simp),fun i hi=>?_⟩
   obtain⟨h0,o,ho,hee⟩:=Cm.1 hi
   have his:=(Array.getElem?_eq_some_iff.1 ho).1
   rw[Ci (by omega) true false] at h0
   have hind:i<nd:=by
    rcases Nat.lt_or_ge i nd with h|h
    ·exact h
    ·have:=hcl.reach (hcov i q0 h his (by omega)) fun o2 e ho2 he=>by rw[ho] at ho2;cases ho2;exact hee e he
     rw[hq2] at this;cases this
   have hset:∀ q,(l.setIfInBounds i true).getD q false=if q=i then true else l.getD q false:=fun q=>by
    by_cases e:i=q
    ·subst e;rw[if_pos rfl];exact Eo (by omega)
    ·rw[getD_set_ne false e,if_neg fun h=>e h.symm]
   have hcnt:cnt ops.size (l.setIfInBounds i true)=fuel:=by
    have:=Hj (f:=fun q=>!l.getD q false) (g:=fun q=>!(l.setIfInBounds i true).getD q false) (i:=i) (by rw[h0];rfl) (by rw[hset,if_pos rfl];rfl) (fun j hj=>by rw[hset,if_neg hj]) ops.size
    rw[if_pos his] at this
    unfold cnt at hc ⊢
    omega
   have hmem:o∈ops.toList:=by simpa using Array.mem_of_getElem? ho
   have look:∀ t,t∈o.looksAt ops→A8 ops nd vs σ0.tm (fun x=>decide (x<i)) t=A8 ops nd vs σ0.tm (fun q=>l.getD q false) t:=by
    intro t ht
    refine Ce hO fun j oj hj hoj hd=>⟨?_,fun _=>rfl⟩
    by_cases hji:j=i
    ·subst hji;rw[h0];simp
    ·rcases hO.side j i oj o t hj hji hoj ho hd ht with h|h
     ·rw[hee j h];simp;exact hO.back i o j ho h
     ·have hij:=hO.back j oj i hoj h
      have:l.getD j false=false:=by
       cases hh:l.getD j false with
       | false=>rfl
       | true=>have:=hcl j oj i hh hoj h;rw[h0] at this;cases this
      rw[this];simp;omega
   have lookop:∀ x,x∈o.op.operands→evT (A8 ops nd vs σ0.tm (fun x=>decide (x<i))) x=evT (A8 ops nd vs σ0.tm (fun q=>l.getD q false)) x:=by
    intro x hx
    cases x with
    | tmp t=>exact look t (List.mem_append_left _ (List.mem_filterMap.2 ⟨.tmp t,by simpa using hx,rfl⟩))
    | _=>rfl
   have nxt:∀ t,((⟨A8 ops nd vs σ0.tm (fun q=>l.getD q false),Az S H (fun q=>l.getD q false),σ0.nx⟩:AS).put o.dst (vs i)).tm t=A8 ops nd vs σ0.tm (fun q=>(l.setIfInBounds i true).getD q false) t:=by
    intro t
    by_cases hd:o.dst=some t
    ·rw[Hd hO hind (by rw[hset,if_pos rfl]) ho hd,hd]
     exact Af _ _ _
    ·have e1:((⟨A8 ops nd vs σ0.tm (fun q=>l.getD q false),Az S H (fun q=>l.getD q false),σ0.nx⟩:AS).put o.dst (vs i)).tm t=A8 ops nd vs σ0.tm (fun q=>l.getD q false) t:=by
      cases hdd:o.dst with
      | none=>rfl
      | some d=>exact Am _ _ fun e=>hd (by rw[hdd,e])
     rw[e1]
     refine Ce hO fun x o' hx ho' hd'=>⟨?_,fun _=>rfl⟩
     have hne:x≠i:=fun e=>by subst e;rw[ho] at ho';cases ho';exact hd hd'
     rw[hset,if_neg hne]
   have go:∀ a1 w1 hp1,hp1=Az S H (fun q=>(l.setIfInBounds i true).getD q false)→(∀ s c β γ,S=some (s,c,β,γ)→(l.setIfInBounds i true).getD s false=true→∀ q,q<nd→(l.setIfInBounds i true).getD q false=false→c≠b+q) →
     (∃ φ,St P M0 N w0 (fun x=>(b≤x∧∀ q,q<nd→l.getD q false=true→x≠b+q)∧x≠b+i) φ ({ (⟨A8 ops nd vs σ0.tm (fun q=>l.getD q false),Az S H (fun q=>l.getD q false),σ0.nx⟩:AS) with hp:=hp1 }.put o.dst (vs i)) a1 w1)→wpAny P .any ops Q fuel (l.setIfInBounds i true) a1 w1:=by
    rintro a1 w1 hp1 rfl hI' ⟨φ,h1⟩
    have h1:=h1.put' (hp2:=Az S H (fun q=>(l.setIfInBounds i true).getD q false)) fun _ h=>h
    have e3:({ (⟨A8 ops nd vs σ0.tm (fun q=>l.getD q false),Az S H (fun q=>l.getD q false),σ0.nx⟩:AS) with hp:=Az S H (fun q=>(l.setIfInBounds i true).getD q false) }.put o.dst (vs i))=⟨A8 ops nd vs σ0.tm (fun q=>(l.setIfInBounds i true).getD q false),Az S H (fun q=>(l.setIfInBounds i true).getD q false),σ0.nx⟩:=by
     rw[← funext nxt]
     cases o.dst<;>rfl
    rw[e3] at h1
    refine ih _ a1 w1 hcnt (by simpa using hl) (Jw hl hcl ho hee) (fun q hq=>by rw[hset,if_neg (by omega)];exact hge q hq) hI' ⟨φ,h1.sub fun x hx=>⟨⟨hx.1,fun q hq hlq=>hx.2 q hq ?_⟩, ?_⟩⟩
    ·rw[hset];split
     ·rfl
     ·exact hlq
    ·exact hx.2 i hind (by rw[hset,if_pos rfl])
   obtain⟨φ,st⟩:=hst
   unfold wpOp
   rw[ho]
   dsimp only
   have grd:∀ g want,o.guard=some (g,want)→∀ d t,(ops[g]?).bind (·.dst)=some d→A8 ops nd vs σ0.tm (fun x=>decide (x<i)) d=.ex (.bool t)→yielded ops a.tmps g=some t:=by
    intro g want hg d t hb ht
    refine Fx (ops:=ops) st hb ?_
    show A8 ops nd vs σ0.tm (fun q=>l.getD q false) d=_
    rw[← look d (List.mem_append_right _ (by rw[hg];simp [hb])),ht]
   have wanted:Want ops (A8 ops nd vs σ0.tm (fun x=>decide (x<i))) o→Region.wanted o (yielded ops a.tmps)=true:=by
    intro hw
    unfold Want at hw
    split at hw
    ·rename_i hg;simp [Region.wanted,hg]
    ·rename_i g want hg
     obtain⟨d,hb,ht⟩:=hw
     simp [Region.wanted,hg,grd g want hg d want hb ht]
   have free : b ≤ b + i ∧ ∀ q, q < nd → l.getD q false = true → b + i ≠ b + q := ⟨by omega,fun q hq hlq e=>by
    have:q=i:=by omega
    subst this;rw[h0] at hlq;cases hlq⟩
   have evs:∀ x,x∈o.op.operands→Rep φ (Mo φ (Az S H (fun q=>l.getD q false)) M0) w (evT (A8 ops nd vs σ0.tm (fun x=>decide (x<i))) x) (a.eval x):=by
    intro x hx
    rw[lookop x hx]
    have:=st.evr x
    rw[Jz] at this
    exact this
   by_cases hSi:∃ c β γ,S=some (i,c,β,γ)
   ·obtain⟨c,β,γ,rfl⟩:=hSi
    obtain⟨_,o',ho',hw,⟨x,hx1,hx2⟩,hc1,hc2,hpq,g2,g3⟩:=hS i c β γ rfl
    rw[ho] at ho'
    cases ho'
    rw[if_pos (wanted hw)]
    have e1:Az (some (i,c,β,γ)) H (fun q=>l.getD q false)=H:=by
     exact Yg h0
    have hφc:∃ v,φ c=some v:=by
     exact A7g (evs x hx1) hx2
    refine .inl (Dq (hp:=hpq) (σ:=⟨A8 ops nd vs σ0.tm (fun q=>l.getD q false),Az (some (i,c,β,γ)) H (fun q=>l.getD q false),σ0.nx⟩) (id:=b+i) (k:=fun u' f'=>u'=vs i∧f'=.set c γ) ⟨st,free,fun x δ v hx _=>⟨δ,by dsimp only;rw[e1];exact g3 x δ hx,Cp δ⟩,fun t ht=>hfit o hmem t ht⟩ ?_ hC hc0 evs g2)
    rintro u' f' ⟨rfl,rfl⟩ φ' a' w' st'
    refine go a' w' _ ?_ ?_ ⟨φ',st'⟩
    ·dsimp only[Eff.app]
     rw[e1]
     exact (Ae9 (by rw[hset,if_pos rfl])).symm
    ·intro s c' β' γ' hs _ q hq hlq e
     cases hs
     rw[hset] at hlq
     split at hlq
     ·cases hlq
     ·obtain⟨v,hv⟩:=hφc
      have := st.fresh c ⟨by omega,fun q' hq' hlq' e'=>by
       have:q'=q:=by omega
       rw[this,hlq] at hlq';cases hlq'⟩
      rw[hv] at this;cases this
   ·have hni:∀ s c β γ,S=some (s,c,β,γ)→i≠s:=fun s c β γ h e=>hSi ⟨c,β,γ,by rw[e];exact h⟩
    have e1:Az S H (fun q=>(l.setIfInBounds i true).getD q false)=Az S H (fun q=>l.getD q false):=Hn fun s c β γ h=>by
     rw[hset,if_neg fun e=>hni s c β γ h e.symm]
    have hI':∀ s c β γ,S=some (s,c,β,γ)→(l.setIfInBounds i true).getD s false=true→∀ q,q<nd→(l.setIfInBounds i true).getD q false=false→c≠b+q:=by
     intro s c β γ h hs q hq hlq
     rw[hset,if_neg fun e=>hni s c β γ h e.symm] at hs
     rw[hset] at hlq
     split at hlq
     ·cases hlq
     ·exact hI s c β γ h hs q hq hlq
    obtain⟨o',ho',hs⟩:=hlex i hind hni
    rw[ho] at ho'
    cases ho'
    rcases hs with⟨hw,f,hpq,g1,g2,g3,g4⟩|⟨hu,hj⟩
    ·rw[if_pos (wanted hw)]
     refine .inl (Dq (hp:=hpq) (σ:=⟨A8 ops nd vs σ0.tm (fun q=>l.getD q false),Az S H (fun q=>l.getD q false),σ0.nx⟩) (id:=b+i) (k:=fun u' f'=>u'=vs i∧f'=f) ⟨st,free,fun x β v hx _=>?_,fun t ht=>hfit o hmem t ht⟩ ?_ hC hc0 evs g2)
     ·have hHx:=g3 x β hx
      cases S with
      | none=>exact⟨β,hHx,Cp β⟩
      | some y =>
       obtain⟨s,c,β0,γ⟩:=y
       obtain⟨_,_,_,_,_,hc1,hc2,_⟩:=hS s c β0 γ rfl
       dsimp only[Az]
       split
       ·by_cases e:x=c
        ·subst e
         rw[hc1] at hHx
         cases hHx
         exact⟨γ,Af _ _ _,hc2⟩
        ·exact⟨β,(Am _ _ e).trans hHx,Cp β⟩
       ·exact⟨β,hHx,Cp β⟩
     ·rintro u' f' ⟨rfl,rfl⟩ φ' a' w' st'
      have st2:=st'.put' (hp2:=(f'.md true).app (b+i) (Az S H (fun q=>l.getD q false))) fun τ ht=>Agm ht
      refine go a' w' _ ?_ hI' ⟨φ',st2⟩
      rw[e1]
      have new:∀ β,f'.md true=.new β→upd (Az S H (fun q=>l.getD q false)) (b+i) (some β)=Az S H (fun q=>l.getD q false):=by
       intro β hβ
       have h1:=g4 β hβ
       have h2:Az S H (fun q=>l.getD q false) (b+i)=some β:=by
        cases S with
        | none=>exact h1
        | some y =>
         obtain⟨s,c,β0,γ⟩:=y
         dsimp only[Az]
         split
         ·rename_i hs
          exact (Am _ _ fun e=>hI s c β0 γ rfl hs i hind h0 e.symm).trans h1
         ·exact h1
       funext x
       by_cases e:x=b+i
       ·subst e;exact (Af _ _ _).trans h2.symm
       ·exact Am _ _ e
      cases f' with
      | none=>rfl
      | new β=>exact new β rfl
      | alc t z=>exact new _ rfl
      | set _ _=>cases g1
      | grow _ _=>cases g1
      | frz bs =>
       cases bs with
       | nil=>exact G8 _ _
       | cons _ _=>cases g1
    ·unfold A0k at hu
     split at hu
     ·exact hu.elim
     ·rename_i g want hg
      have hnw:¬ Region.wanted o (yielded ops a.tmps)=true:=by
       obtain⟨d,hb,⟨t,ht,hne⟩|ht⟩:=hu
       ·simp [Region.wanted,hg,grd g want hg d t hb ht,hne]
       ·have hy:yielded ops a.tmps g=none:=by
         refine Gi (ops:=ops) st hb ?_
         show A8 ops nd vs σ0.tm (fun q=>l.getD q false) d=_
         rw[← look d (List.mem_append_right _ (by rw[hg];simp [hb])),ht]
        simp [Region.wanted,hg,hy]
      rw[if_neg hnw]
      refine go _ w _ e1.symm hI' ⟨φ, ?_⟩
      rw[hj]
      exact (st.sub fun x hx=>hx.1).putU o.dst fun t ht=>hfit o hmem t ht
end
end Go.Proofs.YtbhffbgbhgjdiaaGreatDoor
namespace Go.Proofs.YtbhffbgbhgjdiaaGreatDoor
open Go.RowKit
set_option maxRecDepth 100000
section
variable{P:Program}{C:World→Prop}{w0:Root}{M0:Nat→Prop}{N:Nat}
theorem Ay2{φ:Phi}{hp hp':Nat→Option A4}(h:∀ x v,φ x=some v→hp' x=hp x):Mo φ hp' M0=Mo φ hp M0:=by
 funext b
 apply propext
 unfold Mo
 refine or_congr Iff.rfl ⟨?_, ?_⟩
 ·rintro⟨i,β,v,h1,h2,h3,h4⟩
  exact⟨i,β,v,by rw[← h i v h3];exact h1,h2,h3,h4⟩
 ·rintro⟨i,β,v,h1,h2,h3,h4⟩
  exact⟨i,β,v,by rw[h i v h3];exact h1,h2,h3,h4⟩
theorem St.hpx{F:Nat→Prop}{φ:Phi}{σ:AS}{a:Act}{w:World}(st:St P M0 N w0 F φ σ a w){H:Nat→Option A4}(h:∀ x v,φ x=some v→H x=σ.hp x):St P M0 N w0 F φ { σ with hp:=H } a w:=by
 have e:=Ay2 (M0:=M0) h
 refine ⟨st.below,st.defers,st.size,fun t=>?_,fun i β v sz h1 h2=>?_,fun i β v h1 h2=>?_,fun i j β γ u v b h1 h2 h3 h4=>?_,st.fresh,st.m0,st.ones,st.jk,fun i β x c h1 h2=>?_,st.js,fun u v hg'=>by
  show Rep φ (Mo φ H M0) w u v
  rw[e];exact st.gh u v hg'⟩
 rotate_right
 ·dsimp only at h1
  rw[h i x h2] at h1
  exact st.jo i β x c h1 h2
 ·show Rep φ (Mo φ H M0) w _ _
  rw[e];exact st.tmr t
 ·show _∧∃ xs,_∧RepLL φ (Mo φ H M0) w _ _ _
  rw[e]
  dsimp only at h1
  rw[h i _ h2] at h1
  exact st.hpr i β v sz h1 h2
 ·dsimp only at h1
  rw[h i _ h2] at h1
  exact st.hpm i β v h1 h2
 ·dsimp only at h1 h2
  rw[h i u h3] at h1
  rw[h j v h4] at h2
  exact st.inj i j β γ u v b h1 h2 h3 h4
theorem Z7(hm:P.follows .mixedOrders=true)(hC:∀ w w',C w→Below w.heap.size w w'→C w')(hc0:C w0){id b:Nat}{ops:Array Oper}{K:AS→Prop}{Q:Exit→Act→World→Prop}{σ:AS}{a:Act}{w:World}(hfit:∀ o∈ops.toList,∀ t,o.dst=some t→t<N)
  (hB:D5 ops (drawn ops)=true) (h:Ax P C ops (drawn ops) b 0 ops.toList K σ) (st:Cx P M0 N w0 b 0 σ a w)
  (hk:∀ σ' a' w',K σ'→Cx P M0 N w0 b ops.size σ' a' w'→Fr (ops.toList.filterMap (·.dst)) σ σ'→Q .normal a' w'):(Code.region id ops true).wp P Q a w:=by
 have hO:=Fs hB
 have hnd:drawn ops≤ops.size:=A53 _
 obtain⟨⟨φ,st1⟩,st2⟩:=st
 obtain⟨vs,σn,H,S,h1,h2,h3,h4,h5,hhp,hS,h6⟩:=Al7 hO hnd h (fun x hx=>st2 x (by omega)) (drawn ops) (Nat.le_refl _)
 have hrep:∀ q,(Array.replicate ops.size false).getD q false=false:=fun q=>by by_cases hjs:q<ops.size<;>simp [hjs]
 refine wp_region_any hm (Ahu hC hc0 hfit hO hnd (fun j i h7 h8 h9=>Xn h7 h8 h9) hk h1 h2 h3 h5 hhp (fun s c β γ h=>(hS s c β γ h).2) h6 ops.size _ a _ ?_ (by simp) ?_ (fun q _=>?_) (fun s _ _ _ _ hs=>by rw[hrep] at hs;cases hs) ⟨φ, ?_⟩)
 ·unfold cnt
  rw[List.countP_eq_length.2 (fun i hi=>?_)]
  ·simp
  ·have:i<ops.size:=by simpa using hi
   simp [this]
 ·intro j o e hj _ _
  have hf:(Array.replicate ops.size false).getD j false=false:=by
   by_cases hjs:j<ops.size<;>simp [hjs]
  rw[hf] at hj;cases hj
 ·by_cases hjs:q<ops.size<;>simp [hjs]
 ·have e0:Az S H (fun q=>(Array.replicate ops.size false).getD q false)=H:=by
   cases S with
   | none=>rfl
   | some x=>exact Yg (s:=x.1) (c:=x.2.1) (β:=x.2.2.1) (γ:=x.2.2.2) (hrep x.1)
  rw[e0]
  have e:(⟨A8 ops (drawn ops) vs σ.tm (fun q=>(Array.replicate ops.size false).getD q false),H,σ.nx⟩:AS)={ σ with hp:=H }:=by
   have:A8 ops (drawn ops) vs σ.tm (fun q=>(Array.replicate ops.size false).getD q false)=σ.tm:=by
    funext t
    refine Di fun j o _ _ _=>?_
    by_cases hjs:j<ops.size<;>simp [hjs]
   rw[this]
  rw[e]
  have hb:Below w.heap.size w { w with drawn:=w.drawn+1 }:=⟨rfl,rfl,rfl,Nat.le_refl _,fun _ _=>rfl⟩
  refine ((st1.on hb).hpx fun x v hx=>h4 x ?_).sub fun x hx=>by omega
  rcases Nat.lt_or_ge x b with hlt|hge
  ·exact hlt
  ·rw[st1.fresh x (by omega)] at hx;cases hx
theorem Aht(hC:∀ w w',C w→Below w.heap.size w w'→C w')(hc0:C w0){b:Nat}{ops:Array Oper}{Q:Exit→Act→World→Prop}(T:(Nat→Bool)→AS)(hfit:∀ o∈ops.toList,∀ t,o.dst=some t→t<N)
  (hback:∀ q o e,ops[q]?=some o→e∈Ap o→e<q) (hng:∀ o,o∈ops.toList→o.guard=none)
  (hstep:∀ d i o,ops[i]?=some o→d i=false→(∀ e,e∈Ap o→d e=true)→(∀ j o' e,d j=true→ops[j]?=some o'→e∈Ap o'→d e=true) →
    A7 P C (b+i) o.op o.type (T d).ev (T d).hp fun u f=>({ T d with hp:=f.app (b+i) (T d).hp }.put o.dst u)=T fun q=>d q || decide (q=i))
  (hk:∀ φ a w,St P M0 N w0 (fun x=>b≤x∧∀ q,q<ops.size→x≠b+q) φ (T fun q=>decide (q<ops.size)) a w→Q .normal a w) :
  ∀ (fuel:Nat) (l:Array Bool) (a:Act) (w:World),cnt ops.size l=fuel→l.size=ops.size→Closed ops l→(∃ φ,St P M0 N w0 (fun x=>b≤x∧∀ q,q<ops.size→l.getD q false=true→x≠b+q) φ (T fun q=>l.getD q false) a w)→wpAny P .any ops Q fuel l a w:=by
 intro fuel
 have done:∀ (l:Array Bool) a w,l.size=ops.size→(∀ i,i<ops.size→l.getD i false=true)→(∃ φ,St P M0 N w0 (fun x=>b≤x∧∀ q,q<ops.size→l.getD q false=true→x≠b+q) φ (T fun q=>l.getD q false) a w)→Q .normal a w:=by
  rintro l a w hl hz ⟨φ,st⟩
  have e:(fun q=>l.getD q false)=fun q=>decide (q<ops.size):=by
   funext q
   by_cases h:q<ops.size
   ·rw[hz q h];simp [h]
   ·have h':¬ q<l.size:=by omega
    simp [h,h']
  rw[e] at st
  exact hk φ a w (st.sub fun x hx=>⟨hx.1,fun q hq _=>hx.2 q hq⟩)
 induction fuel with
 | zero =>
  intro l a w hc hl hcl hst
  have hz:∀ i,i<ops.size→l.getD i false=true:=fun i hi=>by
   have:=List.countP_eq_zero.1 hc i (by simpa using hi)
   simpa using this
  refine⟨?_,done l a w hl hz hst⟩
  refine List.eq_nil_iff_forall_not_mem.2 fun i hi=>?_
  obtain⟨h0,o,ho,_⟩:=Cm.1 hi
  have his:=(Array.getElem?_eq_some_iff.1 ho).1
  rw[Ci (by omega) true false,hz i his] at h0
  cases h0
 | succ fuel ih =>
  intro l a w hc hl hcl hst
  refine⟨fun h0=>done l a w hl (fun i hi=>?_) hst,fun i hi=>?_⟩
  ·rcases Classical.em (∃ q,q<ops.size∧l.getD q false=false) with hex|hex
   ·obtain⟨q0,⟨h2,h3⟩,h4⟩:=exists_least hex
    have hq0:ops[q0]?=some ops[q0]:=Array.getElem?_eq_getElem h2
    have hrd : q0 ∈ Region.ready .any ops l := Cm.2 ⟨by rw[Ci (by omega) true false];exact h3,_,hq0,fun e he=>by
     have hlt:=hback q0 _ e hq0 he
     cases hh:l.getD e false with
     | true=>rfl
     | false=>exact absurd (h4 e ⟨by omega,hh⟩) (by omega)⟩
    exact absurd hrd (by rw[h0];simp)
   ·cases hh:l.getD i false with
    | true=>rfl
    | false=>exact absurd ⟨i,hi,hh⟩ hex
  ·obtain⟨h0,o,ho,hee⟩:=Cm.1 hi
   have his:=(Array.getElem?_eq_some_iff.1 ho).1
   rw[Ci (by omega) true false] at h0
   have hset:∀ q,(l.setIfInBounds i true).getD q false=if q=i then true else l.getD q false:=fun q=>by
    by_cases e:i=q
    ·subst e;rw[if_pos rfl];exact Eo (by omega)
    ·rw[getD_set_ne false e,if_neg fun h=>e h.symm]
   have hcnt:cnt ops.size (l.setIfInBounds i true)=fuel:=by
    have:=Hj (f:=fun q=>!l.getD q false) (g:=fun q=>!(l.setIfInBounds i true).getD q false) (i:=i) (by rw[h0];rfl) (by rw[hset,if_pos rfl];rfl) (fun j hj=>by rw[hset,if_neg hj]) ops.size
    rw[if_pos his] at this
    unfold cnt at hc ⊢
    omega
   have hmem:o∈ops.toList:=by simpa using Array.mem_of_getElem? ho
   obtain⟨φ,st⟩:=hst
   have hT:(fun q=>(l.setIfInBounds i true).getD q false)=fun q=>(l.getD q false || decide (q=i)):=by
    funext q
    rw[hset]
    by_cases e:q=i
    ·rw[if_pos e,e];simp
    ·rw[if_neg e];simp [e]
   have hs:=hstep (fun q=>l.getD q false) i o ho h0 hee (fun j o' e hj hoj he=>hcl j o' e hj hoj he)
   unfold wpOp
   rw[ho]
   dsimp only
   rw[if_pos (by simp [Region.wanted,hng o hmem])]
   refine .inl (Dq (hp:=(T fun q=>l.getD q false).hp) (σ:=T fun q=>l.getD q false) (id:=b+i) (k:=fun u f=>({ (T fun q=>l.getD q false) with hp:=f.app (b+i) (T fun q=>l.getD q false).hp }.put o.dst u)=T fun q=>(l.getD q false || decide (q=i)))
    ⟨st, ⟨by omega,fun q hq hlq e=>by
     have:q=i:=by omega
     subst this;rw[h0] at hlq;cases hlq⟩,fun x β v hx _=>⟨β,hx,Cp β⟩,fun t ht=>hfit o hmem t ht⟩ ?_ hC hc0 (fun x _=>st.evr x) hs)
   intro u f e φ' a' w' st'
   rw[e,← hT] at st'
   refine ih _ a' w' hcnt (by simpa using hl) (Jw hl hcl ho hee) ⟨φ',st'.sub fun x hx=>⟨⟨hx.1,fun q hq hlq=>hx.2 q hq ?_⟩, ?_⟩⟩
   ·rw[hset];split
    ·rfl
    ·exact hlq
   ·exact hx.2 i his (by rw[hset,if_pos rfl])
theorem Vq(hm:P.follows .mixedOrders=true)(hC:∀ w w',C w→Below w.heap.size w w'→C w')(hc0:C w0){id:Nat}{ops:Array Oper}{K:AS→Prop}{Q:Exit→Act→World→Prop}{σ:AS}{a:Act}{w:World}(hfit:∀ o∈ops.toList,∀ t,o.dst=some t→t<N)
  (h:A9l P C ops σ K) (st:Cx P M0 N w0 σ.nx 0 σ a w) (hk:∀ σ' a' w',K { σ' with nx:=σ.nx+ops.size }→Cx P M0 N w0 σ.nx ops.size σ' a' w'→Fr (ops.toList.filterMap (·.dst)) σ σ'→Q .normal a' w'):(Code.region id ops true).wp P Q a w:=by
 obtain⟨T,h1,h2,h3,h4,h5,h6,h7,h8⟩:=h
 obtain⟨⟨φ,st1⟩,st2⟩:=st
 have hrep:∀ q,(Array.replicate ops.size false).getD q false=false:=fun q=>by by_cases hjs:q<ops.size<;>simp [hjs]
 refine wp_region_any hm (Aht hC hc0 T hfit h3 h4 h5 (fun φ a' w' st'=>hk _ a' w' h8 ⟨⟨φ,st'.sub fun x hx=>⟨by omega,fun q hq=>by omega⟩⟩,fun x hx=>h7 x hx (st2 x (by omega))⟩ ⟨h6,by rw[h2];exact Nat.le_refl _⟩) ops.size _ a _ ?_ (by simp) ?_ ⟨φ, ?_⟩)
 ·unfold cnt
  rw[List.countP_eq_length.2 (fun i hi=>?_)]
  ·simp
  ·have:i<ops.size:=by simpa using hi
   simp [this]
 ·intro j o e hj _ _
  rw[hrep j] at hj;cases hj
 ·rw[show (fun q=>(Array.replicate ops.size false).getD q false)=fun _=>false from funext hrep,h1]
  have hb:Below w.heap.size w { w with drawn:=w.drawn+1 }:=⟨rfl,rfl,rfl,Nat.le_refl _,fun _ _=>rfl⟩
  exact (st1.on hb).sub fun x hx=>by omega
abbrev StC(P:Program)(M0:Nat→Prop)(N:Nat)(w0:Root)(σ:AS)(a:Act)(w:World):Prop:=Cx P M0 N w0 σ.nx 0 σ a w
theorem Eh(hm:P.follows .mixedOrders=true)(hC:∀ w w',C w→Below w.heap.size w w'→C w')(hc0:C w0):∀ (c:Code) (Q:Exit→AS→Prop) (σ:AS) (a:Act) (w:World),awp P C c Q σ→fits N c=true→StC P M0 N w0 σ a w →
  c.wp P (fun e a' w'=>∃ σ',Q e σ'∧StC P M0 N w0 σ' a' w'∧Fr (writes c) σ σ') a w:=by
 intro c
 induction c with
 | skip=>exact fun Q σ a w h _ st=>wp_skip ⟨σ,h,st,Fr.refl _ _⟩
 | exit i=>exact fun Q σ a w h _ st=>wp_exit ⟨σ,h,st,Fr.refl _ _⟩
 | ret=>exact fun Q σ a w h _ st=>wp_ret ⟨σ,h,st,Fr.refl _ _⟩
 | region id ops d =>
  intro Q σ a w h hf st
  have hfit:∀ o∈ops.toList,∀ t,o.dst=some t→t<N:=by
   intro o ho t ht
   have:=List.all_eq_true.1 hf o ho
   rw[ht] at this
   simpa using this
  have fin:∀ σ' a' w',Q .normal { σ' with nx:=σ.nx+ops.size }→Cx P M0 N w0 σ.nx ops.size σ' a' w'→Fr (ops.toList.filterMap (·.dst)) σ σ'→∃ σ',Q .normal σ'∧StC P M0 N w0 σ' a' w'∧Fr (writes (.region id ops d)) σ σ':=by
   intro σ' a' w' hq st' hfr
   refine⟨_,hq, ?_,hfr.1,by show σ.nx≤σ.nx+ops.size;omega⟩
   obtain⟨⟨φ,s1⟩,s2⟩:=st'
   exact⟨⟨φ,⟨s1.below,s1.defers,s1.size,s1.tmr,s1.hpr,s1.hpm,s1.inj,fun i hi=>s1.fresh i (by simpa using hi),s1.m0,s1.ones,s1.jk,s1.jo,s1.js,s1.gh⟩⟩,fun j hj=>s2 j (by simpa using hj)⟩
  rcases h with⟨h1,h2⟩|⟨rfl,h⟩|h
  case inr.inl=>exact Vq hm hC hc0 hfit h st fin
  case inr.inr=>exact h M0 N w0 a w hc0 hf st
  cases d with
  | true =>
   simp only[if_true] at h2
   exact Z7 hm hC hc0 hfit (h1 rfl) h2 st fin
  | false =>
   simp only[Bool.false_eq_true,if_false] at h2
   refine wp_region_list (X2 hC hc0 ops.toList 0 σ a w hfit h2 st fun σ' a' w' hq st' hfr=>fin σ' a' w' hq (by simpa using st') hfr)
 | seq x y ihx ihy =>
  intro Q σ a w h hf st
  rw[fits,Bool.and_eq_true] at hf
  refine wp_seq (wp_mono (ihx _ σ a w h hf.1 st) ?_)
  rintro e a' w' ⟨σ',hq,st',hfr⟩
  have hfr':Fr (writes (.seq x y)) σ σ':=hfr.mono fun t ht=>List.mem_append_left _ ht
  cases e with
  | normal =>
   refine wp_mono (ihy _ σ' a' w' hq hf.2 st') ?_
   rintro e2 a2 w2 ⟨σ2,hq2,st2,hfr2⟩
   exact⟨σ2,hq2,st2,hfr'.trans (hfr2.mono fun t ht=>List.mem_append_right _ ht)⟩
  | exit i=>exact⟨σ',hq,st',hfr'⟩
  | goto l=>exact⟨σ',hq,st',hfr'⟩
  | ret=>exact⟨σ',hq,st',hfr'⟩
  | panic ch=>exact⟨σ',hq,st',hfr'⟩
  | outgrown=>exact⟨σ',hq,st',hfr'⟩
 | cond cnd x y ihx ihy =>
  intro Q σ a w h hf st
  rw[fits,Bool.and_eq_true] at hf
  obtain⟨⟨φ,s1⟩,s2⟩:=st
  rcases h with⟨t,h1,h2,h3⟩|⟨es,h1,h2,h3⟩
  case inr =>
   have e0:=s1.evr cnd
   rw[h1] at e0
   simp only[Rep] at e0
   obtain⟨t,e1,e2⟩:=e0
   refine wp_cond_split e1 (fun ht=>?_) (fun _=>?_)
   ·refine wp_mono (ihx _ σ a w (h2 (e2 ht)) hf.1 ⟨⟨φ,s1⟩,s2⟩) ?_
    rintro e a' w' ⟨σ',hq,st',hfr⟩
    exact⟨σ',hq,st',hfr.mono fun t ht=>List.mem_append_left _ ht⟩
   ·refine wp_mono (ihy _ σ a w h3 hf.2 ⟨⟨φ,s1⟩,s2⟩) ?_
    rintro e a' w' ⟨σ',hq,st',hfr⟩
    exact⟨σ',hq,st',hfr.mono fun t ht=>List.mem_append_right _ ht⟩
  have e1:=Au (s1.evr cnd) h1
  refine wp_cond_split e1 (fun ht=>?_) (fun ht=>?_)
  ·refine wp_mono (ihx _ σ a w (h2 ht) hf.1 ⟨⟨φ,s1⟩,s2⟩) ?_
   rintro e a' w' ⟨σ',hq,st',hfr⟩
   exact⟨σ',hq,st',hfr.mono fun t ht=>List.mem_append_left _ ht⟩
  ·refine wp_mono (ihy _ σ a w (h3 ht) hf.2 ⟨⟨φ,s1⟩,s2⟩) ?_
   rintro e a' w' ⟨σ',hq,st',hfr⟩
   exact⟨σ',hq,st',hfr.mono fun t ht=>List.mem_append_right _ ht⟩
 | block i x ih =>
  intro Q σ a w h hf st
  refine wp_block (wp_mono (ih _ σ a w h hf st) ?_)
  rintro e a' w' ⟨σ',hq,st',hfr⟩
  cases e with
  | exit j =>
   simp only[Exit.inBlock]
   simp only[Dx] at hq
   split
   ·rename_i hj;rw[if_pos hj] at hq;exact⟨σ',hq,st',hfr⟩
   ·rename_i hj;rw[if_neg hj] at hq;exact⟨σ',hq,st',hfr⟩
  | normal=>exact⟨σ',hq,st',hfr⟩
  | goto l=>exact⟨σ',hq,st',hfr⟩
  | ret=>exact⟨σ',hq,st',hfr⟩
  | panic ch=>exact⟨σ',hq,st',hfr⟩
  | outgrown=>exact⟨σ',hq,st',hfr⟩
 | loop x ih =>
  intro Q σ a w h hf st
  obtain⟨I,n,h1,h2⟩:=h
  refine wp_loop_ghost (fun n a' w'=>∃ σ',I n σ'∧StC P M0 N w0 σ' a' w'∧Fr (writes (.loop x)) σ σ') n ⟨σ,h1,st,Fr.refl _ _⟩ ?_
  rintro n' a' w' ⟨σ',g1,g2,g3⟩
  refine wp_mono (ih _ σ' a' w' (h2 n' σ' g1 g3.1 g3.2) hf g2) ?_
  rintro e a2 w2 ⟨σ2,hq,st2,hfr⟩
  cases e with
  | normal =>
   obtain⟨m,hm1,hm2⟩:=hq
   exact⟨m,hm1,σ2,hm2,st2,g3.trans hfr⟩
  | exit j=>exact⟨σ2,hq,st2,g3.trans hfr⟩
  | goto l=>exact⟨σ2,hq,st2,g3.trans hfr⟩
  | ret=>exact⟨σ2,hq,st2,g3.trans hfr⟩
  | panic ch=>exact⟨σ2,hq,st2,g3.trans hfr⟩
  | outgrown=>exact⟨σ2,hq,st2,g3.trans hfr⟩
 | label l=>exact fun Q σ a w h _ st=>wp_label ⟨σ,h,st,Fr.refl _ _⟩
 | scope x ih =>
  intro Q σ a w h hf st
  refine wp_scope_straight (wp_mono (ih _ σ a w h hf st) ?_)
  rintro e a' w' ⟨σ',hq,st',hfr⟩
  cases e with
  | goto l=>exact hq.elim
  | normal=>exact⟨σ',hq,st',hfr⟩
  | exit j=>exact⟨σ',hq,st',hfr⟩
  | ret=>exact⟨σ',hq,st',hfr⟩
  | panic ch=>exact⟨σ',hq,st',hfr⟩
  | outgrown=>exact⟨σ',hq,st',hfr⟩
 | _=>exact fun Q σ a w h _ _=>h.elim
end
end Go.Proofs.YtbhffbgbhgjdiaaGreatDoor
namespace Go.Proofs.YtbhffbgbhgjdiaaGreatDoor
open Go.RowKit
set_option maxRecDepth 100000
def B1(P:Program)(σ:AS)(r:ResultVar)(k:AV→Prop):Prop :=
 match r with
 | .tmp t=>k (σ.tm t)
 | .cell x ty=>match σ.tm x with
  | .pt b j off=>∃ β e,σ.hp b=some β∧β.es[j]?=some e∧Ar P ty e off (fun u _=>k u)
  | _=>False
def Dy(P:Program)(rs:Array ResultVar)(σ:AS)(k:AV→Prop):Prop :=
 match rs.toList with
 | [r]=>B1 P σ r fun u=>∃ u' ids,cl σ.hp u=some (u',ids)∧k u'
 | [r,s]=>B1 P σ r fun u=>B1 P σ s fun v=>∃ us ids,cls σ.hp [u,v]=some (us,ids)∧k (.tup us)
 | [r,s,q]=>B1 P σ r fun u=>B1 P σ s fun v=>B1 P σ q fun x=>∃ us ids,cls σ.hp [u,v,x]=some (us,ids)∧k (.tup us)
 | _=>False
def I9(rs:Array ResultVar)(σ:AS)(k:Nat→List (List AV)→Prop):Prop :=
 match rs.toList with
 | [.tmp t]=>match σ.tm t with
  | .own b=>∃ β,σ.hp b=some β∧β.mu=true∧(β.es.all (·.all p0))=true∧k β.ty (β.es.map (·.map z0))
  | _=>False
 | _=>False
def Kl(k:AS→Prop):Exit→AS→Prop
 | .normal,σ=>k σ
 | .ret,σ=>k σ
 | _,_=>False
section
variable{P:Program}{C:World→Prop}{w0:Root}{M0:Nat→Prop}{N:Nat}{φ:Phi}{σ:AS}{a:Act}{w:World}{F:Nat→Prop}
theorem Q2{t:Nat}{cs:List AV}{off:Nat}{k:AV→Prop}(hk:Ar P t cs off (fun u _=>k u)){M:Nat→Prop}{vs:List Value}(hv:RepL φ M w cs vs)(h1:∀ u∈vs,u.oneCell'=true){g o:Nat}(hat:At w g o vs) :
  ∃ u v,k u∧Rep φ M w u v∧(loadVar t ⟨g,o+off,none⟩).run P w=.ok v w:=by
 unfold Ar at hk
 split at hk
 ·rename_i hg
  obtain⟨⟨h2,h3⟩,hk⟩:=hk
  refine⟨_,_,hk, ?_,F5 hat hg h2 (by rw[RepL.len hv];exact h3)⟩
  simp only[Rep]
  exact⟨_,rfl,fun u hu=>h1 u (List.mem_of_mem_drop (List.mem_of_mem_take hu)),(hv.drop off).take _⟩
 ·obtain⟨hn,u,h2,hk⟩:=hk
  obtain⟨v,h3,h4⟩:=hv.get h2
  exact⟨u,v,hk,h4,F6 (hat _ _ h3) hn⟩
def Alv(tmps:Array Value):ResultVar→Sem Value
 | .tmp t=>pure (tmps.getD t undef)
 | .cell x ty=>do loadVar ty (← asAddr (tmps.getD x undef))
theorem Dc(fn:Func)(tmps:Array Value):results fn tmps=(do let vs ← fn.results.mapM (Alv tmps);pure (if h:vs.size=1 then vs[0] else .tuple vs)):=by
 have e:(fun r:ResultVar=>match r with|.tmp t=>(pure (tmps.getD t undef):Sem Value)|.cell a t=>do loadVar t (← asAddr (tmps.getD a undef)))=Alv tmps:=by
  funext r;cases r<;>rfl
 rw[← e];rfl
theorem Br(st:St P M0 N w0 F φ σ a w){r:ResultVar}{k:AV→Prop}(h:B1 P σ r k):∃ u v,k u∧Rep φ (Mo φ σ.hp M0) w u v ∧
  (Alv a.tmps r).run P w=.ok v w:=by
 unfold B1 at h
 cases r with
 | tmp t=>exact⟨_,_,h,st.tmr t,rfl⟩
 | cell x ty =>
  dsimp only at h ⊢
  have hx:=st.tmr x
  split at h
  ·rename_i i j off heq
   rw[heq] at hx
   simp only[Rep] at hx
   obtain⟨hd,sz,g1,g2⟩:=hx
   obtain⟨β,e,h1,h2,h3⟩:=h
   obtain⟨_,xs,h5,h6⟩:=st.hpr i β _ sz h1 g1
   obtain⟨p,q,r,q1,q2,q3,q4,q5,_,_⟩:=h6.get h2
   by_cases hn:xs=[]
   ·have hq:q=[]:=by rw[hn] at q1;simp at q1;exact q1.2.1
    have he0:e=[]:=List.eq_nil_of_length_eq_zero (by rw[← RepL.len q5,hq];rfl)
    subst he0
    unfold Ar at h3
    split at h3
    ·simp at h3;omega
    ·simp at h3
   ·obtain⟨g,c,_,_,_,_,r5,_,_,r8,_⟩:=Gp h5 hn
    rw[r5] at g2
    have hat:At w g (j*sz) q:=by
     rw[q1] at r8
     have:=r8.part
     rwa [q2,Nat.zero_add] at this
    obtain⟨u,v,k1,k2,k3⟩:=Q2 h3 q5 q4 hat
    exact⟨u,v,k1,k2,by simp only[Alv];rw[g2];simp [asAddr,k3]⟩
  ·exact h.elim
theorem Ael{ids:List Nat}{u:AV}{v:Value}(h:Rep Bb (Mf φ σ.hp M0 ids) w u v):Rep Bb M0 w u v :=
 Rep.keep (φ:=Bb) (φ':=Bb) (M:=Mf φ σ.hp M0 ids) (M':=M0) (fun _ hlt hn=>⟨fun h=>hn (.inl h),hlt,rfl⟩) (Ext.refl _) u v h
theorem V6{ids:List Nat}{us:List AV}{vs:List Value}(h:RepL Bb (Mf φ σ.hp M0 ids) w us vs):RepL Bb M0 w us vs :=
 RepL.keep (φ:=Bb) (φ':=Bb) (M:=Mf φ σ.hp M0 ids) (M':=M0) (fun _ hlt hn=>⟨fun h=>hn (.inl h),hlt,rfl⟩) (Ext.refl _) us vs h
theorem Aag(st:St P M0 N w0 F φ σ a w){fn:Func}{k:AV→Prop}(h:Dy P fn.results σ k):∃ r v,k r∧Rep Bb M0 w r v∧(results fn a.tmps).run P w=.ok v w:=by
 have hself:∀ b β v,σ.hp b=some β→φ b=some v→∃ γ,σ.hp b=some γ∧wkR β γ:=fun _ β _ h _=>⟨β,h,Cp β⟩
 unfold Dy at h
 split at h
 ·rename_i r hr
  have hra:fn.results=#[r]:=by apply Array.ext';simpa using hr
  obtain⟨u,v,⟨u',ids,h1,hk⟩,h2,h3⟩:=Br st h
  refine⟨u',v,hk,Ael (Pg st hself h2 h1 fun _ h=>h), ?_⟩
  rw[Dc,hra]
  simp [h3]
 ·rename_i r s hr
  have hra:fn.results=#[r,s]:=by apply Array.ext';simpa using hr
  obtain⟨u,v,h,h2,h3⟩:=Br st h
  obtain⟨u2,v2,⟨us,ids,h1,hk⟩,h4,h5⟩:=Br st h
  refine⟨.tup us,.tuple #[v,v2],hk, ?_, ?_⟩
  ·simp only[Rep]
   exact⟨[v,v2],rfl,V6 (Fa st hself (RepL.cons h2 (RepL.cons h4 RepL.nil)) h1 fun _ h=>h)⟩
  ·rw[Dc,hra]
   simp [h3,h5]
 ·rename_i r s q hr
  have hra:fn.results=#[r,s,q]:=by apply Array.ext';simpa using hr
  obtain⟨u,v,h,h2,h3⟩:=Br st h
  obtain⟨u2,v2,h,h4,h5⟩:=Br st h
  obtain⟨u3,v3,⟨us,ids,h1,hk⟩,h6,h7⟩:=Br st h
  refine⟨.tup us,.tuple #[v,v2,v3],hk, ?_, ?_⟩
  ·simp only[Rep]
   exact⟨[v,v2,v3],rfl,V6 (Fa st hself (RepL.cons h2 (RepL.cons h4 (RepL.cons h6 RepL.nil))) h1 fun _ h=>h)⟩
  ·rw[Dc,hra]
   simp [h3,h5,h7]
 ·exact h.elim
def init(us:List AV):AS:=⟨fun t=>us.getD t .junk,fun _=>none,0⟩
theorem A48{us:List AV}{args:List Value}{n:Nat}(hM:∀ b,M0 b→b<w.heap.size)(h:RepL Bb M0 w us args)(hn:us.length≤n) :
  StC P M0 n { toWorld:=w,J:=fun _=>False,wE:=w } (init us) { tmps:=args.toArray++Array.replicate (n-args.toArray.size) undef,defers:=[] } w:=by
 have hl:=RepL.len h
 have hMo:Mo Bb (init us).hp M0=M0:=by
  funext b
  apply propext
  exact⟨fun h=>h.elim (fun h=>h) fun ⟨i,β,v,h1,_⟩=>(by cases h1),.inl⟩
 refine⟨⟨Bb,Below.refl _ _,rfl, ?_,fun t=>?_,fun i β v sz h1=>(by cases h1),fun i β v h1=>(by cases h1),fun i j β γ u v b h1=>(by cases h1),fun _ _=>rfl,fun b hb=>.inl (hM b hb),fun i v h1=>(by cases h1),fun _ h=>h.elim,fun i β v b h1=>(by cases h1),Nat.le_refl _,fun _ _ h=>h.elim⟩,fun _ _=>rfl⟩
 ·simp;omega
 ·rw[hMo]
  show Rep Bb M0 w (us.getD t .junk) _
  rcases Nat.lt_or_ge t us.length with hlt|hge
  ·obtain⟨v,h1,h2⟩:=h.get (List.getElem?_eq_getElem hlt)
   rw[List.getD_eq_getElem?_getD,List.getElem?_eq_getElem hlt]
   have:(args.toArray++Array.replicate (n-args.toArray.size) undef).getD t undef=v:=by
    rw[Array.getD_eq_getD_getElem?,Array.getElem?_append_left (by simp;omega)]
    simp [h1]
   rw[this]
   exact h2
  ·rw[List.getD_eq_getElem?_getD,List.getElem?_eq_none hge]
   simp only[Option.getD_none,Rep]
structure Dj(P:Program)(C:World→Prop):Prop where
 mixed:P.follows .mixedOrders=true
 on:∀ w w',C w→Below w.heap.size w w'→C w'
theorem A3w(B:Dj P C){f:FuncId}{fn:Func}{c:Code}(hf:P.funcs[f]?=some fn)(hb:fn.body=some c)(hnm:(fn.name == "runtime.NumGoroutine")=false){us:List AV}(hfit:fits fn.ntmps c=true)(hn:us.length≤fn.ntmps){r:AV}
  (h:awp P C c (Kl fun σ=>Dy P fn.results σ fun u=>u=r) (init us)):Con P C f us (.val r):=by
 refine⟨⟨fn,hf,by rw[hb];rfl,hnm⟩,fun M w args hM hc hr=>?_⟩
 refine calls_of_wp hf hb (wp_mono (Eh B.mixed B.on hc c _ _ _ _ h hfit (A48 hM hr hn)) ?_)
 rintro e a' w' ⟨σ',hq,⟨⟨φ,st⟩,_⟩,_⟩
 have fin:(Dy P fn.results σ' fun u=>u=r)→bodyPost P fn (fun e w'=>∃ v,e=.returned v∧Rep Bb M w' r v∧Below w.heap.size w w') .ret a' w':=by
  intro hq
  obtain⟨r',v,rfl,h2,h3⟩:=Aag st hq
  exact⟨st.defers,v,h3,v,rfl,h2,st.below⟩
 cases e with
 | normal=>exact fin hq
 | ret=>exact fin hq
 | exit i=>exact hq.elim
 | goto l=>exact hq.elim
 | panic ch=>exact hq.elim
 | outgrown=>exact hq.elim
theorem Gy(B:Dj P C){f:FuncId}{fn:Func}{c:Code}(hf:P.funcs[f]?=some fn)(hb:fn.body=some c)(hnm:(fn.name == "runtime.NumGoroutine")=false){us:List AV}(hfit:fits fn.ntmps c=true)(hn:us.length≤fn.ntmps){e:Nat}{es:List (List AV)}
  (h:awp P C c (Kl fun σ=>I9 fn.results σ fun e' es'=>e'=e∧es'=es) (init us)):Con P C f us (.fresh e es):=by
 refine⟨⟨fn,hf,by rw[hb];rfl,hnm⟩,fun M w args hM hc hr=>?_⟩
 refine calls_of_wp hf hb (wp_mono (Eh B.mixed B.on hc c _ _ _ _ h hfit (A48 hM hr hn)) ?_)
 rintro ex a' w' ⟨σ',hq,⟨⟨φ,st⟩,_⟩,_⟩
 have fin:(I9 fn.results σ' fun e' es'=>e'=e∧es'=es)→bodyPost P fn (fun e' w'=>∃ v xs,e'=.returned v∧w'.ownsRow w.heap.size e (aty P e).sz v es.length xs∧RepLL Bb (fun b=>M b∨v.ownBlock=some b) w' (aty P e).sz es xs∧Below w.heap.size w w') .ret a' w':=by
  intro hq
  unfold I9 at hq
  split at hq
  ·rename_i t hr1
   have hra:fn.results=#[.tmp t]:=by apply Array.ext';simpa using hr1
   have ht:=st.tmr t
   split at hq
   ·rename_i i heq
    rw[heq] at ht
    simp only[Rep] at ht
    obtain⟨sz,hφ⟩:=ht
    obtain⟨β,h1,h2,h3,rfl,rfl⟩:=hq
    obtain⟨hsz,xs,h5,h6⟩:=st.hpr i β _ sz h1 hφ
    refine⟨st.defers,_,results_tmp hra a'.tmps P w',_,xs,rfl, ?_, ?_,st.below⟩
    ·rw[List.length_map,← hsz];exact h5
    ·rw[← hsz]
     refine Iy (fun b hb=>?_) h6 h3
     rcases hb with hb|hb
     ·exact .inl hb
     ·exact .inr ⟨i,β,_,h1,h2,hφ,hb⟩
   ·exact hq.elim
  ·exact hq.elim
 cases ex with
 | normal=>exact fin hq
 | ret=>exact fin hq
 | exit i=>exact hq.elim
 | goto l=>exact hq.elim
 | panic ch=>exact hq.elim
 | outgrown=>exact hq.elim
def Sm(e:Nat)(es:List (List AV))(us:List AV):AS:=⟨fun t=>(AV.own 0 :: us).getD t .junk,fun i=>if i=0 then some ⟨e,es,true⟩ else none,1⟩
theorem S7(B:Dj P C){f:FuncId}{fn:Func}{c:Code}(hf:P.funcs[f]?=some fn)(hb:fn.body=some c)(hnm:(fn.name == "runtime.NumGoroutine")=false){us:List AV}(hfit:fits fn.ntmps c=true)(hn:us.length+1≤fn.ntmps){e:Nat}{es es':List (List AV)}
  (hnl:(es'.all (·.all Dt))=true) (h:awp P C c (Kl fun σ=>I9 fn.results σ fun e1 es1=>e1=e∧es1=es') (Sm e es us)):Nr P C f e es us es':=by
 refine⟨⟨fn,hf,by rw[hb];rfl,hnm⟩,fun M W0 w hd xs args hc0 hb0 hM hown hrow hhd hr=>?_⟩
 generalize hφ:(fun i=>if i=0 then some (hd,(aty P e).sz+1) else none:Phi)=φ
 have φ0:φ 0=some (hd,(aty P e).sz+1):=by rw[← hφ];rfl
 have φs:∀ i,i≠0→φ i=none:=fun i hi=>by rw[← hφ];exact if_neg hi
 have hp0:(Sm e es us).hp 0=some ⟨e,es,true⟩:=rfl
 have hps:∀ i,i≠0→(Sm e es us).hp i=none:=fun i hi=>if_neg hi
 have hv1:hd.oneCell'=true:=by obtain⟨A',c',hv,_⟩:=Ft hown;rw[hv];rfl
 have hMo:Mo φ (Sm e es us).hp (fun b=>M b∧hd.ownBlock≠some b)=M:=by
  funext b
  apply propext
  constructor
  ·rintro (⟨h,_⟩|⟨i,β,v,h1,_,h3,h4⟩)
   ·exact h
   ·by_cases hi:i=0
    ·subst hi
     rw[φ0] at h3
     cases h3
     exact hhd b h4
    ·rw[φs i hi] at h3;cases h3
  ·intro h
   by_cases hq:hd.ownBlock=some b
   ·exact .inr ⟨0,_,_,hp0,rfl,φ0,hq⟩
   ·exact .inl ⟨h,hq⟩
 have hl:=RepL.len hr
 have hr2:RepL φ M w (AV.own 0 :: us) (hd :: args):=RepL.cons (by simp only[Rep];exact⟨_,φ0⟩) (RepL.keep (Keep.refl M w) (Pt φ) _ _ hr)
 have st0:StC P (fun b=>M b∧hd.ownBlock≠some b) fn.ntmps { toWorld:=W0,J:=fun k=>k<w.heap.size∧hd.ownBlock≠some k,wE:=w } (Sm e es us) { tmps:=(hd :: args).toArray++Array.replicate (fn.ntmps-(hd :: args).toArray.size) undef,defers:=[] } w:=by
  refine⟨⟨φ,hb0,rfl, ?_,fun t=>?_,fun i β v sz h1 h2=>?_,fun i β v h1 h2=>?_,fun i j β γ u v b h1 h2 h3 h4 _ _=>?_,fun i hi=>φs i (fun e0=>by subst e0;exact absurd hi (by show ¬ 1+0≤0;omega)),fun b hb=>.inr ⟨hM b hb.1,hb.2⟩,fun i v h1=>?_,fun b hb=>⟨hb.1,rfl⟩,fun i β v b h1 h2 h3 h4=>?_,Nat.le_refl _,fun _ _ h=>h.elim⟩,fun i hi=>hps i (fun e0=>by subst e0;exact absurd hi (by show ¬ 1+0≤0;omega))⟩
  ·simp;omega
  ·rw[hMo]
   show Rep φ M w ((AV.own 0 :: us).getD t .junk) _
   rcases Nat.lt_or_ge t (AV.own 0 :: us).length with hlt|hge
   ·obtain⟨v,h1,h2⟩:=hr2.get (List.getElem?_eq_getElem hlt)
    rw[List.getD_eq_getElem?_getD,List.getElem?_eq_getElem hlt]
    have:((hd :: args).toArray++Array.replicate (fn.ntmps-(hd :: args).toArray.size) undef).getD t undef=v:=by
     rw[Array.getD_eq_getD_getElem?,Array.getElem?_append_left (by simp at hlt ⊢;omega)]
     simp [h1]
    rw[this]
    exact h2
   ·rw[List.getD_eq_getElem?_getD,List.getElem?_eq_none hge]
    simp only[Option.getD_none,Rep]
  ·by_cases hi:i=0
   ·subst hi
    rw[hp0] at h1
    rw[φ0] at h2
    cases h1
    cases h2
    rw[hMo]
    exact⟨rfl,xs,hown,RepLL.keep (Keep.refl M w) (Pt φ) _ _ _ hrow⟩
   ·rw[hps i hi] at h1;cases h1
  ·by_cases hi:i=0
   ·subst hi
    rw[φ0] at h2
    cases h2
   ·rw[hps i hi] at h1;cases h1
  ·by_cases hi:i=0
   ·by_cases hj:j=0
    ·rw[hi,hj]
    ·rw[hps j hj] at h2;cases h2
   ·rw[hps i hi] at h1;cases h1
  ·by_cases hi:i=0
   ·subst hi
    rw[φ0] at h1
    cases h1
    exact hv1
   ·rw[φs i hi] at h1;cases h1
  ·by_cases hi:i=0
   ·subst hi
    rw[φ0] at h2
    cases h2
    exact h4.2 h3
   ·rw[φs i hi] at h2;cases h2
 refine calls_of_wp hf hb (wp_mono (Eh B.mixed B.on hc0 c _ _ _ _ h hfit st0) ?_)
 rintro ex a' w' ⟨σ',hq,⟨⟨φ',st⟩,_⟩,_⟩
 have fin:(I9 fn.results σ' fun e1 es1=>e1=e∧es1=es')→bodyPost P fn (fun e' w'=>∃ v xs',e'=.returned v∧w'.ownsRow W0.heap.size e (aty P e).sz v es'.length xs'∧RepLL Bb M w' (aty P e).sz es' xs'∧w.grownBy w' hd.ownBlock∧∀ k,v.ownBlock=some k→hd.ownBlock=some k∨w.heap.size≤k) .ret a' w':=by
  intro hq
  unfold I9 at hq
  split at hq
  ·rename_i t hr1
   have hra:fn.results=#[.tmp t]:=by apply Array.ext';simpa using hr1
   have ht:=st.tmr t
   split at hq
   ·rename_i i heq
    rw[heq] at ht
    simp only[Rep] at ht
    obtain⟨sz,hφ'⟩:=ht
    obtain⟨β,h1,h2,h3,rfl,rfl⟩:=hq
    obtain⟨hsz,xs',h5,h6⟩:=st.hpr i β _ sz h1 hφ'
    refine⟨st.defers,_,results_tmp hra a'.tmps P w',_,xs',rfl, ?_, ?_,⟨st.below.os.trans hb0.os.symm,st.below.tape.trans hb0.tape.symm,st.below.output.trans hb0.output.symm,st.js,fun k hk hne=>(st.jk k ⟨hk,fun e=>hne e.symm⟩).2⟩,fun k hk=>?_⟩
    ·rw[List.length_map,← hsz];exact h5
    ·rw[← hsz]
     exact Gb hnl (Iy (M':=fun _=>False) (fun b hb=>hb.elim) h6 h3)
    ·have:=st.jo i β _ k h1 hφ' hk
     by_cases hq:hd.ownBlock=some k
     ·exact .inl hq
     ·exact .inr (Nat.le_of_not_lt fun hlt=>this ⟨hlt,hq⟩)
   ·exact hq.elim
  ·exact hq.elim
 cases ex with
 | normal=>exact fin hq
 | ret=>exact fin hq
 | exit i=>exact hq.elim
 | goto l=>exact hq.elim
 | panic ch=>exact hq.elim
 | outgrown=>exact hq.elim
end
end Go.Proofs.YtbhffbgbhgjdiaaGreatDoor
