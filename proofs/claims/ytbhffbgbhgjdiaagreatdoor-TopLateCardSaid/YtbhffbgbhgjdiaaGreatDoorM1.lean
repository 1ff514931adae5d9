/-
  Parts of the proof: Inl Eqs Any. Conditions: those that each theorem states.
-/
import Derived.Test.YtbhffbgbhgjdiaaGreatDoorGCon
import Derived.Test.YtbhffbgbhgjdiaaGreatDoorGEv
import Derived.Laws.StructEq
set_option linter.unusedSimpArgs false
set_option linter.unusedVariables false
namespace Go.Proofs.YtbhffbgbhgjdiaaGreatDoor
open Go.RowKit
set_option maxRecDepth 100000
def StH(P:Program)(M0:Nat→Prop)(w0:Root)(φ:Phi)(hp:Nat→Option A4)(nx:Nat)(w:World):Prop :=
 St P M0 0 w0 (fun j=>nx≤j) φ ⟨fun _=>.und,hp,nx⟩ { tmps:=#[],defers:=w0.df } w∧∀ j,nx≤j→hp j=none
def ConI(P:Program)(C:World→Prop)(f:FuncId)(us:List AV)(hp:Nat→Option A4)(nx:Nat)(R:AV→(Nat→Option A4)→Nat→Prop):Prop :=
 Cw P f∧∀ (M0:Nat→Prop) (w0:Root) (φ:Phi) (w:World) (args:List Value),C w0.toWorld→StH P M0 w0 φ hp nx w→RepL φ (Mo φ hp M0) w us args →
  Calls P f args.toArray w fun e w'=>∃ v u hp' nx' φ',e=.returned v∧R u hp' nx'∧nx≤nx'∧StH P M0 w0 φ' hp' nx' w'∧Rep φ' (Mo φ' hp' M0) w' u v
section
variable{P:Program}{C:World→Prop}{w0:Root}{M0:Nat→Prop}{N:Nat}{φ:Phi}{σ:AS}{a:Act}{w:World}{F:Nat→Prop}
theorem St.re(h:St P M0 N w0 F φ σ a w){N':Nat}{w1:Root}{σ':AS}{a':Act}(e1:w1.toWorld=w0.toWorld)(e2:w1.J=w0.J)(e3:w1.wE=w0.wE)(hh:σ'.hp=σ.hp)(hd:a'.defers=w1.df)(hs:a'.tmps.size=N')
  (ht:∀ t,Rep φ (Mo φ σ.hp M0) w (σ'.tm t) (a'.tmps.getD t undef)) (hg:∀ u v,w1.gs u v→Rep φ (Mo φ σ.hp M0) w u v):St P M0 N' w1 F φ σ' a' w:=by
 obtain⟨W0,J0,E0,g0,d0⟩:=w0
 obtain⟨W1,J1,E1,g1,d1⟩:=w1
 dsimp only at e1 e2 e3
 subst e1 e2 e3
 obtain⟨tm,hp,nx⟩:=σ
 obtain⟨tm',hp',nx'⟩:=σ'
 dsimp only at hh
 subst hh
 exact⟨h.below,hd,hs,ht,h.hpr,h.hpm,h.inj,h.fresh,h.m0,h.ones,h.jk,h.jo,h.js,hg⟩
def Root.wait(w0:Root)(σ:AS)(a:Act):Root:={ w0 with gs:=fun u v=>w0.gs u v∨∃ t,u=σ.tm t∧v=a.tmps.getD t undef }
theorem StH.wait{nx:Nat}(h:St P M0 N w0 (fun j=>nx≤j) φ σ a w)(hn:∀ j,nx≤j→σ.hp j=none):StH P M0 (w0.wait σ a) φ σ.hp nx w :=
 ⟨h.re rfl rfl rfl rfl rfl rfl (fun t=>by simp [Rep,Array.getD]) fun u v hg=>by
  rcases hg with hg|⟨t,rfl,rfl⟩
  ·exact h.gh u v hg
  ·exact h.tmr t,hn⟩
theorem StH.back{nx':Nat}{φ':Phi}{hp':Nat→Option A4}{w':World}(h:St P M0 N w0 F φ σ a w)(k:StH P M0 (w0.wait σ a) φ' hp' nx' w')(m:Nat):St P M0 N w0 (fun j=>nx'≤j) φ' ⟨σ.tm,hp',m⟩ a w' :=
 k.1.re rfl rfl rfl rfl h.defers h.size (fun t=>k.1.gh _ _ (.inr ⟨t,rfl,rfl⟩)) fun u v hg=>k.1.gh u v (.inl hg)
def Hg(P:Program)(C:World→Prop)(ops:Array Oper)(Q:Exit→AS→Prop)(rest:List Oper)(b i:Nat)(σ:AS):Prop :=
 ∀ (M0:Nat→Prop) (N:Nat) (w0:Root) (a:Act) (w:World) (ws:List Nat) (σ0:AS),C w0.toWorld→(∀ o∈rest,∀ t,o.dst=some t→t<N)→(∀ o∈rest,∀ t,o.dst=some t→t∈ws)→Cx P M0 N w0 b i σ a w→σ.nx≤b+i→Fr ws σ0 σ →
  wpList P ops (fun e a' w'=>∃ σ',Q e σ'∧Cx P M0 N w0 σ'.nx 0 σ' a' w'∧Fr ws σ0 σ') rest a w
theorem Cd{ops:Array Oper}{Q:Exit→AS→Prop}{b i:Nat}(h:Q .normal { σ with nx:=b+i }):Hg P C ops Q [] b i σ:=by
 intro M0 N w0 a w ws σ0 _ _ _ st hn hf
 obtain⟨⟨φ,s1⟩,s2⟩:=st
 exact⟨_,h,⟨⟨φ,s1.re rfl rfl rfl rfl s1.defers s1.size s1.tmr s1.gh⟩,s2⟩,hf.1,Nat.le_trans hf.2 hn⟩
theorem M3(hC:∀ w w',C w→Below w.heap.size w w'→C w')(hc0:C w0){K:AS→Prop}{Q:Exit→Act→World→Prop}{b i:Nat}{draw last:Bool}{o:Oper}(hd:∀ t,o.dst=some t→t<N)(h:aop P C draw last (b+i) o K σ)(st:Cx P M0 N w0 b i σ a w)
  {KK:Act→World→Prop} (hk:∀ σ' a' w',K σ'→Cx P M0 N w0 b (i+1) σ' a' w'→(∀ ws,(∀ t,o.dst=some t→t∈ws)→Fr ws σ σ')→σ'.nx=σ.nx→KK a' w'):o.wp P a w KK Q:=by
 obtain⟨⟨φ,st1⟩,st2⟩:=st
 obtain⟨u,f,⟨_,h1⟩,h2,h3⟩:=Kq (pp:=fun _=>True) (fun _ _ _ _=>trivial) h
 refine Dq (hp:=σ.hp) (k:=fun u' f'=>u'=u∧f'=f) ⟨st1,Nat.le_refl _,fun _ β _ h _=>⟨β,h,Cp β⟩,hd⟩ ?_ hC hc0 (fun x _=>st1.evr x) h3
 rintro u' f' ⟨rfl,rfl⟩ φ' a' w' st'
 refine hk _ _ _ h1 ⟨⟨φ',(st'.put' fun τ ht=>Agm ht).sub fun j hj=>⟨by omega,by omega⟩⟩,fun j hj=>?_⟩ (fun ws hws=>?_) (by rw[Gq])
 ·rw[F3]
  exact A4i h2 (st2 j (by omega)) (by omega)
 ·exact (show Fr ws σ { σ with hp:=(f'.md draw).app (b+i) σ.hp } from ⟨fun _ _=>rfl,Nat.le_refl _⟩).trans (Fv _ _ _ hws)
theorem Bh(B:Dj P C){ops:Array Oper}{Q:Exit→AS→Prop}{rest:List Oper}{b:Nat}:∀ (pre:List Oper) (i:Nat) (σ:AS),Ax P C ops 0 b i pre (fun σ1=>Hg P C ops Q rest b (i+pre.length) σ1) σ→Hg P C ops Q (pre++rest) b i σ
 | [],i,σ,h=>h
 | o :: pre,i,σ,h=>by
  intro M0 N w0 a w ws σ0 hC hd hw st hn hf
  have hd':∀ x∈pre++rest,∀ t,x.dst=some t→t<N:=fun x hx=>hd x (List.mem_cons_of_mem _ hx)
  have hw':∀ x∈pre++rest,∀ t,x.dst=some t→t∈ws:=fun x hx=>hw x (List.mem_cons_of_mem _ hx)
  have go:∀ σ1 a1 w1,Ax P C ops 0 b (i+1) pre (fun σ1=>Hg P C ops Q rest b (i+(o :: pre).length) σ1) σ1→Cx P M0 N w0 b (i+1) σ1 a1 w1→Fr ws σ σ1→σ1.nx=σ.nx →
    wpList P ops (fun e a' w'=>∃ σ',Q e σ'∧Cx P M0 N w0 σ'.nx 0 σ' a' w'∧Fr ws σ0 σ') (pre++rest) a1 w1:=by
   intro σ1 a1 w1 h1 st1 hf1 hx
   exact Bh B pre (i+1) σ1 (by rwa [show i+(o :: pre).length=i+1+pre.length by rw[List.length_cons];omega] at h1) M0 N w0 a1 w1 ws σ0 hC hd' hw' st1 (by omega) (hf.trans hf1)
  have hhd:∀ t,o.dst=some t→t∈ws:=hw o List.mem_cons_self
  have hdo:=hd o List.mem_cons_self
  unfold Ax at h
  rw[List.cons_append]
  unfold wpList
  split at h
  ·rename_i hg
   rw[if_pos (by simp [Region.wanted,hg])]
   exact .inl (M3 B.on hC hdo h st fun σ' a' w' h1 st1 hf=>go σ' a' w' h1 st1 (hf _ hhd))
  ·rename_i g want hg
   obtain⟨⟨φ,st1⟩,st2⟩:=st
   rcases h with⟨t,h1,h⟩|⟨h1,h⟩
   rotate_left
   ·cases hb:(ops[g]?).bind (·.dst) with
    | none=>rw[hb] at h1;cases h1
    | some d =>
     rw[hb] at h1
     have hy:=Gi (ops:=ops) st1 hb (by simpa using h1)
     rw[if_neg (by simp [Region.wanted,hg,hy])]
     exact go _ _ _ h (Fh hdo ⟨⟨φ,st1⟩,st2⟩) (Fv _ _ _ hhd) (by rw[Gq])
   cases hb:(ops[g]?).bind (·.dst) with
   | none=>rw[hb] at h1;cases h1
   | some d =>
    rw[hb] at h1
    have hy:=Fx (ops:=ops) st1 hb (by simpa using h1)
    by_cases ht:t=want
    ·rw[if_pos ht] at h
     rw[if_pos (by simp [Region.wanted,hg,hy,ht])]
     exact .inl (M3 B.on hC hdo h ⟨⟨φ,st1⟩,st2⟩ fun σ' a' w' h1 st1 hf=>go σ' a' w' h1 st1 (hf _ hhd))
    ·rw[if_neg ht] at h
     rw[if_neg (by simp [Region.wanted,hg,hy,ht])]
     exact go _ _ _ h (Fh hdo ⟨⟨φ,st1⟩,st2⟩) (Fv _ _ _ hhd) (by rw[Gq])
theorem Yd{ops:Array Oper}{Q:Exit→AS→Prop}{rest:List Oper}{o:Oper}{b i:Nat}{f:FuncId}{ps:List AV}{R:AV→(Nat→Option A4)→Nat→Prop}(hg:o.guard=none)
  (hcon:ConI P C f ps σ.hp (b+i) R)
  (henter:∀ (M0:Nat→Prop) (φ:Phi) (a:Act) (w:World),(∀ x,Rep φ (Mo φ σ.hp M0) w (σ.ev x) (a.eval x))→∃ vs:List Value,RepL φ (Mo φ σ.hp M0) w ps vs∧(execOp a.eval o).run P w=.ok (.enter f vs.toArray) w)
  (hk:∀ u hp' nx',R u hp' nx'→b+i≤nx'→Hg P C ops Q rest nx' (i+1) ((⟨σ.tm,hp',nx'⟩:AS).put o.dst u)):Hg P C ops Q (o :: rest) b i σ:=by
 intro M0 N w0 a w ws σ0 hC hd hw st hn hf
 obtain⟨⟨φ,s1⟩,s2⟩:=st
 obtain⟨vs,hvs,hrun⟩:=henter M0 φ a w (fun x=>s1.evr x)
 have hhd:∀ t,o.dst=some t→t∈ws:=hw o List.mem_cons_self
 have hdo:=hd o List.mem_cons_self
 unfold wpList
 rw[if_pos (by simp [Region.wanted,hg])]
 refine .inl ?_
 unfold Oper.wp
 rw[hrun]
 have hwait:=StH.wait s1 s2
 refine (hcon.2 M0 (w0.wait σ a) φ w vs hC hwait hvs).mono ?_
 rintro e w' ⟨v,u,hp',nx',φ',rfl,hR,hle,hst,hu⟩
 have hbk:=StH.back s1 hst nx'
 have:=hk u hp' nx' hR hle
 refine this M0 N w0 _ w' ws σ0 hC (fun x hx=>hd x (List.mem_cons_of_mem _ hx)) (fun x hx=>hw x (List.mem_cons_of_mem _ hx)) ⟨⟨φ', ?_⟩,fun j hj=>?_⟩ ?_ ?_
 ·exact (hbk.put hu o.dst hdo).sub fun j hj=>by omega
 ·rw[F3]
  exact hst.2 j (by omega)
 ·rw[Gq]
  show nx'≤_
  omega
 ·refine hf.trans ((show Fr ws σ (⟨σ.tm,hp',nx'⟩:AS) from ⟨fun _ _=>rfl, ?_⟩).trans (Fv _ _ _ hhd))
  show σ.nx≤nx'
  omega
theorem Pz{ops:Array Oper}{Q:Exit→AS→Prop}{rest:List Oper}{o:Oper}{b i:Nat}{c:Call}{f:FuncId}{ps:List AV}{R:AV→(Nat→Option A4)→Nat→Prop}(hg:o.guard=none)(ho:o.op=.call c)(hcal:c.callee=.value (.func f))
  (hps:c.args.toList.map σ.ev=ps) (hcon:ConI P C f ps σ.hp (b+i) R)
  (hk:∀ u hp' nx',R u hp' nx'→b+i≤nx'→Hg P C ops Q rest nx' (i+1) ((⟨σ.tm,hp',nx'⟩:AS).put o.dst u)):Hg P C ops Q (o :: rest) b i σ:=by
 refine Yd hg hcon (fun M0 φ a w hx=>⟨c.args.toList.map a.eval,by rw[← hps];exact Rn fun x _=>hx x, ?_⟩) hk
 have hae:(c.args.toList.map a.eval).toArray=c.args.map a.eval:=by apply Array.ext';simp
 rw[hae,← Ei hcon.1 (c.args.map a.eval) w]
 simp [execOp,ho,resolve,hcal,Act.eval,Deferred.ofValue,invoke]
theorem Aju{ops:Array Oper}{Q:Exit→AS→Prop}{rest:List Oper}{o:Oper}{b i:Nat}{c:Call}{t:Nat}{f:FuncId}{caps ps:List AV}{R:AV→(Nat→Option A4)→Nat→Prop}(hg:o.guard=none)(ho:o.op=.call c)(hcal:c.callee=.value (.tmp t))
  (ht:σ.tm t=.fn f caps) (hps:c.args.toList.map σ.ev++caps=ps) (hcon:ConI P C f ps σ.hp (b+i) R)
  (hk:∀ u hp' nx',R u hp' nx'→b+i≤nx'→Hg P C ops Q rest nx' (i+1) ((⟨σ.tm,hp',nx'⟩:AS).put o.dst u)):Hg P C ops Q (o :: rest) b i σ:=by
 refine Yd hg hcon (fun M0 φ a w hx=>?_) hk
 have hv:=hx (.tmp t)
 rw[show σ.ev (.tmp t)=.fn f caps from ht] at hv
 simp only[Rep] at hv
 obtain⟨vs,h1,h2⟩:=hv
 refine⟨c.args.toList.map a.eval++vs,by rw[← hps];exact (Rn fun x _=>hx x).app h2, ?_⟩
 have hae:(c.args.toList.map a.eval++vs).toArray=c.args.map a.eval++vs.toArray:=by apply Array.ext';simp
 rw[hae,← Ei hcon.1 (c.args.map a.eval++vs.toArray) w]
 simp [execOp,ho,resolve,hcal,h1,Deferred.ofValue,invoke]
theorem G3{ops:Array Oper}{Q:Exit→AS→Prop}{r:Nat}(h:Hg P C ops Q ops.toList σ.nx 0 σ):awp P C (.region r ops false) Q σ:=by
 refine .inr (.inr ?_)
 intro M0 N w0 a w hC hf st
 refine wp_region_list ?_
 refine h M0 N w0 a w _ σ hC (fun o ho t ht=>?_) (fun o ho t ht=>?_) st (by omega) (Fr.refl _ _)
 ·have:=List.all_eq_true.1 hf o ho
  rw[ht] at this
  simpa using this
 ·exact List.mem_filterMap.2 ⟨o,ho,ht⟩
def C1(P:Program)(rs:Array ResultVar)(σ:AS)(k:AV→Prop):Prop :=
 match rs.toList with
 | []=>k (.tup [])
 | [r]=>B1 P σ r k
 | [r,s]=>B1 P σ r fun u=>B1 P σ s fun v=>k (.tup [u,v])
 | [r,s,q]=>B1 P σ r fun u=>B1 P σ s fun v=>B1 P σ q fun x=>k (.tup [u,v,x])
 | [r,s,q,z]=>B1 P σ r fun u=>B1 P σ s fun v=>B1 P σ q fun x=>B1 P σ z fun y=>k (.tup [u,v,x,y])
 | _=>False
theorem M4{fn:Func}{k:AV→Prop}(st:St P M0 N w0 F φ σ a w)(h:C1 P fn.results σ k):∃ u v,k u∧Rep φ (Mo φ σ.hp M0) w u v∧(results fn a.tmps).run P w=.ok v w:=by
 unfold C1 at h
 split at h
 ·rename_i hr
  have hra:fn.results=#[]:=by apply Array.ext';simpa using hr
  refine⟨_,.tuple #[],h,by simp only[Rep];exact⟨[],rfl,RepL.nil⟩, ?_⟩
  rw[Dc,hra];simp
 ·rename_i r hr
  have hra:fn.results=#[r]:=by apply Array.ext';simpa using hr
  obtain⟨u,v,h1,h2,h3⟩:=Br st h
  refine⟨u,v,h1,h2, ?_⟩
  rw[Dc,hra];simp [h3]
 ·rename_i r s hr
  have hra:fn.results=#[r,s]:=by apply Array.ext';simpa using hr
  obtain⟨u,v,h,h2,h3⟩:=Br st h
  obtain⟨u2,v2,h,h4,h5⟩:=Br st h
  refine⟨_,.tuple #[v,v2],h,by simp only[Rep];exact⟨[v,v2],rfl,RepL.cons h2 (RepL.cons h4 RepL.nil)⟩, ?_⟩
  rw[Dc,hra];simp [h3,h5]
 ·rename_i r s q hr
  have hra:fn.results=#[r,s,q]:=by apply Array.ext';simpa using hr
  obtain⟨u,v,h,h2,h3⟩:=Br st h
  obtain⟨u2,v2,h,h4,h5⟩:=Br st h
  obtain⟨u3,v3,h,h6,h7⟩:=Br st h
  refine⟨_,.tuple #[v,v2,v3],h,by simp only[Rep];exact⟨[v,v2,v3],rfl,RepL.cons h2 (RepL.cons h4 (RepL.cons h6 RepL.nil))⟩, ?_⟩
  rw[Dc,hra];simp [h3,h5,h7]
 ·rename_i r s q z hr
  have hra:fn.results=#[r,s,q,z]:=by apply Array.ext';simpa using hr
  obtain⟨u,v,h,h2,h3⟩:=Br st h
  obtain⟨u2,v2,h,h4,h5⟩:=Br st h
  obtain⟨u3,v3,h,h6,h7⟩:=Br st h
  obtain⟨u4,v4,h,h8,h9⟩:=Br st h
  refine⟨_,.tuple #[v,v2,v3,v4],h,by simp only[Rep];exact⟨[v,v2,v3,v4],rfl,RepL.cons h2 (RepL.cons h4 (RepL.cons h6 (RepL.cons h8 RepL.nil)))⟩, ?_⟩
  rw[Dc,hra];simp [h3,h5,h7,h9]
 ·exact h.elim
theorem En(B:Dj P C){f:FuncId}{fn:Func}{c:Code}(hf:P.funcs[f]?=some fn)(hb:fn.body=some c)(hnm:(fn.name == "runtime.NumGoroutine")=false){us:List AV}(hfit:fits fn.ntmps c=true)(hn:us.length≤fn.ntmps){hp:Nat→Option A4}{nx:Nat}{R:AV→(Nat→Option A4)→Nat→Prop}
  (h:awp P C c (Kl fun σ=>C1 P fn.results σ fun u=>R u σ.hp σ.nx) ⟨fun t=>us.getD t .junk,hp,nx⟩):ConI P C f us hp nx R:=by
 refine⟨⟨fn,hf,by rw[hb];rfl,hnm⟩,fun M0 w0 φ w args hC st hr=>?_⟩
 have hl:=RepL.len hr
 have st0:StC P M0 fn.ntmps { w0 with df:=[] } ⟨fun t=>us.getD t .junk,hp,nx⟩ { tmps:=args.toArray++Array.replicate (fn.ntmps-args.toArray.size) undef,defers:=[] } w:=by
  refine⟨⟨φ,(st.1.re rfl rfl rfl rfl rfl (by simp;omega) (fun t=>?_) st.1.gh)⟩,st.2⟩
  show Rep φ (Mo φ hp M0) w (us.getD t .junk) _
  rcases Nat.lt_or_ge t us.length with hlt|hge
  ·obtain⟨v,h1,h2⟩:=hr.get (List.getElem?_eq_getElem hlt)
   rw[List.getD_eq_getElem?_getD,List.getElem?_eq_getElem hlt]
   have:(args.toArray++Array.replicate (fn.ntmps-args.toArray.size) undef).getD t undef=v:=by
    rw[Array.getD_eq_getD_getElem?,Array.getElem?_append_left (by simp;omega)]
    simp [h1]
   rw[this]
   exact h2
  ·rw[List.getD_eq_getElem?_getD,List.getElem?_eq_none hge]
   simp only[Option.getD_none,Rep]
 refine calls_of_wp hf hb (wp_mono (Eh B.mixed B.on (w0:={ w0 with df:=[] }) hC c _ _ _ _ h hfit st0) ?_)
 rintro e a' w' ⟨σ',hq,⟨⟨φ',s1⟩,s2⟩,hfr⟩
 have fin:(C1 P fn.results σ' fun u=>R u σ'.hp σ'.nx)→bodyPost P fn (fun e w'=>∃ v u hp' nx' φ',e=.returned v∧R u hp' nx'∧nx≤nx'∧StH P M0 w0 φ' hp' nx' w'∧Rep φ' (Mo φ' hp' M0) w' u v) .ret a' w':=by
  intro hq
  obtain⟨u,v,h1,h2,h3⟩:=M4 s1 hq
  refine⟨s1.defers,v,h3,v,u,σ'.hp,σ'.nx,φ',rfl,h1,hfr.2,⟨(St.re (N':=0) (w1:=w0) (σ':=⟨fun _=>.und,σ'.hp,σ'.nx⟩) (a':={ tmps:=#[],defers:=w0.df }) s1 rfl rfl rfl rfl rfl rfl (fun t=>by simp [Rep,Array.getD]) s1.gh).sub fun j hj=>by omega,fun j hj=>s2 j (by omega)⟩,h2⟩
 cases e with
 | normal=>exact fin hq
 | ret=>exact fin hq
 | exit i=>exact hq.elim
 | goto l=>exact hq.elim
 | panic ch=>exact hq.elim
 | outgrown=>exact hq.elim
end
mutual
def Ik(P:Program):Nat→TypeId→List AV→List AV→Option Bool
 | 0,_,_,_=>none
 | d+1,t,xs,ys=>match P.underlying t with
  | some (.int _)=>(match xs,ys with|[.ex (.int ka a)],[.ex (.int kb b)]=>if ka=kb then some (decide (a=b)) else none|_,_=>none)
  | some .string=>(match xs,ys with|[.ex (.string a)],[.ex (.string b)]=>some (decide (a=b))|_,_=>none)
  | some .bool=>(match xs,ys with|[.ex (.bool a)],[.ex (.bool b)]=>some (a == b)|_,_=>none)
  | some (.struct fs)=>if P.stoodInHeld t=true then none else A1c P d fs.toList xs ys
  | _=>none
def A1c(P:Program):Nat→List Field→List AV→List AV→Option Bool
 | 0,_,_,_=>none
 | _+1,[],_,_=>some true
 | d+1,f :: fs,xs,ys=>if f.name = "_" ∨ (aty P f.type).sz=0 then none else
   (Ik P d f.type ((xs.drop f.offset).take (aty P f.type).sz) ((ys.drop f.offset).take (aty P f.type).sz)).bind fun a=>(A1c P d fs xs ys).map (a && ·)
end
section
variable{P:Program}{φ:Phi}{M:Nat→Prop}{w:World}
def Ki(P:Program)(t:TypeId)(vs:List Value)(X:Value):Prop:=match P.underlying t with
 | some (.struct _)=>X=.agg vs.toArray
 | _=>vs=[X]
theorem Mk{x:Value}{vs:List Value}{X:Value}(h:RepL φ M w [.ex x] vs)(hX:vs=[X]):X=x:=by
 subst hX
 simp only[RepL] at h
 obtain⟨v,vs',h1,h2,rfl⟩:=h
 simp only[List.cons.injEq,and_true] at h1
 simp only[Rep] at h2
 rw[h1,h2.1]
theorem Z0{t off:Nat}{vs:List Value}{us:List AV}(h:RepL φ M w us vs){d:Nat}{ys:List AV}{b:Bool}(hs:(aty P t).sz≠0)(he:Ik P d t ((us.drop off).take (aty P t).sz) ys=some b∨Ik P d t ys ((us.drop off).take (aty P t).sz)=some b) :
  ∃ X,(part t vs.toArray off).run P w=.ok X w∧Ki P t ((vs.drop off).take (aty P t).sz) X:=by
 have one:∀ z:Value,(us.drop off).take (aty P t).sz=[.ex z]→(aty P t).known=true→(∀ fs,P.underlying t≠some (.struct fs))→∃ X,(part t vs.toArray off).run P w=.ok X w∧Ki P t ((vs.drop off).take (aty P t).sz) X:=by
  intro z hz hk hns
  have h1:=(h.drop off).take (aty P t).sz
  rw[hz] at h1
  simp only[RepL] at h1
  obtain⟨v,vs',h2,h3,rfl⟩:=h1
  refine⟨v,Hv ?_ hk, ?_⟩
  ·have:((vs.drop off).take (aty P t).sz)[0]?=some v:=by rw[h2];rfl
   rw[List.getElem?_take] at this
   split at this
   ·rw[List.getElem?_drop] at this;simpa using this
   ·cases this
  ·unfold Ki
   split
   ·rename_i fs hfs;exact absurd hfs (hns fs)
   ·exact h2
 cases d with
 | zero=>rcases he with he|he<;>simp [Ik] at he
 | succ d =>
  cases hu:P.underlying t with
  | none=>rcases he with he|he<;>simp [Ik,hu] at he
  | some T =>
   cases T<;>(try (rcases he with he|he<;>simp [Ik,hu] at he<;>done))
   case struct fs =>
    have ha:(aty P t).isAgg=true:=by simp [aty,ATy.isAgg,hu]
    exact⟨_,Hu ha (by omega),by simp [Ki,hu]⟩
   all_goals
    have hk:(aty P t).known=true:=by simp [aty,ATy.known,hu]
    rcases he with he|he
    all_goals
     simp only[Ik,hu] at he
     split at he
     ·first
       | exact one _ (by assumption) hk (fun fs h=>by cases h)
       | (rename_i h1 h2;first|exact one _ h1 hk (fun fs h=>by rw[hu] at h;cases h)|exact one _ h2 hk (fun fs h=>by rw[hu] at h;cases h))
     ·cases he
mutual
theorem Xt:∀ (d:Nat) (t:TypeId) (xs ys:List AV) (b:Bool),Ik P d t xs ys=some b→∀ (vx vy:List Value) (X Y:Value),RepL φ M w xs vx→RepL φ M w ys vy→Ki P t vx X→Ki P t vy Y→∀ e,(Op.equalIn (d+e) t X Y).run P w=.ok b w
 | 0,t,xs,ys,b,h=>by simp [Ik] at h
 | d+1,t,xs,ys,b,h=>by
  intro vx vy X Y hx hy hX hY e
  unfold Ki at hX hY
  unfold Ik at h
  split at h
  ·rename_i k hu
   rw[hu] at hX hY
   split at h
   ·split at h
    ·rename_i hkk
     subst hkk
     rw[Mk hx hX,Mk hy hY,show d+1+e=(d+e)+1 by omega,run_equalIn_int w _ _ _ _ _ _ hu,← Option.some.inj h]
     congr 1
    ·cases h
   ·cases h
  ·rename_i hu
   rw[hu] at hX hY
   split at h
   ·rw[Mk hx hX,Mk hy hY,show d+1+e=(d+e)+1 by omega,run_equalIn_string w _ _ _ _ hu,← Option.some.inj h]
    congr 1
    rw[Bool.eq_iff_iff,beq_iff_eq,decide_eq_true_eq,ByteArray.toList_eq,ByteArray.toList_eq]
    exact⟨fun h=>ByteArray.ext (Array.ext' h),fun h=>by rw[h]⟩
   ·cases h
  ·rename_i hu
   rw[hu] at hX hY
   split at h
   ·rw[Mk hx hX,Mk hy hY,show d+1+e=(d+e)+1 by omega,run_equalIn_bool' w _ _ _ _ hu,← Option.some.inj h]
   ·cases h
  ·rename_i fs hu
   rw[hu] at hX hY
   have hf:P.fieldsOf t=fs:=by simp [Program.fieldsOf,hu]
   split at h
   ·cases h
   ·rename_i hs
    rw[hX,hY,show d+1+e=(d+e)+1 by omega,run_equalIn_struct w _ _ _ _ (by rw[hf];exact hu) (by simpa using hs),hf]
    exact Xu d fs.toList xs ys b h vx vy hx hy e
  ·cases h
theorem Xu:∀ (d:Nat) (fs:List Field) (xs ys:List AV) (b:Bool),A1c P d fs xs ys=some b→∀ (vx vy:List Value),RepL φ M w xs vx→RepL φ M w ys vy→∀ e,(Op.eqFields (d+e) vx.toArray vy.toArray fs).run P w=.ok b w
 | 0,fs,xs,ys,b,h=>by simp [A1c] at h
 | d+1,[],xs,ys,b,h=>by
  intro vx vy hx hy e
  rw[A1c,Option.some.injEq] at h
  rw[← h]
  rfl
 | d+1,f :: fs,xs,ys,b,h=>by
  intro vx vy hx hy e
  unfold A1c at h
  split at h
  ·cases h
  ·rename_i hn
   have hn1:f.name ≠ "_" := fun h=>hn (.inl h)
   have hn2:(aty P f.type).sz≠0:=fun h=>hn (.inr h)
   cases ha:Ik P d f.type ((xs.drop f.offset).take (aty P f.type).sz) ((ys.drop f.offset).take (aty P f.type).sz) with
   | none=>rw[ha] at h;cases h
   | some a =>
    rw[ha,Option.bind_some] at h
    cases hr:A1c P d fs xs ys with
    | none=>rw[hr] at h;cases h
    | some r =>
     rw[hr,Option.map_some,Option.some.injEq] at h
     obtain⟨X,p1,p2⟩:=Z0 hx hn2 (.inl ha)
     obtain⟨Y,p3,p4⟩:=Z0 hy hn2 (.inr ha)
     have g1:=Xt d f.type _ _ a ha _ _ X Y ((hx.drop f.offset).take _) ((hy.drop f.offset).take _) p2 p4 (e+1)
     have g2:=Xu d fs xs ys r hr vx vy hx hy (e+1)
     have hd:d+1+e=d+(e+1):=by omega
     rw[hd]
     unfold Op.eqFields
     rw[if_pos hn1]
     simp only[Sem.run_bind,p1,p3,g1,Result.andThen_ok]
     cases a
     ·simp only[Bool.not_false,if_true,Sem.run_pure,← h,Bool.false_and]
     ·simp only[Bool.not_true,Bool.false_eq_true,if_false,← h,Bool.true_and]
      exact g2
end
theorem Ia{t d:Nat}{xs ys:List AV}{b:Bool}{fs:Array Field}(hd:d≤10000)(hu:P.underlying t=some (.struct fs))(hg:P.eqGuardType P.depth t=false)(h:Ik P d t xs ys=some b):Hy P t xs ys b:=by
 intro φ M w vx vy hx hy
 have hv:∀ vs:List Value,Ki P t vs (.agg vs.toArray):=fun vs=>by unfold Ki;rw[hu]
 refine⟨?_,fun x y op=>run_eqGuard_agg w op t x y _ _ hg⟩
 have:=Xt d t xs ys b h vx vy _ _ hx hy (hv _) (hv _) (10000-d)
 rw[show d+(10000-d)=10000 by omega] at this
 exact this
end
section
variable{P:Program}{C:World→Prop}{K:AS→Prop}{w0:Root}{M0:Nat→Prop}{N:Nat}
theorem Ahv{ops:Array Oper}{Q:Exit→Act→World→Prop}(T:(Nat→Bool)→AS)(F:(Nat→Bool)→Nat→Prop)(J:(Nat→Bool)→Prop)
  (hback:∀ q o e,ops[q]?=some o→e∈Ap o→e<q) (hng:∀ o,o∈ops.toList→o.guard=none)
  (hTc:∀ d d':Nat→Bool,(∀ q,q<ops.size→d q=d' q)→T d=T d'∧F d=F d'∧J d=J d')
  (hstep:∀ d i o φ a w (K:Act→World→Prop),ops[i]?=some o→d i=false→(∀ e,e∈Ap o→d e=true)→(∀ j o' e,d j=true→ops[j]?=some o'→e∈Ap o'→d e=true)→St P M0 N w0 (F d) φ (T d) a w→J d →
    (∀ φ' a' w',St P M0 N w0 (F fun q=>d q || decide (q=i)) φ' (T fun q=>d q || decide (q=i)) a' w'→J (fun q=>d q || decide (q=i))→K a' w')→o.wp P a w K Q)
  (hk:∀ φ a w,St P M0 N w0 (F fun q=>decide (q<ops.size)) φ (T fun q=>decide (q<ops.size)) a w→J (fun q=>decide (q<ops.size))→Q .normal a w) :
  ∀ (fuel:Nat) (l:Array Bool) (a:Act) (w:World),cnt ops.size l=fuel→l.size=ops.size→Closed ops l→((∃ φ,St P M0 N w0 (F fun q=>l.getD q false) φ (T fun q=>l.getD q false) a w)∧J fun q=>l.getD q false)→wpAny P .any ops Q fuel l a w:=by
 intro fuel
 have done:∀ (l:Array Bool) a w,l.size=ops.size→(∀ i,i<ops.size→l.getD i false=true)→((∃ φ,St P M0 N w0 (F fun q=>l.getD q false) φ (T fun q=>l.getD q false) a w)∧J fun q=>l.getD q false)→Q .normal a w:=by
  rintro l a w hl hz ⟨⟨φ,st⟩,hj⟩
  have e:=hTc (fun q=>l.getD q false) (fun q=>decide (q<ops.size)) fun q h=>by rw[hz q h];simp [h]
  rw[e.1,e.2.1] at st
  rw[e.2.2] at hj
  exact hk φ a w st hj
 induction fuel with
 | zero =>
  intro l a w hc hl hcl hst
  have hz:∀ i,i<ops.size→l.getD i false=true:=fun i hi=>by
   have:=List.countP_eq_zero.1 hc i (by simpa using hi)
   simpa using this
  refine⟨?_,done l a w hl hz hst⟩
  refine List.eq_nil_iff_forall_not_mem.2 fun i hi=>?_
  obtain⟨h0,o,ho,_⟩:=Cm.1 hi
  have his:=(Array.getElem?_eq_some_iff.1 ho).1
  rw[Ci (by omega) true false,hz i his] at h0
  cases h0
 | succ fuel ih =>
  intro l a w hc hl hcl hst
  refine⟨fun h0=>done l a w hl (fun i hi=>?_) hst,fun i hi=>?_⟩
  ·rcases Classical.em (∃ q,q<ops.size∧l.getD q false=false) with hex|hex
   ·obtain⟨q0,⟨h2,h3⟩,h4⟩:=exists_least hex
    have hq0:ops[q0]?=some ops[q0]:=Array.getElem?_eq_getElem h2
    have hrd : q0 ∈ Region.ready .any ops l := Cm.2 ⟨by rw[Ci (by omega) true false];exact h3,_,hq0,fun e he=>by
     have hlt:=hback q0 _ e hq0 he
     cases hh:l.getD e false with
     | true=>rfl
     | false=>exact absurd (h4 e ⟨by omega,hh⟩) (by omega)⟩
    exact absurd hrd (by rw[h0];simp)
   ·cases hh:l.getD i false with
    | true=>rfl
    | false=>exact absurd ⟨i,hi,hh⟩ hex
  ·obtain⟨h0,o,ho,hee⟩:=Cm.1 hi
   have his:=(Array.getElem?_eq_some_iff.1 ho).1
   rw[Ci (by omega) true false] at h0
   have hset:∀ q,(l.setIfInBounds i true).getD q false=if q=i then true else l.getD q false:=fun q=>by
    by_cases e:i=q
    ·subst e;rw[if_pos rfl];exact Eo (by omega)
    ·rw[getD_set_ne false e,if_neg fun h=>e h.symm]
   have hcnt:cnt ops.size (l.setIfInBounds i true)=fuel:=by
    have:=Hj (f:=fun q=>!l.getD q false) (g:=fun q=>!(l.setIfInBounds i true).getD q false) (i:=i) (by rw[h0];rfl) (by rw[hset,if_pos rfl];rfl) (fun j hj=>by rw[hset,if_neg hj]) ops.size
    rw[if_pos his] at this
    unfold cnt at hc ⊢
    omega
   have hmem:o∈ops.toList:=by simpa using Array.mem_of_getElem? ho
   obtain⟨⟨φ,st⟩,hj⟩:=hst
   have hT:(fun q=>(l.setIfInBounds i true).getD q false)=fun q=>(l.getD q false || decide (q=i)):=by
    funext q
    rw[hset]
    by_cases e:q=i
    ·rw[if_pos e,e];simp
    ·rw[if_neg e];simp [e]
   unfold wpOp
   rw[ho]
   dsimp only
   rw[if_pos (by simp [Region.wanted,hng o hmem])]
   refine .inl (hstep (fun q=>l.getD q false) i o φ a w _ ho h0 hee (fun j o' e hj hoj he=>hcl j o' e hj hoj he) st hj fun φ' a' w' st' hj'=>?_)
   refine ih _ a' w' hcnt (by simpa using hl) (Jw hl hcl ho hee) ?_
   rw[hT]
   exact⟨⟨φ',st'⟩,hj'⟩
def Bz(ch:List Nat)(d:Nat→Bool):Nat:=ch.countP d
def A0h(P:Program)(C:World→Prop)(o:Oper)(i:Nat)(u:AV)(tm:Nat→AV)(hp:Nat→Option A4)(B:Nat):Prop :=
 A7 P C (B+i) o.op o.type (evT tm) hp (fun u' f'=>u'=u∧(f'=.none∨f'=.frz [])) ∨
 (∀ (M0:Nat→Prop) (N:Nat) (w0:Root) (F:Nat→Prop) (φ:Phi) (σ:AS) (a:Act) (w:World),St P M0 N w0 F φ σ a w→σ.hp=hp→C w→(∀ x∈o.op.operands,σ.ev x=evT tm x)→∃ v,Rep φ (Mo φ σ.hp M0) w u v∧(execOp a.eval o).run P w=.ok (.value v) w)
def Tw(P:Program)(C:World→Prop)(n:Nat)(o:Oper)(i:Nat)(u:AV)(tm:Nat→AV)(hp hp':Nat→Option A4)(B B':Nat):Prop :=
 (∃ f,A7 P C (B+i) o.op o.type (evT tm) hp (fun u' f'=>u'=u∧f'=f)∧hp'=f.app (B+i) hp∧B'=B) ∨
 (∃ f ps,ConI P C f ps hp (B+n) (fun u0 h0 n0=>u0=u∧h0=hp'∧n0=B') ∧
   ∀ (M0:Nat→Prop) (φ:Phi) (a:Act) (w:World),(∀ x∈o.op.operands,Rep φ (Mo φ hp M0) w (evT tm x) (a.eval x))→∃ vs:List Value,RepL φ (Mo φ hp M0) w ps vs∧(execOp a.eval o).run P w=.ok (.enter f vs.toArray) w)
structure A3c(P:Program)(C:World→Prop)(ops:Array Oper)(σ:AS)(vs:Nat→AV)(ch:List Nat)(H:Nat→Nat→Option A4)(B:Nat→Nat):Prop where
 H0:H 0=σ.hp
 B0:B 0=σ.nx
 mono:∀ c,c≤ch.length→B 0≤B c
 lt:∀ h∈ch,h<ops.size
 nodup:ch.Nodup
 link:∀ m h h',ch[m]?=some h→ch[m+1]?=some h'→Reach ops h' h
 ng:∀ o,o∈ops.toList→o.guard=none
 heavy:∀ m h o,ch[m]?=some h→ops[h]?=some o→Tw P C ops.size o h (vs h) (A8 ops ops.size vs σ.tm fun q=>decide (q<h)) (H m) (H (m+1)) (B m) (B (m+1))
 pure:∀ i o,ops[i]?=some o→i ∉ ch→∀ c,c≤ch.length→(∀ m h,ch[m]?=some h→(Reach ops i h→m<c)∧(Reach ops h i→c≤m))→A0h P C o i (vs i) (A8 ops ops.size vs σ.tm fun q=>decide (q<i)) (H c) (B c)
theorem Kw{d:Nat→Bool}:∀ {ch:List Nat},(∀ m h h':Nat,ch[m]?=some h→ch[m+1]?=some h'→d h'=true→d h=true)→∀ m h:Nat,ch[m]?=some h→(d h=true↔m<Bz ch d)
 | [],_,m,h,hm=>by simp at hm
 | x :: ch,hl,m,h,hm=>by
  have ih:=Kw (d:=d) (ch:=ch) fun m g g' h1 h2=>hl (m+1) g g' (by simpa using h1) (by simpa using h2)
  have key:d x=false→Bz ch d=0:=by
   intro hx
   have all:∀ m h:Nat,ch[m]?=some h→d h=false:=by
    intro m
    induction m with
    | zero =>
     intro h hm
     cases hd:d h with
     | false=>rfl
     | true=>have:=hl 0 x h rfl (by simpa using hm) hd;rw[hx] at this;cases this
    | succ m ihm =>
     intro h hm
     cases hd:d h with
     | false=>rfl
     | true =>
      obtain⟨g,hg⟩:∃ g,ch[m]?=some g:=⟨ch[m]'(by have:=(List.getElem?_eq_some_iff.1 hm).1;omega),List.getElem?_eq_getElem _⟩
      have h1:=hl (m+1) g h (by simpa using hg) (by simpa using hm) hd
      rw[ihm g hg] at h1;cases h1
   refine List.countP_eq_zero.2 fun y hy=>?_
   obtain⟨m,hm⟩:=List.mem_iff_getElem?.1 hy
   rw[all m y hm];simp
  cases m with
  | zero =>
   have hxh:x=h:=by simpa using hm
   subst hxh
   cases hd:d x with
   | false =>
    have:=key hd
    unfold Bz at this ⊢
    rw[List.countP_cons,this,hd];simp
   | true =>
    unfold Bz
    rw[List.countP_cons,hd];simp
  | succ m =>
   have hm':ch[m]?=some h:=by simpa using hm
   have h1:=ih m h hm'
   cases hd:d x with
   | false =>
    have h0:=key hd
    rw[h0] at h1
    unfold Bz at h0 ⊢
    rw[List.countP_cons,h0,hd]
    simp only[Bool.false_eq_true,if_false]
    rw[h1];omega
   | true =>
    unfold Bz at h1 ⊢
    rw[List.countP_cons,hd,h1];simp
theorem Vp{ops:Array Oper}{d:Nat→Bool}(hcl:∀ j o e,d j=true→ops[j]?=some o→e∈Ap o→d e=true){j i:Nat}(hr:Reach ops j i):(∀ o e,ops[j]?=some o→e∈Ap o→d e=true)→d i=true:=by
 induction hr with
 | edge ho he=>exact fun hh=>hh _ _ ho he
 | more ho he _ ih=>exact fun hh=>ih fun o' e' ho' he'=>hcl _ o' e' (hh _ _ ho he) ho' he'
theorem S4{ch:List Nat}{d:Nat→Bool}{i:Nat}(h:i ∉ ch):Bz ch (fun q=>d q || decide (q=i))=Bz ch d:=by
 unfold Bz
 refine List.countP_congr fun q hq=>?_
 have:q≠i:=fun e=>h (e▸hq)
 simp [this]
theorem S3{d:Nat→Bool}{i:Nat}(hd:d i=false):∀ {ch:List Nat},ch.Nodup→i∈ch→Bz ch (fun q=>d q || decide (q=i))=Bz ch d+1
 | [],_,h=>by simp at h
 | x :: ch,hn,h=>by
  have hn':=List.nodup_cons.1 hn
  unfold Bz
  rw[List.countP_cons,List.countP_cons]
  by_cases e:x=i
  ·subst e
   have:=S4 (d:=d) hn'.1
   unfold Bz at this
   rw[this,hd];simp
  ·have hm:i∈ch:=by
    rcases List.mem_cons.1 h with h|h
    ·exact absurd h.symm e
    ·exact h
   have:=S3 (d:=d) hd hn'.2 hm
   unfold Bz at this
   rw[this]
   simp [e]
   omega
theorem Bx(Bs:Dj P C){r:Nat}{ops:Array Oper}{σ:AS}{vs:Nat→AV}{ch:List Nat}{H:Nat→Nat→Option A4}{B:Nat→Nat}{Q:Exit→AS→Prop}(hO:Ord ops ops.size)(h:A3c P C ops σ vs ch H B)
  (hq:Q .normal ⟨A8 ops ops.size vs σ.tm fun q=>decide (q<ops.size),H ch.length,B ch.length+ops.size⟩):awp P C (.region r ops true) Q σ:=by
 refine .inr (.inr ?_)
 intro M0 N w0 a w hC hf st
 have hfit:∀ o∈ops.toList,∀ t,o.dst=some t→t<N:=fun o ho t ht=>by
  have:=List.all_eq_true.1 hf o ho
  rw[ht] at this
  simpa using this
 obtain⟨⟨φ,st1⟩,st2⟩:=st
 have hrep:∀ q,(Array.replicate ops.size false).getD q false=false:=fun q=>by by_cases hjs:q<ops.size<;>simp [hjs]
 have hall:Bz ch (fun q=>decide (q<ops.size))=ch.length:=by
  unfold Bz
  exact List.countP_eq_length.2 fun x hx=>by simpa using h.lt x hx
 have h0:∀ d:Nat→Bool,(∀ q,d q=false)→Bz ch d=0:=fun d hd=>List.countP_eq_zero.2 fun x _=>by rw[hd x];simp
 refine wp_region_any Bs.mixed (Ahv (M0:=M0) (N:=N) (w0:=w0) (fun d=>⟨A8 ops ops.size vs σ.tm d,H (Bz ch d),σ.nx⟩) (fun d x=>B (Bz ch d)≤x∧∀ q,q<ops.size→d q=true→x≠B (Bz ch d)+q) (fun d=>∀ j,B (Bz ch d)+ops.size≤j→H (Bz ch d) j=none)
  hO.back h.ng ?hTc ?hstep ?hk ops.size _ a _ ?hcnt (by simp) ?hcl ?hst)
 case hTc =>
  intro d d' hd
  have e1:Bz ch d=Bz ch d':=by
   unfold Bz
   exact List.countP_congr fun x hx=>by rw[hd x (h.lt x hx)]
  have e2:A8 ops ops.size vs σ.tm d=A8 ops ops.size vs σ.tm d':=funext fun t=>Ce hO fun j o hj _ _=>⟨hd j hj,fun _=>rfl⟩
  refine⟨by rw[e1,e2], ?_,by rw[e1]⟩
  funext x
  rw[e1]
  apply propext
  constructor
  ·exact fun g=>⟨g.1,fun q hq hdq=>g.2 q hq (by rw[hd q hq];exact hdq)⟩
  ·exact fun g=>⟨g.1,fun q hq hdq=>g.2 q hq (by rw[← hd q hq];exact hdq)⟩
 case hk =>
  intro φ a w st hj
  refine⟨_,hq,⟨⟨φ, ?_⟩,fun j hj'=>?_⟩, ?_⟩
  ·dsimp only at st
   rw[hall] at st
   refine St.sub (St.re (N':=N) (w1:=w0) (σ':=⟨A8 ops ops.size vs σ.tm fun q=>decide (q<ops.size),H ch.length,B ch.length+ops.size⟩) (a':=a) st rfl rfl rfl rfl st.defers st.size st.tmr st.gh) fun x hx=>?_
   have hx:B ch.length+ops.size≤x:=hx
   exact⟨by omega,fun q hq _=>by omega⟩
  ·have:=hj j (by rw[hall];exact hj')
   rw[hall] at this
   exact this
  ·refine⟨fun t ht=>?_, ?_⟩
   ·exact Di fun j o _ ho hd=>absurd (List.mem_filterMap.2 ⟨o,by simpa using Array.mem_of_getElem? ho,hd⟩) ht
   ·have:=h.mono ch.length (Nat.le_refl _)
    rw[h.B0] at this
    show σ.nx≤B ch.length+ops.size
    omega
 case hcnt =>
  unfold cnt
  rw[List.countP_eq_length.2 (fun i hi=>?_)]
  ·simp
  ·have:i<ops.size:=by simpa using hi
   simp [this]
 case hcl =>
  intro j o e hj _ _
  rw[hrep j] at hj;cases hj
 case hst =>
  have e0:=h0 _ hrep
  refine⟨⟨φ, ?_⟩, ?_⟩
  ·dsimp only
   rw[e0,h.H0,h.B0]
   have e1:A8 ops ops.size vs σ.tm (fun q=>(Array.replicate ops.size false).getD q false)=σ.tm:=by
    funext t
    exact Di fun j o _ _ _=>hrep j
   rw[e1]
   have hb:Below w.heap.size w { w with drawn:=w.drawn+1 }:=⟨rfl,rfl,rfl,Nat.le_refl _,fun _ _=>rfl⟩
   exact (st1.on hb).sub fun x hx=>by have:=hx.1;omega
  ·intro j hj
   (try dsimp only at hj ⊢)
   rw[e0] at hj ⊢
   rw[h.B0] at hj
   rw[h.H0]
   exact st2 j (by omega)
 case hstep =>
  intro d i o φ a w K ho hdi hee hcl st hJ hk
  have hi:i<ops.size:=(Array.getElem?_eq_some_iff.1 ho).1
  have hmem:o∈ops.toList:=by simpa using Array.mem_of_getElem? ho
  have hdo:∀ t,o.dst=some t→t<N:=hfit o hmem
  have hee':∀ o' e,ops[i]?=some o'→e∈Ap o'→d e=true:=fun o' e ho' he=>by rw[ho] at ho';cases ho';exact hee e he
  have pre:=Kw (d:=d) (ch:=ch) fun m h1 h2 g1 g2 hd=>Vp hcl (h.link m h1 h2 g1 g2) fun o' e ho' he=>hcl h2 o' e hd ho' he
  have look:∀ t,t∈o.looksAt ops→A8 ops ops.size vs σ.tm (fun q=>decide (q<i)) t=A8 ops ops.size vs σ.tm d t:=by
   intro t ht
   refine Ce hO fun j oj hj hoj hd=>⟨?_,fun _=>rfl⟩
   by_cases hji:j=i
   ·subst hji;rw[hdi];simp
   ·rcases hO.side j i oj o t hj hji hoj ho hd ht with h1|h1
    ·rw[hee j h1];simp;exact hO.back i o j ho h1
    ·have hij:=hO.back j oj i hoj h1
     have:d j=false:=by
      cases hh:d j with
      | false=>rfl
      | true=>have:=hcl j oj i hh hoj h1;rw[hdi] at this;cases this
     rw[this];simp;omega
  have lookop:∀ x,x∈o.op.operands→evT (A8 ops ops.size vs σ.tm (fun q=>decide (q<i))) x=evT (A8 ops ops.size vs σ.tm d) x:=by
   intro x hx
   cases x with
   | tmp t=>exact look t (List.mem_append_left _ (List.mem_filterMap.2 ⟨.tmp t,by simpa using hx,rfl⟩))
   | _=>rfl
  have nxt:∀ (Hh:Nat→Option A4),(⟨A8 ops ops.size vs σ.tm d,Hh,σ.nx⟩:AS).put o.dst (vs i)=⟨A8 ops ops.size vs σ.tm (fun q=>d q || decide (q=i)),Hh,σ.nx⟩:=by
   intro Hh
   have e:((⟨A8 ops ops.size vs σ.tm d,Hh,σ.nx⟩:AS).put o.dst (vs i)).tm=A8 ops ops.size vs σ.tm (fun q=>d q || decide (q=i)):=by
    funext t
    by_cases hd:o.dst=some t
    ·rw[Hd hO hi (by simp) ho hd,hd]
     exact Af _ _ _
    ·have e1:((⟨A8 ops ops.size vs σ.tm d,Hh,σ.nx⟩:AS).put o.dst (vs i)).tm t=A8 ops ops.size vs σ.tm d t:=by
      cases hdd:o.dst with
      | none=>rfl
      | some d=>exact Am _ _ fun e=>hd (by rw[hdd,e])
     rw[e1]
     refine Ce hO fun x o' hx ho' hd'=>⟨?_,fun _=>rfl⟩
     have hne:x≠i:=fun e=>by subst e;rw[ho] at ho';cases ho';exact hd hd'
     simp [hne]
   rw[← e]
   cases o.dst<;>rfl
  have evs:∀ x,x∈o.op.operands→Rep φ (Mo φ (H (Bz ch d)) M0) w (evT (A8 ops ops.size vs σ.tm (fun q=>decide (q<i))) x) (a.eval x):=by
   intro x hx
   rw[lookop x hx]
   have:=st.evr x
   rw[Jz] at this
   exact this
  have free : B (Bz ch d) ≤ B (Bz ch d) + i ∧ ∀ q, q < ops.size → d q = true → B (Bz ch d) + i ≠ B (Bz ch d) + q := ⟨by omega,fun q _ hq e=>by
   have:q=i:=by omega
   subst this;rw[hdi] at hq;cases hq⟩
  by_cases hic:i∈ch
  ·
   obtain⟨m,hm⟩:=List.mem_iff_getElem?.1 hic
   have hmc:m=Bz ch d:=by
    have h1:¬ m<Bz ch d:=fun hlt=>by have:=(pre m i hm).2 hlt;rw[hdi] at this;cases this
    rcases Nat.lt_or_ge (Bz ch d) m with hlt|hge
    ·exfalso
     obtain⟨m',rfl⟩:∃ m',m=m'+1:=⟨m-1,by omega⟩
     obtain⟨g,hg⟩:∃ g,ch[m']?=some g:=⟨ch[m']'(by have:=(List.getElem?_eq_some_iff.1 hm).1;omega),List.getElem?_eq_getElem _⟩
     have h2:=Vp hcl (h.link m' g i hg hm) hee'
     have:=(pre m' g hg).1 h2
     omega
    ·omega
   have hcn:=S3 hdi h.nodup hic
   have hhv:=h.heavy m i o hm ho
   rw[hmc] at hhv
   rcases hhv with⟨f,g1,g2,g3⟩|⟨f,ps,g1,g2⟩
   ·refine Dq (hp:=H (Bz ch d)) (id:=B (Bz ch d)+i) (k:=fun u' f'=>u'=vs i∧f'=f) ⟨st,free,fun x β v hx _=>⟨β,hx,Cp β⟩,hdo⟩ ?_ Bs.on hC evs g1
    rintro u' f' ⟨rfl,rfl⟩ φ' a' w' st'
    dsimp only at st'
    rw[← g2,nxt] at st'
    refine hk φ' a' w' ?_ ?_
    ·(try dsimp only)
     rw[hcn,g3]
     refine st'.sub fun x hx=>⟨⟨hx.1,fun q hq hdq=>hx.2 q hq (by rw[hdq];rfl)⟩,hx.2 i hi (by simp)⟩
    ·(try dsimp only)
     rw[hcn,g3]
     intro j hj
     rw[g2]
     have hnone:=hJ j hj
     cases f' with
     | none=>exact hnone
     | new β=>exact (Am _ _ (by omega)).trans hnone
     | set c β =>
      have hc:c≠j:=fun e=>by
       obtain⟨u,f,q1,q2,q3⟩:=Kq (pp:=fun _=>True) (fun _ _ _ _=>trivial) g1
       obtain⟨rfl,rfl⟩:=q1
       have:=q2.1
       rw[e] at this
       exact this hnone
      exact (Am _ _ (fun e=>hc e.symm)).trans hnone
     | grow c β =>
      refine (Am _ _ (by omega)).trans ?_
      by_cases e:j=c
      ·subst e;exact Af _ _ _
      ·exact (Am _ _ e).trans hnone
     | frz bs =>
      show (if j∈bs then (H (Bz ch d) j).map fun β=>{ β with mu:=false } else H (Bz ch d) j)=none
      rw[hnone];simp
     | alc t z=>exact (Am _ _ (by omega)).trans hnone
   ·obtain⟨vals,hvals,hrun⟩:=g2 M0 φ a w evs
    have stn:St P M0 N w0 (fun j=>B (Bz ch d)+ops.size≤j) φ ⟨A8 ops ops.size vs σ.tm d,H (Bz ch d),σ.nx⟩ a w:=st.sub fun x hx=>⟨by omega,fun q hq _=>by omega⟩
    have hwait:=StH.wait stn hJ
    unfold Oper.wp
    rw[hrun]
    refine (g1.2 M0 (w0.wait _ a) φ w vals hC hwait hvals).mono ?_
    rintro e w' ⟨v,u,hp',nx',φ',rfl,⟨rfl,rfl,rfl⟩,hle,hst,hu⟩
    have hbk:=StH.back stn hst σ.nx
    refine hk φ' _ w' ?_ ?_
    ·have h9:=hbk.put hu o.dst hdo
     have e9:=nxt (H (Bz ch d+1))
     dsimp only at h9 e9 ⊢
     rw[hcn]
     rw[e9] at h9
     exact h9.sub fun x hx=>hx.1
    ·(try dsimp only)
     rw[hcn]
     exact fun j hj=>hst.2 j (by omega)
  ·
   have hcs:=S4 (d:=d) hic
   have hle:Bz ch d≤ch.length:=List.countP_le_length
   have hp := h.pure i o ho hic (Bz ch d) hle fun m g hm => ⟨fun hr=>(pre m g hm).1 (Vp hcl hr hee'),fun hr=>by
    rcases Nat.lt_or_ge m (Bz ch d) with hlt|hge
    ·have h1:=(pre m g hm).2 hlt
     have h2:=Vp hcl hr fun o' e ho' he=>hcl g o' e h1 ho' he
     rw[hdi] at h2;cases h2
    ·exact hge⟩
   have fin:∀ φ' a' w',St P M0 N w0 (fun x=>(B (Bz ch d)≤x∧∀ q,q<ops.size→d q=true→x≠B (Bz ch d)+q)∧x≠B (Bz ch d)+i) φ' ((⟨A8 ops ops.size vs σ.tm d,H (Bz ch d),σ.nx⟩:AS).put o.dst (vs i)) a' w'→K a' w':=by
    intro φ' a' w' st'
    rw[nxt] at st'
    refine hk φ' a' w' ?_ ?_
    ·(try dsimp only)
     rw[hcs]
     exact st'.sub fun x hx=>⟨⟨hx.1,fun q hq hdq=>hx.2 q hq (by rw[hdq];rfl)⟩,hx.2 i hi (by simp)⟩
    ·(try dsimp only)
     rw[hcs]
     exact hJ
   rcases hp with hp|hp
   ·refine Dq (hp:=H (Bz ch d)) (id:=B (Bz ch d)+i) (k:=fun u' f'=>u'=vs i∧(f'=.none∨f'=.frz [])) ⟨st,free,fun x β v hx _=>⟨β,hx,Cp β⟩,hdo⟩ ?_ Bs.on hC evs hp
    rintro u' f' ⟨rfl,hf'⟩ φ' a' w' st'
    have ef:f'.app (B (Bz ch d)+i) (H (Bz ch d))=H (Bz ch d):=by
     rcases hf' with rfl|rfl
     ·rfl
     ·exact G8 _ _
    dsimp only at st'
    rw[ef] at st'
    exact fin φ' a' w' st'
   ·obtain⟨v,hv,hrun⟩:=hp M0 N w0 _ φ _ a w st rfl (Bs.on _ _ hC st.below) fun x hx=>by rw[Jz];exact (lookop x hx).symm
    exact Eg hrun (fin φ _ w ((st.sub fun x hx=>hx.1).put hv o.dst hdo))
end
end Go.Proofs.YtbhffbgbhgjdiaaGreatDoor
