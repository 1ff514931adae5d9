/-
  Values without memory, reckoned: regions, code, functions; what is reckoned holds. Conditions: those that each theorem states. More of the kind.
-/
import Derived.Test.YtbhffbgbhgjdiaaGreatDoorGEng
import Derived.Test.YtbhffbgbhgjdiaaGreatDoorM1
import Derived.Test.YtbhffbgbhgjdiaaGreatDoorM1
import Derived.Defers
set_option linter.unusedSimpArgs false
set_option linter.unusedVariables false
namespace Go.Proofs.YtbhffbgbhgjdiaaGreatDoor
open Go.RowKit
set_option maxRecDepth 100000
abbrev XF:=FuncId→List AV→Tr A4→Nat→Option (AV×Tr A4×Nat)
abbrev XO:=FuncId→(Nat→Option A4)→List AV→Nat→Option (AV×Eff)
noncomputable def An0(f:Fn)(a b:List Value):Option FuncId:=bif a.isEmpty && b.isEmpty then Ajs f else none
noncomputable def fnV:Value→Option FuncId
 | .func f a b=>An0 f a.toList b.toList
 | _=>none
noncomputable def fnA:AV→Option (FuncId×List AV)
 | .fn f caps=>some (f,caps)
 | .ex v=>(fnV v).bind fun f=>some (f,[])
 | _=>none
noncomputable def B0f(ev:Operand→AV)(asl:List Operand)(t:Tmp):Option (FuncId×List AV):=(fnA (ev (.tmp t))).bind fun r=>some (r.1,asl.map ev++r.2)
noncomputable def Awb(ev:Operand→AV)(asl:List Operand):Operand→Option (FuncId×List AV)
 | .func f=>some (f,asl.map ev)
 | .tmp t=>B0f ev asl t
 | _=>none
noncomputable def Awa(ev:Operand→AV)(asl:List Operand):Callee→Option (FuncId×List AV)
 | .value f=>Awb ev asl f
 | _=>none
noncomputable def B0g(c:Call)(ev:Operand→AV):Option (FuncId×List AV):=Awa ev c.args.toList c.callee
noncomputable def B0e(_:Operand→AV):Option (FuncId×List AV):=none
noncomputable def Mc(op:Op):(Operand→AV)→Option (FuncId×List AV) :=
 match op with
 | .call c=>B0g c
 | _=>B0e
noncomputable def XS.ev(s:XS):Operand→AV
 | .tmp t=>Cj s.tm t
 | .const v=>ofV v
 | .global g=>.ex (.pointer (some ⟨g,0,Option.none⟩))
 | .func f=>.ex (.func (.func f) #[] #[])
theorem XS.ev_as(s:XS):s.as.ev=s.ev:=by funext x;cases x<;>rfl
noncomputable def Er(P:Program)(C:World→Prop)(orc:XO):Prop:=∀ f hp args id u e,orc f hp args id=some (u,e)→∀ k:AV→Eff→Prop,k u e→B8 P C id f hp args k
noncomputable def Hi(P:Program)(C:World→Prop)(xf:XF):Prop:=∀ f us (hp:Tr A4) nx u (hp':Tr A4) nx',xf f us hp nx=some (u,hp',nx')→ConI P C f us hp.get nx fun u0 h0 n0=>u0=u∧h0=hp'.get∧n0=nx'
structure XE where
 P:Program
 G:Glb
 orc:XO
 pf:FuncId→Bool
noncomputable def aft(s:XS)(id:Nat)(draw:Bool)(d:Option Tmp)(r:AV×Eff):XS:=(⟨s.tm,A36 id (r.2.md draw) s.hp,s.nx⟩:XS).put d r.1
noncomputable def gdV:Value→Bool→Option Bool
 | .bool t,want=>some (t == want)
 | _,_=>none
noncomputable def gdA(want:Bool):AV→Option Bool
 | .ex v=>gdV v want
 | .und=>some false
 | _=>none
noncomputable def gdO(ops:Array Oper)(s:XS)(g:Nat×Bool):Option Bool:=((ops[g.1]?).bind (·.dst)).bind fun d=>gdA g.2 (Cj s.tm d)
noncomputable def gdG(ops:Array Oper)(s:XS):Option (Nat×Bool)→Option Bool
 | none=>some true
 | some g=>gdO ops s g
noncomputable def Ank(E:XE)(xf:XF)(b i:Nat)(o:Oper)(s:XS)(fa:FuncId×List AV):Option (XS×Nat) :=
 match E.orc fa.1 s.hp.get fa.2 (Nat.add b i) with
 | some r=>some (aft s (Nat.add b i) false o.dst r,b)
 | none=>(xf fa.1 fa.2 s.hp (Nat.add b i)).bind fun r=>some ((⟨s.tm,r.2.1,r.2.2⟩:XS).put o.dst r.1,r.2.2)
noncomputable def Ann(E:XE)(pol:Bool)(b i:Nat)(o:Oper)(s:XS):Option (XS×Nat) :=
 match Rp E.P E.G o.op o.type s.ev s.hp.get with
 | some u=>some (s.put o.dst u,b)
 | none=>(A02 E.P pol (Nat.add b i) o.op o.type s.ev s.hp.get).bind fun r=>some (aft s (Nat.add b i) false o.dst r,b)
noncomputable def Arc(E:XE)(pol:Bool)(xf:XF)(b i:Nat)(o:Oper)(s:XS):Option (XS×Nat) :=
 match Mc o.op s.ev with
 | some fa=>Ank E xf b i o s fa
 | none=>Ann E pol b i o s
noncomputable def A01(E:XE)(pol:Bool)(xf:XF)(ops:Array Oper)(l:List Oper):Nat→Nat→XS→Option XS :=
 List.rec (fun b i s=>some ⟨s.tm,s.hp,Nat.add b i⟩)
  (fun o _ ih b i s=>(gdG ops s o.guard).bind fun g=>bif g then (Arc E pol xf b i o s).bind fun r=>ih r.2 (Nat.succ i) r.1 else ih b (Nat.succ i) (s.put o.dst .und)) l
noncomputable def Amh(E:XE)(pol:Bool)(orc:XO)(id:Nat)(o:Oper)(s:XS):Option (AV×Eff) :=
 match Mc o.op s.ev with
 | some fa=>orc fa.1 s.hp.get fa.2 id
 | none=>A02 E.P pol id o.op o.type s.ev s.hp.get
noncomputable def A00(E:XE)(pol:Bool)(orc:XO)(ops:Array Oper)(nd b:Nat)(l:List Oper):Nat→XS→Option XS :=
 List.rec (fun _ s=>some s)
  (fun o _ ih i s=>(gdG ops s o.guard).bind fun g=>bif g then (Amh E pol orc (Nat.add b i) o s).bind fun r=>(bif (!Nat.blt i nd) || Ap0 (Nat.beq (Nat.succ i) nd) s.hp r.2 then ih (Nat.succ i) (aft s (Nat.add b i) (Nat.blt i nd) o.dst r) else none) else ih (Nat.succ i) (s.put o.dst .und)) l
noncomputable def clR(hp:Nat→Option A4):AV→Option (AV×List Nat)
 | .tup vs=>(cls hp vs).map fun x=>(.tup x.1,x.2)
 | u=>cl hp u
noncomputable def Vh(orc:XO)(xf:XF):XO:=fun f hp args id =>
 match orc f hp args id with
 | some r=>some r
 | none=>(cls hp args).bind fun us=>(xf f us.1 .nil 0).bind fun r=>(clR r.2.1.get r.1).bind fun v=>some (v.1,.frz (bif K2 v.1 then [] else us.2))
noncomputable def Ahc(P:Program)(s:XS)(ty:TypeId):AV→Option AV
 | .pt b j off=>(s.hp.get b).bind fun β=>(β.es[j]?).bind fun e=>xld P ty e off
 | _=>none
noncomputable def Ix(P:Program)(s:XS):ResultVar→Option AV
 | .tmp t=>some (Cj s.tm t)
 | .cell x ty=>Ahc P s ty (Cj s.tm x)
noncomputable def Amk(P:Program)(s:XS):List ResultVar→Option AV
 | []=>some (.tup [])
 | [r]=>Ix P s r
 | [r,q]=>(Ix P s r).bind fun u=>(Ix P s q).bind fun v=>some (.tup [u,v])
 | [r,q,z]=>(Ix P s r).bind fun u=>(Ix P s q).bind fun v=>(Ix P s z).bind fun x=>some (.tup [u,v,x])
 | [r,q,z,y]=>(Ix P s r).bind fun u=>(Ix P s q).bind fun v=>(Ix P s z).bind fun x=>(Ix P s y).bind fun w=>some (.tup [u,v,x,w])
 | _=>none
noncomputable def An2:Exit→Bool
 | .normal=>true
 | .ret=>true
 | _=>false
abbrev XC:=Bool→Code→XS→Option (Exit×XS)
noncomputable def B04(P:Program)(rs:List ResultVar)(r:Exit×XS):Option (AV×Tr A4×Nat):=bif An2 r.1 then (Amk P r.2 rs).bind fun u=>some (u,r.2.hp,r.2.nx) else none
noncomputable def R6(P:Program)(xc:XC)(pf:FuncId→Bool):XF:=fun f us hp nx =>
 (P.funcs[f]?).bind fun fn=>fn.body.bind fun c=>bif fits fn.ntmps c && (Nat.ble us.length fn.ntmps && !(fn.name == "runtime.NumGoroutine")) then
  (xc (pf f) c ⟨A2w us 0 .nil,hp,nx⟩).bind fun r=>B04 P fn.results.toList r else none
noncomputable def Awq(c:Call):Option Nat:=match c.callee with
 | .value (.tmp t)=>bif c.args.toList.isEmpty then some t else none
 | _=>none
noncomputable def Awp(o:Oper):Option Nat:=match o.op with
 | .defer c=>bif o.guard.isNone && o.dst.isNone then Awq c else none
 | _=>none
structure A5g where
 A:Code
 o0:Oper
 o1:Oper
 t:Nat
 B:Code
noncomputable def Agk(a c:Code):Code→Option A5g
 | .region _ ops d=>bif d then none else (two? ops.toList).bind fun o=>(Awp o.2).bind fun t=>bif o.1.guard.isNone then some ⟨a,o.1,o.2,t,c⟩ else none
 | _=>none
noncomputable def Agl(a:Code):Code→Option A5g
 | .seq r c=>Agk a c r
 | _=>none
noncomputable def A2p:Code→Option A5g
 | .seq a b=>Agl a b
 | _=>none
noncomputable def A1h:AV→Option (FuncId×List AV)
 | .fn f caps=>some (f,caps)
 | _=>none
noncomputable def Axe:Exit→Bool
 | .normal=>true
 | _=>false
noncomputable def Ayh(n:Nat):Option Tmp→Bool
 | some d=>Nat.blt d n
 | none=>true
noncomputable def Ah9(P:Program)(xc:XC)(pf:FuncId→Bool)(rs:List ResultVar)(gc:FuncId×List AV)(r3:Exit×XS):Option (AV×Tr A4×Nat) :=
 bif An2 r3.1 then (R6 P xc pf gc.1 gc.2 r3.2.hp r3.2.nx).bind fun q=>(Amk P ⟨r3.2.tm,q.2.1,q.2.2⟩ rs).bind fun u=>some (u,q.2.1,q.2.2) else none
noncomputable def Ah8(P:Program)(xc:XC)(pf:FuncId→Bool)(pol:Bool)(rs:List ResultVar)(p:A5g)(s1:XS):Option (AV×Tr A4×Nat) :=
 (A02 P pol s1.nx p.o0.op p.o0.type s1.ev s1.hp.get).bind fun v=>(A1h (Cj (aft s1 s1.nx false p.o0.dst v).tm p.t)).bind fun gc =>
  (xc pol p.B ⟨(aft s1 s1.nx false p.o0.dst v).tm,(aft s1 s1.nx false p.o0.dst v).hp,Nat.succ s1.nx⟩).bind fun r3=>Ah9 P xc pf rs gc r3
noncomputable def Anv(P:Program)(xc:XC)(pf:FuncId→Bool)(f:FuncId)(us:List AV)(hp:Tr A4)(nx:Nat)(fn:Func)(p:A5g):Option (AV×Tr A4×Nat) :=
 bif (fits fn.ntmps p.A && (fits fn.ntmps p.B && Ayh fn.ntmps p.o0.dst)) && (Nat.ble us.length fn.ntmps && !(fn.name == "runtime.NumGoroutine")) then
  (xc (pf f) p.A ⟨A2w us 0 .nil,hp,nx⟩).bind fun r1=>bif Axe r1.1 then Ah8 P xc pf (pf f) fn.results.toList p r1.2 else none else none
noncomputable def Ro(P:Program)(xc:XC)(pf:FuncId→Bool):XF:=fun f us hp nx =>
 match (P.funcs[f]?).bind fun fn=>fn.body.bind fun c=>(A2p c).bind fun p=>some (fn,p) with
 | some r=>Anv P xc pf f us hp nx r.1 r.2
 | none=>R6 P xc pf f us hp nx
section
variable{P:Program}{C:World→Prop}{ops:Array Oper}{σ:AS}{Q:Exit→AS→Prop}
theorem Apk{u:AV}{r:FuncId×List AV}(h:fnA u=some r):u=.fn r.1 r.2∨(u=.ex (.func (.func r.1) #[] #[])∧r.2=[]):=by
 unfold fnA at h
 split at h
 ·cases h;exact .inl rfl
 ·obtain⟨f,h1,h⟩:=A5 h
  cases h
  unfold fnV at h1
  split at h1
  ·unfold An0 at h1
   obtain⟨h2,h1⟩:=A6 h1
   obtain⟨h2,h3⟩:=Ad h2
   unfold Ajs at h1
   split at h1
   ·cases h1
    refine .inr ⟨?_,rfl⟩
    congr 3
    ·apply Array.ext';simpa using h2
    ·apply Array.ext';simpa using h3
   ·cases h1
  ·cases h1
 ·cases h
theorem N9 {ev : Operand → AV} {op : Op} {fa : FuncId × List AV} (h : Mc op ev = some fa) : ∃ c, op = .call c ∧ ((c.callee=.value (.func fa.1)∧fa.2=c.args.toList.map ev) ∨
  (∃ t caps,c.callee=.value (.tmp t)∧ev (.tmp t)=.fn fa.1 caps∧fa.2=c.args.toList.map ev++caps)∨(∃ t,c.callee=.value (.tmp t)∧ev (.tmp t)=.ex (.func (.func fa.1) #[] #[])∧fa.2=c.args.toList.map ev)):=by
 cases op with
 | call c =>
  refine⟨c,rfl, ?_⟩
  change Awa ev c.args.toList c.callee=some fa at h
  cases hc:c.callee with
  | builtin b=>rw[hc] at h;change none=some fa at h;cases h
  | invoke r m=>rw[hc] at h;change none=some fa at h;cases h
  | value g =>
   rw[hc] at h
   change Awb ev c.args.toList g=some fa at h
   cases g with
   | func f =>
    have e:(f,c.args.toList.map ev)=fa:=Option.some.inj h
    subst e
    exact .inl ⟨rfl,rfl⟩
   | tmp t =>
    obtain⟨r,h1,h⟩:=A5 (show ((fnA (ev (.tmp t))).bind fun r=>some (r.1,c.args.toList.map ev++r.2))=some fa from h)
    have e:=Option.some.inj h
    subst e
    rcases Apk h1 with h2|⟨h2,h3⟩
    ·exact .inr (.inl ⟨t,r.2,rfl,h2,rfl⟩)
    ·refine .inr (.inr ⟨t,rfl,h2, ?_⟩)
     rw[h3,List.append_nil]
   | const v=>cases h
   | global g=>cases h
 | _=>cases h
theorem G4{ev:Operand→AV}{hp:Nat→Option A4}{op:Op}{ty id:Nat}{k:AV→Eff→Prop}{fa:FuncId×List AV}(h:Mc op ev=some fa)(hk:B8 P C id fa.1 hp fa.2 k):A7 P C id op ty ev hp k:=by
 obtain⟨c,hop,hw⟩:=N9 h
 clear h
 subst hop
 dsimp only[A7]
 rcases hw with⟨h1,h2⟩|⟨t,caps,h1,h2,h3⟩|⟨t,h1,h2,h3⟩
 ·rw[h1]
  rw[h2] at hk
  exact hk
 ·rw[h1]
  dsimp only
  rw[h2]
  rw[h3] at hk
  exact hk
 ·rw[h1]
  dsimp only
  rw[h2]
  rw[h3] at hk
  exact⟨⟨rfl,rfl⟩,hk⟩
theorem A35{E:XE}{pol:Bool}{orc:XO}{id:Nat}{o:Oper}{s:XS}{u:AV}{e:Eff}{k:AV→Eff→Prop}(ho:Er E.P C orc)(h:Amh E pol orc id o s=some (u,e))(hk:k u e):A7 E.P C id o.op o.type s.ev s.hp.get k:=by
 unfold Amh at h
 split at h
 ·rename_i fa hfa
  exact G4 hfa (ho _ _ _ _ _ _ h k hk)
 ·exact Fw h hk
noncomputable def A9v(ops:Array Oper)(σ:AS)(o:Oper):Prop:=o.guard=none∨∃ j want,o.guard=some (j,want)∧((ops[j]?).bind (·.dst)).map σ.tm=some (.ex (.bool want))
theorem Nd{M0:Nat→Prop}{N:Nat}{w0:Root}{F:Nat→Prop}{φ:Phi}{a:Act}{w:World}{o:Oper}(st:St P M0 N w0 F φ σ a w)(hg:A9v ops σ o):Region.wanted o (yielded ops a.tmps)=true:=by
 rcases hg with hg|⟨j,want,hg,hv⟩
 ·simp [Region.wanted,hg]
 ·cases hb:(ops[j]?).bind (·.dst) with
  | none=>rw[hb] at hv;cases hv
  | some d =>
   rw[hb] at hv
   have hy:=Fx (ops:=ops) st hb (by simpa using hv)
   simp [Region.wanted,hg,hy]
theorem Apt{rest:List Oper}{o:Oper}{b i:Nat}{f:FuncId}{ps:List AV}{R:AV→(Nat→Option A4)→Nat→Prop}(hg:A9v ops σ o)
  (hcon:ConI P C f ps σ.hp (b+i) R)
  (henter:∀ (M0:Nat→Prop) (φ:Phi) (a:Act) (w:World),(∀ x,Rep φ (Mo φ σ.hp M0) w (σ.ev x) (a.eval x))→∃ vs:List Value,RepL φ (Mo φ σ.hp M0) w ps vs∧(execOp a.eval o).run P w=.ok (.enter f vs.toArray) w)
  (hk:∀ u hp' nx',R u hp' nx'→b+i≤nx'→Hg P C ops Q rest nx' (i+1) ((⟨σ.tm,hp',nx'⟩:AS).put o.dst u)):Hg P C ops Q (o :: rest) b i σ:=by
 intro M0 N w0 a w ws σ0 hC hd hw st hn hf
 obtain⟨⟨φ,s1⟩,s2⟩:=st
 obtain⟨vs,hvs,hrun⟩:=henter M0 φ a w (fun x=>s1.evr x)
 have hhd:∀ t,o.dst=some t→t∈ws:=hw o List.mem_cons_self
 have hdo:=hd o List.mem_cons_self
 unfold wpList
 rw[if_pos (Nd s1 hg)]
 refine .inl ?_
 unfold Oper.wp
 rw[hrun]
 have hwait:=StH.wait s1 s2
 refine (hcon.2 M0 (w0.wait σ a) φ w vs hC hwait hvs).mono ?_
 rintro e w' ⟨v,u,hp',nx',φ',rfl,hR,hle,hst,hu⟩
 have hbk:=StH.back s1 hst nx'
 have:=hk u hp' nx' hR hle
 refine this M0 N w0 _ w' ws σ0 hC (fun x hx=>hd x (List.mem_cons_of_mem _ hx)) (fun x hx=>hw x (List.mem_cons_of_mem _ hx)) ⟨⟨φ', ?_⟩,fun j hj=>?_⟩ ?_ ?_
 ·exact (hbk.put hu o.dst hdo).sub fun j hj=>by omega
 ·rw[F3]
  exact hst.2 j (by omega)
 ·rw[Gq]
  show nx'≤_
  omega
 ·refine hf.trans ((show Fr ws σ (⟨σ.tm,hp',nx'⟩:AS) from ⟨fun _ _=>rfl, ?_⟩).trans (Fv _ _ _ hhd))
  show σ.nx≤nx'
  omega
theorem Ais{c:Call}{x:Operand}(h:x∈c.args.toList):x∈(Op.call c).operands:=by
 show x∈c.operands
 unfold Call.operands
 exact Array.mem_append_right _ (by simpa using h)
theorem Kv{ev:Operand→AV}{fa:FuncId×List AV}{o:Oper}(hc:Cw P fa.1)(h:Mc o.op ev=some fa)(M:Nat→Prop)(φ:Phi)(a:Act)(w:World)(hx:∀ x∈o.op.operands,Rep φ M w (ev x) (a.eval x)) :
  ∃ vs:List Value,RepL φ M w fa.2 vs∧(execOp a.eval o).run P w=.ok (.enter fa.1 vs.toArray) w:=by
 obtain⟨c,ho,h⟩:=N9 h
 rw[ho] at hx
 have ha:∀ x∈c.args.toList,Rep φ M w (ev x) (a.eval x):=fun x h=>hx x (Ais h)
 rcases h with⟨hcal,h2⟩|⟨t,caps,hcal,h2,h3⟩|⟨t,hcal,h2,h3⟩
 ·rw[h2]
  refine⟨c.args.toList.map a.eval,Rn ha, ?_⟩
  have hae:(c.args.toList.map a.eval).toArray=c.args.map a.eval:=by apply Array.ext';simp
  rw[hae,← Ei hc (c.args.map a.eval) w]
  simp [execOp,ho,resolve,hcal,Act.eval,Deferred.ofValue,invoke]
 ·have hv:=hx (.tmp t) (by show _∈c.operands;unfold Call.operands;rw[hcal];simp)
  rw[h2] at hv
  rw[h3]
  simp only[Rep] at hv
  obtain⟨vs,h4,h5⟩:=hv
  refine⟨c.args.toList.map a.eval++vs,(Rn ha).app h5, ?_⟩
  have hae:(c.args.toList.map a.eval++vs).toArray=c.args.map a.eval++vs.toArray:=by apply Array.ext';simp
  rw[hae,← Ei hc (c.args.map a.eval++vs.toArray) w]
  simp [execOp,ho,resolve,hcal,h4,Deferred.ofValue,invoke]
 ·have hv:=hx (.tmp t) (by show _∈c.operands;unfold Call.operands;rw[hcal];simp)
  rw[h2] at hv
  rw[h3]
  simp only[Rep] at hv
  refine⟨c.args.toList.map a.eval,Rn ha, ?_⟩
  have hae:(c.args.toList.map a.eval).toArray=c.args.map a.eval:=by apply Array.ext';simp
  rw[hae,← Ei hc (c.args.map a.eval) w]
  simp [execOp,ho,resolve,hcal,hv.1,Deferred.ofValue,invoke]
theorem aft_as{s:XS}{id:Nat}{r:AV×Eff}{d:Option Tmp}{draw:Bool}:(aft s id draw d r).as=({ s.as with hp:=(r.2.md draw).app id s.as.hp }.put d r.1:AS):=by
 unfold aft
 rw[Qk]
 congr 1
 show (⟨Cj s.tm,(A36 id (r.2.md draw) s.hp).get,s.nx⟩:AS)=_
 rw[R5]
 rfl
theorem Acn{s:XS}{o:Oper}{g:Bool}(h:gdG ops s o.guard=some g):(g=true→A9v ops s.as o) ∧
  (g=false→∃ j want,o.guard=some (j,want)∧((∃ t,((ops[j]?).bind (·.dst)).map s.as.tm=some (.ex (.bool t))∧t≠want)∨((ops[j]?).bind (·.dst)).map s.as.tm=some .und)):=by
 cases hg:o.guard with
 | none =>
  rw[hg] at h
  cases h
  exact⟨fun _=>.inl hg,fun h=>by cases h⟩
 | some jw =>
  obtain⟨j,want⟩:=jw
  rw[hg] at h
  obtain⟨d,h1,h⟩:=A5 (show (((ops[j]?).bind (·.dst)).bind fun d=>gdA want (Cj s.tm d))=some g from h)
  have h2:((ops[j]?).bind (·.dst)).map s.as.tm=some (Cj s.tm d):=by rw[h1];rfl
  unfold gdA at h
  split at h
  ·rename_i v hv
   unfold gdV at h
   split at h
   ·rename_i t
    cases h
    rw[hv] at h2
    refine⟨fun ht=>?_,fun ht=>?_⟩
    ·have:=eq_of_beq ht
     subst this
     exact .inr ⟨j,t,hg,h2⟩
    ·exact⟨j,want,rfl,.inl ⟨t,h2,fun e=>by subst e;simp at ht⟩⟩
   ·cases h
  ·rename_i hv
   cases h
   rw[hv] at h2
   exact⟨(fun h=>by cases h),fun _=>⟨j,want,rfl,.inr h2⟩⟩
  ·cases h
theorem A8x(B:Dj P C){rest:List Oper}{o:Oper}{b i:Nat}{u:AV}(hg:A9v ops σ o)
  (hop:∀ (M0:Nat→Prop) (N:Nat) (w0:Root) (F:Nat→Prop) (φ:Phi) (a:Act) (w:World),St P M0 N w0 F φ σ a w→C w→∃ v,Rep φ (Mo φ σ.hp M0) w u v∧(execOp a.eval o).run P w=.ok (.value v) w)
  (hk:Hg P C ops Q rest b (i+1) (σ.put o.dst u)):Hg P C ops Q (o :: rest) b i σ:=by
 intro M0 N w0 a w ws σ0 hC hd hw st hn hf
 obtain⟨⟨φ,s1⟩,s2⟩:=st
 obtain⟨v,hv,hrun⟩:=hop M0 N w0 _ φ a w s1 (B.on _ _ hC s1.below)
 have hhd:∀ t,o.dst=some t→t∈ws:=hw o List.mem_cons_self
 have hdo:=hd o List.mem_cons_self
 unfold wpList
 rw[if_pos (Nd s1 hg)]
 refine .inl (Eg hrun ?_)
 refine hk M0 N w0 _ w ws σ0 hC (fun x hx=>hd x (List.mem_cons_of_mem _ hx)) (fun x hx=>hw x (List.mem_cons_of_mem _ hx)) ⟨⟨φ,(s1.put hv o.dst hdo).sub fun j hj=>by omega⟩,fun j hj=>?_⟩ ?_ (hf.trans (Fv _ _ _ hhd))
 ·rw[F3];exact s2 j (by omega)
 ·rw[Gq];omega
theorem Gh{E:XE}(B:Dj E.P C)(hG:I6 C E.G){pol:Bool}{xf:XF}(ho:Er E.P C E.orc)(hx:Hi E.P C xf):∀ (rest:List Oper) (b i:Nat) (s s':XS),A01 E pol xf ops rest b i s=some s'→Q .normal s'.as→Hg E.P C ops Q rest b i s.as
 | [],b,i,s,s',h,hq=>by
  cases h
  exact Cd hq
 | o :: rest,b,i,s,s',h,hq=>by
  have com:∀ r:AV×Eff,(∀ k:AV→Eff→Prop,k r.1 r.2→A7 E.P C (b+i) o.op o.type s.ev s.hp.get k)→Hg E.P C ops Q rest b (i+1) (aft s (b+i) false o.dst r).as→A9v ops s.as o→Hg E.P C ops Q (o :: rest) b i s.as:=by
   intro r ha ih hg
   rw[aft_as] at ih
   refine Bh B [o] i s.as ?_
   have hop:aop E.P C false false (b+i) o (fun σ1=>Hg E.P C ops Q rest b (i+[o].length) σ1) s.as:=by
    unfold aop
    rw[XS.ev_as]
    exact ha _ ⟨(fun hd=>by cases hd),ih⟩
   unfold Ax
   rcases hg with hg|⟨j,want,hg,hv⟩
   ·rw[hg]
    simpa [Ax] using hop
   ·rw[hg]
    dsimp only
    refine .inl ⟨want,hv, ?_⟩
    rw[if_pos rfl]
    simpa [Ax] using hop
  obtain⟨g,hg,h⟩:=A5 (show ((gdG ops s o.guard).bind fun g=>bif g then (Arc E pol xf b i o s).bind fun r=>A01 E pol xf ops rest r.2 (i+1) r.1 else A01 E pol xf ops rest b (i+1) (s.put o.dst .und))=some s' from h)
  obtain⟨hg1,hg2⟩:=Acn hg
  cases g with
  | false =>
   rw[cond_false] at h
   have ih:=Gh B hG ho hx rest b (i+1) _ s' h hq
   rw[Qk] at ih
   obtain⟨j,want,hgd,hv⟩:=hg2 rfl
   refine Bh B [o] i s.as ?_
   unfold Ax
   rw[hgd]
   dsimp only
   rcases hv with⟨t,hv,hne⟩|hv
   ·refine .inl ⟨t,hv, ?_⟩
    rw[if_neg hne]
    unfold Ax
    exact ih
   ·refine .inr ⟨hv, ?_⟩
    unfold Ax
    exact ih
  | true =>
   rw[cond_true] at h
   have hgo:=hg1 rfl
   obtain⟨r,hr,h⟩:=A5 h
   have ih:=Gh B hG ho hx rest r.2 (i+1) _ s' h hq
   unfold Arc at hr
   split at hr
   ·rename_i fa hfa
    unfold Ank at hr
    split at hr
    ·rename_i q hq2
     cases hr
     exact com q (fun k hk=>G4 hfa (ho _ _ _ _ _ _ hq2 k hk)) ih hgo
    ·obtain⟨q,hq2,hr⟩:=A5 hr
     cases hr
     have hcon:=hx _ _ _ _ _ _ _ (show xf fa.1 fa.2 s.hp (b+i)=some (q.1,q.2.1,q.2.2) from hq2)
     refine Apt (σ:=s.as) hgo hcon (fun M0 φ a w hx=>Kv hcon.1 hfa _ φ a w fun x _=>by have:=hx x;rw[XS.ev_as] at this;exact this) ?_
     rintro u hp' nx' ⟨rfl,rfl,rfl⟩ _
     rw[Qk] at ih
     exact ih
   ·unfold Ann at hr
    split at hr
    ·rename_i u hu
     cases hr
     rw[Qk] at ih
     exact A8x B hgo (fun M0 N w0 F φ a w st hC=>R8 hG (by rw[XS.ev_as];exact hu) st hC) ih
    ·obtain⟨q,hq2,hr⟩:=A5 hr
     cases hr
     exact com q (fun k hk=>Fw hq2 hk) ih hgo
theorem Gg{E:XE}{pol:Bool}{orc:XO}(ho:Er E.P C orc){nd b:Nat}{K:AS→Prop}:∀ (rest:List Oper) (i:Nat) (s s':XS),A00 E pol orc ops nd b rest i s=some s'→K s'.as→Ax E.P C ops nd b i rest K s.as
 | [],i,s,s',h,hq=>by
  cases h
  exact hq
 | o :: rest,i,s,s',h,hq=>by
  obtain⟨g,hg,h⟩:=A5 (show ((gdG ops s o.guard).bind fun g=>bif g then (Amh E pol orc (b+i) o s).bind fun r=>(bif (!Nat.blt i nd) || Ap0 (Nat.beq (i+1) nd) s.hp r.2 then A00 E pol orc ops nd b rest (i+1) (aft s (b+i) (Nat.blt i nd) o.dst r) else none) else A00 E pol orc ops nd b rest (i+1) (s.put o.dst .und))=some s' from h)
  obtain⟨hg1,hg2⟩:=Acn hg
  cases g with
  | false =>
   rw[cond_false] at h
   have ih:=Gg ho rest (i+1) _ s' h hq
   rw[Qk] at ih
   obtain⟨j,want,hgd,hv⟩:=hg2 rfl
   unfold Ax
   rw[hgd]
   dsimp only
   rcases hv with⟨t,hv,hne⟩|hv
   ·refine .inl ⟨t,hv, ?_⟩
    rw[if_neg hne]
    exact ih
   ·exact .inr ⟨hv,ih⟩
  | true =>
   rw[cond_true] at h
   obtain⟨r,hr,h⟩:=A5 h
   obtain⟨h1,h⟩:=A6 h
   have ih:=Gg ho rest (i+1) _ s' h hq
   rw[aft_as] at ih
   have e1:Nat.blt i nd=decide (i<nd):=by
    cases hb:Nat.blt i nd with
    | true=>exact (decide_eq_true (Gm hb)).symm
    | false => exact (decide_eq_false fun hlt=>by
      have:Nat.blt i nd=true:=Nat.ble_eq_true_of_le hlt
      rw[hb] at this;cases this).symm
   have e2:Nat.beq (i+1) nd=decide (i+1=nd):=by
    by_cases e:i+1=nd
    ·rw[K1 e];exact (decide_eq_true e).symm
    ·rw[Ms e];exact (decide_eq_false e).symm
   rw[e1] at ih h1
   rw[e2] at h1
   have hop:aop E.P C (decide (i<nd)) (decide (i+1=nd)) (b+i) o (Ax E.P C ops nd b (i+1) rest K) s.as:=by
    unfold aop
    rw[XS.ev_as]
    refine A35 ho hr ⟨fun hd=>?_,ih⟩
    rw[hd] at h1
    exact Aj9 (by simpa using h1)
   unfold Ax
   rcases hg1 rfl with hgd|⟨j,want,hgd,hv⟩
   ·rw[hgd]
    exact hop
   ·rw[hgd]
    dsimp only
    refine .inl ⟨want,hv, ?_⟩
    rw[if_pos rfl]
    exact hop
end
end Go.Proofs.YtbhffbgbhgjdiaaGreatDoor
namespace Go.Proofs.YtbhffbgbhgjdiaaGreatDoor
open Go.RowKit
set_option maxRecDepth 100000
noncomputable def eqL{α:Type}(f:α→α→Bool):List α→List α→Bool
 | [],[]=>true
 | u :: us,v :: vs=>f u v && eqL f us vs
 | _,_=>false
noncomputable def P9(f:AV→AV→Bool):AV→AV→Bool
 | .agg a,.agg b=>eqL f a b
 | .tup a,.tup b=>eqL f a b
 | .sl a,.sl b=>eqL (eqL f) a b
 | .asl a b c,.asl a' b' c'=>Nat.beq a a' && (Nat.beq b b' && Nat.beq c c')
 | .und,.und=>true
 | .fn a b,.fn a' b'=>Nat.beq a a' && eqL f b b'
 | u,v=>Aal u v
noncomputable def X5:AV→AV→Bool:=P9 (P9 (P9 (P9 (P9 Aal))))
theorem Il{α:Type}{f:α→α→Bool}(hf:∀ u v,f u v=true→u=v):∀ {us vs:List α},eqL f us vs=true→us=vs
 | [],[],_=>rfl
 | u :: us,v :: vs,h=>by
  obtain⟨h1,h2⟩:=Ad (show (f u v && eqL f us vs)=true from h)
  rw[hf _ _ h1,Il hf h2]
 | [],_ :: _,h=>by cases h
 | _ :: _,[],h=>by cases h
theorem If{f:AV→AV→Bool}(hf:∀ u v,f u v=true→u=v)(u v:AV)(h:P9 f u v=true):u=v:=by
 unfold P9 at h
 split at h
 ·rw[Il hf h]
 ·rw[Il hf h]
 ·rw[Il (fun _ _ h=>Il hf h) h]
 ·obtain⟨h1,h2⟩:=Ad h
  obtain⟨h2,h3⟩:=Ad h2
  rw[Bd h1,Bd h2,Bd h3]
 ·rfl
 ·obtain⟨h1,h2⟩:=Ad h
  rw[Bd h1,Il hf h2]
 ·exact U4 h
theorem Kp{u v:AV}(h:X5 u v=true):u=v :=
 If (If (If (If (If fun _ _ h=>U4 h)))) u v h
abbrev HB:=Tr A4×Nat
noncomputable def A6w(id:Nat)(hb:HB)(r:AV×Eff):AV×Option HB:=match r.2 with
 | .none=>(r.1,none)
 | .frz []=>(r.1,none)
 | e=>(r.1,some (A36 id e hb.1,hb.2))
noncomputable def Ab7(orc:XO)(xf:XF)(n i:Nat)(hb:HB)(fa:FuncId×List AV):Option (AV×Option HB) :=
 match orc fa.1 hb.1.get fa.2 (Nat.add hb.2 i) with
 | some r=>some (A6w (Nat.add hb.2 i) hb r)
 | none=>(xf fa.1 fa.2 hb.1 (Nat.add hb.2 n)).bind fun r=>bif Nat.ble hb.2 r.2.2 then some (r.1,some (r.2.1,r.2.2)) else none
noncomputable def Arn(E:XE)(pol:Bool)(o:Oper)(i:Nat)(ev:Operand→AV)(hb:HB):Option (AV×Option HB) :=
 match Rp E.P E.G o.op o.type ev hb.1.get with
 | some u=>some (u,none)
 | none=>(A02 E.P pol (Nat.add hb.2 i) o.op o.type ev hb.1.get).bind fun r=>some (A6w (Nat.add hb.2 i) hb r)
noncomputable def G7(E:XE)(pol:Bool)(orc:XO)(xf:XF)(n:Nat)(o:Oper)(i:Nat)(tm:Tr AV)(hb:HB):Option (AV×Option HB) :=
 match Mc o.op (XS.ev ⟨tm,hb.1,hb.2⟩) with
 | some fa=>Ab7 orc xf n i hb fa
 | none=>Arn E pol o i (XS.ev ⟨tm,hb.1,hb.2⟩) hb
structure CR where
 o:Oper
 i:Nat
 u:AV
 hv:Bool
 tm:Tr AV
 c:Nat
noncomputable def A2g(tm:Tr AV)(d:Option Tmp)(u:AV):Tr AV:=match d with
 | some d=>Ri u d tm
 | none=>tm
noncomputable def Ang(hs:List HB):Option HB→List HB
 | some x=>x :: hs
 | none=>hs
noncomputable def Ayj(E:XE)(pol:Bool)(orc:XO)(xf:XF)(n:Nat)(o:Oper)(i:Nat)(tm:Tr AV):List HB→Option (AV×Option HB)
 | hb :: _=>G7 E pol orc xf n o i tm hb
 | []=>none
noncomputable def Afr(E:XE)(pol:Bool)(orc:XO)(xf:XF)(n:Nat)(l:List Oper):Nat→Tr AV→List HB→Option (List CR×List HB×Tr AV) :=
 List.rec (fun _ tm hs=>some ([],hs,tm)) (fun o _ ih i tm hs=>(Ayj E pol orc xf n o i tm hs).bind fun r=>(ih (Nat.succ i) (A2g tm o.dst r.1) (Ang hs r.2)).bind fun q=>some (⟨o,i,r.1,r.2.isSome,tm,Nat.sub hs.length 1⟩ :: q.1,q.2)) l
noncomputable def okC(ms:List Nat)(i c:Nat)(ch:List Nat):Nat→Bool:=List.rec (fun _=>true) (fun h _ ih m=>(!(ms.getD i 0).testBit h || Nat.blt m c) && ((!(ms.getD h 0).testBit i || Nat.ble c m) && ih (Nat.succ m))) ch
noncomputable def A4v(u:AV):Option (AV×Option HB)→Bool
 | some (v,none)=>X5 v u
 | _=>false
noncomputable def ckC(E:XE)(pol:Bool)(orc:XO)(xf:XF)(n:Nat)(ms ch:List Nat)(r:CR)(l:List HB):Nat→Bool :=
 List.rec (fun _=>true) (fun hb _ ih c=>(Nat.beq c r.c || (!okC ms r.i c ch 0 || A4v r.u (G7 E pol orc xf n r.o r.i r.tm hb))) && ih (Nat.succ c)) l
def hdC(ms:List Nat)(h:Nat):List Nat→Bool
 | []=>true
 | h' :: _=>(ms.getD h' 0).testBit h
def A4h(ms:List Nat):List Nat→Bool
 | []=>true
 | h :: ch=>hdC ms h ch && A4h ms ch
noncomputable def F1:List CR→List Nat
 | []=>[]
 | r :: rs=>bif r.hv then r.i :: F1 rs else F1 rs
noncomputable def Aww(E:XE)(pol:Bool)(orc:XO)(xf:XF)(n:Nat)(ms:List Nat)(p:List CR×List HB×Tr AV)(ch:List Nat)(hs:List HB):Option XS :=
 bif A4h ms ch && p.1.all fun r => r.hv || ckC E pol orc xf n ms ch r hs 0 then (match p.2.1 with
  | hb :: _=>some ⟨p.2.2,hb.1,Nat.add hb.2 n⟩
  | []=>none) else none
noncomputable def A5c(E:XE)(pol:Bool)(xf:XF)(ops:Array Oper)(s:XS):Option XS :=
 bif D5 ops ops.size && ops.toList.all fun o=>o.guard.isNone then
  (Afr E pol (Vh E.orc xf) xf ops.size ops.toList 0 s.tm [(s.hp,s.nx)]).bind fun p=>Aww E pol (Vh E.orc xf) xf ops.size (Ym [] ops.toList) p (F1 p.1) p.2.1.reverse
 else none
section
variable{E:XE}{C:World→Prop}{pol:Bool}{orc:XO}{xf:XF}{n:Nat}
theorem Se(id:Nat)(hb:HB)(r:AV×Eff):(A6w id hb r=(r.1,none)∧(r.2=.none∨r.2=.frz []))∨A6w id hb r=(r.1,some (A36 id r.2 hb.1,hb.2)):=by
 obtain⟨u,f⟩:=r
 cases f with
 | none=>exact .inl ⟨rfl,.inl rfl⟩
 | frz bs =>
  cases bs with
  | nil=>exact .inl ⟨rfl,.inr rfl⟩
  | cons b bs=>exact .inr rfl
 | _=>exact .inr rfl
theorem J8(tm:Tr AV)(hp:Tr A4)(b:Nat):XS.ev ⟨tm,hp,b⟩=evT (Cj tm):=by
 rw[← XS.ev_as,Jz]
 rfl
theorem A38{P:Program}{G:Glb}{op:Op}{ty:TypeId}{ev ev':Operand→AV}{hp:Nat→Option A4}(h:∀ x∈op.operands,ev' x=ev x):Rp P G op ty ev' hp=Rp P G op ty ev hp:=by
 cases op with
 | assign x=>rfl
 | binOp op t x y yt =>
  have h1:=h x (by simp [Op.operands])
  have h2:=h y (by simp [Op.operands])
  unfold Rp
  dsimp only
  rw[h1,h2]
 | load t x =>
  have h1:=h x (by simp [Op.operands])
  unfold Rp
  dsimp only
  rw[h1]
 | indexAddr t x i =>
  have h1:=h x (by simp [Op.operands])
  have h2:=h i (by simp [Op.operands])
  unfold Rp
  dsimp only
  rw[h1,h2]
 | fieldAddr s x f =>
  have h1:=h x (by simp [Op.operands])
  unfold Rp
  dsimp only
  rw[h1]
 | _=>rfl
theorem A1f(hG:I6 C E.G)(ho:Er E.P C orc){o:Oper}{i:Nat}{tm:Tr AV}{hb:HB}{u:AV}(h:G7 E pol orc xf n o i tm hb=some (u,none)):A0h E.P C o i u (Cj tm) hb.1.get hb.2:=by
 unfold G7 at h
 have pure:∀ r:AV×Eff,A6w (Nat.add hb.2 i) hb r=(u,none)→r.1=u∧(r.2=.none∨r.2=.frz []):=by
  intro r hr
  rcases Se (Nat.add hb.2 i) hb r with⟨h1,h2⟩|h1
  ·rw[h1] at hr;cases hr;exact⟨rfl,h2⟩
  ·rw[h1] at hr;cases hr
 split at h
 ·rename_i fa hfa
  unfold Ab7 at h
  split at h
  ·rename_i r hr
   obtain⟨h1,h2⟩:=pure r (Option.some.inj h)
   refine .inl ?_
   have:=G4 (ty:=o.type) hfa (ho _ _ _ _ _ _ (show orc fa.1 hb.1.get fa.2 (hb.2+i)=some (r.1,r.2) from hr) (fun u' f'=>u'=u∧(f'=.none∨f'=.frz [])) ⟨h1,h2⟩)
   rwa [J8] at this
  ·obtain⟨r,_,h⟩:=A5 h
   obtain⟨_,h⟩:=A6 h
   cases h
 ·unfold Arn at h
  split at h
  ·rename_i v hv
   cases h
   refine .inr fun M0 N w0 F φ σ a w st hh hC hx=>?_
   rw[J8] at hv
   exact R8 hG (by rw[A38 hx,hh];exact hv) st hC
  ·obtain⟨r,hr,h⟩:=A5 h
   obtain⟨h1,h2⟩:=pure r (Option.some.inj h)
   refine .inl ?_
   have:=Fw (C:=C) (k:=fun u' f'=>u'=u∧(f'=.none∨f'=.frz [])) (show A02 E.P pol (hb.2+i) o.op o.type _ hb.1.get=some (r.1,r.2) from hr) ⟨h1,h2⟩
   rwa [J8] at this
theorem Xx(ho:Er E.P C orc)(hx:Hi E.P C xf){o:Oper}{i:Nat}{tm:Tr AV}{hb hb':HB}{u:AV}(h:G7 E pol orc xf n o i tm hb=some (u,some hb')):Tw E.P C n o i u (Cj tm) hb.1.get hb'.1.get hb.2 hb'.2∧hb.2≤hb'.2:=by
 unfold G7 at h
 have heavy:∀ r:AV×Eff,A6w (Nat.add hb.2 i) hb r=(u,some hb')→r.1=u∧hb'=(A36 (Nat.add hb.2 i) r.2 hb.1,hb.2):=by
  intro r hr
  rcases Se (Nat.add hb.2 i) hb r with⟨h1,h2⟩|h1
  ·rw[h1] at hr;cases hr
  ·rw[h1] at hr;cases hr;exact⟨rfl,rfl⟩
 split at h
 ·rename_i fa hfa
  unfold Ab7 at h
  split at h
  ·rename_i r hr
   obtain⟨h1,rfl⟩:=heavy r (Option.some.inj h)
   refine⟨.inl ⟨r.2, ?_,R5 _ _ _,rfl⟩,Nat.le_refl _⟩
   have:=G4 (ty:=o.type) hfa (ho _ _ _ _ _ _ (show orc fa.1 hb.1.get fa.2 (hb.2+i)=some (r.1,r.2) from hr) (fun u' f'=>u'=u∧f'=r.2) ⟨h1,rfl⟩)
   rwa [J8] at this
  ·obtain⟨r,hr,h⟩:=A5 h
   obtain⟨hle,h⟩:=A6 h
   cases h
   have hcon:=hx _ _ _ _ _ _ _ (show xf fa.1 fa.2 hb.1 (hb.2+n)=some (r.1,r.2.1,r.2.2) from hr)
   refine⟨.inr ⟨fa.1,fa.2,hcon,fun M0 φ a w hr=>?_⟩,Ai hle⟩
   refine Kv hcon.1 hfa _ φ a w fun x hxm=>?_
   rw[J8]
   exact hr x hxm
 ·unfold Arn at h
  split at h
  ·cases h
  ·obtain⟨r,hr,h⟩:=A5 h
   obtain⟨h1,rfl⟩:=heavy r (Option.some.inj h)
   refine⟨.inl ⟨r.2, ?_,R5 _ _ _,rfl⟩,Nat.le_refl _⟩
   have:=Fw (C:=C) (k:=fun u' f'=>u'=u∧f'=r.2) (show A02 E.P pol (hb.2+i) o.op o.type _ hb.1.get=some (r.1,r.2) from hr) ⟨h1,rfl⟩
   rwa [J8] at this
def Ou(E:XE)(pol:Bool)(orc:XO)(xf:XF)(n:Nat):List CR→List Oper→Nat→Tr AV→HB→Nat→List HB→Tr AV→Prop
 | [],rest,_,tm,_,_,news,tmF=>rest=[]∧news=[]∧tmF=tm
 | r :: rs,rest,i,tm,hb,c,news,tmF=>∃ rest',rest=r.o :: rest'∧r.i=i∧r.tm=tm∧r.c=c ∧
  ((r.hv=false∧G7 E pol orc xf n r.o i tm hb=some (r.u,none)∧Ou E pol orc xf n rs rest' (i+1) (A2g tm r.o.dst r.u) hb c news tmF) ∨
   (r.hv=true∧∃ hb' news',news=hb' :: news'∧G7 E pol orc xf n r.o i tm hb=some (r.u,some hb')∧Ou E pol orc xf n rs rest' (i+1) (A2g tm r.o.dst r.u) hb' (c+1) news' tmF))
theorem K9:∀ (rest:List Oper) (i:Nat) (tm:Tr AV) (hb:HB) (hs:List HB) (recs:List CR) (hsF:List HB) (tmF:Tr AV),Afr E pol orc xf n rest i tm (hb :: hs)=some (recs,hsF,tmF) →
  ∃ news,Ou E pol orc xf n recs rest i tm hb hs.length news tmF∧hsF=news.reverse++hb :: hs
 | [],i,tm,hb,hs,recs,hsF,tmF,h=>by
  cases h
  exact⟨[],⟨rfl,rfl,rfl⟩,rfl⟩
 | o :: rest,i,tm,hb,hs,recs,hsF,tmF,h=>by
  obtain⟨r,h1,h⟩:=A5 (show ((G7 E pol orc xf n o i tm hb).bind fun r=>(Afr E pol orc xf n rest (i+1) (A2g tm o.dst r.1) (Ang (hb :: hs) r.2)).bind fun q=>some ((⟨o,i,r.1,r.2.isSome,tm,(hb :: hs).length-1⟩ :: q.1,q.2):List CR×List HB×Tr AV))=some (recs,hsF,tmF) from h)
  obtain⟨⟨q1,q2,q3⟩,h2,h⟩:=A5 h
  cases h
  obtain⟨u,x⟩:=r
  cases x with
  | none =>
   obtain⟨news,g1,g2⟩:=K9 rest (i+1) _ hb hs _ _ _ h2
   exact⟨news,⟨rest,rfl,rfl,rfl,rfl,.inl ⟨rfl,h1,g1⟩⟩,g2⟩
  | some hb' =>
   obtain⟨news,g1,g2⟩:=K9 rest (i+1) _ hb' (hb :: hs) _ _ _ h2
   exact⟨hb' :: news,⟨rest,rfl,rfl,rfl,rfl,.inr ⟨rfl,hb',news,rfl,h1,g1⟩⟩,by rw[g2];simp⟩
theorem A2n:∀ {recs:List CR} {rest:List Oper} {i:Nat} {tm:Tr AV} {hb:HB} {c:Nat} {news:List HB} {tmF:Tr AV},Ou E pol orc xf n recs rest i tm hb c news tmF→recs.length=rest.length∧(F1 recs).length=news.length ∧
  (∀ (k : Nat) (r : CR), recs[k]? = some r → r.i = i + k ∧ rest[k]? = some r.o ∧ ∃ m hk, r.c = c + m ∧ m ≤ news.length ∧ (hb :: news)[m]? = some hk ∧ ((r.hv=false∧G7 E pol orc xf n r.o r.i r.tm hk=some (r.u,none)∧r.i ∉ F1 recs) ∨
    (r.hv=true∧(F1 recs)[m]?=some r.i∧∃ hk',(hb :: news)[m+1]?=some hk'∧G7 E pol orc xf n r.o r.i r.tm hk=some (r.u,some hk')))) ∧
  (∀ (m h:Nat),(F1 recs)[m]?=some h→∃ (k:Nat) (r:CR),recs[k]?=some r∧h=r.i∧r.hv=true∧r.c=c+m)∧(∀ h∈F1 recs,i≤h∧h<i+recs.length)∧(F1 recs).Nodup
 | [],rest,i,tm,hb,c,news,tmF,h=>by
  obtain⟨rfl,rfl,rfl⟩:=h
  exact⟨rfl,rfl,fun k r hr=>by simp at hr,fun m h hm=>by simp [F1] at hm,fun h hm=>by simp [F1] at hm,List.nodup_nil⟩
 | r :: rs,rest,i,tm,hb,c,news,tmF,h=>by
  obtain⟨rest',rfl,hi,htm,hc,h⟩:=h
  rcases h with⟨hv,he,h⟩|⟨hv,hb',news',rfl,he,h⟩
  ·obtain⟨g1,g2,g3,g4,g5,g6⟩:=A2n h
   have ech:F1 (r :: rs)=F1 rs:=by
    show (bif r.hv then r.i :: F1 rs else F1 rs)=F1 rs
    rw[hv];rfl
   rw[ech]
   refine⟨by simp [g1],g2,fun k q hq=>?_,fun m x hm=>?_,fun x hx=>?_,g6⟩
   ·cases k with
    | zero =>
     have e:r=q:=by simpa using hq
     subst e
     refine⟨by rw[hi];rfl,rfl,0,hb,by rw[hc];rfl,Nat.zero_le _,rfl,.inl ⟨hv,by rw[hi,htm];exact he,fun hm=>?_⟩⟩
     have:=(g5 _ hm).1
     omega
    | succ k =>
     obtain⟨f1,f2,m,hk,f3,f4,f5,f6⟩:=g3 k q (by simpa using hq)
     exact⟨by rw[f1];omega,by simpa using f2,m,hk,f3,f4,f5,f6⟩
   ·obtain⟨k,q,f1,f2,f3,f4⟩:=g4 m x hm
    exact⟨k+1,q,by simpa using f1,f2,f3,f4⟩
   ·have:=g5 x hx
    rw[List.length_cons]
    omega
  ·obtain⟨g1,g2,g3,g4,g5,g6⟩:=A2n h
   have ech:F1 (r :: rs)=r.i :: F1 rs:=by
    show (bif r.hv then r.i :: F1 rs else F1 rs)=r.i :: F1 rs
    rw[hv];rfl
   rw[ech]
   refine⟨by simp [g1],by simp [g2],fun k q hq=>?_,fun m x hm=>?_,fun x hx=>?_, ?_⟩
   ·cases k with
    | zero =>
     have e:r=q:=by simpa using hq
     subst e
     exact⟨by rw[hi];rfl,rfl,0,hb,by rw[hc];rfl,Nat.zero_le _,rfl,.inr ⟨hv,rfl,hb',rfl,by rw[hi,htm];exact he⟩⟩
    | succ k =>
     obtain⟨f1,f2,m,hk,f3,f4,f5,f6⟩:=g3 k q (by simpa using hq)
     refine⟨by rw[f1];omega,by simpa using f2,m+1,hk,by rw[f3];omega,by simpa using f4,by simpa using f5, ?_⟩
     rcases f6 with⟨a1,a2,a3⟩|⟨a1,a2,a3⟩
     ·refine .inl ⟨a1,a2,fun hm=>?_⟩
      rcases List.mem_cons.1 hm with hm|hm
      ·rw[hi,f1] at hm;omega
      ·exact a3 hm
     ·exact .inr ⟨a1,by simpa using a2,by simpa using a3⟩
   ·cases m with
    | zero =>
     have e:r.i=x:=by simpa using hm
     exact⟨0,r,rfl,e.symm,hv,by rw[hc];rfl⟩
    | succ m =>
     obtain⟨k,q,f1,f2,f3,f4⟩:=g4 m x (by simpa using hm)
     exact⟨k+1,q,by simpa using f1,f2,f3,by rw[f4];omega⟩
   ·rw[List.length_cons]
    rcases List.mem_cons.1 hx with hx|hx
    ·rw[hx,hi];omega
    ·have:=g5 x hx
     omega
   ·refine List.nodup_cons.2 ⟨fun hm=>?_,g6⟩
    have:=(g5 _ hm).1
    omega
theorem Agb{ops:Array Oper}{vs tm0:Nat→AV}(hO:Ord ops ops.size):∀ {recs:List CR} {rest:List Oper} {i:Nat} {tm:Tr AV} {hb:HB} {c:Nat} {news:List HB} {tmF:Tr AV},Ou E pol orc xf n recs rest i tm hb c news tmF→rest=ops.toList.drop i→i+rest.length=ops.size→(∀ k r,recs[k]?=some r→vs (i+k)=r.u) →
  Cj tm=A8 ops ops.size vs tm0 (fun q=>decide (q<i))→(∀ k r,recs[k]?=some r→Cj r.tm=A8 ops ops.size vs tm0 (fun q=>decide (q<i+k)))∧Cj tmF=A8 ops ops.size vs tm0 (fun q=>decide (q<ops.size))
 | [],rest,i,tm,hb,c,news,tmF,h,h1,h2,h3,h4=>by
  obtain⟨rfl,rfl,rfl⟩:=h
  refine⟨fun k r hr=>by simp at hr, ?_⟩
  rw[h4]
  have:i=ops.size:=by simpa using h2
  rw[this]
 | r :: rs,rest,i,tm,hb,c,news,tmF,h,h1,h2,h3,h4=>by
  obtain⟨rest',rfl,hi,htm,hc,h⟩:=h
  have hlt:i<ops.size:=by simp at h2;omega
  have hoi:ops[i]?=some r.o:=by
   have e0:(ops.toList.drop i)[0]?=some r.o:=by rw[← h1];rfl
   rw[List.getElem?_drop] at e0
   simpa using e0
  have hrest:rest'=ops.toList.drop (i+1):=by
   have e0:=congrArg List.tail h1
   simpa [List.tail_drop] using e0
  have hvi:vs i=r.u:=h3 0 r rfl
  have nxt:Cj (A2g tm r.o.dst r.u)=A8 ops ops.size vs tm0 (fun q=>decide (q<i+1)):=by
   funext t
   by_cases hd:r.o.dst=some t
   ·rw[Hd hO hlt (by simp) hoi hd,hd,hvi]
    show Cj (Ri r.u t tm) t=r.u
    rw[Jd,if_pos rfl]
   ·have e1:Cj (A2g tm r.o.dst r.u) t=Cj tm t:=by
     cases hdd:r.o.dst with
     | none=>rfl
     | some d =>
      show Cj (Ri r.u d tm) t=Cj tm t
      rw[Jd,if_neg fun e=>hd (by rw[hdd,e])]
    rw[e1,h4]
    refine Ce hO fun x o' hx ho' hd'=>⟨?_,fun _=>rfl⟩
    have hne:x≠i:=fun e=>by subst e;rw[hoi] at ho';cases ho';exact hd hd'
    simp;omega
  have fin:∀ {hb' c' news'},Ou E pol orc xf n rs rest' (i+1) (A2g tm r.o.dst r.u) hb' c' news' tmF→(∀ k q,(r :: rs)[k]?=some q→Cj q.tm=A8 ops ops.size vs tm0 (fun x=>decide (x<i+k)))∧Cj tmF=A8 ops ops.size vs tm0 (fun q=>decide (q<ops.size)):=by
   intro hb' c' news' h
   obtain⟨g1,g2⟩:=Agb hO h hrest (by simp at h2;omega) (fun k q hq=>by rw[show i+1+k=i+(k+1) by omega];exact h3 (k+1) q (by simpa using hq)) nxt
   refine⟨fun k q hq=>?_,g2⟩
   cases k with
   | zero =>
    have e:r=q:=by simpa using hq
    subst e
    rw[htm];exact h4
   | succ k =>
    rw[show i+(k+1)=i+1+k by omega]
    exact g1 k q (by simpa using hq)
  rcases h with⟨_,_,h⟩|⟨_,hb',news',rfl,_,h⟩
  ·exact fin h
  ·exact fin h
theorem Afc{ms:List Nat}{i c:Nat}:∀ {ch:List Nat} {m0:Nat},(∀ m h,ch[m]?=some h→((ms.getD i 0).testBit h=true→m0+m<c)∧((ms.getD h 0).testBit i=true→c≤m0+m))→okC ms i c ch m0=true
 | [],_,_=>rfl
 | h :: ch,m0,hh=>by
  have h0:=hh 0 h rfl
  have ih:okC ms i c ch (m0+1)=true:=Afc fun m g hg=>by
   have:=hh (m+1) g (by simpa using hg)
   rw[show m0+1+m=m0+(m+1) by omega]
   exact this
  show ((!(ms.getD i 0).testBit h || Nat.blt m0 c) && ((!(ms.getD h 0).testBit i || Nat.ble c m0) && okC ms i c ch (m0+1)))=true
  rw[ih]
  cases b1:(ms.getD i 0).testBit h with
  | false =>
   cases b2:(ms.getD h 0).testBit i with
   | false=>rfl
   | true =>
    have:=h0.2 b2
    have:Nat.ble c m0=true:=Nat.ble_eq_true_of_le (by omega)
    rw[this];rfl
  | true =>
   have:=h0.1 b1
   have e1:Nat.blt m0 c=true:=Nat.ble_eq_true_of_le (by omega)
   rw[e1]
   cases b2:(ms.getD h 0).testBit i with
   | false=>rfl
   | true =>
    have:=h0.2 b2
    have:Nat.ble c m0=true:=Nat.ble_eq_true_of_le (by omega)
    rw[this];rfl
theorem Agc{u:AV}{x:Option (AV×Option HB)}(h:A4v u x=true):x=some (u,none):=by
 unfold A4v at h
 split at h
 ·rw[Kp h]
 ·cases h
theorem Abd{ms ch:List Nat}{r:CR}:∀ {l:List HB} {c0:Nat},ckC E pol orc xf n ms ch r l c0=true→∀ k hb,l[k]?=some hb→c0+k=r.c∨okC ms r.i (c0+k) ch 0=false∨G7 E pol orc xf n r.o r.i r.tm hb=some (r.u,none)
 | [],_,_,k,hb,hk=>by simp at hk
 | x :: l,c0,h,k,hb,hk=>by
  obtain⟨h1,h2⟩:=Ad (show ((Nat.beq c0 r.c || (!okC ms r.i c0 ch 0 || A4v r.u (G7 E pol orc xf n r.o r.i r.tm x))) && ckC E pol orc xf n ms ch r l (c0+1))=true from h)
  cases k with
  | zero =>
   have e:x=hb:=by simpa using hk
   subst e
   rw[Bool.or_eq_true,Bool.or_eq_true] at h1
   rcases h1 with h1|h1|h1
   ·exact .inl (Bd h1)
   ·exact .inr (.inl (by simpa using h1))
   ·exact .inr (.inr (Agc h1))
  | succ k =>
   have:=Abd h2 k hb (by simpa using hk)
   rwa [show c0+1+k=c0+(k+1) by omega] at this
theorem Yk{ms:List Nat}:∀ {ch:List Nat},A4h ms ch=true→∀ m h h':Nat,ch[m]?=some h→ch[m+1]?=some h'→(ms.getD h' 0).testBit h=true
 | [],_,m,h,h',hm,_=>by simp at hm
 | x :: ch,hl,m,h,h',hm,hm'=>by
  obtain⟨h1,h2⟩:=Ad (show (hdC ms x ch && A4h ms ch)=true from hl)
  cases m with
  | zero =>
   have e:x=h:=by simpa using hm
   subst e
   cases ch with
   | nil=>simp at hm'
   | cons y ch =>
    have e:y=h':=by simpa using hm'
    subst e
    exact h1
  | succ m=>exact Yk h2 m h h' (by simpa using hm) (by simpa using hm')
theorem Nq(Bs:Dj E.P C)(hG:I6 C E.G)(ho:Er E.P C (Vh E.orc xf))(hx:Hi E.P C xf){rg:Nat}{ops:Array Oper}{s s':XS}{Q:Exit→AS→Prop}(h:A5c E pol xf ops s=some s')(hq:Q .normal s'.as):awp E.P C (.region rg ops true) Q s.as:=by
 unfold A5c at h
 obtain⟨h1,h⟩:=A6 h
 obtain⟨h1,h2⟩:=Ad h1
 obtain⟨⟨recs,hsF,tmF⟩,h3,h⟩:=A5 h
 unfold Aww at h
 obtain⟨h4,h⟩:=A6 h
 obtain⟨h4a,h5⟩:=Ad h4
 clear h4
 dsimp only at h4a h5 h
 have hO:=Fs h1
 obtain⟨news,hr,rfl⟩:=K9 _ _ _ _ _ _ _ _ h3
 have hr:Ou E pol (Vh E.orc xf) xf ops.size recs ops.toList 0 s.tm (s.hp,s.nx) 0 news tmF:=hr
 have hrev:(news.reverse++[(s.hp,s.nx)]).reverse=(s.hp,s.nx) :: news:=by simp
 rw[hrev] at h5
 obtain⟨g1,g2,g3,g4,g5,g6⟩:=A2n hr
 have hlen:recs.length=ops.size:=by rw[g1];simp
 have at_:∀ i,i<ops.size→∃ r,recs[i]?=some r:=fun i hi=>⟨recs[i]'(by omega),List.getElem?_eq_getElem _⟩
 let vs:Nat→AV:=fun q=>((recs[q]?).map (·.u)).getD .junk
 have hvs:∀ k r,recs[k]?=some r→vs (0+k)=r.u:=fun k r hk=>by
  show ((recs[0+k]?).map (·.u)).getD .junk=r.u
  rw[Nat.zero_add,hk];rfl
 have htm0:Cj s.tm=A8 ops ops.size vs (Cj s.tm) (fun q=>decide (q<0)):=by
  funext t
  exact (Di fun _ _ _ _ _=>by simp).symm
 obtain⟨t1,t2⟩:=Agb (vs:=vs) (tm0:=Cj s.tm) hO hr (by simp) (by simp) hvs htm0
 let L:=(s.hp,s.nx) :: news
 have hL:∀ c,c≤news.length→∃ hb,L[c]?=some hb:=fun c hc=>⟨L[c]'(by show c<news.length+1;omega),List.getElem?_eq_getElem _⟩
 let H:Nat→Nat→Option A4:=fun c=>((L[c]?).map fun hb=>hb.1.get).getD fun _=>none
 let B:Nat→Nat:=fun c=>((L[c]?).map (·.2)).getD 0
 have hH:∀ c hb,L[c]?=some hb→H c=hb.1.get∧B c=hb.2:=fun c hb hc=>by
  show ((L[c]?).map fun hb=>hb.1.get).getD _=_∧((L[c]?).map (·.2)).getD 0=_
  rw[hc];exact⟨rfl,rfl⟩
 have hms:=Ao (ops:=ops) ops.toList [] (fun j=>by simp) (fun j i hb=>by simp at hb)
 have heavy:∀ m h o,(F1 recs)[m]?=some h→ops[h]?=some o→Tw E.P C ops.size o h (vs h) (A8 ops ops.size vs (Cj s.tm) fun q=>decide (q<h)) (H m) (H (m+1)) (B m) (B (m+1))∧B m≤B (m+1):=by
  intro m h o hm ho'
  obtain⟨k,r,f1,f2,f3,f4⟩:=g4 m h hm
  obtain⟨e1,e2,m',hk,e3,e4,e5,e6⟩:=g3 k r f1
  have hmm:m'=m:=by omega
  subst hmm
  rcases e6 with⟨e6,_⟩|⟨_,_,hk',e7,e8⟩
  ·rw[f3] at e6;cases e6
  ·have hh:h=k:=by rw[f2,e1];omega
   subst hh
   have hor:r.o=o:=by
    have:ops[h]?=some r.o:=by simpa using e2
    rw[this] at ho';cases ho';rfl
   have:=Xx ho hx e8
   rw[t1 h r f1,hor,Nat.zero_add,show r.i=h by omega] at this
   obtain⟨a1,a2⟩:=hH m' hk e5
   obtain⟨a3,a4⟩:=hH (m'+1) hk' e7
   rw[a1,a2,a3,a4,show vs h=r.u by have:=hvs h r f1;rwa [Nat.zero_add] at this]
   exact this
 have hstep:∀ c,c<news.length→B c≤B (c+1):=by
  intro c hc
  obtain⟨h,hh⟩:∃ h,(F1 recs)[c]?=some h:=⟨(F1 recs)[c]'(by omega),List.getElem?_eq_getElem _⟩
  have hlt:=(g5 h (List.mem_of_getElem? hh)).2
  exact (heavy c h ops[h] hh (Array.getElem?_eq_getElem (by omega))).2
 have hmono:∀ c,c≤news.length→B 0≤B c:=by
  intro c
  induction c with
  | zero=>exact fun _=>Nat.le_refl _
  | succ c ih=>exact fun hc=>Nat.le_trans (ih (by omega)) (hstep c (by omega))
 have hok:A3c E.P C ops s.as vs (F1 recs) H B:=by
  refine⟨rfl,rfl,fun c hc=>hmono c (by omega),fun h hm=>by have:=(g5 h hm).2;omega,g6,fun m h h' hm hm'=>hms h' h (Yk h4a m h h' hm hm'),fun o hom=>?_,fun m h o hm ho'=>(heavy m h o hm ho').1, ?_⟩
  ·have:=List.all_eq_true.1 h2 o hom
   simpa using this
  ·intro i o ho' hni c hc hcc
   have hi:i<ops.size:=(Array.getElem?_eq_some_iff.1 ho').1
   obtain⟨r,hr'⟩:=at_ i hi
   obtain⟨e1,e2,m',hk,e3,e4,e5,e6⟩:=g3 i r hr'
   have hri:r.i=i:=by omega
   have hor:r.o=o:=by
    have:ops[i]?=some r.o:=by simpa using e2
    rw[this] at ho';cases ho';rfl
   have hvi:vs i=r.u:=by have:=hvs i r hr';rwa [Nat.zero_add] at this
   rcases e6 with⟨e6,e7,_⟩|⟨_,e6,_⟩
   rotate_left
   ·rw[hri] at e6
    exact absurd (List.mem_of_getElem? e6) hni
   have fin:∀ hb,L[c]?=some hb→G7 E pol (Vh E.orc xf) xf ops.size r.o r.i r.tm hb=some (r.u,none)→A0h E.P C o i (vs i) (A8 ops ops.size vs s.as.tm fun q=>decide (q<i)) (H c) (B c):=by
    intro hb hb1 hb2
    have:=A1f hG ho hb2
    rw[t1 i r hr',hor,hri,Nat.zero_add] at this
    obtain⟨a1,a2⟩:=hH c hb hb1
    rw[a1,a2,hvi]
    exact this
   obtain⟨hb,hbc⟩:=hL c (by omega)
   have hck:=List.all_eq_true.1 h5 r (List.mem_of_getElem? hr')
   rw[e6,Bool.false_or] at hck
   rcases Abd hck c hb hbc with hcc2|hcc2|hcc2
   ·have:m'=c:=by omega
    subst this
    rw[e5] at hbc
    cases hbc
    exact fin _ e5 e7
   ·exfalso
    rw[Afc (fun m h hm=>?_)] at hcc2
    ·cases hcc2
    ·have:=hcc m h hm
     rw[hri,Nat.zero_add,Nat.zero_add]
     exact⟨fun hb=>this.1 (hms i h hb),fun hb=>this.2 (hms h i hb)⟩
   ·exact fin _ hbc hcc2
 refine Bx Bs hO hok ?_
 have hlast:∃ hb,L[news.length]?=some hb∧s'=⟨tmF,hb.1,hb.2+ops.size⟩:=by
  split at h
  ·rename_i hb rest heq
   cases h
   refine⟨hb, ?_,rfl⟩
   have e:L=(news.reverse++[(s.hp,s.nx)]).reverse:=hrev.symm
   rw[e,heq,List.reverse_cons]
   have el:rest.length=news.length:=by
    have:=congrArg List.length heq
    simpa using this.symm
   rw[List.getElem?_append_right (by simp [el])]
   simp [el]
  ·cases h
 obtain⟨hb,q1,rfl⟩:=hlast
 obtain⟨a1,a2⟩:=hH news.length hb q1
 rw[g2,a1,a2]
 have e:(⟨tmF,hb.1,hb.2+ops.size⟩:XS).as=⟨Cj tmF,hb.1.get,hb.2+ops.size⟩:=rfl
 rw[e,t2] at hq
 exact hq
end
end Go.Proofs.YtbhffbgbhgjdiaaGreatDoor
namespace Go.Proofs.YtbhffbgbhgjdiaaGreatDoor
open Go.RowKit
set_option maxRecDepth 100000
def Oj(P:Program)(C:World→Prop)(f:FuncId)(us:List AV)(hp:Nat→Option A4)(nx:Nat)(R:AV→(Nat→Option A4)→Nat→Prop):Prop :=
 Cw P f∧∀ (M0:Nat→Prop) (w0:Root) (φ:Phi) (w:World) (args:List Value),C w0.toWorld→StH P M0 w0 φ hp nx w→RepL φ (Mo φ hp M0) w us args →
  CallsD P f args.toArray .returning w fun e u' w'=>u'=.returning∧∃ v u hp' nx' φ',e=.returned v∧R u hp' nx'∧nx≤nx'∧StH P M0 w0 φ' hp' nx' w'∧Rep φ' (Mo φ' hp' M0) w' u v
section
variable{P:Program}{C:World→Prop}{w0:Root}{M0:Nat→Prop}{N:Nat}{φ:Phi}{σ:AS}{a:Act}{w:World}{F:Nat→Prop}
theorem Y4{us:List AV}{args:List Value}{hp:Nat→Option A4}{nx n:Nat}(st:StH P M0 w0 φ hp nx w)(hr:RepL φ (Mo φ hp M0) w us args)(hn:us.length≤n) :
  StC P M0 n { w0 with df:=[] } ⟨fun t=>us.getD t .junk,hp,nx⟩ { tmps:=args.toArray++Array.replicate (n-args.toArray.size) undef,defers:=[] } w:=by
 have hl:=RepL.len hr
 refine⟨⟨φ,(st.1.re rfl rfl rfl rfl rfl (by simp;omega) (fun t=>?_) st.1.gh)⟩,st.2⟩
 show Rep φ (Mo φ hp M0) w (us.getD t .junk) _
 rcases Nat.lt_or_ge t us.length with hlt|hge
 ·obtain⟨v,h1,h2⟩:=hr.get (List.getElem?_eq_getElem hlt)
  rw[List.getD_eq_getElem?_getD,List.getElem?_eq_getElem hlt]
  have:(args.toArray++Array.replicate (n-args.toArray.size) undef).getD t undef=v:=by
   rw[Array.getD_eq_getD_getElem?,Array.getElem?_append_left (by simp;omega)]
   simp [h1]
  rw[this]
  exact h2
 ·rw[List.getD_eq_getElem?_getD,List.getElem?_eq_none hge]
  simp only[Option.getD_none,Rep]
theorem Pj(B:Dj P C){f:FuncId}{fn:Func}{c:Code}(hf:P.funcs[f]?=some fn)(hb:fn.body=some c)(hnm:(fn.name == "runtime.NumGoroutine")=false){us:List AV}(hfit:fits fn.ntmps c=true)(hn:us.length≤fn.ntmps){hp:Nat→Option A4}{nx:Nat}{R:AV→(Nat→Option A4)→Nat→Prop}
  (h:awp P C c (Kl fun σ=>C1 P fn.results σ fun u=>R u σ.hp σ.nx) ⟨fun t=>us.getD t .junk,hp,nx⟩):Oj P C f us hp nx R:=by
 refine⟨⟨fn,hf,by rw[hb];rfl,hnm⟩,fun M0 w0 φ w args hC st hr=>?_⟩
 refine callsD_of_wp hf hb (wp_mono (Eh B.mixed B.on (w0:={ w0 with df:=[] }) hC c _ _ _ _ h hfit (Y4 st hr hn)) ?_)
 rintro e a' w' ⟨σ',hq,⟨⟨φ',s1⟩,s2⟩,hfr⟩
 have fin:(C1 P fn.results σ' fun u=>R u σ'.hp σ'.nx)→bodyPost P fn (fun e w'=>∃ v u hp' nx' φ',e=.returned v∧R u hp' nx'∧nx≤nx'∧StH P M0 w0 φ' hp' nx' w'∧Rep φ' (Mo φ' hp' M0) w' u v) .ret a' w':=by
  intro hq
  obtain⟨u,v,h1,h2,h3⟩:=M4 s1 hq
  refine⟨s1.defers,v,h3,v,u,σ'.hp,σ'.nx,φ',rfl,h1,hfr.2,⟨(St.re (N':=0) (w1:=w0) (σ':=⟨fun _=>.und,σ'.hp,σ'.nx⟩) (a':={ tmps:=#[],defers:=w0.df }) s1 rfl rfl rfl rfl rfl rfl (fun t=>by simp [Rep,Array.getD]) s1.gh).sub fun j hj=>by omega,fun j hj=>s2 j (by omega)⟩,h2⟩
 cases e with
 | normal=>exact fin hq
 | ret=>exact fin hq
 | exit i=>exact hq.elim
 | goto l=>exact hq.elim
 | panic ch=>exact hq.elim
 | outgrown=>exact hq.elim
structure A3d(fn:Func)(A:Code)(o0 o1:Oper)(t:Nat)(Bc:Code):Prop where
 body:∃ r ops,fn.body=some (.seq A (.seq (.region r ops false) Bc))∧ops.toList=[o0,o1]
 g0:o0.guard=none
 g1:o1.guard=none
 op:∃ c,o1.op=.defer c∧c.callee=.value (.tmp t)∧c.args=#[]
 dst:o1.dst=none
 fit:fits fn.ntmps A=true∧fits fn.ntmps Bc=true∧∀ d,o0.dst=some d→d<fn.ntmps
theorem J7(B:Dj P C){f:FuncId}{fn:Func}{A Bc:Code}{o0 o1:Oper}{t:Nat}(hf:P.funcs[f]?=some fn)(hd:A3d fn A o0 o1 t Bc)(hnm:(fn.name == "runtime.NumGoroutine")=false){us:List AV}(hn:us.length≤fn.ntmps)
  {hp:Nat→Option A4} {nx:Nat} {R:AV→(Nat→Option A4)→Nat→Prop}
  (h : awp P C A (fun e σ1 => e = .normal ∧ aop P C false false σ1.nx o0 (fun σ2=>∃ g caps,σ2.tm t=.fn g caps ∧
    awp P C Bc (Kl fun σ3=>∃ R',Oj P C g caps σ3.hp σ3.nx R'∧∀ u h' n',R' u h' n'→C1 P fn.results ⟨σ3.tm,h',n'⟩ fun u=>R u h' n') { σ2 with nx:=σ1.nx+1 }) σ1) ⟨fun t=>us.getD t .junk,hp,nx⟩):ConI P C f us hp nx R:=by
 obtain⟨⟨r,ops,hb,hops⟩,hg0,hg1,⟨c,ho1,hcal,hargs⟩,hdst,hfA,hfB,hfd⟩:=hd
 refine⟨⟨fn,hf,by rw[hb];rfl,hnm⟩,fun M0 w0 φ w args hC st hr=>?_⟩
 refine calls_of_wp_defers hf hb (wp_seq (wp_mono (Eh B.mixed B.on (w0:={ w0 with df:=[] }) hC A _ _ _ _ h hfA (Y4 st hr hn)) ?_))
 rintro e a1 w1 ⟨σ1,⟨rfl,hop⟩,st1,hfr1⟩
 refine wp_seq (wp_region_list ?_)
 rw[hops]
 unfold wpList
 rw[if_pos (by simp [Region.wanted,hg0])]
 refine .inl (M3 (w0:={ w0 with df:=[] }) (b:=σ1.nx) (i:=0) B.on hC hfd hop st1 fun σ2 a2 w2 h2 st2 hfr2 hnx2=>?_)
 obtain⟨g,caps,ht,hB⟩:=h2
 obtain⟨⟨φ2,s2⟩,s2n⟩:=st2
 have hv:=s2.tmr t
 rw[ht] at hv
 simp only[Rep] at hv
 obtain⟨vals,hv1,hv2⟩:=hv
 unfold wpList
 rw[if_pos (by simp [Region.wanted,hg1])]
 refine .inl ?_
 have hev:a2.eval (.tmp t)=.func (.func g) #[] vals.toArray:=hv1
 unfold Oper.wp
 have hrun:(execOp a2.eval o1).run P w2=.ok (.defer { target:=.fn (.func g) vals.toArray,args:=#[] }) w2:=by
  simp [execOp,ho1,resolve,hcal,hargs,hev,Deferred.ofValue]
 rw[hrun,Oper.upon_defer,hdst]
 show Code.wp P Bc _ { a2 with defers:=_ :: a2.defers } w2
 have hd2:a2.defers=[]:=s2.defers
 rw[hd2]
 have st3:StC P M0 fn.ntmps { w0 with df:=[{ target:=.fn (.func g) vals.toArray,args:=#[] }],gs:=fun u v=>w0.gs u v∨(u=.fn g caps∧v=.func (.func g) #[] vals.toArray) } { σ2 with nx:=σ1.nx+1 } { a2 with defers:=[{ target:=.fn (.func g) vals.toArray,args:=#[] }] } w2:=by
  refine⟨⟨φ2,St.re (N':=fn.ntmps) s2 rfl rfl rfl rfl rfl s2.size s2.tmr ?_⟩,fun j hj=>s2n j (by omega)⟩
  rintro u v (hg|⟨rfl,rfl⟩)
  ·exact s2.gh u v hg
  ·simp only[Rep]
   exact⟨vals,rfl,hv2⟩
 refine wp_mono (Eh B.mixed B.on (w0:={ w0 with df:=[{ target:=.fn (.func g) vals.toArray,args:=#[] }],gs:=fun u v=>w0.gs u v∨(u=.fn g caps∧v=.func (.func g) #[] vals.toArray) }) hC Bc _ _ _ _ hB hfB st3) ?_
 rintro e a3 w3 ⟨σ3,hq,⟨⟨φ3,s3⟩,s3n⟩,hfr3⟩
 have hle:nx≤σ3.nx:=by
  have h1:=hfr1.2
  have h3:=hfr3.2
  dsimp only at h1 h3
  omega
 have fin:(∃ R',Oj P C g caps σ3.hp σ3.nx R'∧∀ u h' n',R' u h' n'→C1 P fn.results ⟨σ3.tm,h',n'⟩ fun u=>R u h' n')→Leaves P fn a3.tmps (fun e w'=>∃ v u hp' nx' φ',e=.returned v∧R u hp' nx'∧nx≤nx'∧StH P M0 w0 φ' hp' nx' w'∧Rep φ' (Mo φ' hp' M0) w' u v) a3.defers .returning w3:=by
  rintro⟨R',hcon,hk⟩
  rw[s3.defers]
  have hclo:=s3.gh (.fn g caps) (.func (.func g) #[] vals.toArray) (.inr ⟨rfl,rfl⟩)
  simp only[Rep] at hclo
  obtain⟨vs,hvs,hcaps⟩:=hclo
  have hvv:vals=vs:=by
   injection hvs with _ _ h3
   simpa using h3
  subst hvv
  refine⟨by simp,.func g,vals.toArray,g,vals.toArray,rfl, ?_, ?_⟩
  ·show (callFunc g (#[]++vals.toArray)).run P w3=_
   rw[show (#[]++vals.toArray:Array Value)=vals.toArray by simp]
   exact Ei hcon.1 _ w3
  ·have s3':St P M0 fn.ntmps _ (fun j=>σ3.nx≤j) φ3 σ3 a3 w3:=s3.sub fun j hj=>by omega
   have hn3:∀ j,σ3.nx≤j→σ3.hp j=none:=fun j hj=>s3n j (by omega)
   have hwait:=StH.wait s3' hn3
   refine (hcon.2 M0 (Root.wait { w0 with df:=[{ target:=.fn (.func g) vals.toArray,args:=#[] }],gs:=fun u v=>w0.gs u v∨(u=.fn g caps∧v=.func (.func g) #[] vals.toArray) } σ3 a3) φ3 w3 vals hC hwait hcaps).mono ?_
   rintro e u' w4 ⟨rfl,v,u,hp',nx',φ',rfl,hR',hle',hst,hu⟩
   show Leaves P fn a3.tmps _ [] (settle .returning) w4
   have hbk:=StH.back s3' hst nx'
   obtain⟨u2,v2,h5,h6,h7⟩:=M4 hbk (hk u hp' nx' hR')
   exact⟨v2,h7,v2,u2,hp',nx',φ',rfl,h5,by omega,⟨St.re (N':=0) (w1:=w0) (σ':=⟨fun _=>.und,hp',nx'⟩) (a':={ tmps:=#[],defers:=w0.df }) hbk rfl rfl rfl rfl rfl rfl (fun t=>by simp [Rep,Array.getD]) (fun u v hg=>hbk.gh u v (.inl hg)),hst.2⟩,h6⟩
 cases e with
 | normal=>exact fin hq
 | ret=>exact fin hq
 | exit i=>exact hq.elim
 | goto l=>exact hq.elim
 | panic ch=>exact hq.elim
 | outgrown=>exact hq.elim
end
end Go.Proofs.YtbhffbgbhgjdiaaGreatDoor
namespace Go.Proofs.YtbhffbgbhgjdiaaGreatDoor
open Go.RowKit
set_option maxRecDepth 100000
abbrev XK:=XE→XC→Bool→XS→Option (Exit×XS)
noncomputable def kNo:XK:=fun _ _ _ _=>none
noncomputable def A4b:XK:=fun _ _ _ s=>some (.normal,s)
noncomputable def Ad9(ops:Array Oper):XK:=fun E xc pol s=>bif D5 ops (drawn ops) then (A00 E pol (Vh E.orc (Ro E.P xc E.pf)) ops (drawn ops) s.nx ops.toList 0 s).bind fun s'=>some (.normal,⟨s'.tm,s'.hp,Nat.add s.nx ops.size⟩) else none
noncomputable def Ad8(ops:Array Oper):XK:=fun E xc pol s=>match A5c E pol (Ro E.P xc E.pf) ops s with
 | some s'=>some (.normal,s')
 | none=>Ad9 ops E xc pol s
noncomputable def Adb(ops:Array Oper):XK:=fun E xc pol s=>(A01 E pol (Ro E.P xc E.pf) ops ops.toList s.nx 0 s).bind fun s'=>some (.normal,s')
noncomputable def Ak3(ops:Array Oper)(d:Bool):XK:=match d with
 | true=>Ad8 ops
 | false=>Adb ops
noncomputable def thn(k:XS→Option (Exit×XS))(r:Exit×XS):Option (Exit×XS):=match r.1 with
 | .normal=>k r.2
 | e=>some (e,r.2)
noncomputable def A7i(a b:Code):XK:=fun _ xc pol s=>(xc pol a s).bind fun r=>thn (xc pol b) r
noncomputable def nqB:List (List AV)→Option Bool
 | _ :: _=>some false
 | []=>none
noncomputable def Aox:AV→Option Bool
 | .ex v=>O1 v
 | .nq es=>nqB es
 | _=>none
noncomputable def Sp(c:Operand)(x y:Code):XK:=fun _ xc pol s=>(Aox (s.ev c)).bind fun t=>bif t then xc pol x s else xc pol y s
noncomputable def B0c(id:Nat)(r:Exit×XS):Exit×XS:=match r.1 with
 | .exit i=>bif Nat.beq i id then (.normal,r.2) else (.exit i,r.2)
 | e=>(e,r.2)
noncomputable def Ml(id:Nat)(c:Code):XK:=fun _ xc pol s=>(xc pol c s).bind fun r=>some (B0c id r)
noncomputable def Sq(c:Code):XK:=fun _ xc pol s=>(xc pol c s).bind fun r=>thn (xc pol (.loop c)) r
noncomputable def An5(id:Nat):XK:=fun _ _ _ s=>some (.exit id,s)
noncomputable def Axi:XK:=fun _ _ _ s=>some (.ret,s)
noncomputable def B0j:Exit→Bool
 | .goto _=>true
 | _=>false
noncomputable def Mm(c:Code):XK:=fun _ xc pol s=>(xc pol c s).bind fun r=>bif B0j r.1 then none else some r
noncomputable def Ana(c:Code):XK:=match c with
 | .skip=>A4b
 | .region _ ops d=>Ak3 ops d
 | .seq a b=>A7i a b
 | .cond c x y=>Sp c x y
 | .block id c=>Ml id c
 | .loop c=>Sq c
 | .exit id=>An5 id
 | .ret=>Axi
 | .label _=>A4b
 | .scope c=>Mm c
 | _=>kNo
noncomputable def Ez(E:XE)(n:Nat):XC:=Nat.rec (fun _ _ _=>none) (fun _ ih pol c s=>Ana c E ih pol s) n
section
variable{P:Program}{C:World→Prop}
theorem C5{s:XS}{r:ResultVar}{u:AV}{k:AV→Prop}(h:Ix P s r=some u)(hk:k u):B1 P s.as r k:=by
 cases r with
 | tmp t=>cases h;exact hk
 | cell x ty =>
  change Ahc P s ty (Cj s.tm x)=some u at h
  unfold Ahc at h
  unfold B1
  dsimp only
  split at h
  ·rename_i b j off hx
   have hx':s.as.tm x=.pt b j off:=hx
   rw[hx']
   dsimp only
   obtain⟨β,hβ,h⟩:=A5 h
   obtain⟨e,he,h⟩:=A5 h
   exact⟨β,e,hβ,he,Fi h hk⟩
  ·cases h
theorem R9{s:XS}{rs:Array ResultVar}{u:AV}{k:AV→Prop}(h:Amk P s rs.toList=some u)(hk:k u):C1 P rs s.as k:=by
 unfold C1
 unfold Amk at h
 split at h
 ·rename_i hr;rw[hr];cases h;exact hk
 ·rename_i r hr;rw[hr];exact C5 h hk
 ·rename_i r q hr
  rw[hr]
  obtain⟨u1,h1,h⟩:=A5 h
  obtain⟨u2,h2,h⟩:=A5 h
  cases h
  exact C5 h1 (C5 h2 hk)
 ·rename_i r q z hr
  rw[hr]
  obtain⟨u1,h1,h⟩:=A5 h
  obtain⟨u2,h2,h⟩:=A5 h
  obtain⟨u3,h3,h⟩:=A5 h
  cases h
  exact C5 h1 (C5 h2 (C5 h3 hk))
 ·rename_i r q z y hr
  rw[hr]
  obtain⟨u1,h1,h⟩:=A5 h
  obtain⟨u2,h2,h⟩:=A5 h
  obtain⟨u3,h3,h⟩:=A5 h
  obtain⟨u4,h4,h⟩:=A5 h
  cases h
  exact C5 h1 (C5 h2 (C5 h3 (C5 h4 hk)))
 ·cases h
def Ty(P:Program)(C:World→Prop)(xc:XC):Prop:=∀ pol c s e s',xc pol c s=some (e,s')→∀ Q:Exit→AS→Prop,Q e s'.as→awp P C c Q s.as
theorem Acy(us:List AV)(hp:Tr A4)(nx:Nat):(⟨fun t=>us.getD t .junk,hp.get,nx⟩:AS)=(⟨A2w us 0 .nil,hp,nx⟩:XS).as:=by
 show _=(⟨Cj (A2w us 0 .nil),hp.get,nx⟩:AS)
 congr 1
 funext t
 exact (Aek us t).symm
theorem Tn{xc:XC}{pf:FuncId→Bool}(hxc:Ty P C xc){f:FuncId}{us:List AV}{hp hp':Tr A4}{nx nx':Nat}{u:AV}(h:R6 P xc pf f us hp nx=some (u,hp',nx')) :
  ∃ fn c,P.funcs[f]?=some fn∧fn.body=some c∧(fn.name == "runtime.NumGoroutine")=false∧fits fn.ntmps c=true∧us.length≤fn.ntmps ∧
   awp P C c (Kl fun σ=>C1 P fn.results σ fun u0=>u0=u∧σ.hp=hp'.get∧σ.nx=nx') ⟨fun t=>us.getD t .junk,hp.get,nx⟩:=by
 unfold R6 at h
 obtain⟨fn,hf,h⟩:=A5 h
 obtain⟨c,hb,h⟩:=A5 h
 obtain⟨h1,h⟩:=A6 h
 obtain⟨h1,h2⟩:=Ad h1
 obtain⟨h2,h3⟩:=Ad h2
 obtain⟨⟨e,s⟩,hs,h⟩:=A5 h
 unfold B04 at h
 obtain⟨he,h⟩:=A6 h
 obtain⟨u0,h4,h⟩:=A5 h
 cases h
 refine⟨fn,c,hf,hb,by simpa using h3,h1,Ai h2, ?_⟩
 rw[Acy]
 have h6:C1 P fn.results s.as fun u1=>u1=u∧s.hp.get=s.hp.get∧s.nx=s.nx:=R9 h4 ⟨rfl,rfl,rfl⟩
 refine hxc _ _ _ _ _ hs _ ?_
 cases e<;>first|exact h6|cases he
theorem Zz(B:Dj P C){xc:XC}{pf:FuncId→Bool}(hxc:Ty P C xc):Hi P C (R6 P xc pf):=by
 intro f us hp nx u hp' nx' h
 obtain⟨fn,c,hf,hb,h3,h1,h2,h⟩:=Tn hxc h
 exact En B hf hb h3 h1 h2 h
theorem W4(B:Dj P C){xc:XC}{pf:FuncId→Bool}(hxc:Ty P C xc){f:FuncId}{us:List AV}{hp hp':Tr A4}{nx nx':Nat}{u:AV}(h:R6 P xc pf f us hp nx=some (u,hp',nx')) :
  Oj P C f us hp.get nx fun u0 h0 n0=>u0=u∧h0=hp'.get∧n0=nx':=by
 obtain⟨fn,c,hf,hb,h3,h1,h2,h⟩:=Tn hxc h
 exact Pj B hf hb h3 h1 h2 h
theorem A91{c:Code}{p:A5g}{fn:Func}(hb:fn.body=some c)(h:A2p c=some p)(hfit:fits fn.ntmps p.A=true∧fits fn.ntmps p.B=true∧∀ d,p.o0.dst=some d→d<fn.ntmps):A3d fn p.A p.o0 p.o1 p.t p.B:=by
 unfold A2p at h
 split at h
 ·rename_i a b
  unfold Agl at h
  split at h
  ·rename_i r c
   unfold Agk at h
   split at h
   ·rename_i rg ops d
    obtain⟨hd,h⟩:=Et h
    obtain⟨o,h1,h⟩:=A5 h
    obtain⟨t,h2,h⟩:=A5 h
    obtain⟨h3,h⟩:=A6 h
    cases h
    subst hd
    unfold Awp at h2
    split at h2
    ·rename_i cl hcl
     obtain⟨h4,h2⟩:=A6 h2
     obtain⟨h4,h5⟩:=Ad h4
     unfold Awq at h2
     split at h2
     ·rename_i t' hcal
      obtain⟨h6,h2⟩:=A6 h2
      cases h2
      exact⟨⟨rg,ops,hb,Ke h1⟩,by simpa using h3,by simpa using h4,⟨cl,hcl,hcal,by apply Array.ext';simpa using h6⟩,by simpa using h5,hfit⟩
     ·cases h2
    ·cases h2
   ·cases h
  ·cases h
 ·cases h
theorem Kf(B:Dj P C){xc:XC}{pf:FuncId→Bool}(hxc:Ty P C xc):Hi P C (Ro P xc pf):=by
 intro f us hp nx u hp' nx' h
 unfold Ro at h
 split at h
 ·rename_i r hr
  obtain⟨fn,hf,hr⟩:=A5 hr
  obtain⟨c,hb,hr⟩:=A5 hr
  obtain⟨p,hp,hr⟩:=A5 hr
  cases hr
  dsimp only at h
  unfold Anv at h
  obtain⟨h1,h⟩:=A6 h
  obtain⟨h1,h2⟩:=Ad h1
  obtain⟨h1,h1b⟩:=Ad h1
  obtain⟨h1b,h1c⟩:=Ad h1b
  obtain⟨h2,h3⟩:=Ad h2
  obtain⟨⟨e1,s1⟩,hs1,h⟩:=A5 h
  obtain⟨he1,h⟩:=A6 h
  unfold Ah8 at h
  obtain⟨v,hv,h⟩:=A5 h
  obtain⟨⟨g,caps⟩,hg,h⟩:=A5 h
  obtain⟨⟨e3,s3⟩,hs3,h⟩:=A5 h
  unfold Ah9 at h
  obtain⟨he3,h⟩:=A6 h
  obtain⟨q,hq,h⟩:=A5 h
  obtain⟨u0,hu,h⟩:=A5 h
  cases h
  have hdst:∀ d,p.o0.dst=some d→d<fn.ntmps:=fun d hd=>by
   rw[hd] at h1c
   exact Gm h1c
  refine J7 B hf (A91 hb hp ⟨h1,h1b,hdst⟩) (by simpa using h3) (Ai h2) ?_
  rw[Acy]
  have hn1:e1=.normal:=by cases e1<;>first|rfl|cases he1
  subst hn1
  refine hxc _ _ _ _ _ hs1 _ ⟨rfl, ?_⟩
  unfold aop
  rw[XS.ev_as]
  refine Fw (show A02 P (pf f) (s1.nx+0) p.o0.op p.o0.type s1.ev s1.hp.get=some (v.1,v.2) from hv) ⟨(fun hd=>by cases hd), ?_⟩
  have hlg:A1h (Cj (aft s1 s1.nx false p.o0.dst v).tm p.t)=some (g,caps):=hg
  have e2:({ s1.as with hp:=(v.2.md false).app s1.nx s1.as.hp }.put p.o0.dst v.1:AS)=(aft s1 s1.nx false p.o0.dst v).as:=aft_as.symm
  show ∃ g caps,({ s1.as with hp:=(v.2.md false).app s1.nx s1.as.hp }.put p.o0.dst v.1:AS).tm p.t=.fn g caps∧_
  rw[e2]
  refine⟨g,caps, ?_, ?_⟩
  ·show Cj (aft s1 s1.nx false p.o0.dst v).tm p.t=.fn g caps
   unfold A1h at hlg
   split at hlg
   ·rename_i heq
    cases hlg
    exact heq
   ·cases hlg
  ·have e4:(⟨s1.as.tm,(v.2.md false).app s1.as.nx s1.as.hp,s1.as.nx⟩:AS).put p.o0.dst v.1=(aft s1 s1.nx false p.o0.dst v).as:=aft_as.symm
   rw[e4]
   show awp P C p.B _ (⟨(aft s1 s1.nx false p.o0.dst v).tm,(aft s1 s1.nx false p.o0.dst v).hp,s1.nx+1⟩:XS).as
   refine hxc _ _ _ _ _ hs3 _ ?_
   have fin:∃ R',Oj P C g caps s3.as.hp s3.as.nx R'∧∀ u' h' n',R' u' h' n'→C1 P fn.results ⟨s3.as.tm,h',n'⟩ fun u1=>u1=u∧h'=q.2.1.get∧n'=q.2.2:=by
    refine⟨_,W4 B hxc (show R6 P xc pf g caps s3.hp s3.nx=some (q.1,q.2.1,q.2.2) from hq), ?_⟩
    rintro u' h' n' ⟨rfl,rfl,rfl⟩
    exact R9 (s:=⟨s3.tm,q.2.1,q.2.2⟩) hu ⟨rfl,rfl,rfl⟩
   cases e3<;>first|exact fin|cases he3
 ·exact Zz B hxc _ _ _ _ _ _ _ h
theorem Jy{f:FuncId}{us:List AV}{u r:AV}{hp':Nat→Option A4}{nx':Nat}{ids:List Nat}(hcon:ConI P C f us (fun _=>none) 0 fun u0 h0 n0=>u0=u∧h0=hp'∧n0=nx')(hc:clR hp' u=some (r,ids)):Con P C f us (.val r):=by
 refine⟨hcon.1,fun M w args hM hC ha=>?_⟩
 have hMo:Mo Bb (fun _=>none) M=M:=by
  funext b
  apply propext
  exact⟨fun h=>h.elim (fun h=>h) fun ⟨i,β,v,h1,_⟩=>(by cases h1),.inl⟩
 have st:StH P M { toWorld:=w,J:=fun _=>False,wE:=w } Bb (fun _=>none) 0 w :=
  ⟨⟨Below.refl _ _,rfl,rfl,fun t=>by simp [Rep,Array.getD],fun i β v sz h1=>(by cases h1),fun i β v h1=>(by cases h1),fun i j β γ u v b h1=>(by cases h1),fun _ _=>rfl,fun b hb=>.inl (hM b hb),fun i v h1=>(by cases h1),fun _ h=>h.elim,fun i β v b h1=>(by cases h1),Nat.le_refl _,fun _ _ h=>h.elim⟩,fun _ _=>rfl⟩
 refine (hcon.2 M _ Bb w args hC st (by rw[hMo];exact ha)).mono ?_
 rintro e w' ⟨v,u0,hp0,nx0,φ',rfl,⟨rfl,rfl,rfl⟩,_,hst,hu⟩
 have hself:∀ b β v,hp0 b=some β→φ' b=some v→∃ γ,hp0 b=some γ∧wkR β γ:=fun _ β _ h _=>⟨β,h,Cp β⟩
 refine⟨v,rfl, ?_,hst.1.below⟩
 unfold clR at hc
 split at hc
 ·rename_i vs
  obtain⟨x,h1,h2⟩:=Option.map_eq_some_iff.1 hc
  cases h2
  simp only[Rep] at hu
  obtain⟨ws,rfl,h3⟩:=hu
  have:=Fa hst.1 hself h3 (show cls hp0 vs=some (x.1,x.2) from h1) fun _ h=>h
  simp only[Rep]
  exact⟨ws,rfl,V6 this⟩
 ·exact Ael (Pg hst.1 hself hu hc fun _ h=>h)
theorem O9{orc:XO}{xf:XF}(ho:Er P C orc)(hx:Hi P C xf):Er P C (Vh orc xf):=by
 intro f hp args id u e h k hk
 unfold Vh at h
 split at h
 ·rename_i r hr
  cases h
  exact ho _ _ _ _ _ _ hr k hk
 ·obtain⟨us,hus,h⟩:=A5 h
  obtain⟨r,hr,h⟩:=A5 h
  obtain⟨v,hv,h⟩:=A5 h
  cases h
  have hcon:=hx _ _ _ _ _ _ _ (show xf f us.1 .nil 0=some (r.1,r.2.1,r.2.2) from hr)
  have e1:(Tr.get (α:=A4) .nil)=fun _=>none:=by funext n;exact Tr.get_nil n
  rw[e1] at hcon
  refine .inl ⟨us.1,us.2,hus,.val v.1,Jy hcon (show clR _ _=some (v.1,v.2) from hv), ?_⟩
  show k v.1 (.frz (if K2 v.1 then [] else us.2))
  cases hn:K2 v.1 with
  | true=>rw[hn] at hk;exact hk
  | false=>rw[hn] at hk;exact hk
theorem Lo{k:XS→Option (Exit×XS)}{r q:Exit×XS}(h:thn k r=some q):(r.1=.normal∧k r.2=some q)∨(r.1≠.normal∧r=q):=by
 obtain⟨e,s⟩:=r
 cases e<;>first
  | exact .inl ⟨rfl,h⟩
  | exact .inr ⟨(fun h=>by cases h),Option.some.inj h⟩
theorem Ko{next:AS→Prop}{Q:Exit→AS→Prop}{e:Exit}{σ:AS}(he:e≠.normal)(h:Q e σ):Es next Q e σ:=by
 cases e<;>first|exact h|exact absurd rfl he
theorem A3v{u:AV}{t:Bool}(h:Aox u=some t):u=.ex (.bool t)∨(t=false∧∃ e es,u=.nq (e :: es)):=by
 unfold Aox at h
 split at h
 ·unfold O1 at h
  split at h
  ·cases h;exact .inl rfl
  ·cases h
 ·unfold nqB at h
  split at h
  ·cases h;exact .inr ⟨rfl,_,_,rfl⟩
  ·cases h
 ·cases h
theorem Zx{E:XE}(B:Dj E.P C)(hG:I6 C E.G)(ho:Er E.P C E.orc):∀ n:Nat,Ty E.P C (Ez E n):=by
 intro n
 induction n using Nat.strongRecOn with
 | ind n ih =>
 intro pol c s e s' h Q hq
 cases n with
 | zero=>cases h
 | succ n =>
 have ihn:Ty E.P C (Ez E n):=ih n (Nat.lt_succ_self n)
 have hxf:Hi E.P C (Ro E.P (Ez E n) E.pf):=Kf B ihn
 change Ana c E (Ez E n) pol s=some (e,s') at h
 cases c with
 | skip=>cases h;exact hq
 | region r ops d =>
  cases d with
  | true =>
   change Ad8 ops E (Ez E n) pol s=some (e,s') at h
   unfold Ad8 at h
   split at h
   ·rename_i s1 h2
    cases h
    exact Nq B hG (O9 ho hxf) hxf h2 hq
   ·unfold Ad9 at h
    obtain⟨h1,h⟩:=A6 h
    obtain⟨s1,h2,h3⟩:=A5 h
    cases h3
    refine .inl ⟨fun _=>h1, ?_⟩
    rw[if_pos rfl]
    exact Gg (O9 ho hxf) _ _ _ _ h2 hq
  | false =>
   change Adb ops E (Ez E n) pol s=some (e,s') at h
   unfold Adb at h
   obtain⟨s1,h2,h3⟩:=A5 h
   cases h3
   exact G3 (Gh B hG ho hxf _ _ _ _ _ h2 hq)
 | seq a b =>
  change A7i a b E (Ez E n) pol s=some (e,s') at h
  unfold A7i at h
  obtain⟨r,h1,h⟩:=A5 h
  show awp E.P C a (Es (awp E.P C b Q) Q) s.as
  refine ihn _ _ _ _ _ (show Ez E n pol a s=some (r.1,r.2) from h1) _ ?_
  rcases Lo h with⟨h2,h3⟩|⟨h2,rfl⟩
  ·rw[h2]
   exact ihn _ _ _ _ _ h3 Q hq
  ·exact Ko h2 hq
 | cond c x y =>
  change Sp c x y E (Ez E n) pol s=some (e,s') at h
  unfold Sp at h
  obtain⟨t,ht,h⟩:=A5 h
  unfold awp
  rcases A3v ht with ht|⟨rfl,e1,es,ht⟩
  ·refine .inl ⟨t,by rw[XS.ev_as];exact ht,fun hb=>?_,fun hb=>?_⟩
   ·subst hb
    exact ihn _ _ _ _ _ h Q hq
   ·subst hb
    exact ihn _ _ _ _ _ h Q hq
  ·exact .inr ⟨e1 :: es,by rw[XS.ev_as];exact ht,(fun hb=>by cases hb),ihn _ _ _ _ _ h Q hq⟩
 | block id c =>
  change Ml id c E (Ez E n) pol s=some (e,s') at h
  unfold Ml at h
  obtain⟨⟨e1,s1⟩,h1,h⟩:=A5 h
  show awp E.P C c (Dx id Q) s.as
  refine ihn _ _ _ _ _ h1 _ ?_
  have h:=Option.some.inj h
  cases e1 with
  | exit i =>
   change (bif Nat.beq i id then ((.normal,s1):Exit×XS) else (.exit i,s1))=(e,s') at h
   cases hb:Nat.beq i id with
   | true =>
    rw[hb,cond_true] at h
    cases h
    show (if i=id then Q .normal _ else Q (.exit i) _)
    rw[if_pos (Bd hb)]
    exact hq
   | false =>
    rw[hb,cond_false] at h
    cases h
    show (if i=id then Q .normal _ else Q (.exit i) _)
    rw[if_neg fun e=>by rw[K1 e] at hb;cases hb]
    exact hq
  | _=>cases h;exact hq
 | loop c =>
  refine⟨fun m σ'=>m≤n+1∧∃ x:XS,x.as=σ'∧Ez E m pol (.loop c) x=some (e,s'),n+1,⟨Nat.le_refl _,s,rfl,h⟩, ?_⟩
  rintro m σ' ⟨hm,x,rfl,hx⟩ _ _
  cases m with
  | zero=>cases hx
  | succ m =>
   change Sq c E (Ez E m) pol x=some (e,s') at hx
   unfold Sq at hx
   obtain⟨r,h1,hx⟩:=A5 hx
   refine ih m (by omega) _ _ _ _ _ (show Ez E m pol c x=some (r.1,r.2) from h1) _ ?_
   rcases Lo hx with⟨h2,h3⟩|⟨h2,rfl⟩
   ·rw[h2]
    exact⟨m,Nat.lt_succ_self m,by omega,r.2,rfl,h3⟩
   ·exact Ko h2 hq
 | exit id=>cases h;exact hq
 | ret=>cases h;exact hq
 | label l=>cases h;exact hq
 | scope c =>
  change Mm c E (Ez E n) pol s=some (e,s') at h
  unfold Mm at h
  obtain⟨⟨e1,s1⟩,h1,h⟩:=A5 h
  obtain⟨h2,h⟩:=Et h
  cases h
  show awp E.P C c (Yq Q) s.as
  refine ihn _ _ _ _ _ h1 _ ?_
  cases e with
  | goto l=>cases h2
  | _=>exact hq
 | _=>cases h
theorem Ahd{E:XE}(B:Dj E.P C)(hG:I6 C E.G)(ho:Er E.P C E.orc)(n:Nat):Hi E.P C (Ro E.P (Ez E n) E.pf):=Kf B (Zx B hG ho n)
noncomputable def Anu(E:XE)(n:Nat)(f:FuncId)(us:List AV):Option AV:=(Ro E.P (Ez E n) E.pf f us .nil 0).bind fun r=>(clR r.2.1.get r.1).map (·.1)
theorem Av{E:XE}(B:Dj E.P C)(hG:I6 C E.G)(ho:Er E.P C E.orc){n:Nat}{f:FuncId}{us:List AV}{r:AV}(h:Anu E n f us=some r):Con E.P C f us (.val r):=by
 unfold Anu at h
 obtain⟨x,hx,h⟩:=A5 h
 obtain⟨v,h1,h2⟩:=Option.map_eq_some_iff.1 h
 subst h2
 have hcon:=Ahd B hG ho n _ _ _ _ _ _ _ (show Ro E.P (Ez E n) E.pf f us .nil 0=some (x.1,x.2.1,x.2.2) from hx)
 have e1:(Tr.get (α:=A4) .nil)=fun _=>none:=by funext n;exact Tr.get_nil n
 rw[e1] at hcon
 exact Jy hcon (show clR _ _=some (v.1,v.2) from h1)
end
end Go.Proofs.YtbhffbgbhgjdiaaGreatDoor
namespace Go.Proofs.YtbhffbgbhgjdiaaGreatDoor
open Go.RowKit
set_option maxRecDepth 100000
noncomputable def Lt(xo:XF)(P:Program)(xc:XC)(pf:FuncId→Bool):XF:=fun f us hp nx=>match xo f us hp nx with
 | some r=>some r
 | none=>Ro P xc pf f us hp nx
noncomputable def A4a(xo:XF)(ops:Array Oper):XK:=fun E xc pol s=>bif D5 ops (drawn ops) then (A00 E pol (Vh E.orc (Lt xo E.P xc E.pf)) ops (drawn ops) s.nx ops.toList 0 s).bind fun s'=>some (.normal,⟨s'.tm,s'.hp,Nat.add s.nx ops.size⟩) else none
noncomputable def A1m(xo:XF)(ops:Array Oper):XK:=fun E xc pol s=>match A5c E pol (Lt xo E.P xc E.pf) ops s with
 | some s'=>some (.normal,s')
 | none=>A4a xo ops E xc pol s
noncomputable def A1n(xo:XF)(ops:Array Oper):XK:=fun E xc pol s=>(A01 E pol (Lt xo E.P xc E.pf) ops ops.toList s.nx 0 s).bind fun s'=>some (.normal,s')
noncomputable def Ada(xo:XF)(ops:Array Oper)(d:Bool):XK:=match d with
 | true=>A1m xo ops
 | false=>A1n xo ops
noncomputable def Adi(xo:XF)(c:Code):XK:=match c with
 | .skip=>A4b
 | .region _ ops d=>Ada xo ops d
 | .seq a b=>A7i a b
 | .cond c x y=>Sp c x y
 | .block id c=>Ml id c
 | .loop c=>Sq c
 | .exit id=>An5 id
 | .ret=>Axi
 | .label _=>A4b
 | .scope c=>Mm c
 | _=>kNo
noncomputable def Dg(xo:XF)(E:XE)(n:Nat):XC:=Nat.rec (fun _ _ _=>none) (fun _ ih pol c s=>Adi xo c E ih pol s) n
section
variable{P:Program}{C:World→Prop}
theorem Np{xo:XF}(hX:Hi P C xo)(B:Dj P C){xc:XC}{pf:FuncId→Bool}(hxc:Ty P C xc):Hi P C (Lt xo P xc pf):=by
 intro f us hp nx u hp' nx' h
 unfold Lt at h
 split at h
 ·rename_i r hr
  cases h
  exact hX _ _ _ _ _ _ _ hr
 ·exact Kf B hxc _ _ _ _ _ _ _ h
theorem W2{xo:XF}{E:XE}(B:Dj E.P C)(hG:I6 C E.G)(ho:Er E.P C E.orc)(hX:Hi E.P C xo):∀ n:Nat,Ty E.P C (Dg xo E n):=by
 intro n
 induction n using Nat.strongRecOn with
 | ind n ih =>
 intro pol c s e s' h Q hq
 cases n with
 | zero=>cases h
 | succ n =>
 have ihn:Ty E.P C (Dg xo E n):=ih n (Nat.lt_succ_self n)
 have hxf:Hi E.P C (Lt xo E.P (Dg xo E n) E.pf):=Np hX B ihn
 change Adi xo c E (Dg xo E n) pol s=some (e,s') at h
 cases c with
 | skip=>cases h;exact hq
 | region r ops d =>
  cases d with
  | true =>
   change A1m xo ops E (Dg xo E n) pol s=some (e,s') at h
   unfold A1m at h
   split at h
   ·rename_i s1 h2
    cases h
    exact Nq B hG (O9 ho hxf) hxf h2 hq
   ·unfold A4a at h
    obtain⟨h1,h⟩:=A6 h
    obtain⟨s1,h2,h3⟩:=A5 h
    cases h3
    refine .inl ⟨fun _=>h1, ?_⟩
    rw[if_pos rfl]
    exact Gg (O9 ho hxf) _ _ _ _ h2 hq
  | false =>
   change A1n xo ops E (Dg xo E n) pol s=some (e,s') at h
   unfold A1n at h
   obtain⟨s1,h2,h3⟩:=A5 h
   cases h3
   exact G3 (Gh B hG ho hxf _ _ _ _ _ h2 hq)
 | seq a b =>
  change A7i a b E (Dg xo E n) pol s=some (e,s') at h
  unfold A7i at h
  obtain⟨r,h1,h⟩:=A5 h
  show awp E.P C a (Es (awp E.P C b Q) Q) s.as
  refine ihn _ _ _ _ _ (show Dg xo E n pol a s=some (r.1,r.2) from h1) _ ?_
  rcases Lo h with⟨h2,h3⟩|⟨h2,rfl⟩
  ·rw[h2]
   exact ihn _ _ _ _ _ h3 Q hq
  ·exact Ko h2 hq
 | cond c x y =>
  change Sp c x y E (Dg xo E n) pol s=some (e,s') at h
  unfold Sp at h
  obtain⟨t,ht,h⟩:=A5 h
  unfold awp
  rcases A3v ht with ht|⟨rfl,e1,es,ht⟩
  ·refine .inl ⟨t,by rw[XS.ev_as];exact ht,fun hb=>?_,fun hb=>?_⟩
   ·subst hb
    exact ihn _ _ _ _ _ h Q hq
   ·subst hb
    exact ihn _ _ _ _ _ h Q hq
  ·exact .inr ⟨e1 :: es,by rw[XS.ev_as];exact ht,(fun hb=>by cases hb),ihn _ _ _ _ _ h Q hq⟩
 | block id c =>
  change Ml id c E (Dg xo E n) pol s=some (e,s') at h
  unfold Ml at h
  obtain⟨⟨e1,s1⟩,h1,h⟩:=A5 h
  show awp E.P C c (Dx id Q) s.as
  refine ihn _ _ _ _ _ h1 _ ?_
  have h:=Option.some.inj h
  cases e1 with
  | exit i =>
   change (bif Nat.beq i id then ((.normal,s1):Exit×XS) else (.exit i,s1))=(e,s') at h
   cases hb:Nat.beq i id with
   | true =>
    rw[hb,cond_true] at h
    cases h
    show (if i=id then Q .normal _ else Q (.exit i) _)
    rw[if_pos (Bd hb)]
    exact hq
   | false =>
    rw[hb,cond_false] at h
    cases h
    show (if i=id then Q .normal _ else Q (.exit i) _)
    rw[if_neg fun e=>by rw[K1 e] at hb;cases hb]
    exact hq
  | _=>cases h;exact hq
 | loop c =>
  refine⟨fun m σ'=>m≤n+1∧∃ x:XS,x.as=σ'∧Dg xo E m pol (.loop c) x=some (e,s'),n+1,⟨Nat.le_refl _,s,rfl,h⟩, ?_⟩
  rintro m σ' ⟨hm,x,rfl,hx⟩ _ _
  cases m with
  | zero=>cases hx
  | succ m =>
   change Sq c E (Dg xo E m) pol x=some (e,s') at hx
   unfold Sq at hx
   obtain⟨r,h1,hx⟩:=A5 hx
   refine ih m (by omega) _ _ _ _ _ (show Dg xo E m pol c x=some (r.1,r.2) from h1) _ ?_
   rcases Lo hx with⟨h2,h3⟩|⟨h2,rfl⟩
   ·rw[h2]
    exact⟨m,Nat.lt_succ_self m,by omega,r.2,rfl,h3⟩
   ·exact Ko h2 hq
 | exit id=>cases h;exact hq
 | ret=>cases h;exact hq
 | label l=>cases h;exact hq
 | scope c =>
  change Mm c E (Dg xo E n) pol s=some (e,s') at h
  unfold Mm at h
  obtain⟨⟨e1,s1⟩,h1,h⟩:=A5 h
  obtain⟨h2,h⟩:=Et h
  cases h
  show awp E.P C c (Yq Q) s.as
  refine ihn _ _ _ _ _ h1 _ ?_
  cases e with
  | goto l=>cases h2
  | _=>exact hq
 | _=>cases h
theorem A9i{xo:XF}{E:XE}(B:Dj E.P C)(hG:I6 C E.G)(ho:Er E.P C E.orc)(hX:Hi E.P C xo)(n:Nat):Hi E.P C (Lt xo E.P (Dg xo E n) E.pf):=Np hX B (W2 B hG ho hX n)
noncomputable def Ah7(xo:XF)(E:XE)(n:Nat)(f:FuncId)(us:List AV):Option AV:=(Lt xo E.P (Dg xo E n) E.pf f us .nil 0).bind fun r=>(clR r.2.1.get r.1).map (·.1)
theorem R4{xo:XF}{E:XE}(B:Dj E.P C)(hG:I6 C E.G)(ho:Er E.P C E.orc)(hX:Hi E.P C xo){n:Nat}{f:FuncId}{us:List AV}{r:AV}(h:Ah7 xo E n f us=some r):Con E.P C f us (.val r):=by
 unfold Ah7 at h
 obtain⟨x,hx,h⟩:=A5 h
 obtain⟨v,h1,h2⟩:=Option.map_eq_some_iff.1 h
 subst h2
 have hcon:=A9i B hG ho hX n _ _ _ _ _ _ _ (show Lt xo E.P (Dg xo E n) E.pf f us .nil 0=some (x.1,x.2.1,x.2.2) from hx)
 have e1:(Tr.get (α:=A4) .nil)=fun _=>none:=by funext n;exact Tr.get_nil n
 rw[e1] at hcon
 exact Jy hcon (show clR _ _=some (v.1,v.2) from h1)
end
end Go.Proofs.YtbhffbgbhgjdiaaGreatDoor
