/-
  Each operation of the machine does what 'aval' says of it: new rows, stores, appends, slices of slices, calls. Conditions: those that each theorem states. More of the kind.
-/
import Derived.Test.YtbhffbgbhgjdiaaGreatDoorGAbs
import Derived.Laws.CopyRow
import Derived.Laws.Externs
import Derived.Lib.AppendZerosOnto
set_option linter.unusedSimpArgs false
set_option linter.unusedVariables false
namespace Go.Proofs.YtbhffbgbhgjdiaaGreatDoor
open Go.RowKit
set_option maxRecDepth 100000
section
variable{P:Program}{C:World→Prop}{w:World}{M0:Nat→Prop}{N:Nat}{w0:Root}{F:Nat→Prop}{φ:Phi}{σ:AS}{a:Act}{hp:Nat→Option A4}{id:Nat}{o:Oper}{k:AV→Eff→Prop}{K:Act→World→Prop}{Q:Exit→Act→World→Prop}
theorem Ps{M:Nat→Prop}:∀ (l:List Value),l.all (·.oneCell')=true→RepL φ M w (l.map .ex) l
 | [],_=>RepL.nil
 | x :: l,h=>by
  rw[List.all_cons,Bool.and_eq_true] at h
  exact RepL.cons (Aq _ h.1) (Ps l h.2)
theorem A3i{l:List Value}(h:l.all (·.oneCell')=true):∀ u∈l,u.oneCell'=true:=fun u hu=>List.all_eq_true.1 h u hu
theorem A3z(b:Bn P M0 N w0 F φ σ a w hp id o)(he:Ends P M0 N w0 F σ id o k K){t:Nat}{cs:List AV}{vs:List Value}(hk:k (.pt id 0 0) (.new ⟨t,[cs],true⟩))(hl:vs.length=(aty P t).sz)
  (h1:∀ u∈vs,u.oneCell'=true) (hr:RepL φ (Mo φ σ.hp M0) w cs vs) (hrun:(execOp a.eval o).run P w=.ok (.value (.pointer (some ⟨w.heap.size,0,none⟩))) (w.alloc (.cells vs.toArray t))):o.wp P a w K Q:=by
 have hB:w0.heap.size≤w.heap.size:=b.st.below.size
 refine Hk b he (World.grownBy_alloc w _ none) (ty:=t) (sz:=(aty P t).sz) (es:=[cs]) (v:=.slice (some ⟨w.heap.size,0,none⟩) 1 1) (xs:=vs) hk ?_ ?_ rfl ?_ rfl ?_ hrun
 ·refine⟨by rw[hl];simp,.inr ⟨w.heap.size,1,vs.toArray,rfl,hB,heap_alloc_new w _,Nat.le_refl _,by decide,by simp [hl], ?_⟩⟩
  simpa using List.take_of_length_le (Nat.le_of_eq hl)
 ·intro q hq;cases hq;exact Nat.le_refl _
 ·rw[← hl];exact RepLL.one h1 hr
 ·intro φ' M h
  simp only[Rep]
  exact⟨_,_,h,by simp [Ig]⟩
theorem X1(b:Bn P M0 N w0 F φ σ a w hp id o)(he:Ends P M0 N w0 F σ id o k K){t:Nat}(ho:o.op=.alloc t)
  (hk:((aty P t).zero.length=(aty P t).sz∧0<(aty P t).sz∧(aty P t).zero.all (·.oneCell')=true)∧k (.pt id 0 0) (.alc t ((aty P t).zero.map .ex))):o.wp P a w K Q:=by
 obtain⟨⟨h1,h2,h3⟩,hk⟩:=hk
 obtain⟨i,z,hi,hz,hs,_,hzl⟩:=Fl h2 h1
 refine A3z (k:=fun u f=>u=.pt id 0 0∧f=.new ⟨t,[(aty P t).zero.map .ex],true⟩) b (by rintro u f ⟨rfl,rfl⟩ φ' a' w' st;exact he _ _ hk φ' a' w' st) ⟨rfl,rfl⟩ h1 (A3i h3) (Ps _ h3) ?_
 have:z.cells=(aty P t).zero.toArray:=by rw[← hzl]
 simp [execOp,ho,Instr.alloc,zeroValue,typeInfo,hi,hz,newVar,newRow,this]
theorem A4s(b:Bn P M0 N w0 F φ σ a w hp id o):∀ i x,φ i=some x→x.1.oneCell'=true:=b.st.ones
theorem A6a(b:Bn P M0 N w0 F φ σ a w hp id o)(he:Ends P M0 N w0 F σ id o k K){t:Nat}{x:Operand}(ho:o.op=.box t x){u:AV}(hu:Rep φ (Mo φ σ.hp M0) w u (a.eval x))
  (hk:∃ cs,u.cells=some cs∧(cs.length=(aty P t).sz∧0<cs.length)∧k (.pt id 0 0) (.new ⟨t,[cs],true⟩)):o.wp P a w K Q:=by
 obtain⟨cs,h1,⟨h2,_⟩,hk⟩:=hk
 obtain⟨h4,h5⟩:=Jg hu h1 (A4s b)
 refine A3z b he hk (by rw[RepL.len h4,h2]) h5 h4 ?_
 simp [execOp,ho,Instr.box,newVar,newRow]
theorem Pv{α:Type}(p q r:List α)(off n:Nat)(h:off+n≤q.length)(s:List α)(hs:s.length=n) :
  (p++q++r).take (p.length+off)++s++(p++q++r).drop (p.length+off+n)=p++(q.take off++s++q.drop (off+n))++r:=by
 have e1:(p++q++r).take (p.length+off)=p++q.take off:=by
  rw[List.append_assoc,List.take_length_add_append,List.take_append_of_le_length (by omega)]
 have e2:(p++q++r).drop (p.length+off+n)=q.drop (off+n)++r:=by
  rw[List.append_assoc,Nat.add_assoc,List.drop_length_add_append,List.drop_append_of_le_length h]
 rw[e1,e2]
 simp only[List.append_assoc]
theorem RepLL.set{M:Nat→Prop}{sz:Nat}:∀ {es:List (List AV)} {x:List Value} {j:Nat} {e e':List AV} {q:List Value},RepLL φ M w sz es x→es[j]?=some e→q.length=sz→(∀ u∈q,u.oneCell'=true)→RepL φ M w e' q →
  RepLL φ M w sz (es.set j e') (x.take (j*sz)++q++x.drop (j*sz+sz))
 | [],_,_,_,_,_,_,h,_,_,_=>by simp at h
 | e0 :: es,_,0,e,e',q,h,hj,hl,h1,hr=>by
  simp only[RepLL] at h
  obtain⟨y,z,rfl,h2,h3,h4,h5⟩:=h
  have:(y++z).drop sz=z:=by rw[← h2];exact List.drop_left
  simpa [this] using RepLL.cons hl h1 hr h5
 | e0 :: es,_,j+1,e,e',q,h,hj,hl,h1,hr=>by
  simp only[RepLL] at h
  obtain⟨y,z,rfl,h2,h3,h4,h5⟩:=h
  have ih:=RepLL.set h5 (by simpa using hj) hl h1 hr
  have e1:(y++z).take ((j+1)*sz)=y++z.take (j*sz):=by rw[Nat.add_mul,Nat.one_mul,Nat.add_comm,← h2,List.take_length_add_append]
  have e2:(y++z).drop ((j+1)*sz+sz)=z.drop (j*sz+sz):=by
   rw[Nat.add_mul,Nat.one_mul,show j*sz+sz+sz=y.length+(j*sz+sz) by omega,List.drop_length_add_append]
  rw[e1,e2,List.set_cons_succ,List.append_assoc,List.append_assoc,← List.append_assoc (z.take _)]
  exact RepLL.cons h2 h3 h4 ih
theorem Zf(b:Bn P M0 N w0 F φ σ a w hp id o)(he:Ends P M0 N w0 F σ id o k K){t:Nat}{x v:Operand}(ho:o.op=.store t x v){ev:Operand→AV}
  (hx:Rep φ (Mo φ σ.hp M0) w (ev x) (a.eval x)) (hv:Rep φ (Mo φ σ.hp M0) w (ev v) (a.eval v)) (hk:A7 P C id (.store t x v) o.type ev hp k):o.wp P a w K Q:=by
 unfold A7 at hk
 dsimp only at hk
 generalize ev x=ux at hx hk
 generalize ev v=uv at hv hk
 cases ux with
 | pt i j off =>
  obtain⟨β,e,cs,h1,h2,h3,h4,⟨h5,h6,h7⟩,hk⟩:=hk
  obtain⟨g1,g2⟩:=Jg hv h4 (A4s b)
  simp only[Rep] at hx
  obtain⟨hd,sz,h8,h9⟩:=hx
  obtain⟨γ,hb,wt,wm,_⟩:=b.hpx i β _ h1 h8
  obtain⟨hsz,xs,h10,h11⟩:=F4 b.st b.hpx h1 h8
  obtain⟨p,q,r,q1,q2,q3,q4,q5,_,_⟩:=h11.get h3
  have hql:off+cs.length≤q.length:=by rw[RepL.len q5];exact h7
  have hne:xs≠[]:=by
   intro e'
   rw[e'] at q1
   simp at q1
   rw[q1.2.1] at hql
   simp only[List.length_nil] at hql
   omega
  obtain⟨g,c,r1,r2,r3,r4,r5,r6,r7,r8,cur,s1,s2,s3⟩:=Gp h10 hne
  rw[r5] at h9
  have hvl:(a.eval v).cells.toList.length=cs.length:=by rw[RepL.len g1]
  have hxl:=h11.len
  have hj:j<β.es.length:=(List.getElem?_eq_some_iff.1 h3).1
  have hjs:(j+1)*sz≤c*sz:=Nat.mul_le_mul_right _ (by omega)
  rw[Nat.add_mul,Nat.one_mul] at hjs
  have hst:=run_storeCells_at P g (j*sz+off) β.ty (a.eval v).cells.toList 0 cur w s1 (by rw[hvl];rw[q3] at hql;omega) g2
  obtain⟨ii,hi,hz,_⟩:=Cb (P:=P) (t:=t) (by omega)
  have hsize:(a.eval v).cells.size=(aty P t).sz:=by rw[← Array.length_toList,hvl,h5]
  simp only[Nat.add_zero] at hst
  generalize hW:w.setRow g (cur.toList.take (j*sz+off)++(a.eval v).cells.toList++cur.toList.drop (j*sz+off+(a.eval v).cells.toList.length)).toArray=w' at hst
  have hrun:(execOp a.eval o).run P w=.ok .skip w':=by
   simp [execOp,ho,h9,Instr.storeAt,Instr.sureAddr,storeVar,sizeOf,typeInfo,hi,hz,hsize,hst]
  have hgr:w.grownBy w' hd.ownBlock:=by
   rw[← hW]
   exact⟨rfl,rfl,rfl,by simp,fun k' _ hk'=>setRow_other w g k' _ fun e'=>hk' (by rw[r4,e'])⟩
  have hcl:cur.toList.length=c*sz:=by rw[Array.length_toList,s2]
  have hxs2:(cur.toList.take (j*sz+off)++(a.eval v).cells.toList++cur.toList.drop (j*sz+off+(a.eval v).cells.toList.length)).take (β.es.length*sz) =
    xs.take (j*sz)++(q.take off++(a.eval v).cells.toList++q.drop (off+cs.length))++xs.drop (j*sz+sz):=by
   have hcur:cur.toList=p++q++(r++cur.toList.drop (β.es.length*sz)):=by
    rw[← List.append_assoc,← q1,← s3,List.take_append_drop]
   have e1:xs.take (j*sz)=p:=by rw[q1,← q2,List.append_assoc];exact List.take_left
   have e2:xs.drop (j*sz+sz)=r:=by rw[q1,← q2,← q3,← List.length_append];exact List.drop_left
   rw[e1,e2,hcur,← q2,hvl,Pv p q _ off cs.length hql _ hvl,← List.append_assoc]
   have hlen:β.es.length*sz=(p++(q.take off++(a.eval v).cells.toList++q.drop (off+cs.length))++r).length:=by
    rw[← hxl,q1]
    simp only[List.length_append,List.length_take,List.length_drop,hvl]
    omega
   rw[hlen]
   exact List.take_left
  have hnl:(q.take off++(a.eval v).cells.toList++q.drop (off+cs.length)).length=sz:=by
   simp only[List.length_append,List.length_take,List.length_drop,hvl]
   omega
  have hrow:RepLL φ (Mo φ σ.hp M0) w sz (β.es.set j (e.take off++cs++e.drop (off+cs.length))) (xs.take (j*sz)++(q.take off++(a.eval v).cells.toList++q.drop (off+cs.length))++xs.drop (j*sz+sz)):=by
   refine RepLL.set h11 h3 hnl ?_ (RepL.app (RepL.app (q5.take off) g1) (q5.drop _))
   intro u hu
   rcases List.mem_append.1 hu with hu|hu
   ·rcases List.mem_append.1 hu with hu|hu
    ·exact q4 u (List.mem_of_mem_take hu)
    ·exact g2 u hu
   ·exact q4 u (List.mem_of_mem_drop hu)
  have hown:w'.ownsRow w0.heap.size β.ty sz hd (β.es.set j (e.take off++cs++e.drop (off+cs.length))).length (xs.take (j*sz)++(q.take off++(a.eval v).cells.toList++q.drop (off+cs.length))++xs.drop (j*sz+sz)):=by
   refine⟨hrow.len,.inr ⟨g,c,_,by rw[List.length_set];exact r1,r7,by rw[← hW];exact setRow_heap w g cur _ β.ty _ s1,by rw[List.length_set];exact r2,r3, ?_, ?_⟩⟩
   ·simp only[List.size_toArray,List.length_append,List.length_take,List.length_drop,hcl,hvl]
    omega
   ·rw[List.length_set]
    exact hxs2
  have hfin:=b.st.set hb (wm.symm.trans h2) h8 hgr (by rw[← wt];exact hown) hrow
  rw[← wt] at hfin
  exact Ah5 hrun (he _ _ hk φ _ w' ((hfin.sub fun _ h=>h.1).putJ undef o.dst b.dst))
 | _=>exact hk.elim
theorem A03{M:Nat→Prop}:∀ (zs:List Value),(∀ u∈zs,u.oneCell'=true)→RepL φ M w (zs.map .ex) zs
 | [],_=>RepL.nil
 | z :: zs,h=>RepL.cons (by simp only[Rep];exact⟨trivial,h z (by simp)⟩) (A03 zs fun u hu=>h u (by simp [hu]))
theorem Mw{M:Nat→Prop}(zs:List Value)(sz:Nat)(hl:zs.length=sz)(h1:∀ u∈zs,u.oneCell'=true):∀ (n:Nat),RepLL φ M w sz (List.replicate n (zs.map .ex)) (List.replicate n zs).flatten
 | 0=>RepLL.nil sz
 | n+1=>by
  rw[List.replicate_succ,List.replicate_succ,List.flatten_cons]
  exact RepLL.cons hl h1 (A03 zs h1) (Mw zs sz hl h1 n)
theorem L3{α:Type}(zs:List α):∀ (n j:Nat),j<n*zs.length→(List.replicate n zs).flatten[j]?=zs[j % zs.length]?
 | 0,j,h=>by simp at h
 | n+1,j,h=>by
  rw[List.replicate_succ,List.flatten_cons]
  rcases Nat.lt_or_ge j zs.length with h1|h1
  ·rw[List.getElem?_append_left h1,Nat.mod_eq_of_lt h1]
  ·rw[List.getElem?_append_right h1,L3 zs n (j-zs.length) (by rw[Nat.add_mul,Nat.one_mul] at h;omega),← Nat.mod_eq_sub_mod h1]
theorem Sy(z:Array Value)(n:Nat):((Array.range (n*z.size)).map fun i=>z[i % z.size]!).toList=(List.replicate n z.toList).flatten:=by
 apply List.ext_getElem?
 intro j
 rcases Nat.lt_or_ge j (n*z.size) with h1|h1
 ·have hz:0<z.size:=by
   rcases Nat.eq_zero_or_pos z.size with h|h
   ·rw[h] at h1;simp at h1
   ·exact h
  have hm:=Nat.mod_lt j hz
  rw[L3 z.toList n j (by rw[Array.length_toList];exact h1)]
  simp [h1,hm]
 ·rw[List.getElem?_eq_none (by simpa using h1),List.getElem?_eq_none (by simpa using h1)]
theorem A7u{z:Array Value}{zs:List Value}{sz:Nat}(h:z.toList=zs)(hl:zs.length=sz)(n:Nat):(madeCells z (n*sz)).toList=(List.replicate n zs).flatten:=by
 subst h
 rw[Array.length_toList] at hl
 subst hl
 exact Sy z n
theorem To{z:Array Value}{zs:List Value}(h:z.toList=zs)(n:Nat):(Builtin.zeroCells z n).toList=(List.replicate n zs).flatten:=by
 subst h
 exact Sy z n
theorem Nw(b:Bn P M0 N w0 F φ σ a w hp id o)(he:Ends P M0 N w0 F σ id o k K){t:Nat}{x y:Operand}(ho:o.op=.makeSlice t x y){ev:Operand→AV}
  (hx:Rep φ (Mo φ σ.hp M0) w (ev x) (a.eval x)) (hy:Rep φ (Mo φ σ.hp M0) w (ev y) (a.eval y)) (hk:A7 P C id (.makeSlice t x y) o.type ev hp k):o.wp P a w K Q:=by
 unfold A7 at hk
 dsimp only at hk
 obtain⟨n,c,h1,h2,hk⟩:=hk
 have e1:=Lg hx h1
 have e2:=Lg hy h2
 split at hk
 ·rename_i e hkk
  obtain⟨⟨z1,z2,z3,z4⟩,hk⟩:=hk
  obtain⟨i,z,hi,hz,hs,hby,hzc⟩:=Fl z2 z1
  have hB:w0.heap.size≤w.heap.size:=b.st.below.size
  split at hk
  ·obtain⟨⟨rfl,h4,h5⟩,hk⟩:=hk
   have hc:c.toNat≤maxLen:=by
    have:c.toNat≤(aty P e).bytes*c.toNat:=Nat.le_mul_of_pos_left _ z3
    unfold maxLen;omega
   obtain⟨w',hr,hown,hg⟩:=run_make_own (P:=P) w w0.heap.size t e i z (aty P e).sz (Ah hkk) hi hz hs .i64 .i64 c.toNat (by rw[hby];omega) hc hB
   rw[show ((c.toNat:Nat):Int)=c by omega] at hr
   refine Hk b he hg (es:=[]) (xs:=[]) hk hown ?_ rfl (RepLL.nil _) rfl ?_ (r:=.slice (some ⟨w.heap.size,0,none⟩) 0 c.toNat) ?_
   ·intro q hq;cases hq;exact Nat.le_refl _
   ·intro φ' M h;simp only[Rep];exact⟨_,h⟩
   ·simp [execOp,ho,e1,e2,hr]
  ·obtain⟨⟨h4,rfl,h5⟩,hk⟩:=hk
   have hc:n.toNat≤maxLen:=by
    have:n.toNat≤(aty P e).bytes*n.toNat:=Nat.le_mul_of_pos_left _ z3
    unfold maxLen;omega
   obtain⟨w',hr,hown,hg⟩:=run_make_full (P:=P) w w0.heap.size t e i z (aty P e).sz (Ah hkk) hi hz hs .i64 .i64 n.toNat (by rw[hby];omega) hc hB
   rw[show ((n.toNat:Nat):Int)=n by omega] at hr
   have hml:=A7u hzc z1 n.toNat
   rw[hml] at hown
   refine Hk b he hg (es:=List.replicate n.toNat ((aty P e).zero.map .ex)) (xs:=(List.replicate n.toNat (aty P e).zero).flatten) hk (by rw[List.length_replicate];exact hown) ?_ rfl (Mw _ _ z1 (by rwa [List.all_eq_true] at z4) n.toNat) rfl ?_ (r:=.slice (some ⟨w.heap.size,0,none⟩) n.toNat n.toNat) ?_
   ·intro q hq;cases hq;exact Nat.le_refl _
   ·intro φ' M h;simp only[Rep];exact⟨_,h⟩
   ·simp [execOp,ho,e1,e2,hr]
 ·exact hk.elim
theorem U3(b:Bn P M0 N w0 F φ σ a w hp id o)(he:Ends P M0 N w0 F σ id o k K){x:Operand}(ho:o.op=.assign x){ev:Operand→AV}
  (hx:Rep φ (Mo φ σ.hp M0) w (ev x) (a.eval x)) (hk:A7 P C id (.assign x) o.type ev hp k):o.wp P a w K Q:=by
 unfold A7 at hk
 dsimp only at hk
 split at hk
 ·rename_i e hn hkk
  have hv:a.eval x=.slice none 0 0:=by
   unfold Ck at hn
   split at hn
   ·rfl
   ·cases hn
  refine Hk b he (w':=w) ⟨rfl,rfl,rfl,Nat.le_refl _,fun _ _ _=>rfl⟩ (ty:=e) (sz:=(aty P e).sz) (es:=[]) (v:=.slice none 0 0) (xs:=[]) hk (World.ownsRow_nil _ _ _ _) ?_ rfl (RepLL.nil _) rfl ?_ (r:=.slice none 0 0) ?_
  ·intro q hq;cases hq
  ·intro φ' M h;simp only[Rep];exact⟨_,h⟩
  ·simp [execOp,ho,hv]
 ·exact Aa b he hk hx (by simp [execOp,ho])
theorem RepLL.resize{M:Nat→Prop}{sz sz':Nat}:∀ {es:List (List AV)} {x:List Value},RepLL φ M w sz es x→(∀ e∈es,e.length=sz')→RepLL φ M w sz' es x
 | [],_,h,_=>by simp only[RepLL] at h ⊢;exact h
 | e :: es,_,h,hl=>by
  simp only[RepLL] at h
  obtain⟨y,z,rfl,h2,h3,h4,h5⟩:=h
  exact RepLL.cons (by rw[RepL.len h4];exact hl e (by simp)) h3 h4 (RepLL.resize h5 fun e' he'=>hl e' (by simp [he']))
theorem Li{base t ty e:Nat}{i:TypeInfo}{z:Value}{size bytes:Nat}(ht:P.underlying t=some (.slice e))(hi:P.info? e=some i)(hz:i.zero=some z)
  (hsize:i.size=size) (hby:i.bytes=bytes) (hzs:z.cells.size=size) (hsz:0<size) (hb1:1≤bytes) {v:Value} {n:Nat} {xs:List Value} (hown:w.ownsRow base e size v n xs)
  {A:Option Addr} {m c:Nat} {news:List Value} (hl:news.length=m*size) (_:True) (hnews:0<m→∃ b o,A=some ⟨b,o,none⟩∧At w b o news) (h1:∀ u∈news,u.oneCell'=true)
  (hbytes:(n+m)*bytes≤140737488355328) (hbase:base≤w.heap.size) :
  ∃ v' w',(Builtin.append_ #[t,t] ty #[v,.slice A m c]).run P w=.ok v' w'∧w'.ownsRow base e size v' (n+m) (xs++news)∧w.grownBy w' v.ownBlock ∧
   (∀ k,v'.ownBlock=some k→v.ownBlock=some k∨k=w.heap.size)∧v'.oneCell'=true:=by
 have h63:n+m≤maxLen:=by
  have:n+m≤(n+m)*bytes:=Nat.le_mul_of_pos_right _ hb1
  unfold maxLen;omega
 have stay:m=0→(Builtin.append_ #[t,t] ty #[v,.slice A m c]).run P w=.ok v w→∃ v' w',(Builtin.append_ #[t,t] ty #[v,.slice A m c]).run P w=.ok v' w'∧w'.ownsRow base e size v' (n+m) (xs++news)∧w.grownBy w' v.ownBlock ∧
   (∀ k,v'.ownBlock=some k→v.ownBlock=some k∨k=w.heap.size)∧v'.oneCell'=true:=by
  intro hm hr
  have hnews0:news=[]:=List.eq_nil_of_length_eq_zero (by rw[hl,hm,Nat.zero_mul])
  refine⟨v,w,hr,by rw[hm,hnews0];simpa using hown,⟨rfl,rfl,rfl,Nat.le_refl _,fun _ _ _=>rfl⟩,fun k hk=>.inl hk, ?_⟩
  obtain⟨A',c',hv,_⟩:=Ft hown
  rw[hv];rfl
 have one:∀ {w':World} {v':Value} {n':Nat} {xs':List Value},w'.ownsRow base e size v' n' xs'→v'.oneCell'=true:=by
  intro w' v' n' xs' h
  obtain⟨A',c',hv,_⟩:=Ft h
  rw[hv];rfl
 rcases Nat.eq_zero_or_pos m with hm|hm
 ·refine stay hm ?_
  have hnews0:news=[]:=List.eq_nil_of_length_eq_zero (by rw[hl,hm,Nat.zero_mul])
  rcases hown.2 with⟨rfl,rfl⟩|⟨g,cap,cur,rfl,_,hg,hnc,_,hcs,_⟩
  ·subst hm
   cases A<;>simp [Builtin.append_,run_underlying ht,sizeOf,typeInfo,hi,Builtin.lenOf,Builtin.firstCells,loadCells,loadCellsFrom]
  ·subst hm
   cases A<;>simp [Builtin.append_,run_underlying ht,sizeOf,typeInfo,hi,Builtin.lenOf,Builtin.firstCells,loadCells,loadCellsFrom,hnc,storeCells]
 ·obtain⟨b',o',rfl,hat⟩:=hnews hm
  have hat':∀ j u,news[j]?=some u→w.cell? ((⟨b',o',none⟩:Addr).add j)=some u:=fun j u hu=>by rw[addr_add];exact hat j u hu
  obtain⟨v',w',hr,h2,h3,h4⟩:=run_append_own (P:=P) w base t ty e i z size bytes ht hi hz hsize hby hzs hsz v n xs hown ⟨b',o',none⟩ m c news hl hat' h1 h63 hbytes hbase
  refine⟨v',w',hr,h2,h3, ?_,one h2⟩
  have h63':n+m≤9223372036854775807:=by unfold maxLen at h63;omega
  rcases hown.2 with⟨rfl,rfl⟩|⟨g,cap,cur,rfl,_,hg,hnc,_,hcs,_⟩
  ·have hr2:=run_append_nil (P:=P) w t ty e i z ht hi hz ⟨b',o',none⟩ m c news (by rw[hsize];exact hl) hat' hm (by omega) (by rw[hby];simp only[Nat.zero_add] at hbytes;omega)
   rw[hr2] at hr
   injection hr with e1 e2
   intro k hk
   rw[← e1] at hk
   cases hk
   exact .inr rfl
  ·by_cases hroom:n+m≤cap
   ·have hr2:=run_append_room (P:=P) w t ty e i ht hi g n cap cur hg ⟨b',o',none⟩ m c news (by rw[hsize];exact hl) hat' h1 hroom (by rw[hsize,hl,hcs,← Nat.add_mul];exact Nat.mul_le_mul_right _ hroom)
    rw[hr2] at hr
    injection hr with e1 e2
    intro k hk
    rw[← e1] at hk
    exact .inl hk
   ·have holds:∀ j u,xs[j]?=some u→w.cell? ((⟨g,0,none⟩:Addr).add j)=some u:=hown.cells (g:=g) rfl
    have hr2:=run_append_grow (P:=P) w t ty e i z ht hi hz ⟨g,0,none⟩ n cap xs (by rw[hsize];exact hown.1) holds ⟨b',o',none⟩ m c news (by rw[hsize];exact hl) hat' (by omega) (by omega) (growslice_fits (by omega) (by rw[hby];exact hbytes))
    rw[hr2] at hr
    injection hr with e1 e2
    intro k hk
    rw[← e1] at hk
    cases hk
    exact .inr rfl
theorem A2m{t ty e:Nat}{i:TypeInfo}{z:Value}{bytes:Nat}(ht:P.underlying t=some (.slice e))(hi:P.info? e=some i)(hz:i.zero=some z)(hby:i.bytes=bytes)(hb1:1≤bytes)
  {A' A:Option Addr} {m c:Nat} {news:List Value} (hl:news.length=m*i.size) (hm:0<m) (hnews:0<m→∃ b o,A=some ⟨b,o,none⟩∧At w b o news) (hbytes:m*bytes≤140737488355328) :
  (Builtin.append_ #[t,t] ty #[.slice A' 0 0,.slice A m c]).run P w=(Builtin.append_ #[t,t] ty #[.slice none 0 0,.slice A m c]).run P w:=by
 cases A' with
 | none=>rfl
 | some a' =>
  obtain⟨b',o',rfl,hat⟩:=hnews hm
  have hat':∀ j u,news[j]?=some u→w.cell? ((⟨b',o',none⟩:Addr).add j)=some u:=fun j u hu=>by rw[addr_add];exact hat j u hu
  have h63:m≤m*bytes:=Nat.le_mul_of_pos_right _ hb1
  rw[run_append_nil (P:=P) w t ty e i z ht hi hz ⟨b',o',none⟩ m c news hl hat' hm (by omega) (by rw[hby];omega)]
  rw[run_append_grow (P:=P) w t ty e i z ht hi hz a' 0 0 [] (by simp) (fun j v h=>by cases h) ⟨b',o',none⟩ m c news hl hat' (by omega) (by omega) (growslice_fits (by omega) (by rw[hby,Nat.zero_add];exact hbytes))]
  simp
theorem Ahw(b:Bn P M0 N w0 F φ σ a w hp id o)(he:Ends P M0 N w0 F σ id o k K){t e:Nat}{s:AV}{vs vx:Value}{ns:List (List AV)}(hkk:(aty P t).k=.slice e)
  (hs:Rep φ (Mo φ σ.hp M0) w s vs) {A:Option Addr} {c:Nat} {news:List Value} {sz':Nat} (hx:vx=.slice A ns.length c) (hA:True) (hn:RepLL φ (Mo φ σ.hp M0) w sz' ns news) (hat:ns≠[]→∃ b o,A=some ⟨b,o,none⟩∧b<w.heap.size∧At w b o news)
  (hrun:∀ r w',(Builtin.append_ #[t,t] o.type #[vs,vx]).run P w=.ok r w'→(execOp a.eval o).run P w=.ok (.value r) w')
  (hk:D9 P hp id e s ns k):o.wp P a w K Q:=by
 unfold D9 at hk
 obtain⟨⟨z1,z2,z3,z4⟩,hk⟩:=hk
 obtain⟨i,z,hi,hz,hsz,hby,hzl⟩:=Fl z2 z1
 have hzs:z.cells.size=(aty P e).sz:=by rw[← Array.length_toList,hzl,z1]
 have hB:w0.heap.size≤w.heap.size:=b.st.below.size
 have hn':=hn.resize z4
 have hat':0<ns.length→∃ b o,A=some ⟨b,o,none⟩∧At w b o news:=fun h=>by
  obtain⟨g,o',h1,_,h3⟩:=hat (List.ne_nil_of_length_pos h)
  exact⟨g,o',h1,h3⟩
 split at hk
 ·rename_i i'
  obtain⟨β,h1,h2,h3,h4,hk⟩:=hk
  simp only[Rep] at hs
  obtain⟨sz,hφ⟩:=hs
  obtain⟨γ,hb,wt,wm,_⟩:=b.hpx i' β _ h1 hφ
  obtain⟨hsz',xs,h5,h6⟩:=F4 b.st b.hpx h1 hφ
  rw[h3] at hsz' h5
  subst hsz'
  obtain⟨v',w',hr,g1,g2,g3,g4⟩:=Li (ty:=o.type) (Ah hkk) hi hz hsz hby hzs z2 z3 h5 (c:=c) hn'.len hA hat' hn'.ones h4 hB
  obtain⟨φ',q1,q2,q3⟩:=b.st.grow hb (wm.symm.trans h2) hφ b.free (es:=β.es++ns) (xs:=xs++news) (v':=v') g2 (by rw[← wt,h3,List.length_append];exact g1) (fun k hk=>(g3 k hk).imp (fun h=>h) fun e=>Nat.le_of_eq e.symm) g4 (RepLL.app h6 hn')
  refine Eg (hrun _ _ (by rw[hx];exact hr)) (he _ _ hk φ' _ w' ?_)
  have:=q3.put (u:=.own id) (v:=v') (by simp only[Rep];exact⟨_,q2⟩) o.dst b.dst
  rwa [← wt,h3] at this
 ·obtain⟨h4,hk⟩:=hk
  have hv:=Au hs rfl
  obtain⟨v',w',hr,g1,g2,g3,g4⟩:=Li (ty:=o.type) (Ah hkk) hi hz hsz hby hzs z2 z3 (World.ownsRow_nil w w0.heap.size e (aty P e).sz) (c:=c) hn'.len hA hat' hn'.ones (by rw[Nat.zero_add];exact h4) hB
  rw[Nat.zero_add,List.nil_append] at g1
  refine Hk b he g2 hk g1 ?_ g4 hn' rfl ?_ (hrun _ _ (by rw[hv,hx];exact hr))
  ·intro q hq
   rcases g3 q hq with h|h
   ·cases h
   ·omega
  ·intro φ' M h;simp only[Rep];exact⟨_,h⟩
 ·simp only[Rep] at hs
  obtain⟨A',rfl⟩:=hs
  rcases hk with⟨rfl,hk⟩|⟨⟨hne,h4⟩,hk⟩
  ·have hn0:news=[]:=by simpa [RepLL] using hn
   subst hn0
   have hr:(Builtin.append_ #[t,t] o.type #[.slice A' 0 0,vx]).run P w=.ok (.slice A' 0 0) w:=by
    rw[hx]
    cases A'<;>cases A<;>simp [Builtin.append_,run_underlying (Ah hkk),sizeOf,typeInfo,hi,Builtin.lenOf,Builtin.firstCells,loadCells,loadCellsFrom,storeCells]
   exact Aa b he hk (by simp only[Rep];exact⟨_,rfl⟩) (hrun _ _ hr)
  ·have hm:0<ns.length:=List.length_pos_iff.2 hne
   obtain⟨v',w',hr,g1,g2,g3,g4⟩:=Li (ty:=o.type) (Ah hkk) hi hz hsz hby hzs z2 z3 (World.ownsRow_nil w w0.heap.size e (aty P e).sz) (c:=c) hn'.len hA hat' hn'.ones (by rw[Nat.zero_add];exact h4) hB
   rw[Nat.zero_add,List.nil_append] at g1
   refine Hk b he g2 hk g1 ?_ g4 hn' rfl ?_ (hrun _ _ (by rw[hx,A2m (Ah hkk) hi hz hby z3 (by rw[hsz];exact hn'.len) hm hat' h4];exact hr))
   ·intro q hq
    rcases g3 q hq with h|h
    ·cases h
    ·omega
   ·intro φ' M h;simp only[Rep];exact⟨_,h⟩
 ·exact hk.elim
end
end Go.Proofs.YtbhffbgbhgjdiaaGreatDoor
namespace Go.Proofs.YtbhffbgbhgjdiaaGreatDoor
open Go.RowKit
set_option maxRecDepth 100000
theorem By{P:Program}(w:World)(dT sT ty elem:TypeId)(sz g o dLen dCap:Nat)(a:Addr)(sLen sCap:Nat)(cur:Array Value)(t:TypeId)(cs:List Value)
  (hu:P.underlying dT=some (.slice elem)) (hs:(P.info? elem).map (·.size)=some sz)
  (hg:w.heap[g]?=some (.cells cur t (0,0))) (hn:cs.length=Nat.min sLen dLen*sz)
  (hsrc:∀ j v,cs[j]?=some v→w.cell? (a.add j)=some v) (hfit:o+cs.length≤cur.size) (h1:∀ v∈cs,v.oneCell'=true) :
  (Builtin.copy_ #[dT,sT] ty #[.slice (some ⟨g,o,none⟩) dLen dCap,.slice (some a) sLen sCap]).run P w =
   .ok (goInt (Nat.min sLen dLen)) (w.setRow g (cur.toList.take o++cs++cur.toList.drop (o+cs.length)).toArray):=by
 have hl:=run_loadCells_list (P:=P) w a cs hsrc
 have hst:=run_storeCells_at P g o t cs 0 cur w hg (by simpa using hfit) h1
 cases hq:P.info? elem with
 | none=>simp [hq] at hs
 | some i =>
  have hi:i.size=sz:=by simpa [hq] using hs
  simp [Builtin.copy_,run_underlying hu,Builtin.lenOf,Builtin.firstCells,sizeOf,typeInfo,hq,hi,← hn,hl,hst]
theorem H9{P:Program}(w:World)(tS tR e:TypeId)(ht:P.underlying tS=some (.slice e))(size:Nat)(hz:∀ w,(Go.sizeOf e).run P w=.ok size w)
  (a b:Addr) (la ca lb cb:Nat) (hne:a.block≠b.block) {ca':Array Value} {tA:TypeId} {fA:Nat×Nat} {cb':Array Value} {tB:TypeId}
  (ha:w.heap[a.block]?=some (.cells ca' tA fA)) (ha0:ca'.size≠0) (hb:w.heap[b.block]?=some (.cells cb' tB (0,0))) (hb0:cb'.size≠0) :
  (Extern.SlicesOverlaps.overlaps #[tS,tS] #[tR] #[.slice (some a) la ca,.slice (some b) lb cb]).run P w=.ok (.bool false) w:=by
 have hnb:(a.block != b.block)=true:=by simpa using hne
 have hnb':(a.block == b.block)=false:=by simpa using hne
 have hsa:w.shape? a.block=some (tA,ca'.size):=by simp [World.shape?,ha]
 have hsb:w.shape? b.block=some (tB,cb'.size):=by simp [World.shape?,hb]
 have hfb:∀ o,w.frozen? { block:=b.block,off:=o }=false:=fun o=>by simp [World.frozen?,hb]
 have hfb':w.frozen? b=false:=by
  obtain⟨bb,bo,bs⟩:=b
  simp [World.frozen?,hb]
 change Sem.run P (α := Value) (do
  let some t:=(#[tS,tS]:Array TypeId)[0]?|stuck "slices.overlaps: no parameter types"
  let .slice elem ← underlying t|stuck "slices.overlaps: slice type expected"
  let size ← sizeOf elem
  match (some a:Option Addr),(some b:Option Addr) with
  | some a,some b =>
   if la=0∨lb=0∨size=0 then pure (Value.bool false)
   else if a.block != b.block && (← frozen a) && (← frozen b) then unsupported .addressObserved
   else do
    if a.block != b.block then do
     noView a;noView b
     if ← mayBeOne a b then return Value.bool ((← choose (.extern "sameAddr.stringBytes" 2)) == 1)
    pure (Value.bool (a.block == b.block && a.off<b.off+lb*size && b.off<a.off+la*size))
  | _,_=>pure (Value.bool false)) w=_
 by_cases h0:la=0∨lb=0∨size=0
 ·simp [run_underlying ht,hz,h0]
 ·obtain⟨kA,hkA⟩:∃ k,ca'.size=k+1:=⟨ca'.size-1,by omega⟩
  obtain⟨kB,hkB⟩:∃ k,cb'.size=k+1:=⟨cb'.size-1,by omega⟩
  rw[hkA] at hsa
  rw[hkB] at hsb
  cases hfa:w.frozen? a<;>cases hfe:w.frozen? { block:=a.block,off:=kA+1 } <;>
   simp [run_underlying ht,hz,h0,hnb,hnb',frozen,noView,viewAt,mayBeOne,stringish,shape,Sem.run,hsa,hsb,hfa,hfe,hfb,hfb']
theorem Oe(c:Array Value)(k:Nat):(Builtin.zeroCells c k).size=k*c.size:=by
 simp [Builtin.zeroCells]
theorem L4{α:Type}{X V C R:List α}{a b c:Nat}(hx:X.length=a)(hv:V.length=b)(hc:C.length=c):(X++V++(C++R)).take (a+b+c)=X++V++C:=by
 rw[← List.append_assoc]
 exact List.take_left' (by rw[List.length_append,List.length_append,hx,hv,hc])
theorem setRow_size(w:World)(g:Nat)(c:Array Value):(w.setRow g c).heap.size=w.heap.size:=by simp [World.setRow]
end Go.Proofs.YtbhffbgbhgjdiaaGreatDoor
namespace Go.Proofs.YtbhffbgbhgjdiaaGreatDoor
open Go.RowKit
set_option maxRecDepth 100000
section
variable{P:Program}{C:World→Prop}{w:World}{M0:Nat→Prop}{N:Nat}{w0:Root}{F:Nat→Prop}{φ:Phi}{σ:AS}{a:Act}{hp:Nat→Option A4}{id:Nat}{o:Oper}{k:AV→Eff→Prop}{K:Act→World→Prop}{Q:Exit→Act→World→Prop}
theorem foldl_set:∀ (vs:List Value) (j off:Nat) (cells:Array Value),off+j+vs.length≤cells.size →
  ((vs.zipIdx j).foldl (fun (cs:Array Value) (x:Value×Nat)=>cs.setIfInBounds (off+x.2) x.1) cells).toList=cells.toList.take (off+j)++vs++cells.toList.drop (off+j+vs.length)
 | [],j,off,cells,_=>by simp
 | v :: vs,j,off,cells,h=>by
  rw[List.zipIdx_cons,List.foldl_cons,foldl_set vs (j+1) off _ (by simp at h ⊢;omega)]
  simp only[Array.toList_setIfInBounds,List.length_cons]
  have hlt:off+j<cells.toList.length:=by simp at h ⊢;omega
  rw[List.set_eq_take_append_cons_drop,if_pos hlt]
  have hl:(cells.toList.take (off+j)).length=off+j:=by rw[List.length_take];omega
  have e1:(cells.toList.take (off+j)++v :: cells.toList.drop (off+j+1)).take (off+(j+1))=cells.toList.take (off+j)++[v]:=by
   rw[List.take_append,hl,List.take_of_length_le (by omega),show off+(j+1)-(off+j)=1 by omega]
   simp
  have e2:(cells.toList.take (off+j)++v :: cells.toList.drop (off+j+1)).drop (off+(j+1)+vs.length)=cells.toList.drop (off+j+(vs.length+1)):=by
   rw[List.drop_append,hl,List.drop_eq_nil_of_le (by omega),List.nil_append,show off+(j+1)+vs.length-(off+j)=vs.length+1 by omega,List.drop_succ_cons,List.drop_drop]
   congr 1
   omega
  rw[e1,e2]
  simp
theorem Pu{M:Nat→Prop}(hφ:∀ i x,φ i=some x→x.1.oneCell'=true)(place:Nat→Option (Nat×Nat))(ev:Operand→AV)(ρ:Operand→Value):∀ (ps:List (Nat×Operand)) (cs:List AV) (cells:Array Value) (r:List AV),
  (∀ x∈ps,Rep φ M w (ev x.2) (ρ x.2))→RepL φ M w cs cells.toList→(∀ u∈cells.toList,u.oneCell'=true)→F8 place cs (ps.map fun x=>(x.1,ev x.2))=some r →
  ∃ cells',Instr.fill place cells (ps.map fun x=>(x.1,ρ x.2))=some cells'∧RepL φ M w r cells'.toList∧∀ u∈cells'.toList,u.oneCell'=true
 | [],cs,cells,r,_,h,h1,hf=>by
  simp only[List.map_nil,F8,Option.some.injEq] at hf
  subst hf
  exact⟨cells,rfl,h,h1⟩
 | p :: ps,cs,cells,r,hp,h,h1,hf=>by
  simp only[List.map_cons,F8] at hf
  cases hpl:place p.1 with
  | none=>rw[hpl] at hf;cases hf
  | some q =>
   rw[hpl] at hf
   dsimp only[Option.bind_some] at hf
   cases hc:(ev p.2).cells with
   | none=>rw[hc] at hf;cases hf
   | some c =>
    rw[hc] at hf
    dsimp only[Option.bind_some] at hf
    split at hf
    ·cases hf
    ·rename_i hcond
     have hlen:=RepL.len h
     obtain⟨g1,g2⟩:=Jg (hp p (by simp)) hc hφ
     have gl:(ρ p.2).cells.size=c.length:=by rw[← Array.length_toList,RepL.len g1]
     have hq:c.length=q.2∧q.1+c.length≤cs.length:=by omega
     have hsz:q.1+(ρ p.2).cells.size≤cells.size:=by rw[gl,← Array.length_toList,hlen];exact hq.2
     have hfold:=foldl_set (ρ p.2).cells.toList 0 q.1 cells (by rw[Array.length_toList];omega)
     simp only[Nat.add_zero,Array.length_toList] at hfold
     generalize hnew:((ρ p.2).cells.toList.zipIdx.foldl (fun (cs:Array Value) (x:Value×Nat)=>cs.setIfInBounds (q.1+x.2) x.1) cells)=new at hfold
     have hstep:Instr.fill place cells ((p :: ps).map fun x=>(x.1,ρ x.2))=Instr.fill place new (ps.map fun x=>(x.1,ρ x.2)):=by
      have h3:¬ ((ρ p.2).cells.size≠q.2∨q.1+(ρ p.2).cells.size > cells.size):=by omega
      simp only[List.map_cons,Instr.fill,hpl]
      rw[if_neg (by simpa using h3),← hnew]
      congr 1
      rw[← Array.foldl_toList,Array.toList_zipIdx]
     rw[hstep]
     refine Pu hφ place ev ρ ps _ new r (fun x hx=>hp x (by simp [hx])) ?_ ?_ hf
     ·rw[hfold,gl]
      exact RepL.app (RepL.app (h.take _) g1) (h.drop _)
     ·rw[hfold]
      intro u hu
      rcases List.mem_append.1 hu with hu|hu
      ·rcases List.mem_append.1 hu with hu|hu
       ·exact h1 u (List.mem_of_mem_take hu)
       ·exact g2 u hu
      ·exact h1 u (List.mem_of_mem_drop hu)
theorem Nk{P:Program}:∀ (fs:List Field),(fs.all fun f=>decide (0<(aty P f.type).sz))=true→fs.mapM (fun f=>(P.info? f.type).map fun i=>(f.offset,i.size))=some (fs.map fun f=>(f.offset,(aty P f.type).sz))
 | [],_=>by simp
 | f :: fs,h=>by
  rw[List.all_cons,Bool.and_eq_true,decide_eq_true_eq] at h
  obtain⟨i,hi,hs,_⟩:=Cb h.1
  rw[List.mapM_cons,Nk fs h.2]
  simp [hi,hs]
theorem Xc(b:Bn P M0 N w0 F φ σ a w hp id o)(he:Ends P M0 N w0 F σ id o k K){t:Nat}{parts:Array (Nat×Operand)}(ho:o.op=.build t parts){ev:Operand→AV}
  (hx:∀ x∈parts.toList,Rep φ (Mo φ σ.hp M0) w (ev x.2) (a.eval x.2)) (hk:A7 P C id (.build t parts) o.type ev hp k):o.wp P a w K Q:=by
 unfold A7 at hk
 dsimp only at hk
 obtain⟨⟨hzl,hsz,h1⟩,hk⟩:=hk
 obtain⟨i,z,hi,hz,_,_,hze⟩:=Fl hsz hzl
 have hrun:∀ cells,P.built t (parts.toList.map fun x=>(x.1,a.eval x.2))=some cells→(execOp a.eval o).run P w=.ok (.value (.agg cells)) w:=by
  intro cells h
  have:=run_build (P:=P) w t (parts.map fun x=>(x.1,a.eval x.2)) cells (by simpa using h)
  simp only[execOp,ho,Sem.run_bind,this,Result.andThen_ok,Sem.run_pure]
 have hz0:RepL φ (Mo φ σ.hp M0) w ((aty P t).zero.map .ex) z.cells.toList:=by rw[hze];exact Ps _ h1
 have hz1:∀ u∈z.cells.toList,u.oneCell'=true:=by rw[hze];exact A3i h1
 split at hk
 ·rename_i hkk
  obtain⟨hfl,cs,h2,hk⟩:=hk
  obtain⟨fs,hu⟩:=P8 hkk
  have hflds:(aty P t).flds=fs.toList.map fun f=>(f.offset,f.type):=by unfold aty;simp [hu]
  obtain⟨cells,h3,h4,h5⟩:=Pu b.st.ones _ ev a.eval parts.toList _ z.cells cs hx hz0 hz1 h2
  refine Aa b he hk (v:=.agg cells) ?_ (hrun cells ?_)
  ·simp only[Rep]
   exact⟨cells.toList,by simp,h5,h4⟩
  ·rw[hflds,List.all_map] at hfl
   unfold Program.built
   rw[hi,hu]
   simp only[hz,Nk fs.toList hfl]
   rw[← h3,hflds]
   congr 1
   funext j
   simp [List.map_map,Function.comp_def]
 ·rename_i n e hkk
  obtain⟨hpos,cs,h2,hk⟩:=hk
  obtain⟨ie,hie,hes,_⟩:=Cb hpos
  obtain⟨cells,h3,h4,h5⟩:=Pu b.st.ones _ ev a.eval parts.toList _ z.cells cs hx hz0 hz1 h2
  refine Aa b he hk (v:=.agg cells) ?_ (hrun cells ?_)
  ·simp only[Rep]
   exact⟨cells.toList,by simp,h5,h4⟩
  ·unfold Program.built
   rw[hi,G2 hkk]
   simp only[hz,hie,hes]
   exact h3
 ·exact hk.elim
theorem Y2{M:Nat→Prop}{sz:Nat}(hφ:∀ i x,φ i=some x→x.1.oneCell'=true)(ev:Operand→AV)(ρ:Operand→Value):∀ (ps:List (Nat×Operand)) (n:Nat) (cells:Array Value),
  (∀ x∈ps,Rep φ M w (ev x.2) (ρ x.2))→ps.map (·.1)=List.range' n ps.length→(ps.all fun x=>((ev x.2).cells.map (·.length)) == some sz)=true→cells.size=(n+ps.length)*sz →
  ∃ cells' flat,Instr.fill (fun i=>some (i*sz,sz)) cells (ps.map fun x=>(x.1,ρ x.2))=some cells'∧cells'.toList=cells.toList.take (n*sz)++flat∧RepLL φ M w sz (ps.filterMap fun x=>(ev x.2).cells) flat
 | [],n,cells,_,_,_,hs=>by
  refine⟨cells,[],rfl, ?_,RepLL.nil sz⟩
  rw[List.append_nil,List.take_of_length_le]
  rw[Array.length_toList,hs];simp
 | p :: ps,n,cells,hp,hi,ha,hs=>by
  rw[List.all_cons,Bool.and_eq_true] at ha
  cases hc:(ev p.2).cells with
  | none=>rw[hc] at ha;simp at ha
  | some c =>
   have hcl:c.length=sz:=by have:=ha.1;rw[hc] at this;simpa using this
   rw[List.map_cons,List.length_cons,List.range'_succ] at hi
   injection hi with hi1 hi2
   obtain⟨g1,g2⟩:=Jg (hp p (by simp)) hc hφ
   have gl:(ρ p.2).cells.size=sz:=by rw[← Array.length_toList,RepL.len g1,hcl]
   rw[List.length_cons] at hs
   have e1:(n+(ps.length+1))*sz=n*sz+sz+ps.length*sz:=by rw[Nat.add_mul,Nat.add_mul,Nat.one_mul];omega
   have hsz:n*sz+(ρ p.2).cells.size≤cells.size:=by rw[gl,hs,e1];omega
   have hfold:=foldl_set (ρ p.2).cells.toList 0 (n*sz) cells (by rw[Array.length_toList];omega)
   simp only[Nat.add_zero,Array.length_toList] at hfold
   generalize hnew:((ρ p.2).cells.toList.zipIdx.foldl (fun (cs:Array Value) (x:Value×Nat)=>cs.setIfInBounds (n*sz+x.2) x.1) cells)=new at hfold
   have hstep:Instr.fill (fun i=>some (i*sz,sz)) cells ((p :: ps).map fun x=>(x.1,ρ x.2))=Instr.fill (fun i=>some (i*sz,sz)) new (ps.map fun x=>(x.1,ρ x.2)):=by
    have h3:¬ ((ρ p.2).cells.size≠sz∨p.1*sz+(ρ p.2).cells.size > cells.size):=by rw[hi1];omega
    simp only[List.map_cons,Instr.fill]
    rw[if_neg (by simpa using h3),← hnew,hi1]
    congr 1
    rw[← Array.foldl_toList,Array.toList_zipIdx]
   have hnl:new.size=(n+1+ps.length)*sz:=by
    rw[← Array.length_toList,hfold,List.length_append,List.length_append,List.length_take,List.length_drop,Array.length_toList,Array.length_toList,gl,hs,e1,Nat.add_mul,Nat.add_mul,Nat.one_mul]
    omega
   obtain⟨cells',flat,f1,f2,f3⟩:=Y2 hφ ev ρ ps (n+1) new (fun x hx=>hp x (by simp [hx])) hi2 ha.2 hnl
   refine⟨cells',(ρ p.2).cells.toList++flat,by rw[hstep];exact f1, ?_, ?_⟩
   ·have e2:(cells.toList.take (n*sz)).length=n*sz:=by rw[List.length_take,Array.length_toList];omega
    have e3:(cells.toList.take (n*sz)++(ρ p.2).cells.toList++cells.toList.drop (n*sz+(ρ p.2).cells.size)).take (n*sz+sz)=cells.toList.take (n*sz)++(ρ p.2).cells.toList:=List.take_left' (by rw[List.length_append,e2,Array.length_toList,gl])
    rw[f2,hfold,Nat.add_mul,Nat.one_mul,e3,List.append_assoc]
   ·rw[List.filterMap_cons,hc]
    exact RepLL.cons (by rw[Array.length_toList];exact gl) g2 g1 f3
theorem M9(b:Bn P M0 N w0 F φ σ a w hp id o)(he:Ends P M0 N w0 F σ id o k K){t len:Nat}{parts:Array (Nat×Operand)}(ho:o.op=.buildSlice t len parts){ev:Operand→AV}
  (hx:∀ x∈parts.toList,Rep φ (Mo φ σ.hp M0) w (ev x.2) (a.eval x.2)) (hk:A7 P C id (.buildSlice t len parts) o.type ev hp k):o.wp P a w K Q:=by
 unfold A7 at hk
 dsimp only at hk
 split at hk
 ·rename_i e hkk
  obtain⟨⟨hzl,hsz,hbig,h1⟩,⟨h2,h3⟩,hk⟩:=hk
  obtain⟨i,z,hi,hz,hs,_,hze⟩:=Fl hsz hzl
  have hB:w0.heap.size≤w.heap.size:=b.st.below.size
  have hlen:parts.toList.length=len:=by have:=congrArg List.length h2;simpa using this
  obtain⟨cells,flat,f1,f2,f3⟩:=Y2 (sz:=(aty P e).sz) b.st.ones ev a.eval parts.toList 0 ((Array.range (len*(aty P e).sz)).map (z.cells[· % z.cells.size]!)) hx
   (by rw[h2,hlen,List.range_eq_range']) h3 (by rw[hlen];simp)
  rw[Nat.zero_mul,List.take_zero,List.nil_append] at f2
  have hfl:=f3.len
  have hcnt:(parts.toList.filterMap fun x=>(ev x.2).cells).length=len:=by
   rw[← hlen]
   clear h2 f1 f2 f3 hfl hlen hx ho hk
   generalize parts.toList=l at h3
   induction l with
   | nil=>rfl
   | cons p l ih =>
    rw[List.all_cons,Bool.and_eq_true] at h3
    cases hc:(ev p.2).cells with
    | none=>have:=h3.1;rw[hc] at this;simp at this
    | some c=>rw[List.filterMap_cons,hc,List.length_cons,List.length_cons,ih h3.2]
  rw[hcnt] at hfl
  have hcl:cells.size=len*(aty P e).sz:=by rw[← Array.length_toList,f2,hfl]
  have hm:len≤maxLen:=by
   have:len≤len*(aty P e).sz:=Nat.le_mul_of_pos_right _ hsz
   unfold maxLen;omega
  have hrun:(Instr.buildSlice t len (parts.map fun x=>(x.1,a.eval x.2))).run P w=.ok (.slice (some ⟨w.heap.size,0,none⟩) len len) (w.alloc (.cells cells e)):=by
   rcases Nat.eq_zero_or_pos len with h0|hpos
   ·subst h0
    have hp0:parts=#[]:=by
     apply Array.ext'
     simpa using List.eq_nil_of_length_eq_zero hlen
    subst hp0
    simp [Instr.fill] at f1
    subst f1
    have hr0:Array.range 0=#[]:=rfl
    simp [Instr.buildSlice,run_underlying (Ah hkk),sizeOf,typeInfo,hi,Instr.fill,newRow,hr0]
   ·refine run_buildSlice (P:=P) w t e len _ cells i z (Ah hkk) hi hz (by rw[hs];omega) (by rw[hs];have:=Nat.mul_pos hpos hsz;omega) ?_
    rw[hs]
    simpa using f1
  rcases hk with hk|⟨h0,hk⟩
  case inr =>
   refine Sf b he hk (w':=w.alloc (.cells cells e)) ((Below.refl _ _).alloc (Nat.le_refl _) _) (u:=.em) (v:=.slice (some ⟨w.heap.size,0,none⟩) len len) ?_ ?_
   ·simp only[Rep];exact⟨_,by rw[h0]⟩
   ·simp only[execOp,ho,Sem.run_bind,hrun,Result.andThen_ok,Sem.run_pure]
  refine Hk b he (World.grownBy_alloc w (.cells cells e) none) (ty:=e) (sz:=(aty P e).sz) (v:=.slice (some ⟨w.heap.size,0,none⟩) len len) (xs:=flat) hk ?_ ?_ rfl f3 rfl ?_ (r:=.slice (some ⟨w.heap.size,0,none⟩) len len) ?_
  ·rw[hcnt]
   refine⟨hfl,.inr ⟨w.heap.size,len,cells,rfl,hB,heap_alloc_new w _,Nat.le_refl _,hm,hcl, ?_⟩⟩
   rw[f2,List.take_of_length_le (by omega)]
  ·intro q hq;cases hq;exact Nat.le_refl _
  ·intro φ' M h;simp only[Rep];exact⟨_,h⟩
  ·simp only[execOp,ho,Sem.run_bind,hrun,Result.andThen_ok,Sem.run_pure]
 ·exact hk.elim
end
end Go.Proofs.YtbhffbgbhgjdiaaGreatDoor
