/-
  Values without memory: what a slot of a frame stands for, what code does to it, and when such a value stands for a value of the machine. Conditions: none. More of the kind.
-/
import Derived.Test.YtbhffbgbhgjdiaaGreatDoorGLib
import Derived.Great.BuildSlice
import Derived.Laws.StructEq
import Derived.Lib.AppendStr
import Derived.Laws.BytesArg
import Derived.Laws.MakeOwn
set_option linter.unusedSimpArgs false
set_option linter.unusedVariables false
namespace Go.Proofs.YtbhffbgbhgjdiaaGreatDoor
open Go.RowKit
set_option maxRecDepth 100000
inductive AV where
 | ex (v:Value)
 | agg (cs:List AV)
 | tup (vs:List AV)
 | sl (es:List (List AV))
 | rp (cs:List AV) (off:Nat)
 | own (b:Nat)
 | pt (b k off:Nat)
 | junk
 | und
 | nq (es:List (List AV))
 | fn (f:Nat) (caps:List AV)
 | mp (b:Nat)
 | vw (b lo:Nat)
 | em
 | asl (b off n:Nat)
 deriving Inhabited
structure A4 where
 ty:TypeId
 es:List (List AV)
 mu:Bool
abbrev Phi:=Nat→Option (Value×Nat)
def Bb:Phi:=fun _=>none
def Ig:Value→Nat
 | .slice (some a) _ _=>a.block
 | _=>0
mutual
def Rep(φ:Phi)(M:Nat→Prop)(w:World):AV→Value→Prop
 | .ex x,v=>v=x∧x.oneCell'=true
 | .agg cs,v=>∃ vs:List Value,v=.agg vs.toArray∧(∀ u∈vs,u.oneCell'=true)∧RepL φ M w cs vs
 | .tup cs,v=>∃ vs:List Value,v=.tuple vs.toArray∧RepL φ M w cs vs
 | .sl es,v=>∃ A c,v=.slice A es.length c∧es.length≤c∧c≤maxLen∧True ∧
   (es≠[]→∃ b o sz vs,A=some ⟨b,o,none⟩∧¬ M b∧b<w.heap.size∧At w b o vs∧RepLL Bb M w sz es vs)
 | .rp cs off,v=>∃ b o vs,v=.pointer (some ⟨b,o+off,none⟩)∧¬ M b∧b<w.heap.size∧At w b o vs∧(∀ u∈vs,u.oneCell'=true)∧RepL Bb M w cs vs
 | .own b,v=>∃ sz,φ b=some (v,sz+1)
 | .pt b k off,v=>∃ h sz,φ b=some (h,sz+1)∧v=.pointer (some ⟨Ig h,k*sz+off,none⟩)
 | .junk,_=>True
 | .und,v=>v=undef
 | .nq es,v=>∃ b,v=.bool b∧(b=true→es=[])
 | .fn f caps,v=>∃ vs:List Value,v=.func (.func f) #[] vs.toArray∧RepL φ M w caps vs
 | .mp b,v=>∃ h,φ b=some (h,0)∧v=.map (some (Ig h))
 | .vw b lo,v=>∃ sz g n c,φ b=some (.slice (some ⟨g,0,none⟩) n c,sz+1)∧lo<n∧v=.slice (some ⟨g,lo*sz,none⟩) (n-lo) (c-lo)
 | .em,v=>∃ A,v=.slice A 0 0
 | .asl b off n,v=>∃ h sz A c,φ b=some (h,sz+1)∧v=.slice A n c∧n≤c∧(n≠0→A=some ⟨Ig h,off,none⟩)∧c≤maxLen
def RepL(φ:Phi)(M:Nat→Prop)(w:World):List AV→List Value→Prop
 | [],vs=>vs=[]
 | u :: us,vs=>∃ v vs',vs=v :: vs'∧Rep φ M w u v∧RepL φ M w us vs'
def RepLL(φ:Phi)(M:Nat→Prop)(w:World)(sz:Nat):List (List AV)→List Value→Prop
 | [],vs=>vs=[]
 | e :: es,vs=>∃ x y,vs=x++y∧x.length=sz∧(∀ u∈x,u.oneCell'=true)∧RepL φ M w e x∧RepLL φ M w sz es y
end
def Keep(M M':Nat→Prop)(w w':World):Prop:=∀ b,b<w.heap.size→¬ M b→¬ M' b∧b<w'.heap.size∧w'.heap[b]?=w.heap[b]?
def Ext(φ φ':Phi):Prop:=∀ i x,φ i=some x→φ' i=some x
theorem Ext.refl(φ:Phi):Ext φ φ:=fun _ _ h=>h
theorem Pt(φ:Phi):Ext Bb φ:=fun _ _ h=>by cases h
theorem Keep.refl(M:Nat→Prop)(w:World):Keep M M w w:=fun _ h k=>⟨k,h,rfl⟩
theorem Keep.at_{M M':Nat→Prop}{w w':World}(h:Keep M M' w w'){b o:Nat}{vs:List Value}(hb:b<w.heap.size)(hM:¬ M b)(ha:At w b o vs):At w' b o vs :=
 fun j u hu=>(World.cell?_of_block (w:=w) (a:=⟨b,o+j,none⟩) (h b hb hM).2.2).trans (ha j u hu)
mutual
theorem Rep.keep{φ φ':Phi}{M M':Nat→Prop}{w w':World}(hk:Keep M M' w w')(he:Ext φ φ'):∀ (u:AV) (v:Value),Rep φ M w u v→Rep φ' M' w' u v
 | .ex _,_,h=>by simp only[Rep] at h ⊢;exact h
 | .agg cs,_,h=>by
  simp only[Rep] at h ⊢
  obtain⟨vs,h1,h2,h3⟩:=h
  exact⟨vs,h1,h2,RepL.keep hk he cs vs h3⟩
 | .tup cs,_,h=>by
  simp only[Rep] at h ⊢
  obtain⟨vs,h1,h3⟩:=h
  exact⟨vs,h1,RepL.keep hk he cs vs h3⟩
 | .sl es,_,h=>by
  simp only[Rep] at h ⊢
  obtain⟨A,c,h1,h2,h3,h4,h5⟩:=h
  refine⟨A,c,h1,h2,h3,h4,fun hn=>?_⟩
  obtain⟨b,o,sz,vs,g1,g2,g3,g4,g5⟩:=h5 hn
  exact⟨b,o,sz,vs,g1,(hk b g3 g2).1,(hk b g3 g2).2.1,hk.at_ g3 g2 g4,RepLL.keep hk (Ext.refl Bb) sz es vs g5⟩
 | .rp cs off,_,h=>by
  simp only[Rep] at h ⊢
  obtain⟨b,o,vs,g1,g2,g3,g4,g5,g6⟩:=h
  exact⟨b,o,vs,g1,(hk b g3 g2).1,(hk b g3 g2).2.1,hk.at_ g3 g2 g4,g5,RepL.keep hk (Ext.refl Bb) cs vs g6⟩
 | .own b,_,h=>by
  simp only[Rep] at h ⊢
  obtain⟨sz,h⟩:=h
  exact⟨sz,he _ _ h⟩
 | .pt b k off,_,h=>by
  simp only[Rep] at h ⊢
  obtain⟨x,sz,h,h2⟩:=h
  exact⟨x,sz,he _ _ h,h2⟩
 | .junk,_,_=>by simp only[Rep]
 | .und,_,h=>by simp only[Rep] at h ⊢;exact h
 | .nq _,_,h=>by simp only[Rep] at h ⊢;exact h
 | .fn _ caps,_,h=>by
  simp only[Rep] at h ⊢
  obtain⟨vs,h1,h3⟩:=h
  exact⟨vs,h1,RepL.keep hk he caps vs h3⟩
 | .mp b,_,h=>by
  simp only[Rep] at h ⊢
  obtain⟨x,h,h2⟩:=h
  exact⟨x,he _ _ h,h2⟩
 | .vw b lo,_,h=>by
  simp only[Rep] at h ⊢
  obtain⟨sz,g,n,c,h,h2⟩:=h
  exact⟨sz,g,n,c,he _ _ h,h2⟩
 | .em,_,h=>by simp only[Rep] at h ⊢;exact h
 | .asl b off n,_,h=>by
  simp only[Rep] at h ⊢
  obtain⟨x,sz,A,c,h,h2⟩:=h
  exact⟨x,sz,A,c,he _ _ h,h2⟩
theorem RepL.keep{φ φ':Phi}{M M':Nat→Prop}{w w':World}(hk:Keep M M' w w')(he:Ext φ φ'):∀ (us:List AV) (vs:List Value),RepL φ M w us vs→RepL φ' M' w' us vs
 | [],_,h=>by simp only[RepL] at h ⊢;exact h
 | u :: us,_,h=>by
  simp only[RepL] at h ⊢
  obtain⟨v,vs',h1,h2,h3⟩:=h
  exact⟨v,vs',h1,Rep.keep hk he u v h2,RepL.keep hk he us vs' h3⟩
theorem RepLL.keep{φ φ':Phi}{M M':Nat→Prop}{w w':World}(hk:Keep M M' w w')(he:Ext φ φ')(sz:Nat):∀ (es:List (List AV)) (vs:List Value),RepLL φ M w sz es vs→RepLL φ' M' w' sz es vs
 | [],_,h=>by simp only[RepLL] at h ⊢;exact h
 | e :: es,_,h=>by
  simp only[RepLL] at h ⊢
  obtain⟨x,y,h1,h2,h3,h4,h5⟩:=h
  exact⟨x,y,h1,h2,h3,RepL.keep hk he e x h4,RepLL.keep hk he sz es y h5⟩
end
section
variable{φ φ':Phi}{M M':Nat→Prop}{w w':World}
theorem RepL.nil:RepL φ M w [] []:=by simp only[RepL]
theorem RepL.cons{u:AV}{us:List AV}{v:Value}{vs:List Value}(h:Rep φ M w u v)(k:RepL φ M w us vs):RepL φ M w (u :: us) (v :: vs):=by
 simp only[RepL];exact⟨v,vs,rfl,h,k⟩
theorem RepL.len:∀ {us:List AV} {vs:List Value},RepL φ M w us vs→vs.length=us.length
 | [],_,h=>by simp only[RepL] at h;rw[h];rfl
 | u :: us,_,h=>by
  simp only[RepL] at h
  obtain⟨v,vs',rfl,_,h3⟩:=h
  rw[List.length_cons,List.length_cons,RepL.len h3]
theorem RepL.get:∀ {us:List AV} {vs:List Value} {j:Nat} {u:AV},RepL φ M w us vs→us[j]?=some u→∃ v,vs[j]?=some v∧Rep φ M w u v
 | [],_,_,_,_,hj=>by simp at hj
 | x :: us,_,0,u,h,hj=>by
  simp only[RepL] at h
  obtain⟨v,vs',rfl,h2,_⟩:=h
  simp at hj
  subst hj
  exact⟨v,by simp,h2⟩
 | x :: us,_,j+1,u,h,hj=>by
  simp only[RepL] at h
  obtain⟨v,vs',rfl,_,h3⟩:=h
  simp at hj
  obtain⟨q,h4,h5⟩:=RepL.get h3 hj
  exact⟨q,by simpa using h4,h5⟩
theorem RepL.app:∀ {us us':List AV} {vs vs':List Value},RepL φ M w us vs→RepL φ M w us' vs'→RepL φ M w (us++us') (vs++vs')
 | [],_,_,_,h,k=>by simp only[RepL] at h;subst h;simpa using k
 | x :: us,_,_,_,h,k=>by
  simp only[RepL] at h
  obtain⟨v,vs',rfl,h2,h3⟩:=h
  simpa using RepL.cons h2 (RepL.app h3 k)
theorem RepL.take:∀ (n:Nat) {us:List AV} {vs:List Value},RepL φ M w us vs→RepL φ M w (us.take n) (vs.take n)
 | 0,_,_,_=>by simp only[List.take_zero,RepL]
 | n+1,[],_,h=>by simp only[RepL] at h;subst h;simp only[List.take_nil,RepL]
 | n+1,x :: us,_,h=>by
  simp only[RepL] at h
  obtain⟨v,vs',rfl,h2,h3⟩:=h
  simpa using RepL.cons h2 (RepL.take n h3)
theorem RepL.drop:∀ (n:Nat) {us:List AV} {vs:List Value},RepL φ M w us vs→RepL φ M w (us.drop n) (vs.drop n)
 | 0,_,_,h=>by simpa using h
 | n+1,[],_,h=>by simp only[RepL] at h;subst h;simp only[List.drop_nil,RepL]
 | n+1,x :: us,_,h=>by
  simp only[RepL] at h
  obtain⟨v,vs',rfl,_,h3⟩:=h
  simpa using RepL.drop n h3
theorem RepLL.nil(sz:Nat):RepLL φ M w sz [] []:=by simp only[RepLL]
theorem RepLL.cons{sz:Nat}{e:List AV}{es:List (List AV)}{x y:List Value}(hl:x.length=sz)(h1:∀ u∈x,u.oneCell'=true)(h:RepL φ M w e x)(k:RepLL φ M w sz es y):RepLL φ M w sz (e :: es) (x++y):=by
 simp only[RepLL];exact⟨x,y,rfl,hl,h1,h,k⟩
theorem RepLL.one{e:List AV}{x:List Value}(h1:∀ u∈x,u.oneCell'=true)(h:RepL φ M w e x):RepLL φ M w x.length [e] x:=by
 simpa using RepLL.cons rfl h1 h (RepLL.nil x.length)
theorem RepLL.app{sz:Nat}:∀ {es es':List (List AV)} {x y:List Value},RepLL φ M w sz es x→RepLL φ M w sz es' y→RepLL φ M w sz (es++es') (x++y)
 | [],_,_,_,h,k=>by simp only[RepLL] at h;subst h;simpa using k
 | e :: es,_,_,_,h,k=>by
  simp only[RepLL] at h
  obtain⟨a,b,rfl,h2,h3,h4,h5⟩:=h
  rw[List.append_assoc]
  exact RepLL.cons h2 h3 h4 (RepLL.app h5 k)
theorem RepLL.len{sz:Nat}:∀ {es:List (List AV)} {x:List Value},RepLL φ M w sz es x→x.length=es.length*sz
 | [],_,h=>by simp only[RepLL] at h;subst h;simp
 | e :: es,_,h=>by
  simp only[RepLL] at h
  obtain⟨a,b,rfl,h2,_,_,h5⟩:=h
  rw[List.length_append,RepLL.len h5,h2,List.length_cons,Nat.add_mul,Nat.one_mul,Nat.add_comm]
theorem RepLL.ones{sz:Nat}:∀ {es:List (List AV)} {x:List Value},RepLL φ M w sz es x→∀ u∈x,u.oneCell'=true
 | [],_,h=>by simp only[RepLL] at h;subst h;simp
 | e :: es,_,h=>by
  simp only[RepLL] at h
  obtain⟨a,b,rfl,_,h3,_,h5⟩:=h
  intro u hu
  rcases List.mem_append.1 hu with hu|hu
  ·exact h3 u hu
  ·exact RepLL.ones h5 u hu
theorem RepLL.get{sz:Nat}:∀ {es:List (List AV)} {x:List Value} {k:Nat} {e:List AV},RepLL φ M w sz es x→es[k]?=some e →
  ∃ a b c,x=a++b++c∧a.length=k*sz∧b.length=sz∧(∀ u∈b,u.oneCell'=true)∧RepL φ M w e b∧RepLL φ M w sz (es.take k) a∧RepLL φ M w sz (es.drop (k+1)) c
 | [],_,_,_,_,hk=>by simp at hk
 | e :: es,_,0,e',h,hk=>by
  simp only[RepLL] at h
  obtain⟨a,b,rfl,h2,h3,h4,h5⟩:=h
  simp at hk
  subst hk
  exact⟨[],a,b,by simp,by simp,h2,h3,h4,by simp only[List.take_zero,RepLL],by simpa using h5⟩
 | e :: es,_,k+1,e',h,hk=>by
  simp only[RepLL] at h
  obtain⟨a,b,rfl,h2,h3,h4,h5⟩:=h
  simp at hk
  obtain⟨p,q,r,g1,g2,g3,g4,g5,g6,g7⟩:=RepLL.get h5 hk
  exact⟨a++p,q,r,by rw[g1];simp,by rw[List.length_append,h2,g2,Nat.add_mul,Nat.one_mul,Nat.add_comm],g3,g4,g5,by simpa using RepLL.cons h2 h3 h4 g6,by simpa using g7⟩
theorem RepLL.take{sz:Nat}:∀ (k:Nat) {es:List (List AV)} {x:List Value},RepLL φ M w sz es x→RepLL φ M w sz (es.take k) (x.take (k*sz))
 | 0,_,_,_=>by simp only[List.take_zero,Nat.zero_mul,RepLL]
 | k+1,[],_,h=>by simp only[RepLL] at h;subst h;simp only[List.take_nil,RepLL]
 | k+1,e :: es,_,h=>by
  simp only[RepLL] at h
  obtain⟨a,b,rfl,h2,h3,h4,h5⟩:=h
  have:(a++b).take ((k+1)*sz)=a++b.take (k*sz):=by
   rw[Nat.add_mul,Nat.one_mul,Nat.add_comm,← h2,List.take_length_add_append]
  rw[this,List.take_succ_cons]
  exact RepLL.cons h2 h3 h4 (RepLL.take k h5)
theorem RepLL.drop{sz:Nat}:∀ (k:Nat) {es:List (List AV)} {x:List Value},RepLL φ M w sz es x→RepLL φ M w sz (es.drop k) (x.drop (k*sz))
 | 0,_,_,h=>by simpa using h
 | k+1,[],_,h=>by simp only[RepLL] at h;subst h;simp only[List.drop_nil,RepLL]
 | k+1,e :: es,_,h=>by
  simp only[RepLL] at h
  obtain⟨a,b,rfl,h2,h3,h4,h5⟩:=h
  have:(a++b).drop ((k+1)*sz)=b.drop (k*sz):=by
   rw[Nat.add_mul,Nat.one_mul,Nat.add_comm,← h2,List.drop_length_add_append]
  rw[this,List.drop_succ_cons]
  exact RepLL.drop k h5
end
def AV.cells:AV→Option (List AV)
 | .agg cs=>some cs
 | .tup _=>none
 | .junk=>none
 | .und=>none
 | .nq _=>none
 | .mp _=>none
 | .vw ..=>none
 | .em=>none
 | u=>some [u]
theorem Jg{φ:Phi}{M:Nat→Prop}{w:World}{u:AV}{v:Value}{cs:List AV}(h:Rep φ M w u v)(hc:u.cells=some cs)(hφ:∀ b x,φ b=some x→x.1.oneCell'=true) :
  RepL φ M w cs v.cells.toList∧∀ x∈v.cells.toList,x.oneCell'=true:=by
 have one:∀ (u:AV) (v:Value),Rep φ M w u v→v.oneCell'=true→v.cells=#[v]→RepL φ M w [u] v.cells.toList∧∀ x∈v.cells.toList,x.oneCell'=true:=by
  intro u v h1 h2 h3
  rw[h3]
  exact⟨RepL.cons h1 RepL.nil,by simpa using h2⟩
 have cell:∀ v:Value,v.oneCell'=true→v.cells=#[v]:=by
  intro v hv
  cases v<;>simp [Value.oneCell',Value.cells] at hv ⊢
 cases u with
 | agg cs' =>
  simp only[AV.cells,Option.some.injEq] at hc
  subst hc
  simp only[Rep] at h
  obtain⟨vs,rfl,h2,h3⟩:=h
  simpa [Value.cells] using ⟨h3,h2⟩
 | tup _=>cases hc
 | junk=>cases hc
 | und=>cases hc
 | nq _=>cases hc
 | mp _=>cases hc
 | vw _ _=>cases hc
 | em=>cases hc
 | ex x =>
  simp only[AV.cells,Option.some.injEq] at hc
  subst hc
  have h':=h
  simp only[Rep] at h'
  exact one _ _ h (by rw[h'.1];exact h'.2) (cell _ (by rw[h'.1];exact h'.2))
 | sl es =>
  simp only[AV.cells,Option.some.injEq] at hc
  subst hc
  have h':=h
  simp only[Rep] at h'
  obtain⟨A,c,rfl,_⟩:=h'
  exact one _ _ h rfl rfl
 | rp a b =>
  simp only[AV.cells,Option.some.injEq] at hc
  subst hc
  have h':=h
  simp only[Rep] at h'
  obtain⟨_,_,_,rfl,_⟩:=h'
  exact one _ _ h rfl rfl
 | own b =>
  simp only[AV.cells,Option.some.injEq] at hc
  subst hc
  have h':=h
  simp only[Rep] at h'
  obtain⟨sz,h'⟩:=h'
  have:=hφ _ _ h'
  exact one _ _ h this (cell _ this)
 | fn f caps =>
  simp only[AV.cells,Option.some.injEq] at hc
  subst hc
  have h':=h
  simp only[Rep] at h'
  obtain⟨vs,rfl,_⟩:=h'
  exact one _ _ h rfl rfl
 | pt b k off =>
  simp only[AV.cells,Option.some.injEq] at hc
  subst hc
  have h':=h
  simp only[Rep] at h'
  obtain⟨_,_,_,rfl⟩:=h'
  exact one _ _ h rfl rfl
 | asl b off n =>
  simp only[AV.cells,Option.some.injEq] at hc
  subst hc
  have h':=h
  simp only[Rep] at h'
  obtain⟨_,_,_,_,_,rfl,_⟩:=h'
  exact one _ _ h rfl rfl
end Go.Proofs.YtbhffbgbhgjdiaaGreatDoor
namespace Go.Proofs.YtbhffbgbhgjdiaaGreatDoor
open Go.RowKit
set_option maxRecDepth 100000
inductive TK where
 | int (k:IntKind)|bool|str|struct|arr (n e:Nat)|slice (e:Nat)|ptr (e:Nat)|iface|other
structure ATy where
 k:TK
 sz:Nat
 bytes:Nat
 zero:List Value
 flds:List (Nat×Nat)
def ATy.isAgg(t:ATy):Bool:=match t.k with|.struct|.arr _ _=>true|_=>false
def ATy.known(t:ATy):Bool:=match t.k with|.int _|.bool|.str|.slice _|.ptr _|.iface=>true|_=>false
def aty(P:Program)(t:TypeId):ATy :=
 { k:=match P.underlying t with
    | some (.int k)=>.int k|some .bool=>.bool|some .string=>.str|some (.struct _)=>.struct|some (.array n e)=>.arr n e
    | some (.slice e)=>.slice e|some (.pointer e)=>.ptr e|some (.interface _)=>.iface|_=>.other
   sz:=((P.info? t).map (·.size)).getD 0
   bytes:=((P.info? t).map (·.bytes)).getD 0
   zero:=(((P.info? t).bind (·.zero)).map (·.cells.toList)).getD []
   flds:=match P.underlying t with|some (.struct fs)=>fs.toList.map fun f=>(f.offset,f.type)|_=>[] }
structure AS where
 tm:Nat→AV
 hp:Nat→Option A4
 nx:Nat
def upd{α:Type}(f:Nat→α)(i:Nat)(x:α):Nat→α:=fun j=>if j=i then x else f j
theorem Af{α:Type}(f:Nat→α)(i:Nat)(x:α):upd f i x i=x:=if_pos rfl
theorem Am{α:Type}(f:Nat→α){i j:Nat}(x:α)(h:j≠i):upd f i x j=f j:=if_neg h
theorem N5{α:Type}(f:Nat→α)(i j:Nat)(x:α):upd f i x j=if j=i then x else f j:=rfl
inductive Eff where
 | none
 | new (β:A4)
 | set (b:Nat) (β:A4)
 | grow (b:Nat) (β:A4)
 | frz (bs:List Nat)
 | alc (t:Nat) (z:List AV)
def Eff.quiet:Eff→Bool
 | .none|.new _|.frz []|.alc ..=>true
 | _=>false
def blank(z:List AV):List AV:=z.map fun _=>.junk
def Eff.md(draw:Bool):Eff→Eff
 | .alc t z=>if draw then .new ⟨t,[blank z],true⟩ else .new ⟨t,[z],true⟩
 | f=>f
def AS.put(σ:AS)(d:Option Tmp)(u:AV):AS:=match d with|some d=>{ σ with tm:=upd σ.tm d u }|none=>σ
def Eff.app(id:Nat)(hp:Nat→Option A4):Eff→Nat→Option A4
 | .none=>hp
 | .new β=>upd hp id (some β)
 | .set b β=>upd hp b (some β)
 | .grow b β=>upd (upd hp b Option.none) id (some β)
 | .frz bs=>fun i=>if i∈bs then (hp i).map fun β=>{ β with mu:=false } else hp i
 | .alc t z=>upd hp id (some ⟨t,[z],true⟩)
def wkL:List AV→List AV→Prop
 | [],[]=>True
 | u :: us,v :: vs=>(u=.junk∨u=v)∧wkL us vs
 | _,_=>False
def Zs:List (List AV)→List (List AV)→Prop
 | [],[]=>True
 | e :: es,x :: xs=>wkL e x∧Zs es xs
 | _,_=>False
def wkR(β γ:A4):Prop:=β.ty=γ.ty∧β.mu=γ.mu∧Zs β.es γ.es
def dok(last:Bool)(hp:Nat→Option A4):Eff→Prop
 | .set b γ=>last=true∧∃ β,hp b=some β∧wkR β γ
 | f=>f.quiet=true
def ofV:Value→AV
 | .agg cs=>if cs.all (·.oneCell') then .agg (cs.toList.map .ex) else .junk
 | .tuple _=>.junk
 | v=>.ex v
def AS.ev(σ:AS):Operand→AV
 | .tmp t=>σ.tm t
 | .const v=>ofV v
 | .global g=>.ex (.pointer (some ⟨g,0,Option.none⟩))
 | .func f=>.ex (.func (.func f) #[] #[])
def Fc(hp:Nat→Option A4):AV→Option (List (List AV))
 | .sl es=>some es
 | .own b=>(hp b).map (·.es)
 | .ex (.slice Option.none 0 0)=>some []
 | _=>Option.none
def z0:AV→AV
 | .ex (.slice Option.none 0 0)=>.sl []
 | u=>u
def p0:AV→Bool
 | .ex _|.sl _=>true
 | _=>false
def cl1(hp:Nat→Option A4):AV→Option (AV×List Nat)
 | .own b=>(hp b).bind fun β=>if β.es.all (·.all p0) then some (.sl (β.es.map (·.map z0)),[b]) else Option.none
 | .pt b j off=>(hp b).bind fun β=>(β.es[j]?).bind fun e=>if e.all p0 && !e.isEmpty then some (.rp (e.map z0) off,[b]) else Option.none
 | .rp cs off=>some (.rp cs off,[])
 | u=>if p0 u then some (z0 u,[]) else Option.none
def Ij(hp:Nat→Option A4):List AV→Option (List AV×List Nat)
 | []=>some ([],[])
 | u :: us=>(cl1 hp u).bind fun x=>(Ij hp us).bind fun y=>some (x.1 :: y.1,x.2++y.2)
def cl(hp:Nat→Option A4):AV→Option (AV×List Nat)
 | .agg cs=>(Ij hp cs).map fun x=>(.agg x.1,x.2)
 | .fn f cs=>(Ij hp cs).map fun x=>(.fn f x.1,x.2)
 | u=>cl1 hp u
def cls(hp:Nat→Option A4):List AV→Option (List AV×List Nat)
 | []=>some ([],[])
 | u :: us=>(cl hp u).bind fun x=>(cls hp us).bind fun y=>some (x.1 :: y.1,x.2++y.2)
def Dt:AV→Bool
 | .ex _=>true
 | .sl []=>true
 | _=>false
def Lc:AV→Bool
 | .agg cs=>cs.all Dt
 | u=>Dt u
def K2:AV→Bool
 | .tup cs=>cs.all Lc
 | u=>Lc u
inductive Res where
 | val (r:AV)
 | fresh (e:Nat) (es:List (List AV))
 | aggf (cs:List AV) (j e:Nat) (es:List (List AV))
def Cw(P:Program)(f:FuncId):Prop:=∃ fn,P.funcs[f]?=some fn∧fn.body.isSome=true∧(fn.name == "runtime.NumGoroutine")=false
def Con(P:Program)(C:World→Prop)(f:FuncId)(us:List AV):Res→Prop
 | .val r=>Cw P f∧∀ (M:Nat→Prop) (w:World) (args:List Value),(∀ b,M b→b<w.heap.size)→C w→RepL Bb M w us args →
   Calls P f args.toArray w fun e w'=>∃ v,e=.returned v∧Rep Bb M w' r v∧Below w.heap.size w w'
 | .fresh e es=>Cw P f∧∀ (M:Nat→Prop) (w:World) (args:List Value),(∀ b,M b→b<w.heap.size)→C w→RepL Bb M w us args →
   Calls P f args.toArray w fun e' w'=>∃ v xs,e'=.returned v∧w'.ownsRow w.heap.size e (aty P e).sz v es.length xs∧RepLL Bb (fun b=>M b∨v.ownBlock=some b) w' (aty P e).sz es xs∧Below w.heap.size w w'
 | .aggf cs j e es=>Cw P f∧∀ (M:Nat→Prop) (w:World) (args:List Value),(∀ b,M b→b<w.heap.size)→C w→RepL Bb M w us args →
   Calls P f args.toArray w fun e' w'=>∃ vs v xs,e'=.returned (.agg vs.toArray)∧(∀ u∈vs,u.oneCell'=true)∧RepL Bb (fun b=>M b∨v.ownBlock=some b) w' cs vs∧vs[j]?=some v∧w'.ownsRow w.heap.size e (aty P e).sz v es.length xs ∧
    RepLL Bb (fun b=>M b∨v.ownBlock=some b) w' (aty P e).sz es xs∧Below w.heap.size w w'
def Nr(P:Program)(C:World→Prop)(f:FuncId)(e:Nat)(es:List (List AV))(us:List AV)(es':List (List AV)):Prop :=
 Cw P f∧∀ (M:Nat→Prop) (W0 w:World) (hd:Value) (xs args:List Value),C W0→Below W0.heap.size W0 w→(∀ b,M b→b<w.heap.size)→w.ownsRow W0.heap.size e (aty P e).sz hd es.length xs→RepLL Bb M w (aty P e).sz es xs →
  (∀ b,hd.ownBlock=some b→M b)→RepL Bb M w us args →
   Calls P f (hd :: args).toArray w fun e' w'=>∃ v xs',e'=.returned v∧w'.ownsRow W0.heap.size e (aty P e).sz v es'.length xs'∧RepLL Bb M w' (aty P e).sz es' xs'∧w.grownBy w' hd.ownBlock ∧
    ∀ k,v.ownBlock=some k→hd.ownBlock=some k∨w.heap.size≤k
def Hy(P:Program)(t:TypeId)(xs ys:List AV)(b:Bool):Prop:=∀ (φ:Phi) (M:Nat→Prop) (w:World) (vx vy:List Value),RepL φ M w xs vx→RepL φ M w ys vy →
 (Op.equal t (.agg vx.toArray) (.agg vy.toArray)).run P w=.ok b w∧(∀ x y op,(eqGuard op t x y (.agg vx.toArray) (.agg vy.toArray)).run P w=.ok () w)
def B3(l:List UInt8):List (List AV):=l.map fun c=>[.ex (.int .u8 c.toNat)]
def Ck:Operand→Bool
 | .const (.slice Option.none 0 0)=>true
 | _=>false
def Da(op:BinOp)(kd:IntKind)(a b:Int)(k:AV→Eff→Prop):Prop :=
 match op with
 | .add=>k (.ex (.int kd (kd.wrap (a+b)))) .none
 | .sub=>k (.ex (.int kd (kd.wrap (a-b)))) .none
 | .mul=>k (.ex (.int kd (kd.wrap (a*b)))) .none
 | .quo=>b≠0∧k (.ex (.int kd (kd.wrap (a.tdiv b)))) .none
 | .rem=>b≠0∧k (.ex (.int kd (a.tmod b))) .none
 | .and=>k (.ex (.int kd (kd.wrap (BitVec.ofInt kd.bits a &&& BitVec.ofInt kd.bits b).toNat))) .none
 | .or=>k (.ex (.int kd (kd.wrap (BitVec.ofInt kd.bits a ||| BitVec.ofInt kd.bits b).toNat))) .none
 | .xor=>k (.ex (.int kd (kd.wrap (BitVec.ofInt kd.bits a ^^^ BitVec.ofInt kd.bits b).toNat))) .none
 | .eql=>k (.ex (.bool (decide (a=b)))) .none
 | .neq=>k (.ex (.bool (!decide (a=b)))) .none
 | .lss=>k (.ex (.bool (decide (a<b)))) .none
 | .leq=>k (.ex (.bool (decide (a≤b)))) .none
 | .gtr=>k (.ex (.bool (decide (b<a)))) .none
 | .geq=>k (.ex (.bool (decide (b≤a)))) .none
 | _=>False
def Gc(op:BinOp)(a b:ByteArray)(k:AV→Eff→Prop):Prop :=
 match op with
 | .add=>a.size+b.size≤9223372036854775807∧k (.ex (.string (a++b))) .none
 | .eql=>k (.ex (.bool (decide (a=b)))) .none
 | .neq=>k (.ex (.bool (!decide (a=b)))) .none
 | .lss=>k (.ex (.bool (Op.bytesLess a.data.toList b.data.toList))) .none
 | .leq=>k (.ex (.bool (Op.bytesLess a.data.toList b.data.toList || decide (a=b)))) .none
 | .gtr=>k (.ex (.bool (!(Op.bytesLess a.data.toList b.data.toList || decide (a=b))))) .none
 | .geq=>k (.ex (.bool (!Op.bytesLess a.data.toList b.data.toList))) .none
 | _=>False
def Ag(P:Program)(op:BinOp)(t:TypeId)(x y:AV)(k:AV→Eff→Prop):Prop :=
 match x,y with
 | .ex (.int ka a),.ex (.int kb b) =>
  match op with
  | .shl=>0≤b∧k (.ex (.int ka (ka.wrap (a*2 ^ (min b.toNat ka.bits))))) .none
  | .shr=>0≤b∧k (.ex (.int ka (a.fdiv (2 ^ (min b.toNat ka.bits))))) .none
  | _=>ka=kb∧Da op ka a b k
 | .ex (.string a),.ex (.string b)=>Gc op a b k
 | .ex (.bool a),.ex (.bool b)=>(match op with|.eql=>k (.ex (.bool (a == b))) .none|.neq=>k (.ex (.bool (a != b))) .none|_=>False)∧(aty P t).k=.bool
 | .agg xs,.agg ys=>(match op with|.eql=>∃ b,Hy P t xs ys b∧k (.ex (.bool b)) .none|.neq=>∃ b,Hy P t xs ys b∧k (.ex (.bool (!b))) .none|_=>False)
 | .ex (.iface _ _),.ex .nilIface=>(match op with|.eql=>k (.ex (.bool false)) .none|.neq=>k (.ex (.bool true)) .none|_=>False)∧(aty P t).k=.iface
 | .sl es,.ex (.slice Option.none 0 0)=>(match op with|.eql=>k (.nq es) .none|_=>False)∧(match (aty P t).k with|.slice _=>True|_=>False)
 | _,_=>False
def Jn(op:UnOp)(x:AV)(k:AV→Eff→Prop):Prop :=
 match op,x with
 | .not,.ex (.bool b)=>k (.ex (.bool (!b))) .none
 | .neg,.ex (.int kd n)=>k (.ex (.int kd (kd.wrap (0-n)))) .none
 | .xor,.ex (.int kd n)=>Da .xor kd (if kd.signed then -1 else kd.max) n k
 | _,_=>False
def Bm(P:Program)(hp:Nat→Option A4)(src dst:TypeId)(x:AV)(k:AV→Eff→Prop):Prop :=
 match x,(aty P dst).k with
 | .ex (.int _ n),.int kd=>(aty P src).known=true∧k (.ex (.int kd (kd.wrap n))) .none
 | .ex (.string s),.str=>(aty P src).k=.str∧k (.ex (.string s)) .none
 | .ex (.string s),.slice e=>(aty P src).k=.str∧(match (aty P e).k with|.int .u8=>s.size≤maxLen∧k (.sl (B3 s.data.toList)) .none|_=>False)
 | u,.str=>(match (aty P src).k with|.slice e=>(match (aty P e).k with|.int .u8=>True|_=>False)|_=>False)∧∃ l,Fc hp u=some (B3 l)∧k (.ex (.string ⟨l.toArray⟩)) .none
 | _,_=>False
def Ar(P:Program)(t:TypeId)(cs:List AV)(off:Nat)(k:AV→Eff→Prop):Prop :=
 if (aty P t).isAgg then (0<(aty P t).sz∧off+(aty P t).sz≤cs.length)∧k (.agg ((cs.drop off).take (aty P t).sz)) .none
 else (aty P t).known=true∧∃ u,cs[off]?=some u∧k u .none
def Cf(P:Program)(hp:Nat→Option A4)(t:TypeId)(x:AV)(k:AV→Eff→Prop):Prop :=
 match (aty P t).k,x with
 | .str,.ex (.string s)=>k (.ex (.int .i64 s.size)) .none
 | .arr n _,_=>k (.ex (.int .i64 n)) .none
 | .slice _,.asl _ _ n=>k (.ex (.int .i64 n)) .none
 | .slice _,u=>∃ es,Fc hp u=some es∧k (.ex (.int .i64 es.length)) .none
 | _,_=>False
def D9(P:Program)(hp:Nat→Option A4)(id:Nat)(e:TypeId)(s:AV)(ns:List (List AV))(k:AV→Eff→Prop):Prop :=
 ((aty P e).zero.length=(aty P e).sz∧0<(aty P e).sz∧1≤(aty P e).bytes∧∀ n∈ns,n.length=(aty P e).sz) ∧
 match s with
 | .own b=>∃ β,hp b=some β∧β.mu=true∧β.ty=e∧(β.es.length+ns.length)*(aty P e).bytes≤140737488355328∧k (.own id) (.grow b ⟨e,β.es++ns,true⟩)
 | .ex (.slice Option.none 0 0)=>ns.length*(aty P e).bytes≤140737488355328∧k (.own id) (.new ⟨e,ns,true⟩)
 | .em=>(ns=[]∧k .em .none)∨((ns≠[]∧ns.length*(aty P e).bytes≤140737488355328)∧k (.own id) (.new ⟨e,ns,true⟩))
 | _=>False
def Vf(P:Program)(C:World→Prop)(id:Nat)(f:FuncId)(hp:Nat→Option A4)(args:List AV)(k:AV→Eff→Prop):Prop :=
 match args with
 | .own b :: rest=>∃ β us ids es',hp b=some β∧β.mu=true∧(β.es.all (·.all p0))=true∧cls hp rest=some (us,ids)∧b ∉ ids∧(es'.all (·.all Dt))=true∧Nr P C f β.ty (β.es.map (·.map z0)) us es'∧k (.own id) (.grow b ⟨β.ty,es',true⟩)
 | .ex (.slice Option.none 0 0) :: rest=>∃ e us ids es',cls hp rest=some (us,ids)∧(es'.all (·.all Dt))=true∧Nr P C f e [] us es'∧k (.own id) (.new ⟨e,es',true⟩)
 | _=>False
def A3e(P:Program)(f:FuncId)(xs rs:List Value):Prop:=∀ w,(callFunc f xs.toArray).run P w=.ok (.value (.tuple rs.toArray)) w
def Ayi(P:Program)(f:FuncId)(args:List AV)(k:AV→Eff→Prop):Prop:=∃ xs rs,args=xs.map .ex∧A3e P f xs rs∧(∀ r∈rs,r.oneCell'=true)∧k (.tup (rs.map .ex)) .none
def B8(P:Program)(C:World→Prop)(id:Nat)(f:FuncId)(hp:Nat→Option A4)(args:List AV)(k:AV→Eff→Prop):Prop :=
 (∃ us ids,cls hp args=some (us,ids)∧∃ R,Con P C f us R∧match R with
   | .val r=>k r (.frz (if K2 r then [] else ids))
   | .fresh e es=>ids=[]∧k (.own id) (.new ⟨e,es,true⟩)
   | .aggf cs j e es=>ids=[]∧k (.agg (cs.set j (.own id))) (.new ⟨e,es,true⟩))∨Vf P C id f hp args k∨Ayi P f args k
def F8(place:Nat→Option (Nat×Nat))(cells:List AV):List (Nat×AV)→Option (List AV)
 | []=>some cells
 | (i,u) :: rest=>(place i).bind fun p=>u.cells.bind fun cs=>if cs.length≠p.2∨p.1+cs.length > cells.length then Option.none else F8 place (cells.take p.1++cs++cells.drop (p.1+cs.length)) rest
def Ek(P:Program)(hp:Nat→Option A4)(t:TypeId)(x:AV)(n:Nat)(k:AV→Eff→Prop):Prop :=
 match (aty P t).k,x with
 | .slice e,.own b=>∃ β,hp b=some β∧(β.ty=e∧0<(aty P e).sz)∧n<β.es.length∧k (.pt b n 0) .none
 | .slice e,.sl es=>0<(aty P e).sz∧∃ h:n<es.length,es[n].length=(aty P e).sz∧k (.rp es[n] 0) .none
 | .arr len e,.rp cs off=>0<(aty P e).sz∧n<len∧k (.rp cs (off+n*(aty P e).sz)) .none
 | .arr len e,.pt b j off=>0<(aty P e).sz∧n<len∧k (.pt b j (off+n*(aty P e).sz)) .none
 | .slice e,.asl b off m=>0<(aty P e).sz∧n<m∧k (.pt b 0 (off+n*(aty P e).sz)) .none
 | _,_=>False
def bnd(d:Nat)(ev:Operand→AV):Option Operand→(Nat→Prop)→Prop
 | Option.none,k=>k d
 | some x,k=>∃ kd n,ev x=.ex (.int kd n)∧0≤n∧k n.toNat
def B7(P:Program)(hp:Nat→Option A4)(id:Nat)(t:TypeId)(x:AV)(ev:Operand→AV)(lo hi mx:Option Operand)(k:AV→Eff→Prop):Prop :=
 match (aty P t).k,x with
 | .str,.ex (.string s)=>mx=Option.none∧bnd 0 ev lo fun l=>bnd s.size ev hi fun h=>l≤h∧h≤s.size∧k (.ex (.string (s.extract l h))) .none
 | .slice e,.sl es=>(0<(aty P e).sz∧(hi=Option.none→mx=Option.none)∧∀ x∈es,x.length=(aty P e).sz)∧bnd 0 ev lo fun l=>bnd es.length ev hi fun h=>bnd es.length ev mx fun m=>l≤h∧h≤m∧m≤es.length∧k (.sl ((es.take h).drop l)) .none
 | .slice e,.own b=>∃ β,hp b=some β∧(β.ty=e∧0<(aty P e).sz∧mx=Option.none)∧bnd 0 ev lo fun l=>bnd β.es.length ev hi fun h=>(l≤h∧h≤β.es.length) ∧
   (((β.es.all (·.all p0))=true∧k (.sl (((β.es.map (·.map z0)).take h).drop l)) (.frz [b]))∨((hi=Option.none∧l<h)∧k (.vw b l) .none)∨((lo=Option.none∧β.mu=true)∧k (.own id) (.grow b ⟨e,β.es.take h,true⟩)))
 | .arr len e,.pt b j off=>(0<(aty P e).sz∧j=0∧lo=Option.none∧hi=Option.none∧mx=Option.none∧len≤maxLen)∧k (.asl b off len) .none
 | .slice e,.asl b off n=>(0<(aty P e).sz∧mx=Option.none)∧bnd 0 ev lo fun l=>bnd n ev hi fun h=>(l≤h∧h≤n)∧k (.asl b (off+l*(aty P e).sz) (h-l)) .none
 | _,_=>False
def Amp(P:Program)(t:TypeId):Prop:=∃ kt et,P.underlying t=some (.map kt et)∧(P.underlying et=some .bool∧∀ w,(zeroValue et).run P w=.ok (.bool false) w)∧Maps.Keyed P kt
def Jo(P:Program)(t:TypeId)(v:Value):Prop:=∃ kt et kl,P.underlying t=some (.map kt et)∧keyOf P kt v=some kl
open Classical in
noncomputable def I0:List (List AV)→Value→Option Bool
 | [],_=>some false
 | e :: es,k=>match e with
  | [.ex k',.ex (.bool v)]=>if k'=k then some v else I0 es k
  | _=>Option.none
def A7(P:Program)(C:World→Prop)(id:Nat)(op:Op)(ty:TypeId)(ev:Operand→AV)(hp:Nat→Option A4)(k:AV→Eff→Prop):Prop :=
 match op with
 | .move x=>k (ev x) .none
 | .assign x=>match Ck x,(aty P ty).k with
  | true,.slice e=>k (.own id) (.new ⟨e,[],true⟩)
  | _,_=>k (ev x) .none
 | .pick c a b=>∃ t,ev c=.ex (.bool t)∧k (if t then ev a else ev b) .none
 | .alloc t=>((aty P t).zero.length=(aty P t).sz∧0<(aty P t).sz∧(aty P t).zero.all (·.oneCell')=true)∧k (.pt id 0 0) (.alc t ((aty P t).zero.map .ex))
 | .box t x=>∃ cs,(ev x).cells=some cs∧(cs.length=(aty P t).sz∧0<cs.length)∧k (.pt id 0 0) (.new ⟨t,[cs],true⟩)
 | .load t x=>match ev x with
  | .rp cs off=>Ar P t cs off k
  | .pt b j off=>∃ β e,hp b=some β∧β.es[j]?=some e∧Ar P t e off k
  | _=>False
 | .store t x v=>match ev x with
  | .pt b j off=>∃ β e cs,hp b=some β∧β.mu=true∧β.es[j]?=some e∧(ev v).cells=some cs∧(cs.length=(aty P t).sz∧0<cs.length∧off+cs.length≤e.length) ∧
    k .junk (.set b ⟨β.ty,β.es.set j (e.take off++cs++e.drop (off+cs.length)),true⟩)
  | _=>False
 | .nilCheck x=>match ev x with
  | .rp cs off=>k (.rp cs off) .none
  | .pt b j off=>k (.pt b j off) .none
  | _=>False
 | .binOp op t x y _=>Ag P op t (ev x) (ev y) k
 | .unOp op _ x=>Jn op (ev x) k
 | .convert src dst x=>Bm P hp src dst (ev x) k
 | .makeSlice t len cap=>∃ n c,ev len=.ex (.int .i64 n)∧ev cap=.ex (.int .i64 c)∧match (aty P t).k with
  | .slice e=>((aty P e).zero.length=(aty P e).sz∧0<(aty P e).sz∧1≤(aty P e).bytes∧(aty P e).zero.all (·.oneCell')=true) ∧
    if n=0 then (n=0∧0≤c∧(aty P e).bytes*c.toNat≤140737488355328)∧k (.own id) (.new ⟨e,[],true⟩)
    else (0≤n∧n=c∧(aty P e).bytes*n.toNat≤140737488355328)∧k (.own id) (.new ⟨e,List.replicate n.toNat ((aty P e).zero.map .ex),true⟩)
  | _=>False
 | .slice t x lo hi mx=>B7 P hp id t (ev x) ev lo hi mx k
 | .makeMap t r=>(r=Option.none∧Amp P t)∧k (.mp id) (.new ⟨t,[],true⟩)
 | .mapUpdate t m x v=>match ev m with
  | .mp b=>∃ β kx bv,hp b=some β∧(β.mu=true∧β.ty=t)∧ev x=.ex kx∧Jo P t kx∧ev v=.ex (.bool bv)∧β.es.length<maxLen∧k .junk (.set b ⟨β.ty,[.ex kx,.ex (.bool bv)] :: β.es,true⟩)
  | _=>False
 | .lookup t m x c=>match ev m with
  | .mp b=>∃ β kx bv,hp b=some β∧(β.ty=t∧c=false)∧ev x=.ex kx∧Jo P t kx∧I0 β.es kx=some bv∧k (.ex (.bool bv)) .none
  | _=>False
 | .fieldAddr s x f=>∃ o ft,(aty P s).flds[f]?=some (o,ft)∧(aty P ft).sz≠0∧match ev x with
  | .rp cs off=>k (.rp cs (off+o)) .none
  | .pt b j off=>k (.pt b j (off+o)) .none
  | _=>False
 | .field s x f=>∃ o ft,(aty P s).flds[f]?=some (o,ft)∧match ev x with
  | .agg cs=>Ar P ft cs o k
  | _=>False
 | .indexAddr t x i=>∃ kd n,ev i=.ex (.int kd n)∧0≤n∧Ek P hp t (ev x) n.toNat k
 | .index t x i=>∃ kd n,ev i=.ex (.int kd n)∧0≤n∧match (aty P t).k,ev x with
  | .str,.ex (.string s)=>∃ h:n.toNat<s.size,k (.ex (.int .u8 (s[n.toNat]'h).toNat)) .none
  | .arr len e,.agg cs=>0<(aty P e).sz∧n.toNat<len∧Ar P e cs (n.toNat*(aty P e).sz) k
  | _,_=>False
 | .makeFunc (.func f) first captured=>first=#[]∧k (.fn f (captured.toList.map ev)) .none
 | .extract x i=>match ev x with
  | .tup vs=>∃ u,vs[i]?=some u∧k u .none
  | _=>False
 | .build t parts=>((aty P t).zero.length=(aty P t).sz∧0<(aty P t).sz∧(aty P t).zero.all (·.oneCell')=true)∧match (aty P t).k with
  | .struct=>((aty P t).flds.all fun f=>decide (0<(aty P f.2).sz))=true∧∃ cs,F8 (fun i=>((aty P t).flds.map fun f=>(f.1,(aty P f.2).sz))[i]?) ((aty P t).zero.map .ex) (parts.toList.map fun x=>(x.1,ev x.2))=some cs∧k (.agg cs) .none
  | .arr _ e=>0<(aty P e).sz∧∃ cs,F8 (fun i=>some (i*(aty P e).sz,(aty P e).sz)) ((aty P t).zero.map .ex) (parts.toList.map fun x=>(x.1,ev x.2))=some cs∧k (.agg cs) .none
  | _=>False
 | .buildSlice t len parts=>match (aty P t).k with
  | .slice e=>((aty P e).zero.length=(aty P e).sz∧0<(aty P e).sz∧len*(aty P e).sz≤16777216∧(aty P e).zero.all (·.oneCell')=true) ∧
    (parts.toList.map (·.1)=List.range len∧(parts.toList.all fun x=>((ev x.2).cells.map (·.length)) == some (aty P e).sz)=true) ∧
     (k (.own id) (.new ⟨e,parts.toList.filterMap (fun x=>(ev x.2).cells),true⟩)∨(len=0∧k .em .none))
  | _=>False
 | .call c=>match c.callee with
  | .value (.func f)=>B8 P C id f hp (c.args.toList.map ev) k
  | .value (.tmp t)=>match ev (.tmp t) with
   | .fn f caps=>B8 P C id f hp (c.args.toList.map ev++caps) k
   | .ex (.func (.func f) a b)=>(a=#[]∧b=#[])∧B8 P C id f hp (c.args.toList.map ev) k
   | _=>False
  | .builtin .len=>match c.args.toList,c.argTypes.toList with
   | [x],[t]=>Cf P hp t (ev x) k
   | _,_=>False
  | .builtin .append=>match c.args.toList,c.argTypes.toList with
   | [s,x],[t,t2]=>match (aty P t).k with
    | .slice e=>match ev x with
     | .ex (.string _)=>False
     | u=>t2=t∧∃ ns,Fc hp u=some ns∧D9 P hp id e (ev s) ns k
    | _=>False
   | _,_=>False
  | .builtin .delete=>match c.args.toList,c.argTypes.toList with
   | [m,x],[t,kt]=>match ev m with
    | .mp b=>∃ β kx,hp b=some β∧(β.mu=true∧β.ty=t)∧ev x=.ex kx∧Jo P t kx∧(∃ et,P.underlying t=some (.map kt et))∧k .junk (.set b ⟨β.ty,[.ex kx,.ex (.bool false)] :: β.es,true⟩)
    | _=>False
   | _,_=>False
  | .builtin .clear=>match c.args.toList,c.argTypes.toList with
   | [x],[t]=>match (aty P t).k,ev x with
    | .slice e,.vw b lo=>∃ β,hp b=some β∧(β.mu=true∧β.ty=e)∧((aty P e).zero.length=(aty P e).sz∧0<(aty P e).sz∧(aty P e).zero.all (·.oneCell')=true) ∧
      k .junk (.set b ⟨β.ty,β.es.take lo++List.replicate (β.es.length-lo) ((aty P e).zero.map .ex),true⟩)
    | .slice e,.asl b off n=>∃ β r,hp b=some β∧(β.mu=true∧β.es=[r]∧0<n∧off+n*(aty P e).sz≤r.length)∧((aty P e).zero.length=(aty P e).sz∧0<(aty P e).sz∧(aty P e).zero.all (·.oneCell')=true) ∧
      k .junk (.set b ⟨β.ty,[r.take off++(List.replicate n ((aty P e).zero.map .ex)).flatten++r.drop (off+n*(aty P e).sz)],true⟩)
    | _,_=>False
   | _,_=>False
  | .builtin .copy=>match c.args.toList,c.argTypes.toList with
   | [x,y],[t,_]=>match (aty P t).k,ev x with
    | .slice e,.own b=>∃ β ns,hp b=some β∧(β.mu=true∧β.ty=e∧0<(aty P e).sz)∧Fc hp (ev y)=some ns∧(∀ n∈ns,n.length=(aty P e).sz)∧ns.length≤β.es.length ∧
      k (.ex (.int .i64 ns.length)) (.set b ⟨β.ty,ns++β.es.drop ns.length,true⟩)
    | _,_=>False
   | _,_=>False
  | .builtin .min=>match c.args.toList with
   | [x,y]=>∃ kd a kd' b,ev x=.ex (.int kd a)∧ev y=.ex (.int kd' b)∧k (.ex (.int kd (if b<a then b else a))) .none
   | _=>False
  | .builtin .max=>match c.args.toList with
   | [x,y]=>∃ kd a kd' b,ev x=.ex (.int kd a)∧ev y=.ex (.int kd' b)∧k (.ex (.int kd (if a<b then b else a))) .none
   | [x,y,z]=>∃ kd a kd' b kd2 d,ev x=.ex (.int kd a)∧ev y=.ex (.int kd' b)∧ev z=.ex (.int kd2 d)∧k (.ex (.int kd (if (if a<b then b else a)<d then d else (if a<b then b else a)))) .none
   | _=>False
  | _=>False
 | _=>False
def aop(P:Program)(C:World→Prop)(draw last:Bool)(id:Nat)(o:Oper)(K:AS→Prop)(σ:AS):Prop :=
 A7 P C id o.op o.type σ.ev σ.hp fun u f=>(draw=true→dok last σ.hp f)∧K ({ σ with hp:=(f.md draw).app id σ.hp }.put o.dst u)
def Ax(P:Program)(C:World→Prop)(ops:Array Oper)(nd:Nat)(b:Nat):Nat→List Oper→(AS→Prop)→AS→Prop
 | _,[],K,σ=>K σ
 | i,o :: rest,K,σ=>match o.guard with
  | Option.none=>aop P C (decide (i<nd)) (decide (i+1=nd)) (b+i) o (Ax P C ops nd b (i+1) rest K) σ
  | some (j, want) => (∃ t,(((ops[j]?).bind (·.dst)).map σ.tm)=some (.ex (.bool t)) ∧
    if t=want then aop P C (decide (i<nd)) (decide (i+1=nd)) (b+i) o (Ax P C ops nd b (i+1) rest K) σ else Ax P C ops nd b (i+1) rest K (σ.put o.dst .und)) ∨
    ((((ops[j]?).bind (·.dst)).map σ.tm)=some .und∧Ax P C ops nd b (i+1) rest K (σ.put o.dst .und))
def Ap(o:Oper):List Nat:=(o.after.toList.filter (Region.binds .any)).map (·.on)
def Q8(acc:List Nat)(o:Oper):Nat:=(Ap o).foldl (fun m i=>m ||| 2 ^ i ||| acc.getD i 0) 0
def Ym:List Nat→List Oper→List Nat
 | acc,[]=>acc
 | acc,o :: rest=>Ym (acc++[Q8 acc o]) rest
def cover(ms:List Nat)(j:Nat):Bool:=(List.range j).all fun i=>(ms.getD j 0).testBit i
def Hb(ms:List Nat):Nat→Nat
 | 0=>0
 | k+1=>if cover ms k then Hb ms k else k+1
def drawn(ops:Array Oper):Nat:=Hb (Ym [] ops.toList) ops.size
def D5(ops:Array Oper)(nd:Nat):Bool :=
 (List.range ops.size).all fun j=>match ops[j]? with
  | none=>false
  | some oj=>(Ap oj).all (fun i=>decide (i<j)) && (oj.guard.all fun g=>decide (g.1<ops.size)) && (match oj.op with|.select ..=>false|_=>true) &&
   (List.range nd).all fun i=>match ops[i]? with
    | none=>false
    | some oi=>match oi.dst with
     | none=>true
     | some d=>i == j || (oj.dst != some d && (!(oj.looksAt ops).contains d || (Ap oj).contains i || (Ap oi).contains j))
def Es(next:AS→Prop)(Q:Exit→AS→Prop):Exit→AS→Prop
 | .normal,σ=>next σ
 | e,σ=>Q e σ
def Dx(id:Nat)(Q:Exit→AS→Prop):Exit→AS→Prop
 | .exit i,σ=>if i=id then Q .normal σ else Q (.exit i) σ
 | e,σ=>Q e σ
def Yq(Q:Exit→AS→Prop):Exit→AS→Prop
 | .goto _,_=>False
 | e,σ=>Q e σ
def writes:Code→List Nat
 | .region _ ops _=>ops.toList.filterMap (·.dst)
 | .seq a b|.cond _ a b=>writes a++writes b
 | .block _ c|.loop c|.scope c=>writes c
 | _=>[]
def Mo(φ:Phi)(hp:Nat→Option A4)(M0:Nat→Prop)(b:Nat):Prop:=M0 b∨∃ i β v,hp i=some β∧β.mu=true∧φ i=some v∧v.1.ownBlock=some b
structure Root extends World where
 J:Nat→Prop
 wE:World
 gs:AV→Value→Prop:=fun _ _=>False
 df:List Deferred:=[]
instance:Coe Root World:=⟨Root.toWorld⟩
def Avm(P:Program)(kt:TypeId)(es:List (List AV))(D:DataW Unit):Prop:=∀ (kv:Value) (kl:Lit) (v:Bool),keyOf P kt kv=some kl→I0 es kv=some v→D.atKey kl (.lit (.bool false))=.lit (.bool v)
def Hf(P:Program)(w:World)(base:Nat)(β:A4)(h:Value):Prop :=
 ∃ g kt et n D,h=.slice (some ⟨g,0,none⟩) 0 0∧base≤g∧P.underlying β.ty=some (.map kt et)∧(P.underlying et=some .bool∧∀ w,(zeroValue et).run P w=.ok (.bool false) w)∧Maps.Keyed P kt∧w.ownsMap P kt (plainElem P et) g n D∧n≤β.es.length∧Avm P kt β.es D
structure St(P:Program)(M0:Nat→Prop)(N:Nat)(w0:Root)(F:Nat→Prop)(φ:Phi)(σ:AS)(a:Act)(w:World):Prop where
 below:Below w0.heap.size w0 w
 defers:a.defers=w0.df
 size:a.tmps.size=N
 tmr:∀ t,Rep φ (Mo φ σ.hp M0) w (σ.tm t) (a.tmps.getD t undef)
 hpr:∀ i β v sz,σ.hp i=some β→φ i=some (v,sz+1)→sz=(aty P β.ty).sz∧∃ xs,w.ownsRow w0.heap.size β.ty sz v β.es.length xs∧RepLL φ (Mo φ σ.hp M0) w sz β.es xs
 hpm:∀ i β v,σ.hp i=some β→φ i=some (v,0)→Hf P w w0.heap.size β v
 inj:∀ i j β γ u v b,σ.hp i=some β→σ.hp j=some γ→φ i=some u→φ j=some v→u.1.ownBlock=some b→v.1.ownBlock=some b→i=j
 fresh:∀ i,F i→φ i=none
 m0:∀ b,M0 b→b<w0.heap.size∨w0.J b
 ones:∀ i v,φ i=some v→v.1.oneCell'=true
 jk:∀ b,w0.J b→b<w.heap.size∧w.heap[b]?=w0.wE.heap[b]?
 jo:∀ i β v b,σ.hp i=some β→φ i=some v→v.1.ownBlock=some b→¬ w0.J b
 js:w0.wE.heap.size≤w.heap.size
 gh:∀ u v,w0.gs u v→Rep φ (Mo φ σ.hp M0) w u v
def fits(N:Nat):Code→Bool
 | .region _ ops _=>ops.toList.all fun o=>o.dst.all fun d=>decide (d<N)
 | .seq a b|.cond _ a b=>fits N a && fits N b
 | .block _ c|.loop c|.scope c=>fits N c
 | _=>true
def Cx(P:Program)(M0:Nat→Prop)(N:Nat)(w0:Root)(b i:Nat)(σ:AS)(a:Act)(w:World):Prop :=
 (∃ φ,St P M0 N w0 (fun j=>b+i≤j) φ σ a w)∧∀ j,b+i≤j→σ.hp j=none
def Fr(ws:List Nat)(σ σ':AS):Prop:=(∀ t,t ∉ ws→σ'.tm t=σ.tm t)∧σ.nx≤σ'.nx
def Avn(P:Program)(C:World→Prop)(c:Code)(Q:Exit→AS→Prop)(σ:AS):Prop :=
 ∀ (M0:Nat→Prop) (N:Nat) (w0:Root) (a:Act) (w:World),C w0.toWorld→fits N c=true→Cx P M0 N w0 σ.nx 0 σ a w →
  c.wp P (fun e a' w'=>∃ σ',Q e σ'∧Cx P M0 N w0 σ'.nx 0 σ' a' w'∧Fr (writes c) σ σ') a w
def A9l(P:Program)(C:World→Prop)(ops:Array Oper)(σ:AS)(K:AS→Prop):Prop :=
 ∃ T:(Nat→Bool)→AS,(T fun _=>false)=σ∧(∀ d,(T d).nx=σ.nx)∧(∀ q o e,ops[q]?=some o→e∈Ap o→e<q)∧(∀ o,o∈ops.toList→o.guard=Option.none) ∧
  (∀ d i o,ops[i]?=some o→d i=false→(∀ e,e∈Ap o→d e=true)→(∀ j o' e,d j=true→ops[j]?=some o'→e∈Ap o'→d e=true) →
    A7 P C (σ.nx+i) o.op o.type (T d).ev (T d).hp fun u f=>({ T d with hp:=f.app (σ.nx+i) (T d).hp }.put o.dst u)=T fun q=>d q || decide (q=i)) ∧
  (∀ t,t ∉ ops.toList.filterMap (·.dst)→(T fun q=>decide (q<ops.size)).tm t=σ.tm t)∧(∀ x,σ.nx+ops.size≤x→σ.hp x=Option.none→(T fun q=>decide (q<ops.size)).hp x=Option.none) ∧
  K { (T fun q=>decide (q<ops.size)) with nx:=σ.nx+ops.size }
def awp(P:Program)(C:World→Prop):Code→(Exit→AS→Prop)→AS→Prop
 | .skip,Q,σ=>Q .normal σ
 | .region id ops d,Q,σ=>((d=true→D5 ops (drawn ops)=true)∧Ax P C ops (if d then drawn ops else 0) σ.nx 0 ops.toList (fun σ'=>Q .normal { σ' with nx:=σ.nx+ops.size }) σ)∨(d=true∧A9l P C ops σ (Q .normal))∨Avn P C (.region id ops d) Q σ
 | .seq a b,Q,σ=>awp P C a (Es (awp P C b Q) Q) σ
 | .cond c x y,Q,σ=>(∃ t,σ.ev c=.ex (.bool t)∧(t=true→awp P C x Q σ)∧(t=false→awp P C y Q σ))∨∃ es,σ.ev c=.nq es∧(es=[]→awp P C x Q σ)∧awp P C y Q σ
 | .block id c,Q,σ=>awp P C c (Dx id Q) σ
 | .loop c,Q,σ=>∃ (I:Nat→AS→Prop) (n:Nat),I n σ∧∀ n σ',I n σ'→(∀ t,t ∉ writes c→σ'.tm t=σ.tm t)→σ.nx≤σ'.nx→awp P C c (Es (fun σ''=>∃ m,m<n∧I m σ'') Q) σ'
 | .exit id,Q,σ=>Q (.exit id) σ
 | .ret,Q,σ=>Q .ret σ
 | .label _,Q,σ=>Q .normal σ
 | .scope c,Q,σ=>awp P C c (Yq Q) σ
 | _,_,_=>False
end Go.Proofs.YtbhffbgbhgjdiaaGreatDoor
namespace Go.Proofs.YtbhffbgbhgjdiaaGreatDoor
open Go.RowKit
set_option maxRecDepth 100000
section
variable{P:Program}{M0:Nat→Prop}{N:Nat}{w0:Root}{F:Nat→Prop}{φ:Phi}{σ:AS}{a:Act}{w:World}
theorem Alr(a:Act)(d t:Tmp)(v:Value)(hd:d<a.tmps.size):(a.put (some d) v).tmps.getD t undef=if t=d then v else a.tmps.getD t undef:=by
 simp only[Act.put,Array.getD_eq_getD_getElem?,Array.getElem?_setIfInBounds]
 split
 ·rename_i h
  subst h
  simp
 ·rename_i h
  rw[if_neg (fun e=>h e.symm)]
theorem St.put(h:St P M0 N w0 F φ σ a w){u:AV}{v:Value}(hu:Rep φ (Mo φ σ.hp M0) w u v)(d:Option Tmp)(hd:∀ t,d=some t→t<N):St P M0 N w0 F φ (σ.put d u) (a.put d v) w:=by
 cases d with
 | none=>exact h
 | some d =>
  have hd':d<a.tmps.size:=by rw[h.size];exact hd d rfl
  refine⟨h.below,h.defers,by simp [Act.put,h.size],fun t=>?_,h.hpr,h.hpm,h.inj,h.fresh,h.m0,h.ones,h.jk,h.jo,h.js,h.gh⟩
  rw[Alr a d t v hd']
  simp only[AS.put,upd]
  split
  ·exact hu
  ·exact h.tmr t
theorem St.putJ(h:St P M0 N w0 F φ σ a w)(v:Value)(d:Option Tmp)(hd:∀ t,d=some t→t<N):St P M0 N w0 F φ (σ.put d .junk) (a.put d v) w :=
 h.put (by simp only[Rep]) d hd
theorem St.putU(h:St P M0 N w0 F φ σ a w)(d:Option Tmp)(hd:∀ t,d=some t→t<N):St P M0 N w0 F φ (σ.put d .und) (a.put d undef) w :=
 h.put (by simp only[Rep]) d hd
theorem St.sub(h:St P M0 N w0 F φ σ a w){F':Nat→Prop}(hF:∀ i,F' i→F i):St P M0 N w0 F' φ σ a w:={ h with fresh:=fun i hi=>h.fresh i (hF i hi) }
theorem Alj(φ:Phi)(M:Nat→Prop)(w:World)(v:Value):Rep φ M w (ofV v) v:=by
 cases v with
 | agg cs =>
  simp only[ofV]
  split
  ·rename_i h
   simp only[Rep]
   refine⟨cs.toList,by simp,fun u hu=>by simpa using (Array.all_eq_true_iff_forall_mem.1 h u (by simpa using hu)), ?_⟩
   have hall:∀ u∈cs.toList,u.oneCell'=true:=fun u hu=>by simpa using (Array.all_eq_true_iff_forall_mem.1 h u (by simpa using hu))
   generalize cs.toList=l at hall
   induction l with
   | nil=>exact RepL.nil
   | cons x l ih=>exact RepL.cons (by simpa [Rep] using hall x (by simp)) (ih fun u hu=>hall u (by simp [hu]))
  ·simp only[Rep]
 | tuple _=>simp only[ofV,Rep]
 | _=>simp only[ofV,Rep];exact⟨trivial,rfl⟩
theorem St.evr(h:St P M0 N w0 F φ σ a w)(x:Operand):Rep φ (Mo φ σ.hp M0) w (σ.ev x) (a.eval x):=by
 cases x with
 | tmp t=>exact h.tmr t
 | const v=>exact Alj _ _ _ v
 | global g=>simp only[AS.ev,Act.eval,Rep];exact⟨trivial,rfl⟩
 | func f=>simp only[AS.ev,Act.eval,Rep];exact⟨trivial,rfl⟩
theorem A1p{w w':World}(hb:Below w.heap.size w w')(M:Nat→Prop):Keep M M w w':=fun b hlt hM=>⟨hM,Nat.lt_of_lt_of_le hlt hb.size,hb.block b hlt⟩
theorem Mv{base e sz n:Nat}{v:Value}{xs:List Value}(h:w.ownsRow base e sz v n xs){b:Nat}(hb:v.ownBlock=some b):base≤b∧b<w.heap.size:=h.lt b hb
theorem Ld{w w':World}{base e sz n:Nat}{v:Value}{xs:List Value}(h:w.ownsRow base e sz v n xs)(hk:∀ b,v.ownBlock=some b→w'.heap[b]?=w.heap[b]?):w'.ownsRow base e sz v n xs:=by
 refine⟨h.1, ?_⟩
 rcases h.2 with h2|⟨g,cap,cur,hv,hg,hh,r⟩
 ·exact .inl h2
 ·exact .inr ⟨g,cap,cur,hv,hg,by rw[hk g (by rw[hv];rfl)];exact hh,r⟩
theorem Ga{w w':World}{base:Nat}{β:A4}{h:Value}(hm:Hf P w base β h)(hk:∀ b,h.ownBlock=some b→w'.heap[b]?=w.heap[b]?):Hf P w' base β h:=by
 obtain⟨g,kt,et,n,D,rfl,h2,h3,h4,h5,⟨es,clock,q1,q2⟩,h7,h8⟩:=hm
 exact⟨g,kt,et,n,D,rfl,h2,h3,h4,h5,⟨es,clock,(hk g rfl).trans q1,q2⟩,h7,h8⟩
theorem H3{w:World}{base:Nat}{β:A4}{h:Value}(hm:Hf P w base β h){b:Nat}(hb:h.ownBlock=some b):base≤b∧b<w.heap.size:=by
 obtain⟨g,kt,et,n,D,rfl,h2,h3,h4,h5,h6,h7,h8⟩:=hm
 cases hb
 exact⟨h2,h6.lt⟩
theorem St.lt(h:St P M0 N w0 F φ σ a w){i:Nat}{β:A4}{v:Value×Nat}(h1:σ.hp i=some β)(h2:φ i=some v){b:Nat}(hb:v.1.ownBlock=some b):w0.heap.size≤b∧b<w.heap.size:=by
 obtain⟨v,n⟩:=v
 cases n with
 | zero=>exact H3 (h.hpm i β v h1 h2) hb
 | succ sz =>
  obtain⟨_,xs,h4,_⟩:=h.hpr i β v sz h1 h2
  exact Mv h4 hb
theorem St.on(h:St P M0 N w0 F φ σ a w){w':World}(hb:Below w.heap.size w w'):St P M0 N w0 F φ σ a w':=by
 have hk:=A1p hb (Mo φ σ.hp M0)
 refine⟨Below.thenB (Nat.le_refl _) h.below hb,h.defers,h.size,fun t=>Rep.keep hk (Ext.refl φ) _ _ (h.tmr t),fun i β v sz h1 h2=>?_,fun i β v h1 h2=>Ga (h.hpm i β v h1 h2) fun b hv=>hb.block b (H3 (h.hpm i β v h1 h2) hv).2,h.inj,h.fresh,h.m0,h.ones,fun b hb'=>⟨Nat.lt_of_lt_of_le (h.jk b hb').1 hb.size,(hb.block b (h.jk b hb').1).trans (h.jk b hb').2⟩,h.jo,Nat.le_trans h.js hb.size,fun u v hg'=>Rep.keep hk (Ext.refl φ) u v (h.gh u v hg')⟩
 obtain⟨h3,xs,h4,h5⟩:=h.hpr i β v sz h1 h2
 exact⟨h3,xs,Ld h4 fun b hv=>hb.block b (Mv h4 hv).2,RepLL.keep hk (Ext.refl φ) _ _ _ h5⟩
theorem A43{id:Nat}{x:Value×Nat}(hid:φ id=none):Ext φ (upd φ id (some x)):=fun i x hi=>by
 rw[Am]
 ·exact hi
 ·intro e;subst e;rw[hid] at hi;cases hi
theorem St.newE(h:St P M0 N w0 F φ σ a w){id:Nat}(hF:F id){w':World}(hg:w.grownBy w' none){ty n:Nat}{es:List (List AV)}{v:Value}
  (hk:∀ k,v.ownBlock=some k→w.heap.size≤k) (hv:v.oneCell'=true)
  (hR:∀ sz,n=sz+1→sz=(aty P ty).sz∧∃ xs,w'.ownsRow w0.heap.size ty sz v es.length xs∧RepLL φ (fun b=>Mo φ σ.hp M0 b∨v.ownBlock=some b) w' sz es xs)
  (hP:n=0→Hf P w' w0.heap.size ⟨ty,es,true⟩ v) :
  St P M0 N w0 (fun i=>F i∧i≠id) (upd φ id (some (v,n))) { σ with hp:=upd σ.hp id (some ⟨ty,es,true⟩) } a w':=by
 have hid:=h.fresh id hF
 have hext:Ext φ (upd φ id (some (v,n))):=A43 hid
 have hB:w0.heap.size≤w.heap.size:=h.below.size
 have hbl:Below w.heap.size w w':=⟨hg.os,hg.tape,hg.output,hg.size,fun k hk'=>hg.block k hk' (by simp)⟩
 have hM:Keep (Mo φ σ.hp M0) (Mo (upd φ id (some (v,n))) (upd σ.hp id (some ⟨ty,es,true⟩)) M0) w w':=by
  intro b hlt hnb
  refine⟨?_,Nat.lt_of_lt_of_le hlt hg.size,hbl.block b hlt⟩
  rintro (h0|⟨i,β,x,h1,h2,h3,h4⟩)
  ·exact hnb (.inl h0)
  ·by_cases e:i=id
   ·subst e
    rw[Af] at h3
    cases h3
    exact absurd (hk b h4) (by omega)
   ·rw[Am _ _ e] at h1 h3
    exact hnb (.inr ⟨i,β,x,h1,h2,h3,h4⟩)
 have hM2:Keep (fun b=>Mo φ σ.hp M0 b∨v.ownBlock=some b) (Mo (upd φ id (some (v,n))) (upd σ.hp id (some ⟨ty,es,true⟩)) M0) w' w':=by
  intro b hlt hnb
  refine⟨?_,hlt,rfl⟩
  rintro (h0|⟨i,β,x,h1,h2,h3,h4⟩)
  ·exact hnb (.inl (.inl h0))
  ·by_cases e:i=id
   ·subst e
    rw[Af] at h3
    cases h3
    exact hnb (.inr h4)
   ·rw[Am _ _ e] at h1 h3
    exact hnb (.inl (.inr ⟨i,β,x,h1,h2,h3,h4⟩))
 refine⟨Below.thenB (Nat.le_refl _) h.below hbl,h.defers,h.size,fun t=>Rep.keep hM hext _ _ (h.tmr t), ?_, ?_, ?_, ?_,h.m0, ?_,fun b hb'=>⟨Nat.lt_of_lt_of_le (h.jk b hb').1 hg.size,(hbl.block b (h.jk b hb').1).trans (h.jk b hb').2⟩, ?_,Nat.le_trans h.js hg.size,fun u v hg'=>Rep.keep hM hext u v (h.gh u v hg')⟩
 ·intro i β x sz h1 h2
  by_cases e:i=id
  ·subst e
   dsimp only at h1
   rw[Af] at h1 h2
   cases h1
   rw[Option.some.injEq,Prod.mk.injEq] at h2
   obtain⟨rfl,h2⟩:=h2
   obtain⟨hsz,xs,hown,hrep⟩:=hR sz h2
   exact⟨hsz,xs,hown,RepLL.keep hM2 hext _ _ _ hrep⟩
  ·dsimp only at h1
   rw[Am _ _ e] at h1 h2
   obtain⟨h3,ys,h4,h5⟩:=h.hpr i β x sz h1 h2
   exact⟨h3,ys,Ld h4 fun b hv=>hbl.block b (Mv h4 hv).2,RepLL.keep hM hext _ _ _ h5⟩
 ·intro i β x h1 h2
  by_cases e:i=id
  ·subst e
   dsimp only at h1
   rw[Af] at h1 h2
   cases h1
   rw[Option.some.injEq,Prod.mk.injEq] at h2
   obtain⟨rfl,h2⟩:=h2
   exact hP h2
  ·dsimp only at h1
   rw[Am _ _ e] at h1 h2
   have hm:=h.hpm i β x h1 h2
   exact Ga hm fun b hv=>hbl.block b (H3 hm hv).2
 ·intro i j β γ u x b h1 h2 h3 h4 h5 h6
  dsimp only at h1 h2
  by_cases e:i=id
  ·by_cases e':j=id
   ·rw[e,e']
   ·subst e
    rw[Af] at h1 h3
    rw[Am _ _ e'] at h2 h4
    cases h3
    exact absurd (hk b h5) (by have:=(h.lt h2 h4 h6).2;omega)
  ·rw[Am _ _ e] at h1 h3
   by_cases e':j=id
   ·subst e'
    rw[Af] at h2 h4
    cases h4
    exact absurd (hk b h6) (by have:=(h.lt h1 h3 h5).2;omega)
   ·rw[Am _ _ e'] at h2 h4
    exact h.inj i j β γ u x b h1 h2 h3 h4 h5 h6
 ·rintro i ⟨hi,hne⟩
  rw[Am _ _ hne]
  exact h.fresh i hi
 ·intro i x hi
  by_cases e:i=id
  ·subst e
   rw[Af] at hi
   cases hi
   exact hv
  ·rw[Am _ _ e] at hi
   exact h.ones i x hi
 ·intro i β x c h1 h2 h3 h4
  by_cases e:i=id
  ·subst e
   rw[Af] at h2
   cases h2
   exact absurd (hk c h3) (by have:=(h.jk c h4).1;omega)
  ·dsimp only at h1
   rw[Am _ _ e] at h1 h2
   exact h.jo i β x c h1 h2 h3 h4
theorem St.newG(h:St P M0 N w0 F φ σ a w){id:Nat}(hF:F id){w':World}(hg:w.grownBy w' none){ty n:Nat}{es:List (List AV)}{v:Value}
  (hk:∀ k,v.ownBlock=some k→w.heap.size≤k) (hv:v.oneCell'=true)
  (hR:∀ sz,n=sz+1→sz=(aty P ty).sz∧∃ xs,w'.ownsRow w0.heap.size ty sz v es.length xs∧RepLL φ (fun b=>Mo φ σ.hp M0 b∨v.ownBlock=some b) w' sz es xs)
  (hP:n=0→Hf P w' w0.heap.size ⟨ty,es,true⟩ v) :
  ∃ φ',Ext φ φ'∧φ' id=some (v,n)∧St P M0 N w0 (fun i=>F i∧i≠id) φ' { σ with hp:=upd σ.hp id (some ⟨ty,es,true⟩) } a w' :=
 ⟨_,A43 (h.fresh id hF),Af _ _ _,h.newE hF hg hk hv hR hP⟩
theorem St.new(h:St P M0 N w0 F φ σ a w){id:Nat}(hF:F id){w':World}(hg:w.grownBy w' none){ty sz:Nat}{es:List (List AV)}{v:Value}{xs:List Value}
  (hown:w'.ownsRow w0.heap.size ty sz v es.length xs) (hk:∀ k,v.ownBlock=some k→w.heap.size≤k) (hv:v.oneCell'=true)
  (hrep:RepLL φ (fun b=>Mo φ σ.hp M0 b∨v.ownBlock=some b) w' sz es xs) (hsz:sz=(aty P ty).sz) :
  ∃ φ',Ext φ φ'∧φ' id=some (v,sz+1)∧St P M0 N w0 (fun i=>F i∧i≠id) φ' { σ with hp:=upd σ.hp id (some ⟨ty,es,true⟩) } a w' :=
 h.newG hF hg hk hv (fun z e=>by cases e;exact⟨hsz,xs,hown,hrep⟩) (fun e=>by cases e)
theorem St.setG(h:St P M0 N w0 F φ σ a w){b:Nat}{β:A4}{v:Value×Nat}(hb:σ.hp b=some β)(hmu:β.mu=true)(hφ:φ b=some v){w':World}(hg:w.grownBy w' v.1.ownBlock)
  {es:List (List AV)} (hR:∀ sz,v.2=sz+1→∃ xs,w'.ownsRow w0.heap.size β.ty sz v.1 es.length xs∧RepLL φ (Mo φ σ.hp M0) w sz es xs) (hP:v.2=0→Hf P w' w0.heap.size ⟨β.ty,es,true⟩ v.1) :
  St P M0 N w0 F φ { σ with hp:=upd σ.hp b (some ⟨β.ty,es,true⟩) } a w':=by
 have hB:w0.heap.size≤w.heap.size:=h.below.size
 have hbl:Below w0.heap.size w w':=⟨hg.os,hg.tape,hg.output,hg.size,fun k hk'=>hg.block k (by omega) fun e=>by have:=(h.lt hb hφ e.symm).1;omega⟩
 have hM:Keep (Mo φ σ.hp M0) (Mo φ (upd σ.hp b (some ⟨β.ty,es,true⟩)) M0) w w':=by
  intro c hlt hnb
  refine⟨?_,Nat.lt_of_lt_of_le hlt hg.size,hg.block c hlt fun e=>hnb (.inr ⟨b,β,v,hb,hmu,hφ,e.symm⟩)⟩
  rintro (h0|⟨i,γ,x,h1,h2,h3,h4⟩)
  ·exact hnb (.inl h0)
  ·by_cases e:i=b
   ·subst e
    rw[hφ] at h3
    cases h3
    exact hnb (.inr ⟨i,β,v,hb,hmu,hφ,h4⟩)
   ·rw[Am _ _ e] at h1
    exact hnb (.inr ⟨i,γ,x,h1,h2,h3,h4⟩)
 refine⟨h.below.trans hbl,h.defers,h.size,fun t=>Rep.keep hM (Ext.refl φ) _ _ (h.tmr t), ?_, ?_, ?_,h.fresh,h.m0,h.ones,fun c hc=>⟨Nat.lt_of_lt_of_le (h.jk c hc).1 hg.size,(hg.block c (h.jk c hc).1 fun e=>h.jo b β v c hb hφ e.symm hc).trans (h.jk c hc).2⟩, ?_,Nat.le_trans h.js hg.size,fun u v hg'=>Rep.keep hM (Ext.refl φ) u v (h.gh u v hg')⟩
 case refine_4 =>
  intro i γ x c h1 h2 h3 h4
  dsimp only at h1
  by_cases e:i=b
  ·subst e
   rw[hφ] at h2
   cases h2
   exact h.jo i β v c hb hφ h3 h4
  ·rw[Am _ _ e] at h1
   exact h.jo i γ x c h1 h2 h3 h4
 ·intro i γ x sz h1 h2
  by_cases e:i=b
  ·subst e
   dsimp only at h1
   rw[Af] at h1
   cases h1
   rw[hφ] at h2
   cases h2
   obtain⟨hsz,_⟩:=h.hpr i β x sz hb hφ
   obtain⟨xs,hown,hrep⟩:=hR sz rfl
   exact⟨hsz,xs,hown,RepLL.keep hM (Ext.refl φ) _ _ _ hrep⟩
  ·dsimp only at h1
   rw[Am _ _ e] at h1
   obtain⟨h3,zs,h4,h5⟩:=h.hpr i γ x sz h1 h2
   refine⟨h3,zs,Ld h4 fun c hv=>hg.block c (Mv h4 hv).2 fun e'=>e ?_,RepLL.keep hM (Ext.refl φ) _ _ _ h5⟩
   exact h.inj i b γ β (x,sz+1) v c h1 hb h2 hφ hv e'.symm
 ·intro i γ x h1 h2
  by_cases e:i=b
  ·subst e
   dsimp only at h1
   rw[Af] at h1
   cases h1
   rw[hφ] at h2
   cases h2
   exact hP rfl
  ·dsimp only at h1
   rw[Am _ _ e] at h1
   have hm:=h.hpm i γ x h1 h2
   exact Ga hm fun c hv=>hg.block c (H3 hm hv).2 fun e'=>e (h.inj i b γ β (x,0) v c h1 hb h2 hφ hv e'.symm)
 ·intro i j γ δ u x c h1 h2 h3 h4 h5 h6
  dsimp only at h1 h2
  have fix:∀ k γ,upd σ.hp b (some ⟨β.ty,es,true⟩) k=some γ→∃ γ',σ.hp k=some γ':=by
   intro k γ hk
   by_cases e:k=b
   ·exact⟨β,by rw[e];exact hb⟩
   ·rw[Am _ _ e] at hk;exact⟨γ,hk⟩
  obtain⟨γ',k1⟩:=fix i γ h1
  obtain⟨δ',k2⟩:=fix j δ h2
  exact h.inj i j γ' δ' u x c k1 k2 h3 h4 h5 h6
theorem St.set(h:St P M0 N w0 F φ σ a w){b:Nat}{β:A4}{v:Value}{sz:Nat}(hb:σ.hp b=some β)(hmu:β.mu=true)(hφ:φ b=some (v,sz+1)){w':World}(hg:w.grownBy w' v.ownBlock)
  {es:List (List AV)} {xs:List Value} (hown:w'.ownsRow w0.heap.size β.ty sz v es.length xs) (hrep:RepLL φ (Mo φ σ.hp M0) w sz es xs) :
  St P M0 N w0 F φ { σ with hp:=upd σ.hp b (some ⟨β.ty,es,true⟩) } a w' :=
 h.setG hb hmu hφ hg (fun z e=>by cases e;exact⟨xs,hown,hrep⟩) (fun e=>by cases e)
theorem St.grow(h:St P M0 N w0 F φ σ a w){b id:Nat}{β:A4}{v:Value}{sz:Nat}(hb:σ.hp b=some β)(hmu:β.mu=true)(hφ:φ b=some (v,sz+1))(hF:F id){w':World}(hg:w.grownBy w' v.ownBlock)
  {es:List (List AV)} {xs:List Value} {v':Value} (hown:w'.ownsRow w0.heap.size β.ty sz v' es.length xs) (hk:∀ k,v'.ownBlock=some k→v.ownBlock=some k∨w.heap.size≤k) (hv:v'.oneCell'=true)
  (hrep:RepLL φ (Mo φ σ.hp M0) w sz es xs) :
  ∃ φ',Ext φ φ'∧φ' id=some (v',sz+1)∧St P M0 N w0 (fun i=>F i∧i≠id) φ' { σ with hp:=upd (upd σ.hp b none) id (some ⟨β.ty,es,true⟩) } a w':=by
 have hid:=h.fresh id hF
 have hne:b≠id:=fun e=>by rw[e,hid] at hφ;cases hφ
 have hext:Ext φ (upd φ id (some (v',sz+1))):=fun i x hi=>by
  rw[Am]
  ·exact hi
  ·intro e;subst e;rw[hid] at hi;cases hi
 obtain⟨hsz,ys,ho,_⟩:=h.hpr b β v sz hb hφ
 have hB:w0.heap.size≤w.heap.size:=h.below.size
 have hbl:Below w0.heap.size w w':=⟨hg.os,hg.tape,hg.output,hg.size,fun k hk'=>hg.block k (by omega) fun e=>by have:=(Mv ho e.symm).1;omega⟩
 have hM:Keep (Mo φ σ.hp M0) (Mo (upd φ id (some (v',sz+1))) (upd (upd σ.hp b none) id (some ⟨β.ty,es,true⟩)) M0) w w':=by
  intro c hlt hnb
  refine⟨?_,Nat.lt_of_lt_of_le hlt hg.size,hg.block c hlt fun e=>hnb (.inr ⟨b,β,_,hb,hmu,hφ,e.symm⟩)⟩
  rintro (h0|⟨i,γ,x,h1,h2,h3,h4⟩)
  ·exact hnb (.inl h0)
  ·by_cases e:i=id
   ·subst e
    rw[Af] at h3
    cases h3
    rcases hk c h4 with q|q
    ·exact hnb (.inr ⟨b,β,_,hb,hmu,hφ,q⟩)
    ·omega
   ·rw[Am _ _ e] at h1 h3
    by_cases e':i=b
    ·subst e';rw[Af] at h1;cases h1
    ·rw[Am _ _ e'] at h1
     exact hnb (.inr ⟨i,γ,x,h1,h2,h3,h4⟩)
 have old:∀ i γ x,i≠id→upd (upd σ.hp b none) id (some ⟨β.ty,es,true⟩) i=some γ→upd φ id (some (v',sz+1)) i=some x→σ.hp i=some γ∧φ i=some x∧i≠b:=by
  intro i γ x e h1 h2
  rw[Am _ _ e] at h1 h2
  by_cases e':i=b
  ·subst e';rw[Af] at h1;cases h1
  ·rw[Am _ _ e'] at h1
   exact⟨h1,h2,e'⟩
 refine⟨upd φ id (some (v',sz+1)),hext,Af _ _ _,h.below.trans hbl,h.defers,h.size,fun t=>Rep.keep hM hext _ _ (h.tmr t), ?_, ?_, ?_, ?_,h.m0, ?_,fun c hc=>⟨Nat.lt_of_lt_of_le (h.jk c hc).1 hg.size,(hg.block c (h.jk c hc).1 fun e=>h.jo b β _ c hb hφ e.symm hc).trans (h.jk c hc).2⟩, ?_,Nat.le_trans h.js hg.size,fun u v hg'=>Rep.keep hM hext u v (h.gh u v hg')⟩
 ·intro i γ x z h1 h2
  by_cases e:i=id
  ·subst e
   dsimp only at h1
   rw[Af] at h1 h2
   cases h1
   cases h2
   exact⟨hsz,xs,hown,RepLL.keep hM hext _ _ _ hrep⟩
  ·obtain⟨k1,k2,k3⟩:=old i γ _ e h1 h2
   obtain⟨h3,zs,h4,h5⟩:=h.hpr i γ x z k1 k2
   refine⟨h3,zs,Ld h4 fun c hv=>hg.block c (Mv h4 hv).2 fun e'=>k3 ?_,RepLL.keep hM hext _ _ _ h5⟩
   exact h.inj i b γ β (x,z+1) _ c k1 hb k2 hφ hv e'.symm
 ·intro i γ x h1 h2
  by_cases e:i=id
  ·subst e
   rw[Af] at h2
   cases h2
  ·obtain⟨k1,k2,k3⟩:=old i γ _ e h1 h2
   have hm:=h.hpm i γ x k1 k2
   exact Ga hm fun c hv=>hg.block c (H3 hm hv).2 fun e'=>k3 (h.inj i b γ β (x,0) _ c k1 hb k2 hφ hv e'.symm)
 ·intro i j γ δ u x c h1 h2 h3 h4 h5 h6
  have clash:∀ j δ x,j≠id→upd (upd σ.hp b none) id (some ⟨β.ty,es,true⟩) j=some δ→upd φ id (some (v',sz+1)) j=some x→x.1.ownBlock=some c→v'.ownBlock=some c→False:=by
   intro j δ x e q1 q2 q3 q4
   obtain⟨k1,k2,k3⟩:=old j δ x e q1 q2
   rcases hk c q4 with r|r
   ·exact k3 (h.inj j b δ β x _ c k1 hb k2 hφ q3 r)
   ·have:=(h.lt k1 k2 q3).2;omega
  by_cases e:i=id
  ·by_cases e':j=id
   ·rw[e,e']
   ·subst e
    rw[Af] at h3
    cases h3
    exact (clash j δ x e' h2 h4 h6 h5).elim
  ·by_cases e':j=id
   ·subst e'
    rw[Af] at h4
    cases h4
    exact (clash i γ u e h1 h3 h5 h6).elim
   ·obtain⟨k1,k2,_⟩:=old i γ u e h1 h3
    obtain⟨k3,k4,_⟩:=old j δ x e' h2 h4
    exact h.inj i j γ δ u x c k1 k3 k2 k4 h5 h6
 ·rintro i ⟨hi,hne⟩
  rw[Am _ _ hne]
  exact h.fresh i hi
 ·intro i x hi
  by_cases e:i=id
  ·subst e
   rw[Af] at hi
   cases hi
   exact hv
  ·rw[Am _ _ e] at hi
   exact h.ones i x hi
 ·intro i γ x c h1 h2 h3 h4
  by_cases e:i=id
  ·subst e
   rw[Af] at h2
   cases h2
   rcases hk c h3 with q|q
   ·exact h.jo b β _ c hb hφ q h4
   ·have:=(h.jk c h4).1
    omega
  ·obtain⟨k1,k2,_⟩:=old i γ x e h1 h2
   exact h.jo i γ x c k1 k2 h3 h4
theorem St.frz(h:St P M0 N w0 F φ σ a w)(bs:List Nat):St P M0 N w0 F φ { σ with hp:=(Eff.frz bs).app 0 σ.hp } a w:=by
 have fix:∀ i γ,(Eff.frz bs).app 0 σ.hp i=some γ→∃ β,σ.hp i=some β∧γ.ty=β.ty∧γ.es=β.es∧(γ.mu=true→β.mu=true):=by
  intro i γ hi
  simp only[Eff.app] at hi
  split at hi
  ·cases hh:σ.hp i with
   | none=>rw[hh] at hi;cases hi
   | some β=>rw[hh] at hi;cases hi;exact⟨β,rfl,rfl,rfl,fun e=>by cases e⟩
  ·exact⟨γ,hi,rfl,rfl,id⟩
 have hM:Keep (Mo φ σ.hp M0) (Mo φ ((Eff.frz bs).app 0 σ.hp) M0) w w:=by
  intro c hlt hnb
  refine⟨?_,hlt,rfl⟩
  rintro (h0|⟨i,γ,x,h1,h2,h3,h4⟩)
  ·exact hnb (.inl h0)
  ·obtain⟨β,k1,_,_,k4⟩:=fix i γ h1
   exact hnb (.inr ⟨i,β,x,k1,k4 h2,h3,h4⟩)
 refine⟨h.below,h.defers,h.size,fun t=>Rep.keep hM (Ext.refl φ) _ _ (h.tmr t), ?_, ?_, ?_,h.fresh,h.m0,h.ones,h.jk,fun i γ x c h1 h2 h3=>?_,h.js,fun u v hg'=>Rep.keep hM (Ext.refl φ) u v (h.gh u v hg')⟩
 case refine_4 =>
  obtain⟨β,k1,_⟩:=fix i γ h1
  exact h.jo i β x c k1 h2 h3
 ·intro i γ x sz h1 h2
  obtain⟨β,k1,k2,k3,_⟩:=fix i γ h1
  obtain⟨h3,zs,h4,h5⟩:=h.hpr i β x sz k1 h2
  rw[k2,k3]
  exact⟨h3,zs,h4,RepLL.keep hM (Ext.refl φ) _ _ _ h5⟩
 ·intro i γ x h1 h2
  obtain⟨β,k1,k2,k3,_⟩:=fix i γ h1
  have hm:=h.hpm i β x k1 h2
  unfold Hf at hm ⊢
  rw[k2,k3]
  exact hm
 ·intro i j γ δ u x c h1 h2 h3 h4 h5 h6
  obtain⟨β,k1,_⟩:=fix i γ h1
  obtain⟨β',k2,_⟩:=fix j δ h2
  exact h.inj i j β β' u x c k1 k2 h3 h4 h5 h6
theorem A5a{φ:Phi}{M:Nat→Prop}{w:World}:∀ {us vs:List AV} {xs:List Value},wkL us vs→RepL φ M w vs xs→RepL φ M w us xs
 | [],[],_,_,h=>h
 | [],_ :: _,_,hw,_=>hw.elim
 | _ :: _,[],_,hw,_=>hw.elim
 | u :: us,v :: vs,_,hw,h=>by
  simp only[RepL] at h
  obtain⟨x,xs',rfl,h2,h3⟩:=h
  obtain⟨h4,h5⟩:=hw
  refine RepL.cons ?_ (A5a h5 h3)
  rcases h4 with rfl|rfl
  ·simp only[Rep]
  ·exact h2
theorem Qx{φ:Phi}{M:Nat→Prop}{w:World}{sz:Nat}:∀ {us vs:List (List AV)} {xs:List Value},Zs us vs→RepLL φ M w sz vs xs→RepLL φ M w sz us xs
 | [],[],_,_,h=>h
 | [],_ :: _,_,hw,_=>hw.elim
 | _ :: _,[],_,hw,_=>hw.elim
 | u :: us,v :: vs,_,hw,h=>by
  simp only[RepLL] at h
  obtain⟨x,y,rfl,h2,h3,h4,h5⟩:=h
  exact RepLL.cons h2 h3 (A5a hw.1 h4) (Qx hw.2 h5)
theorem Iw:∀ {us vs:List (List AV)},Zs us vs→us.length=vs.length
 | [],[],_=>rfl
 | [],_ :: _,hw=>hw.elim
 | _ :: _,[],hw=>hw.elim
 | _ :: us,_ :: vs,hw=>by rw[List.length_cons,List.length_cons,Iw hw.2]
theorem Zt:∀ (us:List AV),wkL us us
 | []=>trivial
 | _ :: us=>⟨.inr rfl,Zt us⟩
theorem N6:∀ (us:List (List AV)),Zs us us
 | []=>trivial
 | u :: us=>⟨Zt u,N6 us⟩
theorem Cp(β:A4):wkR β β:=⟨rfl,rfl,N6 _⟩
theorem Xb:∀ (z:List AV),wkL (blank z) z
 | []=>trivial
 | _ :: z=>⟨.inl rfl,Xb z⟩
theorem Mq{kv:Value}{v:Bool}:∀ {us vs:List (List AV)},Zs us vs→I0 us kv=some v→I0 vs kv=some v
 | [],[],_,h=>h
 | [],_ :: _,h,_=>h.elim
 | _ :: _,[],h,_=>h.elim
 | e :: us,x :: vs,⟨h1,h2⟩,h=>by
  unfold I0 at h ⊢
  split at h
  ·rename_i k' v'
   match x,h1 with
   | [u,u'],⟨q1,q2,_⟩ =>
    rcases q1 with q1|q1
    ·cases q1
    rcases q2 with q2|q2
    ·cases q2
    subst q1 q2
    dsimp only
    split at h
    ·rename_i e
     rw[if_pos e];exact h
    ·rename_i e
     rw[if_neg e];exact Mq h2 h
  ·cases h
theorem St.weak(h:St P M0 N w0 F φ σ a w){b:Nat}{β γ:A4}(hb:σ.hp b=some γ)(hw:wkR β γ):St P M0 N w0 F φ { σ with hp:=upd σ.hp b (some β) } a w:=by
 obtain⟨w1,w2,w3⟩:=hw
 have fix:∀ i δ,upd σ.hp b (some β) i=some δ→∃ ε,σ.hp i=some ε∧δ.ty=ε.ty∧δ.mu=ε.mu∧Zs δ.es ε.es:=by
  intro i δ hi
  by_cases e:i=b
  ·subst e
   rw[Af] at hi
   cases hi
   exact⟨γ,hb,w1,w2,w3⟩
  ·rw[Am _ _ e] at hi
   exact⟨δ,hi,rfl,rfl,N6 _⟩
 have back:∀ i ε,σ.hp i=some ε→∃ δ,upd σ.hp b (some β) i=some δ∧δ.mu=ε.mu:=by
  intro i ε hi
  by_cases e:i=b
  ·subst e
   rw[hb] at hi
   cases hi
   exact⟨β,Af _ _ _,w2⟩
  ·exact⟨ε,(Am _ _ e).trans hi,rfl⟩
 have hM:Mo φ (upd σ.hp b (some β)) M0=Mo φ σ.hp M0:=by
  funext c
  apply propext
  unfold Mo
  refine or_congr Iff.rfl ⟨?_, ?_⟩
  ·rintro⟨i,δ,v,h1,h2,h3,h4⟩
   obtain⟨ε,k1,_,k2,_⟩:=fix i δ h1
   exact⟨i,ε,v,k1,k2▸h2,h3,h4⟩
  ·rintro⟨i,δ,v,h1,h2,h3,h4⟩
   obtain⟨ε,k1,k2⟩:=back i δ h1
   exact⟨i,ε,v,k1,k2.trans h2,h3,h4⟩
 refine ⟨h.below,h.defers,h.size,fun t=>?_, ?_, ?_, ?_,h.fresh,h.m0,h.ones,h.jk,fun i δ x c h1 h2 h3=>?_,h.js,fun u v hg'=>by
  show Rep φ (Mo φ (upd σ.hp b (some β)) M0) w u v
  rw[hM];exact h.gh u v hg'⟩
 ·show Rep φ (Mo φ (upd σ.hp b (some β)) M0) w _ _
  rw[hM];exact h.tmr t
 ·intro i δ x sz h1 h2
  obtain⟨ε,k1,k2,_,k3⟩:=fix i δ h1
  obtain⟨h3,zs,h4,h5⟩:=h.hpr i ε x sz k1 h2
  show _∧∃ xs,_∧RepLL φ (Mo φ (upd σ.hp b (some β)) M0) w _ _ _
  rw[hM,k2,Iw k3]
  exact⟨h3,zs,h4,Qx k3 h5⟩
 ·intro i δ x h1 h2
  obtain⟨ε,k1,k2,_,k3⟩:=fix i δ h1
  obtain⟨g,kt,et,n,D,q1,q2,q3,q4,q5,q6,q7,q8⟩:=h.hpm i ε x k1 h2
  exact⟨g,kt,et,n,D,q1,q2,by rw[k2];exact q3,q4,q5,q6,by rw[Iw k3];exact q7,fun kv kl v a1 a2=>q8 kv kl v a1 (Mq k3 a2)⟩
 ·intro i j δ ε u x c h1 h2 h3 h4 h5 h6
  obtain⟨δ',k1,_⟩:=fix i δ h1
  obtain⟨ε',k2,_⟩:=fix j ε h2
  exact h.inj i j δ' ε' u x c k1 k2 h3 h4 h5 h6
 ·obtain⟨ε,k1,_⟩:=fix i δ h1
  exact h.jo i ε x c k1 h2 h3
end
end Go.Proofs.YtbhffbgbhgjdiaaGreatDoor
namespace Go.Proofs.YtbhffbgbhgjdiaaGreatDoor
open Go.RowKit
set_option maxRecDepth 100000
section types
variable{P:Program}{t e n:Nat}
theorem Ah(h:(aty P t).k=.slice e):P.underlying t=some (.slice e):=by
 unfold aty at h;dsimp only at h
 split at h<;>first|(cases h;done)|(injection h with h;subst h;assumption)
theorem G2(h:(aty P t).k=.arr n e):P.underlying t=some (.array n e):=by
 unfold aty at h;dsimp only at h
 split at h<;>first|(cases h;done)|(injection h with h h';subst h;subst h';assumption)
theorem J4{k:IntKind}(h:(aty P t).k=.int k):P.underlying t=some (.int k):=by
 unfold aty at h;dsimp only at h
 split at h<;>first|(cases h;done)|(injection h with h;subst h;assumption)
theorem El(h:(aty P t).k=.str):P.underlying t=some .string:=by
 unfold aty at h;dsimp only at h
 split at h<;>first|(cases h;done)|assumption
theorem Aak(h:(aty P t).k=.bool):P.underlying t=some .bool:=by
 unfold aty at h;dsimp only at h
 split at h<;>first|(cases h;done)|assumption
theorem P8(h:(aty P t).k=.struct):∃ fs,P.underlying t=some (.struct fs):=by
 unfold aty at h;dsimp only at h
 split at h<;>first|(cases h;done)|exact⟨_,by assumption⟩
theorem A61(h:(aty P t).k=.iface):∃ ms,P.underlying t=some (.interface ms):=by
 unfold aty at h;dsimp only at h
 split at h<;>first|(cases h;done)|exact⟨_,by assumption⟩
theorem Cb(h:0<(aty P t).sz):∃ i,P.info? t=some i∧i.size=(aty P t).sz∧i.bytes=(aty P t).bytes:=by
 unfold aty at h ⊢;dsimp only at h ⊢
 cases hi:P.info? t with
 | none=>rw[hi] at h;simp at h
 | some i=>exact⟨i,rfl,by simp,by simp⟩
theorem Fl(h:0<(aty P t).sz)(hz:(aty P t).zero.length=(aty P t).sz):∃ i z,P.info? t=some i∧i.zero=some z∧i.size=(aty P t).sz∧i.bytes=(aty P t).bytes∧z.cells.toList=(aty P t).zero:=by
 obtain⟨i,h1,h2,h3⟩:=Cb h
 have e:(aty P t).zero=((i.zero).map (·.cells.toList)).getD []:=by unfold aty;simp [h1]
 cases hq:i.zero with
 | none=>rw[e,hq] at hz;simp at hz;omega
 | some z=>exact⟨i,z,h1,hq,h2,h3,by rw[e,hq];rfl⟩
theorem No(h:(aty P t).isAgg=true)(w:World):(isAgg t).run P w=.ok true w:=by
 unfold ATy.isAgg at h
 cases hk:(aty P t).k with
 | struct=>obtain⟨fs,hu⟩:=P8 hk;simp [isAgg,run_underlying hu]
 | arr n e=>simp [isAgg,run_underlying (G2 hk)]
 | _=>rw[hk] at h;cases h
theorem Nn(h:(aty P t).known=true)(w:World):(isAgg t).run P w=.ok false w:=by
 unfold ATy.known aty at h
 dsimp only at h
 cases hu:P.underlying t with
 | none=>rw[hu] at h;cases h
 | some d=>rw[hu] at h;cases d<;>first|(cases h;done)|simp [isAgg,run_underlying hu]
end types
section
variable{P:Program}{w:World}
theorem addr_add(b o n:Nat):(⟨b,o,none⟩:Addr).add n=⟨b,o+n,none⟩:=by unfold Addr.add;split<;>simp_all
theorem F5{t b o off:Nat}{vs:List Value}(h:At w b o vs)(ha:(aty P t).isAgg=true)(hs:0<(aty P t).sz)(hl:off+(aty P t).sz≤vs.length) :
  (loadVar t ⟨b,o+off,none⟩).run P w=.ok (.agg ((vs.drop off).take (aty P t).sz).toArray) w:=by
 obtain⟨i,hi,hz,_⟩:=Cb hs
 have hr := run_loadCells_list (P := P) w ⟨b, o + off, none⟩ ((vs.drop off).take (aty P t).sz) (fun j v hv=>by
  rw[addr_add]
  have hj:j<(aty P t).sz:=by
   have:=(List.getElem?_eq_some_iff.1 hv).1
   rw[List.length_take] at this
   omega
  rw[List.getElem?_take_of_lt hj,List.getElem?_drop] at hv
  rw[Nat.add_assoc]
  exact h _ _ hv)
 rw[show ((vs.drop off).take (aty P t).sz).length=(aty P t).sz by rw[List.length_take,List.length_drop];omega] at hr
 simp [loadVar,No ha,sizeOf,typeInfo,hi,hz,hr]
theorem F6{t b o off:Nat}{v:Value}(h:w.cell? ⟨b,o+off,none⟩=some v)(ha:(aty P t).known=true) :
  (loadVar t ⟨b,o+off,none⟩).run P w=.ok v w:=by
 simp [loadVar,Nn ha,h]
theorem Hu{t off:Nat}{vs:List Value}(ha:(aty P t).isAgg=true)(hs:0<(aty P t).sz):(part t vs.toArray off).run P w=.ok (.agg ((vs.drop off).take (aty P t).sz).toArray) w:=by
 obtain⟨i,hi,hz,_⟩:=Cb hs
 have e:vs.toArray.extract off (off+(aty P t).sz)=((vs.drop off).take (aty P t).sz).toArray:=by
  apply Array.ext'
  simp
 simp only[part,Sem.run_bind,No ha,Result.andThen_ok,if_true,sizeOf,typeInfo,run_program,hi,hz,Sem.run_pure,e]
theorem Hv{t off:Nat}{vs:List Value}{v:Value}(h:vs[off]?=some v)(ha:(aty P t).known=true):(part t vs.toArray off).run P w=.ok v w:=by
 simp [part,Nn ha,h]
theorem Gp{base e sz n:Nat}{v:Value}{xs:List Value}(h:w.ownsRow base e sz v n xs)(hn:xs≠[]):∃ g c,v=.slice (some ⟨g,0,none⟩) n c∧n≤c∧c≤maxLen∧v.ownBlock=some g∧Ig v=g∧g<w.heap.size∧base≤g∧At w g 0 xs ∧
  ∃ cur,w.heap[g]?=some (.cells cur e (0,0))∧cur.size=c*sz∧cur.toList.take (n*sz)=xs:=by
 rcases h.2 with⟨_,h2⟩|⟨g,cap,cur,hv,hg,hh,h3,h4,h5,h6⟩
 ·exfalso
  apply hn
  apply List.eq_nil_of_length_eq_zero
  rw[h.1,h2,Nat.zero_mul]
 ·refine⟨g,cap,hv,h3,h4,by rw[hv];rfl,by rw[hv];rfl,(Array.getElem?_eq_some_iff.1 hh).1,hg,fun j u hu=>?_,cur,hh,h5,h6⟩
  have:=h.cells (g:=g) (by rw[hv];rfl) j u hu
  rwa [addr_add] at this
theorem Eg{o:Oper}{a:Act}{w w':World}{K:Act→World→Prop}{Q:Exit→Act→World→Prop}{v:Value}(h:(execOp a.eval o).run P w=.ok (.value v) w')(k:K (a.put o.dst v) w'):o.wp P a w K Q:=by
 unfold Oper.wp;rw[h];exact k
theorem Ah5{o:Oper}{a:Act}{w w':World}{K:Act→World→Prop}{Q:Exit→Act→World→Prop}(h:(execOp a.eval o).run P w=.ok .skip w')(k:K (a.put o.dst undef) w'):o.wp P a w K Q:=by
 unfold Oper.wp;rw[h];exact k
variable{M0:Nat→Prop}{N:Nat}{w0:Root}{F:Nat→Prop}{φ:Phi}{σ:AS}{a:Act}{hp:Nat→Option A4}{id:Nat}{o:Oper}{k:AV→Eff→Prop}{K:Act→World→Prop}{Q:Exit→Act→World→Prop}
structure Bn(P:Program)(M0:Nat→Prop)(N:Nat)(w0:Root)(F:Nat→Prop)(φ:Phi)(σ:AS)(a:Act)(w:World)(hp:Nat→Option A4)(id:Nat)(o:Oper):Prop where
 st:St P M0 N w0 F φ σ a w
 free:F id
 hpx:∀ b β v,hp b=some β→φ b=some v→∃ γ,σ.hp b=some γ∧wkR β γ
 dst:∀ t,o.dst=some t→t<N
def Ends(P:Program)(M0:Nat→Prop)(N:Nat)(w0:Root)(F:Nat→Prop)(σ:AS)(id:Nat)(o:Oper)(k:AV→Eff→Prop)(K:Act→World→Prop):Prop :=
 ∀ u f,k u f→∀ φ' a' w',St P M0 N w0 (fun i=>F i∧i≠id) φ' ({ σ with hp:=f.app id σ.hp }.put o.dst u) a' w'→K a' w'
theorem Aa(b:Bn P M0 N w0 F φ σ a w hp id o)(he:Ends P M0 N w0 F σ id o k K){u:AV}{v:Value}(hk:k u .none)(hu:Rep φ (Mo φ σ.hp M0) w u v)
  (hr:(execOp a.eval o).run P w=.ok (.value v) w):o.wp P a w K Q :=
 Eg hr (he u .none hk φ _ w ((b.st.sub fun _ h=>h.1).put hu o.dst b.dst))
theorem Sf(b:Bn P M0 N w0 F φ σ a w hp id o)(he:Ends P M0 N w0 F σ id o k K){w':World}{u:AV}{v:Value}(hk:k u .none)(hb:Below w.heap.size w w')(hu:Rep φ (Mo φ σ.hp M0) w' u v)
  (hr:(execOp a.eval o).run P w=.ok (.value v) w'):o.wp P a w K Q :=
 Eg hr (he u .none hk φ _ w' (((b.st.on hb).sub fun _ h=>h.1).put hu o.dst b.dst))
theorem Hk(b:Bn P M0 N w0 F φ σ a w hp id o)(he:Ends P M0 N w0 F σ id o k K){w':World}(hg:w.grownBy w' none){ty sz:Nat}{es:List (List AV)}{v r:Value}{xs:List Value}{u:AV}
  (hk:k u (.new ⟨ty,es,true⟩)) (hown:w'.ownsRow w0.heap.size ty sz v es.length xs) (hkk:∀ k,v.ownBlock=some k→w.heap.size≤k) (hv:v.oneCell'=true)
  (hrep:RepLL φ (Mo φ σ.hp M0) w sz es xs) (hsz:sz=(aty P ty).sz) (hu:∀ φ' M,φ' id=some (v,sz+1)→Rep φ' M w' u r)
  (hr:(execOp a.eval o).run P w=.ok (.value r) w'):o.wp P a w K Q:=by
 have hkp:Keep (Mo φ σ.hp M0) (fun b=>Mo φ σ.hp M0 b∨v.ownBlock=some b) w w':=fun c hlt hn =>
  ⟨fun h=>h.elim hn fun h=>absurd (hkk c h) (by omega),Nat.lt_of_lt_of_le hlt hg.size,hg.block c hlt (by simp)⟩
 obtain⟨φ',h1,h2,h3⟩:=b.st.new b.free hg hown hkk hv (RepLL.keep hkp (Ext.refl φ) _ _ _ hrep) hsz
 exact Eg hr (he u _ hk φ' _ w' (h3.put (hu φ' _ h2) o.dst b.dst))
theorem F4(st:St P M0 N w0 F φ σ a w)(hpx:∀ b β v,hp b=some β→φ b=some v→∃ γ,σ.hp b=some γ∧wkR β γ){i:Nat}{β:A4}{v:Value}{sz:Nat}(h1:hp i=some β)(h2:φ i=some (v,sz+1)) :
  sz=(aty P β.ty).sz∧∃ xs,w.ownsRow w0.heap.size β.ty sz v β.es.length xs∧RepLL φ (Mo φ σ.hp M0) w sz β.es xs:=by
 obtain⟨γ,k1,k2,_,k3⟩:=hpx i β _ h1 h2
 obtain⟨h3,xs,h4,h5⟩:=st.hpr i γ v sz k1 h2
 rw[k2,Iw k3]
 exact⟨h3,xs,h4,Qx k3 h5⟩
theorem Vo(b:Bn P M0 N w0 F φ σ a w hp id o){u:AV}{v:Value}{es:List (List AV)}(hu:Rep φ (Mo φ σ.hp M0) w u v)(hr:Fc hp u=some es) :
  ∃ A c,v=.slice A es.length c∧es.length≤c∧c≤maxLen∧True∧∃ sz vs,RepLL φ (Mo φ σ.hp M0) w sz es vs∧(es≠[]→∃ g o,A=some ⟨g,o,none⟩∧g<w.heap.size∧At w g o vs):=by
 unfold Fc at hr
 split at hr
 ·cases hr
  simp only[Rep] at hu
  obtain⟨A,c,h1,h2,h3,h4,h5⟩:=hu
  by_cases hn:es=[]
  ·exact⟨A,c,h1,h2,h3,h4,0,[],by rw[hn];exact RepLL.nil 0,fun h=>absurd hn h⟩
  ·obtain⟨g,o,sz,vs,g1,_,g3,g4,g5⟩:=h5 hn
   exact⟨A,c,h1,h2,h3,h4,sz,vs,RepLL.keep (Keep.refl _ w) (Pt φ) _ _ _ g5,fun _=>⟨g,o,g1,g3,g4⟩⟩
 ·rename_i i
  cases hb:hp i with
  | none=>rw[hb] at hr;cases hr
  | some β =>
   rw[hb] at hr
   cases hr
   simp only[Rep] at hu
   obtain⟨sz,hφ⟩:=hu
   obtain⟨_,xs,h1,h2⟩:=F4 b.st b.hpx hb hφ
   by_cases hn:xs=[]
   ·rcases h1.2 with⟨q1,q2⟩|⟨g,cap,cur,q1,_,_,q3,q4,_⟩
    ·exact⟨none,0,by rw[q1,q2],Nat.le_of_eq q2,by decide,trivial,sz,xs,h2,fun h=>absurd (List.eq_nil_of_length_eq_zero q2) h⟩
    ·refine⟨some ⟨g,0,none⟩,cap,q1,q3,q4,trivial,sz,xs,h2,fun h=>⟨g,0,rfl, ?_, ?_⟩⟩
     ·exact (h1.lt g (by rw[q1];rfl)).2
     ·rw[hn];intro j u hu;simp at hu
   ·obtain⟨g,c,q1,q2,q3,_,_,q6,_,q7,_⟩:=Gp h1 hn
    exact⟨some ⟨g,0,none⟩,c,q1,q2,q3,trivial,sz,xs,h2,fun _=>⟨g,0,rfl,q6,q7⟩⟩
 ·cases hr
  simp only[Rep] at hu
  obtain⟨rfl,_⟩:=hu
  exact⟨none,0,rfl,Nat.le_refl _,by decide,trivial,0,[],RepLL.nil 0,fun h=>absurd rfl h⟩
 ·cases hr
theorem At.part{b o:Nat}{x y z:List Value}(h:At w b o (x++y++z)):At w b (o+x.length) y:=fun j u hu=>by
 rw[Nat.add_assoc]
 refine h _ u ?_
 rw[List.append_assoc,List.getElem?_append_right (by omega),show x.length+j-x.length=j by omega]
 rw[List.getElem?_append_left (List.getElem?_eq_some_iff.1 hu).1]
 exact hu
end
end Go.Proofs.YtbhffbgbhgjdiaaGreatDoor
namespace Go.Proofs.YtbhffbgbhgjdiaaGreatDoor
open Go.RowKit
set_option maxRecDepth 100000
section
variable{P:Program}{C:World→Prop}{w:World}{M0:Nat→Prop}{N:Nat}{w0:Root}{F:Nat→Prop}{φ:Phi}{σ:AS}{a:Act}{hp:Nat→Option A4}{id:Nat}{o:Oper}{k:AV→Eff→Prop}{K:Act→World→Prop}{Q:Exit→Act→World→Prop}
theorem Lg{u:AV}{v:Value}{kd:IntKind}{n:Int}{M:Nat→Prop}(h:Rep φ M w u v)(e:u=.ex (.int kd n)):v=.int kd n:=by subst e;simp only[Rep] at h;exact h.1
theorem Au{u:AV}{v x:Value}{M:Nat→Prop}(h:Rep φ M w u v)(e:u=.ex x):v=x:=by subst e;simp only[Rep] at h;exact h.1
theorem Aq{M:Nat→Prop}(x:Value)(h:x.oneCell'=true):Rep φ M w (.ex x) x:=by simp only[Rep];exact⟨trivial,h⟩
theorem L7(b:Bn P M0 N w0 F φ σ a w hp id o)(he:Ends P M0 N w0 F σ id o k K){t:Nat}{cs:List AV}{off:Nat}(hk:Ar P t cs off k)
  {vs:List Value} (hv:RepL φ (Mo φ σ.hp M0) w cs vs) (h1:∀ u∈vs,u.oneCell'=true)
  (ha:(aty P t).isAgg=true→0<(aty P t).sz→off+(aty P t).sz≤vs.length→(execOp a.eval o).run P w=.ok (.value (.agg ((vs.drop off).take (aty P t).sz).toArray)) w)
  (hb:(aty P t).known=true→∀ v,vs[off]?=some v→(execOp a.eval o).run P w=.ok (.value v) w):o.wp P a w K Q:=by
 unfold Ar at hk
 split at hk
 ·rename_i hg
  obtain⟨⟨h2,h3⟩,hk⟩:=hk
  refine Aa b he hk ?_ (ha hg h2 (by rw[RepL.len hv];exact h3))
  simp only[Rep]
  exact⟨_,rfl,fun u hu=>h1 u (List.mem_of_mem_drop (List.mem_of_mem_take hu)),(hv.drop off).take _⟩
 ·obtain⟨hn,u,h2,hk⟩:=hk
  obtain⟨v,h3,h4⟩:=hv.get h2
  exact Aa b he hk h4 (hb hn v h3)
theorem A1y(b:Bn P M0 N w0 F φ σ a w hp id o)(he:Ends P M0 N w0 F σ id o k K){t:Nat}{x:Operand}(ho:o.op=.load t x){u:AV}(hu:Rep φ (Mo φ σ.hp M0) w u (a.eval x))
  (hk:A7 P C id (.load t x) o.type (fun _=>u) hp k):o.wp P a w K Q:=by
 have hrun:∀ (g o':Nat) (r:Value),a.eval x=.pointer (some ⟨g,o',none⟩)→(loadVar t ⟨g,o',none⟩).run P w=.ok r w→(execOp a.eval o).run P w=.ok (.value r) w:=by
  intro g o' r h1 h2
  simp [execOp,ho,h1,Instr.loadAt,Instr.sureAddr,h2]
 unfold A7 at hk
 cases u with
 | rp cs off =>
  dsimp only at hk
  simp only[Rep] at hu
  obtain⟨g,o',vs,g1,g2,g3,g4,g5,g6⟩:=hu
  exact L7 b he hk (RepL.keep (Keep.refl _ w) (Pt φ) _ _ g6) g5 (fun h1 h2 h3=>hrun _ _ _ g1 (F5 g4 h1 h2 h3)) (fun h1 v h2=>hrun _ _ _ g1 (F6 (g4 _ _ h2) h1))
 | pt i j off =>
  dsimp only at hk
  obtain⟨β,e,h1,h2,hk⟩:=hk
  simp only[Rep] at hu
  obtain⟨hd,sz,h3,h4⟩:=hu
  obtain⟨_,xs,h5,h6⟩:=F4 b.st b.hpx h1 h3
  obtain⟨p,q,r,q1,q2,q3,q4,q5,_,_⟩:=h6.get h2
  by_cases hn:xs=[]
  ·
   have hq:q=[]:=by rw[hn] at q1;simp at q1;exact q1.2.1
   have he0:e=[]:=List.eq_nil_of_length_eq_zero (by rw[← RepL.len q5,hq];rfl)
   subst he0
   unfold Ar at hk
   split at hk
   ·simp at hk;omega
   ·simp at hk
  ·obtain⟨g,c,r1,_,_,_,r5,_,_,r8,_⟩:=Gp h5 hn
   rw[r5] at h4
   have hat:At w g (j*sz) q:=by
    rw[q1] at r8
    have:=r8.part
    rwa [q2,Nat.zero_add] at this
   exact L7 b he hk q5 q4 (fun h1 h2 h3=>hrun _ _ _ h4 (F5 hat h1 h2 h3)) (fun h1 v h2=>hrun _ _ _ h4 (F6 (hat _ _ h2) h1))
 | _=>exact hk.elim
theorem Qb(b:Bn P M0 N w0 F φ σ a w hp id o)(he:Ends P M0 N w0 F σ id o k K){x:Operand}(ho:o.op=.nilCheck x){u:AV}(hu:Rep φ (Mo φ σ.hp M0) w u (a.eval x))
  (hk:A7 P C id (.nilCheck x) o.type (fun _=>u) hp k):o.wp P a w K Q:=by
 unfold A7 at hk
 have hv:∃ y,a.eval x=.pointer (some y):=by
  cases u with
  | rp cs off=>simp only[Rep] at hu;obtain⟨g,o',vs,g1,_⟩:=hu;exact⟨_,g1⟩
  | pt i j off=>simp only[Rep] at hu;obtain⟨hd,sz,_,h4⟩:=hu;exact⟨_,h4⟩
  | _=>exact hk.elim
 obtain⟨y,hy⟩:=hv
 have hk':k u .none:=by cases u<;>first|exact hk|exact hk.elim
 exact Aa b he hk' hu (by simp [execOp,ho,hy])
theorem Nu(b:Bn P M0 N w0 F φ σ a w hp id o)(he:Ends P M0 N w0 F σ id o k K){s:Nat}{x:Operand}{f:Nat}(ho:o.op=.fieldAddr s x f){u:AV}(hu:Rep φ (Mo φ σ.hp M0) w u (a.eval x))
  (hk:A7 P C id (.fieldAddr s x f) o.type (fun _=>u) hp k):o.wp P a w K Q:=by
 unfold A7 at hk
 dsimp only at hk
 obtain⟨oo,ft,h1,h2,hk⟩:=hk
 obtain⟨i,hi,hz,_⟩:=Cb (Nat.pos_of_ne_zero h2)
 have hs:∃ fs,P.underlying s=some (.struct fs)∧∃ fd:Field,fs[f]?=some fd∧fd.offset=oo∧fd.type=ft:=by
  unfold aty at h1
  dsimp only at h1
  split at h1
  ·rename_i fs hh
   rw[List.getElem?_map] at h1
   cases hq:fs.toList[f]? with
   | none=>rw[hq] at h1;cases h1
   | some fd =>
    rw[hq] at h1
    simp at h1
    exact⟨fs,hh,fd,by simpa using hq,h1.1,h1.2⟩
  ·simp at h1
 obtain⟨fs,hu1,fd,hf,rfl,rfl⟩:=hs
 have hrun:∀ g o',a.eval x=.pointer (some ⟨g,o',none⟩)→(execOp a.eval o).run P w=.ok (.value (.pointer (some ⟨g,o'+fd.offset,none⟩))) w:=by
  intro g o' h
  have:i.size≠0:=by rw[hz];exact h2
  simp [execOp,ho,h,Instr.fieldAt,run_underlying hu1,hf,Instr.sureAddr,fieldPlace,sizeOf,typeInfo,hi,this,addr_add]
 cases u with
 | rp cs off =>
  dsimp only at hk
  simp only[Rep] at hu
  obtain⟨g,o',vs,g1,g2,g3,g4,g5,g6⟩:=hu
  refine Aa b he hk ?_ (hrun g _ g1)
  simp only[Rep]
  exact⟨g,o',vs,by rw[Nat.add_assoc],g2,g3,g4,g5,g6⟩
 | pt i j off =>
  dsimp only at hk
  simp only[Rep] at hu
  obtain⟨hd,sz,h3,h4⟩:=hu
  refine Aa b he hk ?_ (hrun _ _ h4)
  simp only[Rep]
  exact⟨hd,sz,h3,by rw[Nat.add_assoc]⟩
 | _=>exact hk.elim
theorem Xz(b:Bn P M0 N w0 F φ σ a w hp id o)(he:Ends P M0 N w0 F σ id o k K){s:Nat}{x:Operand}{f:Nat}(ho:o.op=.field s x f){u:AV}(hu:Rep φ (Mo φ σ.hp M0) w u (a.eval x))
  (hk:A7 P C id (.field s x f) o.type (fun _=>u) hp k):o.wp P a w K Q:=by
 unfold A7 at hk
 dsimp only at hk
 obtain⟨oo,ft,h1,hk⟩:=hk
 have hs:∃ fs,P.underlying s=some (.struct fs)∧∃ fd:Field,fs[f]?=some fd∧fd.offset=oo∧fd.type=ft:=by
  unfold aty at h1
  dsimp only at h1
  split at h1
  ·rename_i fs hh
   rw[List.getElem?_map] at h1
   cases hq:fs.toList[f]? with
   | none=>rw[hq] at h1;cases h1
   | some fd =>
    rw[hq] at h1
    simp at h1
    exact⟨fs,hh,fd,by simpa using hq,h1.1,h1.2⟩
  ·simp at h1
 obtain⟨fs,hu1,fd,hf,rfl,rfl⟩:=hs
 cases u with
 | agg cs =>
  dsimp only at hk
  simp only[Rep] at hu
  obtain⟨vs,h2,h3,h4⟩:=hu
  have hrun:∀ r,(part fd.type vs.toArray fd.offset).run P w=.ok r w→(execOp a.eval o).run P w=.ok (.value r) w:=by
   intro r hr
   simp [execOp,ho,h2,Instr.field,run_underlying hu1,hf,asAgg,hr]
  exact L7 b he hk h4 h3 (fun h1 h2 _=>hrun _ (Hu h1 h2)) (fun h1 v h2=>hrun _ (Hv h2 h1))
 | _=>exact hk.elim
theorem A6d(s:ByteArray)(n:Nat)(h:n<s.size):s[n]?=some (s[n]'h):=by simp [h]
theorem Nv(b:Bn P M0 N w0 F φ σ a w hp id o)(he:Ends P M0 N w0 F σ id o k K){t:Nat}{x i:Operand}(ho:o.op=.indexAddr t x i){ev:Operand→AV}(hu:Rep φ (Mo φ σ.hp M0) w (ev x) (a.eval x))(hi:Rep φ (Mo φ σ.hp M0) w (ev i) (a.eval i))
  (hk:A7 P C id (.indexAddr t x i) o.type ev hp k):o.wp P a w K Q:=by
 unfold A7 at hk
 dsimp only at hk
 obtain⟨kd,n,h1,h0,hk⟩:=hk
 have hiv:=Lg hi h1
 generalize ev x=u at hu hk
 unfold Ek at hk
 have szr:∀ {e:Nat},0<(aty P e).sz→(sizeOf e).run P w=.ok (aty P e).sz w:=by
  intro e h
  obtain⟨ii,hii,hz,_⟩:=Cb h
  simp [sizeOf,typeInfo,hii,hz]
 have hlt:∀ m:Nat,n.toNat<m→n<(m:Int):=fun m h=>by omega
 split at hk
 ·rename_i e j hkk
  obtain⟨β,h2,⟨h3,hpos⟩,h4,hk⟩:=hk
  simp only[Rep] at hu
  obtain⟨sz,hφ⟩:=hu
  obtain⟨hsz,xs,h5,h6⟩:=F4 b.st b.hpx h2 hφ
  rw[h3] at hsz
  have hxs:xs≠[]:=by
   intro e'
   have:=h6.len
   rw[e',hsz] at this
   have:0<β.es.length*(aty P e).sz:=Nat.mul_pos (by omega) hpos
   simp at *
   omega
  obtain⟨g,c,r1,_,_,_,r5,_,_,r8,_⟩:=Gp h5 hxs
  refine Aa b he hk (v:=.pointer (some ⟨g,n.toNat*sz,none⟩)) ?_ ?_
  ·simp only[Rep]
   exact⟨_,sz,hφ,by rw[r5];rfl⟩
  ·rw[r1] at hφ
   simp [execOp,ho,hiv,r1,Instr.indexAt,asIntOf,run_underlying (Ah hkk),h0,hlt _ h4,szr hpos,addr_add,hsz]
 ·rename_i e es hkk
  obtain⟨hpos,h4,h5,hk⟩:=hk
  simp only[Rep] at hu
  obtain⟨A,c,h2,_,_,_,h7⟩:=hu
  obtain⟨g,o',sz,vs,g1,g2,g3,g4,g5⟩:=h7 (by intro e';rw[e'] at h4;simp at h4)
  obtain⟨p,q,r,q1,q2,q3,q4,q5,_,_⟩:=g5.get (List.getElem?_eq_getElem h4)
  have hsz:sz=(aty P e).sz:=by rw[← q3,RepL.len q5,h5]
  have hat:At w g (o'+n.toNat*sz) q:=by
   rw[q1] at g4
   have:=g4.part
   rwa [q2] at this
  refine Aa b he hk (v:=.pointer (some ⟨g,o'+n.toNat*sz,none⟩)) ?_ ?_
  ·simp only[Rep]
   exact⟨g,o'+n.toNat*sz,q,by simp,g2,g3,hat,q4,q5⟩
  ·simp [execOp,ho,hiv,h2,g1,Instr.indexAt,asIntOf,run_underlying (Ah hkk),h0,hlt _ h4,szr hpos,addr_add,hsz]
 ·rename_i len e cs off hkk
  obtain⟨hpos,h4,hk⟩:=hk
  simp only[Rep] at hu
  obtain⟨g,o',vs,g1,g2,g3,g4,g5,g6⟩:=hu
  refine Aa b he hk (v:=.pointer (some ⟨g,o'+(off+n.toNat*(aty P e).sz),none⟩)) ?_ ?_
  ·simp only[Rep]
   exact⟨g,o',vs,rfl,g2,g3,g4,g5,g6⟩
  ·simp [execOp,ho,hiv,g1,Instr.indexAt,Instr.sureAddr,asIntOf,run_underlying (G2 hkk),h0,hlt _ h4,szr hpos,addr_add,Nat.add_assoc]
 ·rename_i len e i' j off hkk
  obtain⟨hpos,h4,hk⟩:=hk
  simp only[Rep] at hu
  obtain⟨hd,sz,h3,h5⟩:=hu
  refine Aa b he hk (v:=.pointer (some ⟨Ig hd,j*sz+(off+n.toNat*(aty P e).sz),none⟩)) ?_ ?_
  ·simp only[Rep]
   exact⟨hd,sz,h3,rfl⟩
  ·simp [execOp,ho,hiv,h5,Instr.indexAt,Instr.sureAddr,asIntOf,run_underlying (G2 hkk),h0,hlt _ h4,szr hpos,addr_add,Nat.add_assoc]
 ·rename_i e i' off m hkk
  obtain⟨hpos,h4,hk⟩:=hk
  simp only[Rep] at hu
  obtain⟨hd,sz,A,c,h3,h5,h6,h7,_⟩:=hu
  have h7:=h7 (by omega)
  refine Aa b he hk (v:=.pointer (some ⟨Ig hd,0*sz+(off+n.toNat*(aty P e).sz),none⟩)) ?_ ?_
  ·simp only[Rep]
   exact⟨hd,sz,h3,rfl⟩
  ·simp [execOp,ho,hiv,h5,h7,Instr.indexAt,asIntOf,run_underlying (Ah hkk),h0,hlt _ h4,szr hpos,addr_add]
 ·exact hk.elim
theorem Yb(b:Bn P M0 N w0 F φ σ a w hp id o)(he:Ends P M0 N w0 F σ id o k K){t:Nat}{x i:Operand}(ho:o.op=.index t x i){ev:Operand→AV}(hu:Rep φ (Mo φ σ.hp M0) w (ev x) (a.eval x))(hi:Rep φ (Mo φ σ.hp M0) w (ev i) (a.eval i))
  (hk:A7 P C id (.index t x i) o.type ev hp k):o.wp P a w K Q:=by
 unfold A7 at hk
 dsimp only at hk
 obtain⟨kd,n,h1,h0,hk⟩:=hk
 have hiv:=Lg hi h1
 generalize hx:ev x=u at hu hk
 split at hk
 ·rename_i s hkk
  obtain⟨h2,hk⟩:=hk
  have hv:=Au hu rfl
  refine Aa b he hk (Aq _ rfl) ?_
  simp [execOp,ho,hiv,hv,Instr.index,asIntOf,run_underlying (El hkk),h0,A6d s _ h2]
 ·rename_i len e cs hkk
  obtain⟨hpos,h2,hk⟩:=hk
  simp only[Rep] at hu
  obtain⟨vs,h3,h4,h5⟩:=hu
  have hl:n<(len:Int):=by omega
  obtain⟨ii,hii,hz,_⟩:=Cb hpos
  have hrun:∀ r,(part e vs.toArray (n.toNat*(aty P e).sz)).run P w=.ok r w→(execOp a.eval o).run P w=.ok (.value r) w:=by
   intro r hr
   simp [execOp,ho,hiv,h3,Instr.index,asIntOf,run_underlying (G2 hkk),h0,hl,sizeOf,typeInfo,hii,hz,hr]
  exact L7 b he hk h5 h4 (fun h1 h2 _=>hrun _ (Hu h1 h2)) (fun h1 v h2=>hrun _ (Hv h2 h1))
 ·exact hk.elim
theorem Rh(b:Bn P M0 N w0 F φ σ a w hp id o)(he:Ends P M0 N w0 F σ id o k K){x:Operand}{i:Nat}(ho:o.op=.extract x i){u:AV}(hu:Rep φ (Mo φ σ.hp M0) w u (a.eval x))
  (hk:A7 P C id (.extract x i) o.type (fun _=>u) hp k):o.wp P a w K Q:=by
 unfold A7 at hk
 dsimp only at hk
 cases u with
 | tup vs =>
  obtain⟨y,h1,hk⟩:=hk
  simp only[Rep] at hu
  obtain⟨vs',h2,h3⟩:=hu
  obtain⟨v,h4,h5⟩:=h3.get h1
  refine Aa b he hk h5 ?_
  simp [execOp,ho,h2,Instr.extract,h4]
 | _=>exact hk.elim
theorem Ni(b:Bn P M0 N w0 F φ σ a w hp id o)(he:Ends P M0 N w0 F σ id o k K){op:BinOp}{kd:IntKind}{x y:Int}(hk:Da op kd x y k)
  (hr:∀ r w',(match op with|.add|.sub|.mul=>Op.intArith op kd x y|.quo|.rem=>Op.intDiv op kd x y|.and|.or|.xor|.andNot=>Op.intBits op kd x y|_=>Op.intCmp op x y).run P w=.ok r w'→(execOp a.eval o).run P w=.ok (.value r) w'):o.wp P a w K Q:=by
 have hd:∀ p q:Int,decide (p=q)=(p == q):=fun p q=>by rw[Bool.eq_iff_iff];simp
 unfold Da at hk
 cases op<;>dsimp only at hk hr<;>first
  | exact hk.elim
  | exact Aa b he hk (Aq _ rfl) (hr _ _ rfl)
  | (obtain⟨h0,hk⟩:=hk;exact Aa b he hk (Aq _ rfl) (hr _ _ (by simp [Op.intDiv,h0])))
  | (rw[hd] at hk;exact Aa b he hk (Aq _ rfl) (hr _ _ rfl))
end
end Go.Proofs.YtbhffbgbhgjdiaaGreatDoor
namespace Go.Proofs.YtbhffbgbhgjdiaaGreatDoor
open Go.RowKit
set_option maxRecDepth 100000
section
variable{P:Program}{C:World→Prop}{w:World}{M0:Nat→Prop}{N:Nat}{w0:Root}{F:Nat→Prop}{φ:Phi}{σ:AS}{a:Act}{hp:Nat→Option A4}{id:Nat}{o:Oper}{k:AV→Eff→Prop}{K:Act→World→Prop}{Q:Exit→Act→World→Prop}
theorem Aby(p q:ByteArray):(p.data == q.data)=decide (p=q):=by
 rw[Bool.eq_iff_iff,beq_iff_eq,decide_eq_true_eq]
 exact⟨fun h=>ByteArray.ext h,fun h=>by rw[h]⟩
theorem Yv(b:Bn P M0 N w0 F φ σ a w hp id o)(he:Ends P M0 N w0 F σ id o k K){op:BinOp}{x y:ByteArray}(hk:Gc op x y k)
  (hr:∀ r,(Op.stringOp op x y).run P w=.ok r w→(execOp a.eval o).run P w=.ok (.value r) w):o.wp P a w K Q:=by
 have hm:((IntKind.i64.max:Int))=9223372036854775807:=rfl
 unfold Gc at hk
 cases op<;>dsimp only at hk
 case add =>
  obtain⟨h0,hk⟩:=hk
  refine Aa b he hk (Aq _ rfl) (hr _ ?_)
  have:¬ (9223372036854775807<(x.size:Int)+(y.size:Int)):=by omega
  simp [Op.stringOp,hm,this]
 all_goals first
  | exact hk.elim
  | exact Aa b he hk (Aq _ rfl) (hr _ (by simp [Op.stringOp,ByteArray.toList_eq,Aby]))
theorem run_equal_bool(t:Nat)(p q:Bool)(hu:P.underlying t=some .bool):(Op.equal t (.bool p) (.bool q)).run P w=.ok (p == q) w:=by
 show (Op.equalIn (9999+1) t _ _).run P w=_
 unfold Op.equalIn
 simp [run_underlying hu]
theorem Ny(t x:Nat)(v:Value){ms:Array (String×TypeId)}(hu:P.underlying t=some (.interface ms)):(Op.equal t (.iface x v) .nilIface).run P w=.ok false w:=by
 show (Op.equalIn (9999+1) t _ _).run P w=_
 unfold Op.equalIn
 simp [run_underlying hu]
theorem Gr(t:Nat)(A:Option Addr)(n c:Nat){e:TypeId}(hu:P.underlying t=some (.slice e)):(Op.equal t (.slice A n c) (.slice none 0 0)).run P w=.ok A.isNone w:=by
 show (Op.equalIn (9999+1) t _ _).run P w=_
 unfold Op.equalIn
 cases A<;>simp [run_underlying hu]
theorem A67(b:Bn P M0 N w0 F φ σ a w hp id o)(he:Ends P M0 N w0 F σ id o k K){op:BinOp}{t ty:Nat}{x y:Operand}(ho:o.op=.binOp op t x y ty){ux uy:AV}
  (hx:Rep φ (Mo φ σ.hp M0) w ux (a.eval x)) (hy:Rep φ (Mo φ σ.hp M0) w uy (a.eval y)) (hk:Ag P op t ux uy k):o.wp P a w K Q:=by
 have hrun:∀ r w',(∀ q,(eqGuard op t x y (a.eval x) (a.eval y)).run P w=.ok q w)→(binOp op t (a.eval x) (a.eval y)).run P w=.ok r w'→(execOp a.eval o).run P w=.ok (.value r) w':=by
  intro r w' h1 h2
  simp [execOp,ho,h1 (),h2]
 unfold Ag at hk
 split at hk
 ·rename_i ka p kb q
  have e1:=Au hx rfl
  have e2:=Au hy rfl
  have hg:∀ r,(eqGuard op t x y (a.eval x) (a.eval y)).run P w=.ok r w:=by
   rintro⟨⟩
   rw[e1,e2]
   unfold eqGuard
   split<;>rfl
  cases op
  case shl =>
   obtain⟨h0,hk⟩:=hk
   refine Aa b he hk (Aq _ rfl) (hrun _ _ hg ?_)
   have:¬ q<0:=by omega
   rw[e1,e2];simp [binOp,Op.shift,this]
  case shr =>
   obtain⟨h0,hk⟩:=hk
   refine Aa b he hk (Aq _ rfl) (hrun _ _ hg ?_)
   have:¬ q<0:=by omega
   rw[e1,e2];simp [binOp,Op.shift,this]
  all_goals
   obtain⟨rfl,hk⟩:=hk
   exact Ni b he hk fun r w' hr=>hrun r w' hg (by rw[e1,e2];simpa [binOp] using hr)
 ·have e1:=Au hx rfl
  have e2:=Au hy rfl
  refine Yv b he hk fun r hr=>hrun r w ?_ (by rw[e1,e2];cases op<;>simpa [binOp] using hr)
  rintro⟨⟩
  rw[e1,e2]
  unfold eqGuard
  split<;>rfl
 ·obtain⟨hk,hb⟩:=hk
  have e1:=Au hx rfl
  have e2:=Au hy rfl
  have hg:∀ r,(eqGuard op t x y (a.eval x) (a.eval y)).run P w=.ok r w:=by
   rintro⟨⟩
   rw[e1,e2]
   unfold eqGuard
   split<;>rfl
  have hu:=Aak hb
  cases op
  case eql=>exact Aa b he hk (Aq _ rfl) (hrun _ _ hg (by rw[e1,e2];simp [binOp,run_equal_bool t _ _ hu]))
  case neq=>exact Aa b he hk (Aq _ rfl) (hrun _ _ hg (by rw[e1,e2];simp only[binOp,Sem.run_bind,run_equal_bool t _ _ hu,Result.andThen_ok,Sem.run_pure,bne]))
  all_goals exact hk.elim
 ·simp only[Rep] at hx hy
  obtain⟨vx,e1,_,h1⟩:=hx
  obtain⟨vy,e2,_,h2⟩:=hy
  cases op<;>first
   | exact hk.elim
   | (obtain⟨r,h3,hk⟩:=hk
      obtain⟨h4,h5⟩:=h3 _ _ _ _ _ h1 h2
      refine Aa b he hk (Aq _ rfl) (hrun _ _ ?_ ?_)
      ·rintro⟨⟩;rw[e1,e2];exact h5 _ _ _
      ·rw[e1,e2];simp [binOp,h4])
 ·obtain⟨hk,hb⟩:=hk
  have e1:=Au hx rfl
  have e2:=Au hy rfl
  have hg:∀ r,(eqGuard op t x y (a.eval x) (a.eval y)).run P w=.ok r w:=by
   rintro⟨⟩
   rw[e1,e2]
   unfold eqGuard
   split<;>rfl
  obtain⟨ms,hu⟩:=A61 hb
  cases op<;>first
   | exact hk.elim
   | exact Aa b he hk (Aq _ rfl) (hrun _ _ hg (by rw[e1,e2];simp [binOp,Ny t _ _ hu]))
 ·rename_i es
  obtain⟨hk,hb⟩:=hk
  have e2:=Au hy rfl
  simp only[Rep] at hx
  obtain⟨A,c,e1,h1,h2,h3,h4⟩:=hx
  have hg:∀ r,(eqGuard op t x y (a.eval x) (a.eval y)).run P w=.ok r w:=by
   rintro⟨⟩
   rw[e1,e2]
   unfold eqGuard
   split<;>rfl
  split at hb
  ·rename_i e he'
   have hu:=Ah he'
   cases op<;>first
    | exact hk.elim
    | (refine Aa b he hk (v:=.bool A.isNone) ?_ (hrun _ _ hg (by rw[e1,e2];simp [binOp,Gr t _ _ _ hu]))
       simp only[Rep]
       refine⟨_,rfl,fun hn=>?_⟩
       rcases Classical.em (es=[]) with hes|hes
       ·exact hes
       ·obtain⟨g,o',sz,vs,rfl,_⟩:=h4 hes
        cases hn)
  ·exact hb.elim
 ·exact hk.elim
theorem Agt(b:Bn P M0 N w0 F φ σ a w hp id o)(he:Ends P M0 N w0 F σ id o k K){op:UnOp}{ty:Nat}{x:Operand}(ho:o.op=.unOp op ty x){u:AV}
  (hx:Rep φ (Mo φ σ.hp M0) w u (a.eval x)) (hk:Jn op u k):o.wp P a w K Q:=by
 unfold Jn at hk
 split at hk
 ·have e1:=Au hx rfl
  exact Aa b he hk (Aq _ rfl) (by simp [execOp,ho,e1,Op.unary])
 ·have e1:=Au hx rfl
  exact Aa b he hk (Aq _ rfl) (by simp [execOp,ho,e1,Op.unary,Op.intArith])
 ·have e1:=Au hx rfl
  refine Ni b he hk fun r w' hr=>?_
  simp only[execOp,ho,e1,Op.unary]
  dsimp only at hr
  simp only[Sem.run_bind,hr,Result.andThen_ok,Sem.run_pure]
 ·exact hk.elim
theorem Rx{M:Nat→Prop}{sz:Nat}:∀ (l:List UInt8) {vs:List Value},RepLL φ M w sz (B3 l) vs→vs=l.map fun c=>Value.int .u8 c.toNat
 | [],_,h=>by simpa [B3,RepLL] using h
 | c :: l,_,h=>by
  simp only[B3,List.map_cons,RepLL] at h
  obtain⟨x,y,rfl,_,_,h1,h2⟩:=h
  have:=Rx l (by simpa [B3] using h2)
  rw[this]
  simp only[RepL] at h1
  obtain⟨v,vs',rfl,h3,rfl⟩:=h1
  simp only[Rep] at h3
  rw[h3.1]
  rfl
theorem Tl{M:Nat→Prop}:∀ (l:List UInt8),RepLL φ M w 1 (B3 l) (l.map fun c=>Value.int .u8 c.toNat)
 | []=>by simp [B3,RepLL]
 | c :: l=>by
  have:=RepLL.cons (φ:=φ) (M:=M) (w:=w) (x:=[Value.int .u8 c.toNat]) (sz:=1) rfl (by simp [Value.oneCell']) (RepL.cons (Aq _ rfl) RepL.nil) (Tl l)
  simpa [B3] using this
theorem A4k(h:St P M0 N w0 F φ σ a w){b:Nat}(hb:Mo φ σ.hp M0 b):b<w.heap.size:=by
 rcases hb with hb|⟨i,β,v,h1,_,h3,h4⟩
 ·rcases h.m0 b hb with q|q
  ·exact Nat.lt_of_lt_of_le q h.below.size
  ·exact (h.jk b q).1
 ·exact (h.lt h1 h3 h4).2
theorem A1u{t:Nat}(h:(aty P t).known=true):(P.underlying t).isSome=true:=by
 unfold ATy.known aty at h
 dsimp only at h
 cases hu:P.underlying t with
 | none=>rw[hu] at h;cases h
 | some d=>rfl
theorem A12(b:Bn P M0 N w0 F φ σ a w hp id o)(he:Ends P M0 N w0 F σ id o k K){src dst:Nat}{x:Operand}(ho:o.op=.convert src dst x){u:AV}
  (hx:Rep φ (Mo φ σ.hp M0) w u (a.eval x)) (hk:Bm P hp src dst u k):o.wp P a w K Q:=by
 have hrun:∀ r w',(convert src dst (a.eval x)).run P w=.ok r w'→(execOp a.eval o).run P w=.ok (.value r) w':=by
  intro r w' h2
  simp [execOp,ho,h2]
 unfold Bm at hk
 split at hk
 ·rename_i kd' n kd hkk
  have e1:=Au hx rfl
  have hd:=J4 hkk
  refine Aa b he hk.2 (Aq _ rfl) (hrun _ _ ?_)
  rw[e1]
  obtain⟨d,hd'⟩:=Option.isSome_iff_exists.mp (A1u hk.1)
  simp [convert,run_underlying hd',run_underlying hd,Conv.intToInt]
 ·rename_i s hkk
  obtain⟨h1,hk⟩:=hk
  have e1:=Au hx rfl
  refine Aa b he hk (Aq _ rfl) (hrun _ _ ?_)
  rw[e1]
  simp [convert,run_underlying (El h1),run_underlying (El hkk)]
 ·rename_i s e hkk
  obtain⟨h1,hk⟩:=hk
  have e1:=Au hx rfl
  split at hk
  ·rename_i hke
   obtain⟨hm,hk⟩:=hk
   have hr:=run_convert_string_bytes (P:=P) w src dst e s (El h1) (Ah hkk) (J4 hke)
   refine Sf b he hk ?_ ?_ (hrun _ _ (by rw[e1];exact run_bytes_of_string (P:=P) w src dst e s (El h1) (Ah hkk) (J4 hke)))
   ·exact ((Below.refl w.heap.size w).drew).alloc (by show w.heap.size≤w.heap.size;exact Nat.le_refl _) _
   ·have hl:(B3 s.data.toList).length=s.size:=by simp [B3]
    simp only[Rep]
    refine⟨_,_,by rw[hl], ?_, ?_,trivial,fun hn=>⟨w.heap.size,0,1,_,rfl, ?_, ?_, ?_,Tl _⟩⟩
    ·rw[hl];exact grownCap_ge _ _ _ _
    ·exact grownCap_le_maxLen _ _ _ _ hm
    ·intro hb;exact absurd (A4k b.st hb) (by omega)
    ·show w.heap.size<(w.heap.push _).size;simp
    ·intro j u hu
     rw[Nat.zero_add]
     refine (World.cell?_alloc_mark w.drew _ e _ j).trans ?_
     unfold bytesRow
     have hj:j<s.size:=by
      have:=(List.getElem?_eq_some_iff.1 hu).1
      simpa using this
     rw[Array.getElem?_append_left (by simpa using hj)]
     simpa using hu
  ·exact hk.elim
 ·rename_i hkk
  obtain⟨h1,l,h2,hk⟩:=hk
  split at h1
  ·rename_i e hks
   split at h1
   ·rename_i hke
    obtain⟨A,c,h3,h4,h5,h6,sz,vs,h7,h8⟩:=Vo b hx h2
    have hvs:=Rx l h7
    have hl:(B3 l).length=l.length:=by simp [B3]
    refine Aa b he hk (Aq _ rfl) (hrun _ _ ?_)
    rw[h3,hl]
    by_cases hn:l=[]
    ·subst hn
     rcases A with _|ad
     ·exact run_convert_bytes_nil w src e (Ah hks) (J4 hke) _ c dst (El hkk)
     ·exact run_convert_bytes_back w src dst e _ c [] (Ah hks) (J4 hke) (El hkk) fun j hj=>by simp at hj
    ·obtain⟨g,o',rfl,_,hat⟩:=h8 (by intro e';apply hn;simpa [B3] using e')
     refine run_convert_bytes_back w src dst e _ c l (Ah hks) (J4 hke) (El hkk) fun j hj=>?_
     rw[addr_add]
     refine hat j _ ?_
     rw[hvs]
     simp [hj]
   ·exact h1.elim
  ·exact h1.elim
 ·exact hk.elim
theorem A7t(b:Bn P M0 N w0 F φ σ a w hp id o)(he:Ends P M0 N w0 F σ id o k K){t:Nat}{x:Operand}(ho:∃ c,o.op=.call c∧c.callee=.builtin .len∧c.args=#[x]∧c.argTypes=#[t]){u:AV}
  (hx:Rep φ (Mo φ σ.hp M0) w u (a.eval x)) (hk:Cf P hp t u k):o.wp P a w K Q:=by
 obtain⟨c,ho,hc1,hc2,hc3⟩:=ho
 have hrun:∀ r,(Builtin.len_ #[t] o.type #[a.eval x]).run P w=.ok r w→(execOp a.eval o).run P w=.ok (.value r) w:=by
  intro r hr
  simp [execOp,ho,resolve,hc1,hc2,hc3,invoke,builtin,hr]
 unfold Cf at hk
 split at hk
 ·rename_i s hkk
  have e1:=Au hx rfl
  exact Aa b he hk (Aq _ rfl) (hrun _ (by rw[e1];simp [Builtin.len_,run_underlying (El hkk),goInt]))
 ·rename_i n e hkk
  exact Aa b he hk (Aq _ rfl) (hrun _ (by simp [Builtin.len_,run_underlying (G2 hkk),goInt]))
 ·rename_i e i off n hkk
  simp only[Rep] at hx
  obtain⟨_,_,A,c,_,h3,_⟩:=hx
  exact Aa b he hk (Aq _ rfl) (hrun _ (by rw[h3];simp [Builtin.len_,run_underlying (Ah hkk),goInt]))
 ·rename_i e hkk _
  obtain⟨es,h1,hk⟩:=hk
  obtain⟨A,c,h3,_⟩:=Vo b hx h1
  exact Aa b he hk (Aq _ rfl) (hrun _ (by rw[h3];simp [Builtin.len_,run_underlying (Ah hkk),goInt]))
 ·exact hk.elim
end
end Go.Proofs.YtbhffbgbhgjdiaaGreatDoor
