/-
  Parts of the proof: Shp Shq. Conditions: those that each theorem states.
-/
import Derived.Test.YtbhffbgbhgjdiaaGreatDoorGAbs
import Derived.Deep.Slices
import Derived.WideShapes
set_option linter.unusedSimpArgs false
set_option linter.unusedVariables false
namespace Go.Proofs.YtbhffbgbhgjdiaaGreatDoor
open Go.RowKit Go.ChangeShapes Go.WideShapes
set_option maxRecDepth 100000
section
variable{H:Type}{enc:TypeId×Value→H}{P:Program}{w:World}{sp:Nat→Bool}{held:Bool}
def Sh(P:Program):Nat→TypeId→List AV→Prop
 | 0,_,_=>False
 | d+1,t,us=>match P.underlying t with
  | some .bool=>∃ b,us=[.ex (.bool b)]
  | some (.int k)=>∃ n,us=[.ex (.int k n)]∧(Lit.int k n).wf=true
  | some .string=>∃ s,us=[.ex (.string s)]∧s.size≤reachBytes
  | some (.slice e)=>∃ es,us=[.sl es]∧(es.length≤reachBytes∧es.length*P.bytesOf e≤reachBytes)∧∀ x∈es,Sh P d e x
  | some (.struct fs)=>us.length=P.cellsOf t∧∀ f∈fs.toList,Sh P d f.type ((us.drop f.offset).take (P.cellsOf f.type))
  | _=>False
def tight(P:Program):Nat→List Field→Bool
 | _,[]=>true
 | o,f :: fs=>decide (f.offset=o) && tight P (o+P.cellsOf f.type) fs
def A29(P:Program):Nat→TypeId→Bool
 | 0,_=>false
 | d+1,t=>match P.underlying t with
  | some .bool|some (.int _)|some .string=>true
  | some (.slice e)=>A29 P d e && decide (0<P.cellsOf e∧0<P.bytesOf e)
  | some (.struct fs)=>tight P 0 fs.toList && (fs.toList.all fun f=>A29 P d f.type) && decide (P.cellsOf t=(fs.toList.map fun f=>P.cellsOf f.type).sum)
  | _=>false
def M00:Nat→Prop:=fun _=>False
theorem N3{M:Nat→Prop}{d:Nat}(hs:∀ f:Field,∀ us,Sh P d f.type us→True):∀ (fs:List Field) (o:Nat) (cs:List Value),tight P o fs=true→cs.length=(fs.map fun f=>P.cellsOf f.type).sum →
  (∀ f∈fs,∃ us,RepL Bb M w us ((cs.drop (f.offset-o)).take (P.cellsOf f.type))∧Sh P d f.type us∧∀ c∈(cs.drop (f.offset-o)).take (P.cellsOf f.type),c.oneCell'=true) →
  ∃ us,RepL Bb M w us cs∧(∀ f∈fs,o≤f.offset∧Sh P d f.type ((us.drop (f.offset-o)).take (P.cellsOf f.type)))∧∀ c∈cs,c.oneCell'=true
 | [],o,cs,_,hl,_=>by
  have:cs=[]:=List.eq_nil_of_length_eq_zero (by simpa using hl)
  subst this
  exact⟨[],RepL.nil,fun f hf=>(by cases hf),fun c hc=>(by cases hc)⟩
 | f :: fs,o,cs,ht,hl,h=>by
  unfold tight at ht
  rw[Bool.and_eq_true,decide_eq_true_eq] at ht
  obtain⟨ho,ht⟩:=ht
  rw[List.map_cons,List.sum_cons] at hl
  obtain⟨us1,h1,h2,h3⟩:=h f List.mem_cons_self
  rw[ho,Nat.sub_self,List.drop_zero] at h1 h3
  have hoff:∀ (l:List Field) (q:Nat),tight P q l=true→∀ g∈l,q≤g.offset:=by
   intro l
   induction l with
   | nil=>intro q _ g hg;cases hg
   | cons x l ih =>
    intro q hq g hg
    unfold tight at hq
    rw[Bool.and_eq_true,decide_eq_true_eq] at hq
    rcases List.mem_cons.1 hg with rfl|hg
    ·omega
    ·have:=ih _ hq.2 g hg;omega
  obtain ⟨us2, g1, g2, g3⟩ := N3 hs fs (o + P.cellsOf f.type) (cs.drop (P.cellsOf f.type)) ht (by rw [List.length_drop]; omega) (fun g hg=>by
   obtain⟨us,k1,k2,k3⟩:=h g (List.mem_cons_of_mem _ hg)
   have hge:=hoff fs _ ht g hg
   have e:(cs.drop (P.cellsOf f.type)).drop (g.offset-(o+P.cellsOf f.type))=cs.drop (g.offset-o):=by
    rw[List.drop_drop];congr 1;omega
   exact⟨us,by rw[e];exact k1,k2,by rw[e];exact k3⟩)
  have hlen:us1.length=P.cellsOf f.type:=by rw[← RepL.len h1,List.length_take];omega
  refine⟨us1++us2, ?_,fun g hg=>?_,fun c hc=>?_⟩
  ·have:=RepL.app h1 g1
   rwa [List.take_append_drop] at this
  ·rcases List.mem_cons.1 hg with rfl|hg
   ·refine⟨by omega, ?_⟩
    rw[ho,Nat.sub_self,List.drop_zero,List.take_append_of_le_length (by omega),List.take_of_length_le (by omega)]
    exact h2
   ·have hge:=hoff fs _ ht g hg
    refine⟨by omega, ?_⟩
    have e:(us1++us2).drop (g.offset-o)=us2.drop (g.offset-(o+P.cellsOf f.type)):=by
     rw[List.drop_append,List.drop_of_length_le (by omega),List.nil_append,hlen]
     congr 1;omega
    rw[e]
    exact (g2 g hg).2
  ·rw[← List.take_append_drop (P.cellsOf f.type) cs] at hc
   rcases List.mem_append.1 hc with hc|hc
   ·exact h3 c hc
   ·exact g3 c hc
theorem Qq{M:Nat→Prop}{sz b o:Nat}{C:Nat→List Value}{U:Nat→List AV}:∀ (n:Nat),(∀ i,i<n→(C i).length=sz∧(∀ j,j<sz→w.cell? ⟨b,o+(i*sz+j),none⟩=(C i)[j]?)∧RepL Bb M w (U i) (C i)∧∀ c∈C i,c.oneCell'=true) →
  RepLL Bb M w sz ((List.range n).map U) ((List.range n).flatMap C)∧At w b o ((List.range n).flatMap C)∧((List.range n).flatMap C).length=n*sz
 | 0,_=>⟨RepLL.nil sz,fun j u h=>(by simp at h),by simp⟩
 | n+1,h=>by
  obtain⟨h1,h2,h3⟩:=Qq n fun i hi=>h i (by omega)
  obtain⟨g1,g2,g3,g4⟩:=h n (by omega)
  rw[List.range_succ,List.map_append,List.flatMap_append]
  simp only[List.map_cons,List.map_nil,List.flatMap_cons,List.flatMap_nil,List.append_nil]
  refine⟨RepLL.app h1 (by rw[← g1];exact RepLL.one g4 g3),fun j u hj=>?_,by rw[List.length_append,h3,g1,Nat.add_mul,Nat.one_mul]⟩
  rcases Nat.lt_or_ge j (n*sz) with hlt|hge
  ·rw[List.getElem?_append_left (by rw[h3];exact hlt)] at hj
   exact h2 j u hj
  ·rw[List.getElem?_append_right (by rw[h3];exact hge),h3] at hj
   have hjs:j-n*sz<sz:=by have:=(List.getElem?_eq_some_iff.1 hj).1;omega
   rw[← hj,← g2 _ hjs]
   congr 2
   omega
theorem Qw{e:TypeId}:∀ (l:List (DataW H)) (d:DataW H),d∈l→∀ n∈d.weights P e,n∈DataW.weightsAll P e l
 | [],_,h,_,_=>by cases h
 | x :: l,d,h,n,hn=>by
  rw[DataW.weightsAll,List.mem_append]
  rcases List.mem_cons.1 h with rfl|h
  ·exact .inl hn
  ·exact .inr (Qw l d h n hn)
theorem Qs{ts:List TypeId}{ds:List (DataW H)}{j:Nat}{t:TypeId}{d:DataW H}(h:(DataW.weightsEach P ts ds).all (·≤reachBytes)=true)(ht:ts[j]?=some t)(hd:ds[j]?=some d):∀ n∈d.weights P t,n≤reachBytes:=by
 intro n hn
 have:=List.all_eq_true.1 h n (DataW.weights_mem_each ht hd n hn)
 simpa using this
theorem Agf:∀ (d:Nat) (t:TypeId),A29 P d t=true→∀ (fuel:Nat) (cs:List Value) (x:DataW H×List MemPlace),DataW.trod enc P w 0 sp held fuel t cs=some x→(∀ n∈x.1.weights P t,n≤reachBytes) →
  ∃ us,RepL Bb M00 w us cs∧Sh P d t us∧∀ c∈cs,c.oneCell'=true
 | 0,t,h=>by cases h
 | d+1,t,h=>by
  intro fuel cs x hx hwt
  unfold A29 at h
  unfold Sh
  split at h
  ·rename_i hu
   obtain⟨b,rfl,_⟩:=DataW.trod_bool hu hx
   refine⟨[.ex (.bool b)],RepL.cons (by simp [Rep,Value.oneCell']) RepL.nil,⟨b,rfl⟩,by simp [Value.oneCell']⟩
  ·rename_i k hu
   obtain⟨n,rfl,_,hwf⟩:=DataW.trod_int hu hx
   refine⟨[.ex (.int k n)],RepL.cons (by simp [Rep,Value.oneCell']) RepL.nil,⟨n,rfl,hwf⟩,by simp [Value.oneCell']⟩
  ·rename_i hu
   obtain⟨s,rfl,rfl,_⟩:=DataW.trod_string hu hx
   have hs:s.size≤reachBytes:=by
    have:=hwt s.data.toList.length (by simp [DataW.weights])
    rw[Array.length_toList] at this
    exact this
   refine⟨[.ex (.string s)],RepL.cons (by simp [Rep,Value.oneCell']) RepL.nil,⟨s,rfl,hs⟩,by simp [Value.oneCell']⟩
  ·rename_i e hu
   rw[Bool.and_eq_true,decide_eq_true_eq] at h
   rcases Go.Deep.open_slice hu hx with⟨rfl,_⟩|⟨a,len,cap,m,n,D,Pl,rfl,_,hl,hm,hmm,rfl,hel⟩
   ·refine⟨[.sl []],RepL.cons ?_ RepL.nil,⟨[],rfl,⟨Nat.zero_le _,by simp⟩,fun x hx=>(by cases hx)⟩,by simp [Value.oneCell']⟩
    simp only[Rep]
    exact⟨none,0,rfl,Nat.le_refl _,Nat.zero_le _,trivial,fun hn=>absurd rfl hn⟩
   ·have hlm:len≤m:=by rw[hmm];split<;>omega
    obtain⟨C,hC⟩:=Go.Deep.choose_lt (α:=List Value) (p:=fun i cs'=>w.cells? 0 (a.add (i*P.cellsOf e)) (P.cellsOf e)=some cs'∧DataW.trod enc P w 0 sp held n e cs'=some (D i,Pl i)) (n:=len) (fun i hi=>hel i (by omega))
    obtain ⟨U, hU⟩ := Go.Deep.choose_lt (α := List AV) (p := fun i us => RepL Bb M00 w us (C i) ∧ Sh P d e us ∧ ∀ c ∈ C i, c.oneCell' = true) (n := len) (fun i hi => Agf d e h.1 n (C i) _ (hC i hi).2 fun q hq => hwt q (by
     simp only[DataW.weights,hu,List.mem_cons,List.mem_append]
     exact .inr (.inl (Qw ((List.range len).map D) (D i) (by simp only[List.mem_map,List.mem_range];exact⟨i,hi,rfl⟩) q hq))))
    have hlr:len≤reachBytes∧len*P.bytesOf e≤reachBytes:=by
     have h1:=hwt ((((List.range len).map D).length+((List.range (m-len)).map fun j=>D (len+j)).length)*P.bytesOf e) (by simp only[DataW.weights,hu];exact List.mem_cons_self)
     rw[List.length_map,List.length_range] at h1
     exact⟨Nat.le_trans (Nat.le_trans (Nat.le_add_right _ _) (Nat.le_mul_of_pos_right _ h.2.2)) h1,Nat.le_trans (Nat.mul_le_mul_right _ (Nat.le_add_right _ _)) h1⟩
    refine⟨[.sl ((List.range len).map U)],RepL.cons ?_ RepL.nil, ?_,by simp [Value.oneCell']⟩
    ·simp only[Rep]
     have hln:((List.range len).map U).length=len:=by simp
     refine⟨some a,cap,by rw[hln],by rw[hln];exact hl,hm,trivial,fun hn=>?_⟩
     have hpos:0<len:=by
      rcases Nat.eq_zero_or_pos len with h0|h0
      ·rw[h0] at hn;exact absurd rfl hn
      ·exact h0
     obtain⟨_,c2,c3⟩:=World.cells?_some (hC 0 hpos).1
     have c4:=c3 0 h.2.1
     have hc0:(C 0)[0]?=some (C 0)[0]:=List.getElem?_eq_getElem (by omega)
     rw[hc0] at c4
     have hspot:a.spot=none:=by
      have:=World.cell?_spot c4
      obtain⟨b,o,s⟩:=a
      simpa [Addr.add] using this
     obtain⟨b,o,s⟩:=a
     dsimp only at hspot
     subst hspot
     rw[Nat.zero_mul,add_plain,add_plain] at c4
     have hbs:b<w.heap.size:=by
      rcases Nat.lt_or_ge b w.heap.size with hh|hh
      ·exact hh
      ·unfold World.cell? at c4
       rw[Array.getElem?_eq_none hh] at c4
       simp at c4
     obtain⟨r1,r2,_⟩:=Qq (w:=w) (M:=M00) (sz:=P.cellsOf e) (b:=b) (o:=o) (C:=C) (U:=U) len fun i hi=>by
      obtain⟨_,k2,k3⟩:=World.cells?_some (hC i hi).1
      obtain⟨k4,_,k5⟩:=hU i hi
      refine⟨k2,fun j hj=>?_,k4,k5⟩
      have:=k3 j hj
      rwa [add_plain,add_plain,Nat.add_assoc] at this
     exact⟨b,o,P.cellsOf e,_,rfl,fun h=>h.elim,hbs,r2,r1⟩
    ·refine⟨_,rfl,by simpa using hlr,fun x hx=>?_⟩
     simp only[List.mem_map,List.mem_range] at hx
     obtain⟨i,hi,rfl⟩:=hx
     exact (hU i hi).2.1
  ·rename_i fs hu
   rw[Bool.and_eq_true,Bool.and_eq_true,decide_eq_true_eq,List.all_eq_true] at h
   obtain⟨xs,n,_,rfl,hl,hlen,hf⟩:=DataW.trod_struct hu hx
   obtain ⟨us, r1, r2, r3⟩ := N3 (P := P) (w := w) (M := M00) (d := d) (fun _ _ _ => trivial) fs.toList 0 cs h.1.1 (by rw [hl, h.2]) (fun f hfm=>by
    obtain⟨i,hi,hfi⟩:=List.mem_iff_getElem.1 hfm
    have hi':i<fs.size:=by simpa using hi
    have hfi':fs[i]?=some f:=by rw[Array.getElem?_eq_getElem hi'];simpa using hfi
    have:=hf i f hfi'
    rw[List.getElem?_eq_getElem (by omega)] at this
    rw[Nat.sub_zero]
    exact Agf d f.type (h.1.2 f hfm) n _ _ this fun q hq => hwt q (by
     simp only[DataW.weights,hu]
     exact DataW.weights_mem_each (j:=i) (t:=f.type) (d:=(xs[i]'(by omega)).1) (by rw[List.getElem?_map,Array.getElem?_toList,hfi'];rfl) (by rw[List.getElem?_map,List.getElem?_eq_getElem (by omega)];rfl) q hq))
   refine⟨us,r1, ?_,r3⟩
   refine⟨by rw[← RepL.len r1,hl],fun f hf=>?_⟩
   have:=(r2 f hf).2
   rwa [Nat.sub_zero] at this
  ·cases h
def Rr(P:Program)(d:Nat)(t:TypeId)(u:AV):Prop:=match P.underlying t with
 | some (.struct _)=>∃ us,u=.agg us∧Sh P d t us
 | _=>Sh P d t [u]
theorem Ai2{r:Reach}{b0 d:Nat}{t:TypeId}{v:Value}{dd:DataW H}{ps:List MemPlace}(hok:A29 P d t=true)(hv:Value.okWide P w r b0 t v)(h:DataW.Trod enc P w 0 sp held t v dd ps)(hwt:∀ n∈dd.weights P t,n≤reachBytes) :
  ∃ u,Rep Bb M00 w u v∧Rr P d t u:=by
 obtain⟨fuel,h⟩:=h
 obtain⟨us,h1,h2,h3⟩:=Agf d t hok fuel _ _ h hwt
 have one:v.cells=#[v]→(∀ fs,P.underlying t≠some (.struct fs))→∃ u,Rep Bb M00 w u v∧Rr P d t u:=by
  intro hc hn
  rw[hc] at h1
  match us,RepL.len h1 with
  | [u],_ =>
   simp only[RepL] at h1
   obtain⟨x,xs,he,h4,rfl⟩:=h1
   simp at he
   subst he
   refine⟨u,h4, ?_⟩
   unfold Rr
   split
   ·rename_i fs hfs;exact absurd hfs (hn fs)
   ·exact h2
 cases d with
 | zero=>cases hok
 | succ d =>
  unfold A29 at hok
  split at hok
  ·rename_i hu
   obtain⟨b,rfl⟩:=okWide_bool hu hv
   exact one rfl fun fs e=>by rw[hu] at e;cases e
  ·rename_i k hu
   obtain⟨b,rfl⟩:=okWide_int hu hv
   exact one rfl fun fs e=>by rw[hu] at e;cases e
  ·rename_i hu
   obtain⟨b,rfl⟩:=okWide_string hu hv
   exact one rfl fun fs e=>by rw[hu] at e;cases e
  ·rename_i k hu
   obtain⟨a,l,c,rfl⟩:=okWide_slice hu hv
   exact one rfl fun fs e=>by rw[hu] at e;cases e
  ·rename_i fs hu
   have hv':=hv
   simp only[Value.okWide,hu] at hv'
   obtain⟨cs,rfl,_⟩:=hv'
   refine⟨.agg us, ?_, ?_⟩
   ·simp only[Rep]
    exact⟨cs.toList,by simp,h3,h1⟩
   ·unfold Rr
    rw[hu]
    exact⟨us,rfl,h2⟩
  ·cases hok
theorem Aj4{C:World→Prop}{f:Nat}{us:List AV}{args:List Value}(h:Con P C f us (.val (.ex (.bool true))))(hc:C w)(hr:RepL Bb M00 w us args) :
  Calls P f args.toArray w fun e w'=>e=.returned (.bool true)∧Below w.heap.size w w':=by
 refine (h.2 M00 w args (fun b h=>h.elim) hc hr).mono ?_
 rintro e w' ⟨v,rfl,hv,hb⟩
 simp only[Rep] at hv
 exact⟨by rw[hv.1],hb⟩
section
variable{d:Nat}{t:TypeId}{us:List AV}
theorem Ak{k:IntKind}(h:Sh P (d+1) t us)(hu:P.underlying t=some (.int k)):∃ n,us=[.ex (.int k n)]∧(Lit.int k n).wf=true:=by
 unfold Sh at h;rw[hu] at h;exact h
theorem De(h:Sh P (d+1) t us)(hu:P.underlying t=some .string):∃ s,us=[.ex (.string s)]∧s.size≤reachBytes:=by
 unfold Sh at h;rw[hu] at h;exact h
theorem A4y(h:Sh P (d+1) t us)(hu:P.underlying t=some .bool):∃ b,us=[.ex (.bool b)]:=by
 unfold Sh at h;rw[hu] at h;exact h
theorem Agg{e:TypeId}(h:Sh P (d+1) t us)(hu:P.underlying t=some (.slice e)):∃ es,us=[.sl es]∧es.length≤reachBytes∧∀ x∈es,Sh P d e x:=by
 unfold Sh at h;rw[hu] at h
 obtain⟨es,h1,h2,h3⟩:=h
 exact⟨es,h1,h2.1,h3⟩
theorem Bv{e:TypeId}(h:Sh P (d+1) t us)(hu:P.underlying t=some (.slice e)):∃ es,us=[.sl es]∧(es.length≤reachBytes∧es.length*P.bytesOf e≤reachBytes)∧∀ x∈es,Sh P d e x:=by
 unfold Sh at h;rw[hu] at h;exact h
theorem Bi{fs:Array Field}(h:Sh P (d+1) t us)(hu:P.underlying t=some (.struct fs)):us.length=P.cellsOf t∧∀ f∈fs.toList,Sh P d f.type ((us.drop f.offset).take (P.cellsOf f.type)):=by
 unfold Sh at h;rw[hu] at h;exact h
end
theorem Ib{α:Type}{p:α→Prop}{g:α→List AV}:∀ (es:List (List AV)),(∀ x∈es,∃ m,x=g m∧p m)→∃ l:List α,es=l.map g∧∀ m∈l,p m
 | [],_=>⟨[],rfl,fun m hm=>(by cases hm)⟩
 | e :: es,h=>by
  obtain⟨m,rfl,hm⟩:=h e List.mem_cons_self
  obtain⟨l,rfl,hl⟩:=Ib es fun x hx=>h x (List.mem_cons_of_mem _ hx)
  exact ⟨m :: l,rfl,fun q hq=>by
   rcases List.mem_cons.1 hq with rfl|hq
   ·exact hm
   ·exact hl q hq⟩
end
section
variable{H:Type}{enc:TypeId×Value→H}{P:Program}{w:World}{sp:Nat→Bool}{held:Bool}
theorem Sh.up:∀ {d:Nat} {t:TypeId} {us:List AV},Sh P d t us→Sh P (d+1) t us
 | 0,_,_,h=>h.elim
 | d+1,t,us,h=>by
  unfold Sh at h ⊢
  split at h
  ·exact h
  ·exact h
  ·exact h
  ·obtain⟨es,h1,h2,h3⟩:=h
   exact⟨es,h1,h2,fun x hx=>(h3 x hx).up⟩
  ·exact⟨h.1,fun f hf=>(h.2 f hf).up⟩
  ·exact h.elim
theorem Sh.le{t:TypeId}{us:List AV}:∀ {d e:Nat},d≤e→Sh P d t us→Sh P e t us
 | d,0,h,k=>by
  have:d=0:=by omega
  subst this
  exact k
 | d,e+1,h,k=>by
  rcases Nat.eq_or_lt_of_le h with rfl|h
  ·exact k
  ·exact (Sh.le (by omega:d≤e) k).up
def A4o(P:Program)(ts:List TypeId):Bool:=ts.all fun t=>match P.underlying t with
 | some .bool|some (.int _)|some .string=>true
 | some (.slice e)=>ts.contains e && decide (0<P.cellsOf e∧0<P.bytesOf e)
 | some (.struct fs)=>tight P 0 fs.toList && (fs.toList.all fun f=>ts.contains f.type) && decide (P.cellsOf t=(fs.toList.map fun f=>P.cellsOf f.type).sum)
 | _=>false
theorem Sc{U:Nat→List AV}{e:TypeId}:∀ (n:Nat),(∀ i,i<n→∃ d,Sh P d e (U i))→∃ d,∀ i,i<n→Sh P d e (U i)
 | 0,_=>⟨0,fun i h=>by omega⟩
 | n+1,h=>by
  obtain⟨d,h1⟩:=Sc n fun i hi=>h i (by omega)
  obtain⟨d',h2⟩:=h n (by omega)
  refine⟨max d d',fun i hi=>?_⟩
  rcases Nat.lt_or_ge i n with hlt|hge
  ·exact (h1 i hlt).le (Nat.le_max_left _ _)
  ·have:i=n:=by omega
   subst this
   exact h2.le (Nat.le_max_right _ _)
theorem Sb{A:Field→List AV→Prop}:∀ (l:List Field),(∀ f∈l,∃ d us,A f us∧Sh P d f.type us)→∃ d,∀ f∈l,∃ us,A f us∧Sh P d f.type us
 | [],_=>⟨0,fun f h=>by cases h⟩
 | f :: l,h=>by
  obtain⟨d,h1⟩:=Sb l fun g hg=>h g (List.mem_cons_of_mem _ hg)
  obtain⟨d',us,h2,h3⟩:=h f List.mem_cons_self
  refine⟨max d d',fun g hg=>?_⟩
  rcases List.mem_cons.1 hg with rfl|hg
  ·exact⟨us,h2,h3.le (Nat.le_max_right _ _)⟩
  ·obtain⟨vs,h4,h5⟩:=h1 g hg
   exact⟨vs,h4,h5.le (Nat.le_max_left _ _)⟩
theorem A4z{ts:List TypeId}(hok:A4o P ts=true):∀ (N:Nat) (t:TypeId),t∈ts→∀ (fuel:Nat) (cs:List Value) (x:DataW H×List MemPlace),SizeOf.sizeOf x.1≤N→DataW.trod enc P w 0 sp held fuel t cs=some x→(∀ n∈x.1.weights P t,n≤reachBytes) →
  ∃ d us,RepL Bb M00 w us cs∧Sh P d t us∧∀ c∈cs,c.oneCell'=true:=by
 intro N
 induction N with
 | zero =>
  intro t _ fuel cs x hN
  obtain⟨x1,x2⟩:=x
  cases x1<;>simp at hN
 | succ N ih =>
  intro t ht fuel cs x hN hx hwt
  have h:=List.all_eq_true.1 hok t ht
  split at h
  ·rename_i hu
   obtain⟨b,rfl,_⟩:=DataW.trod_bool hu hx
   exact⟨1,[.ex (.bool b)],RepL.cons (by simp [Rep,Value.oneCell']) RepL.nil,by unfold Sh;rw[hu];exact⟨b,rfl⟩,by simp [Value.oneCell']⟩
  ·rename_i k hu
   obtain⟨n,rfl,_,hwf⟩:=DataW.trod_int hu hx
   exact⟨1,[.ex (.int k n)],RepL.cons (by simp [Rep,Value.oneCell']) RepL.nil,by unfold Sh;rw[hu];exact⟨n,rfl,hwf⟩,by simp [Value.oneCell']⟩
  ·rename_i hu
   obtain⟨s,rfl,e0,_⟩:=DataW.trod_string hu hx
   have hs:s.size≤reachBytes:=by
    have:=hwt s.data.toList.length (by rw[e0];simp [DataW.weights])
    rw[Array.length_toList] at this
    exact this
   exact⟨1,[.ex (.string s)],RepL.cons (by simp [Rep,Value.oneCell']) RepL.nil,by unfold Sh;rw[hu];exact⟨s,rfl,hs⟩,by simp [Value.oneCell']⟩
  ·rename_i e hu
   rw[Bool.and_eq_true,decide_eq_true_eq] at h
   have he:e∈ts:=by simpa using h.1
   rcases Go.Deep.open_slice hu hx with⟨rfl,_⟩|⟨a,len,cap,m,n,D,Pl,rfl,_,hl,hm,hmm,rfl,hel⟩
   ·refine⟨1,[.sl []],RepL.cons ?_ RepL.nil,by unfold Sh;rw[hu];exact⟨[],rfl,⟨Nat.zero_le _,by simp⟩,fun x hx=>(by cases hx)⟩,by simp [Value.oneCell']⟩
    simp only[Rep]
    exact⟨none,0,rfl,Nat.le_refl _,Nat.zero_le _,trivial,fun hn=>absurd rfl hn⟩
   ·have hlm:len≤m:=by rw[hmm];split<;>omega
    have hsz:∀ i,i<len→SizeOf.sizeOf (D i)≤N:=by
     intro i hi
     have h1:D i∈(List.range len).map D:=by simp only[List.mem_map,List.mem_range];exact⟨i,hi,rfl⟩
     have h2:=List.sizeOf_lt_of_mem h1
     simp only[DataW.slice.sizeOf_spec] at hN
     omega
    obtain⟨C,hC⟩:=Go.Deep.choose_lt (α:=List Value) (p:=fun i cs'=>w.cells? 0 (a.add (i*P.cellsOf e)) (P.cellsOf e)=some cs'∧DataW.trod enc P w 0 sp held n e cs'=some (D i,Pl i)) (n:=len) (fun i hi=>hel i (by omega))
    obtain ⟨U, hU⟩ := Go.Deep.choose_lt (α := List AV) (p := fun i us => RepL Bb M00 w us (C i) ∧ (∃ d, Sh P d e us) ∧ ∀ c ∈ C i, c.oneCell' = true) (n := len) (fun i hi=>by
     obtain ⟨d, us, g1, g2, g3⟩ := ih e he n (C i) _ (hsz i hi) (hC i hi).2 fun q hq => hwt q (by
      simp only[DataW.weights,hu,List.mem_cons,List.mem_append]
      exact .inr (.inl (Qw ((List.range len).map D) (D i) (by simp only[List.mem_map,List.mem_range];exact⟨i,hi,rfl⟩) q hq)))
     exact⟨us,g1,⟨d,g2⟩,g3⟩)
    obtain⟨d,hd⟩:=Sc (P:=P) (U:=U) (e:=e) len fun i hi=>(hU i hi).2.1
    have hlr:len≤reachBytes∧len*P.bytesOf e≤reachBytes:=by
     have h1:=hwt ((((List.range len).map D).length+((List.range (m-len)).map fun j=>D (len+j)).length)*P.bytesOf e) (by simp only[DataW.weights,hu];exact List.mem_cons_self)
     rw[List.length_map,List.length_range] at h1
     exact⟨Nat.le_trans (Nat.le_trans (Nat.le_add_right _ _) (Nat.le_mul_of_pos_right _ h.2.2)) h1,Nat.le_trans (Nat.mul_le_mul_right _ (Nat.le_add_right _ _)) h1⟩
    refine⟨d+1,[.sl ((List.range len).map U)],RepL.cons ?_ RepL.nil, ?_,by simp [Value.oneCell']⟩
    ·simp only[Rep]
     have hln:((List.range len).map U).length=len:=by simp
     refine⟨some a,cap,by rw[hln],by rw[hln];exact hl,hm,trivial,fun hn=>?_⟩
     have hpos:0<len:=by
      rcases Nat.eq_zero_or_pos len with h0|h0
      ·rw[h0] at hn;exact absurd rfl hn
      ·exact h0
     obtain⟨_,c2,c3⟩:=World.cells?_some (hC 0 hpos).1
     have c4:=c3 0 h.2.1
     have hc0:(C 0)[0]?=some (C 0)[0]:=List.getElem?_eq_getElem (by omega)
     rw[hc0] at c4
     have hspot:a.spot=none:=by
      have:=World.cell?_spot c4
      obtain⟨b,o,s⟩:=a
      simpa [Addr.add] using this
     obtain⟨b,o,s⟩:=a
     dsimp only at hspot
     subst hspot
     rw[Nat.zero_mul,add_plain,add_plain] at c4
     have hbs:b<w.heap.size:=by
      rcases Nat.lt_or_ge b w.heap.size with hh|hh
      ·exact hh
      ·unfold World.cell? at c4
       rw[Array.getElem?_eq_none hh] at c4
       simp at c4
     obtain⟨r1,r2,_⟩:=Qq (w:=w) (M:=M00) (sz:=P.cellsOf e) (b:=b) (o:=o) (C:=C) (U:=U) len fun i hi=>by
      obtain⟨_,k2,k3⟩:=World.cells?_some (hC i hi).1
      obtain⟨k4,_,k5⟩:=hU i hi
      refine⟨k2,fun j hj=>?_,k4,k5⟩
      have:=k3 j hj
      rwa [add_plain,add_plain,Nat.add_assoc] at this
     exact⟨b,o,P.cellsOf e,_,rfl,fun h=>h.elim,hbs,r2,r1⟩
    ·unfold Sh
     rw[hu]
     refine⟨_,rfl,by simpa using hlr,fun x hx=>?_⟩
     simp only[List.mem_map,List.mem_range] at hx
     obtain⟨i,hi,rfl⟩:=hx
     exact hd i hi
  ·rename_i fs hu
   rw[Bool.and_eq_true,Bool.and_eq_true,decide_eq_true_eq,List.all_eq_true] at h
   obtain⟨xs,n,_,rfl,hl,hlen,hf⟩:=DataW.trod_struct hu hx
   obtain ⟨d, hd⟩ := Sb (P := P) (A := fun f us => RepL Bb M00 w us ((cs.drop f.offset).take (P.cellsOf f.type)) ∧ ∀ c ∈ (cs.drop f.offset).take (P.cellsOf f.type), c.oneCell' = true) fs.toList (fun f hfm=>by
    obtain⟨i,hi,hfi⟩:=List.mem_iff_getElem.1 hfm
    have hi':i<fs.size:=by simpa using hi
    have hfi':fs[i]?=some f:=by rw[Array.getElem?_eq_getElem hi'];simpa using hfi
    have:=hf i f hfi'
    rw[List.getElem?_eq_getElem (by omega)] at this
    have h1:(xs[i]'(by omega)).1∈xs.map (·.1):=List.mem_map.2 ⟨_,List.getElem_mem _,rfl⟩
    have h2:=List.sizeOf_lt_of_mem h1
    simp only[DataW.agg.sizeOf_spec] at hN
    obtain ⟨d, us, g1, g2, g3⟩ := ih f.type (by simpa using h.1.2 f hfm) n _ _ (by omega) this fun q hq => hwt q (by
     simp only[DataW.weights,hu]
     exact DataW.weights_mem_each (j:=i) (t:=f.type) (d:=(xs[i]'(by omega)).1) (by rw[List.getElem?_map,Array.getElem?_toList,hfi'];rfl) (by rw[List.getElem?_map,List.getElem?_eq_getElem (by omega)];rfl) q hq)
    exact⟨d,us,⟨g1,g3⟩,g2⟩)
   obtain ⟨us, r1, r2, r3⟩ := N3 (P := P) (w := w) (M := M00) (d := d) (fun _ _ _ => trivial) fs.toList 0 cs h.1.1 (by rw [hl, h.2]) (fun f hfm=>by
    obtain⟨us,⟨g1,g3⟩,g2⟩:=hd f hfm
    rw[Nat.sub_zero]
    exact⟨us,g1,g2,g3⟩)
   refine⟨d+1,us,r1, ?_,r3⟩
   unfold Sh
   rw[hu]
   refine⟨by rw[← RepL.len r1,hl],fun f hf=>?_⟩
   have:=(r2 f hf).2
   rwa [Nat.sub_zero] at this
  ·cases h
theorem Aah{ts:List TypeId}(hok:A4o P ts=true){r:Reach}{b0:Nat}{t:TypeId}(ht:t∈ts){v:Value}{dd:DataW H}{ps:List MemPlace}{fs:Array Field}(hu:P.underlying t=some (.struct fs))(hv:Value.okWide P w r b0 t v)(h:DataW.Trod enc P w 0 sp held t v dd ps)(hwt:∀ n∈dd.weights P t,n≤reachBytes) :
  ∃ d us,Rep Bb M00 w (.agg us) v∧Sh P d t us:=by
 obtain⟨fuel,h⟩:=h
 obtain⟨d,us,h1,h2,h3⟩:=A4z hok _ t ht fuel _ _ (Nat.le_refl _) h hwt
 have hv':=hv
 simp only[Value.okWide,hu] at hv'
 obtain⟨cs,rfl,_⟩:=hv'
 refine⟨d,us, ?_,h2⟩
 simp only[Rep]
 exact⟨cs.toList,by simp,h3,h1⟩
theorem X3{ts:List TypeId}(hok:A4o P ts=true){r:Reach}{b0:Nat}{t e:TypeId}(ht:t∈ts){v:Value}{dd:DataW H}{ps:List MemPlace}(hu:P.underlying t=some (.slice e))(hv:Value.okWide P w r b0 t v)(h:DataW.Trod enc P w 0 sp held t v dd ps)(hwt:∀ n∈dd.weights P t,n≤reachBytes) :
  ∃ d es,Rep Bb M00 w (.sl es) v∧Sh P (d+1) t [.sl es]:=by
 obtain⟨fuel,h⟩:=h
 obtain⟨d,us,h1,h2,h3⟩:=A4z hok _ t ht fuel _ _ (Nat.le_refl _) h hwt
 obtain⟨a,l,c,rfl⟩:=okWide_slice hu hv
 have h2':=h2.up
 have h4:=h2'
 unfold Sh at h4
 rw[hu] at h4
 obtain⟨es,rfl,_⟩:=h4
 simp only[RepL] at h1
 obtain⟨x,xs,he,h5,rfl⟩:=h1
 refine⟨d,es, ?_,h2'⟩
 have e2:(Value.slice a l c).cells.toList=[Value.slice a l c]:=rfl
 rw[e2] at he
 cases he
 exact h5
end
end Go.Proofs.YtbhffbgbhgjdiaaGreatDoor
