/-
  Parts of the proof: PLate Mv4 PNet. Conditions: those that each theorem states.
-/
import Derived.Test.YtbhffbgbhgjdiaaGreatDoorGLib
import Derived.Test.YtbhffbgbhgjdiaaGreatDoorM9
import Derived.Test.YtbhffbgbhgjdiaaGreatDoorM10
import Derived.Test.YtbhffbgbhgjdiaaGreatDoorM7
set_option linter.unusedSimpArgs false
set_option linter.unusedVariables false
namespace Go.Proofs.YtbhffbgbhgjdiaaGreatDoor
def Q64(x y:Int):Prop:=(x-y) % 18446744073709551616=0
theorem Q64.refl(x:Int):Q64 x x:=by unfold Q64;omega
theorem Q64.symm{x y:Int}(h:Q64 x y):Q64 y x:=by unfold Q64 at *;omega
theorem Q64.trans{x y z:Int}(h:Q64 x y)(k:Q64 y z):Q64 x z:=by unfold Q64 at *;omega
theorem Q64.add{x y u v:Int}(h:Q64 x y)(k:Q64 u v):Q64 (x+u) (y+v):=by unfold Q64 at *;omega
theorem Q64.neg{x y:Int}(h:Q64 x y):Q64 (-x) (-y):=by unfold Q64 at *;omega
structure Settle(P:Type) where
 W:Int→Int
 hW:∀ x y,Q64 x y→W x=W y
 per:(Int→Int)→Option P→Int→Option P
 to:P→Int
 lam:P→Int
 same:P→P→Prop
 same_refl:∀ p,same p p
 same_symm:∀ p q,same p q→same q p
 same_trans:∀ p q r,same p q→same q r→same p r
 same_to:∀ p q,same p q→to p=to q
 same_lam:∀ p q,same p q→lam p=lam q
 per_to:∀ B l t p,per B l t=some p→to p=t
 per_at:∀ B B' l t,(∀ d,d≤t→B d=B' d)→per B l t=per B' l t
 per_same:∀ B p q t,same p q→per B (some p) t=per B (some q) t
section
variable{P:Type}(Z:Settle P)
def Settle.bal(S:Int→Int)(d:Int):Int:=Z.W (-(S d))
def Settle.sum:List P→Int→Int
 | [],_=>0
 | p :: l,d=>(if Z.to p+1≤d then Z.lam p else 0)+Settle.sum l d
def Settle.tot:List P→Int
 | []=>0
 | p :: l=>Z.lam p+Settle.tot l
def C3{P:Type}(l:List P):Nat→Option P
 | 0=>none
 | i+1=>l[i]?
structure Settle.Inv(m:Nat)(S X:Int→Int)(T Y:Int)(l:List P):Prop where
 s:∀ d,Q64 (S d) (X d+Z.sum l d)
 t:Q64 T (Y+Z.tot l)
 p:∀ i q,i<m→l[i]?=some q→∃ q',Z.per (Z.bal S) (C3 l i) (Z.to q)=some q'∧Z.same q' q
 up:∀ (i j:Nat) q r,i<j→l[i]?=some q→l[j]?=some r→Z.to q<Z.to r
variable{Z}
theorem A52(l k:List P)(d:Int):Z.sum (l++k) d=Z.sum l d+Z.sum k d:=by
 induction l with
 | nil=>simp [Settle.sum]
 | cons p l ih=>simp only[List.cons_append,Settle.sum,ih];omega
theorem Am4(l k:List P):Z.tot (l++k)=Z.tot l+Z.tot k:=by
 induction l with
 | nil=>simp [Settle.tot]
 | cons p l ih=>simp only[List.cons_append,Settle.tot,ih];omega
theorem Am1(l:List P)(d:Int):∀ (i:Nat) (old p:P),l[i]?=some old→Z.to p=Z.to old→Z.sum (l.set i p) d=Z.sum l d+(if Z.to old+1≤d then Z.lam p-Z.lam old else 0):=by
 induction l with
 | nil=>intro i old p h;simp at h
 | cons x l ih =>
  intro i old p h ht
  cases i with
  | zero =>
   simp at h;subst h
   simp only[List.set_cons_zero,Settle.sum,ht]
   split<;>omega
  | succ i =>
   simp at h
   simp only[List.set_cons_succ,Settle.sum,ih i old p h ht]
   omega
theorem Am5(l:List P):∀ (i:Nat) (old p:P),l[i]?=some old→Z.tot (l.set i p)=Z.tot l+(Z.lam p-Z.lam old):=by
 induction l with
 | nil=>intro i old p h;simp at h
 | cons x l ih =>
  intro i old p h
  cases i with
  | zero =>
   simp at h;subst h
   simp only[List.set_cons_zero,Settle.tot]
   omega
  | succ i =>
   simp at h
   simp only[List.set_cons_succ,Settle.tot,ih i old p h]
   omega
theorem U6{S S':Int→Int}{t:Int}(h:∀ d,d≤t→Q64 (S d) (S' d)):∀ d,d≤t→Z.bal S d=Z.bal S' d:=fun d hd=>Z.hW _ _ (h d hd).neg
theorem Z4{l k:List P}{i:Nat}(h:i≤l.length):C3 (l++k) i=C3 l i:=by
 cases i with
 | zero=>rfl
 | succ i=>simp only[C3];rw[List.getElem?_append_left (by omega)]
theorem Aft{l:List P}{i m:Nat}{p:P}(h:i≤m):C3 (l.set m p) i=C3 l i:=by
 cases i with
 | zero=>rfl
 | succ i=>simp only[C3];rw[List.getElem?_set_ne (by omega)]
theorem Ajw(S:Int→Int)(T:Int):Z.Inv 0 S S T T [] :=
 ⟨fun d=>by simp only[Settle.sum,Int.add_zero];exact Q64.refl _,by simp only[Settle.tot,Int.add_zero];exact Q64.refl _,fun i q h=>by omega,fun i j q r _ h=>by simp at h⟩
theorem Ajy{S S' X:Int→Int}{T T' Y:Int}{l:List P}{p p':P}{t:Int}(h:Z.Inv l.length S X T Y l)(ht:∀ q∈l,Z.to q<t)(hp:Z.per (Z.bal S) (C3 l l.length) t=some p)(hs:Z.same p p')
  (hS:∀ d,Q64 (S' d) (S d+(if t+1≤d then Z.lam p else 0))) (hT:Q64 T' (T+Z.lam p)):Z.Inv (l++[p']).length S' X T' Y (l++[p']):=by
 have hto:=Z.per_to _ _ _ _ hp
 have hto':Z.to p'=t:=by rw[← Z.same_to _ _ hs,hto]
 have hlam:Z.lam p'=Z.lam p:=(Z.same_lam _ _ hs).symm
 have hbal:∀ t',t'≤t→∀ d,d≤t'→Z.bal S' d=Z.bal S d:=fun t' h'=>U6 fun d hd=>by
  have:=hS d
  rw[if_neg (by omega),Int.add_zero] at this
  exact this
 refine⟨fun d=>?_, ?_,fun i q hi hq=>?_,fun i j q r hij hq hr=>?_⟩
 ·rw[A52]
  simp only[Settle.sum,hto',hlam,Int.add_zero]
  have:=(hS d).trans ((h.s d).add (Q64.refl (if t+1≤d then Z.lam p else 0)))
  rwa [Int.add_assoc] at this
 ·rw[Am4]
  simp only[Settle.tot,hlam,Int.add_zero]
  have:=hT.trans (h.t.add (Q64.refl (Z.lam p)))
  rwa [Int.add_assoc] at this
 ·rw[List.length_append,List.length_singleton] at hi
  rcases Nat.lt_or_ge i l.length with hlt|hge
  ·rw[List.getElem?_append_left hlt] at hq
   obtain⟨q',h1,h2⟩:=h.p i q hlt hq
   refine⟨q', ?_,h2⟩
   rw[Z4 (by omega),Z.per_at _ (Z.bal S) _ _ (hbal _ ?_)]
   ·exact h1
   ·have:=ht q (List.mem_of_getElem? hq);omega
  ·have:i=l.length:=by omega
   subst this
   rw[List.getElem?_append_right (Nat.le_refl _),Nat.sub_self] at hq
   simp at hq
   subst hq
   refine⟨p, ?_,hs⟩
   rw[Z4 (Nat.le_refl _),hto',Z.per_at _ (Z.bal S) _ _ (hbal t (Int.le_refl _))]
   exact hp
 ·rcases Nat.lt_or_ge j l.length with hlt|hge
  ·rw[List.getElem?_append_left (by omega)] at hq
   rw[List.getElem?_append_left hlt] at hr
   exact h.up i j q r hij hq hr
  ·have hj:j=l.length:=by
    have:=(List.getElem?_eq_some_iff.1 hr).1
    rw[List.length_append,List.length_singleton] at this
    omega
   subst hj
   rw[List.getElem?_append_right (Nat.le_refl _),Nat.sub_self] at hr
   simp at hr
   subst hr
   rw[List.getElem?_append_left (by omega)] at hq
   rw[hto']
   exact ht q (List.mem_of_getElem? hq)
theorem Acz{S S' X X':Int→Int}{T T' Y Y':Int}{l:List P}{v e:Int}{m:Nat}(h:Z.Inv l.length S X T Y l)(hm:∀ i q,i<m→l[i]?=some q→Z.to q<v)
  (hS:∀ d,Q64 (S' d) (S d+(if v≤d then e else 0))) (hX:∀ d,Q64 (X' d) (X d+(if v≤d then e else 0))) (hT:Q64 T' (T+e)) (hY:Q64 Y' (Y+e)):Z.Inv m S' X' T' Y' l:=by
 refine⟨fun d=>?_, ?_,fun i q hi hq=>?_,h.up⟩
 ·have a:=hS d
  have b:=hX d
  have c:=h.s d
  generalize (if v≤d then e else 0)=y at *
  generalize Z.sum l d=s at *
  unfold Q64 at *
  omega
 ·have c:=h.t
  generalize Z.tot l=s at *
  unfold Q64 at *
  omega
 ·have hlt:i<l.length:=(List.getElem?_eq_some_iff.1 hq).1
  obtain⟨q',h1,h2⟩:=h.p i q hlt hq
  refine⟨q', ?_,h2⟩
  rw[Z.per_at _ (Z.bal S) _ _ (U6 fun d hd=>?_)]
  ·exact h1
  ·have:=hS d
   have hv:=hm i q hi hq
   rwa [if_neg (by omega),Int.add_zero] at this
theorem Ajx{S S' X:Int→Int}{T T' Y:Int}{l:List P}{old p p':P}{m:Nat}(h:Z.Inv m S X T Y l)(ho:l[m]?=some old)(hp:Z.per (Z.bal S) (C3 l m) (Z.to old)=some p)(hs:Z.same p p')
  (hS:∀ d,Q64 (S' d) (S d+(if Z.to old+1≤d then Z.lam p-Z.lam old else 0))) (hT:Q64 T' (T+(Z.lam p-Z.lam old))):Z.Inv (m+1) S' X T' Y (l.set m p'):=by
 have hto:=Z.per_to _ _ _ _ hp
 have hto':Z.to p'=Z.to old:=by rw[← Z.same_to _ _ hs,hto]
 have hlam:Z.lam p'=Z.lam p:=(Z.same_lam _ _ hs).symm
 have hml:m<l.length:=(List.getElem?_eq_some_iff.1 ho).1
 have hbal:∀ t',t'≤Z.to old→∀ d,d≤t'→Z.bal S' d=Z.bal S d:=fun t' h'=>U6 fun d hd=>by
  have:=hS d
  rw[if_neg (by omega),Int.add_zero] at this
  exact this
 refine⟨fun d=>?_, ?_,fun i q hi hq=>?_,fun i j q r hij hq hr=>?_⟩
 ·rw[Am1 l d m old p' ho hto',hlam]
  have:=(hS d).trans ((h.s d).add (Q64.refl (if Z.to old+1≤d then Z.lam p-Z.lam old else 0)))
  rwa [Int.add_assoc] at this
 ·rw[Am5 l m old p' ho,hlam]
  have:=hT.trans (h.t.add (Q64.refl (Z.lam p-Z.lam old)))
  rwa [Int.add_assoc] at this
 ·rw[Aft (by omega)]
  rcases Nat.lt_or_ge i m with hlt|hge
  ·rw[List.getElem?_set_ne (by omega)] at hq
   obtain⟨q',h1,h2⟩:=h.p i q hlt hq
   refine⟨q', ?_,h2⟩
   have:=h.up i m q old hlt hq ho
   rw[Z.per_at _ (Z.bal S) _ _ (hbal _ (by omega))]
   exact h1
  ·have:i=m:=by omega
   subst this
   rw[List.getElem?_set_self hml] at hq
   cases hq
   refine⟨p, ?_,hs⟩
   rw[hto',Z.per_at _ (Z.bal S) _ _ (hbal _ (Int.le_refl _))]
   exact hp
 ·have key:∀ (k:Nat) x,(l.set m p')[k]?=some x→∃ y,l[k]?=some y∧Z.to y=Z.to x:=by
   intro k x hx
   by_cases hk:m=k
   ·subst hk
    rw[List.getElem?_set_self hml] at hx
    cases hx
    exact⟨old,ho,hto'.symm⟩
   ·rw[List.getElem?_set_ne hk] at hx
    exact⟨x,hx,rfl⟩
  obtain⟨a,ha,ha'⟩:=key i q hq
  obtain⟨b,hb,hb'⟩:=key j r hr
  rw[← ha',← hb']
  exact h.up i j a b hij ha hb
theorem Zg:∀ (l k:List P) (d:Int),l.length=k.length→(∀ (i:Nat) p q,l[i]?=some p→k[i]?=some q→Z.same p q)→Z.sum l d=Z.sum k d
 | [],[],d,_,_=>rfl
 | [],_ :: _,_,h,_=>by simp at h
 | _ :: _,[],_,h,_=>by simp at h
 | p :: l,q :: k,d,h,hs=>by
  have h0:=hs 0 p q rfl rfl
  simp only[Settle.sum]
  rw[Z.same_to _ _ h0,Z.same_lam _ _ h0,Zg l k d (by simpa using h) fun i a b ha hb=>hs (i+1) a b (by simpa using ha) (by simpa using hb)]
theorem Zo:∀ (l k:List P),l.length=k.length→(∀ (i:Nat) p q,l[i]?=some p→k[i]?=some q→Z.same p q)→Z.tot l=Z.tot k
 | [],[],_,_=>rfl
 | [],_ :: _,h,_=>by simp at h
 | _ :: _,[],h,_=>by simp at h
 | p :: l,q :: k,h,hs=>by
  have h0:=hs 0 p q rfl rfl
  simp only[Settle.tot]
  rw[Z.same_lam _ _ h0,Zo l k (by simpa using h) fun i a b ha hb=>hs (i+1) a b (by simpa using ha) (by simpa using hb)]
theorem Zh(l:List P)(i:Nat)(t:Int)(h:∀ (j:Nat) q,i≤j→l[j]?=some q→t≤Z.to q)(d:Int)(hd:d≤t):Z.sum l d=Z.sum (l.take i) d:=by
 have e:Z.sum l d=Z.sum (l.take i) d+Z.sum (l.drop i) d:=by rw[← A52,List.take_append_drop]
 have hz:∀ k:List P,(∀ q∈k,t≤Z.to q)→Z.sum k d=0:=by
  intro k
  induction k with
  | nil=>intro _;rfl
  | cons q k ih =>
   intro hk
   have:=hk q List.mem_cons_self
   simp only[Settle.sum]
   rw[if_neg (by omega),ih fun q hq=>hk q (List.mem_cons_of_mem _ hq)]
   rfl
 rw[e,hz (l.drop i) fun q hq=>?_,Int.add_zero]
 obtain⟨j,hj⟩:=List.mem_iff_getElem?.1 hq
 rw[List.getElem?_drop] at hj
 exact h _ _ (by omega) hj
theorem Ad0{S S' X X':Int→Int}{T T' Y Y':Int}{l k:List P}(h:Z.Inv l.length S X T Y l)(h':Z.Inv k.length S' X' T' Y' k)(hX:∀ d,Q64 (X d) (X' d))(hto:l.map Z.to=k.map Z.to) :
  ∀ (i:Nat) p q,l[i]?=some p→k[i]?=some q→Z.same p q:=by
 have hlen:l.length=k.length:=by have:=congrArg List.length hto;simpa using this
 have tos:∀ (i:Nat) p q,l[i]?=some p→k[i]?=some q→Z.to p=Z.to q:=by
  intro i p q hp hq
  have:=congrArg (fun x:List Int=>x[i]?) hto
  simp only[List.getElem?_map,hp,hq,Option.map_some,Option.some.injEq] at this
  exact this
 intro i
 induction i using Nat.strongRecOn with
 | ind i ih =>
  intro p q hp hq
  have hil:=(List.getElem?_eq_some_iff.1 hp).1
  have hik:=(List.getElem?_eq_some_iff.1 hq).1
  obtain⟨p',a1,a2⟩:=h.p i p hil hp
  obtain⟨q',b1,b2⟩:=h'.p i q hik hq
  have ht:=tos i p q hp hq
  have hS:∀ d,d≤Z.to p→Q64 (S d) (S' d):=by
   intro d hd
   have e1:=h.s d
   have e2:=h'.s d
   rw [Zh l i (Z.to p) (fun j r hj hr=>by
    rcases Nat.lt_or_ge i j with hlt|hge
    ·have:=h.up i j p r hlt hp hr;omega
    ·have:i=j:=by omega
     subst this
     rw[hp] at hr;cases hr;omega) d hd] at e1
   rw [Zh k i (Z.to q) (fun j r hj hr=>by
    rcases Nat.lt_or_ge i j with hlt|hge
    ·have:=h'.up i j q r hlt hq hr;omega
    ·have:i=j:=by omega
     subst this
     rw[hq] at hr;cases hr;omega) d (by omega)] at e2
   have e3:Z.sum (l.take i) d=Z.sum (k.take i) d:=by
    refine Zg _ _ d (by simp [hlen]) fun j a b ha hb=>?_
    have hji:j<i:=by
     have:=(List.getElem?_eq_some_iff.1 ha).1
     rw[List.length_take] at this
     omega
    rw[List.getElem?_take_of_lt hji] at ha hb
    exact ih j hji a b ha hb
   rw[e3] at e1
   have e4:=hX d
   generalize Z.sum (k.take i) d=s at *
   unfold Q64 at *
   omega
  have hprev:Z.per (Z.bal S) (C3 l i) (Z.to p)=Z.per (Z.bal S') (C3 k i) (Z.to q):=by
   rw[Z.per_at _ _ _ _ (U6 hS),← ht]
   cases i with
   | zero=>rfl
   | succ i =>
    simp only[C3]
    have h1:l[i]?=some l[i]:=List.getElem?_eq_getElem (by omega)
    have h2:k[i]?=some k[i]:=List.getElem?_eq_getElem (by omega)
    rw[h1,h2]
    exact Z.per_same _ _ _ _ (ih i (by omega) _ _ h1 h2)
  rw[a1,b1] at hprev
  cases hprev
  exact Z.same_trans _ _ _ (Z.same_symm _ _ a2) b2
theorem A7d{S S' X X':Int→Int}{T T' Y Y':Int}{l k:List P}{m n:Nat}(h:Z.Inv m S X T Y l)(h':Z.Inv n S' X' T' Y' k)(hY:Q64 Y Y')(hlen:l.length=k.length)(hs:∀ (i:Nat) p q,l[i]?=some p→k[i]?=some q→Z.same p q):Q64 T T':=by
 have e1:=h.t
 have e2:=h'.t
 rw[Zo l k hlen hs] at e1
 generalize Z.tot k=s at *
 unfold Q64 at *
 omega
end
end Go.Proofs.YtbhffbgbhgjdiaaGreatDoor
namespace Go.Proofs.YtbhffbgbhgjdiaaGreatDoor
open Go.RowKit
set_option maxRecDepth 100000
theorem Ant:wrap64 0=0:=by unfold wrap64;omega
inductive F2 {α β:Type} (R:α→β→Prop):List α→List β→Prop
 | nil:F2 R [] []
 | cons {a b l k} (h:R a b) (t:F2 R l k):F2 R (a :: l) (b :: k)
def As(id:Int):List LegV→Int
 | []=>0
 | x :: l=>(if x.account=id then x.amount else 0)+As id l
def B6(D V id:Int):List EntV→Int
 | []=>0
 | e :: l=>(if e.booked≤D∧e.value≤V then As id e.legs else 0)+B6 D V id l
def Aj(id:Int):List EntV→Int
 | []=>0
 | e :: l=>As id e.legs+Aj id l
def JR(e:EntV)(x:JE):Prop:=x.n1=e.booked∧x.n2=e.value∧x.legs=e.legs.map fun l=>(l.account,l.amount,l.cur)
theorem Zw(a b:Int):wrap64 (wrap64 (-a)-b)=wrap64 (-(a+b)):=by unfold wrap64;omega
theorem Tc(l:List (JE×Int)):A2q l=wrap64 (-(l.map (·.2)).sum):=by
 unfold A2q
 have:∀ (l:List (JE×Int)) (a:Int),l.foldl (fun s x=>wrap64 (s-x.2)) (wrap64 (-a))=wrap64 (-(a+(l.map (·.2)).sum)):=by
  intro l
  induction l with
  | nil=>intro a;simp
  | cons x l ih=>intro a;rw[List.foldl_cons,Zw,ih,List.map_cons,List.sum_cons,Int.add_assoc]
 have:=this l 0
 simpa [Ant] using this
def Uk(D V:Int)(l:List (JE×Int)):Int:=(l.map fun x=>if x.1.n1≤D∧x.1.n2≤V then x.2 else 0).sum
theorem Td(D V:Int)(l:List (JE×Int)):Kd D V l=wrap64 (-(Uk D V l)):=by
 unfold Kd Uk
 have:∀ (l:List (JE×Int)) (a:Int),l.foldl (fun s x=>if x.1.n1≤D∧x.1.n2≤V then wrap64 (s-x.2) else s) (wrap64 (-a))=wrap64 (-(a+(l.map fun x=>if x.1.n1≤D∧x.1.n2≤V then x.2 else 0).sum)):=by
  intro l
  induction l with
  | nil=>intro a;simp
  | cons x l ih =>
   intro a
   rw[List.foldl_cons,List.map_cons,List.sum_cons]
   by_cases h:x.1.n1≤D∧x.1.n2≤V
   ·rw[if_pos h,if_pos h,Zw,ih,Int.add_assoc]
   ·rw[if_neg h,if_neg h,ih,Int.zero_add]
 have:=this l 0
 simpa [Ant] using this
theorem Auy(id:Int)(x:JE)(l:List LegV):((yl id x (l.map fun l=>(l.account,l.amount,l.cur))).map (·.2)).sum=As id l:=by
 induction l with
 | nil=>rfl
 | cons y l ih =>
  simp only[List.map_cons,yl,As,List.map_append,List.sum_append,ih]
  split<;>simp
theorem Aml(D V id:Int)(x:JE)(l:List LegV):Uk D V (yl id x (l.map fun l=>(l.account,l.amount,l.cur)))=if x.n1≤D∧x.n2≤V then As id l else 0:=by
 unfold Uk
 induction l with
 | nil=>simp [yl,As]
 | cons y l ih =>
  simp only[List.map_cons,yl,As,List.map_append,List.sum_append,ih]
  by_cases h1:x.n1≤D∧x.n2≤V<;>by_cases h2:y.account=id<;>simp [h1,h2]
theorem Ahe(id:Int):∀ (j:List EntV) (js:List JE),F2 JR j js→((ysJ id js).map (·.2)).sum=Aj id j:=by
 intro j js h
 induction h with
 | nil=>rfl
 | cons h _ ih =>
  simp only[ysJ,List.map_append,List.sum_append,Aj,ih]
  rw[h.2.2,Auy]
theorem A5d(D V id:Int):∀ (j:List EntV) (js:List JE),F2 JR j js→Uk D V (ysJ id js)=B6 D V id j:=by
 intro j js h
 induction h with
 | nil=>rfl
 | @cons e x _ _ h _ ih =>
  have h3:=Aml D V id x e.legs
  rw[← h.2.2,h.1,h.2.1] at h3
  have:∀ a b:List (JE×Int),Uk D V (a++b)=Uk D V a+Uk D V b:=fun a b=>by simp [Uk]
  simp only[ysJ,B6,this,ih,h3]
theorem Ars{φ:Phi}{M:Nat→Prop}{w:World}{e:EntV}{b:List Value}{B o:Nat}(h:RepL φ M w (Al e) b)(hc:∀ (i:Nat) u,b[i]?=some u→w.cell? ⟨B,o+i,none⟩=some u) :
  ∃ x:JE,JR e x∧EAt w.heap.size w B o x∧∀ m y,x.legs[m]?=some y→∃ b o,x.A=some ⟨b,o,none⟩∧b<w.heap.size∧LAt w b (o+m*3) y:=by
 unfold Al at h
 obtain⟨v0,k0,r0⟩:=h.get (j:=0) rfl
 obtain⟨v1,k1,r1⟩:=h.get (j:=1) rfl
 obtain⟨v2,k2,r2⟩:=h.get (j:=2) rfl
 obtain⟨v3,k3,r3⟩:=h.get (j:=3) rfl
 obtain⟨v4,k4,r4⟩:=h.get (j:=4) rfl
 obtain⟨v5,k5,r5⟩:=h.get (j:=5) rfl
 obtain⟨v6,k6,r6⟩:=h.get (j:=6) rfl
 obtain⟨v7,k7,r7⟩:=h.get (j:=7) rfl
 obtain⟨v8,k8,r8⟩:=h.get (j:=8) rfl
 obtain⟨v9,k9,r9⟩:=h.get (j:=9) rfl
 simp only[Rep] at r0 r1 r2 r3 r4 r5 r6 r7 r8 r9
 obtain⟨rfl,_⟩:=r0
 obtain⟨rfl,_⟩:=r1
 obtain⟨rfl,_⟩:=r2
 obtain⟨rfl,_⟩:=r3
 obtain⟨rfl,_⟩:=r4
 obtain⟨rfl,_⟩:=r5
 obtain⟨rfl,_⟩:=r6
 obtain⟨rfl,_⟩:=r7
 obtain⟨rfl,_⟩:=r9
 obtain⟨A2,c2,rfl,_,_,_,hq⟩:=r8
 have hl:(Ac e.legs).length=(e.legs.map fun l=>(l.account,l.amount,l.cur)).length:=by rw[B9,List.length_map]
 refine⟨⟨e.id,e.booked,e.value,e.kind,e.auth,e.period,e.key,e.text,A2,c2,e.chain,e.legs.map fun l=>(l.account,l.amount,l.cur)⟩,⟨rfl,rfl,rfl⟩,⟨hc 0 _ k0,hc 1 _ k1,hc 2 _ k2,hc 3 _ k3,hc 4 _ k4,hc 5 _ k5,hc 6 _ k6,hc 7 _ k7,by rw[hc 8 _ k8,hl],hc 9 _ k9⟩, ?_⟩
 intro m y hy
 rw[List.getElem?_map] at hy
 obtain⟨l,hl1,rfl⟩:=Option.map_eq_some_iff.1 hy
 have hg:=Bq hl1
 have hne:Ac e.legs≠[]:=by intro h0;rw[h0] at hg;cases hg
 obtain⟨b2,o2,sz,vs,rfl,_,hb2,hat,hr⟩:=hq hne
 obtain⟨p,q,s,rfl,hp,hs,_,hR,_,_⟩:=hr.get hg
 have h3:=hR.len
 obtain⟨w0,t0,u0⟩:=hR.get (j:=0) rfl
 obtain⟨w1,t1,u1⟩:=hR.get (j:=1) rfl
 obtain⟨w2,t2,u2⟩:=hR.get (j:=2) rfl
 simp only[Rep] at u0 u1 u2
 obtain⟨rfl,_⟩:=u0
 obtain⟨rfl,_⟩:=u1
 obtain⟨rfl,_⟩:=u2
 have hsz:sz=3:=by rw[← hs,h3];rfl
 subst hsz
 have hc2:∀ (i:Nat) u,q[i]?=some u→w.cell? ⟨b2,o2+m*3+i,none⟩=some u:=fun i u hu=>by
  have hi:=(List.getElem?_eq_some_iff.1 hu).1
  have:=hat (m*3+i) u (by rw[List.getElem?_append_left (by rw[List.length_append];omega),List.getElem?_append_right (by omega),hp,Nat.add_sub_cancel_left];exact hu)
  rwa [← Nat.add_assoc] at this
 exact⟨b2,o2,rfl,hb2,hc2 0 _ t0,hc2 1 _ t1,hc2 2 _ t2⟩
theorem Pw{α β:Type}{R:α→β→Prop}:∀ (l:List α) (f:Nat→β) (n:Nat),(∀ k a,l[k]?=some a→R a (f (n+k)))→F2 R l ((List.range l.length).map fun k=>f (n+k))
 | [],_,_,_=>.nil
 | a :: l,f,n,h=>by
  rw[List.length_cons,List.range_succ_eq_map,List.map_cons,List.map_map]
  refine .cons (by simpa using h 0 a rfl) ?_
  have:=Pw l f (n+1) fun k b hb=>by have:=h (k+1) b (by simpa using hb);rwa [show n+1+k=n+(k+1) by omega]
  have e:((fun k=>f (n+k)) ∘ Nat.succ)=fun k=>f (n+1+k):=by funext k;simp only[Function.comp];congr 1;omega
  rw[e]
  exact this
theorem Ag3{φ:Phi}{M:Nat→Prop}{w:World}{j:List EntV}{v:Value}(hm:Sz j.length)(h:Rep φ M w (.sl (Ab j)) v):∃ A c js,v=.slice A js.length c∧js.length=j.length∧F2 JR j js∧JMem w.heap.size w A js:=by
 simp only[Rep] at h
 obtain⟨A,c,rfl,hlc,hcm,_,hq⟩:=h
 rw[Bt] at *
 cases hj:j with
 | nil =>
  subst hj
  exact⟨A,c,[],rfl,rfl,.nil,⟨(fun k x hx=>by cases hx),(fun x hx=>by cases hx)⟩⟩
 | cons e0 l0 =>
  have hne:Ab j≠[]:=by rw[hj];simp [Ab]
  obtain⟨b,o,sz,vs,hA,_,hb,hat,hr⟩:=hq hne
  rw[← hj]
  clear hj
  have H:∀ k,∃ x:JE,∀ e,j[k]?=some e→JR e x∧EAt w.heap.size w b (o+k*10) x∧∀ m y,x.legs[m]?=some y→∃ b o,x.A=some ⟨b,o,none⟩∧b<w.heap.size∧LAt w b (o+m*3) y:=by
   intro k
   cases hk:j[k]? with
   | none=>exact⟨⟨0,0,0,0,0,0,.empty,.empty,none,0,0,[]⟩,fun e he=>by cases he⟩
   | some e =>
    obtain⟨p,q,s,rfl,hp,hs,_,hR,_,_⟩:=hr.get (Ch hk)
    have h10:=hR.len
    have hsz:sz=10:=by rw[← hs,h10];rfl
    subst hsz
    obtain⟨x,h1,h2,h3⟩:=Ars (B:=b) (o:=o+k*10) hR fun i u hu=>by
     have hi:=(List.getElem?_eq_some_iff.1 hu).1
     have:=hat (k*10+i) u (by rw[List.getElem?_append_left (by rw[List.length_append];omega),List.getElem?_append_right (by omega),hp,Nat.add_sub_cancel_left];exact hu)
     rwa [← Nat.add_assoc] at this
    exact⟨x,fun e' he'=>by cases he';exact⟨h1,h2,h3⟩⟩
  obtain⟨f,hf⟩:=Classical.axiomOfChoice H
  have hlen:((List.range j.length).map f).length=j.length:=by simp
  have hget:∀ k x,((List.range j.length).map f)[k]?=some x→∃ e,j[k]?=some e∧x=f k:=fun k x hx=>by
   have hk:=(List.getElem?_eq_some_iff.1 hx).1
   rw[hlen] at hk
   rw[List.getElem?_map,List.getElem?_range hk] at hx
   exact⟨j[k],List.getElem?_eq_getElem hk,by simpa using hx.symm⟩
  refine⟨A,c,(List.range j.length).map f,by rw[hlen],hlen, ?_, ?_, ?_⟩
  ·have:=Pw (R:=JR) j f 0 fun k e he=>by rw[Nat.zero_add];exact (hf k e he).1
   simpa using this
  ·intro k x hx
   obtain⟨e,he,rfl⟩:=hget k x hx
   exact⟨b,o,hA,hb,(hf k e he).2.1⟩
  ·intro x hx m y hy
   obtain⟨k,hk⟩:=List.getElem?_of_mem hx
   obtain⟨e,he,rfl⟩:=hget k x hk
   exact (hf k e he).2.2 m y hy
theorem O8{j:List EntV}{js:List JE}(h:F2 JR j js)(hl:∀ e∈j,Sz e.legs.length):∀ x∈js,x.legs.length≤140737488355328:=by
 induction h with
 | nil=>intro x hx;cases hx
 | cons h _ ih =>
  intro x hx
  rcases List.mem_cons.1 hx with rfl|hx
  ·rw[h.2.2,List.length_map];exact hl _ (List.mem_cons_self ..)
  ·exact ih (fun e he=>hl e (List.mem_cons_of_mem _ he)) x hx
theorem A0f(j:List EntV)(hm:Sz j.length)(hl:∀ e∈j,Sz e.legs.length)(id:Int):Cn 11 [.sl (Ab j),gI id] (.val (.ex (.int .i64 (wrap64 (-(Aj id j)))))):=by
 refine⟨⟨_,Tryz.func11,rfl,rfl⟩,fun M w args _ hC ha=>?_⟩
 obtain⟨v,g1,h1⟩:=ha.get (j:=0) rfl
 obtain⟨v2,g2,h2⟩:=ha.get (j:=1) rfl
 have hlen:=ha.len
 obtain⟨u1,u2,rfl⟩:∃ u1 u2,args=[u1,u2]:=by
  match args,hlen with
  | [u1,u2],_=>exact⟨u1,u2,rfl⟩
 cases g1
 cases g2
 simp only[Rep] at h2
 obtain⟨rfl,_⟩:=h2
 obtain⟨A,c,js,rfl,hjl,hF,hM⟩:=Ag3 hm h1
 unfold Sz at hm
 refine ((callsIn_wide (n:=6)).1 (Amr Fence.wide 6 trivial trivial trivial rfl (by omega) A c id js w (by omega) (O8 hF hl) hM)).mono ?_
 rintro e w' ⟨rfl,hbe⟩
 exact⟨_,rfl,by simp only[Rep];exact⟨by rw[Tc,Ahe id j js hF],rfl⟩,hbe⟩
theorem A9m(j:List EntV)(hm:Sz j.length)(hl:∀ e∈j,Sz e.legs.length)(id D V:Int):Cn 209 [.sl (Ab j),gI id,gI D,gI V] (.val (.ex (.int .i64 (wrap64 (-(B6 D V id j)))))):=by
 refine⟨⟨_,Tryz.func209,rfl,rfl⟩,fun M w args _ hC ha=>?_⟩
 obtain⟨v,g1,h1⟩:=ha.get (j:=0) rfl
 obtain⟨v2,g2,h2⟩:=ha.get (j:=1) rfl
 obtain⟨v3,g3,h3⟩:=ha.get (j:=2) rfl
 obtain⟨v4,g4,h4⟩:=ha.get (j:=3) rfl
 have hlen:=ha.len
 obtain⟨u1,u2,u3,u4,rfl⟩:∃ u1 u2 u3 u4,args=[u1,u2,u3,u4]:=by
  match args,hlen with
  | [u1,u2,u3,u4],_=>exact⟨u1,u2,u3,u4,rfl⟩
 cases g1
 cases g2
 cases g3
 cases g4
 simp only[Rep] at h2 h3 h4
 obtain⟨rfl,_⟩:=h2
 obtain⟨rfl,_⟩:=h3
 obtain⟨rfl,_⟩:=h4
 obtain⟨A,c,js,rfl,hjl,hF,hM⟩:=Ag3 hm h1
 unfold Sz at hm
 refine ((callsIn_wide (n:=6)).1 (Amn Fence.wide 6 trivial trivial trivial rfl (by omega) A c id D V js w (by omega) (O8 hF hl) hM)).mono ?_
 rintro e w' ⟨rfl,hbe⟩
 exact⟨_,rfl,by simp only[Rep];exact⟨by rw[Td,A5d D V id j js hF],rfl⟩,hbe⟩
def Mp(id:Int)(x:LegV):Int:=if x.account=id then x.amount else 0
theorem Cq(id:Int)(x:LegV)(l:List LegV):As id (x :: l)=Mp id x+As id l:=rfl
theorem Q3(id:Int)(l k:List LegV):As id (l++k)=As id l+As id k:=by
 induction l with
 | nil=>simp [As]
 | cons x l ih=>simp only[List.cons_append,Cq,ih];omega
theorem Q5(id:Int)(y:LegV):∀ (l:List LegV) (i:Nat) (m:LegV),l[i]?=some m→As id (l.set i y)=As id l+(Mp id y-Mp id m)
 | [],i,m,h=>by simp at h
 | x :: l,0,m,h=>by
  simp at h;subst h
  simp only[List.set_cons_zero,Cq];omega
 | x :: l,i+1,m,h=>by
  simp at h
  simp only[List.set_cons_succ,Cq,Q5 id y l i m h];omega
theorem Ah6(n:Int):Q64 (IntKind.i64.wrap n) n:=by
 rw[IntKind.wrap_i64];unfold Q64;omega
theorem Yi(id:Int)(l:List LegV)(x:LegV):Q64 (As id (F0 l x)) (As id l+Mp id x):=by
 unfold F0
 split
 ·rename_i hb
  obtain⟨m,hm,h1,_⟩:=V4 hb
  rw[Q5 id _ l _ m hm,hm]
  simp only[Option.map_some,Option.getD_some]
  unfold Mp
  dsimp only
  rw[h1]
  have:=Ah6 (m.amount+x.amount)
  by_cases h:x.account=id
  ·simp only[if_pos h]
   unfold Q64 at *
   omega
  ·simp only[if_neg h]
   unfold Q64 at *
   omega
 ·rw[Q3,Cq]
  have:As id l=As id (l.take (lI l x))+As id (l.drop (lI l x)):=by rw[← Q3,List.take_append_drop]
  unfold Q64
  omega
theorem Nh(id:Int):∀ (l o:List LegV),Q64 (As id (l.foldl F0 o)) (As id o+As id l)
 | [],o=>by simp only[List.foldl_nil,As,Int.add_zero];exact Q64.refl _
 | x :: l,o=>by
  rw[List.foldl_cons]
  have h1:=Nh id l (F0 o x)
  have h2:=Yi id o x
  rw[Cq]
  unfold Q64 at *
  omega
theorem Ss(id:Int):∀ (l:List LegV),As id (l.filter nzL)=As id l
 | []=>rfl
 | x :: l=>by
  have ih:=Ss id l
  rw[List.filter_cons]
  split
  ·rw[Cq,Cq,ih]
  ·rename_i h
   have:x.amount=0:=by unfold nzL at h;simpa using h
   rw[Cq,ih]
   unfold Mp
   split<;>omega
theorem Q4(id:Int)(l:List LegV):Q64 (As id (Jm l)) (As id l):=by
 unfold Jm Dz
 rw[Ss]
 have:=Nh id l []
 simpa [As] using this
def Kj(x:LegV):Prop:=(I64 x.account∧I64 x.amount)∧Sz x.cur.size
theorem Ls(n:Int):I64 (IntKind.i64.wrap n):=by rw[IntKind.wrap_i64];unfold I64;omega
theorem Ahq{l:List LegV}{x:LegV}(h:∀ y∈l,Kj y)(hx:Kj x):∀ y∈F0 l x,Kj y:=by
 unfold F0
 split
 ·intro y hy
  rcases List.mem_or_eq_of_mem_set hy with h1|rfl
  ·exact h y h1
  ·exact⟨⟨hx.1.1,Ls _⟩,hx.2⟩
 ·intro y hy
  rcases List.mem_append.1 hy with h1|h1
  ·exact h y (List.mem_of_mem_take h1)
  ·rcases List.mem_cons.1 h1 with rfl|h1
   ·exact hx
   ·exact h y (List.mem_of_mem_drop h1)
theorem A44:∀ (l o:List LegV),(∀ y∈o,Kj y)→(∀ y∈l,Kj y)→∀ y∈l.foldl F0 o,Kj y
 | [],_,h,_=>h
 | x :: l,o,h,k=>A44 l (F0 o x) (Ahq h (k x (List.mem_cons_self ..))) fun y hy=>k y (List.mem_cons_of_mem _ hy)
theorem Ar2{l:List LegV}(h:∀ y∈l,Kj y):∀ y∈Jm l,Kj y:=fun y hy=>A44 l [] (fun _ h=>by cases h) h y (List.mem_filter.1 hy).1
theorem Yn(D V id:Int)(j k:List EntV):B6 D V id (j++k)=B6 D V id j+B6 D V id k:=by
 induction j with
 | nil=>simp [B6]
 | cons e j ih=>simp only[List.cons_append,B6,ih];omega
theorem V9(id:Int)(j k:List EntV):Aj id (j++k)=Aj id j+Aj id k:=by
 induction j with
 | nil=>simp [Aj]
 | cons e j ih=>simp only[List.cons_append,Aj,ih];omega
theorem Hp(D V id:Int)(j:List EntV)(e:EntV)(n:Nat)(c:Int)(hD:e.booked≤D):B6 D V id (j++[Co e n c])=B6 D V id j+if e.value≤V then As id e.legs else 0:=by
 rw[Yn]
 show _+((if e.booked≤D∧e.value≤V then As id e.legs else 0)+0)=_
 by_cases h:e.value≤V
 ·rw[if_pos ⟨hD,h⟩,if_pos h];omega
 ·rw[if_neg (fun k=>h k.2),if_neg h];omega
theorem Gn(id:Int)(j:List EntV)(e:EntV)(n:Nat)(c:Int):Aj id (j++[Co e n c])=Aj id j+As id e.legs:=by
 rw[V9]
 show _+(As id e.legs+0)=_
 omega
end Go.Proofs.YtbhffbgbhgjdiaaGreatDoor
