/-
  Parts of the proof: C19E C19F. Conditions: those that each theorem states.
-/
import Derived.Test.YtbhffbgbhgjdiaaGreatDoorM6
import Derived.Test.YtbhffbgbhgjdiaaGreatDoorM4
set_option linter.unusedSimpArgs false
set_option linter.unusedVariables false
namespace Go.Proofs.YtbhffbgbhgjdiaaGreatDoor
open Go.RowKit
set_option maxRecDepth 100000
theorem Yc{e:Nat}{es:List (List AV)}{us:List AV}:Sm e es us=⟨tmI (.own 0 :: us),upd hpI 0 (some ⟨e,es,true⟩),1⟩:=rfl
theorem Aj1{a b:Int}:Ky a b<0↔a<b:=by unfold Ky;split<;>(try split)<;>omega
theorem O3{a b:Int}:Ky a b=0↔a=b:=by unfold Ky;split<;>(try split)<;>omega
theorem Abi{a b:ByteArray}:Gx a b<0↔ltS a b=true:=by
 unfold Gx
 split
 ·rename_i h;simp [h]
 ·rename_i h
  split<;>simp [h]
theorem A6k{a b:ByteArray}:Gx a b=0↔a=b:=by
 unfold Gx
 split
 ·rename_i h
  refine⟨fun h=>by omega,fun e=>?_⟩
  subst e
  rw[A1z] at h;cases h
 ·split
  ·rename_i h;simp [h]
  ·rename_i h;simp [h]
theorem A3t{a b:LegV}:C8 a b<0↔a.account<b.account∨(a.account=b.account∧ltS a.cur b.cur=true):=by
 unfold C8 orI
 split
 ·rename_i h
  rw[Abi]
  have:=O3.1 h
  constructor
  ·exact fun h=>.inr ⟨this,h⟩
  ·rintro (h|h)
   ·omega
   ·exact h.2
 ·rename_i h
  rw[Aj1]
  have:¬ a.account=b.account:=fun e=>h (O3.2 e)
  constructor
  ·exact .inl
  ·rintro (h|h)
   ·exact h
   ·exact absurd h.1 this
theorem A3s{a b:LegV}:C8 a b=0↔a.account=b.account∧a.cur=b.cur:=by
 unfold C8 orI
 split
 ·rename_i h
  rw[A6k]
  exact⟨fun e=>⟨O3.1 h,e⟩,fun e=>e.2⟩
 ·rename_i h
  exact⟨fun e=>absurd e h,fun e=>absurd (O3.2 e.1) h⟩
theorem Ph{a b c:LegV}(h1:C8 a b<0)(h2:C8 b c<0):C8 a c<0:=by
 rw[A3t] at *
 rcases h1 with h1|h1<;>rcases h2 with h2|h2
 ·exact .inl (by omega)
 ·exact .inl (by omega)
 ·exact .inl (by omega)
 ·exact .inr ⟨by omega,Mr h1.2 h2.2⟩
theorem A0x{a b:LegV}(h1:¬ C8 a b<0)(h2:¬ C8 a b=0):C8 b a<0:=by
 rw[A3t] at *
 rw[A3s] at h2
 rcases Int.lt_trichotomy a.account b.account with h|h|h
 ·exact absurd (.inl h) h1
 ·refine .inr ⟨h.symm,Sw ?_ fun e=>h2 ⟨h,e⟩⟩
  cases hh:ltS a.cur b.cur with
  | false=>rfl
  | true=>exact absurd (.inr ⟨h,hh⟩) h1
 ·exact .inl h
theorem A6j{a a' b:LegV}(h1:a.account=a'.account)(h2:a.cur=a'.cur):C8 a b=C8 a' b:=by unfold C8;rw[h1,h2]
theorem A0w{a b b':LegV}(h1:b.account=b'.account)(h2:b.cur=b'.cur):C8 a b=C8 a b':=by unfold C8;rw[h1,h2]
def SortL(l:List LegV):Prop:=∀ (i j:Nat) a b,i<j→l[i]?=some a→l[j]?=some b→C8 a b<0
theorem SortL.mono{l:List LegV}(h:SortL l)(x:LegV):A5m (fun m:LegV=>decide (C8 m x<0)) l:=fun i j a b hij ha hb hl=>by
 rw[decide_eq_true_eq] at *
 exact Ph (h i j a b hij ha hb) hl
def lI(l:List LegV)(x:LegV):Nat:=bsI (fun m:LegV=>decide (C8 m x<0)) l
def lB(l:List LegV)(x:LegV):Bool:=bsB (fun m:LegV=>decide (C8 m x<0)) (fun m=>decide (C8 m x=0)) l
def F0(l:List LegV)(x:LegV):List LegV :=
 if lB l x=true then l.set (lI l x) ⟨x.account,IntKind.i64.wrap ((l[lI l x]?.map LegV.amount).getD 0+x.amount),x.cur⟩
 else l.take (lI l x)++x :: l.drop (lI l x)
def Dz(l:List LegV):List LegV:=l.foldl F0 []
theorem Ae8(l:List LegV)(x:LegV):lI l x≤l.length:=by
 unfold lI bsI
 exact (List.takeWhile_sublist _).length_le
theorem V4{l:List LegV}{x:LegV}(h:lB l x=true):∃ m,l[lI l x]?=some m∧m.account=x.account∧m.cur=x.cur:=by
 unfold lB bsB at h
 split at h
 ·rename_i m hm
  exact⟨m,hm,A3s.1 (of_decide_eq_true h)⟩
 ·cases h
theorem Ae7{l:List LegV}{x:LegV}(h:lB l x=false):∀ m,l[lI l x]?=some m→C8 x m<0:=by
 intro m hm
 unfold lB bsB at h
 have hs:=O2 (lt:=fun m:LegV=>decide (C8 m x<0)) hm
 have hm':l[bsI (fun m:LegV=>decide (C8 m x<0)) l]?=some m:=hm
 rw[hm'] at h
 exact A0x (of_decide_eq_false hs) (of_decide_eq_false h)
theorem A5y{l:List LegV}(h:SortL l)(x:LegV):SortL (F0 l x):=by
 unfold F0
 split
 ·rename_i hb
  obtain⟨m,hm,hc1,hc2⟩:=V4 hb
  intro i j a b hij ha hb'
  have key:∀ (q:Nat) z,(l.set (lI l x) ⟨x.account,IntKind.i64.wrap ((l[lI l x]?.map LegV.amount).getD 0+x.amount),x.cur⟩)[q]?=some z→∃ z',l[q]?=some z'∧z'.account=z.account∧z'.cur=z.cur:=by
   intro q z hz
   rw[List.getElem?_set] at hz
   split at hz
   ·rename_i he
    subst he
    split at hz
    ·cases hz;exact⟨m,hm,hc1,hc2⟩
    ·cases hz
   ·exact⟨z,hz,rfl,rfl⟩
  obtain⟨a',ha',e1,e2⟩:=key i a ha
  obtain⟨b',hb',e3,e4⟩:=key j b hb'
  rw[← A6j e1 e2,← A0w e3 e4]
  exact h i j a' b' hij ha' hb'
 ·rename_i hb
  have hb:lB l x=false:=by simpa using hb
  have hle:=Ae8 l x
  have htl:(l.take (lI l x)).length=lI l x:=by rw[List.length_take];omega
  have key:∀ (q:Nat) z,(l.take (lI l x)++x :: l.drop (lI l x))[q]?=some z→(q<lI l x∧l[q]?=some z)∨(q=lI l x∧z=x)∨(lI l x<q∧l[q-1]?=some z):=by
   intro q z hz
   rcases Nat.lt_trichotomy q (lI l x) with h1|h1|h1
   ·rw[List.getElem?_append_left (by omega),List.getElem?_take,if_pos h1] at hz
    exact .inl ⟨h1,hz⟩
   ·rw[List.getElem?_append_right (by omega),htl,h1,Nat.sub_self] at hz
    simp at hz
    exact .inr (.inl ⟨h1,hz.symm⟩)
   ·rw[List.getElem?_append_right (by omega),htl] at hz
    obtain⟨r,hr⟩:∃ r,q-lI l x=r+1:=⟨q-lI l x-1,by omega⟩
    rw[hr,List.getElem?_cons_succ,List.getElem?_drop,show lI l x+r=q-1 by omega] at hz
    exact .inr (.inr ⟨h1,hz⟩)
  have lo:∀ (q:Nat) z,q<lI l x→l[q]?=some z→C8 z x<0:=fun q z hq hz=>of_decide_eq_true (A3n (lt:=fun m:LegV=>decide (C8 m x<0)) hq hz)
  have up:∀ (q:Nat) z,lI l x≤q→l[q]?=some z→C8 x z<0:=by
   intro q z hq hz
   have hlt:lI l x<l.length:=by have:=(List.getElem?_eq_some_iff.1 hz).1;omega
   have e1:l[lI l x]?=some l[lI l x]:=List.getElem?_eq_getElem hlt
   have h1:=Ae7 hb _ e1
   rcases Nat.lt_or_ge (lI l x) q with h2|h2
   ·exact Ph h1 (h _ _ _ _ h2 e1 hz)
   ·have:q=lI l x:=by omega
    subst this
    rw[e1] at hz
    rw[← Option.some.inj hz];exact h1
  intro i j a b hij ha hb'
  rcases key i a ha with⟨a1,a2⟩|⟨a1,a2⟩|⟨a1,a2⟩<;>rcases key j b hb' with⟨b1,b2⟩|⟨b1,b2⟩|⟨b1,b2⟩
  ·exact h i j a b hij a2 b2
  ·rw[b2];exact lo i a a1 a2
  ·exact h i (j-1) a b (by omega) a2 b2
  ·omega
  ·omega
  ·rw[a2];exact up (j-1) b (by omega) b2
  ·omega
  ·omega
  ·exact h (i-1) (j-1) a b (by omega) a2 b2
theorem Aa9(l:List LegV)(x:LegV):(F0 l x).length≤l.length+1:=by
 unfold F0
 split
 ·rw[List.length_set];omega
 ·have:=Ae8 l x
  rw[List.length_append,List.length_cons,List.length_take,List.length_drop];omega
theorem A6n{l:List LegV}{k:Nat}{x:LegV}(e:l[k]?=some x):Dz (l.take (k+1))=F0 (Dz (l.take k)) x:=by
 unfold Dz
 rw[List.take_add_one,e,List.foldl_append];rfl
theorem S6:∀ (l:List LegV) (o:List LegV),SortL o→SortL (l.foldl F0 o)
 | [],_,h=>h
 | x :: l,_,h=>S6 l _ (A5y h x)
theorem A0z(l:List LegV):SortL (Dz l):=S6 l [] (fun i j a b _ h=>by cases h)
theorem Xi:∀ (l:List LegV) (o:List LegV),(l.foldl F0 o).length≤o.length+l.length
 | [],_=>Nat.le_refl _
 | x :: l,o=>by
  have h1:=Xi l (F0 o x)
  have h2:=Aa9 o x
  rw[List.foldl_cons,List.length_cons];omega
theorem Mi(l:List LegV):(Dz l).length≤l.length:=by have:=Xi l [];simpa [Dz] using this
theorem Ao5{l:List LegV}{x:LegV}{i:Nat}{m:LegV}(hb:lB l x=true)(hi:lI l x=i)(e:l[i]?=some m) :
  Ac (F0 l x)=(Ac l).set i [gI x.account,.ex (.int .i64 (IntKind.i64.wrap (m.amount+x.amount))),gS x.cur]:=by
 unfold F0
 rw[if_pos hb,hi,e,Ac,List.map_set];rfl
theorem Ao4{l:List LegV}{x:LegV}{i:Nat}(hb:lB l x=false)(hi:lI l x=i) :
  Ac (F0 l x)=(Ac l).take i++[gI x.account,gI x.amount,gS x.cur] :: (Ac l).drop i:=by
 unfold F0
 rw[if_neg (by rw[hb];simp),hi]
 unfold Ac
 rw[List.map_append,List.map_cons,List.map_take,List.map_drop];rfl
theorem Xj(l:List LegV)(hl:l.length≤1000):Nr Tryz.prog CtxP 127 103 [] [.sl (Ac l)] (Ac (Dz l)):=by
 refine S7 base Tryz.func127 rfl rfl (by kernel_rfl) (Nat.le_of_ble_eq_true rfl) (L9 _) ?_
 rw[Yc]
 have q1:=B9 l
 (repeat' (first|exact trivial|refine stR ?_|((first|refine stp ?_|refine A0 (fun h=>?_) ?_|(refine gw (fun h=>?_) (fun h=>?_)<;>(try (exfalso;omega))))<;>(try (refine wS ?_)))))
 refine A9 (fun n tm hp nx=>∃ (k b:Nat) (O:List LegV),n=l.length-k∧k≤l.length∧tm 9=.sl (Ac l)∧tm 10=gI l.length∧tm 11=gI k∧tm 0=.own b∧hp b=some ⟨103,Ac O,true⟩∧b<nx∧Hid (O=Dz (l.take k))) l.length ⟨0,_,[],rfl,Nat.zero_le _,by exact byS,by exact byS,by exact byS,by exact byS,by exact byQ,by omega,Lib.hid rfl⟩ ?_
 rintro n tm hp nx ⟨k,b,O,hn,hk,g8,g9,g10,g3,gh,hb,hO⟩
 by_cases hlt:k<l.length
 ·have e0:l[k]?=some l[k]:=List.getElem?_eq_getElem hlt
  generalize l[k]=x at e0
  have hs:SortL O:=hO.out▸A0z _
  have hOl:O.length≤k:=by rw[hO.out];have:=Mi (l.take k);rw[List.length_take] at this;omega
  have n1:Hid (F0 O x=Dz (l.take (k+1))):=Lib.hid (by rw[A6n e0,← hO.out])
  have q4:=Bq e0
  have hBS:=A5e O x (by omega) (hs.mono x)
  have hm1:=Ae8 O x
  have hml:=B9 O
  have f1:=Ew O
  have f3:=Fb O
  clear hs hO e0
  cases hmb:lB O x with
  | true =>
   obtain⟨m,em,hc,hc2⟩:=V4 hmb
   have hmt:=Ao5 hmb rfl em
   unfold lB at hmb
   rw[hmb] at hBS
   unfold lI at hmt em hm1
   generalize bsI (fun m:LegV=>decide (C8 m x<0)) O=i at hBS hmt em hm1
   have hil:i<O.length:=(List.getElem?_eq_some_iff.1 em).1
   have hA:=hmt.symm
   have q5:=Bq em
   rw[hc,hc2] at q5
   clear hmt em hmb hc hc2
   (repeat' (first|exact trivial|refine stR ?_|((first|refine cv (hBS) ?_|refine stp ?_|refine A0 (fun h=>?_) ?_|(refine gw (fun h=>?_) (fun h=>?_)<;>(try (exfalso;omega))))<;>(try (refine wS ?_)))))
   exact A3 (l.length-(k+1)) (by omega) ⟨k+1,b,F0 O x,rfl,by omega,by exact byS,by exact byS,by exact byS,by exact byS,by exact byS,by omega,n1⟩
  | false =>
   have hmt:=Ao4 hmb rfl
   unfold lB at hmb
   rw[hmb] at hBS
   unfold lI at hmt hm1
   generalize bsI (fun m:LegV=>decide (C8 m x<0)) O=i at hBS hmt hm1
   have hI:=Om (C:=CtxP) (es:=Ac O) (x:=[gI x.account,gI x.amount,gS x.cur]) (i:=i) (by omega) rfl (by omega)
   rw[← hmt] at hI
   have f4:=L9 (F0 O x)
   clear hmt hmb
   (repeat' (first|exact trivial|refine stR ?_|((first|refine cv (hBS) ?_|refine Ub (by exact byQ) rfl (by first|assumption|rfl) byA (by first|exact List.not_mem_nil|(simp only[List.mem_cons,List.not_mem_nil,or_false];omega)) (by first|assumption|rfl) (by first|assumption|rfl) (hI) ?_|refine stp ?_|refine A0 (fun h=>?_) ?_|(refine gw (fun h=>?_) (fun h=>?_)<;>(try (exfalso;omega))))<;>(try (refine wS ?_)))))
   exact A3 (l.length-(k+1)) (by omega) ⟨k+1,_,F0 O x,rfl,by omega,by exact byS,by exact byS,by exact byS,by exact byS,by exact byQ,by omega,n1⟩
 ·have hOe:O=Dz l:=by rw[hO.out,List.take_of_length_le (by omega)]
  subst hOe
  have f1:=Ew (Dz l)
  have f3:=Fb (Dz l)
  (repeat' (first|exact trivial|refine stR ?_|((first|refine stp ?_|refine A0 (fun h=>?_) ?_|(refine gw (fun h=>?_) (fun h=>?_)<;>(try (exfalso;omega))))<;>(try (refine wS ?_)))))
  all_goals simp only[sxd,z0,p0,Nat.reduceEqDiff,↓reduceIte,Tryz.f127, *]
def nzL(x:LegV):Bool:=!decide (x.amount=0)
def Eb:List LegV→Nat
 | []=>0
 | x :: l=>if x.amount=0 then 0 else Eb l+1
theorem A47:∀ (l:List LegV),Eb l≤l.length
 | []=>Nat.le_refl _
 | x :: l=>by unfold Eb;split<;>simp [A47 l]
theorem A46:∀ {l:List LegV} {k:Nat} {x:LegV},l[k]?=some x→(∀ (j:Nat) y,j<k→l[j]?=some y→¬ y.amount=0)→x.amount=0→Eb l=k
 | [],_,_,e,_,_=>by cases e
 | a :: l,0,x,e,_,h=>by cases e;unfold Eb;rw[if_pos h]
 | a :: l,k+1,x,e,h1,h=>by
  unfold Eb
  rw[if_neg (h1 0 a (by omega) rfl),A46 (l:=l) (k:=k) (by simpa using e) (fun j y hj hy=>h1 (j+1) y (by omega) (by simpa using hy)) h]
theorem Y9:∀ {l:List LegV},(∀ (j:Nat) y,l[j]?=some y→¬ y.amount=0)→Eb l=l.length
 | [],_=>rfl
 | a :: l,h=>by
  unfold Eb
  rw[if_neg (h 0 a rfl),Y9 (l:=l) fun j y hy=>h (j+1) y (by simpa using hy)];rfl
theorem Io:∀ {l:List LegV} {j:Nat} {y:LegV},j<Eb l→l[j]?=some y→¬ y.amount=0
 | [],_,_,h,_=>by simp [Eb] at h
 | a :: l,0,y,h,e=>by
  cases e
  intro h0
  unfold Eb at h
  rw[if_pos h0] at h;omega
 | a :: l,j+1,y,h,e=>by
  unfold Eb at h
  split at h
  ·omega
  ·exact Io (l:=l) (j:=j) (by omega) (by simpa using e)
theorem Ya:∀ {l:List LegV} {y:LegV},l[Eb l]?=some y→y.amount=0
 | [],_,e=>by cases e
 | a :: l,y,e=>by
  unfold Eb at e
  split at e
  ·cases e;assumption
  ·exact Ya (l:=l) (by simpa using e)
def Ux(l:List LegV):Int:=if Eb l<l.length then Eb l else -1
theorem Rd(l:List LegV)(hl:l.length≤1000000):Cn 178 [.sl (Ac l),.ex (.func (.func 129) #[] #[])] (.val (.ex (.int .i64 (Ux l)))):=by
 refine cvS Tryz.func178 ?_
 have q1:=B9 l
 (repeat' (first|exact trivial|refine stR ?_|((first|refine stp ?_|refine A0 (fun h=>?_) ?_|(refine gw (fun h=>?_) (fun h=>?_)<;>(try (exfalso;omega))))<;>(try (refine wS ?_)))))
 refine A9 (fun n tm hp nx=>∃ k:Nat,n=l.length-k∧k≤l.length∧tm 0=.sl (Ac l)∧tm 1=.ex (.func (.func 129) #[] #[])∧tm 7=gI l.length∧tm 8=gI k∧Hid (∀ (j:Nat) y,j<k→l[j]?=some y→¬ y.amount=0)) l.length ⟨0,rfl,Nat.zero_le _,by exact byS,by exact byS,by exact byS,by exact byS,Lib.hid (fun j y hj _=>by omega)⟩ ?_
 rintro n tm hp nx ⟨k,hn,hk,g0,g1,g7,g8,hH⟩
 by_cases hlt:k<l.length
 ·have e0:l[k]?=some l[k]:=List.getElem?_eq_getElem hlt
  generalize l[k]=x at e0
  have q4:=Bq e0
  by_cases hx:x.amount=0
  ·have hr:Ux l=k:=by unfold Ux;rw[A46 e0 hH.out hx,if_pos hlt]
   have hd:decide (x.amount=0)=true:=decide_eq_true hx
   clear hx e0
   (repeat' (first|exact trivial|refine stR ?_|((first|refine cv (Lb x) ?_|refine stp ?_|refine A0 (fun h=>?_) ?_|(refine gw (fun h=>?_) (fun h=>?_)<;>(try (exfalso;omega))))<;>(try (refine wS ?_)))))
   all_goals simp only[sxd,z0,p0,Nat.reduceEqDiff,↓reduceIte,Tryz.f178, *]
  ·have n1 : Hid (∀ (j : Nat) y, j < k + 1 → l[j]? = some y → ¬ y.amount = 0) := Lib.hid (fun j y hj hy=>by
    rcases Nat.lt_or_ge j k with h|h
    ·exact hH.out j y h hy
    ·have:j=k:=by omega
     subst this
     rw[e0] at hy
     rw[← Option.some.inj hy];exact hx)
   have hd:decide (x.amount=0)=false:=decide_eq_false hx
   clear hx e0
   (repeat' (first|exact trivial|refine stR ?_|((first|refine cv (Lb x) ?_|refine stp ?_|refine A0 (fun h=>?_) ?_|(refine gw (fun h=>?_) (fun h=>?_)<;>(try (exfalso;omega))))<;>(try (refine wS ?_)))))
   exact A3 (l.length-(k+1)) (by omega) ⟨k+1,rfl,by omega,by exact byS,by exact byS,by exact byS,by exact byS,n1⟩
 ·have hr:Ux l=-1:=by
   unfold Ux
   rw[Y9 fun j y hy=>hH.out j y (by have:=(List.getElem?_eq_some_iff.1 hy).1;omega) hy,if_neg (by omega)]
  (repeat' (first|exact trivial|refine stR ?_|((first|refine stp ?_|refine A0 (fun h=>?_) ?_|(refine gw (fun h=>?_) (fun h=>?_)<;>(try (exfalso;omega))))<;>(try (refine wS ?_)))))
  all_goals simp only[sxd,z0,p0,Nat.reduceEqDiff,↓reduceIte,Tryz.f178, *]
theorem Acj{l:List LegV}(h:Eb l=l.length):l.filter nzL=l:=by
 rw[List.filter_eq_self]
 intro x hx
 obtain⟨j,hj,rfl⟩:=List.getElem_of_mem hx
 have:=Io (l:=l) (j:=j) (y:=l[j]) (by omega) (List.getElem?_eq_getElem hj)
 simp [nzL,this]
theorem Sg{l:List LegV}{k:Nat}{x:LegV}(e:l[k]?=some x):(l.take (k+1)).filter nzL=(l.take k).filter nzL++if nzL x=true then [x] else []:=by
 rw[List.take_add_one,e,List.filter_append]
 congr 1
 simp [List.filter_cons]
theorem A07(l:List LegV)(hl:l.length≤1000000):Nr Tryz.prog CtxP 128 103 (Ac l) [.ex (.func (.func 129) #[] #[])] (Ac (l.filter nzL)):=by
 refine S7 base Tryz.func128 rfl rfl (by kernel_rfl) (Nat.le_of_ble_eq_true rfl) (L9 _) ?_
 rw[Yc]
 have q1:=B9 l
 have hF:=Rd l hl
 have f1:=Ew l
 have f3:=Fb l
 have hle:=A47 l
 by_cases hz:Eb l<l.length
 ·have hi:Ux l=(Eb l:Int):=by unfold Ux;rw[if_pos hz]
  have hneg:¬ ((Eb l:Int)=-1):=by omega
  have hdn:decide ((Eb l:Int)=-1)=false:=decide_eq_false hneg
  rw[hi] at hF
  have hE:(l.take (Eb l)).filter nzL=l.take (Eb l):=by
   rw[List.filter_eq_self]
   intro x hx
   obtain⟨j,hj,rfl⟩:=List.getElem_of_mem hx
   rw[List.length_take] at hj
   rw[List.getElem_take]
   have:=Io (l:=l) (j:=j) (y:=l[j]) (by omega) (List.getElem?_eq_getElem (by omega))
   simp [nzL,this]
  have hE1:(l.take (Eb l+1)).filter nzL=l.take (Eb l):=by
   have e0:l[Eb l]?=some l[Eb l]:=List.getElem?_eq_getElem hz
   rw[Sg e0,hE,if_neg (by simp [nzL,Ya e0]),List.append_nil]
  clear hi hneg
  generalize Eb l=i0 at *
  (repeat' (first|exact trivial|refine stR ?_|((first|refine cv (hF) ?_|refine stp ?_|refine A0 (fun h=>?_) ?_|(refine gw (fun h=>?_) (fun h=>?_)<;>(try (exfalso;omega))))<;>(try (refine wS ?_)))))
  refine A9 (fun n tm hp nx=>∃ (i j b:Nat) (E:List LegV),n=l.length-j∧i<j∧j≤l.length∧E.length=l.length∧tm 0=.own 0∧hp 0=some ⟨103,Ac E,true⟩∧0<nx∧tm 1=.ex (.func (.func 129) #[] #[])∧tm 5=gI i∧tm 6=gI j∧Hid (E.take i=(l.take j).filter nzL)∧Hid (E.drop j=l.drop j)) (l.length-(i0+1)) ⟨i0,i0+1,0,l,rfl,by omega,by omega,rfl,by exact byS,by exact byQ,by omega,by exact byS,by exact byS,by exact byQ,Lib.hid hE1.symm,Lib.hid rfl⟩ ?_
  clear f1 f3 hF hE hE1 hdn
  rintro n tm hp nx ⟨i,j,b,E,hn,hij,hj,hEl,g0,gh,hnx,g1,g5,g6,hA,hB⟩
  have q2:=B9 E
  have f1:=Ew E
  have f3:=Fb E
  by_cases hlt:j<l.length
  ·have e0:l[j]?=some l[j]:=List.getElem?_eq_getElem hlt
   have e1:E[j]?=some l[j]:=by
    have:=congrArg (·[0]?) hB.out
    simpa [List.getElem?_drop,e0] using this
   generalize l[j]=x at e0 e1
   have q4:=Bq e1
   have hxF:=Sg e0
   have hB1:E.drop (j+1)=l.drop (j+1):=by
    have:=congrArg (List.drop 1) hB.out
    rwa [List.drop_drop,List.drop_drop] at this
   by_cases hx:x.amount=0
   ·have hd:decide (x.amount=0)=true:=decide_eq_true hx
    have n1:Hid (E.take i=(l.take (j+1)).filter nzL):=Lib.hid (by rw[hxF,if_neg (by simp [nzL,hx]),List.append_nil];exact hA.out)
    have n2:=Lib.hid hB1
    clear hx e0 e1 hxF hB1
    (repeat' (first|exact trivial|refine stR ?_|((first|refine cv (Lb x) ?_|refine stp ?_|refine A0 (fun h=>?_) ?_|(refine gw (fun h=>?_) (fun h=>?_)<;>(try (exfalso;omega))))<;>(try (refine wS ?_)))))
    exact A3 (l.length-(j+1)) (by omega) ⟨i,j+1,0,E,rfl,by omega,by omega,hEl,by exact byS,by exact byQ,by omega,by exact byS,by exact byS,by exact byQ,n1,n2⟩
   ·have hd:decide (x.amount=0)=false:=decide_eq_false hx
    have n1 : Hid ((E.set i x).take (i + 1) = (l.take (j + 1)).filter nzL) := Lib.hid (by
     rw[hxF,if_pos (by simp [nzL,hx]),← hA.out,List.take_add_one,List.take_set_of_le (Nat.le_refl _),List.getElem?_set_self (by omega)];rfl)
    have n2:Hid ((E.set i x).drop (j+1)=l.drop (j+1)):=Lib.hid (by rw[List.drop_set_of_lt (by omega)];exact hB1)
    have hset:(Ac E).set i [gI x.account,gI x.amount,gS x.cur]=Ac (E.set i x):=by unfold Ac;rw[List.map_set];rfl
    have q5:∃ y,E[i]?=some y:=⟨E[i]'(by omega),List.getElem?_eq_getElem (by omega)⟩
    obtain⟨y,q5⟩:=q5
    have q6:=Bq q5
    have hil:i<E.length:=by omega
    have hlen2:(E.set i x).length=l.length:=by rw[List.length_set];exact hEl
    clear hx e0 e1 hxF hB1 q5
    (repeat' (first|exact trivial|refine stR ?_|((first|refine cv (Lb x) ?_|refine stp ?_|refine A0 (fun h=>?_) ?_|(refine gw (fun h=>?_) (fun h=>?_)<;>(try (exfalso;omega))))<;>(try (refine wS ?_)))))
    exact A3 (l.length-(j+1)) (by omega) ⟨i+1,j+1,0,E.set i x,rfl,by omega,by omega,hlen2,by exact byS,by exact byQ,by omega,by exact byS,by exact byQ,by exact byQ,n1,n2⟩
  ·have hjl:j=l.length:=by omega
   subst hjl
   have hR:E.take i=l.filter nzL:=by rw[hA.out,List.take_length]
   have hcut:((Ac E).take i++List.replicate (l.length-i) [AV.ex (.int .i64 0),AV.ex (.int .i64 0),AV.ex (.string ⟨#[]⟩)]).take i=Ac (l.filter nzL):=by
    rw[List.take_append_of_le_length (by rw[List.length_take];omega),List.take_take,Nat.min_self,← hR]
    unfold Ac
    rw[List.map_take]
   have hlc:((Ac E).take i++List.replicate (l.length-i) [AV.ex (.int .i64 0),AV.ex (.int .i64 0),AV.ex (.string ⟨#[]⟩)]).length=l.length:=by
    rw[List.length_append,List.length_take,List.length_replicate];omega
   have f4:=Ew (l.filter nzL)
   have f5:=Fb (l.filter nzL)
   have hlt2:¬ (l.length:Int)<(l.length:Int):=by omega
   clear hR hA hB
   (repeat' (first|exact trivial|refine stR ?_|((first|refine Agi (l:=i) (by exact byQ) (by first|rfl|omega) (by first|assumption|(simp (disch:=omega) only[sx,C7,↓reduceIte,Nat.reduceAdd,Nat.reduceEqDiff,Nat.reduceLeDiff, *];(try rfl))) (by simp only[tyb]) (by first|(simp only[tyb];done)|(simp only[tyb];decide)) (by first|omega|(simp only[List.length_map, *];omega)) ?_|refine A8z (l:=i) (by exact byQ) (by first|rfl|omega) (by first|assumption|(simp (disch:=omega) only[sx,C7,↓reduceIte,Nat.reduceAdd,Nat.reduceEqDiff,Nat.reduceLeDiff, *];(try rfl))) (by simp only[tyb]) (by first|(simp only[tyb];done)|(simp only[tyb];decide)) (by first|omega|(simp only[List.length_map, *];omega)) ?_|refine stp ?_|refine A0 (fun h=>?_) ?_|(refine gw (fun h=>?_) (fun h=>?_)<;>(try (exfalso;omega))))<;>(try (refine wS ?_)))))
   all_goals simp only[sxd,z0,p0,Nat.reduceEqDiff,↓reduceIte,Tryz.f128, *]
 ·have hze:Eb l=l.length:=by omega
  have hi:Ux l=-1:=by unfold Ux;rw[if_neg hz]
  have hall:=Acj hze
  rw[hi] at hF
  rw[hall]
  clear hz hle hze hi
  (repeat' (first|exact trivial|refine stR ?_|((first|refine cv (hF) ?_|refine stp ?_|refine A0 (fun h=>?_) ?_|(refine gw (fun h=>?_) (fun h=>?_)<;>(try (exfalso;omega))))<;>(try (refine wS ?_)))))
  all_goals simp only[sxd,z0,p0,Nat.reduceEqDiff,↓reduceIte,Tryz.f128, *]
def Jm(l:List LegV):List LegV:=(Dz l).filter nzL
theorem Aeu(l:List LegV):(Jm l).length≤l.length:=Nat.le_trans (List.length_filter_le _ _) (Mi l)
end Go.Proofs.YtbhffbgbhgjdiaaGreatDoor
