/-
  Parts of the proof: R1 R2 R3. Conditions: those that each theorem states.
-/
import Derived.Test.YtbhffbgbhgjdiaaGreatDoorM10
set_option linter.unusedSimpArgs false
set_option linter.unusedVariables false
namespace Go.Proofs.YtbhffbgbhgjdiaaGreatDoor
open Go.RowKit
set_option maxRecDepth 100000
def inB(a:Int)(c:UInt8):Bool:=decide (a≤(c.toNat:Int)) && decide (c.toNat≤126)
def Ll(a m:Int)(s:ByteArray):Bool:=s.data.toList.all (inB a) && decide ((s.size:Int)≤m)
def Adk(s:ByteArray):Bool:=decide (s≠⟨#[]⟩) && Ll 33 48 s
def Ab8(c:UInt8):Bool:=decide (65≤c.toNat) && decide (c.toNat≤90)
def A0y(s:ByteArray):Bool:=s.data.toList.all Ab8 && decide (s.size=3)
theorem Wz{p:UInt8→Bool}{l:List UInt8}{k:Nat}{c:UInt8}(e:l[k]?=some c)(h:p c=false):l.all p=false:=by
 rw[List.all_eq_false]
 exact⟨c,List.mem_of_getElem? e,by simp [h]⟩
theorem X0{p:UInt8→Bool}{l:List UInt8}{k:Nat}{c:UInt8}(e:l[k]?=some c)(h:(l.take k).all p=true)(hc:p c=true):(l.take (k+1)).all p=true:=by
 rw[List.take_add_one,e,List.all_append,h]
 simp [hc]
theorem A5q(s:ByteArray)(_:s.size≤9223372036854775807):Cn 279 [gS s] (.val (.ex (.bool (A0y s)))):=by
 refine cvS Tryz.func279 ?_
 by_cases h3:s.size=3
 ·have hci:(s.size:Int)=3:=by omega
  (repeat' (first|exact trivial|refine stR ?_|((first|refine stp ?_|refine A0 (fun h=>?_) ?_|(refine gw (fun h=>?_) (fun h=>?_)<;>(try (exfalso;omega))))<;>(try (refine wS ?_)))))
  refine A9 (fun n tm hp nx=>∃ k:Nat,n=s.size-k∧k≤s.size∧tm 0=gS s∧tm 3=gI k∧Hid ((s.data.toList.take k).all Ab8=true)) s.size ⟨0,rfl,Nat.zero_le _,by exact byS,by exact byS,Lib.hid rfl⟩ ?_
  rintro n tm hp nx ⟨k,hn,hk,g0,g3,hA⟩
  by_cases hlt:k<s.size
  ·have e0:=Em s k hlt
   generalize hcc:s[k]'hlt=c at e0
   have hk3:k<3:=by omega
   cases hc:Ab8 c with
   | true =>
    have n1:=Lib.hid (X0 e0 hA.out hc)
    unfold Ab8 at hc
    rw[Bool.and_eq_true,decide_eq_true_eq,decide_eq_true_eq] at hc
    obtain⟨h1,h2⟩:=hc
    (repeat' (first|exact trivial|refine stR ?_|((first|refine stp ?_|refine A0 (fun h=>?_) ?_|(refine gw (fun h=>?_) (fun h=>?_)<;>(try (exfalso;omega))))<;>(try (refine wS ?_)))))
    exact A3 (s.size-(k+1)) (by omega) ⟨k+1,by omega,by omega,by exact byS,by exact byS,n1⟩
   | false =>
    have hr:A0y s=false:=by unfold A0y;rw[Wz e0 hc,Bool.false_and]
    unfold Ab8 at hc
    rw[Bool.and_eq_false_iff,decide_eq_false_iff_not,decide_eq_false_iff_not] at hc
    by_cases h1:c.toNat<65
    ·(repeat' (first|exact trivial|refine stR ?_|((first|refine stp ?_|refine A0 (fun h=>?_) ?_|(refine gw (fun h=>?_) (fun h=>?_)<;>(try (exfalso;omega))))<;>(try (refine wS ?_)))))
     all_goals simp only[sxd,z0,p0,Nat.reduceEqDiff,↓reduceIte,Tryz.f279, *]
    ·have h2:90<c.toNat:=by omega
     (repeat' (first|exact trivial|refine stR ?_|((first|refine stp ?_|refine A0 (fun h=>?_) ?_|(refine gw (fun h=>?_) (fun h=>?_)<;>(try (exfalso;omega))))<;>(try (refine wS ?_)))))
     all_goals simp only[sxd,z0,p0,Nat.reduceEqDiff,↓reduceIte,Tryz.f279, *]
  ·have hr:A0y s=true:=by
    have:=hA.out
    rw[List.take_of_length_le (by rw[Cs];omega)] at this
    unfold A0y;rw[this,Bool.true_and,decide_eq_true_eq];exact h3
   have hk3:¬ (k:Int)<3:=by omega
   (repeat' (first|exact trivial|refine stR ?_|((first|refine stp ?_|refine A0 (fun h=>?_) ?_|(refine gw (fun h=>?_) (fun h=>?_)<;>(try (exfalso;omega))))<;>(try (refine wS ?_)))))
   all_goals simp only[sxd,z0,p0,Nat.reduceEqDiff,↓reduceIte,Tryz.f279, *]
 ·have hr:A0y s=false:=by unfold A0y;rw[decide_eq_false h3,Bool.and_false]
  have hci:¬ (s.size:Int)=3:=by omega
  (repeat' (first|exact trivial|refine stR ?_|((first|refine stp ?_|refine A0 (fun h=>?_) ?_|(refine gw (fun h=>?_) (fun h=>?_)<;>(try (exfalso;omega))))<;>(try (refine wS ?_)))))
  all_goals simp only[sxd,z0,p0,Nat.reduceEqDiff,↓reduceIte,Tryz.f279, *]
theorem Kk(s:ByteArray)(a m:Int)(hs:s.size≤9223372036854775807):Cn 205 [gS s,gI m,.ex (.int .u8 a)] (.val (.ex (.bool (Ll a m s)))):=by
 refine cvS Tryz.func205 ?_
 by_cases hm:m<(s.size:Int)
 ·have hr:Ll a m s=false:=by unfold Ll;rw[decide_eq_false (by omega),Bool.and_false]
  (repeat' (first|exact trivial|refine stR ?_|((first|refine stp ?_|refine A0 (fun h=>?_) ?_|(refine gw (fun h=>?_) (fun h=>?_)<;>(try (exfalso;omega))))<;>(try (refine wS ?_)))))
  all_goals simp only[sxd,z0,p0,Nat.reduceEqDiff,↓reduceIte,Tryz.f205, *]
 ·(repeat' (first|exact trivial|refine stR ?_|((first|refine stp ?_|refine A0 (fun h=>?_) ?_|(refine gw (fun h=>?_) (fun h=>?_)<;>(try (exfalso;omega))))<;>(try (refine wS ?_)))))
  refine A9 (fun n tm hp nx=>∃ k:Nat,n=s.size-k∧k≤s.size∧tm 0=gS s∧tm 2=.ex (.int .u8 a)∧tm 7=gI k∧Hid ((s.data.toList.take k).all (inB a)=true)) s.size ⟨0,rfl,Nat.zero_le _,by exact byS,by exact byS,by exact byS,Lib.hid rfl⟩ ?_
  rintro n tm hp nx ⟨k,hn,hk,g0,g2,g7,hA⟩
  by_cases hlt:k<s.size
  ·have e0:=Em s k hlt
   generalize hcc:s[k]'hlt=c at e0
   cases hc:inB a c with
   | true =>
    have n1:=Lib.hid (X0 e0 hA.out hc)
    unfold inB at hc
    rw[Bool.and_eq_true,decide_eq_true_eq,decide_eq_true_eq] at hc
    obtain⟨h1,h2⟩:=hc
    have h3:¬ (c.toNat:Int)<a:=by omega
    have h4:¬ (126:Int)<(c.toNat:Int):=by omega
    (repeat' (first|exact trivial|refine stR ?_|((first|refine stp ?_|refine A0 (fun h=>?_) ?_|(refine gw (fun h=>?_) (fun h=>?_)<;>(try (exfalso;omega))))<;>(try (refine wS ?_)))))
    exact A3 (s.size-(k+1)) (by omega) ⟨k+1,rfl,by omega,by exact byS,by exact byS,by exact byS,n1⟩
   | false =>
    have hr:Ll a m s=false:=by unfold Ll;rw[Wz e0 hc,Bool.false_and]
    unfold inB at hc
    rw[Bool.and_eq_false_iff,decide_eq_false_iff_not,decide_eq_false_iff_not] at hc
    by_cases h1:(c.toNat:Int)<a
    ·(repeat' (first|exact trivial|refine stR ?_|((first|refine stp ?_|refine A0 (fun h=>?_) ?_|(refine gw (fun h=>?_) (fun h=>?_)<;>(try (exfalso;omega))))<;>(try (refine wS ?_)))))
     all_goals simp only[sxd,z0,p0,Nat.reduceEqDiff,↓reduceIte,Tryz.f205, *]
    ·have h2:(126:Int)<(c.toNat:Int):=by omega
     (repeat' (first|exact trivial|refine stR ?_|((first|refine stp ?_|refine A0 (fun h=>?_) ?_|(refine gw (fun h=>?_) (fun h=>?_)<;>(try (exfalso;omega))))<;>(try (refine wS ?_)))))
     all_goals simp only[sxd,z0,p0,Nat.reduceEqDiff,↓reduceIte,Tryz.f205, *]
  ·have hr:Ll a m s=true:=by
    have:=hA.out
    rw[List.take_of_length_le (by rw[Cs];omega)] at this
    unfold Ll;rw[this,Bool.true_and,decide_eq_true_eq];omega
   (repeat' (first|exact trivial|refine stR ?_|((first|refine stp ?_|refine A0 (fun h=>?_) ?_|(refine gw (fun h=>?_) (fun h=>?_)<;>(try (exfalso;omega))))<;>(try (refine wS ?_)))))
   all_goals simp only[sxd,z0,p0,Nat.reduceEqDiff,↓reduceIte,Tryz.f205, *]
theorem Wt(s:ByteArray)(hs:s.size≤9223372036854775807):Cn 160 [gS s] (.val (.ex (.bool (Adk s)))):=by
 refine cvS Tryz.func160 ?_
 by_cases h:s=⟨#[]⟩
 ·have hr:Adk s=false:=by unfold Adk;rw[decide_eq_false (fun e=>e h),Bool.false_and]
  subst h
  have h0:((⟨#[]⟩:ByteArray).size:Int)=0:=rfl
  (repeat' (first|exact trivial|refine stR ?_|((first|refine stp ?_|refine A0 (fun h=>?_) ?_|(refine gw (fun h=>?_) (fun h=>?_)<;>(try (exfalso;omega))))<;>(try (refine wS ?_)))))
  all_goals simp only[sxd,z0,p0,Nat.reduceEqDiff,↓reduceIte,Tryz.f160, *]
 ·have hr:Adk s=Ll 33 48 s:=by unfold Adk;rw[decide_eq_true h,Bool.true_and]
  have h0:1≤s.size:=by
   apply Classical.byContradiction
   intro hn
   refine h (Mb (?_:s.data.toList=[]))
   exact List.eq_nil_of_length_eq_zero (by rw[Cs];omega)
  (repeat' (first|exact trivial|refine stR ?_|((first|refine cv (Kk s 33 48 hs) ?_|refine stp ?_|refine A0 (fun h=>?_) ?_|(refine gw (fun h=>?_) (fun h=>?_)<;>(try (exfalso;omega))))<;>(try (refine wS ?_)))))
  all_goals simp only[sxd,z0,p0,Nat.reduceEqDiff,↓reduceIte,Tryz.f160, *]
namespace D
theorem Z6(t:Int):∃ x:Bool,True∧Cn 305 [gI t] (.val (gB x)):=by
 refine caS gB Tryz.func305 ?_
 (repeat' (first|exact trivial|refine stR ?_|((first|refine stp ?_|refine A0 (fun h=>?_) ?_|(refine gw (fun h=>?_) (fun h=>?_)<;>(try (exfalso;omega))))<;>(try (refine wS ?_)))))
 all_goals (simp only[sxd,z0,p0,Nat.reduceEqDiff,↓reduceIte,Tryz.f305, *];exact aX)
theorem Ht(t:Int):∃ x:Bool,True∧Cn 331 [gI t] (.val (gB x)):=by
 refine caS gB Tryz.func331 ?_
 (repeat' (first|exact trivial|refine stR ?_|((first|refine stp ?_|refine A0 (fun h=>?_) ?_|(refine gw (fun h=>?_) (fun h=>?_)<;>(try (exfalso;omega))))<;>(try (refine wS ?_)))))
 all_goals (simp only[sxd,z0,p0,Nat.reduceEqDiff,↓reduceIte,Tryz.f331, *];exact aX)
theorem Z8(a b:Int):∃ x:Int×Bool,True∧Cn 336 [gI a,gI b] (.val (gIB x)):=by
 obtain⟨x1,_,c1⟩:=Ht a
 obtain⟨x2,_,c2⟩:=Ht b
 refine caS gIB Tryz.func336 ?_
 (repeat' (first|exact trivial|refine stR ?_|((first|refine cv (c1) ?_|refine cv (c2) ?_|refine stp ?_|refine A0 (fun h=>?_) ?_|(refine gw (fun h=>?_) (fun h=>?_)<;>(try (exfalso;omega))))<;>(try (refine wS ?_)))))
 all_goals (simp only[sxd,z0,p0,Nat.reduceEqDiff,↓reduceIte,Tryz.f336, *];exact aX)
set_option maxHeartbeats 2000000 in
theorem Alw(op a b:Int):∃ x:Int×Bool,True∧Cn 332 [gI op,gI a,gI b] (.val (gIB x)):=by
 obtain⟨x1,_,c1⟩:=Ht a
 obtain⟨⟨x2,x3⟩,_,c2⟩:=Z8 a b
 refine caS gIB Tryz.func332 ?_
 (repeat' (first|exact trivial|refine stR ?_|((first|refine cv (c1) ?_|refine cv (c2) ?_|refine stp ?_|refine A0 (fun h=>?_) ?_|(refine gw (fun h=>?_) (fun h=>?_)<;>(try (exfalso;omega))))<;>(try (refine wS ?_)))))
 all_goals (simp only[sxd,z0,p0,Nat.reduceEqDiff,↓reduceIte,Tryz.f332, *];exact aX)
theorem A2l(op:Int)(l:List Int)(hl:l.length≤3):∃ x:Int×Bool,True∧Cn 326 [gI op,.sl (Bf l)] (.val (gIB x)):=by
 match l,hl with
 | [],_ =>
  show ∃ x:Int×Bool,True∧Cn 326 [gI op,.sl []] (.val (gIB x))
  refine caS gIB Tryz.func326 ?_
  (repeat' (first|exact trivial|refine stR ?_|((first|refine stp ?_|refine A0 (fun h=>?_) ?_|(refine gw (fun h=>?_) (fun h=>?_)<;>(try (exfalso;omega))))<;>(try (refine wS ?_)))))
  all_goals (simp only[sxd,z0,p0,Nat.reduceEqDiff,↓reduceIte,Tryz.f326, *];exact aX)
 | [a],_ =>
  obtain⟨x1,_,c1⟩:=Ht a
  show ∃ x:Int×Bool,True∧Cn 326 [gI op,.sl [[gI a]]] (.val (gIB x))
  refine caS gIB Tryz.func326 ?_
  (repeat' (first|exact trivial|refine stR ?_|((first|refine cv (c1) ?_|refine stp ?_|refine A0 (fun h=>?_) ?_|(refine gw (fun h=>?_) (fun h=>?_)<;>(try (exfalso;omega))))<;>(try (refine wS ?_)))))
  all_goals (simp only[sxd,z0,p0,Nat.reduceEqDiff,↓reduceIte,Tryz.f326, *];exact aX)
 | [a,b],_ =>
  obtain⟨⟨x2,x3⟩,_,c2⟩:=Alw op a b
  show ∃ x:Int×Bool,True∧Cn 326 [gI op,.sl [[gI a],[gI b]]] (.val (gIB x))
  refine caS gIB Tryz.func326 ?_
  (repeat' (first|exact trivial|refine stR ?_|((first|refine cv (c2) ?_|refine stp ?_|refine A0 (fun h=>?_) ?_|(refine gw (fun h=>?_) (fun h=>?_)<;>(try (exfalso;omega))))<;>(try (refine wS ?_)))))
  all_goals (simp only[sxd,z0,p0,Nat.reduceEqDiff,↓reduceIte,Tryz.f326, *];exact aX)
 | [a,b,c],_ =>
  show ∃ x:Int×Bool,True∧Cn 326 [gI op,.sl [[gI a],[gI b],[gI c]]] (.val (gIB x))
  refine caS gIB Tryz.func326 ?_
  (repeat' (first|exact trivial|refine stR ?_|((first|refine stp ?_|refine A0 (fun h=>?_) ?_|(refine gw (fun h=>?_) (fun h=>?_)<;>(try (exfalso;omega))))<;>(try (refine wS ?_)))))
  all_goals (simp only[sxd,z0,p0,Nat.reduceEqDiff,↓reduceIte,Tryz.f326, *];exact aX)
theorem A2i(op:Int)(l:List Int)(hl:Sz l.length):∃ x:Int×Bool,True∧Cn 306 [gI op,.sl (Bf l)] (.val (gIB x)):=by
 unfold Sz at hl
 have q1:=Ec l
 by_cases h3:l.length≤3
 ·obtain⟨⟨x2,x3⟩,_,c2⟩:=A2l op l h3
  refine caS gIB Tryz.func306 ?_
  (repeat' (first|exact trivial|refine stR ?_|((first|refine stp ?_|refine A0 (fun h=>?_) ?_|(refine gw (fun h=>?_) (fun h=>?_)<;>(try (exfalso;omega))))<;>(try (refine wS ?_)))))
  refine A9 (fun n tm hp nx=>∃ k:Nat,n=l.length-k∧k≤l.length∧tm 0=gI op∧tm 1=.sl (Bf l)∧tm 6=gI k) (l.length) ⟨0,rfl,Nat.zero_le _,byS,byS,byS⟩ ?_
  rintro n tm hp nx ⟨k,rfl,hk,g0,g1,g6⟩
  by_cases hlt:k<l.length
  ·have e1:=Iq (List.getElem?_eq_getElem hlt)
   obtain⟨x1,_,c1⟩:=Z6 l[k]
   generalize l[k]=x at *
   (repeat' (first|exact trivial|refine stR ?_|((first|refine cv (c1) ?_|refine stp ?_|refine A0 (fun h=>?_) ?_|(refine gw (fun h=>?_) (fun h=>?_)<;>(try (exfalso;omega))))<;>(try (refine wS ?_)))))
   all_goals first
    | exact A3 (l.length-(k+1)) (by omega) ⟨k+1,rfl,by omega,byS,byS,byS⟩
    | (simp only[sxd,z0,p0,Nat.reduceEqDiff,↓reduceIte,Tryz.f306, *];exact aX)
  ·(repeat' (first|exact trivial|refine stR ?_|((first|refine cv (c2) ?_|refine stp ?_|refine A0 (fun h=>?_) ?_|(refine gw (fun h=>?_) (fun h=>?_)<;>(try (exfalso;omega))))<;>(try (refine wS ?_)))))
   all_goals (simp only[sxd,z0,p0,Nat.reduceEqDiff,↓reduceIte,Tryz.f306, *];exact aX)
 ·refine caS gIB Tryz.func306 ?_
  (repeat' (first|exact trivial|refine stR ?_|((first|refine stp ?_|refine A0 (fun h=>?_) ?_|(refine gw (fun h=>?_) (fun h=>?_)<;>(try (exfalso;omega))))<;>(try (refine wS ?_)))))
  all_goals (simp only[sxd,z0,p0,Nat.reduceEqDiff,↓reduceIte,Tryz.f306, *];exact aX)
end D
inductive ExV where
 | mk (op n:Int) (s:ByteArray) (args:List ExV)
mutual
def exC:ExV→List AV
 | .mk op n s args=>[.ex (.int .i64 op),.ex (.int .i64 n),.ex (.string s),.sl (Ea args)]
def Ea:List ExV→List (List AV)
 | []=>[]
 | x :: l=>exC x :: Ea l
end
mutual
def Ej:ExV→Nat
 | .mk _ _ _ args=>1+C4 args
def C4:List ExV→Nat
 | []=>0
 | x :: l=>Ej x+C4 l
end
inductive ExV.Ok:ExV→Prop
 | mk {op n:Int} {s:ByteArray} {args:List ExV}:I64 op→I64 n→Sz s.size→Sz (args.length*56)→(∀ x∈args,ExV.Ok x)→ExV.Ok (.mk op n s args)
theorem Bl(op n:Int)(s:ByteArray)(args:List ExV):exC (.mk op n s args)=[gI op,gI n,gS s,.sl (Ea args)]:=by rw[exC]
theorem Hl(l:List ExV):Ea l=l.map exC:=by
 induction l with
 | nil=>rw[Ea];rfl
 | cons x l ih=>rw[Ea,ih];rfl
theorem J9(l:List ExV):(Ea l).length=l.length:=by rw[Hl,List.length_map]
theorem L2{l:List ExV}{k:Nat}{op n:Int}{s:ByteArray}{a:List ExV}(h:l[k]?=some (.mk op n s a)):(Ea l)[k]?=some [gI op,gI n,gS s,.sl (Ea a)]:=by
 rw[Hl,List.getElem?_map,h,Option.map_some,Bl]
theorem H7(l:List ExV):C4 l=(l.map Ej).sum:=by
 induction l with
 | nil=>rw[C4];rfl
 | cons x l ih=>rw[C4,ih];simp
theorem T5(op n:Int)(s:ByteArray)(args:List ExV):Ej (.mk op n s args)=1+C4 args:=by rw[Ej]
theorem Iu{l:List ExV}{k:Nat}{x:ExV}(h:l[k]?=some x):C4 (l.take (k+1))=C4 (l.take k)+Ej x:=by
 rw[H7,H7,List.take_add_one,h]
 simp
theorem Qd{l:List ExV}{k:Nat}(h:l.length≤k):C4 (l.take k)=C4 l:=by rw[List.take_of_length_le h]
theorem U9:Tryz.prog.cellsOf 208=4:=by kernel_rfl
theorem Ain:Tryz.prog.cellsOf 206=1:=by kernel_rfl
theorem cI:Tryz.prog.cellsOf 3=1:=by kernel_rfl
theorem cS:Tryz.prog.cellsOf 9=1:=by kernel_rfl
theorem Aod:Tryz.prog.bytesOf 208=56:=by kernel_rfl
theorem Lk:∀ (d:Nat) {us:List AV},Sh Tryz.prog d 208 us→∃ x:ExV,us=exC x∧x.Ok:=by
 intro d
 induction d using Nat.strongRecOn with
 | ind d ih =>
 intro us h
 match d,ih,h with
 | 0,_,h=>exact h.elim
 | 1,_,h =>
  obtain⟨h1,h2⟩:=Bi h Tryz.underlying208
  simp only[List.forall_mem_cons] at h2
  exact h2.1.elim
 | d+2,ih,h =>
  obtain⟨h1,h2⟩:=Bi h Tryz.underlying208
  rw[U9] at h1
  match us,h1 with
  | [a,b,c,e],_ =>
   simp only[List.forall_mem_cons,cI,cS,Ain,List.drop_zero,List.drop_succ_cons,List.take_succ_cons,List.take_zero] at h2
   obtain⟨g1,g2,g3,g4,_⟩:=h2
   obtain⟨n1,e1,w1⟩:=Ak g1 Tryz.underlying3
   obtain⟨n2,e2,w2⟩:=Ak g2 Tryz.underlying3
   obtain⟨s1,e3,w3⟩:=De g3 Tryz.underlying9
   obtain⟨es,e4,w4,w5⟩:=Bv g4 Tryz.underlying206
   simp only[List.cons.injEq,and_true] at e1 e2 e3 e4
   subst e1 e2 e3 e4
   obtain⟨l,rfl,hl⟩:=Ib (g:=exC) (p:=ExV.Ok) es fun x hx=>ih d (by omega) (w5 x hx)
   refine⟨.mk n1 n2 s1 l,by rw[Bl,Hl],.mk (wf_i64 w1) (wf_i64 w2) (Ae w3) ?_ hl⟩
   have:=w4.2
   rw[Aod,List.length_map] at this
   exact Ae this
namespace D
theorem A8p{x:ExV}(h:x.Ok):∀ {m:Int},0≤m→m≤64→∃ z:Int,(1≤z∧z≤m+1∧(z≤m→Ej x≤z.toNat))∧Cn 320 [.agg (exC x),gI m] (.val (gI z)):=by
 induction h with
 | @mk op n s args h1 h2 h3 h4 _ ih =>
 intro m m0 m1
 rw[Bl,T5]
 unfold Sz at h4
 have q1:=J9 args
 replace ih:=Lib.hid ih
 clear h1 h2 h3
 refine caS gI Tryz.func320 ?_
 (repeat' (first|exact trivial|refine stR ?_|((first|refine stp ?_|refine A0 (fun h=>?_) ?_|(refine gw (fun h=>?_) (fun h=>?_)<;>(try (exfalso;omega))))<;>(try (refine wS ?_)))))
 refine A9 (fun n' tm hp nx=>∃ (k:Nat) (z:Int),n'=args.length-k∧k≤args.length∧tm 2=.pt 0 0 0∧tm 1=gI m∧tm 5=gI z∧tm 6=gI k∧hp 0=some ⟨208,[[gI op,gI n,gS s,.sl (Ea args)]],true⟩∧0<nx∧1≤z∧z≤m+1∧Hid (z≤m→1+C4 (args.take k)≤z.toNat)) (args.length) ⟨0,1,rfl,Nat.zero_le _,byS,byS,byS,byS,byQ,by omega,by omega,by omega,Lib.hid (fun _=>by simp [C4])⟩ ?_
 rintro n' tm hp nx ⟨k,z,rfl,hk,g2,g1,g5,g6,h0,hx,z1,z2,hz⟩
 by_cases hlt:k<args.length
 ·by_cases hzm:z≤m
  ·have e0:=List.getElem?_eq_getElem hlt
   obtain⟨y,⟨y1,y2,y3⟩,c1⟩:=ih.out _ (List.getElem_mem hlt) (m:=m-z) (by omega) (by omega)
   have hn := Lib.hid (show z+y≤m→1+C4 (args.take (k+1))≤(z+y).toNat from fun h=>by
    have a1:=hz.out hzm
    have a2:=y3 (by omega)
    rw[Iu e0]
    omega)
   generalize args[k]=x at *
   cases x with
   | mk op2 n2 s2 a2 =>
   rw[Bl] at c1
   have q4:=L2 e0
   clear y3 e0 hz
   (repeat' (first|exact trivial|refine stR ?_|((first|refine cv (c1) ?_|refine stp ?_|refine A0 (fun h=>?_) ?_|(refine gw (fun h=>?_) (fun h=>?_)<;>(try (exfalso;omega))))<;>(try (refine wS ?_)))))
   all_goals exact A3 (args.length-(k+1)) (by omega) ⟨k+1,z+y,rfl,by omega,byS,byS,byS,byS,byQ,by omega,by omega,by omega,hn⟩
  ·have hfin:=Lib.hid (show 1≤z∧z≤m+1∧(z≤m→1+C4 args≤z.toNat) from ⟨z1,z2,fun h=>absurd h hzm⟩)
   clear hz
   (repeat' (first|exact trivial|refine stR ?_|((first|refine stp ?_|refine A0 (fun h=>?_) ?_|(refine gw (fun h=>?_) (fun h=>?_)<;>(try (exfalso;omega))))<;>(try (refine wS ?_)))))
   all_goals (simp only[sxd,z0,p0,Nat.reduceEqDiff,↓reduceIte,Tryz.f320, *];exact⟨z,rfl,hfin.out⟩)
 ·have hfin:=Lib.hid (show 1≤z∧z≤m+1∧(z≤m→1+C4 args≤z.toNat) from ⟨z1,z2,by have:=hz.out;rwa [Qd (by omega)] at this⟩)
  clear hz
  (repeat' (first|exact trivial|refine stR ?_|((first|refine stp ?_|refine A0 (fun h=>?_) ?_|(refine gw (fun h=>?_) (fun h=>?_)<;>(try (exfalso;omega))))<;>(try (refine wS ?_)))))
  all_goals (simp only[sxd,z0,p0,Nat.reduceEqDiff,↓reduceIte,Tryz.f320, *];exact⟨z,rfl,hfin.out⟩)
theorem A8m{x:ExV}(h:x.Ok):∃ z:Bool,(z=false→Ej x≤64)∧Cn 300 [.agg (exC x),gI 64] (.val (gB z)):=by
 obtain⟨y,⟨y1,y2,y3⟩,c1⟩:=A8p h (m:=64) (by omega) (by omega)
 have hy:decide (64<y)=false→Ej x≤64:=fun h=>by
  have:=of_decide_eq_false h
  have:=y3 (by omega)
  omega
 generalize Ej x=N at *
 cases x with
 | mk op n s a =>
 rw[Bl] at *
 clear y3
 refine caS gB Tryz.func300 ?_
 (repeat' (first|exact trivial|refine stR ?_|((first|refine cv (c1) ?_|refine stp ?_|refine A0 (fun h=>?_) ?_|(refine gw (fun h=>?_) (fun h=>?_)<;>(try (exfalso;omega))))<;>(try (refine wS ?_)))))
 all_goals (simp only[sxd,z0,p0,Nat.reduceEqDiff,↓reduceIte,Tryz.f300, *];exact⟨_,rfl,hy⟩)
theorem A8l{x:ExV}(h:x.Ok):∃ z:Int,True∧Cn 301 [.agg (exC x)] (.val (gI z)):=by
 induction h with
 | @mk op n s args h1 h2 h3 h4 _ ih =>
 rw[Bl]
 unfold Sz at h4
 have q1:=J9 args
 replace ih:=Lib.hid ih
 clear h1 h2 h3
 refine caS gI Tryz.func301 ?_
 (repeat' (first|exact trivial|refine stR ?_|((first|refine stp ?_|refine A0 (fun h=>?_) ?_|(refine gw (fun h=>?_) (fun h=>?_)<;>(try (exfalso;omega))))<;>(try (refine wS ?_)))))
 refine A9 (fun n' tm hp nx=>∃ (k:Nat) (z:Int),n'=args.length-k∧k≤args.length∧tm 1=.pt 0 0 0∧tm 3=gI z∧tm 4=gI k∧hp 0=some ⟨208,[[gI op,gI n,gS s,.sl (Ea args)]],true⟩∧0<nx) (args.length) ⟨0,0,rfl,Nat.zero_le _,byS,byS,byS,byQ,by omega⟩ ?_
 rintro n' tm hp nx ⟨k,z,rfl,hk,g1,g3,g4,h0,hx⟩
 by_cases hlt:k<args.length
 ·have e0:=List.getElem?_eq_getElem hlt
  obtain⟨y,_,c1⟩:=ih.out _ (List.getElem_mem hlt)
  generalize args[k]=x at *
  cases x with
  | mk op2 n2 s2 a2 =>
  rw[Bl] at c1
  have q4:=L2 e0
  clear e0
  (repeat' (first|exact trivial|refine stR ?_|((first|refine cv (c1) ?_|refine stp ?_|refine A0 (fun h=>?_) ?_|(refine gw (fun h=>?_) (fun h=>?_)<;>(try (exfalso;omega))))<;>(try (refine wS ?_)))))
  all_goals exact A3 (args.length-(k+1)) (by omega) ⟨k+1,_,rfl,by omega,byS,byS,byS,byQ,by omega⟩
 ·(repeat' (first|exact trivial|refine stR ?_|((first|refine stp ?_|refine A0 (fun h=>?_) ?_|(refine gw (fun h=>?_) (fun h=>?_)<;>(try (exfalso;omega))))<;>(try (refine wS ?_)))))
  all_goals (simp only[sxd,z0,p0,Nat.reduceEqDiff,↓reduceIte,Tryz.f301, *];exact aX)
theorem Vl(op:Int):∃ z:Int,True∧Cn 321 [gI op] (.val (gI z)):=by
 refine caS gI Tryz.func321 ?_
 (repeat' (first|exact trivial|refine stR ?_|((first|refine stp ?_|refine A0 (fun h=>?_) ?_|(refine gw (fun h=>?_) (fun h=>?_)<;>(try (exfalso;omega))))<;>(try (refine wS ?_)))))
 all_goals (simp only[sxd,z0,p0,Nat.reduceEqDiff,↓reduceIte,Tryz.f321, *];exact aX)
theorem Ag4(op:Int):∃ z:Int,True∧Cn 322 [gI op] (.val (gI z)):=by
 refine caS gI Tryz.func322 ?_
 (repeat' (first|exact trivial|refine stR ?_|((first|refine stp ?_|refine A0 (fun h=>?_) ?_|(refine gw (fun h=>?_) (fun h=>?_)<;>(try (exfalso;omega))))<;>(try (refine wS ?_)))))
 all_goals (simp only[sxd,z0,p0,Nat.reduceEqDiff,↓reduceIte,Tryz.f322, *];exact aX)
set_option maxHeartbeats 2000000 in
theorem A8u{x:ExV}(h:x.Ok):∃ z:Bool,True∧Cn 302 [.agg (exC x)] (.val (gB z)):=by
 induction h with
 | @mk op n s args h1 h2 h3 h4 _ ih =>
 rw[Bl]
 unfold Sz at h4
 have q1:=J9 args
 replace ih:=Lib.hid ih
 obtain⟨o1,_,c2⟩:=Vl op
 obtain⟨o2,_,c3⟩:=Ag4 op
 clear h1 h2 h3
 refine caS gB Tryz.func302 ?_
 (repeat' (first|exact trivial|refine stR ?_|((first|refine cv (c2) ?_|refine cv (c3) ?_|refine stp ?_|refine A0 (fun h=>?_) ?_|(refine gw (fun h=>?_) (fun h=>?_)<;>(try (exfalso;omega))))<;>(try (refine wS ?_)))))
 all_goals first
  | (simp only[sxd,z0,p0,Nat.reduceEqDiff,↓reduceIte,Tryz.f302, *];exact aX)
  | skip
 all_goals refine A9 (fun n' tm hp nx=>∃ (k:Nat),n'=args.length-k∧k≤args.length∧tm 1=.pt 0 0 0∧tm 3=gI k∧hp 0=some ⟨208,[[gI op,gI n,gS s,.sl (Ea args)]],true⟩∧0<nx) (args.length) ⟨0,rfl,Nat.zero_le _,byS,byS,byQ,by omega⟩ ?_
 all_goals
  rintro n' tm hp nx ⟨k,rfl,hk,g1,g3,h0,hx⟩
  by_cases hlt:k<args.length
  ·have e0:=List.getElem?_eq_getElem hlt
   obtain⟨y,_,c1⟩:=ih.out _ (List.getElem_mem hlt)
   generalize args[k]=x at *
   cases x with
   | mk op2 n2 s2 a2 =>
   rw[Bl] at c1
   have q4:=L2 e0
   clear e0
   (repeat' (first|exact trivial|refine stR ?_|((first|refine cv (c1) ?_|refine stp ?_|refine A0 (fun h=>?_) ?_|(refine gw (fun h=>?_) (fun h=>?_)<;>(try (exfalso;omega))))<;>(try (refine wS ?_)))))
   all_goals first
    | exact A3 (args.length-(k+1)) (by omega) ⟨k+1,rfl,by omega,byS,byS,byQ,by omega⟩
    | (simp only[sxd,z0,p0,Nat.reduceEqDiff,↓reduceIte,Tryz.f302, *];exact aX)
  ·(repeat' (first|exact trivial|refine stR ?_|((first|refine stp ?_|refine A0 (fun h=>?_) ?_|(refine gw (fun h=>?_) (fun h=>?_)<;>(try (exfalso;omega))))<;>(try (refine wS ?_)))))
   all_goals (simp only[sxd,z0,p0,Nat.reduceEqDiff,↓reduceIte,Tryz.f302, *];exact aX)
end D
end Go.Proofs.YtbhffbgbhgjdiaaGreatDoor
