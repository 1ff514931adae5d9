/-
  Parts of the proof: R6 R7. Conditions: those that each theorem states.
-/
import Derived.Test.YtbhffbgbhgjdiaaGreatDoorM25
import Derived.Test.YtbhffbgbhgjdiaaGreatDoorM17
set_option linter.unusedSimpArgs false
set_option linter.unusedVariables false
namespace Go.Proofs.YtbhffbgbhgjdiaaGreatDoor
open Go.RowKit
set_option maxRecDepth 100000
theorem O6(l:List Int):((Bf l).all (·.all p0))=true:=by simp [Bf,p0]
theorem O7(l:List Int):(Bf l).map (·.map z0)=Bf l:=by simp [Bf,z0]
namespace D
set_option maxHeartbeats 2000000 in
theorem Vm{x:ExV}(h:x.Ok):∃ z:Int,True∧Cn 277 [.agg (exC x)] (.val (gI z)):=by
 obtain⟨g,hg,c1⟩:=A8m h
 obtain⟨d,_,c2⟩:=A8l h
 obtain⟨r,_,c3⟩:=A8u h
 cases g with
 | true =>
  clear hg
  cases x with
  | mk op n s args =>
  rw[Bl] at *
  refine caS gI Tryz.func277 ?_
  (repeat' (first|exact trivial|refine stR ?_|((first|refine cv (c1) ?_|refine cv (c2) ?_|refine cv (c3) ?_|refine stp ?_|refine A0 (fun h=>?_) ?_|(refine gw (fun h=>?_) (fun h=>?_)<;>(try (exfalso;omega))))<;>(try (refine wS ?_)))))
  all_goals (simp only[sxd,z0,p0,Nat.reduceEqDiff,↓reduceIte,Tryz.f277, *];exact aX)
 | false =>
  obtain⟨L,⟨hL1,hL2⟩,c4⟩:=A8n h (hg rfl)
  have hl:L.length≤64:=Nat.le_trans hL1 (hg rfl)
  clear hg hL1 h
  have q1:=C9 L
  replace hL2:=Lib.hid hL2
  cases x with
  | mk op n s args =>
  rw[Bl] at *
  refine caS gI Tryz.func277 ?_
  (repeat' (first|exact trivial|refine stR ?_|((first|refine cv (c1) ?_|refine cv (c2) ?_|refine cv (c3) ?_|refine cv (c4) ?_|refine stp ?_|refine A0 (fun h=>?_) ?_|(refine gw (fun h=>?_) (fun h=>?_)<;>(try (exfalso;omega))))<;>(try (refine wS ?_)))))
  all_goals first
   | (simp only[sxd,z0,p0,Nat.reduceEqDiff,↓reduceIte,Tryz.f277, *];exact aX)
   | skip
  refine A9 (fun n tm hp nx=>∃ k:Nat,n=L.length-k∧k≤L.length∧tm 3=.sl (texts L)∧tm 4=gI k) (L.length) ⟨0,rfl,Nat.zero_le _,byS,byS⟩ ?_
  rintro n tm hp nx ⟨k,rfl,hk,g3,g4⟩
  by_cases hlt:k<L.length
  ·have e1:=Hc (List.getElem?_eq_getElem hlt)
   obtain⟨v,_,c5⟩:=Vn L[k] (hL2.out _ (List.getElem_mem hlt))
   generalize L[k]=w at *
   (repeat' (first|exact trivial|refine stR ?_|((first|refine cv (c5) ?_|refine stp ?_|refine A0 (fun h=>?_) ?_|(refine gw (fun h=>?_) (fun h=>?_)<;>(try (exfalso;omega))))<;>(try (refine wS ?_)))))
   all_goals first
    | exact A3 (L.length-(k+1)) (by omega) ⟨k+1,rfl,by omega,byS,byS⟩
    | (simp only[sxd,z0,p0,Nat.reduceEqDiff,↓reduceIte,Tryz.f277, *];exact aX)
  ·(repeat' (first|exact trivial|refine stR ?_|((first|refine stp ?_|refine A0 (fun h=>?_) ?_|(refine gw (fun h=>?_) (fun h=>?_)<;>(try (exfalso;omega))))<;>(try (refine wS ?_)))))
   all_goals (simp only[sxd,z0,p0,Nat.reduceEqDiff,↓reduceIte,Tryz.f277, *];exact aX)
set_option maxHeartbeats 4000000 in
theorem Art{x:ExV}(h:x.Ok):∃ z:Int×Int,True∧Cn 278 [.agg (exC x),.sl (Gf varsL)] (.val (gII z)):=by
 have q2:(Gf varsL).length=7:=rfl
 have e2:∀ k,k<7→∃ w m,(Gf varsL)[k]?=some [gS w,gI m]:=fun k hk=>⟨_,_,Agv (List.getElem?_eq_getElem (show k<varsL.length from hk))⟩
 replace e2:=Lib.hid e2
 generalize Gf varsL=V at *
 induction h with
 | @mk op n s args h1 h2 h3 h4 _ ih =>
 rw[Bl]
 unfold Sz at h4
 have q1:=J9 args
 replace ih:=Lib.hid ih
 clear h1 h2 h3
 by_cases hop:op=1∨op=2∨op=3
 ·rcases hop with rfl|rfl|rfl
  all_goals
   refine caS gII Tryz.func278 ?_
   (repeat' (first|exact trivial|refine stR ?_|((first|refine stp ?_|refine A0 (fun h=>?_) ?_|(refine gw (fun h=>?_) (fun h=>?_)<;>(try (exfalso;omega))))<;>(try (refine wS ?_)))))
   all_goals (simp only[sxd,z0,p0,Nat.reduceEqDiff,↓reduceIte,Tryz.f278, *];exact aX)
 by_cases h4v:op=4
 ·subst h4v
  clear hop ih
  refine caS gII Tryz.func278 ?_
  (repeat' (first|exact trivial|refine stR ?_|((first|refine stp ?_|refine A0 (fun h=>?_) ?_|(refine gw (fun h=>?_) (fun h=>?_)<;>(try (exfalso;omega))))<;>(try (refine wS ?_)))))
  refine A9 (fun n' tm hp nx=>∃ (k:Nat),n'=7-k∧k≤7∧tm 1=.sl V∧tm 2=.pt 0 0 0∧tm 6=gI k∧hp 0=some ⟨208,[[gI 4,gI n,gS s,.sl (Ea args)]],true⟩∧0<nx) 7 ⟨0,rfl,Nat.zero_le _,byS,byS,byS,byQ,by omega⟩ ?_
  rintro n' tm hp nx ⟨k,rfl,hk,g1,g2,g6,h0,hx⟩
  by_cases hlt:k<7
  ·obtain⟨w,m,e3⟩:=e2.out k hlt
   obtain⟨gd,_,c1⟩:=Z6 m
   (repeat' (first|exact trivial|refine stR ?_|((first|refine cv (c1) ?_|refine stp ?_|refine A0 (fun h=>?_) ?_|(refine gw (fun h=>?_) (fun h=>?_)<;>(try (exfalso;omega))))<;>(try (refine wS ?_)))))
   all_goals first
    | exact A3 (7-(k+1)) (by omega) ⟨k+1,rfl,by omega,byS,byS,byS,byQ,by omega⟩
    | (simp only[sxd,z0,p0,Nat.reduceEqDiff,↓reduceIte,Tryz.f278, *];exact aX)
  ·(repeat' (first|exact trivial|refine stR ?_|((first|refine stp ?_|refine A0 (fun h=>?_) ?_|(refine gw (fun h=>?_) (fun h=>?_)<;>(try (exfalso;omega))))<;>(try (refine wS ?_)))))
   all_goals (simp only[sxd,z0,p0,Nat.reduceEqDiff,↓reduceIte,Tryz.f278, *];exact aX)
 ·have n1:¬ op=1:=fun h=>hop (.inl h)
  have n2:¬ op=2:=fun h=>hop (.inr (.inl h))
  have n3:¬ op=3:=fun h=>hop (.inr (.inr h))
  clear hop
  refine caS gII Tryz.func278 ?_
  (repeat' (first|exact trivial|refine stR ?_|((first|refine stp ?_|refine A0 (fun h=>?_) ?_|(refine gw (fun h=>?_) (fun h=>?_)<;>(try (exfalso;omega))))<;>(try (refine wS ?_)))))
  refine A9 (fun n' tm hp nx=>∃ (k q:Nat) (L:List Int),n'=args.length-k∧k≤args.length∧L.length=k∧tm 1=.sl V∧tm 2=.pt 0 0 0∧tm 7=.own q∧tm 8=gI k∧hp 0=some ⟨208,[[gI op,gI n,gS s,.sl (Ea args)]],true⟩∧hp q=some ⟨3,Bf L,true⟩∧0<q∧q<nx) (args.length) ⟨0,_,[],rfl,Nat.zero_le _,rfl,byS,byS,byQ,byS,byQ,byQ,by omega,by omega⟩ ?_
  rintro n' tm hp nx ⟨k,q,L,rfl,hk,hL,g1,g2,g7,g8,h0,hq,hq0,hx⟩
  have f1:=O6 L
  have f2:=O7 L
  have f3:=Ec L
  by_cases hlt:k<args.length
  ·have a0:=List.getElem?_eq_getElem hlt
   obtain⟨⟨y1,y2⟩,_,c1⟩:=ih.out _ (List.getElem_mem hlt)
   generalize args[k]=x at *
   cases x with
   | mk op2 n2 s2 a2 =>
   rw[Bl] at c1
   have q4:=L2 a0
   have hqz:(0=q)=False:=eq_false (by omega)
   have q5:Bf L++[[gI y1]]=Bf (L++[y1]):=by simp [Bf]
   clear a0
   (repeat' (first|exact trivial|refine stR ?_|((first|refine cv (c1) ?_|refine stp ?_|refine A0 (fun h=>?_) ?_|(refine gw (fun h=>?_) (fun h=>?_)<;>(try (exfalso;omega))))<;>(try (refine wS ?_)))))
   all_goals first
    | (refine A3 (args.length-(k+1)) (by omega) ⟨k+1,nx+22,L++[y1],rfl,by omega,by simp [hL], ?_, ?_, ?_, ?_, ?_, ?_, ?_, ?_⟩;exact byS;exact byS;exact byQ;exact byS;exact byQ;exact byQ;omega;omega)
    | (simp only[sxd,z0,p0,Nat.reduceEqDiff,↓reduceIte,Tryz.f278, *];exact aX)
    | (refine A3 (args.length-(k+1)) (by omega) ⟨k+1,nx+22,L++[y1],rfl,by omega,by simp [hL], ?_, ?_, ?_, ?_, ?_, ?_, ?_, ?_⟩;exact byS;exact byS;exact byQ;exact byS;exact byQ;exact byQ;omega;omega)
  ·obtain⟨⟨y1,y2⟩,_,c1⟩:=A2i op L (by unfold Sz;omega)
   (repeat' (first|exact trivial|refine stR ?_|((first|refine cv (c1) ?_|refine stp ?_|refine A0 (fun h=>?_) ?_|(refine gw (fun h=>?_) (fun h=>?_)<;>(try (exfalso;omega))))<;>(try (refine wS ?_)))))
   all_goals (simp only[sxd,z0,p0,Nat.reduceEqDiff,↓reduceIte,Tryz.f278, *];exact aX)
theorem Arr{x:ExV}(h:x.Ok):∃ z:Int×Int,True∧Cn 243 [.agg (exC x),.sl (Gf varsL)] (.val (gII z)):=by
 obtain⟨v,_,c1⟩:=Vm h
 obtain⟨⟨y1,y2⟩,_,c2⟩:=Art h
 generalize Gf varsL=V at *
 cases x with
 | mk op n s args =>
 rw[Bl] at *
 refine caS gII Tryz.func243 ?_
 (repeat' (first|exact trivial|refine stR ?_|((first|refine cv (c1) ?_|refine cv (c2) ?_|refine stp ?_|refine A0 (fun h=>?_) ?_|(refine gw (fun h=>?_) (fun h=>?_)<;>(try (exfalso;omega))))<;>(try (refine wS ?_)))))
 all_goals (simp only[sxd,z0,p0,Nat.reduceEqDiff,↓reduceIte,Tryz.f243, *];exact aX)
theorem Kb{x:ExV}(h:x.Ok)(want:Int):∃ z:Int,True∧Cn 196 [.agg (exC x),.sl (Gf varsL),gI want] (.val (gI z)):=by
 obtain⟨⟨y1,y2⟩,_,c2⟩:=Arr h
 generalize Gf varsL=V at *
 cases x with
 | mk op n s args =>
 rw[Bl] at *
 refine caS gI Tryz.func196 ?_
 (repeat' (first|exact trivial|refine stR ?_|((first|refine cv (c2) ?_|refine stp ?_|refine A0 (fun h=>?_) ?_|(refine gw (fun h=>?_) (fun h=>?_)<;>(try (exfalso;omega))))<;>(try (refine wS ?_)))))
 all_goals (simp only[sxd,z0,p0,Nat.reduceEqDiff,↓reduceIte,Tryz.f196, *];exact aX)
end D
def B07(r:List AV):Prop:=∃ s we ho,r=[gS s,.sl (Bf we),.sl (Bf ho)]
theorem Xa{P:Program}{t:Nat}{k:AV→Eff→Prop}{x y:ByteArray}:Ag P .leq t (gS x) (gS y) k=k (.ex (.bool (Op.bytesLess x.data.toList y.data.toList || decide (x=y)))) .none:=by simp [Ag,Gc]
namespace D
set_option maxHeartbeats 2000000 in
theorem Ql(s:ByteArray)(hs:Sz s.size):∃ x:Bool,True∧Cn 106 [gS s] (.val (gB x)):=by
 unfold Sz at hs
 by_cases h1:1≤s.size
 rotate_left
 ·refine caS gB Tryz.func106 ?_
  (repeat' (first|exact trivial|refine stR ?_|((first|refine stp ?_|refine A0 (fun h=>?_) ?_|(refine gw (fun h=>?_) (fun h=>?_)<;>(try (exfalso;omega))))<;>(try (refine wS ?_)))))
  all_goals (simp only[sxd,z0,p0,Nat.reduceEqDiff,↓reduceIte,Tryz.f106, *];exact aX)
 ·have e0:=Em s 0 (by omega)
  refine caS gB Tryz.func106 ?_
  (repeat' (first|exact trivial|refine stR ?_|((first|refine stp ?_|refine A0 (fun h=>?_) ?_|(refine gw (fun h=>?_) (fun h=>?_)<;>(try (exfalso;omega))))<;>(try (refine wS ?_)))))
  all_goals first
   | (simp only[sxd,z0,p0,Nat.reduceEqDiff,↓reduceIte,Tryz.f106, *];exact aX)
   | skip
  all_goals refine A9 (fun n tm hp nx=>∃ k:Nat,n=s.size-k∧k≤s.size∧tm 0=gS s∧tm 3=gI k) (s.size) ⟨0,rfl,by omega,byS,byS⟩ ?_
  all_goals
   rintro n tm hp nx ⟨k,hnn,hk,g0,g3⟩
   by_cases hlt:k<s.size
   ·generalize hc:s[k]'hlt=c at *
    (repeat' (first|exact trivial|refine stR ?_|((first|refine stp ?_|refine A0 (fun h=>?_) ?_|(refine gw (fun h=>?_) (fun h=>?_)<;>(try (exfalso;omega))))<;>(try (refine wS ?_)))))
    all_goals first
     | exact A3 (s.size-(k+1)) (by omega) ⟨k+1,rfl,by omega,byS,byS⟩
     | (simp only[sxd,z0,p0,Nat.reduceEqDiff,↓reduceIte,Tryz.f106, *];exact aX)
   ·(repeat' (first|exact trivial|refine stR ?_|((first|refine stp ?_|refine A0 (fun h=>?_) ?_|(refine gw (fun h=>?_) (fun h=>?_)<;>(try (exfalso;omega))))<;>(try (refine wS ?_)))))
    all_goals (simp only[sxd,z0,p0,Nat.reduceEqDiff,↓reduceIte,Tryz.f106, *];exact aX)
set_option maxHeartbeats 2000000 in
theorem Hs(s:ByteArray)(hs:Sz s.size):∃ x:Bool,True∧Cn 149 [gS s] (.val (gB x)):=by
 unfold Sz at hs
 by_cases h1:s=⟨#[]⟩
 ·have hd:(s=⟨#[]⟩)=True:=eq_true h1
  have hd2:decide True=true:=rfl
  clear h1
  refine caS gB Tryz.func149 ?_
  (repeat' (first|exact trivial|refine stR ?_|((first|refine stp ?_|refine A0 (fun h=>?_) ?_|(refine gw (fun h=>?_) (fun h=>?_)<;>(try (exfalso;omega))))<;>(try (refine wS ?_)))))
  all_goals (simp only[sxd,z0,p0,Nat.reduceEqDiff,↓reduceIte,Tryz.f149, *];exact aX)
 ·have h2:1≤s.size:=by
   apply Classical.byContradiction
   intro hn
   refine h1 (Mb (?_:s.data.toList=[]))
   exact List.eq_nil_of_length_eq_zero (by rw[Cs];omega)
  have hd:(s=⟨#[]⟩)=False:=eq_false h1
  have hd2:decide False=false:=rfl
  clear h1
  have e0:=Em s 0 (by omega)
  refine caS gB Tryz.func149 ?_
  (repeat' (first|exact trivial|refine stR ?_|((first|refine stp ?_|refine A0 (fun h=>?_) ?_|(refine gw (fun h=>?_) (fun h=>?_)<;>(try (exfalso;omega))))<;>(try (refine wS ?_)))))
  all_goals first
   | (simp only[sxd,z0,p0,Nat.reduceEqDiff,↓reduceIte,Tryz.f149, *];exact aX)
   | skip
  all_goals refine A9 (fun n tm hp nx=>∃ k:Nat,n=s.size-k∧k≤s.size∧tm 0=gS s∧tm 3=gI k) (s.size-1) ⟨1,rfl,by omega,byS,byS⟩ ?_
  all_goals
   rintro n tm hp nx ⟨k,hnn,hk,g0,g3⟩
   by_cases hlt:k<s.size
   ·generalize hc:s[k]'hlt=c at *
    (repeat' (first|exact trivial|refine stR ?_|((first|refine stp ?_|refine A0 (fun h=>?_) ?_|(refine gw (fun h=>?_) (fun h=>?_)<;>(try (exfalso;omega))))<;>(try (refine wS ?_)))))
    all_goals first
     | exact A3 (s.size-(k+1)) (by omega) ⟨k+1,rfl,by omega,byS,byS⟩
     | (simp only[sxd,z0,p0,Nat.reduceEqDiff,↓reduceIte,Tryz.f149, *];exact aX)
   ·(repeat' (first|exact trivial|refine stR ?_|((first|refine stp ?_|refine A0 (fun h=>?_) ?_|(refine gw (fun h=>?_) (fun h=>?_)<;>(try (exfalso;omega))))<;>(try (refine wS ?_)))))
    all_goals (simp only[sxd,z0,p0,Nat.reduceEqDiff,↓reduceIte,Tryz.f149, *];exact aX)
theorem A2h(s:ByteArray):∃ x:Bool,True∧Cn 91 [gS s] (.val (gB x)):=by
 by_cases h3:s.size=3
 ·have hci:(s.size:Int)=3:=by omega
  refine caS gB Tryz.func91 ?_
  (repeat' (first|exact trivial|refine stR ?_|((first|refine stp ?_|refine A0 (fun h=>?_) ?_|(refine gw (fun h=>?_) (fun h=>?_)<;>(try (exfalso;omega))))<;>(try (refine wS ?_)))))
  refine A9 (fun n tm hp nx=>∃ k:Nat,n=s.size-k∧k≤s.size∧tm 0=gS s∧tm 3=gI k) (s.size) ⟨0,rfl,Nat.zero_le _,byS,byS⟩ ?_
  rintro n tm hp nx ⟨k,hnn,hk,g0,g3⟩
  have a1:s.size≤3:=by omega
  have a2:3≤s.size:=by omega
  clear h3 hci
  by_cases hlt:k<s.size
  ·have hk3:k<3:=by omega
   generalize hc:s[k]'hlt=c at *
   (repeat' (first|exact trivial|refine stR ?_|((first|refine stp ?_|refine A0 (fun h=>?_) ?_|(refine gw (fun h=>?_) (fun h=>?_)<;>(try (exfalso;omega))))<;>(try (refine wS ?_)))))
   all_goals first
    | exact A3 (s.size-(k+1)) (by omega) ⟨k+1,rfl,by omega,byS,byS⟩
    | (simp only[sxd,z0,p0,Nat.reduceEqDiff,↓reduceIte,Tryz.f91, *];exact aX)
  ·have hk3:¬ (k:Int)<3:=by omega
   (repeat' (first|exact trivial|refine stR ?_|((first|refine stp ?_|refine A0 (fun h=>?_) ?_|(refine gw (fun h=>?_) (fun h=>?_)<;>(try (exfalso;omega))))<;>(try (refine wS ?_)))))
   all_goals (simp only[sxd,z0,p0,Nat.reduceEqDiff,↓reduceIte,Tryz.f91, *];exact aX)
 ·have hci:¬ (s.size:Int)=3:=by omega
  refine caS gB Tryz.func91 ?_
  (repeat' (first|exact trivial|refine stR ?_|((first|refine stp ?_|refine A0 (fun h=>?_) ?_|(refine gw (fun h=>?_) (fun h=>?_)<;>(try (exfalso;omega))))<;>(try (refine wS ?_)))))
  all_goals (simp only[sxd,z0,p0,Nat.reduceEqDiff,↓reduceIte,Tryz.f91, *];exact aX)
theorem T8(l:List Int)(hl:Sz l.length):∃ x:Bool,True∧Cn 146 [.sl (Bf l)] (.val (gB x)):=by
 unfold Sz at hl
 have q1:=Ec l
 refine caS gB Tryz.func146 ?_
 (repeat' (first|exact trivial|refine stR ?_|((first|refine stp ?_|refine A0 (fun h=>?_) ?_|(refine gw (fun h=>?_) (fun h=>?_)<;>(try (exfalso;omega))))<;>(try (refine wS ?_)))))
 refine A9 (fun n tm hp nx=>∃ k:Nat,n=l.length+1-k∧k≤l.length+1∧1≤k∧tm 0=.sl (Bf l)∧tm 3=gI k) (l.length) ⟨1,by omega,by omega,Nat.le_refl _,byS,byS⟩ ?_
 rintro n tm hp nx ⟨k,hnn,hk,hk1,g0,g3⟩
 by_cases hlt:k<l.length
 ·have e1:=Iq (List.getElem?_eq_getElem hlt)
  have e2:=Iq (List.getElem?_eq_getElem (show k-1<l.length by omega))
  have e3:((k:Int)-1).toNat=k-1:=by omega
  generalize l[k]=x at *
  generalize (l[k-1]'(by omega))=y at *
  (repeat' (first|exact trivial|refine stR ?_|((first|refine stp ?_|refine A0 (fun h=>?_) ?_|(refine gw (fun h=>?_) (fun h=>?_)<;>(try (exfalso;omega))))<;>(try (refine wS ?_)))))
  all_goals first
   | exact A3 (l.length+1-(k+1)) (by omega) ⟨k+1,rfl,by omega,by omega,byS,byS⟩
   | (simp only[sxd,z0,p0,Nat.reduceEqDiff,↓reduceIte,Tryz.f146, *];exact aX)
 ·(repeat' (first|exact trivial|refine stR ?_|((first|refine stp ?_|refine A0 (fun h=>?_) ?_|(refine gw (fun h=>?_) (fun h=>?_)<;>(try (exfalso;omega))))<;>(try (refine wS ?_)))))
  all_goals (simp only[sxd,z0,p0,Nat.reduceEqDiff,↓reduceIte,Tryz.f146, *];exact aX)
theorem Vk{L:List (List AV)}(hL:∀ r∈L,Ju r)(hn:Sz L.length):∃ x:Int,True∧Cn 40 [.sl L] (.val (gI x)):=by
 have bs:=fun t k x y=>@Xa Tryz.prog t k x y
 unfold Sz at hn
 replace hL:=Lib.hid hL
 refine caS gI Tryz.func40 ?_
 (repeat' (first|exact trivial|refine stR ?_|((first|refine stp ?_|refine A0 (fun h=>?_) ?_|(refine gw (fun h=>?_) (fun h=>?_)<;>(try (exfalso;omega))))<;>(try (refine wS ?_)))))
 all_goals first
  | (simp only[sxd,z0,p0,Nat.reduceEqDiff,↓reduceIte,Tryz.f40, *];exact aX)
  | skip
 all_goals refine A9 (fun n tm hp nx=>∃ k:Nat,n=L.length-k∧k≤L.length∧tm 0=.sl L∧tm 3=gI k) L.length ⟨0,rfl,Nat.zero_le _,byS,byS⟩ ?_
 all_goals
  rintro n tm hp nx ⟨k,hnn,hk,g0,g3⟩
  by_cases hlt:k<L.length
  ·obtain⟨s,a,e,hs,ha⟩:=hL.out _ (List.getElem_mem hlt)
   have e0:L[k]?=some [gS s,gI a]:=by rw[List.getElem?_eq_getElem hlt,e]
   obtain⟨x1,_,c1⟩:=A2h s
   clear e
   by_cases h0:0<k
   ·obtain⟨s2,a2,e2,hs2,ha2⟩:=hL.out _ (List.getElem_mem (show k-1<L.length by omega))
    have e3:L[k-1]?=some [gS s2,gI a2]:=by rw[List.getElem?_eq_getElem (by omega),e2]
    have e4:((k:Int)-1).toNat=k-1:=by omega
    clear e2
    (repeat' (first|exact trivial|refine stR ?_|((first|refine cv (c1) ?_|refine stp ?_|refine A0 (fun h=>?_) ?_|(refine gw (fun h=>?_) (fun h=>?_)<;>(try (exfalso;omega))))<;>(try (refine wS ?_)))))
    all_goals first
     | exact A3 (L.length-(k+1)) (by omega) ⟨k+1,rfl,by omega,byS,byS⟩
     | (simp only[sxd,z0,p0,Nat.reduceEqDiff,↓reduceIte,Tryz.f40, *];exact aX)
   ·(repeat' (first|exact trivial|refine stR ?_|((first|refine cv (c1) ?_|refine stp ?_|refine A0 (fun h=>?_) ?_|(refine gw (fun h=>?_) (fun h=>?_)<;>(try (exfalso;omega))))<;>(try (refine wS ?_)))))
    all_goals first
     | exact A3 (L.length-(k+1)) (by omega) ⟨k+1,rfl,by omega,byS,byS⟩
     | (simp only[sxd,z0,p0,Nat.reduceEqDiff,↓reduceIte,Tryz.f40, *];exact aX)
  ·(repeat' (first|exact trivial|refine stR ?_|((first|refine stp ?_|refine A0 (fun h=>?_) ?_|(refine gw (fun h=>?_) (fun h=>?_)<;>(try (exfalso;omega))))<;>(try (refine wS ?_)))))
   all_goals (simp only[sxd,z0,p0,Nat.reduceEqDiff,↓reduceIte,Tryz.f40, *];exact aX)
theorem Nl{L:List (List AV)}(hL:∀ r∈L,Ju r)(hn:Sz L.length)(c:ByteArray):∃ x:List AV×Bool,Avi x.1∧Cn 150 [.sl L,gS c] (.val (gAB x)):=by
 unfold Sz at hn
 refine caS gAB Tryz.func150 ?_
 (repeat' (first|exact trivial|refine stR ?_|((first|refine stp ?_|refine A0 (fun h=>?_) ?_|(refine gw (fun h=>?_) (fun h=>?_)<;>(try (exfalso;omega))))<;>(try (refine wS ?_)))))
 refine A9 (fun n tm hp nx=>∃ k:Nat,n=L.length-k∧k≤L.length∧tm 0=.sl L∧tm 1=gS c∧tm 4=.pt 0 0 0∧hp 0=some ⟨135,[[.ex (.string ⟨#[]⟩),gI 0]],true⟩∧0<nx∧tm 6=gI k) L.length ⟨0,rfl,Nat.zero_le _,byS,byS,byS,byQ,by omega,byS⟩ ?_
 rintro n tm hp nx ⟨k,hnn,hk,g0,g1,g4,b0,hx,g6⟩
 by_cases hlt:k<L.length
 ·obtain⟨s,a,e,hs,ha⟩:=hL _ (List.getElem_mem hlt)
  have e0:L[k]?=some [gS s,gI a]:=by rw[List.getElem?_eq_getElem hlt,e]
  clear e
  (repeat' (first|exact trivial|refine stR ?_|((first|refine stp ?_|refine A0 (fun h=>?_) ?_|(refine gw (fun h=>?_) (fun h=>?_)<;>(try (exfalso;omega))))<;>(try (refine wS ?_)))))
  all_goals first
   | exact A3 (L.length-(k+1)) (by omega) ⟨k+1,rfl,by omega,byS,byS,byS,byQ,by omega,byS⟩
   | ((refine rc3 rfl ?_);exact⟨(_,_),rfl,_,_,rfl⟩)
 ·(repeat' (first|exact trivial|refine stR ?_|((first|refine stp ?_|refine A0 (fun h=>?_) ?_|(refine gw (fun h=>?_) (fun h=>?_)<;>(try (exfalso;omega))))<;>(try (refine wS ?_)))))
  all_goals ((refine rc3 rfl ?_);exact⟨(_,_),rfl,_,_,rfl⟩)
theorem Z5{L:List (List AV)}(hL:∀ r∈L,Gj r)(hn:Sz L.length)(c:ByteArray):∃ x:List AV×Bool,B07 x.1∧Cn 151 [.sl L,gS c] (.val (gAB x)):=by
 unfold Sz at hn
 refine caS gAB Tryz.func151 ?_
 (repeat' (first|exact trivial|refine stR ?_|((first|refine stp ?_|refine A0 (fun h=>?_) ?_|(refine gw (fun h=>?_) (fun h=>?_)<;>(try (exfalso;omega))))<;>(try (refine wS ?_)))))
 refine A9 (fun n tm hp nx=>∃ k:Nat,n=L.length-k∧k≤L.length∧tm 0=.sl L∧tm 1=gS c∧tm 4=.pt 0 0 0∧hp 0=some ⟨95,[[.ex (.string ⟨#[]⟩),.ex (.slice none 0 0),.ex (.slice none 0 0)]],true⟩∧0<nx∧tm 6=gI k) L.length ⟨0,rfl,Nat.zero_le _,byS,byS,byS,byQ,by omega,byS⟩ ?_
 rintro n tm hp nx ⟨k,hnn,hk,g0,g1,g4,b0,hx,g6⟩
 by_cases hlt:k<L.length
 ·obtain⟨s,a,b,e,hs,ha,hb⟩:=hL _ (List.getElem_mem hlt)
  have e0:L[k]?=some [gS s,.sl (Bf a),.sl (Bf b)]:=by rw[List.getElem?_eq_getElem hlt,e]
  clear e
  (repeat' (first|exact trivial|refine stR ?_|((first|refine stp ?_|refine A0 (fun h=>?_) ?_|(refine gw (fun h=>?_) (fun h=>?_)<;>(try (exfalso;omega))))<;>(try (refine wS ?_)))))
  all_goals first
   | exact A3 (L.length-(k+1)) (by omega) ⟨k+1,rfl,by omega,byS,byS,byS,byQ,by omega,byS⟩
   | ((refine rc3 rfl ?_);exact⟨(_,_),rfl,_,_,_,rfl⟩)
 ·(repeat' (first|exact trivial|refine stR ?_|((first|refine stp ?_|refine A0 (fun h=>?_) ?_|(refine gw (fun h=>?_) (fun h=>?_)<;>(try (exfalso;omega))))<;>(try (refine wS ?_)))))
  all_goals ((refine rc3 rfl ?_);exact⟨(_,_),rfl,⟨#[]⟩,[],[],rfl⟩)
theorem A8o(l:List (Int×Int))(hl:Sz l.length):∃ x:Int,True∧Cn 195 [.sl (An l)] (.val (gI x)):=by
 unfold Sz at hl
 have q1:=Dh l
 refine caS gI Tryz.func195 ?_
 (repeat' (first|exact trivial|refine stR ?_|((first|refine stp ?_|refine A0 (fun h=>?_) ?_|(refine gw (fun h=>?_) (fun h=>?_)<;>(try (exfalso;omega))))<;>(try (refine wS ?_)))))
 all_goals first
  | (simp only[sxd,z0,p0,Nat.reduceEqDiff,↓reduceIte,Tryz.f195, *];exact aX)
  | skip
 refine A9 (fun n tm hp nx=>∃ k:Nat,n=l.length-k∧k≤l.length∧tm 0=.sl (An l)∧tm 3=gI k) l.length ⟨0,rfl,Nat.zero_le _,byS,byS⟩ ?_
 rintro n tm hp nx ⟨k,hnn,hk,g0,g3⟩
 by_cases hlt:k<l.length
 ·have e1:=Ca (List.getElem?_eq_getElem hlt)
  generalize l[k]=x at *
  (repeat' (first|exact trivial|refine stR ?_|((first|refine stp ?_|refine A0 (fun h=>?_) ?_|(refine gw (fun h=>?_) (fun h=>?_)<;>(try (exfalso;omega))))<;>(try (refine wS ?_)))))
  all_goals first
   | exact A3 (l.length-(k+1)) (by omega) ⟨k+1,rfl,by omega,byS,byS⟩
   | (simp only[sxd,z0,p0,Nat.reduceEqDiff,↓reduceIte,Tryz.f195, *];exact aX)
 ·(repeat' (first|exact trivial|refine stR ?_|((first|refine stp ?_|refine A0 (fun h=>?_) ?_|(refine gw (fun h=>?_) (fun h=>?_)<;>(try (exfalso;omega))))<;>(try (refine wS ?_)))))
  refine A9 (fun n tm hp nx=>∃ k:Nat,n=l.length+1-k∧k≤l.length+1∧1≤k∧tm 0=.sl (An l)∧tm 4=gI k) l.length ⟨1,by omega,by omega,Nat.le_refl _,byS,byS⟩ ?_
  clear hnn hk g0 g3 hlt
  rintro n tm hp nx ⟨k,hnn,hk,hk1,g0,g4⟩
  by_cases hlt:k<l.length
  ·have e1:=Ca (List.getElem?_eq_getElem hlt)
   have e2:=Ca (List.getElem?_eq_getElem (show k-1<l.length by omega))
   have e3:((k:Int)-1).toNat=k-1:=by omega
   generalize l[k]=x at *
   generalize (l[k-1]'(by omega))=y at *
   (repeat' (first|exact trivial|refine stR ?_|((first|refine stp ?_|refine A0 (fun h=>?_) ?_|(refine gw (fun h=>?_) (fun h=>?_)<;>(try (exfalso;omega))))<;>(try (refine wS ?_)))))
   all_goals first
    | exact A3 (l.length+1-(k+1)) (by omega) ⟨k+1,rfl,by omega,by omega,byS,byS⟩
    | (simp only[sxd,z0,p0,Nat.reduceEqDiff,↓reduceIte,Tryz.f195, *];exact aX)
  ·by_cases h0:0<l.length
   ·have e1:=Ca (List.getElem?_eq_getElem h0)
    generalize l[0]=x at *
    (repeat' (first|exact trivial|refine stR ?_|((first|refine stp ?_|refine A0 (fun h=>?_) ?_|(refine gw (fun h=>?_) (fun h=>?_)<;>(try (exfalso;omega))))<;>(try (refine wS ?_)))))
    all_goals (simp only[sxd,z0,p0,Nat.reduceEqDiff,↓reduceIte,Tryz.f195, *];exact aX)
   ·(repeat' (first|exact trivial|refine stR ?_|((first|refine stp ?_|refine A0 (fun h=>?_) ?_|(refine gw (fun h=>?_) (fun h=>?_)<;>(try (exfalso;omega))))<;>(try (refine wS ?_)))))
    all_goals (simp only[sxd,z0,p0,Nat.reduceEqDiff,↓reduceIte,Tryz.f195, *];exact aX)
theorem Lf(x:IntV)(h:x.Ok):∃ z:Int,True∧Cn 152 [.agg (L5 x)] (.val (gI z)):=by
 obtain⟨t,_,c1⟩:=A8o x.tiers h.n
 unfold L5
 refine caS gI Tryz.func152 ?_
 (repeat' (first|exact trivial|refine stR ?_|((first|refine cv (c1) ?_|refine stp ?_|refine A0 (fun h=>?_) ?_|(refine gw (fun h=>?_) (fun h=>?_)<;>(try (exfalso;omega))))<;>(try (refine wS ?_)))))
 all_goals (simp only[sxd,z0,p0,Nat.reduceEqDiff,↓reduceIte,Tryz.f152, *];exact aX)
end D
end Go.Proofs.YtbhffbgbhgjdiaaGreatDoor
