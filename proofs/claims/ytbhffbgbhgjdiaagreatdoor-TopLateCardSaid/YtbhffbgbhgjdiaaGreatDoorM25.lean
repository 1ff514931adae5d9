/-
  Parts of the proof: R4 R5. Conditions: those that each theorem states.
-/
import Derived.Test.YtbhffbgbhgjdiaaGreatDoorM24
set_option linter.unusedSimpArgs false
set_option linter.unusedVariables false
namespace Go.Proofs.YtbhffbgbhgjdiaaGreatDoor
open Go.RowKit
set_option maxRecDepth 100000
theorem Hc{l:List ByteArray}{k:Nat}{t:ByteArray}(e:l[k]?=some t):(texts l)[k]?=some [gS t]:=by rw[texts,List.getElem?_map,e];rfl
theorem A96(l:List ByteArray):∀ n∈texts l,n.length=1:=by
 intro n hn
 obtain⟨x,_,rfl⟩:=List.mem_map.1 hn
 rfl
theorem A2v(l:List ByteArray)(k:Nat):(texts l).take k=texts (l.take k):=by simp [texts]
theorem A2u(l:List ByteArray)(k:Nat):(texts l).drop k=texts (l.drop k):=by simp [texts]
theorem Th(l m:List ByteArray):texts l++texts m=texts (l++m):=by simp [texts]
def Szs(l:List ByteArray):Prop:=∀ s∈l,Sz s.size
namespace D
set_option maxHeartbeats 2000000 in
theorem Afx(s:ByteArray)(hs:Sz s.size):∃ x:Bool,True∧Cn 324 [gS s] (.val (gB x)):=by
 unfold Sz at hs
 by_cases h1:1≤s.size
 ·have e0:=Em s 0 (by omega)
  refine caS gB Tryz.func324 ?_
  (repeat' (first|exact trivial|refine stR ?_|((first|refine stp ?_|refine A0 (fun h=>?_) ?_|(refine gw (fun h=>?_) (fun h=>?_)<;>(try (exfalso;omega))))<;>(try (refine wS ?_)))))
  all_goals first
   | (simp only[sxd,z0,p0,Nat.reduceEqDiff,↓reduceIte,Tryz.f324, *];exact aX)
   | skip
  all_goals refine A9 (fun n tm hp nx=>∃ k:Nat,n=s.size-k∧k≤s.size∧tm 0=gS s∧tm 3=gI k) (s.size) ⟨0,rfl,Nat.zero_le _,byS,byS⟩ ?_
  all_goals
   rintro n tm hp nx ⟨k,rfl,hk,g0,g3⟩
   by_cases hlt:k<s.size
   ·generalize hc:s[k]'hlt=c at *
    (repeat' (first|exact trivial|refine stR ?_|((first|refine stp ?_|refine A0 (fun h=>?_) ?_|(refine gw (fun h=>?_) (fun h=>?_)<;>(try (exfalso;omega))))<;>(try (refine wS ?_)))))
    all_goals first
     | exact A3 (s.size-(k+1)) (by omega) ⟨k+1,rfl,by omega,byS,byS⟩
     | (simp only[sxd,z0,p0,Nat.reduceEqDiff,↓reduceIte,Tryz.f324, *];exact aX)
   ·(repeat' (first|exact trivial|refine stR ?_|((first|refine stp ?_|refine A0 (fun h=>?_) ?_|(refine gw (fun h=>?_) (fun h=>?_)<;>(try (exfalso;omega))))<;>(try (refine wS ?_)))))
    all_goals (simp only[sxd,z0,p0,Nat.reduceEqDiff,↓reduceIte,Tryz.f324, *];exact aX)
 ·refine caS gB Tryz.func324 ?_
  (repeat' (first|exact trivial|refine stR ?_|((first|refine stp ?_|refine A0 (fun h=>?_) ?_|(refine gw (fun h=>?_) (fun h=>?_)<;>(try (exfalso;omega))))<;>(try (refine wS ?_)))))
  all_goals (simp only[sxd,z0,p0,Nat.reduceEqDiff,↓reduceIte,Tryz.f324, *];exact aX)
end D
def wordsL:List ByteArray:=[⟨#[112,114,111,100,117,99,116]⟩,⟨#[99,117,114,114,101,110,99,121]⟩,⟨#[99,97,108,101,110,100,97,114]⟩,⟨#[102,114,111,109]⟩,⟨#[101,118,101,114,121]⟩,⟨#[111,118,101,114,100,114,97,102,116]⟩,⟨#[116,97,120]⟩,⟨#[99,114,101,100,105,116]⟩,⟨#[100,101,98,105,116]⟩,⟨#[109,97,114,103,105,110,97,108]⟩,⟨#[119,104,111,108,101]⟩,⟨#[97,99,116,51,54,48]⟩,⟨#[97,99,116,51,54,53]⟩,⟨#[97,99,116,117,97,108]⟩,⟨#[116,104,105,114,116,121]⟩,⟨#[100,111,119,110]⟩,⟨#[117,112]⟩,⟨#[102,108,111,111,114]⟩,⟨#[99,101,105,108]⟩,⟨#[104,97,108,102,95,117,112]⟩,⟨#[104,97,108,102,95,101,118,101,110]⟩,⟨#[107,101,101,112]⟩,⟨#[100,114,111,112]⟩,⟨#[102,101,101]⟩,⟨#[108,105,109,105,116]⟩,⟨#[119,104,101,110]⟩,⟨#[97,109,111,117,110,116,95,111,102]⟩,⟨#[115,105,110,103,108,101]⟩,⟨#[100,97,105,108,121]⟩,⟨#[109,111,110,116,104,108,121]⟩,⟨#[109,111,110,116,104]⟩,⟨#[114,101,116,117,114,110]⟩,⟨#[99,108,111,115,101]⟩,⟨#[101,118,101,110,116]⟩,⟨#[105,102]⟩,⟨#[116,104,101,110]⟩,⟨#[101,108,115,101]⟩,⟨#[97,110,100]⟩,⟨#[111,114]⟩,⟨#[110,111,116]⟩,⟨#[109,105,110]⟩,⟨#[109,97,120]⟩]
theorem Qy:wordsL.length=42:=by decide
theorem A2j:Cn 330 [] (.fresh 9 (texts wordsL)):=by
 unfold texts wordsL
 simp only[List.map_cons,List.map_nil]
 refine Gy base Tryz.func330 rfl rfl (by kernel_rfl) (Nat.le_of_ble_eq_true rfl) ?_
 rw[Jc]
 (repeat' (first|exact trivial|refine stR ?_|((first|refine stp ?_|refine A0 (fun h=>?_) ?_|(refine gw (fun h=>?_) (fun h=>?_)<;>(try (exfalso;omega))))<;>(try (refine wS ?_)))))
 all_goals simp only[sxd,z0,p0,Nat.reduceEqDiff,↓reduceIte,Tryz.f330, *]
namespace D
theorem Afy(s:ByteArray):∃ x:Bool,True∧Cn 325 [gS s] (.val (gB x)):=by
 have c1:=A2j
 have q1:=C9 wordsL
 rw[Qy] at q1
 have e1:∀ k,k<42→∃ w,(texts wordsL)[k]?=some [gS w]:=fun k h=>⟨_,Hc (List.getElem?_eq_getElem (show k<wordsL.length by rw[Qy];exact h))⟩
 replace e1:=Lib.hid e1
 generalize texts wordsL=L at *
 have f1:True:=trivial
 refine caS gB Tryz.func325 ?_
 (repeat' (first|exact trivial|refine stR ?_|((first|refine cf (c1) ?_|refine stp ?_|refine A0 (fun h=>?_) ?_|(refine gw (fun h=>?_) (fun h=>?_)<;>(try (exfalso;omega))))<;>(try (refine wS ?_)))))
 refine A9 (fun n tm hp nx=>∃ k q:Nat,n=42-k∧k≤42∧tm 0=gS s∧tm 4=gI k∧tm 3=.own q∧hp q=some ⟨9,L,true⟩∧q<nx) 42 ⟨0,_,rfl,Nat.zero_le _,byS,byS,byQ,byQ,by omega⟩ ?_
 rintro n tm hp nx ⟨k,q,rfl,hk,g0,g4,g3,hq,hn⟩
 by_cases hlt:k<42
 ·obtain⟨w,e2⟩:=e1.out k hlt
  clear e1
  (repeat' (first|exact trivial|refine stR ?_|((first|refine stp ?_|refine A0 (fun h=>?_) ?_|(refine gw (fun h=>?_) (fun h=>?_)<;>(try (exfalso;omega))))<;>(try (refine wS ?_)))))
  all_goals first
   | exact A3 (42-(k+1)) (by omega) ⟨k+1,q,rfl,by omega,byS,byS,byS,byS,by omega⟩
   | (simp only[sxd,z0,p0,Nat.reduceEqDiff,↓reduceIte,Tryz.f325, *];exact aX)
 ·clear e1
  (repeat' (first|exact trivial|refine stR ?_|((first|refine stp ?_|refine A0 (fun h=>?_) ?_|(refine gw (fun h=>?_) (fun h=>?_)<;>(try (exfalso;omega))))<;>(try (refine wS ?_)))))
  all_goals (simp only[sxd,z0,p0,Nat.reduceEqDiff,↓reduceIte,Tryz.f325, *];exact aX)
theorem Vn(s:ByteArray)(hs:Sz s.size):∃ x:Bool,True∧Cn 304 [gS s] (.val (gB x)):=by
 obtain⟨x1,_,c1⟩:=Afx s hs
 obtain⟨x2,_,c2⟩:=Afy s
 refine caS gB Tryz.func304 ?_
 (repeat' (first|exact trivial|refine stR ?_|((first|refine cv (c1) ?_|refine cv (c2) ?_|refine stp ?_|refine A0 (fun h=>?_) ?_|(refine gw (fun h=>?_) (fun h=>?_)<;>(try (exfalso;omega))))<;>(try (refine wS ?_)))))
 all_goals (simp only[sxd,z0,p0,Nat.reduceEqDiff,↓reduceIte,Tryz.f304, *];exact aX)
set_option maxHeartbeats 2000000 in
theorem A2k(l:List ByteArray)(hl:l.length≤1000)(hz:Szs l)(s:ByteArray)(hs:Sz s.size):∃ z:List ByteArray,(z.length≤l.length+1∧1≤z.length∧Szs z)∧Cn 323 [.sl (texts l),gS s] (.val (.sl (texts z))):=by
 have q1:=C9 l
 have q3:=A2v l
 have q4:=A2u l
 have q5:=Th
 have hz2:∀ k,Szs (l.take k++[s]++l.drop k):=fun k x hx=>by
  rw[List.append_assoc] at hx
  rcases List.mem_append.1 hx with h|h
  ·exact hz x (List.mem_of_mem_take h)
  ·rcases List.mem_append.1 h with h|h
   ·rw[List.mem_singleton.1 h];exact hs
   ·exact hz x (List.mem_of_mem_drop h)
 replace hz2:=Lib.hid hz2
 replace hz:=Lib.hid hz
 clear hs
 refine caS (fun z=>.sl (texts z)) Tryz.func323 ?_
 (repeat' (first|exact trivial|refine stR ?_|((first|refine stp ?_|refine A0 (fun h=>?_) ?_|(refine gw (fun h=>?_) (fun h=>?_)<;>(try (exfalso;omega))))<;>(try (refine wS ?_)))))
 refine A9 (fun n tm hp nx=>∃ k:Nat,n=l.length-k∧k≤l.length∧tm 0=.sl (texts l)∧tm 1=gS s∧tm 5=gI k) (l.length) ⟨0,rfl,Nat.zero_le _,byS,byS,byS⟩ ?_
 rintro n tm hp nx ⟨k,rfl,hk,g0,g1,g5⟩
 have f1:=Lm
 have f2:=Ln
 have kk:∀ m:List ByteArray,texts m++[[gS s]]=texts (m++[s]):=fun m=>Df m s
 have kn:(k:Int).toNat=k:=Int.toNat_natCast k
 have w2:∀ m:List ByteArray,(∀ n∈texts m,n.length=1)=True:=fun m=>eq_true (A96 m)
 have w7:List.take l.length l=l:=List.take_length
 have w3:(texts (l.take k)).length=k:=by rw[C9,List.length_take];omega
 have w4:(texts (l.drop k)).length=l.length-k:=by rw[C9,List.length_drop]
 have w5:(texts (l.take k++[s])).length=k+1:=by rw[C9,List.length_append,List.length_take];simp;omega
 have w6:∀ n:Nat,n≤2000→(n*16≤140737488355328)=True:=fun n h=>eq_true (by omega)
 have hfin:Hid ((l.take k++[s]++l.drop k).length≤l.length+1∧1≤(l.take k++[s]++l.drop k).length∧Szs (l.take k++[s]++l.drop k)):=Lib.hid ⟨by simp;omega,by simp;omega,hz2.out k⟩
 by_cases hlt:k<l.length
 ·have e1:=Hc (List.getElem?_eq_getElem hlt)
  generalize l[k]=w at *
  (repeat' (first|exact trivial|refine stR ?_|((first|refine Pc (by simp only[tyb,Eu]) (by simp only[tyb,sxb,Value.oneCell',Nat.reduceAdd,Nat.reduceMul,Nat.reduceLeDiff,Nat.reduceLT]) ?_|refine Oz (by first|((simp (disch:=omega) only[sx,C7,↓reduceIte,Nat.reduceAdd,Nat.reduceEqDiff,Nat.reduceLeDiff, *];(try rfl));done)|((simp (disch:=omega) only[sx,C7,↓reduceIte,Nat.reduceAdd,Nat.reduceEqDiff,Nat.reduceLeDiff, *];(try rfl));assumption)|((simp (disch:=omega) only[sx,C7,↓reduceIte,Nat.reduceAdd,Nat.reduceEqDiff,Nat.reduceLeDiff, *];(try rfl));omega)) (by first|omega|(simp only[List.length_cons,List.length_nil, *];omega)) (by first|((simp (disch:=omega) only[sx,C7,↓reduceIte,Nat.reduceAdd,Nat.reduceEqDiff,Nat.reduceLeDiff, *];(try rfl));done)|(simp only[tyb,List.length_cons,List.length_nil, *];omega)) ?_|refine Kn (by first|((simp (disch:=omega) only[sx,C7,↓reduceIte,Nat.reduceAdd,Nat.reduceEqDiff,Nat.reduceLeDiff, *];(try rfl));done)|((simp (disch:=omega) only[sx,C7,↓reduceIte,Nat.reduceAdd,Nat.reduceEqDiff,Nat.reduceLeDiff, *];(try rfl));assumption)|((simp (disch:=omega) only[sx,C7,↓reduceIte,Nat.reduceAdd,Nat.reduceEqDiff,Nat.reduceLeDiff, *];(try rfl));omega)) (by first|rfl|assumption) ?_|refine stp ?_|refine A0 (fun h=>?_) ?_|(refine gw (fun h=>?_) (fun h=>?_)<;>(try (exfalso;omega))))<;>(try (refine wS ?_)))))
  all_goals first
   | exact A3 (l.length-(k+1)) (by omega) ⟨k+1,rfl,by omega,byS,byS,byS⟩
   | (simp only[sxd,z0,p0,Nat.reduceEqDiff,↓reduceIte,Tryz.f323, *];exact⟨l,rfl,by omega,by omega,hz.out⟩)
   | (simp only[sxd,z0,p0,Nat.reduceEqDiff,↓reduceIte,Tryz.f323, *];exact⟨_,rfl,hfin.out⟩)
 ·(repeat' (first|exact trivial|refine stR ?_|((first|refine Pc (by simp only[tyb,Eu]) (by simp only[tyb,sxb,Value.oneCell',Nat.reduceAdd,Nat.reduceMul,Nat.reduceLeDiff,Nat.reduceLT]) ?_|refine Oz (by first|((simp (disch:=omega) only[sx,C7,↓reduceIte,Nat.reduceAdd,Nat.reduceEqDiff,Nat.reduceLeDiff, *];(try rfl));done)|((simp (disch:=omega) only[sx,C7,↓reduceIte,Nat.reduceAdd,Nat.reduceEqDiff,Nat.reduceLeDiff, *];(try rfl));assumption)|((simp (disch:=omega) only[sx,C7,↓reduceIte,Nat.reduceAdd,Nat.reduceEqDiff,Nat.reduceLeDiff, *];(try rfl));omega)) (by first|omega|(simp only[List.length_cons,List.length_nil, *];omega)) (by first|((simp (disch:=omega) only[sx,C7,↓reduceIte,Nat.reduceAdd,Nat.reduceEqDiff,Nat.reduceLeDiff, *];(try rfl));done)|(simp only[tyb,List.length_cons,List.length_nil, *];omega)) ?_|refine Kn (by first|((simp (disch:=omega) only[sx,C7,↓reduceIte,Nat.reduceAdd,Nat.reduceEqDiff,Nat.reduceLeDiff, *];(try rfl));done)|((simp (disch:=omega) only[sx,C7,↓reduceIte,Nat.reduceAdd,Nat.reduceEqDiff,Nat.reduceLeDiff, *];(try rfl));assumption)|((simp (disch:=omega) only[sx,C7,↓reduceIte,Nat.reduceAdd,Nat.reduceEqDiff,Nat.reduceLeDiff, *];(try rfl));omega)) (by first|rfl|assumption) ?_|refine stp ?_|refine A0 (fun h=>?_) ?_|(refine gw (fun h=>?_) (fun h=>?_)<;>(try (exfalso;omega))))<;>(try (refine wS ?_)))))
  all_goals first
   | (simp only[sxd,z0,p0,Nat.reduceEqDiff,↓reduceIte,Tryz.f323, *];exact⟨_,rfl,hfin.out⟩)
end D
theorem A23{l:List ExV}{k:Nat}{x:ExV}(h:l[k]?=some x):C4 (l.take k)+Ej x≤C4 l:=by
 have h1:=Iu h
 have h2:C4 l=C4 (l.take (k+1))+C4 (l.drop (k+1)):=by
  rw[H7,H7,H7,← List.sum_append,← List.map_append,List.take_append_drop]
 omega
theorem Af4{l:List ByteArray}(h:1≤l.length):K2 (AV.sl (texts l))=false:=by
 cases l with
 | nil=>simp at h
 | cons x l=>rfl
def varsL:List (ByteArray×Int):=[(⟨#[98,97,108,97,110,99,101]⟩,2),(⟨#[108,111,119,101,115,116]⟩,2),(⟨#[118,111,108,117,109,101]⟩,2),(⟨#[97,109,111,117,110,116]⟩,2),(⟨#[99,111,117,110,116]⟩,1),(⟨#[97,103,101]⟩,1),(⟨#[100,97,121]⟩,4)]
def Gf(l:List (ByteArray×Int)):List (List AV):=l.map fun x=>[gS x.1,gI x.2]
theorem Agv{l:List (ByteArray×Int)}{k:Nat}{x:ByteArray×Int}(h:l[k]?=some x):(Gf l)[k]?=some [gS x.1,gI x.2]:=by rw[Gf,List.getElem?_map,h];rfl
theorem T9:Cn 197 [] (.val (.sl (Gf varsL))):=by
 unfold Gf varsL
 simp only[List.map_cons,List.map_nil]
 refine cvS Tryz.func197 ?_
 (repeat' (first|exact trivial|refine stR ?_|((first|refine stp ?_|refine A0 (fun h=>?_) ?_|(refine gw (fun h=>?_) (fun h=>?_)<;>(try (exfalso;omega))))<;>(try (refine wS ?_)))))
 all_goals simp only[sxd,z0,p0,Nat.reduceEqDiff,↓reduceIte,Tryz.f197, *]
namespace D
set_option maxHeartbeats 4000000 in
theorem A8n{x:ExV}(h:x.Ok):Ej x≤64→∃ z:List ByteArray,(z.length≤Ej x∧Szs z)∧Cn 303 [.agg (exC x)] (.val (.sl (texts z))):=by
 induction h with
 | @mk op n s args h1 h2 h3 h4 _ ih =>
 rw[Bl,T5]
 intro hN
 unfold Sz at h4
 have q1:=J9 args
 replace ih:=Lib.hid ih
 have hs1:Szs [s]:=fun y hy=>by rw[List.mem_singleton.1 hy];exact h3
 have hs0:Szs []:=fun y hy=>by cases hy
 replace hs1:=Lib.hid hs1
 replace hs0:=Lib.hid hs0
 clear h1 h2 h3
 have f1:=Lm
 have f2:=Ln
 have e0:texts []=[]:=rfl
 have e1:texts [s]=[[gS s]]:=rfl
 refine caS (fun z=>.sl (texts z)) Tryz.func303 ?_
 (repeat' (first|exact trivial|refine stR ?_|((first|refine stp ?_|refine A0 (fun h=>?_) ?_|(refine gw (fun h=>?_) (fun h=>?_)<;>(try (exfalso;omega))))<;>(try (refine wS ?_)))))
 all_goals refine A9 (fun n' tm hp nx=>∃ (k:Nat) (L:List ByteArray),n'=args.length-k∧k≤args.length∧tm 1=.pt 0 0 0∧tm 4=gI k∧hp 0=some ⟨208,[[gI op,gI n,gS s,.sl (Ea args)]],true⟩∧0<nx∧((∃ q,tm 3=.own q∧hp q=some ⟨9,texts L,true⟩∧0<q∧q<nx)∨tm 3=.sl (texts L))∧Hid (L.length≤1+C4 (args.take k)∧Szs L)) (args.length) ?_ ?_
 ·exact⟨0,[s],rfl,Nat.zero_le _,byS,byS,byQ,by omega,.inl ⟨_,byQ,by rw[e1];exact byQ,by omega,by omega⟩,Lib.hid ⟨by simp,hs1.out⟩⟩
 rotate_left
 ·exact⟨0,[],rfl,Nat.zero_le _,byS,byS,byQ,by omega,.inl ⟨_,byQ,by rw[e0];exact byQ,by omega,by omega⟩,Lib.hid ⟨by simp,hs0.out⟩⟩
 all_goals
  rintro n' tm hp nx ⟨k,L,rfl,hk,g1,g4,h0,hx,hV,hL⟩
  by_cases hlt:k<args.length
  ·have a0:=List.getElem?_eq_getElem hlt
   have hnd:=A23 a0
   have htk:=Iu a0
   obtain⟨z,⟨hz1,hz2⟩,c1⟩:=ih.out _ (List.getElem_mem hlt) (by omega)
   generalize args[k]=x at *
   cases x with
   | mk op2 n2 s2 a2 =>
   rw[Bl] at c1
   have q4:=L2 a0
   replace hz2:=Lib.hid hz2
   generalize Ej (.mk op2 n2 s2 a2)=N2 at *
   obtain⟨T0,hT0⟩:∃ T,T=C4 (args.take k):=⟨_,rfl⟩
   rw[← hT0] at hL hnd htk
   replace htk:=Lib.hid htk
   clear a0 hT0
   rcases hV with⟨q,g3,hq,hq0,hqn⟩|g3
   all_goals
    (repeat' (first|exact trivial|refine stR ?_|((first|refine cv (c1) ?_|refine stp ?_|refine A0 (fun h=>?_) ?_|(refine gw (fun h=>?_) (fun h=>?_)<;>(try (exfalso;omega))))<;>(try (refine wS ?_)))))
    refine A9 (fun n2 tm hp nx=>∃ (m:Nat) (L:List ByteArray),n2=z.length-m∧m≤z.length∧tm 1=.pt 0 0 0∧tm 4=gI k∧tm 5=.sl (texts z)∧tm 6=gI m∧hp 0=some ⟨208,[[gI op,gI n,gS s,.sl (Ea args)]],true⟩∧0<nx∧((∃ q,tm 3=.own q∧hp q=some ⟨9,texts L,true⟩∧0<q∧q<nx)∨tm 3=.sl (texts L))∧Hid (L.length≤1+T0+m∧Szs L)) (z.length) ?_ ?_
    ·first
      | exact⟨0,L,rfl,Nat.zero_le _,byS,byS,byS,byS,byQ,by omega,.inl ⟨q,byS,byQ,by omega,by omega⟩,hL⟩
      | exact⟨0,L,rfl,Nat.zero_le _,byS,byS,byS,byS,byQ,by omega,.inr byS,hL⟩
   all_goals
    clear g1 g4 h0 hx hL
    rintro n2 tm hp nx ⟨m,L,rfl,hm,g1,g4,g5,g6,h0,hx,hV,hL⟩
    by_cases hmt:m<z.length
    ·have b0:=List.getElem?_eq_getElem hmt
     obtain⟨Z,⟨hZ1,hZ2,hZ3⟩,c2⟩:=A2k L (by have:=hL.out.1;omega) hL.out.2 z[m] (hz2.out _ (List.getElem_mem hmt))
     have e4:=Hc b0
     have e5:=C9 z
     have hns:=Af4 hZ2
     have hn:=Lib.hid (show Z.length≤1+T0+(m+1)∧Szs Z from ⟨by have:=hL.out.1;omega,hZ3⟩)
     generalize z[m]=w at *
     clear b0 hZ3
     rcases hV with⟨q,g3,hq,hq0,hqn⟩|g3
     ·have hqz:(0=q)=False:=eq_false (by omega)
      (repeat' (first|exact trivial|refine stR ?_|((first|refine cv (c2) ?_|refine stp ?_|refine A0 (fun h=>?_) ?_|(refine gw (fun h=>?_) (fun h=>?_)<;>(try (exfalso;omega))))<;>(try (refine wS ?_)))))
      all_goals exact A3 (z.length-(m+1)) (by omega) ⟨m+1,Z,rfl,by omega,byS,byS,byS,byS,byQ,by omega,.inr byS,hn⟩
     ·(repeat' (first|exact trivial|refine stR ?_|((first|refine cv (c2) ?_|refine stp ?_|refine A0 (fun h=>?_) ?_|(refine gw (fun h=>?_) (fun h=>?_)<;>(try (exfalso;omega))))<;>(try (refine wS ?_)))))
      all_goals exact A3 (z.length-(m+1)) (by omega) ⟨m+1,Z,rfl,by omega,byS,byS,byS,byS,byQ,by omega,.inr byS,hn⟩
    ·have e5:=C9 z
     have hn:=Lib.hid (show L.length≤1+C4 (args.take (k+1))∧Szs L from ⟨by have:=hL.out.1;have:=htk.out;omega,hL.out.2⟩)
     rcases hV with⟨q,g3,hq,hq0,hqn⟩|g3
     ·(repeat' (first|exact trivial|refine stR ?_|((first|refine stp ?_|refine A0 (fun h=>?_) ?_|(refine gw (fun h=>?_) (fun h=>?_)<;>(try (exfalso;omega))))<;>(try (refine wS ?_)))))
      all_goals exact A3 (args.length-(k+1)) (by omega) ⟨k+1,L,rfl,by omega,byS,byS,byQ,by omega,.inl ⟨q,byS,byQ,by omega,by omega⟩,hn⟩
     ·(repeat' (first|exact trivial|refine stR ?_|((first|refine stp ?_|refine A0 (fun h=>?_) ?_|(refine gw (fun h=>?_) (fun h=>?_)<;>(try (exfalso;omega))))<;>(try (refine wS ?_)))))
      all_goals exact A3 (args.length-(k+1)) (by omega) ⟨k+1,L,rfl,by omega,byS,byS,byQ,by omega,.inr byS,hn⟩
  ·have hfin:=Lib.hid (show L.length≤1+C4 args∧Szs L from ⟨by have:=hL.out.1;rwa [Qd (by omega)] at this,hL.out.2⟩)
   rcases hV with⟨q,g3,hq,hq0,hqn⟩|g3
   all_goals
    (repeat' (first|exact trivial|refine stR ?_|((first|refine stp ?_|refine A0 (fun h=>?_) ?_|(refine gw (fun h=>?_) (fun h=>?_)<;>(try (exfalso;omega))))<;>(try (refine wS ?_)))))
    all_goals (simp only[sxd,z0,p0,Nat.reduceEqDiff,↓reduceIte,Tryz.f303, *];exact⟨L,rfl,hfin.out⟩)
end D
end Go.Proofs.YtbhffbgbhgjdiaaGreatDoor
