/-
  Parts of the proof: U5 U8. Conditions: those that each theorem states.
-/
import Derived.Test.YtbhffbgbhgjdiaaGreatDoorM29
import Derived.Test.YtbhffbgbhgjdiaaGreatDoorM24
set_option linter.unusedSimpArgs false
set_option linter.unusedVariables false
namespace Go.Proofs.YtbhffbgbhgjdiaaGreatDoor
open Go.RowKit
set_option maxRecDepth 100000
namespace D
set_option maxHeartbeats 8000000 in
theorem A9p(L:List (List AV))(hn:Sz L.length)(hL:∀ x∈L,Fz x)(p:Aa3):∃ z:Int,True∧Cn 42 [.sl L,.agg [gI p.p1,gI p.p2,gI p.p3,gI p.p4,gI p.p5,gI p.p6,gI p.p7,gI p.p8,gI p.p9,gI p.p10,gI p.p11,gI p.p12,gI p.p13,gI p.p14]] (.val (gI z)):=by
 have hA:∀ k,k<14→∃ x,([[gI p.p1],[gI p.p2],[gI p.p3],[gI p.p4],[gI p.p5],[gI p.p6],[gI p.p7],[gI p.p8],[gI p.p9],[gI p.p10],[gI p.p11],[gI p.p12],[gI p.p13],[gI p.p14]]:List (List AV))[k]?=some [gI x]:=fun k h=>by
  rcases k with _|_|_|_|_|_|_|_|_|_|_|_|_|_|k<;>first|exact⟨_,rfl⟩|omega
 have hB:∀ k,k<14→∃ x,([[gI 1],[gI 2],[gI 5],[gI 4],[gI 4],[gI 2],[gI 1],[gI 1],[gI 4],[gI 4],[gI 2],[gI 5],[gI 5],[gI 4]]:List (List AV))[k]?=some [gI x]:=fun k h=>by
  rcases k with _|_|_|_|_|_|_|_|_|_|_|_|_|_|k<;>first|exact⟨_,rfl⟩|omega
 replace hA:=Lib.hid hA
 replace hB:=Lib.hid hB
 have cu:=Lib.hid fun id m=>A9c L hn hL id m
 have hw:=Apo hL
 have hsz:=hn
 unfold Sz at hn
 replace hL:=Lib.hid hL
 refine caS gI Tryz.func42 ?_
 (repeat' (first|exact trivial|refine stR ?_|((first|refine stp ?_|refine A0 (fun h=>?_) ?_|(refine gw (fun h=>?_) (fun h=>?_)<;>(try (exfalso;omega))))<;>(try (refine wS ?_)))))
 all_goals first
  | (simp only[sxd,z0,p0,Nat.reduceEqDiff,↓reduceIte,Tryz.f42, *];exact aX)
  | skip
 all_goals refine A9 (fun n tm hp nx=>∃ k:Nat,n=L.length-k∧k≤L.length∧tm 0=.sl L∧tm 3=.pt 0 0 0∧hp 0=some ⟨26,[[gI p.p1,gI p.p2,gI p.p3,gI p.p4,gI p.p5,gI p.p6,gI p.p7,gI p.p8,gI p.p9,gI p.p10,gI p.p11,gI p.p12,gI p.p13,gI p.p14]],true⟩∧0<nx∧tm 5=gI k) L.length ⟨0,rfl,Nat.zero_le _,byS,byS,byQ,by omega,byS⟩ ?_
 all_goals
  rintro n tm hp nx ⟨k,hnn,hk,g0,g3,b0,hx,g5⟩
  by_cases hlt:k<L.length
  ·obtain⟨a,b,c,s,e,hs,_⟩:=Px hL.out hlt
   obtain⟨x1,_,c1⟩:=A7y s hs
   obtain⟨⟨⟨f1,f2,f3,f4⟩,f5⟩,_,c2⟩:=Lu (L.take k) (by rw[List.length_take];unfold Sz;omega) (fun x hx=>hL.out x (List.mem_of_mem_take hx)) b
   have i1:0≤k∧k≤L.length:=by omega
   by_cases h0:0<k
   ·obtain⟨a2,b2,c3,s2,e2,_⟩:=Px hL.out (show k-1<L.length by omega)
    have e4:((k:Int)-1).toNat=k-1:=by omega
    (repeat' (first|exact trivial|refine stR ?_|((first|refine cv (c1) ?_|refine cv (c2) ?_|refine stp ?_|refine A0 (fun h=>?_) ?_|(refine gw (fun h=>?_) (fun h=>?_)<;>(try (exfalso;omega))))<;>(try (refine wS ?_)))))
    all_goals first
     | exact A3 (L.length-(k+1)) (by omega) ⟨k+1,rfl,by omega,byS,byS,byQ,by omega,byS⟩
     | (simp only[sxd,z0,p0,Nat.reduceEqDiff,↓reduceIte,Tryz.f42, *];exact aX)
   ·(repeat' (first|exact trivial|refine stR ?_|((first|refine cv (c1) ?_|refine cv (c2) ?_|refine stp ?_|refine A0 (fun h=>?_) ?_|(refine gw (fun h=>?_) (fun h=>?_)<;>(try (exfalso;omega))))<;>(try (refine wS ?_)))))
    all_goals first
     | exact A3 (L.length-(k+1)) (by omega) ⟨k+1,rfl,by omega,byS,byS,byQ,by omega,byS⟩
     | (simp only[sxd,z0,p0,Nat.reduceEqDiff,↓reduceIte,Tryz.f42, *];exact aX)
  ·(repeat' (first|exact trivial|refine stR ?_|((first|refine stp ?_|refine A0 (fun h=>?_) ?_|(refine gw (fun h=>?_) (fun h=>?_)<;>(try (exfalso;omega))))<;>(try (refine wS ?_)))))
   refine A9 (fun n tm hp nx=>∃ (k q1 q2:Nat) (E1 E2:List (List AV)),n=14-k∧k≤14∧tm 0=.sl L∧tm 11=gI k∧tm 9=.own q1∧tm 10=.own q2∧hp q1=some ⟨3,E1,true⟩∧hp q2=some ⟨3,E2,true⟩∧E1.length=14∧E2.length=14∧q1<nx∧q2<nx∧Hid (∀ k,k<14→∃ x,E1[k]?=some [gI x])∧Hid (∀ k,k<14→∃ x,E2[k]?=some [gI x])) 14 ⟨0,_,_,_,_,rfl,Nat.zero_le _,byS,byS,byS,byS,byQ,byQ,rfl,rfl,by omega,by omega,hA,hB⟩ ?_
   clear hnn hk g0 g3 b0 hx g5 hlt
   rintro n tm hp nx ⟨k,q1,q2,E1,E2,hnn,hk,g0,g11,g9,g10,b1,b2,l1,l2,n1,n2,hA1,hB1⟩
   by_cases hlt:k<14
   ·obtain⟨x,e1⟩:=hA1.out k hlt
    obtain⟨y,e2⟩:=hB1.out k hlt
    obtain⟨z,_,c1⟩:=cu.out x y
    clear hA hB cu
    (repeat' (first|exact trivial|refine stR ?_|((first|refine cv (c1) ?_|refine stp ?_|refine A0 (fun h=>?_) ?_|(refine gw (fun h=>?_) (fun h=>?_)<;>(try (exfalso;omega))))<;>(try (refine wS ?_)))))
    all_goals first
     | exact A3 (14-(k+1)) (by omega) ⟨k+1,q1,q2,E1,E2,rfl,by omega,byS,byS,byS,byS,byS,byS,l1,l2,by omega,by omega,hA1,hB1⟩
     | (simp only[sxd,z0,p0,Nat.reduceEqDiff,↓reduceIte,Tryz.f42, *];exact aX)
   ·clear cu
    (repeat' (first|exact trivial|refine stR ?_|((first|refine stp ?_|refine A0 (fun h=>?_) ?_|(refine gw (fun h=>?_) (fun h=>?_)<;>(try (exfalso;omega))))<;>(try (refine wS ?_)))))
    all_goals (simp only[sxd,z0,p0,Nat.reduceEqDiff,↓reduceIte,Tryz.f42, *];exact aX)
end D
theorem Py{L:List (List AV)}(hL:∀ x∈L,He x){k:Nat}(h:k<L.length):∃ a b c d e s,L[k]?=some [gI a,gI b,gI c,gI d,gI e,gS s]∧Sz s.size:=by
 obtain⟨a,b,c,d,e,s,h1,h2⟩:=hL _ (List.getElem_mem h)
 exact⟨a,b,c,d,e,s,by rw[List.getElem?_eq_getElem h,h1],h2⟩
theorem A3m{L:List (List AV)}(hL:∀ x∈L,I2 x){k:Nat}(h:k<L.length):∃ a b c d e f s,L[k]?=some [gI a,gI b,gI c,gI d,gI e,gI f,gS s]∧Sz s.size:=by
 obtain⟨a,b,c,d,e,f,s,h1,h2⟩:=hL _ (List.getElem_mem h)
 exact⟨a,b,c,d,e,f,s,by rw[List.getElem?_eq_getElem h,h1],h2⟩
theorem Acu{L:List (List AV)}(hL:∀ x∈L,He x):∀ x∈L,x.length=6:=fun x hx=>(Uw (hL x hx)).2.2
namespace D
set_option maxHeartbeats 4000000 in
theorem Afe(a b c d e:Int)(s:ByteArray)(hs:Sz s.size):∃ z:Int,True∧Cn 103 [.agg [gI a,gI b,gI c,gI d,gI e,gS s]] (.val (gI z)):=by
 have c1:=Be d
 have c2:=Be e
 obtain⟨x,_,c3⟩:∃ x:Bool,True∧Cn 160 [gS s] (.val (gB x)):=⟨_,trivial,Wt s (by unfold Sz at hs;omega)⟩
 refine caS gI Tryz.func103 ?_
 (repeat' (first|exact trivial|refine stR ?_|((first|refine cv (c1) ?_|refine cv (c2) ?_|refine cv (c3) ?_|refine stp ?_|refine A0 (fun h=>?_) ?_|(refine gw (fun h=>?_) (fun h=>?_)<;>(try (exfalso;omega))))<;>(try (refine wS ?_)))))
 all_goals (simp only[sxd,z0,p0,Nat.reduceEqDiff,↓reduceIte,Tryz.f103, *];exact aX)
set_option maxHeartbeats 4000000 in
theorem A22(L:List (List AV))(hn:Sz L.length)(hL:∀ x∈L,He x)(s:ByteArray):∃ z:Bool,True∧Cn 104 [.sl L,gS s] (.val (gB z)):=by
 unfold Sz at hn
 replace hL:=Lib.hid hL
 refine caS gB Tryz.func104 ?_
 (repeat' (first|exact trivial|refine stR ?_|((first|refine stp ?_|refine A0 (fun h=>?_) ?_|(refine gw (fun h=>?_) (fun h=>?_)<;>(try (exfalso;omega))))<;>(try (refine wS ?_)))))
 refine A9 (fun n tm hp nx=>∃ k:Nat,n=L.length-k∧k≤L.length∧tm 0=.sl L∧tm 1=gS s∧tm 5=gI k) (L.length) ⟨0,rfl,Nat.zero_le _,byS,byS,byS⟩ ?_
 rintro n tm hp nx ⟨k,rfl,hk,g0,g1,g5⟩
 by_cases hlt:k<L.length
 ·obtain⟨a,b,c,d,e,s2,e0,_⟩:=Py hL.out hlt
  (repeat' (first|exact trivial|refine stR ?_|((first|refine stp ?_|refine A0 (fun h=>?_) ?_|(refine gw (fun h=>?_) (fun h=>?_)<;>(try (exfalso;omega))))<;>(try (refine wS ?_)))))
  all_goals first
   | exact A3 (L.length-(k+1)) (by omega) ⟨k+1,rfl,by omega,byS,byS,byS⟩
   | (simp only[sxd,z0,p0,Nat.reduceEqDiff,↓reduceIte,Tryz.f104, *];exact aX)
 ·(repeat' (first|exact trivial|refine stR ?_|((first|refine stp ?_|refine A0 (fun h=>?_) ?_|(refine gw (fun h=>?_) (fun h=>?_)<;>(try (exfalso;omega))))<;>(try (refine wS ?_)))))
  all_goals (simp only[sxd,z0,p0,Nat.reduceEqDiff,↓reduceIte,Tryz.f104, *];exact aX)
set_option maxHeartbeats 4000000 in
theorem Acv(L:List (List AV))(hn:Sz L.length)(hL:∀ x∈L,He x):∃ z:Int,True∧Cn 46 [.sl L] (.val (gI z)):=by
 have hw:=Acu hL
 unfold Sz at hn
 replace hL:=Lib.hid hL
 refine caS gI Tryz.func46 ?_
 (repeat' (first|exact trivial|refine stR ?_|((first|refine stp ?_|refine A0 (fun h=>?_) ?_|(refine gw (fun h=>?_) (fun h=>?_)<;>(try (exfalso;omega))))<;>(try (refine wS ?_)))))
 all_goals first
  | (simp only[sxd,z0,p0,Nat.reduceEqDiff,↓reduceIte,Tryz.f46, *];exact aX)
  | skip
 refine A9 (fun n tm hp nx=>∃ k:Nat,n=L.length-k∧k≤L.length∧tm 0=.sl L∧tm 3=gI k) (L.length) ⟨0,rfl,Nat.zero_le _,byS,byS⟩ ?_
 rintro n tm hp nx ⟨k,rfl,hk,g0,g3⟩
 by_cases hlt:k<L.length
 ·obtain⟨a,b,c,d,e,s,e0,hs⟩:=Py hL.out hlt
  obtain⟨x1,_,c1⟩:=Afe a b c d e s hs
  obtain⟨x2,_,c2⟩:=A22 (L.take k) (by rw[List.length_take];unfold Sz;omega) (fun x hx=>hL.out x (List.mem_of_mem_take hx)) s
  have i1:0≤k∧k≤L.length:=by omega
  by_cases h0:0<k
  ·obtain⟨a2,b2,c3,d2,f2,s2,e2,_⟩:=Py hL.out (show k-1<L.length by omega)
   have e4:((k:Int)-1).toNat=k-1:=by omega
   (repeat' (first|exact trivial|refine stR ?_|((first|refine cv (c1) ?_|refine cv (c2) ?_|refine stp ?_|refine A0 (fun h=>?_) ?_|(refine gw (fun h=>?_) (fun h=>?_)<;>(try (exfalso;omega))))<;>(try (refine wS ?_)))))
   all_goals first
    | exact A3 (L.length-(k+1)) (by omega) ⟨k+1,rfl,by omega,byS,byS⟩
    | (simp only[sxd,z0,p0,Nat.reduceEqDiff,↓reduceIte,Tryz.f46, *];exact aX)
  ·(repeat' (first|exact trivial|refine stR ?_|((first|refine cv (c1) ?_|refine cv (c2) ?_|refine stp ?_|refine A0 (fun h=>?_) ?_|(refine gw (fun h=>?_) (fun h=>?_)<;>(try (exfalso;omega))))<;>(try (refine wS ?_)))))
   all_goals first
    | exact A3 (L.length-(k+1)) (by omega) ⟨k+1,rfl,by omega,byS,byS⟩
    | (simp only[sxd,z0,p0,Nat.reduceEqDiff,↓reduceIte,Tryz.f46, *];exact aX)
 ·(repeat' (first|exact trivial|refine stR ?_|((first|refine stp ?_|refine A0 (fun h=>?_) ?_|(refine gw (fun h=>?_) (fun h=>?_)<;>(try (exfalso;omega))))<;>(try (refine wS ?_)))))
  all_goals (simp only[sxd,z0,p0,Nat.reduceEqDiff,↓reduceIte,Tryz.f46, *];exact aX)
set_option maxHeartbeats 4000000 in
theorem A7a(a b c d e f:Int)(s:ByteArray):∃ z:Bool,True∧Cn 105 [.agg [gI a,gI b,gI c,gI d,gI e,gI f,gS s]] (.val (gB z)):=by
 have c1:=Be e
 have c2:=Be f
 refine caS gB Tryz.func105 ?_
 (repeat' (first|exact trivial|refine stR ?_|((first|refine cv (c1) ?_|refine cv (c2) ?_|refine stp ?_|refine A0 (fun h=>?_) ?_|(refine gw (fun h=>?_) (fun h=>?_)<;>(try (exfalso;omega))))<;>(try (refine wS ?_)))))
 all_goals (simp only[sxd,z0,p0,Nat.reduceEqDiff,↓reduceIte,Tryz.f105, *];exact aX)
set_option maxHeartbeats 4000000 in
theorem A68(L:List (List AV))(hn:Sz L.length)(hL:∀ x∈L,I2 x):∃ z:Int,True∧Cn 47 [.sl L] (.val (gI z)):=by
 unfold Sz at hn
 replace hL:=Lib.hid hL
 refine caS gI Tryz.func47 ?_
 (repeat' (first|exact trivial|refine stR ?_|((first|refine stp ?_|refine A0 (fun h=>?_) ?_|(refine gw (fun h=>?_) (fun h=>?_)<;>(try (exfalso;omega))))<;>(try (refine wS ?_)))))
 all_goals first
  | (simp only[sxd,z0,p0,Nat.reduceEqDiff,↓reduceIte,Tryz.f47, *];exact aX)
  | skip
 refine A9 (fun n tm hp nx=>∃ k:Nat,n=L.length-k∧k≤L.length∧tm 0=.sl L∧tm 3=gI k) (L.length) ⟨0,rfl,Nat.zero_le _,byS,byS⟩ ?_
 rintro n tm hp nx ⟨k,rfl,hk,g0,g3⟩
 by_cases hlt:k<L.length
 ·obtain⟨a,b,c,d,e,f,s,e0,hs⟩:=A3m hL.out hlt
  obtain⟨x1,_,c1⟩:=A7a a b c d e f s
  obtain⟨x2,_,c2⟩:=Ql s hs
  by_cases h0:0<k
  ·obtain⟨a2,b2,c3,d2,f2,g2,s2,e2,_⟩:=A3m hL.out (show k-1<L.length by omega)
   have e4:((k:Int)-1).toNat=k-1:=by omega
   (repeat' (first|exact trivial|refine stR ?_|((first|refine cv (c1) ?_|refine cv (c2) ?_|refine stp ?_|refine A0 (fun h=>?_) ?_|(refine gw (fun h=>?_) (fun h=>?_)<;>(try (exfalso;omega))))<;>(try (refine wS ?_)))))
   all_goals first
    | exact A3 (L.length-(k+1)) (by omega) ⟨k+1,rfl,by omega,byS,byS⟩
    | (simp only[sxd,z0,p0,Nat.reduceEqDiff,↓reduceIte,Tryz.f47, *];exact aX)
  ·(repeat' (first|exact trivial|refine stR ?_|((first|refine cv (c1) ?_|refine cv (c2) ?_|refine stp ?_|refine A0 (fun h=>?_) ?_|(refine gw (fun h=>?_) (fun h=>?_)<;>(try (exfalso;omega))))<;>(try (refine wS ?_)))))
   all_goals first
    | exact A3 (L.length-(k+1)) (by omega) ⟨k+1,rfl,by omega,byS,byS⟩
    | (simp only[sxd,z0,p0,Nat.reduceEqDiff,↓reduceIte,Tryz.f47, *];exact aX)
 ·(repeat' (first|exact trivial|refine stR ?_|((first|refine stp ?_|refine A0 (fun h=>?_) ?_|(refine gw (fun h=>?_) (fun h=>?_)<;>(try (exfalso;omega))))<;>(try (refine wS ?_)))))
  all_goals (simp only[sxd,z0,p0,Nat.reduceEqDiff,↓reduceIte,Tryz.f47, *];exact aX)
end D
end Go.Proofs.YtbhffbgbhgjdiaaGreatDoor
