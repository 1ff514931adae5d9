/-
  Parts of the proof: U6 U13. Conditions: those that each theorem states.
-/
import Derived.Test.YtbhffbgbhgjdiaaGreatDoorM29
import Derived.Test.YtbhffbgbhgjdiaaGreatDoorM32
set_option linter.unusedSimpArgs false
set_option linter.unusedVariables false
namespace Go.Proofs.YtbhffbgbhgjdiaaGreatDoor
open Go.RowKit
set_option maxRecDepth 100000
theorem Ajq{L:List (List AV)}(hL:∀ x∈L,I5 x){k:Nat}(h:k<L.length):∃ (x0:ByteArray) (x1:Int) (x2:Int) (x3:Int) (x4:ByteArray) (x5:List (List AV)) (x6:Int) (x7:Int) (x8:ByteArray) (x9:List (List AV)),L[k]?=some [gS x0,gI x1,gI x2,gI x3,gS x4,.sl x5,gI x6,gI x7,gS x8,.sl x9]∧I5 [gS x0,gI x1,gI x2,gI x3,gS x4,.sl x5,gI x6,gI x7,gS x8,.sl x9]:=by
 have h1:=hL _ (List.getElem_mem h)
 obtain⟨x0,x1,x2,x3,x4,x5,x6,x7,x8,x9,e⟩:=A1g h1
 rw[e] at h1
 exact⟨x0,x1,x2,x3,x4,x5,x6,x7,x8,x9,by rw[List.getElem?_eq_getElem h,e],h1⟩
theorem Ag7{L:List (List AV)}(hL:∀ x∈L,G1 x){k:Nat}(h:k<L.length):∃ (x0:ByteArray) (x1:Int) (x2:Int) (x3:Int) (x4:ByteArray) (x5:List (List AV)),L[k]?=some [gS x0,gI x1,gI x2,gI x3,gS x4,.sl x5]∧G1 [gS x0,gI x1,gI x2,gI x3,gS x4,.sl x5]:=by
 have h1:=hL _ (List.getElem_mem h)
 obtain⟨x0,x1,x2,x3,x4,x5,e⟩:=Vu h1
 rw[e] at h1
 exact⟨x0,x1,x2,x3,x4,x5,by rw[List.getElem?_eq_getElem h,e],h1⟩
namespace D
set_option maxHeartbeats 8000000 in
theorem A8j{p:ProdV}(h:p.Ok){C K:List (List AV)}(hC:∀ r∈C,Ju r)(hcn:Sz C.length)(hK:∀ r∈K,Gj r)(hkn:Sz K.length):∃ z:Int,True∧Cn 97 [.agg (Bw p),.sl C,.sl K] (.val (gI z)):=by
 obtain⟨x1,_,c1⟩:=Hs p.name h.s1
 obtain⟨⟨x2,y2⟩,⟨s2,n2,rfl⟩,c2⟩:=Nl hC hcn p.cur
 obtain⟨⟨x3,y3⟩,⟨s3,a3,b3,rfl⟩,c3⟩:=Z5 hK hkn p.cal
 obtain⟨x4,_,c4⟩:=Lf p.cr h.c
 obtain⟨x5,_,c5⟩:=Lf p.db h.d
 have c6:=Be p.frm
 have hff:=Lib.hid h.ff
 have hrr:=Lib.hid h.rr
 have nf:=h.f
 have nr:=h.r
 unfold Sz at nf nr
 unfold L5 at c4 c5
 clear h hC hcn hK hkn
 obtain⟨P1,P2,P3,P4,P5,P6,P7,⟨q1,q2,q3,q4,q5⟩,⟨r1,r2,r3,r4,r5⟩,F,R⟩:=p
 dsimp only at *
 unfold Bw
 dsimp only
 refine caS gI Tryz.func97 ?_
 (repeat' (first|exact trivial|refine stR ?_|((first|refine cv (c1) ?_|refine cv (c2) ?_|refine cv (c3) ?_|refine cv (c4) ?_|refine cv (c5) ?_|refine cv (c6) ?_|refine stp ?_|refine A0 (fun h=>?_) ?_|(refine gw (fun h=>?_) (fun h=>?_)<;>(try (exfalso;omega))))<;>(try (refine wS ?_)))))
 all_goals first
  | (simp only[sxd,z0,p0,Nat.reduceEqDiff,↓reduceIte,Tryz.f97, *];exact aX)
  | skip
 all_goals refine A9 (fun n tm hp nx=>∃ k:Nat,n=F.length-k∧k≤F.length∧tm 3=.pt 0 0 0∧hp 0=some ⟨72,[[gS P1,gS P2,gS P3,gI P4,gI P5,gI P6,gI P7,.sl (An q1),gB q2,gI q3,gI q4,gB q5,.sl (An r1),gB r2,gI r3,gI r4,gB r5,.sl F,.sl R]],true⟩∧0<nx∧tm 14=gI k) F.length ⟨0,rfl,Nat.zero_le _,byS,byQ,by omega,byS⟩ ?_
 all_goals
  clear c1 c2 c3 c4 c5 c6
  rintro n tm hp nx ⟨k,hnn,hk,g3,b0,hx,g14⟩
  by_cases hlt:k<F.length
  ·obtain⟨x0,x1,x2,x3,x4,x5,x6,x7,x8,x9,e0,hr⟩:=Ajq hff.out hlt
   obtain⟨z,_,c1⟩:=Ach hr
   clear hr
   (repeat' (first|exact trivial|refine stR ?_|((first|refine cv (c1) ?_|refine stp ?_|refine A0 (fun h=>?_) ?_|(refine gw (fun h=>?_) (fun h=>?_)<;>(try (exfalso;omega))))<;>(try (refine wS ?_)))))
   all_goals first
    | exact A3 (F.length-(k+1)) (by omega) ⟨k+1,rfl,by omega,byS,byQ,by omega,byS⟩
    | (simp only[sxd,z0,p0,Nat.reduceEqDiff,↓reduceIte,Tryz.f97, *];exact aX)
  ·(repeat' (first|exact trivial|refine stR ?_|((first|refine stp ?_|refine A0 (fun h=>?_) ?_|(refine gw (fun h=>?_) (fun h=>?_)<;>(try (exfalso;omega))))<;>(try (refine wS ?_)))))
   refine A9 (fun n tm hp nx=>∃ k:Nat,n=R.length-k∧k≤R.length∧tm 3=.pt 0 0 0∧hp 0=some ⟨72,[[gS P1,gS P2,gS P3,gI P4,gI P5,gI P6,gI P7,.sl (An q1),gB q2,gI q3,gI q4,gB q5,.sl (An r1),gB r2,gI r3,gI r4,gB r5,.sl F,.sl R]],true⟩∧0<nx∧tm 16=gI k) R.length ⟨0,rfl,Nat.zero_le _,byS,byQ,by omega,byS⟩ ?_
   clear hnn hk g3 b0 hx g14 hlt
   rintro n tm hp nx ⟨k,hnn,hk,g3,b0,hx,g14⟩
   by_cases hlt:k<R.length
   ·obtain⟨x0,x1,x2,x3,x4,x5,e0,hr⟩:=Ag7 hrr.out hlt
    obtain⟨z,_,c1⟩:=A8v hr
    clear hr
    (repeat' (first|exact trivial|refine stR ?_|((first|refine cv (c1) ?_|refine stp ?_|refine A0 (fun h=>?_) ?_|(refine gw (fun h=>?_) (fun h=>?_)<;>(try (exfalso;omega))))<;>(try (refine wS ?_)))))
    all_goals first
     | exact A3 (R.length-(k+1)) (by omega) ⟨k+1,rfl,by omega,byS,byQ,by omega,byS⟩
     | (simp only[sxd,z0,p0,Nat.reduceEqDiff,↓reduceIte,Tryz.f97, *];exact aX)
   ·(repeat' (first|exact trivial|refine stR ?_|((first|refine stp ?_|refine A0 (fun h=>?_) ?_|(refine gw (fun h=>?_) (fun h=>?_)<;>(try (exfalso;omega))))<;>(try (refine wS ?_)))))
    all_goals (simp only[sxd,z0,p0,Nat.reduceEqDiff,↓reduceIte,Tryz.f97, *];exact aX)
end D
theorem Ua{L:List (List AV)}(hL:∀ x∈L,Gj x){k:Nat}(h:k<L.length):∃ s we ho,L[k]?=some [gS s,.sl (Bf we),.sl (Bf ho)]∧Gj [gS s,.sl (Bf we),.sl (Bf ho)]:=by
 have h1:=hL _ (List.getElem_mem h)
 obtain⟨s,we,ho,e,_⟩:=id h1
 rw[e] at h1
 exact⟨s,we,ho,by rw[List.getElem?_eq_getElem h,e],h1⟩
namespace D
set_option maxHeartbeats 4000000 in
theorem A6e{L:List (List AV)}(hL:∀ r∈L,Gj r)(hn:Sz L.length):∃ z:Int,True∧Cn 41 [.sl L] (.val (gI z)):=by
 have bs:=fun t k x y=>@Xa Tryz.prog t k x y
 unfold Sz at hn
 replace hL:=Lib.hid hL
 refine caS gI Tryz.func41 ?_
 (repeat' (first|exact trivial|refine stR ?_|((first|refine stp ?_|refine A0 (fun h=>?_) ?_|(refine gw (fun h=>?_) (fun h=>?_)<;>(try (exfalso;omega))))<;>(try (refine wS ?_)))))
 refine A9 (fun n tm hp nx=>∃ k:Nat,n=L.length-k∧k≤L.length∧tm 0=.sl L∧tm 3=gI k) (L.length) ⟨0,rfl,Nat.zero_le _,byS,byS⟩ ?_
 rintro n tm hp nx ⟨k,rfl,hk,g0,g3⟩
 by_cases hlt:k<L.length
 ·obtain⟨s,we,ho,e0,hr⟩:=Ua hL.out hlt
  obtain⟨x1,_,c1⟩:=A9n hr
  clear hr
  by_cases h0:0<k
  ·obtain⟨s2,we2,ho2,e2,_⟩:=Ua hL.out (show k-1<L.length by omega)
   have e4:((k:Int)-1).toNat=k-1:=by omega
   (repeat' (first|exact trivial|refine stR ?_|((first|refine cv (c1) ?_|refine stp ?_|refine A0 (fun h=>?_) ?_|(refine gw (fun h=>?_) (fun h=>?_)<;>(try (exfalso;omega))))<;>(try (refine wS ?_)))))
   all_goals first
    | exact A3 (L.length-(k+1)) (by omega) ⟨k+1,rfl,by omega,byS,byS⟩
    | (simp only[sxd,z0,p0,Nat.reduceEqDiff,↓reduceIte,Tryz.f41, *];exact aX)
  ·(repeat' (first|exact trivial|refine stR ?_|((first|refine cv (c1) ?_|refine stp ?_|refine A0 (fun h=>?_) ?_|(refine gw (fun h=>?_) (fun h=>?_)<;>(try (exfalso;omega))))<;>(try (refine wS ?_)))))
   all_goals first
    | exact A3 (L.length-(k+1)) (by omega) ⟨k+1,rfl,by omega,byS,byS⟩
    | (simp only[sxd,z0,p0,Nat.reduceEqDiff,↓reduceIte,Tryz.f41, *];exact aX)
 ·(repeat' (first|exact trivial|refine stR ?_|((first|refine stp ?_|refine A0 (fun h=>?_) ?_|(refine gw (fun h=>?_) (fun h=>?_)<;>(try (exfalso;omega))))<;>(try (refine wS ?_)))))
  all_goals (simp only[sxd,z0,p0,Nat.reduceEqDiff,↓reduceIte,Tryz.f41, *];exact aX)
set_option maxHeartbeats 4000000 in
theorem A2f{b:BkV}(hb:b.Ok)(j:List (List AV)):∃ z:Int,True∧Cn 43 [.agg (bkC b j)] (.val (gI z)):=by
 obtain⟨x1,_,c1⟩:=Ab9 (l:=b.prods) hb.n4
 have cp:=Lib.hid fun (p:ProdV) (h:p∈b.prods)=>A8j (hb.r4 p h) hb.r1 hb.n1 hb.r2 hb.n2
 have hl:=H8 b.prods
 have hn:=hb.n4
 unfold Sz at hn
 clear hb
 unfold bkC
 refine caS gI Tryz.func43 ?_
 (repeat' (first|exact trivial|refine stR ?_|((first|refine cv (c1) ?_|refine stp ?_|refine A0 (fun h=>?_) ?_|(refine gw (fun h=>?_) (fun h=>?_)<;>(try (exfalso;omega))))<;>(try (refine wS ?_)))))
 refine A9 (fun n tm hp nx=>∃ (k:Nat) (z:Int),n=b.prods.length-k∧k≤b.prods.length∧tm 1=.pt 0 0 0∧hp 0=some ⟨33,[bkC b j],true⟩∧0<nx∧tm 3=gI z∧tm 4=gI k) (b.prods.length) ⟨0,_,rfl,Nat.zero_le _,byS,by unfold bkC;exact byQ,by omega,byS,byS⟩ ?_
 clear c1
 rintro n tm hp nx ⟨k,z,rfl,hk,g1,h0,hx,g3,g4⟩
 unfold bkC at h0
 by_cases hlt:k<b.prods.length
 ·have e:=Cl (List.getElem?_eq_getElem hlt)
  obtain⟨w,_,c2⟩:=cp.out _ (List.getElem_mem hlt)
  unfold Bw at c2
  generalize b.prods[k]=p at *
  clear cp
  (repeat' (first|exact trivial|refine stR ?_|((first|refine cv (c2) ?_|refine stp ?_|refine A0 (fun h=>?_) ?_|(refine gw (fun h=>?_) (fun h=>?_)<;>(try (exfalso;omega))))<;>(try (refine wS ?_)))))
  all_goals first
   | exact A3 (b.prods.length-(k+1)) (by omega) ⟨k+1,_,rfl,by omega,byS,by unfold bkC;exact byQ,by omega,byS,byS⟩
   | (simp only[sxd,z0,p0,Nat.reduceEqDiff,↓reduceIte,Tryz.f43, *];exact aX)
 ·clear cp
  (repeat' (first|exact trivial|refine stR ?_|((first|refine stp ?_|refine A0 (fun h=>?_) ?_|(refine gw (fun h=>?_) (fun h=>?_)<;>(try (exfalso;omega))))<;>(try (refine wS ?_)))))
  all_goals (simp only[sxd,z0,p0,Nat.reduceEqDiff,↓reduceIte,Tryz.f43, *];exact aX)
end D
end Go.Proofs.YtbhffbgbhgjdiaaGreatDoor
