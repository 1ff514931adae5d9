/-
  Parts of the proof: U1 U11 U12 U14 U2 U4 U17. Conditions: those that each theorem states.
-/
import Derived.Test.YtbhffbgbhgjdiaaGreatDoorM26
import Derived.Test.YtbhffbgbhgjdiaaGreatDoorM27
import Derived.Test.YtbhffbgbhgjdiaaGreatDoorM10
import Derived.Test.YtbhffbgbhgjdiaaGreatDoorM25
import Derived.Test.YtbhffbgbhgjdiaaGreatDoorM24
set_option linter.unusedSimpArgs false
set_option linter.unusedVariables false
namespace Go.Proofs.YtbhffbgbhgjdiaaGreatDoor
open Go.RowKit
set_option maxRecDepth 100000
theorem Rm{s:ByteArray}(h1:¬ s=⟨#[]⟩):1≤s.size:=by
 apply Classical.byContradiction
 intro hn
 refine h1 (Mb (?_:s.data.toList=[]))
 exact List.eq_nil_of_length_eq_zero (by rw[Cs];omega)
structure GlV where
 a:Int
 b:Int
 c:Int
 s:ByteArray
abbrev gGl(z:GlV×Bool):AV:=.tup [.agg [gI z.1.a,gI z.1.b,gI z.1.c,gS z.1.s],gB z.2]
theorem Px{L:List (List AV)}(hL:∀ x∈L,Fz x){k:Nat}(h:k<L.length):∃ a b c s,L[k]?=some [gI a,gI b,gI c,gS s]∧Sz s.size∧I64 a:=by
 obtain⟨a,b,c,s,e,h1,h2⟩:=hL _ (List.getElem_mem h)
 exact⟨a,b,c,s,by rw[List.getElem?_eq_getElem h,e],h1,h2⟩
theorem Apo{L:List (List AV)}(hL:∀ x∈L,Fz x):∀ x∈L,x.length=4:=fun x hx=>by
 obtain⟨a,b,c,s,rfl,_⟩:=hL x hx
 rfl
namespace D
set_option maxHeartbeats 2000000 in
theorem A7y(s:ByteArray)(hs:Sz s.size):∃ x:Bool,True∧Cn 93 [gS s] (.val (gB x)):=by
 unfold Sz at hs
 by_cases h1:s=⟨#[]⟩
 ·have hd:(s=⟨#[]⟩)=True:=eq_true h1
  have hd2:decide True=true:=rfl
  clear h1
  refine caS gB Tryz.func93 ?_
  (repeat' (first|exact trivial|refine stR ?_|((first|refine stp ?_|refine A0 (fun h=>?_) ?_|(refine gw (fun h=>?_) (fun h=>?_)<;>(try (exfalso;omega))))<;>(try (refine wS ?_)))))
  all_goals (simp only[sxd,z0,p0,Nat.reduceEqDiff,↓reduceIte,Tryz.f93, *];exact aX)
 ·have h2:=Rm h1
  have hd:(s=⟨#[]⟩)=False:=eq_false h1
  have hd2:decide False=false:=rfl
  clear h1
  have e0:=Em s 0 (by omega)
  refine caS gB Tryz.func93 ?_
  (repeat' (first|exact trivial|refine stR ?_|((first|refine stp ?_|refine A0 (fun h=>?_) ?_|(refine gw (fun h=>?_) (fun h=>?_)<;>(try (exfalso;omega))))<;>(try (refine wS ?_)))))
  all_goals first
   | (simp only[sxd,z0,p0,Nat.reduceEqDiff,↓reduceIte,Tryz.f93, *];exact aX)
   | skip
  all_goals refine A9 (fun n tm hp nx=>∃ k:Nat,n=s.size-k∧k≤s.size∧tm 0=gS s∧tm 3=gI k) (s.size-1) ⟨1,by omega,by omega,byS,byS⟩ ?_
  all_goals
   rintro n tm hp nx ⟨k,hnn,hk,g0,g3⟩
   by_cases hlt:k<s.size
   ·generalize hc:s[k]'hlt=c at *
    (repeat' (first|exact trivial|refine stR ?_|((first|refine stp ?_|refine A0 (fun h=>?_) ?_|(refine gw (fun h=>?_) (fun h=>?_)<;>(try (exfalso;omega))))<;>(try (refine wS ?_)))))
    all_goals first
     | exact A3 (s.size-(k+1)) (by omega) ⟨k+1,rfl,by omega,byS,byS⟩
     | (simp only[sxd,z0,p0,Nat.reduceEqDiff,↓reduceIte,Tryz.f93, *];exact aX)
   ·(repeat' (first|exact trivial|refine stR ?_|((first|refine stp ?_|refine A0 (fun h=>?_) ?_|(refine gw (fun h=>?_) (fun h=>?_)<;>(try (exfalso;omega))))<;>(try (refine wS ?_)))))
    all_goals (simp only[sxd,z0,p0,Nat.reduceEqDiff,↓reduceIte,Tryz.f93, *];exact aX)
set_option maxHeartbeats 2000000 in
theorem Lu(L:List (List AV))(hn:Sz L.length)(hL:∀ x∈L,Fz x)(id:Int):∃ z:GlV×Bool,True∧Cn 94 [.sl L,gI id] (.val (gGl z)):=by
 unfold Sz at hn
 replace hL:=Lib.hid hL
 refine caS gGl Tryz.func94 ?_
 (repeat' (first|exact trivial|refine stR ?_|((first|refine stp ?_|refine A0 (fun h=>?_) ?_|(refine gw (fun h=>?_) (fun h=>?_)<;>(try (exfalso;omega))))<;>(try (refine wS ?_)))))
 refine A9 (fun n tm hp nx=>∃ k:Nat,n=L.length-k∧k≤L.length∧tm 0=.sl L∧tm 1=gI id∧tm 6=gI k∧tm 4=.pt 0 0 0∧hp 0=some ⟨138,[[gI 0,gI 0,gI 0,gS ⟨#[]⟩]],true⟩∧0<nx) (L.length) ⟨0,rfl,Nat.zero_le _,byS,byS,byS,byS,byQ,by omega⟩ ?_
 rintro n tm hp nx ⟨k,rfl,hk,g0,g1,g6,g4,h0,hx⟩
 by_cases hlt:k<L.length
 ·obtain⟨a,b,c,s,e,_⟩:=Px hL.out hlt
  (repeat' (first|exact trivial|refine stR ?_|((first|refine stp ?_|refine A0 (fun h=>?_) ?_|(refine gw (fun h=>?_) (fun h=>?_)<;>(try (exfalso;omega))))<;>(try (refine wS ?_)))))
  all_goals first
   | exact A3 (L.length-(k+1)) (by omega) ⟨k+1,rfl,by omega,byS,byS,byS,byS,byQ,by omega⟩
   | ((refine rc3 rfl ?_);first|exact⟨(⟨_,_,_,_⟩,_),rfl⟩|exact⟨(⟨_,_,_,_⟩,_),rfl,trivial⟩)
 ·(repeat' (first|exact trivial|refine stR ?_|((first|refine stp ?_|refine A0 (fun h=>?_) ?_|(refine gw (fun h=>?_) (fun h=>?_)<;>(try (exfalso;omega))))<;>(try (refine wS ?_)))))
  all_goals (refine rc3 rfl ?_)
  all_goals first|exact⟨(⟨_,_,_,_⟩,_),rfl⟩|exact⟨(⟨_,_,_,_⟩,_),rfl,trivial⟩
set_option maxHeartbeats 2000000 in
theorem Wr(L:List (List AV))(hn:Sz L.length)(hL:∀ x∈L,Fz x)(id:Int):∃ z:Bool,True∧Cn 147 [.sl L,gI id] (.val (gB z)):=by
 unfold Sz at hn
 replace hL:=Lib.hid hL
 refine caS gB Tryz.func147 ?_
 (repeat' (first|exact trivial|refine stR ?_|((first|refine stp ?_|refine A0 (fun h=>?_) ?_|(refine gw (fun h=>?_) (fun h=>?_)<;>(try (exfalso;omega))))<;>(try (refine wS ?_)))))
 refine A9 (fun n tm hp nx=>∃ k:Nat,n=L.length-k∧k≤L.length∧tm 0=.sl L∧tm 1=gI id∧tm 5=gI k) (L.length) ⟨0,rfl,Nat.zero_le _,byS,byS,byS⟩ ?_
 rintro n tm hp nx ⟨k,rfl,hk,g0,g1,g5⟩
 by_cases hlt:k<L.length
 ·obtain⟨a,b,c,s,e,_⟩:=Px hL.out hlt
  (repeat' (first|exact trivial|refine stR ?_|((first|refine stp ?_|refine A0 (fun h=>?_) ?_|(refine gw (fun h=>?_) (fun h=>?_)<;>(try (exfalso;omega))))<;>(try (refine wS ?_)))))
  all_goals first
   | exact A3 (L.length-(k+1)) (by omega) ⟨k+1,rfl,by omega,byS,byS,byS⟩
   | (simp only[sxd,z0,p0,Nat.reduceEqDiff,↓reduceIte,Tryz.f147, *];exact aX)
 ·(repeat' (first|exact trivial|refine stR ?_|((first|refine stp ?_|refine A0 (fun h=>?_) ?_|(refine gw (fun h=>?_) (fun h=>?_)<;>(try (exfalso;omega))))<;>(try (refine wS ?_)))))
  all_goals (simp only[sxd,z0,p0,Nat.reduceEqDiff,↓reduceIte,Tryz.f147, *];exact aX)
theorem A9c(L:List (List AV))(hn:Sz L.length)(hL:∀ x∈L,Fz x)(id m:Int):∃ z:Int,True∧Cn 95 [.sl L,gI id,gI m] (.val (gI z)):=by
 obtain⟨⟨⟨a,b,c,s⟩,f⟩,_,c1⟩:=Lu L hn hL id
 obtain⟨z,_,c2⟩:=Wr L hn hL id
 clear hL
 refine caS gI Tryz.func95 ?_
 (repeat' (first|exact trivial|refine stR ?_|((first|refine cv (c1) ?_|refine cv (c2) ?_|refine stp ?_|refine A0 (fun h=>?_) ?_|(refine gw (fun h=>?_) (fun h=>?_)<;>(try (exfalso;omega))))<;>(try (refine wS ?_)))))
 all_goals (simp only[sxd,z0,p0,Nat.reduceEqDiff,↓reduceIte,Tryz.f95, *];exact aX)
end D
theorem Azw(n:Int):∃ c:UInt8,IntKind.u8.wrap n=(c.toNat:Int):=by
 have h:0≤IntKind.u8.wrap n∧IntKind.u8.wrap n≤255:=by
  have e:IntKind.u8.wrap n=n % 256:=rfl
  rw[e]
  omega
 refine⟨UInt8.ofNat (IntKind.u8.wrap n).toNat, ?_⟩
 rw[UInt8.toNat_ofNat']
 omega
namespace D
set_option maxHeartbeats 4000000 in
theorem Nc(h:Int)(hh:U64 h)(s:ByteArray)(hs:s.size≤4611686018427387904):∃ x:Int,U64 x∧Cn 246 [.ex (.int .u64 h),gS s] (.val (gU x)):=by
 refine caS gU Tryz.func246 ?_
 (repeat' (first|exact trivial|refine stR ?_|((first|refine stp ?_|refine A0 (fun h=>?_) ?_|(refine gw (fun h=>?_) (fun h=>?_)<;>(try (exfalso;omega))))<;>(try (refine wS ?_)))))
 refine A9 (fun n tm hp nx=>∃ (k:Nat) (m:Int),n=s.size-k∧k≤s.size∧Hid (U64 m)∧tm 0=.ex (.int .u64 m)∧tm 1=gS s∧tm 5=gI k) s.size ⟨0,h,rfl,Nat.zero_le _,Lib.hid hh,byS,byS,byS⟩ ?_
 rintro n tm hp nx ⟨k,m,hnn,hk,hm,g0,g1,g8⟩
 by_cases hlt:k<s.size
 ·have f1:=Em s k hlt
  generalize s[k]'hlt=c at f1
  (repeat' (first|exact trivial|refine stR ?_|((first|refine stp ?_|refine A0 (fun h=>?_) ?_|(refine gw (fun h=>?_) (fun h=>?_)<;>(try (exfalso;omega))))<;>(try (refine wS ?_)))))
  all_goals first
   | exact A3 (s.size-(k+1)) (by omega) ⟨k+1,_,rfl,by omega,Lib.hid (Ey _),byS,byS,byS⟩
 ·(repeat' (first|exact trivial|refine stR ?_|((first|refine stp ?_|refine A0 (fun h=>?_) ?_|(refine gw (fun h=>?_) (fun h=>?_)<;>(try (exfalso;omega))))<;>(try (refine wS ?_)))))
  all_goals (simp only[sxd,z0,p0,Nat.reduceEqDiff,↓reduceIte,Tryz.f246, *];exact⟨_,rfl,hm.out⟩)
theorem A7b(s:ByteArray)(hs:s.size≤4611686018427387904):∃ x:Int,U64 x∧Cn 247 [gS s] (.val (gU x)):=by
 obtain⟨z,hz,c1⟩:=Nc 14695981039346656037 (by unfold U64;omega) s hs
 refine caS gU Tryz.func247 ?_
 (repeat' (first|exact trivial|refine stR ?_|((first|refine cv (c1) ?_|refine stp ?_|refine A0 (fun h=>?_) ?_|(refine gw (fun h=>?_) (fun h=>?_)<;>(try (exfalso;omega))))<;>(try (refine wS ?_)))))
 all_goals (simp only[sxd,z0,p0,Nat.reduceEqDiff,↓reduceIte,Tryz.f247, *];exact⟨_,rfl,hz⟩)
set_option maxHeartbeats 4000000 in
theorem A19(h:Int)(hh:U64 h):∃ x:ByteArray,x.size=8∧Cn 248 [.ex (.int .u64 h)] (.val (gS x)):=by
 unfold U64 at hh
 refine caS gS Tryz.func248 ?_
 (repeat' (first|exact trivial|refine stR ?_|((first|refine stp ?_|refine A0 (fun h=>?_) ?_|(refine gw (fun h=>?_) (fun h=>?_)<;>(try (exfalso;omega))))<;>(try (refine wS ?_)))))
 have hb0:B3 []=[]:=rfl
 refine A9 (fun n tm hp nx=>∃ (k q:Nat) (m:Int) (l:List UInt8),n=8-k∧k≤8∧(0≤m∧m≤18446744073709551615)∧tm 0=.ex (.int .u64 m)∧tm 3=.own q∧hp q=some ⟨5,B3 l,true⟩∧q<nx∧l.length=k∧tm 4=gI k) 8 ⟨0,_,h,[],rfl,Nat.zero_le _,hh,byS,byS,byQ,by omega,rfl,byS⟩ ?_
 rintro n tm hp nx ⟨k,q,m,l,hnn,hk,hm,g0,g3,hq,hqn,hl,g4⟩
 have q1:(B3 l).length=l.length:=by simp [B3]
 by_cases hlt:k<8
 ·obtain⟨c,hc⟩:=Azw (m.tmod 256)
  have qs:B3 l++[[.ex (.int .u8 c.toNat)]]=B3 (l++[c]):=by simp [B3]
  (repeat' (first|exact trivial|refine stR ?_|((first|refine stp ?_|refine A0 (fun h=>?_) ?_|(refine gw (fun h=>?_) (fun h=>?_)<;>(try (exfalso;omega))))<;>(try (refine wS ?_)))))
  all_goals first
   | exact A3 (8-(k+1)) (by omega) ⟨k+1,_,_,l++[c],rfl,by omega,Ey _,byS,byS,by first|exact byQ|exact byO,by omega,by rw[List.length_append,hl];rfl,byS⟩
 ·have hk8:l.length=8:=by omega
  have ts:∀ kk,toStr hp (.own q) kk=kk ⟨l.toArray⟩:=fun kk=>A99 (by rw[hq];rfl)
  (repeat' (first|exact trivial|refine stR ?_|((first|refine stp ?_|refine A0 (fun h=>?_) ?_|(refine gw (fun h=>?_) (fun h=>?_)<;>(try (exfalso;omega))))<;>(try (refine wS ?_)))))
  all_goals first
   | (simp only[sxd,z0,p0,Nat.reduceEqDiff,↓reduceIte,Tryz.f248, *];exact⟨_,rfl,by rw[← hk8];rfl⟩)
theorem Pd(h:Int)(hh:U64 h)(s:ByteArray)(hs:s.size≤4611686018427387904):∃ x:Int,U64 x∧Cn 200 [.ex (.int .u64 h),gS s] (.val (gU x)):=by
 obtain⟨x1,h1,c1⟩:=A19 h hh
 obtain⟨x2,h2,c2⟩:=A7b x1 (by omega)
 obtain⟨x3,h3,c3⟩:=Nc x2 h2 s hs
 refine caS gU Tryz.func200 ?_
 (repeat' (first|exact trivial|refine stR ?_|((first|refine cv (c1) ?_|refine cv (c2) ?_|refine cv (c3) ?_|refine stp ?_|refine A0 (fun h=>?_) ?_|(refine gw (fun h=>?_) (fun h=>?_)<;>(try (exfalso;omega))))<;>(try (refine wS ?_)))))
 all_goals (simp only[sxd,z0,p0,Nat.reduceEqDiff,↓reduceIte,Tryz.f200, *];exact⟨_,rfl,h3⟩)
end D
theorem B0k{N:Nat}(h:(N:Int)≤18446744073709551615):N<10 ^ 20:=by
 have e:(10:Nat) ^ 20=100000000000000000000:=by decide
 omega
namespace D
set_option maxHeartbeats 4000000 in
theorem Qa(n:Int)(hn:U64 n):∃ x:ByteArray,x.size≤20∧Cn 280 [.ex (.int .u64 n)] (.val (gS x)):=by
 unfold U64 at hn
 obtain⟨N,rfl⟩:=Int.eq_ofNat_of_zero_le hn.1
 have hD:(⟨#[48,49,50,51,52,53,54,55,56,57]⟩:ByteArray).size=10:=rfl
 have zz:∀ a b:ByteArray,(a++b).size=a.size+b.size:=fun a b=>ByteArray.size_append
 refine caS gS Tryz.func280 ?_
 (repeat' (first|exact trivial|refine stR ?_|((first|refine stp ?_|refine A0 (fun h=>?_) ?_|(refine gw (fun h=>?_) (fun h=>?_)<;>(try (exfalso;omega))))<;>(try (refine wS ?_)))))
 refine A9 (fun v tm hp nx=>∃ (M:Nat) (s:ByteArray),s.size+v=20∧M≤18446744073709551615∧Hid (M<10 ^ v)∧tm 0=.ex (.int .u64 M)∧tm 3=gS s) 20 ⟨N,⟨#[]⟩,rfl,by omega,Lib.hid (B0k hn.2),byS,byS⟩ ?_
 rintro v tm hp nx ⟨M,s,hs,hM,hv,g0,g3⟩
 have t1:Int.tmod (M:Int) 10=((M % 10:Nat):Int):=by rw[Int.tmod_eq_emod_of_nonneg (by omega)];omega
 have t2:Int.tdiv (M:Int) 10=((M / 10:Nat):Int):=by rw[Int.tdiv_eq_ediv_of_nonneg (by omega)];omega
 have w1:IntKind.u64.wrap ((M / 10:Nat):Int)=((M / 10:Nat):Int):=by rw[IntKind.wrap_u64];omega
 have d1:((⟨#[48,49,50,51,52,53,54,55,56,57]⟩:ByteArray).extract (M % 10) (((M % 10:Nat):Int)+1).toNat).size=1:=by rw[ByteArray.size_extract,hD];omega
 have d2:0≤((M % 10:Nat):Int)∧((M % 10:Nat):Int)≤9:=by omega
 cases v with
 | zero =>
  have hM0:M=0:=by have:=hv.out;omega
  subst hM0
  have hd:(s=⟨#[]⟩)=False:=eq_false (fun h=>by rw[h] at hs;cases hs)
  have hd2:decide False=false:=rfl
  clear hv t1 t2 w1 d1 d2
  (repeat' (first|exact trivial|refine stR ?_|((first|refine stp ?_|refine A0 (fun h=>?_) ?_|(refine gw (fun h=>?_) (fun h=>?_)<;>(try (exfalso;omega))))<;>(try (refine wS ?_)))))
  all_goals first
   | (simp only[sxd,z0,p0,Nat.reduceEqDiff,↓reduceIte,Tryz.f280, *];exact⟨s,rfl,by omega⟩)
 | succ v =>
  have hv2:Hid (M / 10<10 ^ v):=Lib.hid (by have:=hv.out;rw[Nat.pow_succ] at this;omega)
  by_cases h1:s=⟨#[]⟩
  ·have hd:(s=⟨#[]⟩)=True:=eq_true h1
   have hd2:decide True=true:=rfl
   have hs0:s.size=0:=by rw[h1];rfl
   clear h1 hv
   (repeat' (first|exact trivial|refine stR ?_|((first|refine stp ?_|refine A0 (fun h=>?_) ?_|(refine gw (fun h=>?_) (fun h=>?_)<;>(try (exfalso;omega))))<;>(try (refine wS ?_)))))
   all_goals first
    | exact A3 v (by omega) ⟨M / 10,(⟨#[48,49,50,51,52,53,54,55,56,57]⟩:ByteArray).extract (M % 10) (((M % 10:Nat):Int)+1).toNat++s,by simp only[zz,d1];omega,by omega,hv2,byS,byS⟩
  ·have hd:(s=⟨#[]⟩)=False:=eq_false h1
   have hd2:decide False=false:=rfl
   clear h1 hv
   by_cases hp0:0<(M:Int)
   ·(repeat' (first|exact trivial|refine stR ?_|((first|refine stp ?_|refine A0 (fun h=>?_) ?_|(refine gw (fun h=>?_) (fun h=>?_)<;>(try (exfalso;omega))))<;>(try (refine wS ?_)))))
    all_goals first
     | exact A3 v (by omega) ⟨M / 10,(⟨#[48,49,50,51,52,53,54,55,56,57]⟩:ByteArray).extract (M % 10) (((M % 10:Nat):Int)+1).toNat++s,by simp only[zz,d1];omega,by omega,hv2,byS,byS⟩
   ·(repeat' (first|exact trivial|refine stR ?_|((first|refine stp ?_|refine A0 (fun h=>?_) ?_|(refine gw (fun h=>?_) (fun h=>?_)<;>(try (exfalso;omega))))<;>(try (refine wS ?_)))))
    all_goals first
     | (simp only[sxd,z0,p0,Nat.reduceEqDiff,↓reduceIte,Tryz.f280, *];exact⟨s,rfl,by omega⟩)
theorem Dw(n:Int)(hn:I64 n):∃ x:ByteArray,x.size≤21∧Cn 250 [gI n] (.val (gS x)):=by
 unfold I64 at hn
 have zz:∀ a b:ByteArray,(a++b).size=a.size+b.size:=fun a b=>ByteArray.size_append
 have z1:(⟨#[45]⟩:ByteArray).size=1:=rfl
 by_cases h0:0≤n
 ·obtain⟨s1,h1,c1⟩:=Qa n (by unfold U64;omega)
  refine caS gS Tryz.func250 ?_
  (repeat' (first|exact trivial|refine stR ?_|((first|refine cv (c1) ?_|refine stp ?_|refine A0 (fun h=>?_) ?_|(refine gw (fun h=>?_) (fun h=>?_)<;>(try (exfalso;omega))))<;>(try (refine wS ?_)))))
  all_goals (simp only[sxd,z0,p0,Nat.reduceEqDiff,↓reduceIte,Tryz.f250, *];exact⟨s1,rfl,by omega⟩)
 ·obtain⟨s2,h2,c2⟩:=Qa (IntKind.u64.wrap (IntKind.u64.wrap (((BitVec.ofInt IntKind.u64.bits (if IntKind.u64.signed=true then -1 else IntKind.u64.max) ^^^ BitVec.ofInt IntKind.u64.bits (IntKind.u64.wrap n)).toNat:Int))+1)) (Ey _)
  refine caS gS Tryz.func250 ?_
  (repeat' (first|exact trivial|refine stR ?_|((first|refine cv (c2) ?_|refine stp ?_|refine A0 (fun h=>?_) ?_|(refine gw (fun h=>?_) (fun h=>?_)<;>(try (exfalso;omega))))<;>(try (refine wS ?_)))))
  all_goals first
   | (simp only[sxd,z0,p0,Nat.reduceEqDiff,↓reduceIte,Tryz.f250, *];exact⟨_,rfl,by rw[zz,z1];omega⟩)
def Dp:List ByteArray→Nat
 | []=>0
 | s :: l=>s.size+Dp l
theorem A94(a b:List ByteArray):Dp (a++b)=Dp a+Dp b:=by
 induction a with
 | nil=>simp [Dp]
 | cons x l ih=>simp [Dp,ih];omega
theorem Qt{l:List ByteArray}{k:Nat}{s:ByteArray}(h:l[k]?=some s):Dp (l.take (k+1))=Dp (l.take k)+s.size:=by
 rw[List.take_add_one,h,A94]
 simp [Dp]
set_option maxHeartbeats 4000000 in
theorem Lx(l:List ByteArray)(hn:l.length≤100)(hs:∀ s∈l,s.size≤36028797018963968):∃ x:ByteArray,x.size≤Dp l+22*l.length∧Cn 249 [.sl (texts l)] (.val (gS x)):=by
 have q1:=C9 l
 have zz:∀ a b:ByteArray,(a++b).size=a.size+b.size:=fun a b=>ByteArray.size_append
 have z1:(⟨#[58]⟩:ByteArray).size=1:=rfl
 have hb:∀ k,k≤l.length→Dp (l.take k)≤k*36028797018963968:=fun k=>by
  induction k with
  | zero=>intro _;simp [Dp]
  | succ k ih =>
   intro h
   have e:=List.getElem?_eq_getElem (show k<l.length by omega)
   rw[Qt e]
   have h1:=ih (by omega)
   have h2:=hs _ (List.getElem_mem (show k<l.length by omega))
   omega
 replace hs:=Lib.hid hs
 replace hb:=Lib.hid hb
 refine caS gS Tryz.func249 ?_
 (repeat' (first|exact trivial|refine stR ?_|((first|refine stp ?_|refine A0 (fun h=>?_) ?_|(refine gw (fun h=>?_) (fun h=>?_)<;>(try (exfalso;omega))))<;>(try (refine wS ?_)))))
 refine A9 (fun v tm hp nx=>∃ (k:Nat) (s:ByteArray),v=l.length-k∧k≤l.length∧Hid (s.size≤Dp (l.take k)+22*k)∧tm 0=.sl (texts l)∧tm 3=gS s∧tm 4=gI k) l.length ⟨0,⟨#[]⟩,rfl,Nat.zero_le _,Lib.hid (Nat.zero_le _),byS,byS,byS⟩ ?_
 rintro v tm hp nx ⟨k,s,rfl,hk,hz,g0,g3,g4⟩
 by_cases hlt:k<l.length
 ·have e:=List.getElem?_eq_getElem hlt
  have e0:=Hc e
  have hx:=hs.out _ (List.getElem_mem hlt)
  have hz0:=hz.out
  have hz1:=hb.out k hk
  have hz2:=Qt e
  generalize l[k]=x at *
  obtain⟨w,hw,c1⟩:=Dw (x.size:Int) (by unfold I64;omega)
  have hbb:s.size≤4000000000000000000:=by omega
  have hnext:Hid ((s++w++⟨#[58]⟩++x).size≤Dp (l.take (k+1))+22*(k+1)):=Lib.hid (by rw[hz2,zz,zz,zz,z1];omega)
  clear hz hs hb e hz0 hz1 hz2
  (repeat' (first|exact trivial|refine stR ?_|((first|refine cv (c1) ?_|refine stp ?_|refine A0 (fun h=>?_) ?_|(refine gw (fun h=>?_) (fun h=>?_)<;>(try (exfalso;omega))))<;>(try (refine wS ?_)))))
  all_goals first
   | exact A3 (l.length-(k+1)) (by omega) ⟨k+1,s++w++⟨#[58]⟩++x,rfl,by omega,hnext,byS,byS,byS⟩
 ·have hfin:s.size≤Dp l+22*l.length:=by
   have:=hz.out
   rw[List.take_of_length_le (by omega)] at this
   omega
  clear hz hs hb
  (repeat' (first|exact trivial|refine stR ?_|((first|refine stp ?_|refine A0 (fun h=>?_) ?_|(refine gw (fun h=>?_) (fun h=>?_)<;>(try (exfalso;omega))))<;>(try (refine wS ?_)))))
  all_goals (simp only[sxd,z0,p0,Nat.reduceEqDiff,↓reduceIte,Tryz.f249, *];exact⟨s,rfl,hfin⟩)
end D
namespace D
set_option maxHeartbeats 4000000 in
theorem Aec(x:LegV)(hx:Sz x.cur.size):∃ z:Int,True∧Cn 244 [.agg [gI x.account,gI x.amount,gS x.cur]] (.val (gI z)):=by
 have c1:=A5q x.cur (by unfold Sz at hx;omega)
 refine caS gI Tryz.func244 ?_
 (repeat' (first|exact trivial|refine stR ?_|((first|refine cv (c1) ?_|refine stp ?_|refine A0 (fun h=>?_) ?_|(refine gw (fun h=>?_) (fun h=>?_)<;>(try (exfalso;omega))))<;>(try (refine wS ?_)))))
 all_goals (simp only[sxd,z0,p0,Nat.reduceEqDiff,↓reduceIte,Tryz.f244, *];exact aX)
end D
namespace D
set_option maxHeartbeats 4000000 in
theorem A9n{r:List AV}(h:Gj r):∃ z:Int,True∧Cn 92 [.agg r] (.val (gI z)):=by
 obtain⟨s,we,ho,rfl,hs,h1,h2⟩:=h
 obtain⟨x1,_,c1⟩:=Ql s hs
 unfold Sz at h1 h2
 obtain⟨x2,_,c2⟩:=T8 we (by unfold Sz;omega)
 obtain⟨x3,_,c3⟩:=T8 ho (by unfold Sz;omega)
 have q1:=Ec we
 have q2:=Ec ho
 refine caS gI Tryz.func92 ?_
 (repeat' (first|exact trivial|refine stR ?_|((first|refine cv (c1) ?_|refine stp ?_|refine A0 (fun h=>?_) ?_|(refine gw (fun h=>?_) (fun h=>?_)<;>(try (exfalso;omega))))<;>(try (refine wS ?_)))))
 all_goals first
  | (simp only[sxd,z0,p0,Nat.reduceEqDiff,↓reduceIte,Tryz.f92, *];exact aX)
  | skip
 refine A9 (fun n tm hp nx=>∃ k:Nat,n=we.length-k∧k≤we.length∧tm 1=.pt 0 0 0∧hp 0=some ⟨95,[[gS s,.sl (Bf we),.sl (Bf ho)]],true⟩∧0<nx∧tm 3=gI k) we.length ⟨0,rfl,Nat.zero_le _,byS,byQ,by omega,byS⟩ ?_
 rintro n tm hp nx ⟨k,hnn,hk,g1,b0,hx,g3⟩
 by_cases hlt:k<we.length
 ·have e1:=Iq (List.getElem?_eq_getElem hlt)
  generalize we[k]=x at *
  (repeat' (first|exact trivial|refine stR ?_|((first|refine stp ?_|refine A0 (fun h=>?_) ?_|(refine gw (fun h=>?_) (fun h=>?_)<;>(try (exfalso;omega))))<;>(try (refine wS ?_)))))
  all_goals first
   | exact A3 (we.length-(k+1)) (by omega) ⟨k+1,rfl,by omega,byS,byQ,by omega,byS⟩
   | (simp only[sxd,z0,p0,Nat.reduceEqDiff,↓reduceIte,Tryz.f92, *];exact aX)
 ·(repeat' (first|exact trivial|refine stR ?_|((first|refine cv (c2) ?_|refine stp ?_|refine A0 (fun h=>?_) ?_|(refine gw (fun h=>?_) (fun h=>?_)<;>(try (exfalso;omega))))<;>(try (refine wS ?_)))))
  all_goals first
   | (simp only[sxd,z0,p0,Nat.reduceEqDiff,↓reduceIte,Tryz.f92, *];exact aX)
   | skip
  all_goals refine A9 (fun n tm hp nx=>∃ k:Nat,n=ho.length-k∧k≤ho.length∧tm 1=.pt 0 0 0∧hp 0=some ⟨95,[[gS s,.sl (Bf we),.sl (Bf ho)]],true⟩∧0<nx∧tm 4=gI k) ho.length ⟨0,rfl,Nat.zero_le _,byS,byQ,by omega,byS⟩ ?_
  all_goals
   clear hnn hk g1 b0 hx g3 hlt
   rintro n tm hp nx ⟨k,hnn,hk,g1,b0,hx,g4⟩
   by_cases hlt:k<ho.length
   ·have e1:=Iq (List.getElem?_eq_getElem hlt)
    generalize ho[k]=x at *
    have c4:=Be x
    (repeat' (first|exact trivial|refine stR ?_|((first|refine cv (c4) ?_|refine stp ?_|refine A0 (fun h=>?_) ?_|(refine gw (fun h=>?_) (fun h=>?_)<;>(try (exfalso;omega))))<;>(try (refine wS ?_)))))
    all_goals first
     | exact A3 (ho.length-(k+1)) (by omega) ⟨k+1,rfl,by omega,byS,byQ,by omega,byS⟩
     | (simp only[sxd,z0,p0,Nat.reduceEqDiff,↓reduceIte,Tryz.f92, *];exact aX)
   ·(repeat' (first|exact trivial|refine stR ?_|((first|refine cv (c3) ?_|refine stp ?_|refine A0 (fun h=>?_) ?_|(refine gw (fun h=>?_) (fun h=>?_)<;>(try (exfalso;omega))))<;>(try (refine wS ?_)))))
    all_goals (simp only[sxd,z0,p0,Nat.reduceEqDiff,↓reduceIte,Tryz.f92, *];exact aX)
end D
namespace D
set_option maxHeartbeats 4000000 in
theorem Ach{r:List AV}(h:I5 r):∃ z:Int,True∧Cn 153 [.agg r] (.val (gI z)):=by
 obtain⟨s,n,u,v,d,rfl,hs,h2,h3⟩:=h
 obtain⟨⟨a1,a2,a3,a4⟩,rfl,k1⟩:=Lk d h2
 obtain⟨⟨b1,b2,b3,b4⟩,rfl,k2⟩:=Lk d h3
 obtain⟨x1,_,c1⟩:=Hs s hs
 obtain⟨x2,_,c2⟩:=Kb k1 5
 obtain⟨x3,_,c3⟩:=Kb k2 2
 have c4:=T9
 rw[Bl] at *
 rw[Bl] at *
 clear k1 k2 h2 h3
 generalize Gf varsL=V at *
 show ∃ z:Int,True∧Cn 153 [.agg [gS s,gI n,gI a1,gI a2,gS a3,.sl (Ea a4),gI b1,gI b2,gS b3,.sl (Ea b4)]] (.val (gI z))
 refine caS gI Tryz.func153 ?_
 (repeat' (first|exact trivial|refine stR ?_|((first|refine cv (c1) ?_|refine cv (c2) ?_|refine cv (c3) ?_|refine cv (c4) ?_|refine stp ?_|refine A0 (fun h=>?_) ?_|(refine gw (fun h=>?_) (fun h=>?_)<;>(try (exfalso;omega))))<;>(try (refine wS ?_)))))
 all_goals (simp only[sxd,z0,p0,Nat.reduceEqDiff,↓reduceIte,Tryz.f153, *];exact aX)
set_option maxHeartbeats 4000000 in
theorem A8v{r:List AV}(h:G1 r):∃ z:Int,True∧Cn 154 [.agg r] (.val (gI z)):=by
 obtain⟨s,n,u,d,rfl,hs,h2⟩:=h
 obtain⟨⟨a1,a2,a3,a4⟩,rfl,k1⟩:=Lk d h2
 obtain⟨x1,_,c1⟩:=Hs s hs
 obtain⟨x2,_,c2⟩:=Kb k1 2
 have c4:=T9
 rw[Bl] at *
 clear k1 h2
 generalize Gf varsL=V at *
 show ∃ z:Int,True∧Cn 154 [.agg [gS s,gI n,gI a1,gI a2,gS a3,.sl (Ea a4)]] (.val (gI z))
 refine caS gI Tryz.func154 ?_
 (repeat' (first|exact trivial|refine stR ?_|((first|refine cv (c1) ?_|refine cv (c2) ?_|refine cv (c4) ?_|refine stp ?_|refine A0 (fun h=>?_) ?_|(refine gw (fun h=>?_) (fun h=>?_)<;>(try (exfalso;omega))))<;>(try (refine wS ?_)))))
 all_goals (simp only[sxd,z0,p0,Nat.reduceEqDiff,↓reduceIte,Tryz.f154, *];exact aX)
end D
theorem t3s(a b c:ByteArray):texts [a,b,c]=[[gS a],[gS b],[gS c]]:=rfl
theorem t9s(a b c d e f g h i:ByteArray):texts [a,b,c,d,e,f,g,h,i]=[[gS a],[gS b],[gS c],[gS d],[gS e],[gS f],[gS g],[gS h],[gS i]]:=rfl
theorem A95(l:List ByteArray):((texts l).all (·.all p0))=true:=by simp [texts,p0]
theorem A97(l:List ByteArray):(texts l).map (·.map z0)=texts l:=by simp [texts,z0]
theorem Ago{l:List ByteArray}{c:Nat}(h:∀ s∈l,s.size≤c):D.Dp l≤l.length*c:=by
 induction l with
 | nil=>simp [D.Dp]
 | cons x l ih =>
  have h1:=h x List.mem_cons_self
  have h2:=ih fun s hs=>h s (List.mem_cons_of_mem _ hs)
  simp only[D.Dp,List.length_cons,Nat.add_mul,Nat.one_mul]
  omega
namespace D
set_option maxHeartbeats 8000000 in
theorem A9t{e:EntV}(ho:e.Ok)(hlen:e.legs.length≤12):∃ z:ByteArray,z.size≤4611686018427387904∧Cn 201 [.agg (Al e)] (.val (gS z)):=by
 obtain⟨i1,i2,i3,i4,i5,i6⟩:=ho.i
 obtain⟨s1,k1,c1⟩:=Dw e.id i1
 obtain⟨s2,k2,c2⟩:=Dw e.booked i2
 obtain⟨s3,k3,c3⟩:=Dw e.value i3
 obtain⟨s4,k4,c4⟩:=Dw e.kind i4
 obtain⟨s5,k5,c5⟩:=Dw e.auth i5
 obtain⟨s6,k6,c6⟩:=Dw e.period i6
 have hl:=B9 e.legs
 have hla:=Lib.hid ho.l
 have hcs:=Lib.hid ho.c
 have hk:=ho.k
 have ht:=ho.t
 unfold Sz at hk ht
 have t0:texts []=[]:=rfl
 clear ho
 unfold Al
 refine caS gS Tryz.func201 ?_
 (repeat' (first|exact trivial|refine stR ?_|((first|refine stp ?_|refine A0 (fun h=>?_) ?_|(refine gw (fun h=>?_) (fun h=>?_)<;>(try (exfalso;omega))))<;>(try (refine wS ?_)))))
 refine A9 (fun n tm hp nx=>∃ (k q:Nat) (l:List ByteArray),n=e.legs.length-k∧k≤e.legs.length∧tm 1=.pt 0 0 0∧hp 0=some ⟨39,[[gI e.id,gI e.booked,gI e.value,gI e.kind,gI e.auth,gI e.period,gS e.key,gS e.text,.sl (Ac e.legs),.ex (.int .u64 e.chain)]],true⟩∧0<nx∧tm 4=gI k∧tm 3=.own q∧hp q=some ⟨9,texts l,true⟩∧0<q∧q<nx∧l.length=k∧Hid (∀ s∈l,s.size≤140737488356328)) e.legs.length ⟨0,_,[],rfl,Nat.zero_le _,byS,byQ,by omega,byS,byS,byQ,by omega,by omega,rfl,Lib.hid (fun s h=>(by cases h))⟩ ?_
 rintro n tm hp nx ⟨k,q,l,hnn,hk',g1,b0,hx,g4,g3,hq,hq0,hqn,hll,hsz⟩
 have q1:=C9 l
 have hqq:¬ q=0:=by omega
 have hqq2:¬ 0=q:=by omega
 by_cases hlt:k<e.legs.length
 ·have e1:=List.getElem?_eq_getElem hlt
  obtain⟨a1,a2⟩:=hla.out _ (List.getElem_mem hlt)
  have a3:=hcs.out _ (List.getElem_mem hlt)
  unfold Sz at a3
  generalize e.legs[k]=x at e1 a1 a2 a3
  have e0:=Bq e1
  obtain⟨w1,u1,d1⟩:=Dw x.account a1
  obtain⟨w2,u2,d2⟩:=Dw x.amount a2
  obtain ⟨w3, u3, d3⟩ := Lx [w1, w2, x.cur] (by simp) (fun s hs=>by
   simp only[List.mem_cons,List.not_mem_nil,or_false] at hs
   rcases hs with rfl|rfl|rfl<;>omega)
  have u4:w3.size≤140737488356328:=by
   simp only[Dp,List.length_cons,List.length_nil] at u3
   omega
  have hnext:Hid (∀ s∈l++[w3],s.size≤140737488356328):=Lib.hid fun s hs=>by
   rcases List.mem_append.1 hs with h|h
   ·exact hsz.out s h
   ·rw[List.mem_singleton.1 h];exact u4
  have qs:texts l++[[gS w3]]=texts (l++[w3]):=Th l [w3]
  rw[t3s] at d3
  clear e1 u3 c1 c2 c3 c4 c5 c6 hsz
  (repeat' (first|exact trivial|refine stR ?_|((first|refine cv (d1) ?_|refine cv (d2) ?_|refine cv (d3) ?_|refine stp ?_|refine A0 (fun h=>?_) ?_|(refine gw (fun h=>?_) (fun h=>?_)<;>(try (exfalso;omega))))<;>(try (refine wS ?_)))))
  all_goals first
   | exact A3 (e.legs.length-(k+1)) (by omega) ⟨k+1,_,l++[w3],rfl,by omega,byS,byQ,by omega,byS,byS,by first|exact byQ|exact byO,by omega,by omega,by rw[List.length_append,hll];rfl,hnext⟩
 ·have f1:=A95 l
  have f2:=A97 l
  obtain⟨w,u,d1⟩:=Lx l (by omega) (fun s hs=>by have:=hsz.out s hs;omega)
  have u2:Dp l≤l.length*140737488356328:=Ago hsz.out
  have u3:w.size≤36028797018963968:=by omega
  obtain ⟨w2, v, d2⟩ := Lx [s1, s2, s3, s4, s5, s6, e.key, e.text, w] (by simp) (fun s hs=>by
   simp only[List.mem_cons,List.not_mem_nil,or_false] at hs
   rcases hs with rfl|rfl|rfl|rfl|rfl|rfl|rfl|rfl|rfl<;>omega)
  have v2:w2.size≤4611686018427387904:=by
   simp only[Dp,List.length_cons,List.length_nil] at v
   omega
  rw[t9s] at d2
  clear hsz u v u2 hla hcs
  (repeat' (first|exact trivial|refine stR ?_|((first|refine cv (c1) ?_|refine cv (c2) ?_|refine cv (c3) ?_|refine cv (c4) ?_|refine cv (c5) ?_|refine cv (c6) ?_|refine cv (d1) ?_|refine cv (d2) ?_|refine stp ?_|refine A0 (fun h=>?_) ?_|(refine gw (fun h=>?_) (fun h=>?_)<;>(try (exfalso;omega))))<;>(try (refine wS ?_)))))
  all_goals first
   | (simp only[sxd,z0,p0,Nat.reduceEqDiff,↓reduceIte,Tryz.f201, *];exact⟨_,rfl,v2⟩)
end D
end Go.Proofs.YtbhffbgbhgjdiaaGreatDoor
