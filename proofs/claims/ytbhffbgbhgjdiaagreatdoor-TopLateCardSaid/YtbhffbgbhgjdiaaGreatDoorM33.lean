/-
  Parts of the proof: U10 U20. Conditions: those that each theorem states.
-/
import Derived.Test.YtbhffbgbhgjdiaaGreatDoorM29
import Derived.Test.YtbhffbgbhgjdiaaGreatDoorM32
set_option linter.unusedSimpArgs false
set_option linter.unusedVariables false
namespace Go.Proofs.YtbhffbgbhgjdiaaGreatDoor
open Go.RowKit
set_option maxRecDepth 100000
theorem Ayt:∀ (i:Nat) (h:i<(⟨#[48,48]⟩:ByteArray).size),(48≤((⟨#[48,48]⟩:ByteArray)[i]'h).toNat∧((⟨#[48,48]⟩:ByteArray)[i]'h).toNat≤57)∨(65≤((⟨#[48,48]⟩:ByteArray)[i]'h).toNat∧((⟨#[48,48]⟩:ByteArray)[i]'h).toNat≤90)
 | 0,_=>.inl ⟨by show 48≤(48:UInt8).toNat;decide,by show (48:UInt8).toNat≤57;decide⟩
 | 1,_=>.inl ⟨by show 48≤(48:UInt8).toNat;decide,by show (48:UInt8).toNat≤57;decide⟩
 | i+2,h=>by
  have h:i+2<2:=h
  omega
namespace D
set_option maxHeartbeats 4000000 in
theorem A2e(s:ByteArray)(hs:Sz s.size):∃ z:Bool,(z=true→∀ k (h:k<s.size),(48≤(s[k]'h).toNat∧(s[k]'h).toNat≤57)∨(65≤(s[k]'h).toNat∧(s[k]'h).toNat≤90))∧Cn 206 [gS s] (.val (gB z)):=by
 unfold Sz at hs
 refine caS gB Tryz.func206 ?_
 (repeat' (first|exact trivial|refine stR ?_|((first|refine stp ?_|refine A0 (fun h=>?_) ?_|(refine gw (fun h=>?_) (fun h=>?_)<;>(try (exfalso;omega))))<;>(try (refine wS ?_)))))
 refine A9 (fun n tm hp nx=>∃ k:Nat,n=s.size-k∧k≤s.size∧tm 0=gS s∧tm 3=gI k∧Hid (∀ j (h:j<s.size),j<k→(48≤(s[j]'h).toNat∧(s[j]'h).toNat≤57)∨(65≤(s[j]'h).toNat∧(s[j]'h).toNat≤90))) (s.size) ⟨0,rfl,Nat.zero_le _,byS,byS,Lib.hid fun j h hj=>absurd hj (Nat.not_lt_zero _)⟩ ?_
 rintro n tm hp nx ⟨k,hnn,hk,g0,g3,hH⟩
 by_cases hlt:k<s.size
 ·have hn:((48≤(s[k]'hlt).toNat∧(s[k]'hlt).toNat≤57)∨(65≤(s[k]'hlt).toNat∧(s[k]'hlt).toNat≤90))→Hid (∀ j (h:j<s.size),j<k+1→(48≤(s[j]'h).toNat∧(s[j]'h).toNat≤57)∨(65≤(s[j]'h).toNat∧(s[j]'h).toNat≤90)):=fun h=>Lib.hid fun j hj hjk=>by
   rcases Nat.lt_or_ge j k with h1|h1
   ·exact hH.out j hj h1
   ·have:j=k:=by omega
    subst this
    exact h
  clear hH
  (repeat' (first|exact trivial|refine stR ?_|((first|refine stp ?_|refine A0 (fun h=>?_) ?_|(refine gw (fun h=>?_) (fun h=>?_)<;>(try (exfalso;omega))))<;>(try (refine wS ?_)))))
  all_goals first
   | exact A3 (s.size-(k+1)) (by omega) ⟨k+1,rfl,by omega,byS,byS,hn (by omega)⟩
   | (simp only[sxd,z0,p0,Nat.reduceEqDiff,↓reduceIte,Tryz.f206, *];exact⟨_,rfl,fun h=>by cases h⟩)
 ·have hfin:∀ j (h:j<s.size),(48≤(s[j]'h).toNat∧(s[j]'h).toNat≤57)∨(65≤(s[j]'h).toNat∧(s[j]'h).toNat≤90):=fun j h=>hH.out j h (by omega)
  replace hfin:=Lib.hid hfin
  clear hH
  (repeat' (first|exact trivial|refine stR ?_|((first|refine stp ?_|refine A0 (fun h=>?_) ?_|(refine gw (fun h=>?_) (fun h=>?_)<;>(try (exfalso;omega))))<;>(try (refine wS ?_)))))
  all_goals (simp only[sxd,z0,p0,Nat.reduceEqDiff,↓reduceIte,Tryz.f206, *];exact⟨_,rfl,fun _=>hfin.out⟩)
set_option maxHeartbeats 4000000 in
theorem A8t(s:ByteArray)(hs:Sz s.size)(hp:∀ k (h:k<s.size),(48≤(s[k]'h).toNat∧(s[k]'h).toNat≤57)∨(65≤(s[k]'h).toNat∧(s[k]'h).toNat≤90)):∃ z:Int,(0≤z∧z≤96)∧Cn 207 [gS s] (.val (gI z)):=by
 unfold Sz at hs
 replace hp:=Lib.hid hp
 refine caS gI Tryz.func207 ?_
 (repeat' (first|exact trivial|refine stR ?_|((first|refine stp ?_|refine A0 (fun h=>?_) ?_|(refine gw (fun h=>?_) (fun h=>?_)<;>(try (exfalso;omega))))<;>(try (refine wS ?_)))))
 refine A9 (fun n tm hp nx=>∃ (k:Nat) (m:Int),n=s.size-k∧k≤s.size∧tm 0=gS s∧tm 4=gI k∧tm 3=gI m∧0≤m∧m≤96) (s.size) ⟨0,0,rfl,Nat.zero_le _,byS,byS,byS,by omega,by omega⟩ ?_
 rintro n tm hp' nx ⟨k,m,hnn,hk,g0,g4,g3,m1,m2⟩
 by_cases hlt:k<s.size
 ·have h1:=hp.out k hlt
  rcases h1 with⟨a1,a2⟩|⟨a1,a2⟩
  ·have b1:((s[k]'hlt).toNat:Int)≤57:=by omega
   have b2:48≤((s[k]'hlt).toNat:Int):=by omega
   (repeat' (first|exact trivial|refine stR ?_|((first|refine stp ?_|refine A0 (fun h=>?_) ?_|(refine gw (fun h=>?_) (fun h=>?_)<;>(try (exfalso;omega))))<;>(try (refine wS ?_)))))
   all_goals first
    | exact A3 (s.size-(k+1)) (by omega) ⟨k+1,_,rfl,by omega,byS,byS,byS,by rw[Int.tmod_eq_emod_of_nonneg (by omega)];omega,by rw[Int.tmod_eq_emod_of_nonneg (by omega)];omega⟩
  ·have b1:¬ ((s[k]'hlt).toNat:Int)≤57:=by omega
   have b2:((s[k]'hlt).toNat:Int)≤90:=by omega
   (repeat' (first|exact trivial|refine stR ?_|((first|refine stp ?_|refine A0 (fun h=>?_) ?_|(refine gw (fun h=>?_) (fun h=>?_)<;>(try (exfalso;omega))))<;>(try (refine wS ?_)))))
   all_goals first
    | exact A3 (s.size-(k+1)) (by omega) ⟨k+1,_,rfl,by omega,byS,byS,byS,by rw[Int.tmod_eq_emod_of_nonneg (by omega)];omega,by rw[Int.tmod_eq_emod_of_nonneg (by omega)];omega⟩
 ·(repeat' (first|exact trivial|refine stR ?_|((first|refine stp ?_|refine A0 (fun h=>?_) ?_|(refine gw (fun h=>?_) (fun h=>?_)<;>(try (exfalso;omega))))<;>(try (refine wS ?_)))))
  all_goals (simp only[sxd,z0,p0,Nat.reduceEqDiff,↓reduceIte,Tryz.f207, *];exact⟨_,rfl,by omega,by omega⟩)
set_option maxHeartbeats 4000000 in
theorem A5t(s:ByteArray)(hs:Sz s.size):∃ z:ByteArray×Int,z.1.size≤60∧Cn 161 [gS s] (.val (.tup [gS z.1,gI z.2])):=by
 obtain⟨x1,hx1,c1⟩:=A2e s hs
 unfold Sz at hs
 by_cases h1:1≤s.size∧s.size≤46
 ·obtain⟨a1,a2⟩:=h1
  have hz:(s++⟨#[48,48]⟩).size=s.size+2:=by rw[ByteArray.size_append];rfl
  cases x1 with
  | false =>
   clear hx1
   refine caS (fun z:ByteArray×Int=>.tup [gS z.1,gI z.2]) Tryz.func161 ?_
   (repeat' (first|exact trivial|refine stR ?_|((first|refine cv (c1) ?_|refine stp ?_|refine A0 (fun h=>?_) ?_|(refine gw (fun h=>?_) (fun h=>?_)<;>(try (exfalso;omega))))<;>(try (refine wS ?_)))))
   all_goals (simp only[sxd,z0,p0,Nat.reduceEqDiff,↓reduceIte,Tryz.f161, *];exact⟨(⟨#[]⟩,_),rfl,by decide⟩)
  | true =>
   obtain ⟨m, ⟨m1, m2⟩, c2⟩ := A8t (s ++ ⟨#[48, 48]⟩) (by unfold Sz; omega) (fun k h=>by
    rcases Nat.lt_or_ge k s.size with hk|hk
    ·rw[ByteArray.getElem_append_left hk]
     exact hx1 rfl k hk
    ·rw[ByteArray.getElem_append_right hk]
     exact Ayt _ _)
   clear hx1
   have hz2:(⟨#[48,48]⟩:ByteArray).size=2:=rfl
   have t1:Int.tdiv (98-m) 10=(98-m) / 10:=Int.tdiv_eq_ediv_of_nonneg (by omega)
   have t2:Int.tmod (98-m) 10=(98-m) % 10:=Int.tmod_eq_emod_of_nonneg (by omega)
   have hD:(⟨#[48,49,50,51,52,53,54,55,56,57]⟩:ByteArray).size=10:=rfl
   have d1:((⟨#[48,49,50,51,52,53,54,55,56,57]⟩:ByteArray).extract ((98-m) / 10).toNat ((98-m) / 10+1).toNat).size=1:=by rw[ByteArray.size_extract,hD];omega
   have d2:((⟨#[48,49,50,51,52,53,54,55,56,57]⟩:ByteArray).extract ((98-m) % 10).toNat ((98-m) % 10+1).toNat).size=1:=by rw[ByteArray.size_extract,hD];omega
   have zz:∀ a b:ByteArray,(a++b).size=a.size+b.size:=fun a b=>ByteArray.size_append
   refine caS (fun z:ByteArray×Int=>.tup [gS z.1,gI z.2]) Tryz.func161 ?_
   (repeat' (first|exact trivial|refine stR ?_|((first|refine cv (c1) ?_|refine cv (c2) ?_|refine stp ?_|refine A0 (fun h=>?_) ?_|(refine gw (fun h=>?_) (fun h=>?_)<;>(try (exfalso;omega))))<;>(try (refine wS ?_)))))
   all_goals (simp only[sxd,z0,p0,Nat.reduceEqDiff,↓reduceIte,Tryz.f161, *];exact⟨(_,_),rfl,by dsimp only;simp only[zz,d1,d2];omega⟩)
 ·refine caS (fun z:ByteArray×Int=>.tup [gS z.1,gI z.2]) Tryz.func161 ?_
  (repeat' (first|exact trivial|refine stR ?_|((first|refine cv (c1) ?_|refine stp ?_|refine A0 (fun h=>?_) ?_|(refine gw (fun h=>?_) (fun h=>?_)<;>(try (exfalso;omega))))<;>(try (refine wS ?_)))))
  all_goals (simp only[sxd,z0,p0,Nat.reduceEqDiff,↓reduceIte,Tryz.f161, *];exact⟨(⟨#[]⟩,_),rfl,by decide⟩)
end D
namespace D
set_option maxHeartbeats 8000000 in
theorem Wq(n:Int):∃ z:ByteArray,True∧Cn 107 [gI n] (.val (gS z)):=by
 by_cases hr:1000≤n∧n≤99999999
 ·obtain⟨r1,r2⟩:=hr
  have hD:(⟨#[48,49,50,51,52,53,54,55,56,57]⟩:ByteArray).size=10:=rfl
  have zz:∀ a b:ByteArray,(a++b).size=a.size+b.size:=fun a b=>ByteArray.size_append
  have z2:(⟨#[67,66]⟩:ByteArray).size=2:=rfl
  have cs:=Lib.hid fun (s:ByteArray) (h:s.size≤20)=>A5t s (by unfold Sz;omega)
  refine caS gS Tryz.func107 ?_
  (repeat' (first|exact trivial|refine stR ?_|((first|refine stp ?_|refine A0 (fun h=>?_) ?_|(refine gw (fun h=>?_) (fun h=>?_)<;>(try (exfalso;omega))))<;>(try (refine wS ?_)))))
  refine A9 (fun v tm hp nx=>∃ (k:Nat) (m:Int) (s:ByteArray),v=8-k∧k≤8∧s.size=k∧0≤m∧m≤99999999∧tm 0=gI m∧tm 3=gS s∧tm 4=gI k) 8 ⟨0,n,⟨#[]⟩,rfl,Nat.zero_le _,rfl,by omega,by omega,byS,byS,byS⟩ ?_
  rintro v tm hp nx ⟨k,m,s,hv,hk,hs,m0,m1,g0,g3,g4⟩
  have t1:Int.tmod m 10=m % 10:=Int.tmod_eq_emod_of_nonneg m0
  have t2:Int.tdiv m 10=m / 10:=Int.tdiv_eq_ediv_of_nonneg m0
  have w1:IntKind.i64.wrap (m / 10)=m / 10:=by rw[IntKind.wrap_i64];omega
  have d1:((⟨#[48,49,50,51,52,53,54,55,56,57]⟩:ByteArray).extract (m % 10).toNat (m % 10+1).toNat).size=1:=by rw[ByteArray.size_extract,hD];omega
  by_cases hlt:k<8
  ·clear cs
   (repeat' (first|exact trivial|refine stR ?_|((first|refine stp ?_|refine A0 (fun h=>?_) ?_|(refine gw (fun h=>?_) (fun h=>?_)<;>(try (exfalso;omega))))<;>(try (refine wS ?_)))))
   all_goals first
    | exact A3 (8-(k+1)) (by omega) ⟨k+1,m / 10,(⟨#[48,49,50,51,52,53,54,55,56,57]⟩:ByteArray).extract (m % 10).toNat (m % 10+1).toNat++s,rfl,by omega,by simp only[zz,d1];omega,by omega,by omega,byS,byS,byS⟩
  ·obtain⟨⟨w,e⟩,_,c1⟩:=cs.out (⟨#[67,66]⟩++s) (by rw[zz,z2];omega)
   clear cs t1 t2 w1 d1
   (repeat' (first|exact trivial|refine stR ?_|((first|refine cv (c1) ?_|refine stp ?_|refine A0 (fun h=>?_) ?_|(refine gw (fun h=>?_) (fun h=>?_)<;>(try (exfalso;omega))))<;>(try (refine wS ?_)))))
   all_goals first
    | (simp only[sxd,z0,p0,Nat.reduceEqDiff,↓reduceIte,Tryz.f107, *];exact aX)
 ·refine caS gS Tryz.func107 ?_
  (repeat' (first|exact trivial|refine stR ?_|((first|refine stp ?_|refine A0 (fun h=>?_) ?_|(refine gw (fun h=>?_) (fun h=>?_)<;>(try (exfalso;omega))))<;>(try (refine wS ?_)))))
  all_goals (simp only[sxd,z0,p0,Nat.reduceEqDiff,↓reduceIte,Tryz.f107, *];exact aX)
set_option maxHeartbeats 8000000 in
theorem Zc(a:AccV):∃ z:Bool,True∧Cn 99 [.agg (D6 a)] (.val (gB z)):=by
 have c1:=Be a.opened
 obtain⟨s,_,c2⟩:=Wq a.id
 unfold D6
 refine caS gB Tryz.func99 ?_
 (repeat' (first|exact trivial|refine stR ?_|((first|refine cv (c1) ?_|refine cv (c2) ?_|refine stp ?_|refine A0 (fun h=>?_) ?_|(refine gw (fun h=>?_) (fun h=>?_)<;>(try (exfalso;omega))))<;>(try (refine wS ?_)))))
 all_goals (simp only[sxd,z0,p0,Nat.reduceEqDiff,↓reduceIte,Tryz.f99, *];exact aX)
set_option maxHeartbeats 8000000 in
theorem A9k{b:BkV}(hb:b.Ok)(j:List (List AV)):∃ z:Int,True∧Cn 44 [.agg (bkC b j)] (.val (gI z)):=by
 have hn:=hb.n5
 unfold Sz at hn
 have hl:=Gt b.accs
 have co:=Lib.hid fun (a:AccV) (h:a∈b.accs)=>A2c hb j (hb.r5 a h)
 clear hb
 unfold bkC
 refine caS gI Tryz.func44 ?_
 (repeat' (first|exact trivial|refine stR ?_|((first|refine stp ?_|refine A0 (fun h=>?_) ?_|(refine gw (fun h=>?_) (fun h=>?_)<;>(try (exfalso;omega))))<;>(try (refine wS ?_)))))
 all_goals first
  | (simp only[sxd,z0,p0,Nat.reduceEqDiff,↓reduceIte,Tryz.f44, *];exact aX)
  | skip
 refine A9 (fun n tm hp nx=>∃ k:Nat,n=b.accs.length-k∧k≤b.accs.length∧tm 1=.pt 0 0 0∧hp 0=some ⟨33,[bkC b j],true⟩∧0<nx∧tm 3=gI k) b.accs.length ⟨0,rfl,Nat.zero_le _,byS,by unfold bkC;exact byQ,by omega,byS⟩ ?_
 rintro n tm hp nx ⟨k,hnn,hk,g1,b0,hx,g3⟩
 unfold bkC at b0
 by_cases hlt:k<b.accs.length
 ·have e1:=I8 (List.getElem?_eq_getElem hlt)
  obtain⟨w,_,c1⟩:=co.out _ (List.getElem_mem hlt)
  generalize b.accs[k]=a at *
  obtain⟨z,_,c2⟩:=Zc a
  have c3:=Be a.closed
  unfold bkC D6 at c1
  unfold D6 at c2
  clear co
  by_cases h0:0<k
  ·have e2:=I8 (List.getElem?_eq_getElem (show k-1<b.accs.length by omega))
   have e4:((k:Int)-1).toNat=k-1:=by omega
   generalize (b.accs[k-1]'(by omega))=a2 at e2
   (repeat' (first|exact trivial|refine stR ?_|((first|refine cv (c1) ?_|refine cv (c2) ?_|refine cv (c3) ?_|refine stp ?_|refine A0 (fun h=>?_) ?_|(refine gw (fun h=>?_) (fun h=>?_)<;>(try (exfalso;omega))))<;>(try (refine wS ?_)))))
   all_goals first
    | exact A3 (b.accs.length-(k+1)) (by omega) ⟨k+1,rfl,by omega,byS,by unfold bkC;exact byQ,by omega,byS⟩
    | (simp only[sxd,z0,p0,Nat.reduceEqDiff,↓reduceIte,Tryz.f44, *];exact aX)
  ·(repeat' (first|exact trivial|refine stR ?_|((first|refine cv (c1) ?_|refine cv (c2) ?_|refine cv (c3) ?_|refine stp ?_|refine A0 (fun h=>?_) ?_|(refine gw (fun h=>?_) (fun h=>?_)<;>(try (exfalso;omega))))<;>(try (refine wS ?_)))))
   all_goals first
    | exact A3 (b.accs.length-(k+1)) (by omega) ⟨k+1,rfl,by omega,byS,by unfold bkC;exact byQ,by omega,byS⟩
    | (simp only[sxd,z0,p0,Nat.reduceEqDiff,↓reduceIte,Tryz.f44, *];exact aX)
 ·clear co
  (repeat' (first|exact trivial|refine stR ?_|((first|refine stp ?_|refine A0 (fun h=>?_) ?_|(refine gw (fun h=>?_) (fun h=>?_)<;>(try (exfalso;omega))))<;>(try (refine wS ?_)))))
  all_goals (simp only[sxd,z0,p0,Nat.reduceEqDiff,↓reduceIte,Tryz.f44, *];exact aX)
end D
end Go.Proofs.YtbhffbgbhgjdiaaGreatDoor
