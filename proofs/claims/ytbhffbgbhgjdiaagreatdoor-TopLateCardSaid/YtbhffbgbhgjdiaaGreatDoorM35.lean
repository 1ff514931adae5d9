/-
  Parts of the proof: U18 U19 U23. Conditions: those that each theorem states.
-/
import Derived.Test.YtbhffbgbhgjdiaaGreatDoorM29
import Derived.Test.YtbhffbgbhgjdiaaGreatDoorM29
import Derived.Test.YtbhffbgbhgjdiaaGreatDoorM34
import Derived.Test.YtbhffbgbhgjdiaaGreatDoorM32
import Derived.Test.YtbhffbgbhgjdiaaGreatDoorM33
set_option linter.unusedSimpArgs false
set_option linter.unusedVariables false
namespace Go.Proofs.YtbhffbgbhgjdiaaGreatDoor
open Go.RowKit
set_option maxRecDepth 100000
namespace D
set_option maxHeartbeats 8000000 in
theorem A7z{j:List EntV}(hj:JOk j){e:EntV}(ho:e.Ok)(hlen:e.legs.length≤12):∃ z:EntV,z.legs=e.legs∧Cn 158 [.sl (Ab j),.agg (Al e)] (.val (.agg (Al z))):=by
 have hn:=hj.n
 unfold Sz at hn
 have hl:=Bt j
 obtain⟨s,hs,c1⟩:=A9t (e:={ e with id:=(j.length:Int)+1 }) ⟨ho.k,ho.t,ho.n,ho.c,⟨by unfold I64;dsimp only;omega,ho.i.2⟩,ho.h,ho.l,ho.y⟩ hlen
 unfold Al at c1
 dsimp only at c1
 rcases List.eq_nil_or_concat j with rfl|⟨k,y,rfl⟩
 ·obtain⟨c,_,c2⟩:=Pd 0 (by unfold U64;omega) s hs
  have e0:Ab []=[]:=rfl
  clear ho hj
  unfold Al
  refine caS (fun z:EntV=>.agg [gI z.id,gI z.booked,gI z.value,gI z.kind,gI z.auth,gI z.period,gS z.key,gS z.text,.sl (Ac z.legs),.ex (.int .u64 z.chain)]) Tryz.func158 ?_
  (repeat' (first|exact trivial|refine stR ?_|((first|refine cv (c1) ?_|refine cv (c2) ?_|refine stp ?_|refine A0 (fun h=>?_) ?_|(refine gw (fun h=>?_) (fun h=>?_)<;>(try (exfalso;omega))))<;>(try (refine wS ?_)))))
  all_goals (refine rc1 rfl ?_)
  all_goals first
   | exact⟨⟨_,_,_,_,_,_,_,_,e.legs,_⟩,rfl⟩
   | exact⟨⟨_,_,_,_,_,_,_,_,e.legs,_⟩,rfl,rfl⟩
 ·have hy:=hj.e y (by simp)
  obtain⟨c,_,c2⟩:=Pd y.chain (by have:=hy.h;unfold U64;omega) s hs
  rw[List.concat_eq_append] at *
  have e1:=Ch (l:=k++[y]) (k:=k.length) (e:=y) (by simp)
  have e2:(k++[y]).length=k.length+1:=by simp
  have e3:(((k.length:Int)+1)-1).toNat=k.length:=by omega
  have e4:(((k.length+1:Nat):Int)-1).toNat=k.length:=by omega
  rw[e2] at hl hn c1
  generalize Ab (k++[y])=L at *
  clear ho hj hy e2
  unfold Al
  refine caS (fun z:EntV=>.agg [gI z.id,gI z.booked,gI z.value,gI z.kind,gI z.auth,gI z.period,gS z.key,gS z.text,.sl (Ac z.legs),.ex (.int .u64 z.chain)]) Tryz.func158 ?_
  (repeat' (first|exact trivial|refine stR ?_|((first|refine cv (c1) ?_|refine cv (c2) ?_|refine stp ?_|refine A0 (fun h=>?_) ?_|(refine gw (fun h=>?_) (fun h=>?_)<;>(try (exfalso;omega))))<;>(try (refine wS ?_)))))
  all_goals first
   | ((refine rc1 rfl ?_)
      first
       | exact⟨⟨_,_,_,_,_,_,_,_,e.legs,_⟩,rfl⟩
       | exact⟨⟨_,_,_,_,_,_,_,_,e.legs,_⟩,rfl,rfl⟩)
end D
namespace D
set_option maxHeartbeats 8000000 in
theorem A5j{j:List EntV}(hj:Sz j.length){e:EntV}(ho:e.Ok):∃ z:Int,(z=0→e.legs.length≤12)∧Cn 156 [.sl (Ab j),.agg (Al e)] (.val (gI z)):=by
 obtain⟨x,hx,c1⟩:=A9u ho
 unfold Sz at hj
 have hl:=Bt j
 by_cases h0:x=0
 ·have hlen:=Lib.hid (hx h0)
  subst h0
  clear hx ho
  unfold Al at *
  refine caS gI Tryz.func156 ?_
  (repeat' (first|exact trivial|refine stR ?_|((first|refine cv (c1) ?_|refine stp ?_|refine A0 (fun h=>?_) ?_|(refine gw (fun h=>?_) (fun h=>?_)<;>(try (exfalso;omega))))<;>(try (refine wS ?_)))))
  refine A9 (fun n tm hp nx=>∃ k:Nat,n=j.length-k∧k≤j.length∧tm 0=.sl (Ab j)∧tm 3=.pt 0 0 0∧hp 0=some ⟨39,[[gI e.id,gI e.booked,gI e.value,gI e.kind,gI e.auth,gI e.period,gS e.key,gS e.text,.sl (Ac e.legs),.ex (.int .u64 e.chain)]],true⟩∧0<nx∧tm 6=gI k) j.length ⟨0,rfl,Nat.zero_le _,byS,byS,byQ,by omega,byS⟩ ?_
  clear c1
  rintro n tm hp nx ⟨k,hnn,hk,g0,g3,b0,hx,g6⟩
  by_cases hlt:k<j.length
  ·have e1:=Ch (List.getElem?_eq_getElem hlt)
   generalize j[k]=y at *
   (repeat' (first|exact trivial|refine stR ?_|((first|refine stp ?_|refine A0 (fun h=>?_) ?_|(refine gw (fun h=>?_) (fun h=>?_)<;>(try (exfalso;omega))))<;>(try (refine wS ?_)))))
   all_goals first
    | exact A3 (j.length-(k+1)) (by omega) ⟨k+1,rfl,by omega,byS,byS,byQ,by omega,byS⟩
    | (simp only[sxd,z0,p0,Nat.reduceEqDiff,↓reduceIte,Tryz.f156, *];exact⟨_,rfl,fun _=>hlen.out⟩)
  ·rcases List.eq_nil_or_concat j with rfl|⟨l,y,rfl⟩
   ·have e0:Ab []=[]:=rfl
    (repeat' (first|exact trivial|refine stR ?_|((first|refine stp ?_|refine A0 (fun h=>?_) ?_|(refine gw (fun h=>?_) (fun h=>?_)<;>(try (exfalso;omega))))<;>(try (refine wS ?_)))))
    all_goals first
     | (simp only[sxd,z0,p0,Nat.reduceEqDiff,↓reduceIte,Tryz.f156, *];exact⟨_,rfl,fun _=>hlen.out⟩)
   ·rw[List.concat_eq_append] at *
    have e1:=Ch (l:=l++[y]) (k:=l.length) (e:=y) (by simp)
    have e2:(l++[y]).length=l.length+1:=by simp
    have e3:(((l.length:Int)+1)-1).toNat=l.length:=by omega
    have e4:(((l.length+1:Nat):Int)-1).toNat=l.length:=by omega
    rw[e2] at hl hj hk hlt
    have hkk:k=l.length+1:=by omega
    subst hkk
    clear hnn hk hlt
    generalize Ab (l++[y])=L at *
    clear e2
    (repeat' (first|exact trivial|refine stR ?_|((first|refine stp ?_|refine A0 (fun h=>?_) ?_|(refine gw (fun h=>?_) (fun h=>?_)<;>(try (exfalso;omega))))<;>(try (refine wS ?_)))))
    all_goals first
     | (simp only[sxd,z0,p0,Nat.reduceEqDiff,↓reduceIte,Tryz.f156, *];exact⟨_,rfl,fun _=>hlen.out⟩)
 ·clear hx ho
  unfold Al at *
  refine caS gI Tryz.func156 ?_
  (repeat' (first|exact trivial|refine stR ?_|((first|refine cv (c1) ?_|refine stp ?_|refine A0 (fun h=>?_) ?_|(refine gw (fun h=>?_) (fun h=>?_)<;>(try (exfalso;omega))))<;>(try (refine wS ?_)))))
  all_goals (simp only[sxd,z0,p0,Nat.reduceEqDiff,↓reduceIte,Tryz.f156, *];exact⟨_,rfl,fun h=>absurd h h0⟩)
end D
theorem Aee(x y x' y':Int)(c c':ByteArray):Ik Tryz.prog 10 103 [gI x,gI y,gS c] [gI x',gI y',gS c']=some (decide (x=x') && (decide (y=y') && (decide (c=c') && true))):=by kernel_rfl
theorem Al3(a b:LegV):∃ z:Bool,Hy Tryz.prog 103 [gI a.account,gI a.amount,gS a.cur] [gI b.account,gI b.amount,gS b.cur] z :=
 ⟨_,Ia (d:=10) (by decide) Tryz.underlying103 (by kernel_rfl) (Aee _ _ _ _ _ _)⟩
namespace D
set_option maxHeartbeats 8000000 in
theorem Rf(a b:List LegV)(ha:Sz a.length)(hb:Sz b.length):∃ z:Bool,True∧Cn 199 [.sl (Ac a),.sl (Ac b)] (.val (gB z)):=by
 unfold Sz at ha hb
 have q1:=B9 a
 have q2:=B9 b
 by_cases hlen:a.length=b.length
 ·refine caS gB Tryz.func199 ?_
  (repeat' (first|exact trivial|refine stR ?_|((first|refine stp ?_|refine A0 (fun h=>?_) ?_|(refine gw (fun h=>?_) (fun h=>?_)<;>(try (exfalso;omega))))<;>(try (refine wS ?_)))))
  refine A9 (fun n tm hp nx=>∃ (k:Nat),n=a.length-k∧k≤a.length∧tm 0=.sl (Ac a)∧tm 1=.sl (Ac b)∧tm 5=gI k) a.length ⟨0,rfl,Nat.zero_le _,byS,byS,byS⟩ ?_
  rintro n tm hp nx ⟨k,hn,hkl,g0,g1,g5⟩
  by_cases hlt:k<a.length
  ·have e1:a[k]?=some a[k]:=List.getElem?_eq_getElem hlt
   have e2:b[k]?=some b[k]:=List.getElem?_eq_getElem (by omega)
   generalize a[k]=x at e1
   generalize b[k]=y at e2
   have q4:=Bq e1
   have q5:=Bq e2
   obtain⟨z,hE⟩:=Al3 x y
   have h2:k<b.length:=by omega
   clear e1 e2
   (repeat' (first|exact trivial|refine stR ?_|((first|refine Ow (hE) ?_|refine stp ?_|refine A0 (fun h=>?_) ?_|(refine gw (fun h=>?_) (fun h=>?_)<;>(try (exfalso;omega))))<;>(try (refine wS ?_)))))
   all_goals first
    | exact A3 (a.length-(k+1)) (by omega) ⟨k+1,rfl,by omega,byS,byS,byS⟩
    | exact A3 (b.length-(k+1)) (by omega) ⟨k+1,rfl,by omega,byS,byS,byS⟩
    | (simp only[sxd,z0,p0,Nat.reduceEqDiff,↓reduceIte,Tryz.f199, *];exact aX)
  ·(repeat' (first|exact trivial|refine stR ?_|((first|refine stp ?_|refine A0 (fun h=>?_) ?_|(refine gw (fun h=>?_) (fun h=>?_)<;>(try (exfalso;omega))))<;>(try (refine wS ?_)))))
   all_goals (simp only[sxd,z0,p0,Nat.reduceEqDiff,↓reduceIte,Tryz.f199, *];exact aX)
 ·have hl2:¬ (a.length:Int)=b.length:=by omega
  refine caS gB Tryz.func199 ?_
  (repeat' (first|exact trivial|refine stR ?_|((first|refine stp ?_|refine A0 (fun h=>?_) ?_|(refine gw (fun h=>?_) (fun h=>?_)<;>(try (exfalso;omega))))<;>(try (refine wS ?_)))))
  all_goals (simp only[sxd,z0,p0,Nat.reduceEqDiff,↓reduceIte,Tryz.f199, *];exact aX)
set_option maxHeartbeats 8000000 in
theorem A5s(a b:EntV)(ha:Sz a.legs.length)(hb:Sz b.legs.length):∃ z:Bool,True∧Cn 157 [.agg (Al a),.agg (Al b)] (.val (gB z)):=by
 obtain⟨z,_,c1⟩:=Rf a.legs b.legs ha hb
 have hap:∀ x y:List Oper,x.append y=x++y:=fun _ _=>rfl
 unfold Al
 refine caS gB Tryz.func157 ?_
 (repeat' (first|exact trivial|refine stR ?_|((first|refine cv (c1) ?_|refine stp ?_|refine A0 (fun h=>?_) ?_|(refine gw (fun h=>?_) (fun h=>?_)<;>(try (exfalso;omega))))<;>(try (refine wS ?_)))))
 all_goals (simp only[sxd,z0,p0,Nat.reduceEqDiff,↓reduceIte,Tryz.f157, *];exact aX)
end D
end Go.Proofs.YtbhffbgbhgjdiaaGreatDoor
