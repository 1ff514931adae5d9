/-
  Parts of the proof: U22 U24 U25 V2. Conditions: those that each theorem states.
-/
import Derived.Test.YtbhffbgbhgjdiaaGreatDoorM30
import Derived.Test.YtbhffbgbhgjdiaaGreatDoorM10
import Derived.Test.YtbhffbgbhgjdiaaGreatDoorM31
import Derived.Test.YtbhffbgbhgjdiaaGreatDoorM31
import Derived.Test.YtbhffbgbhgjdiaaGreatDoorM33
import Derived.Test.YtbhffbgbhgjdiaaGreatDoorM32
import Derived.Test.YtbhffbgbhgjdiaaGreatDoorM35
import Derived.Test.YtbhffbgbhgjdiaaGreatDoorM28
set_option linter.unusedSimpArgs false
set_option linter.unusedVariables false
namespace Go.Proofs.YtbhffbgbhgjdiaaGreatDoor
open Go.RowKit
set_option maxRecDepth 100000
namespace D
set_option maxHeartbeats 8000000 in
theorem Anx{b:BkV}(hb:b.Ok){j:List EntV}(hj:Sz j.length)(hjl:∀ e∈j,Sz e.legs.length):∃ z:Bool,True∧Cn 13 [.agg (bkC b (Ab j))] (.val (gB z)):=by
 have n1:=hb.n1
 have n2:=hb.n2
 have n3:=hb.n3
 have n4:=hb.n4
 have n5:=hb.n5
 have n6:=hb.n6
 have n7:=hb.n7
 unfold Sz at n1 n2 n3 n4 n5 n6 n7 hj
 have l1:=H8 b.prods
 have l2:=Gt b.accs
 have l3:=Bt j
 have hr:=Lib.hid hb.r2
 replace hjl:=Lib.hid hjl
 clear hb
 unfold bkC
 refine caS gB Tryz.func13 ?_
 (repeat' (first|exact trivial|refine stR ?_|((first|refine stp ?_|refine A0 (fun h=>?_) ?_|(refine gw (fun h=>?_) (fun h=>?_)<;>(try (exfalso;omega))))<;>(try (refine wS ?_)))))
 all_goals first
  | (simp only[sxd,z0,p0,Nat.reduceEqDiff,↓reduceIte,Tryz.f13, *];exact aX)
  | skip
 all_goals refine A9 (fun n tm hp nx=>∃ k:Nat,n=b.cal.length-k∧k≤b.cal.length∧tm 1=.pt 0 0 0∧hp 0=some ⟨33,[bkC b (Ab j)],true⟩∧0<nx∧tm 3=gI k) b.cal.length ⟨0,rfl,Nat.zero_le _,byS,by unfold bkC;exact byQ,by omega,byS⟩ ?_
 all_goals
  rintro n tm hp nx ⟨k,hnn,hk,g1,b0,hx,g3⟩
  unfold bkC at b0
  by_cases hlt:k<b.cal.length
  ·obtain⟨s,we,ho,e0,_⟩:=Ua hr.out hlt
   have q1:=Ec we
   have q2:=Ec ho
   (repeat' (first|exact trivial|refine stR ?_|((first|refine stp ?_|refine A0 (fun h=>?_) ?_|(refine gw (fun h=>?_) (fun h=>?_)<;>(try (exfalso;omega))))<;>(try (refine wS ?_)))))
   all_goals first
    | exact A3 (b.cal.length-(k+1)) (by omega) ⟨k+1,rfl,by omega,byS,by unfold bkC;exact byQ,by omega,byS⟩
    | (simp only[sxd,z0,p0,Nat.reduceEqDiff,↓reduceIte,Tryz.f13, *];exact aX)
  ·(repeat' (first|exact trivial|refine stR ?_|((first|refine stp ?_|refine A0 (fun h=>?_) ?_|(refine gw (fun h=>?_) (fun h=>?_)<;>(try (exfalso;omega))))<;>(try (refine wS ?_)))))
   refine A9 (fun n tm hp nx=>∃ k:Nat,n=j.length-k∧k≤j.length∧tm 1=.pt 0 0 0∧hp 0=some ⟨33,[bkC b (Ab j)],true⟩∧0<nx∧tm 4=gI k) j.length ⟨0,rfl,Nat.zero_le _,byS,by unfold bkC;exact byQ,by omega,byS⟩ ?_
   clear hnn hk g1 b0 hx g3 hlt
   rintro n tm hp nx ⟨k,hnn,hk,g1,b0,hx,g3⟩
   unfold bkC at b0
   by_cases hlt:k<j.length
   ·have e1:=Ch (List.getElem?_eq_getElem hlt)
    have hs:=hjl.out _ (List.getElem_mem hlt)
    generalize j[k]=e at e1 hs
    have q1:=B9 e.legs
    unfold Sz at hs
    (repeat' (first|exact trivial|refine stR ?_|((first|refine stp ?_|refine A0 (fun h=>?_) ?_|(refine gw (fun h=>?_) (fun h=>?_)<;>(try (exfalso;omega))))<;>(try (refine wS ?_)))))
    all_goals first
     | exact A3 (j.length-(k+1)) (by omega) ⟨k+1,rfl,by omega,byS,by unfold bkC;exact byQ,by omega,byS⟩
     | (simp only[sxd,z0,p0,Nat.reduceEqDiff,↓reduceIte,Tryz.f13, *];exact aX)
   ·(repeat' (first|exact trivial|refine stR ?_|((first|refine stp ?_|refine A0 (fun h=>?_) ?_|(refine gw (fun h=>?_) (fun h=>?_)<;>(try (exfalso;omega))))<;>(try (refine wS ?_)))))
    all_goals (simp only[sxd,z0,p0,Nat.reduceEqDiff,↓reduceIte,Tryz.f13, *];exact aX)
end D
theorem A71(j:List EntV)(k:Nat):(Ab j).take k=Ab (j.take k):=by simp [Ab]
theorem JOk.take{j:List EntV}(h:JOk j)(k:Nat):JOk (j.take k):=⟨by have:=h.n;unfold Sz at *;rw[List.length_take];omega,fun e he=>h.e e (List.mem_of_mem_take he)⟩
namespace D
set_option maxHeartbeats 8000000 in
theorem Wy{j:List EntV}(hj:JOk j):∃ z:Int,True∧Cn 101 [.sl (Ab j)] (.val (gI z)):=by
 have hn:=hj.n
 unfold Sz at hn
 have hl:=Bt j
 have hw:=Pq j
 have ht:=A71 j
 have ce:=Lib.hid fun (k:Nat) (e:EntV) (h:e∈j)=>A5j (j:=j.take k) (hj.take k).n (hj.e e h)
 have cx:=Lib.hid fun (k:Nat) (e:EntV) (h:e∈j) (h2:e.legs.length≤12)=>A7z (hj.take k) (hj.e e h) h2
 have hsz:=Lib.hid fun (e:EntV) (h:e∈j)=>(hj.e e h).n
 clear hj
 refine caS gI Tryz.func101 ?_
 (repeat' (first|exact trivial|refine stR ?_|((first|refine stp ?_|refine A0 (fun h=>?_) ?_|(refine gw (fun h=>?_) (fun h=>?_)<;>(try (exfalso;omega))))<;>(try (refine wS ?_)))))
 refine A9 (fun n tm hp nx=>∃ (k:Nat),n=j.length-k∧k≤j.length∧tm 0=.sl (Ab j)∧tm 3=gI k) j.length ⟨0,rfl,Nat.zero_le _,byS,byS⟩ ?_
 rintro n tm hp nx ⟨k,hnn,hk,g0,g3⟩
 by_cases hlt:k<j.length
 ·have e1:=Ch (List.getElem?_eq_getElem hlt)
  have hm:=List.getElem_mem hlt
  generalize j[k]=e at *
  obtain⟨x,hx,c1⟩:=ce.out k e hm
  have i1:0≤k∧k≤j.length:=by omega
  by_cases h0:x=0
  ·subst h0
   obtain⟨w,hwl,c2⟩:=cx.out k e hm (hx rfl)
   obtain⟨y,_,c3⟩:=A5s w e (by rw[hwl];exact hsz.out e hm) (hsz.out e hm)
   clear ce cx hx hsz hm hwl
   unfold Al at c1 c2 c3
   (repeat' (first|exact trivial|refine stR ?_|((first|refine cv (c1) ?_|refine cv (c2) ?_|refine cv (c3) ?_|refine stp ?_|refine A0 (fun h=>?_) ?_|(refine gw (fun h=>?_) (fun h=>?_)<;>(try (exfalso;omega))))<;>(try (refine wS ?_)))))
   all_goals first
    | exact A3 (j.length-(k+1)) (by omega) ⟨k+1,rfl,by omega,byS,byS⟩
    | (simp only[sxd,z0,p0,Nat.reduceEqDiff,↓reduceIte,Tryz.f101, *];exact aX)
  ·clear cx ce hx hsz hm
   unfold Al at c1
   (repeat' (first|exact trivial|refine stR ?_|((first|refine cv (c1) ?_|refine stp ?_|refine A0 (fun h=>?_) ?_|(refine gw (fun h=>?_) (fun h=>?_)<;>(try (exfalso;omega))))<;>(try (refine wS ?_)))))
   all_goals first
    | exact A3 (j.length-(k+1)) (by omega) ⟨k+1,rfl,by omega,byS,byS⟩
    | (simp only[sxd,z0,p0,Nat.reduceEqDiff,↓reduceIte,Tryz.f101, *];exact aX)
 ·clear ce cx
  (repeat' (first|exact trivial|refine stR ?_|((first|refine stp ?_|refine A0 (fun h=>?_) ?_|(refine gw (fun h=>?_) (fun h=>?_)<;>(try (exfalso;omega))))<;>(try (refine wS ?_)))))
  all_goals (simp only[sxd,z0,p0,Nat.reduceEqDiff,↓reduceIte,Tryz.f101, *];exact aX)
set_option maxHeartbeats 8000000 in
theorem A6y{b:BkV}(hb:b.Ok){j:List EntV}(hj:JOk j):∃ z:Int,True∧Cn 45 [.agg (bkC b (Ab j))] (.val (gI z)):=by
 obtain⟨x,_,c1⟩:=Wy hj
 have hn:=hj.n
 unfold Sz at hn
 have hl:=Bt j
 have cl:=Lib.hid fun (e:EntV) (h:e∈j)=>A5l hb (Ab j) (hj.e e h).n
 clear hb hj
 unfold bkC
 refine caS gI Tryz.func45 ?_
 (repeat' (first|exact trivial|refine stR ?_|((first|refine cv (c1) ?_|refine stp ?_|refine A0 (fun h=>?_) ?_|(refine gw (fun h=>?_) (fun h=>?_)<;>(try (exfalso;omega))))<;>(try (refine wS ?_)))))
 all_goals first
  | (simp only[sxd,z0,p0,Nat.reduceEqDiff,↓reduceIte,Tryz.f45, *];exact aX)
  | skip
 refine A9 (fun n tm hp nx=>∃ (k:Nat),n=j.length-k∧k≤j.length∧tm 1=.pt 0 0 0∧hp 0=some ⟨33,[bkC b (Ab j)],true⟩∧0<nx∧tm 3=gI k) j.length ⟨0,rfl,Nat.zero_le _,byS,by unfold bkC;exact byQ,by omega,byS⟩ ?_
 clear c1
 rintro n tm hp nx ⟨k,hnn,hk,g1,b0,hx,g3⟩
 unfold bkC at b0
 by_cases hlt:k<j.length
 ·have e1:=Ch (List.getElem?_eq_getElem hlt)
  obtain⟨y,_,c2⟩:=cl.out _ (List.getElem_mem hlt)
  generalize j[k]=e at *
  unfold bkC Al at c2
  clear cl
  (repeat' (first|exact trivial|refine stR ?_|((first|refine cv (c2) ?_|refine stp ?_|refine A0 (fun h=>?_) ?_|(refine gw (fun h=>?_) (fun h=>?_)<;>(try (exfalso;omega))))<;>(try (refine wS ?_)))))
  all_goals first
   | exact A3 (j.length-(k+1)) (by omega) ⟨k+1,rfl,by omega,byS,by unfold bkC;exact byQ,by omega,byS⟩
   | (simp only[sxd,z0,p0,Nat.reduceEqDiff,↓reduceIte,Tryz.f45, *];exact aX)
 ·clear cl
  (repeat' (first|exact trivial|refine stR ?_|((first|refine stp ?_|refine A0 (fun h=>?_) ?_|(refine gw (fun h=>?_) (fun h=>?_)<;>(try (exfalso;omega))))<;>(try (refine wS ?_)))))
  all_goals (simp only[sxd,z0,p0,Nat.reduceEqDiff,↓reduceIte,Tryz.f45, *];exact aX)
end D
namespace D
set_option maxHeartbeats 8000000 in
theorem A04{b:BkV}(hb:b.Ok){j:List EntV}(hj:JOk j):∃ z:Int,True∧Cn 14 [.agg (bkC b (Ab j))] (.val (gI z)):=by
 obtain⟨x1,_,c1⟩:=Vk hb.r1 hb.n1
 obtain⟨x2,_,c2⟩:=A6e hb.r2 hb.n2
 obtain⟨x3,_,c3⟩:=A9p b.chart hb.n3 hb.r3 b.plan
 obtain⟨x4,_,c4⟩:=A2f hb (Ab j)
 obtain⟨x5,_,c5⟩:=A9k hb (Ab j)
 obtain⟨x6,_,c6⟩:=A6y hb hj
 obtain⟨x7,_,c7⟩:=Acv b.holds hb.n6 hb.r6
 obtain⟨x8,_,c8⟩:=A68 b.blocks hb.n7 hb.r7
 clear hb hj
 unfold bkC at *
 refine caS gI Tryz.func14 ?_
 (repeat' (first|exact trivial|refine stR ?_|((first|refine cv (c1) ?_|refine cv (c2) ?_|refine cv (c3) ?_|refine cv (c4) ?_|refine cv (c5) ?_|refine cv (c6) ?_|refine cv (c7) ?_|refine cv (c8) ?_|refine stp ?_|refine A0 (fun h=>?_) ?_|(refine gw (fun h=>?_) (fun h=>?_)<;>(try (exfalso;omega))))<;>(try (refine wS ?_)))))
 all_goals (simp only[sxd,z0,p0,Nat.reduceEqDiff,↓reduceIte,Tryz.f14, *];exact aX)
theorem Agj{b:BkV}(hb:b.Ok){j:List EntV}(hj:JOk j):∃ z:Bool,True∧Cn 4 [.agg (bkC b (Ab j))] (.val (gB z)):=by
 obtain⟨x1,_,c1⟩:=Anx hb hj.n (fun e he=>(hj.e e he).n)
 obtain⟨x2,_,c2⟩:=A04 hb hj
 clear hb hj
 unfold bkC at *
 refine caS gB Tryz.func4 ?_
 (repeat' (first|exact trivial|refine stR ?_|((first|refine cv (c1) ?_|refine cv (c2) ?_|refine stp ?_|refine A0 (fun h=>?_) ?_|(refine gw (fun h=>?_) (fun h=>?_)<;>(try (exfalso;omega))))<;>(try (refine wS ?_)))))
 all_goals (simp only[sxd,z0,p0,Nat.reduceEqDiff,↓reduceIte,Tryz.f4, *];exact aX)
end D
def Js(e:EntV)(d:Int):EntV:={ e with booked:=d,value:=if d<e.value then d else e.value,kind:=3,auth:=1,period:=0 }
theorem Ag5{e:EntV}(h:e.Ok){d:Int}(hd:I64 d):(Js e d).Ok:=by
 obtain⟨i1,i2,i3,i4,i5,i6⟩:=h.i
 unfold I64 at *
 exact⟨h.k,h.t,h.n,h.c,⟨i1,hd,by unfold Js I64;dsimp only;split<;>omega,by unfold Js I64;dsimp only;omega,by unfold Js I64;dsimp only;omega,by unfold Js I64;dsimp only;omega⟩,h.h,h.l,h.y⟩
set_option maxHeartbeats 4000000 in
theorem Ag6(e:EntV)(d:Int):Cn 7 [.agg (Al e),gI d] (.val (.agg (Al (Js e d)))):=by
 unfold Al Js
 dsimp only
 refine cvS Tryz.func7 ?_
 (repeat' (first|exact trivial|refine stR ?_|((first|refine stp ?_|refine A0 (fun h=>?_) ?_|(refine gw (fun h=>?_) (fun h=>?_)<;>(try (exfalso;omega))))<;>(try (refine wS ?_)))))
 all_goals (refine rc1 rfl ?_)
 all_goals rfl
end Go.Proofs.YtbhffbgbhgjdiaaGreatDoor
