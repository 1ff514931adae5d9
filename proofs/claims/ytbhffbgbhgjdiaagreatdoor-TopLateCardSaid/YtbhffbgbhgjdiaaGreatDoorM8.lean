/-
  Parts of the proof: S5 S6. Conditions: those that each theorem states.
-/
import Derived.Test.YtbhffbgbhgjdiaaGreatDoorM5
import Derived.Test.YtbhffbgbhgjdiaaGreatDoorM6
set_option linter.unusedSimpArgs false
set_option linter.unusedVariables false
namespace Go.Proofs.YtbhffbgbhgjdiaaGreatDoor
open Go.RowKit
set_option maxRecDepth 100000
theorem Em(s:ByteArray)(k:Nat)(hk:k<s.size):s.data.toList[k]?=some (s[k]'hk):=by
 have:k<s.data.toList.length:=by rw[Array.length_toList];exact hk
 rw[List.getElem?_eq_getElem this];rfl
namespace D
theorem A55(s:ByteArray)(hs:Sz s.size)(least most:Int):∃ x:Bool,(x=true→(s.size:Int)≤most)∧Cn 62 [gS s,.ex (.int .u8 least),gI most] (.val (gB x)):=by
 unfold Sz at hs
 refine caS gB Tryz.func62 ?_
 (repeat' (first|exact trivial|refine stR ?_|((first|refine stp ?_|refine A0 (fun h=>?_) ?_|(refine gw (fun h=>?_) (fun h=>?_)<;>(try (exfalso;omega))))<;>(try (refine wS ?_)))))
 refine A9 (fun n tm hp nx=>∃ k:Nat,n=s.size-k∧k≤s.size∧tm 0=gS s∧tm 1=.ex (.int .u8 least)∧tm 2=gI most∧tm 9=gI s.size∧tm 10=gI k) s.size ⟨0,rfl,Nat.zero_le _,byS,byS,byS,byS,byS⟩ ?_
 rintro n tm hp nx ⟨k,hnn,hk,g0,g1,g2,g9,g10⟩
 by_cases hlt:k<s.size
 ·have f1:=Em s k hlt
  generalize s[k]'hlt=c at f1
  (repeat' (first|exact trivial|refine stR ?_|((first|refine stp ?_|refine A0 (fun h=>?_) ?_|(refine gw (fun h=>?_) (fun h=>?_)<;>(try (exfalso;omega))))<;>(try (refine wS ?_)))))
  all_goals first
   | exact A3 (s.size-(k+1)) (by omega) ⟨k+1,rfl,by omega,byS,byS,byS,byS,byS⟩
   | (simp only[sxd,z0,p0,Nat.reduceEqDiff,↓reduceIte,Tryz.f62, *];exact⟨_,rfl,fun h=>(by cases h)⟩)
 ·(repeat' (first|exact trivial|refine stR ?_|((first|refine stp ?_|refine A0 (fun h=>?_) ?_|(refine gw (fun h=>?_) (fun h=>?_)<;>(try (exfalso;omega))))<;>(try (refine wS ?_)))))
  all_goals (simp only[sxd,z0,p0,Nat.reduceEqDiff,↓reduceIte,Tryz.f62, *];exact⟨_,rfl,fun h=>by simpa using h⟩)
theorem Aq7(s:ByteArray)(hs:Sz s.size):∃ x:Bool,(x=true→s.size≤48)∧Cn 61 [gS s] (.val (gB x)):=by
 obtain⟨x,hx,hc⟩:=A55 s hs 33 48
 have hx':x=true→s.size≤48:=fun h=>by have:=hx h;omega
 clear hx
 refine caS gB Tryz.func61 ?_
 (repeat' (first|exact trivial|refine stR ?_|((first|refine cv (hc) ?_|refine stp ?_|refine A0 (fun h=>?_) ?_|(refine gw (fun h=>?_) (fun h=>?_)<;>(try (exfalso;omega))))<;>(try (refine wS ?_)))))
 all_goals (simp only[sxd,z0,p0,Nat.reduceEqDiff,↓reduceIte,Tryz.f61, *];first|exact⟨_,rfl,hx'⟩|exact⟨_,rfl,fun h=>(by cases h)⟩)
theorem A15(n:Int):∃ x:Bool,x=decide (0≤n∧n≤73048)∧Cn 63 [gI n] (.val (gB x)):=by
 refine caS gB Tryz.func63 ?_
 (repeat' (first|exact trivial|refine stR ?_|((first|refine stp ?_|refine A0 (fun h=>?_) ?_|(refine gw (fun h=>?_) (fun h=>?_)<;>(try (exfalso;omega))))<;>(try (refine wS ?_)))))
 all_goals (simp only[sxd,z0,p0,Nat.reduceEqDiff,↓reduceIte,Tryz.f63, *];refine⟨_,rfl, ?_⟩;simp_all<;>omega)
theorem Aj3(s:ByteArray)(hs:Sz s.size):∃ x:Bool,(x=true→s.size=3)∧Cn 64 [gS s] (.val (gB x)):=by
 unfold Sz at hs
 refine caS gB Tryz.func64 ?_
 (repeat' (first|exact trivial|refine stR ?_|((first|refine stp ?_|refine A0 (fun h=>?_) ?_|(refine gw (fun h=>?_) (fun h=>?_)<;>(try (exfalso;omega))))<;>(try (refine wS ?_)))))
 refine A9 (fun n tm hp nx=>∃ k:Nat,n=s.size-k∧k≤s.size∧tm 0=gS s∧tm 5=gI s.size∧tm 6=gI k) s.size ⟨0,rfl,Nat.zero_le _,byS,byS,byS⟩ ?_
 rintro n tm hp nx ⟨k,hnn,hk,g0,g5,g6⟩
 by_cases hlt:k<s.size
 ·have f1:=Em s k hlt
  generalize s[k]'hlt=c at f1
  (repeat' (first|exact trivial|refine stR ?_|((first|refine stp ?_|refine A0 (fun h=>?_) ?_|(refine gw (fun h=>?_) (fun h=>?_)<;>(try (exfalso;omega))))<;>(try (refine wS ?_)))))
  all_goals first
   | exact A3 (s.size-(k+1)) (by omega) ⟨k+1,rfl,by omega,byS,byS,byS⟩
   | (simp only[sxd,z0,p0,Nat.reduceEqDiff,↓reduceIte,Tryz.f64, *];exact⟨_,rfl,fun h=>(by cases h)⟩)
 ·(repeat' (first|exact trivial|refine stR ?_|((first|refine stp ?_|refine A0 (fun h=>?_) ?_|(refine gw (fun h=>?_) (fun h=>?_)<;>(try (exfalso;omega))))<;>(try (refine wS ?_)))))
  all_goals (simp only[sxd,z0,p0,Nat.reduceEqDiff,↓reduceIte,Tryz.f64, *];exact⟨_,rfl,fun h=>by have:=of_decide_eq_true h;omega⟩)
end D
structure EntV.Good(e:EntV):Prop where
 k:e.key.size≤48
 t:e.text.size≤64
 b:0≤e.booked∧e.booked≤73048
 v:0≤e.value∧e.value≤73048
 p:0≤e.period∧e.period≤73048
 n:e.legs.length≤12
 l:∀ x∈e.legs,x.cur.size=3
theorem Awn{e:EntV}{a b c:Bool}(ha:a=decide (0≤e.booked∧e.booked≤73048))(hb:b=decide (0≤e.value∧e.value≤73048))(hc:c=decide (0≤e.period∧e.period≤73048))(h1:a=true)(h2:b=true)(h3:c=true) :
  (0≤e.booked∧e.booked≤73048)∧(0≤e.value∧e.value≤73048)∧(0≤e.period∧e.period≤73048):=by
 subst ha hb hc
 exact⟨of_decide_eq_true h1,of_decide_eq_true h2,of_decide_eq_true h3⟩
namespace D
set_option maxHeartbeats 2000000 in
theorem Nb(e:EntV)(ho:e.Ok):∃ x:Int,(x=0→e.Good)∧Cn 28 [.agg (Al e)] (.val (gI x)):=by
 obtain⟨x1,p1,c1⟩:=Aq7 e.key ho.k
 obtain⟨x2,p2,c2⟩:=A55 e.text ho.t 32 64
 obtain⟨x3,p3,c3⟩:=A15 e.booked
 obtain⟨x4,p4,c4⟩:=A15 e.value
 obtain⟨x5,p5,c5⟩:=A15 e.period
 have hG:x1=true→x2=true→x3=true→x4=true→x5=true→e.legs.length≤12→(∀ x∈e.legs,x.cur.size=3)→e.Good:=fun h1 h2 h3 h4 h5 h6 h7=>by
  obtain⟨q1,q2,q3⟩:=Awn p3 p4 p5 h3 h4 h5
  have:=p2 h2
  exact⟨p1 h1,by omega,q1,q2,q3,h6,h7⟩
 clear p1 p2 p3 p4 p5
 replace hG:=Lib.hid hG
 have hc:=Lib.hid ho.c
 have hn:=ho.n
 unfold Sz at hn
 have hl:=B9 e.legs
 by_cases hlen:e.legs.length≤12
 ·have cS:=Aa7 e.legs (by omega)
  have hsl:=Jj e.legs
  generalize hS:Dv e.legs=S at cS hsl
  have hml:=Ex S
  have hlen2:¬ (12<(e.legs.length:Int)):=by omega
  unfold Al
  refine caS gI Tryz.func28 ?_
  (repeat' (first|exact trivial|refine stR ?_|((first|refine cv (c1) ?_|refine cv (c2) ?_|refine cv (c3) ?_|refine cv (c4) ?_|refine cv (c5) ?_|refine stp ?_|refine A0 (fun h=>?_) ?_|(refine gw (fun h=>?_) (fun h=>?_)<;>(try (exfalso;omega))))<;>(try (refine wS ?_)))))
  all_goals try (simp only[sxd,z0,p0,Nat.reduceEqDiff,↓reduceIte,Tryz.f28, *];exact⟨_,rfl,fun h=>absurd h (by decide)⟩)
  replace hG:=Lib.hid (hG.out ‹x1=true› ‹x2=true› ‹x3=true› ‹x4=true› ‹x5=true› hlen)
  clear c1 c2 c3 c4 c5 hS
  refine A9 (fun n tm hp nx=>∃ k:Nat,n=e.legs.length-k∧k≤e.legs.length∧tm 1=.pt 0 0 0∧hp 0=some ⟨39,[[gI e.id,gI e.booked,gI e.value,gI e.kind,gI e.auth,gI e.period,gS e.key,gS e.text,.sl (Ac e.legs),.ex (.int .u64 e.chain)]],true⟩∧0<nx∧tm 66=.sl (Ac e.legs)∧tm 67=gI e.legs.length∧tm 68=gI k∧Hid (∀ (j:Nat) x,j<k→e.legs[j]?=some x→x.cur.size=3)) e.legs.length ⟨0,rfl,Nat.zero_le _,byS,byQ,by omega,byS,byS,byS,Lib.hid fun j x hj=>absurd hj (Nat.not_lt_zero _)⟩ ?_
  rintro n tm hp nx ⟨k,hnn,hk,g1,b0,hx,g66,g67,g68,hH⟩
  by_cases hlt:k<e.legs.length
  ·have e1:=List.getElem?_eq_getElem hlt
   have hcc:=hc.out _ (List.getElem_mem hlt)
   generalize e.legs[k]=x at e1 hcc
   have e0:=Bq e1
   obtain⟨y,hy,cc⟩:=Aj3 x.cur hcc
   cases y with
   | false =>
    clear hy hH hG hc e1 hcc
    (repeat' (first|exact trivial|refine stR ?_|((first|refine cv (cc) ?_|refine stp ?_|refine A0 (fun h=>?_) ?_|(refine gw (fun h=>?_) (fun h=>?_)<;>(try (exfalso;omega))))<;>(try (refine wS ?_)))))
    all_goals (simp only[sxd,z0,p0,Nat.reduceEqDiff,↓reduceIte,Tryz.f28, *];exact⟨_,rfl,fun h=>absurd h (by decide)⟩)
   | true =>
    have hN:Hid (∀ (j:Nat) x,j<k+1→e.legs[j]?=some x→x.cur.size=3):=Lib.hid fun j z hj hz=>by
     rcases Nat.lt_or_ge j k with h1|h1
     ·exact hH.out j z h1 hz
     ·have:j=k:=by omega
      subst this
      rw[e1] at hz;cases hz;exact hy rfl
    clear hy hH hG hc e1 hcc
    (repeat' (first|exact trivial|refine stR ?_|((first|refine cv (cc) ?_|refine stp ?_|refine A0 (fun h=>?_) ?_|(refine gw (fun h=>?_) (fun h=>?_)<;>(try (exfalso;omega))))<;>(try (refine wS ?_)))))
    all_goals first
     | exact A3 (e.legs.length-(k+1)) (by omega) ⟨k+1,rfl,by omega,byS,byQ,by omega,byS,byS,byS,hN⟩
     | (simp only[sxd,z0,p0,Nat.reduceEqDiff,↓reduceIte,Tryz.f28, *];exact⟨_,rfl,fun h=>absurd h (by decide)⟩)
  ·replace hG := Lib.hid (hG.out fun x hx=>by
    obtain⟨j,hj⟩:=List.mem_iff_getElem?.1 hx
    exact hH.out j x (by have:=(List.getElem?_eq_some_iff.1 hj).1;omega) hj)
   clear hH hc
   (repeat' (first|exact trivial|refine stR ?_|((first|refine cf (cS) ?_|refine stp ?_|refine A0 (fun h=>?_) ?_|(refine gw (fun h=>?_) (fun h=>?_)<;>(try (exfalso;omega))))<;>(try (refine wS ?_)))))
   refine A9 (fun n tm hp nx=>∃ (k b:Nat),n=S.length-k∧k≤S.length∧tm 97=.own b∧hp b=some ⟨122,Ay S,true⟩∧b<nx∧tm 98=gI S.length∧tm 99=gI k) S.length ⟨0,_,rfl,Nat.zero_le _,byQ,byQ,by omega,byQ,byS⟩ ?_
   clear g1 b0 hx g66 g67 g68
   rintro n tm hp nx ⟨k,b,hnn,hk,g97,hb,hbn,g98,g99⟩
   by_cases hlt:k<S.length
   ·have e1:=List.getElem?_eq_getElem hlt
    generalize S[k]=m at e1
    have e0:=Fq e1
    (repeat' (first|exact trivial|refine stR ?_|((first|refine stp ?_|refine A0 (fun h=>?_) ?_|(refine gw (fun h=>?_) (fun h=>?_)<;>(try (exfalso;omega))))<;>(try (refine wS ?_)))))
    all_goals first
     | exact A3 (S.length-(k+1)) (by omega) ⟨k+1,b,rfl,by omega,byS,byQ,by omega,byS,byS⟩
     | (simp only[sxd,z0,p0,Nat.reduceEqDiff,↓reduceIte,Tryz.f28, *];exact⟨_,rfl,fun h=>absurd h (by decide)⟩)
   ·(repeat' (first|exact trivial|refine stR ?_|((first|refine stp ?_|refine A0 (fun h=>?_) ?_|(refine gw (fun h=>?_) (fun h=>?_)<;>(try (exfalso;omega))))<;>(try (refine wS ?_)))))
    all_goals (simp only[sxd,z0,p0,Nat.reduceEqDiff,↓reduceIte,Tryz.f28, *];exact⟨_,rfl,fun _=>hG.out⟩)
 ·have hlen2:(12<(e.legs.length:Int)):=by omega
  unfold Al
  refine caS gI Tryz.func28 ?_
  (repeat' (first|exact trivial|refine stR ?_|((first|refine cv (c1) ?_|refine cv (c2) ?_|refine cv (c3) ?_|refine cv (c4) ?_|refine cv (c5) ?_|refine stp ?_|refine A0 (fun h=>?_) ?_|(refine gw (fun h=>?_) (fun h=>?_)<;>(try (exfalso;omega))))<;>(try (refine wS ?_)))))
  all_goals (simp only[sxd,z0,p0,Nat.reduceEqDiff,↓reduceIte,Tryz.f28, *];exact⟨_,rfl,fun h=>absurd h (by decide)⟩)
end D
end Go.Proofs.YtbhffbgbhgjdiaaGreatDoor
