/-
  Parts of the proof: K1 K2 K3 S39. Conditions: those that each theorem states.
-/
import Derived.Test.YtbhffbgbhgjdiaaGreatDoorM23
import Derived.Test.YtbhffbgbhgjdiaaGreatDoorM5
import Derived.Test.YtbhffbgbhgjdiaaGreatDoorM24
set_option linter.unusedSimpArgs false
set_option linter.unusedVariables false
namespace Go.Proofs.YtbhffbgbhgjdiaaGreatDoor
open Go.RowKit
set_option maxRecDepth 100000
theorem Jk{L:List (List AV)}(h:(L.all (·.all p0))=true)(k:Nat):((L.take k).all (·.all p0))=true:=by
 rw[List.all_eq_true] at *
 exact fun x hx=>h x (List.mem_of_mem_take hx)
theorem Fg{L:List (List AV)}{k:Nat}{x:List AV}(h:L[k]?=some x):L.take k++[x]=L.take (k+1):=by rw[List.take_add_one,h];rfl
set_option maxHeartbeats 4000000 in
theorem Xo(L:List (List AV))(f1:(L.all (·.all p0))=true)(f2:L.map (·.map z0)=L)(f3:∀ x∈L,∃ (x0:ByteArray) (x1:List (List AV)) (x2:List (List AV)),x=[gS x0,.sl x1,.sl x2])(f4:L.length*64≤140737488355328)(c:∀ x∈L,Cn 82 [.agg x] (.val (.agg x))) :
  Cn 81 [.sl L,.ex (.func (.func 82) #[] #[])] (.val (.sl L)):=by
 replace c:=Lib.hid c
 refine cvS Tryz.func81 ?_
 (repeat' (first|exact trivial|refine stR ?_|((first|refine stp ?_|refine A0 (fun h=>?_) ?_|(refine gw (fun h=>?_) (fun h=>?_)<;>(try (exfalso;omega))))<;>(try (refine wS ?_)))))
 refine A9 (fun n tm hp nx=>∃ k q:Nat,n=L.length-k∧k≤L.length∧tm 1=.ex (.func (.func 82) #[] #[])∧tm 11=.sl L∧tm 12=gI L.length∧tm 13=gI k∧tm 5=.own q∧hp q=some ⟨95,L.take k,true⟩∧q<nx) _ ⟨0,_,rfl,Nat.zero_le _,byS,byS,byS,byS,byQ,byQ,by omega⟩ ?_
 rintro n tm hp nx ⟨k,q,rfl,hk,g1,g11,g12,g13,g5,hq,hqn⟩
 have a1:=Jk f1 k
 have a2:(L.take k).length=k:=by rw[List.length_take];omega
 by_cases hlt:k<L.length
 ·obtain⟨x,hx⟩:∃ x,L[k]?=some x:=⟨_,List.getElem?_eq_getElem hlt⟩
  have hm:=List.mem_of_getElem? hx
  have c1:=c.out x hm
  obtain⟨x0,x1,x2,rfl⟩:=f3 x hm
  have qs:=Fg hx
  clear c hm
  (repeat' (first|exact trivial|refine stR ?_|((first|refine cv (c1) ?_|refine stp ?_|refine A0 (fun h=>?_) ?_|(refine gw (fun h=>?_) (fun h=>?_)<;>(try (exfalso;omega))))<;>(try (refine wS ?_)))))
  all_goals exact A3 (L.length-(k+1)) (by omega) ⟨k+1,_,rfl,by omega,byS,byS,byS,by first|exact byQ|exact byN,byQ,by first|exact byQ|exact byO,by omega⟩
 ·have hkk:L.take k=L:=List.take_of_length_le (by omega)
  rw[hkk] at hq
  clear c
  (repeat' (first|exact trivial|refine stR ?_|((first|refine stp ?_|refine A0 (fun h=>?_) ?_|(refine gw (fun h=>?_) (fun h=>?_)<;>(try (exfalso;omega))))<;>(try (refine wS ?_)))))
  all_goals simp only[sxd,z0,p0,Nat.reduceEqDiff,↓reduceIte,Tryz.f81, *]
set_option maxHeartbeats 4000000 in
theorem Um(L:List (List AV))(f1:(L.all (·.all p0))=true)(f2:L.map (·.map z0)=L)(f3:∀ x∈L,∃ (x0:ByteArray) (x1:ByteArray) (x2:ByteArray) (x3:Int) (x4:Int) (x5:Int) (x6:Int) (x7:List (List AV)) (x8:Bool) (x9:Int) (x10:Int) (x11:Bool) (x12:List (List AV)) (x13:Bool) (x14:Int) (x15:Int) (x16:Bool) (x17:List (List AV)) (x18:List (List AV)),x=[gS x0,gS x1,gS x2,gI x3,gI x4,gI x5,gI x6,.sl x7,gB x8,gI x9,gI x10,gB x11,.sl x12,gB x13,gI x14,gI x15,gB x16,.sl x17,.sl x18])(f4:L.length*240≤140737488355328)(c:∀ x∈L,Cn 85 [.agg x] (.val (.agg x))) :
  Cn 84 [.sl L,.ex (.func (.func 85) #[] #[])] (.val (.sl L)):=by
 replace c:=Lib.hid c
 refine cvS Tryz.func84 ?_
 (repeat' (first|exact trivial|refine stR ?_|((first|refine stp ?_|refine A0 (fun h=>?_) ?_|(refine gw (fun h=>?_) (fun h=>?_)<;>(try (exfalso;omega))))<;>(try (refine wS ?_)))))
 refine A9 (fun n tm hp nx=>∃ k q:Nat,n=L.length-k∧k≤L.length∧tm 1=.ex (.func (.func 85) #[] #[])∧tm 11=.sl L∧tm 12=gI L.length∧tm 13=gI k∧tm 5=.own q∧hp q=some ⟨72,L.take k,true⟩∧q<nx) _ ⟨0,_,rfl,Nat.zero_le _,byS,byS,byS,byS,byQ,byQ,by omega⟩ ?_
 rintro n tm hp nx ⟨k,q,rfl,hk,g1,g11,g12,g13,g5,hq,hqn⟩
 have a1:=Jk f1 k
 have a2:(L.take k).length=k:=by rw[List.length_take];omega
 by_cases hlt:k<L.length
 ·obtain⟨x,hx⟩:∃ x,L[k]?=some x:=⟨_,List.getElem?_eq_getElem hlt⟩
  have hm:=List.mem_of_getElem? hx
  have c1:=c.out x hm
  obtain⟨x0,x1,x2,x3,x4,x5,x6,x7,x8,x9,x10,x11,x12,x13,x14,x15,x16,x17,x18,rfl⟩:=f3 x hm
  have qs:=Fg hx
  clear c hm
  (repeat' (first|exact trivial|refine stR ?_|((first|refine cv (c1) ?_|refine stp ?_|refine A0 (fun h=>?_) ?_|(refine gw (fun h=>?_) (fun h=>?_)<;>(try (exfalso;omega))))<;>(try (refine wS ?_)))))
  all_goals exact A3 (L.length-(k+1)) (by omega) ⟨k+1,_,rfl,by omega,byS,byS,byS,by first|exact byQ|exact byN,byQ,by first|exact byQ|exact byO,by omega⟩
 ·have hkk:L.take k=L:=List.take_of_length_le (by omega)
  rw[hkk] at hq
  clear c
  (repeat' (first|exact trivial|refine stR ?_|((first|refine stp ?_|refine A0 (fun h=>?_) ?_|(refine gw (fun h=>?_) (fun h=>?_)<;>(try (exfalso;omega))))<;>(try (refine wS ?_)))))
  all_goals simp only[sxd,z0,p0,Nat.reduceEqDiff,↓reduceIte,Tryz.f84, *]
set_option maxHeartbeats 4000000 in
theorem Xq(L:List (List AV))(f1:(L.all (·.all p0))=true)(f2:L.map (·.map z0)=L)(f3:∀ x∈L,∃ (x0:ByteArray) (x1:Int) (x2:Int) (x3:Int) (x4:ByteArray) (x5:List (List AV)) (x6:Int) (x7:Int) (x8:ByteArray) (x9:List (List AV)),x=[gS x0,gI x1,gI x2,gI x3,gS x4,.sl x5,gI x6,gI x7,gS x8,.sl x9])(f4:L.length*136≤140737488355328)(c:∀ x∈L,Cn 140 [.agg x] (.val (.agg x))) :
  Cn 139 [.sl L,.ex (.func (.func 140) #[] #[])] (.val (.sl L)):=by
 replace c:=Lib.hid c
 refine cvS Tryz.func139 ?_
 (repeat' (first|exact trivial|refine stR ?_|((first|refine stp ?_|refine A0 (fun h=>?_) ?_|(refine gw (fun h=>?_) (fun h=>?_)<;>(try (exfalso;omega))))<;>(try (refine wS ?_)))))
 refine A9 (fun n tm hp nx=>∃ k q:Nat,n=L.length-k∧k≤L.length∧tm 1=.ex (.func (.func 140) #[] #[])∧tm 11=.sl L∧tm 12=gI L.length∧tm 13=gI k∧tm 5=.own q∧hp q=some ⟨210,L.take k,true⟩∧q<nx) _ ⟨0,_,rfl,Nat.zero_le _,byS,byS,byS,byS,byQ,byQ,by omega⟩ ?_
 rintro n tm hp nx ⟨k,q,rfl,hk,g1,g11,g12,g13,g5,hq,hqn⟩
 have a1:=Jk f1 k
 have a2:(L.take k).length=k:=by rw[List.length_take];omega
 by_cases hlt:k<L.length
 ·obtain⟨x,hx⟩:∃ x,L[k]?=some x:=⟨_,List.getElem?_eq_getElem hlt⟩
  have hm:=List.mem_of_getElem? hx
  have c1:=c.out x hm
  obtain⟨x0,x1,x2,x3,x4,x5,x6,x7,x8,x9,rfl⟩:=f3 x hm
  have qs:=Fg hx
  clear c hm
  (repeat' (first|exact trivial|refine stR ?_|((first|refine cv (c1) ?_|refine stp ?_|refine A0 (fun h=>?_) ?_|(refine gw (fun h=>?_) (fun h=>?_)<;>(try (exfalso;omega))))<;>(try (refine wS ?_)))))
  all_goals exact A3 (L.length-(k+1)) (by omega) ⟨k+1,_,rfl,by omega,byS,byS,byS,by first|exact byQ|exact byN,byQ,by first|exact byQ|exact byO,by omega⟩
 ·have hkk:L.take k=L:=List.take_of_length_le (by omega)
  rw[hkk] at hq
  clear c
  (repeat' (first|exact trivial|refine stR ?_|((first|refine stp ?_|refine A0 (fun h=>?_) ?_|(refine gw (fun h=>?_) (fun h=>?_)<;>(try (exfalso;omega))))<;>(try (refine wS ?_)))))
  all_goals simp only[sxd,z0,p0,Nat.reduceEqDiff,↓reduceIte,Tryz.f139, *]
set_option maxHeartbeats 4000000 in
theorem Un(L:List (List AV))(f1:(L.all (·.all p0))=true)(f2:L.map (·.map z0)=L)(f3:∀ x∈L,∃ (x0:ByteArray) (x1:Int) (x2:Int) (x3:Int) (x4:ByteArray) (x5:List (List AV)),x=[gS x0,gI x1,gI x2,gI x3,gS x4,.sl x5])(f4:L.length*80≤140737488355328)(c:∀ x∈L,Cn 143 [.agg x] (.val (.agg x))) :
  Cn 142 [.sl L,.ex (.func (.func 143) #[] #[])] (.val (.sl L)):=by
 replace c:=Lib.hid c
 refine cvS Tryz.func142 ?_
 (repeat' (first|exact trivial|refine stR ?_|((first|refine stp ?_|refine A0 (fun h=>?_) ?_|(refine gw (fun h=>?_) (fun h=>?_)<;>(try (exfalso;omega))))<;>(try (refine wS ?_)))))
 refine A9 (fun n tm hp nx=>∃ k q:Nat,n=L.length-k∧k≤L.length∧tm 1=.ex (.func (.func 143) #[] #[])∧tm 11=.sl L∧tm 12=gI L.length∧tm 13=gI k∧tm 5=.own q∧hp q=some ⟨215,L.take k,true⟩∧q<nx) _ ⟨0,_,rfl,Nat.zero_le _,byS,byS,byS,byS,byQ,byQ,by omega⟩ ?_
 rintro n tm hp nx ⟨k,q,rfl,hk,g1,g11,g12,g13,g5,hq,hqn⟩
 have a1:=Jk f1 k
 have a2:(L.take k).length=k:=by rw[List.length_take];omega
 by_cases hlt:k<L.length
 ·obtain⟨x,hx⟩:∃ x,L[k]?=some x:=⟨_,List.getElem?_eq_getElem hlt⟩
  have hm:=List.mem_of_getElem? hx
  have c1:=c.out x hm
  obtain⟨x0,x1,x2,x3,x4,x5,rfl⟩:=f3 x hm
  have qs:=Fg hx
  clear c hm
  (repeat' (first|exact trivial|refine stR ?_|((first|refine cv (c1) ?_|refine stp ?_|refine A0 (fun h=>?_) ?_|(refine gw (fun h=>?_) (fun h=>?_)<;>(try (exfalso;omega))))<;>(try (refine wS ?_)))))
  all_goals exact A3 (L.length-(k+1)) (by omega) ⟨k+1,_,rfl,by omega,byS,byS,byS,by first|exact byQ|exact byN,byQ,by first|exact byQ|exact byO,by omega⟩
 ·have hkk:L.take k=L:=List.take_of_length_le (by omega)
  rw[hkk] at hq
  clear c
  (repeat' (first|exact trivial|refine stR ?_|((first|refine stp ?_|refine A0 (fun h=>?_) ?_|(refine gw (fun h=>?_) (fun h=>?_)<;>(try (exfalso;omega))))<;>(try (refine wS ?_)))))
  all_goals simp only[sxd,z0,p0,Nat.reduceEqDiff,↓reduceIte,Tryz.f142, *]
set_option maxHeartbeats 4000000 in
theorem Xp(L:List (List AV))(f1:(L.all (·.all p0))=true)(f2:L.map (·.map z0)=L)(f3:∀ x∈L,∃ (x0:Int) (x1:Int) (x2:Int) (x3:Int) (x4:Int) (x5:Int) (x6:ByteArray) (x7:ByteArray) (x8:List (List AV)) (x9:Int),x=[gI x0,gI x1,gI x2,gI x3,gI x4,gI x5,gS x6,gS x7,.sl x8,.ex (.int .u64 x9)])(f4:L.length*112≤140737488355328)(c:∀ x∈L,Cn 37 [.agg x] (.val (.agg x))) :
  Cn 144 [.sl L,.ex (.func (.func 37) #[] #[])] (.val (.sl L)):=by
 replace c:=Lib.hid c
 refine cvS Tryz.func144 ?_
 (repeat' (first|exact trivial|refine stR ?_|((first|refine stp ?_|refine A0 (fun h=>?_) ?_|(refine gw (fun h=>?_) (fun h=>?_)<;>(try (exfalso;omega))))<;>(try (refine wS ?_)))))
 refine A9 (fun n tm hp nx=>∃ k q:Nat,n=L.length-k∧k≤L.length∧tm 1=.ex (.func (.func 37) #[] #[])∧tm 11=.sl L∧tm 12=gI L.length∧tm 13=gI k∧tm 5=.own q∧hp q=some ⟨39,L.take k,true⟩∧q<nx) _ ⟨0,_,rfl,Nat.zero_le _,byS,byS,byS,byS,byQ,byQ,by omega⟩ ?_
 rintro n tm hp nx ⟨k,q,rfl,hk,g1,g11,g12,g13,g5,hq,hqn⟩
 have a1:=Jk f1 k
 have a2:(L.take k).length=k:=by rw[List.length_take];omega
 by_cases hlt:k<L.length
 ·obtain⟨x,hx⟩:∃ x,L[k]?=some x:=⟨_,List.getElem?_eq_getElem hlt⟩
  have hm:=List.mem_of_getElem? hx
  have c1:=c.out x hm
  obtain⟨x0,x1,x2,x3,x4,x5,x6,x7,x8,x9,rfl⟩:=f3 x hm
  have qs:=Fg hx
  clear c hm
  (repeat' (first|exact trivial|refine stR ?_|((first|refine cv (c1) ?_|refine stp ?_|refine A0 (fun h=>?_) ?_|(refine gw (fun h=>?_) (fun h=>?_)<;>(try (exfalso;omega))))<;>(try (refine wS ?_)))))
  all_goals exact A3 (L.length-(k+1)) (by omega) ⟨k+1,_,rfl,by omega,byS,byS,byS,by first|exact byQ|exact byN,byQ,by first|exact byQ|exact byO,by omega⟩
 ·have hkk:L.take k=L:=List.take_of_length_le (by omega)
  rw[hkk] at hq
  clear c
  (repeat' (first|exact trivial|refine stR ?_|((first|refine stp ?_|refine A0 (fun h=>?_) ?_|(refine gw (fun h=>?_) (fun h=>?_)<;>(try (exfalso;omega))))<;>(try (refine wS ?_)))))
  all_goals simp only[sxd,z0,p0,Nat.reduceEqDiff,↓reduceIte,Tryz.f144, *]
set_option maxHeartbeats 4000000 in
theorem Ul(L:List (List AV))(f1:(L.all (·.all p0))=true)(f2:L.map (·.map z0)=L)(f3:∀ x∈L,∃ (x0:Int) (x1:Int) (x2:ByteArray) (x3:List (List AV)),x=[gI x0,gI x1,gS x2,.sl x3])(f4:L.length*56≤140737488355328)(c:∀ x∈L,Cn 141 [.agg x] (.val (.agg x))) :
  Cn 193 [.sl L,.ex (.func (.func 141) #[] #[])] (.val (.sl L)):=by
 replace c:=Lib.hid c
 refine cvS Tryz.func193 ?_
 (repeat' (first|exact trivial|refine stR ?_|((first|refine stp ?_|refine A0 (fun h=>?_) ?_|(refine gw (fun h=>?_) (fun h=>?_)<;>(try (exfalso;omega))))<;>(try (refine wS ?_)))))
 refine A9 (fun n tm hp nx=>∃ k q:Nat,n=L.length-k∧k≤L.length∧tm 1=.ex (.func (.func 141) #[] #[])∧tm 11=.sl L∧tm 12=gI L.length∧tm 13=gI k∧tm 5=.own q∧hp q=some ⟨208,L.take k,true⟩∧q<nx) _ ⟨0,_,rfl,Nat.zero_le _,byS,byS,byS,byS,byQ,byQ,by omega⟩ ?_
 rintro n tm hp nx ⟨k,q,rfl,hk,g1,g11,g12,g13,g5,hq,hqn⟩
 have a1:=Jk f1 k
 have a2:(L.take k).length=k:=by rw[List.length_take];omega
 by_cases hlt:k<L.length
 ·obtain⟨x,hx⟩:∃ x,L[k]?=some x:=⟨_,List.getElem?_eq_getElem hlt⟩
  have hm:=List.mem_of_getElem? hx
  have c1:=c.out x hm
  obtain⟨x0,x1,x2,x3,rfl⟩:=f3 x hm
  have qs:=Fg hx
  clear c hm
  (repeat' (first|exact trivial|refine stR ?_|((first|refine cv (c1) ?_|refine stp ?_|refine A0 (fun h=>?_) ?_|(refine gw (fun h=>?_) (fun h=>?_)<;>(try (exfalso;omega))))<;>(try (refine wS ?_)))))
  all_goals exact A3 (L.length-(k+1)) (by omega) ⟨k+1,_,rfl,by omega,byS,byS,byS,by first|exact byQ|exact byN,byQ,by first|exact byQ|exact byO,by omega⟩
 ·have hkk:L.take k=L:=List.take_of_length_le (by omega)
  rw[hkk] at hq
  clear c
  (repeat' (first|exact trivial|refine stR ?_|((first|refine stp ?_|refine A0 (fun h=>?_) ?_|(refine gw (fun h=>?_) (fun h=>?_)<;>(try (exfalso;omega))))<;>(try (refine wS ?_)))))
  all_goals simp only[sxd,z0,p0,Nat.reduceEqDiff,↓reduceIte,Tryz.f193, *]
theorem O6(l:List Int):((Bf l).all (·.all p0))=true:=by simp [Bf,p0]
theorem O7(l:List Int):(Bf l).map (·.map z0)=Bf l:=by simp [Bf,z0]
theorem Ye(l:List Int):∀ n∈Bf l,n.length=1:=by simp [Bf]
theorem A7s(l:List LegV):∀ n∈Ac l,n.length=3:=by simp [Ac,Yh]
theorem Aeg(l:List LegV):((Ac l).all (·.all p0))=true:=by simp [Ac,Yh,p0]
theorem Aei(l:List LegV):(Ac l).map (·.map z0)=Ac l:=by simp [Ac,Yh,z0]
theorem Apd(l:List ExV):((Ea l).all (·.all p0))=true:=by
 rw[Hl,List.all_map,List.all_eq_true]
 rintro⟨a,b,c,d⟩ _
 simp only[Function.comp,Bl,List.all_cons,List.all_nil,p0,Bool.and_true,Bool.and_self]
theorem Ape(l:List ExV):(Ea l).map (·.map z0)=Ea l:=by
 rw[Hl,List.map_map]
 refine List.map_congr_left ?_
 rintro⟨a,b,c,d⟩ _
 simp only[Function.comp,Bl,List.map_cons,List.map_nil,z0]
theorem G5{f:FuncId}{us r:List AV}(h:∃ x:List AV,x=r∧Cn f us (.val (.agg x))):Cn f us (.val (.agg r)):=by
 obtain⟨x,rfl,h⟩:=h
 exact h
namespace D
theorem A05{r:List AV}(h:Gj r):Cn 82 [.agg r] (.val (.agg r)):=by
 obtain⟨s,we,ho,rfl,h1,h2,h3⟩:=h
 have c1:=Kg (Bf we) (O6 we) (O7 we) (Ye we) (by rw[Ec];exact h2)
 have c2:=Kg (Bf ho) (O6 ho) (O7 ho) (Ye ho) (by rw[Ec];exact h3)
 refine G5 ?_
 refine caS (fun x:List AV=>.agg x) Tryz.func82 ?_
 (repeat' (first|exact trivial|refine stR ?_|((first|refine cv (c1) ?_|refine cv (c2) ?_|refine stp ?_|refine A0 (fun h=>?_) ?_|(refine gw (fun h=>?_) (fun h=>?_)<;>(try (exfalso;omega))))<;>(try (refine wS ?_)))))
 all_goals (refine rc1 rfl ?_)
 all_goals exact⟨_,rfl,rfl⟩
theorem Oi{x:IntV}(h:x.Ok):Cn 138 [.agg (L5 x)] (.val (.agg (L5 x))):=by
 have c1:=Gk (An x.tiers) (Lp _) (Lq _) (N1 _) (by have:=h.y;unfold Sz at this;simpa [An] using this)
 refine G5 ?_
 unfold L5
 refine caS (fun x:List AV=>.agg x) Tryz.func138 ?_
 (repeat' (first|exact trivial|refine stR ?_|((first|refine cv (c1) ?_|refine stp ?_|refine A0 (fun h=>?_) ?_|(refine gw (fun h=>?_) (fun h=>?_)<;>(try (exfalso;omega))))<;>(try (refine wS ?_)))))
 all_goals (refine rc1 rfl ?_)
 all_goals exact⟨_,rfl,rfl⟩
theorem Oh{e:EntV}(h:e.Ok):Cn 37 [.agg (Al e)] (.val (.agg (Al e))):=by
 have c1:=Kh (Ac e.legs) (Aeg _) (Aei _) (A7s _) (by have:=h.y;unfold Sz at this;simpa [Ac] using this)
 refine G5 ?_
 unfold Al
 refine caS (fun x:List AV=>.agg x) Tryz.func37 ?_
 (repeat' (first|exact trivial|refine stR ?_|((first|refine cv (c1) ?_|refine stp ?_|refine A0 (fun h=>?_) ?_|(refine gw (fun h=>?_) (fun h=>?_)<;>(try (exfalso;omega))))<;>(try (refine wS ?_)))))
 all_goals (refine rc1 rfl ?_)
 all_goals exact⟨_,rfl,rfl⟩
theorem I4{x:ExV}(h:x.Ok):Cn 141 [.agg (exC x)] (.val (.agg (exC x))):=by
 induction h with
 | @mk op n s args h1 h2 h3 h4 _ ih =>
 have c1:=Ul (Ea args) (Apd _) (Ape _) (fun x hx=>by rw[Hl] at hx;obtain⟨y,hy,rfl⟩:=List.mem_map.1 hx;obtain⟨a,b,c,d⟩:=y;exact⟨_,_,_,_,Bl _ _ _ _⟩) (by rw[J9];exact h4) (fun x hx=>by rw[Hl] at hx;obtain⟨y,hy,rfl⟩:=List.mem_map.1 hx;exact ih y hy)
 rw[Bl]
 refine G5 ?_
 clear ih h1 h2 h3 h4
 refine caS (fun x:List AV=>.agg x) Tryz.func141 ?_
 (repeat' (first|exact trivial|refine stR ?_|((first|refine cv (c1) ?_|refine stp ?_|refine A0 (fun h=>?_) ?_|(refine gw (fun h=>?_) (fun h=>?_)<;>(try (exfalso;omega))))<;>(try (refine wS ?_)))))
 all_goals (refine rc1 rfl ?_)
 all_goals exact⟨_,rfl,rfl⟩
theorem A06{r:List AV}(h:I5 r):Cn 140 [.agg r] (.val (.agg r)):=by
 obtain⟨s,n,u,v,d,rfl,h1,h2,h3⟩:=h
 obtain⟨⟨a1,a2,a3,a4⟩,rfl,k1⟩:=Lk d h2
 obtain⟨⟨b1,b2,b3,b4⟩,rfl,k2⟩:=Lk d h3
 have c1:=I4 k1
 have c2:=I4 k2
 rw[Bl] at *
 rw[Bl] at *
 refine G5 ?_
 clear k1 k2 h2 h3
 show ∃ x:List AV,x=[gS s,gI n,gI a1,gI a2,gS a3,.sl (Ea a4),gI b1,gI b2,gS b3,.sl (Ea b4)]∧Cn 140 [.agg [gS s,gI n,gI a1,gI a2,gS a3,.sl (Ea a4),gI b1,gI b2,gS b3,.sl (Ea b4)]] (.val (.agg x))
 refine caS (fun x:List AV=>.agg x) Tryz.func140 ?_
 (repeat' (first|exact trivial|refine stR ?_|((first|refine cv (c1) ?_|refine cv (c2) ?_|refine stp ?_|refine A0 (fun h=>?_) ?_|(refine gw (fun h=>?_) (fun h=>?_)<;>(try (exfalso;omega))))<;>(try (refine wS ?_)))))
 all_goals (refine rc1 rfl ?_)
 all_goals exact⟨_,rfl,rfl⟩
theorem Wf{r:List AV}(h:G1 r):Cn 143 [.agg r] (.val (.agg r)):=by
 obtain⟨s,n,u,d,rfl,h1,h2⟩:=h
 obtain⟨⟨a1,a2,a3,a4⟩,rfl,k1⟩:=Lk d h2
 have c1:=I4 k1
 rw[Bl] at *
 refine G5 ?_
 clear k1 h2
 show ∃ x:List AV,x=[gS s,gI n,gI a1,gI a2,gS a3,.sl (Ea a4)]∧Cn 143 [.agg [gS s,gI n,gI a1,gI a2,gS a3,.sl (Ea a4)]] (.val (.agg x))
 refine caS (fun x:List AV=>.agg x) Tryz.func143 ?_
 (repeat' (first|exact trivial|refine stR ?_|((first|refine cv (c1) ?_|refine stp ?_|refine A0 (fun h=>?_) ?_|(refine gw (fun h=>?_) (fun h=>?_)<;>(try (exfalso;omega))))<;>(try (refine wS ?_)))))
 all_goals (refine rc1 rfl ?_)
 all_goals exact⟨_,rfl,rfl⟩
end D
theorem A1g{r:List AV}(h:I5 r):∃ (x0:ByteArray) (x1:Int) (x2:Int) (x3:Int) (x4:ByteArray) (x5:List (List AV)) (x6:Int) (x7:Int) (x8:ByteArray) (x9:List (List AV)),r=[gS x0,gI x1,gI x2,gI x3,gS x4,.sl x5,gI x6,gI x7,gS x8,.sl x9]:=by
 obtain⟨s,n,u,v,d,rfl,h1,h2,h3⟩:=h
 obtain⟨⟨a1,a2,a3,a4⟩,rfl,k1⟩:=Lk d h2
 obtain⟨⟨b1,b2,b3,b4⟩,rfl,k2⟩:=Lk d h3
 rw[Bl,Bl]
 exact⟨_,_,_,_,_,_,_,_,_,_,rfl⟩
theorem Vu{r:List AV}(h:G1 r):∃ (x0:ByteArray) (x1:Int) (x2:Int) (x3:Int) (x4:ByteArray) (x5:List (List AV)),r=[gS x0,gI x1,gI x2,gI x3,gS x4,.sl x5]:=by
 obtain⟨s,n,u,d,rfl,h1,h2⟩:=h
 obtain⟨⟨a1,a2,a3,a4⟩,rfl,k1⟩:=Lk d h2
 rw[Bl]
 exact⟨_,_,_,_,_,_,rfl⟩
theorem Fj{L:List (List AV)}(h:∀ x∈L,x.all p0=true):(L.all (·.all p0))=true:=List.all_eq_true.2 h
theorem Fk{L:List (List AV)}(h:∀ x∈L,x.map z0=x):L.map (·.map z0)=L:=by
 conv=>rhs;rw[← List.map_id L]
 exact List.map_congr_left h
theorem Amu{r:List AV}(h:Gj r):r.all p0=true∧r.map z0=r:=by obtain⟨s,we,ho,rfl,h1,h2,h3⟩:=h;exact⟨by simp [p0],by simp [z0]⟩
theorem Amz{r:List AV}(h:I5 r):r.all p0=true∧r.map z0=r:=by obtain⟨x0,x1,x2,x3,x4,x5,x6,x7,x8,x9,rfl⟩:=A1g h;exact⟨by simp [p0],by simp [z0]⟩
theorem Ag8{r:List AV}(h:G1 r):r.all p0=true∧r.map z0=r:=by obtain⟨x0,x1,x2,x3,x4,x5,rfl⟩:=Vu h;exact⟨by simp [p0],by simp [z0]⟩
theorem Afu(p:ProdV):(Bw p).all p0=true∧(Bw p).map z0=Bw p:=⟨by simp [Bw,p0],by simp [Bw,z0]⟩
theorem A41(e:EntV):(Al e).all p0=true∧(Al e).map z0=Al e:=⟨by simp [Al,p0],by simp [Al,z0]⟩
theorem Abt{r:List AV}(h:Ju r):r.all p0=true∧r.map z0=r∧r.length=2:=by obtain⟨s,n,rfl,_⟩:=h;exact⟨by simp [p0],by simp [z0],rfl⟩
theorem Apq{r:List AV}(h:Fz r):r.all p0=true∧r.map z0=r∧r.length=4:=by obtain⟨_,_,_,_,rfl,_⟩:=h;exact⟨by simp [p0],by simp [z0],rfl⟩
theorem Uw{r:List AV}(h:He r):r.all p0=true∧r.map z0=r∧r.length=6:=by obtain⟨_,_,_,_,_,_,rfl,_⟩:=h;exact⟨by simp [p0],by simp [z0],rfl⟩
theorem Ab3{r:List AV}(h:I2 r):r.all p0=true∧r.map z0=r∧r.length=7:=by obtain⟨_,_,_,_,_,_,_,rfl,_⟩:=h;exact⟨by simp [p0],by simp [z0],rfl⟩
theorem Aa8(a:AccV):(D6 a).all p0=true∧(D6 a).map z0=D6 a∧(D6 a).length=7:=⟨by simp [D6,p0],by simp [D6,z0],rfl⟩
namespace D
set_option maxHeartbeats 4000000 in
theorem We{p:ProdV}(h:p.Ok):Cn 85 [.agg (Bw p)] (.val (.agg (Bw p))):=by
 have c1:=Oi h.c
 have c2:=Oi h.d
 have c3:=Xq p.fees (Fj fun x hx=>(Amz (h.ff x hx)).1) (Fk fun x hx=>(Amz (h.ff x hx)).2) (fun x hx=>A1g (h.ff x hx)) h.yf (fun x hx=>A06 (h.ff x hx))
 have c4:=Un p.rules (Fj fun x hx=>(Ag8 (h.rr x hx)).1) (Fk fun x hx=>(Ag8 (h.rr x hx)).2) (fun x hx=>Vu (h.rr x hx)) h.yr (fun x hx=>Wf (h.rr x hx))
 unfold L5 at c1 c2
 refine G5 ?_
 clear h
 unfold Bw
 refine caS (fun x:List AV=>.agg x) Tryz.func85 ?_
 (repeat' (first|exact trivial|refine stR ?_|((first|refine cv (c1) ?_|refine cv (c2) ?_|refine cv (c3) ?_|refine cv (c4) ?_|refine stp ?_|refine A0 (fun h=>?_) ?_|(refine gw (fun h=>?_) (fun h=>?_)<;>(try (exfalso;omega))))<;>(try (refine wS ?_)))))
 all_goals (refine rc1 rfl ?_)
 all_goals exact⟨_,rfl,rfl⟩
theorem Wd{j:List EntV}(hj:JOk j)(hn:j.length≤100000):Cn 86 [.sl (Ab j)] (.val (.sl (Ab j))):=by
 have hm:∀ x∈Ab j,∃ e∈j,x=Al e:=fun x hx=>by
  obtain⟨e,he,rfl⟩:=List.mem_map.1 hx
  exact⟨e,he,rfl⟩
 have c1:=Xp (Ab j) (Fj fun x hx=>by obtain⟨e,_,rfl⟩:=hm x hx;exact (A41 e).1) (Fk fun x hx=>by obtain⟨e,_,rfl⟩:=hm x hx;exact (A41 e).2) (fun x hx=>by obtain⟨e,_,rfl⟩:=hm x hx;exact⟨_,_,_,_,_,_,_,_,_,_,rfl⟩) (by rw[Bt];omega) (fun x hx=>by obtain⟨e,he,rfl⟩:=hm x hx;exact Oh (hj.e e he))
 have key:∃ x:List (List AV),x=Ab j∧Cn 86 [.sl (Ab j)] (.val (.sl x)):=by
  clear hm
  refine caS (fun x:List (List AV)=>.sl x) Tryz.func86 ?_
  (repeat' (first|exact trivial|refine stR ?_|((first|refine cv (c1) ?_|refine stp ?_|refine A0 (fun h=>?_) ?_|(refine gw (fun h=>?_) (fun h=>?_)<;>(try (exfalso;omega))))<;>(try (refine wS ?_)))))
  all_goals (simp only[sxd,z0,p0,Nat.reduceEqDiff,↓reduceIte,Tryz.f86, *];exact⟨_,rfl,rfl⟩)
 obtain⟨x,rfl,h⟩:=key
 exact h
set_option maxHeartbeats 4000000 in
theorem Ts{b:BkV}(hb:b.Ok){j:List EntV}(hj:JOk j)(hn:j.length≤100000):Cn 33 [.agg (bkC b (Ab j))] (.val (.agg (bkC b (Ab j)))):=by
 have c1:=Tv b.cur (Fj fun x hx=>(Abt (hb.r1 x hx)).1) (Fk fun x hx=>(Abt (hb.r1 x hx)).2.1) (fun x hx=>(Abt (hb.r1 x hx)).2.2) hb.y1
 have c2:=Wg b.chart (Fj fun x hx=>(Apq (hb.r3 x hx)).1) (Fk fun x hx=>(Apq (hb.r3 x hx)).2.1) (fun x hx=>(Apq (hb.r3 x hx)).2.2) hb.y3
 have c3:=Tt (Hz b.accs) (Fj fun x hx=>by obtain⟨a,_,rfl⟩:=List.mem_map.1 hx;exact (Aa8 a).1) (Fk fun x hx=>by obtain⟨a,_,rfl⟩:=List.mem_map.1 hx;exact (Aa8 a).2.1) (fun x hx=>by obtain⟨a,_,rfl⟩:=List.mem_map.1 hx;exact (Aa8 a).2.2) (by have:=hb.y5;unfold Sz at this;simpa [Hz] using this)
 have c4:=Ra b.holds (Fj fun x hx=>(Uw (hb.r6 x hx)).1) (Fk fun x hx=>(Uw (hb.r6 x hx)).2.1) (fun x hx=>(Uw (hb.r6 x hx)).2.2) hb.y6
 have c5:=Tu b.blocks (Fj fun x hx=>(Ab3 (hb.r7 x hx)).1) (Fk fun x hx=>(Ab3 (hb.r7 x hx)).2.1) (fun x hx=>(Ab3 (hb.r7 x hx)).2.2) hb.y7
 have c6:=Xo b.cal (Fj fun x hx=>(Amu (hb.r2 x hx)).1) (Fk fun x hx=>(Amu (hb.r2 x hx)).2) (fun x hx=>by obtain⟨s,we,ho,rfl,_⟩:=hb.r2 x hx;exact⟨_,_,_,rfl⟩) hb.y2 (fun x hx=>A05 (hb.r2 x hx))
 have c7:=Um (Db b.prods) (Fj fun x hx=>by obtain⟨p,_,rfl⟩:=List.mem_map.1 hx;exact (Afu p).1) (Fk fun x hx=>by obtain⟨p,_,rfl⟩:=List.mem_map.1 hx;exact (Afu p).2) (fun x hx=>by obtain⟨p,_,rfl⟩:=List.mem_map.1 hx;exact⟨_,_,_,_,_,_,_,_,_,_,_,_,_,_,_,_,_,_,_,rfl⟩) (by have:=hb.y4;unfold Sz at this;simpa [Db] using this) (fun x hx=>by obtain⟨p,hp,rfl⟩:=List.mem_map.1 hx;exact We (hb.r4 p hp))
 have c8:=Wd hj hn
 refine G5 ?_
 clear hb hj hn
 unfold bkC
 refine caS (fun x:List AV=>.agg x) Tryz.func33 ?_
 (repeat' (first|exact trivial|refine stR ?_|((first|refine cv (c1) ?_|refine cv (c2) ?_|refine cv (c3) ?_|refine cv (c4) ?_|refine cv (c5) ?_|refine cv (c6) ?_|refine cv (c7) ?_|refine cv (c8) ?_|refine stp ?_|refine A0 (fun h=>?_) ?_|(refine gw (fun h=>?_) (fun h=>?_)<;>(try (exfalso;omega))))<;>(try (refine wS ?_)))))
 all_goals (refine rc1 rfl ?_)
 all_goals exact⟨_,rfl,rfl⟩
end D
section
variable{P:Program}
theorem rI4{σ:AS}{kk:AV→Prop}{rs:Array ResultVar}{x ty t t2 t3 b j:Nat}{β:A4}{e:List AV}{v v2 v3:AV}(hrs:rs=#[.cell x ty,.tmp t,.tmp t2,.tmp t3])(hk:kk (.tup [.agg e,v,v2,v3]))(h1:σ.tm x=.pt b j 0:=by exact byQ)(h2:σ.hp b=some β:=by exact byQ)(h3:β.es[j]?=some e:=by exact byS)
  (hag:(aty P ty).isAgg=true:=by simp only[ATy.isAgg,tyb]) (hsz:(aty P ty).sz=e.length:=by simp only[tyb];rfl) (h0:0<e.length:=by exact Nat.zero_lt_succ _)
  (hv:σ.tm t=v:=by exact byQ) (hv2:σ.tm t2=v2:=by exact byQ) (hv3:σ.tm t3=v3:=by exact byQ):C1 P rs σ kk:=by
 subst hrs
 unfold C1
 dsimp only
 simp only[B1,h1]
 refine⟨β,e,h2,h3, ?_⟩
 unfold Ar
 rw[if_pos hag,hsz,List.drop_zero,List.take_length]
 refine⟨⟨h0,by omega⟩, ?_⟩
 rw[hv,hv2,hv3]
 exact hk
end
theorem Adj:Cn 61 [.ex (.string ⟨#[]⟩)] (.val (gB false)):=by
 refine cvS Tryz.func61 ?_
 (repeat' (first|exact trivial|refine stR ?_|((first|refine stp ?_|refine A0 (fun h=>?_) ?_|(refine gw (fun h=>?_) (fun h=>?_)<;>(try (exfalso;omega))))<;>(try (refine wS ?_)))))
 all_goals simp only[sxd,z0,p0,Nat.reduceEqDiff,↓reduceIte,Tryz.f61, *]
theorem A0v:Cn 28 [.agg (Al Xr)] (.val (gI 4)):=by
 have c1:=Adj
 unfold Al Xr Ac
 simp only[List.map_nil]
 refine cvS Tryz.func28 ?_
 (repeat' (first|exact trivial|refine stR ?_|((first|refine cv (c1) ?_|refine stp ?_|refine A0 (fun h=>?_) ?_|(refine gw (fun h=>?_) (fun h=>?_)<;>(try (exfalso;omega))))<;>(try (refine wS ?_)))))
 all_goals simp only[sxd,z0,p0,Nat.reduceEqDiff,↓reduceIte,Tryz.f28, *]
theorem A8h(b:BkV)(j:List EntV):Cn 8 [.agg (bkC b (Ab j)),.agg (Al Xr)] (.val (.tup [.agg (bkR b [] 4),gI 4])):=by
 unfold bkR
 rw[if_neg (by decide)]
 exact Ds (Ws (by decide) A0v)
structure RecOk(b:BkV)(id:Int)(X:Int→Int)(Y:Int)(l0:List PerV)(i:Nat)(j:List EntV)(l:List PerV):Prop where
 jo:JOk j
 inv:(Zb b id).Inv i (Rk id j) X (Aj id j) Y l
 ac:∀ p∈l,p.acc=id
 ok:∀ p∈l,p.Ok
 tos:l.map PerV.to=l0.map PerV.to
theorem RecOk.len{b:BkV}{id:Int}{X:Int→Int}{Y:Int}{l0:List PerV}{i:Nat}{j:List EntV}{l:List PerV}(h:RecOk b id X Y l0 i j l):l.length=l0.length:=by
 have:=congrArg List.length h.tos
 simpa using this
theorem A4x{α:Type}{l:List α}{i:Nat}{p q:α}(h:q∈l.set i p):q∈l∨q=p:=List.mem_or_eq_of_mem_set h
theorem Ag2{b:BkV}{id:Int}{X:Int→Int}{Y:Int}{l0:List PerV}{i:Nat}{j j2:List EntV}{l:List PerV}(h:RecOk b id X Y l0 i j l){old p p2:PerV}(ho:l[i]?=some old)(he:(Bu b (Bp j id) (C3 l i) id old.to).2=0)(hp:(Bu b (Bp j id) (C3 l i) id old.to).1=p)(hs:bare p=bare p2)
  (hj2:JOk j2) (hok:p2.Ok) (hac:p2.acc=id) (hm:∀ t,Q64 (B6 73048 t id j2) (B6 73048 t id j+if old.to+1≤t then D7 b id p-D7 b id old else 0)) (ha:Q64 (Aj id j2) (Aj id j+(D7 b id p-D7 b id old))):RecOk b id X Y l0 (i+1) j2 (l.set i p2):=by
 have hper:(Zb b id).per ((Zb b id).bal (Rk id j)) (C3 l i) old.to=some p:=by
  show (if (Bu b (Bp j id) (C3 l i) id old.to).2=0 then some (Bu b (Bp j id) (C3 l i) id old.to).1 else none)=_
  rw[if_pos he,hp]
 have hto:p2.to=old.to:=by
  have h1:=(Oa he).1
  rw[hp] at h1
  rw[← h1]
  exact ((Zb b id).same_to _ _ hs).symm
 refine⟨hj2,Ajx (p:=p) h.inv ho hper hs hm ha,fun q hq=>?_,fun q hq=>?_, ?_⟩
 ·rcases A4x hq with h1|rfl
  ·exact h.ac q h1
  ·exact hac
 ·rcases A4x hq with h1|rfl
  ·exact h.ok q h1
  ·exact hok
 ·rw[← h.tos,List.map_set,hto]
  refine List.ext_getElem? fun k=>?_
  rw[List.getElem?_set]
  split
  ·rename_i hik
   subst hik
   split
   ·rw[List.getElem?_map,ho];rfl
   ·rename_i hlt
    rw[List.getElem?_eq_none (by simpa using hlt)]
  ·rfl
set_option maxHeartbeats 1000000 in
theorem A8s{b:BkV}(hb:b.Ok)(hpl:Ly b){id:Int}(hid:I64 id){X:Int→Int}{Y:Int}{l0:List PerV}{i:Nat}{j:List EntV}{l:List PerV}(h:RecOk b id X Y l0 i j l)(hl:l.length≤100000){old:PerV}(ho:l[i]?=some old)(hto:old.to<73048){bk:Int}(hbk:I64 bk) :
  ∃ (P:PerV) (e:Int),Cn 35 [.agg (bkC b (Ab j)),.sl (Bo l),gI i] (.val (.tup [.agg (Cc P),gI e])) ∧
   (e=0→(P.cr=old.cr→P.db=old.db→P.tax=old.tax→RecOk b id X Y l0 (i+1) j (l.set i { P with cnt:=old.cnt })) ∧
     ∃ (x:EntV) (ok:Bool) (l2:List EntV) (n:Int),Cn 36 [.agg (bkC b (Ab j)),.agg (Cc old),.agg (Cc { P with cnt:=old.cnt }),gI bk] (.val (.tup [.agg (Al x),gB ok])) ∧
      Cn 8 [.agg (bkC b (Ab j)),.agg (Al x)] (.val (.tup [.agg (bkR b l2 n),gI n])) ∧
      (n=0→∃ y,l2=j++[y]∧y.Ok∧l2.length≤5000∧∀ k,I64 k→RecOk b id X Y l0 (i+1) l2 (l.set i { P with cnt:=k }))):=by
 have c1:=D.L0 hb j h.jo l (by unfold Sz;omega) id h.ac h.ok i old ho
 refine⟨_,_,c1,fun he=>?_⟩
 obtain⟨h1,h2,h3⟩:=Oa he
 have hpo:∀ p,C3 l i=some p→p.Ok:=fun p hp=>by
  cases i with
  | zero=>cases hp
  | succ i=>exact h.ok p (List.mem_of_getElem? hp)
 obtain⟨hok,hprod⟩:=A4r hb (B:=Bp j id) (fun d=>Im _) hpo he
 have hstep:=@Ag2 b id X Y l0 i j
 have hold:=h.ok old (List.mem_of_getElem? ho)
 have hcnt:I64 old.cnt:=hold.i
 generalize hP:(Bu b (Bp j id) (C3 l i) id old.to).1=P at *
 have hok2:∀ k,I64 k→PerV.Ok { P with cnt:=k }:=fun k hk=>⟨hok.t,hok.r1,hok.r2,hk⟩
 have hlam:∀ k,D7 b id { P with cnt:=k }=D7 b id P:=fun k=>rfl
 refine⟨fun e1 e2 e3=>?_, ?_⟩
 ·refine hstep h ho he hP rfl h.jo (hok2 _ hcnt) h2 (fun t=>?_) ?_
  ·have:D7 b id P-D7 b id old=0:=by unfold D7;rw[e1,e2,e3];omega
   rw[this]
   split<;>(rw[Int.add_zero];exact Q64.refl _)
  ·have:D7 b id P-D7 b id old=0:=by unfold D7;rw[e1,e2,e3];omega
   rw[this,Int.add_zero]
   exact Q64.refl _
 ·obtain⟨⟨x,ok⟩,hx,c2⟩:=D.Wi hb hpl j old { P with cnt:=old.cnt } (by show I64 P.acc;rw[h2];exact hid) hok.t hcnt bk hbk
  rcases hx with⟨g1,g2,g3,g4,g5,g6⟩|⟨g1,g2,g3⟩
  ·dsimp only at g1 g2 g3 g4 g5 g6 c2
   obtain⟨l2,n,hn,c3⟩:=Nz hb j h.jo x g6 g5
   refine⟨x,ok,l2,n,c2,c3,fun h0=>?_⟩
   obtain⟨hg,hjn,c,hc,rfl⟩:=hn h0
   have hv:x.value=P.to+1:=by rw[g4,h1,if_pos hto]
   have pm:=@Qi b (B5 b P.acc P.to).1.cur old { P with cnt:=old.cnt } x g2 hv hg.b.2 j j.length c
   dsimp only at pm
   have hl2:D7 b id ⟨id,P.frm,old.to,P.cr,P.db,P.tax,old.cnt,P.c1,P.c2,P.d1,P.d2⟩=D7 b id P:=rfl
   rw[h2,h1] at pm
   simp only[hl2] at pm
   refine⟨_,rfl,Z9 g6 (by omega) hc,by rw[List.length_append,List.length_singleton];omega,fun k hk=>?_⟩
   exact hstep h ho he hP rfl (Lj h.jo g6 hjn hc) (hok2 k hk) h2 pm.1 pm.2
  ·dsimp only at g1 g2 c2
   subst g2
   exact⟨Xr,ok,[],4,c2,A8h b j,fun h=>by cases h⟩
end Go.Proofs.YtbhffbgbhgjdiaaGreatDoor
