/-
  Parts of the proof: S16 S17. Conditions: those that each theorem states.
-/
import Derived.Test.YtbhffbgbhgjdiaaGreatDoorM12
set_option linter.unusedSimpArgs false
set_option linter.unusedVariables false
namespace Go.Proofs.YtbhffbgbhgjdiaaGreatDoor
open Go.RowKit
set_option maxRecDepth 100000
theorem Oc{U V:Int}(hU:U64 U)(h1:1≤V)(h2:V<4294967296):0≤IntKind.u64.wrap (U-IntKind.u64.wrap (IntKind.u64.wrap (U.tdiv V)*V))∧IntKind.u64.wrap (U-IntKind.u64.wrap (IntKind.u64.wrap (U.tdiv V)*V))<4294967296:=by
 obtain⟨u0,u1⟩:=hU
 have e1:U.tdiv V=U / V:=Int.tdiv_eq_ediv_of_nonneg u0
 have b1:0≤U / V:=Int.ediv_nonneg u0 (by omega)
 have b2:U / V≤U:=Int.ediv_le_self _ u0
 have b3:U / V*V≤U:=Int.ediv_mul_le U (by omega)
 have b4:0≤U / V*V:=Int.mul_nonneg b1 (by omega)
 have b5:U<(U / V+1)*V:=Int.lt_ediv_add_one_mul_self U (by omega)
 rw[Int.add_mul,Int.one_mul] at b5
 rw[e1,wrap_u64 b1 (by omega),wrap_u64 b4 (by omega),wrap_u64 (by omega) (by omega)]
 omega
theorem Ags{a:Int}(h:U64 a)(m:Nat):U64 (a.fdiv (2 ^ m)):=by
 have p:(0:Int)<2 ^ m:=Int.pow_pos (by decide)
 rw[Int.fdiv_eq_ediv_of_nonneg _ (Int.le_of_lt p)]
 have b1:=Int.ediv_nonneg h.1 (Int.le_of_lt p)
 have b2:=Int.ediv_le_self (2 ^ m) h.1
 have:=h.2
 exact⟨b1,by omega⟩
namespace D
theorem Wh{x y:Int}(h:U64 x)(hy:U64 y)(h1:1≤y):∃ z:Int×Int,OkS z∧Cn 286 [gU 0,gU x,gU y] (.val (gUU z)):=by
 obtain⟨p1,p2⟩:=h
 obtain⟨p3,p4⟩:=hy
 have b1:0≤x.tmod y:=Int.tmod_nonneg _ p1
 have b2:x.tmod y<y:=Int.tmod_lt_of_pos _ (by omega)
 have b3:U64 (x.tmod y):=⟨b1,by omega⟩
 clear b1 b2
 refine caS gUU Tryz.func286 ?_
 (repeat' (first|exact trivial|refine stR ?_|((first|refine stp ?_|refine A0 (fun h=>?_) ?_|(refine gw (fun h=>?_) (fun h=>?_)<;>(try (exfalso;omega))))<;>(try (refine wS ?_)))))
 all_goals (simp only[sxd,z0,p0,Nat.reduceEqDiff,↓reduceIte,Tryz.f286];exact⟨(_,_),rfl,⟨by exact uok,by exact uok⟩⟩)
set_option maxHeartbeats 4000000 in
theorem A9s{w x y:Int}(hw:U64 w)(h:U64 x)(hy:U64 y)(h1:1≤w)(h2:w<y):∃ z:Int×Int,OkS z∧Cn 286 [gU w,gU x,gU y] (.val (gUU z)):=by
 obtain⟨s,⟨k,rfl,hk,q1,q2⟩,hc⟩:=Ahk hy (by omega)
 obtain⟨p1,p2⟩:=h
 obtain⟨p3,p4⟩:=hy
 obtain⟨p5,p6⟩:=hw
 have hm:min k IntKind.u64.bits=k:=Nat.min_eq_left hk
 have r1:=An1
 obtain⟨Y,hY⟩:∃ Y,y*2 ^ k=Y:=⟨_,rfl⟩
 rw[hY] at q1 q2
 obtain⟨V,hV⟩:∃ V,Y / 4294967296=V:=⟨_,rfl⟩
 have v1:1≤V:=by omega
 have v2:V<4294967296:=by omega
 refine caS gUU Tryz.func286 ?_
 (repeat' (first|exact trivial|refine stR ?_|((first|refine cv (hc) ?_|refine stp ?_|refine A0 (fun h=>?_) ?_|(refine gw (fun h=>?_) (fun h=>?_)<;>(try (exfalso;omega))))<;>(try (refine wS ?_)))))
 refine A9 (fun n tm hp nx=>∃ c0 u u1 u2 q r:Int,n=(4294967296-r).toNat∧tm 10=.ex (.int .u64 c0)∧tm 11=.ex (.int .u64 u)∧tm 13=.ex (.int .u64 u1)∧tm 14=.ex (.int .u64 u2)∧tm 15=.ex (.int .u64 q)∧tm 16=.ex (.int .u64 r)∧tm 2=.ex (.int .u64 Y)∧tm 8=.ex (.int .u64 k)∧tm 9=.ex (.int .u64 V)∧0≤r∧r<4294967296) _ ⟨_,_,_,_,_,_,rfl,by exact byO,by exact byO,by exact byO,by exact byO,by exact byO,by exact byO,byS,byS,byS,(Oc (Lr _) v1 v2).1,(Oc (Lr _) v1 v2).2⟩ ?_
 rintro n tm hp nx ⟨c0,u,u1,u2,q,r,rfl,g10,g11,g13,g14,g15,g16,g2,g8,g9,r0,r1'⟩
 have rw1:IntKind.u64.wrap (r+V)=r+V:=wrap_u64 (by omega) (by omega)
 (repeat' (first|exact trivial|refine stR ?_|((first|refine stp ?_|refine A0 (fun h=>?_) ?_|(refine gw (fun h=>?_) (fun h=>?_)<;>(try (exfalso;omega))))<;>(try (refine wS ?_)))))
 all_goals first
  | exact A3 (4294967296-(r+V)).toNat (by omega) ⟨_,_,_,_,_,r+V,rfl,by exact byO,by exact byO,by exact byO,by exact byO,by exact byO,byS,byS,byS,byS,by omega,by omega⟩
  | skip
 all_goals
  refine A9 (fun n tm hp nx=>∃ c0 u17 u2 q q2 r:Int,n=(4294967296-r).toNat∧tm 10=.ex (.int .u64 c0)∧tm 17=.ex (.int .u64 u17)∧tm 14=.ex (.int .u64 u2)∧tm 15=.ex (.int .u64 q)∧tm 18=.ex (.int .u64 q2)∧tm 16=.ex (.int .u64 r)∧tm 2=.ex (.int .u64 Y)∧tm 8=.ex (.int .u64 k)∧tm 9=.ex (.int .u64 V)∧0≤r∧r<4294967296) _ ⟨_,_,_,_,_,_,rfl,by exact byO,by exact byO,by exact byO,by exact byO,by exact byO,by exact byO,byS,byS,byS,(Oc (Lr _) v1 v2).1,(Oc (Lr _) v1 v2).2⟩ ?_
  clear g10 g11 g13 g14 g15 g16 g2 g8 g9 r0 r1' rw1
  rintro n tm hp nx ⟨c0,u,u2,q,q2,r,rfl,g10,g17,g14,g15,g18,g16,g2,g8,g9,r0,r1'⟩
  have rw1:IntKind.u64.wrap (r+V)=r+V:=wrap_u64 (by omega) (by omega)
 all_goals (repeat' (first|exact trivial|refine stR ?_|((first|refine stp ?_|refine A0 (fun h=>?_) ?_|(refine gw (fun h=>?_) (fun h=>?_)<;>(try (exfalso;omega))))<;>(try (refine wS ?_)))))
 all_goals first
  | exact A3 (4294967296-(r+V)).toNat (by omega) ⟨_,_,_,_,_,r+V,rfl,by exact byO,by exact byO,by exact byO,by exact byO,by exact byO,byS,byS,byS,byS,by omega,by omega⟩
  | (simp only[sxd,z0,p0,Nat.reduceEqDiff,↓reduceIte,Tryz.f286];exact⟨(_,_),rfl,⟨Lr _,Ags (Lr _) _⟩⟩)
end D
theorem Am3{x y:Int}(h:U64 x)(hy:U64 y)(h1:1≤y):U64 (x.tmod y)∧x.tmod y<y:=by
 have b1:0≤x.tmod y:=Int.tmod_nonneg _ h.1
 have b2:x.tmod y<y:=Int.tmod_lt_of_pos _ (by omega)
 have:=hy.2
 exact⟨⟨b1,by omega⟩,b2⟩
namespace D
theorem A5h{w x y:Int}(hw:U64 w)(h:U64 x)(hy:U64 y)(h2:w<y):∃ z:Int×Int,OkS z∧Cn 286 [gU w,gU x,gU y] (.val (gUU z)):=by
 have:=hw.1
 by_cases h0:w=0
 ·subst h0
  exact Wh h hy (by omega)
 ·exact A9s hw h hy (by omega) h2
theorem A6u{x:Int×Int}(h:OkS x){y:Int}(hy:U64 y)(h1:1≤y):∃ z:(Int×Int)×Int,OkS z.1∧U64 z.2∧Cn 257 [gT x,gU y] (.val (gTU z)):=by
 obtain⟨a,b⟩:=x
 obtain⟨p1,p2⟩:=h
 dsimp only at p1 p2
 have t1:=Am3 p1 hy h1
 obtain⟨⟨d1,d2⟩,⟨g1,g2⟩,c1⟩:=A5h t1.1 p2 hy t1.2
 have hy0:¬ y=0:=by omega
 clear t1
 dsimp only at *
 have key:∃ z:(Int×Int)×Int,(OkS z.1∧U64 z.2)∧Cn 257 [gT (a,b),gU y] (.val (gTU z)):=by
  refine caS gTU Tryz.func257 ?_
  (repeat' (first|exact trivial|refine stR ?_|((first|refine cv (c1) ?_|refine stp ?_|refine A0 (fun h=>?_) ?_|(refine gw (fun h=>?_) (fun h=>?_)<;>(try (exfalso;omega))))<;>(try (refine wS ?_)))))
  all_goals (refine rc3 rfl ?_)
  all_goals exact⟨((_,_),_),rfl,⟨by exact uok,by exact uok⟩,by exact uok⟩
 obtain⟨z,⟨h1,h2⟩,h3⟩:=key
 exact⟨z,h1,h2,h3⟩
theorem Anw{x:Int×Int}(h:OkW x){n:Int}(hn:I64 n):∃ z:(Int×Int)×Int×Int,(OkW z.1∧I64 z.2.1)∧Cn 213 [gW x,gI n] (.val (.tup [gW z.1,gI z.2.1,gI z.2.2])):=by
 obtain⟨p3,p4⟩:=hn
 by_cases h1:n<1
 ·refine caS (fun z:(Int×Int)×Int×Int=>.tup [gW z.1,gI z.2.1,gI z.2.2]) Tryz.func213 ?_
  (repeat' (first|exact trivial|refine stR ?_|((first|refine stp ?_|refine A0 (fun h=>?_) ?_|(refine gw (fun h=>?_) (fun h=>?_)<;>(try (exfalso;omega))))<;>(try (refine wS ?_)))))
  all_goals (refine rc4 rfl ?_)
  all_goals exact⟨((_,_),_,_),rfl,⟨by exact uok,by exact uok⟩,by exact uok⟩
 ·have hw:IntKind.u64.wrap n=n:=wrap_u64 (by omega) (by omega)
  obtain⟨⟨a1,a2⟩,g1,c1⟩:=N8 h
  obtain⟨⟨⟨d1,d2⟩,r⟩,g2,g3,c2⟩:=A6u g1 (y:=n) ⟨by omega,by omega⟩ (by omega)
  obtain⟨⟨⟨e1,e2⟩,eb⟩,g4,c3⟩:=Zm g2 (u:=1) (v:=1) (by unfold U64;omega) (by unfold U64;omega)
  obtain⟨a,b⟩:=x
  obtain⟨⟨⟨f1,f2⟩,fc⟩,⟨k1,k2⟩,c4⟩:=Ha g2 false
  obtain⟨⟨⟨s1,s2⟩,sc⟩,⟨k3,k4⟩,c5⟩:=Ha g2 (!(decide (d1=0) && decide (d2=0)))
  obtain⟨⟨⟨t1,t2⟩,tc⟩,⟨k5,k6⟩,c6⟩:=Ha g4 (!(decide (e1=0) && decide (e2=0)))
  clear h g1 g2 g4
  dsimp only at *
  refine caS (fun z:(Int×Int)×Int×Int=>.tup [gW z.1,gI z.2.1,gI z.2.2]) Tryz.func213 ?_
  (repeat' (first|exact trivial|refine stR ?_|((first|refine cv (c1) ?_|refine cv (c2) ?_|refine cv (c3) ?_|refine cv (c4) ?_|refine cv (c5) ?_|refine cv (c6) ?_|refine Ow (size_eq _ _ _ _) ?_|refine stp ?_|refine A0 (fun h=>?_) ?_|(refine gw (fun h=>?_) (fun h=>?_)<;>(try (exfalso;omega))))<;>(try (refine wS ?_)))))
  all_goals (refine rc4 rfl ?_)
  all_goals exact⟨((_,_),_,_),rfl,⟨by exact uok,by exact uok⟩,by exact uok⟩
theorem Ao3{x y:Int×Int}(h:OkW x)(k:OkW y):∃ z:(Int×Int)×Int,OkW z.1∧Cn 212 [gW x,gW y] (.val (gWI z)):=by
 obtain⟨a,b⟩:=x
 obtain⟨c,d⟩:=y
 obtain⟨p1,p2⟩:=h
 obtain⟨p3,p4⟩:=k
 dsimp only at *
 obtain⟨⟨z1,z2⟩,⟨g1,g2⟩,c1⟩:=A92 p2.1 p4.1
 dsimp only at *
 refine caS gWI Tryz.func212 ?_
 (repeat' (first|exact trivial|refine stR ?_|((first|refine Gw (by first|rfl|(simp only[List.map_cons,List.map_nil, *];done)) (c1) (by intro r hr;simp only[List.mem_cons,List.not_mem_nil,or_false] at hr;rcases hr with rfl|rfl<;>rfl) ?_|refine stp ?_|refine A0 (fun h=>?_) ?_|(refine gw (fun h=>?_) (fun h=>?_)<;>(try (exfalso;omega))))<;>(try (refine wS ?_)))))
 all_goals (refine rc3 rfl ?_)
 all_goals exact⟨((_,_),_),rfl,⟨by exact uok,by exact uok⟩⟩
end D
end Go.Proofs.YtbhffbgbhgjdiaaGreatDoor
