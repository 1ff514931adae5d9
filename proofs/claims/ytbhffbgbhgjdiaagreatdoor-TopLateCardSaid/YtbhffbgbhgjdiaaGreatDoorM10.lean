/-
  Parts of the proof: S8 S9 S10 S11. Conditions: those that each theorem states.
-/
import Derived.Test.YtbhffbgbhgjdiaaGreatDoorM8
import Derived.Test.YtbhffbgbhgjdiaaGreatDoorM5
import Derived.Test.YtbhffbgbhgjdiaaGreatDoorM9
set_option linter.unusedSimpArgs false
set_option linter.unusedVariables false
namespace Go.Proofs.YtbhffbgbhgjdiaaGreatDoor
open Go.RowKit
set_option maxRecDepth 100000
theorem C9(l:List ByteArray):(texts l).length=l.length:=by simp [texts]
theorem Df(l:List ByteArray)(s:ByteArray):texts l++[[gS s]]=texts (l++[s]):=by simp [texts]
theorem A2t(l:List ByteArray)(s t u:ByteArray):texts l++[[gS s],[gS t],[gS u]]=texts (l++[s,t,u]):=by simp [texts]
theorem Lm(l:List ByteArray):((texts l).all (·.all p0))=true:=by
 rw[List.all_eq_true]
 intro r hr
 obtain⟨x,_,rfl⟩:=List.mem_map.1 hr
 rfl
theorem Ln(l:List ByteArray):(texts l).map (·.map z0)=texts l:=by
 rw[texts,List.map_map];exact List.map_congr_left fun _ _=>rfl
theorem Nj{B:Nat}:∀ (l:List ByteArray),(∀ s∈l,s.size≤B)→B≤1000000→(Cr l).length≤l.length*(B+22)
 | [],_,_=>by simp [Cr]
 | s :: l,h,hB=>by
  have h1:=h s List.mem_cons_self
  have h2:=Nj l (fun x hx=>h x (List.mem_cons_of_mem _ hx)) hB
  have h3:=Lib.itoa_length_le (s.size:Int) (by omega) (by omega)
  have h4:Cr (s :: l)=Yy s++Cr l:=by simp [Cr]
  have h5:=Le s
  rw[h4,List.length_append,List.length_cons,Nat.add_mul,Nat.one_mul]
  omega
theorem Ip{n:Int}(h:I64 n):∃ x:ByteArray,x.size≤21∧Cn 191 [gI n] (.val (gS x)) :=
 ⟨_,by have:=Lib.itoa_length_le n h.1 h.2;rw[← Cs];exact this,Wv n h.1 h.2⟩
theorem Vi{B:Nat}(l:List ByteArray)(hs:∀ s∈l,s.size≤B)(hB:B≤1000000)(hn:l.length≤1000):∃ x:ByteArray,x.size≤l.length*(B+22)∧Cn 190 [.sl (texts l)] (.val (gS x)):=by
 have h:=Nj l hs hB
 have h2:l.length*(B+22)≤1000*(1000000+22):=Nat.mul_le_mul hn (by omega)
 exact⟨⟨(Cr l).toArray⟩,by rw[← Cs];exact h,Rv l (by omega) (Nat.le_trans hn (by decide))⟩
namespace D
set_option maxHeartbeats 2000000 in
theorem A5i(e:EntV)(ho:e.Ok)(hg:e.Good):∃ x:ByteArray,x.size≤100000∧Cn 137 [.agg (Al e)] (.val (gS x)):=by
 obtain⟨i1,i2,i3,i4,i5,i6⟩:=ho.i
 have hk:=hg.k
 have ht:=hg.t
 have hn:=hg.n
 have hl:=B9 e.legs
 have hL:Hid ((∀ x∈e.legs,I64 x.account∧I64 x.amount)∧∀ x∈e.legs,x.cur.size=3):=Lib.hid ⟨ho.l,hg.l⟩
 clear ho hg
 unfold Al
 refine caS gS Tryz.func137 ?_
 (repeat' (first|exact trivial|refine stR ?_|((first|refine stp ?_|refine A0 (fun h=>?_) ?_|(refine gw (fun h=>?_) (fun h=>?_)<;>(try (exfalso;omega))))<;>(try (refine wS ?_)))))
 refine A9 (fun n tm hp nx=>∃ (k b3 b4:Nat) (l:List ByteArray),n=e.legs.length-k∧k≤e.legs.length∧l.length=k∧Hid (∀ s∈l,s.size≤150)∧tm 1=.pt 0 0 0∧hp 0=some ⟨39,[[gI e.id,gI e.booked,gI e.value,gI e.kind,gI e.auth,gI e.period,gS e.key,gS e.text,.sl (Ac e.legs),.ex (.int .u64 e.chain)]],true⟩∧0<nx∧tm 3=.own b3∧hp b3=some ⟨9,texts l,true⟩∧b3<nx∧tm 4=.own b4∧hp b4=some ⟨9,[],true⟩∧b4<nx∧¬ b3=b4∧¬ b4=b3∧¬ 0=b3∧¬ 0=b4∧tm 10=.sl (Ac e.legs)∧tm 11=gI e.legs.length∧tm 12=gI k) e.legs.length ⟨0,_,_,[],rfl,Nat.zero_le _,rfl,Lib.hid (fun s h=>(by cases h)),byS,byQ,by omega,byQ,byQ,by omega,byQ,byQ,by omega,by omega,by omega,by omega,by omega,byS,byS,byS⟩ ?_
 rintro n tm hp nx ⟨k,b3,b4,l,hnn,hk1,hlk,hls,g1,b0,hx,g3,hb3,q3,g4,hb4,q4,q34,q43,q30,q40,g10,g11,g12⟩
 have tl:=C9 l
 by_cases hlt:k<e.legs.length
 ·have e1:=List.getElem?_eq_getElem hlt
  obtain⟨⟨j1,j2⟩,j3⟩:(I64 e.legs[k].account∧I64 e.legs[k].amount)∧e.legs[k].cur.size=3:=⟨hL.out.1 _ (List.getElem_mem hlt),hL.out.2 _ (List.getElem_mem hlt)⟩
  generalize e.legs[k]=x at e1 j1 j2 j3
  have e0:=Bq e1
  obtain⟨s1,z1,c1⟩:=Ip j1
  obtain⟨s2,z2,c2⟩:=Ip j2
  obtain⟨s3,z3,c3⟩:=Vi (B:=21) [s1,s2,x.cur] (by intro s hs;simp only[List.mem_cons,List.not_mem_nil,or_false] at hs;rcases hs with rfl|rfl|rfl<;>omega) (by omega) (by simp)
  replace c3:Cn 190 [.sl [[gS s1],[gS s2],[gS x.cur]]] (.val (gS s3)):=c3
  have ta:=Df l s3
  have hls2:Hid (∀ s∈l++[s3],s.size≤150):=Lib.hid fun s hs=>by
   rcases List.mem_append.1 hs with h|h
   ·exact hls.out s h
   ·rw[List.mem_singleton.1 h];have:[s1,s2,x.cur].length=3:=rfl;omega
  clear hls hL e1 z1 z2 z3 j1 j2 j3
  (repeat' (first|exact trivial|refine stR ?_|((first|refine cv (c1) ?_|refine cv (c2) ?_|refine cv (c3) ?_|refine stp ?_|refine A0 (fun h=>?_) ?_|(refine gw (fun h=>?_) (fun h=>?_)<;>(try (exfalso;omega))))<;>(try (refine wS ?_)))))
  all_goals exact A3 (e.legs.length-(k+1)) (by omega) ⟨k+1,_,b4,l++[s3],rfl,by omega,by rw[List.length_append,hlk];rfl,hls2,byS,byQ,by omega,byQ,byQ,by omega,byQ,byQ,by omega,by omega,by omega,by omega,by omega,byS,byS,byS⟩
 ·have f1:=Lm l
  have f2:=Ln l
  obtain⟨p,zp,cp⟩:=Vi l hls.out (by omega) (by omega)
  have zp2:p.size≤3000:=by
   have:l.length*(150+22)≤12*172:=Nat.mul_le_mul (by omega) (by omega)
   omega
  clear hls hL zp
  (repeat' (first|exact trivial|refine stR ?_|((first|refine stp ?_|refine A0 (fun h=>?_) ?_|(refine gw (fun h=>?_) (fun h=>?_)<;>(try (exfalso;omega))))<;>(try (simp (maxSteps:=4000000) (disch:=omega) only[sx,Value.oneCell',↓reduceIte,Nat.reduceAdd,Nat.reduceMul,Nat.reduceEqDiff,Nat.reduceLT,Nat.reduceLeDiff,Int.reduceToNat,Int.reduceEq,Int.reduceLT,Int.reduceLE,Int.reduceNe, *])))))
  refine A9 (fun n tm hp nx=>∃ (k b4:Nat) (m:List ByteArray),n=6-k∧k≤6∧m.length=k∧Hid (∀ s∈m,s.size≤3000)∧tm 1=.pt 0 0 0∧hp 0=some ⟨39,[[gI e.id,gI e.booked,gI e.value,gI e.kind,gI e.auth,gI e.period,gS e.key,gS e.text,.sl (Ac e.legs),.ex (.int .u64 e.chain)]],true⟩∧0<nx∧tm 3=.own b3∧hp b3=some ⟨9,texts l,true⟩∧b3<nx∧tm 4=.own b4∧hp b4=some ⟨9,texts m,true⟩∧b4<nx∧¬ b3=b4∧¬ b4=b3∧¬ 0=b4∧tm 42=.agg [gI e.id,gI e.booked,gI e.value,gI e.kind,gI e.auth,gI e.period]∧tm 43=gI k) 6 ⟨0,b4,[],rfl,Nat.zero_le _,rfl,Lib.hid (fun s h=>(by cases h)),byS,byQ,by omega,byQ,byQ,by omega,byQ,byQ,by omega,by omega,by omega,by omega,byS,byS⟩ ?_
  clear hlt hk1 hlk g10 g11 g12 g1 b0 hx g3 hb3 q3 g4 hb4 q4 q34 q43 q40 hnn
  rintro n tm hp nx ⟨k,b4,m,hnn,hk,hmk,hms,g1,b0,hx,g3,hb3,q3,g4,hb4,q4,q34,q43,q40,g42,g43⟩
  have tm1:=C9 m
  by_cases hlt:k<6
  ·obtain⟨a0,y0,d0⟩:=Ip i1
   obtain⟨a1,y1,d1⟩:=Ip i2
   obtain⟨a2,y2,d2⟩:=Ip i3
   obtain⟨a3,y3,d3⟩:=Ip i4
   obtain⟨a4,y4,d4⟩:=Ip i5
   obtain⟨a5,y5,d5⟩:=Ip i6
   have up:∀ a:ByteArray,a.size≤21→Hid (∀ s∈m++[a],s.size≤3000):=fun a ha=>Lib.hid fun s hs=>by
    rcases List.mem_append.1 hs with h|h
    ·exact hms.out s h
    ·rw[List.mem_singleton.1 h];omega
   have u0:=up a0 y0
   have u1:=up a1 y1
   have u2:=up a2 y2
   have u3:=up a3 y3
   have u4:=up a4 y4
   have u5:=up a5 y5
   clear up hms y0 y1 y2 y3 y4 y5
   have hw:k=0∨k=1∨k=2∨k=3∨k=4∨k=5:=by omega
   rcases hw with rfl|rfl|rfl|rfl|rfl|rfl
   ·have ta:=Df m a0
    (repeat' (first|exact trivial|refine stR ?_|((first|refine cv (d0) ?_|refine stp ?_|refine A0 (fun h=>?_) ?_|(refine gw (fun h=>?_) (fun h=>?_)<;>(try (exfalso;omega))))<;>(try (refine wS ?_)))))
    all_goals exact A3 5 (by omega) ⟨1,_,m++[a0],rfl,by omega,by simp [hmk],u0,byS,byQ,by omega,byQ,byQ,by omega,byQ,byQ,by omega,by omega,by omega,by omega,byS,byS⟩
   ·have ta:=Df m a1
    (repeat' (first|exact trivial|refine stR ?_|((first|refine cv (d1) ?_|refine stp ?_|refine A0 (fun h=>?_) ?_|(refine gw (fun h=>?_) (fun h=>?_)<;>(try (exfalso;omega))))<;>(try (refine wS ?_)))))
    all_goals exact A3 4 (by omega) ⟨2,_,m++[a1],rfl,by omega,by simp [hmk],u1,byS,byQ,by omega,byQ,byQ,by omega,byQ,byQ,by omega,by omega,by omega,by omega,byS,byS⟩
   ·have ta:=Df m a2
    (repeat' (first|exact trivial|refine stR ?_|((first|refine cv (d2) ?_|refine stp ?_|refine A0 (fun h=>?_) ?_|(refine gw (fun h=>?_) (fun h=>?_)<;>(try (exfalso;omega))))<;>(try (refine wS ?_)))))
    all_goals exact A3 3 (by omega) ⟨3,_,m++[a2],rfl,by omega,by simp [hmk],u2,byS,byQ,by omega,byQ,byQ,by omega,byQ,byQ,by omega,by omega,by omega,by omega,byS,byS⟩
   ·have ta:=Df m a3
    (repeat' (first|exact trivial|refine stR ?_|((first|refine cv (d3) ?_|refine stp ?_|refine A0 (fun h=>?_) ?_|(refine gw (fun h=>?_) (fun h=>?_)<;>(try (exfalso;omega))))<;>(try (refine wS ?_)))))
    all_goals exact A3 2 (by omega) ⟨4,_,m++[a3],rfl,by omega,by simp [hmk],u3,byS,byQ,by omega,byQ,byQ,by omega,byQ,byQ,by omega,by omega,by omega,by omega,byS,byS⟩
   ·have ta:=Df m a4
    (repeat' (first|exact trivial|refine stR ?_|((first|refine cv (d4) ?_|refine stp ?_|refine A0 (fun h=>?_) ?_|(refine gw (fun h=>?_) (fun h=>?_)<;>(try (exfalso;omega))))<;>(try (refine wS ?_)))))
    all_goals exact A3 1 (by omega) ⟨5,_,m++[a4],rfl,by omega,by simp [hmk],u4,byS,byQ,by omega,byQ,byQ,by omega,byQ,byQ,by omega,by omega,by omega,by omega,byS,byS⟩
   ·have ta:=Df m a5
    (repeat' (first|exact trivial|refine stR ?_|((first|refine cv (d5) ?_|refine stp ?_|refine A0 (fun h=>?_) ?_|(refine gw (fun h=>?_) (fun h=>?_)<;>(try (exfalso;omega))))<;>(try (refine wS ?_)))))
    all_goals exact A3 0 (by omega) ⟨6,_,m++[a5],rfl,by omega,by simp [hmk],u5,byS,byQ,by omega,byQ,byQ,by omega,byQ,byQ,by omega,by omega,by omega,by omega,byS,byS⟩
  ·have hm6:m.length=6:=by omega
   have ta:=A2t m e.key e.text p
   have hmm:∀ s∈m++[e.key,e.text,p],s.size≤3000:=fun s hs=>by
    rcases List.mem_append.1 hs with h|h
    ·exact hms.out s h
    ·simp only[List.mem_cons,List.not_mem_nil,or_false] at h
     rcases h with rfl|rfl|rfl<;>omega
   have hml:(m++[e.key,e.text,p]).length=9:=by rw[List.length_append,hm6];rfl
   obtain⟨r,zr,cr⟩:=Vi _ hmm (by omega) (by omega)
   have zr2:r.size≤100000:=by rw[hml] at zr;omega
   have f3:=Lm (m++[e.key,e.text,p])
   have f4:=Ln (m++[e.key,e.text,p])
   clear hmm zr hms
   generalize hR:m++[e.key,e.text,p]=R at *
   clear hR
   (repeat' (first|exact trivial|refine stR ?_|((first|refine cv (cp) ?_|refine cv (cr) ?_|refine stp ?_|refine A0 (fun h=>?_) ?_|(refine gw (fun h=>?_) (fun h=>?_)<;>(try (exfalso;omega))))<;>(try (refine wS ?_)))))
   all_goals (simp only[sxd,z0,p0,Nat.reduceEqDiff,↓reduceIte,Tryz.f137, *];exact⟨_,rfl,zr2⟩)
end D
def U64(n:Int):Prop:=0≤n∧n≤18446744073709551615
theorem Ey(n:Int):U64 (IntKind.u64.wrap n):=by unfold U64;rw[IntKind.wrap_u64];omega
theorem Bt(l:List EntV):(Ab l).length=l.length:=by simp [Ab]
theorem Ch{l:List EntV}{k:Nat}{e:EntV}(h:l[k]?=some e):(Ab l)[k]?=some [gI e.id,gI e.booked,gI e.value,gI e.kind,gI e.auth,gI e.period,gS e.key,gS e.text,.sl (Ac e.legs),.ex (.int .u64 e.chain)]:=by rw[Ab,List.getElem?_map,h];rfl
theorem Pq(l:List EntV):∀ n∈Ab l,n.length=10:=by
 intro n hn
 obtain⟨x,_,rfl⟩:=List.mem_map.1 hn
 rfl
theorem Ac5(l:List EntV):((Ab l).all (·.all p0))=true:=by
 rw[List.all_eq_true]
 intro r hr
 obtain⟨x,_,rfl⟩:=List.mem_map.1 hr
 rfl
theorem Aje(l:List EntV):(Ab l).map (·.map z0)=Ab l:=by
 rw[Ab,List.map_map];exact List.map_congr_left fun _ _=>rfl
theorem A6z(a:List EntV)(e:EntV):Ab a++[[gI e.id,gI e.booked,gI e.value,gI e.kind,gI e.auth,gI e.period,gS e.key,gS e.text,.sl (Ac e.legs),.ex (.int .u64 e.chain)]]=Ab (a++[e]):=by simp [Ab,Al]
theorem A4g(l:List LegV):((Ac l).all (·.all p0))=true:=Ew l
theorem Aeh(l:List LegV):∀ n∈Ac l,n.length=3:=by
 intro n hn
 obtain⟨x,_,rfl⟩:=List.mem_map.1 hn
 rfl
def Xr:EntV:=⟨0,0,0,0,0,0,⟨#[]⟩,⟨#[]⟩,[],0⟩
structure JOk(j:List EntV):Prop where
 n:Sz j.length
 e:∀ x∈j,x.Ok
abbrev gU(n:Int):AV:=.ex (.int .u64 n)
namespace D
theorem A74(h:Int)(hh:U64 h)(s:ByteArray)(hs:Sz s.size):∃ x:Int,U64 x∧Cn 188 [.ex (.int .u64 h),gS s] (.val (gU x)):=by
 unfold Sz at hs
 refine caS gU Tryz.func188 ?_
 (repeat' (first|exact trivial|refine stR ?_|((first|refine stp ?_|refine A0 (fun h=>?_) ?_|(refine gw (fun h=>?_) (fun h=>?_)<;>(try (exfalso;omega))))<;>(try (refine wS ?_)))))
 refine A9 (fun n tm hp nx=>∃ (k:Nat) (m:Int),n=s.size-k∧k≤s.size∧Hid (U64 m)∧tm 0=.ex (.int .u64 m)∧tm 1=gS s∧tm 7=gI s.size∧tm 8=gI k) s.size ⟨0,h,rfl,Nat.zero_le _,Lib.hid hh,byS,byS,byS,byS⟩ ?_
 rintro n tm hp nx ⟨k,m,hnn,hk,hm,g0,g1,g7,g8⟩
 by_cases hlt:k<s.size
 ·have f1:=Em s k hlt
  generalize s[k]'hlt=c at f1
  (repeat' (first|exact trivial|refine stR ?_|((first|refine stp ?_|refine A0 (fun h=>?_) ?_|(refine gw (fun h=>?_) (fun h=>?_)<;>(try (exfalso;omega))))<;>(try (refine wS ?_)))))
  all_goals exact A3 (s.size-(k+1)) (by omega) ⟨k+1,_,rfl,by omega,Lib.hid (Ey _),byS,byS,byS,byS⟩
 ·(repeat' (first|exact trivial|refine stR ?_|((first|refine stp ?_|refine A0 (fun h=>?_) ?_|(refine gw (fun h=>?_) (fun h=>?_)<;>(try (exfalso;omega))))<;>(try (refine wS ?_)))))
  all_goals (simp only[sxd,z0,p0,Nat.reduceEqDiff,↓reduceIte,Tryz.f188, *];exact⟨_,rfl,hm.out⟩)
theorem Ac0(h n:Int)(hh:U64 h):∃ x:Int,U64 x∧Cn 189 [.ex (.int .u64 h),.ex (.int .u64 n)] (.val (gU x)):=by
 refine caS gU Tryz.func189 ?_
 (repeat' (first|exact trivial|refine stR ?_|((first|refine stp ?_|refine A0 (fun h=>?_) ?_|(refine gw (fun h=>?_) (fun h=>?_)<;>(try (exfalso;omega))))<;>(try (refine wS ?_)))))
 refine A9 (fun v tm hp nx=>∃ (k:Nat) (m:Int),v=8-k∧k≤8∧Hid (U64 m)∧tm 0=.ex (.int .u64 m)∧tm 1=.ex (.int .u64 n)∧tm 6=gI k) 8 ⟨0,h,rfl,Nat.zero_le _,Lib.hid hh,byS,byS,byS⟩ ?_
 rintro v tm hp nx ⟨k,m,hnn,hk,hm,g0,g1,g6⟩
 by_cases hlt:k<8
 ·have h8:(0:Int)≤8*(k:Int):=by omega
  (repeat' (first|exact trivial|refine stR ?_|((first|refine stp ?_|refine A0 (fun h=>?_) ?_|(refine gw (fun h=>?_) (fun h=>?_)<;>(try (exfalso;omega))))<;>(try (refine wS ?_)))))
  all_goals exact A3 (8-(k+1)) (by omega) ⟨k+1,_,rfl,by omega,Lib.hid (Ey _),byS,byS,byS⟩
 ·(repeat' (first|exact trivial|refine stR ?_|((first|refine stp ?_|refine A0 (fun h=>?_) ?_|(refine gw (fun h=>?_) (fun h=>?_)<;>(try (exfalso;omega))))<;>(try (refine wS ?_)))))
  all_goals (simp only[sxd,z0,p0,Nat.reduceEqDiff,↓reduceIte,Tryz.f189, *];exact⟨_,rfl,hm.out⟩)
theorem A9o(p:Int)(s:ByteArray)(hs:Sz s.size):∃ x:Int,U64 x∧Cn 136 [.ex (.int .u64 p),gS s] (.val (gU x)):=by
 obtain⟨a,ha,c1⟩:=Ac0 14695981039346656037 p (by unfold U64;omega)
 obtain⟨b,hb,c2⟩:=A74 a ha s hs
 replace hb:=Lib.hid hb
 clear ha
 refine caS gU Tryz.func136 ?_
 (repeat' (first|exact trivial|refine stR ?_|((first|refine cv (c1) ?_|refine cv (c2) ?_|refine stp ?_|refine A0 (fun h=>?_) ?_|(refine gw (fun h=>?_) (fun h=>?_)<;>(try (exfalso;omega))))<;>(try (refine wS ?_)))))
 all_goals (simp only[sxd,z0,p0,Nat.reduceEqDiff,↓reduceIte,Tryz.f136, *];exact⟨_,rfl,hb.out⟩)
theorem Akz(j:List EntV)(hj:JOk j):∃ x:Int×Int,U64 x.1∧Cn 74 [.sl (Ab j)] (.val (.tup [.ex (.int .u64 x.1),gI x.2])):=by
 have q1:=Bt j
 have hn:=hj.n
 unfold Sz at hn
 by_cases h0:j.length=0
 ·have hj0:j=[]:=List.eq_nil_of_length_eq_zero h0
  subst hj0
  clear hj q1 hn h0
  have q2:Ab []=[]:=rfl
  refine caS (fun x:Int×Int=>.tup [.ex (.int .u64 x.1),gI x.2]) Tryz.func74 ?_
  (repeat' (first|exact trivial|refine stR ?_|((first|refine stp ?_|refine A0 (fun h=>?_) ?_|(refine gw (fun h=>?_) (fun h=>?_)<;>(try (exfalso;omega))))<;>(try (refine wS ?_)))))
  all_goals (simp only[sxd,z0,p0,Nat.reduceEqDiff,↓reduceIte,Tryz.f74, *];exact⟨(_,_),rfl,by unfold U64;omega⟩)
 ·have hi:j.length-1<j.length:=by omega
  have e1:j[j.length-1]?=some j[j.length-1]:=List.getElem?_eq_getElem hi
  have hx:=Lib.hid (hj.e _ (List.getElem_mem hi)).h
  generalize j[j.length-1]=x at e1 hx
  have q6:((j.length:Int)-1).toNat=j.length-1:=by omega
  have q4:=Ch e1
  clear hj e1
  refine caS (fun x:Int×Int=>.tup [.ex (.int .u64 x.1),gI x.2]) Tryz.func74 ?_
  (repeat' (first|exact trivial|refine stR ?_|((first|refine stp ?_|refine A0 (fun h=>?_) ?_|(refine gw (fun h=>?_) (fun h=>?_)<;>(try (exfalso;omega))))<;>(try (refine wS ?_)))))
  all_goals (simp only[sxd,z0,p0,Nat.reduceEqDiff,↓reduceIte,Tryz.f74, *];exact⟨(_,_),rfl,hx.out⟩)
end D
def Co(e:EntV)(n:Nat)(c:Int):EntV:={ e with id:=(n:Int)+1,chain:=c }
theorem Z9{e:EntV}(h:e.Ok){n:Nat}(hn:n≤5000){c:Int}(hc:U64 c):(Co e n c).Ok:=⟨h.k,h.t,h.n,h.c,⟨by unfold I64 Co;dsimp only;omega,h.i.2⟩,hc,h.l,h.y⟩
theorem Aps{e:EntV}(h:e.Ok){n:Nat}(hn:n≤5000):({ e with id:=(n:Int)+1 }:EntV).Ok:=⟨h.k,h.t,h.n,h.c,⟨by unfold I64;dsimp only;omega,h.i.2⟩,h.h,h.l,h.y⟩
theorem Acx{e:EntV}(h:e.Good)(n:Nat):({ e with id:=(n:Int)+1 }:EntV).Good:=⟨h.k,h.t,h.b,h.v,h.p,h.n,h.l⟩
namespace D
theorem A8w(e:EntV)(ho:e.Ok)(hg:e.Good)(n:Nat)(hn:n≤5000)(c:Int):∃ x:Int,U64 x∧Cn 75 [.agg (Al e),gI n,.ex (.int .u64 c)] (.val (.agg (Al (Co e n x)))):=by
 obtain⟨s,hs,c1⟩:=A5i { e with id:=(n:Int)+1 } (Aps ho hn) (Acx hg n)
 obtain⟨x,hx,c2⟩:=A9o c s (by unfold Sz;omega)
 have c3:=Kh (Ac e.legs) (A4g e.legs) (Fb e.legs) (Aeh e.legs) (by have:=hg.n;rw[B9];omega)
 refine⟨x,hx, ?_⟩
 have key:∃ y:AV,y=.agg (Al (Co e n x))∧Cn 75 [.agg (Al e),gI n,.ex (.int .u64 c)] (.val ((fun y=>y) y)):=by
  clear hs hx ho hg
  unfold Co Al at *
  dsimp only at c1 ⊢
  refine caS (fun y=>y) Tryz.func75 ?_
  (repeat' (first|exact trivial|refine stR ?_|((first|refine cv (c1) ?_|refine cv (c2) ?_|refine cv (c3) ?_|refine stp ?_|refine A0 (fun h=>?_) ?_|(refine gw (fun h=>?_) (fun h=>?_)<;>(try (exfalso;omega))))<;>(try (refine wS ?_)))))
  all_goals ((refine rc1 rfl ?_);first|exact⟨_,rfl,rfl⟩|exact⟨_,rfl⟩)
 obtain⟨y,rfl,h⟩:=key
 exact h
theorem Ajt(e:EntV)(k:ByteArray):∃ x:Bool,True∧Cn 67 [.agg [gI e.id,gI e.booked,gI e.value,gI e.kind,gI e.auth,gI e.period,gS e.key,gS e.text,.sl (Ac e.legs),.ex (.int .u64 e.chain)],.rp [gS k] 0] (.val (gB x)):=by
 refine caS gB Tryz.func67 ?_
 (repeat' (first|exact trivial|refine stR ?_|((first|refine stp ?_|refine A0 (fun h=>?_) ?_|(refine gw (fun h=>?_) (fun h=>?_)<;>(try (exfalso;omega))))<;>(try (refine wS ?_)))))
 all_goals (simp only[sxd,z0,p0,Nat.reduceEqDiff,↓reduceIte,Tryz.f67, *];exact aX)
theorem Ad5(j:List EntV)(hn:Sz j.length)(k:ByteArray):∃ x:Int,(x=-1∨∃ i:Nat,x=i∧i<j.length)∧Cn 66 [.sl (Ab j),.fn 67 [.rp [gS k] 0]] (.val (gI x)):=by
 unfold Sz at hn
 have hl:=Bt j
 refine caS gI Tryz.func66 ?_
 (repeat' (first|exact trivial|refine stR ?_|((first|refine stp ?_|refine A0 (fun h=>?_) ?_|(refine gw (fun h=>?_) (fun h=>?_)<;>(try (exfalso;omega))))<;>(try (refine wS ?_)))))
 refine A9 (fun n tm hp nx=>∃ i:Nat,n=j.length-i∧i≤j.length∧tm 0=.sl (Ab j)∧tm 1=.fn 67 [.rp [gS k] 0]∧tm 6=.sl (Ab j)∧tm 7=gI j.length∧tm 8=gI i) j.length ⟨0,rfl,Nat.zero_le _,byS,byS,byS,byS,byS⟩ ?_
 rintro n tm hp nx ⟨i,hnn,hi,g0,g1,g6,g7,g8⟩
 by_cases hlt:i<j.length
 ·have e1:=List.getElem?_eq_getElem hlt
  generalize j[i]=e at e1
  have e0:=Ch e1
  obtain⟨x,_,hc⟩:=Ajt e k
  (repeat' (first|exact trivial|refine stR ?_|((first|refine cv (hc) ?_|refine stp ?_|refine A0 (fun h=>?_) ?_|(refine gw (fun h=>?_) (fun h=>?_)<;>(try (exfalso;omega))))<;>(try (refine wS ?_)))))
  all_goals first
   | exact A3 (j.length-(i+1)) (by omega) ⟨i+1,rfl,by omega,byS,byS,byS,byS,byS⟩
   | (simp only[sxd,z0,p0,Nat.reduceEqDiff,↓reduceIte,Tryz.f66, *];exact⟨_,rfl,.inr ⟨i,rfl,hlt⟩⟩)
 ·(repeat' (first|exact trivial|refine stR ?_|((first|refine stp ?_|refine A0 (fun h=>?_) ?_|(refine gw (fun h=>?_) (fun h=>?_)<;>(try (exfalso;omega))))<;>(try (refine wS ?_)))))
  all_goals (simp only[sxd,z0,p0,Nat.reduceEqDiff,↓reduceIte,Tryz.f66, *];exact⟨_,rfl,.inl rfl⟩)
theorem Yf(j:List EntV)(hn:Sz j.length)(k:ByteArray):∃ x:EntV×Bool,True∧Cn 29 [.sl (Ab j),gS k] (.val (.tup [.agg (Al x.1),gB x.2])):=by
 obtain⟨n,hn2,hc⟩:=Ad5 j hn k
 have hl:=Bt j
 rcases hn2 with rfl|⟨i,rfl,hi⟩
 ·refine caS (fun x:EntV×Bool=>.tup [.agg (Al x.1),gB x.2]) Tryz.func29 ?_
  (repeat' (first|exact trivial|refine stR ?_|((first|refine cv (hc) ?_|refine stp ?_|refine A0 (fun h=>?_) ?_|(refine gw (fun h=>?_) (fun h=>?_)<;>(try (exfalso;omega))))<;>(try (refine wS ?_)))))
  all_goals ((refine rc3 rfl ?_);first|exact⟨(Xr,false),rfl,trivial⟩|exact⟨(Xr,false),rfl⟩)
 ·have e1:=List.getElem?_eq_getElem hi
  generalize j[i]=e at e1
  have e0:=Ch e1
  unfold Sz at hn
  clear e1
  refine caS (fun x:EntV×Bool=>.tup [.agg (Al x.1),gB x.2]) Tryz.func29 ?_
  (repeat' (first|exact trivial|refine stR ?_|((first|refine cv (hc) ?_|refine stp ?_|refine A0 (fun h=>?_) ?_|(refine gw (fun h=>?_) (fun h=>?_)<;>(try (exfalso;omega))))<;>(try (refine wS ?_)))))
  all_goals ((refine rc3 rfl ?_);first|exact⟨(e,true),rfl,trivial⟩|exact⟨(e,true),rfl⟩)
set_option maxHeartbeats 2000000 in
theorem Ad7(j:List EntV)(hj:JOk j)(e:EntV)(ho:e.Ok):∃ x:List EntV×Int,((x.2=0∧e.Good∧j.length≤4096∧∃ c,U64 c∧x.1=j++[Co e j.length c])∨(x.2≠0∧x.1=[]))∧Cn 32 [.sl (Ab j),.agg (Al e)] (.val (.tup [.sl (Ab x.1),gI x.2])):=by
 obtain⟨n,hG,c1⟩:=Nb e ho
 obtain⟨⟨fe,fb⟩,_,c2⟩:=Yf j hj.n e.key
 obtain⟨⟨ch,dy⟩,hch,c3⟩:=Akz j hj
 have q1:=Bt j
 have hn:=hj.n
 unfold Sz at hn
 by_cases hc:n=0
 ·have hg:=hG hc
  subst hc
  by_cases hfull:4096≤j.length
  ·have hr:=Lib.hid (show Ab []=[] from rfl)
   clear hG hj hch hg
   unfold Al at *
   refine caS (fun x:List EntV×Int=>.tup [.sl (Ab x.1),gI x.2]) Tryz.func32 ?_
   (repeat' (first|exact trivial|refine stR ?_|((first|refine cv (c1) ?_|refine cv (c2) ?_|refine cv (c3) ?_|refine stp ?_|refine A0 (fun h=>?_) ?_|(refine gw (fun h=>?_) (fun h=>?_)<;>(try (exfalso;omega))))<;>(try (simp (maxSteps:=4000000) (disch:=omega) only[sx,Value.oneCell',↓reduceIte,Nat.reduceAdd,Nat.reduceMul,Nat.reduceEqDiff,Nat.reduceLT,Nat.reduceLeDiff,Int.reduceToNat,Int.reduceEq,Int.reduceLT,Int.reduceLE,Int.reduceNe, *])))))
   all_goals (simp only[sxd,z0,p0,Nat.reduceEqDiff,↓reduceIte,Tryz.f32, *])
   all_goals exact⟨([],_),rfl,.inr ⟨by decide,rfl⟩⟩
  ·obtain⟨x,hx,c4⟩:=A8w e ho hg j.length (by omega) ch
   have hA:=A6z j (Co e j.length x)
   have f1:=Ac5 (j++[Co e j.length x])
   have f2:=Aje (j++[Co e j.length x])
   have f3:=eq_true (Pq j)
   have f5:∀ Z:List AV,(List.replicate ((j.length:Int)+1).toNat Z).length=j.length+1:=fun Z=>by rw[List.length_replicate];omega
   have f6:(j.length≤j.length+1)=True:=eq_true (Nat.le_succ _)
   have f7:∀ Z:List AV,(List.replicate ((j.length:Int)+1).toNat Z).drop j.length=[Z]:=fun Z=>by
    rw[List.drop_replicate,show ((j.length:Int)+1).toNat-j.length=1 by omega];rfl
   have f8:∀ Z r:List AV,(Ab j++[Z]).set j.length r=Ab j++[r]:=fun Z r=>by
    rw[← q1,List.set_append_right _ _ (Nat.le_refl _),Nat.sub_self];rfl
   have f9:∀ Z:List AV,(Ab j++[Z]).length=j.length+1:=fun Z=>by rw[List.length_append,q1];rfl
   have f10:∀ Z:List AV,(Ab j++[Z])[j.length]?=some Z:=fun Z=>by
    rw[← q1,List.getElem?_append_right (Nat.le_refl _),Nat.sub_self];rfl
   have hR:=Lib.hid (show (∃ c,U64 c∧j++[Co e j.length x]=j++[Co e j.length c]) from ⟨x,hx,rfl⟩)
   replace hg:=Lib.hid hg
   clear hG hj hch hx
   generalize Co e j.length x=y at c4 hA f1 f2 hR
   unfold Al at *
   refine caS (fun x:List EntV×Int=>.tup [.sl (Ab x.1),gI x.2]) Tryz.func32 ?_
   (repeat' (first|exact trivial|refine stR ?_|((first|refine cv (c1) ?_|refine cv (c2) ?_|refine cv (c3) ?_|refine cv (c4) ?_|refine stp ?_|refine A0 (fun h=>?_) ?_|(refine gw (fun h=>?_) (fun h=>?_)<;>(try (exfalso;omega))))<;>(try (simp (maxSteps:=4000000) (disch:=omega) only[sx,Value.oneCell',↓reduceIte,Nat.reduceAdd,Nat.reduceMul,Nat.reduceEqDiff,Nat.reduceLT,Nat.reduceLeDiff,Int.reduceToNat,Int.reduceEq,Int.reduceLT,Int.reduceLE,Int.reduceNe, *])))))
   all_goals (simp only[sxd,z0,p0,Nat.reduceEqDiff,↓reduceIte,Tryz.f32, *])
   all_goals first
    | exact⟨([],_),rfl,.inr ⟨by decide,rfl⟩⟩
    | exact⟨(_,0),rfl,.inl ⟨rfl,hg.out,by omega,hR.out⟩⟩
 ·clear hG hj hch
  unfold Al at *
  refine caS (fun x:List EntV×Int=>.tup [.sl (Ab x.1),gI x.2]) Tryz.func32 ?_
  (repeat' (first|exact trivial|refine stR ?_|((first|refine cv (c1) ?_|refine cv (c2) ?_|refine cv (c3) ?_|refine stp ?_|refine A0 (fun h=>?_) ?_|(refine gw (fun h=>?_) (fun h=>?_)<;>(try (exfalso;omega))))<;>(try (simp (maxSteps:=4000000) (disch:=omega) only[sx,Value.oneCell',↓reduceIte,Nat.reduceAdd,Nat.reduceMul,Nat.reduceEqDiff,Nat.reduceLT,Nat.reduceLeDiff,Int.reduceToNat,Int.reduceEq,Int.reduceLT,Int.reduceLE,Int.reduceNe, *])))))
  all_goals (simp only[sxd,z0,p0,Nat.reduceEqDiff,↓reduceIte,Tryz.f32, *])
  all_goals exact⟨([],_),rfl,.inr ⟨hc,rfl⟩⟩
end D
namespace D
set_option maxHeartbeats 2000000 in
theorem Ahl{b:BkV}(hb:b.Ok)(j:List (List AV))(e:EntV)(ho:e.Ok):∃ x:Int,True∧Cn 30 [.agg (bkC b j),.agg (Al e)] (.val (gI x)):=by
 have hn:=ho.n
 unfold Sz at hn
 have hl:=B9 e.legs
 have L:=fun (a m:Int) (s:ByteArray)=>A7r hb j a m s
 have K:=fun (a m:Int) (s:ByteArray)=>Xm hb j a m s e.booked
 unfold bkC Al at *
 clear ho hb
 refine caS gI Tryz.func30 ?_
 (repeat' (first|exact trivial|refine stR ?_|((first|refine stp ?_|refine A0 (fun h=>?_) ?_|(refine gw (fun h=>?_) (fun h=>?_)<;>(try (exfalso;omega))))<;>(try (refine wS ?_)))))
 refine A9 (fun n tm hp nx=>∃ k:Nat,n=e.legs.length-k∧k≤e.legs.length∧tm 2=.pt 0 0 0∧tm 3=.pt 1 0 0∧hp 0=some ⟨33,[[.sl b.cur,.sl b.cal,.sl b.chart,gI b.plan.p1,gI b.plan.p2,gI b.plan.p3,gI b.plan.p4,gI b.plan.p5,gI b.plan.p6,gI b.plan.p7,gI b.plan.p8,gI b.plan.p9,gI b.plan.p10,gI b.plan.p11,gI b.plan.p12,gI b.plan.p13,gI b.plan.p14,.sl (Db b.prods),.sl (Hz b.accs),.sl j,.sl b.holds,.sl b.blocks]],true⟩∧hp 1=some ⟨39,[[gI e.id,gI e.booked,gI e.value,gI e.kind,gI e.auth,gI e.period,gS e.key,gS e.text,.sl (Ac e.legs),.ex (.int .u64 e.chain)]],true⟩∧1<nx∧tm 9=.sl (Ac e.legs)∧tm 10=gI e.legs.length∧tm 11=gI k) e.legs.length ⟨0,rfl,Nat.zero_le _,byS,byS,byQ,byQ,by omega,byS,byS,byS⟩ ?_
 rintro n tm hp nx ⟨k,hnn,hk,g2,g3,b0,b1,hx,g9,g10,g11⟩
 by_cases hlt:k<e.legs.length
 ·have e1:=List.getElem?_eq_getElem hlt
  generalize e.legs[k]=x at e1
  have e0:=Bq e1
  obtain⟨y1,_,c1⟩:=L x.account x.amount x.cur
  obtain⟨y2,_,c2⟩:=K x.account x.amount x.cur
  clear L K e1
  (repeat' (first|exact trivial|refine stR ?_|((first|refine cv (c1) ?_|refine cv (c2) ?_|refine stp ?_|refine A0 (fun h=>?_) ?_|(refine gw (fun h=>?_) (fun h=>?_)<;>(try (exfalso;omega))))<;>(try (refine wS ?_)))))
  all_goals first
   | exact A3 (e.legs.length-(k+1)) (by omega) ⟨k+1,rfl,by omega,byS,byS,byQ,byQ,by omega,byS,byS,byS⟩
   | (simp only[sxd,z0,p0,Nat.reduceEqDiff,↓reduceIte,Tryz.f30, *];exact aX)
 ·clear L K
  (repeat' (first|exact trivial|refine stR ?_|((first|refine stp ?_|refine A0 (fun h=>?_) ?_|(refine gw (fun h=>?_) (fun h=>?_)<;>(try (exfalso;omega))))<;>(try (refine wS ?_)))))
  all_goals (simp only[sxd,z0,p0,Nat.reduceEqDiff,↓reduceIte,Tryz.f30, *];exact aX)
theorem Wb(b:BkV)(j:List (List AV))(e:EntV)(ha:e.auth=1):Cn 31 [.agg (bkC b j),.agg (Al e)] (.val (gI 0)):=by
 have key:∃ x:Int,x=0∧Cn 31 [.agg (bkC b j),.agg (Al e)] (.val (gI x)):=by
  unfold bkC Al
  refine caS gI Tryz.func31 ?_
  (repeat' (first|exact trivial|refine stR ?_|((first|refine stp ?_|refine A0 (fun h=>?_) ?_|(refine gw (fun h=>?_) (fun h=>?_)<;>(try (exfalso;omega))))<;>(try (refine wS ?_)))))
  all_goals (simp only[sxd,z0,p0,Nat.reduceEqDiff,↓reduceIte,Tryz.f31, *];exact aX)
 obtain⟨x,rfl,h⟩:=key
 exact h
end D
end Go.Proofs.YtbhffbgbhgjdiaaGreatDoor
