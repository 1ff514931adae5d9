/-
  Parts of the proof: OpenF RowG. Conditions: those that each theorem states.
-/
import Derived.Test.YtbhffbgbhgjdiaaGreatDoorM19
import Derived.OpenShut
import Derived.Test.YtbhffbgbhgjdiaaGreatDoorRows
import Derived.ProofKit
import Derived.SevenTiedAt
set_option linter.unusedSimpArgs false
set_option linter.unusedVariables false
namespace Go.Proofs.YtbhffbgbhgjdiaaGreatDoor
open Go.RowKit
set_option maxRecDepth 100000
theorem Gv:Tryz.prog.cellsOf 3=1:=by kernel_rfl
theorem Ii:Tryz.prog.cellsOf 9=1:=by kernel_rfl
theorem Aog:Tryz.prog.cellsOf 4=1:=by kernel_rfl
theorem Aw9:Tryz.prog.cellsOf 37=1:=by kernel_rfl
theorem Aom:Tryz.prog.cellsOf 85=1:=by kernel_rfl
theorem Aon:Tryz.prog.cellsOf 36=1:=by kernel_rfl
theorem Aw8:Tryz.prog.cellsOf 103=3:=by kernel_rfl
theorem Aw5:Tryz.prog.cellsOf 39=10:=by kernel_rfl
theorem Aw4:Tryz.prog.cellsOf 135=2:=by kernel_rfl
theorem Aw3:Tryz.prog.cellsOf 95=3:=by kernel_rfl
theorem B0d:Tryz.prog.cellsOf 138=4:=by kernel_rfl
theorem Aol:Tryz.prog.cellsOf 142=6:=by kernel_rfl
theorem Ail:Tryz.prog.cellsOf 145=7:=by kernel_rfl
theorem Aw2:Tryz.prog.cellsOf 59=7:=by kernel_rfl
theorem Aoq:Tryz.prog.cellsOf 169=2:=by kernel_rfl
theorem Air:Tryz.prog.cellsOf 66=1:=by kernel_rfl
theorem Ab5:Tryz.prog.cellsOf 68=5:=by kernel_rfl
theorem U9:Tryz.prog.cellsOf 208=4:=by kernel_rfl
theorem Aw6:Tryz.prog.cellsOf 210=10:=by kernel_rfl
theorem Aok:Tryz.prog.cellsOf 69=1:=by kernel_rfl
theorem Aop:Tryz.prog.cellsOf 215=6:=by kernel_rfl
theorem Aiq:Tryz.prog.cellsOf 70=1:=by kernel_rfl
theorem Aoo:Tryz.prog.cellsOf 72=19:=by kernel_rfl
theorem Ab6:Tryz.prog.cellsOf 26=14:=by kernel_rfl
theorem Aim:Tryz.prog.cellsOf 33=22:=by kernel_rfl
theorem Aoi:Tryz.prog.cellsOf 22=1:=by kernel_rfl
theorem Aoh:Tryz.prog.cellsOf 23=1:=by kernel_rfl
theorem Aw7:Tryz.prog.cellsOf 24=1:=by kernel_rfl
theorem Aip:Tryz.prog.cellsOf 27=1:=by kernel_rfl
theorem Aof:Tryz.prog.cellsOf 28=1:=by kernel_rfl
theorem Aoj:Tryz.prog.cellsOf 29=1:=by kernel_rfl
theorem Aio:Tryz.prog.cellsOf 30=1:=by kernel_rfl
theorem Ab4:Tryz.prog.cellsOf 31=1:=by kernel_rfl
theorem Afb{d:Nat}{us:List AV}(h:Sh Tryz.prog (d+2) 85 us):∃ l:List Int,us=[.sl (Bf l)]∧Sz (l.length*8):=by
 obtain⟨es,rfl,⟨h1,h3⟩,h2⟩:=Bv h Tryz.underlying85
 obtain⟨l,rfl,hl⟩:=Ib (g:=fun n:Int=>[gI n]) (p:=fun _=>True) es fun x hx=>by
  obtain⟨s,e,_⟩:=Ak (h2 x hx) Tryz.underlying3
  exact⟨s,e,trivial⟩
 rw[show Tryz.prog.bytesOf 3=8 by kernel_rfl] at h3
 exact⟨l,rfl,Ae (by simpa using h3)⟩
theorem Ayd{d:Nat}{us:List AV}(h:Sh Tryz.prog (d+2) 135 us):Ju us:=by
 obtain⟨h1,h2⟩:=Bi h Tryz.underlying135
 rw[Aw4] at h1
 match us,h1 with
 | [a1,a2],_ =>
  simp only[List.forall_mem_cons,Gv,Ii,List.drop_zero,List.drop_succ_cons,List.take_succ_cons,List.take_zero] at h2
  obtain⟨g1,g2,_⟩:=h2
  obtain⟨n1,e1,w1⟩:=De g1 Tryz.underlying9
  obtain⟨n2,e2,w2⟩:=Ak g2 Tryz.underlying3
  simp only[List.cons.injEq,and_true] at e1 e2
  subst e1 e2
  exact⟨n1,n2,rfl,Ae w1,wf_i64 w2⟩
theorem Ayc{d:Nat}{us:List AV}(h:Sh Tryz.prog (d+3) 95 us):Gj us:=by
 obtain⟨h1,h2⟩:=Bi h Tryz.underlying95
 rw[Aw3] at h1
 match us,h1 with
 | [a1,a2,a3],_ =>
  simp only[List.forall_mem_cons,Aom,Ii,List.drop_zero,List.drop_succ_cons,List.take_succ_cons,List.take_zero] at h2
  obtain⟨g1,g2,g3,_⟩:=h2
  obtain⟨n1,e1,w1⟩:=De g1 Tryz.underlying9
  obtain⟨n2,e2,w2⟩:=Afb g2
  obtain⟨n3,e3,w3⟩:=Afb g3
  simp only[List.cons.injEq,and_true] at e1 e2 e3
  subst e1 e2 e3
  exact⟨n1,n2,n3,rfl,Ae w1,w2,w3⟩
theorem B10{d:Nat}{us:List AV}(h:Sh Tryz.prog (d+2) 138 us):Fz us:=by
 obtain⟨h1,h2⟩:=Bi h Tryz.underlying138
 rw[B0d] at h1
 match us,h1 with
 | [a1,a2,a3,a4],_ =>
  simp only[List.forall_mem_cons,Gv,Ii,List.drop_zero,List.drop_succ_cons,List.take_succ_cons,List.take_zero] at h2
  obtain⟨g1,g2,g3,g4,_⟩:=h2
  obtain⟨n1,e1,w1⟩:=Ak g1 Tryz.underlying3
  obtain⟨n2,e2,w2⟩:=Ak g2 Tryz.underlying3
  obtain⟨n3,e3,w3⟩:=Ak g3 Tryz.underlying3
  obtain⟨n4,e4,w4⟩:=De g4 Tryz.underlying9
  simp only[List.cons.injEq,and_true] at e1 e2 e3 e4
  subst e1 e2 e3 e4
  exact⟨n1,n2,n3,n4,rfl,Ae w4,wf_i64 w1⟩
theorem Ar7{d:Nat}{us:List AV}(h:Sh Tryz.prog (d+2) 142 us):He us:=by
 obtain⟨h1,h2⟩:=Bi h Tryz.underlying142
 rw[Aol] at h1
 match us,h1 with
 | [a1,a2,a3,a4,a5,a6],_ =>
  simp only[List.forall_mem_cons,Gv,Ii,List.drop_zero,List.drop_succ_cons,List.take_succ_cons,List.take_zero] at h2
  obtain⟨g1,g2,g3,g4,g5,g6,_⟩:=h2
  obtain⟨n1,e1,w1⟩:=Ak g1 Tryz.underlying3
  obtain⟨n2,e2,w2⟩:=Ak g2 Tryz.underlying3
  obtain⟨n3,e3,w3⟩:=Ak g3 Tryz.underlying3
  obtain⟨n4,e4,w4⟩:=Ak g4 Tryz.underlying3
  obtain⟨n5,e5,w5⟩:=Ak g5 Tryz.underlying3
  obtain⟨n6,e6,w6⟩:=De g6 Tryz.underlying9
  simp only[List.cons.injEq,and_true] at e1 e2 e3 e4 e5 e6
  subst e1 e2 e3 e4 e5 e6
  exact⟨n1,n2,n3,n4,n5,n6,rfl,Ae w6⟩
theorem Alh{d:Nat}{us:List AV}(h:Sh Tryz.prog (d+2) 145 us):I2 us:=by
 obtain⟨h1,h2⟩:=Bi h Tryz.underlying145
 rw[Ail] at h1
 match us,h1 with
 | [a1,a2,a3,a4,a5,a6,a7],_ =>
  simp only[List.forall_mem_cons,Gv,Ii,List.drop_zero,List.drop_succ_cons,List.take_succ_cons,List.take_zero] at h2
  obtain⟨g1,g2,g3,g4,g5,g6,g7,_⟩:=h2
  obtain⟨n1,e1,w1⟩:=Ak g1 Tryz.underlying3
  obtain⟨n2,e2,w2⟩:=Ak g2 Tryz.underlying3
  obtain⟨n3,e3,w3⟩:=Ak g3 Tryz.underlying3
  obtain⟨n4,e4,w4⟩:=Ak g4 Tryz.underlying3
  obtain⟨n5,e5,w5⟩:=Ak g5 Tryz.underlying3
  obtain⟨n6,e6,w6⟩:=Ak g6 Tryz.underlying3
  obtain⟨n7,e7,w7⟩:=De g7 Tryz.underlying9
  simp only[List.cons.injEq,and_true] at e1 e2 e3 e4 e5 e6 e7
  subst e1 e2 e3 e4 e5 e6 e7
  exact⟨n1,n2,n3,n4,n5,n6,n7,rfl,Ae w7⟩
theorem Ayb{d:Nat}{us:List AV}(h:Sh Tryz.prog (d+2) 59 us):∃ a:AccV,us=D6 a∧a.Ok:=by
 obtain⟨h1,h2⟩:=Bi h Tryz.underlying59
 rw[Aw2] at h1
 match us,h1 with
 | [a1,a2,a3,a4,a5,a6,a7],_ =>
  simp only[List.forall_mem_cons,Gv,Ii,List.drop_zero,List.drop_succ_cons,List.take_succ_cons,List.take_zero] at h2
  obtain⟨g1,g2,g3,g4,g5,g6,g7,_⟩:=h2
  obtain⟨n1,e1,w1⟩:=Ak g1 Tryz.underlying3
  obtain⟨n2,e2,w2⟩:=Ak g2 Tryz.underlying3
  obtain⟨n3,e3,w3⟩:=Ak g3 Tryz.underlying3
  obtain⟨n4,e4,w4⟩:=Ak g4 Tryz.underlying3
  obtain⟨n5,e5,w5⟩:=De g5 Tryz.underlying9
  obtain⟨n6,e6,w6⟩:=De g6 Tryz.underlying9
  obtain⟨n7,e7,w7⟩:=De g7 Tryz.underlying9
  simp only[List.cons.injEq,and_true] at e1 e2 e3 e4 e5 e6 e7
  subst e1 e2 e3 e4 e5 e6 e7
  exact⟨⟨n1,n2,n3,n4,n5,n6,n7⟩,rfl,wf_i64 w1,wf_i64 w2,Ae w5,Ae w6,Ae w7⟩
theorem Ayg{d:Nat}{us:List AV}(h:Sh Tryz.prog (d+2) 103 us):∃ x:LegV,us=Yh x∧Sz x.cur.size∧I64 x.account∧I64 x.amount:=by
 obtain⟨h1,h2⟩:=Bi h Tryz.underlying103
 rw[Aw8] at h1
 match us,h1 with
 | [a,b,c],_ =>
  simp only[List.forall_mem_cons,Gv,Ii,List.drop_zero,List.drop_succ_cons,List.take_succ_cons,List.take_zero] at h2
  obtain⟨g1,g2,g3,_⟩:=h2
  obtain⟨n1,e1,w1⟩:=Ak g1 Tryz.underlying3
  obtain⟨n2,e2,w2⟩:=Ak g2 Tryz.underlying3
  obtain⟨s3,e3,w3⟩:=De g3 Tryz.underlying9
  simp only[List.cons.injEq,and_true] at e1 e2 e3
  subst e1 e2 e3
  exact⟨⟨n1,n2,s3⟩,rfl,Ae w3,wf_i64 w1,wf_i64 w2⟩
theorem Aye{d:Nat}{us:List AV}(h:Sh Tryz.prog (d+4) 39 us):∃ e:EntV,us=Al e∧e.Ok:=by
 obtain⟨h1,h2⟩:=Bi h Tryz.underlying39
 rw[Aw5] at h1
 match us,h1 with
 | [a1,a2,a3,a4,a5,a6,a7,a8,a9,a10],_ =>
  simp only[List.forall_mem_cons,Gv,Ii,Aw9,Aon,List.drop_zero,List.drop_succ_cons,List.take_succ_cons,List.take_zero] at h2
  obtain⟨g1,g2,g3,g4,g5,g6,g7,g8,g9,g10,_⟩:=h2
  obtain⟨n1,e1,w1⟩:=Ak g1 Tryz.underlying3
  obtain⟨n2,e2,w2⟩:=Ak g2 Tryz.underlying3
  obtain⟨n3,e3,w3⟩:=Ak g3 Tryz.underlying3
  obtain⟨n4,e4,w4⟩:=Ak g4 Tryz.underlying3
  obtain⟨n5,e5,w5⟩:=Ak g5 Tryz.underlying3
  obtain⟨n6,e6,w6⟩:=Ak g6 Tryz.underlying3
  obtain⟨s7,e7,w7⟩:=De g7 Tryz.underlying9
  obtain⟨s8,e8,w8⟩:=De g8 Tryz.underlying9
  obtain⟨es,e9,⟨q1,q3⟩,q2⟩:=Bv g9 Tryz.underlying36
  obtain⟨l,rfl,hl⟩:=Ib (g:=Yh) (p:=fun x=>Sz x.cur.size∧I64 x.account∧I64 x.amount) es fun x hx=>Ayg (q2 x hx)
  rw[show Tryz.prog.bytesOf 103=32 by kernel_rfl] at q3
  obtain⟨n10,e10,w10⟩:=Ak g10 Tryz.underlying37
  simp only[List.cons.injEq,and_true] at e1 e2 e3 e4 e5 e6 e7 e8 e9 e10
  subst e1 e2 e3 e4 e5 e6 e7 e8 e9 e10
  have hb:=bounds_u64 w10
  exact⟨⟨n1,n2,n3,n4,n5,n6,s7,s8,l,n10⟩,rfl,Ae w7,Ae w8,Ae (by simpa using q1),fun x hx=>(hl x hx).1,⟨wf_i64 w1,wf_i64 w2,wf_i64 w3,wf_i64 w4,wf_i64 w5,wf_i64 w6⟩,by dsimp only;omega,fun x hx=>(hl x hx).2,Ae (by simpa using q3)⟩
theorem Af9{d:Nat}{us:List AV}(h:Sh Tryz.prog (d+5) 29 us):∃ l:List EntV,us=[.sl (Ab l)]∧JOk l:=by
 obtain⟨es,rfl,h1,h2⟩:=Agg h Tryz.underlying29
 obtain⟨l,rfl,hl⟩:=Ib (g:=Al) (p:=EntV.Ok) es fun x hx=>Aye (h2 x hx)
 exact⟨l,rfl,Ae (by simpa using h1),hl⟩
theorem Ayf{d:Nat}{us:List AV}(h:Sh Tryz.prog (d+2) 210 us):I5 us:=by
 obtain⟨h1,h2⟩:=Bi h Tryz.underlying210
 rw[Aw6] at h1
 match us,h1 with
 | [a1,a2,a3,a4,a5,a6,a7,a8,a9,a10],_ =>
  simp only[List.forall_mem_cons,Gv,Ii,U9,List.drop_zero,List.drop_succ_cons,List.take_succ_cons,List.take_zero] at h2
  obtain⟨g1,g2,g3,g4,_⟩:=h2
  obtain⟨n1,e1,w1⟩:=De g1 Tryz.underlying9
  obtain⟨n2,e2,w2⟩:=Ak g2 Tryz.underlying3
  simp only[List.cons.injEq,and_true] at e1 e2
  subst e1 e2
  exact⟨n1,n2,_,_,_,rfl,Ae w1,g3,g4⟩
theorem Ara{d:Nat}{us:List AV}(h:Sh Tryz.prog (d+2) 215 us):G1 us:=by
 obtain⟨h1,h2⟩:=Bi h Tryz.underlying215
 rw[Aop] at h1
 match us,h1 with
 | [a1,a2,a3,a4,a5,a6],_ =>
  simp only[List.forall_mem_cons,Gv,Ii,U9,List.drop_zero,List.drop_succ_cons,List.take_succ_cons,List.take_zero] at h2
  obtain⟨g1,g2,g3,_⟩:=h2
  obtain⟨n1,e1,w1⟩:=De g1 Tryz.underlying9
  obtain⟨n2,e2,w2⟩:=Ak g2 Tryz.underlying3
  simp only[List.cons.injEq,and_true] at e1 e2
  subst e1 e2
  exact⟨n1,n2,_,_,rfl,Ae w1,g3⟩
theorem Arb{d:Nat}{us:List AV}(h:Sh Tryz.prog (d+2) 169 us):∃ x:Int×Int,us=Ti x∧I64 x.1∧I64 x.2:=by
 obtain⟨h1,h2⟩:=Bi h Tryz.underlying169
 rw[Aoq] at h1
 match us,h1 with
 | [a1,a2],_ =>
  simp only[List.forall_mem_cons,Gv,List.drop_zero,List.drop_succ_cons,List.take_succ_cons,List.take_zero] at h2
  obtain⟨g1,g2,_⟩:=h2
  obtain⟨n1,e1,w1⟩:=Ak g1 Tryz.underlying3
  obtain⟨n2,e2,w2⟩:=Ak g2 Tryz.underlying3
  simp only[List.cons.injEq,and_true] at e1 e2
  subst e1 e2
  exact⟨(n1,n2),rfl,wf_i64 w1,wf_i64 w2⟩
theorem Afa{d:Nat}{us:List AV}(h:Sh Tryz.prog (d+4) 68 us):∃ x:IntV,us=[.sl (An x.tiers),gB x.marg,gI x.basis,gI x.mode,gB x.keep]∧x.Ok:=by
 obtain⟨h1,h2⟩:=Bi h Tryz.underlying68
 rw[Ab5] at h1
 match us,h1 with
 | [a1,a2,a3,a4,a5],_ =>
  simp only[List.forall_mem_cons,Gv,Aog,Air,List.drop_zero,List.drop_succ_cons,List.take_succ_cons,List.take_zero] at h2
  obtain⟨g1,g2,g3,g4,g5,_⟩:=h2
  obtain⟨es,e1,⟨q1,q3⟩,q2⟩:=Bv g1 Tryz.underlying66
  obtain⟨l,rfl,hl⟩:=Ib (g:=Ti) (p:=fun x=>I64 x.1∧I64 x.2) es fun x hx=>Arb (q2 x hx)
  rw[show Tryz.prog.bytesOf 169=16 by kernel_rfl] at q3
  obtain⟨n2,e2⟩:=A4y g2 Tryz.underlying4
  obtain⟨n3,e3,w3⟩:=Ak g3 Tryz.underlying3
  obtain⟨n4,e4,w4⟩:=Ak g4 Tryz.underlying3
  obtain⟨n5,e5⟩:=A4y g5 Tryz.underlying4
  simp only[List.cons.injEq,and_true] at e1 e2 e3 e4 e5
  subst e1 e2 e3 e4 e5
  exact⟨⟨l,n2,n3,n4,n5⟩,rfl,Ae (by simpa using q1),hl,wf_i64 w3,wf_i64 w4,Ae (by simpa using q3)⟩
theorem Ar9{d:Nat}{us:List AV}(h:Sh Tryz.prog (d+5) 72 us):∃ x:ProdV,us=Bw x∧x.Ok:=by
 obtain⟨h1,h2⟩:=Bi h Tryz.underlying72
 rw[Aoo] at h1
 match us,h1 with
 | [a1,a2,a3,a4,a5,a6,a7,a8,a9,a10,a11,a12,a13,a14,a15,a16,a17,a18,a19],_ =>
  simp only[List.forall_mem_cons,Gv,Ii,Ab5,Aok,Aiq,List.drop_zero,List.drop_succ_cons,List.take_succ_cons,List.take_zero] at h2
  obtain⟨g1,g2,g3,g4,g5,g6,g7,g8,g9,g10,g11,_⟩:=h2
  obtain⟨n1,e1,w1⟩:=De g1 Tryz.underlying9
  obtain⟨n2,e2,w2⟩:=De g2 Tryz.underlying9
  obtain⟨n3,e3,w3⟩:=De g3 Tryz.underlying9
  obtain⟨n4,e4,w4⟩:=Ak g4 Tryz.underlying3
  obtain⟨n5,e5,w5⟩:=Ak g5 Tryz.underlying3
  obtain⟨n6,e6,w6⟩:=Ak g6 Tryz.underlying3
  obtain⟨n7,e7,w7⟩:=Ak g7 Tryz.underlying3
  obtain⟨x8,e8,w8⟩:=Afa g8
  obtain⟨x9,e9,w9⟩:=Afa g9
  obtain⟨l1,e10,⟨q1,q3⟩,q2⟩:=Bv g10 Tryz.underlying69
  obtain⟨l2,e11,⟨r1,r3⟩,r2⟩:=Bv g11 Tryz.underlying70
  rw[show Tryz.prog.bytesOf 210=136 by kernel_rfl] at q3
  rw[show Tryz.prog.bytesOf 215=80 by kernel_rfl] at r3
  simp only[List.cons.injEq,and_true] at e1 e2 e3 e4 e5 e6 e7 e8 e9 e10 e11
  obtain⟨u1,u2,u3,u4,u5⟩:=e8
  obtain⟨v1,v2,v3,v4,v5⟩:=e9
  subst e1 e2 e3 e4 e5 e6 e7 e10 e11 u1 u2 u3 u4 u5 v1 v2 v3 v4 v5
  exact⟨⟨n1,n2,n3,n4,n5,n6,n7,x8,x9,l1,l2⟩,rfl,Ae w1,Ae w2,Ae w3,wf_i64 w4,wf_i64 w5,wf_i64 w6,wf_i64 w7,w8,w9,Ae q1,Ae r1,fun x hx=>Ayf (q2 x hx),fun x hx=>Ara (r2 x hx),Ae q3,Ae r3⟩
theorem Ar8{d:Nat}{us:List AV}(h:Sh Tryz.prog (d+2) 26 us):∃ p:Aa3,us=[gI p.p1,gI p.p2,gI p.p3,gI p.p4,gI p.p5,gI p.p6,gI p.p7,gI p.p8,gI p.p9,gI p.p10,gI p.p11,gI p.p12,gI p.p13,gI p.p14]∧I64 p.p3∧I64 p.p4∧I64 p.p6:=by
 obtain⟨h1,h2⟩:=Bi h Tryz.underlying26
 rw[Ab6] at h1
 match us,h1 with
 | [a1,a2,a3,a4,a5,a6,a7,a8,a9,a10,a11,a12,a13,a14],_ =>
  simp only[List.forall_mem_cons,Gv,List.drop_zero,List.drop_succ_cons,List.take_succ_cons,List.take_zero] at h2
  obtain⟨g1,g2,g3,g4,g5,g6,g7,g8,g9,g10,g11,g12,g13,g14,_⟩:=h2
  obtain⟨n1,e1,w1⟩:=Ak g1 Tryz.underlying3
  obtain⟨n2,e2,w2⟩:=Ak g2 Tryz.underlying3
  obtain⟨n3,e3,w3⟩:=Ak g3 Tryz.underlying3
  obtain⟨n4,e4,w4⟩:=Ak g4 Tryz.underlying3
  obtain⟨n5,e5,w5⟩:=Ak g5 Tryz.underlying3
  obtain⟨n6,e6,w6⟩:=Ak g6 Tryz.underlying3
  obtain⟨n7,e7,w7⟩:=Ak g7 Tryz.underlying3
  obtain⟨n8,e8,w8⟩:=Ak g8 Tryz.underlying3
  obtain⟨n9,e9,w9⟩:=Ak g9 Tryz.underlying3
  obtain⟨n10,e10,w10⟩:=Ak g10 Tryz.underlying3
  obtain⟨n11,e11,w11⟩:=Ak g11 Tryz.underlying3
  obtain⟨n12,e12,w12⟩:=Ak g12 Tryz.underlying3
  obtain⟨n13,e13,w13⟩:=Ak g13 Tryz.underlying3
  obtain⟨n14,e14,w14⟩:=Ak g14 Tryz.underlying3
  simp only[List.cons.injEq,and_true] at e1 e2 e3 e4 e5 e6 e7 e8 e9 e10 e11 e12 e13 e14
  subst e1 e2 e3 e4 e5 e6 e7 e8 e9 e10 e11 e12 e13 e14
  exact⟨⟨n1,n2,n3,n4,n5,n6,n7,n8,n9,n10,n11,n12,n13,n14⟩,rfl,wf_i64 w3,wf_i64 w4,wf_i64 w6⟩
set_option maxHeartbeats 2000000 in
theorem Ali{d:Nat}{us:List AV}(h:Sh Tryz.prog (d+7) 33 us):∃ (b:BkV) (j:List EntV),us=bkC b (Ab j)∧b.Ok∧Ly b∧JOk j:=by
 obtain⟨h1,h2⟩:=Bi h Tryz.underlying33
 rw[Aim] at h1
 match us,h1 with
 | [a1,a2,a3,a4,a5,a6,a7,a8,a9,a10,a11,a12,a13,a14,a15,a16,a17,a18,a19,a20,a21,a22],_ =>
  simp only[List.forall_mem_cons,Aoi,Aoh,Aw7,Ab6,Aip,Aof,Aoj,Aio,Ab4,List.drop_zero,List.drop_succ_cons,List.take_succ_cons,List.take_zero] at h2
  obtain⟨g1,g2,g3,g4,g5,g6,g7,g8,g9,_⟩:=h2
  obtain⟨l1,e1,⟨q1,s1⟩,t1⟩:=Bv g1 Tryz.underlying22
  obtain⟨l2,e2,⟨q2,s2⟩,t2⟩:=Bv g2 Tryz.underlying23
  obtain⟨l3,e3,⟨q3,s3⟩,t3⟩:=Bv g3 Tryz.underlying24
  obtain⟨p,e4,w3,w4,w6⟩:=Ar8 g4
  obtain⟨l5,e5,⟨q5,s5⟩,t5⟩:=Bv g5 Tryz.underlying27
  obtain⟨l6,e6,⟨q6,s6⟩,t6⟩:=Bv g6 Tryz.underlying28
  obtain⟨j,e7,hj⟩:=Af9 g7
  obtain⟨l8,e8,⟨q8,s8⟩,t8⟩:=Bv g8 Tryz.underlying30
  obtain⟨l9,e9,⟨q9,s9⟩,t9⟩:=Bv g9 Tryz.underlying31
  obtain⟨m5,rfl,hm5⟩:=Ib (g:=Bw) (p:=ProdV.Ok) l5 fun x hx=>Ar9 (t5 x hx)
  obtain⟨m6,rfl,hm6⟩:=Ib (g:=D6) (p:=AccV.Ok) l6 fun x hx=>Ayb (t6 x hx)
  rw[show Tryz.prog.bytesOf 135=24 by kernel_rfl] at s1
  rw[show Tryz.prog.bytesOf 95=64 by kernel_rfl] at s2
  rw[show Tryz.prog.bytesOf 138=40 by kernel_rfl] at s3
  rw[show Tryz.prog.bytesOf 72=240 by kernel_rfl] at s5
  rw[show Tryz.prog.bytesOf 59=80 by kernel_rfl] at s6
  rw[show Tryz.prog.bytesOf 142=56 by kernel_rfl] at s8
  rw[show Tryz.prog.bytesOf 145=64 by kernel_rfl] at s9
  simp only[List.cons.injEq,and_true] at e1 e2 e3 e4 e5 e6 e7 e8 e9
  obtain⟨u1,u2,u3,u4,u5,u6,u7,u8,u9,u10,u11,u12,u13,u14⟩:=e4
  subst e1 e2 e3 e5 e6 e7 e8 e9 u1 u2 u3 u4 u5 u6 u7 u8 u9 u10 u11 u12 u13 u14
  rw[List.length_map] at q5 q6 s5 s6
  exact⟨⟨l1,l2,l3,p,m5,m6,l8,l9⟩,j,rfl,⟨Ae q1,Ae q2,Ae q3,Ae q5,Ae q6,Ae q8,Ae q9,fun x hx=>Ayd (t1 x hx),fun x hx=>Ayc (t2 x hx),fun x hx=>B10 (t3 x hx),hm5,hm6,fun x hx=>Ar7 (t8 x hx),fun x hx=>Alh (t9 x hx),Ae s1,Ae s2,Ae s3,Ae s5,Ae s6,Ae s8,Ae s9⟩,⟨w3,w4,w6⟩,hj⟩
abbrev B18:List TypeId:=[33,22,135,23,95,85,3,24,138,26,27,72,68,66,169,4,9,69,210,208,206,70,215,28,59,29,39,36,103,37,30,142,31,145]
theorem A56:A4o Tryz.prog B18=true:=by kernel_rfl
theorem Age{d:Nat}{us:List AV}(h:Sh Tryz.prog d 33 us):∃ (b:BkV) (j:List EntV),us=bkC b (Ab j)∧b.Ok∧Ly b∧JOk j:=Ali (h.six 7)
theorem Alz{d:Nat}{es:List (List AV)}(h:Sh Tryz.prog (d+1) 29 [.sl es]):∃ l:List EntV,es=Ab l∧JOk l:=by
 obtain⟨l,e,hl⟩:=Af9 (h.six 4)
 simp only[List.cons.injEq,and_true,AV.sl.injEq] at e
 exact⟨l,e,hl⟩
theorem ok_int:A29 Tryz.prog 6 3=true:=by kernel_rfl
theorem Am0{d:Nat}{u:AV}(h:Rr Tryz.prog (d+1) 3 u):∃ n,u=gI n∧I64 n:=by
 unfold Rr at h
 rw[Tryz.underlying3] at h
 obtain⟨s,e,h1⟩:=Ak h Tryz.underlying3
 exact⟨s,by simpa using e,wf_i64 h1⟩
theorem topLate_any:Tryz.pinned.checked.prog.funcs.toList.any Func.goes=false:=by kernel_rfl
theorem Acr{P:Program}(h:P.funcs.toList.any Func.goes=false)(f:FuncId):P.goes f=false:=by
 have h1:∀ g:FuncId,(P.funcs[g]?).any Func.goes=false:=by
  intro g
  cases hg:P.funcs[g]? with
  | none=>rfl
  | some fn =>
   have hm:fn∈P.funcs.toList:=by
    have:=Array.mem_of_getElem? hg
    exact Array.mem_toList_iff.2 this
   have:=List.any_eq_false.1 h fn hm
   show Func.goes fn=false
   simpa using this
 unfold Program.goes
 rw[← Array.any_toList,h,Bool.and_false,Bool.or_false]
 rw[List.any_eq_false]
 intro g _
 rw[h1 g]
 simp
theorem A1i{P:Program}(h:P.funcs.toList.any Func.goes=false)(c:OpenClaim)(hs:c.start=.entering):false=c.goesBy P:=by
 unfold OpenClaim.goesBy Program.goesAt Program.goesFrom
 rw[hs]
 cases P.funcNamed c.func with
 | none=>rfl
 | some f=>show false=(P.goes f || false);rw[Acr h];rfl
theorem topLate_goes:false=Rows.topLateRow.goesBy Tryz.pinned.checked.prog:=A1i topLate_any _ rfl
theorem topLate_main:Tryz.pinned.checked.prog.mainIs=some (true, "af56c85702096af0cbc3ef5361984b843baf6e7da205886e8121c9d6bed6ca94".toList):=by kernel_rfl
theorem topLate_looks:true=Tryz.pinned.checked.prog.looks []:=by kernel_rfl
theorem topLate_wf:Rows.topLateRow.wfByText (OpenSpec.ofChange Rows.topLateSpec)=true:=by kernel_rfl
end Go.Proofs.YtbhffbgbhgjdiaaGreatDoor
