/-
  Parts of the proof: S12 S13 S14 S15. Conditions: those that each theorem states.
-/
import Derived.Test.YtbhffbgbhgjdiaaGreatDoorM10
import Derived.Test.YtbhffbgbhgjdiaaGreatDoorM9
import Derived.Test.YtbhffbgbhgjdiaaGreatDoorMul
import Derived.Laws.Externs
import Derived.Shelf.Spec.BitsCarry
import Derived.Lib.Tables
set_option linter.unusedSimpArgs false
set_option linter.unusedVariables false
namespace Go.Proofs.YtbhffbgbhgjdiaaGreatDoor
open Go.RowKit
set_option maxRecDepth 100000
def bkZ:List AV:=[.ex (.slice none 0 0),.ex (.slice none 0 0),.ex (.slice none 0 0),gI 0,gI 0,gI 0,gI 0,gI 0,gI 0,gI 0,gI 0,gI 0,gI 0,gI 0,gI 0,gI 0,gI 0,.ex (.slice none 0 0),.ex (.slice none 0 0),.ex (.slice none 0 0),.ex (.slice none 0 0),.ex (.slice none 0 0)]
def bkR(b:BkV)(j:List EntV)(n:Int):List AV:=if n=0 then bkC b (Ab j) else bkZ.map z0
theorem A3o{hp:Nat→Option A4}{x:List AV}(h:x.all p0=true):Ij hp x=some (x.map z0,[]):=by
 induction x with
 | nil=>rfl
 | cons u us ih =>
  simp only[List.all_cons,Bool.and_eq_true] at h
  obtain⟨h1,h2⟩:=h
  have:cl1 hp u=some (z0 u,[]):=by cases u<;>simp_all [cl1,p0]
  simp [Ij,this,ih h2]
theorem Kx{hp:Nat→Option A4}{x:List AV}{n:Int}(h:x.all p0=true):clR hp (.tup [.agg x,gI n])=some (.tup [.agg (x.map z0),gI n],[]):=by
 simp [clR,cls,cl,A3o h,cl1,p0,z0]
theorem Iz{hp:Nat→Option A4}{nx:Nat}{n:Int}{x:List AV}(hn:¬ n=0)(h3:hp 3=some ⟨41,[[gI n]],true⟩)(h2:hp 2=some ⟨33,[x],true⟩)(h22:x.length=22)(hx:3<nx) :
  Oj Tryz.prog CtxP 27 [.pt 3 0 0,.pt 2 0 0,.pt 0 0 0] hp nx (fun _ h _=>h 3=some ⟨41,[[gI n]],true⟩∧h 2=some ⟨33,[bkZ],true⟩):=by
 refine Pj base Tryz.func27 rfl rfl (by kernel_rfl) (Nat.le_of_ble_eq_true rfl) ?_
 show awp Tryz.prog CtxP _ _ ⟨tmI [.pt 3 0 0,.pt 2 0 0,.pt 0 0 0],hp,nx⟩
 have hd:List.drop 22 x=[]:=List.drop_eq_nil_of_le (Nat.le_of_eq h22)
 (repeat' (first|exact trivial|refine stR ?_|((first|refine stp ?_|refine A0 (fun h=>?_) ?_|(refine gw (fun h=>?_) (fun h=>?_)<;>(try (exfalso;omega))))<;>(try (refine wS ?_)))))
 all_goals (unfold C1;first|exact⟨by first|assumption|exact byQ,by first|rfl|exact byQ⟩|exact rfl)
theorem A0g{hp:Nat→Option A4}{nx:Nat}{b:BkV}{j k:List (List AV)}(h3:hp 3=some ⟨41,[[gI 0]],true⟩)(h2:hp 2=some ⟨33,[bkC b j],true⟩)(h0:hp 0=some ⟨33,[bkC b k],true⟩)(hx:3<nx)
  (hl:j.length=k.length+1) (hk:k.length≤5000) :
  Oj Tryz.prog CtxP 27 [.pt 3 0 0,.pt 2 0 0,.pt 0 0 0] hp nx (fun _ h _=>h=hp):=by
 refine Pj base Tryz.func27 rfl rfl (by kernel_rfl) (Nat.le_of_ble_eq_true rfl) ?_
 show awp Tryz.prog CtxP _ _ ⟨tmI [.pt 3 0 0,.pt 2 0 0,.pt 0 0 0],hp,nx⟩
 unfold bkC at h2 h0
 (repeat' (first|exact trivial|refine stR ?_|((first|refine stp ?_|refine A0 (fun h=>?_) ?_|(refine gw (fun h=>?_) (fun h=>?_)<;>(try (exfalso;omega))))<;>(try (refine wS ?_)))))
 all_goals (unfold C1;exact rfl)
theorem Ws{b:BkV}{j:List (List AV)}{e:EntV}{n:Int}(hn:¬ n=0)(c1:Cn 28 [.agg (Al e)] (.val (gI n))) :
  ConI Tryz.prog CtxP 8 [.agg (bkC b j),.agg (Al e)] (fun _=>none) 0 (fun u h _=>∃ ids,clR h u=some (.tup [.agg (bkZ.map z0),gI n],ids)):=by
 refine J7 base Tryz.func8 ⟨⟨_,_,rfl,rfl⟩,rfl,rfl,⟨_,rfl,rfl,rfl⟩,rfl,by kernel_rfl,by kernel_rfl,fun d hd=>by cases hd;decide⟩ (by kernel_rfl) (Nat.le_of_ble_eq_true rfl) ?_
 show awp Tryz.prog CtxP _ _ ⟨tmI [.agg (bkC b j),.agg (Al e)],fun _=>none,0⟩
 unfold bkC Al at *
 refine Hw ?_
 (refine wS ?_)
 refine⟨rfl,(fun h=>by cases h),_,_,rfl, ?_⟩
 show awp Tryz.prog CtxP _ _ ⟨_,_,_⟩
 simp only[AS.put,Eff.md,Eff.app,AS.ev]
 (repeat' (first|exact trivial|refine stR ?_|((first|refine cv (c1) ?_|refine stp ?_|refine A0 (fun h=>?_) ?_|(refine gw (fun h=>?_) (fun h=>?_)<;>(try (exfalso;omega))))<;>(try (refine wS ?_)))))
 refine⟨_,Iz hn byQ byQ rfl (by omega), ?_⟩
 rintro u h' n' ⟨q3,q2⟩
 unfold C1
 simp (disch:=omega) only[sx,sxd,z0,p0,↓reduceIte,Nat.reduceEqDiff,B1,Tryz.f8, *]
 exact⟨_,_,rfl,rfl,⟨by decide,by decide⟩,_,_,rfl,rfl,_,Kx rfl⟩
theorem Aa4{b:BkV}{j:List (List AV)}{e fe:EntV}{n:Int}(hn:n=12)(c1:Cn 28 [.agg (Al e)] (.val (gI 0)))(c2:Cn 29 [.sl j,gS e.key] (.val (.tup [.agg (Al fe),gB true]))) :
  ConI Tryz.prog CtxP 8 [.agg (bkC b j),.agg (Al e)] (fun _=>none) 0 (fun u h _=>∃ ids,clR h u=some (.tup [.agg (bkZ.map z0),gI n],ids)):=by
 subst hn
 refine J7 base Tryz.func8 ⟨⟨_,_,rfl,rfl⟩,rfl,rfl,⟨_,rfl,rfl,rfl⟩,rfl,by kernel_rfl,by kernel_rfl,fun d hd=>by cases hd;decide⟩ (by kernel_rfl) (Nat.le_of_ble_eq_true rfl) ?_
 show awp Tryz.prog CtxP _ _ ⟨tmI [.agg (bkC b j),.agg (Al e)],fun _=>none,0⟩
 unfold bkC Al at *
 refine Hw ?_
 (refine wS ?_)
 refine⟨rfl,(fun h=>by cases h),_,_,rfl, ?_⟩
 show awp Tryz.prog CtxP _ _ ⟨_,_,_⟩
 simp only[AS.put,Eff.md,Eff.app,AS.ev]
 (repeat' (first|exact trivial|refine stR ?_|((first|refine cv (c1) ?_|refine cv (c2) ?_|refine stp ?_|refine A0 (fun h=>?_) ?_|(refine gw (fun h=>?_) (fun h=>?_)<;>(try (exfalso;omega))))<;>(try (refine wS ?_)))))
 refine⟨_,Iz (n:=12) (by decide) byQ byQ rfl (by omega), ?_⟩
 rintro u h' n' ⟨q3,q2⟩
 unfold C1
 simp (disch:=omega) only[sx,sxd,z0,p0,↓reduceIte,Nat.reduceEqDiff,B1,Tryz.f8, *]
 exact⟨_,_,rfl,rfl,⟨by decide,by decide⟩,_,_,rfl,rfl,_,Kx rfl⟩
theorem A5p{b:BkV}{j:List (List AV)}{e fe:EntV}{n:Int}(hn:¬ n=0)(c1:Cn 28 [.agg (Al e)] (.val (gI 0)))(c2:Cn 29 [.sl j,gS e.key] (.val (.tup [.agg (Al fe),gB false])))
  (c3:Cn 30 [.agg (bkC b j),.agg (Al e)] (.val (gI n))) :
  ConI Tryz.prog CtxP 8 [.agg (bkC b j),.agg (Al e)] (fun _=>none) 0 (fun u h _=>∃ ids,clR h u=some (.tup [.agg (bkZ.map z0),gI n],ids)):=by
 refine J7 base Tryz.func8 ⟨⟨_,_,rfl,rfl⟩,rfl,rfl,⟨_,rfl,rfl,rfl⟩,rfl,by kernel_rfl,by kernel_rfl,fun d hd=>by cases hd;decide⟩ (by kernel_rfl) (Nat.le_of_ble_eq_true rfl) ?_
 show awp Tryz.prog CtxP _ _ ⟨tmI [.agg (bkC b j),.agg (Al e)],fun _=>none,0⟩
 unfold bkC Al at *
 refine Hw ?_
 (refine wS ?_)
 refine⟨rfl,(fun h=>by cases h),_,_,rfl, ?_⟩
 show awp Tryz.prog CtxP _ _ ⟨_,_,_⟩
 simp only[AS.put,Eff.md,Eff.app,AS.ev]
 (repeat' (first|exact trivial|refine stR ?_|((first|refine cv (c1) ?_|refine cv (c2) ?_|refine cv (c3) ?_|refine stp ?_|refine A0 (fun h=>?_) ?_|(refine gw (fun h=>?_) (fun h=>?_)<;>(try (exfalso;omega))))<;>(try (refine wS ?_)))))
 refine⟨_,Iz hn byQ byQ rfl (by omega), ?_⟩
 rintro u h' n' ⟨q3,q2⟩
 unfold C1
 simp (disch:=omega) only[sx,sxd,z0,p0,↓reduceIte,Nat.reduceEqDiff,B1,Tryz.f8, *]
 exact⟨_,_,rfl,rfl,⟨by decide,by decide⟩,_,_,rfl,rfl,_,Kx rfl⟩
theorem A5o{b:BkV}{j k:List (List AV)}{e fe:EntV}{n:Int}(hn:¬ n=0)(c1:Cn 28 [.agg (Al e)] (.val (gI 0)))(c2:Cn 29 [.sl j,gS e.key] (.val (.tup [.agg (Al fe),gB false])))
  (c3:Cn 30 [.agg (bkC b j),.agg (Al e)] (.val (gI 0))) (c4:Cn 31 [.agg (bkC b j),.agg (Al e)] (.val (gI 0)))
  (c5:Cn 32 [.sl j,.agg (Al e)] (.val (.tup [.sl k,gI n]))) :
  ConI Tryz.prog CtxP 8 [.agg (bkC b j),.agg (Al e)] (fun _=>none) 0 (fun u h _=>∃ ids,clR h u=some (.tup [.agg (bkZ.map z0),gI n],ids)):=by
 refine J7 base Tryz.func8 ⟨⟨_,_,rfl,rfl⟩,rfl,rfl,⟨_,rfl,rfl,rfl⟩,rfl,by kernel_rfl,by kernel_rfl,fun d hd=>by cases hd;decide⟩ (by kernel_rfl) (Nat.le_of_ble_eq_true rfl) ?_
 show awp Tryz.prog CtxP _ _ ⟨tmI [.agg (bkC b j),.agg (Al e)],fun _=>none,0⟩
 unfold bkC Al at *
 refine Hw ?_
 (refine wS ?_)
 refine⟨rfl,(fun h=>by cases h),_,_,rfl, ?_⟩
 show awp Tryz.prog CtxP _ _ ⟨_,_,_⟩
 simp only[AS.put,Eff.md,Eff.app,AS.ev]
 (repeat' (first|exact trivial|refine stR ?_|((first|refine cv (c1) ?_|refine cv (c2) ?_|refine cv (c3) ?_|refine cv (c4) ?_|refine cv (c5) ?_|refine stp ?_|refine A0 (fun h=>?_) ?_|(refine gw (fun h=>?_) (fun h=>?_)<;>(try (exfalso;omega))))<;>(try (refine wS ?_)))))
 refine⟨_,Iz hn byQ byQ rfl (by omega), ?_⟩
 rintro u h' n' ⟨q3,q2⟩
 unfold C1
 simp (disch:=omega) only[sx,sxd,z0,p0,↓reduceIte,Nat.reduceEqDiff,B1,Tryz.f8, *]
 exact⟨_,_,rfl,rfl,⟨by decide,by decide⟩,_,_,rfl,rfl,_,Kx rfl⟩
theorem A5n{b:BkV}{j k:List (List AV)}{e fe:EntV}(hl:k.length=j.length+1)(hj:j.length≤5000)(c1:Cn 28 [.agg (Al e)] (.val (gI 0)))(c2:Cn 29 [.sl j,gS e.key] (.val (.tup [.agg (Al fe),gB false])))
  (c3:Cn 30 [.agg (bkC b j),.agg (Al e)] (.val (gI 0))) (c4:Cn 31 [.agg (bkC b j),.agg (Al e)] (.val (gI 0)))
  (c5:Cn 32 [.sl j,.agg (Al e)] (.val (.tup [.sl k,gI 0]))) :
  ConI Tryz.prog CtxP 8 [.agg (bkC b j),.agg (Al e)] (fun _=>none) 0 (fun u h _=>∃ ids,clR h u=some (.tup [.agg (bkC b k),gI 0],ids)):=by
 refine J7 base Tryz.func8 ⟨⟨_,_,rfl,rfl⟩,rfl,rfl,⟨_,rfl,rfl,rfl⟩,rfl,by kernel_rfl,by kernel_rfl,fun d hd=>by cases hd;decide⟩ (by kernel_rfl) (Nat.le_of_ble_eq_true rfl) ?_
 show awp Tryz.prog CtxP _ _ ⟨tmI [.agg (bkC b j),.agg (Al e)],fun _=>none,0⟩
 unfold bkC Al at *
 refine Hw ?_
 (refine wS ?_)
 refine⟨rfl,(fun h=>by cases h),_,_,rfl, ?_⟩
 show awp Tryz.prog CtxP _ _ ⟨_,_,_⟩
 simp only[AS.put,Eff.md,Eff.app,AS.ev]
 (repeat' (first|exact trivial|refine stR ?_|((first|refine cv (c1) ?_|refine cv (c2) ?_|refine cv (c3) ?_|refine cv (c4) ?_|refine cv (c5) ?_|refine stp ?_|refine A0 (fun h=>?_) ?_|(refine gw (fun h=>?_) (fun h=>?_)<;>(try (exfalso;omega))))<;>(try (refine wS ?_)))))
 refine⟨_,A0g (b:=b) (j:=k) (k:=j) byQ byQ byQ (by omega) hl hj, ?_⟩
 rintro u h' n' rfl
 unfold C1
 simp (disch:=omega) only[sx,sxd,z0,p0,↓reduceIte,Nat.reduceEqDiff,B1,Tryz.f8]
 exact⟨_,_,rfl,rfl,⟨by decide,Nat.le_refl 22⟩,_,_,rfl,rfl,_,Kx rfl⟩
theorem Nz{b:BkV}(hb:b.Ok)(j:List EntV)(hj:JOk j)(e:EntV)(ho:e.Ok)(ha:e.auth=1):∃ (l:List EntV) (n:Int),(n=0→e.Good∧j.length≤4096∧∃ c,U64 c∧l=j++[Co e j.length c])∧Cn 8 [.agg (bkC b (Ab j)),.agg (Al e)] (.val (.tup [.agg (bkR b l n),gI n])):=by
 obtain⟨n1,g1,c1⟩:=D.Nb e ho
 by_cases h1:n1=0
 ·obtain⟨⟨fe,fb⟩,_,c2⟩:=D.Yf j hj.n e.key
  cases fb with
  | true=>exact⟨[],12,(fun h=>by cases h),Ds (Aa4 (fe:=fe) rfl (h1▸c1) c2)⟩
  | false =>
   obtain⟨n3,_,c3⟩:=D.Ahl hb (Ab j) e ho
   by_cases h3:n3=0
   ·obtain⟨⟨l,n5⟩,h5,c5⟩:=D.Ad7 j hj e ho
    have c4:=D.Wb b (Ab j) e ha
    dsimp only at h5 c5
    subst h1 h3
    rcases h5 with⟨rfl,q1,q2,q3⟩|⟨q1,rfl⟩
    ·refine⟨l,0,fun _=>⟨q1,q2,q3⟩, ?_⟩
     obtain⟨c,_,rfl⟩:=q3
     refine Ds (A5n (fe:=fe) ?_ ?_ c1 c2 c3 c4 c5)
     ·rw[Bt,Bt,List.length_append];rfl
     ·rw[Bt];omega
    ·refine⟨[],n5,fun h=>absurd h q1, ?_⟩
     have:=Ds (A5o (fe:=fe) q1 c1 c2 c3 c4 c5)
     unfold bkR
     rwa [if_neg q1]
   ·refine⟨[],n3,fun h=>absurd h h3, ?_⟩
    have:=Ds (A5p (fe:=fe) h3 (h1▸c1) c2 c3)
    unfold bkR
    rwa [if_neg h3]
 ·refine⟨[],n1,fun h=>absurd h h1, ?_⟩
  have:=Ds (Ws h1 (j:=Ab j) (b:=b) c1)
  unfold bkR
  rwa [if_neg h1]
structure OkW(x:Int×Int):Prop where
 a:I64 x.1
 b:U64 x.2
structure OkS(x:Int×Int):Prop where
 a:U64 x.1
 b:U64 x.2
abbrev gW(x:Int×Int):AV:=.agg [gI x.1,.ex (.int .u64 x.2)]
abbrev gT(x:Int×Int):AV:=.agg [.ex (.int .u64 x.1),.ex (.int .u64 x.2)]
abbrev gUU(x:Int×Int):AV:=.tup [.ex (.int .u64 x.1),.ex (.int .u64 x.2)]
abbrev gWI(x:(Int×Int)×Int):AV:=.tup [gW x.1,gI x.2]
abbrev gTB(x:(Int×Int)×Bool):AV:=.tup [gT x.1,gB x.2]
abbrev gTU(x:(Int×Int)×Int):AV:=.tup [gT x.1,.ex (.int .u64 x.2)]
theorem Zp(n:Int):U64 (n % 18446744073709551616):=by unfold U64;omega
theorem Im(n:Int):I64 (wrap64 n):=by unfold I64 wrap64;omega
theorem Lr(n:Int):U64 (IntKind.u64.wrap n):=by rw[IntKind.wrap_u64];exact Zp n
theorem Sn(n:Int):I64 (IntKind.i64.wrap n):=by rw[IntKind.wrap_i64];unfold I64;omega
theorem uok{p:Prop}(h:p:=by first|exact Lr _|exact Zp _|exact Sn _|exact Im _|assumption|exact OkW.a ‹_›|exact OkW.b ‹_›|exact OkS.a ‹_›|exact OkS.b ‹_›|(simp only[U64,I64] at *;omega)):p:=h
theorem Zq(n:Int):0≤IntKind.u64.wrap n:=(Lr n).1
theorem J2{x y c:Int}(hx:0≤x:=by first|omega|exact Zq _)(hy:0≤y:=by first|omega|exact Zq _)(hc:0≤c:=by first|omega|exact Zq _)(hc1:c≤1:=by omega):A3e Tryz.prog 211 [.int .u64 x,.int .u64 y,.int .u64 c] [.int .u64 ((x+y+c) % 18446744073709551616),.int .u64 ((x+y+c) / 18446744073709551616)]:=by
 intro w
 have h1:=run_callFunc_extern (P:=Tryz.prog) (f:=211) (fn:=Tryz.f211) (e:=add64Entry) Tryz.func211 (by kernel_rfl) rfl (by kernel_rfl) (by kernel_rfl) #[.int .u64 x,.int .u64 y,.int .u64 c] w
 have h2:=run_add64 (P:=Tryz.prog) x y c hx hy hc hc1 w
 rw[h2] at h1
 exact h1
theorem Lw{x y:Int}(hx:U64 x)(hy:U64 y):∃ z:Int×Int,OkS z∧Cn 217 [gU x,gU y] (.val (gUU z)):=by
 obtain⟨a,rfl⟩:=Int.eq_ofNat_of_zero_le hx.1
 obtain⟨b,rfl⟩:=Int.eq_ofNat_of_zero_le hy.1
 have h1:=hx.2
 have h2:=hy.2
 refine⟨((a*b / 18446744073709551616:Nat),(a*b % 18446744073709551616:Nat)),⟨?_, ?_⟩,⟨_,Tryz.func217,rfl,rfl⟩,fun M w args _ hw ha=>?_⟩
 ·have:a*b<18446744073709551616*18446744073709551616:=Nat.mul_lt_mul'' (by omega) (by omega)
  have:=Nat.div_lt_of_lt_mul this
  unfold U64
  dsimp only
  omega
 ·unfold U64
  dsimp only
  omega
 ·rw[Vr (vs:=[.int .u64 a,.int .u64 b]) ha]
  refine (Tryz.bits_Mul64 a b (by omega) (by omega) w).mono ?_
  rintro e w' ⟨rfl,rfl⟩
  refine⟨_,rfl, ?_,Below.refl _ _⟩
  simp only[Rep]
  exact⟨[.int .u64 (a*b / 18446744073709551616:Nat),.int .u64 (a*b % 18446744073709551616:Nat)],rfl,RepL.cons (Aq _ rfl) (RepL.cons (Aq _ rfl) RepL.nil)⟩
namespace D
theorem A0m{n:Int}(h:I64 n):∃ x:Int,U64 x∧Cn 218 [gI n] (.val (gU x)):=by
 obtain⟨h1,h2⟩:=h
 refine caS gU Tryz.func218 ?_
 (repeat' (first|exact trivial|refine stR ?_|((first|refine stp ?_|refine A0 (fun h=>?_) ?_|(refine gw (fun h=>?_) (fun h=>?_)<;>(try (exfalso;omega))))<;>(try (refine wS ?_)))))
 all_goals (simp only[sxd,z0,p0,Nat.reduceEqDiff,↓reduceIte,Tryz.f218, *];exact⟨_,rfl,by first|exact Lr _|(unfold U64;omega)⟩)
theorem Mt{x:Int×Int}(h:OkW x):∃ x':Int×Int,OkW x'∧Cn 219 [gW x] (.val (gW x')):=by
 obtain⟨a,b⟩:=x
 obtain⟨⟨h1,h2⟩,h3,h4⟩:=h
 dsimp only at h1 h2 h3 h4
 refine caS gW Tryz.func219 ?_
 (repeat' (first|exact trivial|refine stR ?_|((first|refine Gw (by first|rfl|(simp only[List.map_cons,List.map_nil, *];done)) (J2) (by intro r hr;simp only[List.mem_cons,List.not_mem_nil,or_false] at hr;rcases hr with rfl|rfl<;>rfl) ?_|refine stp ?_|refine A0 (fun h=>?_) ?_|(refine gw (fun h=>?_) (fun h=>?_)<;>(try (exfalso;omega))))<;>(try (refine wS ?_)))))
 all_goals (refine rc1 rfl ?_)
 all_goals exact⟨(_,_),rfl,⟨by exact uok,by exact uok⟩⟩
theorem A0e{x y:Int}(hx:I64 x)(hy:I64 y):∃ z:Int×Int,OkW z∧Cn 169 [gI x,gI y] (.val (gW z)):=by
 obtain⟨a,ha,c1⟩:=A0m hx
 obtain⟨b,hb,c2⟩:=A0m hy
 obtain⟨⟨m1,m2⟩,⟨p1,p2⟩,c3⟩:=Lw ha hb
 obtain⟨⟨n1,n2⟩,⟨q1,q2⟩,c4⟩:=Mt (x:=(IntKind.i64.wrap m1,m2)) ⟨Sn _,p2⟩
 dsimp only at *
 clear ha hb
 refine caS gW Tryz.func169 ?_
 (repeat' (first|exact trivial|refine stR ?_|((first|refine cv (c1) ?_|refine cv (c2) ?_|refine cv (c3) ?_|refine cv (c4) ?_|refine stp ?_|refine A0 (fun h=>?_) ?_|(refine gw (fun h=>?_) (fun h=>?_)<;>(try (exfalso;omega))))<;>(try (refine wS ?_)))))
 all_goals (refine rc1 rfl ?_)
 all_goals exact⟨(_,_),rfl,⟨by exact uok,by exact uok⟩⟩
theorem N8{x:Int×Int}(h:OkW x):∃ z:Int×Int,OkS z∧Cn 256 [gW x] (.val (gT z)):=by
 obtain⟨⟨n1,n2⟩,⟨q1,q2⟩,c4⟩:=Mt h
 obtain⟨a,b⟩:=x
 obtain⟨p1,p2⟩:=h
 dsimp only at *
 refine caS gT Tryz.func256 ?_
 (repeat' (first|exact trivial|refine stR ?_|((first|refine cv (c4) ?_|refine stp ?_|refine A0 (fun h=>?_) ?_|(refine gw (fun h=>?_) (fun h=>?_)<;>(try (exfalso;omega))))<;>(try (refine wS ?_)))))
 all_goals (refine rc1 rfl ?_)
 all_goals exact⟨(_,_),rfl,⟨by exact uok,by exact uok⟩⟩
theorem Zm{x:Int×Int}(h:OkS x){u v:Int}(hu:U64 u)(hv:U64 v):∃ z:(Int×Int)×Bool,OkS z.1∧Cn 258 [gT x,gU u,gU v] (.val (gTB z)):=by
 obtain⟨a,b⟩:=x
 obtain⟨p1,p2⟩:=h
 dsimp only at p1 p2
 obtain⟨⟨m1,m2⟩,⟨g1,g2⟩,c1⟩:=Lw p2 hu
 obtain⟨⟨n1,n2⟩,⟨g3,g4⟩,c2⟩:=Lw p1 hu
 dsimp only at *
 have i1:=g1.1
 have i2:=g2.1
 have i3:=g3.1
 have i4:=g4.1
 have i5:=hv.1
 refine caS gTB Tryz.func258 ?_
 (repeat' (first|exact trivial|refine stR ?_|((first|refine cv (c1) ?_|refine cv (c2) ?_|refine Gw (by first|rfl|(simp only[List.map_cons,List.map_nil, *];done)) (J2) (by intro r hr;simp only[List.mem_cons,List.not_mem_nil,or_false] at hr;rcases hr with rfl|rfl<;>rfl) ?_|refine stp ?_|refine A0 (fun h=>?_) ?_|(refine gw (fun h=>?_) (fun h=>?_)<;>(try (exfalso;omega))))<;>(try (refine wS ?_)))))
 all_goals (refine rc3 rfl ?_)
 all_goals exact⟨((_,_),_),rfl,⟨by exact uok,by exact uok⟩⟩
theorem Ha{x:Int×Int}(h:OkS x)(s:Bool):∃ z:(Int×Int)×Int,OkW z.1∧Cn 259 [gT x,gB s] (.val (gWI z)):=by
 obtain⟨a,b⟩:=x
 obtain⟨p1,p2⟩:=h
 dsimp only at p1 p2
 obtain⟨⟨n1,n2⟩,⟨q1,q2⟩,c4⟩:=Mt (x:=(IntKind.i64.wrap a,b)) ⟨Sn _,p2⟩
 dsimp only at *
 refine caS gWI Tryz.func259 ?_
 (repeat' (first|exact trivial|refine stR ?_|((first|refine cv (c4) ?_|refine stp ?_|refine A0 (fun h=>?_) ?_|(refine gw (fun h=>?_) (fun h=>?_)<;>(try (exfalso;omega))))<;>(try (refine wS ?_)))))
 all_goals (refine rc3 rfl ?_)
 all_goals exact⟨((_,_),_),rfl,⟨by exact uok,by exact uok⟩⟩
end D
theorem A9g(a b a' b':Int):Ik Tryz.prog 10 50 [gI a,.ex (.int .u64 b)] [gI a',.ex (.int .u64 b')]=some (decide (a=a') && (decide (b=b') && true)):=by kernel_rfl
theorem A58(a b a' b':Int):Hy Tryz.prog 50 [gI a,.ex (.int .u64 b)] [gI a',.ex (.int .u64 b')] (decide (a=a') && (decide (b=b') && true)) :=
 Ia (d:=10) (by decide) Tryz.underlying50 (by kernel_rfl) (A9g a b a' b')
theorem A8y(a b a' b':Int):Ik Tryz.prog 10 328 [.ex (.int .u64 a),.ex (.int .u64 b)] [.ex (.int .u64 a'),.ex (.int .u64 b')]=some (decide (a=a') && (decide (b=b') && true)):=by kernel_rfl
theorem size_eq(a b a' b':Int):Hy Tryz.prog 328 [.ex (.int .u64 a),.ex (.int .u64 b)] [.ex (.int .u64 a'),.ex (.int .u64 b')] (decide (a=a') && (decide (b=b') && true)) :=
 Ia (d:=10) (by decide) Tryz.underlying328 (by kernel_rfl) (A8y a b a' b')
theorem Apg{n:Int}(h:I64 n):I64 (n.fdiv (2 ^ min 63 IntKind.i64.bits)):=by
 have e:(2:Int) ^ min 63 IntKind.i64.bits=9223372036854775808:=by decide
 rw[e,Int.fdiv_eq_ediv_of_nonneg _ (by decide)]
 unfold I64 at *
 omega
namespace D
theorem Og{x y:Int×Int}(h:OkW x)(k:OkW y):∃ z:(Int×Int)×Int,OkW z.1∧Cn 163 [gW x,gW y] (.val (gWI z)):=by
 obtain⟨a,b⟩:=x
 obtain⟨c,d⟩:=y
 obtain⟨p1,p2⟩:=h
 obtain⟨p3,p4⟩:=k
 dsimp only at *
 have i1:=p2.1
 have i2:=p4.1
 refine caS gWI Tryz.func163 ?_
 (repeat' (first|exact trivial|refine stR ?_|((first|refine Gw (by first|rfl|(simp only[List.map_cons,List.map_nil, *];done)) (J2) (by intro r hr;simp only[List.mem_cons,List.not_mem_nil,or_false] at hr;rcases hr with rfl|rfl<;>rfl) ?_|refine stp ?_|refine A0 (fun h=>?_) ?_|(refine gw (fun h=>?_) (fun h=>?_)<;>(try (exfalso;omega))))<;>(try (refine wS ?_)))))
 all_goals (refine rc3 rfl ?_)
 all_goals exact⟨((_,_),_),rfl,⟨by exact uok,by exact uok⟩⟩
theorem Amq{n:Int}(h:I64 n):∃ z:Int×Int,OkW z∧Cn 214 [gI n] (.val (gW z)):=by
 have hf:=Apg h
 refine caS gW Tryz.func214 ?_
 (repeat' (first|exact trivial|refine stR ?_|((first|refine stp ?_|refine A0 (fun h=>?_) ?_|(refine gw (fun h=>?_) (fun h=>?_)<;>(try (exfalso;omega))))<;>(try (refine wS ?_)))))
 all_goals (refine rc1 rfl ?_)
 all_goals exact⟨(_,_),rfl,⟨by exact uok,by exact uok⟩⟩
theorem A9w{x:Int×Int}(h:OkW x):∃ z:Int×Bool,I64 z.1∧Cn 216 [gW x] (.val (gIB z)):=by
 obtain⟨a,b⟩:=x
 obtain⟨p1,p2⟩:=h
 dsimp only at *
 obtain⟨⟨n1,n2⟩,⟨q1,q2⟩,c4⟩:=Amq (n:=IntKind.i64.wrap b) (Sn _)
 dsimp only at *
 refine caS gIB Tryz.func216 ?_
 (repeat' (first|exact trivial|refine stR ?_|((first|refine cv (c4) ?_|refine Ow (A58 _ _ _ _) ?_|refine stp ?_|refine A0 (fun h=>?_) ?_|(refine gw (fun h=>?_) (fun h=>?_)<;>(try (exfalso;omega))))<;>(try (refine wS ?_)))))
 all_goals (simp only[sxd,z0,p0,Nat.reduceEqDiff,↓reduceIte,Tryz.f216, *];exact⟨(_,_),rfl,by exact uok⟩)
theorem A9q{x y:Int×Int}(h:OkW x)(k:OkW y):∃ z:Int,True∧Cn 164 [gW x,gW y] (.val (gI z)):=by
 obtain⟨a,b⟩:=x
 obtain⟨c,d⟩:=y
 refine caS gI Tryz.func164 ?_
 (repeat' (first|exact trivial|refine stR ?_|((first|refine Ow (A58 _ _ _ _) ?_|refine stp ?_|refine A0 (fun h=>?_) ?_|(refine gw (fun h=>?_) (fun h=>?_)<;>(try (exfalso;omega))))<;>(try (refine wS ?_)))))
 all_goals (simp only[sxd,z0,p0,Nat.reduceEqDiff,↓reduceIte,Tryz.f164, *];exact aX)
theorem Aa5{x:Int×Int}(h:OkW x){n:Int}(hn:I64 n):∃ z:(Int×Int)×Int,OkW z.1∧Cn 284 [gW x,gI n] (.val (gWI z)):=by
 obtain⟨⟨a1,a2⟩,g1,c1⟩:=N8 h
 obtain⟨u,g2,c2⟩:=A0m hn
 obtain⟨⟨⟨t1,t2⟩,tb⟩,g3,c3⟩:=Zm g1 g2 (v:=0) (by unfold U64;omega)
 obtain⟨⟨⟨s1,s2⟩,sc⟩,⟨g5,g6⟩,c4⟩:=Ha g3 (!(decide (t1=0) && decide (t2=0)))
 obtain⟨⟨⟨r1,r2⟩,rc⟩,⟨g7,g8⟩,c5⟩:=Ha g3 false
 obtain⟨a,b⟩:=x
 clear h hn g1 g2 g3
 dsimp only at *
 cases tb
 ·refine caS gWI Tryz.func284 ?_
  (repeat' (first|exact trivial|refine stR ?_|((first|refine cv (c1) ?_|refine cv (c2) ?_|refine cv (c3) ?_|refine stp ?_|refine A0 (fun h=>?_) ?_|(refine gw (fun h=>?_) (fun h=>?_)<;>(try (exfalso;omega))))<;>(try (refine wS ?_)))))
  all_goals (refine rc3 rfl ?_)
  all_goals exact⟨((_,_),_),rfl,⟨by exact uok,by exact uok⟩⟩
 ·refine caS gWI Tryz.func284 ?_
  (repeat' (first|exact trivial|refine stR ?_|((first|refine cv (c1) ?_|refine cv (c2) ?_|refine cv (c3) ?_|refine cv (c4) ?_|refine cv (c5) ?_|refine Ow (size_eq _ _ _ _) ?_|refine stp ?_|refine A0 (fun h=>?_) ?_|(refine gw (fun h=>?_) (fun h=>?_)<;>(try (exfalso;omega))))<;>(try (refine wS ?_)))))
  all_goals (refine rc3 rfl ?_)
  all_goals exact⟨((_,_),_),rfl,⟨by exact uok,by exact uok⟩⟩
end D
theorem A92{x y:Int}(hx:0≤x:=by first|omega|exact Zq _)(hy:0≤y:=by first|omega|exact Zq _):∃ z:Int×Int,OkS z∧A3e Tryz.prog 255 [.int .u64 x,.int .u64 y,.int .u64 0] [.int .u64 z.1,.int .u64 z.2]:=by
 obtain⟨X,rfl⟩:=Int.eq_ofNat_of_zero_le hx
 obtain⟨Y,rfl⟩:=Int.eq_ofNat_of_zero_le hy
 refine⟨((((X+18446744073709551616-Y-0) % 18446744073709551616:Nat):Int),((if X<Y+0 then 1 else 0:Nat):Int)),⟨by unfold U64;dsimp only;omega,by unfold U64;dsimp only;split<;>omega⟩,fun w=>?_⟩
 have h1:=run_callFunc_extern (P:=Tryz.prog) (f:=255) (fn:=Tryz.f255) (e:=sub64Entry) Tryz.func255 (by kernel_rfl) rfl (by kernel_rfl) (by kernel_rfl) #[.int .u64 X,.int .u64 Y,.int .u64 0] w
 have h2:=run_sub64 (P:=Tryz.prog) X Y 0 (by decide) w
 rw[show ((0:Nat):Int)=0 from rfl] at h2
 rw[h2] at h1
 exact h1
theorem Aej:(List.range 256).all (fun n=>match Ma Lib.len8tab n with|some b=>decide (b.toNat≤8) && decide (n<2 ^ b.toNat)|none=>false)=true:=by kernel_rfl
theorem Al4{n:Nat}(h:n<256):∃ b,Ma Lib.len8tab n=some b∧b.toNat≤8∧n<2 ^ b.toNat:=by
 have:=List.all_eq_true.1 Aej n (List.mem_range.2 h)
 split at this
 ·rename_i b hb
  simp only[Bool.and_eq_true,decide_eq_true_eq] at this
  exact⟨b,hb,this.1,this.2⟩
 ·cases this
theorem Arf{α:Type}{x:Option α}{b:α}{k:α→Prop}(h:x=some b)(hk:k b):opt x k:=by rw[h];exact hk
theorem An1(x:Int):x.fdiv (2 ^ min 32 IntKind.u64.bits)=x / 4294967296:=by
 rw[show (2:Int) ^ min 32 IntKind.u64.bits=4294967296 by decide,Int.fdiv_eq_ediv_of_nonneg _ (by decide)]
theorem Awx(x:Int):x.fdiv (2 ^ min 16 IntKind.u64.bits)=x / 65536:=by
 rw[show (2:Int) ^ min 16 IntKind.u64.bits=65536 by decide,Int.fdiv_eq_ediv_of_nonneg _ (by decide)]
theorem B0i(x:Int):x.fdiv (2 ^ min 8 IntKind.u64.bits)=x / 256:=by
 rw[show (2:Int) ^ min 8 IntKind.u64.bits=256 by decide,Int.fdiv_eq_ediv_of_nonneg _ (by decide)]
theorem Aqu{n:Nat}{k:UInt8→Prop}(h:n<256)(hk:∀ b:UInt8,b.toNat≤8→n<2 ^ b.toNat→k b):opt (Ma Lib.len8tab n) k:=by
 obtain⟨b,hb,h1,h2⟩:=Al4 h
 exact Arf hb (hk b h1 h2)
def Avl(x n:Int):Prop:=∃ k:Nat,n=k∧k≤64∧x<2 ^ k∧(1≤x→(2:Int) ^ k≤256*x)
theorem G9{x y n:Int}(c C:Nat){b:Nat}(hn:n=(c:Int)+b)(hC:(2:Int) ^ c=C)(hc:c≤56)(hb:b≤8)(hy:y.toNat<2 ^ b)(h0:0≤y)(hx:y*C≤x∧x<(y+1)*C)(hl:(C:Int)≤x∨c=0):Avl x n:=by
 subst hn
 have e8:(2:Nat) ^ b≤2 ^ 8:=Nat.pow_le_pow_right (by decide) hb
 have ey:y+1≤((2 ^ b:Nat):Int):=by omega
 have hp:(2:Int) ^ (c+b)=C*((2 ^ b:Nat):Int):=by rw[Int.pow_add,hC,Int.natCast_pow];rfl
 have h3:(y+1)*C≤((2 ^ b:Nat):Int)*C:=Int.mul_le_mul_of_nonneg_right ey (by omega)
 have h4:(C:Int)*((2 ^ b:Nat):Int)≤C*256:=Int.mul_le_mul_of_nonneg_left (by omega) (by omega)
 refine⟨c+b,by simp,by omega, ?_,fun h1=>?_⟩
 ·rw[hp,Int.mul_comm];omega
 ·rw[hp]
  rcases hl with hl|rfl
  ·omega
  ·have:(C:Int)=1:=by rw[← hC];rfl
   rw[this] at h4 ⊢
   omega
namespace D
theorem A9z{x:Int}(h:U64 x):∃ n:Int,Avl x n∧Cn 273 [gU x] (.val (gI n)):=by
 obtain⟨h0,h1⟩:=h
 have r1:=An1
 have r2:=Awx
 have r3:=B0i
 refine caS gI Tryz.func273 ?_
 (repeat' (first|exact trivial|refine stR ?_|((first|refine stp ?_|refine A0 (fun h=>?_) ?_|(refine gw (fun h=>?_) (fun h=>?_)<;>(try (exfalso;omega))))<;>(try (refine wS ?_)))))
 all_goals
  refine Aqu (by omega) (fun b b8 bl=>?_)
  clear r1 r2 r3
 all_goals (refine wS ?_)
 all_goals (repeat' (first|exact trivial|refine stR ?_|((first|refine stp ?_|refine A0 (fun h=>?_) ?_|(refine gw (fun h=>?_) (fun h=>?_)<;>(try (exfalso;omega))))<;>(try (refine wS ?_)))))
 all_goals simp only[sxd,z0,p0,Nat.reduceEqDiff,↓reduceIte,Tryz.f273]
 all_goals first
  | exact⟨_,rfl,G9 56 72057594037927936 (by omega) (by decide) (by omega) b8 bl (by omega) ⟨by omega,by omega⟩ (.inl (by omega))⟩
  | exact⟨_,rfl,G9 48 281474976710656 (by omega) (by decide) (by omega) b8 bl (by omega) ⟨by omega,by omega⟩ (.inl (by omega))⟩
  | exact⟨_,rfl,G9 40 1099511627776 (by omega) (by decide) (by omega) b8 bl (by omega) ⟨by omega,by omega⟩ (.inl (by omega))⟩
  | exact⟨_,rfl,G9 32 4294967296 (by omega) (by decide) (by omega) b8 bl (by omega) ⟨by omega,by omega⟩ (.inl (by omega))⟩
  | exact⟨_,rfl,G9 24 16777216 (by omega) (by decide) (by omega) b8 bl (by omega) ⟨by omega,by omega⟩ (.inl (by omega))⟩
  | exact⟨_,rfl,G9 16 65536 (by omega) (by decide) (by omega) b8 bl (by omega) ⟨by omega,by omega⟩ (.inl (by omega))⟩
  | exact⟨_,rfl,G9 8 256 (by omega) (by decide) (by omega) b8 bl (by omega) ⟨by omega,by omega⟩ (.inl (by omega))⟩
  | exact⟨_,rfl,G9 0 1 (by omega) (by decide) (by omega) b8 bl (by omega) ⟨by omega,by omega⟩ (.inr rfl)⟩
theorem Ahk{x:Int}(h:U64 x)(hx:1≤x):∃ s:Int,(∃ k:Nat,s=k∧k≤64∧x*2 ^ k<18446744073709551616∧72057594037927936≤x*2 ^ k)∧Cn 309 [gU x] (.val (gI s)):=by
 obtain⟨n,⟨k,rfl,hk,h1,h2⟩,hc⟩:=A9z h
 refine caS gI Tryz.func309 ?_
 (repeat' (first|exact trivial|refine stR ?_|((first|refine cv (hc) ?_|refine stp ?_|refine A0 (fun h=>?_) ?_|(refine gw (fun h=>?_) (fun h=>?_)<;>(try (exfalso;omega))))<;>(try (refine wS ?_)))))
 all_goals (simp only[sxd,z0,p0,Nat.reduceEqDiff,↓reduceIte,Tryz.f309];refine⟨_,rfl,64-k,by omega,by omega, ?_⟩)
 have e:(2:Int) ^ k*2 ^ (64-k)=18446744073709551616:=by rw[← Int.pow_add,show k+(64-k)=64 by omega];rfl
 have p:(0:Int)<2 ^ (64-k):=Int.pow_pos (by decide)
 have h3:=Int.mul_lt_mul_of_pos_right h1 p
 have h4:=Int.mul_le_mul_of_nonneg_right (h2 hx) (Int.le_of_lt p)
 rw[e] at h3 h4
 rw[Int.mul_assoc] at h4
 constructor<;>omega
end D
end Go.Proofs.YtbhffbgbhgjdiaaGreatDoor
