/-
  Parts of the proof: Day S20. Conditions: those that each theorem states.
-/
import Derived.Test.YtbhffbgbhgjdiaaGreatDoorM14
import Derived.Test.YtbhffbgbhgjdiaaGreatDoorGT
set_option linter.unusedSimpArgs false
set_option linter.unusedVariables false
namespace Go.Proofs.YtbhffbgbhgjdiaaGreatDoor
open Go.RowKit
set_option maxRecDepth 100000
def F7:List AV:=[gI 0,gI 31,gI 28,gI 31,gI 30,gI 31,gI 30,gI 31,gI 31,gI 30,gI 31,gI 30,gI 31]
theorem A6b{P:Program}{C:World→Prop}{id t ty n e:Nat}{σ:AS}{hp:Nat→Option A4}{k:AV→Eff→Prop}{parts:List (Nat×Operand)}{cs:List AV}(hk:(aty P t).k=.arr n e)(h1:(aty P t).zero.length=(aty P t).sz∧0<(aty P t).sz∧(aty P t).zero.all (·.oneCell')=true)(h2:0<(aty P e).sz)
  (h3:F8 (fun i=>some (i*(aty P e).sz,(aty P e).sz)) ((aty P t).zero.map .ex) (parts.map fun x=>(x.1,AS.ev σ x.2))=some cs):A7 P C id (.build t parts.toArray) ty σ.ev hp k=k (.agg cs) .none:=by
 rw[Xv,hk]
 dsimp only
 rw[h3]
 exact propext ⟨fun h=>h.2.2,fun h=>⟨h1,h2,h⟩⟩
theorem Bg{C:World→Prop}{id ty:Nat}{σ:AS}{hp:Nat→Option A4}{k:AV→Eff→Prop}:A7 Tryz.prog C id (.build 241 #[(0,.const (.int .i64 0)),(1,.const (.int .i64 31)),(2,.const (.int .i64 28)),(3,.const (.int .i64 31)),(4,.const (.int .i64 30)),(5,.const (.int .i64 31)),(6,.const (.int .i64 30)),(7,.const (.int .i64 31)),(8,.const (.int .i64 31)),(9,.const (.int .i64 30)),(10,.const (.int .i64 31)),(11,.const (.int .i64 30)),(12,.const (.int .i64 31))]) ty σ.ev hp k=k (.agg F7) .none :=
 A6b (parts:=[(0,.const (.int .i64 0)),(1,.const (.int .i64 31)),(2,.const (.int .i64 28)),(3,.const (.int .i64 31)),(4,.const (.int .i64 30)),(5,.const (.int .i64 31)),(6,.const (.int .i64 30)),(7,.const (.int .i64 31)),(8,.const (.int .i64 31)),(9,.const (.int .i64 30)),(10,.const (.int .i64 31)),(11,.const (.int .i64 30)),(12,.const (.int .i64 31))]) (n:=13) (e:=3) (by rw[A2x]) (by rw[A2x];exact⟨rfl,by decide,rfl⟩) (by rw[Az5];decide) (by kernel_rfl)
def C6(x:Int):Bool:=decide (0≤x) && decide (x≤73048)
theorem Gz{x:Int}:C6 x=true↔0≤x∧x≤73048:=by unfold C6;rw[Bool.and_eq_true,decide_eq_true_eq,decide_eq_true_eq]
theorem Abu{x:Int}(h0:0≤x)(h1:x≤73048):C6 x=true:=Gz.2 ⟨h0,h1⟩
theorem Aw(x:Int):Cn 20 [gI x] (.val (.ex (.bool (C6 x)))):=by
 refine cvS Tryz.func20 ?_
 by_cases h1:0≤x
 ·have hr:C6 x=decide (x≤73048):=by unfold C6;rw[decide_eq_true h1,Bool.true_and]
  (repeat' (first|exact trivial|refine stR ?_|((first|refine stp ?_|refine A0 (fun h=>?_) ?_|(refine gw (fun h=>?_) (fun h=>?_)<;>(try (exfalso;omega))))<;>(try (simp (disch:=omega) only[↓Bg,F7,sx,Value.oneCell',↓reduceIte,Nat.reduceAdd,Nat.reduceMul,Nat.reduceEqDiff,Nat.reduceLT,Nat.reduceLeDiff,Int.reduceToNat,Int.reduceEq,Int.reduceLT,Int.reduceLE,Int.reduceNe, *])))))
  all_goals simp only[sxd,z0,p0,Nat.reduceEqDiff,↓reduceIte,Tryz.f20, *]
 ·have hr:C6 x=false:=by unfold C6;rw[decide_eq_false h1,Bool.false_and]
  (repeat' (first|exact trivial|refine stR ?_|((first|refine stp ?_|refine A0 (fun h=>?_) ?_|(refine gw (fun h=>?_) (fun h=>?_)<;>(try (exfalso;omega))))<;>(try (simp (disch:=omega) only[↓Bg,F7,sx,Value.oneCell',↓reduceIte,Nat.reduceAdd,Nat.reduceMul,Nat.reduceEqDiff,Nat.reduceLT,Nat.reduceLeDiff,Int.reduceToNat,Int.reduceEq,Int.reduceLT,Int.reduceLE,Int.reduceNe, *])))))
  all_goals simp only[sxd,z0,p0,Nat.reduceEqDiff,↓reduceIte,Tryz.f20, *]
theorem Be(x:Int):Cn 98 [gI x] (.val (.ex (.bool (C6 x)))):=by
 refine cvS Tryz.func98 ?_
 by_cases h1:0≤x
 ·have hr:C6 x=decide (x≤73048):=by unfold C6;rw[decide_eq_true h1,Bool.true_and]
  (repeat' (first|exact trivial|refine stR ?_|((first|refine stp ?_|refine A0 (fun h=>?_) ?_|(refine gw (fun h=>?_) (fun h=>?_)<;>(try (exfalso;omega))))<;>(try (simp (disch:=omega) only[↓Bg,F7,sx,Value.oneCell',↓reduceIte,Nat.reduceAdd,Nat.reduceMul,Nat.reduceEqDiff,Nat.reduceLT,Nat.reduceLeDiff,Int.reduceToNat,Int.reduceEq,Int.reduceLT,Int.reduceLE,Int.reduceNe, *])))))
  all_goals simp only[sxd,z0,p0,Nat.reduceEqDiff,↓reduceIte,Tryz.f98, *]
 ·have hr:C6 x=false:=by unfold C6;rw[decide_eq_false h1,Bool.false_and]
  (repeat' (first|exact trivial|refine stR ?_|((first|refine stp ?_|refine A0 (fun h=>?_) ?_|(refine gw (fun h=>?_) (fun h=>?_)<;>(try (exfalso;omega))))<;>(try (simp (disch:=omega) only[↓Bg,F7,sx,Value.oneCell',↓reduceIte,Nat.reduceAdd,Nat.reduceMul,Nat.reduceEqDiff,Nat.reduceLT,Nat.reduceLeDiff,Int.reduceToNat,Int.reduceEq,Int.reduceLT,Int.reduceLE,Int.reduceNe, *])))))
  all_goals simp only[sxd,z0,p0,Nat.reduceEqDiff,↓reduceIte,Tryz.f98, *]
theorem Vz{a b:Int}(h:0≤a):a.tmod b=a % b:=Int.tmod_eq_emod_of_nonneg h
theorem A54{a b:Int}(h:0≤a):a.tdiv b=a / b:=Int.tdiv_eq_ediv_of_nonneg h
theorem Wo(y:Int)(h0:0≤y):Cn 170 [gI y] (.val (.ex (.bool (Ng y)))):=by
 have e1:y.tmod 4=y % 4:=Vz h0
 have e2:y.tmod 100=y % 100:=Vz h0
 have e3:y.tmod 400=y % 400:=Vz h0
 refine cvS Tryz.func170 ?_
 (repeat' (first|exact trivial|refine stR ?_|((first|refine stp ?_|refine A0 (fun h=>?_) ?_|(refine gw (fun h=>?_) (fun h=>?_)<;>(try (exfalso;omega))))<;>(try (simp (disch:=omega) only[↓Bg,F7,sx,Value.oneCell',↓reduceIte,Nat.reduceAdd,Nat.reduceMul,Nat.reduceEqDiff,Nat.reduceLT,Nat.reduceLeDiff,Int.reduceToNat,Int.reduceEq,Int.reduceLT,Int.reduceLE,Int.reduceNe, *])))))
 all_goals (try simp only[sxd,z0,p0,Nat.reduceEqDiff,↓reduceIte,Tryz.f170])
 all_goals (simp only[e1,e2,e3] at *;simp [Ng, *])
theorem Aeq(y:Int):Is y 2=if Ng y=true then 29 else 28:=by unfold Is;rw[if_pos rfl]
theorem Q7(y m:Int)(h0:0≤y)(h1:1≤m)(h2:m≤12):Cn 116 [gI y,gI m] (.val (.ex (.int .i64 (Is y m)))):=by
 have hm:m=1∨m=2∨m=3∨m=4∨m=5∨m=6∨m=7∨m=8∨m=9∨m=10∨m=11∨m=12:=by omega
 have hL:=Wo y h0
 rcases hm with rfl|rfl|rfl|rfl|rfl|rfl|rfl|rfl|rfl|rfl|rfl|rfl
 case inr.inl =>
  rw[Aeq]
  cases hl:Ng y with
  | true =>
   rw[hl] at hL
   refine cvS Tryz.func116 ?_
   (repeat' (first|exact trivial|refine stR ?_|((first|refine cv (hL) ?_|refine stp ?_|refine A0 (fun h=>?_) ?_|(refine gw (fun h=>?_) (fun h=>?_)<;>(try (exfalso;omega))))<;>(try (simp (disch:=omega) only[↓Bg,F7,sx,Value.oneCell',↓reduceIte,Nat.reduceAdd,Nat.reduceMul,Nat.reduceEqDiff,Nat.reduceLT,Nat.reduceLeDiff,Int.reduceToNat,Int.reduceEq,Int.reduceLT,Int.reduceLE,Int.reduceNe, *])))))
   all_goals simp only[sxd,z0,p0,Nat.reduceEqDiff,↓reduceIte,Tryz.f116, *]
  | false =>
   rw[hl] at hL
   refine cvS Tryz.func116 ?_
   (repeat' (first|exact trivial|refine stR ?_|((first|refine cv (hL) ?_|refine stp ?_|refine A0 (fun h=>?_) ?_|(refine gw (fun h=>?_) (fun h=>?_)<;>(try (exfalso;omega))))<;>(try (simp (disch:=omega) only[↓Bg,F7,sx,Value.oneCell',↓reduceIte,Nat.reduceAdd,Nat.reduceMul,Nat.reduceEqDiff,Nat.reduceLT,Nat.reduceLeDiff,Int.reduceToNat,Int.reduceEq,Int.reduceLT,Int.reduceLE,Int.reduceNe, *])))))
   all_goals simp only[sxd,z0,p0,Nat.reduceEqDiff,↓reduceIte,Tryz.f116, *]
 all_goals
  refine cvS Tryz.func116 ?_
  (repeat' (first|exact trivial|refine stR ?_|((first|refine stp ?_|refine A0 (fun h=>?_) ?_|(refine gw (fun h=>?_) (fun h=>?_)<;>(try (exfalso;omega))))<;>(try (simp (disch:=omega) only[↓Bg,F7,sx,Value.oneCell',↓reduceIte,Nat.reduceAdd,Nat.reduceMul,Nat.reduceEqDiff,Nat.reduceLT,Nat.reduceLeDiff,Int.reduceToNat,Int.reduceEq,Int.reduceLT,Int.reduceLE,Int.reduceNe, *])))))
  all_goals simp only[sxd,z0,p0,Nat.reduceEqDiff,↓reduceIte,Tryz.f116,Is]
  all_goals rfl
theorem M7(y:Int)(h0:2000≤y)(h1:y≤2200):Cn 117 [gI y] (.val (.ex (.int .i64 (beg y)))):=by
 have e1:(y-2000+3).tdiv 4=(y-2000+3) / 4:=A54 (by omega)
 by_cases h:2100<y
 ·have hr:beg y=365*(y-2000)+((y-2000+3) / 4-1):=by unfold beg;rw[if_pos h];omega
  refine cvS Tryz.func117 ?_
  (repeat' (first|exact trivial|refine stR ?_|((first|refine stp ?_|refine A0 (fun h=>?_) ?_|(refine gw (fun h=>?_) (fun h=>?_)<;>(try (exfalso;omega))))<;>(try (simp (disch:=omega) only[↓Bg,F7,sx,Value.oneCell',↓reduceIte,Nat.reduceAdd,Nat.reduceMul,Nat.reduceEqDiff,Nat.reduceLT,Nat.reduceLeDiff,Int.reduceToNat,Int.reduceEq,Int.reduceLT,Int.reduceLE,Int.reduceNe, *])))))
  all_goals simp only[sxd,z0,p0,Nat.reduceEqDiff,↓reduceIte,Tryz.f117, *]
 ·have hr:beg y=365*(y-2000)+(y-2000+3) / 4:=by unfold beg;rw[if_neg h];omega
  refine cvS Tryz.func117 ?_
  (repeat' (first|exact trivial|refine stR ?_|((first|refine stp ?_|refine A0 (fun h=>?_) ?_|(refine gw (fun h=>?_) (fun h=>?_)<;>(try (exfalso;omega))))<;>(try (simp (disch:=omega) only[↓Bg,F7,sx,Value.oneCell',↓reduceIte,Nat.reduceAdd,Nat.reduceMul,Nat.reduceEqDiff,Nat.reduceLT,Nat.reduceLeDiff,Int.reduceToNat,Int.reduceEq,Int.reduceLT,Int.reduceLE,Int.reduceNe, *])))))
  all_goals simp only[sxd,z0,p0,Nat.reduceEqDiff,↓reduceIte,Tryz.f117, *]
theorem Abc{x:Int}(h0:0≤x)(h1:x≤73048):∃ y m d,A3f x y m d:=by
 have hy:∀ k:Nat,k≤200→x<beg (2000+k)→∃ j:Nat,j<k∧beg (2000+j)≤x∧x<beg (2000+j+1):=by
  intro k
  induction k with
  | zero =>
       intro _ h;have:beg (2000+(0:Nat))=0:=by decide
       omega
  | succ k ih =>
   intro hk h
   rcases Int.lt_or_le x (beg (2000+k)) with h2|h2
   ·obtain⟨j,a,b⟩:=ih (by omega) h2
    exact⟨j,by omega,b⟩
   ·exact⟨k,by omega,h2,by rw[show (2000:Int)+k+1=2000+((k+1:Nat):Int) by omega];exact h⟩
 have hm:∀ (y z:Int) (k:Nat),0≤z→z<cum y k→∃ j:Nat,j<k∧cum y j≤z∧z<cum y (j+1):=by
  intro y z k
  induction k with
  | zero=>intro a h;unfold cum at h;omega
  | succ k ih =>
   intro a h
   rcases Int.lt_or_le z (cum y k) with h2|h2
   ·obtain⟨j,b,c⟩:=ih a h2
    exact⟨j,by omega,c⟩
   ·exact⟨k,by omega,h2,h⟩
 obtain ⟨j, j1, j2, j3⟩ := hy 200 (Nat.le_refl _) (by
  have:beg (2000+(200:Nat))=73049:=by decide
  omega)
 rw[Ku (by omega) (by omega)] at j3
 obtain⟨k,k1,k2,k3⟩:=hm (2000+j) (x-beg (2000+j)) 12 (by omega) (by omega)
 have e:cum (2000+j) (k+1)=cum (2000+j) k+Is (2000+j) ((k:Int)+1):=rfl
 refine⟨2000+j,k+1,x-beg (2000+j)-cum (2000+j) k+1,by omega,by omega,by omega,by omega,by omega,by omega, ?_⟩
 rw[show ((k:Int)+1).toNat-1=k by omega];omega
theorem A65{y:Int}(h:2000≤y):beg y≤366*(y-2000):=by
 unfold beg;split<;>omega
theorem Ai4{y:Int}(h:2000≤y)(h2:y≤2200):0≤beg y∧beg y≤73049:=by
 unfold beg;split<;>omega
theorem Ait{x y m d:Int}(h:A3f x y m d):beg y≤x∧x<beg (y+1)∧x-beg y-cum y (m.toNat-1)=d-1:=by
 have a:=h.e
 have b:=O4 y (m.toNat-1)
 have c:=h.d1
 have e:=Abr (y:=y) h.m1
 have f:=Pm (y:=y) (a:=m.toNat) (b:=12) (by have:=h.m2;omega)
 have g:=Ku h.y1 h.y2
 have i:=h.d2
 omega
theorem Abs(y:Int)(k:Nat)(h:k≤12):0≤cum y k∧cum y k≤366:=by
 have:=Pm (y:=y) (a:=k) (b:=12) h
 rw[Amx] at this
 refine⟨O4 y k, ?_⟩
 split at this<;>omega
theorem Rs{x y m d:Int}(hc:A3f x y m d):Cn 60 [gI x] (.val (.tup [gI y,gI m,gI d])):=by
 have hx:=A6h hc
 have h0:=hx.1
 have h1:=hx.2
 have hb:=Ait hc
 have b1:=hb.1
 have b2:=hb.2.1
 have b3:=hb.2.2
 have y1:=hc.y1
 have y2:=hc.y2
 have m1:=hc.m1
 have m2:=hc.m2
 have d1:=hc.d1
 have d2:=hc.d2
 have c1:=Abs y (m.toNat-1) (by omega)
 have g0:=Ai4 y1 (by omega)
 have hv:C6 x=true:=Abu h0 h1
 have hd:=Aw x
 rw[hv] at hd
 have e1:x.tdiv 366=x / 366:=A54 h0
 have s1:2000+x / 366≤y:=by
  have:=A65 (y:=y+1) (by omega)
  omega
 have s0:0≤x / 366:=by omega
 have hcu:=Lib.hid (fun k (hk:k≤12)=>Abs y k hk)
 have hcd:=Lib.hid d1
 have hm1:=Lib.hid m1
 refine cvS Tryz.func60 ?_
 clear hc hb hx
 (repeat' (first|exact trivial|refine stR ?_|((first|refine cv (hd) ?_|refine stp ?_|refine A0 (fun h=>?_) ?_|(refine gw (fun h=>?_) (fun h=>?_)<;>(try (exfalso;omega))))<;>(try (simp (disch:=omega) only[↓Bg,F7,sx,Value.oneCell',↓reduceIte,Nat.reduceAdd,Nat.reduceMul,Nat.reduceEqDiff,Nat.reduceLT,Nat.reduceLeDiff,Int.reduceToNat,Int.reduceEq,Int.reduceLT,Int.reduceLE,Int.reduceNe, *])))))
 refine A9 (fun n tm hp nx=>∃ Y:Int,n=(y-Y).toNat∧2000≤Y∧Y≤y∧tm 0=gI x∧tm 5=gI Y) _ ⟨2000+x / 366,rfl,by omega,s1,by exact byS,by exact byS⟩ ?_
 rintro n tm hp nx ⟨Y,rfl,Y0,Y1,t0,t5⟩
 by_cases hY:Y<y
 ·have q:=Lib.hid (A0p (y:=Y+1) (z:=y) (by omega) (by omega) (by omega))
  have hB:=M7 (Y+1) (by omega) (by omega)
  generalize beg (Y+1)=B at q hB
  have q2:B≤x:=by have:=q.out;omega
  clear q
  (repeat' (first|exact trivial|refine stR ?_|((first|refine cv (hB) ?_|refine stp ?_|refine A0 (fun h=>?_) ?_|(refine gw (fun h=>?_) (fun h=>?_)<;>(try (exfalso;omega))))<;>(try (simp (disch:=omega) only[↓Bg,F7,sx,Value.oneCell',↓reduceIte,Nat.reduceAdd,Nat.reduceMul,Nat.reduceEqDiff,Nat.reduceLT,Nat.reduceLeDiff,Int.reduceToNat,Int.reduceEq,Int.reduceLT,Int.reduceLE,Int.reduceNe, *])))))
  all_goals exact A3 (y-(Y+1)).toNat (by omega) ⟨Y+1,rfl,by omega,by omega,by exact byS,by exact byS⟩
 ·have hYy:Y=y:=by omega
  subst hYy
  have hB:=M7 (Y+1) (by omega) (by omega)
  have hB2:=M7 Y (by omega) (by omega)
  generalize beg (Y+1)=B at b2 hB
  generalize beg Y=B2 at *
  have q2:¬ (B≤x):=by omega
  have hz0:=Lib.hid (show x-B2=x-B2-cum Y 0 by have:cum Y 0=0:=rfl;omega)
  (repeat' (first|exact trivial|refine stR ?_|((first|refine cv (hB) ?_|refine cv (hB2) ?_|refine stp ?_|refine A0 (fun h=>?_) ?_|(refine gw (fun h=>?_) (fun h=>?_)<;>(try (exfalso;omega))))<;>(try (simp (disch:=omega) only[↓Bg,F7,sx,Value.oneCell',↓reduceIte,Nat.reduceAdd,Nat.reduceMul,Nat.reduceEqDiff,Nat.reduceLT,Nat.reduceLeDiff,Int.reduceToNat,Int.reduceEq,Int.reduceLT,Int.reduceLE,Int.reduceNe, *])))))
  refine A9 (fun n tm hp nx=>∃ (k:Nat) (z:Int),n=m.toNat-k∧k+1≤m.toNat∧Hid (z=x-B2-cum Y k)∧tm 0=gI z∧tm 5=gI Y∧tm 6=.ex (.int .i64 (k+1))) _ ⟨0,x-B2,rfl,by omega,hz0,by exact byS,by exact byS,by exact byS⟩ ?_
  rintro n tm hp nx ⟨k,z,rfl,hk,hz,t0,t5,t6⟩
  have hl:=Q7 Y ((k:Int)+1) (by omega) (by omega) (by omega)
  have em:cum Y (k+1)=cum Y k+Is Y ((k:Int)+1):=rfl
  have ml:=V8 Y ((k:Int)+1)
  have v1:=hcu.out k (by omega)
  have z2:=hz.out
  by_cases hlt:k+1<m.toNat
  ·have v2:=Pm (y:=Y) (a:=k+1) (b:=m.toNat-1) (by omega)
   generalize Is Y ((k:Int)+1)=L at hl em ml
   have q3:L≤z:=by have:=hcd.out;omega
   have q4:0≤z-L:=by omega
   have q5:z≤80000:=by omega
   have hn:=Lib.hid (show z-L=x-B2-cum Y (k+1) by omega)
   clear z2 em v2 v1 c1 b3 b1 b2 q2 hz hcu
   (repeat' (first|exact trivial|refine stR ?_|((first|refine cv (hl) ?_|refine stp ?_|refine A0 (fun h=>?_) ?_|(refine gw (fun h=>?_) (fun h=>?_)<;>(try (exfalso;omega))))<;>(try (simp (disch:=omega) only[↓Bg,F7,sx,Value.oneCell',↓reduceIte,Nat.reduceAdd,Nat.reduceMul,Nat.reduceEqDiff,Nat.reduceLT,Nat.reduceLeDiff,Int.reduceToNat,Int.reduceEq,Int.reduceLT,Int.reduceLE,Int.reduceNe, *])))))
   all_goals exact A3 (m.toNat-(k+1)) (by omega) ⟨k+1,z-L,rfl,by omega,(by first|exact hn),by exact byS,by exact byS,by exact byS⟩
  ·have hkm:(k:Int)+1=m:=by omega
   have hk2:m.toNat-1=k:=by omega
   rw[hk2] at b3 c1
   rw[hkm] at hl ml t6
   have hz3:z=d-1:=by omega
   subst hz3
   generalize Is Y m=L at *
   have q3:¬ (L≤d-1):=by omega
   have q4:d-1+1=d:=by omega
   clear z2 em v1 c1 b3 b1 b2 q2 hz hcu
   (repeat' (first|exact trivial|refine stR ?_|((first|refine cv (hl) ?_|refine stp ?_|refine A0 (fun h=>?_) ?_|(refine gw (fun h=>?_) (fun h=>?_)<;>(try (exfalso;omega))))<;>(try (simp (disch:=omega) only[↓Bg,F7,sx,Value.oneCell',↓reduceIte,Nat.reduceAdd,Nat.reduceMul,Nat.reduceEqDiff,Nat.reduceLT,Nat.reduceLeDiff,Int.reduceToNat,Int.reduceEq,Int.reduceLT,Int.reduceLE,Int.reduceNe, *])))))
   all_goals simp only[sxd,z0,p0,Nat.reduceEqDiff,↓reduceIte,Tryz.f60, *]
theorem Dh(l:List (Int×Int)):(An l).length=l.length:=by simp [An]
theorem Ca{l:List (Int×Int)}{k:Nat}{x:Int×Int}(h:l[k]?=some x):(An l)[k]?=some [gI x.1,gI x.2]:=by rw[An,List.getElem?_map,h];rfl
abbrev B0h(x:Int×Int×Int):AV:=.tup [gI x.1,gI x.2.1,gI x.2.2]
theorem I3(x:Int):∃ z:Int×Int×Int,(C6 x=true→0≤z.1)∧Cn 60 [gI x] (.val (B0h z)):=by
 cases hv:C6 x with
 | true =>
  have hx:0≤x∧x≤73048:=by simpa [C6] using hv
  obtain⟨y,m,d,hc⟩:=Abc hx.1 hx.2
  exact⟨(y,m,d),fun _=>by have:=hc.y1;dsimp only;omega,Rs hc⟩
 | false =>
  refine⟨(0,0,0),(fun h=>by cases h), ?_⟩
  have a1:=Aw x
  refine cvS Tryz.func60 ?_
  (repeat' (first|exact trivial|refine stR ?_|((first|refine cv (a1) ?_|refine stp ?_|refine A0 (fun h=>?_) ?_|(refine gw (fun h=>?_) (fun h=>?_)<;>(try (exfalso;omega))))<;>(try (refine wS ?_)))))
  all_goals simp only[sxd,z0,p0,Nat.reduceEqDiff,↓reduceIte,Tryz.f60, *]
namespace D
theorem A5v(x y:Int):∃ z:Int,I64 z∧Cn 285 [gI x,gI y] (.val (gI z)):=by
 have a1:=Aw x
 have a2:=Aw y
 obtain⟨⟨y1,m1,d1⟩,_,c1⟩:=I3 x
 obtain⟨⟨y2,m2,d2⟩,_,c2⟩:=I3 y
 refine caS gI Tryz.func285 ?_
 (repeat' (first|exact trivial|refine stR ?_|((first|refine cv (a1) ?_|refine cv (a2) ?_|refine cv (c1) ?_|refine cv (c2) ?_|refine stp ?_|refine A0 (fun h=>?_) ?_|(refine gw (fun h=>?_) (fun h=>?_)<;>(try (exfalso;omega))))<;>(try (refine wS ?_)))))
 all_goals (simp only[sxd,z0,p0,Nat.reduceEqDiff,↓reduceIte,Tryz.f285];exact⟨_,rfl,by exact uok⟩)
theorem A5w(b x:Int):∃ z:Int,True∧Cn 254 [gI b,gI x] (.val (gI z)):=by
 have a1:=Aw x
 obtain⟨⟨y1,m1,d1⟩,g1,c1⟩:=I3 x
 dsimp only at g1
 cases hv:C6 x with
 | false =>
  rw[hv] at a1
  refine caS gI Tryz.func254 ?_
  (repeat' (first|exact trivial|refine stR ?_|((first|refine cv (a1) ?_|refine stp ?_|refine A0 (fun h=>?_) ?_|(refine gw (fun h=>?_) (fun h=>?_)<;>(try (exfalso;omega))))<;>(try (refine wS ?_)))))
  all_goals (simp only[sxd,z0,p0,Nat.reduceEqDiff,↓reduceIte,Tryz.f254, *];exact aX)
 | true =>
  obtain⟨t,_,c3⟩:=A5v x (x+1)
  have a2:=Wo y1 (g1 hv)
  have hx:0≤x∧x≤73048:=by simpa [C6] using hv
  obtain⟨h0,h1⟩:=hx
  rw[hv] at a1
  clear hv g1
  refine caS gI Tryz.func254 ?_
  (repeat' (first|exact trivial|refine stR ?_|((first|refine cv (a1) ?_|refine cv (a2) ?_|refine cv (c1) ?_|refine cv (c3) ?_|refine stp ?_|refine A0 (fun h=>?_) ?_|(refine gw (fun h=>?_) (fun h=>?_)<;>(try (exfalso;omega))))<;>(try (refine wS ?_)))))
  all_goals (simp only[sxd,z0,p0,Nat.reduceEqDiff,↓reduceIte,Tryz.f254, *];exact aX)
theorem A50(n:Int)(h:I64 n):∃ z:Int,I64 z∧Cn 281 [gI n] (.val (gI z)):=by
 obtain⟨h0,h1⟩:=h
 refine caS gI Tryz.func281 ?_
 (repeat' (first|exact trivial|refine stR ?_|((first|refine stp ?_|refine A0 (fun h=>?_) ?_|(refine gw (fun h=>?_) (fun h=>?_)<;>(try (exfalso;omega))))<;>(try (refine wS ?_)))))
 all_goals (simp only[sxd,z0,p0,Nat.reduceEqDiff,↓reduceIte,Tryz.f281];exact⟨_,rfl,by unfold I64;(first|omega|(split<;>omega))⟩)
theorem Y5(a b:Int):Cn 308 [.agg [gI a,gI b]] (.val (gI a)):=by
 have key:∃ x:Int,x=a∧Cn 308 [.agg [gI a,gI b]] (.val (gI x)):=by
  refine caS gI Tryz.func308 ?_
  (repeat' (first|exact trivial|refine stR ?_|((first|refine stp ?_|refine A0 (fun h=>?_) ?_|(refine gw (fun h=>?_) (fun h=>?_)<;>(try (exfalso;omega))))<;>(try (refine wS ?_)))))
  all_goals (simp only[sxd,z0,p0,Nat.reduceEqDiff,↓reduceIte,Tryz.f308, *];exact aX)
 obtain⟨x,rfl,h⟩:=key
 exact h
theorem Aob(l:List (Int×Int))(hl:Sz l.length):∃ z:Bool,True∧Cn 307 [.sl (An l),.ex (.func (.func 308) #[] #[])] (.val (gB z)):=by
 unfold Sz at hl
 have q1:=Dh l
 refine caS gB Tryz.func307 ?_
 (repeat' (first|exact trivial|refine stR ?_|((first|refine stp ?_|refine A0 (fun h=>?_) ?_|(refine gw (fun h=>?_) (fun h=>?_)<;>(try (exfalso;omega))))<;>(try (refine wS ?_)))))
 refine A9 (fun n tm hp nx=>∃ k:Nat,n=l.length+1-k∧k≤l.length+1∧1≤k∧tm 0=.sl (An l)∧tm 1=.ex (.func (.func 308) #[] #[])∧tm 5=gI k) (l.length) ⟨1,by omega,by omega,Nat.le_refl _,byS,byS,byS⟩ ?_
 rintro n tm hp nx ⟨k,rfl,hk,hk1,g0,g1,g5⟩
 by_cases hlt:k<l.length
 ·have e1:=Ca (List.getElem?_eq_getElem hlt)
  have e2:=Ca (List.getElem?_eq_getElem (show k-1<l.length by omega))
  have e3:((k:Int)-1).toNat=k-1:=by omega
  have c1:=Y5 l[k].1 l[k].2
  have c2:=Y5 (l[k-1]'(by omega)).1 (l[k-1]'(by omega)).2
  generalize l[k]=x at *
  generalize (l[k-1]'(by omega))=y at *
  (repeat' (first|exact trivial|refine stR ?_|((first|refine cv (c1) ?_|refine cv (c2) ?_|refine stp ?_|refine A0 (fun h=>?_) ?_|(refine gw (fun h=>?_) (fun h=>?_)<;>(try (exfalso;omega))))<;>(try (refine wS ?_)))))
  all_goals first
   | exact A3 (l.length+1-(k+1)) (by omega) ⟨k+1,rfl,by omega,by omega,byS,byS,byS⟩
   | (simp only[sxd,z0,p0,Nat.reduceEqDiff,↓reduceIte,Tryz.f307, *];exact aX)
 ·(repeat' (first|exact trivial|refine stR ?_|((first|refine stp ?_|refine A0 (fun h=>?_) ?_|(refine gw (fun h=>?_) (fun h=>?_)<;>(try (exfalso;omega))))<;>(try (refine wS ?_)))))
  all_goals (simp only[sxd,z0,p0,Nat.reduceEqDiff,↓reduceIte,Tryz.f307, *];exact aX)
theorem Tg(l:List (Int×Int))(hl:Sz l.length):∃ z:Int,True∧Cn 282 [.sl (An l)] (.val (gI z)):=by
 obtain⟨z,_,c1⟩:=Aob l hl
 unfold Sz at hl
 have q1:=Dh l
 refine caS gI Tryz.func282 ?_
 (repeat' (first|exact trivial|refine stR ?_|((first|refine stp ?_|refine A0 (fun h=>?_) ?_|(refine gw (fun h=>?_) (fun h=>?_)<;>(try (exfalso;omega))))<;>(try (refine wS ?_)))))
 ·(simp only[sxd,z0,p0,Nat.reduceEqDiff,↓reduceIte,Tryz.f282, *];exact aX)
 refine A9 (fun n tm hp nx=>∃ k:Nat,n=l.length-k∧k≤l.length∧tm 0=.sl (An l)∧tm 8=.sl (An l)∧tm 9=gI l.length∧tm 10=gI k) (l.length) ⟨0,rfl,Nat.zero_le _,byS,byS,byS,byS⟩ ?_
 rintro n tm hp nx ⟨k,rfl,hk,g0,g8,g9,g10⟩
 by_cases hlt:k<l.length
 ·have e1:=Ca (List.getElem?_eq_getElem hlt)
  generalize l[k]=x at *
  (repeat' (first|exact trivial|refine stR ?_|((first|refine stp ?_|refine A0 (fun h=>?_) ?_|(refine gw (fun h=>?_) (fun h=>?_)<;>(try (exfalso;omega))))<;>(try (refine wS ?_)))))
  all_goals first
   | exact A3 (l.length-(k+1)) (by omega) ⟨k+1,rfl,by omega,byS,byS,byS,byS⟩
   | (simp only[sxd,z0,p0,Nat.reduceEqDiff,↓reduceIte,Tryz.f282, *];exact aX)
 ·by_cases h0:l.length=0
  ·(repeat' (first|exact trivial|refine stR ?_|((first|refine cv (c1) ?_|refine stp ?_|refine A0 (fun h=>?_) ?_|(refine gw (fun h=>?_) (fun h=>?_)<;>(try (exfalso;omega))))<;>(try (refine wS ?_)))))
   all_goals (simp only[sxd,z0,p0,Nat.reduceEqDiff,↓reduceIte,Tryz.f282, *];exact aX)
  ·have e1:=Ca (List.getElem?_eq_getElem (show 0<l.length by omega))
   generalize l[0]=x at *
   (repeat' (first|exact trivial|refine stR ?_|((first|refine cv (c1) ?_|refine stp ?_|refine A0 (fun h=>?_) ?_|(refine gw (fun h=>?_) (fun h=>?_)<;>(try (exfalso;omega))))<;>(try (refine wS ?_)))))
   all_goals (simp only[sxd,z0,p0,Nat.reduceEqDiff,↓reduceIte,Tryz.f282, *];exact aX)
theorem Ahn(l:List (Int×Int))(hl:Sz l.length)(hi:∀ y∈l,I64 y.1∧I64 y.2){n:Int}(hn:I64 n):∃ z:Int,I64 z∧Cn 283 [.sl (An l),gI n] (.val (gI z)):=by
 obtain⟨c,_,c1⟩:=Tg l hl
 obtain⟨s,_,c2⟩:=A50 n hn
 have z0:I64 0:=by unfold I64;omega
 unfold Sz at hl
 have q1:=Dh l
 by_cases hc:c=0
 ·subst hc
  replace hi:=Lib.hid hi
  replace z0:=Lib.hid z0
  clear hn
  refine caS gI Tryz.func283 ?_
  (repeat' (first|exact trivial|refine stR ?_|((first|refine cv (c1) ?_|refine stp ?_|refine A0 (fun h=>?_) ?_|(refine gw (fun h=>?_) (fun h=>?_)<;>(try (exfalso;omega))))<;>(try (refine wS ?_)))))
  refine A9 (fun n' tm hp nx=>∃ (k:Nat) (r:Int),n'=l.length-k∧k≤l.length∧tm 1=gI n∧tm 5=gI r∧tm 11=.sl (An l)∧tm 12=gI l.length∧tm 13=gI k∧Hid (I64 r)) (l.length) ⟨0,0,rfl,Nat.zero_le _,byS,byS,byS,byS,byS,z0⟩ ?_
  rintro n' tm hp nx ⟨k,r,rfl,hk,g1,g5,g11,g12,g13,hr⟩
  by_cases hlt:k<l.length
  ·have e1:=Ca (List.getElem?_eq_getElem hlt)
   have hx:=Lib.hid (hi.out _ (List.getElem_mem hlt)).2
   generalize l[k]=x at *
   (repeat' (first|exact trivial|refine stR ?_|((first|refine cv (c2) ?_|refine stp ?_|refine A0 (fun h=>?_) ?_|(refine gw (fun h=>?_) (fun h=>?_)<;>(try (exfalso;omega))))<;>(try (refine wS ?_)))))
   all_goals first
    | exact A3 (l.length-(k+1)) (by omega) ⟨k+1,_,rfl,by omega,byS,byS,byS,byS,byS,hx⟩
    | exact A3 (l.length-(k+1)) (by omega) ⟨k+1,_,rfl,by omega,byS,byS,byS,byS,byS,hr⟩
  ·(repeat' (first|exact trivial|refine stR ?_|((first|refine stp ?_|refine A0 (fun h=>?_) ?_|(refine gw (fun h=>?_) (fun h=>?_)<;>(try (exfalso;omega))))<;>(try (refine wS ?_)))))
   all_goals (simp only[sxd,p0,Nat.reduceEqDiff,↓reduceIte,Tryz.f283, *];exact⟨_,rfl,hr.out⟩)
 ·clear hi hn c2
  refine caS gI Tryz.func283 ?_
  (repeat' (first|exact trivial|refine stR ?_|((first|refine cv (c1) ?_|refine stp ?_|refine A0 (fun h=>?_) ?_|(refine gw (fun h=>?_) (fun h=>?_)<;>(try (exfalso;omega))))<;>(try (refine wS ?_)))))
  all_goals (simp only[sxd,p0,Nat.reduceEqDiff,↓reduceIte,Tryz.f283, *];exact⟨_,rfl,z0⟩)
end D
end Go.Proofs.YtbhffbgbhgjdiaaGreatDoor
