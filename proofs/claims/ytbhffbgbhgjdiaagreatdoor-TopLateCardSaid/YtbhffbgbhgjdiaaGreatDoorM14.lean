/-
  Parts of the proof: S18 S19 Ch1 Ch3 Ch2. Conditions: those that each theorem states.
-/
import Derived.Test.YtbhffbgbhgjdiaaGreatDoorM13
import Derived.Test.YtbhffbgbhgjdiaaGreatDoorGEng2
import Derived.Test.YtbhffbgbhgjdiaaGreatDoorM1
set_option linter.unusedSimpArgs false
set_option linter.unusedVariables false
namespace Go.Proofs.YtbhffbgbhgjdiaaGreatDoor
open Go.RowKit
set_option maxRecDepth 100000
def Ay7:XO:=fun _ _ _ _=>none
theorem Cg{C:World→Prop}:Er Tryz.prog C Ay7:=by
 intro f hp args id r ef h
 cases h
noncomputable def Jl:XE:=⟨Tryz.prog,Acq,Ay7,fun _=>false⟩
theorem Aer{a:Int}(b r n:Int){mode:Int}(h:mode=1∨mode=2∨mode=3∨mode=4):∃ m:Int,I64 m∧Cn 215 [gW (a,b),gI r,gI n,gI mode] (.val (gI m)):=by
 have z:I64 0:=by unfold I64;omega
 have o:I64 1:=by unfold I64;omega
 rcases a with (_|m)|(_|m)<;>rcases h with rfl|rfl|rfl|rfl
 ·exact⟨0,z,Av (E:=Jl) (n:=50) base Bk Cg (by kernel_rfl)⟩
 ·exact⟨1,o,Av (E:=Jl) (n:=50) base Bk Cg (by kernel_rfl)⟩
 ·exact⟨0,z,Av (E:=Jl) (n:=50) base Bk Cg (by kernel_rfl)⟩
 ·exact⟨1,o,Av (E:=Jl) (n:=50) base Bk Cg (by kernel_rfl)⟩
 ·exact⟨0,z,Av (E:=Jl) (n:=50) base Bk Cg (by kernel_rfl)⟩
 ·exact⟨1,o,Av (E:=Jl) (n:=50) base Bk Cg (by kernel_rfl)⟩
 ·exact⟨0,z,Av (E:=Jl) (n:=50) base Bk Cg (by kernel_rfl)⟩
 ·exact⟨1,o,Av (E:=Jl) (n:=50) base Bk Cg (by kernel_rfl)⟩
 ·exact⟨1,o,Av (E:=Jl) (n:=50) base Bk Cg (by kernel_rfl)⟩
 ·exact⟨0,z,Av (E:=Jl) (n:=50) base Bk Cg (by kernel_rfl)⟩
 ·exact⟨0,z,Av (E:=Jl) (n:=50) base Bk Cg (by kernel_rfl)⟩
 ·exact⟨1,o,Av (E:=Jl) (n:=50) base Bk Cg (by kernel_rfl)⟩
 ·exact⟨1,o,Av (E:=Jl) (n:=50) base Bk Cg (by kernel_rfl)⟩
 ·exact⟨0,z,Av (E:=Jl) (n:=50) base Bk Cg (by kernel_rfl)⟩
 ·exact⟨0,z,Av (E:=Jl) (n:=50) base Bk Cg (by kernel_rfl)⟩
 ·exact⟨1,o,Av (E:=Jl) (n:=50) base Bk Cg (by kernel_rfl)⟩
namespace D
theorem A7x{x:Int×Int}(h:OkW x)(r n:Int){mode:Int}(hm:5≤mode):∃ m:Int,I64 m∧Cn 215 [gW x,gI r,gI n,gI mode] (.val (gI m)):=by
 obtain⟨a,b⟩:=x
 have z:I64 0:=by unfold I64;omega
 have o:I64 1:=by unfold I64;omega
 refine caS gI Tryz.func215 ?_
 (repeat' (first|exact trivial|refine stR ?_|((first|refine stp ?_|refine A0 (fun h=>?_) ?_|(refine gw (fun h=>?_) (fun h=>?_)<;>(try (exfalso;omega))))<;>(try (refine wS ?_)))))
 all_goals (simp only[sxd,z0,p0,Nat.reduceEqDiff,↓reduceIte,Tryz.f215, *];exact⟨_,rfl,by exact uok⟩)
theorem Al9{x:Int×Int}(h:OkW x)(r n:Int){mode:Int}(h1:1≤mode):∃ m:Int,I64 m∧Cn 215 [gW x,gI r,gI n,gI mode] (.val (gI m)):=by
 by_cases hm:5≤mode
 ·exact A7x h r n hm
 ·exact Aer (a:=x.1) x.2 r n (by omega)
theorem Zr(n:Int):∃ b:Bool,(b=true→-1000000000000≤n∧n≤1000000000000)∧Cn 166 [gI n] (.val (gB b)):=by
 refine caS gB Tryz.func166 ?_
 (repeat' (first|exact trivial|refine stR ?_|((first|refine stp ?_|refine A0 (fun h=>?_) ?_|(refine gw (fun h=>?_) (fun h=>?_)<;>(try (exfalso;omega))))<;>(try (refine wS ?_)))))
 all_goals (simp only[sxd,z0,p0,Nat.reduceEqDiff,↓reduceIte,Tryz.f166, *];exact⟨_,rfl,by simp;try omega⟩)
theorem Wx(n:Int):∃ b:Bool,(b=true→1≤n∧n≤6)∧Cn 167 [gI n] (.val (gB b)):=by
 refine caS gB Tryz.func167 ?_
 (repeat' (first|exact trivial|refine stR ?_|((first|refine stp ?_|refine A0 (fun h=>?_) ?_|(refine gw (fun h=>?_) (fun h=>?_)<;>(try (exfalso;omega))))<;>(try (refine wS ?_)))))
 all_goals (simp only[sxd,z0,p0,Nat.reduceEqDiff,↓reduceIte,Tryz.f167, *];exact⟨_,rfl,by simp;try omega⟩)
end D
theorem stn{a b:Prop}(h:b)(e:b→a:=by first|exact Hw|exact fun h=>vbS h|exact A57|exact Kr|exact Kt|exact J5|exact J6|exact fun h=>stS h):a:=e h
def Ge(i:Nat):Code→Option (Array Oper)
 | .region j ops _=>bif Nat.beq i j then some ops else none
 | .seq a b=>match Ge i a with
  | some x=>some x
  | none=>Ge i b
 | .cond _ a b=>match Ge i a with
  | some x=>some x
  | none=>Ge i b
 | .block _ c|.loop c|.scope c=>Ge i c
 | _=>none
noncomputable def opsD:Array Oper:=((Tryz.f168.body.bind (Ge 5)).getD #[])
noncomputable def vsD(q1 q2 r n mode mr w1 w2 s1 s2 cc:Int):Nat→AV:=fun i =>
 [AV.agg [gI q1,.ex (.int .u64 q2)],.agg [gI q1,.ex (.int .u64 q2)],gI r,gI n,gI mode,gI mr,.agg [gI w1,.ex (.int .u64 w2)],.tup [.agg [gI s1,.ex (.int .u64 s2)],gI cc],.tup [.agg [gI s1,.ex (.int .u64 s2)],gI cc],.agg [gI s1,.ex (.int .u64 s2)],gI cc,.junk].getD i .und
theorem A16{C:World→Prop}(Bs:Dj Tryz.prog C){tm:Nat→AV}{hp:Nat→Option A4}{nx b:Nat}{q1 q2 r n mode mr w1 w2 s1 s2 cc:Int}{Q:Exit→AS→Prop}(t8:tm 8=.pt b 0 0)(hb:hp b=some ⟨50,[[gI q1,.ex (.int .u64 q2)]],true⟩)(t9:tm 9=gI r)(t1:tm 1=gI n)(t2:tm 2=gI mode)
  (a2:Con Tryz.prog C 215 [.agg [gI q1,.ex (.int .u64 q2)],gI r,gI n,gI mode] (.val (gI mr)))
  (a3:Con Tryz.prog C 214 [gI mr] (.val (.agg [gI w1,.ex (.int .u64 w2)])))
  (a4:Con Tryz.prog C 163 [.agg [gI q1,.ex (.int .u64 q2)],.agg [gI w1,.ex (.int .u64 w2)]] (.val (.tup [.agg [gI s1,.ex (.int .u64 s2)],gI cc])))
  (hq:∀ tm':Nat→AV,tm' 8=.pt b 0 0→Q .normal ⟨tm',upd hp b (some ⟨50,[[gI s1,.ex (.int .u64 s2)]],true⟩),nx+12⟩) :
  awp Tryz.prog C (.region 5 opsD true) Q ⟨tm,hp,nx⟩:=by
 have hO:Ord opsD opsD.size:=Fs (by kernel_rfl)
 refine Bx Bs (vs:=vsD q1 q2 r n mode mr w1 w2 s1 s2 cc) (ch:=[11]) (H:=fun c=>bif Nat.beq c 0 then hp else upd hp b (some ⟨50,[[gI s1,.ex (.int .u64 s2)]],true⟩)) (B:=fun _=>nx) hO ?_ ?_
 ·refine⟨rfl,rfl,fun _ _=>Nat.le_refl _, ?_,by simp, ?_, ?_, ?_, ?_⟩
  ·intro h hh
   simp only[List.mem_singleton] at hh
   subst hh
   exact Nat.le_of_ble_eq_true (by kernel_rfl)
  ·intro m h h' hm hm'
   cases m with
   | zero=>simp at hm'
   | succ m=>simp at hm
  ·intro o ho
   have:(opsD.toList.all fun o=>o.guard.isNone)=true:=by kernel_rfl
   have:=List.all_eq_true.1 this o ho
   simpa using this
  ·intro m h o hm ho
   cases m with
   | succ m=>simp at hm
   | zero =>
    simp only[List.getElem?_cons_zero,Option.some.injEq] at hm
    subst hm
    cases ho
    refine .inl ⟨.set b ⟨50,[[gI s1,.ex (.int .u64 s2)]],true⟩, ?_,rfl,rfl⟩
    have e8:A8 opsD opsD.size (vsD q1 q2 r n mode mr w1 w2 s1 s2 cc) tm (fun q=>decide (q<11)) 8=.pt b 0 0:=by rw[← t8];kernel_rfl
    have e38:A8 opsD opsD.size (vsD q1 q2 r n mode mr w1 w2 s1 s2 cc) tm (fun q=>decide (q<11)) 38=vsD q1 q2 r n mode mr w1 w2 s1 s2 cc 9:=by kernel_rfl
    generalize hT:A8 opsD opsD.size (vsD q1 q2 r n mode mr w1 w2 s1 s2 cc) tm (fun q=>decide (q<11))=T at *
    show A7 Tryz.prog C (nx+11) (.store 50 (.tmp 8) (.tmp 38)) 0 (AS.ev ⟨T,fun _=>none,0⟩) hp _
    have v9:vsD q1 q2 r n mode mr w1 w2 s1 s2 cc 9=.agg [gI s1,.ex (.int .u64 s2)]:=rfl
    rw[v9] at e38
    simp (disch:=omega) only[sx,Value.oneCell',↓reduceIte,Nat.reduceAdd,Nat.reduceMul,Nat.reduceEqDiff,Nat.reduceLT,Nat.reduceLeDiff,Int.reduceToNat,Int.reduceEq,Int.reduceLT,Int.reduceLE,Int.reduceNe,e8,e38,hb]
    rfl
  ·intro i o ho hni c hc hcc
   have hi:i<12:=(Array.getElem?_eq_some_iff.1 ho).1
   have hms:=Ao (ops:=opsD) opsD.toList [] (fun j=>by simp) (fun j i hb=>by simp at hb)
   have hc0:i≠10→c=0:=by
    intro h10
    have hr : Reach opsD 11 i := hms 11 i (by
     have hall:∀ j:Fin 12,(j:Nat)≠10→(j:Nat)≠11→((Ym [] opsD.toList).getD 11 0).testBit (j:Nat)=true:=by decide +kernel
     exact hall ⟨i,hi⟩ h10 (by simpa using hni))
    have:=(hcc 0 11 rfl).2 hr
    omega
   have hi':i=0∨i=1∨i=2∨i=3∨i=4∨i=5∨i=6∨i=7∨i=8∨i=9∨i=10:=by
    have:i≠11:=by simpa using hni
    omega
   clear hi
   rcases hi' with rfl|rfl|rfl|rfl|rfl|rfl|rfl|rfl|rfl|rfl|rfl
   ·have hc:=hc0 (by decide)
    subst hc
    cases ho
    refine .inl ?_
    have e8:A8 opsD opsD.size (vsD q1 q2 r n mode mr w1 w2 s1 s2 cc) tm (fun q=>decide (q<0)) 8=.pt b 0 0:=by rw[← t8];kernel_rfl
    generalize hT:A8 opsD opsD.size (vsD q1 q2 r n mode mr w1 w2 s1 s2 cc) tm (fun q=>decide (q<0))=T at *
    show A7 Tryz.prog C (nx+0) (.load 50 (.tmp 8)) _ (AS.ev ⟨T,fun _=>none,0⟩) hp _
    simp (disch:=omega) only[sx,Value.oneCell',↓reduceIte,Nat.reduceAdd,Nat.reduceMul,Nat.reduceEqDiff,Nat.reduceLT,Nat.reduceLeDiff,Int.reduceToNat,Int.reduceEq,Int.reduceLT,Int.reduceLE,Int.reduceNe,e8,hb]
    exact⟨rfl,.inl trivial⟩
   ·have hc:=hc0 (by decide)
    subst hc
    cases ho
    refine .inl ?_
    have e8:A8 opsD opsD.size (vsD q1 q2 r n mode mr w1 w2 s1 s2 cc) tm (fun q=>decide (q<1)) 8=.pt b 0 0:=by rw[← t8];kernel_rfl
    generalize hT:A8 opsD opsD.size (vsD q1 q2 r n mode mr w1 w2 s1 s2 cc) tm (fun q=>decide (q<1))=T at *
    show A7 Tryz.prog C (nx+1) (.load 50 (.tmp 8)) _ (AS.ev ⟨T,fun _=>none,0⟩) hp _
    simp (disch:=omega) only[sx,Value.oneCell',↓reduceIte,Nat.reduceAdd,Nat.reduceMul,Nat.reduceEqDiff,Nat.reduceLT,Nat.reduceLeDiff,Int.reduceToNat,Int.reduceEq,Int.reduceLT,Int.reduceLE,Int.reduceNe,e8,hb]
    exact⟨rfl,.inl trivial⟩
   ·have hc:=hc0 (by decide)
    subst hc
    cases ho
    refine .inl ?_
    have e9:A8 opsD opsD.size (vsD q1 q2 r n mode mr w1 w2 s1 s2 cc) tm (fun q=>decide (q<2)) 9=gI r:=by rw[← t9];kernel_rfl
    generalize hT:A8 opsD opsD.size (vsD q1 q2 r n mode mr w1 w2 s1 s2 cc) tm (fun q=>decide (q<2))=T at *
    show A7 Tryz.prog C (nx+2) (.move (.tmp 9)) _ (AS.ev ⟨T,fun _=>none,0⟩) hp _
    simp (disch:=omega) only[sx,Value.oneCell',↓reduceIte,Nat.reduceAdd,Nat.reduceMul,Nat.reduceEqDiff,Nat.reduceLT,Nat.reduceLeDiff,Int.reduceToNat,Int.reduceEq,Int.reduceLT,Int.reduceLE,Int.reduceNe,e9,hb]
    exact⟨rfl,.inl trivial⟩
   ·have hc:=hc0 (by decide)
    subst hc
    cases ho
    refine .inl ?_
    have e1:A8 opsD opsD.size (vsD q1 q2 r n mode mr w1 w2 s1 s2 cc) tm (fun q=>decide (q<3)) 1=gI n:=by rw[← t1];kernel_rfl
    generalize hT:A8 opsD opsD.size (vsD q1 q2 r n mode mr w1 w2 s1 s2 cc) tm (fun q=>decide (q<3))=T at *
    show A7 Tryz.prog C (nx+3) (.move (.tmp 1)) _ (AS.ev ⟨T,fun _=>none,0⟩) hp _
    simp (disch:=omega) only[sx,Value.oneCell',↓reduceIte,Nat.reduceAdd,Nat.reduceMul,Nat.reduceEqDiff,Nat.reduceLT,Nat.reduceLeDiff,Int.reduceToNat,Int.reduceEq,Int.reduceLT,Int.reduceLE,Int.reduceNe,e1,hb]
    exact⟨rfl,.inl trivial⟩
   ·have hc:=hc0 (by decide)
    subst hc
    cases ho
    refine .inl ?_
    have e2:A8 opsD opsD.size (vsD q1 q2 r n mode mr w1 w2 s1 s2 cc) tm (fun q=>decide (q<4)) 2=gI mode:=by rw[← t2];kernel_rfl
    generalize hT:A8 opsD opsD.size (vsD q1 q2 r n mode mr w1 w2 s1 s2 cc) tm (fun q=>decide (q<4))=T at *
    show A7 Tryz.prog C (nx+4) (.move (.tmp 2)) _ (AS.ev ⟨T,fun _=>none,0⟩) hp _
    simp (disch:=omega) only[sx,Value.oneCell',↓reduceIte,Nat.reduceAdd,Nat.reduceMul,Nat.reduceEqDiff,Nat.reduceLT,Nat.reduceLeDiff,Int.reduceToNat,Int.reduceEq,Int.reduceLT,Int.reduceLE,Int.reduceNe,e2,hb]
    exact⟨rfl,.inl trivial⟩
   ·have hc:=hc0 (by decide)
    subst hc
    cases ho
    refine .inl ?_
    have e31:A8 opsD opsD.size (vsD q1 q2 r n mode mr w1 w2 s1 s2 cc) tm (fun q=>decide (q<5)) 31=vsD q1 q2 r n mode mr w1 w2 s1 s2 cc 1:=by kernel_rfl
    have e32:A8 opsD opsD.size (vsD q1 q2 r n mode mr w1 w2 s1 s2 cc) tm (fun q=>decide (q<5)) 32=vsD q1 q2 r n mode mr w1 w2 s1 s2 cc 2:=by kernel_rfl
    have e33:A8 opsD opsD.size (vsD q1 q2 r n mode mr w1 w2 s1 s2 cc) tm (fun q=>decide (q<5)) 33=vsD q1 q2 r n mode mr w1 w2 s1 s2 cc 3:=by kernel_rfl
    have e34:A8 opsD opsD.size (vsD q1 q2 r n mode mr w1 w2 s1 s2 cc) tm (fun q=>decide (q<5)) 34=vsD q1 q2 r n mode mr w1 w2 s1 s2 cc 4:=by kernel_rfl
    generalize hT:A8 opsD opsD.size (vsD q1 q2 r n mode mr w1 w2 s1 s2 cc) tm (fun q=>decide (q<5))=T at *
    have v1:vsD q1 q2 r n mode mr w1 w2 s1 s2 cc 1=.agg [gI q1,.ex (.int .u64 q2)]:=rfl
    rw[v1] at e31
    have v2:vsD q1 q2 r n mode mr w1 w2 s1 s2 cc 2=gI r:=rfl
    rw[v2] at e32
    have v3:vsD q1 q2 r n mode mr w1 w2 s1 s2 cc 3=gI n:=rfl
    rw[v3] at e33
    have v4:vsD q1 q2 r n mode mr w1 w2 s1 s2 cc 4=gI mode:=rfl
    rw[v4] at e34
    show A7 Tryz.prog C (nx+5) (.call ⟨.value (.func 215),#[.tmp 31,.tmp 32,.tmp 33,.tmp 34],#[50,3,3,3]⟩) _ (AS.ev ⟨T,fun _=>none,0⟩) hp _
    simp (disch:=omega) only[sx,Value.oneCell',↓reduceIte,Nat.reduceAdd,Nat.reduceMul,Nat.reduceEqDiff,Nat.reduceLT,Nat.reduceLeDiff,Int.reduceToNat,Int.reduceEq,Int.reduceLT,Int.reduceLE,Int.reduceNe,e31,e32,e33,e34]
    refine Dl byA (a2) ?_
    exact⟨rfl,by first|exact .inl rfl|exact .inr rfl|simp⟩
   ·have hc:=hc0 (by decide)
    subst hc
    cases ho
    refine .inl ?_
    have e35:A8 opsD opsD.size (vsD q1 q2 r n mode mr w1 w2 s1 s2 cc) tm (fun q=>decide (q<6)) 35=vsD q1 q2 r n mode mr w1 w2 s1 s2 cc 5:=by kernel_rfl
    generalize hT:A8 opsD opsD.size (vsD q1 q2 r n mode mr w1 w2 s1 s2 cc) tm (fun q=>decide (q<6))=T at *
    have v5:vsD q1 q2 r n mode mr w1 w2 s1 s2 cc 5=gI mr:=rfl
    rw[v5] at e35
    show A7 Tryz.prog C (nx+6) (.call ⟨.value (.func 214),#[.tmp 35],#[3]⟩) _ (AS.ev ⟨T,fun _=>none,0⟩) hp _
    simp (disch:=omega) only[sx,Value.oneCell',↓reduceIte,Nat.reduceAdd,Nat.reduceMul,Nat.reduceEqDiff,Nat.reduceLT,Nat.reduceLeDiff,Int.reduceToNat,Int.reduceEq,Int.reduceLT,Int.reduceLE,Int.reduceNe,e35]
    refine Dl byA (a3) ?_
    exact⟨rfl,by first|exact .inl rfl|exact .inr rfl|simp⟩
   ·have hc:=hc0 (by decide)
    subst hc
    cases ho
    refine .inl ?_
    have e30:A8 opsD opsD.size (vsD q1 q2 r n mode mr w1 w2 s1 s2 cc) tm (fun q=>decide (q<7)) 30=vsD q1 q2 r n mode mr w1 w2 s1 s2 cc 0:=by kernel_rfl
    have e36:A8 opsD opsD.size (vsD q1 q2 r n mode mr w1 w2 s1 s2 cc) tm (fun q=>decide (q<7)) 36=vsD q1 q2 r n mode mr w1 w2 s1 s2 cc 6:=by kernel_rfl
    generalize hT:A8 opsD opsD.size (vsD q1 q2 r n mode mr w1 w2 s1 s2 cc) tm (fun q=>decide (q<7))=T at *
    have v0:vsD q1 q2 r n mode mr w1 w2 s1 s2 cc 0=.agg [gI q1,.ex (.int .u64 q2)]:=rfl
    rw[v0] at e30
    have v6:vsD q1 q2 r n mode mr w1 w2 s1 s2 cc 6=.agg [gI w1,.ex (.int .u64 w2)]:=rfl
    rw[v6] at e36
    show A7 Tryz.prog C (nx+7) (.call ⟨.value (.func 163),#[.tmp 30,.tmp 36],#[50,50]⟩) _ (AS.ev ⟨T,fun _=>none,0⟩) hp _
    simp (disch:=omega) only[sx,Value.oneCell',↓reduceIte,Nat.reduceAdd,Nat.reduceMul,Nat.reduceEqDiff,Nat.reduceLT,Nat.reduceLeDiff,Int.reduceToNat,Int.reduceEq,Int.reduceLT,Int.reduceLE,Int.reduceNe,e30,e36]
    refine Dl byA (a4) ?_
    exact⟨rfl,by first|exact .inl rfl|exact .inr rfl|simp⟩
   ·have hc:=hc0 (by decide)
    subst hc
    cases ho
    refine .inl ?_
    have e37:A8 opsD opsD.size (vsD q1 q2 r n mode mr w1 w2 s1 s2 cc) tm (fun q=>decide (q<8)) 37=vsD q1 q2 r n mode mr w1 w2 s1 s2 cc 7:=by kernel_rfl
    generalize hT:A8 opsD opsD.size (vsD q1 q2 r n mode mr w1 w2 s1 s2 cc) tm (fun q=>decide (q<8))=T at *
    have v7:vsD q1 q2 r n mode mr w1 w2 s1 s2 cc 7=.tup [.agg [gI s1,.ex (.int .u64 s2)],gI cc]:=rfl
    rw[v7] at e37
    show A7 Tryz.prog C (nx+8) (.move (.tmp 37)) _ (AS.ev ⟨T,fun _=>none,0⟩) hp _
    simp (disch:=omega) only[sx,Value.oneCell',↓reduceIte,Nat.reduceAdd,Nat.reduceMul,Nat.reduceEqDiff,Nat.reduceLT,Nat.reduceLeDiff,Int.reduceToNat,Int.reduceEq,Int.reduceLT,Int.reduceLE,Int.reduceNe,e37,hb]
    exact⟨rfl,.inl trivial⟩
   ·have hc:=hc0 (by decide)
    subst hc
    cases ho
    refine .inl ?_
    have e29:A8 opsD opsD.size (vsD q1 q2 r n mode mr w1 w2 s1 s2 cc) tm (fun q=>decide (q<9)) 29=vsD q1 q2 r n mode mr w1 w2 s1 s2 cc 8:=by kernel_rfl
    generalize hT:A8 opsD opsD.size (vsD q1 q2 r n mode mr w1 w2 s1 s2 cc) tm (fun q=>decide (q<9))=T at *
    have v8:vsD q1 q2 r n mode mr w1 w2 s1 s2 cc 8=.tup [.agg [gI s1,.ex (.int .u64 s2)],gI cc]:=rfl
    rw[v8] at e29
    show A7 Tryz.prog C (nx+9) (.extract (.tmp 29) 0) _ (AS.ev ⟨T,fun _=>none,0⟩) hp _
    simp (disch:=omega) only[sx,Value.oneCell',↓reduceIte,Nat.reduceAdd,Nat.reduceMul,Nat.reduceEqDiff,Nat.reduceLT,Nat.reduceLeDiff,Int.reduceToNat,Int.reduceEq,Int.reduceLT,Int.reduceLE,Int.reduceNe,e29,hb]
    exact⟨rfl,.inl trivial⟩
   ·cases ho
    refine .inl ?_
    have e29:A8 opsD opsD.size (vsD q1 q2 r n mode mr w1 w2 s1 s2 cc) tm (fun q=>decide (q<10)) 29=vsD q1 q2 r n mode mr w1 w2 s1 s2 cc 8:=by kernel_rfl
    generalize hT:A8 opsD opsD.size (vsD q1 q2 r n mode mr w1 w2 s1 s2 cc) tm (fun q=>decide (q<10))=T at *
    have v8:vsD q1 q2 r n mode mr w1 w2 s1 s2 cc 8=.tup [.agg [gI s1,.ex (.int .u64 s2)],gI cc]:=rfl
    rw[v8] at e29
    show A7 Tryz.prog C (nx+10) (.extract (.tmp 29) 1) _ (AS.ev ⟨T,fun _=>none,0⟩) _ _
    simp (disch:=omega) only[sx,Value.oneCell',↓reduceIte,Nat.reduceAdd,Nat.reduceMul,Nat.reduceEqDiff,Nat.reduceLT,Nat.reduceLeDiff,Int.reduceToNat,Int.reduceEq,Int.reduceLT,Int.reduceLE,Int.reduceNe,e29,hb]
    exact⟨rfl,.inl trivial⟩
 ·refine hq _ ?_
  rw[← t8]
  kernel_rfl
theorem Rt{x:Int×Int}(h:OkW x){n:Int}(hn:I64 n)(mode:Int):∃ z:Int×Int,(I64 z.1)∧Cn 168 [gW x,gI n,gI mode] (.val (gII z)):=by
 have o0:I64 0:=by unfold I64;omega
 obtain⟨vb,hv,a0⟩:=D.Wx mode
 by_cases h1:n<1
 ·obtain⟨a,b⟩:=x
  refine⟨(0,1),o0, ?_⟩
  refine cvS Tryz.func168 ?_
  (repeat' (first|exact trivial|refine stR ?_|((first|refine stp ?_|refine A0 (fun h=>?_) ?_|(refine gw (fun h=>?_) (fun h=>?_)<;>(try (exfalso;omega))))<;>(try (refine wS ?_)))))
  all_goals simp only[sxd,z0,p0,Nat.reduceEqDiff,↓reduceIte,Tryz.f168, *]
 cases vb with
 | false =>
  obtain⟨a,b⟩:=x
  refine⟨(0,1),o0, ?_⟩
  refine cvS Tryz.func168 ?_
  (repeat' (first|exact trivial|refine stR ?_|((first|refine cv (a0) ?_|refine stp ?_|refine A0 (fun h=>?_) ?_|(refine gw (fun h=>?_) (fun h=>?_)<;>(try (exfalso;omega))))<;>(try (refine wS ?_)))))
  all_goals simp only[sxd,z0,p0,Nat.reduceEqDiff,↓reduceIte,Tryz.f168, *]
 | true =>
  obtain⟨m1,m2⟩:=hv rfl
  obtain⟨⟨⟨q1,q2⟩,r,dc⟩,⟨g1,g2⟩,a1⟩:=D.Anw h hn
  obtain⟨a,b⟩:=x
  by_cases hz:r≤0
  ·obtain⟨⟨i1,ib⟩,gi,a2⟩:=D.A9w g1
   clear h hn hv g1 g2
   dsimp only at *
   cases ib
   ·refine⟨(0,6),o0, ?_⟩
    refine cvS Tryz.func168 ?_
    (repeat' (first|exact trivial|refine stR ?_|((first|refine cv (a0) ?_|refine cv (a1) ?_|refine cv (a2) ?_|refine stp ?_|refine A0 (fun h=>?_) ?_|(refine gw (fun h=>?_) (fun h=>?_)<;>(try (exfalso;omega))))<;>(try (refine wS ?_)))))
    all_goals simp only[sxd,z0,p0,Nat.reduceEqDiff,↓reduceIte,Tryz.f168, *]
   ·refine⟨(i1,0),gi, ?_⟩
    refine cvS Tryz.func168 ?_
    (repeat' (first|exact trivial|refine stR ?_|((first|refine cv (a0) ?_|refine cv (a1) ?_|refine cv (a2) ?_|refine stp ?_|refine A0 (fun h=>?_) ?_|(refine gw (fun h=>?_) (fun h=>?_)<;>(try (exfalso;omega))))<;>(try (refine wS ?_)))))
    all_goals simp only[sxd,z0,p0,Nat.reduceEqDiff,↓reduceIte,Tryz.f168, *]
  ·obtain⟨mr,gm,a2⟩:=D.Al9 g1 r n m1
   obtain⟨⟨w1,w2⟩,gw,a3⟩:=D.Amq gm
   obtain⟨⟨⟨s1,s2⟩,cc⟩,gs,a4⟩:=D.Og g1 gw
   obtain⟨⟨i1,ib⟩,gi,a5⟩:=D.A9w gs
   clear h hn hv g1 g2 gm gw gs
   dsimp only at *
   have hz2:0<r:=by omega
   have key:∀ R:Int×Int,R=(if ib then (i1,0) else (0,6))→Cn 168 [gW (a,b),gI n,gI mode] (.val (gII R)):=by
    rintro⟨R1,R2⟩ hR
    cases ib<;>simp only[↓reduceIte,Bool.false_eq_true,Prod.mk.injEq] at hR<;>obtain⟨rfl,rfl⟩:=hR
    all_goals
     refine cvS Tryz.func168 ?_
     (repeat' (first|exact trivial|refine stR ?_|((first|refine cv (a0) ?_|refine cv (a1) ?_|refine stn ?_|refine A0 (fun h=>?_) ?_|(refine gw (fun h=>?_) (fun h=>?_)<;>(try (exfalso;omega))))<;>(try (refine wS ?_)))))
    all_goals
     refine (?_:awp Tryz.prog CtxP (.region 5 opsD true) _ _)
     refine A16 base (b:=17) (r:=r) (n:=n) (mode:=mode) (by exact byQ) (by exact byQ) (by exact byQ) (by exact byQ) (by exact byQ) a2 a3 a4 ?_
     intro tm' e8
     show awp Tryz.prog CtxP _ _ _
    all_goals (repeat' (first|exact trivial|refine stR ?_|((first|refine cv (a5) ?_|refine stp ?_|refine A0 (fun h=>?_) ?_|(refine gw (fun h=>?_) (fun h=>?_)<;>(try (exfalso;omega))))<;>(try (refine wS ?_)))))
    all_goals simp only[sxd,z0,p0,Nat.reduceEqDiff,↓reduceIte,Tryz.f168, *]
   cases ib
   ·exact⟨(0,6),o0,key _ rfl⟩
   ·exact⟨(i1,0),gi,key _ rfl⟩
noncomputable def tot9_ops:Array Oper:=((Tryz.f110.body.bind (Ge 9)).getD #[])
noncomputable def Ef(s1 s2 t1 t2:Int):Nat→AV:=fun i =>
 [.agg [gI s1,.ex (.int .u64 s2)],.agg [gI t1,.ex (.int .u64 t2)],.junk,.junk].getD i .und
set_option maxHeartbeats 4000000 in
theorem B12{C:World→Prop}(Bs:Dj Tryz.prog C){tm:Nat→AV}{hp:Nat→Option A4}{nx:Nat}{Q:Exit→AS→Prop}{b5 b6 b9 b11:Nat}{s1 s2 t1 t2 a1 a2 c1 c2:Int}(r5:tm 5=.pt b5 0 0)(r6:tm 6=.pt b6 0 0)(r9:tm 9=.pt b9 0 0)(r11:tm 11=.pt b11 0 0)(h0:hp b5=some ⟨50,[[gI a1,.ex (.int .u64 a2)]],true⟩)(h1:hp b6=some ⟨50,[[gI c1,.ex (.int .u64 c2)]],true⟩)(h2:hp b9=some ⟨50,[[gI s1,.ex (.int .u64 s2)]],true⟩)(h3:hp b11=some ⟨50,[[gI t1,.ex (.int .u64 t2)]],true⟩)(n01:¬ b5=b6)(n02:¬ b5=b9)(n03:¬ b5=b11)(n10:¬ b6=b5)(n12:¬ b6=b9)(n13:¬ b6=b11)(n20:¬ b9=b5)(n21:¬ b9=b6)(n23:¬ b9=b11)(n30:¬ b11=b5)(n31:¬ b11=b6)(n32:¬ b11=b9)
  (hq:∀ tm':Nat→AV,tm' 2=tm 2→tm' 3=tm 3→tm' 5=tm 5→tm' 6=tm 6→tm' 13=tm 13→tm' 14=tm 14→tm' 15=tm 15→Q .normal ⟨tm',upd (upd hp b5 (some ⟨50,[[gI s1,.ex (.int .u64 s2)]],true⟩)) b6 (some ⟨50,[[gI t1,.ex (.int .u64 t2)]],true⟩),nx+4⟩) :
  awp Tryz.prog C (.region 9 tot9_ops true) Q ⟨tm,hp,nx⟩:=by
 have hO:Ord tot9_ops tot9_ops.size:=Fs (by kernel_rfl)
 refine Bx Bs (vs:=(Ef s1 s2 t1 t2)) (ch:=[2,3]) (H:=fun c=>bif Nat.beq c 0 then hp else bif Nat.beq c 1 then upd hp b5 (some ⟨50,[[gI s1,.ex (.int .u64 s2)]],true⟩) else upd (upd hp b5 (some ⟨50,[[gI s1,.ex (.int .u64 s2)]],true⟩)) b6 (some ⟨50,[[gI t1,.ex (.int .u64 t2)]],true⟩)) (B:=fun c=>nx) hO ?_ ?_
 ·refine⟨rfl,rfl, ?_, ?_,by simp, ?_, ?_, ?_, ?_⟩
  ·intro c hc
   have hc:c≤2:=hc
   have:c=0∨c=1∨c=2:=by omega
   rcases this with rfl|rfl|rfl<;>first|exact Nat.le_refl _|exact Nat.le_refl _
  ·intro h hh
   simp only[List.mem_cons,List.not_mem_nil,or_false] at hh
   rcases hh with rfl|rfl<;>exact Nat.le_of_ble_eq_true (by kernel_rfl)
  ·have hms:=Ao (ops:=tot9_ops) tot9_ops.toList [] (fun j=>by simp) (fun j i hb=>by simp at hb)
   intro m h h' hm hm'
   have hlt:m+1<2:=by have:=(List.getElem?_eq_some_iff.1 hm').1;simpa using this
   have:m=0:=by omega
   rcases this with rfl
   ·cases hm;cases hm';exact hms 3 2 (by decide +kernel)
  ·intro o ho
   have:(tot9_ops.toList.all fun o=>o.guard.isNone)=true:=by kernel_rfl
   have:=List.all_eq_true.1 this o ho
   simpa using this
  ·intro m h o hm ho
   have hlt:m<2:=by have:=(List.getElem?_eq_some_iff.1 hm).1;simpa using this
   have:m=0∨m=1:=by omega
   rcases this with rfl|rfl
   ·cases (show some 2=some h from hm)
    cases ho
    have e5:A8 tot9_ops tot9_ops.size (Ef s1 s2 t1 t2) tm (fun q=>decide (q<2)) 5=.pt b5 0 0:=by rw[← r5];kernel_rfl
    have e41:A8 tot9_ops tot9_ops.size (Ef s1 s2 t1 t2) tm (fun q=>decide (q<2)) 41=.agg [gI s1,.ex (.int .u64 s2)]:=by kernel_rfl
    generalize hT:A8 tot9_ops tot9_ops.size (Ef s1 s2 t1 t2) tm (fun q=>decide (q<2))=T at *
    refine .inl ⟨.set b5 ⟨50,[[gI s1,.ex (.int .u64 s2)]],true⟩, ?_,rfl,rfl⟩
    show A7 Tryz.prog C ((nx)+2) (.store 50 (.tmp 5) (.tmp 41)) _ (AS.ev ⟨T,fun _=>none,0⟩) (hp) _
    simp (disch:=omega) only[sx,Value.oneCell',↓reduceIte,Nat.reduceAdd,Nat.reduceMul,Nat.reduceEqDiff,Nat.reduceLT,Nat.reduceLeDiff,Int.reduceToNat,Int.reduceEq,Int.reduceLT,Int.reduceLE,Int.reduceNe,e5,e41,h0,h1,h2,h3,n01,n02,n03,n10,n12,n13,n20,n21,n23,n30,n31,n32]
    first|exact⟨rfl,rfl⟩|trivial|rfl|exact⟨by omega,rfl⟩|exact⟨by omega,rfl,rfl⟩
   ·cases (show some 3=some h from hm)
    cases ho
    have e6:A8 tot9_ops tot9_ops.size (Ef s1 s2 t1 t2) tm (fun q=>decide (q<3)) 6=.pt b6 0 0:=by rw[← r6];kernel_rfl
    have e42:A8 tot9_ops tot9_ops.size (Ef s1 s2 t1 t2) tm (fun q=>decide (q<3)) 42=.agg [gI t1,.ex (.int .u64 t2)]:=by kernel_rfl
    generalize hT:A8 tot9_ops tot9_ops.size (Ef s1 s2 t1 t2) tm (fun q=>decide (q<3))=T at *
    refine .inl ⟨.set b6 ⟨50,[[gI t1,.ex (.int .u64 t2)]],true⟩, ?_,rfl,rfl⟩
    show A7 Tryz.prog C ((nx)+3) (.store 50 (.tmp 6) (.tmp 42)) _ (AS.ev ⟨T,fun _=>none,0⟩) (upd hp b5 (some ⟨50,[[gI s1,.ex (.int .u64 s2)]],true⟩)) _
    simp (disch:=omega) only[sx,Value.oneCell',↓reduceIte,Nat.reduceAdd,Nat.reduceMul,Nat.reduceEqDiff,Nat.reduceLT,Nat.reduceLeDiff,Int.reduceToNat,Int.reduceEq,Int.reduceLT,Int.reduceLE,Int.reduceNe,e6,e42,h0,h1,h2,h3,n01,n02,n03,n10,n12,n13,n20,n21,n23,n30,n31,n32]
    first|exact⟨rfl,rfl⟩|trivial|rfl|exact⟨by omega,rfl⟩|exact⟨by omega,rfl,rfl⟩
  ·have hms:=Ao (ops:=tot9_ops) tot9_ops.toList [] (fun j=>by simp) (fun j i hb=>by simp at hb)
   intro i o ho hni c hc hcc
   have hc:c≤2:=hc
   have hi:i<4:=(Array.getElem?_eq_some_iff.1 ho).1
   have hi':i=0∨i=1:=by
    have:i≠2∧i≠3:=by simpa using hni
    omega
   clear hi
   rcases hi' with rfl|rfl
   ·cases ho
    have lB:=(hcc 0 2 rfl).2 (hms 2 0 (by decide +kernel))
    have e9:A8 tot9_ops tot9_ops.size (Ef s1 s2 t1 t2) tm (fun q=>decide (q<0)) 9=.pt b9 0 0:=by rw[← r9];kernel_rfl
    generalize hT:A8 tot9_ops tot9_ops.size (Ef s1 s2 t1 t2) tm (fun q=>decide (q<0))=T at *
    have hcs:c=0:=by omega
    clear hcc hc lB
    rcases hcs with rfl
    ·refine .inl ?_
     show A7 Tryz.prog C ((nx)+0) (.load 50 (.tmp 9)) _ (AS.ev ⟨T,fun _=>none,0⟩) (hp) _
     simp (disch:=omega) only[sx,Value.oneCell',↓reduceIte,Nat.reduceAdd,Nat.reduceMul,Nat.reduceEqDiff,Nat.reduceLT,Nat.reduceLeDiff,Int.reduceToNat,Int.reduceEq,Int.reduceLT,Int.reduceLE,Int.reduceNe,e9,h0,h1,h2,h3,n01,n02,n03,n10,n12,n13,n20,n21,n23,n30,n31,n32]
     first|exact⟨rfl,.inl trivial⟩|exact⟨rfl,.inl rfl⟩|exact⟨trivial,.inl trivial⟩|exact .inl trivial|exact .inl rfl|exact⟨rfl,.inr rfl⟩|trivial|exact⟨rfl,by simp⟩|simp
   ·cases ho
    have lB:=(hcc 1 3 rfl).2 (hms 3 1 (by decide +kernel))
    have e11:A8 tot9_ops tot9_ops.size (Ef s1 s2 t1 t2) tm (fun q=>decide (q<1)) 11=.pt b11 0 0:=by rw[← r11];kernel_rfl
    generalize hT:A8 tot9_ops tot9_ops.size (Ef s1 s2 t1 t2) tm (fun q=>decide (q<1))=T at *
    have hcs:c=0∨c=1:=by omega
    clear hcc hc lB
    rcases hcs with rfl|rfl
    ·refine .inl ?_
     show A7 Tryz.prog C ((nx)+1) (.load 50 (.tmp 11)) _ (AS.ev ⟨T,fun _=>none,0⟩) (hp) _
     simp (disch:=omega) only[sx,Value.oneCell',↓reduceIte,Nat.reduceAdd,Nat.reduceMul,Nat.reduceEqDiff,Nat.reduceLT,Nat.reduceLeDiff,Int.reduceToNat,Int.reduceEq,Int.reduceLT,Int.reduceLE,Int.reduceNe,e11,h0,h1,h2,h3,n01,n02,n03,n10,n12,n13,n20,n21,n23,n30,n31,n32]
     first|exact⟨rfl,.inl trivial⟩|exact⟨rfl,.inl rfl⟩|exact⟨trivial,.inl trivial⟩|exact .inl trivial|exact .inl rfl|exact⟨rfl,.inr rfl⟩|trivial|exact⟨rfl,by simp⟩|simp
    ·refine .inl ?_
     show A7 Tryz.prog C ((nx)+1) (.load 50 (.tmp 11)) _ (AS.ev ⟨T,fun _=>none,0⟩) (upd hp b5 (some ⟨50,[[gI s1,.ex (.int .u64 s2)]],true⟩)) _
     simp (disch:=omega) only[sx,Value.oneCell',↓reduceIte,Nat.reduceAdd,Nat.reduceMul,Nat.reduceEqDiff,Nat.reduceLT,Nat.reduceLeDiff,Int.reduceToNat,Int.reduceEq,Int.reduceLT,Int.reduceLE,Int.reduceNe,e11,h0,h1,h2,h3,n01,n02,n03,n10,n12,n13,n20,n21,n23,n30,n31,n32]
     first|exact⟨rfl,.inl trivial⟩|exact⟨rfl,.inl rfl⟩|exact⟨trivial,.inl trivial⟩|exact .inl trivial|exact .inl rfl|exact⟨rfl,.inr rfl⟩|trivial|exact⟨rfl,by simp⟩|simp
 ·refine hq _ ?_ ?_ ?_ ?_ ?_ ?_ ?_
  ·kernel_rfl
  ·kernel_rfl
  ·kernel_rfl
  ·kernel_rfl
  ·kernel_rfl
  ·kernel_rfl
  ·kernel_rfl
noncomputable def tot11_ops:Array Oper:=((Tryz.f110.body.bind (Ge 11)).getD #[])
noncomputable def D0(s1 s2 t1 t2:Int):Nat→AV:=fun i =>
 [.agg [gI s1,.ex (.int .u64 s2)],.agg [gI t1,.ex (.int .u64 t2)],.junk,.junk,gI 0].getD i .und
set_option maxHeartbeats 4000000 in
theorem Ays{C:World→Prop}(Bs:Dj Tryz.prog C){tm:Nat→AV}{hp:Nat→Option A4}{nx:Nat}{Q:Exit→AS→Prop}{b2 b3 b5 b6:Nat}{s1 s2 t1 t2 a1 a2 c1 c2:Int}(r2:tm 2=.pt b2 0 0)(r3:tm 3=.pt b3 0 0)(r5:tm 5=.pt b5 0 0)(r6:tm 6=.pt b6 0 0)(h0:hp b2=some ⟨50,[[gI a1,.ex (.int .u64 a2)]],true⟩)(h1:hp b3=some ⟨50,[[gI c1,.ex (.int .u64 c2)]],true⟩)(h2:hp b5=some ⟨50,[[gI s1,.ex (.int .u64 s2)]],true⟩)(h3:hp b6=some ⟨50,[[gI t1,.ex (.int .u64 t2)]],true⟩)(n01:¬ b2=b3)(n02:¬ b2=b5)(n03:¬ b2=b6)(n10:¬ b3=b2)(n12:¬ b3=b5)(n13:¬ b3=b6)(n20:¬ b5=b2)(n21:¬ b5=b3)(n23:¬ b5=b6)(n30:¬ b6=b2)(n31:¬ b6=b3)(n32:¬ b6=b5)
  (hq:∀ tm':Nat→AV,tm' 2=tm 2→tm' 3=tm 3→tm' 4=gI 0→Q .normal ⟨tm',upd (upd hp b2 (some ⟨50,[[gI s1,.ex (.int .u64 s2)]],true⟩)) b3 (some ⟨50,[[gI t1,.ex (.int .u64 t2)]],true⟩),nx+5⟩) :
  awp Tryz.prog C (.region 11 tot11_ops true) Q ⟨tm,hp,nx⟩:=by
 have hO:Ord tot11_ops tot11_ops.size:=Fs (by kernel_rfl)
 refine Bx Bs (vs:=(D0 s1 s2 t1 t2)) (ch:=[2,3]) (H:=fun c=>bif Nat.beq c 0 then hp else bif Nat.beq c 1 then upd hp b2 (some ⟨50,[[gI s1,.ex (.int .u64 s2)]],true⟩) else upd (upd hp b2 (some ⟨50,[[gI s1,.ex (.int .u64 s2)]],true⟩)) b3 (some ⟨50,[[gI t1,.ex (.int .u64 t2)]],true⟩)) (B:=fun c=>nx) hO ?_ ?_
 ·refine⟨rfl,rfl, ?_, ?_,by simp, ?_, ?_, ?_, ?_⟩
  ·intro c hc
   have hc:c≤2:=hc
   have:c=0∨c=1∨c=2:=by omega
   rcases this with rfl|rfl|rfl<;>first|exact Nat.le_refl _|exact Nat.le_refl _
  ·intro h hh
   simp only[List.mem_cons,List.not_mem_nil,or_false] at hh
   rcases hh with rfl|rfl<;>exact Nat.le_of_ble_eq_true (by kernel_rfl)
  ·have hms:=Ao (ops:=tot11_ops) tot11_ops.toList [] (fun j=>by simp) (fun j i hb=>by simp at hb)
   intro m h h' hm hm'
   have hlt:m+1<2:=by have:=(List.getElem?_eq_some_iff.1 hm').1;simpa using this
   have:m=0:=by omega
   rcases this with rfl
   ·cases hm;cases hm';exact hms 3 2 (by decide +kernel)
  ·intro o ho
   have:(tot11_ops.toList.all fun o=>o.guard.isNone)=true:=by kernel_rfl
   have:=List.all_eq_true.1 this o ho
   simpa using this
  ·intro m h o hm ho
   have hlt:m<2:=by have:=(List.getElem?_eq_some_iff.1 hm).1;simpa using this
   have:m=0∨m=1:=by omega
   rcases this with rfl|rfl
   ·cases (show some 2=some h from hm)
    cases ho
    have e2:A8 tot11_ops tot11_ops.size (D0 s1 s2 t1 t2) tm (fun q=>decide (q<2)) 2=.pt b2 0 0:=by rw[← r2];kernel_rfl
    have e44:A8 tot11_ops tot11_ops.size (D0 s1 s2 t1 t2) tm (fun q=>decide (q<2)) 44=.agg [gI s1,.ex (.int .u64 s2)]:=by kernel_rfl
    generalize hT:A8 tot11_ops tot11_ops.size (D0 s1 s2 t1 t2) tm (fun q=>decide (q<2))=T at *
    refine .inl ⟨.set b2 ⟨50,[[gI s1,.ex (.int .u64 s2)]],true⟩, ?_,rfl,rfl⟩
    show A7 Tryz.prog C ((nx)+2) (.store 50 (.tmp 2) (.tmp 44)) _ (AS.ev ⟨T,fun _=>none,0⟩) (hp) _
    simp (disch:=omega) only[sx,Value.oneCell',↓reduceIte,Nat.reduceAdd,Nat.reduceMul,Nat.reduceEqDiff,Nat.reduceLT,Nat.reduceLeDiff,Int.reduceToNat,Int.reduceEq,Int.reduceLT,Int.reduceLE,Int.reduceNe,e2,e44,h0,h1,h2,h3,n01,n02,n03,n10,n12,n13,n20,n21,n23,n30,n31,n32]
    first|exact⟨rfl,rfl⟩|trivial|rfl|exact⟨by omega,rfl⟩|exact⟨by omega,rfl,rfl⟩
   ·cases (show some 3=some h from hm)
    cases ho
    have e3:A8 tot11_ops tot11_ops.size (D0 s1 s2 t1 t2) tm (fun q=>decide (q<3)) 3=.pt b3 0 0:=by rw[← r3];kernel_rfl
    have e45:A8 tot11_ops tot11_ops.size (D0 s1 s2 t1 t2) tm (fun q=>decide (q<3)) 45=.agg [gI t1,.ex (.int .u64 t2)]:=by kernel_rfl
    generalize hT:A8 tot11_ops tot11_ops.size (D0 s1 s2 t1 t2) tm (fun q=>decide (q<3))=T at *
    refine .inl ⟨.set b3 ⟨50,[[gI t1,.ex (.int .u64 t2)]],true⟩, ?_,rfl,rfl⟩
    show A7 Tryz.prog C ((nx)+3) (.store 50 (.tmp 3) (.tmp 45)) _ (AS.ev ⟨T,fun _=>none,0⟩) (upd hp b2 (some ⟨50,[[gI s1,.ex (.int .u64 s2)]],true⟩)) _
    simp (disch:=omega) only[sx,Value.oneCell',↓reduceIte,Nat.reduceAdd,Nat.reduceMul,Nat.reduceEqDiff,Nat.reduceLT,Nat.reduceLeDiff,Int.reduceToNat,Int.reduceEq,Int.reduceLT,Int.reduceLE,Int.reduceNe,e3,e45,h0,h1,h2,h3,n01,n02,n03,n10,n12,n13,n20,n21,n23,n30,n31,n32]
    first|exact⟨rfl,rfl⟩|trivial|rfl|exact⟨by omega,rfl⟩|exact⟨by omega,rfl,rfl⟩
  ·have hms:=Ao (ops:=tot11_ops) tot11_ops.toList [] (fun j=>by simp) (fun j i hb=>by simp at hb)
   intro i o ho hni c hc hcc
   have hc:c≤2:=hc
   have hi:i<5:=(Array.getElem?_eq_some_iff.1 ho).1
   have hi':i=0∨i=1∨i=4:=by
    have:i≠2∧i≠3:=by simpa using hni
    omega
   clear hi
   rcases hi' with rfl|rfl|rfl
   ·cases ho
    have lB:=(hcc 0 2 rfl).2 (hms 2 0 (by decide +kernel))
    have e5:A8 tot11_ops tot11_ops.size (D0 s1 s2 t1 t2) tm (fun q=>decide (q<0)) 5=.pt b5 0 0:=by rw[← r5];kernel_rfl
    generalize hT:A8 tot11_ops tot11_ops.size (D0 s1 s2 t1 t2) tm (fun q=>decide (q<0))=T at *
    have hcs:c=0:=by omega
    clear hcc hc lB
    rcases hcs with rfl
    ·refine .inl ?_
     show A7 Tryz.prog C ((nx)+0) (.load 50 (.tmp 5)) _ (AS.ev ⟨T,fun _=>none,0⟩) (hp) _
     simp (disch:=omega) only[sx,Value.oneCell',↓reduceIte,Nat.reduceAdd,Nat.reduceMul,Nat.reduceEqDiff,Nat.reduceLT,Nat.reduceLeDiff,Int.reduceToNat,Int.reduceEq,Int.reduceLT,Int.reduceLE,Int.reduceNe,e5,h0,h1,h2,h3,n01,n02,n03,n10,n12,n13,n20,n21,n23,n30,n31,n32]
     first|exact⟨rfl,.inl trivial⟩|exact⟨rfl,.inl rfl⟩|exact⟨trivial,.inl trivial⟩|exact .inl trivial|exact .inl rfl|exact⟨rfl,.inr rfl⟩|trivial|exact⟨rfl,by simp⟩|simp
   ·cases ho
    have lB:=(hcc 1 3 rfl).2 (hms 3 1 (by decide +kernel))
    have e6:A8 tot11_ops tot11_ops.size (D0 s1 s2 t1 t2) tm (fun q=>decide (q<1)) 6=.pt b6 0 0:=by rw[← r6];kernel_rfl
    generalize hT:A8 tot11_ops tot11_ops.size (D0 s1 s2 t1 t2) tm (fun q=>decide (q<1))=T at *
    have hcs:c=0∨c=1:=by omega
    clear hcc hc lB
    rcases hcs with rfl|rfl
    ·refine .inl ?_
     show A7 Tryz.prog C ((nx)+1) (.load 50 (.tmp 6)) _ (AS.ev ⟨T,fun _=>none,0⟩) (hp) _
     simp (disch:=omega) only[sx,Value.oneCell',↓reduceIte,Nat.reduceAdd,Nat.reduceMul,Nat.reduceEqDiff,Nat.reduceLT,Nat.reduceLeDiff,Int.reduceToNat,Int.reduceEq,Int.reduceLT,Int.reduceLE,Int.reduceNe,e6,h0,h1,h2,h3,n01,n02,n03,n10,n12,n13,n20,n21,n23,n30,n31,n32]
     first|exact⟨rfl,.inl trivial⟩|exact⟨rfl,.inl rfl⟩|exact⟨trivial,.inl trivial⟩|exact .inl trivial|exact .inl rfl|exact⟨rfl,.inr rfl⟩|trivial|exact⟨rfl,by simp⟩|simp
    ·refine .inl ?_
     show A7 Tryz.prog C ((nx)+1) (.load 50 (.tmp 6)) _ (AS.ev ⟨T,fun _=>none,0⟩) (upd hp b2 (some ⟨50,[[gI s1,.ex (.int .u64 s2)]],true⟩)) _
     simp (disch:=omega) only[sx,Value.oneCell',↓reduceIte,Nat.reduceAdd,Nat.reduceMul,Nat.reduceEqDiff,Nat.reduceLT,Nat.reduceLeDiff,Int.reduceToNat,Int.reduceEq,Int.reduceLT,Int.reduceLE,Int.reduceNe,e6,h0,h1,h2,h3,n01,n02,n03,n10,n12,n13,n20,n21,n23,n30,n31,n32]
     first|exact⟨rfl,.inl trivial⟩|exact⟨rfl,.inl rfl⟩|exact⟨trivial,.inl trivial⟩|exact .inl trivial|exact .inl rfl|exact⟨rfl,.inr rfl⟩|trivial|exact⟨rfl,by simp⟩|simp
   ·cases ho
    have lA:=(hcc 1 3 rfl).1 (hms 4 3 (by decide +kernel))
    generalize hT:A8 tot11_ops tot11_ops.size (D0 s1 s2 t1 t2) tm (fun q=>decide (q<4))=T at *
    have hcs:c=2:=by omega
    clear hcc hc lA
    rcases hcs with rfl
    ·refine .inl ?_
     show A7 Tryz.prog C ((nx)+4) (.assign (.const (.int .i64 0))) _ (AS.ev ⟨T,fun _=>none,0⟩) (upd (upd hp b2 (some ⟨50,[[gI s1,.ex (.int .u64 s2)]],true⟩)) b3 (some ⟨50,[[gI t1,.ex (.int .u64 t2)]],true⟩)) _
     simp (disch:=omega) only[sx,Value.oneCell',↓reduceIte,Nat.reduceAdd,Nat.reduceMul,Nat.reduceEqDiff,Nat.reduceLT,Nat.reduceLeDiff,Int.reduceToNat,Int.reduceEq,Int.reduceLT,Int.reduceLE,Int.reduceNe,h0,h1,h2,h3,n01,n02,n03,n10,n12,n13,n20,n21,n23,n30,n31,n32]
     first|exact⟨rfl,.inl trivial⟩|exact⟨rfl,.inl rfl⟩|exact⟨trivial,.inl trivial⟩|exact .inl trivial|exact .inl rfl|exact⟨rfl,.inr rfl⟩|trivial|exact⟨rfl,by simp⟩|simp
 ·refine hq _ ?_ ?_ ?_
  ·kernel_rfl
  ·kernel_rfl
  ·kernel_rfl
noncomputable def run9_ops:Array Oper:=((Tryz.f6.body.bind (Ge 9)).getD #[])
noncomputable def Ee(x0 x1 x2 x3 x4 x5 x6 x7 x8 x9 x10 x11 x12 x13 x14 x15 x16 x17 x18 x19 x20 x21:AV)(q:Nat):Nat→AV:=fun i =>
 [.agg [x0,x1,x2,x3,x4,x5,x6,x7,x8,x9,x10,x11,x12,x13,x14,x15,x16,x17,x18,x19,x20,x21],.own q,.junk,.own q,gI 0].getD i .und
set_option maxHeartbeats 4000000 in
theorem B11{C:World→Prop}(Bs:Dj Tryz.prog C){tm:Nat→AV}{hp:Nat→Option A4}{nx:Nat}{Q:Exit→AS→Prop}{b5 b16 b10:Nat}{x0 x1 x2 x3 x4 x5 x6 x7 x8 x9 x10 x11 x12 x13 x14 x15 x16 x17 x18 x19 x20 x21:AV}{q:Nat}{zs:List AV}(r5:tm 5=.pt b5 0 0)(r16:tm 16=.pt b16 0 0)(r10:tm 10=.pt b10 0 0)(h0:hp b5=some ⟨33,[[x0,x1,x2,x3,x4,x5,x6,x7,x8,x9,x10,x11,x12,x13,x14,x15,x16,x17,x18,x19,x20,x21]],true⟩)(h1:hp b16=some ⟨40,[[.own q]],true⟩)(h2:hp b10=some ⟨33,[zs],true⟩)(d0:zs.length=22)(d2:zs.drop 22=[])(n01:¬ b5=b16)(n02:¬ b5=b10)(n10:¬ b16=b5)(n12:¬ b16=b10)(n20:¬ b10=b5)(n21:¬ b10=b16)
  (hq:∀ tm':Nat→AV,tm' 10=.pt b10 0 0→tm' 11=.own q→tm' 12=gI 0→Q .normal ⟨tm',upd hp b10 (some ⟨33,[[x0,x1,x2,x3,x4,x5,x6,x7,x8,x9,x10,x11,x12,x13,x14,x15,x16,x17,x18,x19,x20,x21]],true⟩),nx+5⟩) :
  awp Tryz.prog C (.region 9 run9_ops true) Q ⟨tm,hp,nx⟩:=by
 have hO:Ord run9_ops run9_ops.size:=Fs (by kernel_rfl)
 refine Bx Bs (vs:=(Ee x0 x1 x2 x3 x4 x5 x6 x7 x8 x9 x10 x11 x12 x13 x14 x15 x16 x17 x18 x19 x20 x21 q)) (ch:=[2]) (H:=fun c=>bif Nat.beq c 0 then hp else upd hp b10 (some ⟨33,[[x0,x1,x2,x3,x4,x5,x6,x7,x8,x9,x10,x11,x12,x13,x14,x15,x16,x17,x18,x19,x20,x21]],true⟩)) (B:=fun c=>nx) hO ?_ ?_
 ·refine⟨rfl,rfl, ?_, ?_,by simp, ?_, ?_, ?_, ?_⟩
  ·intro c hc
   have hc:c≤1:=hc
   have:c=0∨c=1:=by omega
   rcases this with rfl|rfl<;>first|exact Nat.le_refl _|exact Nat.le_refl _
  ·intro h hh
   simp only[List.mem_cons,List.not_mem_nil,or_false] at hh
   rcases hh with rfl<;>exact Nat.le_of_ble_eq_true (by kernel_rfl)
  ·have hms:=Ao (ops:=run9_ops) run9_ops.toList [] (fun j=>by simp) (fun j i hb=>by simp at hb)
   intro m h h' hm hm'
   simp at hm'
  ·intro o ho
   have:(run9_ops.toList.all fun o=>o.guard.isNone)=true:=by kernel_rfl
   have:=List.all_eq_true.1 this o ho
   simpa using this
  ·intro m h o hm ho
   have hlt:m<1:=by have:=(List.getElem?_eq_some_iff.1 hm).1;simpa using this
   have:m=0:=by omega
   rcases this with rfl
   ·cases (show some 2=some h from hm)
    cases ho
    have e10:A8 run9_ops run9_ops.size (Ee x0 x1 x2 x3 x4 x5 x6 x7 x8 x9 x10 x11 x12 x13 x14 x15 x16 x17 x18 x19 x20 x21 q) tm (fun q=>decide (q<2)) 10=.pt b10 0 0:=by rw[← r10];kernel_rfl
    have e53:A8 run9_ops run9_ops.size (Ee x0 x1 x2 x3 x4 x5 x6 x7 x8 x9 x10 x11 x12 x13 x14 x15 x16 x17 x18 x19 x20 x21 q) tm (fun q=>decide (q<2)) 53=.agg [x0,x1,x2,x3,x4,x5,x6,x7,x8,x9,x10,x11,x12,x13,x14,x15,x16,x17,x18,x19,x20,x21]:=by kernel_rfl
    generalize hT:A8 run9_ops run9_ops.size (Ee x0 x1 x2 x3 x4 x5 x6 x7 x8 x9 x10 x11 x12 x13 x14 x15 x16 x17 x18 x19 x20 x21 q) tm (fun q=>decide (q<2))=T at *
    refine .inl ⟨.set b10 ⟨33,[[x0,x1,x2,x3,x4,x5,x6,x7,x8,x9,x10,x11,x12,x13,x14,x15,x16,x17,x18,x19,x20,x21]],true⟩, ?_,rfl,rfl⟩
    show A7 Tryz.prog C ((nx)+2) (.store 33 (.tmp 10) (.tmp 53)) _ (AS.ev ⟨T,fun _=>none,0⟩) (hp) _
    simp (disch:=omega) only[sx,Value.oneCell',↓reduceIte,Nat.reduceAdd,Nat.reduceMul,Nat.reduceEqDiff,Nat.reduceLT,Nat.reduceLeDiff,Int.reduceToNat,Int.reduceEq,Int.reduceLT,Int.reduceLE,Int.reduceNe,e10,e53,h0,h1,h2,d0,d2,n01,n02,n10,n12,n20,n21]
    first|exact⟨rfl,rfl⟩|trivial|rfl|exact⟨by omega,rfl⟩|exact⟨by omega,rfl,rfl⟩
  ·have hms:=Ao (ops:=run9_ops) run9_ops.toList [] (fun j=>by simp) (fun j i hb=>by simp at hb)
   intro i o ho hni c hc hcc
   have hc:c≤1:=hc
   have hi:i<5:=(Array.getElem?_eq_some_iff.1 ho).1
   have hi':i=0∨i=1∨i=3∨i=4:=by
    have:i≠2:=by simpa using hni
    omega
   clear hi
   rcases hi' with rfl|rfl|rfl|rfl
   ·cases ho
    have lB:=(hcc 0 2 rfl).2 (hms 2 0 (by decide +kernel))
    have e5:A8 run9_ops run9_ops.size (Ee x0 x1 x2 x3 x4 x5 x6 x7 x8 x9 x10 x11 x12 x13 x14 x15 x16 x17 x18 x19 x20 x21 q) tm (fun q=>decide (q<0)) 5=.pt b5 0 0:=by rw[← r5];kernel_rfl
    generalize hT:A8 run9_ops run9_ops.size (Ee x0 x1 x2 x3 x4 x5 x6 x7 x8 x9 x10 x11 x12 x13 x14 x15 x16 x17 x18 x19 x20 x21 q) tm (fun q=>decide (q<0))=T at *
    have hcs:c=0:=by omega
    clear hcc hc lB
    rcases hcs with rfl
    ·refine .inl ?_
     show A7 Tryz.prog C ((nx)+0) (.load 33 (.tmp 5)) _ (AS.ev ⟨T,fun _=>none,0⟩) (hp) _
     simp (disch:=omega) only[sx,Value.oneCell',↓reduceIte,Nat.reduceAdd,Nat.reduceMul,Nat.reduceEqDiff,Nat.reduceLT,Nat.reduceLeDiff,Int.reduceToNat,Int.reduceEq,Int.reduceLT,Int.reduceLE,Int.reduceNe,e5,h0,h1,h2,d0,d2,n01,n02,n10,n12,n20,n21]
     first|exact⟨rfl,.inl trivial⟩|exact⟨rfl,.inl rfl⟩|exact⟨trivial,.inl trivial⟩|exact .inl trivial|exact .inl rfl|exact⟨rfl,.inr rfl⟩|trivial|exact⟨rfl,by simp⟩|simp
   ·cases ho
    have e16:A8 run9_ops run9_ops.size (Ee x0 x1 x2 x3 x4 x5 x6 x7 x8 x9 x10 x11 x12 x13 x14 x15 x16 x17 x18 x19 x20 x21 q) tm (fun q=>decide (q<1)) 16=.pt b16 0 0:=by rw[← r16];kernel_rfl
    generalize hT:A8 run9_ops run9_ops.size (Ee x0 x1 x2 x3 x4 x5 x6 x7 x8 x9 x10 x11 x12 x13 x14 x15 x16 x17 x18 x19 x20 x21 q) tm (fun q=>decide (q<1))=T at *
    have hcs:c=0∨c=1:=by omega
    clear hcc hc
    rcases hcs with rfl|rfl
    ·refine .inl ?_
     show A7 Tryz.prog C ((nx)+1) (.load 40 (.tmp 16)) _ (AS.ev ⟨T,fun _=>none,0⟩) (hp) _
     simp (disch:=omega) only[sx,Value.oneCell',↓reduceIte,Nat.reduceAdd,Nat.reduceMul,Nat.reduceEqDiff,Nat.reduceLT,Nat.reduceLeDiff,Int.reduceToNat,Int.reduceEq,Int.reduceLT,Int.reduceLE,Int.reduceNe,e16,h0,h1,h2,d0,d2,n01,n02,n10,n12,n20,n21]
     first|exact⟨rfl,.inl trivial⟩|exact⟨rfl,.inl rfl⟩|exact⟨trivial,.inl trivial⟩|exact .inl trivial|exact .inl rfl|exact⟨rfl,.inr rfl⟩|trivial|exact⟨rfl,by simp⟩|simp
    ·refine .inl ?_
     show A7 Tryz.prog C ((nx)+1) (.load 40 (.tmp 16)) _ (AS.ev ⟨T,fun _=>none,0⟩) (upd hp b10 (some ⟨33,[[x0,x1,x2,x3,x4,x5,x6,x7,x8,x9,x10,x11,x12,x13,x14,x15,x16,x17,x18,x19,x20,x21]],true⟩)) _
     simp (disch:=omega) only[sx,Value.oneCell',↓reduceIte,Nat.reduceAdd,Nat.reduceMul,Nat.reduceEqDiff,Nat.reduceLT,Nat.reduceLeDiff,Int.reduceToNat,Int.reduceEq,Int.reduceLT,Int.reduceLE,Int.reduceNe,e16,h0,h1,h2,d0,d2,n01,n02,n10,n12,n20,n21]
     first|exact⟨rfl,.inl trivial⟩|exact⟨rfl,.inl rfl⟩|exact⟨trivial,.inl trivial⟩|exact .inl trivial|exact .inl rfl|exact⟨rfl,.inr rfl⟩|trivial|exact⟨rfl,by simp⟩|simp
   ·cases ho
    have lA:=(hcc 0 2 rfl).1 (hms 3 2 (by decide +kernel))
    have e54:A8 run9_ops run9_ops.size (Ee x0 x1 x2 x3 x4 x5 x6 x7 x8 x9 x10 x11 x12 x13 x14 x15 x16 x17 x18 x19 x20 x21 q) tm (fun q=>decide (q<3)) 54=.own q:=by kernel_rfl
    generalize hT:A8 run9_ops run9_ops.size (Ee x0 x1 x2 x3 x4 x5 x6 x7 x8 x9 x10 x11 x12 x13 x14 x15 x16 x17 x18 x19 x20 x21 q) tm (fun q=>decide (q<3))=T at *
    have hcs:c=1:=by omega
    clear hcc hc lA
    rcases hcs with rfl
    ·refine .inl ?_
     show A7 Tryz.prog C ((nx)+3) (.assign (.tmp 54)) _ (AS.ev ⟨T,fun _=>none,0⟩) (upd hp b10 (some ⟨33,[[x0,x1,x2,x3,x4,x5,x6,x7,x8,x9,x10,x11,x12,x13,x14,x15,x16,x17,x18,x19,x20,x21]],true⟩)) _
     simp (disch:=omega) only[sx,Value.oneCell',↓reduceIte,Nat.reduceAdd,Nat.reduceMul,Nat.reduceEqDiff,Nat.reduceLT,Nat.reduceLeDiff,Int.reduceToNat,Int.reduceEq,Int.reduceLT,Int.reduceLE,Int.reduceNe,e54,h0,h1,h2,d0,d2,n01,n02,n10,n12,n20,n21]
     first|exact⟨rfl,.inl trivial⟩|exact⟨rfl,.inl rfl⟩|exact⟨trivial,.inl trivial⟩|exact .inl trivial|exact .inl rfl|exact⟨rfl,.inr rfl⟩|trivial|exact⟨rfl,by simp⟩|simp
   ·cases ho
    have lA:=(hcc 0 2 rfl).1 (hms 4 2 (by decide +kernel))
    generalize hT:A8 run9_ops run9_ops.size (Ee x0 x1 x2 x3 x4 x5 x6 x7 x8 x9 x10 x11 x12 x13 x14 x15 x16 x17 x18 x19 x20 x21 q) tm (fun q=>decide (q<4))=T at *
    have hcs:c=1:=by omega
    clear hcc hc lA
    rcases hcs with rfl
    ·refine .inl ?_
     show A7 Tryz.prog C ((nx)+4) (.assign (.const (.int .i64 0))) _ (AS.ev ⟨T,fun _=>none,0⟩) (upd hp b10 (some ⟨33,[[x0,x1,x2,x3,x4,x5,x6,x7,x8,x9,x10,x11,x12,x13,x14,x15,x16,x17,x18,x19,x20,x21]],true⟩)) _
     simp (disch:=omega) only[sx,Value.oneCell',↓reduceIte,Nat.reduceAdd,Nat.reduceMul,Nat.reduceEqDiff,Nat.reduceLT,Nat.reduceLeDiff,Int.reduceToNat,Int.reduceEq,Int.reduceLT,Int.reduceLE,Int.reduceNe,h0,h1,h2,d0,d2,n01,n02,n10,n12,n20,n21]
     first|exact⟨rfl,.inl trivial⟩|exact⟨rfl,.inl rfl⟩|exact⟨trivial,.inl trivial⟩|exact .inl trivial|exact .inl rfl|exact⟨rfl,.inr rfl⟩|trivial|exact⟨rfl,by simp⟩|simp
 ·refine hq _ ?_ ?_ ?_
  ·rw[← r10];kernel_rfl
  ·kernel_rfl
  ·kernel_rfl
noncomputable def run13_ops:Array Oper:=((Tryz.f6.body.bind (Ge 13)).getD #[])
noncomputable def Dn(er:Int)(nx:Nat):Nat→AV:=fun i =>
 [.agg [.ex (.slice none 0 0),.ex (.slice none 0 0),.ex (.slice none 0 0),gI 0,gI 0,gI 0,gI 0,gI 0,gI 0,gI 0,gI 0,gI 0,gI 0,gI 0,gI 0,gI 0,gI 0,.ex (.slice none 0 0),.ex (.slice none 0 0),.ex (.slice none 0 0),.ex (.slice none 0 0),.ex (.slice none 0 0)],gI er,.junk,.own (nx+3),gI er].getD i .und
set_option maxHeartbeats 4000000 in
theorem Aym{C:World→Prop}(Bs:Dj Tryz.prog C){tm:Nat→AV}{hp:Nat→Option A4}{nx:Nat}{Q:Exit→AS→Prop}{b17 b10:Nat}{er:Int}{zs:List AV}(r17:tm 17=.pt b17 0 0)(r10:tm 10=.pt b10 0 0)(h1:hp b17=some ⟨41,[[gI er]],true⟩)(h2:hp b10=some ⟨33,[zs],true⟩)(d0:zs.length=22)(d2:zs.drop 22=[])(l0:b17<nx)(l1:b10<nx)(n01:¬ b17=b10)(n10:¬ b10=b17)
  (hq:∀ tm':Nat→AV,tm' 10=.pt b10 0 0→tm' 11=.own (nx+3)→tm' 12=gI er→Q .normal ⟨tm',upd (upd hp b10 (some ⟨33,[[.ex (.slice none 0 0),.ex (.slice none 0 0),.ex (.slice none 0 0),gI 0,gI 0,gI 0,gI 0,gI 0,gI 0,gI 0,gI 0,gI 0,gI 0,gI 0,gI 0,gI 0,gI 0,.ex (.slice none 0 0),.ex (.slice none 0 0),.ex (.slice none 0 0),.ex (.slice none 0 0),.ex (.slice none 0 0)]],true⟩)) (nx+3) (some ⟨52,[],true⟩),nx+5⟩) :
  awp Tryz.prog C (.region 13 run13_ops true) Q ⟨tm,hp,nx⟩:=by
 have hO:Ord run13_ops run13_ops.size:=Fs (by kernel_rfl)
 refine Bx Bs (vs:=(Dn er nx)) (ch:=[2,3]) (H:=fun c=>bif Nat.beq c 0 then hp else bif Nat.beq c 1 then upd hp b10 (some ⟨33,[[.ex (.slice none 0 0),.ex (.slice none 0 0),.ex (.slice none 0 0),gI 0,gI 0,gI 0,gI 0,gI 0,gI 0,gI 0,gI 0,gI 0,gI 0,gI 0,gI 0,gI 0,gI 0,.ex (.slice none 0 0),.ex (.slice none 0 0),.ex (.slice none 0 0),.ex (.slice none 0 0),.ex (.slice none 0 0)]],true⟩) else upd (upd hp b10 (some ⟨33,[[.ex (.slice none 0 0),.ex (.slice none 0 0),.ex (.slice none 0 0),gI 0,gI 0,gI 0,gI 0,gI 0,gI 0,gI 0,gI 0,gI 0,gI 0,gI 0,gI 0,gI 0,gI 0,.ex (.slice none 0 0),.ex (.slice none 0 0),.ex (.slice none 0 0),.ex (.slice none 0 0),.ex (.slice none 0 0)]],true⟩)) (nx+3) (some ⟨52,[],true⟩)) (B:=fun c=>nx) hO ?_ ?_
 ·refine⟨rfl,rfl, ?_, ?_,by simp, ?_, ?_, ?_, ?_⟩
  ·intro c hc
   have hc:c≤2:=hc
   have:c=0∨c=1∨c=2:=by omega
   rcases this with rfl|rfl|rfl<;>first|exact Nat.le_refl _|exact Nat.le_refl _
  ·intro h hh
   simp only[List.mem_cons,List.not_mem_nil,or_false] at hh
   rcases hh with rfl|rfl<;>exact Nat.le_of_ble_eq_true (by kernel_rfl)
  ·have hms:=Ao (ops:=run13_ops) run13_ops.toList [] (fun j=>by simp) (fun j i hb=>by simp at hb)
   intro m h h' hm hm'
   have hlt:m+1<2:=by have:=(List.getElem?_eq_some_iff.1 hm').1;simpa using this
   have:m=0:=by omega
   rcases this with rfl
   ·cases hm;cases hm';exact hms 3 2 (by decide +kernel)
  ·intro o ho
   have:(run13_ops.toList.all fun o=>o.guard.isNone)=true:=by kernel_rfl
   have:=List.all_eq_true.1 this o ho
   simpa using this
  ·intro m h o hm ho
   have hlt:m<2:=by have:=(List.getElem?_eq_some_iff.1 hm).1;simpa using this
   have:m=0∨m=1:=by omega
   rcases this with rfl|rfl
   ·cases (show some 2=some h from hm)
    cases ho
    have e10:A8 run13_ops run13_ops.size (Dn er nx) tm (fun q=>decide (q<2)) 10=.pt b10 0 0:=by rw[← r10];kernel_rfl
    have e61:A8 run13_ops run13_ops.size (Dn er nx) tm (fun q=>decide (q<2)) 61=.agg [.ex (.slice none 0 0),.ex (.slice none 0 0),.ex (.slice none 0 0),gI 0,gI 0,gI 0,gI 0,gI 0,gI 0,gI 0,gI 0,gI 0,gI 0,gI 0,gI 0,gI 0,gI 0,.ex (.slice none 0 0),.ex (.slice none 0 0),.ex (.slice none 0 0),.ex (.slice none 0 0),.ex (.slice none 0 0)]:=by kernel_rfl
    generalize hT:A8 run13_ops run13_ops.size (Dn er nx) tm (fun q=>decide (q<2))=T at *
    refine .inl ⟨.set b10 ⟨33,[[.ex (.slice none 0 0),.ex (.slice none 0 0),.ex (.slice none 0 0),gI 0,gI 0,gI 0,gI 0,gI 0,gI 0,gI 0,gI 0,gI 0,gI 0,gI 0,gI 0,gI 0,gI 0,.ex (.slice none 0 0),.ex (.slice none 0 0),.ex (.slice none 0 0),.ex (.slice none 0 0),.ex (.slice none 0 0)]],true⟩, ?_,rfl,rfl⟩
    show A7 Tryz.prog C ((nx)+2) (.store 33 (.tmp 10) (.tmp 61)) _ (AS.ev ⟨T,fun _=>none,0⟩) (hp) _
    simp (disch:=omega) only[sx,Value.oneCell',↓reduceIte,Nat.reduceAdd,Nat.reduceMul,Nat.reduceEqDiff,Nat.reduceLT,Nat.reduceLeDiff,Int.reduceToNat,Int.reduceEq,Int.reduceLT,Int.reduceLE,Int.reduceNe,e10,e61,h1,h2,d0,d2,n01,n10]
    first|exact⟨rfl,rfl⟩|trivial|rfl|exact⟨by omega,rfl⟩|exact⟨by omega,rfl,rfl⟩
   ·cases (show some 3=some h from hm)
    cases ho
    generalize hT:A8 run13_ops run13_ops.size (Dn er nx) tm (fun q=>decide (q<3))=T at *
    refine .inl ⟨.new ⟨52,[],true⟩, ?_,rfl,rfl⟩
    show A7 Tryz.prog C ((nx)+3) (.assign (.const (.slice none 0 0))) _ (AS.ev ⟨T,fun _=>none,0⟩) (upd hp b10 (some ⟨33,[[.ex (.slice none 0 0),.ex (.slice none 0 0),.ex (.slice none 0 0),gI 0,gI 0,gI 0,gI 0,gI 0,gI 0,gI 0,gI 0,gI 0,gI 0,gI 0,gI 0,gI 0,gI 0,.ex (.slice none 0 0),.ex (.slice none 0 0),.ex (.slice none 0 0),.ex (.slice none 0 0),.ex (.slice none 0 0)]],true⟩)) _
    simp (disch:=omega) only[sx,Value.oneCell',↓reduceIte,Nat.reduceAdd,Nat.reduceMul,Nat.reduceEqDiff,Nat.reduceLT,Nat.reduceLeDiff,Int.reduceToNat,Int.reduceEq,Int.reduceLT,Int.reduceLE,Int.reduceNe,h1,h2,d0,d2,n01,n10]
    simp only[show (aty Tryz.prog run13_ops[3].type).k=.slice 52 by kernel_rfl];first|exact⟨rfl,trivial⟩|exact rfl
  ·have hms:=Ao (ops:=run13_ops) run13_ops.toList [] (fun j=>by simp) (fun j i hb=>by simp at hb)
   intro i o ho hni c hc hcc
   have hc:c≤2:=hc
   have hi:i<5:=(Array.getElem?_eq_some_iff.1 ho).1
   have hi':i=0∨i=1∨i=4:=by
    have:i≠2∧i≠3:=by simpa using hni
    omega
   clear hi
   rcases hi' with rfl|rfl|rfl
   ·cases ho
    have lB:=(hcc 0 2 rfl).2 (hms 2 0 (by decide +kernel))
    generalize hT:A8 run13_ops run13_ops.size (Dn er nx) tm (fun q=>decide (q<0))=T at *
    have hcs:c=0:=by omega
    clear hcc hc lB
    rcases hcs with rfl
    ·refine .inl ?_
     show A7 Tryz.prog C ((nx)+0) (.build 33 #[]) _ (AS.ev ⟨T,fun _=>none,0⟩) (hp) _
     simp (disch:=omega) only[sx,Value.oneCell',↓reduceIte,Nat.reduceAdd,Nat.reduceMul,Nat.reduceEqDiff,Nat.reduceLT,Nat.reduceLeDiff,Int.reduceToNat,Int.reduceEq,Int.reduceLT,Int.reduceLE,Int.reduceNe,h1,h2,d0,d2,n01,n10]
     first|exact⟨rfl,.inl trivial⟩|exact⟨rfl,.inl rfl⟩|exact⟨trivial,.inl trivial⟩|exact .inl trivial|exact .inl rfl|exact⟨rfl,.inr rfl⟩|trivial|exact⟨rfl,by simp⟩|simp
   ·cases ho
    have e17:A8 run13_ops run13_ops.size (Dn er nx) tm (fun q=>decide (q<1)) 17=.pt b17 0 0:=by rw[← r17];kernel_rfl
    generalize hT:A8 run13_ops run13_ops.size (Dn er nx) tm (fun q=>decide (q<1))=T at *
    have hcs:c=0∨c=1∨c=2:=by omega
    clear hcc hc
    rcases hcs with rfl|rfl|rfl
    ·refine .inl ?_
     show A7 Tryz.prog C ((nx)+1) (.load 41 (.tmp 17)) _ (AS.ev ⟨T,fun _=>none,0⟩) (hp) _
     simp (disch:=omega) only[sx,Value.oneCell',↓reduceIte,Nat.reduceAdd,Nat.reduceMul,Nat.reduceEqDiff,Nat.reduceLT,Nat.reduceLeDiff,Int.reduceToNat,Int.reduceEq,Int.reduceLT,Int.reduceLE,Int.reduceNe,e17,h1,h2,d0,d2,n01,n10]
     first|exact⟨rfl,.inl trivial⟩|exact⟨rfl,.inl rfl⟩|exact⟨trivial,.inl trivial⟩|exact .inl trivial|exact .inl rfl|exact⟨rfl,.inr rfl⟩|trivial|exact⟨rfl,by simp⟩|simp
    ·refine .inl ?_
     show A7 Tryz.prog C ((nx)+1) (.load 41 (.tmp 17)) _ (AS.ev ⟨T,fun _=>none,0⟩) (upd hp b10 (some ⟨33,[[.ex (.slice none 0 0),.ex (.slice none 0 0),.ex (.slice none 0 0),gI 0,gI 0,gI 0,gI 0,gI 0,gI 0,gI 0,gI 0,gI 0,gI 0,gI 0,gI 0,gI 0,gI 0,.ex (.slice none 0 0),.ex (.slice none 0 0),.ex (.slice none 0 0),.ex (.slice none 0 0),.ex (.slice none 0 0)]],true⟩)) _
     simp (disch:=omega) only[sx,Value.oneCell',↓reduceIte,Nat.reduceAdd,Nat.reduceMul,Nat.reduceEqDiff,Nat.reduceLT,Nat.reduceLeDiff,Int.reduceToNat,Int.reduceEq,Int.reduceLT,Int.reduceLE,Int.reduceNe,e17,h1,h2,d0,d2,n01,n10]
     first|exact⟨rfl,.inl trivial⟩|exact⟨rfl,.inl rfl⟩|exact⟨trivial,.inl trivial⟩|exact .inl trivial|exact .inl rfl|exact⟨rfl,.inr rfl⟩|trivial|exact⟨rfl,by simp⟩|simp
    ·refine .inl ?_
     show A7 Tryz.prog C ((nx)+1) (.load 41 (.tmp 17)) _ (AS.ev ⟨T,fun _=>none,0⟩) (upd (upd hp b10 (some ⟨33,[[.ex (.slice none 0 0),.ex (.slice none 0 0),.ex (.slice none 0 0),gI 0,gI 0,gI 0,gI 0,gI 0,gI 0,gI 0,gI 0,gI 0,gI 0,gI 0,gI 0,gI 0,gI 0,.ex (.slice none 0 0),.ex (.slice none 0 0),.ex (.slice none 0 0),.ex (.slice none 0 0),.ex (.slice none 0 0)]],true⟩)) (nx+3) (some ⟨52,[],true⟩)) _
     simp (disch:=omega) only[sx,Value.oneCell',↓reduceIte,Nat.reduceAdd,Nat.reduceMul,Nat.reduceEqDiff,Nat.reduceLT,Nat.reduceLeDiff,Int.reduceToNat,Int.reduceEq,Int.reduceLT,Int.reduceLE,Int.reduceNe,e17,h1,h2,d0,d2,n01,n10]
     first|exact⟨rfl,.inl trivial⟩|exact⟨rfl,.inl rfl⟩|exact⟨trivial,.inl trivial⟩|exact .inl trivial|exact .inl rfl|exact⟨rfl,.inr rfl⟩|trivial|exact⟨rfl,by simp⟩|simp
   ·cases ho
    have lA:=(hcc 1 3 rfl).1 (hms 4 3 (by decide +kernel))
    have e62:A8 run13_ops run13_ops.size (Dn er nx) tm (fun q=>decide (q<4)) 62=gI er:=by kernel_rfl
    generalize hT:A8 run13_ops run13_ops.size (Dn er nx) tm (fun q=>decide (q<4))=T at *
    have hcs:c=2:=by omega
    clear hcc hc lA
    rcases hcs with rfl
    ·refine .inl ?_
     show A7 Tryz.prog C ((nx)+4) (.assign (.tmp 62)) _ (AS.ev ⟨T,fun _=>none,0⟩) (upd (upd hp b10 (some ⟨33,[[.ex (.slice none 0 0),.ex (.slice none 0 0),.ex (.slice none 0 0),gI 0,gI 0,gI 0,gI 0,gI 0,gI 0,gI 0,gI 0,gI 0,gI 0,gI 0,gI 0,gI 0,gI 0,.ex (.slice none 0 0),.ex (.slice none 0 0),.ex (.slice none 0 0),.ex (.slice none 0 0),.ex (.slice none 0 0)]],true⟩)) (nx+3) (some ⟨52,[],true⟩)) _
     simp (disch:=omega) only[sx,Value.oneCell',↓reduceIte,Nat.reduceAdd,Nat.reduceMul,Nat.reduceEqDiff,Nat.reduceLT,Nat.reduceLeDiff,Int.reduceToNat,Int.reduceEq,Int.reduceLT,Int.reduceLE,Int.reduceNe,e62,h1,h2,d0,d2,n01,n10]
     first|exact⟨rfl,.inl trivial⟩|exact⟨rfl,.inl rfl⟩|exact⟨trivial,.inl trivial⟩|exact .inl trivial|exact .inl rfl|exact⟨rfl,.inr rfl⟩|trivial|exact⟨rfl,by simp⟩|simp
 ·refine hq _ ?_ ?_ ?_
  ·rw[← r10];kernel_rfl
  ·kernel_rfl
  ·kernel_rfl
noncomputable def run14_ops:Array Oper:=((Tryz.f6.body.bind (Ge 14)).getD #[])
noncomputable def Dd(x0 x1 x2 x3 x4 x5 x6 x7 x8 x9 x10 x11 x12 x13 x14 x15 x16 x17 x18 x19 x20 x21:AV)(q:Nat):Nat→AV:=fun i =>
 [.agg [x0,x1,x2,x3,x4,x5,x6,x7,x8,x9,x10,x11,x12,x13,x14,x15,x16,x17,x18,x19,x20,x21],.own q,.junk,.own q,gI 0].getD i .und
set_option maxHeartbeats 4000000 in
theorem Ayn{C:World→Prop}(Bs:Dj Tryz.prog C){tm:Nat→AV}{hp:Nat→Option A4}{nx:Nat}{Q:Exit→AS→Prop}{b5 b16 b10:Nat}{x0 x1 x2 x3 x4 x5 x6 x7 x8 x9 x10 x11 x12 x13 x14 x15 x16 x17 x18 x19 x20 x21:AV}{q:Nat}{zs:List AV}(r5:tm 5=.pt b5 0 0)(r16:tm 16=.pt b16 0 0)(r10:tm 10=.pt b10 0 0)(h0:hp b5=some ⟨33,[[x0,x1,x2,x3,x4,x5,x6,x7,x8,x9,x10,x11,x12,x13,x14,x15,x16,x17,x18,x19,x20,x21]],true⟩)(h1:hp b16=some ⟨40,[[.own q]],true⟩)(h2:hp b10=some ⟨33,[zs],true⟩)(d0:zs.length=22)(d2:zs.drop 22=[])(n01:¬ b5=b16)(n02:¬ b5=b10)(n10:¬ b16=b5)(n12:¬ b16=b10)(n20:¬ b10=b5)(n21:¬ b10=b16)
  (hq:∀ tm':Nat→AV,tm' 10=.pt b10 0 0→tm' 11=.own q→tm' 12=gI 0→Q .normal ⟨tm',upd hp b10 (some ⟨33,[[x0,x1,x2,x3,x4,x5,x6,x7,x8,x9,x10,x11,x12,x13,x14,x15,x16,x17,x18,x19,x20,x21]],true⟩),nx+5⟩) :
  awp Tryz.prog C (.region 14 run14_ops true) Q ⟨tm,hp,nx⟩:=by
 have hO:Ord run14_ops run14_ops.size:=Fs (by kernel_rfl)
 refine Bx Bs (vs:=(Dd x0 x1 x2 x3 x4 x5 x6 x7 x8 x9 x10 x11 x12 x13 x14 x15 x16 x17 x18 x19 x20 x21 q)) (ch:=[2]) (H:=fun c=>bif Nat.beq c 0 then hp else upd hp b10 (some ⟨33,[[x0,x1,x2,x3,x4,x5,x6,x7,x8,x9,x10,x11,x12,x13,x14,x15,x16,x17,x18,x19,x20,x21]],true⟩)) (B:=fun c=>nx) hO ?_ ?_
 ·refine⟨rfl,rfl, ?_, ?_,by simp, ?_, ?_, ?_, ?_⟩
  ·intro c hc
   have hc:c≤1:=hc
   have:c=0∨c=1:=by omega
   rcases this with rfl|rfl<;>first|exact Nat.le_refl _|exact Nat.le_refl _
  ·intro h hh
   simp only[List.mem_cons,List.not_mem_nil,or_false] at hh
   rcases hh with rfl<;>exact Nat.le_of_ble_eq_true (by kernel_rfl)
  ·have hms:=Ao (ops:=run14_ops) run14_ops.toList [] (fun j=>by simp) (fun j i hb=>by simp at hb)
   intro m h h' hm hm'
   simp at hm'
  ·intro o ho
   have:(run14_ops.toList.all fun o=>o.guard.isNone)=true:=by kernel_rfl
   have:=List.all_eq_true.1 this o ho
   simpa using this
  ·intro m h o hm ho
   have hlt:m<1:=by have:=(List.getElem?_eq_some_iff.1 hm).1;simpa using this
   have:m=0:=by omega
   rcases this with rfl
   ·cases (show some 2=some h from hm)
    cases ho
    have e10:A8 run14_ops run14_ops.size (Dd x0 x1 x2 x3 x4 x5 x6 x7 x8 x9 x10 x11 x12 x13 x14 x15 x16 x17 x18 x19 x20 x21 q) tm (fun q=>decide (q<2)) 10=.pt b10 0 0:=by rw[← r10];kernel_rfl
    have e63:A8 run14_ops run14_ops.size (Dd x0 x1 x2 x3 x4 x5 x6 x7 x8 x9 x10 x11 x12 x13 x14 x15 x16 x17 x18 x19 x20 x21 q) tm (fun q=>decide (q<2)) 63=.agg [x0,x1,x2,x3,x4,x5,x6,x7,x8,x9,x10,x11,x12,x13,x14,x15,x16,x17,x18,x19,x20,x21]:=by kernel_rfl
    generalize hT:A8 run14_ops run14_ops.size (Dd x0 x1 x2 x3 x4 x5 x6 x7 x8 x9 x10 x11 x12 x13 x14 x15 x16 x17 x18 x19 x20 x21 q) tm (fun q=>decide (q<2))=T at *
    refine .inl ⟨.set b10 ⟨33,[[x0,x1,x2,x3,x4,x5,x6,x7,x8,x9,x10,x11,x12,x13,x14,x15,x16,x17,x18,x19,x20,x21]],true⟩, ?_,rfl,rfl⟩
    show A7 Tryz.prog C ((nx)+2) (.store 33 (.tmp 10) (.tmp 63)) _ (AS.ev ⟨T,fun _=>none,0⟩) (hp) _
    simp (disch:=omega) only[sx,Value.oneCell',↓reduceIte,Nat.reduceAdd,Nat.reduceMul,Nat.reduceEqDiff,Nat.reduceLT,Nat.reduceLeDiff,Int.reduceToNat,Int.reduceEq,Int.reduceLT,Int.reduceLE,Int.reduceNe,e10,e63,h0,h1,h2,d0,d2,n01,n02,n10,n12,n20,n21]
    first|exact⟨rfl,rfl⟩|trivial|rfl|exact⟨by omega,rfl⟩|exact⟨by omega,rfl,rfl⟩
  ·have hms:=Ao (ops:=run14_ops) run14_ops.toList [] (fun j=>by simp) (fun j i hb=>by simp at hb)
   intro i o ho hni c hc hcc
   have hc:c≤1:=hc
   have hi:i<5:=(Array.getElem?_eq_some_iff.1 ho).1
   have hi':i=0∨i=1∨i=3∨i=4:=by
    have:i≠2:=by simpa using hni
    omega
   clear hi
   rcases hi' with rfl|rfl|rfl|rfl
   ·cases ho
    have lB:=(hcc 0 2 rfl).2 (hms 2 0 (by decide +kernel))
    have e5:A8 run14_ops run14_ops.size (Dd x0 x1 x2 x3 x4 x5 x6 x7 x8 x9 x10 x11 x12 x13 x14 x15 x16 x17 x18 x19 x20 x21 q) tm (fun q=>decide (q<0)) 5=.pt b5 0 0:=by rw[← r5];kernel_rfl
    generalize hT:A8 run14_ops run14_ops.size (Dd x0 x1 x2 x3 x4 x5 x6 x7 x8 x9 x10 x11 x12 x13 x14 x15 x16 x17 x18 x19 x20 x21 q) tm (fun q=>decide (q<0))=T at *
    have hcs:c=0:=by omega
    clear hcc hc lB
    rcases hcs with rfl
    ·refine .inl ?_
     show A7 Tryz.prog C ((nx)+0) (.load 33 (.tmp 5)) _ (AS.ev ⟨T,fun _=>none,0⟩) (hp) _
     simp (disch:=omega) only[sx,Value.oneCell',↓reduceIte,Nat.reduceAdd,Nat.reduceMul,Nat.reduceEqDiff,Nat.reduceLT,Nat.reduceLeDiff,Int.reduceToNat,Int.reduceEq,Int.reduceLT,Int.reduceLE,Int.reduceNe,e5,h0,h1,h2,d0,d2,n01,n02,n10,n12,n20,n21]
     first|exact⟨rfl,.inl trivial⟩|exact⟨rfl,.inl rfl⟩|exact⟨trivial,.inl trivial⟩|exact .inl trivial|exact .inl rfl|exact⟨rfl,.inr rfl⟩|trivial|exact⟨rfl,by simp⟩|simp
   ·cases ho
    have e16:A8 run14_ops run14_ops.size (Dd x0 x1 x2 x3 x4 x5 x6 x7 x8 x9 x10 x11 x12 x13 x14 x15 x16 x17 x18 x19 x20 x21 q) tm (fun q=>decide (q<1)) 16=.pt b16 0 0:=by rw[← r16];kernel_rfl
    generalize hT:A8 run14_ops run14_ops.size (Dd x0 x1 x2 x3 x4 x5 x6 x7 x8 x9 x10 x11 x12 x13 x14 x15 x16 x17 x18 x19 x20 x21 q) tm (fun q=>decide (q<1))=T at *
    have hcs:c=0∨c=1:=by omega
    clear hcc hc
    rcases hcs with rfl|rfl
    ·refine .inl ?_
     show A7 Tryz.prog C ((nx)+1) (.load 40 (.tmp 16)) _ (AS.ev ⟨T,fun _=>none,0⟩) (hp) _
     simp (disch:=omega) only[sx,Value.oneCell',↓reduceIte,Nat.reduceAdd,Nat.reduceMul,Nat.reduceEqDiff,Nat.reduceLT,Nat.reduceLeDiff,Int.reduceToNat,Int.reduceEq,Int.reduceLT,Int.reduceLE,Int.reduceNe,e16,h0,h1,h2,d0,d2,n01,n02,n10,n12,n20,n21]
     first|exact⟨rfl,.inl trivial⟩|exact⟨rfl,.inl rfl⟩|exact⟨trivial,.inl trivial⟩|exact .inl trivial|exact .inl rfl|exact⟨rfl,.inr rfl⟩|trivial|exact⟨rfl,by simp⟩|simp
    ·refine .inl ?_
     show A7 Tryz.prog C ((nx)+1) (.load 40 (.tmp 16)) _ (AS.ev ⟨T,fun _=>none,0⟩) (upd hp b10 (some ⟨33,[[x0,x1,x2,x3,x4,x5,x6,x7,x8,x9,x10,x11,x12,x13,x14,x15,x16,x17,x18,x19,x20,x21]],true⟩)) _
     simp (disch:=omega) only[sx,Value.oneCell',↓reduceIte,Nat.reduceAdd,Nat.reduceMul,Nat.reduceEqDiff,Nat.reduceLT,Nat.reduceLeDiff,Int.reduceToNat,Int.reduceEq,Int.reduceLT,Int.reduceLE,Int.reduceNe,e16,h0,h1,h2,d0,d2,n01,n02,n10,n12,n20,n21]
     first|exact⟨rfl,.inl trivial⟩|exact⟨rfl,.inl rfl⟩|exact⟨trivial,.inl trivial⟩|exact .inl trivial|exact .inl rfl|exact⟨rfl,.inr rfl⟩|trivial|exact⟨rfl,by simp⟩|simp
   ·cases ho
    have lA:=(hcc 0 2 rfl).1 (hms 3 2 (by decide +kernel))
    have e64:A8 run14_ops run14_ops.size (Dd x0 x1 x2 x3 x4 x5 x6 x7 x8 x9 x10 x11 x12 x13 x14 x15 x16 x17 x18 x19 x20 x21 q) tm (fun q=>decide (q<3)) 64=.own q:=by kernel_rfl
    generalize hT:A8 run14_ops run14_ops.size (Dd x0 x1 x2 x3 x4 x5 x6 x7 x8 x9 x10 x11 x12 x13 x14 x15 x16 x17 x18 x19 x20 x21 q) tm (fun q=>decide (q<3))=T at *
    have hcs:c=1:=by omega
    clear hcc hc lA
    rcases hcs with rfl
    ·refine .inl ?_
     show A7 Tryz.prog C ((nx)+3) (.assign (.tmp 64)) _ (AS.ev ⟨T,fun _=>none,0⟩) (upd hp b10 (some ⟨33,[[x0,x1,x2,x3,x4,x5,x6,x7,x8,x9,x10,x11,x12,x13,x14,x15,x16,x17,x18,x19,x20,x21]],true⟩)) _
     simp (disch:=omega) only[sx,Value.oneCell',↓reduceIte,Nat.reduceAdd,Nat.reduceMul,Nat.reduceEqDiff,Nat.reduceLT,Nat.reduceLeDiff,Int.reduceToNat,Int.reduceEq,Int.reduceLT,Int.reduceLE,Int.reduceNe,e64,h0,h1,h2,d0,d2,n01,n02,n10,n12,n20,n21]
     first|exact⟨rfl,.inl trivial⟩|exact⟨rfl,.inl rfl⟩|exact⟨trivial,.inl trivial⟩|exact .inl trivial|exact .inl rfl|exact⟨rfl,.inr rfl⟩|trivial|exact⟨rfl,by simp⟩|simp
   ·cases ho
    have lA:=(hcc 0 2 rfl).1 (hms 4 2 (by decide +kernel))
    generalize hT:A8 run14_ops run14_ops.size (Dd x0 x1 x2 x3 x4 x5 x6 x7 x8 x9 x10 x11 x12 x13 x14 x15 x16 x17 x18 x19 x20 x21 q) tm (fun q=>decide (q<4))=T at *
    have hcs:c=1:=by omega
    clear hcc hc lA
    rcases hcs with rfl
    ·refine .inl ?_
     show A7 Tryz.prog C ((nx)+4) (.assign (.const (.int .i64 0))) _ (AS.ev ⟨T,fun _=>none,0⟩) (upd hp b10 (some ⟨33,[[x0,x1,x2,x3,x4,x5,x6,x7,x8,x9,x10,x11,x12,x13,x14,x15,x16,x17,x18,x19,x20,x21]],true⟩)) _
     simp (disch:=omega) only[sx,Value.oneCell',↓reduceIte,Nat.reduceAdd,Nat.reduceMul,Nat.reduceEqDiff,Nat.reduceLT,Nat.reduceLeDiff,Int.reduceToNat,Int.reduceEq,Int.reduceLT,Int.reduceLE,Int.reduceNe,h0,h1,h2,d0,d2,n01,n02,n10,n12,n20,n21]
     first|exact⟨rfl,.inl trivial⟩|exact⟨rfl,.inl rfl⟩|exact⟨trivial,.inl trivial⟩|exact .inl trivial|exact .inl rfl|exact⟨rfl,.inr rfl⟩|trivial|exact⟨rfl,by simp⟩|simp
 ·refine hq _ ?_ ?_ ?_
  ·rw[← r10];kernel_rfl
  ·kernel_rfl
  ·kernel_rfl
noncomputable def nxt3_ops:Array Oper:=((Tryz.f26.body.bind (Ge 3)).getD #[])
noncomputable def Ct(x0 x1 x2 x3 x4 x5 x6 x7 x8 x9 x10 x11 x12 x13 x14 x15 x16 x17 x18 x19 x20 x21 y0 y1 y2 y3 y4 y5 y6 y7 y8 y9 y10:AV)(er:Int):Nat→AV:=fun i =>
 [.agg [x0,x1,x2,x3,x4,x5,x6,x7,x8,x9,x10,x11,x12,x13,x14,x15,x16,x17,x18,x19,x20,x21],.agg [y0,y1,y2,y3,y4,y5,y6,y7,y8,y9,y10],gI er,.junk,.junk,gI er].getD i .und
set_option maxHeartbeats 4000000 in
theorem B0x{C:World→Prop}(Bs:Dj Tryz.prog C){tm:Nat→AV}{hp:Nat→Option A4}{nx:Nat}{Q:Exit→AS→Prop}{b5 b13 b10 b11:Nat}{x0 x1 x2 x3 x4 x5 x6 x7 x8 x9 x10 x11 x12 x13 x14 x15 x16 x17 x18 x19 x20 x21 y0 y1 y2 y3 y4 y5 y6 y7 y8 y9 y10:AV}{zs ys:List AV}{er:Int}(r5:tm 5=.pt b5 0 0)(r13:tm 13=.pt b13 0 0)(r10:tm 10=.pt b10 0 0)(r11:tm 11=.pt b11 0 0)(r14:tm 14=gI er)(h0:hp b5=some ⟨33,[[x0,x1,x2,x3,x4,x5,x6,x7,x8,x9,x10,x11,x12,x13,x14,x15,x16,x17,x18,x19,x20,x21]],true⟩)(h1:hp b13=some ⟨52,[[y0,y1,y2,y3,y4,y5,y6,y7,y8,y9,y10]],true⟩)(h2:hp b10=some ⟨33,[zs],true⟩)(h3:hp b11=some ⟨52,[ys],true⟩)(d0:zs.length=22)(d1:ys.length=11)(d2:zs.drop 22=[])(d3:ys.drop 11=[])(n01:¬ b5=b13)(n02:¬ b5=b10)(n03:¬ b5=b11)(n10:¬ b13=b5)(n12:¬ b13=b10)(n13:¬ b13=b11)(n20:¬ b10=b5)(n21:¬ b10=b13)(n23:¬ b10=b11)(n30:¬ b11=b5)(n31:¬ b11=b13)(n32:¬ b11=b10)
  (hq:∀ tm':Nat→AV,tm' 10=.pt b10 0 0→tm' 11=.pt b11 0 0→tm' 12=gI er→Q .normal ⟨tm',upd (upd hp b10 (some ⟨33,[[x0,x1,x2,x3,x4,x5,x6,x7,x8,x9,x10,x11,x12,x13,x14,x15,x16,x17,x18,x19,x20,x21]],true⟩)) b11 (some ⟨52,[[y0,y1,y2,y3,y4,y5,y6,y7,y8,y9,y10]],true⟩),nx+6⟩) :
  awp Tryz.prog C (.region 3 nxt3_ops true) Q ⟨tm,hp,nx⟩:=by
 have hO:Ord nxt3_ops nxt3_ops.size:=Fs (by kernel_rfl)
 refine Bx Bs (vs:=(Ct x0 x1 x2 x3 x4 x5 x6 x7 x8 x9 x10 x11 x12 x13 x14 x15 x16 x17 x18 x19 x20 x21 y0 y1 y2 y3 y4 y5 y6 y7 y8 y9 y10 er)) (ch:=[3,4]) (H:=fun c=>bif Nat.beq c 0 then hp else bif Nat.beq c 1 then upd hp b10 (some ⟨33,[[x0,x1,x2,x3,x4,x5,x6,x7,x8,x9,x10,x11,x12,x13,x14,x15,x16,x17,x18,x19,x20,x21]],true⟩) else upd (upd hp b10 (some ⟨33,[[x0,x1,x2,x3,x4,x5,x6,x7,x8,x9,x10,x11,x12,x13,x14,x15,x16,x17,x18,x19,x20,x21]],true⟩)) b11 (some ⟨52,[[y0,y1,y2,y3,y4,y5,y6,y7,y8,y9,y10]],true⟩)) (B:=fun c=>nx) hO ?_ ?_
 ·refine⟨rfl,rfl, ?_, ?_,by simp, ?_, ?_, ?_, ?_⟩
  ·intro c hc
   have hc:c≤2:=hc
   have:c=0∨c=1∨c=2:=by omega
   rcases this with rfl|rfl|rfl<;>first|exact Nat.le_refl _|exact Nat.le_refl _
  ·intro h hh
   simp only[List.mem_cons,List.not_mem_nil,or_false] at hh
   rcases hh with rfl|rfl<;>exact Nat.le_of_ble_eq_true (by kernel_rfl)
  ·have hms:=Ao (ops:=nxt3_ops) nxt3_ops.toList [] (fun j=>by simp) (fun j i hb=>by simp at hb)
   intro m h h' hm hm'
   have hlt:m+1<2:=by have:=(List.getElem?_eq_some_iff.1 hm').1;simpa using this
   have:m=0:=by omega
   rcases this with rfl
   ·cases hm;cases hm';exact hms 4 3 (by decide +kernel)
  ·intro o ho
   have:(nxt3_ops.toList.all fun o=>o.guard.isNone)=true:=by kernel_rfl
   have:=List.all_eq_true.1 this o ho
   simpa using this
  ·intro m h o hm ho
   have hlt:m<2:=by have:=(List.getElem?_eq_some_iff.1 hm).1;simpa using this
   have:m=0∨m=1:=by omega
   rcases this with rfl|rfl
   ·cases (show some 3=some h from hm)
    cases ho
    have e10:A8 nxt3_ops nxt3_ops.size (Ct x0 x1 x2 x3 x4 x5 x6 x7 x8 x9 x10 x11 x12 x13 x14 x15 x16 x17 x18 x19 x20 x21 y0 y1 y2 y3 y4 y5 y6 y7 y8 y9 y10 er) tm (fun q=>decide (q<3)) 10=.pt b10 0 0:=by rw[← r10];kernel_rfl
    have e27:A8 nxt3_ops nxt3_ops.size (Ct x0 x1 x2 x3 x4 x5 x6 x7 x8 x9 x10 x11 x12 x13 x14 x15 x16 x17 x18 x19 x20 x21 y0 y1 y2 y3 y4 y5 y6 y7 y8 y9 y10 er) tm (fun q=>decide (q<3)) 27=.agg [x0,x1,x2,x3,x4,x5,x6,x7,x8,x9,x10,x11,x12,x13,x14,x15,x16,x17,x18,x19,x20,x21]:=by kernel_rfl
    generalize hT:A8 nxt3_ops nxt3_ops.size (Ct x0 x1 x2 x3 x4 x5 x6 x7 x8 x9 x10 x11 x12 x13 x14 x15 x16 x17 x18 x19 x20 x21 y0 y1 y2 y3 y4 y5 y6 y7 y8 y9 y10 er) tm (fun q=>decide (q<3))=T at *
    refine .inl ⟨.set b10 ⟨33,[[x0,x1,x2,x3,x4,x5,x6,x7,x8,x9,x10,x11,x12,x13,x14,x15,x16,x17,x18,x19,x20,x21]],true⟩, ?_,rfl,rfl⟩
    show A7 Tryz.prog C ((nx)+3) (.store 33 (.tmp 10) (.tmp 27)) _ (AS.ev ⟨T,fun _=>none,0⟩) (hp) _
    simp (disch:=omega) only[sx,Value.oneCell',↓reduceIte,Nat.reduceAdd,Nat.reduceMul,Nat.reduceEqDiff,Nat.reduceLT,Nat.reduceLeDiff,Int.reduceToNat,Int.reduceEq,Int.reduceLT,Int.reduceLE,Int.reduceNe,e10,e27,h0,h1,h2,h3,d0,d1,d2,d3,n01,n02,n03,n10,n12,n13,n20,n21,n23,n30,n31,n32]
    first|exact⟨rfl,rfl⟩|trivial|rfl|exact⟨by omega,rfl⟩|exact⟨by omega,rfl,rfl⟩
   ·cases (show some 4=some h from hm)
    cases ho
    have e11:A8 nxt3_ops nxt3_ops.size (Ct x0 x1 x2 x3 x4 x5 x6 x7 x8 x9 x10 x11 x12 x13 x14 x15 x16 x17 x18 x19 x20 x21 y0 y1 y2 y3 y4 y5 y6 y7 y8 y9 y10 er) tm (fun q=>decide (q<4)) 11=.pt b11 0 0:=by rw[← r11];kernel_rfl
    have e28:A8 nxt3_ops nxt3_ops.size (Ct x0 x1 x2 x3 x4 x5 x6 x7 x8 x9 x10 x11 x12 x13 x14 x15 x16 x17 x18 x19 x20 x21 y0 y1 y2 y3 y4 y5 y6 y7 y8 y9 y10 er) tm (fun q=>decide (q<4)) 28=.agg [y0,y1,y2,y3,y4,y5,y6,y7,y8,y9,y10]:=by kernel_rfl
    generalize hT:A8 nxt3_ops nxt3_ops.size (Ct x0 x1 x2 x3 x4 x5 x6 x7 x8 x9 x10 x11 x12 x13 x14 x15 x16 x17 x18 x19 x20 x21 y0 y1 y2 y3 y4 y5 y6 y7 y8 y9 y10 er) tm (fun q=>decide (q<4))=T at *
    refine .inl ⟨.set b11 ⟨52,[[y0,y1,y2,y3,y4,y5,y6,y7,y8,y9,y10]],true⟩, ?_,rfl,rfl⟩
    show A7 Tryz.prog C ((nx)+4) (.store 52 (.tmp 11) (.tmp 28)) _ (AS.ev ⟨T,fun _=>none,0⟩) (upd hp b10 (some ⟨33,[[x0,x1,x2,x3,x4,x5,x6,x7,x8,x9,x10,x11,x12,x13,x14,x15,x16,x17,x18,x19,x20,x21]],true⟩)) _
    simp (disch:=omega) only[sx,Value.oneCell',↓reduceIte,Nat.reduceAdd,Nat.reduceMul,Nat.reduceEqDiff,Nat.reduceLT,Nat.reduceLeDiff,Int.reduceToNat,Int.reduceEq,Int.reduceLT,Int.reduceLE,Int.reduceNe,e11,e28,h0,h1,h2,h3,d0,d1,d2,d3,n01,n02,n03,n10,n12,n13,n20,n21,n23,n30,n31,n32]
    first|exact⟨rfl,rfl⟩|trivial|rfl|exact⟨by omega,rfl⟩|exact⟨by omega,rfl,rfl⟩
  ·have hms:=Ao (ops:=nxt3_ops) nxt3_ops.toList [] (fun j=>by simp) (fun j i hb=>by simp at hb)
   intro i o ho hni c hc hcc
   have hc:c≤2:=hc
   have hi:i<6:=(Array.getElem?_eq_some_iff.1 ho).1
   have hi':i=0∨i=1∨i=2∨i=5:=by
    have:i≠3∧i≠4:=by simpa using hni
    omega
   clear hi
   rcases hi' with rfl|rfl|rfl|rfl
   ·cases ho
    have lB:=(hcc 0 3 rfl).2 (hms 3 0 (by decide +kernel))
    have e5:A8 nxt3_ops nxt3_ops.size (Ct x0 x1 x2 x3 x4 x5 x6 x7 x8 x9 x10 x11 x12 x13 x14 x15 x16 x17 x18 x19 x20 x21 y0 y1 y2 y3 y4 y5 y6 y7 y8 y9 y10 er) tm (fun q=>decide (q<0)) 5=.pt b5 0 0:=by rw[← r5];kernel_rfl
    generalize hT:A8 nxt3_ops nxt3_ops.size (Ct x0 x1 x2 x3 x4 x5 x6 x7 x8 x9 x10 x11 x12 x13 x14 x15 x16 x17 x18 x19 x20 x21 y0 y1 y2 y3 y4 y5 y6 y7 y8 y9 y10 er) tm (fun q=>decide (q<0))=T at *
    have hcs:c=0:=by omega
    clear hcc hc lB
    rcases hcs with rfl
    ·refine .inl ?_
     show A7 Tryz.prog C ((nx)+0) (.load 33 (.tmp 5)) _ (AS.ev ⟨T,fun _=>none,0⟩) (hp) _
     simp (disch:=omega) only[sx,Value.oneCell',↓reduceIte,Nat.reduceAdd,Nat.reduceMul,Nat.reduceEqDiff,Nat.reduceLT,Nat.reduceLeDiff,Int.reduceToNat,Int.reduceEq,Int.reduceLT,Int.reduceLE,Int.reduceNe,e5,h0,h1,h2,h3,d0,d1,d2,d3,n01,n02,n03,n10,n12,n13,n20,n21,n23,n30,n31,n32]
     first|exact⟨rfl,.inl trivial⟩|exact⟨rfl,.inl rfl⟩|exact⟨trivial,.inl trivial⟩|exact .inl trivial|exact .inl rfl|exact⟨rfl,.inr rfl⟩|trivial|exact⟨rfl,by simp⟩|simp
   ·cases ho
    have lB:=(hcc 1 4 rfl).2 (hms 4 1 (by decide +kernel))
    have e13:A8 nxt3_ops nxt3_ops.size (Ct x0 x1 x2 x3 x4 x5 x6 x7 x8 x9 x10 x11 x12 x13 x14 x15 x16 x17 x18 x19 x20 x21 y0 y1 y2 y3 y4 y5 y6 y7 y8 y9 y10 er) tm (fun q=>decide (q<1)) 13=.pt b13 0 0:=by rw[← r13];kernel_rfl
    generalize hT:A8 nxt3_ops nxt3_ops.size (Ct x0 x1 x2 x3 x4 x5 x6 x7 x8 x9 x10 x11 x12 x13 x14 x15 x16 x17 x18 x19 x20 x21 y0 y1 y2 y3 y4 y5 y6 y7 y8 y9 y10 er) tm (fun q=>decide (q<1))=T at *
    have hcs:c=0∨c=1:=by omega
    clear hcc hc lB
    rcases hcs with rfl|rfl
    ·refine .inl ?_
     show A7 Tryz.prog C ((nx)+1) (.load 52 (.tmp 13)) _ (AS.ev ⟨T,fun _=>none,0⟩) (hp) _
     simp (disch:=omega) only[sx,Value.oneCell',↓reduceIte,Nat.reduceAdd,Nat.reduceMul,Nat.reduceEqDiff,Nat.reduceLT,Nat.reduceLeDiff,Int.reduceToNat,Int.reduceEq,Int.reduceLT,Int.reduceLE,Int.reduceNe,e13,h0,h1,h2,h3,d0,d1,d2,d3,n01,n02,n03,n10,n12,n13,n20,n21,n23,n30,n31,n32]
     first|exact⟨rfl,.inl trivial⟩|exact⟨rfl,.inl rfl⟩|exact⟨trivial,.inl trivial⟩|exact .inl trivial|exact .inl rfl|exact⟨rfl,.inr rfl⟩|trivial|exact⟨rfl,by simp⟩|simp
    ·refine .inl ?_
     show A7 Tryz.prog C ((nx)+1) (.load 52 (.tmp 13)) _ (AS.ev ⟨T,fun _=>none,0⟩) (upd hp b10 (some ⟨33,[[x0,x1,x2,x3,x4,x5,x6,x7,x8,x9,x10,x11,x12,x13,x14,x15,x16,x17,x18,x19,x20,x21]],true⟩)) _
     simp (disch:=omega) only[sx,Value.oneCell',↓reduceIte,Nat.reduceAdd,Nat.reduceMul,Nat.reduceEqDiff,Nat.reduceLT,Nat.reduceLeDiff,Int.reduceToNat,Int.reduceEq,Int.reduceLT,Int.reduceLE,Int.reduceNe,e13,h0,h1,h2,h3,d0,d1,d2,d3,n01,n02,n03,n10,n12,n13,n20,n21,n23,n30,n31,n32]
     first|exact⟨rfl,.inl trivial⟩|exact⟨rfl,.inl rfl⟩|exact⟨trivial,.inl trivial⟩|exact .inl trivial|exact .inl rfl|exact⟨rfl,.inr rfl⟩|trivial|exact⟨rfl,by simp⟩|simp
   ·cases ho
    have e14:A8 nxt3_ops nxt3_ops.size (Ct x0 x1 x2 x3 x4 x5 x6 x7 x8 x9 x10 x11 x12 x13 x14 x15 x16 x17 x18 x19 x20 x21 y0 y1 y2 y3 y4 y5 y6 y7 y8 y9 y10 er) tm (fun q=>decide (q<2)) 14=gI er:=by rw[← r14];kernel_rfl
    generalize hT:A8 nxt3_ops nxt3_ops.size (Ct x0 x1 x2 x3 x4 x5 x6 x7 x8 x9 x10 x11 x12 x13 x14 x15 x16 x17 x18 x19 x20 x21 y0 y1 y2 y3 y4 y5 y6 y7 y8 y9 y10 er) tm (fun q=>decide (q<2))=T at *
    have hcs:c=0∨c=1∨c=2:=by omega
    clear hcc hc
    rcases hcs with rfl|rfl|rfl
    ·refine .inl ?_
     show A7 Tryz.prog C ((nx)+2) (.move (.tmp 14)) _ (AS.ev ⟨T,fun _=>none,0⟩) (hp) _
     simp (disch:=omega) only[sx,Value.oneCell',↓reduceIte,Nat.reduceAdd,Nat.reduceMul,Nat.reduceEqDiff,Nat.reduceLT,Nat.reduceLeDiff,Int.reduceToNat,Int.reduceEq,Int.reduceLT,Int.reduceLE,Int.reduceNe,e14,h0,h1,h2,h3,d0,d1,d2,d3,n01,n02,n03,n10,n12,n13,n20,n21,n23,n30,n31,n32]
     first|exact⟨rfl,.inl trivial⟩|exact⟨rfl,.inl rfl⟩|exact⟨trivial,.inl trivial⟩|exact .inl trivial|exact .inl rfl|exact⟨rfl,.inr rfl⟩|trivial|exact⟨rfl,by simp⟩|simp
    ·refine .inl ?_
     show A7 Tryz.prog C ((nx)+2) (.move (.tmp 14)) _ (AS.ev ⟨T,fun _=>none,0⟩) (upd hp b10 (some ⟨33,[[x0,x1,x2,x3,x4,x5,x6,x7,x8,x9,x10,x11,x12,x13,x14,x15,x16,x17,x18,x19,x20,x21]],true⟩)) _
     simp (disch:=omega) only[sx,Value.oneCell',↓reduceIte,Nat.reduceAdd,Nat.reduceMul,Nat.reduceEqDiff,Nat.reduceLT,Nat.reduceLeDiff,Int.reduceToNat,Int.reduceEq,Int.reduceLT,Int.reduceLE,Int.reduceNe,e14,h0,h1,h2,h3,d0,d1,d2,d3,n01,n02,n03,n10,n12,n13,n20,n21,n23,n30,n31,n32]
     first|exact⟨rfl,.inl trivial⟩|exact⟨rfl,.inl rfl⟩|exact⟨trivial,.inl trivial⟩|exact .inl trivial|exact .inl rfl|exact⟨rfl,.inr rfl⟩|trivial|exact⟨rfl,by simp⟩|simp
    ·refine .inl ?_
     show A7 Tryz.prog C ((nx)+2) (.move (.tmp 14)) _ (AS.ev ⟨T,fun _=>none,0⟩) (upd (upd hp b10 (some ⟨33,[[x0,x1,x2,x3,x4,x5,x6,x7,x8,x9,x10,x11,x12,x13,x14,x15,x16,x17,x18,x19,x20,x21]],true⟩)) b11 (some ⟨52,[[y0,y1,y2,y3,y4,y5,y6,y7,y8,y9,y10]],true⟩)) _
     simp (disch:=omega) only[sx,Value.oneCell',↓reduceIte,Nat.reduceAdd,Nat.reduceMul,Nat.reduceEqDiff,Nat.reduceLT,Nat.reduceLeDiff,Int.reduceToNat,Int.reduceEq,Int.reduceLT,Int.reduceLE,Int.reduceNe,e14,h0,h1,h2,h3,d0,d1,d2,d3,n01,n02,n03,n10,n12,n13,n20,n21,n23,n30,n31,n32]
     first|exact⟨rfl,.inl trivial⟩|exact⟨rfl,.inl rfl⟩|exact⟨trivial,.inl trivial⟩|exact .inl trivial|exact .inl rfl|exact⟨rfl,.inr rfl⟩|trivial|exact⟨rfl,by simp⟩|simp
   ·cases ho
    have lA:=(hcc 1 4 rfl).1 (hms 5 4 (by decide +kernel))
    have e29:A8 nxt3_ops nxt3_ops.size (Ct x0 x1 x2 x3 x4 x5 x6 x7 x8 x9 x10 x11 x12 x13 x14 x15 x16 x17 x18 x19 x20 x21 y0 y1 y2 y3 y4 y5 y6 y7 y8 y9 y10 er) tm (fun q=>decide (q<5)) 29=gI er:=by kernel_rfl
    generalize hT:A8 nxt3_ops nxt3_ops.size (Ct x0 x1 x2 x3 x4 x5 x6 x7 x8 x9 x10 x11 x12 x13 x14 x15 x16 x17 x18 x19 x20 x21 y0 y1 y2 y3 y4 y5 y6 y7 y8 y9 y10 er) tm (fun q=>decide (q<5))=T at *
    have hcs:c=2:=by omega
    clear hcc hc lA
    rcases hcs with rfl
    ·refine .inl ?_
     show A7 Tryz.prog C ((nx)+5) (.assign (.tmp 29)) _ (AS.ev ⟨T,fun _=>none,0⟩) (upd (upd hp b10 (some ⟨33,[[x0,x1,x2,x3,x4,x5,x6,x7,x8,x9,x10,x11,x12,x13,x14,x15,x16,x17,x18,x19,x20,x21]],true⟩)) b11 (some ⟨52,[[y0,y1,y2,y3,y4,y5,y6,y7,y8,y9,y10]],true⟩)) _
     simp (disch:=omega) only[sx,Value.oneCell',↓reduceIte,Nat.reduceAdd,Nat.reduceMul,Nat.reduceEqDiff,Nat.reduceLT,Nat.reduceLeDiff,Int.reduceToNat,Int.reduceEq,Int.reduceLT,Int.reduceLE,Int.reduceNe,e29,h0,h1,h2,h3,d0,d1,d2,d3,n01,n02,n03,n10,n12,n13,n20,n21,n23,n30,n31,n32]
     first|exact⟨rfl,.inl trivial⟩|exact⟨rfl,.inl rfl⟩|exact⟨trivial,.inl trivial⟩|exact .inl trivial|exact .inl rfl|exact⟨rfl,.inr rfl⟩|trivial|exact⟨rfl,by simp⟩|simp
 ·refine hq _ ?_ ?_ ?_
  ·rw[← r10];kernel_rfl
  ·rw[← r11];kernel_rfl
  ·kernel_rfl
noncomputable def nxt8_ops:Array Oper:=((Tryz.f26.body.bind (Ge 8)).getD #[])
noncomputable def Cu(x0 x1 x2 x3 x4 x5 x6 x7 x8 x9 x10 x11 x12 x13 x14 x15 x16 x17 x18 x19 x20 x21 y0 y1 y2 y3 y4 y5 y6 y7 y8 y9 y10:AV)(er:Int):Nat→AV:=fun i =>
 [.agg [x0,x1,x2,x3,x4,x5,x6,x7,x8,x9,x10,x11,x12,x13,x14,x15,x16,x17,x18,x19,x20,x21],.agg [y0,y1,y2,y3,y4,y5,y6,y7,y8,y9,y10],gI er,.junk,.junk,gI er].getD i .und
set_option maxHeartbeats 4000000 in
theorem B0y{C:World→Prop}(Bs:Dj Tryz.prog C){tm:Nat→AV}{hp:Nat→Option A4}{nx:Nat}{Q:Exit→AS→Prop}{b5 b13 b10 b11:Nat}{x0 x1 x2 x3 x4 x5 x6 x7 x8 x9 x10 x11 x12 x13 x14 x15 x16 x17 x18 x19 x20 x21 y0 y1 y2 y3 y4 y5 y6 y7 y8 y9 y10:AV}{zs ys:List AV}{er:Int}(r5:tm 5=.pt b5 0 0)(r13:tm 13=.pt b13 0 0)(r10:tm 10=.pt b10 0 0)(r11:tm 11=.pt b11 0 0)(r14:tm 14=gI er)(h0:hp b5=some ⟨33,[[x0,x1,x2,x3,x4,x5,x6,x7,x8,x9,x10,x11,x12,x13,x14,x15,x16,x17,x18,x19,x20,x21]],true⟩)(h1:hp b13=some ⟨52,[[y0,y1,y2,y3,y4,y5,y6,y7,y8,y9,y10]],true⟩)(h2:hp b10=some ⟨33,[zs],true⟩)(h3:hp b11=some ⟨52,[ys],true⟩)(d0:zs.length=22)(d1:ys.length=11)(d2:zs.drop 22=[])(d3:ys.drop 11=[])(n01:¬ b5=b13)(n02:¬ b5=b10)(n03:¬ b5=b11)(n10:¬ b13=b5)(n12:¬ b13=b10)(n13:¬ b13=b11)(n20:¬ b10=b5)(n21:¬ b10=b13)(n23:¬ b10=b11)(n30:¬ b11=b5)(n31:¬ b11=b13)(n32:¬ b11=b10)
  (hq:∀ tm':Nat→AV,tm' 10=.pt b10 0 0→tm' 11=.pt b11 0 0→tm' 12=gI er→Q .normal ⟨tm',upd (upd hp b10 (some ⟨33,[[x0,x1,x2,x3,x4,x5,x6,x7,x8,x9,x10,x11,x12,x13,x14,x15,x16,x17,x18,x19,x20,x21]],true⟩)) b11 (some ⟨52,[[y0,y1,y2,y3,y4,y5,y6,y7,y8,y9,y10]],true⟩),nx+6⟩) :
  awp Tryz.prog C (.region 8 nxt8_ops true) Q ⟨tm,hp,nx⟩:=by
 have hO:Ord nxt8_ops nxt8_ops.size:=Fs (by kernel_rfl)
 refine Bx Bs (vs:=(Cu x0 x1 x2 x3 x4 x5 x6 x7 x8 x9 x10 x11 x12 x13 x14 x15 x16 x17 x18 x19 x20 x21 y0 y1 y2 y3 y4 y5 y6 y7 y8 y9 y10 er)) (ch:=[3,4]) (H:=fun c=>bif Nat.beq c 0 then hp else bif Nat.beq c 1 then upd hp b10 (some ⟨33,[[x0,x1,x2,x3,x4,x5,x6,x7,x8,x9,x10,x11,x12,x13,x14,x15,x16,x17,x18,x19,x20,x21]],true⟩) else upd (upd hp b10 (some ⟨33,[[x0,x1,x2,x3,x4,x5,x6,x7,x8,x9,x10,x11,x12,x13,x14,x15,x16,x17,x18,x19,x20,x21]],true⟩)) b11 (some ⟨52,[[y0,y1,y2,y3,y4,y5,y6,y7,y8,y9,y10]],true⟩)) (B:=fun c=>nx) hO ?_ ?_
 ·refine⟨rfl,rfl, ?_, ?_,by simp, ?_, ?_, ?_, ?_⟩
  ·intro c hc
   have hc:c≤2:=hc
   have:c=0∨c=1∨c=2:=by omega
   rcases this with rfl|rfl|rfl<;>first|exact Nat.le_refl _|exact Nat.le_refl _
  ·intro h hh
   simp only[List.mem_cons,List.not_mem_nil,or_false] at hh
   rcases hh with rfl|rfl<;>exact Nat.le_of_ble_eq_true (by kernel_rfl)
  ·have hms:=Ao (ops:=nxt8_ops) nxt8_ops.toList [] (fun j=>by simp) (fun j i hb=>by simp at hb)
   intro m h h' hm hm'
   have hlt:m+1<2:=by have:=(List.getElem?_eq_some_iff.1 hm').1;simpa using this
   have:m=0:=by omega
   rcases this with rfl
   ·cases hm;cases hm';exact hms 4 3 (by decide +kernel)
  ·intro o ho
   have:(nxt8_ops.toList.all fun o=>o.guard.isNone)=true:=by kernel_rfl
   have:=List.all_eq_true.1 this o ho
   simpa using this
  ·intro m h o hm ho
   have hlt:m<2:=by have:=(List.getElem?_eq_some_iff.1 hm).1;simpa using this
   have:m=0∨m=1:=by omega
   rcases this with rfl|rfl
   ·cases (show some 3=some h from hm)
    cases ho
    have e10:A8 nxt8_ops nxt8_ops.size (Cu x0 x1 x2 x3 x4 x5 x6 x7 x8 x9 x10 x11 x12 x13 x14 x15 x16 x17 x18 x19 x20 x21 y0 y1 y2 y3 y4 y5 y6 y7 y8 y9 y10 er) tm (fun q=>decide (q<3)) 10=.pt b10 0 0:=by rw[← r10];kernel_rfl
    have e47:A8 nxt8_ops nxt8_ops.size (Cu x0 x1 x2 x3 x4 x5 x6 x7 x8 x9 x10 x11 x12 x13 x14 x15 x16 x17 x18 x19 x20 x21 y0 y1 y2 y3 y4 y5 y6 y7 y8 y9 y10 er) tm (fun q=>decide (q<3)) 47=.agg [x0,x1,x2,x3,x4,x5,x6,x7,x8,x9,x10,x11,x12,x13,x14,x15,x16,x17,x18,x19,x20,x21]:=by kernel_rfl
    generalize hT:A8 nxt8_ops nxt8_ops.size (Cu x0 x1 x2 x3 x4 x5 x6 x7 x8 x9 x10 x11 x12 x13 x14 x15 x16 x17 x18 x19 x20 x21 y0 y1 y2 y3 y4 y5 y6 y7 y8 y9 y10 er) tm (fun q=>decide (q<3))=T at *
    refine .inl ⟨.set b10 ⟨33,[[x0,x1,x2,x3,x4,x5,x6,x7,x8,x9,x10,x11,x12,x13,x14,x15,x16,x17,x18,x19,x20,x21]],true⟩, ?_,rfl,rfl⟩
    show A7 Tryz.prog C ((nx)+3) (.store 33 (.tmp 10) (.tmp 47)) _ (AS.ev ⟨T,fun _=>none,0⟩) (hp) _
    simp (disch:=omega) only[sx,Value.oneCell',↓reduceIte,Nat.reduceAdd,Nat.reduceMul,Nat.reduceEqDiff,Nat.reduceLT,Nat.reduceLeDiff,Int.reduceToNat,Int.reduceEq,Int.reduceLT,Int.reduceLE,Int.reduceNe,e10,e47,h0,h1,h2,h3,d0,d1,d2,d3,n01,n02,n03,n10,n12,n13,n20,n21,n23,n30,n31,n32]
    first|exact⟨rfl,rfl⟩|trivial|rfl|exact⟨by omega,rfl⟩|exact⟨by omega,rfl,rfl⟩
   ·cases (show some 4=some h from hm)
    cases ho
    have e11:A8 nxt8_ops nxt8_ops.size (Cu x0 x1 x2 x3 x4 x5 x6 x7 x8 x9 x10 x11 x12 x13 x14 x15 x16 x17 x18 x19 x20 x21 y0 y1 y2 y3 y4 y5 y6 y7 y8 y9 y10 er) tm (fun q=>decide (q<4)) 11=.pt b11 0 0:=by rw[← r11];kernel_rfl
    have e48:A8 nxt8_ops nxt8_ops.size (Cu x0 x1 x2 x3 x4 x5 x6 x7 x8 x9 x10 x11 x12 x13 x14 x15 x16 x17 x18 x19 x20 x21 y0 y1 y2 y3 y4 y5 y6 y7 y8 y9 y10 er) tm (fun q=>decide (q<4)) 48=.agg [y0,y1,y2,y3,y4,y5,y6,y7,y8,y9,y10]:=by kernel_rfl
    generalize hT:A8 nxt8_ops nxt8_ops.size (Cu x0 x1 x2 x3 x4 x5 x6 x7 x8 x9 x10 x11 x12 x13 x14 x15 x16 x17 x18 x19 x20 x21 y0 y1 y2 y3 y4 y5 y6 y7 y8 y9 y10 er) tm (fun q=>decide (q<4))=T at *
    refine .inl ⟨.set b11 ⟨52,[[y0,y1,y2,y3,y4,y5,y6,y7,y8,y9,y10]],true⟩, ?_,rfl,rfl⟩
    show A7 Tryz.prog C ((nx)+4) (.store 52 (.tmp 11) (.tmp 48)) _ (AS.ev ⟨T,fun _=>none,0⟩) (upd hp b10 (some ⟨33,[[x0,x1,x2,x3,x4,x5,x6,x7,x8,x9,x10,x11,x12,x13,x14,x15,x16,x17,x18,x19,x20,x21]],true⟩)) _
    simp (disch:=omega) only[sx,Value.oneCell',↓reduceIte,Nat.reduceAdd,Nat.reduceMul,Nat.reduceEqDiff,Nat.reduceLT,Nat.reduceLeDiff,Int.reduceToNat,Int.reduceEq,Int.reduceLT,Int.reduceLE,Int.reduceNe,e11,e48,h0,h1,h2,h3,d0,d1,d2,d3,n01,n02,n03,n10,n12,n13,n20,n21,n23,n30,n31,n32]
    first|exact⟨rfl,rfl⟩|trivial|rfl|exact⟨by omega,rfl⟩|exact⟨by omega,rfl,rfl⟩
  ·have hms:=Ao (ops:=nxt8_ops) nxt8_ops.toList [] (fun j=>by simp) (fun j i hb=>by simp at hb)
   intro i o ho hni c hc hcc
   have hc:c≤2:=hc
   have hi:i<6:=(Array.getElem?_eq_some_iff.1 ho).1
   have hi':i=0∨i=1∨i=2∨i=5:=by
    have:i≠3∧i≠4:=by simpa using hni
    omega
   clear hi
   rcases hi' with rfl|rfl|rfl|rfl
   ·cases ho
    have lB:=(hcc 0 3 rfl).2 (hms 3 0 (by decide +kernel))
    have e5:A8 nxt8_ops nxt8_ops.size (Cu x0 x1 x2 x3 x4 x5 x6 x7 x8 x9 x10 x11 x12 x13 x14 x15 x16 x17 x18 x19 x20 x21 y0 y1 y2 y3 y4 y5 y6 y7 y8 y9 y10 er) tm (fun q=>decide (q<0)) 5=.pt b5 0 0:=by rw[← r5];kernel_rfl
    generalize hT:A8 nxt8_ops nxt8_ops.size (Cu x0 x1 x2 x3 x4 x5 x6 x7 x8 x9 x10 x11 x12 x13 x14 x15 x16 x17 x18 x19 x20 x21 y0 y1 y2 y3 y4 y5 y6 y7 y8 y9 y10 er) tm (fun q=>decide (q<0))=T at *
    have hcs:c=0:=by omega
    clear hcc hc lB
    rcases hcs with rfl
    ·refine .inl ?_
     show A7 Tryz.prog C ((nx)+0) (.load 33 (.tmp 5)) _ (AS.ev ⟨T,fun _=>none,0⟩) (hp) _
     simp (disch:=omega) only[sx,Value.oneCell',↓reduceIte,Nat.reduceAdd,Nat.reduceMul,Nat.reduceEqDiff,Nat.reduceLT,Nat.reduceLeDiff,Int.reduceToNat,Int.reduceEq,Int.reduceLT,Int.reduceLE,Int.reduceNe,e5,h0,h1,h2,h3,d0,d1,d2,d3,n01,n02,n03,n10,n12,n13,n20,n21,n23,n30,n31,n32]
     first|exact⟨rfl,.inl trivial⟩|exact⟨rfl,.inl rfl⟩|exact⟨trivial,.inl trivial⟩|exact .inl trivial|exact .inl rfl|exact⟨rfl,.inr rfl⟩|trivial|exact⟨rfl,by simp⟩|simp
   ·cases ho
    have lB:=(hcc 1 4 rfl).2 (hms 4 1 (by decide +kernel))
    have e13:A8 nxt8_ops nxt8_ops.size (Cu x0 x1 x2 x3 x4 x5 x6 x7 x8 x9 x10 x11 x12 x13 x14 x15 x16 x17 x18 x19 x20 x21 y0 y1 y2 y3 y4 y5 y6 y7 y8 y9 y10 er) tm (fun q=>decide (q<1)) 13=.pt b13 0 0:=by rw[← r13];kernel_rfl
    generalize hT:A8 nxt8_ops nxt8_ops.size (Cu x0 x1 x2 x3 x4 x5 x6 x7 x8 x9 x10 x11 x12 x13 x14 x15 x16 x17 x18 x19 x20 x21 y0 y1 y2 y3 y4 y5 y6 y7 y8 y9 y10 er) tm (fun q=>decide (q<1))=T at *
    have hcs:c=0∨c=1:=by omega
    clear hcc hc lB
    rcases hcs with rfl|rfl
    ·refine .inl ?_
     show A7 Tryz.prog C ((nx)+1) (.load 52 (.tmp 13)) _ (AS.ev ⟨T,fun _=>none,0⟩) (hp) _
     simp (disch:=omega) only[sx,Value.oneCell',↓reduceIte,Nat.reduceAdd,Nat.reduceMul,Nat.reduceEqDiff,Nat.reduceLT,Nat.reduceLeDiff,Int.reduceToNat,Int.reduceEq,Int.reduceLT,Int.reduceLE,Int.reduceNe,e13,h0,h1,h2,h3,d0,d1,d2,d3,n01,n02,n03,n10,n12,n13,n20,n21,n23,n30,n31,n32]
     first|exact⟨rfl,.inl trivial⟩|exact⟨rfl,.inl rfl⟩|exact⟨trivial,.inl trivial⟩|exact .inl trivial|exact .inl rfl|exact⟨rfl,.inr rfl⟩|trivial|exact⟨rfl,by simp⟩|simp
    ·refine .inl ?_
     show A7 Tryz.prog C ((nx)+1) (.load 52 (.tmp 13)) _ (AS.ev ⟨T,fun _=>none,0⟩) (upd hp b10 (some ⟨33,[[x0,x1,x2,x3,x4,x5,x6,x7,x8,x9,x10,x11,x12,x13,x14,x15,x16,x17,x18,x19,x20,x21]],true⟩)) _
     simp (disch:=omega) only[sx,Value.oneCell',↓reduceIte,Nat.reduceAdd,Nat.reduceMul,Nat.reduceEqDiff,Nat.reduceLT,Nat.reduceLeDiff,Int.reduceToNat,Int.reduceEq,Int.reduceLT,Int.reduceLE,Int.reduceNe,e13,h0,h1,h2,h3,d0,d1,d2,d3,n01,n02,n03,n10,n12,n13,n20,n21,n23,n30,n31,n32]
     first|exact⟨rfl,.inl trivial⟩|exact⟨rfl,.inl rfl⟩|exact⟨trivial,.inl trivial⟩|exact .inl trivial|exact .inl rfl|exact⟨rfl,.inr rfl⟩|trivial|exact⟨rfl,by simp⟩|simp
   ·cases ho
    have e14:A8 nxt8_ops nxt8_ops.size (Cu x0 x1 x2 x3 x4 x5 x6 x7 x8 x9 x10 x11 x12 x13 x14 x15 x16 x17 x18 x19 x20 x21 y0 y1 y2 y3 y4 y5 y6 y7 y8 y9 y10 er) tm (fun q=>decide (q<2)) 14=gI er:=by rw[← r14];kernel_rfl
    generalize hT:A8 nxt8_ops nxt8_ops.size (Cu x0 x1 x2 x3 x4 x5 x6 x7 x8 x9 x10 x11 x12 x13 x14 x15 x16 x17 x18 x19 x20 x21 y0 y1 y2 y3 y4 y5 y6 y7 y8 y9 y10 er) tm (fun q=>decide (q<2))=T at *
    have hcs:c=0∨c=1∨c=2:=by omega
    clear hcc hc
    rcases hcs with rfl|rfl|rfl
    ·refine .inl ?_
     show A7 Tryz.prog C ((nx)+2) (.move (.tmp 14)) _ (AS.ev ⟨T,fun _=>none,0⟩) (hp) _
     simp (disch:=omega) only[sx,Value.oneCell',↓reduceIte,Nat.reduceAdd,Nat.reduceMul,Nat.reduceEqDiff,Nat.reduceLT,Nat.reduceLeDiff,Int.reduceToNat,Int.reduceEq,Int.reduceLT,Int.reduceLE,Int.reduceNe,e14,h0,h1,h2,h3,d0,d1,d2,d3,n01,n02,n03,n10,n12,n13,n20,n21,n23,n30,n31,n32]
     first|exact⟨rfl,.inl trivial⟩|exact⟨rfl,.inl rfl⟩|exact⟨trivial,.inl trivial⟩|exact .inl trivial|exact .inl rfl|exact⟨rfl,.inr rfl⟩|trivial|exact⟨rfl,by simp⟩|simp
    ·refine .inl ?_
     show A7 Tryz.prog C ((nx)+2) (.move (.tmp 14)) _ (AS.ev ⟨T,fun _=>none,0⟩) (upd hp b10 (some ⟨33,[[x0,x1,x2,x3,x4,x5,x6,x7,x8,x9,x10,x11,x12,x13,x14,x15,x16,x17,x18,x19,x20,x21]],true⟩)) _
     simp (disch:=omega) only[sx,Value.oneCell',↓reduceIte,Nat.reduceAdd,Nat.reduceMul,Nat.reduceEqDiff,Nat.reduceLT,Nat.reduceLeDiff,Int.reduceToNat,Int.reduceEq,Int.reduceLT,Int.reduceLE,Int.reduceNe,e14,h0,h1,h2,h3,d0,d1,d2,d3,n01,n02,n03,n10,n12,n13,n20,n21,n23,n30,n31,n32]
     first|exact⟨rfl,.inl trivial⟩|exact⟨rfl,.inl rfl⟩|exact⟨trivial,.inl trivial⟩|exact .inl trivial|exact .inl rfl|exact⟨rfl,.inr rfl⟩|trivial|exact⟨rfl,by simp⟩|simp
    ·refine .inl ?_
     show A7 Tryz.prog C ((nx)+2) (.move (.tmp 14)) _ (AS.ev ⟨T,fun _=>none,0⟩) (upd (upd hp b10 (some ⟨33,[[x0,x1,x2,x3,x4,x5,x6,x7,x8,x9,x10,x11,x12,x13,x14,x15,x16,x17,x18,x19,x20,x21]],true⟩)) b11 (some ⟨52,[[y0,y1,y2,y3,y4,y5,y6,y7,y8,y9,y10]],true⟩)) _
     simp (disch:=omega) only[sx,Value.oneCell',↓reduceIte,Nat.reduceAdd,Nat.reduceMul,Nat.reduceEqDiff,Nat.reduceLT,Nat.reduceLeDiff,Int.reduceToNat,Int.reduceEq,Int.reduceLT,Int.reduceLE,Int.reduceNe,e14,h0,h1,h2,h3,d0,d1,d2,d3,n01,n02,n03,n10,n12,n13,n20,n21,n23,n30,n31,n32]
     first|exact⟨rfl,.inl trivial⟩|exact⟨rfl,.inl rfl⟩|exact⟨trivial,.inl trivial⟩|exact .inl trivial|exact .inl rfl|exact⟨rfl,.inr rfl⟩|trivial|exact⟨rfl,by simp⟩|simp
   ·cases ho
    have lA:=(hcc 1 4 rfl).1 (hms 5 4 (by decide +kernel))
    have e49:A8 nxt8_ops nxt8_ops.size (Cu x0 x1 x2 x3 x4 x5 x6 x7 x8 x9 x10 x11 x12 x13 x14 x15 x16 x17 x18 x19 x20 x21 y0 y1 y2 y3 y4 y5 y6 y7 y8 y9 y10 er) tm (fun q=>decide (q<5)) 49=gI er:=by kernel_rfl
    generalize hT:A8 nxt8_ops nxt8_ops.size (Cu x0 x1 x2 x3 x4 x5 x6 x7 x8 x9 x10 x11 x12 x13 x14 x15 x16 x17 x18 x19 x20 x21 y0 y1 y2 y3 y4 y5 y6 y7 y8 y9 y10 er) tm (fun q=>decide (q<5))=T at *
    have hcs:c=2:=by omega
    clear hcc hc lA
    rcases hcs with rfl
    ·refine .inl ?_
     show A7 Tryz.prog C ((nx)+5) (.assign (.tmp 49)) _ (AS.ev ⟨T,fun _=>none,0⟩) (upd (upd hp b10 (some ⟨33,[[x0,x1,x2,x3,x4,x5,x6,x7,x8,x9,x10,x11,x12,x13,x14,x15,x16,x17,x18,x19,x20,x21]],true⟩)) b11 (some ⟨52,[[y0,y1,y2,y3,y4,y5,y6,y7,y8,y9,y10]],true⟩)) _
     simp (disch:=omega) only[sx,Value.oneCell',↓reduceIte,Nat.reduceAdd,Nat.reduceMul,Nat.reduceEqDiff,Nat.reduceLT,Nat.reduceLeDiff,Int.reduceToNat,Int.reduceEq,Int.reduceLT,Int.reduceLE,Int.reduceNe,e49,h0,h1,h2,h3,d0,d1,d2,d3,n01,n02,n03,n10,n12,n13,n20,n21,n23,n30,n31,n32]
     first|exact⟨rfl,.inl trivial⟩|exact⟨rfl,.inl rfl⟩|exact⟨trivial,.inl trivial⟩|exact .inl trivial|exact .inl rfl|exact⟨rfl,.inr rfl⟩|trivial|exact⟨rfl,by simp⟩|simp
 ·refine hq _ ?_ ?_ ?_
  ·rw[← r10];kernel_rfl
  ·rw[← r11];kernel_rfl
  ·kernel_rfl
noncomputable def nxt10_ops:Array Oper:=((Tryz.f26.body.bind (Ge 10)).getD #[])
noncomputable def Cy(x0 x1 x2 x3 x4 x5 x6 x7 x8 x9 x10 x11 x12 x13 x14 x15 x16 x17 x18 x19 x20 x21 y0 y1 y2 y3 y4 y5 y6 y7 y8 y9 y10:AV):Nat→AV:=fun i =>
 [.agg [x0,x1,x2,x3,x4,x5,x6,x7,x8,x9,x10,x11,x12,x13,x14,x15,x16,x17,x18,x19,x20,x21],.agg [y0,y1,y2,y3,y4,y5,y6,y7,y8,y9,y10],.junk,.junk,gI 0].getD i .und
set_option maxHeartbeats 4000000 in
theorem Anh{C:World→Prop}(Bs:Dj Tryz.prog C){tm:Nat→AV}{hp:Nat→Option A4}{nx:Nat}{Q:Exit→AS→Prop}{b5 b13 b10 b11:Nat}{x0 x1 x2 x3 x4 x5 x6 x7 x8 x9 x10 x11 x12 x13 x14 x15 x16 x17 x18 x19 x20 x21 y0 y1 y2 y3 y4 y5 y6 y7 y8 y9 y10:AV}{zs ys:List AV}(r5:tm 5=.pt b5 0 0)(r13:tm 13=.pt b13 0 0)(r10:tm 10=.pt b10 0 0)(r11:tm 11=.pt b11 0 0)(h0:hp b5=some ⟨33,[[x0,x1,x2,x3,x4,x5,x6,x7,x8,x9,x10,x11,x12,x13,x14,x15,x16,x17,x18,x19,x20,x21]],true⟩)(h1:hp b13=some ⟨52,[[y0,y1,y2,y3,y4,y5,y6,y7,y8,y9,y10]],true⟩)(h2:hp b10=some ⟨33,[zs],true⟩)(h3:hp b11=some ⟨52,[ys],true⟩)(d0:zs.length=22)(d1:ys.length=11)(d2:zs.drop 22=[])(d3:ys.drop 11=[])(n01:¬ b5=b13)(n02:¬ b5=b10)(n03:¬ b5=b11)(n10:¬ b13=b5)(n12:¬ b13=b10)(n13:¬ b13=b11)(n20:¬ b10=b5)(n21:¬ b10=b13)(n23:¬ b10=b11)(n30:¬ b11=b5)(n31:¬ b11=b13)(n32:¬ b11=b10)
  (hq:∀ tm':Nat→AV,tm' 10=.pt b10 0 0→tm' 11=.pt b11 0 0→tm' 12=gI 0→Q .normal ⟨tm',upd (upd hp b10 (some ⟨33,[[x0,x1,x2,x3,x4,x5,x6,x7,x8,x9,x10,x11,x12,x13,x14,x15,x16,x17,x18,x19,x20,x21]],true⟩)) b11 (some ⟨52,[[y0,y1,y2,y3,y4,y5,y6,y7,y8,y9,y10]],true⟩),nx+5⟩) :
  awp Tryz.prog C (.region 10 nxt10_ops true) Q ⟨tm,hp,nx⟩:=by
 have hO:Ord nxt10_ops nxt10_ops.size:=Fs (by kernel_rfl)
 refine Bx Bs (vs:=(Cy x0 x1 x2 x3 x4 x5 x6 x7 x8 x9 x10 x11 x12 x13 x14 x15 x16 x17 x18 x19 x20 x21 y0 y1 y2 y3 y4 y5 y6 y7 y8 y9 y10)) (ch:=[2,3]) (H:=fun c=>bif Nat.beq c 0 then hp else bif Nat.beq c 1 then upd hp b10 (some ⟨33,[[x0,x1,x2,x3,x4,x5,x6,x7,x8,x9,x10,x11,x12,x13,x14,x15,x16,x17,x18,x19,x20,x21]],true⟩) else upd (upd hp b10 (some ⟨33,[[x0,x1,x2,x3,x4,x5,x6,x7,x8,x9,x10,x11,x12,x13,x14,x15,x16,x17,x18,x19,x20,x21]],true⟩)) b11 (some ⟨52,[[y0,y1,y2,y3,y4,y5,y6,y7,y8,y9,y10]],true⟩)) (B:=fun c=>nx) hO ?_ ?_
 ·refine⟨rfl,rfl, ?_, ?_,by simp, ?_, ?_, ?_, ?_⟩
  ·intro c hc
   have hc:c≤2:=hc
   have:c=0∨c=1∨c=2:=by omega
   rcases this with rfl|rfl|rfl<;>first|exact Nat.le_refl _|exact Nat.le_refl _
  ·intro h hh
   simp only[List.mem_cons,List.not_mem_nil,or_false] at hh
   rcases hh with rfl|rfl<;>exact Nat.le_of_ble_eq_true (by kernel_rfl)
  ·have hms:=Ao (ops:=nxt10_ops) nxt10_ops.toList [] (fun j=>by simp) (fun j i hb=>by simp at hb)
   intro m h h' hm hm'
   have hlt:m+1<2:=by have:=(List.getElem?_eq_some_iff.1 hm').1;simpa using this
   have:m=0:=by omega
   rcases this with rfl
   ·cases hm;cases hm';exact hms 3 2 (by decide +kernel)
  ·intro o ho
   have:(nxt10_ops.toList.all fun o=>o.guard.isNone)=true:=by kernel_rfl
   have:=List.all_eq_true.1 this o ho
   simpa using this
  ·intro m h o hm ho
   have hlt:m<2:=by have:=(List.getElem?_eq_some_iff.1 hm).1;simpa using this
   have:m=0∨m=1:=by omega
   rcases this with rfl|rfl
   ·cases (show some 2=some h from hm)
    cases ho
    have e10:A8 nxt10_ops nxt10_ops.size (Cy x0 x1 x2 x3 x4 x5 x6 x7 x8 x9 x10 x11 x12 x13 x14 x15 x16 x17 x18 x19 x20 x21 y0 y1 y2 y3 y4 y5 y6 y7 y8 y9 y10) tm (fun q=>decide (q<2)) 10=.pt b10 0 0:=by rw[← r10];kernel_rfl
    have e51:A8 nxt10_ops nxt10_ops.size (Cy x0 x1 x2 x3 x4 x5 x6 x7 x8 x9 x10 x11 x12 x13 x14 x15 x16 x17 x18 x19 x20 x21 y0 y1 y2 y3 y4 y5 y6 y7 y8 y9 y10) tm (fun q=>decide (q<2)) 51=.agg [x0,x1,x2,x3,x4,x5,x6,x7,x8,x9,x10,x11,x12,x13,x14,x15,x16,x17,x18,x19,x20,x21]:=by kernel_rfl
    generalize hT:A8 nxt10_ops nxt10_ops.size (Cy x0 x1 x2 x3 x4 x5 x6 x7 x8 x9 x10 x11 x12 x13 x14 x15 x16 x17 x18 x19 x20 x21 y0 y1 y2 y3 y4 y5 y6 y7 y8 y9 y10) tm (fun q=>decide (q<2))=T at *
    refine .inl ⟨.set b10 ⟨33,[[x0,x1,x2,x3,x4,x5,x6,x7,x8,x9,x10,x11,x12,x13,x14,x15,x16,x17,x18,x19,x20,x21]],true⟩, ?_,rfl,rfl⟩
    show A7 Tryz.prog C ((nx)+2) (.store 33 (.tmp 10) (.tmp 51)) _ (AS.ev ⟨T,fun _=>none,0⟩) (hp) _
    simp (disch:=omega) only[sx,Value.oneCell',↓reduceIte,Nat.reduceAdd,Nat.reduceMul,Nat.reduceEqDiff,Nat.reduceLT,Nat.reduceLeDiff,Int.reduceToNat,Int.reduceEq,Int.reduceLT,Int.reduceLE,Int.reduceNe,e10,e51,h0,h1,h2,h3,d0,d1,d2,d3,n01,n02,n03,n10,n12,n13,n20,n21,n23,n30,n31,n32]
    first|exact⟨rfl,rfl⟩|trivial|rfl|exact⟨by omega,rfl⟩|exact⟨by omega,rfl,rfl⟩
   ·cases (show some 3=some h from hm)
    cases ho
    have e11:A8 nxt10_ops nxt10_ops.size (Cy x0 x1 x2 x3 x4 x5 x6 x7 x8 x9 x10 x11 x12 x13 x14 x15 x16 x17 x18 x19 x20 x21 y0 y1 y2 y3 y4 y5 y6 y7 y8 y9 y10) tm (fun q=>decide (q<3)) 11=.pt b11 0 0:=by rw[← r11];kernel_rfl
    have e52:A8 nxt10_ops nxt10_ops.size (Cy x0 x1 x2 x3 x4 x5 x6 x7 x8 x9 x10 x11 x12 x13 x14 x15 x16 x17 x18 x19 x20 x21 y0 y1 y2 y3 y4 y5 y6 y7 y8 y9 y10) tm (fun q=>decide (q<3)) 52=.agg [y0,y1,y2,y3,y4,y5,y6,y7,y8,y9,y10]:=by kernel_rfl
    generalize hT:A8 nxt10_ops nxt10_ops.size (Cy x0 x1 x2 x3 x4 x5 x6 x7 x8 x9 x10 x11 x12 x13 x14 x15 x16 x17 x18 x19 x20 x21 y0 y1 y2 y3 y4 y5 y6 y7 y8 y9 y10) tm (fun q=>decide (q<3))=T at *
    refine .inl ⟨.set b11 ⟨52,[[y0,y1,y2,y3,y4,y5,y6,y7,y8,y9,y10]],true⟩, ?_,rfl,rfl⟩
    show A7 Tryz.prog C ((nx)+3) (.store 52 (.tmp 11) (.tmp 52)) _ (AS.ev ⟨T,fun _=>none,0⟩) (upd hp b10 (some ⟨33,[[x0,x1,x2,x3,x4,x5,x6,x7,x8,x9,x10,x11,x12,x13,x14,x15,x16,x17,x18,x19,x20,x21]],true⟩)) _
    simp (disch:=omega) only[sx,Value.oneCell',↓reduceIte,Nat.reduceAdd,Nat.reduceMul,Nat.reduceEqDiff,Nat.reduceLT,Nat.reduceLeDiff,Int.reduceToNat,Int.reduceEq,Int.reduceLT,Int.reduceLE,Int.reduceNe,e11,e52,h0,h1,h2,h3,d0,d1,d2,d3,n01,n02,n03,n10,n12,n13,n20,n21,n23,n30,n31,n32]
    first|exact⟨rfl,rfl⟩|trivial|rfl|exact⟨by omega,rfl⟩|exact⟨by omega,rfl,rfl⟩
  ·have hms:=Ao (ops:=nxt10_ops) nxt10_ops.toList [] (fun j=>by simp) (fun j i hb=>by simp at hb)
   intro i o ho hni c hc hcc
   have hc:c≤2:=hc
   have hi:i<5:=(Array.getElem?_eq_some_iff.1 ho).1
   have hi':i=0∨i=1∨i=4:=by
    have:i≠2∧i≠3:=by simpa using hni
    omega
   clear hi
   rcases hi' with rfl|rfl|rfl
   ·cases ho
    have lB:=(hcc 0 2 rfl).2 (hms 2 0 (by decide +kernel))
    have e5:A8 nxt10_ops nxt10_ops.size (Cy x0 x1 x2 x3 x4 x5 x6 x7 x8 x9 x10 x11 x12 x13 x14 x15 x16 x17 x18 x19 x20 x21 y0 y1 y2 y3 y4 y5 y6 y7 y8 y9 y10) tm (fun q=>decide (q<0)) 5=.pt b5 0 0:=by rw[← r5];kernel_rfl
    generalize hT:A8 nxt10_ops nxt10_ops.size (Cy x0 x1 x2 x3 x4 x5 x6 x7 x8 x9 x10 x11 x12 x13 x14 x15 x16 x17 x18 x19 x20 x21 y0 y1 y2 y3 y4 y5 y6 y7 y8 y9 y10) tm (fun q=>decide (q<0))=T at *
    have hcs:c=0:=by omega
    clear hcc hc lB
    rcases hcs with rfl
    ·refine .inl ?_
     show A7 Tryz.prog C ((nx)+0) (.load 33 (.tmp 5)) _ (AS.ev ⟨T,fun _=>none,0⟩) (hp) _
     simp (disch:=omega) only[sx,Value.oneCell',↓reduceIte,Nat.reduceAdd,Nat.reduceMul,Nat.reduceEqDiff,Nat.reduceLT,Nat.reduceLeDiff,Int.reduceToNat,Int.reduceEq,Int.reduceLT,Int.reduceLE,Int.reduceNe,e5,h0,h1,h2,h3,d0,d1,d2,d3,n01,n02,n03,n10,n12,n13,n20,n21,n23,n30,n31,n32]
     first|exact⟨rfl,.inl trivial⟩|exact⟨rfl,.inl rfl⟩|exact⟨trivial,.inl trivial⟩|exact .inl trivial|exact .inl rfl|exact⟨rfl,.inr rfl⟩|trivial|exact⟨rfl,by simp⟩|simp
   ·cases ho
    have lB:=(hcc 1 3 rfl).2 (hms 3 1 (by decide +kernel))
    have e13:A8 nxt10_ops nxt10_ops.size (Cy x0 x1 x2 x3 x4 x5 x6 x7 x8 x9 x10 x11 x12 x13 x14 x15 x16 x17 x18 x19 x20 x21 y0 y1 y2 y3 y4 y5 y6 y7 y8 y9 y10) tm (fun q=>decide (q<1)) 13=.pt b13 0 0:=by rw[← r13];kernel_rfl
    generalize hT:A8 nxt10_ops nxt10_ops.size (Cy x0 x1 x2 x3 x4 x5 x6 x7 x8 x9 x10 x11 x12 x13 x14 x15 x16 x17 x18 x19 x20 x21 y0 y1 y2 y3 y4 y5 y6 y7 y8 y9 y10) tm (fun q=>decide (q<1))=T at *
    have hcs:c=0∨c=1:=by omega
    clear hcc hc lB
    rcases hcs with rfl|rfl
    ·refine .inl ?_
     show A7 Tryz.prog C ((nx)+1) (.load 52 (.tmp 13)) _ (AS.ev ⟨T,fun _=>none,0⟩) (hp) _
     simp (disch:=omega) only[sx,Value.oneCell',↓reduceIte,Nat.reduceAdd,Nat.reduceMul,Nat.reduceEqDiff,Nat.reduceLT,Nat.reduceLeDiff,Int.reduceToNat,Int.reduceEq,Int.reduceLT,Int.reduceLE,Int.reduceNe,e13,h0,h1,h2,h3,d0,d1,d2,d3,n01,n02,n03,n10,n12,n13,n20,n21,n23,n30,n31,n32]
     first|exact⟨rfl,.inl trivial⟩|exact⟨rfl,.inl rfl⟩|exact⟨trivial,.inl trivial⟩|exact .inl trivial|exact .inl rfl|exact⟨rfl,.inr rfl⟩|trivial|exact⟨rfl,by simp⟩|simp
    ·refine .inl ?_
     show A7 Tryz.prog C ((nx)+1) (.load 52 (.tmp 13)) _ (AS.ev ⟨T,fun _=>none,0⟩) (upd hp b10 (some ⟨33,[[x0,x1,x2,x3,x4,x5,x6,x7,x8,x9,x10,x11,x12,x13,x14,x15,x16,x17,x18,x19,x20,x21]],true⟩)) _
     simp (disch:=omega) only[sx,Value.oneCell',↓reduceIte,Nat.reduceAdd,Nat.reduceMul,Nat.reduceEqDiff,Nat.reduceLT,Nat.reduceLeDiff,Int.reduceToNat,Int.reduceEq,Int.reduceLT,Int.reduceLE,Int.reduceNe,e13,h0,h1,h2,h3,d0,d1,d2,d3,n01,n02,n03,n10,n12,n13,n20,n21,n23,n30,n31,n32]
     first|exact⟨rfl,.inl trivial⟩|exact⟨rfl,.inl rfl⟩|exact⟨trivial,.inl trivial⟩|exact .inl trivial|exact .inl rfl|exact⟨rfl,.inr rfl⟩|trivial|exact⟨rfl,by simp⟩|simp
   ·cases ho
    have lA:=(hcc 1 3 rfl).1 (hms 4 3 (by decide +kernel))
    generalize hT:A8 nxt10_ops nxt10_ops.size (Cy x0 x1 x2 x3 x4 x5 x6 x7 x8 x9 x10 x11 x12 x13 x14 x15 x16 x17 x18 x19 x20 x21 y0 y1 y2 y3 y4 y5 y6 y7 y8 y9 y10) tm (fun q=>decide (q<4))=T at *
    have hcs:c=2:=by omega
    clear hcc hc lA
    rcases hcs with rfl
    ·refine .inl ?_
     show A7 Tryz.prog C ((nx)+4) (.assign (.const (.int .i64 0))) _ (AS.ev ⟨T,fun _=>none,0⟩) (upd (upd hp b10 (some ⟨33,[[x0,x1,x2,x3,x4,x5,x6,x7,x8,x9,x10,x11,x12,x13,x14,x15,x16,x17,x18,x19,x20,x21]],true⟩)) b11 (some ⟨52,[[y0,y1,y2,y3,y4,y5,y6,y7,y8,y9,y10]],true⟩)) _
     simp (disch:=omega) only[sx,Value.oneCell',↓reduceIte,Nat.reduceAdd,Nat.reduceMul,Nat.reduceEqDiff,Nat.reduceLT,Nat.reduceLeDiff,Int.reduceToNat,Int.reduceEq,Int.reduceLT,Int.reduceLE,Int.reduceNe,h0,h1,h2,h3,d0,d1,d2,d3,n01,n02,n03,n10,n12,n13,n20,n21,n23,n30,n31,n32]
     first|exact⟨rfl,.inl trivial⟩|exact⟨rfl,.inl rfl⟩|exact⟨trivial,.inl trivial⟩|exact .inl trivial|exact .inl rfl|exact⟨rfl,.inr rfl⟩|trivial|exact⟨rfl,by simp⟩|simp
 ·refine hq _ ?_ ?_ ?_
  ·rw[← r10];kernel_rfl
  ·rw[← r11];kernel_rfl
  ·kernel_rfl
end Go.Proofs.YtbhffbgbhgjdiaaGreatDoor
