/-
  Parts of the proof: C19A C19B. Conditions: those that each theorem states.
-/
import Derived.Test.YtbhffbgbhgjdiaaGreatDoorM2
import Derived.Test.YtbhffbgbhgjdiaaGreatDoorM1
import Derived.Sort.Walk0
set_option linter.unusedSimpArgs false
set_option linter.unusedVariables false
namespace Go.Proofs.YtbhffbgbhgjdiaaGreatDoor
open Go.RowKit
set_option maxRecDepth 100000
structure LegV where
 account:Int
 amount:Int
 cur:ByteArray
structure MonV where
 cur:ByteArray
 amount:Int
def Yh(x:LegV):List AV:=[gI x.account,gI x.amount,gS x.cur]
def B0l(x:MonV):List AV:=[gS x.cur,gI x.amount]
def Ac(l:List LegV):List (List AV):=l.map Yh
def Ay(l:List MonV):List (List AV):=l.map B0l
def Ky(a b:Int):Int:=if a<b then -1 else if b<a then 1 else 0
def ltS(a b:ByteArray):Bool:=Op.bytesLess a.data.toList b.data.toList
def Gx(a b:ByteArray):Int:=if ltS a b=true then -1 else if a=b then 0 else 1
theorem H5(x:Int):Cn 261 [gI x] (.val (gB false)):=by
 refine cvS Tryz.func261 ?_
 (repeat' (first|exact trivial|refine stR ?_|((first|refine stp ?_|refine A0 (fun h=>?_) ?_|(refine gw (fun h=>?_) (fun h=>?_)<;>(try (exfalso;omega))))<;>(try (refine wS ?_)))))
 all_goals simp only[sxd,z0,p0,Nat.reduceEqDiff,↓reduceIte,Tryz.f261, *]
theorem H6(x:ByteArray):Cn 171 [gS x] (.val (gB false)):=by
 refine cvS Tryz.func171 ?_
 (repeat' (first|exact trivial|refine stR ?_|((first|refine stp ?_|refine A0 (fun h=>?_) ?_|(refine gw (fun h=>?_) (fun h=>?_)<;>(try (exfalso;omega))))<;>(try (refine wS ?_)))))
 all_goals simp only[sxd,z0,p0,Nat.reduceEqDiff,↓reduceIte,Tryz.f171, *]
theorem Abh(a b:Int):Cn 222 [gI a,gI b] (.val (.ex (.int .i64 (Ky a b)))):=by
 refine cvS Tryz.func222 ?_
 by_cases h1:a<b
 ·have hr:Ky a b=-1:=by unfold Ky;rw[if_pos h1]
  (repeat' (first|exact trivial|refine stR ?_|((first|refine cv (H5 a) ?_|refine cv (H5 b) ?_|refine stp ?_|refine A0 (fun h=>?_) ?_|(refine gw (fun h=>?_) (fun h=>?_)<;>(try (exfalso;omega))))<;>(try (refine wS ?_)))))
  all_goals simp only[sxd,z0,p0,Nat.reduceEqDiff,↓reduceIte,Tryz.f222, *]
 ·by_cases h2:b<a
  ·have hr:Ky a b=1:=by unfold Ky;rw[if_neg h1,if_pos h2]
   (repeat' (first|exact trivial|refine stR ?_|((first|refine cv (H5 a) ?_|refine cv (H5 b) ?_|refine stp ?_|refine A0 (fun h=>?_) ?_|(refine gw (fun h=>?_) (fun h=>?_)<;>(try (exfalso;omega))))<;>(try (refine wS ?_)))))
   all_goals simp only[sxd,z0,p0,Nat.reduceEqDiff,↓reduceIte,Tryz.f222, *]
  ·have hr:Ky a b=0:=by unfold Ky;rw[if_neg h1,if_neg h2]
   (repeat' (first|exact trivial|refine stR ?_|((first|refine cv (H5 a) ?_|refine cv (H5 b) ?_|refine stp ?_|refine A0 (fun h=>?_) ?_|(refine gw (fun h=>?_) (fun h=>?_)<;>(try (exfalso;omega))))<;>(try (refine wS ?_)))))
   all_goals simp only[sxd,z0,p0,Nat.reduceEqDiff,↓reduceIte,Tryz.f222, *]
theorem Xh(a b:ByteArray):Cn 120 [gS a,gS b] (.val (.ex (.int .i64 (Gx a b)))):=by
 refine cvS Tryz.func120 ?_
 cases h1:Op.bytesLess a.data.toList b.data.toList with
 | true =>
  have hr:Gx a b=-1:=by unfold Gx ltS;rw[if_pos h1]
  (repeat' (first|exact trivial|refine stR ?_|((first|refine cv (H6 a) ?_|refine cv (H6 b) ?_|refine stp ?_|refine A0 (fun h=>?_) ?_|(refine gw (fun h=>?_) (fun h=>?_)<;>(try (exfalso;omega))))<;>(try (refine wS ?_)))))
  all_goals simp only[sxd,z0,p0,Nat.reduceEqDiff,↓reduceIte,Tryz.f120, *]
 | false =>
  by_cases h2:a=b
  ·have hr:Gx a b=0:=by unfold Gx ltS;rw[if_neg (by rw[h1];simp),if_pos h2]
   have h3:decide (a=b)=true:=decide_eq_true h2
   have hff:(false || true)=true:=rfl
   clear h2
   (repeat' (first|exact trivial|refine stR ?_|((first|refine cv (H6 a) ?_|refine cv (H6 b) ?_|refine stp ?_|refine A0 (fun h=>?_) ?_|(refine gw (fun h=>?_) (fun h=>?_)<;>(try (exfalso;omega))))<;>(try (refine wS ?_)))))
   all_goals simp only[sxd,z0,p0,Nat.reduceEqDiff,↓reduceIte,Tryz.f120, *]
  ·have hr:Gx a b=1:=by unfold Gx ltS;rw[if_neg (by rw[h1];simp),if_neg h2]
   have h3:decide (a=b)=false:=decide_eq_false h2
   have hff:(false || false)=false:=rfl
   clear h2
   (repeat' (first|exact trivial|refine stR ?_|((first|refine cv (H6 a) ?_|refine cv (H6 b) ?_|refine stp ?_|refine A0 (fun h=>?_) ?_|(refine gw (fun h=>?_) (fun h=>?_)<;>(try (exfalso;omega))))<;>(try (refine wS ?_)))))
   all_goals simp only[sxd,z0,p0,Nat.reduceEqDiff,↓reduceIte,Tryz.f120, *]
def orI(x y:Int):Int:=if x=0 then y else x
theorem Arl(x y:Int):Cn 221 [.sl [[gI x],[gI y]]] (.val (.ex (.int .i64 (orI x y)))):=by
 refine cvS Tryz.func221 ?_
 (repeat' (first|exact trivial|refine stR ?_|((first|refine stp ?_|refine A0 (fun h=>?_) ?_|(refine gw (fun h=>?_) (fun h=>?_)<;>(try (exfalso;omega))))<;>(try (refine wS ?_)))))
 refine A9 (fun n tm hp nx=>∃ k:Int,n=(2-k).toNat∧tm 6=.sl [[gI x],[gI y]]∧tm 7=gI 2∧tm 8=gI k∧tm 3=gI 0∧(k=0∨(k=1∧Hid (x=0))∨(k=2∧Hid (x=0)∧Hid (y=0)))) 2 ⟨0,rfl,by exact byS,by exact byS,by exact byS,by exact byS,.inl rfl⟩ ?_
 rintro n tm hp nx ⟨k,rfl,g6,g7,g8,g3,hk⟩
 rcases hk with rfl|⟨rfl,hx⟩|⟨rfl,hx,hy⟩
 ·by_cases h:x=0
  ·have h':=Lib.hid h
   have hd:decide (x=0)=true:=decide_eq_true h
   clear h
   (repeat' (first|exact trivial|refine stR ?_|((first|refine stp ?_|refine A0 (fun h=>?_) ?_|(refine gw (fun h=>?_) (fun h=>?_)<;>(try (exfalso;omega))))<;>(try (refine wS ?_)))))
   all_goals exact A3 1 (by decide) ⟨1,by decide,by exact byS,by exact byS,by exact byS,by exact byS,(by first|exact .inr (.inl ⟨rfl,h'⟩)|exact .inr (.inl rfl))⟩
  ·have hr:orI x y=x:=by unfold orI;rw[if_neg h]
   have hd:decide (x=0)=false:=decide_eq_false h
   clear h
   (repeat' (first|exact trivial|refine stR ?_|((first|refine stp ?_|refine A0 (fun h=>?_) ?_|(refine gw (fun h=>?_) (fun h=>?_)<;>(try (exfalso;omega))))<;>(try (refine wS ?_)))))
   all_goals simp only[sxd,z0,p0,Nat.reduceEqDiff,↓reduceIte,Tryz.f221, *]
 ·have hr:orI x y=y:=by unfold orI;rw[if_pos hx.out]
  by_cases h:y=0
  ·have h':=Lib.hid h
   have hd:decide (y=0)=true:=decide_eq_true h
   clear h hr
   (repeat' (first|exact trivial|refine stR ?_|((first|refine stp ?_|refine A0 (fun h=>?_) ?_|(refine gw (fun h=>?_) (fun h=>?_)<;>(try (exfalso;omega))))<;>(try (refine wS ?_)))))
   all_goals exact A3 0 (by decide) ⟨2,by decide,by exact byS,by exact byS,by exact byS,by exact byS,(by first|exact .inr (.inr ⟨rfl,hx,h'⟩)|exact .inr (.inr rfl)|exact .inr (.inr ⟨rfl,h'⟩))⟩
  ·have hd:decide (y=0)=false:=decide_eq_false h
   clear h
   (repeat' (first|exact trivial|refine stR ?_|((first|refine stp ?_|refine A0 (fun h=>?_) ?_|(refine gw (fun h=>?_) (fun h=>?_)<;>(try (exfalso;omega))))<;>(try (refine wS ?_)))))
   all_goals simp only[sxd,z0,p0,Nat.reduceEqDiff,↓reduceIte,Tryz.f221, *]
 ·have hr:orI x y=0:=by unfold orI;rw[if_pos hx.out,hy.out]
  (repeat' (first|exact trivial|refine stR ?_|((first|refine stp ?_|refine A0 (fun h=>?_) ?_|(refine gw (fun h=>?_) (fun h=>?_)<;>(try (exfalso;omega))))<;>(try (refine wS ?_)))))
  all_goals simp only[sxd,z0,p0,Nat.reduceEqDiff,↓reduceIte,Tryz.f221, *]
def C8(a b:LegV):Int:=orI (Ky a.account b.account) (Gx a.cur b.cur)
theorem G6(a b:LegV):Cn 176 [.agg [gI a.account,gI a.amount,gS a.cur],.agg [gI b.account,gI b.amount,gS b.cur]] (.val (.ex (.int .i64 (C8 a b)))):=by
 refine cvS Tryz.func176 ?_
 have hr:orI (Ky a.account b.account) (Gx a.cur b.cur)=C8 a b:=rfl
 (repeat' (first|exact trivial|refine stR ?_|((first|refine cv (Abh a.account b.account) ?_|refine cv (Xh a.cur b.cur) ?_|refine cv (Arl (Ky a.account b.account) (Gx a.cur b.cur)) ?_|refine stp ?_|refine A0 (fun h=>?_) ?_|(refine gw (fun h=>?_) (fun h=>?_)<;>(try (exfalso;omega))))<;>(try (refine wS ?_)))))
 all_goals simp only[sxd,z0,p0,Nat.reduceEqDiff,↓reduceIte,Tryz.f176, *]
theorem Ji(m:MonV)(s:ByteArray):Cn 119 [.agg [gS m.cur,gI m.amount],gS s] (.val (.ex (.int .i64 (Gx m.cur s)))):=by
 refine cvS Tryz.func119 ?_
 (repeat' (first|exact trivial|refine stR ?_|((first|refine cv (Xh m.cur s) ?_|refine stp ?_|refine A0 (fun h=>?_) ?_|(refine gw (fun h=>?_) (fun h=>?_)<;>(try (exfalso;omega))))<;>(try (refine wS ?_)))))
 all_goals simp only[sxd,z0,p0,Nat.reduceEqDiff,↓reduceIte,Tryz.f119, *]
theorem Lb(x:LegV):Cn 129 [.agg [gI x.account,gI x.amount,gS x.cur]] (.val (.ex (.bool (decide (x.amount=0))))):=by
 refine cvS Tryz.func129 ?_
 (repeat' (first|exact trivial|refine stR ?_|((first|refine stp ?_|refine A0 (fun h=>?_) ?_|(refine gw (fun h=>?_) (fun h=>?_)<;>(try (exfalso;omega))))<;>(try (refine wS ?_)))))
 all_goals simp only[sxd,z0,p0,Nat.reduceEqDiff,↓reduceIte,Tryz.f129, *]
def bsI{α:Type}(lt:α→Bool)(l:List α):Nat:=(l.takeWhile lt).length
def bsB{α:Type}(lt eq:α→Bool)(l:List α):Bool:=match l[bsI lt l]? with
 | some m=>eq m
 | none=>false
def A5m{α:Type}(lt:α→Bool)(l:List α):Prop:=∀ (i j:Nat) a b,i<j→l[i]?=some a→l[j]?=some b→lt b=true→lt a=true
theorem A0r{α:Type}{lt:α→Bool}:∀ {l:List α} {i:Nat},i≤l.length→(∀ (k:Nat) m,k<i→l[k]?=some m→lt m=true)→(∀ (k:Nat) m,i≤k→l[k]?=some m→lt m=false)→bsI lt l=i
 | [],i,h,_,_=>by simp at h;subst h;rfl
 | a :: l,0,_,_,h2=>by
  unfold bsI
  rw[List.takeWhile_cons,h2 0 a (Nat.le_refl _) rfl];rfl
 | a :: l,i+1,h,h1,h2=>by
  unfold bsI
  rw[List.takeWhile_cons,h1 0 a (by omega) rfl,if_pos rfl,List.length_cons]
  have:=A0r (l:=l) (i:=i) (by simpa using h) (fun k m hk e=>h1 (k+1) m (by omega) (by simpa using e)) (fun k m hk e=>h2 (k+1) m (by omega) (by simpa using e))
  unfold bsI at this
  rw[this]
theorem Amt{α:Type}{lt:α→Bool}{l:List α}{h:Nat}{m:α}(hm:A5m lt l)(e:l[h]?=some m)(hl:lt m=true):∀ (k:Nat) x,k<h+1→l[k]?=some x→lt x=true:=by
 intro k x hk ex
 rcases Nat.lt_or_ge k h with h1|h1
 ·exact hm k h x m h1 ex e hl
 ·have:k=h:=by omega
  subst this
  rw[e] at ex
  rw[← Option.some.inj ex];exact hl
theorem Ams{α:Type}{lt:α→Bool}{l:List α}{h:Nat}{m:α}(hm:A5m lt l)(e:l[h]?=some m)(hl:lt m=false):∀ (k:Nat) x,h≤k→l[k]?=some x→lt x=false:=by
 intro k x hk ex
 rcases Nat.lt_or_ge h k with h1|h1
 ·cases hx:lt x with
  | false=>rfl
  | true =>
   have:=hm h k m x h1 e ex hx
   rw[hl] at this;cases this
 ·have:k=h:=by omega
  subst this
  rw[e] at ex
  rw[← Option.some.inj ex];exact hl
theorem Pb{α:Type}{lt eq:α→Bool}{l:List α}{i:Nat}{m:α}(h:bsI lt l=i)(e:l[i]?=some m):bsB lt eq l=eq m:=by unfold bsB;rw[h,e]
theorem U8{α:Type}{lt eq:α→Bool}{l:List α}{i:Nat}(h:bsI lt l=i)(e:l.length≤i):bsB lt eq l=false:=by unfold bsB;rw[h,List.getElem?_eq_none e]
theorem Ex(l:List MonV):(Ay l).length=l.length:=by simp [Ay]
theorem Fq{l:List MonV}{k:Nat}{m:MonV}(e:l[k]?=some m):(Ay l)[k]?=some [gS m.cur,gI m.amount]:=by rw[Ay,List.getElem?_map,e];rfl
theorem B9(l:List LegV):(Ac l).length=l.length:=by simp [Ac]
theorem Bq{l:List LegV}{k:Nat}{m:LegV}(e:l[k]?=some m):(Ac l)[k]?=some [gI m.account,gI m.amount,gS m.cur]:=by rw[Ac,List.getElem?_map,e];rfl
theorem Aj2{a b:ByteArray}(h:ltS a b=true):Gx a b=-1:=by unfold Gx;rw[if_pos h]
theorem A3u{a b:ByteArray}(h:ltS a b=false):Gx a b=if a=b then 0 else 1:=by unfold Gx;rw[if_neg (by rw[h];simp)]
theorem Aep{lo hi md:Nat}(hb:lo+hi≤4000000)(h:md=(lo+hi) / 2):IntKind.i64.wrap (((lo:Int)+(hi:Int)).fdiv (2 ^ (min 1 IntKind.u64.bits)))=(md:Int):=by
 have e2:(2:Int) ^ (min 1 IntKind.u64.bits)=2:=rfl
 rw[e2,Int.fdiv_eq_ediv_of_nonneg _ (by omega),IntKind.wrap_i64]
 omega
theorem Wc(l:List MonV)(s:ByteArray)(hl:l.length≤1000000)(hm:A5m (fun m:MonV=>ltS m.cur s) l) :
  Cn 118 [.sl (Ay l),gS s,.ex (.func (.func 119) #[] #[])]
   (.val (.tup [.ex (.int .i64 (bsI (fun m:MonV=>ltS m.cur s) l)),.ex (.bool (bsB (fun m:MonV=>ltS m.cur s) (fun m=>decide (m.cur=s)) l))])):=by
 refine cvS Tryz.func118 ?_
 have q1:=Ex l
 (repeat' (first|exact trivial|refine stR ?_|((first|refine stp ?_|refine A0 (fun h=>?_) ?_|(refine gw (fun h=>?_) (fun h=>?_)<;>(try (exfalso;omega))))<;>(try (refine wS ?_)))))
 refine A9 (fun n tm hp nx=>∃ lo hi:Nat,n=hi-lo∧lo≤hi∧hi≤l.length∧tm 0=.sl (Ay l)∧tm 1=gS s∧tm 2=.ex (.func (.func 119) #[] #[])∧tm 8=gI l.length∧tm 9=gI lo∧tm 10=gI hi ∧
  Hid (∀ (k:Nat) m,k<lo→l[k]?=some m→ltS m.cur s=true)∧Hid (∀ (k:Nat) m,hi≤k→l[k]?=some m→ltS m.cur s=false)) l.length ⟨0,l.length,rfl,Nat.zero_le _,Nat.le_refl _,by exact byS,by exact byS,by exact byS,by exact byS,by exact byS,by exact byS,Lib.hid (fun k m hk _=>by omega),Lib.hid (fun k m hk e=>by rw[List.getElem?_eq_none hk] at e;cases e)⟩ ?_
 rintro n tm hp nx ⟨lo,hi,hn,h1,h2,g0,g1,g2,g8,g9,g10,hL,hH⟩
 by_cases hlt:lo<hi
 ·obtain⟨md,hh⟩:∃ h,h=(lo+hi) / 2:=⟨_,rfl⟩
  have hh1:lo≤md:=by omega
  have hh2:md<hi:=by omega
  have hmid:=Aep (lo:=lo) (hi:=hi) (by omega) hh
  have e0:l[md]?=some l[md]:=List.getElem?_eq_getElem (by omega)
  generalize l[md]=m at e0
  have q4:=Fq e0
  clear hh
  cases hc:ltS m.cur s with
  | true =>
   have hr:=Aj2 hc
   have n1:=Lib.hid (Amt hm e0 hc)
   clear e0 hm
   (repeat' (first|exact trivial|refine stR ?_|((first|refine cv (Ji m s) ?_|refine stp ?_|refine A0 (fun h=>?_) ?_|(refine gw (fun h=>?_) (fun h=>?_)<;>(try (exfalso;omega))))<;>(try (refine wS ?_)))))
   exact A3 (hi-(md+1)) (by omega) ⟨md+1,hi,rfl,by omega,h2,by exact byS,by exact byS,by exact byS,by exact byS,by exact byS,by exact byS,n1,hH⟩
  | false =>
   have hr:¬ Gx m.cur s<0:=by rw[A3u hc];split<;>omega
   have n1:=Lib.hid (Ams hm e0 hc)
   clear e0 hm
   (repeat' (first|exact trivial|refine stR ?_|((first|refine cv (Ji m s) ?_|refine stp ?_|refine A0 (fun h=>?_) ?_|(refine gw (fun h=>?_) (fun h=>?_)<;>(try (exfalso;omega))))<;>(try (refine wS ?_)))))
   exact A3 (md-lo) (by omega) ⟨lo,md,rfl,hh1,by omega,by exact byS,by exact byS,by exact byS,by exact byS,by exact byS,by exact byS,hL,n1⟩
 ·have hlh:lo=hi:=by omega
  subst hlh
  have hi0:=A0r h2 hL.out hH.out
  by_cases hend:lo<l.length
  ·have e0:l[lo]?=some l[lo]:=List.getElem?_eq_getElem hend
   generalize l[lo]=m at e0
   have q4:=Fq e0
   have hb:=Pb (eq:=fun m:MonV=>decide (m.cur=s)) hi0 e0
   have hge:=A3u (hH.out lo m (Nat.le_refl _) e0)
   by_cases heq:m.cur=s
   ·rw[if_pos heq] at hge
    have hb':bsB (fun m:MonV=>ltS m.cur s) (fun m=>decide (m.cur=s)) l=true:=by rw[hb];exact decide_eq_true heq
    clear hb heq e0 hm
    (repeat' (first|exact trivial|refine stR ?_|((first|refine cv (Ji m s) ?_|refine stp ?_|refine A0 (fun h=>?_) ?_|(refine gw (fun h=>?_) (fun h=>?_)<;>(try (exfalso;omega))))<;>(try (refine wS ?_)))))
    all_goals simp only[sxd,z0,p0,Nat.reduceEqDiff,↓reduceIte,Tryz.f118, *]
   ·rw[if_neg heq] at hge
    have hb':bsB (fun m:MonV=>ltS m.cur s) (fun m=>decide (m.cur=s)) l=false:=by rw[hb];exact decide_eq_false heq
    clear hb heq e0 hm
    (repeat' (first|exact trivial|refine stR ?_|((first|refine cv (Ji m s) ?_|refine stp ?_|refine A0 (fun h=>?_) ?_|(refine gw (fun h=>?_) (fun h=>?_)<;>(try (exfalso;omega))))<;>(try (refine wS ?_)))))
    all_goals simp only[sxd,z0,p0,Nat.reduceEqDiff,↓reduceIte,Tryz.f118, *]
  ·have hb:=U8 (eq:=fun m:MonV=>decide (m.cur=s)) hi0 (by omega)
   clear hm
   (repeat' (first|exact trivial|refine stR ?_|((first|refine stp ?_|refine A0 (fun h=>?_) ?_|(refine gw (fun h=>?_) (fun h=>?_)<;>(try (exfalso;omega))))<;>(try (refine wS ?_)))))
   all_goals simp only[sxd,z0,p0,Nat.reduceEqDiff,↓reduceIte,Tryz.f118, *]
theorem A5e(l:List LegV)(x:LegV)(hl:l.length≤1000000)(hm:A5m (fun m:LegV=>decide (C8 m x<0)) l) :
  Cn 175 [.sl (Ac l),.agg [gI x.account,gI x.amount,gS x.cur],.ex (.func (.func 176) #[] #[])]
   (.val (.tup [.ex (.int .i64 (bsI (fun m:LegV=>decide (C8 m x<0)) l)),.ex (.bool (bsB (fun m:LegV=>decide (C8 m x<0)) (fun m=>decide (C8 m x=0)) l))])):=by
 refine cvS Tryz.func175 ?_
 have q1:=B9 l
 (repeat' (first|exact trivial|refine stR ?_|((first|refine stp ?_|refine A0 (fun h=>?_) ?_|(refine gw (fun h=>?_) (fun h=>?_)<;>(try (exfalso;omega))))<;>(try (refine wS ?_)))))
 refine A9 (fun n tm hp nx=>∃ (lo hi b:Nat) (β:A4),n=hi-lo∧lo≤hi∧hi≤l.length∧tm 0=.sl (Ac l)∧tm 4=.pt b 0 0∧hp b=some β∧β=⟨103,[[gI x.account,gI x.amount,gS x.cur]],true⟩∧b<nx∧tm 2=.ex (.func (.func 176) #[] #[])∧tm 8=gI l.length∧tm 9=gI lo∧tm 10=gI hi ∧
  Hid (∀ (k:Nat) m,k<lo→l[k]?=some m→decide (C8 m x<0)=true)∧Hid (∀ (k:Nat) m,hi≤k→l[k]?=some m→decide (C8 m x<0)=false)) l.length ⟨0,l.length,_,_,rfl,Nat.zero_le _,Nat.le_refl _,by exact byS,by exact byQ,by exact byQ,rfl,by omega,by exact byS,by exact byS,by exact byS,by exact byS,Lib.hid (fun k m hk _=>by omega),Lib.hid (fun k m hk e=>by rw[List.getElem?_eq_none hk] at e;cases e)⟩ ?_
 rintro n tm hp nx ⟨lo,hi,b,β,hn,h1,h2,g0,g1,gh,rfl,hbx,g2,g8,g9,g10,hL,hH⟩
 by_cases hlt:lo<hi
 ·obtain⟨md,hh⟩:∃ h,h=(lo+hi) / 2:=⟨_,rfl⟩
  have hh1:lo≤md:=by omega
  have hh2:md<hi:=by omega
  have hmid:=Aep (lo:=lo) (hi:=hi) (by omega) hh
  have e0:l[md]?=some l[md]:=List.getElem?_eq_getElem (by omega)
  generalize l[md]=m at e0
  have q4:=Bq e0
  clear hh
  cases hc:decide (C8 m x<0) with
  | true =>
   have hr:=of_decide_eq_true hc
   have n1:=Lib.hid (Amt hm e0 hc)
   clear e0 hm
   (repeat' (first|exact trivial|refine stR ?_|((first|refine cv (G6 m x) ?_|refine stp ?_|refine A0 (fun h=>?_) ?_|(refine gw (fun h=>?_) (fun h=>?_)<;>(try (exfalso;omega))))<;>(try (refine wS ?_)))))
   exact A3 (hi-(md+1)) (by omega) ⟨md+1,hi,b,_,rfl,by omega,h2,by exact byS,by exact byS,by exact byQ,rfl,by omega,by exact byS,by exact byS,by exact byS,by exact byS,n1,hH⟩
  | false =>
   have hr:=of_decide_eq_false hc
   have n1:=Lib.hid (Ams hm e0 hc)
   clear e0 hm
   (repeat' (first|exact trivial|refine stR ?_|((first|refine cv (G6 m x) ?_|refine stp ?_|refine A0 (fun h=>?_) ?_|(refine gw (fun h=>?_) (fun h=>?_)<;>(try (exfalso;omega))))<;>(try (refine wS ?_)))))
   exact A3 (md-lo) (by omega) ⟨lo,md,b,_,rfl,hh1,by omega,by exact byS,by exact byS,by exact byQ,rfl,by omega,by exact byS,by exact byS,by exact byS,by exact byS,hL,n1⟩
 ·have hlh:lo=hi:=by omega
  subst hlh
  have hi0:=A0r h2 hL.out hH.out
  by_cases hend:lo<l.length
  ·have e0:l[lo]?=some l[lo]:=List.getElem?_eq_getElem hend
   generalize l[lo]=m at e0
   have q4:=Bq e0
   have hb:=Pb (eq:=fun m:LegV=>decide (C8 m x=0)) hi0 e0
   by_cases heq:C8 m x=0
   ·have hq:=Lib.hid heq
    have hb':bsB (fun m:LegV=>decide (C8 m x<0)) (fun m=>decide (C8 m x=0)) l=true:=by rw[hb];exact decide_eq_true heq
    clear hb e0 hm
    (repeat' (first|exact trivial|refine stR ?_|((first|refine cv (G6 m x) ?_|refine stp ?_|refine A0 (fun h=>?_) ?_|(refine gw (fun h=>?_) (fun h=>?_)<;>(try (exfalso;omega))))<;>(try (refine wS ?_)))))
    all_goals simp only[sxd,z0,p0,Nat.reduceEqDiff,↓reduceIte,Tryz.f175, *]
   ·have hq:=Lib.hid heq
    have hb':bsB (fun m:LegV=>decide (C8 m x<0)) (fun m=>decide (C8 m x=0)) l=false:=by rw[hb];exact decide_eq_false heq
    clear hb e0 hm
    (repeat' (first|exact trivial|refine stR ?_|((first|refine cv (G6 m x) ?_|refine stp ?_|refine A0 (fun h=>?_) ?_|(refine gw (fun h=>?_) (fun h=>?_)<;>(try (exfalso;omega))))<;>(try (refine wS ?_)))))
    all_goals simp only[sxd,z0,p0,Nat.reduceEqDiff,↓reduceIte,Tryz.f175, *]
  ·have hb:=U8 (eq:=fun m:LegV=>decide (C8 m x=0)) hi0 (by omega)
   clear hm
   (repeat' (first|exact trivial|refine stR ?_|((first|refine stp ?_|refine A0 (fun h=>?_) ?_|(refine gw (fun h=>?_) (fun h=>?_)<;>(try (exfalso;omega))))<;>(try (refine wS ?_)))))
   all_goals simp only[sxd,z0,p0,Nat.reduceEqDiff,↓reduceIte,Tryz.f175, *]
end Go.Proofs.YtbhffbgbhgjdiaaGreatDoor
