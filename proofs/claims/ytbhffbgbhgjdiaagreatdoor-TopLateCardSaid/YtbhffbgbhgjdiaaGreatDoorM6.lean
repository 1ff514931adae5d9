/-
  Parts of the proof: C19C C19D. Conditions: those that each theorem states.
-/
import Derived.Test.YtbhffbgbhgjdiaaGreatDoorM3
import Derived.Test.YtbhffbgbhgjdiaaGreatDoorGCon
import Derived.Test.YtbhffbgbhgjdiaaGreatDoorM4
set_option linter.unusedSimpArgs false
set_option linter.unusedVariables false
namespace Go.Proofs.YtbhffbgbhgjdiaaGreatDoor
open Go.RowKit
set_option maxRecDepth 100000
theorem Mr{a b c:ByteArray}(h1:ltS a b=true)(h2:ltS b c=true):ltS a c=true:=by
 unfold ltS at *
 rw[bytesLess_eq,decide_eq_true_eq] at *
 exact List.lt_trans h1 h2
theorem A1z(a:ByteArray):ltS a a=false:=by
 unfold ltS
 rw[bytesLess_eq,decide_eq_false_iff_not]
 exact List.lt_irrefl _
theorem Sw{a b:ByteArray}(h1:ltS a b=false)(h2:a≠b):ltS b a=true:=by
 unfold ltS at *
 rw[bytesLess_eq,decide_eq_false_iff_not] at h1
 rw[bytesLess_eq,decide_eq_true_eq]
 refine List.not_le.1 fun h3=>h2 ?_
 exact ByteArray.ext (Array.ext' (List.le_antisymm h3 (List.not_lt.1 h1)))
def SortM(l:List MonV):Prop:=∀ (i j:Nat) a b,i<j→l[i]?=some a→l[j]?=some b→ltS a.cur b.cur=true
theorem SortM.mono{l:List MonV}(h:SortM l)(s:ByteArray):A5m (fun m:MonV=>ltS m.cur s) l:=fun i j a b hij ha hb hl=>Mr (h i j a b hij ha hb) hl
def mI(l:List MonV)(s:ByteArray):Nat:=bsI (fun m:MonV=>ltS m.cur s) l
def mB(l:List MonV)(s:ByteArray):Bool:=bsB (fun m:MonV=>ltS m.cur s) (fun m=>decide (m.cur=s)) l
def Fy(l:List MonV)(s:ByteArray)(a:Int):List MonV :=
 if mB l s=true then l.set (mI l s) ⟨s,IntKind.i64.wrap ((l[mI l s]?.map MonV.amount).getD 0+a)⟩
 else l.take (mI l s)++⟨s,IntKind.i64.wrap (0+a)⟩ :: l.drop (mI l s)
def Dv(l:List LegV):List MonV:=l.foldl (fun o x=>Fy o x.cur x.amount) []
theorem Sx(l:List MonV)(s:ByteArray):mI l s≤l.length:=by
 unfold mI bsI
 exact (List.takeWhile_sublist _).length_le
theorem A3n{α:Type}{lt:α→Bool}:∀ {l:List α} {k:Nat} {m:α},k<bsI lt l→l[k]?=some m→lt m=true
 | [],_,_,_,e=>by rw[List.getElem?_nil] at e;cases e
 | a :: l,k,m,h,e=>by
  unfold bsI at h
  rw[List.takeWhile_cons] at h
  cases ha:lt a with
  | false=>rw[ha] at h;simp at h
  | true =>
   rw[ha] at h
   simp at h
   cases k with
   | zero=>simp at e;rw[← e];exact ha
   | succ k=>exact A3n (l:=l) (k:=k) (by unfold bsI;omega) (by simpa using e)
theorem O2{α:Type}{lt:α→Bool}:∀ {l:List α} {m:α},l[bsI lt l]?=some m→lt m=false
 | [],_,e=>by rw[List.getElem?_nil] at e;cases e
 | a :: l,m,e=>by
  unfold bsI at e
  rw[List.takeWhile_cons] at e
  cases ha:lt a with
  | false=>rw[ha] at e;simp at e;rw[← e];exact ha
  | true =>
   rw[ha] at e
   simp at e
   exact O2 (l:=l) (by unfold bsI;exact e)
theorem V7{l:List MonV}{s:ByteArray}(h:mB l s=true):∃ m,l[mI l s]?=some m∧m.cur=s:=by
 unfold mB bsB at h
 split at h
 ·rename_i m hm
  exact⟨m,hm,of_decide_eq_true h⟩
 ·cases h
theorem Aem{l:List MonV}{s:ByteArray}(h:mB l s=false):∀ m,l[mI l s]?=some m→ltS s m.cur=true:=by
 intro m hm
 unfold mB bsB at h
 have hs:=O2 (lt:=fun m:MonV=>ltS m.cur s) hm
 have hm':l[bsI (fun m:MonV=>ltS m.cur s) l]?=some m:=hm
 rw[hm'] at h
 exact Sw hs (of_decide_eq_false h)
theorem A5z{l:List MonV}(h:SortM l)(s:ByteArray)(a:Int):SortM (Fy l s a):=by
 unfold Fy
 split
 ·rename_i hb
  obtain⟨m,hm,hc⟩:=V7 hb
  intro i j x y hij hx hy
  have key:∀ (q:Nat) z,(l.set (mI l s) ⟨s,IntKind.i64.wrap ((l[mI l s]?.map MonV.amount).getD 0+a)⟩)[q]?=some z→∃ z',l[q]?=some z'∧z'.cur=z.cur:=by
   intro q z hz
   rw[List.getElem?_set] at hz
   split at hz
   ·rename_i he
    subst he
    split at hz
    ·cases hz;exact⟨m,hm,hc⟩
    ·cases hz
   ·exact⟨z,hz,rfl⟩
  obtain⟨x',hx',ex⟩:=key i x hx
  obtain⟨y',hy',ey⟩:=key j y hy
  rw[← ex,← ey]
  exact h i j x' y' hij hx' hy'
 ·rename_i hb
  have hb:mB l s=false:=by simpa using hb
  have hle:=Sx l s
  have htl:(l.take (mI l s)).length=mI l s:=by rw[List.length_take];omega
  have key:∀ (q:Nat) z,(l.take (mI l s)++⟨s,IntKind.i64.wrap (0+a)⟩ :: l.drop (mI l s))[q]?=some z→(q<mI l s∧l[q]?=some z)∨(q=mI l s∧z.cur=s)∨(mI l s<q∧l[q-1]?=some z):=by
   intro q z hz
   rcases Nat.lt_trichotomy q (mI l s) with h1|h1|h1
   ·rw[List.getElem?_append_left (by omega),List.getElem?_take,if_pos h1] at hz
    exact .inl ⟨h1,hz⟩
   ·rw[List.getElem?_append_right (by omega),htl,h1,Nat.sub_self] at hz
    simp at hz
    exact .inr (.inl ⟨h1,by rw[← hz]⟩)
   ·rw[List.getElem?_append_right (by omega),htl] at hz
    obtain⟨r,hr⟩:∃ r,q-mI l s=r+1:=⟨q-mI l s-1,by omega⟩
    rw[hr,List.getElem?_cons_succ,List.getElem?_drop,show mI l s+r=q-1 by omega] at hz
    exact .inr (.inr ⟨h1,hz⟩)
  have lo:∀ (q:Nat) z,q<mI l s→l[q]?=some z→ltS z.cur s=true:=fun q z hq hz=>A3n (lt:=fun m:MonV=>ltS m.cur s) hq hz
  have up:∀ (q:Nat) z,mI l s≤q→l[q]?=some z→ltS s z.cur=true:=by
   intro q z hq hz
   have hlt:mI l s<l.length:=by have:=(List.getElem?_eq_some_iff.1 hz).1;omega
   have e1:l[mI l s]?=some l[mI l s]:=List.getElem?_eq_getElem hlt
   have h1:=Aem hb _ e1
   rcases Nat.lt_or_ge (mI l s) q with h2|h2
   ·exact Mr h1 (h _ _ _ _ h2 e1 hz)
   ·have:q=mI l s:=by omega
    subst this
    rw[e1] at hz
    rw[← Option.some.inj hz];exact h1
  intro i j x y hij hx hy
  rcases key i x hx with⟨a1,a2⟩|⟨a1,a2⟩|⟨a1,a2⟩<;>rcases key j y hy with⟨b1,b2⟩|⟨b1,b2⟩|⟨b1,b2⟩
  ·exact h i j x y hij a2 b2
  ·rw[b2];exact lo i x a1 a2
  ·exact h i (j-1) x y (by omega) a2 b2
  ·omega
  ·omega
  ·rw[a2];exact up (j-1) y (by omega) b2
  ·omega
  ·omega
  ·exact h (i-1) (j-1) x y (by omega) a2 b2
theorem Aab(l:List MonV)(s:ByteArray)(a:Int):(Fy l s a).length≤l.length+1:=by
 unfold Fy
 split
 ·rw[List.length_set];omega
 ·have:=Sx l s
  rw[List.length_append,List.length_cons,List.length_take,List.length_drop];omega
theorem It(l:List MonV):((Ay l).all (·.all p0))=true:=by
 rw[List.all_eq_true]
 intro r hr
 obtain⟨x,_,rfl⟩:=List.mem_map.1 hr
 rfl
theorem A4l(l:List MonV):((Ay l).all (·.all Dt))=true:=by
 rw[List.all_eq_true]
 intro r hr
 obtain⟨x,_,rfl⟩:=List.mem_map.1 hr
 rfl
theorem La(l:List MonV):(Ay l).map (·.map z0)=Ay l:=by
 rw[Ay,List.map_map];exact List.map_congr_left fun _ _=>rfl
theorem Ew(l:List LegV):((Ac l).all (·.all p0))=true:=by
 rw[List.all_eq_true]
 intro r hr
 obtain⟨x,_,rfl⟩:=List.mem_map.1 hr
 rfl
theorem L9(l:List LegV):((Ac l).all (·.all Dt))=true:=by
 rw[List.all_eq_true]
 intro r hr
 obtain⟨x,_,rfl⟩:=List.mem_map.1 hr
 rfl
theorem Fb(l:List LegV):(Ac l).map (·.map z0)=Ac l:=by
 rw[Ac,List.map_map];exact List.map_congr_left fun _ _=>rfl
theorem Tf{l:List LegV}{k:Nat}{x:LegV}(e:l[k]?=some x):Dv (l.take (k+1))=Fy (Dv (l.take k)) x.cur x.amount:=by
 unfold Dv
 rw[List.take_add_one,e,List.foldl_append];rfl
theorem Te:∀ (l:List LegV) (o:List MonV),SortM o→SortM (l.foldl (fun o x=>Fy o x.cur x.amount) o)
 | [],_,h=>h
 | x :: l,_,h=>Te l _ (A5z h x.cur x.amount)
theorem A2r(l:List LegV):SortM (Dv l):=Te l [] (fun i j a b _ h=>by cases h)
theorem Zi:∀ (l:List LegV) (o:List MonV),(l.foldl (fun o x=>Fy o x.cur x.amount) o).length≤o.length+l.length
 | [],_=>Nat.le_refl _
 | x :: l,o=>by
  have h1:=Zi l (Fy o x.cur x.amount)
  have h2:=Aab o x.cur x.amount
  rw[List.foldl_cons,List.length_cons];omega
theorem Jj(l:List LegV):(Dv l).length≤l.length:=by have:=Zi l [];simpa [Dv] using this
theorem Aac{l:List MonV}{s:ByteArray}{a:Int}{i:Nat}{m:MonV}(hb:mB l s=true)(hi:mI l s=i)(e:l[i]?=some m) :
  Ay (Fy l s a)=(Ay l).set i [gS m.cur,.ex (.int .i64 (IntKind.i64.wrap (m.amount+a)))]:=by
 obtain⟨m',e',hc⟩:=V7 hb
 rw[hi,e] at e'
 cases e'
 unfold Fy
 rw[if_pos hb,hi,e,Ay,List.map_set,hc];rfl
theorem Aaa{l:List MonV}{s:ByteArray}{a:Int}{i:Nat}(hb:mB l s=false)(hi:mI l s=i) :
  Ay (Fy l s a)=((Ay l).take i++[gS s,gI 0] :: (Ay l).drop i).set i [gS s,.ex (.int .i64 (IntKind.i64.wrap (0+a)))]:=by
 have hle:i≤(Ay l).length:=by rw[Ex,← hi];exact Sx l s
 unfold Fy
 rw[if_neg (by rw[hb];simp),hi,List.set_append_right _ _ (by rw[List.length_take];omega),List.length_take,Nat.min_eq_left hle,Nat.sub_self,List.set_cons_zero]
 unfold Ay
 rw[List.map_append,List.map_cons,List.map_take,List.map_drop];rfl
theorem Aa7(l:List LegV)(hl:l.length≤1000):Cn 65 [.sl (Ac l)] (.fresh 122 (Ay (Dv l))):=by
 refine Gy base Tryz.func65 rfl rfl (by kernel_rfl) (Nat.le_of_ble_eq_true rfl) ?_
 rw[Jc]
 have q1:=B9 l
 (repeat' (first|exact trivial|refine stR ?_|((first|refine stp ?_|refine A0 (fun h=>?_) ?_|(refine gw (fun h=>?_) (fun h=>?_)<;>(try (exfalso;omega))))<;>(try (refine wS ?_)))))
 refine A9 (fun n tm hp nx=>∃ (k b:Nat) (O:List MonV),n=l.length-k∧k≤l.length∧tm 8=.sl (Ac l)∧tm 9=gI l.length∧tm 10=gI k∧tm 3=.own b∧hp b=some ⟨122,Ay O,true⟩∧b<nx∧Hid (O=Dv (l.take k))) l.length ⟨0,_,[],rfl,Nat.zero_le _,by exact byS,by exact byS,by exact byS,by exact byS,by exact byQ,by omega,Lib.hid rfl⟩ ?_
 rintro n tm hp nx ⟨k,b,O,hn,hk,g8,g9,g10,g3,gh,hb,hO⟩
 by_cases hlt:k<l.length
 ·have e0:l[k]?=some l[k]:=List.getElem?_eq_getElem hlt
  generalize l[k]=x at e0
  have hs:SortM O:=hO.out▸A2r _
  have hOl:O.length≤k:=by rw[hO.out];have:=Jj (l.take k);rw[List.length_take] at this;omega
  have n1:Hid (Fy O x.cur x.amount=Dv (l.take (k+1))):=Lib.hid (by rw[Tf e0,← hO.out])
  have q4:=Bq e0
  have hBS:=Wc O x.cur (by omega) (hs.mono x.cur)
  have hm1:=Sx O x.cur
  have hml:=Ex O
  have f1:=It O
  have f3:=La O
  clear hs hO e0
  cases hmb:mB O x.cur with
  | true =>
   obtain⟨m,em,hc⟩:=V7 hmb
   have hmt:=Aac (a:=x.amount) hmb rfl em
   unfold mB at hmb
   rw[hmb] at hBS
   unfold mI at hmt em hm1
   generalize bsI (fun m:MonV=>ltS m.cur x.cur) O=i at hBS hmt em hm1
   have hil:i<O.length:=(List.getElem?_eq_some_iff.1 em).1
   have hA:=hmt.symm
   have q5:=Fq em
   rw[hc] at hA q5
   clear hmt em hmb hc
   (repeat' (first|exact trivial|refine stR ?_|((first|refine cv (hBS) ?_|refine stp ?_|refine A0 (fun h=>?_) ?_|(refine gw (fun h=>?_) (fun h=>?_)<;>(try (exfalso;omega))))<;>(try (refine wS ?_)))))
   exact A3 (l.length-(k+1)) (by omega) ⟨k+1,b,Fy O x.cur x.amount,rfl,by omega,by exact byS,by exact byS,by exact byS,by exact byS,by exact byS,by omega,n1⟩
  | false =>
   have hmt:=Aaa (a:=x.amount) hmb rfl
   unfold mB at hmb
   rw[hmb] at hBS
   unfold mI at hmt hm1
   generalize bsI (fun m:MonV=>ltS m.cur x.cur) O=i at hBS hmt hm1
   have hI:=On (C:=CtxP) (es:=Ay O) (x:=[gS x.cur,gI 0]) (i:=i) (by omega) rfl (by omega)
   have q5:((Ay O).take i++[gS x.cur,gI 0] :: (Ay O).drop i)[i]?=some [gS x.cur,gI 0]:=by
    rw[List.getElem?_append_right (by rw[List.length_take];omega),List.length_take,show i-min i (Ay O).length=0 by omega];rfl
   have f4:(((Ay O).take i++[gS x.cur,gI 0] :: (Ay O).drop i).all (·.all Dt))=true:=by
    rw[List.all_append,List.all_cons,Bool.and_eq_true,Bool.and_eq_true]
    exact⟨List.all_eq_true.2 fun r hr=>List.all_eq_true.1 (A4l O) r (List.mem_of_mem_take hr),rfl,List.all_eq_true.2 fun r hr=>List.all_eq_true.1 (A4l O) r (List.mem_of_mem_drop hr)⟩
   have f5:((Ay O).take i++[gS x.cur,gI 0] :: (Ay O).drop i).length=O.length+1:=by
    rw[List.length_append,List.length_cons,List.length_take,List.length_drop];omega
   have hA:=hmt.symm
   generalize (Ay O).take i++[gS x.cur,gI 0] :: (Ay O).drop i=Y at hI q5 f4 f5 hA
   clear hmt hmb
   (repeat' (first|exact trivial|refine stR ?_|((first|refine cv (hBS) ?_|refine Ub (by exact byQ) rfl (by first|assumption|rfl) byA (by first|exact List.not_mem_nil|(simp only[List.mem_cons,List.not_mem_nil,or_false];omega)) (by first|assumption|rfl) (by first|assumption|rfl) (hI) ?_|refine stp ?_|refine A0 (fun h=>?_) ?_|(refine gw (fun h=>?_) (fun h=>?_)<;>(try (exfalso;omega))))<;>(try (refine wS ?_)))))
   exact A3 (l.length-(k+1)) (by omega) ⟨k+1,_,Fy O x.cur x.amount,rfl,by omega,by exact byS,by exact byS,by exact byS,by exact byS,by exact byQ,by omega,n1⟩
 ·have hOe:O=Dv l:=by rw[hO.out,List.take_of_length_le (by omega)]
  subst hOe
  have f1:=It (Dv l)
  have f3:=La (Dv l)
  (repeat' (first|exact trivial|refine stR ?_|((first|refine stp ?_|refine A0 (fun h=>?_) ?_|(refine gw (fun h=>?_) (fun h=>?_)<;>(try (exfalso;omega))))<;>(try (refine wS ?_)))))
  all_goals simp only[sxd,z0,p0,Nat.reduceEqDiff,↓reduceIte,Tryz.f65, *]
end Go.Proofs.YtbhffbgbhgjdiaaGreatDoor
