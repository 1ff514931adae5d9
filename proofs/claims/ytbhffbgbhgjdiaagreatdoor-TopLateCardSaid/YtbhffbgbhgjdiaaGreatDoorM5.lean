/-
  Parts of the proof: S1 S2 S3 S4 S7. Conditions: those that each theorem states.
-/
import Derived.Test.YtbhffbgbhgjdiaaGreatDoorM2
import Derived.Test.YtbhffbgbhgjdiaaGreatDoorM1
import Derived.Test.YtbhffbgbhgjdiaaGreatDoorM3
set_option linter.unusedSimpArgs false
set_option linter.unusedVariables false
namespace Go.Proofs.YtbhffbgbhgjdiaaGreatDoor
open Go.RowKit
set_option maxRecDepth 100000
def GlC(r:List AV):Prop:=∃ a b c s,r=[gI a,gI b,gI c,gS s]
def Avi(r:List AV):Prop:=∃ s n,r=[gS s,gI n]
namespace D
theorem Uc{L:List (List AV)}(hL:∀ r∈L,Fz r)(hn:Sz L.length)(id:Int):∃ x:List AV×Bool,GlC x.1∧Cn 122 [.sl L,gI id] (.val (gAB x)):=by
 unfold Sz at hn
 refine caS gAB Tryz.func122 ?_
 (repeat' (first|exact trivial|refine stR ?_|((first|refine stp ?_|refine A0 (fun h=>?_) ?_|(refine gw (fun h=>?_) (fun h=>?_)<;>(try (exfalso;omega))))<;>(try (refine wS ?_)))))
 refine A9 (fun n tm hp nx=>∃ k:Nat,n=L.length-k∧k≤L.length∧tm 1=gI id∧tm 4=.pt 0 0 0∧hp 0=some ⟨138,[[gI 0,gI 0,gI 0,.ex (.string ⟨#[]⟩)]],true⟩∧0<nx∧tm 8=.sl L∧tm 9=gI L.length∧tm 10=gI k) L.length ⟨0,rfl,Nat.zero_le _,byS,byS,byQ,by omega,byS,byS,byS⟩ ?_
 rintro n tm hp nx ⟨k,hnn,hk,g1,g4,b0,hx,g8,g9,g10⟩
 by_cases hlt:k<L.length
 ·obtain⟨a,b,c,s,e,hs,ha⟩:=hL _ (List.getElem_mem hlt)
  have e0:L[k]?=some [gI a,gI b,gI c,gS s]:=by rw[List.getElem?_eq_getElem hlt,e]
  clear e
  (repeat' (first|exact trivial|refine stR ?_|((first|refine stp ?_|refine A0 (fun h=>?_) ?_|(refine gw (fun h=>?_) (fun h=>?_)<;>(try (exfalso;omega))))<;>(try (refine wS ?_)))))
  all_goals first
   | exact A3 (L.length-(k+1)) (by omega) ⟨k+1,rfl,by omega,byS,byS,byQ,by omega,byS,byS,byS⟩
   | ((refine rc3 rfl ?_);exact⟨(_,_),rfl,_,_,_,_,rfl⟩)
 ·(repeat' (first|exact trivial|refine stR ?_|((first|refine stp ?_|refine A0 (fun h=>?_) ?_|(refine gw (fun h=>?_) (fun h=>?_)<;>(try (exfalso;omega))))<;>(try (refine wS ?_)))))
  all_goals ((refine rc3 rfl ?_);exact⟨(_,_),rfl,_,_,_,_,rfl⟩)
theorem Q9{L:List (List AV)}(hL:∀ r∈L,Ju r)(hn:Sz L.length)(c:ByteArray):∃ x:List AV×Bool,Avi x.1∧Cn 125 [.sl L,gS c] (.val (gAB x)):=by
 unfold Sz at hn
 refine caS gAB Tryz.func125 ?_
 (repeat' (first|exact trivial|refine stR ?_|((first|refine stp ?_|refine A0 (fun h=>?_) ?_|(refine gw (fun h=>?_) (fun h=>?_)<;>(try (exfalso;omega))))<;>(try (refine wS ?_)))))
 refine A9 (fun n tm hp nx=>∃ k:Nat,n=L.length-k∧k≤L.length∧tm 1=gS c∧tm 4=.pt 0 0 0∧hp 0=some ⟨135,[[.ex (.string ⟨#[]⟩),gI 0]],true⟩∧0<nx∧tm 8=.sl L∧tm 9=gI L.length∧tm 10=gI k) L.length ⟨0,rfl,Nat.zero_le _,byS,byS,byQ,by omega,byS,byS,byS⟩ ?_
 rintro n tm hp nx ⟨k,hnn,hk,g1,g4,b0,hx,g8,g9,g10⟩
 by_cases hlt:k<L.length
 ·obtain⟨s,a,e,hs,ha⟩:=hL _ (List.getElem_mem hlt)
  have e0:L[k]?=some [gS s,gI a]:=by rw[List.getElem?_eq_getElem hlt,e]
  clear e
  (repeat' (first|exact trivial|refine stR ?_|((first|refine stp ?_|refine A0 (fun h=>?_) ?_|(refine gw (fun h=>?_) (fun h=>?_)<;>(try (exfalso;omega))))<;>(try (refine wS ?_)))))
  all_goals first
   | exact A3 (L.length-(k+1)) (by omega) ⟨k+1,rfl,by omega,byS,byS,byQ,by omega,byS,byS,byS⟩
   | ((refine rc3 rfl ?_);exact⟨(_,_),rfl,_,_,rfl⟩)
 ·(repeat' (first|exact trivial|refine stR ?_|((first|refine stp ?_|refine A0 (fun h=>?_) ?_|(refine gw (fun h=>?_) (fun h=>?_)<;>(try (exfalso;omega))))<;>(try (refine wS ?_)))))
  all_goals ((refine rc3 rfl ?_);exact⟨(_,_),rfl,_,_,rfl⟩)
theorem Al2{r:List AV}(hr:Fz r)(a m:Int)(s:ByteArray):∃ x:Bool,True∧Cn 124 [.agg r,.rp [gI a,gI m,gS s] 0] (.val (gB x)):=by
 obtain⟨a1,b1,c1,s1,rfl,_,_⟩:=hr
 refine caS gB Tryz.func124 ?_
 (repeat' (first|exact trivial|refine stR ?_|((first|refine stp ?_|refine A0 (fun h=>?_) ?_|(refine gw (fun h=>?_) (fun h=>?_)<;>(try (exfalso;omega))))<;>(try (refine wS ?_)))))
 all_goals (simp only[sxd,z0,p0,Nat.reduceEqDiff,↓reduceIte,Tryz.f124, *];exact aX)
theorem Ak0{L:List (List AV)}(hL:∀ r∈L,Fz r)(hn:Sz L.length)(a m:Int)(s:ByteArray):∃ x:Int,True∧Cn 174 [.sl L,.fn 124 [.rp [gI a,gI m,gS s] 0]] (.val (gI x)):=by
 unfold Sz at hn
 refine caS gI Tryz.func174 ?_
 (repeat' (first|exact trivial|refine stR ?_|((first|refine stp ?_|refine A0 (fun h=>?_) ?_|(refine gw (fun h=>?_) (fun h=>?_)<;>(try (exfalso;omega))))<;>(try (refine wS ?_)))))
 refine A9 (fun n tm hp nx=>∃ k:Nat,n=L.length-k∧k≤L.length∧tm 0=.sl L∧tm 1=.fn 124 [.rp [gI a,gI m,gS s] 0]∧tm 6=.sl L∧tm 7=gI L.length∧tm 8=gI k) L.length ⟨0,rfl,Nat.zero_le _,byS,byS,byS,byS,byS⟩ ?_
 rintro n tm hp nx ⟨k,hnn,hk,g0,g1,g6,g7,g8⟩
 by_cases hlt:k<L.length
 ·have hr:=hL _ (List.getElem_mem hlt)
  have e0:=List.getElem?_eq_getElem hlt
  generalize L[k]=r at hr e0
  obtain⟨x,_,hc⟩:=Al2 hr a m s
  obtain⟨a1,b1,c1,s1,rfl,_,_⟩:=hr
  (repeat' (first|exact trivial|refine stR ?_|((first|refine cv (hc) ?_|refine stp ?_|refine A0 (fun h=>?_) ?_|(refine gw (fun h=>?_) (fun h=>?_)<;>(try (exfalso;omega))))<;>(try (refine wS ?_)))))
  all_goals first
   | exact A3 (L.length-(k+1)) (by omega) ⟨k+1,rfl,by omega,byS,byS,byS,byS,byS⟩
   | (simp only[sxd,z0,p0,Nat.reduceEqDiff,↓reduceIte,Tryz.f174, *];exact aX)
 ·(repeat' (first|exact trivial|refine stR ?_|((first|refine stp ?_|refine A0 (fun h=>?_) ?_|(refine gw (fun h=>?_) (fun h=>?_)<;>(try (exfalso;omega))))<;>(try (refine wS ?_)))))
  all_goals (simp only[sxd,z0,p0,Nat.reduceEqDiff,↓reduceIte,Tryz.f174, *];exact aX)
theorem Acs{L:List (List AV)}(hL:∀ r∈L,Fz r)(hn:Sz L.length)(a m:Int)(s:ByteArray):∃ x:Bool,True∧Cn 123 [.sl L,.fn 124 [.rp [gI a,gI m,gS s] 0]] (.val (gB x)):=by
 obtain⟨x,_,hc⟩:=Ak0 hL hn a m s
 refine caS gB Tryz.func123 ?_
 (repeat' (first|exact trivial|refine stR ?_|((first|refine cv (hc) ?_|refine stp ?_|refine A0 (fun h=>?_) ?_|(refine gw (fun h=>?_) (fun h=>?_)<;>(try (exfalso;omega))))<;>(try (refine wS ?_)))))
 all_goals (simp only[sxd,z0,p0,Nat.reduceEqDiff,↓reduceIte,Tryz.f123, *];exact aX)
end D
def Tz:AccV:=⟨0,0,0,0,⟨#[]⟩,⟨#[]⟩,⟨#[]⟩⟩
def intZ:IntV:=⟨[],false,0,0,false⟩
def prodZ:ProdV:=⟨⟨#[]⟩,⟨#[]⟩,⟨#[]⟩,0,0,0,0,intZ,intZ,[],[]⟩
theorem A49:intZ.Ok:=⟨(by unfold Sz intZ;decide),(fun y h=>(by cases h)),(by unfold I64 intZ;decide),(by unfold I64 intZ;decide),(by unfold Sz intZ;decide)⟩
theorem Qj:prodZ.Ok:=⟨(by unfold Sz prodZ;decide),(by unfold Sz prodZ;decide),(by unfold Sz prodZ;decide),(by unfold I64 prodZ;decide),(by unfold I64 prodZ;decide),(by unfold I64 prodZ;decide),(by unfold I64 prodZ;decide),A49,A49,(by unfold Sz prodZ;decide),(by unfold Sz prodZ;decide),(fun y h=>(by cases h)),(fun y h=>(by cases h)),(by unfold Sz prodZ;decide),(by unfold Sz prodZ;decide)⟩
def C2(id:Int)(l:List AccV):Option AccV:=l.find? fun a=>decide (a.id=id)
def ixA(id:Int)(l:List AccV):Int:=match l.findIdx? fun a=>decide (a.id=id) with|some k=>k|none=>-1
theorem Gt(l:List AccV):(Hz l).length=l.length:=by simp [Hz]
theorem I8{l:List AccV}{k:Nat}{a:AccV}(h:l[k]?=some a):(Hz l)[k]?=some [gI a.id,gI a.opened,gI a.closed,gI a.extra,gS a.owner,gS a.product,gS a.number]:=by rw[Hz,List.getElem?_map,h];rfl
theorem H8(l:List ProdV):(Db l).length=l.length:=by simp [Db]
theorem Cl{l:List ProdV}{k:Nat}{p:ProdV}(h:l[k]?=some p):(Db l)[k]?=some [gS p.name,gS p.cur,gS p.cal,gI p.frm,gI p.every,gI p.over,gI p.tax,.sl (An p.cr.tiers),gB p.cr.marg,gI p.cr.basis,gI p.cr.mode,gB p.cr.keep,.sl (An p.db.tiers),gB p.db.marg,gI p.db.basis,gI p.db.mode,gB p.db.keep,.sl p.fees,.sl p.rules]:=by rw[Db,List.getElem?_map,h];rfl
theorem Ajz{id:Int}{l:List AccV}{k:Nat}{a:AccV}(h:l[k]?=some a)(ha:a.id=id)(hb:∀ (j:Nat) y,j<k→l[j]?=some y→¬ y.id=id):ixA id l=k:=by
 have hk:=(List.getElem?_eq_some_iff.1 h).1
 have:l.findIdx? (fun a=>decide (a.id=id))=some k:=by
  rw[List.findIdx?_eq_some_iff_getElem]
  refine⟨hk, ?_,fun j hj=>?_⟩
  ·have:=(List.getElem?_eq_some_iff.1 h).2
   rw[this];simpa using ha
  ·have:=hb j (l[j]'(by omega)) hj (List.getElem?_eq_getElem _)
   simpa using this
 unfold ixA
 rw[this]
theorem Ad3{id:Int}{l:List AccV}(hb:∀ (j:Nat) y,l[j]?=some y→¬ y.id=id):ixA id l=-1:=by
 have:l.findIdx? (fun a=>decide (a.id=id))=none:=by
  rw[List.findIdx?_eq_none_iff]
  intro x hx
  obtain⟨j,hj⟩:=List.mem_iff_getElem?.1 hx
  simpa using hb j x hj
 unfold ixA
 rw[this]
theorem Am6{l:List AccV}{k:Nat}{a:AccV}{id:Int}(h:l[k]?=some a)(ha:¬ a.id=id)(hb:∀ (j:Nat) y,j<k→l[j]?=some y→¬ y.id=id):∀ (j:Nat) y,j<k+1→l[j]?=some y→¬ y.id=id:=by
 intro j y hj hy
 rcases Nat.lt_or_ge j k with h1|h1
 ·exact hb j y h1 hy
 ·have:j=k:=by omega
  subst this
  rw[h] at hy;cases hy;exact ha
theorem Ad4(id:Int)(l:List AccV):(ixA id l=-1∧C2 id l=none)∨∃ (k:Nat) (a:AccV),ixA id l=k∧l[k]?=some a∧C2 id l=some a∧a.id=id:=by
 unfold ixA C2
 cases h:l.findIdx? fun a=>decide (a.id=id) with
 | none =>
  refine .inl ⟨rfl, ?_⟩
  rw[List.find?_eq_none]
  rw[List.findIdx?_eq_none_iff] at h
  intro x hx
  simpa using h x hx
 | some k =>
  have h0:=h
  rw[List.findIdx?_eq_some_iff_getElem] at h
  obtain⟨hk,h1,h2⟩:=h
  refine .inr ⟨k,l[k],rfl,List.getElem?_eq_getElem hk, ?_,by simpa using h1⟩
  rw[List.find?_eq_some_iff_getElem]
  exact⟨h1,k,hk,rfl,fun j hj=>by simpa using h2 j hj⟩
namespace D
theorem A7h(l:List AccV)(hn:Sz l.length)(id:Int):Cn 114 [.sl (Hz l),.fn 115 [.rp [gI id] 0]] (.val (gI (ixA id l))):=by
 unfold Sz at hn
 have hl:=Gt l
 have key:∃ x:Int,x=ixA id l∧Cn 114 [.sl (Hz l),.fn 115 [.rp [gI id] 0]] (.val (gI x)):=by
  generalize hr:ixA id l=R
  replace hr:=Lib.hid hr
  refine caS gI Tryz.func114 ?_
  (repeat' (first|exact trivial|refine stR ?_|((first|refine stp ?_|refine A0 (fun h=>?_) ?_|(refine gw (fun h=>?_) (fun h=>?_)<;>(try (exfalso;omega))))<;>(try (refine wS ?_)))))
  refine A9 (fun n tm hp nx=>∃ k:Nat,n=l.length-k∧k≤l.length∧tm 0=.sl (Hz l)∧tm 1=.fn 115 [.rp [gI id] 0]∧tm 6=.sl (Hz l)∧tm 7=gI l.length∧tm 8=gI k∧Hid (∀ (j:Nat) y,j<k→l[j]?=some y→¬ y.id=id)) l.length ⟨0,rfl,Nat.zero_le _,byS,byS,byS,byS,byS,Lib.hid fun j y hj=>absurd hj (Nat.not_lt_zero _)⟩ ?_
  rintro n tm hp nx ⟨k,hnn,hk,g0,g1,g6,g7,g8,hH⟩
  by_cases hlt:k<l.length
  ·have e1:=List.getElem?_eq_getElem hlt
   generalize l[k]=a at e1
   have e0:=I8 e1
   by_cases ha:a.id=id
   ·have hR:R=k:=by rw[← hr.out,Ajz e1 ha hH.out]
    have hc:Cn 115 [.agg [gI a.id,gI a.opened,gI a.closed,gI a.extra,gS a.owner,gS a.product,gS a.number],.rp [gI id] 0] (.val (gB true)):=by
     have:∃ x:Bool,x=true∧Cn 115 [.agg [gI a.id,gI a.opened,gI a.closed,gI a.extra,gS a.owner,gS a.product,gS a.number],.rp [gI id] 0] (.val (gB x)):=by
      refine caS gB Tryz.func115 ?_
      (repeat' (first|exact trivial|refine stR ?_|((first|refine stp ?_|refine A0 (fun h=>?_) ?_|(refine gw (fun h=>?_) (fun h=>?_)<;>(try (exfalso;omega))))<;>(try (refine wS ?_)))))
      all_goals (simp only[sxd,z0,p0,Nat.reduceEqDiff,↓reduceIte,Tryz.f115, *];exact aX)
     obtain⟨x,rfl,h⟩:=this
     exact h
    clear hH hr e1
    (repeat' (first|exact trivial|refine stR ?_|((first|refine cv (hc) ?_|refine stp ?_|refine A0 (fun h=>?_) ?_|(refine gw (fun h=>?_) (fun h=>?_)<;>(try (exfalso;omega))))<;>(try (refine wS ?_)))))
    all_goals (simp only[sxd,z0,p0,Nat.reduceEqDiff,↓reduceIte,Tryz.f114, *];exact aX)
   ·have hN:=Lib.hid (Am6 e1 ha hH.out)
    have hc:Cn 115 [.agg [gI a.id,gI a.opened,gI a.closed,gI a.extra,gS a.owner,gS a.product,gS a.number],.rp [gI id] 0] (.val (gB false)):=by
     have:∃ x:Bool,x=false∧Cn 115 [.agg [gI a.id,gI a.opened,gI a.closed,gI a.extra,gS a.owner,gS a.product,gS a.number],.rp [gI id] 0] (.val (gB x)):=by
      refine caS gB Tryz.func115 ?_
      (repeat' (first|exact trivial|refine stR ?_|((first|refine stp ?_|refine A0 (fun h=>?_) ?_|(refine gw (fun h=>?_) (fun h=>?_)<;>(try (exfalso;omega))))<;>(try (refine wS ?_)))))
      all_goals (simp only[sxd,z0,p0,Nat.reduceEqDiff,↓reduceIte,Tryz.f115, *];exact aX)
     obtain⟨x,rfl,h⟩:=this
     exact h
    clear hH e1 ha
    (repeat' (first|exact trivial|refine stR ?_|((first|refine cv (hc) ?_|refine stp ?_|refine A0 (fun h=>?_) ?_|(refine gw (fun h=>?_) (fun h=>?_)<;>(try (exfalso;omega))))<;>(try (refine wS ?_)))))
    all_goals exact A3 (l.length-(k+1)) (by omega) ⟨k+1,rfl,by omega,byS,byS,byS,byS,byS,hN⟩
  ·have hR:R=-1:=by rw[← hr.out,Ad3 fun j y hy=>hH.out j y (by have:=(List.getElem?_eq_some_iff.1 hy).1;omega) hy]
   clear hH hr
   (repeat' (first|exact trivial|refine stR ?_|((first|refine stp ?_|refine A0 (fun h=>?_) ?_|(refine gw (fun h=>?_) (fun h=>?_)<;>(try (exfalso;omega))))<;>(try (refine wS ?_)))))
   all_goals (simp only[sxd,z0,p0,Nat.reduceEqDiff,↓reduceIte,Tryz.f114, *];exact aX)
 obtain⟨x,rfl,h⟩:=key
 exact h
theorem A7c(b:BkV)(j:List (List AV))(hn:Sz b.accs.length)(id:Int):Cn 57 [.agg (bkC b j),gI id] (.val (gI (ixA id b.accs))):=by
 have hc:=A7h b.accs hn id
 generalize ixA id b.accs=R at hc
 have key:∃ x:Int,x=R∧Cn 57 [.agg (bkC b j),gI id] (.val (gI x)):=by
  unfold bkC
  refine caS gI Tryz.func57 ?_
  (repeat' (first|exact trivial|refine stR ?_|((first|refine cv (hc) ?_|refine stp ?_|refine A0 (fun h=>?_) ?_|(refine gw (fun h=>?_) (fun h=>?_)<;>(try (exfalso;omega))))<;>(try (refine wS ?_)))))
  all_goals (simp only[sxd,z0,p0,Nat.reduceEqDiff,↓reduceIte,Tryz.f57, *];exact aX)
 obtain⟨x,rfl,h⟩:=key
 exact h
end D
abbrev gP(x:ProdV×Bool):AV:=.tup [.agg (Bw x.1),gB x.2]
def Kc(o:Option AccV):AV:=.tup [.agg (D6 (o.getD Tz)),gB o.isSome]
def A5x(o:Option AccV)(day:Int):Bool:=match o with
 | some a=>decide (a.opened≤day) && (decide (a.closed=0) || decide (day<a.closed))
 | none=>false
namespace D
theorem Ep(b:BkV)(j:List (List AV))(hn:Sz b.accs.length)(id:Int):Cn 18 [.agg (bkC b j),gI id] (.val (Kc (C2 id b.accs))):=by
 have hc:=A7c b j hn id
 have key:∃ x:AV,x=Kc (C2 id b.accs)∧Cn 18 [.agg (bkC b j),gI id] (.val ((fun x=>x) x)):=by
  rcases Ad4 id b.accs with⟨h1,h2⟩|⟨k,a,h1,h2,h3,h4⟩
  ·rw[h1] at hc
   rw[h2]
   unfold bkC at *
   refine caS (fun x=>x) Tryz.func18 ?_
   (repeat' (first|exact trivial|refine stR ?_|((first|refine cv (hc) ?_|refine stp ?_|refine A0 (fun h=>?_) ?_|(refine gw (fun h=>?_) (fun h=>?_)<;>(try (exfalso;omega))))<;>(try (refine wS ?_)))))
   all_goals ((refine rc3 rfl ?_);exact⟨_,rfl,rfl⟩)
  ·rw[h1] at hc
   rw[h3]
   have e0:=I8 h2
   have hl:=Gt b.accs
   have hlt:=(List.getElem?_eq_some_iff.1 h2).1
   unfold Sz at hn
   clear h1 h2 h3 h4
   unfold bkC at *
   refine caS (fun x=>x) Tryz.func18 ?_
   (repeat' (first|exact trivial|refine stR ?_|((first|refine cv (hc) ?_|refine stp ?_|refine A0 (fun h=>?_) ?_|(refine gw (fun h=>?_) (fun h=>?_)<;>(try (exfalso;omega))))<;>(try (refine wS ?_)))))
   all_goals ((refine rc3 rfl ?_);exact⟨_,rfl,rfl⟩)
 obtain⟨x,rfl,h⟩:=key
 exact h
theorem Of(b:BkV)(j:List (List AV))(hn:Sz b.accs.length)(id day:Int):Cn 71 [.agg (bkC b j),gI id,gI day] (.val (gB (A5x (C2 id b.accs) day))):=by
 have hc:=Ep b j hn id
 generalize C2 id b.accs=o at hc
 have key:∃ x:Bool,x=A5x o day∧Cn 71 [.agg (bkC b j),gI id,gI day] (.val (gB x)):=by
  unfold bkC at *
  cases o with
  | none =>
   unfold Kc D6 Tz at hc
   simp only[Option.getD_none,Option.isSome_none] at hc
   refine caS gB Tryz.func71 ?_
   (repeat' (first|exact trivial|refine stR ?_|((first|refine cv (hc) ?_|refine stp ?_|refine A0 (fun h=>?_) ?_|(refine gw (fun h=>?_) (fun h=>?_)<;>(try (exfalso;omega))))<;>(try (refine wS ?_)))))
   all_goals (simp only[sxd,z0,p0,Nat.reduceEqDiff,↓reduceIte,Tryz.f71, *];exact aX)
  | some a =>
   unfold Kc D6 at hc
   simp only[Option.getD_some,Option.isSome_some] at hc
   unfold A5x
   refine caS gB Tryz.func71 ?_
   (repeat' (first|exact trivial|refine stR ?_|((first|refine cv (hc) ?_|refine stp ?_|refine A0 (fun h=>?_) ?_|(refine gw (fun h=>?_) (fun h=>?_)<;>(try (exfalso;omega))))<;>(try (refine wS ?_)))))
   all_goals (simp only[sxd,z0,p0,Nat.reduceEqDiff,↓reduceIte,Tryz.f71, *])
   all_goals (refine⟨_,rfl, ?_⟩;simp_all<;>omega)
 obtain⟨x,rfl,h⟩:=key
 exact h
theorem Amm{l:List ProdV}(hl:∀ p∈l,p.Ok)(hn:Sz l.length)(nm:ByteArray)(day:Int):∃ x:ProdV×Bool,x.1.Ok∧Cn 59 [.sl (Db l),gS nm,gI day] (.val (gP x)):=by
 unfold Sz at hn
 have hln:=H8 l
 refine caS gP Tryz.func59 ?_
 (repeat' (first|exact trivial|refine stR ?_|((first|refine stp ?_|refine A0 (fun h=>?_) ?_|(refine gw (fun h=>?_) (fun h=>?_)<;>(try (exfalso;omega))))<;>(try (refine wS ?_)))))
 refine A9 (fun n tm hp nx=>∃ (k:Nat) (b:Int),n=l.length-k∧k≤l.length∧tm 0=.sl (Db l)∧tm 1=gS nm∧tm 2=gI day∧tm 6=.pt 0 0 0∧hp 0=some ⟨72,[[.ex (.string ⟨#[]⟩),.ex (.string ⟨#[]⟩),.ex (.string ⟨#[]⟩),gI 0,gI 0,gI 0,gI 0,.ex (.slice none 0 0),gB false,gI 0,gI 0,gB false,.ex (.slice none 0 0),gB false,gI 0,gI 0,gB false,.ex (.slice none 0 0),.ex (.slice none 0 0)]],true⟩∧0<nx∧tm 8=gI b∧tm 11=.sl (Db l)∧tm 12=gI l.length∧tm 13=gI k∧(b=-1∨(0≤b∧b.toNat<l.length))) l.length ⟨0,-1,rfl,Nat.zero_le _,byS,byS,byS,byS,byQ,by omega,byS,byS,byS,byS,.inl rfl⟩ ?_
 rintro n tm hp nx ⟨k,b,hnn,hk,g0,g1,g2,g6,b0,hx,g8,g11,g12,g13,hb⟩
 by_cases hlt:k<l.length
 ·have e1:=List.getElem?_eq_getElem hlt
  generalize l[k]=p at e1
  have e0:=Cl e1
  rcases hb with rfl|⟨hb0,hb1⟩
  ·(repeat' (first|exact trivial|refine stR ?_|((first|refine stp ?_|refine A0 (fun h=>?_) ?_|(refine gw (fun h=>?_) (fun h=>?_)<;>(try (exfalso;omega))))<;>(try (refine wS ?_)))))
   all_goals first
    | exact A3 (l.length-(k+1)) (by omega) ⟨k+1,-1,rfl,by omega,byS,byS,byS,byS,byQ,by omega,byS,byS,byS,byS,.inl rfl⟩
    | exact A3 (l.length-(k+1)) (by omega) ⟨k+1,k,rfl,by omega,byS,byS,byS,byS,byQ,by omega,byS,byS,byS,byS,.inr ⟨by omega,by omega⟩⟩
  ·have e2:=List.getElem?_eq_getElem hb1
   generalize l[b.toNat]=q at e2
   have e3:=Cl e2
   have hb2:¬ b<0:=by omega
   (repeat' (first|exact trivial|refine stR ?_|((first|refine stp ?_|refine A0 (fun h=>?_) ?_|(refine gw (fun h=>?_) (fun h=>?_)<;>(try (exfalso;omega))))<;>(try (refine wS ?_)))))
   all_goals first
    | exact A3 (l.length-(k+1)) (by omega) ⟨k+1,b,rfl,by omega,byS,byS,byS,byS,byQ,by omega,byS,byS,byS,byS,.inr ⟨by omega,by omega⟩⟩
    | exact A3 (l.length-(k+1)) (by omega) ⟨k+1,k,rfl,by omega,byS,byS,byS,byS,byQ,by omega,byS,byS,byS,byS,.inr ⟨by omega,by omega⟩⟩
 ·rcases hb with rfl|⟨hb0,hb1⟩
  ·(repeat' (first|exact trivial|refine stR ?_|((first|refine stp ?_|refine A0 (fun h=>?_) ?_|(refine gw (fun h=>?_) (fun h=>?_)<;>(try (exfalso;omega))))<;>(try (refine wS ?_)))))
   all_goals ((refine rc3 rfl ?_);exact⟨(prodZ,false),rfl,Qj⟩)
  ·have e2:=List.getElem?_eq_getElem hb1
   have hq:=hl _ (List.getElem_mem hb1)
   generalize l[b.toNat]=q at e2 hq
   have e3:=Cl e2
   have hb2:¬ b<0:=by omega
   (repeat' (first|exact trivial|refine stR ?_|((first|refine stp ?_|refine A0 (fun h=>?_) ?_|(refine gw (fun h=>?_) (fun h=>?_)<;>(try (exfalso;omega))))<;>(try (refine wS ?_)))))
   all_goals ((refine rc3 rfl ?_);exact⟨(q,true),rfl,hq⟩)
end D
structure EntV where
 id:Int
 booked:Int
 value:Int
 kind:Int
 auth:Int
 period:Int
 key:ByteArray
 text:ByteArray
 legs:List LegV
 chain:Int
def Al(e:EntV):List AV:=[gI e.id,gI e.booked,gI e.value,gI e.kind,gI e.auth,gI e.period,gS e.key,gS e.text,.sl (Ac e.legs),.ex (.int .u64 e.chain)]
def Ab(l:List EntV):List (List AV):=l.map Al
structure EntV.Ok(e:EntV):Prop where
 k:Sz e.key.size
 t:Sz e.text.size
 n:Sz e.legs.length
 c:∀ x∈e.legs,Sz x.cur.size
 i:I64 e.id∧I64 e.booked∧I64 e.value∧I64 e.kind∧I64 e.auth∧I64 e.period
 h:0≤e.chain∧e.chain≤18446744073709551615
 l:∀ x∈e.legs,I64 x.account∧I64 x.amount
 y:Sz (e.legs.length*32)
noncomputable def atF(l:List ProdV)(nm:ByteArray)(day:Int):ProdV×Bool:=open Classical in
 if h:(∀ p∈l,p.Ok)∧Sz l.length then Classical.choose (D.Amm h.1 h.2 nm day) else (prodZ,false)
theorem P0{l:List ProdV}(h1:∀ p∈l,p.Ok)(h2:Sz l.length)(nm:ByteArray)(day:Int):(atF l nm day).1.Ok∧Cn 59 [.sl (Db l),gS nm,gI day] (.val (gP (atF l nm day))):=by
 unfold atF
 rw[dif_pos ⟨h1,h2⟩]
 exact Classical.choose_spec (D.Amm h1 h2 nm day)
noncomputable def B5(b:BkV)(id day:Int):ProdV×Bool:=match C2 id b.accs with
 | some a=>atF b.prods a.product day
 | none=>(prodZ,false)
theorem Jf{b:BkV}(hb:b.Ok)(id day:Int):(B5 b id day).1.Ok:=by
 unfold B5
 split
 ·exact (P0 hb.r4 hb.n4 _ _).1
 ·exact Qj
namespace D
theorem G0{b:BkV}(hb:b.Ok)(j:List (List AV))(id day:Int):Cn 24 [.agg (bkC b j),gI id,gI day] (.val (gP (B5 b id day))):=by
 have hc:=Ep b j hb.n5 id
 have key:∃ x:AV,x=gP (B5 b id day)∧Cn 24 [.agg (bkC b j),gI id,gI day] (.val ((fun x=>x) x)):=by
  unfold B5
  cases ho:C2 id b.accs with
  | none =>
   rw[ho] at hc
   unfold Kc D6 Tz at hc
   simp only[Option.getD_none,Option.isSome_none] at hc
   unfold bkC at *
   refine caS (fun x=>x) Tryz.func24 ?_
   (repeat' (first|exact trivial|refine stR ?_|((first|refine cv (hc) ?_|refine stp ?_|refine A0 (fun h=>?_) ?_|(refine gw (fun h=>?_) (fun h=>?_)<;>(try (exfalso;omega))))<;>(try (refine wS ?_)))))
   all_goals ((refine rc3 rfl ?_);exact⟨_,rfl,rfl⟩)
  | some a =>
   rw[ho] at hc
   unfold Kc D6 at hc
   simp only[Option.getD_some,Option.isSome_some] at hc
   have hd:=(P0 hb.r4 hb.n4 a.product day).2
   clear ho
   dsimp only
   generalize atF b.prods a.product day=r at hd
   obtain⟨p,o⟩:=r
   unfold gP Bw at *
   unfold bkC at *
   refine caS (fun x=>x) Tryz.func24 ?_
   (repeat' (first|exact trivial|refine stR ?_|((first|refine cv (hc) ?_|refine cv (hd) ?_|refine stp ?_|refine A0 (fun h=>?_) ?_|(refine gw (fun h=>?_) (fun h=>?_)<;>(try (exfalso;omega))))<;>(try (refine wS ?_)))))
   all_goals ((refine rc3 rfl ?_);exact⟨_,rfl,rfl⟩)
 obtain⟨x,rfl,h⟩:=key
 exact h
theorem Xl{b:BkV}(hb:b.Ok)(j:List (List AV))(a:AccV):∃ x:ByteArray×Bool,True∧Cn 126 [.agg (bkC b j),.agg (D6 a)] (.val (.tup [gS x.1,gB x.2])):=by
 have hd:=(P0 hb.r4 hb.n4 a.product a.opened).2
 generalize atF b.prods a.product a.opened=r at hd
 obtain⟨p,o⟩:=r
 unfold gP Bw at hd
 unfold bkC D6
 refine caS (fun x:ByteArray×Bool=>.tup [gS x.1,gB x.2]) Tryz.func126 ?_
 (repeat' (first|exact trivial|refine stR ?_|((first|refine cv (hd) ?_|refine stp ?_|refine A0 (fun h=>?_) ?_|(refine gw (fun h=>?_) (fun h=>?_)<;>(try (exfalso;omega))))<;>(try (refine wS ?_)))))
 all_goals (simp only[sxd,z0,p0,Nat.reduceEqDiff,↓reduceIte,Tryz.f126, *])
 all_goals first|exact⟨(_,_),rfl,trivial⟩|exact⟨(_,_),rfl⟩
theorem A7r{b:BkV}(hb:b.Ok)(j:List (List AV))(a m:Int)(s:ByteArray):∃ x:Int,True∧Cn 68 [.agg (bkC b j),.agg [gI a,gI m,gS s]] (.val (gI x)):=by
 obtain⟨⟨r1,o1⟩,⟨g1,g2,g3,g4,e1⟩,c1⟩:=Uc hb.r3 hb.n3 a
 obtain⟨o2,_,c2⟩:=Acs hb.r3 hb.n3 a m s
 obtain⟨⟨r3,o3⟩,⟨g5,g6,e3⟩,c3⟩:=Q9 hb.r1 hb.n1 s
 dsimp only at e1 e3
 subst e1 e3
 unfold bkC
 refine caS gI Tryz.func68 ?_
 (repeat' (first|exact trivial|refine stR ?_|((first|refine cv (c1) ?_|refine cv (c2) ?_|refine cv (c3) ?_|refine stp ?_|refine A0 (fun h=>?_) ?_|(refine gw (fun h=>?_) (fun h=>?_)<;>(try (exfalso;omega))))<;>(try (refine wS ?_)))))
 all_goals (simp only[sxd,z0,p0,Nat.reduceEqDiff,↓reduceIte,Tryz.f68, *];exact aX)
theorem Xm{b:BkV}(hb:b.Ok)(j:List (List AV))(a m:Int)(s:ByteArray)(day:Int):∃ x:Int,True∧Cn 69 [.agg (bkC b j),.agg [gI a,gI m,gS s],gI day] (.val (gI x)):=by
 have c1:=Ep b j hb.n5 a
 have c4:=Of b j hb.n5 a day
 generalize A5x (C2 a b.accs) day=o4 at c4
 generalize C2 a b.accs=o at c1
 obtain⟨⟨r3,o3⟩,⟨g5,g6,e3⟩,c3⟩:=Q9 hb.r1 hb.n1 s
 dsimp only at e3
 subst e3
 obtain⟨⟨s2,o2⟩,_,c2⟩:=Xl hb j (o.getD Tz)
 unfold Kc at c1
 generalize o.getD Tz=ac at c1 c2
 generalize o.isSome=ob at c1
 unfold bkC D6 at *
 refine caS gI Tryz.func69 ?_
 (repeat' (first|exact trivial|refine stR ?_|((first|refine cv (c1) ?_|refine cv (c2) ?_|refine cv (c3) ?_|refine cv (c4) ?_|refine stp ?_|refine A0 (fun h=>?_) ?_|(refine gw (fun h=>?_) (fun h=>?_)<;>(try (exfalso;omega))))<;>(try (refine wS ?_)))))
 all_goals (simp only[sxd,z0,p0,Nat.reduceEqDiff,↓reduceIte,Tryz.f69, *];exact aX)
end D
theorem Kh(L:List (List AV))(f1:(L.all (·.all p0))=true)(f2:L.map (·.map z0)=L)(f3:∀ n∈L,n.length=3)(f4:L.length*32≤140737488355328):Cn 89 [.sl L] (.val (.sl L)):=by
 refine cvS Tryz.func89 ?_
 (repeat' (first|exact trivial|refine stR ?_|((first|refine stp ?_|refine A0 (fun h=>?_) ?_|(refine gw (fun h=>?_) (fun h=>?_)<;>(try (exfalso;omega))))<;>(try (refine wS ?_)))))
 all_goals simp only[sxd,z0,p0,Nat.reduceEqDiff,↓reduceIte,Tryz.f89, *]
theorem Tv(L:List (List AV))(f1:(L.all (·.all p0))=true)(f2:L.map (·.map z0)=L)(f3:∀ n∈L,n.length=2)(f4:L.length*24≤140737488355328):Cn 76 [.sl L] (.val (.sl L)):=by
 refine cvS Tryz.func76 ?_
 (repeat' (first|exact trivial|refine stR ?_|((first|refine stp ?_|refine A0 (fun h=>?_) ?_|(refine gw (fun h=>?_) (fun h=>?_)<;>(try (exfalso;omega))))<;>(try (refine wS ?_)))))
 all_goals simp only[sxd,z0,p0,Nat.reduceEqDiff,↓reduceIte,Tryz.f76, *]
theorem Wg(L:List (List AV))(f1:(L.all (·.all p0))=true)(f2:L.map (·.map z0)=L)(f3:∀ n∈L,n.length=4)(f4:L.length*40≤140737488355328):Cn 77 [.sl L] (.val (.sl L)):=by
 refine cvS Tryz.func77 ?_
 (repeat' (first|exact trivial|refine stR ?_|((first|refine stp ?_|refine A0 (fun h=>?_) ?_|(refine gw (fun h=>?_) (fun h=>?_)<;>(try (exfalso;omega))))<;>(try (refine wS ?_)))))
 all_goals simp only[sxd,z0,p0,Nat.reduceEqDiff,↓reduceIte,Tryz.f77, *]
theorem Tt(L:List (List AV))(f1:(L.all (·.all p0))=true)(f2:L.map (·.map z0)=L)(f3:∀ n∈L,n.length=7)(f4:L.length*80≤140737488355328):Cn 78 [.sl L] (.val (.sl L)):=by
 refine cvS Tryz.func78 ?_
 (repeat' (first|exact trivial|refine stR ?_|((first|refine stp ?_|refine A0 (fun h=>?_) ?_|(refine gw (fun h=>?_) (fun h=>?_)<;>(try (exfalso;omega))))<;>(try (refine wS ?_)))))
 all_goals simp only[sxd,z0,p0,Nat.reduceEqDiff,↓reduceIte,Tryz.f78, *]
theorem Ra(L:List (List AV))(f1:(L.all (·.all p0))=true)(f2:L.map (·.map z0)=L)(f3:∀ n∈L,n.length=6)(f4:L.length*56≤140737488355328):Cn 79 [.sl L] (.val (.sl L)):=by
 refine cvS Tryz.func79 ?_
 (repeat' (first|exact trivial|refine stR ?_|((first|refine stp ?_|refine A0 (fun h=>?_) ?_|(refine gw (fun h=>?_) (fun h=>?_)<;>(try (exfalso;omega))))<;>(try (refine wS ?_)))))
 all_goals simp only[sxd,z0,p0,Nat.reduceEqDiff,↓reduceIte,Tryz.f79, *]
theorem Tu(L:List (List AV))(f1:(L.all (·.all p0))=true)(f2:L.map (·.map z0)=L)(f3:∀ n∈L,n.length=7)(f4:L.length*64≤140737488355328):Cn 80 [.sl L] (.val (.sl L)):=by
 refine cvS Tryz.func80 ?_
 (repeat' (first|exact trivial|refine stR ?_|((first|refine stp ?_|refine A0 (fun h=>?_) ?_|(refine gw (fun h=>?_) (fun h=>?_)<;>(try (exfalso;omega))))<;>(try (refine wS ?_)))))
 all_goals simp only[sxd,z0,p0,Nat.reduceEqDiff,↓reduceIte,Tryz.f80, *]
theorem Kg(L:List (List AV))(f1:(L.all (·.all p0))=true)(f2:L.map (·.map z0)=L)(f3:∀ n∈L,n.length=1)(f4:L.length*8≤140737488355328):Cn 83 [.sl L] (.val (.sl L)):=by
 refine cvS Tryz.func83 ?_
 (repeat' (first|exact trivial|refine stR ?_|((first|refine stp ?_|refine A0 (fun h=>?_) ?_|(refine gw (fun h=>?_) (fun h=>?_)<;>(try (exfalso;omega))))<;>(try (refine wS ?_)))))
 all_goals simp only[sxd,z0,p0,Nat.reduceEqDiff,↓reduceIte,Tryz.f83, *]
theorem Gk(L:List (List AV))(f1:(L.all (·.all p0))=true)(f2:L.map (·.map z0)=L)(f3:∀ n∈L,n.length=2)(f4:L.length*16≤140737488355328):Cn 192 [.sl L] (.val (.sl L)):=by
 refine cvS Tryz.func192 ?_
 (repeat' (first|exact trivial|refine stR ?_|((first|refine stp ?_|refine A0 (fun h=>?_) ?_|(refine gw (fun h=>?_) (fun h=>?_)<;>(try (exfalso;omega))))<;>(try (refine wS ?_)))))
 all_goals simp only[sxd,z0,p0,Nat.reduceEqDiff,↓reduceIte,Tryz.f192, *]
end Go.Proofs.YtbhffbgbhgjdiaaGreatDoor
