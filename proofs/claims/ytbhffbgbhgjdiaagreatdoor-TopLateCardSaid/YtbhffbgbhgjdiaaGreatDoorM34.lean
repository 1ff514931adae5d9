/-
  Parts of the proof: U15 U16. Conditions: those that each theorem states.
-/
import Derived.Test.YtbhffbgbhgjdiaaGreatDoorM29
import Derived.Test.YtbhffbgbhgjdiaaGreatDoorM7
set_option linter.unusedSimpArgs false
set_option linter.unusedVariables false
namespace Go.Proofs.YtbhffbgbhgjdiaaGreatDoor
open Go.RowKit
set_option maxRecDepth 100000
def Avj(n:Int):Prop:=-9223372036854775808≤n∧n≤9223372036854775807
theorem Ay0{l:List MonV}{s:ByteArray}{j:Nat}{m:MonV}(h:j<mI l s)(e:l[j]?=some m):Op.bytesLess m.cur.data.toList s.data.toList=true:=A3n (lt:=fun m:MonV=>ltS m.cur s) h e
theorem Al8{l:List MonV}{s:ByteArray}{j:Nat}{m:MonV}(h:mI l s=j)(e:l[j]?=some m):Op.bytesLess m.cur.data.toList s.data.toList=false:=by
 subst h
 exact O2 (lt:=fun m:MonV=>ltS m.cur s) e
theorem Anf{l:List MonV}{s:ByteArray}{j:Nat}{m:MonV}(h:mI l s=j)(e:l[j]?=some m):mB l s=decide (m.cur=s):=Pb h e
theorem Aqw{l:List MonV}{s:ByteArray}{j:Nat}(h:mI l s=j)(e:l.length≤j):mB l s=false:=U8 h e
theorem Ahr{l:List MonV}{s:ByteArray}{a:Int}{i:Nat}{m:MonV}(hi:mI l s=i)(e:l[i]?=some m)(hc:m.cur=s) :
  (Ay l).take i++[[gS s,.ex (.int .i64 (IntKind.i64.wrap (a+m.amount)))]]++(Ay l).drop (i+1)=Ay (Fy l s a):=by
 have hb:mB l s=true:=by rw[Anf hi e];exact decide_eq_true hc
 rw[Aac hb hi e,List.set_eq_take_append_cons_drop,if_pos (by rw[Ex];exact (List.getElem?_eq_some_iff.1 e).1),hc,Int.add_comm a]
 simp
theorem A3h{l:List MonV}{s:ByteArray}{a:Int}{i:Nat}(hb:mB l s=false)(hi:mI l s=i)(ha:Avj a) :
  (Ay l).take i++[[gS s,gI a]]++(Ay l).drop i=Ay (Fy l s a):=by
 have hle:i≤(Ay l).length:=by rw[Ex,← hi];exact Sx l s
 rw[Aaa hb hi,List.set_append_right _ _ (by rw[List.length_take];omega),List.length_take,Nat.min_eq_left hle,Nat.sub_self,List.set_cons_zero,Int.zero_add,wrap_i64 ha.1 ha.2]
 simp
theorem H4(l:List MonV):∀ n∈Ay l,n.length=2:=by
 intro n hn
 obtain⟨x,_,rfl⟩:=List.mem_map.1 hn
 rfl
theorem A2s{l:List (List AV)}{w:Nat}(h:∀ n∈l,n.length=w)(i:Nat):∀ n∈l.take i,n.length=w:=fun n hn=>h n (List.mem_of_mem_take hn)
theorem A18{l:List (List AV)}{w:Nat}(h:∀ n∈l,n.length=w)(i:Nat):∀ n∈l.drop i,n.length=w:=fun n hn=>h n (List.mem_of_mem_drop hn)
theorem Vx{l:List (List AV)}{n i:Nat}(h:l.length=n)(hi:i≤n):(l.take i).length=i:=by rw[List.length_take];omega
theorem Vy{l:List (List AV)}{n i:Nat}(h:l.length=n)(hi:i≤n)(x:List AV):(l.take i++[x]).length=i+1:=by rw[List.length_append,Vx h hi];rfl
theorem A17{l:List (List AV)}{n i:Nat}(h:l.length=n):(l.drop i).length=n-i:=by rw[List.length_drop,h]
set_option maxHeartbeats 4000000 in
theorem A5r(l:List LegV)(hl:l.length≤1000)(hw:∀ x∈l,Avj x.amount):Cn 245 [.sl (Ac l)] (.fresh 122 (Ay (Dv l))):=by
 refine Gy base Tryz.func245 rfl rfl (by kernel_rfl) (Nat.le_of_ble_eq_true rfl) ?_
 rw[Jc]
 have q1:=B9 l
 (repeat' (first|exact trivial|refine stR ?_|((first|refine stp ?_|refine A0 (fun h=>?_) ?_|(refine gw (fun h=>?_) (fun h=>?_)<;>(try (exfalso;omega))))<;>(try (refine wS ?_)))))
 refine A9 (fun n tm hp nx=>∃ (k b:Nat) (O:List MonV),n=l.length-k∧k≤l.length∧tm 0=.sl (Ac l)∧tm 4=gI k∧tm 3=.own b∧hp b=some ⟨122,Ay O,true⟩∧b<nx∧Hid (O=Dv (l.take k))) l.length ⟨0,_,[],rfl,Nat.zero_le _,by exact byS,by exact byS,by exact byS,by exact byQ,by omega,Lib.hid rfl⟩ ?_
 rintro n tm hp nx ⟨k,b,O,hn,hk,g0,g4,g3,gh,hb,hO⟩
 by_cases hlt:k<l.length
 ·have e0:l[k]?=some l[k]:=List.getElem?_eq_getElem hlt
  have hx:=hw _ (List.getElem_mem hlt)
  generalize l[k]=x at e0 hx
  have hOl:O.length≤k:=by rw[hO.out];have:=Jj (l.take k);rw[List.length_take] at this;omega
  have n1:Hid (Fy O x.cur x.amount=Dv (l.take (k+1))):=Lib.hid (by rw[Tf e0,← hO.out])
  have q4:=Bq e0
  have hm1:=Sx O x.cur
  have hml:=Ex O
  have f1:=It O
  have f3:=La O
  clear hO e0
  obtain⟨I,hI⟩:∃ I,mI O x.cur=I:=⟨_,rfl⟩
  rw[hI] at hm1
  (repeat' (first|exact trivial|refine stR ?_|((first|refine stp ?_|refine A0 (fun h=>?_) ?_|(refine gw (fun h=>?_) (fun h=>?_)<;>(try (exfalso;omega))))<;>(try (refine wS ?_)))))
  refine A9 (fun n tm hp nx=>∃ (j b b5:Nat),n=I-j∧j≤I∧tm 0=.sl (Ac l)∧tm 4=gI k∧tm 3=.own b∧hp b=some ⟨122,Ay O,true⟩∧b<nx∧tm 5=.own b5∧hp b5=some ⟨122,[],true⟩∧b5<nx∧¬ b=b5∧¬ b5=b∧tm 6=gI j) I ⟨0,b,_,rfl,Nat.zero_le _,by exact byS,by exact byS,by exact byS,by exact byS,by omega,by exact byS,by exact byQ,by omega,by omega,by omega,by exact byS⟩ ?_
  clear g0 g4 g3 gh hb
  rintro n2 tm hp nx ⟨j,b,b5,hn2,hj,g0,g4,g3,gh,hb,g5,gh5,hb5,hne,hne2,g6⟩
  by_cases hj2:j<I
  ·have e1:O[j]?=some O[j]:=List.getElem?_eq_getElem (by omega)
   generalize O[j]=m at e1
   have q5:=Fq e1
   have hbl:=Ay0 (s:=x.cur) (by rw[hI];exact hj2) e1
   clear e1 hI
   (repeat' (first|exact trivial|refine stR ?_|((first|refine stp ?_|refine A0 (fun h=>?_) ?_|(refine gw (fun h=>?_) (fun h=>?_)<;>(try (exfalso;omega))))<;>(try (refine wS ?_)))))
   exact A3 (I-(j+1)) (by omega) ⟨j+1,b,b5,rfl,by omega,by exact byS,by exact byS,by exact byS,by exact byS,by omega,by exact byS,by exact byS,by omega,hne,hne2,by exact byS⟩
  ·have hje:I=j:=by omega
   subst hje
   by_cases hend:I<O.length
   ·have e1:O[I]?=some O[I]:=List.getElem?_eq_getElem hend
    generalize O[I]=m at e1
    have q5:=Fq e1
    have hbl:=Al8 hI e1
    by_cases hc:m.cur=x.cur
    ·have hA:=Ahr (a:=x.amount) hI e1 hc
     have hd:=decide_eq_true hc
     clear hc e1 hI
     have t1:=Vx hml hm1
     have t2:=A2s (H4 O) I
     have t3:=A18 (H4 O) (I+1)
     have t4:=A17 (i:=(I+1)) hml
     have t6:((I:Int)+1).toNat=I+1:=by omega
     have t7:(Ay O).take O.length=Ay O:=List.take_of_length_le (by omega)
     have t5:=Vy hml hm1 [gS x.cur,.ex (.int .i64 (IntKind.i64.wrap (x.amount+m.amount)))]
     (repeat' (first|exact trivial|refine stR ?_|((first|refine My (by first|assumption|(simp (disch:=omega) only[sx,C7,↓reduceIte,Nat.reduceAdd,Nat.reduceEqDiff,Nat.reduceLeDiff, *];(try rfl))) (by simp only[tyb]) (by first|(simp only[tyb];done)|(simp only[tyb];decide)) (by first|assumption|rfl) (by first|assumption|rfl) ?_|refine stp ?_|refine A0 (fun h=>?_) ?_|(refine gw (fun h=>?_) (fun h=>?_)<;>(try (exfalso;omega))))<;>(try (refine wS ?_)))))
     exact A3 (l.length-(k+1)) (by omega) ⟨k+1,_,Fy O x.cur x.amount,rfl,by omega,by exact byS,by exact byS,by exact byS,by exact byQ,by omega,n1⟩
    ·have hA:=A3h (a:=x.amount) (by rw[Anf hI e1];exact decide_eq_false hc) hI hx
     have hd:=decide_eq_false hc
     clear hc e1 hI
     have t1:=Vx hml hm1
     have t2:=A2s (H4 O) I
     have t3:=A18 (H4 O) I
     have t4:=A17 (i:=I) hml
     have t6:((I:Int)+1).toNat=I+1:=by omega
     have t7:(Ay O).take O.length=Ay O:=List.take_of_length_le (by omega)
     have t5:=Vy hml hm1 [gS x.cur,gI x.amount]
     (repeat' (first|exact trivial|refine stR ?_|((first|refine My (by first|assumption|(simp (disch:=omega) only[sx,C7,↓reduceIte,Nat.reduceAdd,Nat.reduceEqDiff,Nat.reduceLeDiff, *];(try rfl))) (by simp only[tyb]) (by first|(simp only[tyb];done)|(simp only[tyb];decide)) (by first|assumption|rfl) (by first|assumption|rfl) ?_|refine stp ?_|refine A0 (fun h=>?_) ?_|(refine gw (fun h=>?_) (fun h=>?_)<;>(try (exfalso;omega))))<;>(try (refine wS ?_)))))
     exact A3 (l.length-(k+1)) (by omega) ⟨k+1,_,Fy O x.cur x.amount,rfl,by omega,by exact byS,by exact byS,by exact byS,by exact byQ,by omega,n1⟩
   ·have hA:=A3h (a:=x.amount) (Aqw hI (by omega)) hI hx
    clear hI
    have t1:=Vx hml hm1
    have t2:=A2s (H4 O) I
    have t3:=A18 (H4 O) I
    have t4:=A17 (i:=I) hml
    have t6:((I:Int)+1).toNat=I+1:=by omega
    have t7:(Ay O).take O.length=Ay O:=List.take_of_length_le (by omega)
    have t5:=Vy hml hm1 [gS x.cur,gI x.amount]
    (repeat' (first|exact trivial|refine stR ?_|((first|refine My (by first|assumption|(simp (disch:=omega) only[sx,C7,↓reduceIte,Nat.reduceAdd,Nat.reduceEqDiff,Nat.reduceLeDiff, *];(try rfl))) (by simp only[tyb]) (by first|(simp only[tyb];done)|(simp only[tyb];decide)) (by first|assumption|rfl) (by first|assumption|rfl) ?_|refine stp ?_|refine A0 (fun h=>?_) ?_|(refine gw (fun h=>?_) (fun h=>?_)<;>(try (exfalso;omega))))<;>(try (refine wS ?_)))))
    exact A3 (l.length-(k+1)) (by omega) ⟨k+1,_,Fy O x.cur x.amount,rfl,by omega,by exact byS,by exact byS,by exact byS,by exact byQ,by omega,n1⟩
 ·have hOe:O=Dv l:=by rw[hO.out,List.take_of_length_le (by omega)]
  subst hOe
  have f1:=It (Dv l)
  have f3:=La (Dv l)
  (repeat' (first|exact trivial|refine stR ?_|((first|refine stp ?_|refine A0 (fun h=>?_) ?_|(refine gw (fun h=>?_) (fun h=>?_)<;>(try (exfalso;omega))))<;>(try (refine wS ?_)))))
  all_goals simp only[sxd,z0,p0,Nat.reduceEqDiff,↓reduceIte,Tryz.f245, *]
namespace D
set_option maxHeartbeats 8000000 in
theorem A9u{e:EntV}(ho:e.Ok):∃ z:Int,(z=0→e.legs.length≤12)∧Cn 198 [.agg (Al e)] (.val (gI z)):=by
 have hk:=ho.k
 have ht:=ho.t
 unfold Sz at hk ht
 have c1:=Wt e.key (by omega)
 have c2:=Kk e.text 32 64 (by omega)
 have c3:=Be e.booked
 have c4:=Be e.value
 have c5:=Be e.period
 have hl:=B9 e.legs
 have hn:=ho.n
 unfold Sz at hn
 have hla:=Lib.hid ho.l
 have hlc:=Lib.hid ho.c
 by_cases hlen:e.legs.length≤12
 ·have c6:=A5r e.legs (by omega) (fun x hx=>(hla.out x hx).2)
  have hsl:=Jj e.legs
  generalize hS:Dv e.legs=S at c6 hsl
  have hml:=Ex S
  have f1:=It S
  have f3:=La S
  clear ho hS
  unfold Al
  refine caS gI Tryz.func198 ?_
  (repeat' (first|exact trivial|refine stR ?_|((first|refine cv (c1) ?_|refine cv (c2) ?_|refine cv (c3) ?_|refine cv (c4) ?_|refine cv (c5) ?_|refine stp ?_|refine A0 (fun h=>?_) ?_|(refine gw (fun h=>?_) (fun h=>?_)<;>(try (exfalso;omega))))<;>(try (refine wS ?_)))))
  all_goals first
   | (simp only[sxd,z0,p0,Nat.reduceEqDiff,↓reduceIte,Tryz.f198, *];first|exact⟨_,rfl⟩|exact⟨_,rfl,fun _=>by assumption⟩)
   | skip
  all_goals refine A9 (fun n tm hp nx=>∃ k:Nat,n=e.legs.length-k∧k≤e.legs.length∧tm 1=.pt 0 0 0∧hp 0=some ⟨39,[[gI e.id,gI e.booked,gI e.value,gI e.kind,gI e.auth,gI e.period,gS e.key,gS e.text,.sl (Ac e.legs),.ex (.int .u64 e.chain)]],true⟩∧0<nx∧tm 3=gI k) e.legs.length ⟨0,rfl,Nat.zero_le _,byS,byQ,by omega,byS⟩ ?_
  all_goals
   clear c1 c2 c3 c4 c5
   rintro n tm hp nx ⟨k,hnn,hk,g1,b0,hx,g3⟩
   by_cases hlt:k<e.legs.length
   ·have e1:=List.getElem?_eq_getElem hlt
    have hcc:=hlc.out _ (List.getElem_mem hlt)
    generalize e.legs[k]=x at e1 hcc
    have e0:=Bq e1
    obtain⟨w,_,cc⟩:=Aec x hcc
    clear e1
    (repeat' (first|exact trivial|refine stR ?_|((first|refine cv (cc) ?_|refine stp ?_|refine A0 (fun h=>?_) ?_|(refine gw (fun h=>?_) (fun h=>?_)<;>(try (exfalso;omega))))<;>(try (refine wS ?_)))))
    all_goals first
     | exact A3 (e.legs.length-(k+1)) (by omega) ⟨k+1,rfl,by omega,byS,byQ,by omega,byS⟩
     | (simp only[sxd,z0,p0,Nat.reduceEqDiff,↓reduceIte,Tryz.f198, *];first|exact⟨_,rfl⟩|exact⟨_,rfl,fun _=>by assumption⟩)
   ·(repeat' (first|exact trivial|refine stR ?_|((first|refine cf (c6) ?_|refine stp ?_|refine A0 (fun h=>?_) ?_|(refine gw (fun h=>?_) (fun h=>?_)<;>(try (exfalso;omega))))<;>(try (refine wS ?_)))))
    refine A9 (fun n tm hp nx=>∃ k q:Nat,n=S.length-k∧k≤S.length∧tm 5=.own q∧hp q=some ⟨122,Ay S,true⟩∧q<nx∧tm 6=gI k) S.length ⟨0,_,rfl,Nat.zero_le _,byS,byQ,by omega,byS⟩ ?_
    clear hnn hk g1 b0 hx g3 hlt c6
    rintro n tm hp nx ⟨k,q,hnn,hk,g5,b0,hx,g6⟩
    by_cases hlt:k<S.length
    ·have e1:=List.getElem?_eq_getElem hlt
     generalize S[k]=x at e1
     have e0:=Fq e1
     clear e1
     (repeat' (first|exact trivial|refine stR ?_|((first|refine stp ?_|refine A0 (fun h=>?_) ?_|(refine gw (fun h=>?_) (fun h=>?_)<;>(try (exfalso;omega))))<;>(try (refine wS ?_)))))
     all_goals first
      | exact A3 (S.length-(k+1)) (by omega) ⟨k+1,q,rfl,by omega,byS,byS,by omega,byS⟩
      | (simp only[sxd,z0,p0,Nat.reduceEqDiff,↓reduceIte,Tryz.f198, *];first|exact⟨_,rfl⟩|exact⟨_,rfl,fun _=>by assumption⟩)
    ·(repeat' (first|exact trivial|refine stR ?_|((first|refine stp ?_|refine A0 (fun h=>?_) ?_|(refine gw (fun h=>?_) (fun h=>?_)<;>(try (exfalso;omega))))<;>(try (refine wS ?_)))))
     all_goals (simp only[sxd,z0,p0,Nat.reduceEqDiff,↓reduceIte,Tryz.f198, *];first|exact⟨_,rfl⟩|exact⟨_,rfl,fun _=>by assumption⟩)
 ·have h12:¬ ((e.legs.length:Int)≤12):=by omega
  clear ho
  unfold Al
  refine caS gI Tryz.func198 ?_
  (repeat' (first|exact trivial|refine stR ?_|((first|refine cv (c1) ?_|refine cv (c2) ?_|refine cv (c3) ?_|refine cv (c4) ?_|refine cv (c5) ?_|refine stp ?_|refine A0 (fun h=>?_) ?_|(refine gw (fun h=>?_) (fun h=>?_)<;>(try (exfalso;omega))))<;>(try (refine wS ?_)))))
  all_goals (simp only[sxd,z0,p0,Nat.reduceEqDiff,↓reduceIte,Tryz.f198, *];exact⟨_,rfl,fun h=>absurd h (by decide)⟩)
end D
end Go.Proofs.YtbhffbgbhgjdiaaGreatDoor
