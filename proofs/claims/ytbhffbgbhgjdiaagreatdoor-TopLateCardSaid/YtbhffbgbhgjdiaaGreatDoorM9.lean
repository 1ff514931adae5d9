/-
  Parts of the proof: Def2 Clo PkE Mv Mv2 Mv3. Conditions: those that each theorem states.
-/
import Derived.Test.YtbhffbgbhgjdiaaGreatDoorGEng2
import Derived.Test.YtbhffbgbhgjdiaaGreatDoorM2
import Derived.Test.YtbhffbgbhgjdiaaGreatDoorGLib
import Derived.Test.YtbhffbgbhgjdiaaGreatDoorShelf
import Derived.Lib.ItoaLen
import Derived.RangeFuncNested
import Derived.RangeFuncBound
import Derived.RangeFuncCalls
import Derived.RangeFuncLeaves
import Derived.Shelf.Abstract
import Derived.Shelf.RegionOpen
import Derived.WalkKit
import Derived.OwnWalkIn
import Derived.TacticsInMore
import Derived.LoopNIn
import Derived.LoopIn
import Derived.Test.YtbhffbgbhgjdiaaGreatDoorGCon
set_option linter.unusedSimpArgs false
set_option linter.unusedVariables false
namespace Go.Proofs.YtbhffbgbhgjdiaaGreatDoor
open Go.RowKit
set_option maxRecDepth 100000
theorem Ds{P:Program}{C:World→Prop}{f:FuncId}{us:List AV}{r:AV}(hcon:ConI P C f us (fun _=>none) 0 fun u h _=>∃ ids,clR h u=some (r,ids)):Con P C f us (.val r):=by
 refine⟨hcon.1,fun M w args hM hC ha=>?_⟩
 have hMo:Mo Bb (fun _=>none) M=M:=by
  funext b
  apply propext
  exact⟨fun h=>h.elim (fun h=>h) fun ⟨i,β,v,h1,_⟩=>(by cases h1),.inl⟩
 have st:StH P M { toWorld:=w,J:=fun _=>False,wE:=w } Bb (fun _=>none) 0 w :=
  ⟨⟨Below.refl _ _,rfl,rfl,fun t=>by simp [Rep,Array.getD],fun i β v sz h1=>(by cases h1),fun i β v h1=>(by cases h1),fun i j β γ u v b h1=>(by cases h1),fun _ _=>rfl,fun b hb=>.inl (hM b hb),fun i v h1=>(by cases h1),fun _ h=>h.elim,fun i β v b h1=>(by cases h1),Nat.le_refl _,fun _ _ h=>h.elim⟩,fun _ _=>rfl⟩
 refine (hcon.2 M _ Bb w args hC st (by rw[hMo];exact ha)).mono ?_
 rintro e w' ⟨v,u0,hp0,nx0,φ',rfl,⟨ids,hc⟩,_,hst,hu⟩
 have hself:∀ b β v,hp0 b=some β→φ' b=some v→∃ γ,hp0 b=some γ∧wkR β γ:=fun _ β _ h _=>⟨β,h,Cp β⟩
 refine⟨v,rfl, ?_,hst.1.below⟩
 unfold clR at hc
 split at hc
 ·rename_i vs
  obtain⟨x,h1,h2⟩:=Option.map_eq_some_iff.1 hc
  cases h2
  simp only[Rep] at hu
  obtain⟨ws,rfl,h3⟩:=hu
  have:=Fa hst.1 hself h3 (show cls hp0 vs=some (x.1,x.2) from h1) fun _ h=>h
  simp only[Rep]
  exact⟨ws,rfl,V6 this⟩
 ·exact Ael (Pg hst.1 hself hu hc fun _ h=>h)
theorem ConI.close{P:Program}{C:World→Prop}{f:FuncId}{us:List AV}{hp:Nat→Option A4}{nx:Nat}{R:AV→(Nat→Option A4)→Nat→Prop}{R':AV→Prop}(hcon:ConI P C f us hp nx R)
  (hR:∀ u h n,R u h n→(∀ i,i<nx→h i=hp i)∧∃ r ids,clR h u=some (r,ids)∧(∀ i∈ids,nx≤i)∧R' r):ConI P C f us hp nx (fun u h _=>h=hp∧R' u):=by
 refine⟨hcon.1,fun M0 w0 φ w args hC st ha=>(hcon.2 M0 w0 φ w args hC st ha).mono ?_⟩
 rintro e w' ⟨v,u0,h',n',φ',rfl,hRu,hle,hst,hu⟩
 obtain⟨hk,r,ids,hc,hids,hr'⟩:=hR u0 h' n' hRu
 have lt:∀ i β,hp i=some β→i<nx:=fun i β h=>by
  rcases Nat.lt_or_ge i nx with h1|h1
  ·exact h1
  ·rw[st.2 i h1] at h;cases h
 have hsub:∀ i β,hp i=some β→h' i=some β:=fun i β h=>by rw[hk i (lt i β h)];exact h
 have hmo:∀ b,Mo φ' hp M0 b→Mo φ' h' M0 b:=by
  rintro b (hb|⟨i,β,v,h1,h2⟩)
  ·exact .inl hb
  ·exact .inr ⟨i,β,v,hsub i β h1,h2⟩
 have hmf:∀ b,Mo φ' hp M0 b→Mf φ' h' M0 ids b:=by
  rintro b (hb|⟨i,β,v,h1,h2⟩)
  ·exact .inl hb
  ·refine .inr ⟨i,β,v, ?_,h2⟩
   have:i ∉ ids:=fun hi=>by have:=hids i hi;have:=lt i β h1;omega
   simp only[Eff.app]
   rw[if_neg this]
   exact hsub i β h1
 have keep:Keep (Mo φ' h' M0) (Mo φ' hp M0) w' w':=fun b hlt hn=>⟨fun h=>hn (hmo b h),hlt,rfl⟩
 have keep2:Keep (Mf φ' h' M0 ids) (Mo φ' hp M0) w' w':=fun b hlt hn=>⟨fun h=>hn (hmf b h),hlt,rfl⟩
 have hself:∀ b β v,h' b=some β→φ' b=some v→∃ γ,h' b=some γ∧wkR β γ:=fun _ β _ h _=>⟨β,h,Cp β⟩
 have s1:=hst.1
 have hrep:Rep φ' (Mo φ' hp M0) w' r v:=by
  unfold clR at hc
  split at hc
  ·rename_i vs
   obtain⟨x,h1,h2⟩:=Option.map_eq_some_iff.1 hc
   cases h2
   simp only[Rep] at hu
   obtain⟨ws,rfl,h3⟩:=hu
   have:=Fa s1 hself h3 (show cls h' vs=some (x.1,x.2) from h1) fun _ h=>h
   simp only[Rep]
   exact⟨ws,rfl,RepL.keep keep2 (Pt φ') _ _ this⟩
  ·exact Rep.keep keep2 (Pt φ') _ _ (Pg s1 hself hu hc fun _ h=>h)
 refine⟨v,r,hp,n',φ',rfl,⟨rfl,hr'⟩,hle,⟨⟨s1.below,s1.defers,s1.size,fun t=>by simp [Rep,Array.getD], ?_, ?_, ?_,s1.fresh,s1.m0,s1.ones,s1.jk, ?_,s1.js,fun u v hg=>Rep.keep keep (Ext.refl _) _ _ (s1.gh u v hg)⟩,fun j hj=>st.2 j (by omega)⟩,hrep⟩
 ·intro i β v sz h1 h2
  obtain⟨q1,xs,q2,q3⟩:=s1.hpr i β v sz (hsub i β h1) h2
  exact⟨q1,xs,q2,RepLL.keep keep (Ext.refl _) _ _ _ q3⟩
 ·exact fun i β v h1 h2=>s1.hpm i β v (hsub i β h1) h2
 ·exact fun i j β γ u v b h1 h2=>s1.inj i j β γ u v b (hsub i β h1) (hsub j γ h2)
 ·exact fun i β v b h1=>s1.jo i β v b (hsub i β h1)
theorem CtxP.tab{w:World}(h:CtxP w){B:Nat}(hB:(5+1)≤B):Lib.TabBelow Tryz.prog B w "internal/strconv.uint64pow10" .u64 Lib.pow10Tab:=fun w' hb=>(h w' (hb.mono hB)).pow
theorem X9(w:World)(k:Nat)(os:Array Obj):Below w.heap.size w (Go.Sort.grow (w.drewN k) os):=Lib.below_grow _ _ (Nat.le_refl _) _ _
theorem Lv(n:Int)(h0:-9223372036854775808≤n)(h1:n≤9223372036854775807)(w:World)(hc:CtxP w) :
  Calls Tryz.prog 88 #[.int .i64 n] w fun e w'=>e=.returned (.string ⟨(Lib.itoa n).toArray⟩)∧Below w.heap.size w w' :=
 (Tryz.strconv_Itoa n h0 h1 w hc.here.pow).mono fun _ _ ⟨he,k,os,hw⟩=>⟨he,by rw[hw];exact X9 w k os⟩
theorem Ap1:Elt Tryz.prog 313 5 1 1:=Elt.mk' (z:=.int .u8 0) Tryz.underlying313 (by kernel_rfl) rfl (by omega)
def Yy(s:ByteArray):List UInt8:=Lib.itoa s.size++58 :: s.data.toList
def Cr(ss:List ByteArray):List UInt8:=ss.flatMap Yy
theorem A2d(ss:List ByteArray)(k:Nat)(h:k<ss.length):Cr (ss.take (k+1))=Cr (ss.take k)++Yy ss[k]:=by
 unfold Cr
 rw[List.take_succ_eq_append_getElem h,List.flatMap_append]
 simp
theorem Afq(ss:List ByteArray)(k:Nat):(Cr (ss.take k)).length≤(Cr ss).length:=by
 conv=>rhs;rw[← List.take_append_drop k ss]
 unfold Cr
 rw[List.flatMap_append,List.length_append]
 omega
theorem Le(s:ByteArray):(Yy s).length=(Lib.itoa s.size).length+1+s.size:=by unfold Yy;simp;omega
theorem Ahj(n:Int)(h0:-9223372036854775808≤n)(h1:n≤9223372036854775807)(w:World)(hc:CtxP w) :
  Calls Tryz.prog 191 #[.int .i64 n] w fun e w'=>e=.returned (.string ⟨(Lib.itoa n).toArray⟩)∧Below w.heap.size w w':=by
 have HC:=Lib.hid (Lv n h0 h1 w hc)
 go_enter Tryz.func191,Tryz.ntmps191
 go_wp2_with fail
 refine HC.out.mono ?_;rintro e w' ⟨rfl,hb⟩
 have HB:=Lib.hid hb;clear hb
 go_wp2
 go_ret
 exact⟨rfl,HB.out⟩
section
variable{ops:Array Oper}{rest:List Oper}{o:Oper}{a:Act}{Q:Exit→Act→World→Prop}
theorem Zu{w:World}(hgd:o.guard=none)(sl x:Operand)
  (ho:o.op=.call { callee:=.builtin .append,args:=#[sl,x],argTypes:=#[313,9] }) (base:Nat)
  (v:Value) (n:Nat) (l:List UInt8) (hs:a.eval sl=v) (hown:w.ownsRow base 5 1 v n (Lib.byteCells l)) (s:ByteArray) (hx:a.eval x=.string s)
  (hlim:n+s.size≤140737488355328) (hbase:base≤w.heap.size)
  (h:∀ v' w',w'.ownsRow base 5 1 v' (n+s.size) (Lib.byteCells (l++s.data.toList))→Below base w w'→wpList Tryz.prog ops Q rest (a.put o.dst v') w'):wpList Tryz.prog ops Q (o :: rest) a w:=by
 obtain⟨i,h1,h2,h3,h4⟩:=info_parts (show (Tryz.prog.info? 5).map (fun i=>(i.zero,i.size,i.bytes))=some (some (.int .u8 0),1,1) by kernel_rfl)
 refine Lib.wpList_append_own_string w hgd sl x 313 9 ho base 5 i Tryz.underlying313 Tryz.underlying9 h1 h2 h3 h4 v n _ hs hown s hx (by unfold maxLen;omega) hlim hbase fun v' w' h5 h6 _=>h v' w' ?_ ((Below.refl base w).grown h6 hbase fun k hk=>(hown.lt k hk).1)
 have e:Lib.byteCells (l++s.data.toList)=Lib.byteCells l++Lib.strCells s:=by rw[Lib.strCells_eq];simp [Lib.byteCells]
 rw[e];exact h5
end
theorem Aa0(ss:List ByteArray)(A:Option Addr)(c B:Nat)(w:World)(hr:Reads w B 1 A ss.length (ss.map .string))(hB:B≤w.heap.size)(hlim:(Cr ss).length+40≤140737488355328)(hn:ss.length≤maxLen)(hc:CtxP w) :
  Calls Tryz.prog 190 #[.slice A ss.length c] w fun e w'=>e=.returned (.string ⟨(Cr ss).toArray⟩)∧Below w.heap.size w w':=by
 unfold maxLen at hn
 have HR:=Lib.hid hr
 have HL:=Lib.hid hlim
 clear hr hlim
 go_enter Tryz.func190,Tryz.ntmps190
 go_wp2
 go_loopw [3,8] (fun v i wr=>∃ k:Nat,k≤ss.length∧i=.int .i64 k∧Hid (wr.ownsRow w.heap.size 5 1 v (Cr (ss.take k)).length (Lib.byteCells (Cr (ss.take k))))∧Hid (Below w.heap.size w wr)) (fun _ i _=>ss.length-(intOf i).toNat)
 case atStart=>exact⟨0,Nat.zero_le _,rfl,Lib.hid ⟨rfl,.inl ⟨rfl,rfl⟩⟩,Lib.hid (Below.refl _ _)⟩
 case round =>
  obtain⟨k,hk,rfl,ho,hb⟩:=hrel
  by_cases hlt:k<ss.length
  ·obtain⟨b,o,rfl,hbB,hat⟩:=HR.out.2 (by omega)
   have hcell:wr.cell? ⟨b,o+k,none⟩=some (.string ss[k]):=(hat.below hb.out (by omega)).cell (by simp [hlt])
   have hp1:=A2d ss k hlt
   have hp2:=Afq ss (k+1)
   have hl:=HL.out
   rw[hp1,List.length_append,Le] at hp2
   have hss:ss[k].size≤140737488355328:=by omega
   have hsz:=hb.out.size
   have HC:=Lib.hid (Tryz.strconv_AppendInt_10 w.heap.size _ (ss[k].size:Int) (by omega) (by omega) _ _ wr ho.out hsz (by omega) ((hc.below hb.out hc.here.size).tab hc.here.size))
   have HP:=Lib.hid hp1
   have HP2:=Lib.hid hp2
   clear hp1 hp2 hl
   generalize hsk:ss[k]=s at *
   go_wp2_with fail
   refine HC.out.mono ?_
   rintro e w1 ⟨v1,rfl,o1,b1,_⟩
   have HO1:=Lib.hid o1;have HB1:=Lib.hid b1;have hs1:=b1.size
   clear o1 b1
   go_wp2_with (at_builtin;refine Zv Ap1 rfl (.tmp 16) (.tmp 17) rfl w.heap.size _ _ _ rfl HO1.out [.int .u8 58] rfl rfl ?c1 ?c2 (by omega) (by omega) ?_)
   case c1=>intro u hu;simp at hu;subst hu;rfl
   case c2=>have:=HP2.out;have:=HL.out;omega
   intro v2 w2 o2 b2
   rw[show Lib.byteCells (Cr (ss.take k))++(Lib.byteCells (Lib.itoa s.size)++[.int .u8 58])=Lib.byteCells (Cr (ss.take k)++Lib.itoa s.size++[58]) by simp [Lib.byteCells]] at o2
   have HO2:=Lib.hid o2;have HB2:=Lib.hid b2;have hs2:=b2.size
   clear o2 b2
   go_wp2_with (at_builtin;refine Zu rfl (.tmp 19) (.tmp 20) rfl w.heap.size _ _ _ rfl HO2.out s rfl ?c3 (by omega) ?_)
   case c3=>have:=HP2.out;have:=HL.out;omega
   intro v3 w3 o3 b3
   have HO3:=Lib.hid o3;have HB3:=Lib.hid b3
   clear o3 b3
   go_wp2
   go_roundw
   case rel =>
    refine⟨k+1,by omega,by go_num,Lib.hid ?_,Lib.hid (((hb.out.trans HB1.out).trans HB2.out).trans HB3.out)⟩
    have e:Cr (ss.take k)++(Lib.itoa s.size++58 :: s.data.toList)=Cr (ss.take (k+1)):=by rw[HP.out];rfl
    have h3:=HO3.out
    rw[e,show (Cr (ss.take k)).length+(Lib.itoa s.size).length+1+s.size=(Cr (ss.take (k+1))).length by rw[← e];simp;omega] at h3
    exact h3
   case measure=>simp [intOf];omega
  ·obtain rfl:k=ss.length:=by omega
   have ho':=ho.out
   rw[List.take_length] at ho'
   have hcv:=Abp (src:=313) (dst:=9) ho' Tryz.underlying313 Tryz.underlying5 Tryz.underlying9
   clear ho'
   go_wp2
   go_ret
   exact⟨rfl,hb.out⟩
theorem Mb{a:ByteArray}{l:List UInt8}(h:a.data.toList=l):a=⟨l.toArray⟩:=by
 cases a with
 | mk d=>cases d with|mk x=>simp at h;rw[h]
theorem Cs(s:ByteArray):s.data.toList.length=s.size:=by rw[Array.length_toList];rfl
theorem Wv(n:Int)(h0:-9223372036854775808≤n)(h1:n≤9223372036854775807):Cn 191 [gI n] (.val (.ex (.string ⟨(Lib.itoa n).toArray⟩))) :=
 A10 (vs:=[.int .i64 n]) ⟨_,Tryz.func191,rfl,rfl⟩ rfl fun w hw=>Ahj n h0 h1 w hw
theorem Rv(l:List ByteArray)(h:(Cr l).length+40≤140737488355328)(hn:l.length≤maxLen):Cn 190 [.sl (texts l)] (.val (.ex (.string ⟨(Cr l).toArray⟩))) :=
 A6o ⟨_,Tryz.func190,rfl,rfl⟩ rfl fun A c w hw hr _ _ _=>Aa0 l A c _ w hr (Nat.le_refl _) h hn hw
end Go.Proofs.YtbhffbgbhgjdiaaGreatDoor
namespace Go.Proofs.YtbhffbgbhgjdiaaGreatDoor
open Go.RowKit Go.Shelf
attribute [local go_sem] Oper.semAt_some
structure JE where
 n0:Int
 n1:Int
 n2:Int
 n3:Int
 n4:Int
 n5:Int
 s6:ByteArray
 s7:ByteArray
 A:Option Addr
 cap:Nat
 n9:Int
 legs:List (Int×Int×ByteArray)
def JE.cells(x:JE):Array Value:=#[.int .i64 x.n0,.int .i64 x.n1,.int .i64 x.n2,.int .i64 x.n3,.int .i64 x.n4,.int .i64 x.n5,.string x.s6,.string x.s7,.slice x.A x.legs.length x.cap,.int .u64 x.n9]
def yl(id:Int)(x:JE):List (Int×Int×ByteArray)→List (JE×Int)
 | []=>[]
 | y :: l=>(if y.1=id then [(x,y.2.1)] else [])++yl id x l
def ysJ(id:Int):List JE→List (JE×Int)
 | []=>[]
 | x :: l=>yl id x x.legs++ysJ id l
theorem W7(id:Int)(x:JE)(a b:List (Int×Int×ByteArray)):yl id x (a++b)=yl id x a++yl id x b:=by
 induction a with
 | nil=>rfl
 | cons y a ih=>simp only[List.cons_append,yl,ih,List.append_assoc]
theorem W8(id:Int)(a b:List JE):ysJ id (a++b)=ysJ id a++ysJ id b:=by
 induction a with
 | nil=>rfl
 | cons y a ih=>simp only[List.cons_append,ysJ,ih,List.append_assoc]
structure EAt(n₀:Nat)(W:World)(b o:Nat)(x:JE):Prop where
 c0:W.cell? ⟨b,o,none⟩=some (.int .i64 x.n0)
 c1:W.cell? ⟨b,o+1,none⟩=some (.int .i64 x.n1)
 c2:W.cell? ⟨b,o+2,none⟩=some (.int .i64 x.n2)
 c3:W.cell? ⟨b,o+3,none⟩=some (.int .i64 x.n3)
 c4:W.cell? ⟨b,o+4,none⟩=some (.int .i64 x.n4)
 c5:W.cell? ⟨b,o+5,none⟩=some (.int .i64 x.n5)
 c6:W.cell? ⟨b,o+6,none⟩=some (.string x.s6)
 c7:W.cell? ⟨b,o+7,none⟩=some (.string x.s7)
 c8:W.cell? ⟨b,o+8,none⟩=some (.slice x.A x.legs.length x.cap)
 c9:W.cell? ⟨b,o+9,none⟩=some (.int .u64 x.n9)
structure LAt(W:World)(b o:Nat)(y:Int×Int×ByteArray):Prop where
 d0:W.cell? ⟨b,o,none⟩=some (.int .i64 y.1)
 d1:W.cell? ⟨b,o+1,none⟩=some (.int .i64 y.2.1)
 d2:W.cell? ⟨b,o+2,none⟩=some (.string y.2.2)
structure JMem(n₀:Nat)(W:World)(A:Option Addr)(js:List JE):Prop where
 e:∀ k x,js[k]?=some x→∃ b o,A=some ⟨b,o,none⟩∧b<n₀∧EAt n₀ W b (o+k*10) x
 l:∀ x,x∈js→∀ m y,x.legs[m]?=some y→∃ b o,x.A=some ⟨b,o,none⟩∧b<n₀∧LAt W b (o+m*3) y
def KpX(n₀ c:Nat)(W W':World):Prop:=Below n₀ W W'∧∀ (p:Addr) v,p.block≠c→W.cell? p=some v→W'.cell? p=some v
theorem Sr{n₀ c:Nat}{A B C:World}(h:KpX n₀ c A B)(k:KpX n₀ c B C):KpX n₀ c A C:=⟨h.1.trans k.1,fun p v hp hv=>k.2 p v hp (h.2 p v hp hv)⟩
theorem L6(n₀ c:Nat)(W:World):KpX n₀ c W W:=⟨Below.refl _ _,fun _ _ _ h=>h⟩
theorem Mn{n₀ c:Nat}{W:World}(hn:n₀≤W.heap.size)(o:Obj):KpX n₀ c W (W.alloc o):=⟨(Below.refl n₀ W).alloc hn o,fun _ _ _ h=>cell_kept h (World.grownBy_alloc W o none) (fun r e=>by cases e)⟩
theorem EAt.kp{n₀ c:Nat}{W W':World}{b o:Nat}{x:JE}(h:EAt n₀ W b o x)(k:KpX n₀ c W W')(hb:b≠c):EAt n₀ W' b o x :=
 ⟨k.2 _ _ hb h.c0,k.2 _ _ hb h.c1,k.2 _ _ hb h.c2,k.2 _ _ hb h.c3,k.2 _ _ hb h.c4,k.2 _ _ hb h.c5,k.2 _ _ hb h.c6,k.2 _ _ hb h.c7,k.2 _ _ hb h.c8,k.2 _ _ hb h.c9⟩
theorem LAt.kp{n₀ c:Nat}{W W':World}{b o:Nat}{y:Int×Int×ByteArray}(h:LAt W b o y)(k:KpX n₀ c W W')(hb:b≠c):LAt W' b o y :=
 ⟨k.2 _ _ hb h.d0,k.2 _ _ hb h.d1,k.2 _ _ hb h.d2⟩
theorem JMem.kp{n₀ c:Nat}{W W':World}{A:Option Addr}{js:List JE}(h:JMem n₀ W A js)(k:KpX n₀ c W W')(hc:n₀≤c):JMem n₀ W' A js :=
 ⟨fun i x hx=>by
  obtain⟨b,o,h1,h2,h3⟩:=h.e i x hx
  exact⟨b,o,h1,h2,h3.kp k (by omega)⟩,fun x hx m y hy=>by
  obtain⟨b,o,h1,h2,h3⟩:=h.l x hx m y hy
  exact⟨b,o,h1,h2,h3.kp k (by omega)⟩⟩
set_option maxHeartbeats 2000000 in
theorem Aes(F:Fence)(n:Nat)(h:F.fn 38)(hro:F.round=none)(a:Option Addr)(len cap:Nat)(id:Int)(w:World) :
  CallsIn F n Tryz.prog 38 #[.slice a len cap,.int .i64 id] w fun e w'=>e=.returned (.func (.func 90) #[] #[.pointer (some ⟨w.heap.size,0,none⟩),.pointer (some ⟨w.heap.size+1,0,none⟩)])∧w'=(w.alloc (.cells #[.slice a len cap] 29)).alloc (.cells #[.int .i64 id] 3):=by
 refine callsIn_of_wp Tryz.func38 rfl h ?_ hro
 simp only[Tryz.ntmps38,List.size_toArray,List.length_cons,List.length_nil,Nat.reduceAdd,Nat.reduceSub,Array.replicate_succ,Array.replicate_zero,List.push_toArray,List.append_toArray,List.nil_append,List.cons_append]
 gi_wp2
 go_ret
 simp
theorem take_one{α:Type}{l:List α}{k:Nat}{x:α}(h:l[k]?=some x):l.take (k+1)=l.take k++[x]:=by
 rw[List.take_add_one,h];rfl
theorem B06{js:List JE}{k m:Nat}{x:JE}{id x2:Int}{s:ByteArray}(hx:js[k]?=some x)(hy:x.legs[m]?=some (id,x2,s)):(ysJ id (js.take k)++yl id x (x.legs.take m)).length<(ysJ id js).length:=by
 have e1:js=js.take (k+1)++js.drop (k+1):=(List.take_append_drop _ _).symm
 have e2:x.legs=x.legs.take (m+1)++x.legs.drop (m+1):=(List.take_append_drop _ _).symm
 have e3:ysJ id [x]=yl id x x.legs:=by simp [ysJ]
 have e4:(yl id x [(id,x2,s)]).length=1:=by simp [yl]
 have e5:ysJ id js=(ysJ id (js.take k)++ysJ id [x])++ysJ id (js.drop (k+1)):=by
  conv=>lhs;rw[e1]
  rw[W8,take_one hx,W8]
 have e6:yl id x x.legs=(yl id x (x.legs.take m)++yl id x [(id,x2,s)])++yl id x (x.legs.drop (m+1)):=by
  conv=>lhs;rw[e2]
  rw[W7,take_one hy,W7]
 rw[e5,e3,e6]
 simp only[List.length_append,e4]
 omega
theorem A6x(n₀:Nat)(W:World)(x:JE):EAt n₀ (W.alloc (.cells x.cells 39)) W.heap.size 0 x:=by
 constructor<;>simp [JE.cells]
set_option maxHeartbeats 8000000 in
theorem Ala(F:Fence)(n:Nat)(h:F.fn 90)(hro:F.round=none)(hn:1≤n)(l Bj Ba n₀ c cj:Nat)(A:Option Addr)(id:Int)(js:List JE)(hc:n₀≤c)(hBjc:Bj≠c)(hBac:Ba≠c)(J Jx:List (JE×Int)→World→Prop)
  (hY:∀ pre x W,J pre W→pre.length<(ysJ id js).length→YieldAt F (n-1) Tryz.prog l #[.agg x.1.cells,.int .i64 x.2] W fun e W'=>(e=.returned (.bool true)∧J (pre++[x]) W'∧KpX n₀ c W W')∨(e=.returned (.bool false)∧Jx (pre++[x]) W'))
  (W:World) (hJ:AbidesFrom W.heap.size J) (hcW:c<W.heap.size) (hn₀:n₀≤W.heap.size) (hlen:js.length≤140737488355328) (hll:∀ x∈js,x.legs.length≤140737488355328) (hBj:W.cell? ⟨Bj,0,none⟩=some (.slice A js.length cj)) (hBa:W.cell? ⟨Ba,0,none⟩=some (.int .i64 id)) (hM:JMem n₀ W A js) (h0:J [] W) :
  CallsIn F n Tryz.prog 90 #[.func (.yield l) #[] #[],.pointer (some ⟨Bj,0,none⟩),.pointer (some ⟨Ba,0,none⟩)] W fun e W'=>(∃ v,e=.returned v)∧((∃ ys,ys=ysJ id js∧J ys W')∨(∃ pre,True∧Jx pre W')):=by
 refine callsIn_of_wp Tryz.func90 rfl h ?_ hro
 simp only[Tryz.ntmps90,List.size_toArray,List.length_cons,List.length_nil,Nat.reduceAdd,Nat.reduceSub,Array.replicate_succ,Array.replicate_zero,List.push_toArray,List.append_toArray,List.nil_append,List.cons_append]
 have hal:∀ (s:List (JE×Int)) (X:World) (o:Obj),W.heap.size≤X.heap.size→J s X→J s (X.alloc o):=fun s X o _ hs=>hJ s X _ none hs (World.grownBy_alloc X o none) (fun r e=>by cases e)
 gi_wp2
 gi_loopw [10] (fun i wr=>∃ k:Nat,k≤js.length∧i=.int .i64 k∧Hid (J (ysJ id (js.take k)) wr∧KpX n₀ c W wr∧W.heap.size≤wr.heap.size)) (fun i _=>js.length-(intOf i).toNat)
 case atStart=>exact⟨0,Nat.zero_le _,rfl,Lib.hid ⟨h0,L6 _ _ _,Nat.le_refl _⟩⟩
 case round =>
  obtain⟨k,hk,rfl,hH⟩:=hrel
  obtain⟨hJk,hK,hsz⟩:=hH.out
  clear hH
  by_cases hlt:k<js.length
  ·obtain⟨x,hx⟩:∃ x,js[k]?=some x:=⟨_,List.getElem?_eq_getElem hlt⟩
   obtain⟨b,o,rfl,hb,hE⟩:=(hM.kp hK hc).e k x hx
   have hLs:=(hM.kp hK hc).l x (List.mem_of_getElem? hx)
   obtain⟨c0,c1,c2,c3,c4,c5,c6,c7,c8,c9⟩:=hE
   have hk64:((k:Int))<9223372036854775807:=by omega
   gi_wp2
   have eA:=A6x n₀ wr x
   have kA:=Mn (c:=c) (W:=wr) (n₀:=n₀) (by omega) (.cells x.cells 39)
   gi_loopw [17] (fun i2 wv=>∃ m:Nat,m≤x.legs.length∧i2=.int .i64 m∧Hid (J (ysJ id (js.take k)++yl id x (x.legs.take m)) wv∧KpX n₀ c (wr.alloc (.cells x.cells 39)) wv∧wr.heap.size+1≤wv.heap.size)) (fun i2 _=>x.legs.length-(intOf i2).toNat)
   case atStart=>exact⟨0,Nat.zero_le _,rfl,Lib.hid ⟨by simpa [yl] using hal _ _ _ hsz hJk,L6 _ _ _,by simp⟩⟩
   case round =>
    obtain⟨m,hm,rfl,hH2⟩:=hrel
    obtain⟨hJm,hKm,hszm⟩:=hH2.out
    clear hH2
    by_cases hlm:m<x.legs.length
    ·obtain⟨⟨y1,y2,y3⟩,hy⟩:∃ y,x.legs[m]?=some y:=⟨_,List.getElem?_eq_getElem hlm⟩
     obtain⟨b2,o2,hA2,hb2,hL⟩:=hLs m _ hy
     have hbc2:b2≠c:=by omega
     have hL2:=(hL.kp kA hbc2).kp hKm hbc2
     obtain⟨d0,d1,d2⟩:=hL2
     have hBa2:=(hKm.2 _ _ hBac (kA.2 _ _ hBac (hK.2 _ _ hBac hBa)))
     have hll2:=hll x (List.mem_of_getElem? hx)
     rw[hA2]
     obtain⟨e0,e1,e2,e3,e4,e5,e6,e7,e8,e9⟩:=eA.kp hKm (by omega)
     dsimp only at d0 d1 d2
     simp only[Nat.zero_add] at e1 e2 e3 e4 e5 e6 e7 e8 e9
     rw[hA2] at e8
     have kB:=Mn (c:=c) (W:=wr) (n₀:=n₀) (by omega) (.cells #[.int .i64 y1,.int .i64 y2,.string y3] 103)
     have E0:=kB.2 _ _ (by dsimp only;omega) e0
     have E1:=kB.2 _ _ (by dsimp only;omega) e1
     have E2:=kB.2 _ _ (by dsimp only;omega) e2
     have E3:=kB.2 _ _ (by dsimp only;omega) e3
     have E4:=kB.2 _ _ (by dsimp only;omega) e4
     have E5:=kB.2 _ _ (by dsimp only;omega) e5
     have E6:=kB.2 _ _ (by dsimp only;omega) e6
     have E7:=kB.2 _ _ (by dsimp only;omega) e7
     have E8:=kB.2 _ _ (by dsimp only;omega) e8
     have E9:=kB.2 _ _ (by dsimp only;omega) e9
     have hBa3:=kB.2 _ _ hBac hBa2
     have KH:=Lib.hid (Sr hKm kB)
     replace hY:=Lib.hid hY
     have hsz4:wr.heap.size≤(wr.alloc (.cells #[.int .i64 y1,.int .i64 y2,.string y3] 103)).heap.size:=by simp
     have hJl:=hal _ _ (.cells #[.int .i64 y1,.int .i64 y2,.string y3] 103) (by omega) hJm
     replace hJm:=Lib.hid hJl
     clear hK kA hKm hM kB eA hJl
     by_cases hid:y1=id
     ·subst hid
      obtain⟨fn,tmps,assign,body,hy2,hR⟩:=hY.out _ (x,y2) _ hJm.out (B06 hx hy)
      unfold JE.cells at hy2
      dsimp only at hy2
      rw[hA2] at hy2
      have hT:yl y1 x (x.legs.take (m+1))=yl y1 x (x.legs.take m)++[(x,y2)]:=by rw[take_one hy,W7];simp [yl]
      replace hT:=Lib.hid hT
      gi_wp2
      refine hR.mono ?_
      rintro e W3 (⟨rfl,hJ3,hk3⟩|⟨rfl,hJx3⟩)
      ·have hs3:=hk3.1.size
       replace hk3:=Lib.hid hk3
       replace hJ3:=Lib.hid hJ3
       gi_wp2
       go_roundw
       case rel=>exact⟨m+1,hlm,rfl,Lib.hid ⟨by rw[hT.out,← List.append_assoc];exact hJ3.out,Sr KH.out hk3.out,by omega⟩⟩
       case measure=>simp [intOf];omega
      ·gi_wp2
       refine bodyPost_ret (results_none rfl _ _ _) rfl ?_
       exact⟨⟨_,rfl⟩,.inr ⟨_,trivial,hJx3⟩⟩
     ·have hT:yl id x (x.legs.take (m+1))=yl id x (x.legs.take m):=by rw[take_one hy,W7];simp [yl,hid]
      replace hT:=Lib.hid hT
      clear hY
      have hne':(y1 == id)=false:=by simpa using hid
      repeat (first|go_values|gi_guarded|gi_step|gi_upon)
      refine⟨fun _ h=>(by cases h), ?_⟩
      try simp only[hne']
      gi_wp2
      go_roundw
      case rel=>exact⟨m+1,hlm,rfl,Lib.hid ⟨by rw[hT.out];exact hJm.out,KH.out,by omega⟩⟩
      case measure=>simp [intOf];omega
    ·have hml:m=x.legs.length:=by omega
     subst hml
     have hT:ysJ id (js.take (k+1))=ysJ id (js.take k)++yl id x (x.legs.take x.legs.length):=by rw[take_one hx,W8,List.take_length];simp [ysJ]
     have KH:=Lib.hid (Sr (Sr hK kA) hKm)
     rw[← hT] at hJm
     replace hJm:=Lib.hid hJm
     replace hT:=Lib.hid hT
     clear hY hK kA hKm hM eA
     gi_wp2
     go_roundw
     case rel=>exact⟨k+1,hlt,rfl,Lib.hid ⟨hJm.out,KH.out,by omega⟩⟩
     case measure=>simp [intOf];omega
  ·have hkl:k=js.length:=by omega
   subst hkl
   rw[List.take_length] at hJk
   replace hJk:=Lib.hid hJk
   clear hY
   gi_wp2
   go_end0
   exact⟨⟨_,rfl⟩,.inl ⟨_,rfl,hJk.out⟩⟩
attribute [local go_sem] Oper.semAt_some
theorem JMem.below{n₀:Nat}{W W':World}{A:Option Addr}{js:List JE}{n:Nat}(h:JMem n₀ W A js)(k:Below n W W')(hn:n₀≤n):JMem n₀ W' A js :=
 have c:∀ {b o:Nat} {v:Value},b<n₀→W.cell? ⟨b,o,none⟩=some v→W'.cell? ⟨b,o,none⟩=some v:=fun hb hv=>(k.cell (p:=⟨_,_,none⟩) (by dsimp only;omega)).trans hv
 ⟨fun i x hx=>by
  obtain⟨b,o,h1,h2,h3⟩:=h.e i x hx
  exact⟨b,o,h1,h2,c h2 h3.c0,c h2 h3.c1,c h2 h3.c2,c h2 h3.c3,c h2 h3.c4,c h2 h3.c5,c h2 h3.c6,c h2 h3.c7,c h2 h3.c8,c h2 h3.c9⟩,fun x hx m y hy=>by
  obtain⟨b,o,h1,h2,h3⟩:=h.l x hx m y hy
  exact⟨b,o,h1,h2,c h2 h3.d0,c h2 h3.d1,c h2 h3.d2⟩⟩
theorem T1(F:Fence)(n:Nat)(h:F.fn 90)(hro:F.round=none)(hn:1≤n)(Bj Ba n₀ c cj:Nat)(A:Option Addr)(id:Int)(js:List JE)(hc:n₀≤c)(hBjc:Bj≠c)(hBac:Ba≠c)(w:World)(hn₀:n₀≤w.heap.size)(hcw:c<w.heap.size)(hBj0:Bj<w.heap.size)(hBa0:Ba<w.heap.size)
  (hlen:js.length≤140737488355328) (hll:∀ x∈js,x.legs.length≤140737488355328) (hBj:w.cell? ⟨Bj,0,none⟩=some (.slice A js.length cj)) (hBa:w.cell? ⟨Ba,0,none⟩=some (.int .i64 id)) (hM:JMem n₀ w A js) :
  SeqStopsK F n Tryz.prog 90 #[.pointer (some ⟨Bj,0,none⟩),.pointer (some ⟨Ba,0,none⟩)] (fun x:JE×Int=>#[.agg x.1.cells,.int .i64 x.2]) (KpX n₀ c) (fun ys=>ys=ysJ id js) (fun _=>True) (ysJ id js).length w:=fun l J Jx W hW hJ _ hY h0 =>
 Ala F n h hro hn l Bj Ba n₀ c cj A id js hc hBjc hBac J Jx hY W hJ (Nat.lt_of_lt_of_le hcw hW.size) (Nat.le_trans hn₀ hW.size) hlen hll ((hW.cell (p:=⟨Bj,0,none⟩) hBj0).trans hBj) ((hW.cell (p:=⟨Ba,0,none⟩) hBa0).trans hBa) (hM.below hW hn₀) h0
theorem Ane{n₀ c:Nat}{w:World}(hn:n₀≤w.heap.size)(W:World)(l:Nat)(o o':Obj)(hl:w.heap.size≤l)(h:W.heap[l]?=some o)(hc:o.isCells=false)(hw:o.isWalk=false):KpX n₀ c W (W.putObj l o') :=
 ⟨belowK_b hn W l o o' hl h hc hw,fun p v _ hv=>cell_kept hv (grownBy_putObj' W l o') (fun r e=>by cases e;exact⟨o,h,hc⟩)⟩
def A2q(l:List (JE×Int)):Int:=l.foldl (fun s x=>wrap64 (s-x.2)) 0
theorem A93(l:List (JE×Int))(x:JE×Int):A2q (l++[x])=wrap64 (A2q l-x.2):=by simp [A2q]
theorem A4d{n₀ c:Nat}(hc:n₀≤c)(W:World)(v:Value):KpX n₀ c W (W.setCell ⟨c,0,none⟩ v) :=
 ⟨(Below.refl n₀ W).setCell (p:=⟨c,0,none⟩) hc _,fun p u hp hu=>(World.cell?_setCell_other (w:=W) (a:=⟨c,0,none⟩) (b:=p) (v:=v) (fun e=>hp (by rw[← e]))).trans hu⟩
set_option maxHeartbeats 4000000 in
theorem Amr(F:Fence)(n:Nat)(h1':F.fn 11)(h2':F.fn 38)(h3':F.fn 90)(hro:F.round=none)(hn:3≤n)(A:Option Addr)(cj:Nat)(id:Int)(js:List JE)(w:World)
  (hlen:js.length≤140737488355328) (hll:∀ x∈js,x.legs.length≤140737488355328) (hM:JMem w.heap.size w A js) :
  CallsIn F n Tryz.prog 11 #[.slice A js.length cj,.int .i64 id] w fun e W'=>e=.returned (.int .i64 (A2q (ysJ id js)))∧Below w.heap.size w W':=by
 have h1:1≤n:=by omega
 refine callsIn_of_wp_marks Tryz.func11 rfl h1' ?_ hro
 simp only[Tryz.ntmps11,List.size_toArray,List.length_cons,List.length_nil,Nat.reduceAdd,Nat.reduceSub,Array.replicate_succ,Array.replicate_zero,List.push_toArray,List.append_toArray,List.nil_append,List.cons_append]
 gi_wp2_with (gi_at_call 38;refine (Aes F (n-1) h2' hro _ _ _ _ _).mono ?_;rintro e w' ⟨rfl,rfl⟩)
 have bS:=Boxed.new w 3 (.int .i64 0)
 have bJ:=Boxed.new (w.alloc (.cells #[.int .i64 0] 3)) 29 (.slice A js.length cj)
 have bA:=Boxed.new ((w.alloc (.cells #[.int .i64 0] 3)).alloc (.cells #[.slice A js.length cj] 29)) 3 (.int .i64 id)
 rw[World.size_alloc] at bJ bA
 rw[World.size_alloc] at bA
 have hB0:Below w.heap.size w (((w.alloc (.cells #[.int .i64 0] 3)).alloc (.cells #[.slice A js.length cj] 29)).alloc (.cells #[.int .i64 id] 3)):=(((Below.refl _ w).alloc (Nat.le_refl _) _).alloc (by simp) _).alloc (by simp;omega) _
 refine wpIn_rangeFunc_ownG hro h1 (gf:=90) (lb:=#[.pointer (some ⟨w.heap.size+1,0,none⟩),.pointer (some ⟨w.heap.size+1+1,0,none⟩)]) rfl h3' (enters_of Tryz.func90 (by kernel_rfl) rfl)
  (T1 F (n-1) h3' hro (by omega) (w.heap.size+1) (w.heap.size+1+1) w.heap.size w.heap.size cj A id js (Nat.le_refl _) (by omega) (by omega) _ (by simp;omega) (by simp;omega) (by simp) (by simp) hlen hll (cell_kept bJ.cell (World.grownBy_alloc _ _ none) (fun r e=>by cases e)) bA.cell (hM.below hB0 (Nat.le_refl _)))
  (fun h k=>Sr h k) (Ane (by simp;omega)) (Below.refl _ _) (fun _=>rfl)
  (fun pre W=>(W.cell? ⟨w.heap.size,0,none⟩=some (.int .i64 (A2q pre))∧W.frozen? ⟨w.heap.size,0,none⟩=false)∧Below w.heap.size w W)
  (fun _ _ _=>False)
  (OwnFrom.and (Own.from (fun s A B row hs hg hr=>⟨cell_kept hs.1 hg hr,(frozen_kept hs.1 hg hr).trans hs.2⟩) _) (ownFrom_below (Nat.le_refl _) (by simp;omega)))
  (fun _ _ _ _ _ hs _ _=>hs)
  ⟨⟨((bS.alloc _).alloc _).cell,((bS.alloc _).alloc _).frozen⟩,hB0⟩
  (fun x=>{ tmps:=#[.slice A js.length cj,.int .i64 id,undef,undef,.int .i64 0,.pointer (some ⟨w.heap.size,0,none⟩),undef,.int .i64 x.2,.slice A js.length cj,.int .i64 id,.func (.func 90) #[] #[.pointer (some ⟨w.heap.size+1,0,none⟩),.pointer (some ⟨w.heap.size+1+1,0,none⟩)],.agg x.1.cells,.int .i64 x.2,undef,undef,undef,undef],defers:=[] }) ?assign ?body ?done ?stop
 case assign =>
  intro l x W K hK
  gi_wp2
  exact hK
 case body =>
  rintro l pre x W ⟨⟨hc,hf⟩,hB⟩ _
  gi_wp2
  exact⟨(KeepsOthers.setCell _ _ _).from _,A4d (Nat.le_refl _) W _,⟨by rw[A93];exact World.cell?_setCell_same' _ _ _ (by rw[hc];rfl),by rw[World.frozen?_setCell];exact hf⟩,hB.setCell (p:=⟨w.heap.size,0,none⟩) (Nat.le_refl _) _⟩
 case done =>
  rintro D ys W hD rfl ⟨⟨hc,_⟩,hB⟩ hK
  gi_wp2
  refine⟨by simp,.inl ⟨_,_,rfl,run_takeDeferred hK, ?_⟩⟩
  exact⟨_,results_tmp rfl _ _ _,rfl,hB.trans (belowK_b (w:=w) (Nat.le_refl _) W D _ _ (by simp at hD;omega) hK rfl rfl)⟩
 case stop =>
  rintro D c pre W _ _ h _
  exact h.elim
attribute [local go_sem] Oper.semAt_some
def Kd(B V:Int)(l:List (JE×Int)):Int:=l.foldl (fun s x=>if x.1.n1≤B∧x.1.n2≤V then wrap64 (s-x.2) else s) 0
theorem N0(B V:Int)(l:List (JE×Int))(x:JE×Int):Kd B V (l++[x])=if x.1.n1≤B∧x.1.n2≤V then wrap64 (Kd B V l-x.2) else Kd B V l:=by simp [Kd]
set_option maxHeartbeats 8000000 in
theorem Amn(F:Fence)(n:Nat)(h1':F.fn 209)(h2':F.fn 38)(h3':F.fn 90)(hro:F.round=none)(hn:3≤n)(A:Option Addr)(cj:Nat)(id D V:Int)(js:List JE)(w:World)
  (hlen:js.length≤140737488355328) (hll:∀ x∈js,x.legs.length≤140737488355328) (hM:JMem w.heap.size w A js) :
  CallsIn F n Tryz.prog 209 #[.slice A js.length cj,.int .i64 id,.int .i64 D,.int .i64 V] w fun e W'=>e=.returned (.int .i64 (Kd D V (ysJ id js)))∧Below w.heap.size w W':=by
 have h1:1≤n:=by omega
 refine callsIn_of_wp_marks Tryz.func209 rfl h1' ?_ hro
 simp only[Tryz.ntmps209,List.size_toArray,List.length_cons,List.length_nil,Nat.reduceAdd,Nat.reduceSub,Array.replicate_succ,Array.replicate_zero,List.push_toArray,List.append_toArray,List.nil_append,List.cons_append]
 gi_wp2_with (gi_at_call 38;refine (Aes F (n-1) h2' hro _ _ _ _ _).mono ?_;rintro e w' ⟨rfl,rfl⟩)
 have bD:=Boxed.new w 3 (.int .i64 D)
 have bV:=Boxed.new (w.alloc (.cells #[.int .i64 D] 3)) 3 (.int .i64 V)
 have bS:=Boxed.new ((w.alloc (.cells #[.int .i64 D] 3)).alloc (.cells #[.int .i64 V] 3)) 3 (.int .i64 0)
 have bJ:=Boxed.new (((w.alloc (.cells #[.int .i64 D] 3)).alloc (.cells #[.int .i64 V] 3)).alloc (.cells #[.int .i64 0] 3)) 29 (.slice A js.length cj)
 have bA:=Boxed.new ((((w.alloc (.cells #[.int .i64 D] 3)).alloc (.cells #[.int .i64 V] 3)).alloc (.cells #[.int .i64 0] 3)).alloc (.cells #[.slice A js.length cj] 29)) 3 (.int .i64 id)
 simp only[World.size_alloc] at bV bS bJ bA
 have hB0:Below w.heap.size w (((((w.alloc (.cells #[.int .i64 D] 3)).alloc (.cells #[.int .i64 V] 3)).alloc (.cells #[.int .i64 0] 3)).alloc (.cells #[.slice A js.length cj] 29)).alloc (.cells #[.int .i64 id] 3)):=(((((Below.refl _ w).alloc (Nat.le_refl _) _).alloc (by simp) _).alloc (by simp;omega) _).alloc (by simp;omega) _).alloc (by simp;omega) _
 have cD:=(((bD.alloc (.cells #[.int .i64 V] 3)).alloc (.cells #[.int .i64 0] 3)).alloc (.cells #[.slice A js.length cj] 29)).alloc (.cells #[.int .i64 id] 3)
 have cV:=((bV.alloc (.cells #[.int .i64 0] 3)).alloc (.cells #[.slice A js.length cj] 29)).alloc (.cells #[.int .i64 id] 3)
 have cS:=(bS.alloc (.cells #[.slice A js.length cj] 29)).alloc (.cells #[.int .i64 id] 3)
 have cJ:=bJ.alloc (.cells #[.int .i64 id] 3)
 clear bD bV bS bJ
 have hsz:(((((w.alloc (.cells #[.int .i64 D] 3)).alloc (.cells #[.int .i64 V] 3)).alloc (.cells #[.int .i64 0] 3)).alloc (.cells #[.slice A js.length cj] 29)).alloc (.cells #[.int .i64 id] 3)).heap.size=w.heap.size+1+1+1+1+1:=by simp
 generalize (((((w.alloc (.cells #[.int .i64 D] 3)).alloc (.cells #[.int .i64 V] 3)).alloc (.cells #[.int .i64 0] 3)).alloc (.cells #[.slice A js.length cj] 29)).alloc (.cells #[.int .i64 id] 3))=w5 at *
 refine wpIn_rangeFunc_ownH hro h1 (gf:=90) (lb:=#[.pointer (some ⟨w.heap.size+1+1+1,0,none⟩),.pointer (some ⟨w.heap.size+1+1+1+1,0,none⟩)]) rfl h3' (enters_of Tryz.func90 (by kernel_rfl) rfl)
  (T1 F (n-1) h3' hro (by omega) (w.heap.size+1+1+1) (w.heap.size+1+1+1+1) w.heap.size (w.heap.size+1+1) cj A id js (by omega) (by omega) (by omega) w5 (by omega) (by omega) (by omega) (by omega) hlen hll cJ.cell bA.cell (hM.below hB0 (Nat.le_refl _)))
  (fun h k=>Sr h k) (Ane (by omega)) (Below.refl _ _) (fun _=>rfl)
  (fun pre W=>((W.cell? ⟨w.heap.size+1+1,0,none⟩=some (.int .i64 (Kd D V pre))∧W.frozen? ⟨w.heap.size+1+1,0,none⟩=false)∧(W.cell? ⟨w.heap.size,0,none⟩=some (.int .i64 D)∧W.cell? ⟨w.heap.size+1,0,none⟩=some (.int .i64 V)))∧Below w.heap.size w W∧w5.heap.size≤W.heap.size)
  (fun _ _ _=>False) ?hI
  (fun _ _ _ _ _ hs _ _=>hs)
  ⟨⟨⟨cS.cell,cS.frozen⟩,cD.cell,cV.cell⟩,hB0,Nat.le_refl _⟩
  (fun x a' W=>∃ bx,(W.cell? ⟨bx,1,none⟩=some (.int .i64 x.1.n1)∧W.cell? ⟨bx,2,none⟩=some (.int .i64 x.1.n2))∧a'={ tmps:=#[.slice A js.length cj,.int .i64 id,.int .i64 D,.int .i64 V,undef,undef,.pointer (some ⟨w.heap.size,0,none⟩),.pointer (some ⟨w.heap.size+1,0,none⟩),.int .i64 0,.pointer (some ⟨w.heap.size+1+1,0,none⟩),.pointer (some ⟨bx,0,none⟩),.int .i64 x.2,.slice A js.length cj,.int .i64 id,.func (.func 90) #[] #[.pointer (some ⟨w.heap.size+1+1+1,0,none⟩),.pointer (some ⟨w.heap.size+1+1+1+1,0,none⟩)],.agg x.1.cells,.int .i64 x.2,undef,undef,undef,undef,undef,undef,undef,undef,undef,undef,undef,undef,undef,undef],defers:=[] }) ?hA ?assign ?body ?done ?stop
 case hI =>
  rintro s X Y row ⟨⟨⟨h1,h2⟩,h3,h4⟩,h5,h6⟩ hg hr
  exact⟨⟨⟨cell_kept h1 hg (fun r e=>(hr r e).2),(frozen_kept h1 hg (fun r e=>(hr r e).2)).trans h2⟩,cell_kept h3 hg (fun r e=>(hr r e).2),cell_kept h4 hg (fun r e=>(hr r e).2)⟩,h5.trans ((Below.refl _ X).grown hg (by have:=h5.size;omega) (fun k e=>by have:=(hr k e).1;omega)),Nat.le_trans h6 hg.size⟩
 case hA =>
  rintro x a' s X Y row ⟨bx,⟨h1,h2⟩,h3⟩ hg hr
  exact⟨bx,⟨cell_kept h1 hg (fun r e=>(hr r e).2),cell_kept h2 hg (fun r e=>(hr r e).2)⟩,h3⟩
 case assign =>
  rintro l pre x W K ⟨⟨⟨h1,h2⟩,h3,h4⟩,h5,h6⟩ hK
  obtain⟨⟨n0,n1,n2,n3,n4,n5,s6,s7,A2,cap,n9,legs⟩,m⟩:=x
  unfold JE.cells at *
  dsimp only at hK ⊢
  gi_wp2
  have hg:=World.grownBy_alloc W (.cells #[.int .i64 n0,.int .i64 n1,.int .i64 n2,.int .i64 n3,.int .i64 n4,.int .i64 n5,.string s6,.string s7,.slice A2 legs.length cap,.int .u64 n9] 39) none
  have hr:∀ (Y:World) r,(none:Option Nat)=some r→∃ o:Obj,Y.heap[r]?=some o∧o.isCells=false:=fun _ r e=>by cases e
  exact hK _ _ (KeepsFrom.of_grownBy hg (fun j e=>by cases e)) (Mn (by omega) _) ⟨⟨⟨cell_kept h1 hg (fun r e=>by cases e),(frozen_kept h1 hg (fun r e=>by cases e)).trans h2⟩,cell_kept h3 hg (fun r e=>by cases e),cell_kept h4 hg (fun r e=>by cases e)⟩,h5.alloc (by omega) _,by simp;omega⟩ ⟨W.heap.size,⟨by simp,by simp⟩,rfl⟩
 case body =>
  rintro l pre x a' W hl hlp ⟨⟨⟨h1,h2⟩,h3,h4⟩,h5,h6⟩ ⟨bx,⟨g1,g2⟩,rfl⟩ _
  obtain⟨⟨n0,n1,n2,n3,n4,n5,s6,s7,A2,cap,n9,legs⟩,m⟩:=x
  unfold JE.cells at *
  dsimp only at g1 g2
  by_cases q1:n1≤D
  ·by_cases q2:n2≤V
   ·have hs:Kd D V (pre++[(⟨n0,n1,n2,n3,n4,n5,s6,s7,A2,cap,n9,legs⟩,m)])=wrap64 (Kd D V pre-m):=by rw[N0];exact if_pos ⟨q1,q2⟩
    replace hs:=Lib.hid hs
    gi_wp2
    have hk:=A4d (n₀:=w.heap.size) (c:=w.heap.size+1+1) (by omega) W (.int .i64 (wrap64 (Kd D V pre-m)))
    have hz:=hk.1.size
    exact⟨(KeepsOthers.setCell _ _ _).from _,hk,⟨⟨by rw[hs.out];exact World.cell?_setCell_same' _ _ _ (by rw[h1];rfl),by rw[World.frozen?_setCell];exact h2⟩,hk.2 _ _ (by dsimp only;omega) h3,hk.2 _ _ (by dsimp only;omega) h4⟩,h5.setCell (p:=⟨w.heap.size+1+1,0,none⟩) (by dsimp only;omega) _,by omega⟩
   ·have hs:Kd D V (pre++[(⟨n0,n1,n2,n3,n4,n5,s6,s7,A2,cap,n9,legs⟩,m)])=Kd D V pre:=by rw[N0];exact if_neg (fun h=>q2 h.2)
    replace hs:=Lib.hid hs
    gi_wp2
    exact⟨KeepsFrom.refl _ _,L6 _ _ _,⟨⟨by rw[hs.out];exact h1,h2⟩,h3,h4⟩,h5,by omega⟩
  ·have hs:Kd D V (pre++[(⟨n0,n1,n2,n3,n4,n5,s6,s7,A2,cap,n9,legs⟩,m)])=Kd D V pre:=by rw[N0];exact if_neg (fun h=>q1 h.1)
   replace hs:=Lib.hid hs
   gi_wp2
   exact⟨KeepsFrom.refl _ _,L6 _ _ _,⟨⟨by rw[hs.out];exact h1,h2⟩,h3,h4⟩,h5,by omega⟩
 case done =>
  rintro D' ys W hD rfl ⟨⟨⟨hc,_⟩,_,_⟩,hB,_⟩ hK
  gi_wp2
  refine⟨by simp,.inl ⟨_,_,rfl,run_takeDeferred hK, ?_⟩⟩
  exact⟨_,results_tmp rfl _ _ _,rfl,hB.trans (belowK_b (w:=w) (Nat.le_refl _) W D' _ _ (by omega) hK rfl rfl)⟩
 case stop =>
  rintro D' c pre W _ _ h _
  exact h.elim
end Go.Proofs.YtbhffbgbhgjdiaaGreatDoor
