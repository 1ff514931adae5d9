/-
  Values without memory, reckoned: one operation as a function that Lean itself can run, and that it does what the calculus says. Conditions: those that each theorem states. More of the kind.
-/
import Derived.Test.YtbhffbgbhgjdiaaGreatDoorM1
import Derived.Test.YtbhffbgbhgjdiaaGreatDoorM1
set_option linter.unusedSimpArgs false
set_option linter.unusedVariables false
namespace Go.Proofs.YtbhffbgbhgjdiaaGreatDoor
open Go.RowKit
set_option maxRecDepth 100000
section
variable(P:Program)
def ckZ(a:ATy):Bool:=Nat.beq a.zero.length a.sz && (Nat.ble 1 a.sz && a.zero.all (·.oneCell'))
def xld(t:TypeId)(cs:List AV)(off:Nat):Option AV :=
 bif (aty P t).isAgg then (bif Nat.ble 1 (aty P t).sz && Nat.ble (off+(aty P t).sz) cs.length then some (.agg ((cs.drop off).take (aty P t).sz)) else none)
 else bif (aty P t).known then cs[off]? else none
def B01(n:Int):Int:=match n with
 | .ofNat m=>bif Nat.ble m 9223372036854775807 then .ofNat m else IntKind.i64.wrap (.ofNat m)
 | .negSucc m=>bif Nat.ble m 9223372036854775807 then .negSucc m else IntKind.i64.wrap (.negSucc m)
def Aut(n:Int):Int:=match n with
 | .ofNat m=>bif Nat.ble m 18446744073709551615 then .ofNat m else IntKind.u64.wrap (.ofNat m)
 | .negSucc m=>IntKind.u64.wrap (.negSucc m)
def Sk(k:IntKind)(n:Int):Int:=match k with
 | .i64=>B01 n
 | .u64=>Aut n
 | k=>k.wrap n
theorem Mj{c:Bool}{a b:Int}(h:c=true→a=b):(bif c then a else b)=b:=by
 cases c
 ·rfl
 ·exact h rfl
theorem Amc(n:Int):B01 n=IntKind.i64.wrap n:=by
 cases n with
 | ofNat m =>
  refine Mj fun hb=>?_
  have hm:=Nat.le_of_ble_eq_true hb
  exact (wrap_i64 (x:=Int.ofNat m) (by have:=Int.natCast_nonneg m;show _≤(m:Int);omega) (by show (m:Int)≤_;omega)).symm
 | negSucc m =>
  refine Mj fun hb=>?_
  have hm:=Nat.le_of_ble_eq_true hb
  exact (wrap_i64 (x:=Int.negSucc m) (by rw[Int.negSucc_eq];omega) (by rw[Int.negSucc_eq];omega)).symm
theorem Ame(n:Int):Aut n=IntKind.u64.wrap n:=by
 cases n with
 | ofNat m =>
  refine Mj fun hb=>?_
  have hm:=Nat.le_of_ble_eq_true hb
  exact (wrap_u64 (x:=Int.ofNat m) (Int.natCast_nonneg m) (by show (m:Int)≤_;omega)).symm
 | negSucc m=>unfold Aut;rfl
theorem Y6(k:IntKind)(n:Int):Sk k n=k.wrap n:=by
 cases k<;>first|exact Amc n|exact Ame n|rfl
def Awy(kd:IntKind)(a b:Int):Option AV:=some (.ex (.int kd (Sk kd (a+b))))
def Ax9(kd:IntKind)(a b:Int):Option AV:=some (.ex (.int kd (Sk kd (a-b))))
def Ax5(kd:IntKind)(a b:Int):Option AV:=some (.ex (.int kd (Sk kd (a*b))))
def Ax7(kd:IntKind)(a b:Int):Option AV:=bif decide (b=0) then none else some (.ex (.int kd (Sk kd (a.tdiv b))))
def Ax8(kd:IntKind)(a b:Int):Option AV:=bif decide (b=0) then none else some (.ex (.int kd (a.tmod b)))
def Awz(kd:IntKind)(a b:Int):Option AV:=some (.ex (.int kd (kd.wrap (BitVec.ofInt kd.bits a &&& BitVec.ofInt kd.bits b).toNat)))
def iOr(kd:IntKind)(a b:Int):Option AV:=some (.ex (.int kd (kd.wrap (BitVec.ofInt kd.bits a ||| BitVec.ofInt kd.bits b).toNat)))
def Axa(kd:IntKind)(a b:Int):Option AV:=some (.ex (.int kd (kd.wrap (BitVec.ofInt kd.bits a ^^^ BitVec.ofInt kd.bits b).toNat)))
def Ax0(_:IntKind)(a b:Int):Option AV:=some (.ex (.bool (decide (a=b))))
def Ax6(_:IntKind)(a b:Int):Option AV:=some (.ex (.bool (!decide (a=b))))
def Ax4(_:IntKind)(a b:Int):Option AV:=some (.ex (.bool (decide (a<b))))
def Ax3(_:IntKind)(a b:Int):Option AV:=some (.ex (.bool (decide (a≤b))))
def Ax2(_:IntKind)(a b:Int):Option AV:=some (.ex (.bool (decide (b<a))))
def Ax1(_:IntKind)(a b:Int):Option AV:=some (.ex (.bool (decide (b≤a))))
def iNo(_:IntKind)(_ _:Int):Option AV:=none
def Ami(op:BinOp):IntKind→Int→Int→Option AV :=
 match op with
 | .add=>Awy|.sub=>Ax9|.mul=>Ax5|.quo=>Ax7|.rem=>Ax8|.and=>Awz|.or=>iOr|.xor=>Axa
 | .eql=>Ax0|.neq=>Ax6|.lss=>Ax4|.leq=>Ax3|.gtr=>Ax2|.geq=>Ax1
 | _=>iNo
def Aux(op:BinOp)(a b:ByteArray):Option AV :=
 match op with
 | .add=>bif Nat.ble (a.size+b.size) 9223372036854775807 then some (.ex (.string (a++b))) else none
 | .eql=>some (.ex (.bool (decide (a=b))))
 | .neq=>some (.ex (.bool (!decide (a=b))))
 | .lss=>some (.ex (.bool (Op.bytesLess a.data.toList b.data.toList)))
 | .leq=>some (.ex (.bool (Op.bytesLess a.data.toList b.data.toList || decide (a=b))))
 | .gtr=>some (.ex (.bool (!(Op.bytesLess a.data.toList b.data.toList || decide (a=b)))))
 | .geq=>some (.ex (.bool (!Op.bytesLess a.data.toList b.data.toList)))
 | _=>none
def Amf(t:TypeId)(xs ys:List AV):Option Bool :=
 match P.underlying t with
 | some (.struct _)=>bif P.eqGuardType P.depth t then none else Ik P 200 t xs ys
 | _=>none
def bII(op:BinOp)(ka:IntKind)(a:Int)(kb:IntKind)(b:Int):Option AV :=
 match op with
 | .shl=>bif decide (0≤b) then some (.ex (.int ka (ka.wrap (a*2 ^ (min b.toNat ka.bits))))) else none
 | .shr=>bif decide (0≤b) then some (.ex (.int ka (a.fdiv (2 ^ (min b.toNat ka.bits))))) else none
 | op=>bif decide (ka=kb) then Ami op ka a b else none
def bI(op:BinOp)(ka:IntKind)(a:Int)(y:Value):Option AV:=match y with|.int kb b=>bII op ka a kb b|_=>none
def bT(op:BinOp)(a:ByteArray)(y:Value):Option AV:=match y with|.string b=>Aux op a b|_=>none
def bBB(op:BinOp)(a b:Bool):Option AV:=match op with|.eql=>some (.ex (.bool (a == b)))|.neq=>some (.ex (.bool (a != b)))|_=>none
def bB(k:TK)(op:BinOp)(a:Bool)(y:Value):Option AV:=match y with|.bool b=>(match k with|.bool=>bBB op a b|_=>none)|_=>none
def bV(op:BinOp)(t:TypeId)(x:Value)(y:Value):Option AV :=
 match x with
 | .int ka a=>bI op ka a y
 | .string a=>bT op a y
 | .bool a=>bB (aty P t).k op a y
 | _=>none
def bA(op:BinOp)(t:TypeId)(xs ys:List AV):Option AV:=match op with
  | .eql=>(Amf P t xs ys).map fun b=>.ex (.bool b)
  | .neq=>(Amf P t xs ys).map fun b=>.ex (.bool (!b))
  | _=>none
def A1l:Value→Bool
 | .slice none 0 0=>true
 | _=>false
def bS(op:BinOp)(t:TypeId)(es:List (List AV))(y:Value):Option AV:=bif A1l y then (match (aty P t).k with|.slice _=>(match op with|.eql=>some (.nq es)|_=>none)|_=>none) else none
def Amg(op:BinOp)(t:TypeId)(x y:AV):Option AV :=
 match x with
 | .ex x=>(match y with|.ex y=>bV P op t x y|_=>none)
 | .agg xs=>(match y with|.agg ys=>bA P op t xs ys|_=>none)
 | .sl es=>(match y with|.ex y=>bS P op t es y|_=>none)
 | _=>none
def xun(op:UnOp)(x:AV):Option AV :=
 match op,x with
 | .not,.ex (.bool b)=>some (.ex (.bool (!b)))
 | .neg,.ex (.int kd n)=>some (.ex (.int kd (kd.wrap (0-n))))
 | .xor,.ex (.int kd n)=>Ami .xor kd (if kd.signed then -1 else kd.max) n
 | _,_=>none
def unb:List (List AV)→Option (List UInt8)
 | []=>some []
 | e :: es=>match e with
  | [.ex (.int .u8 (.ofNat n))]=>bif Nat.blt n 256 then (unb es).map (UInt8.ofNat n :: ·) else none
  | _=>none
def A5b(hp:Nat→Option A4)(src dst:TypeId)(x:AV):Option AV :=
 match (aty P dst).k with
 | .int kd=>match x with
  | .ex (.int _ n)=>bif (aty P src).known then some (.ex (.int kd (Sk kd n))) else none
  | _=>none
 | .str=>match (aty P src).k with
  | .str=>match x with
   | .ex (.string s)=>some (.ex (.string s))
   | _=>none
  | .slice e=>match (aty P e).k,x with
   | .int .u8,.ex (.string _)=>none
   | .int .u8,.ex (.int _ _)=>none
   | .int .u8,u=>(Fc hp u).bind fun es=>(unb es).map fun l=>.ex (.string ⟨l.toArray⟩)
   | _,_=>none
  | _=>none
 | .slice e=>match (aty P src).k,(aty P e).k,x with
  | .str,.int .u8,.ex (.string s)=>bif Nat.ble s.size maxLen then some (.sl (B3 s.data.toList)) else none
  | _,_,_=>none
 | _=>none
def Auv(hp:Nat→Option A4)(t:TypeId)(x:AV):Option AV :=
 match (aty P t).k with
 | .str=>match x with
  | .ex (.string s)=>some (.ex (.int .i64 s.size))
  | _=>none
 | .arr n _=>some (.ex (.int .i64 n))
 | .slice _=>match x with
  | .asl _ _ n=>some (.ex (.int .i64 n))
  | x=>(Fc hp x).map fun es=>.ex (.int .i64 es.length)
 | _=>none
def ckA(a:ATy)(ns:List (List AV)):Bool:=Nat.beq a.zero.length a.sz && (Nat.ble 1 a.sz && (Nat.ble 1 a.bytes && ns.all fun n=>Nat.beq n.length a.sz))
def Auu(hp:Nat→Option A4)(id:Nat)(e:TypeId)(s:AV)(ns:List (List AV)):Option (AV×Eff) :=
 bif ckA (aty P e) ns then match s with
  | .own b=>match hp b with
   | some β=>bif β.mu && (Nat.beq β.ty e && Nat.ble ((β.es.length+ns.length)*(aty P e).bytes) 140737488355328) then some (.own id,.grow b ⟨e,β.es++ns,true⟩) else none
   | none=>none
  | .ex (.slice none 0 0)=>bif Nat.ble (ns.length*(aty P e).bytes) 140737488355328 then some (.own id,.new ⟨e,ns,true⟩) else none
  | .em=>match ns with
   | []=>some (.em,.none)
   | n :: ns=>bif Nat.ble ((n :: ns).length*(aty P e).bytes) 140737488355328 then some (.own id,.new ⟨e,n :: ns,true⟩) else none
  | _=>none
 else none
def xix(hp:Nat→Option A4)(t:TypeId)(x:AV)(n:Nat):Option AV :=
 match (aty P t).k,x with
 | .slice e,.own b=>match hp b with
  | some β=>bif Nat.beq β.ty e && (Nat.ble 1 (aty P e).sz && Nat.blt n β.es.length) then some (.pt b n 0) else none
  | none=>none
 | .slice e,.sl es=>match es[n]? with
  | some c=>bif Nat.ble 1 (aty P e).sz && Nat.beq c.length (aty P e).sz then some (.rp c 0) else none
  | none=>none
 | .arr len e,.rp cs off=>bif Nat.ble 1 (aty P e).sz && Nat.blt n len then some (.rp cs (off+n*(aty P e).sz)) else none
 | .arr len e,.pt b j off=>bif Nat.ble 1 (aty P e).sz && Nat.blt n len then some (.pt b j (off+n*(aty P e).sz)) else none
 | .slice e,.asl b off m=>bif Nat.ble 1 (aty P e).sz && Nat.blt n m then some (.pt b 0 (off+n*(aty P e).sz)) else none
 | _,_=>none
def R3(d:Nat)(ev:Operand→AV):Option Operand→Option Nat
 | none=>some d
 | some x=>match ev x with
  | .ex (.int _ (.ofNat n))=>some n
  | _=>none
def A39(pol:Bool)(hp:Nat→Option A4)(id:Nat)(t:TypeId)(x:AV)(ev:Operand→AV)(lo hi mx:Option Operand):Option (AV×Eff) :=
 match (aty P t).k,x with
 | .str,.ex (.string s)=>match mx with
  | none=>(R3 0 ev lo).bind fun l=>(R3 s.size ev hi).bind fun h=>bif Nat.ble l h && Nat.ble h s.size then some (.ex (.string (s.extract l h)),.none) else none
  | some _=>none
 | .slice e,.sl es=>bif Nat.ble 1 (aty P e).sz && (((!hi.isNone) || mx.isNone) && es.all fun x=>Nat.beq x.length (aty P e).sz) then
   (R3 0 ev lo).bind fun l=>(R3 es.length ev hi).bind fun h=>(R3 es.length ev mx).bind fun m=>bif Nat.ble l h && (Nat.ble h m && Nat.ble m es.length) then some (.sl ((es.take h).drop l),.none) else none
  else none
 | .slice e,.own b=>match hp b with
  | some β=>bif Nat.beq β.ty e && (Nat.ble 1 (aty P e).sz && mx.isNone) then
    (R3 0 ev lo).bind fun l=>(R3 β.es.length ev hi).bind fun h=>bif Nat.ble l h && Nat.ble h β.es.length then
     (match pol,lo,hi with
     | true,none,_=>bif β.mu then some (.own id,.grow b ⟨e,β.es.take h,true⟩) else none
     | true,some _,none=>bif Nat.blt l h then some (.vw b l,.none) else none
     | _,_,_=>bif β.es.all (·.all p0) then some (.sl (((β.es.map (·.map z0)).take h).drop l),.frz [b]) else none) else none
   else none
  | none=>none
 | .arr len e,.pt b j off=>bif Nat.ble 1 (aty P e).sz && (Nat.beq j 0 && (lo.isNone && (hi.isNone && (mx.isNone && Nat.ble len maxLen)))) then some (.asl b off len,.none) else none
 | .slice e,.asl b off n=>bif Nat.ble 1 (aty P e).sz && mx.isNone then (R3 0 ev lo).bind fun l=>(R3 n ev hi).bind fun h=>bif Nat.ble l h && Nat.ble h n then some (.asl b (off+l*(aty P e).sz) (h-l),.none) else none else none
 | _,_=>none
end
section
variable{P:Program}{C:World→Prop}{k:AV→Eff→Prop}{u:AV}{f:Eff}
theorem A6{α:Type}{c:Bool}{a:Option α}{u:α}(h:(bif c then a else none)=some u):c=true∧a=some u:=by
 cases c
 ·cases h
 ·exact⟨rfl,h⟩
theorem Et{α:Type}{c:Bool}{a:Option α}{u:α}(h:(bif c then none else a)=some u):c=false∧a=some u:=by
 cases c
 ·exact⟨rfl,h⟩
 ·cases h
theorem Ad{a b:Bool}(h:(a && b)=true):a=true∧b=true:=by simpa using h
theorem Ai{a b:Nat}(h:Nat.ble a b=true):a≤b:=Nat.le_of_ble_eq_true h
theorem Bd{a b:Nat}(h:Nat.beq a b=true):a=b:=Nat.eq_of_beq_eq_true h
theorem Gm{a b:Nat}(h:Nat.blt a b=true):a<b:=Nat.le_of_ble_eq_true h
theorem Mg{a:ATy}(h:ckZ a=true):a.zero.length=a.sz∧0<a.sz∧a.zero.all (·.oneCell')=true:=by
 obtain⟨h1,h2⟩:=Ad h
 obtain⟨h2,h3⟩:=Ad h2
 exact⟨Bd h1,Ai h2,h3⟩
theorem U0{ns:List (List AV)}{m:Nat}(h:(ns.all fun n=>Nat.beq n.length m)=true):∀ n∈ns,n.length=m:=fun n hn=>Bd (List.all_eq_true.1 h n hn)
theorem Aor{a:ATy}{ns:List (List AV)}(h:ckA a ns=true):a.zero.length=a.sz∧0<a.sz∧1≤a.bytes∧∀ n∈ns,n.length=a.sz:=by
 obtain⟨h1,h2⟩:=Ad h
 obtain⟨h2,h3⟩:=Ad h2
 obtain⟨h3,h4⟩:=Ad h3
 exact⟨Bd h1,Ai h2,Ai h3,U0 h4⟩
theorem Fi{t:TypeId}{cs:List AV}{off:Nat}(h:xld P t cs off=some u)(hk:k u .none):Ar P t cs off k:=by
 unfold xld at h
 unfold Ar
 cases hA:(aty P t).isAgg with
 | true =>
  rw[hA,cond_true] at h
  obtain⟨h1,h2⟩:=A6 h
  obtain⟨h3,h4⟩:=Ad h1
  cases h2
  rw[if_pos rfl]
  exact⟨⟨Ai h3,Ai h4⟩,hk⟩
 | false =>
  rw[hA,cond_false] at h
  obtain⟨h1,h2⟩:=A6 h
  rw[if_neg (by simp)]
  exact⟨h1,u,h2,hk⟩
theorem R7{op:BinOp}{kd:IntKind}{a b:Int}(h:Ami op kd a b=some u)(hk:k u .none):Da op kd a b k:=by
 cases op<;>simp only[Ami,Y6,Awy,Ax9,Ax5,Ax7,Ax8,Awz,iOr,Axa,Ax0,Ax6,Ax4,Ax3,Ax2,Ax1,iNo,Option.some.injEq,reduceCtorEq] at h<;>(try (subst h;exact hk))
 all_goals
  obtain⟨h1,h2⟩:=Et h
  cases h2
  exact⟨by simpa using h1,hk⟩
theorem A3a{op:BinOp}{a b:ByteArray}(h:Aux op a b=some u)(hk:k u .none):Gc op a b k:=by
 cases op<;>simp only[Aux,Option.some.injEq,reduceCtorEq] at h<;>(try (subst h;exact hk))
 obtain⟨h1,h2⟩:=A6 h
 cases h2
 exact⟨Ai h1,hk⟩
theorem Qz{t:TypeId}{xs ys:List AV}{b:Bool}(h:Amf P t xs ys=some b):Hy P t xs ys b:=by
 unfold Amf at h
 split at h
 ·rename_i fs hu
  obtain⟨h1,h2⟩:=Et h
  exact Ia (by decide) hu h1 h2
 ·cases h
theorem A64{op:BinOp}{ka kb:IntKind}{a b:Int}{t:TypeId}(h:bII op ka a kb b=some u)(hk:k u .none):Ag P op t (.ex (.int ka a)) (.ex (.int kb b)) k:=by
 unfold bII at h
 unfold Ag
 split at h
 ·obtain⟨h1,h2⟩:=A6 h
  cases h2
  exact⟨by simpa using h1,hk⟩
 ·obtain⟨h1,h2⟩:=A6 h
  cases h2
  exact⟨by simpa using h1,hk⟩
 ·rename_i hn1 hn2
  obtain⟨h1,h2⟩:=A6 h
  have h1:ka=kb:=by simpa using h1
  cases op<;>first
   | exact⟨h1,R7 h2 hk⟩
   | exact (hn1 rfl).elim
   | exact (hn2 rfl).elim
theorem Aao{op:BinOp}{t:TypeId}{x y:Value}(h:bV P op t x y=some u)(hk:k u .none):Ag P op t (.ex x) (.ex y) k:=by
 unfold bV at h
 split at h
 ·unfold bI at h
  split at h
  ·exact A64 h hk
  ·cases h
 ·unfold bT at h
  split at h
  ·exact A3a h hk
  ·cases h
 ·unfold bB at h
  split at h
  ·split at h
   ·rename_i hb
    unfold bBB at h
    split at h
    ·cases h;exact⟨hk,hb⟩
    ·cases h;exact⟨hk,hb⟩
    ·cases h
   ·cases h
  ·cases h
 ·cases h
theorem A7f{v:Value}(h:A1l v=true):v=.slice none 0 0:=by
 unfold A1l at h
 split at h
 ·rfl
 ·cases h
theorem A34{op:BinOp}{t:TypeId}{x y:AV}(h:Amg P op t x y=some u)(hk:k u .none):Ag P op t x y k:=by
 unfold Amg at h
 split at h
 ·split at h
  ·exact Aao h hk
  ·cases h
 ·split at h
  ·unfold bA at h
   unfold Ag
   split at h
   ·obtain⟨b,h1,h2⟩:=Option.map_eq_some_iff.1 h
    subst h2
    exact⟨b,Qz h1,hk⟩
   ·obtain⟨b,h1,h2⟩:=Option.map_eq_some_iff.1 h
    subst h2
    exact⟨b,Qz h1,hk⟩
   ·cases h
  ·cases h
 ·split at h
  ·unfold bS at h
   obtain⟨h1,h⟩:=A6 h
   rw[A7f h1]
   unfold Ag
   split at h
   ·rename_i hb
    split at h
    ·cases h
     refine⟨hk, ?_⟩
     rw[hb];trivial
    ·cases h
   ·cases h
  ·cases h
 ·cases h
theorem A9j{op:UnOp}{x:AV}(h:xun op x=some u)(hk:k u .none):Jn op x k:=by
 unfold xun at h
 split at h
 ·cases h;exact hk
 ·cases h;exact hk
 ·exact R7 h hk
 ·cases h
theorem Tk:∀ {es:List (List AV)} {l:List UInt8},unb es=some l→es=B3 l
 | [],l,h=>by cases h;rfl
 | e :: es,l,h=>by
  unfold unb at h
  split at h
  ·rename_i n
   obtain⟨h1,h2⟩:=A6 h
   obtain⟨l',h3,h4⟩:=Option.map_eq_some_iff.1 h2
   subst h4
   rw[Tk h3]
   have:n<256:=Gm h1
   simp only[B3,List.map_cons,List.cons.injEq,and_true]
   rw[show (UInt8.ofNat n).toNat=n by simp;omega]
   rfl
  ·cases h
theorem A11{hp:Nat→Option A4}{src dst e:TypeId}{x:AV}{l:List UInt8}(hd:(aty P dst).k=.str)(hs:(aty P src).k=.slice e)(he:(aty P e).k=.int .u8)(hn1:∀ s,x=.ex (.string s)→False)
  (hn2:∀ kd n,x=.ex (.int kd n)→False) (h1:Fc hp x=some (B3 l)) (hk:k (.ex (.string ⟨l.toArray⟩)) .none):Bm P hp src dst x k:=by
 unfold Bm
 split
 ·exact (hn2 _ _ rfl).elim
 ·exact (hn1 _ rfl).elim
 ·exact (hn1 _ rfl).elim
 ·refine⟨?_,l,h1,hk⟩
  rw[hs]
  dsimp only
  rw[he]
  trivial
 ·simp_all
theorem Zy{hp:Nat→Option A4}{src dst:TypeId}{x:AV}(h:A5b P hp src dst x=some u)(hk:k u .none):Bm P hp src dst x k:=by
 unfold A5b at h
 split at h
 ·rename_i kd hd
  split at h
  ·obtain⟨h1,h2⟩:=A6 h
   cases h2
   simp only[Bm,hd]
   rw[Y6] at hk
   exact⟨h1,hk⟩
  ·cases h
 ·rename_i hd
  split at h
  ·rename_i hs
   split at h
   ·cases h
    simp only[Bm,hd]
    exact⟨hs,hk⟩
   ·cases h
  ·rename_i e hs
   split at h
   ·cases h
   ·cases h
   ·rename_i he hn1 hn2
    obtain⟨es,h1,h2⟩:=Option.bind_eq_some_iff.1 h
    obtain⟨l,h3,h4⟩:=Option.map_eq_some_iff.1 h2
    subst h4
    have e1:=Tk h3
    subst e1
    exact A11 hd hs he (fun s hx=>hn1 _ hx) (fun kd n hx=>hn2 _ _ hx) h1 hk
   ·cases h
  ·cases h
 ·rename_i e hd
  split at h
  ·rename_i hs he
   obtain⟨h1,h2⟩:=A6 h
   cases h2
   simp only[Bm,hd]
   refine⟨hs, ?_⟩
   rw[he]
   exact⟨Ai h1,hk⟩
  ·cases h
 ·cases h
end
end Go.Proofs.YtbhffbgbhgjdiaaGreatDoor
namespace Go.Proofs.YtbhffbgbhgjdiaaGreatDoor
open Go.RowKit
set_option maxRecDepth 100000
section
variable{P:Program}{C:World→Prop}{k:AV→Eff→Prop}{u:AV}{f:Eff}{hp:Nat→Option A4}{id:Nat}
theorem Afh{t e:TypeId}{x:AV}{es:List (List AV)}(hd:(aty P t).k=.slice e)(hna:∀ b o n,x=.asl b o n→False)(h1:Fc hp x=some es)(hk:k (.ex (.int .i64 es.length)) .none):Cf P hp t x k:=by
 unfold Cf
 rw[hd]
 cases x<;>first
  | exact⟨es,h1,hk⟩
  | exact (hna _ _ _ rfl).elim
theorem A37{t:TypeId}{x:AV}(h:Auv P hp t x=some u)(hk:k u .none):Cf P hp t x k:=by
 unfold Auv at h
 split at h
 ·rename_i hd
  unfold Cf
  split at h
  ·cases h;rw[hd];exact hk
  ·cases h
 ·rename_i hd
  unfold Cf
  cases h;rw[hd];exact hk
 ·rename_i hd
  split at h
  ·unfold Cf
   rw[hd]
   cases h;exact hk
  ·rename_i hna
   obtain⟨es,h1,h2⟩:=Option.map_eq_some_iff.1 h
   subst h2
   exact Afh hd hna h1 hk
 ·cases h
theorem A33{e:TypeId}{s:AV}{ns:List (List AV)}(h:Auu P hp id e s ns=some (u,f))(hk:k u f):D9 P hp id e s ns k:=by
 unfold Auu at h
 obtain⟨h0,h⟩:=A6 h
 refine⟨Aor h0, ?_⟩
 split at h
 ·split at h
  ·rename_i β hβ
   obtain⟨h1,h⟩:=A6 h
   obtain⟨h1,h2⟩:=Ad h1
   obtain⟨h2,h3⟩:=Ad h2
   cases h
   exact⟨β,hβ,h1,Bd h2,Ai h3,hk⟩
  ·cases h
 ·obtain⟨h1,h⟩:=A6 h
  cases h
  exact⟨Ai h1,hk⟩
 ·split at h
  ·cases h;exact .inl ⟨rfl,hk⟩
  ·obtain⟨h1,h⟩:=A6 h
   cases h
   exact .inr ⟨⟨by simp,Ai h1⟩,hk⟩
 ·cases h
theorem A9h{t:TypeId}{x:AV}{n:Nat}(h:xix P hp t x n=some u)(hk:k u .none):Ek P hp t x n k:=by
 unfold xix at h
 unfold Ek
 split at h
 ·rename_i hd
  rw[hd]
  dsimp only
  split at h
  ·rename_i β hβ
   obtain⟨h1,h⟩:=A6 h
   obtain⟨h1,h2⟩:=Ad h1
   obtain⟨h2,h3⟩:=Ad h2
   cases h
   exact⟨β,hβ,⟨Bd h1,Ai h2⟩,Gm h3,hk⟩
  ·cases h
 ·rename_i hd
  rw[hd]
  dsimp only
  split at h
  ·rename_i c hc
   obtain⟨h1,h⟩:=A6 h
   obtain⟨h1,h2⟩:=Ad h1
   cases h
   obtain⟨hl,hc⟩:=List.getElem?_eq_some_iff.1 hc
   cases hc
   exact⟨Ai (by assumption),hl,Bd (by assumption),hk⟩
  ·cases h
 ·rename_i hd
  rw[hd]
  obtain⟨h1,h⟩:=A6 h
  obtain⟨h1,h2⟩:=Ad h1
  cases h
  exact⟨Ai h1,Gm h2,hk⟩
 ·rename_i hd
  rw[hd]
  obtain⟨h1,h⟩:=A6 h
  obtain⟨h1,h2⟩:=Ad h1
  cases h
  exact⟨Ai h1,Gm h2,hk⟩
 ·rename_i hd
  rw[hd]
  obtain⟨h1,h⟩:=A6 h
  obtain⟨h1,h2⟩:=Ad h1
  cases h
  exact⟨Ai h1,Gm h2,hk⟩
 ·cases h
theorem Cv{d n:Nat}{ev:Operand→AV}{x:Option Operand}{kk:Nat→Prop}(h:R3 d ev x=some n)(hk:kk n):bnd d ev x kk:=by
 unfold R3 at h
 split at h
 ·cases h;exact hk
 ·split at h
  ·rename_i hy
   cases h
   exact⟨_,_,hy,Int.natCast_nonneg _,hk⟩
  ·cases h
theorem W6{pol:Bool}{t:TypeId}{x:AV}{ev:Operand→AV}{lo hi mx:Option Operand}(h:A39 P pol hp id t x ev lo hi mx=some (u,f))(hk:k u f):B7 P hp id t x ev lo hi mx k:=by
 unfold A39 at h
 unfold B7
 split at h
 ·rename_i hd
  rw[hd]
  dsimp only
  split at h
  ·obtain⟨l,h1,h⟩:=Option.bind_eq_some_iff.1 h
   obtain⟨m,h2,h⟩:=Option.bind_eq_some_iff.1 h
   obtain⟨h3,h⟩:=A6 h
   obtain⟨h3,h4⟩:=Ad h3
   cases h
   exact⟨rfl,Cv h1 (Cv h2 ⟨Ai h3,Ai h4,hk⟩)⟩
  ·cases h
 ·rename_i hd
  rw[hd]
  dsimp only
  obtain⟨h0,h⟩:=A6 h
  obtain⟨h5,h6⟩:=Ad h0
  obtain⟨h6,h7⟩:=Ad h6
  obtain⟨l,h1,h⟩:=Option.bind_eq_some_iff.1 h
  obtain⟨m,h2,h⟩:=Option.bind_eq_some_iff.1 h
  obtain⟨n,h3,h⟩:=Option.bind_eq_some_iff.1 h
  obtain⟨h8,h⟩:=A6 h
  obtain⟨h8,h9⟩:=Ad h8
  obtain⟨h9,h10⟩:=Ad h9
  cases h
  refine⟨⟨Ai h5,fun hn=>?_,U0 h7⟩,Cv h1 (Cv h2 (Cv h3 ⟨Ai h8,Ai h9,Ai h10,hk⟩))⟩
  subst hn
  simpa using h6
 ·rename_i hd
  rw[hd]
  dsimp only
  split at h
  ·rename_i β hβ
   obtain⟨h0,h⟩:=A6 h
   obtain⟨h5,h6⟩:=Ad h0
   obtain⟨h6,h7⟩:=Ad h6
   obtain⟨l,h1,h⟩:=Option.bind_eq_some_iff.1 h
   obtain⟨m,h2,h⟩:=Option.bind_eq_some_iff.1 h
   obtain⟨h8,h⟩:=A6 h
   obtain⟨h8,h9⟩:=Ad h8
   refine⟨β,hβ,⟨Bd h5,Ai h6,by simpa using h7⟩,Cv h1 (Cv h2 ⟨⟨Ai h8,Ai h9⟩, ?_⟩)⟩
   split at h
   ·obtain⟨h10,h⟩:=A6 h
    cases h
    exact .inr (.inr ⟨⟨rfl,h10⟩,hk⟩)
   ·obtain⟨h10,h⟩:=A6 h
    cases h
    exact .inr (.inl ⟨⟨rfl,Gm h10⟩,hk⟩)
   ·obtain⟨h10,h⟩:=A6 h
    cases h
    exact .inl ⟨h10,hk⟩
  ·cases h
 ·rename_i hd
  rw[hd]
  obtain⟨h1,h⟩:=A6 h
  obtain⟨h1,h2⟩:=Ad h1
  obtain⟨h2,h3⟩:=Ad h2
  obtain⟨h3,h4⟩:=Ad h3
  obtain⟨h4,h5⟩:=Ad h4
  obtain⟨h5,h6⟩:=Ad h5
  cases h
  exact⟨⟨Ai h1,Bd h2,by simpa using h3,by simpa using h4,by simpa using h5,Ai h6⟩,hk⟩
 ·rename_i hd
  rw[hd]
  obtain⟨h1,h⟩:=A6 h
  obtain⟨h1,h2⟩:=Ad h1
  obtain⟨l,h3,h⟩:=Option.bind_eq_some_iff.1 h
  obtain⟨m,h4,h⟩:=Option.bind_eq_some_iff.1 h
  obtain⟨h5,h⟩:=A6 h
  obtain⟨h5,h6⟩:=Ad h5
  cases h
  exact⟨⟨Ai h1,by simpa using h2⟩,Cv h3 (Cv h4 ⟨⟨Ai h5,Ai h6⟩,hk⟩)⟩
 ·cases h
end
structure Ns where
 pol:Bool
 id:Nat
 ty:TypeId
 ev:Operand→AV
 hp:Nat→Option A4
abbrev FOp:=Program→Ns→Option (AV×Eff)
def Gd:Option AV→Option (AV×Eff)
 | some u=>some (u,.none)
 | none=>none
def oNo:FOp:=fun _ _=>none
def Ay9(x:Operand):FOp:=fun _ e=>some (e.ev x,.none)
def asg(id:Nat)(u:AV):TK→Option (AV×Eff)
 | .slice t=>some (.own id,.new ⟨t,[],true⟩)
 | _=>some (u,.none)
def Alg(x:Operand):FOp:=fun P e=>bif Ck x then asg e.id (e.ev x) (aty P e.ty).k else some (e.ev x,.none)
def O1:Value→Option Bool
 | .bool b=>some b
 | _=>none
def O0:AV→Option Bool
 | .ex v=>O1 v
 | _=>none
def Aya(c a b:Operand):FOp:=fun _ e=>(O0 (e.ev c)).bind fun t=>some (bif t then e.ev a else e.ev b,.none)
def Ar4(t:TypeId):FOp:=fun P e=>bif ckZ (aty P t) then some (.pt e.id 0 0,.alc t ((aty P t).zero.map .ex)) else none
def Ar5(t:TypeId)(x:Operand):FOp:=fun P e=>(e.ev x).cells.bind fun cs=>bif Nat.beq cs.length (aty P t).sz && Nat.ble 1 cs.length then some (.pt e.id 0 0,.new ⟨t,[cs],true⟩) else none
def Axz(P:Program)(e:Ns)(t:TypeId)(b j off:Nat):Option (AV×Eff):=(e.hp b).bind fun β=>(β.es[j]?).bind fun r=>Gd (xld P t r off)
def Af8(t:TypeId)(x:Operand):FOp:=fun P e=>match e.ev x with
 | .rp cs off=>Gd (xld P t cs off)
 | .pt b j off=>Axz P e t b j off
 | _=>none
def Ano(sz b j off:Nat)(cs:List AV)(β:A4):Option (AV×Eff):=(β.es[j]?).bind fun r=>bif Nat.beq cs.length sz && (Nat.ble 1 cs.length && Nat.ble (off+cs.length) r.length) then some (.junk,.set b ⟨β.ty,β.es.set j (r.take off++cs++r.drop (off+cs.length)),true⟩) else none
def Ayo(P:Program)(e:Ns)(t:TypeId)(v:AV)(b j off:Nat):Option (AV×Eff):=(e.hp b).bind fun β=>bif β.mu then v.cells.bind fun cs=>Ano (aty P t).sz b j off cs β else none
def A28(t:TypeId)(x v:Operand):FOp:=fun P e=>match e.ev x with
 | .pt b j off=>Ayo P e t (e.ev v) b j off
 | _=>none
def Aew:AV→Option (AV×Eff)
 | .rp cs off=>some (.rp cs off,.none)
 | .pt b j off=>some (.pt b j off,.none)
 | _=>none
def A84(x:Operand):FOp:=fun _ e=>Aew (e.ev x)
def B0z(op:BinOp)(t:TypeId)(x y:Operand):FOp:=fun P e=>Gd (Amg P op t (e.ev x) (e.ev y))
def oUn(op:UnOp)(x:Operand):FOp:=fun _ e=>Gd (xun op (e.ev x))
def Ay8(src dst:TypeId)(x:Operand):FOp:=fun P e=>Gd (A5b P e.hp src dst (e.ev x))
def Ay1(P:Program)(id n c:Nat):TK→Option (AV×Eff)
 | .slice t=>bif ckZ (aty P t) && Nat.ble 1 (aty P t).bytes then
    (bif Nat.beq n 0 then (bif Nat.ble ((aty P t).bytes*c) 140737488355328 then some (.own id,.new ⟨t,[],true⟩) else none)
    else bif Nat.beq n c && Nat.ble ((aty P t).bytes*n) 140737488355328 then some (.own id,.new ⟨t,List.replicate n ((aty P t).zero.map .ex),true⟩) else none) else none
 | _=>none
def Alc:Int→Option Nat
 | .ofNat n=>some n
 | _=>none
def Aet:Value→Option Nat
 | .int k n=>(match k with|.i64=>Alc n|_=>none)
 | _=>none
def Va:AV→Option Nat
 | .ex v=>Aet v
 | _=>none
def Ay6:Value→Option Nat
 | .int _ n=>Alc n
 | _=>none
def Alb:AV→Option Nat
 | .ex v=>Ay6 v
 | _=>none
def K6(t:TypeId)(len cap:Operand):FOp:=fun P e=>(Va (e.ev len)).bind fun n=>(Va (e.ev cap)).bind fun c=>Ay1 P e.id n c (aty P t).k
def Ar6(t:TypeId)(x:Operand)(lo hi mx:Option Operand):FOp:=fun P e=>A39 P e.pol e.hp e.id t (e.ev x) e.ev lo hi mx
def Amy(d:Nat):AV→Option (AV×Eff)
 | .rp cs off=>some (.rp cs (off+d),.none)
 | .pt b j off=>some (.pt b j (off+d),.none)
 | _=>none
def K4(s:TypeId)(x:Operand)(f:Nat):FOp:=fun P e=>((aty P s).flds[f]?).bind fun o=>bif Nat.beq (aty P o.2).sz 0 then none else Amy o.1 (e.ev x)
def Awv(P:Program)(t off:Nat):AV→Option (AV×Eff)
 | .agg cs=>Gd (xld P t cs off)
 | _=>none
def A26(s:TypeId)(x:Operand)(f:Nat):FOp:=fun P e=>((aty P s).flds[f]?).bind fun o=>Awv P o.2 o.1 (e.ev x)
def K5(t:TypeId)(x i:Operand):FOp:=fun P e=>(Alb (e.ev i)).bind fun n=>Gd (xix P e.hp t (e.ev x) n)
def An4(n:Nat):Value→Option (AV×Eff)
 | .string s=>(s.data.toList[n]?).bind fun c=>some (.ex (.int .u8 c.toNat),.none)
 | _=>none
def Ad6(n:Nat):AV→Option (AV×Eff)
 | .ex v=>An4 n v
 | _=>none
def An3(P:Program)(len t n:Nat):AV→Option (AV×Eff)
 | .agg cs=>bif Nat.ble 1 (aty P t).sz && Nat.blt n len then Gd (xld P t cs (n*(aty P t).sz)) else none
 | _=>none
def ixK(P:Program)(n:Nat)(u:AV):TK→Option (AV×Eff)
 | .str=>Ad6 n u
 | .arr len t=>An3 P len t n u
 | _=>none
def A27(t:TypeId)(x i:Operand):FOp:=fun P e=>(Alb (e.ev i)).bind fun n=>ixK P n (e.ev x) (aty P t).k
def Ajs:Fn→Option FuncId
 | .func f=>some f
 | _=>none
def Mu(fn:Fn)(first captured:Array Operand):FOp:=fun _ e=>(Ajs fn).bind fun f=>bif first.toList.isEmpty then some (.fn f (captured.toList.map e.ev),.none) else none
def ext(i:Nat):AV→Option (AV×Eff)
 | .tup vs=>Gd vs[i]?
 | _=>none
def Af7(x:Operand)(i:Nat):FOp:=fun _ e=>ext i (e.ev x)
def Ahs:Option (List AV)→Option (AV×Eff)
 | some cs=>some (.agg cs,.none)
 | none=>none
def Avz(P:Program)(t:TypeId)(ps:List (Nat×AV)):TK→Option (AV×Eff)
 | .struct=>bif (aty P t).flds.all fun f=>Nat.ble 1 (aty P f.2).sz then
    Ahs (F8 (fun i=>((aty P t).flds.map fun f=>(f.1,(aty P f.2).sz))[i]?) ((aty P t).zero.map .ex) ps) else none
 | .arr _ e=>bif Nat.ble 1 (aty P e).sz then Ahs (F8 (fun i=>some (i*(aty P e).sz,(aty P e).sz)) ((aty P t).zero.map .ex) ps) else none
 | _=>none
def A25(t:TypeId)(parts:Array (Nat×Operand)):FOp:=fun P e=>bif ckZ (aty P t) then Avz P t (parts.toList.map fun x=>(x.1,e.ev x.2)) (aty P t).k else none
def Aw1(P:Program)(e:Ns)(len:Nat)(parts:Array (Nat×Operand)):TK→Option (AV×Eff)
 | .slice t=>bif ckZ (aty P t) && (Nat.ble (len*(aty P t).sz) 16777216 && (decide (parts.toList.map (·.1)=List.range len) && (parts.toList.all fun x=>((e.ev x.2).cells.map (·.length)) == some (aty P t).sz))) then
    some (.own e.id,.new ⟨t,parts.toList.filterMap (fun x=>(e.ev x.2).cells),true⟩) else none
 | _=>none
def Iv(t:TypeId)(len:Nat)(parts:Array (Nat×Operand)):FOp:=fun P e=>Aw1 P e len parts (aty P t).k
def Apv:Value→Bool
 | .string _=>true
 | _=>false
def Ad1:AV→Bool
 | .ex v=>Apv v
 | _=>false
def Avp(P:Program)(e:Ns)(s u:AV):TK→Option (AV×Eff)
 | .slice t=>bif Ad1 u then none else (Fc e.hp u).bind fun ns=>Auu P e.hp e.id t s ns
 | _=>none
def Amw(P:Program)(e:Ns)(t b lo:Nat):Option (AV×Eff):=(e.hp b).bind fun β=>bif β.mu && (Nat.beq β.ty t && ckZ (aty P t)) then some (.junk,.set b ⟨β.ty,β.es.take lo++List.replicate (β.es.length-lo) ((aty P t).zero.map .ex),true⟩) else none
def Awi(z:List AV)(sz b off n ty:Nat)(r:List AV):List (List AV)→Option (AV×Eff)
 | []=>bif Nat.ble 1 n && Nat.ble (off+n*sz) r.length then some (.junk,.set b ⟨ty,[r.take off++(List.replicate n z).flatten++r.drop (off+n*sz)],true⟩) else none
 | _ :: _=>none
def Amv (P : Program) (e : Ns) (t b off n : Nat) : Option (AV × Eff) := (e.hp b).bind fun β => bif β.mu && ckZ (aty P t) then (match β.es with
  | r :: rs=>Awi ((aty P t).zero.map .ex) (aty P t).sz b off n β.ty r rs
  | []=>none) else none
def Awj(P:Program)(e:Ns)(t:Nat):AV→Option (AV×Eff)
 | .vw b lo=>Amw P e t b lo
 | .asl b off n=>Amv P e t b off n
 | _=>none
def Awh(P:Program)(e:Ns)(u:AV):TK→Option (AV×Eff)
 | .slice t=>Awj P e t u
 | _=>none
def Awk(P:Program)(e:Ns)(t b:Nat)(y:AV):Option (AV×Eff):=(e.hp b).bind fun β=>(Fc e.hp y).bind fun ns=>bif β.mu && (Nat.beq β.ty t && (Nat.ble 1 (aty P t).sz && ((ns.all fun n=>Nat.beq n.length (aty P t).sz) && Nat.ble ns.length β.es.length))) then
      some (.ex (.int .i64 ns.length),.set b ⟨β.ty,ns++β.es.drop ns.length,true⟩) else none
def Awm(P:Program)(e:Ns)(t:Nat)(y:AV):AV→Option (AV×Eff)
 | .own b=>Awk P e t b y
 | _=>none
def Awl(P:Program)(e:Ns)(x y:AV):TK→Option (AV×Eff)
 | .slice t=>Awm P e t y x
 | _=>none
def Axd:Value→Option (IntKind×Int)
 | .int k n=>some (k,n)
 | _=>none
def Ajv:AV→Option (IntKind×Int)
 | .ex v=>Axd v
 | _=>none
def mnx(mx:Bool)(x y:AV):Option (AV×Eff):=(Ajv x).bind fun a=>(Ajv y).bind fun b=>bif mx then some (.ex (.int a.1 (if a.2<b.2 then b.2 else a.2)),.none) else some (.ex (.int a.1 (if b.2<a.2 then b.2 else a.2)),.none)
def one?{α:Type}:List α→Option α
 | [x]=>some x
 | _=>none
def two?{α:Type}:List α→Option (α×α)
 | [x,y]=>some (x,y)
 | _=>none
def Avw(asl:List Operand)(ts:List TypeId):FOp:=fun P e=>(one? asl).bind fun x=>(one? ts).bind fun t=>Gd (Auv P e.hp t (e.ev x))
def Avt(asl:List Operand)(ts:List TypeId):FOp:=fun P e=>(two? asl).bind fun x=>(two? ts).bind fun t=>bif Nat.beq t.2 t.1 then Avp P e (e.ev x.1) (e.ev x.2) (aty P t.1).k else none
def Avu(asl:List Operand)(ts:List TypeId):FOp:=fun P e=>(one? asl).bind fun x=>(one? ts).bind fun t=>Awh P e (e.ev x) (aty P t).k
def Avv(asl:List Operand)(ts:List TypeId):FOp:=fun P e=>(two? asl).bind fun x=>(two? ts).bind fun t=>Awl P e (e.ev x.1) (e.ev x.2) (aty P t.1).k
def Avy(asl:List Operand)(_:List TypeId):FOp:=fun _ e=>(two? asl).bind fun x=>mnx false (e.ev x.1) (e.ev x.2)
def Avx(asl:List Operand)(_:List TypeId):FOp:=fun _ e=>(two? asl).bind fun x=>mnx true (e.ev x.1) (e.ev x.2)
def bNo(_:List Operand)(_:List TypeId):FOp:=oNo
def Aw0(b:Builtin):List Operand→List TypeId→FOp:=match b with
 | .len=>Avw
 | .append=>Avt
 | .clear=>Avu
 | .copy=>Avv
 | .min=>Avy
 | .max=>Avx
 | _=>bNo
def Af6(c:Call):FOp:=match c.callee with
 | .builtin b=>Aw0 b c.args.toList c.argTypes.toList
 | _=>oNo
def B03(op:Op):FOp:=match op with
 | .move x=>Ay9 x
 | .assign x=>Alg x
 | .pick c a b=>Aya c a b
 | .alloc t=>Ar4 t
 | .box t x=>Ar5 t x
 | .load t x=>Af8 t x
 | .store t x v=>A28 t x v
 | .nilCheck x=>A84 x
 | .binOp op t x y _=>B0z op t x y
 | .unOp op _ x=>oUn op x
 | .convert src dst x=>Ay8 src dst x
 | .makeSlice t len cap=>K6 t len cap
 | .slice t x lo hi mx=>Ar6 t x lo hi mx
 | .fieldAddr s x f=>K4 s x f
 | .field s x f=>A26 s x f
 | .indexAddr t x i=>K5 t x i
 | .index t x i=>A27 t x i
 | .makeFunc fn first captured=>Mu fn first captured
 | .extract x i=>Af7 x i
 | .build t parts=>A25 t parts
 | .buildSlice t len parts=>Iv t len parts
 | .call c=>Af6 c
 | _=>oNo
def A02(P:Program)(pol:Bool)(id:Nat)(op:Op)(ty:TypeId)(ev:Operand→AV)(hp:Nat→Option A4):Option (AV×Eff):=B03 op P ⟨pol,id,ty,ev,hp⟩
section
variable{P:Program}{C:World→Prop}{k:AV→Eff→Prop}{u:AV}{f:Eff}{hp:Nat→Option A4}{id:Nat}
theorem Dm{o:Option AV}(h:Gd o=some (u,f)):o=some u∧f=.none:=by
 cases o with
 | none=>cases h
 | some x=>cases h;exact⟨rfl,rfl⟩
theorem A5{α β:Type}{o:Option α}{g:α→Option β}{x:β}(h:o.bind g=some x):∃ a,o=some a∧g a=some x:=Option.bind_eq_some_iff.1 h
theorem A0o{u:AV}{t:Bool}(h:O0 u=some t):u=.ex (.bool t):=by
 unfold O0 at h
 split at h
 ·unfold O1 at h
  split at h
  ·cases h;rfl
  ·cases h
 ·cases h
theorem A4n{i:Int}{n:Nat}(h:Alc i=some n):i=.ofNat n:=by
 unfold Alc at h
 split at h
 ·cases h;rfl
 ·cases h
theorem T2{u:AV}{n:Nat}(h:Va u=some n):u=.ex (.int .i64 (.ofNat n)):=by
 unfold Va at h
 split at h
 ·unfold Aet at h
  split at h
  ·split at h
   ·rw[A4n h]
   ·cases h
  ·cases h
 ·cases h
theorem A4m{u:AV}{n:Nat}(h:Alb u=some n):∃ k,u=.ex (.int k (.ofNat n)):=by
 unfold Alb at h
 split at h
 ·unfold Ay6 at h
  split at h
  ·rw[A4n h];exact⟨_,rfl⟩
  ·cases h
 ·cases h
theorem O5{u:AV}{k:IntKind×Int}(h:Ajv u=some k):u=.ex (.int k.1 k.2):=by
 unfold Ajv at h
 split at h
 ·unfold Axd at h
  split at h
  ·cases h;rfl
  ·cases h
 ·cases h
theorem Ve{α:Type}{l:List α}{x:α}(h:one? l=some x):l=[x]:=by
 unfold one? at h
 split at h
 ·cases h;rfl
 ·cases h
theorem Ke{α:Type}{l:List α}{x:α×α}(h:two? l=some x):l=[x.1,x.2]:=by
 unfold two? at h
 split at h
 ·cases h;rfl
 ·cases h
theorem Ad2{u:AV}(h:Ad1 u=false)(s:ByteArray):u≠.ex (.string s):=by
 rintro rfl
 cases h
theorem Fw{pol:Bool}{op:Op}{ty:TypeId}{ev:Operand→AV}(h:A02 P pol id op ty ev hp=some (u,f))(hk:k u f):A7 P C id op ty ev hp k:=by
 cases op with
 | move x=>cases h;exact hk
 | assign x =>
  change (bif Ck x then asg id (ev x) (aty P ty).k else some (ev x,Eff.none))=some (u,f) at h
  dsimp only[A7]
  cases hn:Ck x with
  | false =>
   rw[hn,cond_false] at h
   cases h
   exact hk
  | true =>
   rw[hn,cond_true] at h
   unfold asg at h
   split at h
   ·rename_i t ht
    cases h
    rw[ht]
    exact hk
   ·rename_i hno
    cases h
    split
    ·rename_i e h1 h2;exact absurd h2 (hno e)
    ·exact hk
 | pick c a b =>
  obtain⟨t,ht,h⟩:=A5 (show ((O0 (ev c)).bind fun t=>some (bif t then ev a else ev b,Eff.none))=some (u,f) from h)
  cases h
  refine⟨t,A0o ht, ?_⟩
  cases t<;>exact hk
 | alloc t =>
  obtain⟨h1,h⟩:=A6 (show (bif ckZ (aty P t) then some (AV.pt id 0 0,Eff.alc t ((aty P t).zero.map .ex)) else none)=some (u,f) from h)
  cases h
  exact⟨Mg h1,hk⟩
 | box t x =>
  change Ar5 t x P ⟨pol,id,ty,ev,hp⟩=some (u,f) at h
  unfold Ar5 at h
  obtain⟨cs,h1,h⟩:=A5 h
  obtain⟨h2,h⟩:=A6 h
  obtain⟨h2,h3⟩:=Ad h2
  cases h
  exact⟨cs,h1,⟨Bd h2,Ai h3⟩,hk⟩
 | load t x =>
  change Af8 t x P ⟨pol,id,ty,ev,hp⟩=some (u,f) at h
  unfold Af8 at h
  dsimp only[A7]
  (try dsimp only at h)
  split at h
  ·rename_i cs off hx
   obtain⟨h1,rfl⟩:=Dm h
   rw[hx]
   exact Fi h1 hk
  ·rename_i b j off hx
   unfold Axz at h
   obtain⟨β,h1,h⟩:=A5 h
   obtain⟨e,h2,h⟩:=A5 h
   obtain⟨h3,rfl⟩:=Dm h
   rw[hx]
   exact⟨β,e,h1,h2,Fi h3 hk⟩
  ·cases h
 | store t x v =>
  change A28 t x v P ⟨pol,id,ty,ev,hp⟩=some (u,f) at h
  unfold A28 at h
  dsimp only[A7]
  (try dsimp only at h)
  split at h
  ·rename_i b j off hx
   unfold Ayo at h
   obtain⟨β,h1,h⟩:=A5 h
   obtain⟨h2,h⟩:=A6 h
   obtain⟨cs,h4,h⟩:=A5 h
   unfold Ano at h
   obtain⟨e,h3,h⟩:=A5 h
   obtain⟨h5,h⟩:=A6 h
   obtain⟨h5,h6⟩:=Ad h5
   obtain⟨h6,h7⟩:=Ad h6
   cases h
   rw[hx]
   exact⟨β,e,cs,h1,h2,h3,h4,⟨Bd h5,Ai h6,Ai h7⟩,hk⟩
  ·cases h
 | nilCheck x =>
  change Aew (ev x)=some (u,f) at h
  unfold Aew at h
  dsimp only[A7]
  split at h
  ·rename_i cs off hx;cases h;rw[hx];exact hk
  ·rename_i b j off hx;cases h;rw[hx];exact hk
  ·cases h
 | binOp op t x y yt =>
  obtain⟨h1,rfl⟩:=Dm (show Gd (Amg P op t (ev x) (ev y))=some (u,f) from h)
  exact A34 h1 hk
 | unOp op t x =>
  obtain⟨h1,rfl⟩:=Dm (show Gd (xun op (ev x))=some (u,f) from h)
  exact A9j h1 hk
 | convert src dst x =>
  obtain⟨h1,rfl⟩:=Dm (show Gd (A5b P hp src dst (ev x))=some (u,f) from h)
  exact Zy h1 hk
 | makeSlice t len cap =>
  change K6 t len cap P ⟨pol,id,ty,ev,hp⟩=some (u,f) at h
  unfold K6 at h
  dsimp only[A7]
  obtain⟨n,h1,h⟩:=A5 h
  obtain⟨c,h2,h⟩:=A5 h
  have h1:=T2 h1
  have h2:=T2 h2
  unfold Ay1 at h
  split at h
  ·rename_i e h3
   obtain⟨h4,h⟩:=A6 h
   obtain⟨h4,h5⟩:=Ad h4
   obtain⟨z1,z2,z3⟩:=Mg h4
   refine⟨Int.ofNat n,Int.ofNat c,h1,h2, ?_⟩
   (try dsimp only at h3)
   rw[h3]
   refine⟨⟨z1,z2,Ai h5,z3⟩, ?_⟩
   cases hb:Nat.beq n 0 with
   | true =>
    rw[hb,cond_true] at h
    obtain⟨h6,h⟩:=A6 h
    cases h
    have:=Bd hb
    subst this
    refine (if_pos (show Int.ofNat 0=0 from rfl)).mpr ?_
    exact⟨⟨rfl,Int.natCast_nonneg _,Ai h6⟩,hk⟩
   | false =>
    rw[hb,cond_false] at h
    obtain⟨h6,h⟩:=A6 h
    obtain⟨h6,h7⟩:=Ad h6
    cases h
    have hn:¬ (Int.ofNat n)=0:=by
     intro h0
     have:n=0:=Int.ofNat.inj h0
     subst this
     cases hb
    rw[if_neg hn]
    have:=Bd h6
    subst this
    exact⟨⟨Int.natCast_nonneg _,rfl,Ai h7⟩,hk⟩
  ·cases h
 | slice t x lo hi mx=>exact W6 h hk
 | fieldAddr s x fd =>
  change K4 s x fd P ⟨pol,id,ty,ev,hp⟩=some (u,f) at h
  unfold K4 at h
  dsimp only[A7]
  obtain⟨⟨o,ft⟩,h1,h⟩:=A5 h
  obtain⟨h2,h⟩:=Et h
  refine⟨o,ft,h1,fun h0=>?_, ?_⟩
  ·(try dsimp only at h2)
   rw[h0] at h2
   cases h2
  ·unfold Amy at h
   split at h
   ·rename_i cs off hx;cases h;(try dsimp only at hx);rw[hx];exact hk
   ·rename_i b j off hx;cases h;(try dsimp only at hx);rw[hx];exact hk
   ·cases h
 | field s x fd =>
  change A26 s x fd P ⟨pol,id,ty,ev,hp⟩=some (u,f) at h
  unfold A26 at h
  dsimp only[A7]
  obtain⟨⟨o,ft⟩,h1,h⟩:=A5 h
  refine⟨o,ft,h1, ?_⟩
  unfold Awv at h
  split at h
  ·rename_i cs hx
   obtain⟨h2,rfl⟩:=Dm h
   (try dsimp only at hx)
   rw[hx]
   exact Fi h2 hk
  ·cases h
 | indexAddr t x i =>
  change K5 t x i P ⟨pol,id,ty,ev,hp⟩=some (u,f) at h
  unfold K5 at h
  dsimp only[A7]
  obtain⟨n,hi,h⟩:=A5 h
  obtain⟨kd,hi⟩:=A4m hi
  obtain⟨h1,rfl⟩:=Dm h
  exact⟨kd,Int.ofNat n,hi,Int.natCast_nonneg _,A9h h1 hk⟩
 | index t x i =>
  change A27 t x i P ⟨pol,id,ty,ev,hp⟩=some (u,f) at h
  unfold A27 at h
  dsimp only[A7]
  obtain⟨n,hi,h⟩:=A5 h
  obtain⟨kd,hi⟩:=A4m hi
  refine⟨kd,Int.ofNat n,hi,Int.natCast_nonneg _, ?_⟩
  unfold ixK at h
  split at h
  ·rename_i h1
   (try dsimp only at h1)
   rw[h1]
   unfold Ad6 at h
   split at h
   ·rename_i v h2
    unfold An4 at h
    split at h
    ·rename_i s
     (try dsimp only at h2)
     rw[h2]
     obtain⟨c,hc,h⟩:=A5 h
     cases h
     obtain⟨hl,hc⟩:=List.getElem?_eq_some_iff.1 hc
     refine⟨by simpa using hl, ?_⟩
     subst hc
     exact hk
    ·cases h
   ·cases h
  ·rename_i len e h1
   (try dsimp only at h1)
   rw[h1]
   unfold An3 at h
   split at h
   ·rename_i cs h2
    (try dsimp only at h2)
    rw[h2]
    obtain⟨h3,h⟩:=A6 h
    obtain⟨h3,h4⟩:=Ad h3
    obtain⟨h5,rfl⟩:=Dm h
    exact⟨Ai h3,Gm h4,Fi h5 hk⟩
   ·cases h
  ·cases h
 | makeFunc fn first captured =>
  change Mu fn first captured P ⟨pol,id,ty,ev,hp⟩=some (u,f) at h
  unfold Mu at h
  obtain⟨g,h1,h⟩:=A5 h
  unfold Ajs at h1
  split at h1
  ·cases h1
   obtain⟨hf,h⟩:=A6 h
   cases h
   exact⟨by apply Array.ext';simpa using hf,hk⟩
  ·cases h1
 | extract x i =>
  change ext i (ev x)=some (u,f) at h
  unfold ext at h
  dsimp only[A7]
  split at h
  ·rename_i vs hx
   obtain⟨h1,rfl⟩:=Dm h
   rw[hx]
   exact⟨u,h1,hk⟩
  ·cases h
 | build t parts =>
  change A25 t parts P ⟨pol,id,ty,ev,hp⟩=some (u,f) at h
  unfold A25 at h
  dsimp only[A7]
  obtain⟨h1,h⟩:=A6 h
  refine⟨Mg h1, ?_⟩
  unfold Avz at h
  split at h
  ·rename_i hd
   obtain⟨h2,h⟩:=A6 h
   unfold Ahs at h
   split at h
   ·rename_i cs h3
    cases h
    (try dsimp only at hd)
    rw[hd]
    refine⟨?_,cs,h3,hk⟩
    rw[List.all_eq_true] at h2 ⊢
    exact fun x hx=>decide_eq_true (Ai (h2 x hx))
   ·cases h
  ·rename_i n e hd
   obtain⟨h2,h⟩:=A6 h
   unfold Ahs at h
   split at h
   ·rename_i cs h3
    cases h
    (try dsimp only at hd)
    rw[hd]
    exact⟨Ai h2,cs,h3,hk⟩
   ·cases h
  ·cases h
 | buildSlice t len parts =>
  change Iv t len parts P ⟨pol,id,ty,ev,hp⟩=some (u,f) at h
  unfold Iv Aw1 at h
  dsimp only[A7]
  split at h
  ·rename_i e hd
   obtain⟨h1,h⟩:=A6 h
   obtain⟨h1,h2⟩:=Ad h1
   obtain⟨h2,h3⟩:=Ad h2
   obtain⟨h3,h4⟩:=Ad h3
   obtain⟨z1,z2,z3⟩:=Mg h1
   cases h
   (try dsimp only at hd)
   rw[hd]
   exact⟨⟨z1,z2,Ai h2,z3⟩,⟨by simpa using h3,h4⟩,.inl hk⟩
  ·cases h
 | call c =>
  change Af6 c P ⟨pol,id,ty,ev,hp⟩=some (u,f) at h
  unfold Af6 at h
  dsimp only[A7]
  cases hb:c.callee with
  | value f=>rw[hb] at h;cases h
  | invoke r m=>rw[hb] at h;cases h
  | builtin b =>
   rw[hb] at h
   cases b<;>try (cases h;done)
   all_goals dsimp only[Aw0] at h
   case append =>
    unfold Avt at h
    obtain⟨x,hx,h⟩:=A5 h
    obtain⟨t,ht,h⟩:=A5 h
    rw[Ke hx,Ke ht]
    dsimp only
    obtain⟨h1,h⟩:=A6 h
    unfold Avp at h
    split at h
    ·rename_i e hd
     (try dsimp only at hd)
     rw[hd]
     dsimp only
     obtain⟨h2,h⟩:=Et h
     obtain⟨ns,h3,h⟩:=A5 h
     split
     ·rename_i s' hs';exact absurd hs' (Ad2 h2 s')
     ·exact⟨Bd h1,ns,h3,A33 h hk⟩
    ·cases h
   case len =>
    unfold Avw at h
    obtain⟨x,hx,h⟩:=A5 h
    obtain⟨t,ht,h⟩:=A5 h
    rw[Ve hx,Ve ht]
    obtain⟨h1,rfl⟩:=Dm h
    exact A37 h1 hk
   case clear =>
    unfold Avu at h
    obtain⟨x,hx,h⟩:=A5 h
    obtain⟨t,ht,h⟩:=A5 h
    rw[Ve hx,Ve ht]
    dsimp only
    unfold Awh at h
    split at h
    ·rename_i e hd
     (try dsimp only at hd)
     rw[hd]
     unfold Awj at h
     split at h
     ·rename_i b lo hu
      (try dsimp only at hu)
      rw[hu]
      unfold Amw at h
      obtain⟨β,h1,h⟩:=A5 h
      obtain⟨h2,h⟩:=A6 h
      obtain⟨h2,h3⟩:=Ad h2
      obtain⟨h3,h4⟩:=Ad h3
      cases h
      exact⟨β,h1,⟨h2,Bd h3⟩,Mg h4,hk⟩
     ·rename_i b off n hu
      (try dsimp only at hu)
      rw[hu]
      unfold Amv at h
      obtain⟨β,h1,h⟩:=A5 h
      obtain⟨h2,h⟩:=A6 h
      obtain⟨h2,h3⟩:=Ad h2
      split at h
      ·rename_i r rs hr
       unfold Awi at h
       split at h
       ·obtain⟨h4,h⟩:=A6 h
        obtain⟨h4,h5⟩:=Ad h4
        cases h
        exact⟨β,r,h1,⟨h2,hr,Ai h4,Ai h5⟩,Mg h3,hk⟩
       ·cases h
      ·cases h
     ·cases h
    ·cases h
   case copy =>
    unfold Avv at h
    obtain⟨x,hx,h⟩:=A5 h
    obtain⟨t,ht,h⟩:=A5 h
    rw[Ke hx,Ke ht]
    dsimp only
    unfold Awl at h
    split at h
    ·rename_i e hd
     (try dsimp only at hd)
     rw[hd]
     unfold Awm at h
     split at h
     ·rename_i b hu
      (try dsimp only at hu)
      rw[hu]
      unfold Awk at h
      obtain⟨β,h1,h⟩:=A5 h
      obtain⟨ns,h2,h⟩:=A5 h
      obtain⟨h3,h⟩:=A6 h
      obtain⟨h3,h4⟩:=Ad h3
      obtain⟨h4,h5⟩:=Ad h4
      obtain⟨h5,h6⟩:=Ad h5
      obtain⟨h6,h7⟩:=Ad h6
      cases h
      exact⟨β,ns,h1,⟨h3,Bd h4,Ai h5⟩,h2,U0 h6,Ai h7,hk⟩
     ·cases h
    ·cases h
   case min =>
    unfold Avy at h
    obtain⟨x,hx,h⟩:=A5 h
    rw[Ke hx]
    unfold mnx at h
    obtain⟨a,ha,h⟩:=A5 h
    obtain⟨b,hb,h⟩:=A5 h
    rw[cond_false] at h
    cases h
    exact⟨_,_,_,_,O5 ha,O5 hb,hk⟩
   case max =>
    unfold Avx at h
    obtain⟨x,hx,h⟩:=A5 h
    rw[Ke hx]
    unfold mnx at h
    obtain⟨a,ha,h⟩:=A5 h
    obtain⟨b,hb,h⟩:=A5 h
    rw[cond_true] at h
    cases h
    exact⟨_,_,_,_,O5 ha,O5 hb,hk⟩
 | _=>cases h
end
end Go.Proofs.YtbhffbgbhgjdiaaGreatDoor
namespace Go.Proofs.YtbhffbgbhgjdiaaGreatDoor
open Go.RowKit
set_option maxRecDepth 100000
inductive Tr (α:Type) where
 | nil
 | node (l:Tr α) (v:Option α) (r:Tr α)
noncomputable def Tr.get{α:Type}(t:Tr α):Nat→Option α :=
 Tr.rec (fun _=>none) (fun _ v _ ihl ihr n=>bif Nat.beq n 0 then v else bif Nat.beq (Nat.mod n 2) 1 then ihl (Nat.div n 2) else ihr (Nat.sub (Nat.div n 2) 1)) t
noncomputable def Ans{α:Type}(ih:Tr α→Nat→Tr α)(x:Option α)(l:Tr α)(v:Option α)(r:Tr α)(n:Nat):Tr α :=
 bif Nat.beq n 0 then .node l x r else bif Nat.beq (Nat.mod n 2) 1 then .node (ih l (Nat.div n 2)) v r else .node l v (ih r (Nat.sub (Nat.div n 2) 1))
noncomputable def B13{α:Type}(ih:Tr α→Nat→Tr α)(x:Option α)(t:Tr α)(n:Nat):Tr α:=match t with
 | .nil=>Ans ih x .nil none .nil n
 | .node l v r=>Ans ih x l v r n
noncomputable def Tr.set{α:Type}(x:Option α)(f:Nat):Tr α→Nat→Tr α:=Nat.rec (fun t _=>t) (fun _ ih t n=>B13 ih x t n) f
theorem K1{a b:Nat}(h:a=b):Nat.beq a b=true:=by subst h;exact Nat.beq_refl a
theorem Ms{a b:Nat}(h:a≠b):Nat.beq a b=false:=by
 cases hb:Nat.beq a b with
 | false=>rfl
 | true=>exact absurd (Bd hb) h
section
variable{α:Type}
theorem Tr.get_nil(n:Nat):Tr.get (α:=α) .nil n=none:=rfl
theorem Tr.get_node(l:Tr α)(v:Option α)(r:Tr α)(n:Nat):Tr.get (.node l v r) n=bif Nat.beq n 0 then v else bif Nat.beq (n % 2) 1 then l.get (n / 2) else r.get (n / 2-1):=rfl
theorem Tr.get_zero(l:Tr α)(v:Option α)(r:Tr α):Tr.get (.node l v r) 0=v:=rfl
theorem Tr.get_odd(l:Tr α)(v:Option α)(r:Tr α){n:Nat}(h:n % 2=1):Tr.get (.node l v r) n=l.get (n / 2):=by
 rw[Tr.get_node,Ms (by omega:n≠0),K1 h];rfl
theorem Tr.get_even(l:Tr α)(v:Option α)(r:Tr α){n:Nat}(h:n≠0)(h2:n % 2≠1):Tr.get (.node l v r) n=r.get (n / 2-1):=by
 rw[Tr.get_node,Ms h,Ms h2];rfl
noncomputable def Tr.nd:Tr α→Tr α×Option α×Tr α
 | .nil=>(.nil,none,.nil)
 | .node l v r=>(l,v,r)
theorem Tr.get_nd(t:Tr α)(n:Nat):t.get n=(Tr.node t.nd.1 t.nd.2.1 t.nd.2.2).get n:=by
 cases t with
 | nil =>
  rw[Tr.get_nil]
  by_cases h:n=0
  ·subst h;rw[Tr.get_zero];rfl
  ·by_cases h2:n % 2=1
   ·rw[Tr.get_odd _ _ _ h2];exact (Tr.get_nil _).symm
   ·rw[Tr.get_even _ _ _ h h2];exact (Tr.get_nil _).symm
 | node l v r=>rfl
theorem Tr.set_nd(x:Option α)(f:Nat)(t:Tr α)(n:Nat):Tr.set x (f+1) t n=bif Nat.beq n 0 then .node t.nd.1 x t.nd.2.2 else bif Nat.beq (n % 2) 1 then .node (Tr.set x f t.nd.1 (n / 2)) t.nd.2.1 t.nd.2.2 else .node t.nd.1 t.nd.2.1 (Tr.set x f t.nd.2.2 (n / 2-1)):=by
 cases t<;>rfl
theorem Tr.get_set(x:Option α):∀ (f:Nat) (t:Tr α) (n m:Nat),n<f→(Tr.set x f t n).get m=if m=n then x else t.get m
 | 0,t,n,m,h=>by omega
 | f+1,t,n,m,h=>by
  rw[Tr.set_nd]
  rw[Tr.get_nd t m]
  by_cases h0:n=0
  ·subst h0
   rw[K1 rfl,cond_true]
   by_cases hm:m=0
   ·subst hm;rw[Tr.get_zero,if_pos rfl]
   ·rw[if_neg hm]
    by_cases h2:m % 2=1
    ·rw[Tr.get_odd _ _ _ h2,Tr.get_odd _ _ _ h2]
    ·rw[Tr.get_even _ _ _ hm h2,Tr.get_even _ _ _ hm h2]
  ·rw[Ms h0,cond_false]
   by_cases h1:n % 2=1
   ·rw[K1 h1,cond_true]
    by_cases hm:m=0
    ·subst hm;rw[Tr.get_zero,Tr.get_zero,if_neg (by omega)]
    ·by_cases h2:m % 2=1
     ·rw[Tr.get_odd _ _ _ h2,Tr.get_odd _ _ _ h2,Tr.get_set x f _ _ _ (by omega)]
      by_cases e:m=n
      ·subst e;rw[if_pos rfl,if_pos rfl]
      ·rw[if_neg (by omega),if_neg e]
     ·rw[Tr.get_even _ _ _ hm h2,Tr.get_even _ _ _ hm h2,if_neg (by omega)]
   ·rw[Ms h1,cond_false]
    by_cases hm:m=0
    ·subst hm;rw[Tr.get_zero,Tr.get_zero,if_neg (by omega)]
    ·by_cases h2:m % 2=1
     ·rw[Tr.get_odd _ _ _ h2,Tr.get_odd _ _ _ h2,if_neg (by omega)]
     ·rw[Tr.get_even _ _ _ hm h2,Tr.get_even _ _ _ hm h2,Tr.get_set x f _ _ _ (by omega)]
      by_cases e:m=n
      ·subst e;rw[if_pos rfl,if_pos rfl]
      ·rw[if_neg (by omega),if_neg e]
noncomputable def Tr.put(t:Tr α)(n:Nat)(x:Option α):Tr α:=Tr.set x (n+1) t n
theorem Tr.get_put(t:Tr α)(n:Nat)(x:Option α):(t.put n x).get=upd t.get n x:=by
 funext m
 unfold Tr.put
 rw[Tr.get_set x _ _ _ _ (Nat.lt_succ_self n),N5]
end
noncomputable def orJ:Option AV→AV
 | some u=>u
 | none=>.junk
noncomputable def Cj(t:Tr AV)(n:Nat):AV:=orJ (t.get n)
noncomputable def Ri(u:AV)(n:Nat)(t:Tr AV):Tr AV:=t.put n (some u)
theorem Jd(u:AV)(n:Nat)(l:Tr AV)(m:Nat):Cj (Ri u n l) m=if m=n then u else Cj l m:=by
 unfold Cj Ri
 rw[Tr.get_put,N5]
 by_cases h:m=n
 ·rw[if_pos h,if_pos h];rfl
 ·rw[if_neg h,if_neg h]
noncomputable def A2w(us:List AV):Nat→Tr AV→Tr AV:=List.rec (fun _ t=>t) (fun u _ ih i t=>ih (Nat.succ i) (Ri u i t)) us
theorem Zn:∀ (us:List AV) (i:Nat) (t:Tr AV) (m:Nat),Cj (A2w us i t) m=if i≤m∧m<i+us.length then us.getD (m-i) .junk else Cj t m
 | [],i,t,m=>by
  rw[if_neg (by simp only[List.length_nil];omega)];rfl
 | u :: us,i,t,m=>by
  show Cj (A2w us (i+1) (Ri u i t)) m=_
  rw[Zn us (i+1) (Ri u i t) m,Jd]
  simp only[List.length_cons]
  by_cases h1:m=i
  ·subst h1
   rw[if_neg (by omega),if_pos rfl,if_pos (by omega),Nat.sub_self]
   rfl
  ·by_cases h2:i+1≤m∧m<i+1+us.length
   ·rw[if_pos h2,if_pos (by omega)]
    obtain⟨d,hd⟩:∃ d,m-i=d+1:=⟨m-i-1,by omega⟩
    rw[hd,show m-(i+1)=d by omega]
    rfl
   ·rw[if_neg h2,if_neg h1,if_neg (by omega)]
theorem Aek(us:List AV)(t:Nat):Cj (A2w us 0 .nil) t=us.getD t .junk:=by
 rw[Zn]
 by_cases h:t<us.length
 ·rw[if_pos (by omega)];rfl
 ·rw[if_neg (by omega),List.getD_eq_getElem?_getD,List.getElem?_eq_none (by omega)];rfl
structure XS where
 tm:Tr AV
 hp:Tr A4
 nx:Nat
noncomputable def XS.as(s:XS):AS:=⟨Cj s.tm,s.hp.get,s.nx⟩
noncomputable def XS.put(s:XS)(d:Option Tmp)(u:AV):XS:=match d with|some d=>⟨Ri u d s.tm,s.hp,s.nx⟩|none=>s
theorem Qk(s:XS)(d:Option Tmp)(u:AV):(s.put d u).as=s.as.put d u:=by
 cases d with
 | none=>rfl
 | some d =>
  show (⟨Cj (Ri u d s.tm),s.hp.get,s.nx⟩:AS)=⟨upd (Cj s.tm) d u,s.hp.get,s.nx⟩
  congr 1
  funext m
  rw[Jd,N5]
noncomputable def Acm:List Nat→Tr A4→Tr A4
 | [],t=>t
 | b :: bs,t=>Acm bs (match t.get b with|some β=>t.put b (some { β with mu:=false })|none=>t)
theorem A45:∀ (bs:List Nat) (t:Tr A4),(Acm bs t).get=(Eff.frz bs).app 0 t.get
 | [],t=>by funext i;simp [Acm,Eff.app]
 | b :: bs,t=>by
  have key:∀ j,(match t.get b with|some β=>t.put b (some { β with mu:=false })|none=>t).get j=if j=b then (t.get j).map (fun β=>{ β with mu:=false }) else t.get j:=by
   intro j
   cases hb:t.get b with
   | none =>
    dsimp only
    by_cases h:j=b
    ·subst h;rw[if_pos rfl,hb];rfl
    ·rw[if_neg h]
   | some β =>
    dsimp only
    rw[Tr.get_put,N5]
    by_cases h:j=b
    ·subst h;rw[if_pos rfl,if_pos rfl,hb];rfl
    ·rw[if_neg h,if_neg h]
  rw[Acm,A45 bs]
  funext i
  simp only[Eff.app,List.mem_cons,key]
  by_cases h1:i=b
  ·subst h1
   by_cases h2:i∈bs
   ·simp only[h2,true_or,or_true,if_true]
    cases t.get i<;>rfl
   ·simp [h2]
  ·simp [h1]
noncomputable def A36(id:Nat)(f:Eff)(hp:Tr A4):Tr A4:=match f with
 | .none=>hp
 | .new β=>hp.put id (some β)
 | .set b β=>hp.put b (some β)
 | .grow b β=>(hp.put b none).put id (some β)
 | .frz bs=>Acm bs hp
 | .alc t z=>hp.put id (some ⟨t,[z],true⟩)
theorem R5(id:Nat)(f:Eff)(hp:Tr A4):(A36 id f hp).get=f.app id hp.get:=by
 cases f<;>simp only[A36,Eff.app,Tr.get_put]
 exact A45 _ _
noncomputable def Aal:AV→AV→Bool
 | .ex (.int k a),.ex (.int k' b)=>decide (k=k') && decide (a=b)
 | .ex (.bool a),.ex (.bool b)=>a == b
 | .ex (.string a),.ex (.string b)=>decide (a=b)
 | .own a,.own b=>Nat.beq a b
 | .pt a b c,.pt a' b' c'=>Nat.beq a a' && (Nat.beq b b' && Nat.beq c c')
 | .junk,.junk=>true
 | .ex (.slice none 0 0),.ex (.slice none 0 0)=>true
 | .ex (.pointer none),.ex (.pointer none)=>true
 | .ex .nilIface,.ex .nilIface=>true
 | .ex .nilFunc,.ex .nilFunc=>true
 | _,_=>false
theorem U4{u v:AV}(h:Aal u v=true):u=v:=by
 unfold Aal at h
 split at h
 ·simp only[Bool.and_eq_true,decide_eq_true_eq] at h;rw[h.1,h.2]
 ·rw[eq_of_beq h]
 ·rw[of_decide_eq_true h]
 ·rw[Bd h]
 ·obtain⟨h1,h2⟩:=Ad h
  obtain⟨h2,h3⟩:=Ad h2
  rw[Bd h1,Bd h2,Bd h3]
 ·rfl
 ·rfl
 ·rfl
 ·rfl
 ·rfl
 ·cases h
noncomputable def isJ:AV→Bool
 | .junk=>true
 | _=>false
noncomputable def wkB:List AV→List AV→Bool
 | [],[]=>true
 | u :: us,v :: vs=>(isJ u || Aal u v) && wkB us vs
 | _,_=>false
noncomputable def Aus:List (List AV)→List (List AV)→Bool
 | [],[]=>true
 | e :: es,x :: xs=>wkB e x && Aus es xs
 | _,_=>false
theorem Ah4:∀ {us vs:List AV},wkB us vs=true→wkL us vs
 | [],[],_=>trivial
 | u :: us,v :: vs,h=>by
  obtain⟨h1,h2⟩:=Ad h
  refine⟨?_,Ah4 h2⟩
  rcases Bool.or_eq_true _ _▸h1 with h3|h3
  ·cases u<;>first|exact .inl rfl|cases h3
  ·exact .inr (U4 h3)
 | [],_ :: _,h=>by cases h
 | _ :: _,[],h=>by cases h
theorem A59:∀ {us vs:List (List AV)},Aus us vs=true→Zs us vs
 | [],[],_=>trivial
 | u :: us,v :: vs,h=>by
  obtain⟨h1,h2⟩:=Ad h
  exact⟨Ah4 h1,A59 h2⟩
 | [],_ :: _,h=>by cases h
 | _ :: _,[],h=>by cases h
noncomputable def Ap0(last:Bool)(hp:Tr A4):Eff→Bool
 | .set b γ=>last && match hp.get b with
  | some β=>Nat.beq β.ty γ.ty && ((β.mu == γ.mu) && Aus β.es γ.es)
  | none=>false
 | f=>f.quiet
theorem Aj9{last:Bool}{hp:Tr A4}{f:Eff}(h:Ap0 last hp f=true):dok last hp.get f:=by
 cases f with
 | set b γ =>
  obtain⟨h1,h2⟩:=Ad h
  refine⟨h1, ?_⟩
  cases hb:hp.get b with
  | none=>rw[hb] at h2;cases h2
  | some β =>
   rw[hb] at h2
   obtain⟨h3,h4⟩:=Ad h2
   obtain⟨h4,h5⟩:=Ad h4
   exact⟨β,rfl,Bd h3,eq_of_beq h4,A59 h5⟩
 | _=>exact h
end Go.Proofs.YtbhffbgbhgjdiaaGreatDoor
namespace Go.Proofs.YtbhffbgbhgjdiaaGreatDoor
open Go.RowKit
set_option maxRecDepth 100000
abbrev Glb:=Nat→Option (List Value)
def I6(C:World→Prop)(G:Glb):Prop:=∀ w,C w→∀ g cs,G g=some cs→At w g 0 cs∧∀ u∈cs,u.oneCell'=true
def Q0:AV→Bool
 | .ex (.slice none 0 0)=>true
 | _=>false
def Yp(P:Program)(hp:Nat→Option A4):AV→Option Bool
 | .ex (.slice none 0 0)=>some true
 | .sl (_ :: _)=>some false
 | .own b=>match hp b with
  | some β=>match β.es with
   | _ :: _=>bif Nat.ble 1 (aty P β.ty).sz then some false else none
   | []=>none
  | none=>none
 | _=>none
def Rp(P:Program)(G:Glb)(op:Op)(ty:TypeId)(ev:Operand→AV)(hp:Nat→Option A4):Option AV :=
 match op with
 | .assign x=>match Ck x,(aty P ty).k with
  | true,.slice _=>some (.ex (.slice none 0 0))
  | _,_=>none
 | .binOp op t x y _=>match op with
  | .eql=>match (aty P t).k with
   | .slice _=>bif Q0 (ev y) then (Yp P hp (ev x)).map fun b=>.ex (.bool b) else none
   | _=>none
  | .neq=>match (aty P t).k with
   | .slice _=>bif Q0 (ev y) then (Yp P hp (ev x)).map fun b=>.ex (.bool (!b)) else none
   | _=>none
  | _=>none
 | .load t x=>match ev x with
  | .ex (.pointer (some ⟨g,off,none⟩))=>match G g with
   | some cs=>xld P t (cs.map .ex) off
   | none=>none
  | _=>none
 | .indexAddr t x i=>match ev x,ev i,(aty P t).k with
  | .ex (.pointer (some ⟨g,off,none⟩)),.ex (.int _ (.ofNat n)),.arr len e=>bif Nat.ble 1 (aty P e).sz && Nat.blt n len then some (.ex (.pointer (some ⟨g,off+n*(aty P e).sz,none⟩))) else none
  | _,_,_=>none
 | .fieldAddr s x f=>match ev x with
  | .ex (.pointer (some ⟨g,off,none⟩))=>match (aty P s).flds[f]? with
   | some o=>bif Nat.beq (aty P o.2).sz 0 then none else some (.ex (.pointer (some ⟨g,off+o.1,none⟩)))
   | none=>none
  | _=>none
 | _=>none
section
variable{P:Program}{C:World→Prop}{M0:Nat→Prop}{N:Nat}{w0:Root}{F:Nat→Prop}{φ:Phi}{σ:AS}{a:Act}{w:World}
theorem A42{φ:Phi}{M:Nat→Prop}:∀ {rs:List Value},(∀ r∈rs,r.oneCell'=true)→RepL φ M w (rs.map .ex) rs
 | [],_=>RepL.nil
 | r :: rs,h=>RepL.cons (Aq r (h r (by simp))) (A42 fun x hx=>h x (by simp [hx]))
theorem A7e{u:AV}(h:Q0 u=true):u=.ex (.slice none 0 0):=by
 unfold Q0 at h
 split at h
 ·rfl
 ·cases h
theorem A80(st:St P M0 N w0 F φ σ a w){u:AV}{v:Value}{b:Bool}(hu:Rep φ (Mo φ σ.hp M0) w u v)(h:Yp P σ.hp u=some b):∃ A n c,v=.slice A n c∧A.isNone=b:=by
 unfold Yp at h
 split at h
 ·cases h
  exact⟨none,0,0,Au hu rfl,rfl⟩
 ·cases h
  simp only[Rep] at hu
  obtain⟨A,c,e1,h1,h2,h3,h4⟩:=hu
  obtain⟨g,o',sz,vs,rfl,_⟩:=h4 (by simp)
  exact⟨_,_,_,e1,rfl⟩
 ·rename_i i
  split at h
  ·rename_i β hβ
   split at h
   ·rename_i e es hes
    obtain⟨hp,h⟩:=A6 h
    have hp:=Ai hp
    cases h
    simp only[Rep] at hu
    obtain⟨sz,hφ⟩:=hu
    obtain⟨hsz,xs,h5,h6⟩:=st.hpr i β _ sz hβ hφ
    have hxs:xs≠[]:=by
     intro e'
     have:=h6.len
     rw[e',hsz,hes] at this
     have h7:0<(e :: es).length*(aty P β.ty).sz:=Nat.mul_pos (by simp) hp
     rw[← this] at h7
     exact absurd h7 (by simp)
    obtain⟨g,c,r1,_⟩:=Gp h5 hxs
    exact⟨_,_,_,r1,rfl⟩
   ·cases h
  ·cases h
 ·cases h
theorem R8{G:Glb}(hG:I6 C G){o:Oper}{u:AV}(h:Rp P G o.op o.type σ.ev σ.hp=some u)(st:St P M0 N w0 F φ σ a w)(hC:C w):∃ v,Rep φ (Mo φ σ.hp M0) w u v∧(execOp a.eval o).run P w=.ok (.value v) w:=by
 obtain⟨dst,op,type,pos,after,guard⟩:=o
 dsimp only at h
 have ho:=(rfl:(Oper.mk dst op type pos after guard).op=op)
 unfold Rp at h
 split at h
 ·rename_i x
  split at h
  ·rename_i e hn hk
   cases h
   have hv:a.eval x=.slice none 0 0:=by
    unfold Ck at hn
    split at hn
    ·rfl
    ·cases hn
   exact⟨_,Aq _ rfl,by simp [execOp,hv]⟩
  ·cases h
 ·rename_i bop t x y ty
  have key:∀ {b:Bool},Q0 (σ.ev y)=true→Yp P σ.hp (σ.ev x)=some b→(∀ q,(eqGuard bop t x y (a.eval x) (a.eval y)).run P w=.ok q w)∧a.eval y=.slice none 0 0∧∃ A n c,a.eval x=.slice A n c∧A.isNone=b:=by
   intro b h1 h2
   have e2:=Au (st.evr y) (A7e h1)
   obtain⟨A,n,c,e1,rfl⟩:=A80 st (st.evr x) h2
   rw[e1,e2]
   refine⟨?_,rfl,A,n,c,rfl,rfl⟩
   rintro⟨⟩
   unfold eqGuard
   split<;>rfl
  split at h
  ·split at h
   ·rename_i e hk
    obtain⟨h1,h⟩:=A6 h
    obtain⟨b,h3,h4⟩:=Option.map_eq_some_iff.1 h
    cases h4
    obtain⟨q1,e2,A,n,c,e1,rfl⟩:=key h1 h3
    refine⟨_,Aq _ rfl, ?_⟩
    have q1:=q1 ()
    rw[e1,e2] at q1
    simp [execOp,e1,e2,q1,binOp,Gr t _ _ _ (Ah hk)]
   ·cases h
  ·split at h
   ·rename_i e hk
    obtain⟨h1,h⟩:=A6 h
    obtain⟨b,h3,h4⟩:=Option.map_eq_some_iff.1 h
    cases h4
    obtain⟨q1,e2,A,n,c,e1,rfl⟩:=key h1 h3
    refine⟨_,Aq _ rfl, ?_⟩
    have q1:=q1 ()
    rw[e1,e2] at q1
    simp [execOp,e1,e2,q1,binOp,Gr t _ _ _ (Ah hk)]
   ·cases h
  ·cases h
 ·rename_i t x
  split at h
  ·rename_i g off hx
   have e1:=Au (st.evr x) hx
   split at h
   ·rename_i cs hg
    obtain⟨hat,h1⟩:=hG w hC g cs hg
    have hl:Ar P t (cs.map .ex) off (fun u' _=>u'=u):=Fi h rfl
    obtain⟨u',v,rfl,hr,hrun⟩:=Q2 (φ:=φ) (M:=Mo φ σ.hp M0) (k:=fun u'=>u'=u) hl (A42 h1) h1 hat
    refine⟨v,hr, ?_⟩
    rw[Nat.zero_add] at hrun
    simp [execOp,e1,Instr.loadAt,Instr.sureAddr,hrun]
   ·cases h
  ·cases h
 ·rename_i t x i
  split at h
  ·rename_i g off kd n len e hx hi hk
   obtain⟨h1,h⟩:=A6 h
   obtain⟨h1,h2⟩:=Ad h1
   cases h
   have e1:=Au (st.evr x) hx
   have e2:=Au (st.evr i) hi
   have hpos:0<(aty P e).sz:=Ai h1
   have hlt:n<len:=Gm h2
   obtain⟨ii,hii,hz,_⟩:=Cb hpos
   have szr:(sizeOf e).run P w=.ok (aty P e).sz w:=by simp [sizeOf,typeInfo,hii,hz]
   refine⟨_,Aq _ rfl, ?_⟩
   simp [execOp,e1,e2,Instr.indexAt,Instr.sureAddr,asIntOf,run_underlying (G2 hk),szr,addr_add,hlt]
  ·cases h
 ·rename_i s x f
  split at h
  ·rename_i g off hx
   split at h
   ·rename_i o ho'
    obtain⟨h2,h⟩:=Et h
    cases h
    have e1:=Au (st.evr x) hx
    have hne:(aty P o.2).sz≠0:=fun h0=>by rw[h0] at h2;cases h2
    obtain⟨i,hi,hz,_⟩:=Cb (Nat.pos_of_ne_zero hne)
    have hs:∃ fs,P.underlying s=some (.struct fs)∧∃ fd:Field,fs[f]?=some fd∧fd.offset=o.1∧fd.type=o.2:=by
     unfold aty at ho'
     dsimp only at ho'
     split at ho'
     ·rename_i fs hh
      rw[List.getElem?_map] at ho'
      cases hq:fs.toList[f]? with
      | none=>rw[hq] at ho';cases ho'
      | some fd =>
       rw[hq] at ho'
       simp at ho'
       exact⟨fs,hh,fd,by simpa using hq,by rw[← ho'],by rw[← ho']⟩
     ·simp at ho'
    obtain⟨fs,hu1,fd,hf,h3,h4⟩:=hs
    rw[← h4] at hi
    have:i.size≠0:=by rw[hz];exact hne
    refine⟨_,Aq _ rfl, ?_⟩
    simp [execOp,e1,Instr.fieldAt,run_underlying hu1,hf,Instr.sureAddr,fieldPlace,sizeOf,typeInfo,hi,this,addr_add,h3]
   ·cases h
  ·cases h
 ·cases h
end
end Go.Proofs.YtbhffbgbhgjdiaaGreatDoor
