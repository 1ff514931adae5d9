/-
  The laws by which a body is walked over values without memory: each operation as its next step, so that what follows is not looked into. Conditions: those that each theorem states. More of the kind.
-/
import Derived.Test.YtbhffbgbhgjdiaaGreatDoorGAbt
set_option linter.unusedSimpArgs false
set_option linter.unusedVariables false
namespace Go.Proofs.YtbhffbgbhgjdiaaGreatDoor
open Go.RowKit
set_option maxRecDepth 100000
def asB(u:AV)(k:Bool→Prop):Prop:=match u with|.ex (.bool t)=>k t|_=>False
def asI(u:AV)(k:IntKind→Int→Prop):Prop:=match u with|.ex (.int kd n)=>k kd n|_=>False
def opt{α:Type}(x:Option α)(k:α→Prop):Prop:=match x with|some y=>k y|none=>False
def aif(c:Bool)(A B:Prop):Prop:=(c=true→A)∧(c=false→B)
theorem Ox(A B:Prop):aif true A B=A:=by simp [aif]
theorem M2(A B:Prop):aif false A B=B:=by simp [aif]
theorem Avq(t:Bool)(k:Bool→Prop):asB (.ex (.bool t)) k=k t:=rfl
theorem Avs(kd:IntKind)(n:Int)(k:IntKind→Int→Prop):asI (.ex (.int kd n)) k=k kd n:=rfl
theorem Qf{α:Type}(y:α)(k:α→Prop):opt (some y) k=k y:=rfl
@[congr] theorem Av1{c c':Bool}{A B:Prop}(h:c=c'):aif c A B=aif c' A B:=by rw[h]
@[congr] theorem Av2{u u':AV}{k:Bool→Prop}(h:u=u'):asB u k=asB u' k:=by rw[h]
@[congr] theorem Av4{u u':AV}{k:IntKind→Int→Prop}(h:u=u'):asI u k=asI u' k:=by rw[h]
@[congr] theorem Avc{α:Type}{x x':Option α}{k:α→Prop}(h:x=x'):opt x k=opt x' k:=by rw[h]
theorem U2{u:AV}{k:Bool→Prop}:(∃ t,u=.ex (.bool t)∧k t)=asB u k:=by
 apply propext
 unfold asB
 constructor
 ·rintro⟨t,rfl,h⟩;exact h
 ·intro h
  split at h
  ·exact⟨_,rfl,h⟩
  ·exact h.elim
theorem D8{u:AV}{k:IntKind→Int→Prop}:(∃ kd n,u=.ex (.int kd n)∧k kd n)=asI u k:=by
 apply propext
 unfold asI
 constructor
 ·rintro⟨kd,n,rfl,h⟩;exact h
 ·intro h
  split at h
  ·exact⟨_,_,rfl,h⟩
  ·exact h.elim
theorem B4{α:Type}{x:Option α}{k:α→Prop}:(∃ y,x=some y∧k y)=opt x k:=by
 apply propext
 unfold opt
 constructor
 ·rintro⟨y,rfl,h⟩;exact h
 ·intro h
  split at h
  ·exact⟨_,rfl,h⟩
  ·exact h.elim
section
variable{P:Program}{C:World→Prop}{id:Nat}{ty:Nat}{ev:Operand→AV}{hp:Nat→Option A4}{k:AV→Eff→Prop}
@[congr] theorem Av6{c:Code}{Q:Exit→AS→Prop}{σ σ':AS}(h:σ=σ'):awp P C c Q σ=awp P C c Q σ':=by rw[h]
@[congr] theorem Ao8{ops:Array Oper}{nd b i:Nat}{l:List Oper}{K:AS→Prop}{σ σ':AS}(h:σ=σ'):Ax P C ops nd b i l K σ=Ax P C ops nd b i l K σ':=by rw[h]
@[congr] theorem Aoc{id':Nat}{op:Op}(h:id=id'):A7 P C id op ty ev hp k=A7 P C id' op ty ev hp k:=by rw[h]
@[congr] theorem Alk{f:Nat}{args args':List AV}(h:args=args'):B8 P C id f hp args k=B8 P C id f hp args' k:=by rw[h]
@[congr] theorem Anj{op:BinOp}{t:Nat}{x x' y y':AV}(h:x=x')(h':y=y'):Ag P op t x y k=Ag P op t x' y' k:=by rw[h,h']
@[congr] theorem Are{op:UnOp}{x x':AV}(h:x=x'):Jn op x k=Jn op x' k:=by rw[h]
@[congr] theorem All{s d:Nat}{x x':AV}(h:x=x'):Bm P hp s d x k=Bm P hp s d x' k:=by rw[h]
@[congr] theorem Al1{t off off':Nat}{cs cs':List AV}(h:cs=cs')(h':off=off'):Ar P t cs off k=Ar P t cs' off' k:=by rw[h,h']
@[congr] theorem Anm{t:Nat}{x x':AV}(h:x=x'):Cf P hp t x k=Cf P hp t x' k:=by rw[h]
@[congr] theorem Ani{e:Nat}{s s':AV}{ns ns':List (List AV)}(h:s=s')(h':ns=ns'):D9 P hp id e s ns k=D9 P hp id e s' ns' k:=by rw[h,h']
@[congr] theorem Ard{t n n':Nat}{x x':AV}(h:x=x')(h':n=n'):Ek P hp t x n k=Ek P hp t x' n' k:=by rw[h,h']
@[congr] theorem Ahg{t:Nat}{x x':AV}{lo hi mx:Option Operand}(h:x=x'):B7 P hp id t x ev lo hi mx k=B7 P hp id t x' ev lo hi mx k:=by rw[h]
theorem Ajn{c a b:Operand}:A7 P C id (.pick c a b) ty ev hp k=asB (ev c) fun t=>k (if t then ev a else ev b) .none:=U2
theorem Ap5{t:Nat}{x:Operand}:A7 P C id (.box t x) ty ev hp k=opt (ev x).cells fun cs=>(cs.length=(aty P t).sz∧0<cs.length)∧k (.pt id 0 0) (.new ⟨t,[cs],true⟩):=B4
def plc(hp:Nat→Option A4)(u:AV)(k:List AV→Nat→Prop):Prop:=match u with
 | .rp cs off=>k cs off
 | .pt b j off=>opt (hp b) fun β=>opt β.es[j]? fun e=>k e off
 | _=>False
theorem Arq(b j off:Nat)(kk:List AV→Nat→Prop):plc hp (.pt b j off) kk=opt (hp b) fun β=>opt β.es[j]? fun e=>kk e off:=rfl
@[congr] theorem Ave{u u':AV}{kk:List AV→Nat→Prop}(h:u=u'):plc hp u kk=plc hp u' kk:=by rw[h]
theorem Aji{t:Nat}{x:Operand}:A7 P C id (.load t x) ty ev hp k=plc hp (ev x) fun cs off=>Ar P t cs off k:=by
 unfold A7
 dsimp only
 generalize ev x=u
 cases u<;>try rfl
 rename_i b j off
 apply propext
 rw[Arq,← B4]
 constructor
 ·rintro⟨β,e,h1,h2,h3⟩;exact⟨β,h1,by rw[← B4];exact⟨e,h2,h3⟩⟩
 ·rintro⟨β,h1,h2⟩;rw[← B4] at h2;obtain⟨e,h2,h3⟩:=h2;exact⟨β,e,h1,h2,h3⟩
def sto(hp:Nat→Option A4)(u:AV)(k:Nat→Nat→Nat→A4→List AV→Prop):Prop:=match u with
 | .pt b j off=>opt (hp b) fun β=>opt β.es[j]? fun e=>k b j off β e
 | _=>False
theorem Aru(b j off:Nat)(kk:Nat→Nat→Nat→A4→List AV→Prop):sto hp (.pt b j off) kk=opt (hp b) fun β=>opt β.es[j]? fun e=>kk b j off β e:=rfl
@[congr] theorem Avf{u u':AV}{kk:Nat→Nat→Nat→A4→List AV→Prop}(h:u=u'):sto hp u kk=sto hp u' kk:=by rw[h]
theorem Acg{t:Nat}{x v:Operand}:A7 P C id (.store t x v) ty ev hp k=sto hp (ev x) fun b j off β e=>opt (ev v).cells fun cs=>(β.mu=true∧cs.length=(aty P t).sz∧0<cs.length∧off+cs.length≤e.length) ∧
  k .junk (.set b ⟨β.ty,β.es.set j (e.take off++cs++e.drop (off+cs.length)),true⟩):=by
 unfold A7
 dsimp only
 generalize ev x=u
 cases u<;>try rfl
 rename_i b j off
 apply propext
 rw[Aru,← B4]
 constructor
 ·rintro⟨β,e,cs,h1,h2,h3,h4,⟨h5,h6,h7⟩,h8⟩
  refine⟨β,h1, ?_⟩
  rw[← B4]
  refine⟨e,h3, ?_⟩
  rw[← B4]
  exact⟨cs,h4,⟨h2,h5,h6,h7⟩,h8⟩
 ·rintro⟨β,h1,h2⟩
  rw[← B4] at h2
  obtain⟨e,h3,h2⟩:=h2
  rw[← B4] at h2
  obtain⟨cs,h4,⟨h2,h5,h6,h7⟩,h8⟩:=h2
  exact⟨β,e,cs,h1,h2,h3,h4,⟨h5,h6,h7⟩,h8⟩
theorem Us{t:Nat}{x y:Operand}:A7 P C id (.makeSlice t x y) ty ev hp k=asI (ev x) fun kx n=>asI (ev y) fun ky c=>(kx=.i64∧ky=.i64)∧match (aty P t).k with
  | .slice e=>((aty P e).zero.length=(aty P e).sz∧0<(aty P e).sz∧1≤(aty P e).bytes∧(aty P e).zero.all (·.oneCell')=true)∧if n=0 then (n=0∧0≤c∧(aty P e).bytes*c.toNat≤140737488355328)∧k (.own id) (.new ⟨e,[],true⟩)
    else (0≤n∧n=c∧(aty P e).bytes*n.toNat≤140737488355328)∧k (.own id) (.new ⟨e,List.replicate n.toNat ((aty P e).zero.map .ex),true⟩)
  | _=>False:=by
 apply propext
 rw[← D8]
 unfold A7
 dsimp only
 constructor
 ·rintro⟨n,c,h1,h2,h3⟩
  refine⟨_,n,h1, ?_⟩
  rw[← D8]
  exact⟨_,c,h2,⟨rfl,rfl⟩,h3⟩
 ·rintro⟨kx,n,h1,h2⟩
  rw[← D8] at h2
  obtain⟨ky,c,h2,⟨rfl,rfl⟩,h3⟩:=h2
  exact⟨n,c,h1,h2,h3⟩
def fld(u:AV)(o:Nat)(k:AV→Eff→Prop):Prop:=match u with
 | .rp cs off=>k (.rp cs (off+o)) .none
 | .pt b j off=>k (.pt b j (off+o)) .none
 | _=>False
theorem Api(cs:List AV)(off o:Nat):fld (.rp cs off) o k=k (.rp cs (off+o)) .none:=rfl
theorem Aph(b j off o:Nat):fld (.pt b j off) o k=k (.pt b j (off+o)) .none:=rfl
@[congr] theorem Av9{u u':AV}{o:Nat}(h:u=u'):fld u o k=fld u' o k:=by rw[h]
theorem Uq{s:Nat}{x:Operand}{f:Nat}:A7 P C id (.fieldAddr s x f) ty ev hp k=opt (aty P s).flds[f]? fun p=>(aty P p.2).sz≠0∧fld (ev x) p.1 k:=by
 apply propext
 rw[← B4]
 unfold A7 fld
 dsimp only
 constructor
 ·rintro⟨o,ft,h1,h2,h3⟩;exact⟨(o,ft),h1,h2,h3⟩
 ·rintro⟨⟨o,ft⟩,h1,h2,h3⟩;exact⟨o,ft,h1,h2,h3⟩
def agc(u:AV)(k:List AV→Prop):Prop:=match u with|.agg cs=>k cs|_=>False
theorem Avo(cs:List AV)(kk:List AV→Prop):agc (.agg cs) kk=kk cs:=rfl
@[congr] theorem Av0{u u':AV}{kk:List AV→Prop}(h:u=u'):agc u kk=agc u' kk:=by rw[h]
theorem Acd{s:Nat}{x:Operand}{f:Nat}:A7 P C id (.field s x f) ty ev hp k=opt (aty P s).flds[f]? fun p=>agc (ev x) fun cs=>Ar P p.2 cs p.1 k:=by
 apply propext
 rw[← B4]
 unfold A7 agc
 dsimp only
 constructor
 ·rintro⟨o,ft,h1,h3⟩;exact⟨(o,ft),h1,h3⟩
 ·rintro⟨⟨o,ft⟩,h1,h3⟩;exact⟨o,ft,h1,h3⟩
theorem Ur{t:Nat}{x i:Operand}:A7 P C id (.indexAddr t x i) ty ev hp k=asI (ev i) fun _ n=>0≤n∧Ek P hp t (ev x) n.toNat k:=D8
def Jr(P:Program)(t:TypeId)(u:AV)(n:Nat)(k:AV→Eff→Prop):Prop:=match (aty P t).k,u with
  | .str,.ex (.string s)=>∃ h:n<s.size,k (.ex (.int .u8 (s[n]'h).toNat)) .none
  | .arr len e,.agg cs=>0<(aty P e).sz∧n<len∧Ar P e cs (n*(aty P e).sz) k
  | _,_=>False
@[congr] theorem Anl{t n n':Nat}{x x':AV}(h:x=x')(h':n=n'):Jr P t x n k=Jr P t x' n' k:=by rw[h,h']
theorem Ace{t:Nat}{x i:Operand}:A7 P C id (.index t x i) ty ev hp k=asI (ev i) fun _ n=>0≤n∧Jr P t (ev x) n.toNat k:=D8
def Agr(u:AV)(k:List AV→Prop):Prop:=match u with|.tup cs=>k cs|_=>False
theorem Arv(cs:List AV)(kk:List AV→Prop):Agr (.tup cs) kk=kk cs:=rfl
@[congr] theorem Arw{u u':AV}{kk:List AV→Prop}(h:u=u'):Agr u kk=Agr u' kk:=by rw[h]
theorem A1d{x:Operand}{i:Nat}:A7 P C id (.extract x i) ty ev hp k=Agr (ev x) fun vs=>opt vs[i]? fun u=>k u .none:=by
 unfold A7
 dsimp only
 generalize ev x=u
 cases u<;>try rfl
 exact B4
theorem Ac9{f:Nat}{args:Array Operand}{tys:Array Nat}:A7 P C id (.call ⟨.value (.func f),args,tys⟩) ty ev hp k=B8 P C id f hp (args.toList.map ev) k:=rfl
def fnv(u:AV)(kk:Nat→List AV→Prop):Prop:=match u with
 | .fn f caps=>kk f caps
 | .ex (.func (.func f) a b)=>(a=#[]∧b=#[])∧kk f []
 | _=>False
@[congr] theorem Ava{u u':AV}{kk:Nat→List AV→Prop}(h:u=u'):fnv u kk=fnv u' kk:=by rw[h]
theorem Apl{f:Nat}{caps:List AV}{kk:Nat→List AV→Prop}:fnv (.fn f caps) kk=kk f caps:=rfl
theorem Acl{f:Nat}{kk:Nat→List AV→Prop}:fnv (.ex (.func (.func f) #[] #[])) kk=kk f []:=by simp [fnv]
def kfn(P:Program)(C:World→Prop)(id:Nat)(hp:Nat→Option A4)(args:List AV)(k:AV→Eff→Prop)(f:Nat)(caps:List AV):Prop:=B8 P C id f hp (args++caps) k
theorem Aqd{args:List AV}{f:Nat}{caps:List AV}:kfn P C id hp args k f caps=B8 P C id f hp (args++caps) k:=rfl
theorem Aca{t:Nat}{args:Array Operand}{tys:Array Nat}:A7 P C id (.call ⟨.value (.tmp t),args,tys⟩) ty ev hp k=fnv (ev (.tmp t)) (kfn P C id hp (args.toList.map ev) k):=by
 unfold A7 fnv
 dsimp only
 generalize ev (.tmp t)=u
 cases u with
 | ex v =>
  cases v with
  | func fn a b=>cases fn<;>simp [kfn]
  | _=>rfl
 | fn f caps=>rfl
 | _=>rfl
theorem Apa{f:Nat}{caps:Array Operand}:A7 P C id (.makeFunc (.func f) #[] caps) ty ev hp k=k (.fn f (caps.toList.map ev)) .none:=by simp [A7]
theorem Ap7{x:Operand}{t:Nat}:A7 P C id (.call ⟨.builtin .len,#[x],#[t]⟩) ty ev hp k=Cf P hp t (ev x) k:=rfl
def Qm(hp:Nat→Option A4):AV→Option (List (List AV))
 | .ex (.string _)=>none
 | u=>Fc hp u
theorem Ap3{s x:Operand}{t t2:Nat}:A7 P C id (.call ⟨.builtin .append,#[s,x],#[t,t2]⟩) ty ev hp k=match (aty P t).k with
    | .slice e=>t2=t∧opt (Qm hp (ev x)) fun ns=>D9 P hp id e (ev s) ns k
    | _=>False:=by
 unfold A7
 dsimp only
 cases (aty P t).k<;>try rfl
 dsimp only
 apply propext
 rw[← B4]
 constructor
 ·intro h
  split at h
  ·exact h.elim
  ·rename_i hne
   obtain⟨h1,ns,h2,h3⟩:=h
   refine⟨h1,ns, ?_,h3⟩
   unfold Qm
   split
   ·rename_i q heq;exact absurd heq (hne q)
   ·exact h2
 ·rintro⟨h1,ns,h2,h3⟩
  unfold Qm at h2
  split at h2
  ·cases h2
  ·rename_i hne
   split
   ·rename_i q heq;exact absurd heq (hne q)
   ·exact⟨h1,ns,h2,h3⟩
theorem Ap9{x y:Operand}{tys:Array Nat}:A7 P C id (.call ⟨.builtin .min,#[x,y],tys⟩) ty ev hp k=asI (ev x) fun kd a=>asI (ev y) fun _ b=>k (.ex (.int kd (if b<a then b else a))) .none:=by
 apply propext
 rw[← D8]
 constructor
 ·rintro⟨kd,p,kd',q,h1,h2,h3⟩
  refine⟨kd,p,h1, ?_⟩
  rw[← D8]
  exact⟨kd',q,h2,h3⟩
 ·rintro⟨kd,p,h1,h2⟩
  rw[← D8] at h2
  obtain⟨kd',q,h2,h3⟩:=h2
  exact⟨kd,p,kd',q,h1,h2,h3⟩
theorem Ap8{x y:Operand}{tys:Array Nat}:A7 P C id (.call ⟨.builtin .max,#[x,y],tys⟩) ty ev hp k=asI (ev x) fun kd a=>asI (ev y) fun _ b=>k (.ex (.int kd (if a<b then b else a))) .none:=by
 apply propext
 rw[← D8]
 constructor
 ·rintro⟨kd,p,kd',q,h1,h2,h3⟩
  refine⟨kd,p,h1, ?_⟩
  rw[← D8]
  exact⟨kd',q,h2,h3⟩
 ·rintro⟨kd,p,h1,h2⟩
  rw[← D8] at h2
  obtain⟨kd',q,h2,h3⟩:=h2
  exact⟨kd,p,kd',q,h1,h2,h3⟩
theorem Ajj{x y z:Operand}{tys:Array Nat}:A7 P C id (.call ⟨.builtin .max,#[x,y,z],tys⟩) ty ev hp k=asI (ev x) fun kd a=>asI (ev y) fun _ b=>asI (ev z) fun _ d=>k (.ex (.int kd (if (if a<b then b else a)<d then d else (if a<b then b else a)))) .none:=by
 apply propext
 rw[← D8]
 constructor
 ·rintro⟨kd,p,kd',q,kd2,r,h1,h2,h3,h4⟩
  refine⟨kd,p,h1, ?_⟩
  rw[← D8]
  refine⟨kd',q,h2, ?_⟩
  rw[← D8]
  exact⟨kd2,r,h3,h4⟩
 ·rintro⟨kd,p,h1,h2⟩
  rw[← D8] at h2
  obtain⟨kd',q,h2,h3⟩:=h2
  rw[← D8] at h3
  obtain⟨kd2,r,h3,h4⟩:=h3
  exact⟨kd,p,kd',q,kd2,r,h1,h2,h3,h4⟩
end
end Go.Proofs.YtbhffbgbhgjdiaaGreatDoor
namespace Go.Proofs.YtbhffbgbhgjdiaaGreatDoor
open Go.RowKit
set_option maxRecDepth 100000
section
variable{P:Program}{C:World→Prop}{id:Nat}{ty:Nat}{ev:Operand→AV}{hp:Nat→Option A4}{k:AV→Eff→Prop}
theorem Ajk{x:Operand}:A7 P C id (.move x) ty ev hp k=k (ev x) .none:=rfl
theorem Rg{t:Nat}:A7 P C id (.assign (.tmp t)) ty ev hp k=k (ev (.tmp t)) .none:=by
 unfold A7
 simp only[Ck]
theorem Nt{v:Value}:A7 P C id (.assign (.const v)) ty ev hp k=match Ck (.const v),(aty P ty).k with
  | true,.slice e=>k (.own id) (.new ⟨e,[],true⟩)
  | _,_=>k (ev (.const v)) .none:=rfl
theorem Vb(kd:IntKind)(n:Int):Ck (.const (.int kd n))=false:=rfl
theorem Rl(b:Bool):Ck (.const (.bool b))=false:=rfl
theorem Vd(s:ByteArray):Ck (.const (.string s))=false:=rfl
theorem Vc:Ck (.const (.slice none 0 0))=true:=rfl
theorem Ac8{t:Nat}:A7 P C id (.alloc t) ty ev hp k=(((aty P t).zero.length=(aty P t).sz∧0<(aty P t).sz∧(aty P t).zero.all (·.oneCell')=true)∧k (.pt id 0 0) (.alc t ((aty P t).zero.map .ex))):=rfl
theorem Xw{x:Operand}:A7 P C id (.nilCheck x) ty ev hp k=fld (ev x) 0 k:=by
 unfold A7 fld
 dsimp only
 generalize ev x=u
 cases u<;>rfl
theorem Ap4{op:BinOp}{t ty':Nat}{x y:Operand}:A7 P C id (.binOp op t x y ty') ty ev hp k=Ag P op t (ev x) (ev y) k:=rfl
theorem Awu{op:UnOp}{t:Nat}{x:Operand}:A7 P C id (.unOp op t x) ty ev hp k=Jn op (ev x) k:=rfl
theorem Ajg{s d:Nat}{x:Operand}:A7 P C id (.convert s d x) ty ev hp k=Bm P hp s d (ev x) k:=rfl
theorem Acf{t:Nat}{x:Operand}{lo hi mx:Option Operand}:A7 P C id (.slice t x lo hi mx) ty ev hp k=B7 P hp id t (ev x) ev lo hi mx k:=rfl
theorem Xv {t : Nat} {parts : List (Nat × Operand)} : A7 P C id (.build t parts.toArray) ty ev hp k = (((aty P t).zero.length=(aty P t).sz∧0<(aty P t).sz∧(aty P t).zero.all (·.oneCell')=true)∧match (aty P t).k with
  | .struct=>((aty P t).flds.all fun f=>decide (0<(aty P f.2).sz))=true∧opt (F8 (fun i=>((aty P t).flds.map fun f=>(f.1,(aty P f.2).sz))[i]?) ((aty P t).zero.map .ex) (parts.map fun x=>(x.1,ev x.2))) fun cs=>k (.agg cs) .none
  | .arr _ e=>0<(aty P e).sz∧opt (F8 (fun i=>some (i*(aty P e).sz,(aty P e).sz)) ((aty P t).zero.map .ex) (parts.map fun x=>(x.1,ev x.2))) fun cs=>k (.agg cs) .none
  | _=>False):=by
 unfold A7
 dsimp only
 congr 1
 cases (aty P t).k<;>first|rfl|(dsimp only;congr 1;exact B4)
theorem Jq{t len:Nat}{parts:List (Nat×Operand)}:A7 P C id (.buildSlice t len parts.toArray) ty ev hp k=match (aty P t).k with
  | .slice e=>((aty P e).zero.length=(aty P e).sz∧0<(aty P e).sz∧len*(aty P e).sz≤16777216∧(aty P e).zero.all (·.oneCell')=true) ∧
    (parts.map (·.1)=List.range len∧(parts.all fun x=>((ev x.2).cells.map (·.length)) == some (aty P e).sz)=true) ∧
     (k (.own id) (.new ⟨e,parts.filterMap (fun x=>(ev x.2).cells),true⟩)∨(len=0∧k .em .none))
  | _=>False:=rfl
section
variable{t:Nat}{kd:IntKind}{a b:Int}
theorem Ai5:Ag P .add t (.ex (.int kd a)) (.ex (.int kd b)) k=k (.ex (.int kd (kd.wrap (a+b)))) .none:=by simp [Ag,Da]
theorem Aij:Ag P .sub t (.ex (.int kd a)) (.ex (.int kd b)) k=k (.ex (.int kd (kd.wrap (a-b)))) .none:=by simp [Ag,Da]
theorem Aic:Ag P .mul t (.ex (.int kd a)) (.ex (.int kd b)) k=k (.ex (.int kd (kd.wrap (a*b)))) .none:=by simp [Ag,Da]
theorem Aie:Ag P .quo t (.ex (.int kd a)) (.ex (.int kd b)) k=(b≠0∧k (.ex (.int kd (kd.wrap (a.tdiv b)))) .none):=by simp [Ag,Da]
theorem Aif:Ag P .rem t (.ex (.int kd a)) (.ex (.int kd b)) k=(b≠0∧k (.ex (.int kd (a.tmod b))) .none):=by simp [Ag,Da]
theorem Aik:Ag P .xor t (.ex (.int kd a)) (.ex (.int kd b)) k=k (.ex (.int kd (kd.wrap (BitVec.ofInt kd.bits a ^^^ BitVec.ofInt kd.bits b).toNat))) .none:=by simp [Ag,Da]
theorem Ai6:Ag P .and t (.ex (.int kd a)) (.ex (.int kd b)) k=k (.ex (.int kd (kd.wrap (BitVec.ofInt kd.bits a &&& BitVec.ofInt kd.bits b).toNat))) .none:=by simp [Ag,Da]
theorem Aoe:Ag P .or t (.ex (.int kd a)) (.ex (.int kd b)) k=k (.ex (.int kd (kd.wrap (BitVec.ofInt kd.bits a ||| BitVec.ofInt kd.bits b).toNat))) .none:=by simp [Ag,Da]
theorem Ai7:Ag P .eql t (.ex (.int kd a)) (.ex (.int kd b)) k=k (.ex (.bool (decide (a=b)))) .none:=by simp [Ag,Da]
theorem Aid:Ag P .neq t (.ex (.int kd a)) (.ex (.int kd b)) k=k (.ex (.bool (!decide (a=b)))) .none:=by simp [Ag,Da]
theorem Aib:Ag P .lss t (.ex (.int kd a)) (.ex (.int kd b)) k=k (.ex (.bool (decide (a<b)))) .none:=by simp [Ag,Da]
theorem Aia:Ag P .leq t (.ex (.int kd a)) (.ex (.int kd b)) k=k (.ex (.bool (decide (a≤b)))) .none:=by simp [Ag,Da]
theorem Ai9:Ag P .gtr t (.ex (.int kd a)) (.ex (.int kd b)) k=k (.ex (.bool (decide (b<a)))) .none:=by simp [Ag,Da]
theorem Ai8:Ag P .geq t (.ex (.int kd a)) (.ex (.int kd b)) k=k (.ex (.bool (decide (b≤a)))) .none:=by simp [Ag,Da]
theorem Aih{kb:IntKind}:Ag P .shl t (.ex (.int kd a)) (.ex (.int kb b)) k=(0≤b∧k (.ex (.int kd (kd.wrap (a*2 ^ (min b.toNat kd.bits))))) .none):=by simp [Ag]
theorem Aii{kb:IntKind}:Ag P .shr t (.ex (.int kd a)) (.ex (.int kb b)) k=(0≤b∧k (.ex (.int kd (a.fdiv (2 ^ (min b.toNat kd.bits))))) .none):=by simp [Ag]
theorem Aav{x y:ByteArray}:Ag P .add t (.ex (.string x)) (.ex (.string y)) k=(x.size+y.size≤9223372036854775807∧k (.ex (.string (x++y))) .none):=by simp [Ag,Gc]
theorem Aaw{x y:ByteArray}:Ag P .eql t (.ex (.string x)) (.ex (.string y)) k=k (.ex (.bool (decide (x=y)))) .none:=by simp [Ag,Gc]
theorem Aaz{x y:ByteArray}:Ag P .neq t (.ex (.string x)) (.ex (.string y)) k=k (.ex (.bool (!decide (x=y)))) .none:=by simp [Ag,Gc]
theorem Aay{x y:ByteArray}:Ag P .lss t (.ex (.string x)) (.ex (.string y)) k=k (.ex (.bool (Op.bytesLess x.data.toList y.data.toList))) .none:=by simp [Ag,Gc]
theorem Aax{x y:ByteArray}:Ag P .gtr t (.ex (.string x)) (.ex (.string y)) k=k (.ex (.bool (!(Op.bytesLess x.data.toList y.data.toList || decide (x=y))))) .none:=by simp [Ag,Gc]
theorem Aar{x y:Bool}:Ag P .eql t (.ex (.bool x)) (.ex (.bool y)) k=((aty P t).k=.bool∧k (.ex (.bool (x == y))) .none):=by simp [Ag,and_comm]
theorem Aas{x y:Bool}:Ag P .neq t (.ex (.bool x)) (.ex (.bool y)) k=((aty P t).k=.bool∧k (.ex (.bool (x != y))) .none):=by simp [Ag,and_comm]
theorem Aap{x y:List AV}:Ag P .eql t (.agg x) (.agg y) k=∃ b,Hy P t x y b∧k (.ex (.bool b)) .none:=by simp [Ag]
theorem Aaq{x y:List AV}:Ag P .neq t (.agg x) (.agg y) k=∃ b,Hy P t x y b∧k (.ex (.bool (!b))) .none:=by simp [Ag]
theorem Aig{es:List (List AV)}:Ag P .eql t (.sl es) (.ex (.slice none 0 0)) k=((match (aty P t).k with|.slice _=>True|_=>False)∧k (.nq es) .none):=propext and_comm
theorem Aat{x:Nat}{v:Value}:Ag P .eql t (.ex (.iface x v)) (.ex .nilIface) k=((aty P t).k=.iface∧k (.ex (.bool false)) .none):=by simp [Ag,and_comm]
theorem Aau{x:Nat}{v:Value}:Ag P .neq t (.ex (.iface x v)) (.ex .nilIface) k=((aty P t).k=.iface∧k (.ex (.bool true)) .none):=by simp [Ag,and_comm]
theorem Aug{b:Bool}:Jn .not (.ex (.bool b)) k=k (.ex (.bool (!b))) .none:=rfl
theorem Auf:Jn .neg (.ex (.int kd a)) k=k (.ex (.int kd (kd.wrap (0-a)))) .none:=rfl
theorem Auh:Jn .xor (.ex (.int kd a)) k=k (.ex (.int kd (kd.wrap (BitVec.ofInt kd.bits (if kd.signed then -1 else kd.max) ^^^ BitVec.ofInt kd.bits a).toNat))) .none:=rfl
end
theorem Abo{s d:Nat}{kd:IntKind}{n:Int}:Bm P hp s d (.ex (.int kd n)) k=match (aty P d).k with
  | .int kd'=>(aty P s).known=true∧k (.ex (.int kd' (kd'.wrap n))) .none
  | .str=>(match (aty P s).k with|.slice e=>(match (aty P e).k with|.int .u8=>True|_=>False)|_=>False)∧∃ l,Fc hp (.ex (.int kd n))=some (B3 l)∧k (.ex (.string ⟨l.toArray⟩)) .none
  | _=>False:=by
 unfold Bm
 cases (aty P d).k<;>rfl
theorem Abq{s d:Nat}{x:ByteArray}:Bm P hp s d (.ex (.string x)) k=match (aty P d).k with
  | .str=>(aty P s).k=.str∧k (.ex (.string x)) .none
  | .slice e=>(aty P s).k=.str∧(match (aty P e).k with|.int .u8=>x.size≤maxLen∧k (.sl (B3 x.data.toList)) .none|_=>False)
  | _=>False:=by
 unfold Bm
 cases (aty P d).k<;>rfl
def toStr(hp:Nat→Option A4)(u:AV)(k:ByteArray→Prop):Prop:=∃ l,Fc hp u=some (B3 l)∧k ⟨l.toArray⟩
@[congr] theorem Anr{u u':AV}{kk:ByteArray→Prop}(h:u=u'):toStr hp u kk=toStr hp u' kk:=by rw[h]
theorem Jv:∀ {l l':List UInt8},B3 l=B3 l'→l=l'
 | [],[],_=>rfl
 | [],_ :: _,h=>by simp [B3] at h
 | _ :: _,[],h=>by simp [B3] at h
 | c :: l,c' :: l',h=>by
  simp only[B3,List.map_cons,List.cons.injEq,AV.ex.injEq,Value.int.injEq,true_and,and_true] at h
  obtain⟨h1,h2⟩:=h
  have:c=c':=UInt8.toNat_inj.1 (by omega)
  have ih:=Jv (l:=l) (l':=l') (by simpa [B3] using h2)
  rw[this,ih]
theorem Agp{l:List UInt8}{kk:ByteArray→Prop}:toStr hp (.sl (B3 l)) kk=kk ⟨l.toArray⟩:=by
 apply propext
 unfold toStr
 simp only[Fc,Option.some.injEq]
 constructor
 ·rintro⟨l',h1,h2⟩;cases Jv h1;exact h2
 ·intro h;exact⟨l,rfl,h⟩
theorem A99{b:Nat}{kk:ByteArray→Prop}{l:List UInt8}(h:(hp b).map (·.es)=some (B3 l)):toStr hp (.own b) kk=kk ⟨l.toArray⟩:=by
 apply propext
 unfold toStr
 simp only[Fc,h,Option.some.injEq]
 constructor
 ·rintro⟨l',h1,h2⟩;cases Jv h1;exact h2
 ·intro h;exact⟨l,rfl,h⟩
theorem Aj6{s d:Nat}{es:List (List AV)}:Bm P hp s d (.sl es) k=match (aty P d).k with
  | .str=>(match (aty P s).k with|.slice e=>(match (aty P e).k with|.int .u8=>True|_=>False)|_=>False)∧toStr hp (.sl es) fun x=>k (.ex (.string x)) .none
  | _=>False:=by
 unfold Bm
 cases (aty P d).k<;>rfl
theorem Aj5{s d:Nat}{b:Nat}:Bm P hp s d (.own b) k=match (aty P d).k with
  | .str=>(match (aty P s).k with|.slice e=>(match (aty P e).k with|.int .u8=>True|_=>False)|_=>False)∧toStr hp (.own b) fun x=>k (.ex (.string x)) .none
  | _=>False:=by
 unfold Bm
 cases (aty P d).k<;>rfl
theorem Al6{t:Nat}{x:ByteArray}:Cf P hp t (.ex (.string x)) k=match (aty P t).k with
  | .str=>k (.ex (.int .i64 x.size)) .none
  | .arr n _=>k (.ex (.int .i64 n)) .none
  | .slice _=>opt (Fc hp (.ex (.string x))) fun es=>k (.ex (.int .i64 es.length)) .none
  | _=>False:=by
 unfold Cf
 cases (aty P t).k<;>first|rfl|exact B4
theorem Aqv{t:Nat}{es:List (List AV)}:Cf P hp t (.sl es) k=match (aty P t).k with
  | .arr n _=>k (.ex (.int .i64 n)) .none
  | .slice _=>k (.ex (.int .i64 es.length)) .none
  | _=>False:=by
 unfold Cf
 cases (aty P t).k<;>first|rfl|(dsimp only;rw[B4];rfl)
theorem Al5{t:Nat}{b:Nat}:Cf P hp t (.own b) k=match (aty P t).k with
  | .arr n _=>k (.ex (.int .i64 n)) .none
  | .slice _=>opt (hp b) fun β=>k (.ex (.int .i64 β.es.length)) .none
  | _=>False:=by
 unfold Cf
 cases (aty P t).k<;>first
  | rfl
  | (dsimp only
     rw[B4]
     simp only[Fc]
     cases hp b<;>rfl)
theorem Apw{t b n:Nat}:Ek P hp t (.own b) n k=match (aty P t).k with
  | .slice e=>opt (hp b) fun β=>((β.ty=e∧0<(aty P e).sz)∧n<β.es.length)∧k (.pt b n 0) .none
  | _=>False:=by
 unfold Ek
 cases (aty P t).k<;>try rfl
 apply propext
 dsimp only
 rw[← B4]
 constructor
 ·rintro⟨β,h1,h2,h3,h4⟩;exact⟨β,h1,⟨h2,h3⟩,h4⟩
 ·rintro⟨β,h1,⟨h2,h3⟩,h4⟩;exact⟨β,h1,h2,h3,h4⟩
theorem Axh{t n:Nat}{es:List (List AV)}:Ek P hp t (.sl es) n k=match (aty P t).k with
  | .slice e=>opt es[n]? fun x=>(0<(aty P e).sz∧x.length=(aty P e).sz)∧k (.rp x 0) .none
  | _=>False:=by
 unfold Ek
 cases (aty P t).k<;>try rfl
 apply propext
 dsimp only
 rw[← B4]
 constructor
 ·rintro⟨h1,h2,h3,h4⟩;exact⟨es[n],List.getElem?_eq_getElem h2,⟨h1,h3⟩,h4⟩
 ·rintro⟨x,h1,⟨h2,h3⟩,h4⟩
  obtain⟨h5,h6⟩:=List.getElem?_eq_some_iff.1 h1
  subst h6
  exact⟨h2,h5,h3,h4⟩
theorem Axg{t n off:Nat}{cs:List AV}:Ek P hp t (.rp cs off) n k=match (aty P t).k with
  | .arr len e=>0<(aty P e).sz∧n<len∧k (.rp cs (off+n*(aty P e).sz)) .none
  | _=>False:=by
 unfold Ek
 cases (aty P t).k<;>rfl
theorem Axf{t n b j off:Nat}:Ek P hp t (.pt b j off) n k=match (aty P t).k with
  | .arr len e=>0<(aty P e).sz∧n<len∧k (.pt b j (off+n*(aty P e).sz)) .none
  | _=>False:=by
 unfold Ek
 cases (aty P t).k<;>rfl
theorem Ak2{t n:Nat}{x:ByteArray}:Jr P t (.ex (.string x)) n k=match (aty P t).k with
  | .str=>∃ h:n<x.size,k (.ex (.int .u8 (x[n]'h).toNat)) .none
  | _=>False:=by
 unfold Jr
 cases (aty P t).k<;>rfl
theorem Ak1{t n:Nat}{cs:List AV}:Jr P t (.agg cs) n k=match (aty P t).k with
  | .arr len e=>0<(aty P e).sz∧n<len∧Ar P e cs (n*(aty P e).sz) k
  | _=>False:=by
 unfold Jr
 cases (aty P t).k<;>rfl
theorem A90{t:Nat}{x:ByteArray}{lo hi mx:Option Operand}:B7 P hp id t (.ex (.string x)) ev lo hi mx k=match (aty P t).k with
  | .str=>mx=none∧bnd 0 ev lo fun l=>bnd x.size ev hi fun h=>l≤h∧h≤x.size∧k (.ex (.string (x.extract l h))) .none
  | _=>False:=by
 unfold B7
 cases (aty P t).k<;>rfl
theorem Agh{t:Nat}{es:List (List AV)}{lo hi mx:Option Operand}:B7 P hp id t (.sl es) ev lo hi mx k=match (aty P t).k with
  | .slice e=>(0<(aty P e).sz∧(hi=none→mx=none)∧∀ x∈es,x.length=(aty P e).sz)∧bnd 0 ev lo fun l=>bnd es.length ev hi fun h=>bnd es.length ev mx fun m=>l≤h∧h≤m∧m≤es.length∧k (.sl ((es.take h).drop l)) .none
  | _=>False:=by
 unfold B7
 cases (aty P t).k<;>rfl
theorem Ahy {e b : Nat} {ns : List (List AV)} : D9 P hp id e (.own b) ns k = (((aty P e).zero.length=(aty P e).sz∧0<(aty P e).sz∧1≤(aty P e).bytes∧∀ n∈ns,n.length=(aty P e).sz) ∧
  opt (hp b) fun β=>(β.mu=true∧β.ty=e∧(β.es.length+ns.length)*(aty P e).bytes≤140737488355328)∧k (.own id) (.grow b ⟨e,β.es++ns,true⟩)):=by
 apply propext
 unfold D9
 rw[← B4]
 constructor
 ·rintro⟨h0,β,h1,h2,h3,h4,h5⟩;exact⟨h0,β,h1,⟨h2,h3,h4⟩,h5⟩
 ·rintro⟨h0,β,h1,⟨h2,h3,h4⟩,h5⟩;exact⟨h0,β,h1,h2,h3,h4,h5⟩
theorem Ahx {e : Nat} {ns : List (List AV)} : D9 P hp id e (.ex (.slice none 0 0)) ns k = (((aty P e).zero.length=(aty P e).sz∧0<(aty P e).sz∧1≤(aty P e).bytes∧∀ n∈ns,n.length=(aty P e).sz) ∧
  ns.length*(aty P e).bytes≤140737488355328∧k (.own id) (.new ⟨e,ns,true⟩)):=rfl
theorem A8r{b:Nat}:Qm hp (.own b)=(hp b).map (·.es):=rfl
theorem Afz{es:List (List AV)}:Qm hp (.sl es)=some es:=rfl
section
variable{ops:Array Oper}{nd b i:Nat}{K:AS→Prop}{σ:AS}
theorem Alm:Ax P C ops nd b i [] K σ=K σ:=rfl
def X4(u:AV)(kt:Bool→Prop)(ku:Prop):Prop:=match u with
 | .ex (.bool t)=>kt t
 | .und=>ku
 | _=>False
@[congr] theorem Ao9{u u':AV}{kt:Bool→Prop}{ku:Prop}(h:u=u'):X4 u kt ku=X4 u' kt ku:=by rw[h]
theorem Aai{t:Bool}{kt:Bool→Prop}{ku:Prop}:X4 (.ex (.bool t)) kt ku=kt t:=rfl
theorem Aaj{kt:Bool→Prop}{ku:Prop}:X4 .und kt ku=ku:=rfl
theorem A8d{dst:Option Tmp}{op:Op}{type:Nat}{pos:String}{after:Array Edge}{g:Nat}{want:Bool}{rest:List Oper}:Ax P C ops nd b i (⟨dst,op,type,pos,after,some (g,want)⟩ :: rest) K σ =
  opt ((ops[g]?).bind (·.dst)) fun d => X4 (σ.tm d) (fun t=>aif (t == want) (A7 P C (b+i) op type σ.ev σ.hp fun u f=>(decide (i<nd)=true→dok (decide (i+1=nd)) σ.hp f)∧Ax P C ops nd b (i+1) rest K ({ σ with hp:=(f.md (decide (i<nd))).app (b+i) σ.hp }.put dst u))
   (Ax P C ops nd b (i+1) rest K (σ.put dst .und))) (Ax P C ops nd b (i+1) rest K (σ.put dst .und)):=by
 have e : Ax P C ops nd b i (⟨dst, op, type, pos, after, some (g, want)⟩ :: rest) K σ = ((∃ t,(((ops[g]?).bind (·.dst)).map σ.tm)=some (.ex (.bool t)) ∧
   if t=want then (A7 P C (b+i) op type σ.ev σ.hp fun u f=>(decide (i<nd)=true→dok (decide (i+1=nd)) σ.hp f)∧Ax P C ops nd b (i+1) rest K ({ σ with hp:=(f.md (decide (i<nd))).app (b+i) σ.hp }.put dst u)) else Ax P C ops nd b (i+1) rest K (σ.put dst .und)) ∨
   ((((ops[g]?).bind (·.dst)).map σ.tm)=some .und∧Ax P C ops nd b (i+1) rest K (σ.put dst .und))):=rfl
 rw[e]
 apply propext
 rw[← B4]
 have key:∀ (t:Bool) (A B:Prop),(if t=want then A else B)↔aif (t == want) A B:=by
  intro t A B
  unfold aif
  by_cases h:t=want
  ·simp [h]
  ·simp [h]
 constructor
 ·rintro (⟨t,h1,h2⟩|⟨h1,h2⟩)
  ·cases hb:(ops[g]?).bind (·.dst) with
   | none=>rw[hb] at h1;cases h1
   | some d =>
    rw[hb] at h1
    have h3:σ.tm d=.ex (.bool t):=by simpa using h1
    exact⟨d,rfl,by rw[h3,Aai];exact (key _ _ _).1 h2⟩
  ·cases hb:(ops[g]?).bind (·.dst) with
   | none=>rw[hb] at h1;cases h1
   | some d =>
    rw[hb] at h1
    have h3:σ.tm d=.und:=by simpa using h1
    exact⟨d,rfl,by rw[h3,Aaj];exact h2⟩
 ·rintro⟨d,h1,h2⟩
  unfold X4 at h2
  split at h2
  ·rename_i t h3
   exact .inl ⟨t,by rw[h1];simp [h3],(key _ _ _).2 h2⟩
  ·rename_i h3
   exact .inr ⟨by rw[h1];simp [h3],h2⟩
  ·exact h2.elim
end
section
variable{Q:Exit→AS→Prop}{σ:AS}
theorem Ks{a b:Code}(h:awp P C a (Es (awp P C b Q) Q) σ):awp P C (.seq a b) Q σ:=h
theorem Gu{i:Nat}{c:Code}(h:awp P C c (Dx i Q) σ):awp P C (.block i c) Q σ:=h
theorem Kt(h:Q .normal σ):awp P C .skip Q σ:=h
theorem Kr{i:Nat}(h:Q (.exit i) σ):awp P C (.exit i) Q σ:=h
theorem U5(h:Q .ret σ):awp P C .ret Q σ:=h
theorem M6{i:Nat}{l:List Oper}(h:Ax P C l.toArray 0 σ.nx 0 l (fun σ'=>Q .normal { σ' with nx:=σ.nx+l.length }) σ):awp P C (.region i l.toArray false) Q σ:=.inl ⟨fun h0=>(by cases h0),by simpa using h⟩
theorem M5{i:Nat}{l:List Oper}(hb:D5 l.toArray (drawn l.toArray)=true)(h:Ax P C l.toArray (drawn l.toArray) σ.nx 0 l (fun σ'=>Q .normal { σ' with nx:=σ.nx+l.length }) σ):awp P C (.region i l.toArray true) Q σ:=.inl ⟨fun _=>hb,by simpa using h⟩
theorem Aan{c:Code}(I:Nat→AS→Prop)(n:Nat)(h:I n σ)(hr:∀ n σ',I n σ'→(∀ t,t ∉ writes c→σ'.tm t=σ.tm t)→σ.nx≤σ'.nx→awp P C c (Es (fun σ''=>∃ m,m<n∧I m σ'') Q) σ'):awp P C (.loop c) Q σ:=⟨I,n,h,hr⟩
theorem Zl{next:AS→Prop}:Es next Q .normal σ=next σ:=rfl
theorem A98{next:AS→Prop}{i:Nat}:Es next Q (.exit i) σ=Q (.exit i) σ:=rfl
theorem Qv{next:AS→Prop}:Es next Q .ret σ=Q .ret σ:=rfl
theorem U7{i:Nat}:Dx i Q .normal σ=Q .normal σ:=rfl
theorem M8{i:Nat}:Dx i Q .ret σ=Q .ret σ:=rfl
theorem A0q{i j:Nat}:Dx i Q (.exit j) σ=if j=i then Q .normal σ else Q (.exit j) σ:=rfl
theorem A1b{kk:AS→Prop}:Kl kk .normal σ=kk σ:=rfl
theorem Uo{kk:AS→Prop}:Kl kk .ret σ=kk σ:=rfl
end
theorem Dl{f:Nat}{args us:List AV}{ids:List Nat}{r:AV}(h1:cls hp args=some (us,ids))(h2:Con P C f us (.val r))(h3:k r (.frz (if K2 r then [] else ids))):B8 P C id f hp args k:=.inl ⟨us,ids,h1,_,h2,h3⟩
theorem A0s{f:Nat}{args us:List AV}{e:Nat}{es:List (List AV)}(h1:cls hp args=some (us,[]))(h2:Con P C f us (.fresh e es))(h3:k (.own id) (.new ⟨e,es,true⟩)):B8 P C id f hp args k:=.inl ⟨us,[],h1,_,h2,rfl,h3⟩
theorem A0t{f b e:Nat}{es es':List (List AV)}{rest us:List AV}{ids:List Nat}(h1:hp b=some ⟨e,es,true⟩)(h2:(es.all (·.all p0))=true)(h3:cls hp rest=some (us,ids))(h4:b ∉ ids)(h5:(es'.all (·.all Dt))=true)(h6:Nr P C f e (es.map (·.map z0)) us es')(h7:k (.own id) (.grow b ⟨e,es',true⟩)):B8 P C id f hp (.own b :: rest) k :=
 .inr (.inl ⟨_,us,ids,es',h1,rfl,h2,h3,h4,h5,h6,h7⟩)
theorem Xd{f e:Nat}{es':List (List AV)}{rest us:List AV}{ids:List Nat}(h3:cls hp rest=some (us,ids))(h5:(es'.all (·.all Dt))=true)(h6:Nr P C f e [] us es')(h7:k (.own id) (.new ⟨e,es',true⟩)):B8 P C id f hp (.ex (.slice none 0 0) :: rest) k :=
 .inr (.inl ⟨e,us,ids,es',h3,h5,h6,h7⟩)
theorem Gw{f:Nat}{xs rs:List Value}{args:List AV}(h0:args=xs.map .ex)(h1:A3e P f xs rs)(h2:∀ r∈rs,r.oneCell'=true)(h3:k (.tup (rs.map .ex)) .none):B8 P C id f hp args k:=.inr (.inr ⟨xs,rs,h0,h1,h2,h3⟩)
theorem Aos{b j off:Nat}:cl1 hp (.pt b j off)=(hp b).bind fun β=>(β.es[j]?).bind fun e=>if e.all p0 && !e.isEmpty then some (.rp (e.map z0) off,[b]) else none:=rfl
theorem Aot{cs:List AV}{off:Nat}:cl1 hp (.rp cs off)=some (.rp cs off,[]):=rfl
theorem Awd{f:Nat}{cs:List AV}:cl hp (.fn f cs)=(Ij hp cs).map fun x=>(.fn f x.1,x.2):=rfl
theorem Awe{b j off:Nat}:cl hp (.pt b j off)=cl1 hp (.pt b j off):=rfl
theorem Awf{cs:List AV}{off:Nat}:cl hp (.rp cs off)=cl1 hp (.rp cs off):=rfl
theorem Aiu{kd:IntKind}{n:Int}:cl1 hp (.ex (.int kd n))=some (.ex (.int kd n),[]):=rfl
theorem Abe{b:Bool}:cl1 hp (.ex (.bool b))=some (.ex (.bool b),[]):=rfl
theorem Aix{s:ByteArray}:cl1 hp (.ex (.string s))=some (.ex (.string s),[]):=rfl
theorem Aiv:cl1 hp (.ex (.slice none 0 0))=some (.sl [],[]):=rfl
theorem Aou{es:List (List AV)}:cl1 hp (.sl es)=some (.sl es,[]):=rfl
theorem Aiw{b:Nat}:cl1 hp (.own b)=(hp b).bind fun β=>if β.es.all (·.all p0) then some (.sl (β.es.map (·.map z0)),[b]) else none:=rfl
theorem Aov{cs:List AV}:cl hp (.agg cs)=(Ij hp cs).map fun x=>(.agg x.1,x.2):=rfl
theorem Awc{x:Value}:cl hp (.ex x)=cl1 hp (.ex x):=rfl
theorem Awg{es:List (List AV)}:cl hp (.sl es)=cl1 hp (.sl es):=rfl
theorem Aow{b:Nat}:cl hp (.own b)=cl1 hp (.own b):=rfl
theorem Aj0:cls hp []=some ([],[]):=rfl
theorem Abg{u:AV}{us:List AV}:cls hp (u :: us)=(cl hp u).bind fun x=>(cls hp us).bind fun y=>some (x.1 :: y.1,x.2++y.2):=rfl
theorem Abf:Ij hp []=some ([],[]):=rfl
theorem A6i{u:AV}{us:List AV}:Ij hp (u :: us)=(cl1 hp u).bind fun x=>(Ij hp us).bind fun y=>some (x.1 :: y.1,x.2++y.2):=rfl
theorem Aad{r:ResultVar}{σ:AS}{kk:AV→Prop}:Dy P #[r] σ kk=B1 P σ r fun u=>opt (cl σ.hp u) fun x=>kk x.1:=by
 have:(fun u=>∃ u' ids,cl σ.hp u=some (u',ids)∧kk u')=fun u=>opt (cl σ.hp u) fun x=>kk x.1:=by
  funext u
  apply propext
  rw[← B4]
  exact⟨fun ⟨a,b,h1,h2⟩=>⟨(a,b),h1,h2⟩,fun ⟨⟨a,b⟩,h1,h2⟩=>⟨a,b,h1,h2⟩⟩
 rw[← this];rfl
theorem Aae{r s:ResultVar}{σ:AS}{kk:AV→Prop}:Dy P #[r,s] σ kk=B1 P σ r fun u=>B1 P σ s fun v=>opt (cls σ.hp [u,v]) fun x=>kk (.tup x.1):=by
 have:(fun u=>B1 P σ s fun v=>∃ us ids,cls σ.hp [u,v]=some (us,ids)∧kk (.tup us))=fun u=>B1 P σ s fun v=>opt (cls σ.hp [u,v]) fun x=>kk (.tup x.1):=by
  funext u
  congr 1
  funext v
  apply propext
  rw[← B4]
  exact⟨fun ⟨a,b,h1,h2⟩=>⟨(a,b),h1,h2⟩,fun ⟨⟨a,b⟩,h1,h2⟩=>⟨a,b,h1,h2⟩⟩
 rw[← this];rfl
theorem U1{r s q:ResultVar}{σ:AS}{kk:AV→Prop}:Dy P #[r,s,q] σ kk=B1 P σ r fun u=>B1 P σ s fun v=>B1 P σ q fun x=>opt (cls σ.hp [u,v,x]) fun x=>kk (.tup x.1):=by
 have:(fun u=>B1 P σ s fun v=>B1 P σ q fun x=>∃ us ids,cls σ.hp [u,v,x]=some (us,ids)∧kk (.tup us))=fun u=>B1 P σ s fun v=>B1 P σ q fun x=>opt (cls σ.hp [u,v,x]) fun x=>kk (.tup x.1):=by
  funext u
  congr 1
  funext v
  congr 1
  funext x
  apply propext
  rw[← B4]
  exact⟨fun ⟨a,b,h1,h2⟩=>⟨(a,b),h1,h2⟩,fun ⟨⟨a,b⟩,h1,h2⟩=>⟨a,b,h1,h2⟩⟩
 rw[← this];rfl
end
end Go.Proofs.YtbhffbgbhgjdiaaGreatDoor
namespace Go.Proofs.YtbhffbgbhgjdiaaGreatDoor
open Go.RowKit
set_option maxRecDepth 100000
section
variable{P:Program}{C:World→Prop}{id:Nat}{ty:Nat}{ev:Operand→AV}{hp:Nat→Option A4}{k:AV→Eff→Prop}
def Aqs(k:AV→Eff→Prop)(u:AV):Prop:=k u .none
theorem Aky{u:AV}:Aqs k u=k u .none:=rfl
def A4e(a b:AV)(k:AV→Eff→Prop)(t:Bool):Prop:=k (if t then a else b) .none
theorem Aks{a b:AV}:A4e a b k true=k a .none:=rfl
theorem Akr{a b:AV}:A4e a b k false=k b .none:=rfl
theorem Adx{a b:AV}{t:Bool}:A4e a b k t=k (if t then a else b) .none:=rfl
theorem B00{c a b:Operand}:A7 P C id (.pick c a b) ty ev hp k=asB (ev c) (A4e (ev a) (ev b) k):=Ajn
def Axm(P:Program)(t id:Nat)(k:AV→Eff→Prop)(cs:List AV):Prop:=(cs.length=(aty P t).sz∧0<cs.length)∧k (.pt id 0 0) (.new ⟨t,[cs],true⟩)
theorem Ak8{t:Nat}{cs:List AV}:Axm P t id k cs=((cs.length=(aty P t).sz∧0<cs.length)∧k (.pt id 0 0) (.new ⟨t,[cs],true⟩)):=rfl
theorem B1a{t:Nat}{x:Operand}:A7 P C id (.box t x) ty ev hp k=opt (ev x).cells (Axm P t id k):=Ap5
def Anb(P:Program)(t:Nat)(k:AV→Eff→Prop)(cs:List AV)(off:Nat):Prop:=Ar P t cs off k
theorem Adl{t off:Nat}{cs:List AV}:Anb P t k cs off=Ar P t cs off k:=rfl
theorem Azx{t:Nat}{x:Operand}:A7 P C id (.load t x) ty ev hp k=plc hp (ev x) (Anb P t k):=Aji
def Ady(off:Nat)(kk:List AV→Nat→Prop)(e:List AV):Prop:=kk e off
theorem Adz{off:Nat}{kk:List AV→Nat→Prop}{e:List AV}:Ady off kk e=kk e off:=rfl
def Axx(j off:Nat)(kk:List AV→Nat→Prop)(β:A4):Prop:=opt β.es[j]? (Ady off kk)
theorem Akt{j off:Nat}{kk:List AV→Nat→Prop}{β:A4}:Axx j off kk β=opt β.es[j]? (Ady off kk):=rfl
theorem Am9{b j off:Nat}{kk:List AV→Nat→Prop}:plc hp (.pt b j off) kk=opt (hp b) (Axx j off kk):=rfl
theorem Ama{cs:List AV}{off:Nat}{kk:List AV→Nat→Prop}:plc hp (.rp cs off) kk=kk cs off:=rfl
def An9(k:AV→Eff→Prop)(u:AV):Prop:=k u .none
theorem Adg{u:AV}:An9 k u=k u .none:=rfl
theorem vld{t off:Nat}{cs:List AV}:Ar P t cs off k=if (aty P t).isAgg=true then (0<(aty P t).sz∧off+(aty P t).sz≤cs.length)∧k (.agg ((cs.drop off).take (aty P t).sz)) .none else (aty P t).known=true∧opt cs[off]? (An9 k):=by
 unfold Ar
 split
 ·rfl
 ·congr 1;exact B4
def Ae2(P:Program)(t:Nat)(k:AV→Eff→Prop)(b j off:Nat)(β:A4)(e cs:List AV):Prop:=(β.mu=true∧cs.length=(aty P t).sz∧0<cs.length∧off+cs.length≤e.length) ∧
  k .junk (.set b ⟨β.ty,β.es.set j (e.take off++cs++e.drop (off+cs.length)),true⟩)
theorem Ae3 {t b j off : Nat} {β : A4} {e cs : List AV} : Ae2 P t k b j off β e cs = ((β.mu=true∧cs.length=(aty P t).sz∧0<cs.length∧off+cs.length≤e.length) ∧
  k .junk (.set b ⟨β.ty,β.es.set j (e.take off++cs++e.drop (off+cs.length)),true⟩)):=rfl
def Axy(P:Program)(t:Nat)(v:AV)(k:AV→Eff→Prop)(b j off:Nat)(β:A4)(e:List AV):Prop:=opt v.cells (Ae2 P t k b j off β e)
theorem Akw{t b j off:Nat}{v:AV}{β:A4}{e:List AV}:Axy P t v k b j off β e=opt v.cells (Ae2 P t k b j off β e):=rfl
theorem Auq{t:Nat}{x v:Operand}:A7 P C id (.store t x v) ty ev hp k=sto hp (ev x) (Axy P t (ev v) k):=Acg
def Aqp(kk:Nat→Nat→Nat→A4→List AV→Prop)(b j off:Nat)(β:A4)(e:List AV):Prop:=kk b j off β e
theorem Akv{kk:Nat→Nat→Nat→A4→List AV→Prop}{b j off:Nat}{β:A4}{e:List AV}:Aqp kk b j off β e=kk b j off β e:=rfl
def ksp(kk:Nat→Nat→Nat→A4→List AV→Prop)(b j off:Nat)(β:A4):Prop:=opt β.es[j]? (Aqp kk b j off β)
theorem Aqq{kk:Nat→Nat→Nat→A4→List AV→Prop}{b j off:Nat}{β:A4}:ksp kk b j off β=opt β.es[j]? (Aqp kk b j off β):=rfl
theorem Amb{b j off:Nat}{kk:Nat→Nat→Nat→A4→List AV→Prop}:sto hp (.pt b j off) kk=opt (hp b) (ksp kk b j off):=rfl
def Adv(P:Program)(id t:Nat)(k:AV→Eff→Prop)(kx:IntKind)(n:Int)(ky:IntKind)(c:Int):Prop:=(kx=.i64∧ky=.i64)∧match (aty P t).k with
  | .slice e=>((aty P e).zero.length=(aty P e).sz∧0<(aty P e).sz∧1≤(aty P e).bytes∧(aty P e).zero.all (·.oneCell')=true)∧if n=0 then (n=0∧0≤c∧(aty P e).bytes*c.toNat≤140737488355328)∧k (.own id) (.new ⟨e,[],true⟩)
    else (0≤n∧n=c∧(aty P e).bytes*n.toNat≤140737488355328)∧k (.own id) (.new ⟨e,List.replicate n.toNat ((aty P e).zero.map .ex),true⟩)
  | _=>False
theorem A4c {t : Nat} {kx ky : IntKind} {n c : Int} : Adv P id t k kx n ky c = ((kx=.i64∧ky=.i64)∧match (aty P t).k with
  | .slice e=>((aty P e).zero.length=(aty P e).sz∧0<(aty P e).sz∧1≤(aty P e).bytes∧(aty P e).zero.all (·.oneCell')=true)∧if n=0 then (n=0∧0≤c∧(aty P e).bytes*c.toNat≤140737488355328)∧k (.own id) (.new ⟨e,[],true⟩)
    else (0≤n∧n=c∧(aty P e).bytes*n.toNat≤140737488355328)∧k (.own id) (.new ⟨e,List.replicate n.toNat ((aty P e).zero.map .ex),true⟩)
  | _=>False):=rfl
theorem Adw {t : Nat} {kx ky : IntKind} {c : Int} : Adv P id t k kx 0 ky c = ((kx=.i64∧ky=.i64)∧match (aty P t).k with
  | .slice e=>((aty P e).zero.length=(aty P e).sz∧0<(aty P e).sz∧1≤(aty P e).bytes∧(aty P e).zero.all (·.oneCell')=true)∧((0:Int)=0∧0≤c∧(aty P e).bytes*c.toNat≤140737488355328) ∧
    k (.own id) (.new ⟨e,[],true⟩)
  | _=>False):=by
 rw[A4c]
 cases (aty P t).k<;>rfl
def kms(P:Program)(id t:Nat)(y:AV)(k:AV→Eff→Prop)(kx:IntKind)(n:Int):Prop:=asI y (Adv P id t k kx n)
theorem Aqk{t:Nat}{y:AV}{kx:IntKind}{n:Int}:kms P id t y k kx n=asI y (Adv P id t k kx n):=rfl
theorem Azy{t:Nat}{x y:Operand}:A7 P C id (.makeSlice t x y) ty ev hp k=asI (ev x) (kms P id t (ev y) k):=Us
def kfa(P:Program)(u:AV)(k:AV→Eff→Prop)(p:Nat×Nat):Prop:=(aty P p.2).sz≠0∧fld u p.1 k
theorem Aqa{u:AV}{a b:Nat}:kfa P u k (a,b)=((aty P b).sz≠0∧fld u a k):=rfl
theorem A2z{s:Nat}{x:Operand}{f:Nat}:A7 P C id (.fieldAddr s x f) ty ev hp k=opt (aty P s).flds[f]? (kfa P (ev x) k):=Uq
def Aqb(P:Program)(a b:Nat)(k:AV→Eff→Prop)(cs:List AV):Prop:=Ar P b cs a k
theorem Ake{a b:Nat}{cs:List AV}:Aqb P a b k cs=Ar P b cs a k:=rfl
def kfd(P:Program)(u:AV)(k:AV→Eff→Prop)(p:Nat×Nat):Prop:=agc u (Aqb P p.1 p.2 k)
theorem Aqc{u:AV}{a b:Nat}:kfd P u k (a,b)=agc u (Aqb P a b k):=rfl
theorem Auj{s:Nat}{x:Operand}{f:Nat}:A7 P C id (.field s x f) ty ev hp k=opt (aty P s).flds[f]? (kfd P (ev x) k):=Acd
def kix(P:Program)(hp:Nat→Option A4)(t:Nat)(u:AV)(k:AV→Eff→Prop)(_:IntKind)(n:Int):Prop:=0≤n∧Ek P hp t u n.toNat k
theorem Aqf{t:Nat}{u:AV}{kd:IntKind}{n:Int}:kix P hp t u k kd n=(0≤n∧Ek P hp t u n.toNat k):=rfl
theorem A30{t:Nat}{x i:Operand}:A7 P C id (.indexAddr t x i) ty ev hp k=asI (ev i) (kix P hp t (ev x) k):=Ur
def Axt(P:Program)(t:Nat)(u:AV)(k:AV→Eff→Prop)(_:IntKind)(n:Int):Prop:=0≤n∧Jr P t u n.toNat k
theorem Akj{t:Nat}{u:AV}{kd:IntKind}{n:Int}:Axt P t u k kd n=(0≤n∧Jr P t u n.toNat k):=rfl
theorem Aul{t:Nat}{x i:Operand}:A7 P C id (.index t x i) ty ev hp k=asI (ev i) (Axt P t (ev x) k):=Ace
def Axn(i:Nat)(k:AV→Eff→Prop)(vs:List AV):Prop:=opt vs[i]? (Aqs k)
theorem Akd{i:Nat}{vs:List AV}:Axn i k vs=opt vs[i]? (Aqs k):=rfl
theorem Agz{x:Operand}{i:Nat}:A7 P C id (.extract x i) ty ev hp k=Agr (ev x) (Axn i k):=A1d
def Apx(k:AV→Eff→Prop)(cs:List AV):Prop:=k (.agg cs) .none
theorem Ak5{cs:List AV}:Apx k cs=k (.agg cs) .none:=rfl
def plf(P:Program)(l:List (Nat×Nat))(i:Nat):Option (Nat×Nat):=(l.map fun f=>(f.1,(aty P f.2).sz))[i]?
def pla(s:Nat)(i:Nat):Option (Nat×Nat):=some (i*s,s)
theorem Arp{s i:Nat}:pla s i=some (i*s,s):=rfl
theorem Ayk{l:List (Nat×Nat)}{a b:Nat}:plf P ((a,b) :: l) 0=some (a,(aty P b).sz):=rfl
theorem Ayl{l:List (Nat×Nat)}{x:Nat×Nat}{i:Nat}:plf P (x :: l) (i+1)=plf P l i:=rfl
theorem Aui {t : Nat} {parts : List (Nat × Operand)} : A7 P C id (.build t parts.toArray) ty ev hp k = (((aty P t).zero.length=(aty P t).sz∧0<(aty P t).sz∧(aty P t).zero.all (·.oneCell')=true)∧match (aty P t).k with
  | .struct=>((aty P t).flds.all fun f=>decide (0<(aty P f.2).sz))=true∧opt (F8 (plf P (aty P t).flds) ((aty P t).zero.map .ex) (parts.map fun x=>(x.1,ev x.2))) (Apx k)
  | .arr _ e=>0<(aty P e).sz∧opt (F8 (pla (aty P e).sz) ((aty P t).zero.map .ex) (parts.map fun x=>(x.1,ev x.2))) (Apx k)
  | _=>False):=Xv
theorem Aci{pl:Nat→Option (Nat×Nat)}{cs:List AV}:F8 pl cs []=some cs:=rfl
theorem A75{pl:Nat→Option (Nat×Nat)}{cs:List AV}{i:Nat}{u:AV}{l:List (Nat×AV)}:F8 pl cs ((i,u) :: l)=(pl i).bind fun p=>u.cells.bind fun c=>if c.length≠p.2∨p.1+c.length > cs.length then none else F8 pl (cs.take p.1++c++cs.drop (p.1+c.length)) l:=rfl
def aeq(P:Program)(t:TypeId)(xs ys:List AV)(kk:Bool→Prop):Prop:=∃ b,Hy P t xs ys b∧kk b
theorem Ow{t:TypeId}{xs ys:List AV}{kk:Bool→Prop}{b:Bool}(h:Hy P t xs ys b)(h2:kk b):aeq P t xs ys kk:=⟨b,h,h2⟩
@[congr] theorem Auz{t:TypeId}{xs xs' ys ys':List AV}{kk:Bool→Prop}(h:xs=xs')(h2:ys=ys'):aeq P t xs ys kk=aeq P t xs' ys' kk:=by rw[h,h2]
def Axj(k:AV→Eff→Prop)(b:Bool):Prop:=k (.ex (.bool b)) .none
theorem Ak4{b:Bool}:Axj k b=k (.ex (.bool b)) .none:=rfl
def Axk(k:AV→Eff→Prop)(b:Bool):Prop:=k (.ex (.bool (!b))) .none
theorem Ak6{b:Bool}:Axk k b=k (.ex (.bool (!b))) .none:=rfl
theorem A9d{t:Nat}{x y:List AV}:Ag P .eql t (.agg x) (.agg y) k=aeq P t x y (Axj k):=Aap
theorem A9e{t:Nat}{x y:List AV}:Ag P .neq t (.agg x) (.agg y) k=aeq P t x y (Axk k):=Aaq
def Lh(sz:Nat):Nat→List (Nat×AV)→Option (List (List AV))
 | _,[]=>some []
 | i,(j,u) :: l=>u.cells.bind fun c=>if j=i∧c.length=sz then (Lh sz (i+1) l).map (c :: ·) else none
theorem Ta{sz i:Nat}:Lh sz i []=some []:=rfl
theorem Qo{sz i j:Nat}{u:AV}{l:List (Nat×AV)}:Lh sz i ((j,u) :: l)=u.cells.bind fun c=>if j=i∧c.length=sz then (Lh sz (i+1) l).map (c :: ·) else none:=rfl
theorem Qp{sz:Nat}:∀ {l:List (Nat×AV)} {i:Nat} {rs:List (List AV)},Lh sz i l=some rs→l.map (·.1)=List.range' i l.length∧(l.all fun x=>(x.2.cells.map (·.length)) == some sz)=true∧rs=l.filterMap fun x=>x.2.cells
 | [],i,rs,h=>by simp only[Ta,Option.some.injEq] at h;subst h;exact⟨rfl,rfl,rfl⟩
 | (j,u) :: l,i,rs,h=>by
  rw[Qo] at h
  cases hc:u.cells with
  | none=>rw[hc] at h;cases h
  | some c =>
   rw[hc,Option.bind_some] at h
   split at h
   ·rename_i hj
    obtain⟨rfl,hcl⟩:=hj
    cases hr:Lh sz (j+1) l with
    | none=>rw[hr] at h;cases h
    | some q =>
     rw[hr,Option.map_some,Option.some.injEq] at h
     obtain⟨h1,h2,h3⟩:=Qp hr
     refine⟨?_, ?_, ?_⟩
     ·rw[List.map_cons,List.length_cons,List.range'_succ,h1]
     ·rw[List.all_cons,h2,hc];simp [hcl]
     ·rw[← h,h3,List.filterMap_cons];simp [hc]
   ·cases h
def Aku(e id:Nat)(k:AV→Eff→Prop)(rs:List (List AV)):Prop:=k (.own id) (.new ⟨e,rs,true⟩)
theorem A4f{e:Nat}{rs:List (List AV)}:Aku e id k rs=k (.own id) (.new ⟨e,rs,true⟩):=rfl
theorem Agw{t len:Nat}{parts:List (Nat×Operand)}(e:Nat)(ht:(aty P t).k=.slice e)(h1:((aty P e).zero.length=(aty P e).sz∧0<(aty P e).sz∧len*(aty P e).sz≤16777216∧(aty P e).zero.all (·.oneCell')=true)∧parts.length=len)
  (h:opt (Lh (aty P e).sz 0 (parts.map fun x=>(x.1,ev x.2))) (Aku e id k)):A7 P C id (.buildSlice t len parts.toArray) ty ev hp k:=by
 rw[Jq,ht]
 rw[← B4] at h
 obtain⟨rs,h2,h3⟩:=h
 obtain⟨g1,g2,g3⟩:=Qp h2
 refine⟨h1.1,⟨?_, ?_⟩, ?_⟩
 ·rw[List.map_map,List.length_map,h1.2] at g1
  rw[List.range_eq_range']
  exact g1
 ·rw[List.all_map] at g2
  exact g2
 ·rw[A4f,g3,List.filterMap_map] at h3
  exact .inl h3
def elemOf:TK→Nat
 | .slice e=>e
 | _=>0
theorem Eu{e:Nat}:elemOf (.slice e)=e:=rfl
theorem Am7{t len:Nat}{parts:List (Nat×Operand)}(ht:(aty P t).k=.slice (elemOf (aty P t).k))(h1:((aty P (elemOf (aty P t).k)).zero.length=(aty P (elemOf (aty P t).k)).sz∧0<(aty P (elemOf (aty P t).k)).sz∧len*(aty P (elemOf (aty P t).k)).sz≤16777216∧(aty P (elemOf (aty P t).k)).zero.all (·.oneCell')=true)∧parts.length=len)
  (h:opt (Lh (aty P (elemOf (aty P t).k)).sz 0 (parts.map fun x=>(x.1,ev x.2))) (Aku (elemOf (aty P t).k) id k)):A7 P C id (.buildSlice t len parts.toArray) ty ev hp k :=
 Agw _ ht h1 h
theorem Pc{t:Nat}(ht:(aty P t).k=.slice (elemOf (aty P t).k))(h1:(aty P (elemOf (aty P t).k)).zero.length=(aty P (elemOf (aty P t).k)).sz∧0<(aty P (elemOf (aty P t).k)).sz∧0*(aty P (elemOf (aty P t).k)).sz≤16777216∧(aty P (elemOf (aty P t).k)).zero.all (·.oneCell')=true)
  (h:k .em .none):A7 P C id (.buildSlice t 0 [].toArray) ty ev hp k:=by
 rw[Jq,ht]
 exact⟨h1,⟨rfl,rfl⟩,.inr ⟨rfl,h⟩⟩
theorem Oz{e:Nat}{ns:List (List AV)}(h0:(aty P e).zero.length=(aty P e).sz∧0<(aty P e).sz∧1≤(aty P e).bytes∧∀ n∈ns,n.length=(aty P e).sz)(h1:0<ns.length)(h2:ns.length*(aty P e).bytes≤140737488355328)
  (h:k (.own id) (.new ⟨e,ns,true⟩)):D9 P hp id e .em ns k:=⟨h0,.inr ⟨⟨List.ne_nil_of_length_pos h1,h2⟩,h⟩⟩
theorem Kn{e:Nat}{ns:List (List AV)}(h0:(aty P e).zero.length=(aty P e).sz∧0<(aty P e).sz∧1≤(aty P e).bytes∧∀ n∈ns,n.length=(aty P e).sz)(h1:ns=[])
  (h:k .em .none):D9 P hp id e .em ns k:=⟨h0,.inl ⟨h1,h⟩⟩
def Axl(P:Program)(hp:Nat→Option A4)(id e:Nat)(s:AV)(k:AV→Eff→Prop)(ns:List (List AV)):Prop:=D9 P hp id e s ns k
theorem Ak7{e:Nat}{s:AV}{ns:List (List AV)}:Axl P hp id e s k ns=D9 P hp id e s ns k:=rfl
theorem B19{s x:Operand}{t t2:Nat}:A7 P C id (.call ⟨.builtin .append,#[s,x],#[t,t2]⟩) ty ev hp k=match (aty P t).k with
    | .slice e=>t2=t∧opt (Qm hp (ev x)) (Axl P hp id e (ev s) k)
    | _=>False:=Ap3
def An6(P:Program)(id e b:Nat)(ns:List (List AV))(k:AV→Eff→Prop)(β:A4):Prop:=(β.mu=true∧β.ty=e∧(β.es.length+ns.length)*(aty P e).bytes≤140737488355328)∧k (.own id) (.grow b ⟨e,β.es++ns,true⟩)
theorem Adc{e b:Nat}{ns:List (List AV)}{β:A4}:An6 P id e b ns k β=((β.mu=true∧β.ty=e∧(β.es.length+ns.length)*(aty P e).bytes≤140737488355328)∧k (.own id) (.grow b ⟨e,β.es++ns,true⟩)):=rfl
theorem Agu{e b:Nat}{ns:List (List AV)}:D9 P hp id e (.own b) ns k=(((aty P e).zero.length=(aty P e).sz∧0<(aty P e).sz∧1≤(aty P e).bytes∧∀ n∈ns,n.length=(aty P e).sz)∧opt (hp b) (An6 P id e b ns k)):=Ahy
def Adt(kd:IntKind)(a:Int)(k:AV→Eff→Prop)(_:IntKind)(b:Int):Prop:=k (.ex (.int kd (if b<a then b else a))) .none
theorem Adu{kd kd':IntKind}{a b:Int}:Adt kd a k kd' b=k (.ex (.int kd (if b<a then b else a))) .none:=rfl
def Axw(y:AV)(k:AV→Eff→Prop)(kd:IntKind)(a:Int):Prop:=asI y (Adt kd a k)
theorem Ako{y:AV}{kd:IntKind}{a:Int}:Axw y k kd a=asI y (Adt kd a k):=rfl
theorem B1c{x y:Operand}{tys:Array Nat}:A7 P C id (.call ⟨.builtin .min,#[x,y],tys⟩) ty ev hp k=asI (ev x) (Axw (ev y) k):=Ap9
def Adm(kd:IntKind)(a:Int)(k:AV→Eff→Prop)(_:IntKind)(b:Int):Prop:=k (.ex (.int kd (if a<b then b else a))) .none
theorem Adn{kd kd':IntKind}{a b:Int}:Adm kd a k kd' b=k (.ex (.int kd (if a<b then b else a))) .none:=rfl
def Axv(y:AV)(k:AV→Eff→Prop)(kd:IntKind)(a:Int):Prop:=asI y (Adm kd a k)
theorem Akn{y:AV}{kd:IntKind}{a:Int}:Axv y k kd a=asI y (Adm kd a k):=rfl
theorem B1b{x y:Operand}{tys:Array Nat}:A7 P C id (.call ⟨.builtin .max,#[x,y],tys⟩) ty ev hp k=asI (ev x) (Axv (ev y) k):=Ap8
def Adr(kd:IntKind)(a b:Int)(k:AV→Eff→Prop)(_:IntKind)(d:Int):Prop:=k (.ex (.int kd (if (if a<b then b else a)<d then d else (if a<b then b else a)))) .none
theorem Ads{kd kd':IntKind}{a b d:Int}:Adr kd a b k kd' d=k (.ex (.int kd (if (if a<b then b else a)<d then d else (if a<b then b else a)))) .none:=rfl
def Adp(kd:IntKind)(a:Int)(z:AV)(k:AV→Eff→Prop)(_:IntKind)(b:Int):Prop:=asI z (Adr kd a b k)
theorem Adq{kd kd':IntKind}{a b:Int}{z:AV}:Adp kd a z k kd' b=asI z (Adr kd a b k):=rfl
def Anc(y z:AV)(k:AV→Eff→Prop)(kd:IntKind)(a:Int):Prop:=asI y (Adp kd a z k)
theorem Ado{y z:AV}{kd:IntKind}{a:Int}:Anc y z k kd a=asI y (Adp kd a z k):=rfl
theorem Azz{x y z:Operand}{tys:Array Nat}:A7 P C id (.call ⟨.builtin .max,#[x,y,z],tys⟩) ty ev hp k=asI (ev x) (Anc (ev y) (ev z) k):=Ajj
def Aqr(k:AV→Eff→Prop)(x:ByteArray):Prop:=k (.ex (.string x)) .none
theorem Akx{x:ByteArray}:Aqr k x=k (.ex (.string x)) .none:=rfl
def isBytes(P:Program)(s:Nat):Prop:=match (aty P s).k with|.slice e=>(match (aty P e).k with|.int .u8=>True|_=>False)|_=>False
theorem Agy{s d:Nat}{es:List (List AV)}:Bm P hp s d (.sl es) k=match (aty P d).k with
  | .str=>isBytes P s∧toStr hp (.sl es) (Aqr k)
  | _=>False:=Aj6
theorem Agx{s d:Nat}{b:Nat}:Bm P hp s d (.own b) k=match (aty P d).k with
  | .str=>isBytes P s∧toStr hp (.own b) (Aqr k)
  | _=>False:=Aj5
def Axu(k:AV→Eff→Prop)(β:A4):Prop:=k (.ex (.int .i64 β.es.length)) .none
theorem Akk{β:A4}:Axu k β=k (.ex (.int .i64 β.es.length)) .none:=rfl
theorem Ah1{t:Nat}{b:Nat}:Cf P hp t (.own b) k=match (aty P t).k with
  | .arr n _=>k (.ex (.int .i64 n)) .none
  | .slice _=>opt (hp b) (Axu k)
  | _=>False:=Al5
theorem Ah2{t:Nat}{x:ByteArray}:Cf P hp t (.ex (.string x)) k=match (aty P t).k with
  | .str=>k (.ex (.int .i64 x.size)) .none
  | .arr n _=>k (.ex (.int .i64 n)) .none
  | _=>False:=by
 rw[Al6]
 cases (aty P t).k<;>rfl
def Axr(P:Program)(e b n:Nat)(k:AV→Eff→Prop)(β:A4):Prop:=((β.ty=e∧0<(aty P e).sz)∧n<β.es.length)∧k (.pt b n 0) .none
theorem Akh{e b n:Nat}{β:A4}:Axr P e b n k β=(((β.ty=e∧0<(aty P e).sz)∧n<β.es.length)∧k (.pt b n 0) .none):=rfl
theorem Am8{t b n:Nat}:Ek P hp t (.own b) n k=match (aty P t).k with
  | .slice e=>opt (hp b) (Axr P e b n k)
  | _=>False:=Apw
def Axs(P:Program)(e:Nat)(k:AV→Eff→Prop)(x:List AV):Prop:=(0<(aty P e).sz∧x.length=(aty P e).sz)∧k (.rp x 0) .none
theorem Aki{e:Nat}{x:List AV}:Axs P e k x=((0<(aty P e).sz∧x.length=(aty P e).sz)∧k (.rp x 0) .none):=rfl
theorem Aum{t n:Nat}{es:List (List AV)}:Ek P hp t (.sl es) n k=match (aty P t).k with
  | .slice e=>opt es[n]? (Axs P e k)
  | _=>False:=Axh
def Ma(s:ByteArray)(n:Nat):Option UInt8:=if h:n<s.size then some (s[n]'h) else none
theorem A6c{s:ByteArray}{n:Nat}(h:n<s.size):Ma s n=some (s[n]'h):=dif_pos h
def An8(k:AV→Eff→Prop)(c:UInt8):Prop:=k (.ex (.int .u8 c.toNat)) .none
theorem Adf{c:UInt8}:An8 k c=k (.ex (.int .u8 c.toNat)) .none:=rfl
theorem Ah0{t n:Nat}{x:ByteArray}:Jr P t (.ex (.string x)) n k=match (aty P t).k with
  | .str=>opt (Ma x n) (An8 k)
  | _=>False:=by
 rw[Ak2]
 cases (aty P t).k<;>try rfl
 dsimp only
 apply propext
 unfold Ma
 by_cases h:n<x.size
 ·rw[dif_pos h,Qf];exact⟨fun ⟨_,h2⟩=>h2,fun h2=>⟨h,h2⟩⟩
 ·rw[dif_neg h];exact⟨fun ⟨h1,_⟩=>h h1,fun h2=>h2.elim⟩
def kbs(kk:Nat→Prop)(_:IntKind)(n:Int):Prop:=0≤n∧kk n.toNat
theorem Apy{kk:Nat→Prop}{kd:IntKind}{n:Int}:kbs kk kd n=(0≤n∧kk n.toNat):=rfl
def Ih(d:Nat)(u:Option AV)(kk:Nat→Prop):Prop:=match u with|none=>kk d|some x=>asI x (kbs kk)
theorem A69{d:Nat}{kk:Nat→Prop}:Ih d none kk=kk d:=rfl
theorem Rz{d:Nat}{x:AV}{kk:Nat→Prop}:Ih d (some x) kk=asI x (kbs kk):=rfl
theorem Fm{d:Nat}{x:Option Operand}{kk:Nat→Prop}:bnd d ev x kk=Ih d (x.map ev) kk:=by
 cases x with
 | none=>rfl
 | some y=>exact D8
def ks2(x:ByteArray)(k:AV→Eff→Prop)(l h:Nat):Prop:=(l≤h∧h≤x.size)∧k (.ex (.string (x.extract l h))) .none
theorem Ae1{x:ByteArray}{l h:Nat}:ks2 x k l h=((l≤h∧h≤x.size)∧k (.ex (.string (x.extract l h))) .none):=rfl
def ks1(x:ByteArray)(hi:Option AV)(k:AV→Eff→Prop)(l:Nat):Prop:=Ih x.size hi (ks2 x k l)
theorem Ae0{x:ByteArray}{hi:Option AV}{l:Nat}:ks1 x hi k l=Ih x.size hi (ks2 x k l):=rfl
theorem A32{t:Nat}{x:ByteArray}{lo hi mx:Option Operand}:B7 P hp id t (.ex (.string x)) ev lo hi mx k=match (aty P t).k with
  | .str=>mx.isNone=true∧Ih 0 (lo.map ev) (ks1 x (hi.map ev) k)
  | _=>False:=by
 rw[A90]
 cases (aty P t).k<;>try rfl
 dsimp only
 rw[Fm,Option.isNone_iff_eq_none]
 congr 2
 funext l
 rw[Fm,Ae0]
 congr 1
 funext h
 rw[Ae1,and_assoc]
def kt3(es:List (List AV))(k:AV→Eff→Prop)(l h m:Nat):Prop:=(l≤h∧h≤m∧m≤es.length)∧k (.sl ((es.take h).drop l)) .none
theorem Ae6{es:List (List AV)}{l h m:Nat}:kt3 es k l h m=((l≤h∧h≤m∧m≤es.length)∧k (.sl ((es.take h).drop l)) .none):=rfl
def kt2(es:List (List AV))(mx:Option AV)(k:AV→Eff→Prop)(l h:Nat):Prop:=Ih es.length mx (kt3 es k l h)
theorem Ae5{es:List (List AV)}{mx:Option AV}{l h:Nat}:kt2 es mx k l h=Ih es.length mx (kt3 es k l h):=rfl
def kt1(es:List (List AV))(hi mx:Option AV)(k:AV→Eff→Prop)(l:Nat):Prop:=Ih es.length hi (kt2 es mx k l)
theorem Ae4{es:List (List AV)}{hi mx:Option AV}{l:Nat}:kt1 es hi mx k l=Ih es.length hi (kt2 es mx k l):=rfl
theorem A9f{t:Nat}{es:List (List AV)}{lo hi mx:Option Operand}:B7 P hp id t (.sl es) ev lo hi mx k=match (aty P t).k with
  | .slice e=>(0<(aty P e).sz∧(hi.isSome || mx.isNone)=true∧∀ x∈es,x.length=(aty P e).sz)∧Ih 0 (lo.map ev) (kt1 es (hi.map ev) (mx.map ev) k)
  | _=>False:=by
 rw[Agh]
 cases (aty P t).k<;>try rfl
 dsimp only
 rw[Fm]
 have e1:(hi=none→mx=none)=((hi.isSome || mx.isNone)=true):=by cases hi<;>cases mx<;>simp
 rw[e1]
 congr 2
 funext l
 rw[Fm,Ae4]
 congr 1
 funext h
 rw[Fm,Ae5]
 congr 1
 funext m
 rw[Ae6,and_assoc,and_assoc]
def tmI(us:List AV)(t:Nat):AV:=us.getD t .junk
def hpI:Nat→Option A4:=fun _=>none
theorem Jc{us:List AV}:init us=⟨tmI us,hpI,0⟩:=rfl
theorem Am2{t:Nat}:tmI [] t=.junk:=rfl
theorem Anp{u:AV}{us:List AV}:tmI (u :: us) 0=u:=rfl
theorem Anq{u:AV}{us:List AV}{t:Nat}:tmI (u :: us) (t+1)=tmI us t:=rfl
theorem Acw{t:Nat}:hpI t=none:=rfl
theorem Afv{σ:AS}{u:AV}:AS.put σ none u=σ:=rfl
theorem Afw{tm:Nat→AV}{nx d:Nat}{u:AV}:AS.put ⟨tm,hp,nx⟩ (some d) u=⟨upd tm d u,hp,nx⟩:=rfl
theorem Apc{tm:Nat→AV}{nx t:Nat}:AS.ev ⟨tm,hp,nx⟩ (.tmp t)=tm t:=rfl
theorem Ap6{σ:AS}{kd:IntKind}{n:Int}:AS.ev σ (.const (.int kd n))=.ex (.int kd n):=rfl
theorem Ajf{σ:AS}{b:Bool}:AS.ev σ (.const (.bool b))=.ex (.bool b):=rfl
theorem Apb{σ:AS}{x:ByteArray}:AS.ev σ (.const (.string x))=.ex (.string x):=rfl
theorem Ajl{σ:AS}:AS.ev σ (.const (.slice none 0 0))=.ex (.slice none 0 0):=rfl
theorem Ajm{σ:AS}:AS.ev σ (.const .nilIface)=.ex .nilIface:=rfl
theorem Aba{v:Value}:(AV.ex v).cells=some [.ex v]:=rfl
theorem A6f{cs:List AV}:(AV.agg cs).cells=some cs:=rfl
theorem Abb{es:List (List AV)}:(AV.sl es).cells=some [.sl es]:=rfl
theorem A6g{b:Nat}:(AV.own b).cells=some [.own b]:=rfl
theorem Als{es:List (List AV)}:Fc hp (.sl es)=some es:=rfl
theorem Ag1{b:Nat}:Fc hp (.own b)=(hp b).map (·.es):=rfl
theorem Ag0:Fc hp (.ex (.slice none 0 0))=some []:=rfl
theorem A8q:Qm hp (.ex (.slice none 0 0))=some []:=rfl
theorem Afk{α:Type}{kk:α→Prop}:opt none kk=False:=rfl
theorem wrap_i64{x:Int}(h1:-9223372036854775808≤x)(h2:x≤9223372036854775807):IntKind.i64.wrap x=x:=by rw[IntKind.wrap_i64];omega
theorem wrap_u8{x:Int}(h1:0≤x)(h2:x≤255):IntKind.u8.wrap x=x:=by
 have e:IntKind.u8.wrap x=x % 256:=by simp [IntKind.wrap,IntKind.bits,IntKind.signed]
 rw[e];omega
theorem wrap_u64{x:Int}(h1:0≤x)(h2:x≤18446744073709551615):IntKind.u64.wrap x=x:=by
 have e:IntKind.u64.wrap x=x % 18446744073709551616:=by simp [IntKind.wrap,IntKind.bits,IntKind.signed]
 rw[e];omega
theorem C7(k:Nat):((k+1:Nat):Int)=(k:Int)+1:=by omega
theorem B0w:((0:Nat):Int)=0:=rfl
theorem B0v(k:Nat):(0≤(k:Int))=True:=by simp
theorem B0m:((1:Nat):Int)=1:=rfl
theorem B0n:((2:Nat):Int)=2:=rfl
theorem B0o:((3:Nat):Int)=3:=rfl
theorem B0p:((4:Nat):Int)=4:=rfl
theorem B0q:((5:Nat):Int)=5:=rfl
theorem B0r:((6:Nat):Int)=6:=rfl
theorem B0s:((7:Nat):Int)=7:=rfl
theorem B0t:((8:Nat):Int)=8:=rfl
theorem B0u:((9:Nat):Int)=9:=rfl
theorem Ay3:((10:Nat):Int)=10:=rfl
theorem Ay4:((11:Nat):Int)=11:=rfl
theorem Ay5:((12:Nat):Int)=12:=rfl
theorem Aqz{a n m:Nat}(h:a<n+m):(a=n+m)=False:=by simp;omega
theorem Ar0{a n m:Nat}(h:n+m<a):(a=n+m)=False:=by simp;omega
theorem Ald{v:Value}:K2 (.ex v)=true:=rfl
theorem Af2{cs:List AV}:K2 (.tup cs)=cs.all Lc:=rfl
theorem Aez{cs:List AV}:K2 (.agg cs)=cs.all Dt:=rfl
theorem Aey{v:Value}:Lc (.ex v)=true:=rfl
theorem A81{cs:List AV}:Lc (.agg cs)=cs.all Dt:=rfl
theorem Aex{v:Value}:Dt (.ex v)=true:=rfl
theorem Af0:K2 (.sl [])=true:=rfl
theorem A82:Lc (.sl [])=true:=rfl
section
variable{ops:Array Oper}{nd b i:Nat}{K:AS→Prop}{σ:AS}
def Ev(P:Program)(C:World→Prop)(ops:Array Oper)(nd b i:Nat)(rest:List Oper)(K:AS→Prop)(tm:Nat→AV)(hp:Nat→Option A4)(nx:Nat)(dst:Option Tmp)(u:AV)(f:Eff):Prop :=
 (decide (i<nd)=true→dok (decide (i+1=nd)) hp f)∧Ax P C ops nd b (i+1) rest K (AS.put ⟨tm,(f.md (decide (i<nd))).app (b+i) hp,nx⟩ dst u)
def A0n(nd i:Nat)(u:AV):AV:=if i<nd then .junk else u
theorem Ao6{i:Nat}{u:AV}:A0n 0 i u=u:=if_neg (by omega)
theorem Ao7{nd i:Nat}{u:AV}(h:Nat.ble (i+1) nd=true):A0n nd i u=.junk:=if_pos (Nat.le_of_ble_eq_true h)
theorem B02{nd i:Nat}{u v:AV}{us vs:List AV}(h:Nat.ble (i+1) nd=true)(k:wkL us vs):wkL (A0n nd i u :: us) (v :: vs):=⟨.inl (Ao7 h),k⟩
theorem Amd{t:Nat}{m:Bool}{us vs:List AV}(h:wkL us vs):wkR ⟨t,[us],m⟩ ⟨t,[vs],m⟩:=⟨rfl,rfl,h,trivial⟩
def Za(nd i:Nat)(hp:Nat→Option A4)(c:Nat)(γ:A4):Prop:=i<nd→i+1=nd∧∃ β,hp c=some β∧wkR β γ
theorem Aly{i c:Nat}{γ:A4}:Za 0 i hp c γ:=fun h=>absurd h (by omega)
theorem Agd{nd i c:Nat}{γ:A4}(h:Nat.ble nd i=true):Za nd i hp c γ:=fun h'=>absurd (Nat.le_of_ble_eq_true h) (by omega)
theorem A2o{nd i c:Nat}{β γ:A4}(h:Nat.beq (i+1) nd=true)(h1:hp c=some β)(h2:wkR β γ):Za nd i hp c γ:=fun _=>⟨Nat.eq_of_beq_eq_true h,β,h1,h2⟩
theorem A1t{rest:List Oper}{tm:Nat→AV}{nx:Nat}{dst:Option Tmp}{u:AV}:Ev P C ops nd b i rest K tm hp nx dst u .none=Ax P C ops nd b (i+1) rest K (AS.put ⟨tm,hp,nx⟩ dst u):=by
 simp [Ev,dok,Eff.md,Eff.quiet,Eff.app]
theorem A7m{rest:List Oper}{tm:Nat→AV}{nx:Nat}{dst:Option Tmp}{u:AV}{β:A4}:Ev P C ops nd b i rest K tm hp nx dst u (.new β)=Ax P C ops nd b (i+1) rest K (AS.put ⟨tm,upd hp (b+i) (some β),nx⟩ dst u):=by
 simp [Ev,dok,Eff.md,Eff.quiet,Eff.app]
theorem A7k{rest:List Oper}{tm:Nat→AV}{nx:Nat}{dst:Option Tmp}{u:AV}{t:Nat}{z:List AV}:Ev P C ops nd b i rest K tm hp nx dst u (.alc t z)=Ax P C ops nd b (i+1) rest K (AS.put ⟨tm,upd hp (b+i) (some ⟨t,[z.map (A0n nd i)],true⟩),nx⟩ dst u):=by
 unfold Ev
 by_cases h:i<nd
 ·have e:z.map (A0n nd i)=blank z:=List.map_congr_left fun x _=>if_pos h
  simp [dok,Eff.md,Eff.quiet,Eff.app,h,e]
 ·have e:z.map (A0n nd i)=z:=by
   rw[show A0n nd i=id from funext fun x=>if_neg h,List.map_id]
  simp [Eff.md,Eff.app,h,e]
theorem A1r{rest:List Oper}{tm:Nat→AV}{nx:Nat}{dst:Option Tmp}{u:AV}:Ev P C ops nd b i rest K tm hp nx dst u (.frz [])=Ax P C ops nd b (i+1) rest K (AS.put ⟨tm,hp,nx⟩ dst u):=by
 unfold Ev Eff.md
 dsimp only
 rw[G8]
 simp [dok,Eff.quiet]
theorem A7l{rest:List Oper}{tm:Nat→AV}{nx:Nat}{dst:Option Tmp}{u:AV}{j:Nat}{js:List Nat}:Ev P C ops nd b i rest K tm hp nx dst u (.frz (j :: js))=(nd≤i∧Ax P C ops nd b (i+1) rest K (AS.put ⟨tm,(Eff.frz (j :: js)).app (b+i) hp,nx⟩ dst u)):=by
 unfold Ev
 simp [dok,Eff.md,Eff.quiet]
theorem A7n{rest:List Oper}{tm:Nat→AV}{nx:Nat}{dst:Option Tmp}{u:AV}{c:Nat}{β:A4}:Ev P C ops nd b i rest K tm hp nx dst u (.set c β)=(Za nd i hp c β∧Ax P C ops nd b (i+1) rest K (AS.put ⟨tm,upd hp c (some β),nx⟩ dst u)):=by
 unfold Ev Za
 simp [dok,Eff.md,Eff.app]
theorem A1s{rest:List Oper}{tm:Nat→AV}{nx:Nat}{dst:Option Tmp}{u:AV}{c:Nat}{β:A4}:Ev P C ops nd b i rest K tm hp nx dst u (.grow c β)=(nd≤i∧Ax P C ops nd b (i+1) rest K (AS.put ⟨tm,upd (upd hp c none) (b+i) (some β),nx⟩ dst u)):=by
 unfold Ev
 simp [dok,Eff.md,Eff.quiet,Eff.app]
theorem Ah3{dst:Option Tmp}{op:Op}{type:Nat}{pos:String}{after:Array Edge}{rest:List Oper}{tm:Nat→AV}{nx:Nat}:Ax P C ops nd b i (⟨dst,op,type,pos,after,none⟩ :: rest) K ⟨tm,hp,nx⟩ =
  A7 P C (b+i) op type (AS.ev ⟨tm,hp,nx⟩) hp (Ev P C ops nd b i rest K tm hp nx dst):=rfl
def gif(c:Bool)(P:Program)(C:World→Prop)(ops:Array Oper)(nd b i:Nat)(op:Op)(type:Nat)(rest:List Oper)(K:AS→Prop)(tm:Nat→AV)(hp:Nat→Option A4)(nx:Nat)(dst:Option Tmp):Prop :=
 aif c (A7 P C (b+i) op type (AS.ev ⟨tm,hp,nx⟩) hp (Ev P C ops nd b i rest K tm hp nx dst)) (Ax P C ops nd b (i+1) rest K (AS.put ⟨tm,hp,nx⟩ dst .und))
theorem Aco{op:Op}{type:Nat}{rest:List Oper}{tm:Nat→AV}{nx:Nat}{dst:Option Tmp}:gif true P C ops nd b i op type rest K tm hp nx dst=A7 P C (b+i) op type (AS.ev ⟨tm,hp,nx⟩) hp (Ev P C ops nd b i rest K tm hp nx dst):=Ox _ _
theorem A79{op:Op}{type:Nat}{rest:List Oper}{tm:Nat→AV}{nx:Nat}{dst:Option Tmp}:gif false P C ops nd b i op type rest K tm hp nx dst=Ax P C ops nd b (i+1) rest K (AS.put ⟨tm,hp,nx⟩ dst .und):=M2 _ _
theorem Acp{c:Bool}{op:Op}{type:Nat}{rest:List Oper}{tm:Nat→AV}{nx:Nat}{dst:Option Tmp}(h1:c=true→gif true P C ops nd b i op type rest K tm hp nx dst)(h2:c=false→gif false P C ops nd b i op type rest K tm hp nx dst):gif c P C ops nd b i op type rest K tm hp nx dst:=by
 cases c
 ·exact h2 rfl
 ·exact h1 rfl
def kg2(P:Program)(C:World→Prop)(ops:Array Oper)(nd b i:Nat)(want:Bool)(op:Op)(type:Nat)(rest:List Oper)(K:AS→Prop)(tm:Nat→AV)(hp:Nat→Option A4)(nx:Nat)(dst:Option Tmp)(t:Bool):Prop:=gif (t == want) P C ops nd b i op type rest K tm hp nx dst
theorem Axp{op:Op}{type:Nat}{rest:List Oper}{tm:Nat→AV}{nx:Nat}{dst:Option Tmp}{t:Bool}:kg2 P C ops nd b i true op type rest K tm hp nx dst t=gif t P C ops nd b i op type rest K tm hp nx dst:=by
 unfold kg2;cases t<;>rfl
theorem Axo{op:Op}{type:Nat}{rest:List Oper}{tm:Nat→AV}{nx:Nat}{dst:Option Tmp}{t:Bool}:kg2 P C ops nd b i false op type rest K tm hp nx dst t=gif (!t) P C ops nd b i op type rest K tm hp nx dst:=by
 unfold kg2;cases t<;>rfl
def kg(P:Program)(C:World→Prop)(ops:Array Oper)(nd b i:Nat)(want:Bool)(op:Op)(type:Nat)(rest:List Oper)(K:AS→Prop)(tm:Nat→AV)(hp:Nat→Option A4)(nx:Nat)(dst:Option Tmp)(d:Nat):Prop:=X4 (tm d) (kg2 P C ops nd b i want op type rest K tm hp nx dst) (Ax P C ops nd b (i+1) rest K (AS.put ⟨tm,hp,nx⟩ dst .und))
theorem Axq{want:Bool}{op:Op}{type:Nat}{rest:List Oper}{tm:Nat→AV}{nx:Nat}{dst:Option Tmp}{d:Nat}:kg P C ops nd b i want op type rest K tm hp nx dst d=X4 (tm d) (kg2 P C ops nd b i want op type rest K tm hp nx dst) (Ax P C ops nd b (i+1) rest K (AS.put ⟨tm,hp,nx⟩ dst .und)):=rfl
def Sd(ops:Array Oper)(g:Nat):Option Tmp:=(ops[g]?).bind (·.dst)
theorem Aja{o:Oper}{l:List Oper}:Sd (o :: l).toArray 0=o.dst:=by simp [Sd]
theorem Ajb{o:Oper}{l:List Oper}{g:Nat}:Sd (o :: l).toArray (g+1)=Sd l.toArray g:=by simp [Sd]
theorem A31{dst:Option Tmp}{op:Op}{type:Nat}{pos:String}{after:Array Edge}{g:Nat}{want:Bool}{rest:List Oper}{tm:Nat→AV}{nx:Nat}:Ax P C ops nd b i (⟨dst,op,type,pos,after,some (g,want)⟩ :: rest) K ⟨tm,hp,nx⟩ =
  opt (Sd ops g) (kg P C ops nd b i want op type rest K tm hp nx dst):=A8d
end
section
variable{Q:Exit→AS→Prop}{σ:AS}
def A1q(Q:Exit→AS→Prop)(n:Nat)(σ':AS):Prop:=Q .normal { σ' with nx:=n }
theorem Akc{n:Nat}{tm:Nat→AV}{nx:Nat}:A1q Q n ⟨tm,hp,nx⟩=Q .normal ⟨tm,hp,n⟩:=rfl
theorem Hw{i:Nat}{l:List Oper}{tm:Nat→AV}{nx:Nat}(h:Ax P C l.toArray 0 nx 0 l (A1q Q (nx+l.length)) ⟨tm,hp,nx⟩):awp P C (.region i l.toArray false) Q ⟨tm,hp,nx⟩:=M6 h
theorem A2y{i:Nat}{l:List Oper}{tm:Nat→AV}{nx:Nat}(hb:D5 l.toArray (drawn l.toArray)=true)(h:Ax P C l.toArray (drawn l.toArray) nx 0 l (A1q Q (nx+l.length)) ⟨tm,hp,nx⟩):awp P C (.region i l.toArray true) Q ⟨tm,hp,nx⟩:=M5 hb h
def cif(c:Bool)(P:Program)(C:World→Prop)(x y:Code)(Q:Exit→AS→Prop)(σ:AS):Prop:=aif c (awp P C x Q σ) (awp P C y Q σ)
theorem Pe{x y:Code}:cif true P C x y Q σ=awp P C x Q σ:=Ox _ _
theorem Me{x y:Code}:cif false P C x y Q σ=awp P C y Q σ:=M2 _ _
theorem Xf{c:Bool}{x y:Code}(h1:c=true→awp P C x Q σ)(h2:c=false→awp P C y Q σ):cif c P C x y Q σ:=⟨h1,h2⟩
def Adh(P:Program)(C:World→Prop)(x y:Code)(Q:Exit→AS→Prop)(σ:AS)(t:Bool):Prop:=cif t P C x y Q σ
theorem Uy{x y:Code}{t:Bool}:Adh P C x y Q σ t=cif t P C x y Q σ:=rfl
def Ar3(es:List (List AV))(kk:Bool→Prop):Prop:=(es=[]→kk true)∧kk false
theorem A0{es:List (List AV)}{kk:Bool→Prop}(h1:es=[]→kk true)(h2:kk false):Ar3 es kk:=⟨h1,h2⟩
def asC(u:AV)(kk:Bool→Prop):Prop:=match u with
 | .ex (.bool t)=>kk t
 | .nq es=>Ar3 es kk
 | _=>False
theorem Avr{t:Bool}{kk:Bool→Prop}:asC (.ex (.bool t)) kk=kk t:=rfl
theorem Aoa{es:List (List AV)}{kk:Bool→Prop}:asC (.nq es) kk=Ar3 es kk:=rfl
@[congr] theorem Av3{u u':AV}{kk:Bool→Prop}(h:u=u'):asC u kk=asC u' kk:=by rw[h]
theorem A57{c:Operand}{x y:Code}(h:asC (σ.ev c) (Adh P C x y Q σ)):awp P C (.cond c x y) Q σ:=by
 unfold asC at h
 split at h
 ·rename_i t heq
  exact .inl ⟨t,heq,h⟩
 ·rename_i es heq
  exact .inr ⟨es,heq,fun hz=>(h.1 hz).1 rfl,h.2.2 rfl⟩
 ·exact h.elim
def A1v(I:Nat→(Nat→AV)→(Nat→Option A4)→Nat→Prop)(n:Nat)(σ:AS):Prop:=∃ m,m<n∧I m σ.tm σ.hp σ.nx
theorem A3{I:Nat→(Nat→AV)→(Nat→Option A4)→Nat→Prop}{n:Nat}{tm:Nat→AV}{nx:Nat}(m:Nat)(h1:m<n)(h2:I m tm hp nx):A1v I n ⟨tm,hp,nx⟩:=⟨m,h1,h2⟩
theorem A9{c:Code}{tm:Nat→AV}{nx:Nat}(I:Nat→(Nat→AV)→(Nat→Option A4)→Nat→Prop)(n:Nat)(h:I n tm hp nx)(hr:∀ n tm' hp' nx',I n tm' hp' nx'→awp P C c (Es (A1v I n) Q) ⟨tm',hp',nx'⟩):awp P C (.loop c) Q ⟨tm,hp,nx⟩ :=
 Aan (fun n σ=>I n σ.tm σ.hp σ.nx) n h fun n σ' h' _ _=>hr n σ'.tm σ'.hp σ'.nx h'
def An7(kk:AV→Prop)(x:AV×List Nat):Prop:=kk x.1
theorem Ade{kk:AV→Prop}{u:AV}{ids:List Nat}:An7 kk (u,ids)=kk u:=rfl
def A1o(kk:AV→Prop)(x:List AV×List Nat):Prop:=kk (.tup x.1)
theorem A7j{kk:AV→Prop}{u:List AV}{ids:List Nat}:A1o kk (u,ids)=kk (.tup u):=rfl
theorem Aun{t:Nat}{σ:AS}{kk:AV→Prop}:Dy P #[.tmp t] σ kk=opt (cl σ.hp (σ.tm t)) (An7 kk):=Aad
theorem Auo{t s:Nat}{σ:AS}{kk:AV→Prop}:Dy P #[.tmp t,.tmp s] σ kk=opt (cls σ.hp [σ.tm t,σ.tm s]) (A1o kk):=Aae
theorem Aup{t s q:Nat}{σ:AS}{kk:AV→Prop}:Dy P #[.tmp t,.tmp s,.tmp q] σ kk=opt (cls σ.hp [σ.tm t,σ.tm s,σ.tm q]) (A1o kk):=U1
def Aqe(kk:Nat→List (List AV)→Prop)(β:A4):Prop:=(β.mu=true∧(β.es.all (·.all p0))=true)∧kk β.ty (β.es.map (·.map z0))
theorem Akg{kk:Nat→List (List AV)→Prop}{β:A4}:Aqe kk β=((β.mu=true∧(β.es.all (·.all p0))=true)∧kk β.ty (β.es.map (·.map z0))):=rfl
def kfr(hp:Nat→Option A4)(kk:Nat→List (List AV)→Prop)(u:AV):Prop:=match u with
 | .own b=>opt (hp b) (Aqe kk)
 | _=>False
theorem Akf{kk:Nat→List (List AV)→Prop}{b:Nat}:kfr hp kk (.own b)=opt (hp b) (Aqe kk):=rfl
theorem Auk{t:Nat}{σ:AS}{kk:Nat→List (List AV)→Prop}:I9 #[.tmp t] σ kk=kfr σ.hp kk (σ.tm t):=by
 unfold I9 kfr
 dsimp only
 generalize σ.tm t=u
 cases u<;>try rfl
 apply propext
 dsimp only
 rw[← B4]
 constructor
 ·rintro⟨β,h1,h2,h3,h4⟩;exact⟨β,h1,⟨h2,h3⟩,h4⟩
 ·rintro⟨β,h1,⟨h2,h3⟩,h4⟩;exact⟨β,h1,h2,h3,h4⟩
end
end
end Go.Proofs.YtbhffbgbhgjdiaaGreatDoor
namespace Go.Proofs.YtbhffbgbhgjdiaaGreatDoor
open Go.RowKit
set_option maxRecDepth 100000
section
variable{P:Program}{C:World→Prop}{id:Nat}{ty:Nat}{ev:Operand→AV}{hp:Nat→Option A4}{k:AV→Eff→Prop}
def mpc(u:AV)(kk:Nat→Prop):Prop:=match u with|.mp b=>kk b|_=>False
def vwc(u:AV)(kk:Nat→Nat→Prop)(ka:Nat→Nat→Nat→Prop):Prop:=match u with|.vw b lo=>kk b lo|.asl b off n=>ka b off n|_=>False
def owc(u:AV)(kk:Nat→Prop):Prop:=match u with|.own b=>kk b|_=>False
def exv(u:AV)(kk:Value→Prop):Prop:=match u with|.ex v=>kk v|_=>False
theorem Aqy{b:Nat}{kk:Nat→Prop}:mpc (.mp b) kk=kk b:=rfl
theorem Aur{b lo:Nat}{kk:Nat→Nat→Prop}{ka:Nat→Nat→Nat→Prop}:vwc (.vw b lo) kk ka=kk b lo:=rfl
theorem Aro{b:Nat}{kk:Nat→Prop}:owc (.own b) kk=kk b:=rfl
theorem Ajo{kd:IntKind}{n:Int}{kk:Value→Prop}:exv (.ex (.int kd n)) kk=kk (.int kd n):=rfl
theorem Ajp{s:ByteArray}{kk:Value→Prop}:exv (.ex (.string s)) kk=kk (.string s):=rfl
@[congr] theorem Avb{u u':AV}{kk:Nat→Prop}(h:u=u'):mpc u kk=mpc u' kk:=by rw[h]
@[congr] theorem Avg{u u':AV}{kk:Nat→Nat→Prop}{ka:Nat→Nat→Nat→Prop}(h:u=u'):vwc u kk ka=vwc u' kk ka:=by rw[h]
@[congr] theorem Avd{u u':AV}{kk:Nat→Prop}(h:u=u'):owc u kk=owc u' kk:=by rw[h]
@[congr] theorem Av8{u u':AV}{kk:Value→Prop}(h:u=u'):exv u kk=exv u' kk:=by rw[h]
theorem Apf{u:AV}{kk:Value→Prop}(h:exv u kk):∃ v,u=.ex v∧kk v:=by
 unfold exv at h
 split at h
 ·exact⟨_,rfl,h⟩
 ·exact h.elim
theorem Ja{u:AV}{kk:Value→Prop}:(∃ v,u=.ex v∧kk v)=exv u kk:=by
 apply propext
 constructor
 ·rintro⟨v,rfl,h⟩;exact h
 ·exact Apf
theorem A1e{t:Nat}:A7 P C id (.makeMap t none) ty ev hp k=(Amp P t∧k (.mp id) (.new ⟨t,[],true⟩)):=by
 apply propext
 exact⟨fun h=>⟨h.1.2,h.2⟩,fun h=>⟨⟨rfl,h.1⟩,h.2⟩⟩
def Aqi(k:AV→Eff→Prop)(bv:Bool):Prop:=k (.ex (.bool bv)) .none
theorem Akm{bv:Bool}:Aqi k bv=k (.ex (.bool bv)) .none:=rfl
def Aqh(P:Program)(t:Nat)(c:Bool)(k:AV→Eff→Prop)(β:A4)(kx:Value):Prop:=(β.ty=t∧c=false)∧Jo P t kx∧opt (I0 β.es kx) (Aqi k)
theorem Akl{t:Nat}{c:Bool}{β:A4}{kx:Value}:Aqh P t c k β kx=((β.ty=t∧c=false)∧Jo P t kx∧opt (I0 β.es kx) (Aqi k)):=rfl
def Aqg(P:Program)(t:Nat)(c:Bool)(x:AV)(k:AV→Eff→Prop)(β:A4):Prop:=exv x (Aqh P t c k β)
theorem V1{t:Nat}{c:Bool}{x:AV}{β:A4}:Aqg P t c x k β=exv x (Aqh P t c k β):=rfl
def klk(P:Program)(hp:Nat→Option A4)(t:Nat)(c:Bool)(x:AV)(k:AV→Eff→Prop)(b:Nat):Prop:=opt (hp b) (Aqg P t c x k)
theorem Aqj{t b:Nat}{c:Bool}{x:AV}:klk P hp t c x k b=opt (hp b) (Aqg P t c x k):=rfl
theorem A73{t:Nat}{m x:Operand}{c:Bool}:A7 P C id (.lookup t m x c) ty ev hp k=mpc (ev m) (klk P hp t c (ev x) k):=by
 unfold A7
 dsimp only
 cases ev m<;>try rfl
 rename_i b
 dsimp only[mpc,klk]
 rw[← B4]
 apply propext
 constructor
 ·rintro⟨β,kx,bv,h1,h2,h3,h4,h5,h6⟩
  exact⟨β,h1,by rw[V1,← Ja];exact⟨kx,h3,h2,h4,by rw[← B4];exact⟨bv,h5,h6⟩⟩⟩
 ·rintro⟨β,h1,h⟩
  rw[V1,← Ja] at h
  obtain⟨kx,h3,h2,h4,h⟩:=h
  rw[← B4] at h
  obtain⟨bv,h5,h6⟩:=h
  exact⟨β,kx,bv,h1,h2,h3,h4,h5,h6⟩
def Aqn(P:Program)(t b:Nat)(k:AV→Eff→Prop)(β:A4)(kx:Value)(bv:Bool):Prop:=((β.mu=true∧β.ty=t)∧Jo P t kx∧β.es.length<maxLen)∧k .junk (.set b ⟨β.ty,[.ex kx,.ex (.bool bv)] :: β.es,true⟩)
theorem Akq{t b:Nat}{β:A4}{kx:Value}{bv:Bool}:Aqn P t b k β kx bv=(((β.mu=true∧β.ty=t)∧Jo P t kx∧β.es.length<maxLen)∧k .junk (.set b ⟨β.ty,[.ex kx,.ex (.bool bv)] :: β.es,true⟩)):=rfl
def Aqm(P:Program)(t b:Nat)(v:AV)(k:AV→Eff→Prop)(β:A4)(kx:Value):Prop:=asB v (Aqn P t b k β kx)
theorem V3{t b:Nat}{v:AV}{β:A4}{kx:Value}:Aqm P t b v k β kx=asB v (Aqn P t b k β kx):=rfl
def Aql(P:Program)(t b:Nat)(x v:AV)(k:AV→Eff→Prop)(β:A4):Prop:=exv x (Aqm P t b v k β)
theorem V2{t b:Nat}{x v:AV}{β:A4}:Aql P t b x v k β=exv x (Aqm P t b v k β):=rfl
def kmu(P:Program)(hp:Nat→Option A4)(t:Nat)(x v:AV)(k:AV→Eff→Prop)(b:Nat):Prop:=opt (hp b) (Aql P t b x v k)
theorem Aqo{t b:Nat}{x v:AV}:kmu P hp t x v k b=opt (hp b) (Aql P t b x v k):=rfl
theorem Ut{t:Nat}{m x v:Operand}:A7 P C id (.mapUpdate t m x v) ty ev hp k=mpc (ev m) (kmu P hp t (ev x) (ev v) k):=by
 unfold A7
 dsimp only
 cases ev m<;>try rfl
 rename_i b
 dsimp only[mpc,kmu]
 rw[← B4]
 apply propext
 constructor
 ·rintro⟨β,kx,bv,h1,h2,h3,h4,h5,h6,h7⟩
  exact⟨β,h1,by rw[V2,← Ja];exact⟨kx,h3,by rw[V3,← U2];exact⟨bv,h5,⟨h2,h4,h6⟩,h7⟩⟩⟩
 ·rintro⟨β,h1,h⟩
  rw[V2,← Ja] at h
  obtain⟨kx,h3,h⟩:=h
  rw[V3,← U2] at h
  obtain⟨bv,h5,⟨h2,h4,h6⟩,h7⟩:=h
  exact⟨β,kx,bv,h1,h2,h3,h4,h5,h6,h7⟩
def Amo(P:Program)(t kt:Nat):Prop:=∃ et,P.underlying t=some (.map kt et)
def Aq5(P:Program)(t kt b:Nat)(k:AV→Eff→Prop)(β:A4)(kx:Value):Prop:=((β.mu=true∧β.ty=t)∧Jo P t kx∧Amo P t kt)∧k .junk (.set b ⟨β.ty,[.ex kx,.ex (.bool false)] :: β.es,true⟩)
theorem Akb{t kt b:Nat}{β:A4}{kx:Value}:Aq5 P t kt b k β kx=(((β.mu=true∧β.ty=t)∧Jo P t kx∧Amo P t kt)∧k .junk (.set b ⟨β.ty,[.ex kx,.ex (.bool false)] :: β.es,true⟩)):=rfl
def Aq4(P:Program)(t kt b:Nat)(x:AV)(k:AV→Eff→Prop)(β:A4):Prop:=exv x (Aq5 P t kt b k β)
theorem V0{t kt b:Nat}{x:AV}{β:A4}:Aq4 P t kt b x k β=exv x (Aq5 P t kt b k β):=rfl
def kdl(P:Program)(hp:Nat→Option A4)(t kt:Nat)(x:AV)(k:AV→Eff→Prop)(b:Nat):Prop:=opt (hp b) (Aq4 P t kt b x k)
theorem Aq6{t kt b:Nat}{x:AV}:kdl P hp t kt x k b=opt (hp b) (Aq4 P t kt b x k):=rfl
theorem A72{t kt:Nat}{m x:Operand}:A7 P C id (.call ⟨.builtin .delete,#[m,x],#[t,kt]⟩) ty ev hp k=mpc (ev m) (kdl P hp t kt (ev x) k):=by
 unfold A7
 dsimp only
 cases ev m<;>try rfl
 rename_i b
 dsimp only[mpc,kdl]
 rw[← B4]
 apply propext
 constructor
 ·rintro⟨β,kx,h1,h2,h3,h4,h5,h6⟩
  exact⟨β,h1,by rw[V0,← Ja];exact⟨kx,h3,⟨h2,h4,h5⟩,h6⟩⟩
 ·rintro⟨β,h1,h⟩
  rw[V0,← Ja] at h
  obtain⟨kx,h3,⟨h2,h4,h5⟩,h6⟩:=h
  exact⟨β,kx,h1,h2,h3,h4,h5,h6⟩
def Apz(P:Program)(e b lo:Nat)(k:AV→Eff→Prop)(β:A4):Prop:=((β.mu=true∧β.ty=e)∧((aty P e).zero.length=(aty P e).sz∧0<(aty P e).sz∧(aty P e).zero.all (·.oneCell')=true)) ∧
  k .junk (.set b ⟨β.ty,β.es.take lo++List.replicate (β.es.length-lo) ((aty P e).zero.map .ex),true⟩)
theorem Ak9 {e b lo : Nat} {β : A4} : Apz P e b lo k β = (((β.mu=true∧β.ty=e)∧((aty P e).zero.length=(aty P e).sz∧0<(aty P e).sz∧(aty P e).zero.all (·.oneCell')=true)) ∧
  k .junk (.set b ⟨β.ty,β.es.take lo++List.replicate (β.es.length-lo) ((aty P e).zero.map .ex),true⟩)):=rfl
def kcl(P:Program)(hp:Nat→Option A4)(e:Nat)(k:AV→Eff→Prop)(b lo:Nat):Prop:=opt (hp b) (Apz P e b lo k)
theorem Aq0{e b lo:Nat}:kcl P hp e k b lo=opt (hp b) (Apz P e b lo k):=rfl
def kca(P:Program)(hp:Nat→Option A4)(e:Nat)(k:AV→Eff→Prop)(b off n:Nat):Prop:=∃ β r,hp b=some β∧(β.mu=true∧β.es=[r]∧0<n∧off+n*(aty P e).sz≤r.length)∧((aty P e).zero.length=(aty P e).sz∧0<(aty P e).sz∧(aty P e).zero.all (·.oneCell')=true) ∧
  k .junk (.set b ⟨β.ty,[r.take off++(List.replicate n ((aty P e).zero.map AV.ex)).flatten++r.drop (off+n*(aty P e).sz)],true⟩)
theorem Acb{t:Nat}{x:Operand}:A7 P C id (.call ⟨.builtin .clear,#[x],#[t]⟩) ty ev hp k=match (aty P t).k with
  | .slice e=>vwc (ev x) (kcl P hp e k) (kca P hp e k)
  | _=>False:=by
 unfold A7
 dsimp only
 cases (aty P t).k<;>try rfl
 dsimp only
 cases ev x<;>try rfl
 rename_i e b lo
 dsimp only[vwc,kcl]
 rw[← B4]
 apply propext
 constructor
 ·rintro⟨β,h1,h2,h3,h4⟩
  exact⟨β,h1,⟨h2,h3⟩,h4⟩
 ·rintro⟨β,h1,⟨h2,h3⟩,h4⟩
  exact⟨β,h1,h2,h3,h4⟩
def Aq2(P:Program)(e b:Nat)(k:AV→Eff→Prop)(β:A4)(ns:List (List AV)):Prop:=((β.mu=true∧β.ty=e∧0<(aty P e).sz)∧(∀ n∈ns,n.length=(aty P e).sz)∧ns.length≤β.es.length)∧k (.ex (.int .i64 ns.length)) (.set b ⟨β.ty,ns++β.es.drop ns.length,true⟩)
theorem Aka{e b:Nat}{β:A4}{ns:List (List AV)}:Aq2 P e b k β ns=(((β.mu=true∧β.ty=e∧0<(aty P e).sz)∧(∀ n∈ns,n.length=(aty P e).sz)∧ns.length≤β.es.length)∧k (.ex (.int .i64 ns.length)) (.set b ⟨β.ty,ns++β.es.drop ns.length,true⟩)):=rfl
def Aq1(P:Program)(e b:Nat)(r:Option (List (List AV)))(k:AV→Eff→Prop)(β:A4):Prop:=opt r (Aq2 P e b k β)
theorem Uz{e b:Nat}{r:Option (List (List AV))}{β:A4}:Aq1 P e b r k β=opt r (Aq2 P e b k β):=rfl
def kcp(P:Program)(hp:Nat→Option A4)(e:Nat)(r:Option (List (List AV)))(k:AV→Eff→Prop)(b:Nat):Prop:=opt (hp b) (Aq1 P e b r k)
theorem Aq3{e b:Nat}{r:Option (List (List AV))}:kcp P hp e r k b=opt (hp b) (Aq1 P e b r k):=rfl
theorem Ajh{t t2:Nat}{x y:Operand}:A7 P C id (.call ⟨.builtin .copy,#[x,y],#[t,t2]⟩) ty ev hp k=match (aty P t).k with
  | .slice e=>owc (ev x) (kcp P hp e (Fc hp (ev y)) k)
  | _=>False:=by
 unfold A7
 dsimp only
 cases (aty P t).k<;>try rfl
 dsimp only
 cases ev x<;>try rfl
 rename_i e b
 dsimp only[owc,kcp]
 rw[← B4]
 apply propext
 constructor
 ·rintro⟨β,ns,h1,h2,h3,h4,h5,h6⟩
  exact⟨β,h1,by rw[Uz,← B4];exact⟨ns,h3,⟨h2,h4,h5⟩,h6⟩⟩
 ·rintro⟨β,h1,h⟩
  rw[Uz,← B4] at h
  obtain⟨ns,h3,⟨h2,h4,h5⟩,h6⟩:=h
  exact⟨β,ns,h1,h2,h3,h4,h5,h6⟩
theorem Ry{d:Nat}{u:Option AV}{kk kk':Nat→Prop}(h:∀ l,kk l→kk' l)(h1:Ih d u kk):Ih d u kk':=by
 cases u with
 | none=>exact h _ h1
 | some x =>
  rw[Rz] at h1 ⊢
  unfold asI at h1 ⊢
  split at h1
  ·exact⟨h1.1,h _ h1.2⟩
  ·exact h1.elim
def kf2(b:Nat)(es:List (List AV))(k:AV→Eff→Prop)(l h:Nat):Prop:=(l≤h∧h≤es.length)∧k (.sl ((es.take h).drop l)) (.frz [b])
theorem Aq9{b:Nat}{es:List (List AV)}{l h:Nat}:kf2 b es k l h=((l≤h∧h≤es.length)∧k (.sl ((es.take h).drop l)) (.frz [b])):=rfl
def kf1(b:Nat)(es:List (List AV))(hi:Option AV)(k:AV→Eff→Prop)(l:Nat):Prop:=Ih es.length hi (kf2 b es k l)
theorem Aq8{b:Nat}{es:List (List AV)}{hi:Option AV}{l:Nat}:kf1 b es hi k l=Ih es.length hi (kf2 b es k l):=rfl
theorem My{t e b:Nat}{es:List (List AV)}{mu:Bool}{lo hi:Option Operand}(h1:hp b=some ⟨e,es,mu⟩)(hk:(aty P t).k=.slice e)(hs:0<(aty P e).sz)(h2:(es.all (·.all p0))=true)(h3:es.map (·.map z0)=es)
  (h:Ih 0 (lo.map ev) (kf1 b es (hi.map ev) k)):B7 P hp id t (.own b) ev lo hi none k:=by
 unfold B7
 rw[hk]
 dsimp only
 refine⟨_,h1,⟨rfl,hs,rfl⟩, ?_⟩
 rw[Fm]
 have e1 : (fun l=>bnd es.length ev hi fun h=>(l≤h∧h≤es.length) ∧
   (((es.all (·.all p0))=true∧k (.sl (((es.map (·.map z0)).take h).drop l)) (.frz [b]))∨((hi=none∧l<h)∧k (.vw b l) .none)∨((lo=none∧mu=true)∧k (.own id) (.grow b ⟨e,es.take h,true⟩))))=fun l=>Ih es.length (hi.map ev) fun h=>(l≤h∧h≤es.length) ∧
   (((es.all (·.all p0))=true∧k (.sl (((es.map (·.map z0)).take h).drop l)) (.frz [b]))∨((hi=none∧l<h)∧k (.vw b l) .none)∨((lo=none∧mu=true)∧k (.own id) (.grow b ⟨e,es.take h,true⟩))):=by
  funext l;rw[Fm]
 rw[e1]
 refine Ry ?_ h
 intro l h
 refine Ry ?_ h
 rintro q ⟨h4,h5⟩
 exact⟨h4,.inl ⟨h2,by rw[h3];exact h5⟩⟩
theorem Agi{t e b:Nat}{es:List (List AV)}{mu:Bool}{l:Nat}{kd:IntKind}{n:Int}{x:Operand}(hx:ev x=.ex (.int kd n))(hn:n=(l:Int))(h1:hp b=some ⟨e,es,mu⟩)(hk:(aty P t).k=.slice e)(hs:0<(aty P e).sz)(h2:l<es.length)
  (h:k (.vw b l) .none):B7 P hp id t (.own b) ev (some x) none none k:=by
 unfold B7
 rw[hk]
 refine⟨_,h1,⟨rfl,hs,rfl⟩,kd,n,hx,by omega, ?_⟩
 have e1:n.toNat=l:=by omega
 rw[e1]
 exact⟨⟨Nat.le_of_lt h2,Nat.le_refl _⟩,.inr (.inl ⟨⟨rfl,h2⟩,h⟩)⟩
theorem A8z{t e b:Nat}{es:List (List AV)}{l:Nat}{kd:IntKind}{n:Int}{x:Operand}(hx:ev x=.ex (.int kd n))(hn:n=(l:Int))(h1:hp b=some ⟨e,es,true⟩)(hk:(aty P t).k=.slice e)(hs:0<(aty P e).sz)(h2:l≤es.length)
  (h:k (.own id) (.grow b ⟨e,es.take l,true⟩)):B7 P hp id t (.own b) ev none (some x) none k:=by
 unfold B7
 rw[hk]
 refine⟨_,h1,⟨rfl,hs,rfl⟩,kd,n,hx,by omega, ?_⟩
 have e1:n.toNat=l:=by omega
 rw[e1]
 exact⟨⟨Nat.zero_le _,h2⟩,.inr (.inr ⟨⟨rfl,rfl⟩,h⟩)⟩
def Apm(o:Option A4):Option A4:=o.map fun β=>{ β with mu:=false }
theorem A78{t:Nat}{es:List (List AV)}{m:Bool}:Apm (some ⟨t,es,m⟩)=some ⟨t,es,false⟩:=rfl
theorem Apn{c n i:Nat}:(Eff.frz [c]).app n hp i=if i=c then Apm (hp i) else hp i:=by simp [Eff.app,Apm]
theorem Ar1{a n m:Nat}(h:a<n+m):(n+m=a)=False:=by simp;omega
theorem Awt(σ:AS)(f:Nat):σ.ev (.func f)=.ex (.func (.func f) #[] #[]):=rfl
theorem Akp {t : Nat} {kx ky : IntKind} {n c : Int} (h : 0 < n) : Adv P id t k kx n ky c = ((kx=.i64∧ky=.i64)∧match (aty P t).k with
  | .slice e=>((aty P e).zero.length=(aty P e).sz∧0<(aty P e).sz∧1≤(aty P e).bytes∧(aty P e).zero.all (·.oneCell')=true)∧(n=c∧(aty P e).bytes*n.toNat≤140737488355328)∧k (.own id) (.new ⟨e,List.replicate n.toNat ((aty P e).zero.map .ex),true⟩)
  | _=>False):=by
 rw[A4c]
 cases (aty P t).k<;>try rfl
 dsimp only
 rw[if_neg (by omega)]
 have:0≤n:=by omega
 simp [this]
end
end Go.Proofs.YtbhffbgbhgjdiaaGreatDoor
namespace Go.Proofs.YtbhffbgbhgjdiaaGreatDoor
open Go.RowKit
set_option maxRecDepth 100000
set_option linter.defProp false
def sx0:=And.intro @Jc (And.intro @Am2 (And.intro @Anp (And.intro @Anq (And.intro @Acw (And.intro @Afv (And.intro @Afw (And.intro @Apc (And.intro @Ap6 (And.intro @Ajf (And.intro @Apb (And.intro @Ajl (And.intro @Ajm (And.intro @Aba (And.intro @A6f (And.intro @Abb (And.intro @A6g (And.intro @Als (And.intro @Ag1 (And.intro @Ag0 (And.intro @A8q (And.intro @Afk (And.intro @Alm (And.intro @Ah3 (And.intro @A31 (And.intro @Aja (And.intro @Ajb (And.intro @Axq (And.intro @Axp (And.intro @Axo (And.intro @Aco (And.intro @A79 (And.intro @A1t (And.intro @A7m (And.intro @A1r (And.intro @A7l (And.intro @A7n (And.intro @A1s (And.intro @Akc (@Ajk)))))))))))))))))))))))))))))))))))))))
def sx1:=And.intro @Rg (And.intro @Nt (And.intro @Vb (And.intro @Rl (And.intro @Vd (And.intro @Vc (And.intro @Ac8 (And.intro @Xw (And.intro @Ap4 (And.intro @Awu (And.intro @Ajg (And.intro @Acf (And.intro @Aui (And.intro @Aci (And.intro @A75 (And.intro @Arp (And.intro @Ayk (And.intro @Ayl (And.intro @Ak5 (And.intro @Ta (And.intro @Qo (And.intro @A4f (And.intro @Eu (And.intro @B00 (And.intro @Aks (And.intro @Akr (And.intro @Adx (And.intro @B1a (And.intro @Ak8 (And.intro @Azx (And.intro @Adl (And.intro @Am9 (And.intro @Ama (And.intro @Akt (And.intro @Adz (And.intro @Adg (And.intro @vld (And.intro @Auq (And.intro @Amb (@Aqq)))))))))))))))))))))))))))))))))))))))
def sx2:=And.intro @Akv (And.intro @Akw (And.intro @Ae3 (And.intro @Azy (And.intro @Aqk (And.intro @Adw (And.intro @A2z (And.intro @Aqa (And.intro @Auj (And.intro @Aqc (And.intro @Ake (And.intro @A30 (And.intro @Aqf (And.intro @Aul (And.intro @Akj (And.intro @Agz (And.intro @Akd (And.intro @Aky (And.intro @Ac9 (And.intro @Ap7 (And.intro @B19 (And.intro @Ak7 (And.intro @Agu (And.intro @Adc (And.intro @Ahx (And.intro @A8r (And.intro @Afz (And.intro @B1c (And.intro @Ako (And.intro @Adu (And.intro @B1b (And.intro @Akn (And.intro @Adn (And.intro @Azz (And.intro @Ado (And.intro @Adq (And.intro @Ads (And.intro @Avq (And.intro @Avr (And.intro @Aoa (And.intro @Avs (And.intro @Qf (And.intro @Api (@Aph)))))))))))))))))))))))))))))))))))))))))))
def sx3:=And.intro @Avo (And.intro @Arv (And.intro @Ai5 (And.intro @Aij (And.intro @Aic (And.intro @Aie (And.intro @Aif (And.intro @Aik (And.intro @Ai6 (And.intro @Aoe (And.intro @Ai7 (And.intro @Aid (And.intro @Aib (And.intro @Aia (And.intro @Ai9 (And.intro @Ai8 (And.intro @Aih (And.intro @Aii (And.intro @Aav (And.intro @Aaw (And.intro @Aaz (And.intro @Aay (And.intro @Aax (And.intro @Aar (And.intro @Aas (And.intro @A9d (And.intro @A9e (And.intro @Ak4 (And.intro @Ak6 (And.intro @Aig (And.intro @Aat (And.intro @Aau (And.intro @Aug (And.intro @Auf (And.intro @Auh (And.intro @Abo (And.intro @Abq (And.intro @Agy (And.intro @Agx (@Agp)))))))))))))))))))))))))))))))))))))))
def sx4:=And.intro @Akx (And.intro @Ah2 (And.intro @Aqv (And.intro @Ah1 (And.intro @Akk (And.intro @Am8 (And.intro @Akh (And.intro @Aum (And.intro @Aki (And.intro @Axg (And.intro @Axf (And.intro @Ah0 (And.intro @Ak1 (And.intro @Adf (And.intro @A69 (And.intro @Rz (And.intro @Apy (And.intro @A32 (And.intro @Ae0 (And.intro @Ae1 (And.intro @A9f (And.intro @Ae4 (And.intro @Ae5 (And.intro @Ae6 (And.intro @N5 (And.intro @Zl (And.intro @A98 (And.intro @Qv (And.intro @U7 (And.intro @M8 (And.intro @A0q (And.intro @A1b (And.intro @Uo (And.intro @Uy (And.intro @Pe (And.intro @Me (And.intro @wrap_i64 (And.intro @wrap_u8 (And.intro @wrap_u64 (@A6c)))))))))))))))))))))))))))))))))))))))
def sx5:=And.intro @B0v (And.intro @B0w (And.intro @Ald (And.intro @Af2 (And.intro @Aez (And.intro @Aey (And.intro @A81 (And.intro @Aex (And.intro @Af0 (And.intro @A82 (And.intro @Aqz (And.intro @Ar0 (And.intro @B0m (And.intro @B0n (And.intro @B0o (And.intro @B0p (And.intro @B0q (And.intro @B0r (And.intro @B0s (And.intro @B0t (And.intro @B0u (And.intro @Ay3 (And.intro @Ay4 (And.intro @Ay5 (And.intro @Aai (And.intro @Aaj (And.intro @A7k (And.intro @Aly (And.intro @Ao6 (And.intro @Aca (And.intro @Apl (And.intro @Acl (And.intro @Aqd (@Apa)))))))))))))))))))))))))))))))))
def sx6:=And.intro @Option.map_some.{0,0} (And.intro @Option.bind_some.{0,0} (And.intro @Option.map_none.{0,0} (And.intro @Option.isSome_some.{0} (And.intro @Option.isSome_none.{0} (And.intro @Option.isNone_some.{0} (And.intro @Option.isNone_none.{0} (And.intro @Bool.true_or (And.intro @Bool.or_true (And.intro @List.length_cons.{0} (And.intro @List.length_nil.{0} (And.intro @List.map_cons.{0,0} (And.intro @List.map_nil.{0,0} (And.intro @true_and (And.intro @and_true (And.intro @Option.some.injEq.{0} (And.intro @Nat.not_lt_zero (And.intro @List.getElem?_cons_zero.{0} (And.intro @List.getElem?_cons_succ.{0} (And.intro @Bool.not_true (And.intro @Bool.not_false (And.intro @not_false_eq_true (And.intro @Nat.add_zero (And.intro @Nat.zero_add (And.intro @List.all_cons.{0} (And.intro @List.all_nil.{0} (And.intro @Bool.and_self (And.intro @Bool.and_true (And.intro @Bool.true_and (And.intro @List.drop_zero.{0} (And.intro @List.drop_succ_cons.{0} (And.intro @List.take_succ_cons.{0} (And.intro @List.take_zero.{0} (And.intro @List.take_nil.{0} (And.intro @List.nil_append.{0} (And.intro @List.cons_append.{0} (And.intro @List.append_nil.{0} (And.intro @List.set_cons_zero.{0} (And.intro @List.set_cons_succ.{0} (And.intro @Int.toNat_natCast (And.intro @Bool.false_eq_true (And.intro @not_true_eq_false (And.intro @false_or (And.intro @or_false (@List.not_mem_nil.{0}))))))))))))))))))))))))))))))))))))))))))))
def sxc:=And.intro @Aun (And.intro @Auk (And.intro @Akf (And.intro @Akg (And.intro @Auo (And.intro @Aup (And.intro @Ade (And.intro @A7j (And.intro @Qf (And.intro @Aov (And.intro @Awd (And.intro @Awe (And.intro @Awf (And.intro @Aos (And.intro @Aot (And.intro @Awc (And.intro @Awg (And.intro @Aow (And.intro @Aj0 (And.intro @Abg (And.intro @Abf (And.intro @A6i (And.intro @Aiu (And.intro @Abe (And.intro @Aix (And.intro @Aiv (And.intro @Aou (And.intro @Aiw (And.intro @N5 (And.intro @Anp (And.intro @Anq (@Acw)))))))))))))))))))))))))))))))
def sx7:=And.intro @Aqy (And.intro @Aur (And.intro @Aro (And.intro @Ajo (And.intro @Ajp (And.intro @A1e (And.intro @Akm (And.intro @Akl (And.intro @V1 (And.intro @Aqj (And.intro @A73 (And.intro @Akq (And.intro @V3 (And.intro @V2 (And.intro @Aqo (And.intro @Ut (And.intro @Akb (And.intro @V0 (And.intro @Aq6 (And.intro @A72 (And.intro @Ak9 (And.intro @Aq0 (And.intro @Acb (And.intro @Aka (And.intro @Uz (And.intro @Aq3 (And.intro @Ajh (And.intro @Aq9 (And.intro @Aq8 (And.intro @A78 (And.intro @Apn (And.intro @Ar1 (And.intro @Awt (@Akp)))))))))))))))))))))))))))))))))
def sx8:=And.intro @isBytes.eq_1 (And.intro @ATy.isAgg.eq_1 (And.intro @ATy.known.eq_1 (And.intro @implies_true.{0} (And.intro @implies_true.{1} (And.intro @decide_true (And.intro @decide_false (And.intro @ne_eq.{1} (And.intro @ite_self.{1} (And.intro @beq_self_eq_true.{0} (And.intro @bne_self_eq_false.{0} (And.intro @gt_iff_lt.{0} (And.intro @List.forall_mem_cons.{0} (And.intro @false_implies (And.intro @forall_const.{0} (@forall_const.{1})))))))))))))))
def sxb:=And.intro @Eu (And.intro @List.length_cons.{0} (And.intro @List.length_nil.{0} (And.intro @List.all_cons.{0} (And.intro @List.all_nil.{0} (And.intro @Bool.and_self (And.intro @true_and (And.intro @and_true (And.intro @and_self (And.intro @Nat.lt_add_one (And.intro @Nat.zero_mul (And.intro @Nat.zero_le (@Nat.one_mul))))))))))))
def sxd:=And.intro sxc (And.intro sx6 (And.intro @AV.ex.injEq (And.intro @Value.bool.injEq (And.intro @Value.int.injEq (And.intro @Value.string.injEq (And.intro @List.all_append.{0} (@List.map_append.{0,0})))))))
def sxn:=And.intro @decide_eq_true_eq (And.intro @decide_eq_false_iff_not (And.intro @Bool.not_eq_true' (And.intro @Bool.not_eq_false' (And.intro @Bool.not_true (@Bool.not_false)))))
end Go.Proofs.YtbhffbgbhgjdiaaGreatDoor
