/-
  Parts of the proof: Det DetS F0 Bk. Conditions: those that each theorem states.
-/
import Derived.Test.YtbhffbgbhgjdiaaGreatDoorGCon
import Derived.Test.YtbhffbgbhgjdiaaGreatDoorGEng
import Derived.Lib.Itoa
import Derived.Test.YtbhffbgbhgjdiaaGreatDoorM15
import Derived.OpenShut
set_option linter.unusedSimpArgs false
set_option linter.unusedVariables false
namespace Go.Proofs.YtbhffbgbhgjdiaaGreatDoor
open Go.RowKit
set_option maxRecDepth 100000
def One(A:(AV→Eff→Prop)→Prop)(k:AV→Eff→Prop):Prop:=∃ u f,k u f∧∀ k':AV→Eff→Prop,k' u f→A k'
section
variable{P:Program}{C:World→Prop}{hp:Nat→Option A4}{k:AV→Eff→Prop}{id:Nat}
theorem T7{op:BinOp}{kd:IntKind}{a b:Int}(h:Da op kd a b k):One (Da op kd a b) k:=by
 cases op<;>first
  | exact h.elim
  | exact⟨_,_,h,fun _ hk=>hk⟩
  | exact⟨_,_,h.2,fun _ hk=>⟨h.1,hk⟩⟩
theorem A8c{op:BinOp}{a b:ByteArray}(h:Gc op a b k):One (Gc op a b) k:=by
 cases op<;>first
  | exact h.elim
  | exact⟨_,_,h,fun _ hk=>hk⟩
  | exact⟨_,_,h.2,fun _ hk=>⟨h.1,hk⟩⟩
theorem A88{op:BinOp}{t:Nat}{x y:AV}(h:Ag P op t x y k):One (Ag P op t x y) k:=by
 unfold Ag at h
 split at h
 ·rename_i ka a kb b
  cases op
  case shl=>exact⟨_,_,h.2,fun _ hk=>⟨h.1,hk⟩⟩
  case shr=>exact⟨_,_,h.2,fun _ hk=>⟨h.1,hk⟩⟩
  all_goals
   obtain⟨h1,h2⟩:=h
   obtain⟨u,f,q1,q3⟩:=T7 h2
   exact⟨u,f,q1,fun _ hk=>⟨h1,q3 _ hk⟩⟩
 ·exact A8c h
 ·obtain⟨h,h2⟩:=h
  cases op<;>first
   | exact h.elim
   | exact⟨_,_,h,fun _ hk=>⟨hk,h2⟩⟩
 ·cases op<;>first
   | exact h.elim
   | (obtain⟨b,h1,h2⟩:=h;exact⟨_,_,h2,fun _ hk=>⟨b,h1,hk⟩⟩)
 ·obtain⟨h,h2⟩:=h
  cases op<;>first
   | exact h.elim
   | exact⟨_,_,h,fun _ hk=>⟨hk,h2⟩⟩
 ·obtain⟨h,h2⟩:=h
  cases op<;>first
   | exact h.elim
   | exact⟨_,_,h,fun _ hk=>⟨hk,h2⟩⟩
 ·exact h.elim
theorem Afj{op:UnOp}{x:AV}(h:Jn op x k):One (Jn op x) k:=by
 unfold Jn at h
 split at h
 ·exact⟨_,_,h,fun _ hk=>hk⟩
 ·exact⟨_,_,h,fun _ hk=>hk⟩
 ·exact T7 h
 ·exact h.elim
theorem A2b{s d:Nat}{x:AV}(h:Bm P hp s d x k):One (Bm P hp s d x) k:=by
 unfold Bm at h
 unfold One Bm
 split at h
 ·exact⟨_,_,h.2,fun _ hk=>⟨h.1,hk⟩⟩
 ·exact⟨_,_,h.2,fun _ hk=>⟨h.1,hk⟩⟩
 ·obtain⟨h1,h⟩:=h
  split at h
  ·exact⟨_,_,h.2,fun _ hk=>⟨h1,h.1,hk⟩⟩
  ·exact h.elim
 ·obtain⟨h1,l,h2,h3⟩:=h
  exact⟨_,_,h3,fun _ hk=>⟨h1,l,h2,hk⟩⟩
 ·exact h.elim
theorem Fo{t:Nat}{cs:List AV}{off:Nat}(h:Ar P t cs off k):One (Ar P t cs off) k:=by
 unfold Ar at h
 unfold One Ar
 split at h
 ·rename_i hg
  exact⟨_,_,h.2,fun _ hk=>(by rw[if_pos hg];exact⟨h.1,hk⟩)⟩
 ·rename_i hg
  obtain⟨h1,u,h2,h3⟩:=h
  exact⟨_,_,h3,fun _ hk=>(by rw[if_neg hg];exact⟨h1,u,h2,hk⟩)⟩
theorem A8a{t:Nat}{x:AV}(h:Cf P hp t x k):One (Cf P hp t x) k:=by
 unfold Cf at h
 unfold One Cf
 split at h
 ·exact⟨_,_,h,fun _ hk=>hk⟩
 ·exact⟨_,_,h,fun _ hk=>hk⟩
 ·exact⟨_,_,h,fun _ hk=>hk⟩
 ·rename_i hna _
  obtain⟨es,h1,h2⟩:=h
  exact⟨_,_,h2,fun _ hk=>⟨es,h1,hk⟩⟩
 ·exact h.elim
theorem A86{e:Nat}{s:AV}{ns:List (List AV)}(h:D9 P hp id e s ns k):One (D9 P hp id e s ns) k:=by
 unfold D9 at h
 unfold One D9
 obtain⟨h0,h⟩:=h
 split at h
 ·obtain⟨β,h1,h2,h3,h4,h5⟩:=h
  exact⟨_,_,h5,fun _ hk=>⟨h0,β,h1,h2,h3,h4,hk⟩⟩
 ·exact⟨_,_,h.2,fun _ hk=>⟨h0,h.1,hk⟩⟩
 ·rcases h with⟨h1,h⟩|⟨h1,h⟩
  ·exact⟨_,_,h,fun _ hk=>⟨h0,.inl ⟨h1,hk⟩⟩⟩
  ·exact⟨_,_,h,fun _ hk=>⟨h0,.inr ⟨h1,hk⟩⟩⟩
 ·exact h.elim
theorem K8{f:Nat}{args:List AV}(h:B8 P C id f hp args k):One (B8 P C id f hp args) k:=by
 unfold B8 at h
 unfold One B8
 rcases h with⟨us,ids,h1,R,h2,h3⟩|h|⟨xs,rs,rfl,h1,h2,h3⟩
 rotate_right
 ·exact⟨_,_,h3,fun _ hk=>(.inr (.inr ⟨xs,rs,rfl,h1,h2,hk⟩))⟩
 ·cases R with
  | val r=>exact⟨_,_,h3,fun _ hk=>(.inl ⟨us,ids,h1,_,h2,hk⟩)⟩
  | fresh e es=>exact⟨_,_,h3.2,fun _ hk=>(.inl ⟨us,ids,h1,_,h2,h3.1,hk⟩)⟩
  | aggf cs j e es=>exact⟨_,_,h3.2,fun _ hk=>(.inl ⟨us,ids,h1,_,h2,h3.1,hk⟩)⟩
 ·unfold Vf at h ⊢
  split at h
  ·obtain⟨β,us,ids,es',h1,h2,h3,h4,h5,h6,h7,h8⟩:=h
   exact⟨_,_,h8,fun _ hk=>(.inr (.inl ⟨β,us,ids,es',h1,h2,h3,h4,h5,h6,h7,hk⟩))⟩
  ·obtain⟨e,us,ids,es',h1,h2,h3,h4⟩:=h
   exact⟨_,_,h4,fun _ hk=>(.inr (.inl ⟨e,us,ids,es',h1,h2,h3,hk⟩))⟩
  ·exact h.elim
theorem Afg{t:Nat}{x:AV}{n:Nat}(h:Ek P hp t x n k):One (Ek P hp t x n) k:=by
 unfold Ek at h
 unfold One Ek
 split at h
 ·obtain⟨β,h1,h2,h3,h4⟩:=h
  exact⟨_,_,h4,fun _ hk=>⟨β,h1,h2,h3,hk⟩⟩
 ·obtain⟨h1,h2,h3,h4⟩:=h
  exact⟨_,_,h4,fun _ hk=>⟨h1,h2,h3,hk⟩⟩
 ·exact⟨_,_,h.2.2,fun _ hk=>⟨h.1,h.2.1,hk⟩⟩
 ·exact⟨_,_,h.2.2,fun _ hk=>⟨h.1,h.2.1,hk⟩⟩
 ·exact⟨_,_,h.2.2,fun _ hk=>⟨h.1,h.2.1,hk⟩⟩
 ·exact h.elim
theorem Yu{t:Nat}{x:AV}{ev:Operand→AV}{lo hi mx:Option Operand}(h:B7 P hp id t x ev lo hi mx k):One (B7 P hp id t x ev lo hi mx) k:=by
 unfold B7 at h
 unfold One B7
 split at h
 ·obtain⟨h1,h⟩:=h
  obtain⟨l,h,b1⟩:=D2 h
  obtain⟨m,⟨h2,h3,h⟩,b2⟩:=D2 h
  exact⟨_,_,h,fun _ hk=>⟨h1,b1 _ (b2 _ ⟨h2,h3,hk⟩)⟩⟩
 ·obtain⟨h1,h⟩:=h
  obtain⟨l,h,b1⟩:=D2 h
  obtain⟨m,h,b2⟩:=D2 h
  obtain⟨n,⟨h2,h3,h4,h⟩,b3⟩:=D2 h
  exact⟨_,_,h,fun _ hk=>⟨h1,b1 _ (b2 _ (b3 _ ⟨h2,h3,h4,hk⟩))⟩⟩
 ·obtain⟨β,h0,h1,h⟩:=h
  obtain⟨l,h,b1⟩:=D2 h
  obtain⟨m,⟨h2,h⟩,b2⟩:=D2 h
  rcases h with⟨h3,h⟩|⟨h3,h⟩|⟨h3,h⟩
  ·exact⟨_,_,h,fun _ hk=>⟨β,h0,h1,b1 _ (b2 _ ⟨h2,.inl ⟨h3,hk⟩⟩)⟩⟩
  ·exact⟨_,_,h,fun _ hk=>⟨β,h0,h1,b1 _ (b2 _ ⟨h2,.inr (.inl ⟨h3,hk⟩)⟩)⟩⟩
  ·exact⟨_,_,h,fun _ hk=>⟨β,h0,h1,b1 _ (b2 _ ⟨h2,.inr (.inr ⟨h3,hk⟩)⟩)⟩⟩
 ·exact⟨_,_,h.2,fun _ hk=>⟨h.1,hk⟩⟩
 ·obtain⟨h1,h⟩:=h
  obtain⟨l,h,b1⟩:=D2 h
  obtain⟨m,⟨h2,h⟩,b2⟩:=D2 h
  exact⟨_,_,h,fun _ hk=>⟨h1,b1 _ (b2 _ ⟨h2,hk⟩)⟩⟩
 ·exact h.elim
theorem Aam{op:Op}{ty:Nat}{ev:Operand→AV}(h:A7 P C id op ty ev hp k):One (A7 P C id op ty ev hp) k:=by
 unfold A7 at h
 unfold One A7
 cases op with
 | move x=>exact⟨_,_,h,fun _ hk=>hk⟩
 | assign x =>
  dsimp only at h ⊢
  split at h
  ·exact⟨_,_,h,fun _ hk=>hk⟩
  ·exact⟨_,_,h,fun _ hk=>hk⟩
 | pick c x y =>
  obtain⟨t,h1,h⟩:=h
  exact⟨_,_,h,fun _ hk=>⟨t,h1,hk⟩⟩
 | alloc t=>exact⟨_,_,h.2,fun _ hk=>⟨h.1,hk⟩⟩
 | box t x =>
  obtain⟨cs,h1,h2,h⟩:=h
  exact⟨_,_,h,fun _ hk=>⟨cs,h1,h2,hk⟩⟩
 | build t parts =>
  obtain⟨h0,h⟩:=h
  split at h
  ·rename_i hkk
   obtain⟨h1,cs,h2,h⟩:=h
   exact⟨_,_,h,fun _ hk=>⟨h0,by rw[hkk];exact⟨h1,cs,h2,hk⟩⟩⟩
  ·rename_i hkk
   obtain⟨h1,cs,h2,h⟩:=h
   exact⟨_,_,h,fun _ hk=>⟨h0,by rw[hkk];exact⟨h1,cs,h2,hk⟩⟩⟩
  ·exact h.elim
 | buildSlice t n parts =>
  dsimp only at h ⊢
  split at h
  ·rcases h.2.2 with hk|⟨h0,hk⟩
   ·exact⟨_,_,hk,fun _ hk=>⟨h.1,h.2.1,.inl hk⟩⟩
   ·exact⟨_,_,hk,fun _ hk=>⟨h.1,h.2.1,.inr ⟨h0,hk⟩⟩⟩
  ·exact h.elim
 | load t x =>
  dsimp only at h ⊢
  split at h
  ·exact Fo h
  ·obtain⟨β,e,h1,h2,h⟩:=h
   obtain⟨u,f,q1,q3⟩:=Fo h
   exact⟨u,f,q1,fun _ hk=>⟨β,e,h1,h2,q3 _ hk⟩⟩
  ·exact h.elim
 | store t x v =>
  dsimp only at h ⊢
  split at h
  ·rename_i heq
   obtain⟨β,e,cs,h1,h2,h3,h4,h5,h⟩:=h
   exact⟨_,_,h,fun _ hk=>⟨β,e,cs,h1,h2,h3,h4,h5,hk⟩⟩
  ·exact h.elim
 | nilCheck x =>
  dsimp only at h ⊢
  split at h
  ·exact⟨_,_,h,fun _ hk=>hk⟩
  ·exact⟨_,_,h,fun _ hk=>hk⟩
  ·exact h.elim
 | binOp op t x y ty=>exact A88 h
 | unOp op ty x=>exact Afj h
 | convert s d x=>exact A2b h
 | makeSlice t x y =>
  obtain⟨n,c,h1,h2,h⟩:=h
  split at h
  ·rename_i hkk
   obtain⟨h3,h⟩:=h
   split at h
   ·rename_i hn
    exact⟨_,_,h.2,fun _ hk=>⟨n,c,h1,h2,by rw[hkk];exact⟨h3,by rw[if_pos hn];exact⟨h.1,hk⟩⟩⟩⟩
   ·rename_i hn
    exact⟨_,_,h.2,fun _ hk=>⟨n,c,h1,h2,by rw[hkk];exact⟨h3,by rw[if_neg hn];exact⟨h.1,hk⟩⟩⟩⟩
  ·exact h.elim
 | makeMap t r=>exact⟨_,_,h.2,fun _ hk=>⟨h.1,hk⟩⟩
 | mapUpdate t m x v =>
  dsimp only at h ⊢
  split at h
  ·rename_i heq
   obtain⟨β,kx,bv,h1,h2,h3,h4,h5,h6,h⟩:=h
   exact⟨_,_,h,fun _ hk=>⟨β,kx,bv,h1,h2,h3,h4,h5,h6,hk⟩⟩
  ·exact h.elim
 | lookup t m x c =>
  dsimp only at h ⊢
  split at h
  ·obtain⟨β,kx,bv,h1,h2,h3,h4,h5,h⟩:=h
   exact⟨_,_,h,fun _ hk=>⟨β,kx,bv,h1,h2,h3,h4,h5,hk⟩⟩
  ·exact h.elim
 | slice t x lo hi mx=>exact Yu h
 | fieldAddr s x f =>
  obtain⟨oo,ft,h1,h2,h⟩:=h
  split at h
  ·rename_i hkk
   exact⟨_,_,h,fun _ hk=>⟨oo,ft,h1,h2,by rw[hkk];exact hk⟩⟩
  ·rename_i hkk
   exact⟨_,_,h,fun _ hk=>⟨oo,ft,h1,h2,by rw[hkk];exact hk⟩⟩
  ·exact h.elim
 | field s x f =>
  obtain⟨oo,ft,h1,h⟩:=h
  split at h
  ·rename_i hkk
   obtain⟨u,f,q1,q3⟩:=Fo h
   exact⟨u,f,q1,fun _ hk=>⟨oo,ft,h1,by rw[hkk];exact q3 _ hk⟩⟩
  ·exact h.elim
 | indexAddr t x i =>
  obtain⟨kd,n,h1,h2,h⟩:=h
  obtain⟨u,f,q1,q3⟩:=Afg h
  exact⟨u,f,q1,fun _ hk=>⟨kd,n,h1,h2,q3 _ hk⟩⟩
 | index t x i =>
  obtain⟨kd,n,h1,h2,h⟩:=h
  split at h
  ·rename_i hk1 hk2
   obtain⟨h3,h⟩:=h
   exact⟨_,_,h,fun _ hk=>⟨kd,n,h1,h2,by rw[hk1,hk2];exact⟨h3,hk⟩⟩⟩
  ·rename_i hk1 hk2
   obtain⟨h3,h4,h⟩:=h
   obtain⟨u,f,q1,q3⟩:=Fo h
   exact⟨u,f,q1,fun _ hk=>⟨kd,n,h1,h2,by rw[hk1,hk2];exact⟨h3,h4,q3 _ hk⟩⟩⟩
  ·exact h.elim
 | makeFunc fn first captured =>
  cases fn with
  | func f=>exact⟨_,_,h.2,fun _ hk=>⟨h.1,hk⟩⟩
  | _=>exact h.elim
 | extract x i =>
  dsimp only at h ⊢
  split at h
  ·obtain⟨u,h1,h⟩:=h
   exact⟨_,_,h,fun _ hk=>⟨u,h1,hk⟩⟩
  ·exact h.elim
 | call c =>
  dsimp only at h ⊢
  cases hcal:c.callee with
  | value f =>
   rw[hcal] at h
   cases f with
   | func f=>exact K8 h
   | tmp t =>
    dsimp only at h ⊢
    split at h
    ·exact K8 h
    ·obtain⟨h1,h⟩:=h
     obtain⟨u,f,q1,q3⟩:=K8 h
     exact⟨u,f,q1,fun _ hk=>⟨h1,q3 _ hk⟩⟩
    ·exact h.elim
   | _=>exact h.elim
  | invoke r m=>rw[hcal] at h;exact h.elim
  | builtin bi =>
   rw[hcal] at h
   cases bi with
   | len =>
    dsimp only at h ⊢
    split at h
    ·exact A8a h
    ·exact h.elim
   | append =>
    dsimp only at h ⊢
    split at h
    ·split at h
     ·split at h
      ·exact h.elim
      ·obtain⟨h1,ns,h2,h⟩:=h
       obtain⟨u,f,q1,q3⟩:=A86 h
       exact⟨u,f,q1,fun _ hk=>⟨h1,ns,h2,q3 _ hk⟩⟩
     ·exact h.elim
    ·exact h.elim
   | delete =>
    dsimp only at h ⊢
    split at h
    ·rename_i m x t kt q1 q2
     split at h
     ·rename_i heq
      obtain⟨β,kx,h1,h2,h3,h4,h5,h⟩:=h
      exact⟨_,_,h,fun _ hk=>⟨β,kx,h1,h2,h3,h4,h5,hk⟩⟩
     ·exact h.elim
    ·exact h.elim
   | clear =>
    dsimp only at h ⊢
    split at h
    ·rename_i x t q1 q2
     split at h
     ·rename_i hkk heq
      obtain⟨β,h1,h2,h3,h⟩:=h
      exact⟨_,_,h,fun _ hk=>⟨β,h1,h2,h3,hk⟩⟩
     ·rename_i hkk heq
      obtain⟨β,r,h1,h2,h3,h⟩:=h
      exact⟨_,_,h,fun _ hk=>⟨β,r,h1,h2,h3,hk⟩⟩
     ·exact h.elim
    ·exact h.elim
   | copy =>
    dsimp only at h ⊢
    split at h
    ·rename_i x y t t2 q1 q2
     split at h
     ·rename_i hkk heq
      obtain⟨β,ns,h1,h2,h3,h4,h5,h⟩:=h
      exact⟨_,_,h,fun _ hk=>⟨β,ns,h1,h2,h3,h4,h5,hk⟩⟩
     ·exact h.elim
    ·exact h.elim
   | min =>
    dsimp only at h ⊢
    split at h
    ·obtain⟨kd,p,kd',q,h2,h3,h⟩:=h
     exact⟨_,_,h,fun _ hk=>⟨kd,p,kd',q,h2,h3,hk⟩⟩
    ·exact h.elim
   | max =>
    dsimp only at h ⊢
    split at h
    ·obtain⟨kd,p,kd',q,h2,h3,h⟩:=h
     exact⟨_,_,h,fun _ hk=>⟨kd,p,kd',q,h2,h3,hk⟩⟩
    ·obtain⟨kd,p,kd',q,kd2,r,h2,h3,h4,h⟩:=h
     exact⟨_,_,h,fun _ hk=>⟨kd,p,kd',q,kd2,r,h2,h3,h4,hk⟩⟩
    ·exact h.elim
   | _=>exact h.elim
 | _=>exact h.elim
end
section
variable{P:Program}{C:World→Prop}
theorem A3j{draw last:Bool}{id:Nat}{o:Oper}{K:AS→Prop}{σ:AS}(h:aop P C draw last id o K σ):∃ σ1,K σ1∧∀ K':AS→Prop,K' σ1→aop P C draw last id o K' σ:=by
 unfold aop at h
 obtain⟨u,f,h1,h2⟩:=Aam h
 exact⟨_,h1.2,fun K' hk=>h2 _ ⟨h1.1,hk⟩⟩
theorem Ic{ops:Array Oper}{nd b:Nat}:∀ (rest:List Oper) (i:Nat) (σ:AS) (K:AS→Prop),Ax P C ops nd b i rest K σ→∃ σ1,K σ1∧∀ K':AS→Prop,K' σ1→Ax P C ops nd b i rest K' σ
 | [],i,σ,K,h=>⟨σ,h,fun _ hk=>hk⟩
 | o :: rest,i,σ,K,h=>by
  unfold Ax at h
  split at h
  ·rename_i hg
   obtain⟨σ1,h1,h2⟩:=A3j h
   obtain⟨σ2,h3,h4⟩:=Ic rest (i+1) σ1 K h1
   refine⟨σ2,h3,fun K' hk=>?_⟩
   unfold Ax
   rw[hg]
   exact h2 _ (h4 _ hk)
  ·rename_i j want hg
   rcases h with⟨t,h0,h⟩|⟨h0,h⟩
   ·split at h
    ·rename_i ht
     obtain⟨σ1,h1,h2⟩:=A3j h
     obtain⟨σ2,h3,h4⟩:=Ic rest (i+1) σ1 K h1
     refine⟨σ2,h3,fun K' hk=>?_⟩
     unfold Ax
     rw[hg]
     exact .inl ⟨t,h0,by rw[if_pos ht];exact h2 _ (h4 _ hk)⟩
    ·rename_i ht
     obtain⟨σ2,h3,h4⟩:=Ic rest (i+1) _ K h
     refine⟨σ2,h3,fun K' hk=>?_⟩
     unfold Ax
     rw[hg]
     exact .inl ⟨t,h0,by rw[if_neg ht];exact h4 _ hk⟩
   ·obtain⟨σ2,h3,h4⟩:=Ic rest (i+1) _ K h
    refine⟨σ2,h3,fun K' hk=>?_⟩
    unfold Ax
    rw[hg]
    exact .inr ⟨h0,h4 _ hk⟩
theorem Fe{σ:AS}{r:ResultVar}{k:AV→Prop}(h:B1 P σ r k):∃ u,k u∧∀ k':AV→Prop,k' u→B1 P σ r k':=by
 unfold B1 at h
 split at h
 ·exact⟨_,h,fun _ hk=>hk⟩
 ·split at h
  ·rename_i heq
   obtain⟨β,e,h1,h2,h3⟩:=h
   obtain⟨u,f,h4,h5⟩:=Fo h3
   refine⟨u,h4,fun k' hk=>?_⟩
   unfold B1
   dsimp only
   rw[heq]
   exact⟨β,e,h1,h2,h5 (fun u _=>k' u) hk⟩
  ·exact h.elim
theorem Aaf{σ:AS}{rs:Array ResultVar}{k:AV→Prop}(h:Dy P rs σ k):∃ u,k u∧∀ k':AV→Prop,k' u→Dy P rs σ k':=by
 unfold Dy at h
 split at h
 ·rename_i r hr
  obtain⟨u,⟨u',ids,h1,h2⟩,h3⟩:=Fe h
  refine⟨u',h2,fun k' hk=>?_⟩
  unfold Dy
  rw[hr]
  exact h3 _ ⟨u',ids,h1,hk⟩
 ·rename_i r s hr
  obtain⟨u,h,h3⟩:=Fe h
  obtain⟨v,⟨us,ids,h1,h2⟩,h4⟩:=Fe h
  refine⟨_,h2,fun k' hk=>?_⟩
  unfold Dy
  rw[hr]
  exact h3 _ (h4 _ ⟨us,ids,h1,hk⟩)
 ·rename_i r s q hr
  obtain⟨u,h,h3⟩:=Fe h
  obtain⟨v,h,h4⟩:=Fe h
  obtain⟨x,⟨us,ids,h1,h2⟩,h5⟩:=Fe h
  refine⟨_,h2,fun k' hk=>?_⟩
  unfold Dy
  rw[hr]
  exact h3 _ (h4 _ (h5 _ ⟨us,ids,h1,hk⟩))
 ·exact h.elim
def awd(P:Program)(C:World→Prop):Code→(Exit→AS→Prop)→AS→Prop
 | .skip,Q,σ=>Q .normal σ
 | .region _ ops d,Q,σ=>((d=true→D5 ops (drawn ops)=true)∧Ax P C ops (if d then drawn ops else 0) σ.nx 0 ops.toList (fun σ'=>Q .normal { σ' with nx:=σ.nx+ops.size }) σ)∨(d=true∧A9l P C ops σ (Q .normal))
 | .seq a b,Q,σ=>awd P C a (Es (awd P C b Q) Q) σ
 | .cond c x y,Q,σ=>∃ t,σ.ev c=.ex (.bool t)∧(t=true→awd P C x Q σ)∧(t=false→awd P C y Q σ)
 | .block id c,Q,σ=>awd P C c (Dx id Q) σ
 | .loop c,Q,σ=>∃ (I:Nat→AS→Prop) (n:Nat),I n σ∧∀ n σ',I n σ'→awd P C c (Es (fun σ''=>∃ m,m<n∧I m σ'') Q) σ'
 | .exit id,Q,σ=>Q (.exit id) σ
 | .ret,Q,σ=>Q .ret σ
 | .label _,Q,σ=>Q .normal σ
 | .scope c,Q,σ=>awd P C c (Yq Q) σ
 | _,_,_=>False
theorem A3l:∀ (c:Code) (Q:Exit→AS→Prop) (σ:AS),awd P C c Q σ→∃ e σ1,Q e σ1∧∀ Q':Exit→AS→Prop,Q' e σ1→awd P C c Q' σ:=by
 intro c
 induction c with
 | skip=>exact fun _ _ h=>⟨_,_,h,fun _ hk=>hk⟩
 | exit i=>exact fun _ _ h=>⟨_,_,h,fun _ hk=>hk⟩
 | ret=>exact fun _ _ h=>⟨_,_,h,fun _ hk=>hk⟩
 | label l=>exact fun _ _ h=>⟨_,_,h,fun _ hk=>hk⟩
 | region id ops d =>
  rintro Q σ (⟨h1,h2⟩|⟨h1,T,g1,g2,g3,g4,g5,g6,g7,g8⟩)
  ·obtain⟨σ1,h3,h4⟩:=Ic _ _ _ _ h2
   exact⟨_,_,h3,fun Q' hk=>.inl ⟨h1,h4 _ hk⟩⟩
  ·exact⟨_,_,g8,fun Q' hk=>.inr ⟨h1,T,g1,g2,g3,g4,g5,g6,g7,hk⟩⟩
 | seq a b iha ihb =>
  intro Q σ h
  obtain⟨e,σ1,h1,h2⟩:=iha _ σ h
  cases e with
  | normal =>
   obtain⟨e2,σ2,h3,h4⟩:=ihb _ σ1 h1
   exact⟨e2,σ2,h3,fun Q' hk=>h2 _ (h4 _ hk)⟩
  | exit i=>exact⟨_,_,h1,fun Q' hk=>h2 _ hk⟩
  | goto i=>exact⟨_,_,h1,fun Q' hk=>h2 _ hk⟩
  | ret=>exact⟨_,_,h1,fun Q' hk=>h2 _ hk⟩
  | panic i=>exact⟨_,_,h1,fun Q' hk=>h2 _ hk⟩
  | outgrown=>exact⟨_,_,h1,fun Q' hk=>h2 _ hk⟩
 | cond c x y ihx ihy =>
  rintro Q σ ⟨t,h1,h2,h3⟩
  cases t with
  | true =>
   obtain⟨e,σ1,h4,h5⟩:=ihx _ σ (h2 rfl)
   exact⟨e,σ1,h4,fun Q' hk=>⟨true,h1,fun _=>h5 _ hk,fun h=>by cases h⟩⟩
  | false =>
   obtain⟨e,σ1,h4,h5⟩:=ihy _ σ (h3 rfl)
   exact⟨e,σ1,h4,fun Q' hk=>⟨false,h1,fun h=>(by cases h),fun _=>h5 _ hk⟩⟩
 | block i c ih =>
  intro Q σ h
  obtain⟨e,σ1,h1,h2⟩:=ih _ σ h
  cases e with
  | exit j =>
   by_cases hj:j=i
   ·refine⟨.normal,σ1,by simpa only[Dx,if_pos hj] using h1,fun Q' hk=>h2 _ ?_⟩
    simpa only[Dx,if_pos hj] using hk
   ·refine⟨.exit j,σ1,by simpa only[Dx,if_neg hj] using h1,fun Q' hk=>h2 _ ?_⟩
    simpa only[Dx,if_neg hj] using hk
  | normal=>exact⟨_,_,h1,fun Q' hk=>h2 _ hk⟩
  | goto i=>exact⟨_,_,h1,fun Q' hk=>h2 _ hk⟩
  | ret=>exact⟨_,_,h1,fun Q' hk=>h2 _ hk⟩
  | panic i=>exact⟨_,_,h1,fun Q' hk=>h2 _ hk⟩
  | outgrown=>exact⟨_,_,h1,fun Q' hk=>h2 _ hk⟩
 | scope c ih =>
  intro Q σ h
  obtain⟨e,σ1,h1,h2⟩:=ih _ σ h
  cases e with
  | goto i=>exact h1.elim
  | normal=>exact⟨_,_,h1,fun Q' hk=>h2 _ hk⟩
  | exit j=>exact⟨_,_,h1,fun Q' hk=>h2 _ hk⟩
  | ret=>exact⟨_,_,h1,fun Q' hk=>h2 _ hk⟩
  | panic i=>exact⟨_,_,h1,fun Q' hk=>h2 _ hk⟩
  | outgrown=>exact⟨_,_,h1,fun Q' hk=>h2 _ hk⟩
 | loop c ih =>
  rintro Q σ ⟨I,n,h1,h2⟩
  have key:∀ (n:Nat) (σ':AS),I n σ'→∃ e σ1,Q e σ1∧∀ Q':Exit→AS→Prop,Q' e σ1→awd P C (.loop c) Q' σ':=by
   intro n
   induction n using Nat.strongRecOn with
   | ind n ihn =>
    intro σ' hI
    obtain⟨e,σ1,h3,h4⟩:=ih _ σ' (h2 n σ' hI)
    have last:e≠.normal→∃ e σ1,Q e σ1∧∀ Q':Exit→AS→Prop,Q' e σ1→awd P C (.loop c) Q' σ':=by
     intro hne
     have conv:∀ (next:AS→Prop) (Q':Exit→AS→Prop),Es next Q' e σ1=Q' e σ1:=by
      intro next Q'
      cases e with
      | normal=>exact absurd rfl hne
      | _=>rfl
     rw[conv] at h3
     refine⟨e,σ1,h3,fun Q' hk=>⟨fun _ τ=>τ=σ',0,rfl, ?_⟩⟩
     rintro m τ rfl
     exact h4 _ (by rw[conv];exact hk)
    cases e with
    | normal =>
     obtain⟨m,hm,hIm⟩:=h3
     obtain⟨e2,σ2,h5,h6⟩:=ihn m hm σ1 hIm
     refine⟨e2,σ2,h5,fun Q' hk=>?_⟩
     obtain⟨J,q,h7,h8⟩:=h6 Q' hk
     refine⟨fun k τ=>(k=q+1∧τ=σ')∨J k τ,q+1,.inl ⟨rfl,rfl⟩, ?_⟩
     rintro k τ (⟨rfl,rfl⟩|hJ)
     ·exact h4 _ ⟨q,by omega,.inr h7⟩
     ·obtain⟨e3,σ3,g1,g2⟩:=ih _ τ (h8 k τ hJ)
      refine g2 _ ?_
      cases e3 with
      | normal =>
       obtain⟨m,hm,g⟩:=g1
       exact⟨m,hm,.inr g⟩
      | exit i=>exact g1
      | goto i=>exact g1
      | ret=>exact g1
      | panic i=>exact g1
      | outgrown=>exact g1
    | exit i=>exact last (by simp)
    | goto i=>exact last (by simp)
    | ret=>exact last (by simp)
    | panic i=>exact last (by simp)
    | outgrown=>exact last (by simp)
  exact key n σ h1
 | _=>exact fun _ _ h=>h.elim
theorem X6{c:Code}{Q Q':Exit→AS→Prop}{σ:AS}(h:awd P C c Q σ)(hm:∀ e σ,Q e σ→Q' e σ):awd P C c Q' σ:=by
 obtain⟨e,σ1,h1,h2⟩:=A3l c Q σ h
 exact h2 _ (hm _ _ h1)
theorem Ai3:∀ (c:Code) (Q:Exit→AS→Prop) (σ:AS),awd P C c Q σ→awp P C c Q σ:=by
 intro c
 induction c with
 | skip=>exact fun _ _ h=>h
 | exit i=>exact fun _ _ h=>h
 | ret=>exact fun _ _ h=>h
 | label l=>exact fun _ _ h=>h
 | region id ops d =>
  rintro Q σ (h|h)
  ·exact .inl h
  ·exact .inr (.inl h)
 | seq a b iha ihb =>
  intro Q σ h
  refine iha _ σ ?_
  exact X6 (Q:=Es (awd P C b Q) Q) h fun e σ' h=>by
   cases e with
   | normal=>exact ihb _ _ h
   | _=>exact h
 | cond c x y ihx ihy =>
  rintro Q σ ⟨t,h1,h2,h3⟩
  exact .inl ⟨t,h1,fun h=>ihx _ _ (h2 h),fun h=>ihy _ _ (h3 h)⟩
 | block i c ih=>exact fun Q σ h=>ih _ _ h
 | scope c ih=>exact fun Q σ h=>ih _ _ h
 | loop c ih =>
  rintro Q σ ⟨I,n,h1,h2⟩
  exact⟨I,n,h1,fun n σ' hI _ _=>ih _ _ (h2 n σ' hI)⟩
 | _=>exact fun _ _ h=>h.elim
theorem Abn(B:Dj P C){f:FuncId}{fn:Func}{c:Code}(hf:P.funcs[f]?=some fn)(hb:fn.body=some c)(hnm:(fn.name == "runtime.NumGoroutine")=false){us:List AV}(hfit:fits fn.ntmps c=true)(hn:us.length≤fn.ntmps){R:AV→Prop}
  (h:awd P C c (Kl fun σ=>Dy P fn.results σ R) (init us)):∃ u,R u∧Con P C f us (.val u):=by
 obtain⟨e,σ1,h1,h2⟩:=A3l _ _ _ h
 have key:Dy P fn.results σ1 R→(∀ k:AS→Prop,k σ1→Kl k e σ1)→∃ u,R u∧Con P C f us (.val u):=by
  intro ha he
  obtain⟨u,h3,h4⟩:=Aaf ha
  exact⟨u,h3,A3w B hf hb hnm hfit hn (Ai3 _ _ _ (h2 _ (he _ (h4 _ rfl))))⟩
 cases e with
 | normal=>exact key h1 fun _ h=>h
 | ret=>exact key h1 fun _ h=>h
 | exit i=>exact h1.elim
 | goto l=>exact h1.elim
 | panic ch=>exact h1.elim
 | outgrown=>exact h1.elim
end
namespace D
section
variable{P:Program}{C:World→Prop}{Q:Exit→AS→Prop}{σ:AS}{hp:Nat→Option A4}
abbrev awp:=awd
theorem Ks{a b:Code}(h:awd P C a (Es (awd P C b Q) Q) σ):awd P C (.seq a b) Q σ:=h
theorem Gu{i:Nat}{c:Code}(h:awd P C c (Dx i Q) σ):awd P C (.block i c) Q σ:=h
theorem Kt(h:Q .normal σ):awd P C .skip Q σ:=h
theorem Kr{i:Nat}(h:Q (.exit i) σ):awd P C (.exit i) Q σ:=h
theorem U5(h:Q .ret σ):awd P C .ret Q σ:=h
theorem J5{l:Nat}(h:Q .normal σ):awd P C (.label l) Q σ:=h
theorem J6{c:Code}(h:awd P C c (Yq Q) σ):awd P C (.scope c) Q σ:=h
theorem Af3:Yq Q .ret σ=Q .ret σ:=rfl
theorem Yr:Yq Q .normal σ=Q .normal σ:=rfl
theorem M6{i:Nat}{l:List Oper}(h:Ax P C l.toArray 0 σ.nx 0 l (fun σ'=>Q .normal { σ' with nx:=σ.nx+l.length }) σ):awd P C (.region i l.toArray false) Q σ:=.inl ⟨fun h0=>(by cases h0),by simpa using h⟩
theorem M5{i:Nat}{l:List Oper}(hb:D5 l.toArray (drawn l.toArray)=true)(h:Ax P C l.toArray (drawn l.toArray) σ.nx 0 l (fun σ'=>Q .normal { σ' with nx:=σ.nx+l.length }) σ):awd P C (.region i l.toArray true) Q σ:=.inl ⟨fun _=>hb,by simpa using h⟩
theorem Hw{i:Nat}{l:List Oper}{tm:Nat→AV}{nx:Nat}(h:Ax P C l.toArray 0 nx 0 l (A1q Q (nx+l.length)) ⟨tm,hp,nx⟩):awd P C (.region i l.toArray false) Q ⟨tm,hp,nx⟩:=M6 h
theorem A2y{i:Nat}{l:List Oper}{tm:Nat→AV}{nx:Nat}(hb:D5 l.toArray (drawn l.toArray)=true)(h:Ax P C l.toArray (drawn l.toArray) nx 0 l (A1q Q (nx+l.length)) ⟨tm,hp,nx⟩):awd P C (.region i l.toArray true) Q ⟨tm,hp,nx⟩:=M5 hb h
def cif(c:Bool)(P:Program)(C:World→Prop)(x y:Code)(Q:Exit→AS→Prop)(σ:AS):Prop:=aif c (awd P C x Q σ) (awd P C y Q σ)
theorem Pe{x y:Code}:cif true P C x y Q σ=awd P C x Q σ:=Ox _ _
theorem Me{x y:Code}:cif false P C x y Q σ=awd P C y Q σ:=M2 _ _
theorem Xf{c:Bool}{x y:Code}(h1:c=true→awd P C x Q σ)(h2:c=false→awd P C y Q σ):cif c P C x y Q σ:=⟨h1,h2⟩
@[congr] theorem Av7{c c':Bool}{x y:Code}(h:c=c'):cif c P C x y Q σ=cif c' P C x y Q σ:=by rw[h]
@[congr] theorem Av5{c:Code}{σ':AS}(h:σ=σ'):awd P C c Q σ=awd P C c Q σ':=by rw[h]
def Adh(P:Program)(C:World→Prop)(x y:Code)(Q:Exit→AS→Prop)(σ:AS)(t:Bool):Prop:=cif t P C x y Q σ
theorem Uy{x y:Code}{t:Bool}:Adh P C x y Q σ t=cif t P C x y Q σ:=rfl
theorem A57{c:Operand}{x y:Code}(h:asB (σ.ev c) (Adh P C x y Q σ)):awd P C (.cond c x y) Q σ:=by
 rw[← U2] at h
 exact h
theorem A9{c:Code}{tm:Nat→AV}{nx:Nat}(I:Nat→(Nat→AV)→(Nat→Option A4)→Nat→Prop)(n:Nat)(h:I n tm hp nx)(hr:∀ n tm' hp' nx',I n tm' hp' nx'→awd P C c (Es (A1v I n) Q) ⟨tm',hp',nx'⟩):awd P C (.loop c) Q ⟨tm,hp,nx⟩ :=
 ⟨fun n σ=>I n σ.tm σ.hp σ.nx,n,h,fun n σ' h'=>hr n σ'.tm σ'.hp σ'.nx h'⟩
end
end D
set_option linter.defProp false
namespace D
def sx:=And.intro @Uy (And.intro @Pe (And.intro @Me (And.intro @Af3 (And.intro @Yr Go.Proofs.YtbhffbgbhgjdiaaGreatDoor.sx))))
theorem byS{p:Prop}(h:p:=by (first|rfl|(simp (disch:=omega) only[sx,C7,↓reduceIte,Nat.reduceAdd,Nat.reduceEqDiff,Nat.reduceLeDiff, *];done)|fail)):p:=h
theorem byQ{p:Prop}(h:p:=by first|(simp (disch:=omega) only[sx,C7,↓reduceIte,Nat.reduceAdd,Nat.reduceEqDiff,Nat.reduceLeDiff, *];(try rfl);done)|fail):p:=h
section
variable{P:Program}{C:World→Prop}{hp:Nat→Option A4}{Q:Exit→AS→Prop}
theorem vdr{i:Nat}{l:List Oper}{tm:Nat→AV}{nx:Nat}(h:Ax P C l.toArray (drawn l.toArray) nx 0 l (A1q Q (nx+l.length)) ⟨tm,hp,nx⟩)(hb:D5 l.toArray (drawn l.toArray)=true:=by kernel_rfl):awd P C (.region i l.toArray true) Q ⟨tm,hp,nx⟩:=A2y hb h
theorem rtS{σ:AS}{q:Prop}(h:q)(e:Q .ret σ=q:=by (simp only[Qv,M8,Uo];rfl)):awd P C .ret Q σ:=U5 (e.mpr h)
theorem stq{a b:Prop}(h:b)(e:b→a:=by first|exact Ks|exact Gu):a:=e h
theorem stR{a b:Prop}(h:b)(e:b→a:=by first|exact Ks|exact Gu|exact fun h=>rtS h):a:=e h
theorem stp{a b:Prop}(h:b)(e:b→a:=by first|exact Hw|exact fun h=>vdr h|exact fun h=>vbS h|exact A57|exact Kr|exact Kt|exact J5|exact J6|exact fun h=>stS h):a:=e h
end
end D
def stepsV:List Value:=[.int .i64 0,.int .i64 0,.int .i64 1,.int .i64 0,.int .i64 0,.int .i64 1,.int .i64 0,.int .i64 0,.int .i64 1,.int .i64 1]
structure Ol(w:World):Prop where
 size:(5+1)≤w.heap.size
 pow:Lib.TabIs Tryz.prog w "internal/strconv.uint64pow10" .u64 Lib.pow10Tab
 tz:w.cell? ⟨5,15,none⟩=some (.int .u8 4)
 steps:At w 0 0 stepsV
def CtxP(w:World):Prop:=∀ w',Below (5+1) w w'→Ol w'
theorem CtxP.here{w:World}(h:CtxP w):Ol w:=h w (Below.refl _ _)
theorem CtxP.below{w w':World}{B:Nat}(h:CtxP w)(hb:Below B w w')(hB:(5+1)≤B):CtxP w':=fun w2 h2=>h w2 ((hb.mono hB).trans h2)
theorem CtxP.on{w w':World}(h:CtxP w)(hb:Below w.heap.size w w'):CtxP w':=h.below hb h.here.size
theorem base:Dj Tryz.prog CtxP:=⟨by kernel_rfl,fun _ _ h hb=>h.on hb⟩
def Acq:Glb:=fun g=>bif Nat.beq g 0 then some stepsV else none
theorem Bk:I6 CtxP Acq:=by
 intro w hw g cs h
 unfold Acq at h
 cases h1:Nat.beq g 0 with
 | true =>
  have:=Nat.eq_of_beq_eq_true h1
  subst this
  rw[h1] at h
  cases h
  exact⟨hw.here.steps,by decide⟩
 | false=>rw[h1] at h;cases h
theorem Aoy{α:Type}(g:α→AV){R:α→Prop}{f:FuncId}{fn:Func}{c:Code}(hf:Tryz.prog.funcs[f]?=some fn)(hb:fn.body=some c)(hnm:(fn.name == "runtime.NumGoroutine")=false){us:List AV}(hfit:fits fn.ntmps c=true)(hn:us.length≤fn.ntmps)
  (h:awd Tryz.prog CtxP c (Kl fun σ=>Dy Tryz.prog fn.results σ fun u=>∃ a,u=g a∧R a) (init us)):∃ a,R a∧Con Tryz.prog CtxP f us (.val (g a)):=by
 obtain⟨u,⟨a,rfl,h1⟩,h2⟩:=Abn base hf hb hnm hfit hn h
 exact⟨a,h1,h2⟩
theorem cvS{f:FuncId}{fn:Func}{c:Code}{us:List AV}{r:AV}(hf:Tryz.prog.funcs[f]?=some fn)(h:awp Tryz.prog CtxP c (Kl fun σ=>Dy Tryz.prog fn.results σ fun u=>u=r) ⟨tmI us,hpI,0⟩)(hb:fn.body=some c:=by rfl)(hnm:(fn.name == "runtime.NumGoroutine")=false:=by rfl)(hfit:fits fn.ntmps c=true:=by kernel_rfl)(hn:us.length≤fn.ntmps:=by exact Nat.le_of_ble_eq_true rfl):Con Tryz.prog CtxP f us (.val r):=A3w base hf hb hnm hfit hn h
theorem caS{α:Type}(g:α→AV){R:α→Prop}{f:FuncId}{fn:Func}{c:Code}{us:List AV}(hf:Tryz.prog.funcs[f]?=some fn)(h:awd Tryz.prog CtxP c (Kl fun σ=>Dy Tryz.prog fn.results σ fun u=>∃ a,u=g a∧R a) ⟨tmI us,hpI,0⟩)(hb:fn.body=some c:=by rfl)(hnm:(fn.name == "runtime.NumGoroutine")=false:=by rfl)(hfit:fits fn.ntmps c=true:=by kernel_rfl)(hn:us.length≤fn.ntmps:=by exact Nat.le_of_ble_eq_true rfl):∃ a,R a∧Con Tryz.prog CtxP f us (.val (g a)):=Aoy g hf hb hnm hfit hn h
abbrev Cn(f:FuncId)(us:List AV)(r:Res):Prop:=Con Tryz.prog CtxP f us r
abbrev gB(b:Bool):AV:=.ex (.bool b)
abbrev gI(n:Int):AV:=.ex (.int .i64 n)
abbrev gS(s:ByteArray):AV:=.ex (.string s)
abbrev gIB(x:Int×Bool):AV:=.tup [.ex (.int .i64 x.1),.ex (.bool x.2)]
abbrev gII(x:Int×Int):AV:=.tup [.ex (.int .i64 x.1),.ex (.int .i64 x.2)]
abbrev gAB(x:List AV×Bool):AV:=.tup [.agg x.1,.ex (.bool x.2)]
def Sz(n:Nat):Prop:=n≤140737488355328
theorem Ae{n:Nat}(h:n≤reachBytes):Sz n:=Nat.le_trans h (by decide)
def I64(n:Int):Prop:=-9223372036854775808≤n∧n≤9223372036854775807
theorem wf_i64{n:Int}(h:(Lit.int .i64 n).wf=true):I64 n:=bounds_i64 h
theorem Sh.six{P:Program}{d:Nat}{t:TypeId}{us:List AV}(h:Sh P d t us)(k:Nat):Sh P (d+k) t us:=h.le (Nat.le_add_right _ _)
def Bf(l:List Int):List (List AV):=l.map fun n=>[gI n]
theorem Ec(l:List Int):(Bf l).length=l.length:=by simp [Bf]
theorem Iq{l:List Int}{k:Nat}{n:Int}(h:l[k]?=some n):(Bf l)[k]?=some [gI n]:=by rw[Bf,List.getElem?_map,h];rfl
def Ju(r:List AV):Prop:=∃ s n,r=[gS s,gI n]∧Sz s.size∧I64 n
def Gj(r:List AV):Prop:=∃ s we ho,r=[gS s,.sl (Bf we),.sl (Bf ho)]∧Sz s.size∧Sz (we.length*8)∧Sz (ho.length*8)
def Fz(r:List AV):Prop:=∃ a b c s,r=[gI a,gI b,gI c,gS s]∧Sz s.size∧I64 a
def He(r:List AV):Prop:=∃ a b c d e s,r=[gI a,gI b,gI c,gI d,gI e,gS s]∧Sz s.size
def I2(r:List AV):Prop:=∃ a b c d e f s,r=[gI a,gI b,gI c,gI d,gI e,gI f,gS s]∧Sz s.size
def I5(r:List AV):Prop:=∃ s n u v d,r=[gS s,gI n]++u++v∧Sz s.size∧Sh Tryz.prog d 208 u∧Sh Tryz.prog d 208 v
def G1(r:List AV):Prop:=∃ s n u d,r=[gS s,gI n]++u∧Sz s.size∧Sh Tryz.prog d 208 u
structure AccV where
 id:Int
 opened:Int
 closed:Int
 extra:Int
 owner:ByteArray
 product:ByteArray
 number:ByteArray
structure AccV.Ok(a:AccV):Prop where
 i1:I64 a.id
 i2:I64 a.opened
 s1:Sz a.owner.size
 s2:Sz a.product.size
 s3:Sz a.number.size
def D6(a:AccV):List AV:=[gI a.id,gI a.opened,gI a.closed,gI a.extra,gS a.owner,gS a.product,gS a.number]
structure IntV where
 tiers:List (Int×Int)
 marg:Bool
 basis:Int
 mode:Int
 keep:Bool
def Ti(x:Int×Int):List AV:=[gI x.1,gI x.2]
def An(l:List (Int×Int)):List (List AV):=l.map Ti
structure IntV.Ok(x:IntV):Prop where
 n:Sz x.tiers.length
 t:∀ y∈x.tiers,I64 y.1∧I64 y.2
 b:I64 x.basis
 m:I64 x.mode
 y:Sz (x.tiers.length*16)
structure ProdV where
 name:ByteArray
 cur:ByteArray
 cal:ByteArray
 frm:Int
 every:Int
 over:Int
 tax:Int
 cr:IntV
 db:IntV
 fees:List (List AV)
 rules:List (List AV)
structure ProdV.Ok(p:ProdV):Prop where
 s1:Sz p.name.size
 s2:Sz p.cur.size
 s3:Sz p.cal.size
 i1:I64 p.frm
 i2:I64 p.every
 i3:I64 p.over
 i4:I64 p.tax
 c:p.cr.Ok
 d:p.db.Ok
 f:Sz p.fees.length
 r:Sz p.rules.length
 ff:∀ x∈p.fees,I5 x
 rr:∀ x∈p.rules,G1 x
 yf:Sz (p.fees.length*136)
 yr:Sz (p.rules.length*80)
def Bw(p:ProdV):List AV:=[gS p.name,gS p.cur,gS p.cal,gI p.frm,gI p.every,gI p.over,gI p.tax,.sl (An p.cr.tiers),gB p.cr.marg,gI p.cr.basis,gI p.cr.mode,gB p.cr.keep,.sl (An p.db.tiers),gB p.db.marg,gI p.db.basis,gI p.db.mode,gB p.db.keep,.sl p.fees,.sl p.rules]
structure Aa3 where
 p1:Int
 p2:Int
 p3:Int
 p4:Int
 p5:Int
 p6:Int
 p7:Int
 p8:Int
 p9:Int
 p10:Int
 p11:Int
 p12:Int
 p13:Int
 p14:Int
structure BkV where
 cur:List (List AV)
 cal:List (List AV)
 chart:List (List AV)
 plan:Aa3
 prods:List ProdV
 accs:List AccV
 holds:List (List AV)
 blocks:List (List AV)
structure BkV.Ok(b:BkV):Prop where
 n1:Sz b.cur.length
 n2:Sz b.cal.length
 n3:Sz b.chart.length
 n4:Sz b.prods.length
 n5:Sz b.accs.length
 n6:Sz b.holds.length
 n7:Sz b.blocks.length
 r1:∀ x∈b.cur,Ju x
 r2:∀ x∈b.cal,Gj x
 r3:∀ x∈b.chart,Fz x
 r4:∀ x∈b.prods,x.Ok
 r5:∀ x∈b.accs,x.Ok
 r6:∀ x∈b.holds,He x
 r7:∀ x∈b.blocks,I2 x
 y1:Sz (b.cur.length*24)
 y2:Sz (b.cal.length*64)
 y3:Sz (b.chart.length*40)
 y4:Sz (b.prods.length*240)
 y5:Sz (b.accs.length*80)
 y6:Sz (b.holds.length*56)
 y7:Sz (b.blocks.length*64)
def Hz(l:List AccV):List (List AV):=l.map D6
def Db(l:List ProdV):List (List AV):=l.map Bw
def bkC(b:BkV)(j:List (List AV)):List AV:=[.sl b.cur,.sl b.cal,.sl b.chart,gI b.plan.p1,gI b.plan.p2,gI b.plan.p3,gI b.plan.p4,gI b.plan.p5,gI b.plan.p6,gI b.plan.p7,gI b.plan.p8,gI b.plan.p9,gI b.plan.p10,gI b.plan.p11,gI b.plan.p12,gI b.plan.p13,gI b.plan.p14,.sl (Db b.prods),.sl (Hz b.accs),.sl j,.sl b.holds,.sl b.blocks]
end Go.Proofs.YtbhffbgbhgjdiaaGreatDoor
