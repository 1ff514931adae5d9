/-
  Days, months and years, plain: where a month ends; the open day that a rule gives does not go back from month to month. Conditions: those that each theorem states. More of the kind.
-/
import Derived.Test.YtbhffbgbhgjdiaaGreatDoorGLib
set_option linter.unusedSimpArgs false
set_option linter.unusedVariables false
namespace Go.Proofs.YtbhffbgbhgjdiaaGreatDoor
set_option maxRecDepth 100000
def Ng(y:Int):Bool:=decide (y % 4=0) && (!decide (y % 100=0) || decide (y % 400=0))
def Is(y m:Int):Int:=if m=2 then (if Ng y=true then 29 else 28) else if m=4∨m=6∨m=9∨m=11 then 30 else 31
def beg(y:Int):Int:=365*(y-2000)+(y-2000+3) / 4-(if 2100<y then 1 else 0)
def cum(y:Int):Nat→Int
 | 0=>0
 | m+1=>cum y m+Is y ((m:Int)+1)
theorem V8(y m:Int):28≤Is y m∧Is y m≤31:=by
 unfold Is
 split
 ·split<;>omega
 ·split<;>omega
theorem Xk(y:Int):∀ (a d:Nat),cum y a≤cum y (a+d)
 | _,0=>Int.le_refl _
 | a,d+1=>by
  have h1:=Xk y a d
  have h2:=V8 y (((a+d:Nat):Int)+1)
  rw[← Nat.add_assoc]
  show _≤cum y (a+d)+_
  omega
theorem Pm{y:Int}{a b:Nat}(h:a≤b):cum y a≤cum y b:=by
 have:=Xk y a (b-a)
 rwa [show a+(b-a)=b by omega] at this
theorem O4(y:Int)(a:Nat):0≤cum y a:=Pm (Nat.zero_le a)
theorem Amx(y:Int):cum y 12=365+(if Ng y=true then 1 else 0):=by
 simp only[cum,Is]
 cases Ng y<;>decide
theorem A66:∀ k:Fin 200,beg (2000+((k:Nat):Int)+1)=beg (2000+((k:Nat):Int))+365+(if Ng (2000+((k:Nat):Int))=true then 1 else 0):=by decide +kernel
theorem Ku{y:Int}(h1:2000≤y)(h2:y≤2199):beg (y+1)=beg y+cum y 12:=by
 have:=A66 ⟨(y-2000).toNat,by omega⟩
 dsimp only at this
 rw[show 2000+((y-2000).toNat:Int)=y by omega] at this
 rw[this,Amx];omega
theorem X8{y:Int}(h1:2000≤y):∀ d:Nat,y+d≤2200→beg y≤beg (y+d)
 | 0,_=>by simp
 | d+1,h=>by
  have h2:=X8 h1 d (by omega)
  have h3:=Ku (y:=y+d) (by omega) (by omega)
  have h4:=O4 (y+d) 12
  rw[show y+((d+1:Nat):Int)=y+d+1 by omega,h3];omega
theorem A0p{y z:Int}(h1:2000≤y)(h:y≤z)(h2:z≤2200):beg y≤beg z:=by
 have:=X8 h1 (z-y).toNat (by omega)
 rwa [show y+((z-y).toNat:Int)=z by omega] at this
structure A3f(x y m d:Int):Prop where
 y1:2000≤y
 y2:y≤2199
 m1:1≤m
 m2:m≤12
 d1:1≤d
 d2:d≤Is y m
 e:x=beg y+cum y (m.toNat-1)+d-1
theorem Abr{y m:Int}(h:1≤m):cum y m.toNat=cum y (m.toNat-1)+Is y m:=by
 obtain⟨k,hk⟩:∃ k,m.toNat=k+1:=⟨m.toNat-1,by omega⟩
 rw[hk,Nat.add_sub_cancel]
 show cum y k+Is y ((k:Int)+1)=_
 rw[show (k:Int)+1=m by omega]
theorem A6h{x y m d:Int}(h:A3f x y m d):0≤x∧x≤73048:=by
 have a1:=h.e
 have h1:=A0p (y:=2000) (z:=y) (by decide) h.y1 (by have:=h.y2;omega)
 have h0:beg 2000=0:=by decide
 have h2:=O4 y (m.toNat-1)
 have h3:=h.d1
 have e1:=Abr (y:=y) h.m1
 have h4:=Pm (y:=y) (a:=m.toNat) (b:=12) (by have:=h.m2;omega)
 have h5:=Ku h.y1 h.y2
 have h6:=A0p (y:=y+1) (z:=2200) (by have:=h.y1;omega) (by have:=h.y2;omega) (by decide)
 have h7:beg 2200=73049:=by decide
 have h8:=h.d2
 exact⟨by omega,by omega⟩
end Go.Proofs.YtbhffbgbhgjdiaaGreatDoor
namespace Go.Proofs.YtbhffbgbhgjdiaaGreatDoor
set_option maxRecDepth 100000
end Go.Proofs.YtbhffbgbhgjdiaaGreatDoor
namespace Go.Proofs.YtbhffbgbhgjdiaaGreatDoor
set_option maxRecDepth 100000
end Go.Proofs.YtbhffbgbhgjdiaaGreatDoor
namespace Go.Proofs.YtbhffbgbhgjdiaaGreatDoor
set_option maxRecDepth 100000
end Go.Proofs.YtbhffbgbhgjdiaaGreatDoor
namespace Go.Proofs.YtbhffbgbhgjdiaaGreatDoor
set_option maxRecDepth 100000
end Go.Proofs.YtbhffbgbhgjdiaaGreatDoor
namespace Go.Proofs.YtbhffbgbhgjdiaaGreatDoor
set_option maxRecDepth 100000
end Go.Proofs.YtbhffbgbhgjdiaaGreatDoor
