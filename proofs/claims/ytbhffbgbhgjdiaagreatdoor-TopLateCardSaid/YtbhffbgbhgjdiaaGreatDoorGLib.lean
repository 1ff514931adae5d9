/-
  Words for memory and small laws, over any program: a slice that reads as a list of cells; an append of one element, of a slice, to a row of the call's own; bytes as a string. Conditions: none beyond those each theorem states. More of the kind.
-/
import Derived.WalkKit
import Derived.WalkSpells
import Derived.WalkLawsBesides
import Derived.Outline
import Derived.Deep.QuietTactic
import Derived.Deep.Draws
import Derived.BigQuiet
import Derived.Lib.Hide
import Derived.Lib.AppendStr
import Derived.Lib.AppendIntMem
import Derived.Laws.Shifts
import Derived.Laws.ShiftsVar
import Derived.Laws.ShiftsVarLaws
import Derived.Maps.AppendAt
import Derived.Deep.LoopGhost
import Derived.Deep.RegionHeld3
set_option linter.unusedSimpArgs false
set_option linter.unusedVariables false
namespace Go.Proofs.YtbhffbgbhgjdiaaGreatDoor
open Go.RowKit
def At(w:World)(b o:Nat)(cs:List Value):Prop:=∀ j u,cs[j]?=some u→w.cell? ⟨b,o+j,none⟩=some u
def Reads(w:World)(B sz:Nat)(A:Option Addr)(n:Nat)(cs:List Value):Prop :=
 cs.length=n*sz∧(0<n→∃ b o,A=some ⟨b,o,none⟩∧b<B∧At w b o cs)
section
variable{w w':World}{B B' sz n:Nat}{A:Option Addr}{cs:List Value}
theorem At.below{b o:Nat}(h:At w b o cs)(hb:Below B w w')(hlt:b<B):At w' b o cs:=fun j u hu=>(hb.cell (p:=⟨b,o+j,none⟩) hlt).trans (h j u hu)
theorem At.drop{b o:Nat}(h:At w b o cs)(k:Nat):At w b (o+k) (cs.drop k):=fun j u hu=>by
 rw[List.getElem?_drop] at hu
 rw[Nat.add_assoc]
 exact h _ u hu
theorem At.cell{b o:Nat}(h:At w b o cs){j:Nat}{u:Value}(hu:cs[j]?=some u):w.cell? ⟨b,o+j,none⟩=some u:=h j u hu
end
theorem Below.thenB{B:Nat}{a b c:World}(hB:B≤a.heap.size)(h:Below B a b)(k:Below b.heap.size b c):Below B a c:=h.trans (k.mono (Nat.le_trans hB h.size))
theorem Ft{w:World}{B e sz n:Nat}{v:Value}{cs:List Value}(h:w.ownsRow B e sz v n cs):∃ A c,v=.slice A n c∧n≤c∧c≤maxLen:=by
 rcases h.2 with⟨rfl,rfl⟩|⟨g,cap,cur,rfl,_,_,h1,h2,_⟩
 ·exact⟨none,0,rfl,Nat.le_refl _,by decide⟩
 ·exact⟨_,_,rfl,h1,h2⟩
theorem Yx{w:World}{B B' e sz n:Nat}{v:Value}{cs:List Value}(h:w.ownsRow B e sz v n cs)(hB:B'≤B):w.ownsRow B' e sz v n cs:=by
 refine⟨h.1, ?_⟩
 rcases h.2 with h2|⟨g,cap,cur,hv,hg,r⟩
 ·exact .inl h2
 ·exact .inr ⟨g,cap,cur,hv,Nat.le_trans hB hg,r⟩
theorem Abp{P:Program}{w:World}{B e n:Nat}{v:Value}{l:List UInt8}(h:w.ownsRow B e 1 v n (Lib.byteCells l)){src dst:TypeId}
  (hs:P.underlying src=some (.slice e)) (he:P.underlying e=some (.int .u8)) (hd:P.underlying dst=some .string):(convert src dst v).run P w=.ok (.string ⟨l.toArray⟩) w:=by
 have hn:n=l.length:=by have:=h.1;simp [Lib.byteCells] at this;omega
 subst hn
 rcases h.2 with⟨rfl,h0⟩|⟨g,cap,cur,rfl,_⟩
 ·have:l=[]:=List.eq_nil_of_length_eq_zero h0
  subst this
  exact run_convert_bytes_nil w src e hs he 0 0 dst hd
 ·refine run_convert_bytes_back w src dst e _ cap l hs he hd fun j hj=>?_
  exact h.cells (g:=g) rfl j _ (by simp [Lib.byteCells,hj])
structure Elt(P:Program)(t e:TypeId)(size bytes:Nat):Prop where
 slice:P.underlying t=some (.slice e)
 info:∃ i z,P.info? e=some i∧i.zero=some z∧i.size=size∧i.bytes=bytes∧z.cells.size=size
 pos:0<size
theorem Elt.mk'{P:Program}{t e:TypeId}{size bytes:Nat}{z:Value}(h:P.underlying t=some (.slice e))(hi:(P.info? e).map (fun i=>(i.zero,i.size,i.bytes))=some (some z,size,bytes))
  (hz:z.cells.size=size) (hp:0<size):Elt P t e size bytes:=by
 obtain⟨i,h1,h2,h3,h4⟩:=info_parts hi
 exact⟨h,⟨i,z,h1,h2,h3,h4,hz⟩,hp⟩
section
variable{P:Program}{ops:Array Oper}{rest:List Oper}{o:Oper}{a:Act}{Q:Exit→Act→World→Prop}
theorem Zv{W:World}{t e:TypeId}{size bytes:Nat}(E:Elt P t e size bytes)(hgd:o.guard=none)(s x:Operand)
  (ho:o.op=.call { callee:=.builtin .append,args:=#[s,x],argTypes:=#[t,t] }) (base:Nat)
  (v:Value) (n:Nat) (xs:List Value) (hs:a.eval s=v) (hown:W.ownsRow base e size v n xs)
  (news:List Value) (hx:a.eval x=.slice (some ⟨W.heap.size,0,none⟩) 1 1) (hl:news.length=size) (h1:∀ u∈news,u.oneCell'=true)
  (hlim:(n+1)*bytes≤140737488355328) (hb:1≤bytes) (hbase:base≤W.heap.size)
  (h:∀ v' w',w'.ownsRow base e size v' (n+1) (xs++news)→Below base W w'→wpList P ops Q rest (a.put o.dst v') w'):wpList P ops Q (o :: rest) a (W.alloc (.cells news.toArray e)):=by
 obtain⟨i,z,hi,hz,h3,h4,h5⟩:=E.info
 have hn:n+1≤(n+1)*bytes:=Nat.le_mul_of_pos_right _ hb
 refine wpList_append_own _ hgd s x t ho base e i z size bytes E.slice hi hz h3 h4 h5 E.pos v n xs hs (hown.alloc _) ⟨W.heap.size,0,none⟩ 1 1 news hx (by omega) (fun j u hu=>?_) h1 (by unfold maxLen;omega) hlim (by simp;omega) fun v' w' h2 h3 _=>h v' w' h2 ?_
 ·rw[Addr.add_lit,World.cell?_alloc_new,Nat.zero_add]
  simpa using hu
 ·refine ((Below.refl base W).alloc hbase _).grown h3 (by simp;omega) fun k hk=>(hown.lt k hk).1
end
end Go.Proofs.YtbhffbgbhgjdiaaGreatDoor
namespace Go.Proofs.YtbhffbgbhgjdiaaGreatDoor
end Go.Proofs.YtbhffbgbhgjdiaaGreatDoor
namespace Go.Proofs.YtbhffbgbhgjdiaaGreatDoor
end Go.Proofs.YtbhffbgbhgjdiaaGreatDoor
