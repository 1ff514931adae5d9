/-
  Parts of the proof: InsMon InsLeg. Conditions: those that each theorem states.
-/
import Derived.Test.YtbhffbgbhgjdiaaGreatDoorGIns
import Derived.Test.YtbhffbgbhgjdiaaGreatDoorGCon
import Derived.Shelf.Spec.SlicesInsert
set_option linter.unusedSimpArgs false
set_option linter.unusedVariables false
namespace Go.Proofs.YtbhffbgbhgjdiaaGreatDoor
open Go.RowKit
set_option maxRecDepth 100000
set_option maxHeartbeats 4000000 in
theorem Wm(w:World)(g cap n i vb voff vc:Nat)(cur:Array Value)(vs:List Value)(hg:w.heap[g]?=some (.cells cur 122 (0,0)))(hcur:cur.size=cap*2)(hi:i<n)(hn:n+1≤cap)(hc63:cap≤9223372036854775807)
  (hvb:vb≠g) (hvl:vs.length=2) (hvs:∀ j v,vs[j]?=some v→w.cell? ⟨vb,voff+j,none⟩=some v) (h1c:∀ v∈cur.toList.take (n*2),v.oneCell'=true) (h1v:∀ v∈vs,v.oneCell'=true) :
  Calls Tryz.prog 121 #[.slice (some ⟨g,0,none⟩) n cap,.int .i64 i,.slice (some ⟨vb,voff,none⟩) 1 vc] w fun e w' =>
   e=.returned (.slice (some ⟨g,0,none⟩) (n+1) cap)∧∃ cur1 cur2:List Value,cur1=cur.toList.take ((i+1)*2)++((cur.toList.take (n*2)).drop (i*2))++cur.toList.drop ((i+1)*2+(n-i)*2)∧cur2=cur1.take (i*2)++vs++cur1.drop (i*2+2)∧w'=(w.drew.setRow g cur1.toArray).setRow g cur2.toArray:=by
 have hinfo:(Tryz.prog.info? 122).map (·.size)=some 2:=by kernel_rfl
 have hsz:∀ W,(Go.sizeOf 122).run Tryz.prog W=.ok 2 W:=fun W=>by kernel_rfl
 have hvc:∃ ca tA fA,w.heap[vb]?=some (.cells ca tA fA)∧ca.size≠0:=by
  have hv0:vs[0]?=some vs[0]:=List.getElem?_eq_getElem (by omega)
  have:=hvs 0 _ hv0
  unfold World.cell? at this
  split at this
  ·rename_i c t f hh
   refine⟨c,t,f,hh,fun e=>?_⟩
   have h2:=(Array.getElem?_eq_some_iff.1 this).1
   omega
  ·cases this
 obtain⟨ca,tA,fA,hvh,hca⟩:=hvc
 have hov:∀ lb cb o,(callFunc 172 #[.slice (some ⟨vb,voff,none⟩) 1 vc,.slice (some ⟨g,o,none⟩) lb cb]).run Tryz.prog w=.ok (.value (.bool false)) w:=fun lb cb o=>by
  rw [run_callFunc_extern Tryz.func172 (by kernel_rfl) (by kernel_rfl) (by kernel_rfl) (e:=Extern.SlicesOverlaps.overlaps #[119,119] #[4]) (by kernel_rfl),
   H9 w 119 4 122 Tryz.underlying119 2 hsz ⟨vb,voff,none⟩ ⟨g,o,none⟩ 1 vc lb cb hvb hvh hca hg (by rw[hcur];omega)]
  rfl
 have hz2:¬ ((i:Int)=(n:Int)):=by omega
 have hin:i≤n:=by omega
 have hw1:IntKind.i64.wrap ((i:Int)+1)=(i:Int)+1:=by rw[IntKind.wrap_i64];omega
 have hb1:(0:Int)≤(i:Int)+1:=by omega
 have htn:((i:Int)+1).toNat=i+1:=by omega
 have hb2:¬ (cap=i+1):=by omega
 have hb3:(i:Int)≤(n:Int)+1:=by omega
 have hb4:¬ (cap=i):=by omega
 obtain⟨cs,hcs⟩:∃ cs,cs=(cur.toList.take (n*2)).drop (i*2):=⟨_,rfl⟩
 have hcsl:cs.length=(n-i)*2:=by
  rw[hcs,List.length_drop,List.length_take,Array.length_toList]
  omega
 have hmin:Nat.min (n+1-i) (n-i)=n-i:=by simp only[Nat.min_def];split<;>omega
 have hmin2:Nat.min 1 (n+1-i)=1:=by simp only[Nat.min_def];split<;>omega
 obtain⟨cur1,hcur1⟩:∃ cur1:List Value,cur1=cur.toList.take ((i+1)*2)++cs++cur.toList.drop ((i+1)*2+(n-i)*2):=⟨_,rfl⟩
 have hcur1l:cur1.length=cap*2:=by
  rw[hcur1,List.length_append,List.length_append,List.length_take,List.length_drop,hcsl,Array.length_toList]
  omega
 have hgd:w.drew.heap[g]?=some (.cells cur 122 (0,0)):=hg
 have hcp1:∀ ty dc sc,(Builtin.copy_ #[119,119] ty #[.slice (some ⟨g,(i+1)*2,none⟩) (n-i) dc,.slice (some ⟨g,i*2,none⟩) (n+1-i) sc]).run Tryz.prog w.drew=.ok (goInt ((n-i:Nat):Int)) (w.drew.setRow g cur1.toArray):=fun ty dc sc=>by
  have h:=By w.drew 119 119 ty 122 2 g ((i+1)*2) (n-i) dc ⟨g,i*2,none⟩ (n+1-i) sc cur 122 cs Tryz.underlying119 hinfo hgd (by rw[hmin,hcsl])
   (fun j v hj=>by
     rw[Addr.add_lit]
     rw[hcs,List.getElem?_drop,List.getElem?_take] at hj
     split at hj
     ·simpa [World.cell?,hgd] using hj
     ·cases hj) (by rw[hcsl,hcur];omega) (fun v hv=>h1c v (List.mem_of_mem_drop (by rw[hcs] at hv;exact hv)))
  rw[hmin,hcsl] at h
  rw[h,hcur1]
 obtain⟨W1,hW1⟩:∃ W1,W1=w.drew.setRow g cur1.toArray:=⟨_,rfl⟩
 rw[← hW1] at hcp1
 have hg1:W1.heap[g]?=some (.cells cur1.toArray 122 (0,0)):=by rw[hW1];exact setRow_heap w.drew g cur _ _ _ hgd
 have hcp2:∀ (W:World),W.heap=W1.heap→∀ ty dc,(Builtin.copy_ #[119,119] ty #[.slice (some ⟨g,i*2,none⟩) (n+1-i) dc,.slice (some ⟨vb,voff,none⟩) 1 vc]).run Tryz.prog W=.ok (goInt 1) (W.setRow g (cur1.take (i*2)++vs++cur1.drop (i*2+2)).toArray):=fun W hW ty dc=>by
  have h:=By W 119 119 ty 122 2 g (i*2) (n+1-i) dc ⟨vb,voff,none⟩ 1 vc cur1.toArray 122 vs Tryz.underlying119 hinfo (by rw[hW];exact hg1) (by rw[hmin2,hvl])
   (fun j v hj=>by
     rw[Addr.add_lit]
     have h1:=hvs j v hj
     rw[← h1]
     refine World.cell?_of_block (w:=w) ?_
     show W.heap[vb]?=w.heap[vb]?
     rw[hW,hW1]
     exact setRow_other w.drew g vb _ hvb) (by rw[hvl,List.size_toArray,hcur1l];omega) h1v
  rw[hmin2,hvl] at h
  exact h
 have mixed:Tryz.prog.follows .mixedOrders=true:=by kernel_rfl
 have HW1:=Lib.hid hW1
 have Hcs:=Lib.hid hcs
 have Hcur1:=Lib.hid hcur1
 clear hW1 hcs hcur1
 go_enter Tryz.func121,Tryz.ntmps121
 go_wp2_with (simp only[hov])
 go_region_law_o (refine step_copy_runI rfl _ _ 119 119 rfl _ _ (by simp [Act.eval,Act.put]) (by simp [Act.eval,Act.put]) (hcp1 _ _ _) ?_)
 go_wp2_with (at_builtin;refine wpList_copy_runI _ rfl _ _ 119 119 rfl _ _ rfl rfl (hcp2 _ rfl _ _) ?_)
 go_ret
 refine⟨rfl,cur1,_,by rw[Hcur1.out,Hcs.out],rfl, ?_⟩
 rw[HW1.out,List.append_assoc]
set_option maxHeartbeats 4000000 in
theorem Wk(w:World)(g cap n i vb voff vc:Nat)(cur:Array Value)(vs:List Value)(hg:w.heap[g]?=some (.cells cur 122 (0,0)))(hcur:cur.size=cap*2)(hi:i<n)(hnc:n≤cap)(hn:cap<n+1)(hbig:(n+1)*24≤140737488355328)
  (hvl:vs.length=2) (hvs:∀ j v,vs[j]?=some v→w.cell? ⟨vb,voff+j,none⟩=some v) (h1c:∀ v∈cur.toList.take (n*2),v.oneCell'=true) (h1v:∀ v∈vs,v.oneCell'=true) :
  Calls Tryz.prog 121 #[.slice (some ⟨g,0,none⟩) n cap,.int .i64 i,.slice (some ⟨vb,voff,none⟩) 1 vc] w fun e w' =>
   ∃ (G:Nat) (ROW row1 row2:List Value),e=.returned (.slice (some ⟨w.heap.size,0,none⟩) (n+1) G)∧n+1≤G∧G≤9223372036854775807∧ROW.length=G*2∧ROW.take (i*2)=cur.toList.take (i*2) ∧
    row1=ROW.take (i*2)++vs++ROW.drop (i*2+2)∧row2=row1.take ((i+1)*2)++((cur.toList.take (n*2)).drop (i*2))++row1.drop ((i+1)*2+(n-i)*2) ∧
    w'=(((w.alloc (.cells ROW.toArray 122)).drew.setRow w.heap.size row1.toArray).drew).setRow w.heap.size row2.toArray:=by
 have hall:(Tryz.prog.info? 122).map (fun i=>(i.size,i.bytes,i.zero.map (·.cells.size)))=some (2,24,some 2):=by kernel_rfl
 obtain⟨i0,hi0⟩:∃ i0,Tryz.prog.info? 122=some i0:=by
  cases h:Tryz.prog.info? 122 with
  | none=>rw[h] at hall;cases hall
  | some i0=>exact⟨i0,rfl⟩
 rw[hi0] at hall
 simp only[Option.map_some,Option.some.injEq,Prod.mk.injEq] at hall
 obtain⟨hzs,hzb,hz⟩:=hall
 obtain⟨z,hz0⟩:∃ z,i0.zero=some z:=by
  cases h:i0.zero with
  | none=>rw[h] at hz;cases hz
  | some z=>exact⟨z,rfl⟩
 rw[hz0,Option.map_some,Option.some.injEq] at hz
 have hinfo:(Tryz.prog.info? 122).map (·.size)=some 2:=by rw[hi0];simp [hzs]
 have hcl:(cur.toList.take (i*2)).length=i*2:=by rw[List.length_take,Array.length_toList];omega
 have hold:(Builtin.firstCells i0.size i (.slice (some ⟨g,0,none⟩) i cap)).run Tryz.prog w.drew=.ok (cur.toList.take (i*2)).toArray w.drew:=by
  rw[hzs]
  exact run_firstCells_some w.drew 2 i ⟨g, 0, none⟩ i cap (cur.toList.take (i * 2)) (by rw [hcl]) (fun j v hj=>by
   rw[Addr.add_lit,Nat.zero_add]
   rw[List.getElem?_take] at hj
   split at hj
   ·have hgd:w.drew.heap[g]?=some (.cells cur 122 (0,0)):=hg
    simpa [World.cell?,hgd] using hj
   ·cases hj)
 have hkk:(n:Int)+1-(i:Int)=((n+1-i:Nat):Int):=by omega
 have hik:i+(n+1-i)=n+1:=by omega
 have hrz:∀ ty,(Builtin.append_ #[119,3] ty #[.slice (some ⟨g,0,none⟩) i cap,.int .i64 ((n:Int)+1-(i:Int))]).run Tryz.prog w =
   .ok (.slice (some ⟨w.heap.size,0,none⟩) (n+1) (grownCap w (n+1) cap 122)) (w.drew.alloc (.cells ((cur.toList.take (i*2)).toArray++Builtin.zeroCells z.cells (n+1-i)++Builtin.zeroCells z.cells (grownCap w (n+1) cap 122-(n+1))) 122)):=fun ty=>by
  have h:=Lib.run_append_grow_zeros w 119 3 ty 122 i0 z .i64 .i64 Tryz.underlying119 Tryz.underlying3 hi0 hz0 (some ⟨g,0,none⟩) i cap (cur.toList.take (i*2)) hold (n+1-i) (by omega) (by omega) (by omega) (by omega) (by rw[hzb];omega) (by rw[hzb,hik];exact growslice_fits hn hbig)
  rw[hik] at h
  rw[hkk]
  exact h
 obtain⟨G,hG⟩:∃ G,G=grownCap w (n+1) cap 122:=⟨_,rfl⟩
 rw[← hG] at hrz
 have hGn:n+1≤G:=by rw[hG];exact grownCap_ge w _ _ _
 have hG63:G≤9223372036854775807:=by
  have:=grownCap_le_maxLen w (n+1) cap 122 (by unfold maxLen;omega)
  rw[← hG] at this
  unfold maxLen at this
  omega
 obtain⟨Z,hZ⟩:∃ Z:List Value,Z=(Builtin.zeroCells z.cells (n+1-i)).toList++(Builtin.zeroCells z.cells (G-(n+1))).toList:=⟨_,rfl⟩
 have hZl:Z.length=(G-i)*2:=by
  rw[hZ,List.length_append,Array.length_toList,Array.length_toList,Oe,Oe,hz]
  omega
 obtain⟨ROW,hROW⟩:∃ ROW:List Value,ROW=cur.toList.take (i*2)++Z:=⟨_,rfl⟩
 have hRA:((cur.toList.take (i*2)).toArray++Builtin.zeroCells z.cells (n+1-i)++Builtin.zeroCells z.cells (G-(n+1)))=ROW.toArray:=by
  rw[hROW,hZ]
  apply Array.ext'
  simp
 rw[hRA] at hrz
 have hRl:ROW.length=G*2:=by rw[hROW,List.length_append,hcl,hZl];omega
 have hRt:ROW.take (i*2)=cur.toList.take (i*2):=by rw[hROW];exact List.take_left' hcl
 obtain⟨row1,hrow1⟩:∃ row1:List Value,row1=ROW.take (i*2)++vs++ROW.drop (i*2+2):=⟨_,rfl⟩
 have hr1l:row1.length=G*2:=by
  rw[hrow1,List.length_append,List.length_append,List.length_take,List.length_drop,hRl,hvl];omega
 obtain⟨cs,hcs⟩:∃ cs,cs=(cur.toList.take (n*2)).drop (i*2):=⟨_,rfl⟩
 have hcsl:cs.length=(n-i)*2:=by
  rw[hcs,List.length_drop,List.length_take,Array.length_toList]
  omega
 have hgw:g<w.heap.size:=by
  rcases Nat.lt_or_ge g w.heap.size with h|h
  ·exact h
  ·rw[Array.getElem?_eq_none h] at hg;cases hg
 have hvw:vb<w.heap.size:=by
  have hv0:vs[0]?=some vs[0]:=List.getElem?_eq_getElem (by omega)
  exact World.block_lt_of_cell? w _ (hvs 0 _ hv0)
 have hmin:Nat.min (n-i) (n-i)=n-i:=Nat.min_self _
 have hmin2:Nat.min 1 (n+1-i)=1:=by simp only[Nat.min_def];split<;>omega
 have hcpA:∀ (W:World),W.heap=(w.alloc (.cells ROW.toArray 122)).heap→∀ ty dc,(Builtin.copy_ #[119,119] ty #[.slice (some ⟨w.heap.size,i*2,none⟩) (n+1-i) dc,.slice (some ⟨vb,voff,none⟩) 1 vc]).run Tryz.prog W=.ok (goInt 1) (W.setRow w.heap.size row1.toArray):=fun W hW ty dc=>by
  have h:=By W 119 119 ty 122 2 w.heap.size (i*2) (n+1-i) dc ⟨vb,voff,none⟩ 1 vc ROW.toArray 122 vs Tryz.underlying119 hinfo (by rw[hW];exact Array.getElem?_push_size) (by rw[hmin2,hvl])
   (fun j v hj=>by
     rw[Addr.add_lit]
     have h1:=hvs j v hj
     rw[← h1]
     refine World.cell?_of_block (w:=w) ?_
     show W.heap[vb]?=w.heap[vb]?
     rw[hW]
     exact Below.heap_alloc w _ vb hvw) (by rw[hvl,List.size_toArray,hRl];omega) h1v
  rw[hmin2,hvl] at h
  rw[hrow1]
  exact h
 have hcpB:∀ (W:World),W.heap[w.heap.size]?=some (.cells row1.toArray 122 (0,0))→W.heap[g]?=w.heap[g]?→∀ ty dc sc,(Builtin.copy_ #[119,119] ty #[.slice (some ⟨w.heap.size,(i+1)*2,none⟩) (n-i) dc,.slice (some ⟨g,i*2,none⟩) (n-i) sc]).run Tryz.prog W=.ok (goInt ((n-i:Nat):Int)) (W.setRow w.heap.size (row1.take ((i+1)*2)++cs++row1.drop ((i+1)*2+(n-i)*2)).toArray):=fun W hW hWg ty dc sc=>by
  have h:=By W 119 119 ty 122 2 w.heap.size ((i+1)*2) (n-i) dc ⟨g,i*2,none⟩ (n-i) sc row1.toArray 122 cs Tryz.underlying119 hinfo hW (by rw[hmin,hcsl])
   (fun j v hj=>by
     rw[Addr.add_lit]
     rw[hcs,List.getElem?_drop,List.getElem?_take] at hj
     split at hj
     ·have hWg2:W.heap[g]?=some (.cells cur 122 (0,0)):=hWg.trans hg
      simpa [World.cell?,hWg2] using hj
     ·cases hj) (by rw[hcsl,List.size_toArray,hr1l];omega) (fun v hv=>h1c v (List.mem_of_mem_drop (by rw[hcs] at hv;exact hv)))
  rw[hmin,hcsl] at h
  exact h
 have hz2:¬ ((i:Int)=(n:Int)):=by omega
 have hz3:(cap:Int)<(n:Int)+1:=by omega
 have hin:i≤n:=by omega
 have hw1:IntKind.i64.wrap ((i:Int)+1)=(i:Int)+1:=by rw[IntKind.wrap_i64];omega
 have hb1:(0:Int)≤(i:Int)+1:=by omega
 have htn:((i:Int)+1).toNat=i+1:=by omega
 have hGi:¬ (G=i):=by omega
 have hGim:¬ (G=i+1):=by omega
 have hci:¬ (cap=i):=by omega
 have hb3:(i:Int)≤(n:Int):=by omega
 have mixed:Tryz.prog.follows .mixedOrders=true:=by kernel_rfl
 have Hcs:=Lib.hid hcs
 have Hrow1:=Lib.hid hrow1
 have HROW:=Lib.hid hRl
 have HRt:=Lib.hid hRt
 clear hcs hrow1 hROW hRl hRt hZ hZl hRA hkk hik hold hG hcl hcsl hr1l hz
 go_enter Tryz.func121,Tryz.ntmps121
 have hA2:∀ ty dc,(Builtin.copy_ #[119,119] ty #[.slice (some ⟨w.heap.size,i*2,none⟩) (n+1-i) dc,.slice (some ⟨vb,voff,none⟩) 1 vc]).run Tryz.prog (w.alloc (.cells ROW.toArray 122)).drew=.ok (goInt 1) ((w.alloc (.cells ROW.toArray 122)).drew.setRow w.heap.size row1.toArray):=fun ty dc=>hcpA (w.alloc (.cells ROW.toArray 122)).drew rfl ty dc
 have hN0:(w.alloc (.cells ROW.toArray 122)).drew.heap[w.heap.size]?=some (.cells ROW.toArray 122 (0,0)):=Array.getElem?_push_size
 have hN1:(((w.alloc (.cells ROW.toArray 122)).drew.setRow w.heap.size row1.toArray).drew).heap[w.heap.size]?=some (.cells row1.toArray 122 (0,0)):=setRow_heap (w.alloc (.cells ROW.toArray 122)).drew w.heap.size _ _ _ _ hN0
 have hN2:(((w.alloc (.cells ROW.toArray 122)).drew.setRow w.heap.size row1.toArray).drew).heap[g]?=w.heap[g]?:=(setRow_other (w.alloc (.cells ROW.toArray 122)).drew w.heap.size g _ (by omega)).trans (Below.heap_alloc w _ g hgw)
 have hB2:∀ ty dc sc,(Builtin.copy_ #[119,119] ty #[.slice (some ⟨w.heap.size,(i+1)*2,none⟩) (n-i) dc,.slice (some ⟨g,i*2,none⟩) (n-i) sc]).run Tryz.prog (((w.alloc (.cells ROW.toArray 122)).drew.setRow w.heap.size row1.toArray).drew)=.ok (goInt ((n-i:Nat):Int)) ((((w.alloc (.cells ROW.toArray 122)).drew.setRow w.heap.size row1.toArray).drew).setRow w.heap.size (row1.take ((i+1)*2)++cs++row1.drop ((i+1)*2+(n-i)*2)).toArray):=fun ty dc sc=>hcpB _ hN1 hN2 ty dc sc
 obtain⟨row2,hrow2⟩:∃ row2:List Value,row2=row1.take ((i+1)*2)++cs++row1.drop ((i+1)*2+(n-i)*2):=⟨_,rfl⟩
 rw[← hrow2] at hB2
 have Hrow2:=Lib.hid hrow2
 clear hcpA hcpB hN0 hN1 hN2 hrow2
 go_wp2_with (at_builtin;refine Lib.wpList_append_run _ rfl _ _ _ _ rfl _ _ rfl rfl _ _ (hrz _) ?_)
 go_region_law_o (refine step_copy_runI rfl _ _ 119 119 rfl _ _ (by simp [Act.eval,Act.put]) (by simp [Act.eval,Act.put]) (hB2 _ _ _) ?_)
 go_wp2
 go_ret
 exact⟨G,ROW,row1,row2,rfl,hGn,hG63,HROW.out,HRt.out,Hrow1.out,by rw[Hrow2.out,Hcs.out],rfl⟩
theorem Vt{cur xs vs cur1 cur2:List Value}{n i cap:Nat}(hcur:cur.length=cap*2)(hxs:cur.take (n*2)=xs)(hi:i<n)(hn:n+1≤cap)(hvl:vs.length=2)
  (h1:cur1=cur.take ((i+1)*2)++(cur.take (n*2)).drop (i*2)++cur.drop ((i+1)*2+(n-i)*2)) (h2:cur2=cur1.take (i*2)++vs++cur1.drop (i*2+2)) :
  cur2.length=cap*2∧cur2.take ((n+1)*2)=xs.take (i*2)++vs++xs.drop (i*2):=by
 have hxl:xs.length=n*2:=by rw[← hxs,List.length_take];omega
 have hA:(cur.take ((i+1)*2)).length=(i+1)*2:=by rw[List.length_take];omega
 have hC:(xs.drop (i*2)).length=(n-i)*2:=by rw[List.length_drop,hxl];omega
 rw[hxs] at h1
 have e1:cur1.take (i*2)=xs.take (i*2):=by
  rw[h1,List.append_assoc,List.take_append_of_le_length (by omega),List.take_take,← hxs,List.take_take,Nat.min_eq_left (by omega),Nat.min_eq_left (by omega)]
 have e2:cur1.drop (i*2+2)=xs.drop (i*2)++cur.drop ((i+1)*2+(n-i)*2):=by
  rw[h1,List.append_assoc]
  exact List.drop_left' (by rw[hA];omega)
 have hX:(xs.take (i*2)).length=i*2:=by rw[List.length_take];omega
 rw[h2,e1,e2]
 refine⟨by rw[List.length_append,List.length_append,List.length_append,hX,hvl,hC,List.length_drop,hcur];omega, ?_⟩
 rw[show (n+1)*2=i*2+2+(n-i)*2 by omega]
 exact L4 hX hvl hC
theorem Uv{cur xs vs ROW row1 row2:List Value}{n i cap G:Nat}(hcur:cur.length=cap*2)(hxs:cur.take (n*2)=xs)(hi:i<n)(hnc:n≤cap)(hG:n+1≤G)(hvl:vs.length=2)(hR:ROW.length=G*2)(h0:ROW.take (i*2)=cur.take (i*2))
  (h1:row1=ROW.take (i*2)++vs++ROW.drop (i*2+2)) (h2:row2=row1.take ((i+1)*2)++(cur.take (n*2)).drop (i*2)++row1.drop ((i+1)*2+(n-i)*2)) :
  row2.length=G*2∧row2.take ((n+1)*2)=xs.take (i*2)++vs++xs.drop (i*2):=by
 have hxl:xs.length=n*2:=by rw[← hxs,List.length_take];omega
 have hC:(xs.drop (i*2)).length=(n-i)*2:=by rw[List.length_drop,hxl];omega
 have hX:(xs.take (i*2)).length=i*2:=by rw[List.length_take];omega
 have e0:ROW.take (i*2)=xs.take (i*2):=by rw[h0,← hxs,List.take_take,Nat.min_eq_left (by omega)]
 have hl1:row1.length=G*2:=by rw[h1,List.length_append,List.length_append,e0,hX,hvl,List.length_drop,hR];omega
 have e1:row1.take ((i+1)*2)=xs.take (i*2)++vs:=by
  rw[h1,e0]
  exact List.take_left' (by rw[List.length_append,hX,hvl];omega)
 rw[hxs,e1] at h2
 rw[h2,List.append_assoc (xs.take (i*2)++vs)]
 refine⟨by rw[List.length_append,List.length_append,List.length_append,hX,hvl,hC,List.length_drop,hl1];omega, ?_⟩
 rw[show (n+1)*2=i*2+2+(n-i)*2 by omega]
 exact L4 hX hvl hC
theorem A1k:∃ i0 z,Tryz.prog.info? 122=some i0∧i0.size=2∧i0.bytes=24∧i0.zero=some z∧z.cells.size=2:=by
 have hall:(Tryz.prog.info? 122).map (fun i=>(i.size,i.bytes,i.zero.map (·.cells.size)))=some (2,24,some 2):=by kernel_rfl
 obtain⟨i0,hi0⟩:∃ i0,Tryz.prog.info? 122=some i0:=by
  cases h:Tryz.prog.info? 122 with
  | none=>rw[h] at hall;cases hall
  | some i0=>exact⟨i0,rfl⟩
 rw[hi0] at hall
 simp only[Option.map_some,Option.some.injEq,Prod.mk.injEq] at hall
 obtain⟨hzs,hzb,hz⟩:=hall
 cases h:i0.zero with
 | none=>rw[h] at hz;cases hz
 | some z =>
  rw[h,Option.map_some,Option.some.injEq] at hz
  exact⟨i0,z,hi0,hzs,hzb,h,hz⟩
set_option maxHeartbeats 1000000 in
theorem A0a(w:World)(base n vb voff vc:Nat)(hd:Value)(xs vs:List Value)(hown:w.ownsRow base 122 2 hd n xs)(hvl:vs.length=2)(hvs:∀ j v,vs[j]?=some v→w.cell? ⟨vb,voff+j,none⟩=some v)(h1v:∀ v∈vs,v.oneCell'=true)
  (hbig:(n+1)*24≤140737488355328) (hbase:base≤w.heap.size) :
  Calls Tryz.prog 121 #[hd,.int .i64 n,.slice (some ⟨vb,voff,none⟩) 1 vc] w fun e w'=>∃ v',e=.returned v'∧w'.ownsRow base 122 2 v' (n+1) (xs++vs)∧w.grownBy w' hd.ownBlock∧∀ k,v'.ownBlock=some k→hd.ownBlock=some k∨w.heap.size≤k:=by
 obtain⟨i0,z,hi0,hzs,hzb,hz0,hz⟩:=A1k
 obtain⟨v',w',hrun,h2,h3,h4,_⟩:=Li (P:=Tryz.prog) (ty:=119) (A:=some ⟨vb,voff,none⟩) (m:=1) (c:=vc) (news:=vs) Tryz.underlying119 hi0 hz0 hzs hzb hz (by omega) (by omega) hown (by rw[hvl]) trivial (fun _=>⟨vb,voff,rfl,hvs⟩) h1v hbig hbase
 have hP:=Lib.hid (show ∃ v'',(Ending.returned v'=.returned v'')∧w'.ownsRow base 122 2 v'' (n+1) (xs++vs)∧w.grownBy w' hd.ownBlock∧∀ k,v''.ownBlock=some k→hd.ownBlock=some k∨w.heap.size≤k from ⟨v',rfl,h2,h3,fun k hk=>(h4 k hk).imp id fun e=>by omega⟩)
 have hcase:=hown.2
 clear h2 h3 h4 hown hi0 hzs hzb hz0 hz
 rcases hcase with⟨rfl,rfl⟩|⟨g,cap,cur,rfl,_,hg,hnc,hcm,_,_⟩
 ·go_enter Tryz.func121,Tryz.ntmps121
  go_wp2_with (at_builtin;refine Lib.wpList_append_run _ rfl _ _ _ _ rfl _ _ rfl rfl _ _ hrun ?_)
  go_ret
  exact hP.out
 ·have hcm2:cap≤9223372036854775807:=hcm
  clear hcm
  go_enter Tryz.func121,Tryz.ntmps121
  go_wp2_with (at_builtin;refine Lib.wpList_append_run _ rfl _ _ _ _ rfl _ _ rfl rfl _ _ hrun ?_)
  all_goals (go_ret;exact hP.out)
theorem A0c(w:World)(base n i vb voff vc:Nat)(hd:Value)(xs vs:List Value)(hown:w.ownsRow base 122 2 hd n xs)(hi:i<n)(hvb:hd.ownBlock≠some vb)(hvl:vs.length=2)(hvs:∀ j v,vs[j]?=some v→w.cell? ⟨vb,voff+j,none⟩=some v)(h1v:∀ v∈vs,v.oneCell'=true)(h1x:∀ v∈xs,v.oneCell'=true)
  (hbig:(n+1)*24≤140737488355328) (hbase:base≤w.heap.size) :
  Calls Tryz.prog 121 #[hd,.int .i64 i,.slice (some ⟨vb,voff,none⟩) 1 vc] w fun e w'=>∃ v',e=.returned v'∧w'.ownsRow base 122 2 v' (n+1) (xs.take (i*2)++vs++xs.drop (i*2))∧w.grownBy w' hd.ownBlock∧∀ k,v'.ownBlock=some k→hd.ownBlock=some k∨w.heap.size≤k:=by
 have hlen:(xs.take (i*2)++vs++xs.drop (i*2)).length=(n+1)*2:=by
  have:=hown.1
  rw[List.length_append,List.length_append,List.length_take,List.length_drop,hvl];omega
 rcases hown.2 with⟨rfl,rfl⟩|⟨g,cap,cur,rfl,hb,hg,hnc,hcm,hcs,hx⟩
 ·omega
 ·have hcl:cur.toList.length=cap*2:=by rw[Array.length_toList];exact hcs
  have h1c:∀ v∈cur.toList.take (n*2),v.oneCell'=true:=by rw[hx];exact h1x
  have hvg:vb≠g:=fun e=>hvb (by rw[e];rfl)
  have hgw:g<w.heap.size:=by
   rcases Nat.lt_or_ge g w.heap.size with h|h
   ·exact h
   ·rw[Array.getElem?_eq_none h] at hg;cases hg
  by_cases hroom:n+1≤cap
  ·refine (Wm w g cap n i vb voff vc cur vs hg hcs hi hroom hcm hvg hvl hvs h1c h1v).mono ?_
   rintro e w' ⟨rfl,cur1,cur2,e1,e2,rfl⟩
   obtain⟨k1,k2⟩:=Vt hcl hx hi hroom hvl e1 e2
   have hgd:w.drew.heap[g]?=some (.cells cur 122 (0,0)):=hg
   have hg1:=setRow_heap w.drew g cur cur1.toArray _ _ hgd
   have hg2:=setRow_heap (w.drew.setRow g cur1.toArray) g cur1.toArray cur2.toArray _ _ hg1
   refine⟨_,rfl,⟨hlen,.inr ⟨g,cap,cur2.toArray,rfl,hb,hg2,hroom,hcm,by rw[List.size_toArray,k1],k2⟩⟩,⟨rfl,rfl,rfl,by rw[setRow_size,setRow_size];exact Nat.le_refl _,fun k hk hne=>?_⟩,fun k hk=>.inl hk⟩
   have hkg:k≠g:=fun e=>hne (by rw[e];rfl)
   rw[setRow_other _ g k _ hkg,setRow_other _ g k _ hkg]
   rfl
  ·refine (Wk w g cap n i vb voff vc cur vs hg hcs hi hnc (by omega) hbig hvl hvs h1c h1v).mono ?_
   rintro e w' ⟨G,ROW,row1,row2,rfl,hG,hG63,hR,h0,e1,e2,rfl⟩
   obtain⟨k1,k2⟩:=Uv hcl hx hi hnc hG hvl hR h0 e1 e2
   have hN0:(w.alloc (.cells ROW.toArray 122)).drew.heap[w.heap.size]?=some (.cells ROW.toArray 122 (0,0)):=Array.getElem?_push_size
   have hN1:(((w.alloc (.cells ROW.toArray 122)).drew.setRow w.heap.size row1.toArray).drew).heap[w.heap.size]?=some (.cells row1.toArray 122 (0,0)):=setRow_heap (w.alloc (.cells ROW.toArray 122)).drew w.heap.size _ _ _ _ hN0
   have hN2:=setRow_heap (((w.alloc (.cells ROW.toArray 122)).drew.setRow w.heap.size row1.toArray).drew) w.heap.size row1.toArray row2.toArray _ _ hN1
   refine⟨_,rfl,⟨hlen,.inr ⟨w.heap.size,G,row2.toArray,rfl,hbase,hN2,hG,hG63,by rw[List.size_toArray,k1],k2⟩⟩,⟨rfl,rfl,rfl, ?_,fun k hk hne=>?_⟩,fun k hk=>.inr (by cases hk;exact Nat.le_refl _)⟩
   ·rw[setRow_size]
    show _≤((w.alloc (.cells ROW.toArray 122)).drew.setRow w.heap.size row1.toArray).heap.size
    rw[setRow_size]
    show _≤(w.heap.push _).size
    rw[Array.size_push];omega
   ·rw[setRow_other _ w.heap.size k _ (by omega)]
    exact (setRow_other (w.alloc (.cells ROW.toArray 122)).drew w.heap.size k _ (by omega)).trans (Below.heap_alloc w _ k hk)
theorem A63:(aty Tryz.prog 122).sz=2:=by kernel_rfl
theorem On{C:World→Prop}{es:List (List AV)}{x:List AV}{i:Nat}(hi:i≤es.length)(hx:x.length=2)(hbig:(es.length+1)*24≤140737488355328) :
  Nr Tryz.prog C 121 122 es [.ex (.int .i64 i),.sl [x]] (es.take i++x :: es.drop i):=by
 refine⟨⟨_,Tryz.func121,rfl,rfl⟩, ?_⟩
 intro M W0 w hd xs args hC hB hM hown hrep hMd hargs
 rw[A63] at hown hrep ⊢
 simp only[RepL] at hargs
 obtain⟨v1,a1,rfl,hv1,v2,a2,rfl,hv2,rfl⟩:=hargs
 simp only[Rep] at hv1 hv2
 obtain⟨rfl,_⟩:=hv1
 obtain⟨A,c,rfl,hc1,hc2,_,hne⟩:=hv2
 obtain⟨vb,voff,sz,vs,rfl,hMb,hbw,hat,hvr⟩:=hne (by simp)
 simp only[RepLL] at hvr
 obtain⟨y,y',rfl,hy1,hy2,hy3,rfl⟩:=hvr
 rw[List.append_nil] at hat
 have hyl:y.length=2:=by rw[RepL.len hy3,hx]
 have hvb:hd.ownBlock≠some vb:=fun e=>hMb (hMd vb e)
 have hxl:=RepLL.len hrep
 have h1x:=RepLL.ones hrep
 have hel:(es.take i++x :: es.drop i).length=es.length+1:=by rw[List.length_append,List.length_cons,List.length_take,List.length_drop];omega
 have key:Calls Tryz.prog 121 #[hd,.int .i64 i,.slice (some ⟨vb,voff,none⟩) 1 c] w fun e w'=>∃ v',e=.returned v'∧w'.ownsRow W0.heap.size 122 2 v' (es.length+1) (xs.take (i*2)++y++xs.drop (i*2))∧w.grownBy w' hd.ownBlock∧∀ k,v'.ownBlock=some k→hd.ownBlock=some k∨w.heap.size≤k:=by
  rcases Nat.lt_or_ge i es.length with h|h
  ·exact A0c w W0.heap.size es.length i vb voff c hd xs y hown h hvb hyl hat hy2 h1x hbig hB.size
  ·have hie:i=es.length:=by omega
   subst hie
   rw[List.take_of_length_le (by omega),List.drop_of_length_le (by omega),List.append_nil]
   exact A0a w W0.heap.size es.length vb voff c hd xs y hown hyl hat hy2 hbig hB.size
 refine key.mono ?_
 rintro e w' ⟨v',rfl,ho,hgr,hk⟩
 have hkeep:Keep M M w w':=fun b hb hnb=>⟨hnb,Nat.lt_of_lt_of_le hb hgr.size,hgr.block b hb fun e=>hnb (hMd b e.symm)⟩
 refine⟨v',_,rfl,by rw[hel];exact ho, ?_,hgr,hk⟩
 have r1:=RepLL.take i hrep
 have r2:=RepLL.drop i hrep
 have hy3':RepLL Bb M w 2 [x] y:=by rw[← hyl];exact RepLL.one hy2 hy3
 have:=RepLL.keep hkeep (Ext.refl Bb) 2 _ _ ((r1.app hy3').app r2)
 rw[List.append_assoc] at this
 exact this
set_option maxHeartbeats 4000000 in
theorem Wl(w:World)(g cap n i vb voff vc:Nat)(cur:Array Value)(vs:List Value)(hg:w.heap[g]?=some (.cells cur 103 (0,0)))(hcur:cur.size=cap*3)(hi:i<n)(hn:n+1≤cap)(hc63:cap≤9223372036854775807)
  (hvb:vb≠g) (hvl:vs.length=3) (hvs:∀ j v,vs[j]?=some v→w.cell? ⟨vb,voff+j,none⟩=some v) (h1c:∀ v∈cur.toList.take (n*3),v.oneCell'=true) (h1v:∀ v∈vs,v.oneCell'=true) :
  Calls Tryz.prog 177 #[.slice (some ⟨g,0,none⟩) n cap,.int .i64 i,.slice (some ⟨vb,voff,none⟩) 1 vc] w fun e w' =>
   e=.returned (.slice (some ⟨g,0,none⟩) (n+1) cap)∧∃ cur1 cur2:List Value,cur1=cur.toList.take ((i+1)*3)++((cur.toList.take (n*3)).drop (i*3))++cur.toList.drop ((i+1)*3+(n-i)*3)∧cur2=cur1.take (i*3)++vs++cur1.drop (i*3+3)∧w'=(w.drew.setRow g cur1.toArray).setRow g cur2.toArray:=by
 have hinfo:(Tryz.prog.info? 103).map (·.size)=some 3:=by kernel_rfl
 have hsz:∀ W,(Go.sizeOf 103).run Tryz.prog W=.ok 3 W:=fun W=>by kernel_rfl
 have hvc:∃ ca tA fA,w.heap[vb]?=some (.cells ca tA fA)∧ca.size≠0:=by
  have hv0:vs[0]?=some vs[0]:=List.getElem?_eq_getElem (by omega)
  have:=hvs 0 _ hv0
  unfold World.cell? at this
  split at this
  ·rename_i c t f hh
   refine⟨c,t,f,hh,fun e=>?_⟩
   have h2:=(Array.getElem?_eq_some_iff.1 this).1
   omega
  ·cases this
 obtain⟨ca,tA,fA,hvh,hca⟩:=hvc
 have hov:∀ lb cb o,(callFunc 223 #[.slice (some ⟨vb,voff,none⟩) 1 vc,.slice (some ⟨g,o,none⟩) lb cb]).run Tryz.prog w=.ok (.value (.bool false)) w:=fun lb cb o=>by
  rw [run_callFunc_extern Tryz.func223 (by kernel_rfl) (by kernel_rfl) (by kernel_rfl) (e:=Extern.SlicesOverlaps.overlaps #[36,36] #[4]) (by kernel_rfl),
   H9 w 36 4 103 Tryz.underlying36 3 hsz ⟨vb,voff,none⟩ ⟨g,o,none⟩ 1 vc lb cb hvb hvh hca hg (by rw[hcur];omega)]
  rfl
 have hz2:¬ ((i:Int)=(n:Int)):=by omega
 have hin:i≤n:=by omega
 have hw1:IntKind.i64.wrap ((i:Int)+1)=(i:Int)+1:=by rw[IntKind.wrap_i64];omega
 have hb1:(0:Int)≤(i:Int)+1:=by omega
 have htn:((i:Int)+1).toNat=i+1:=by omega
 have hb2:¬ (cap=i+1):=by omega
 have hb3:(i:Int)≤(n:Int)+1:=by omega
 have hb4:¬ (cap=i):=by omega
 obtain⟨cs,hcs⟩:∃ cs,cs=(cur.toList.take (n*3)).drop (i*3):=⟨_,rfl⟩
 have hcsl:cs.length=(n-i)*3:=by
  rw[hcs,List.length_drop,List.length_take,Array.length_toList]
  omega
 have hmin:Nat.min (n+1-i) (n-i)=n-i:=by simp only[Nat.min_def];split<;>omega
 have hmin2:Nat.min 1 (n+1-i)=1:=by simp only[Nat.min_def];split<;>omega
 obtain⟨cur1,hcur1⟩:∃ cur1:List Value,cur1=cur.toList.take ((i+1)*3)++cs++cur.toList.drop ((i+1)*3+(n-i)*3):=⟨_,rfl⟩
 have hcur1l:cur1.length=cap*3:=by
  rw[hcur1,List.length_append,List.length_append,List.length_take,List.length_drop,hcsl,Array.length_toList]
  omega
 have hgd:w.drew.heap[g]?=some (.cells cur 103 (0,0)):=hg
 have hcp1:∀ ty dc sc,(Builtin.copy_ #[36,36] ty #[.slice (some ⟨g,(i+1)*3,none⟩) (n-i) dc,.slice (some ⟨g,i*3,none⟩) (n+1-i) sc]).run Tryz.prog w.drew=.ok (goInt ((n-i:Nat):Int)) (w.drew.setRow g cur1.toArray):=fun ty dc sc=>by
  have h:=By w.drew 36 36 ty 103 3 g ((i+1)*3) (n-i) dc ⟨g,i*3,none⟩ (n+1-i) sc cur 103 cs Tryz.underlying36 hinfo hgd (by rw[hmin,hcsl])
   (fun j v hj=>by
     rw[Addr.add_lit]
     rw[hcs,List.getElem?_drop,List.getElem?_take] at hj
     split at hj
     ·simpa [World.cell?,hgd] using hj
     ·cases hj) (by rw[hcsl,hcur];omega) (fun v hv=>h1c v (List.mem_of_mem_drop (by rw[hcs] at hv;exact hv)))
  rw[hmin,hcsl] at h
  rw[h,hcur1]
 obtain⟨W1,hW1⟩:∃ W1,W1=w.drew.setRow g cur1.toArray:=⟨_,rfl⟩
 rw[← hW1] at hcp1
 have hg1:W1.heap[g]?=some (.cells cur1.toArray 103 (0,0)):=by rw[hW1];exact setRow_heap w.drew g cur _ _ _ hgd
 have hcp2:∀ (W:World),W.heap=W1.heap→∀ ty dc,(Builtin.copy_ #[36,36] ty #[.slice (some ⟨g,i*3,none⟩) (n+1-i) dc,.slice (some ⟨vb,voff,none⟩) 1 vc]).run Tryz.prog W=.ok (goInt 1) (W.setRow g (cur1.take (i*3)++vs++cur1.drop (i*3+3)).toArray):=fun W hW ty dc=>by
  have h:=By W 36 36 ty 103 3 g (i*3) (n+1-i) dc ⟨vb,voff,none⟩ 1 vc cur1.toArray 103 vs Tryz.underlying36 hinfo (by rw[hW];exact hg1) (by rw[hmin2,hvl])
   (fun j v hj=>by
     rw[Addr.add_lit]
     have h1:=hvs j v hj
     rw[← h1]
     refine World.cell?_of_block (w:=w) ?_
     show W.heap[vb]?=w.heap[vb]?
     rw[hW,hW1]
     exact setRow_other w.drew g vb _ hvb) (by rw[hvl,List.size_toArray,hcur1l];omega) h1v
  rw[hmin2,hvl] at h
  exact h
 have mixed:Tryz.prog.follows .mixedOrders=true:=by kernel_rfl
 have HW1:=Lib.hid hW1
 have Hcs:=Lib.hid hcs
 have Hcur1:=Lib.hid hcur1
 clear hW1 hcs hcur1
 go_enter Tryz.func177,Tryz.ntmps177
 go_wp2_with (simp only[hov])
 go_region_law_o (refine step_copy_runI rfl _ _ 36 36 rfl _ _ (by simp [Act.eval,Act.put]) (by simp [Act.eval,Act.put]) (hcp1 _ _ _) ?_)
 go_wp2_with (at_builtin;refine wpList_copy_runI _ rfl _ _ 36 36 rfl _ _ rfl rfl (hcp2 _ rfl _ _) ?_)
 go_ret
 refine⟨rfl,cur1,_,by rw[Hcur1.out,Hcs.out],rfl, ?_⟩
 rw[HW1.out,List.append_assoc]
set_option maxHeartbeats 4000000 in
theorem Wj(w:World)(g cap n i vb voff vc:Nat)(cur:Array Value)(vs:List Value)(hg:w.heap[g]?=some (.cells cur 103 (0,0)))(hcur:cur.size=cap*3)(hi:i<n)(hnc:n≤cap)(hn:cap<n+1)(hbig:(n+1)*32≤140737488355328)
  (hvl:vs.length=3) (hvs:∀ j v,vs[j]?=some v→w.cell? ⟨vb,voff+j,none⟩=some v) (h1c:∀ v∈cur.toList.take (n*3),v.oneCell'=true) (h1v:∀ v∈vs,v.oneCell'=true) :
  Calls Tryz.prog 177 #[.slice (some ⟨g,0,none⟩) n cap,.int .i64 i,.slice (some ⟨vb,voff,none⟩) 1 vc] w fun e w' =>
   ∃ (G:Nat) (ROW row1 row2:List Value),e=.returned (.slice (some ⟨w.heap.size,0,none⟩) (n+1) G)∧n+1≤G∧G≤9223372036854775807∧ROW.length=G*3∧ROW.take (i*3)=cur.toList.take (i*3) ∧
    row1=ROW.take (i*3)++vs++ROW.drop (i*3+3)∧row2=row1.take ((i+1)*3)++((cur.toList.take (n*3)).drop (i*3))++row1.drop ((i+1)*3+(n-i)*3) ∧
    w'=(((w.alloc (.cells ROW.toArray 103)).drew.setRow w.heap.size row1.toArray).drew).setRow w.heap.size row2.toArray:=by
 have hall:(Tryz.prog.info? 103).map (fun i=>(i.size,i.bytes,i.zero.map (·.cells.size)))=some (3,32,some 3):=by kernel_rfl
 obtain⟨i0,hi0⟩:∃ i0,Tryz.prog.info? 103=some i0:=by
  cases h:Tryz.prog.info? 103 with
  | none=>rw[h] at hall;cases hall
  | some i0=>exact⟨i0,rfl⟩
 rw[hi0] at hall
 simp only[Option.map_some,Option.some.injEq,Prod.mk.injEq] at hall
 obtain⟨hzs,hzb,hz⟩:=hall
 obtain⟨z,hz0⟩:∃ z,i0.zero=some z:=by
  cases h:i0.zero with
  | none=>rw[h] at hz;cases hz
  | some z=>exact⟨z,rfl⟩
 rw[hz0,Option.map_some,Option.some.injEq] at hz
 have hinfo:(Tryz.prog.info? 103).map (·.size)=some 3:=by rw[hi0];simp [hzs]
 have hcl:(cur.toList.take (i*3)).length=i*3:=by rw[List.length_take,Array.length_toList];omega
 have hold:(Builtin.firstCells i0.size i (.slice (some ⟨g,0,none⟩) i cap)).run Tryz.prog w.drew=.ok (cur.toList.take (i*3)).toArray w.drew:=by
  rw[hzs]
  exact run_firstCells_some w.drew 3 i ⟨g, 0, none⟩ i cap (cur.toList.take (i * 3)) (by rw [hcl]) (fun j v hj=>by
   rw[Addr.add_lit,Nat.zero_add]
   rw[List.getElem?_take] at hj
   split at hj
   ·have hgd:w.drew.heap[g]?=some (.cells cur 103 (0,0)):=hg
    simpa [World.cell?,hgd] using hj
   ·cases hj)
 have hkk:(n:Int)+1-(i:Int)=((n+1-i:Nat):Int):=by omega
 have hik:i+(n+1-i)=n+1:=by omega
 have hrz:∀ ty,(Builtin.append_ #[36,3] ty #[.slice (some ⟨g,0,none⟩) i cap,.int .i64 ((n:Int)+1-(i:Int))]).run Tryz.prog w =
   .ok (.slice (some ⟨w.heap.size,0,none⟩) (n+1) (grownCap w (n+1) cap 103)) (w.drew.alloc (.cells ((cur.toList.take (i*3)).toArray++Builtin.zeroCells z.cells (n+1-i)++Builtin.zeroCells z.cells (grownCap w (n+1) cap 103-(n+1))) 103)):=fun ty=>by
  have h:=Lib.run_append_grow_zeros w 36 3 ty 103 i0 z .i64 .i64 Tryz.underlying36 Tryz.underlying3 hi0 hz0 (some ⟨g,0,none⟩) i cap (cur.toList.take (i*3)) hold (n+1-i) (by omega) (by omega) (by omega) (by omega) (by rw[hzb];omega) (by rw[hzb,hik];exact growslice_fits hn hbig)
  rw[hik] at h
  rw[hkk]
  exact h
 obtain⟨G,hG⟩:∃ G,G=grownCap w (n+1) cap 103:=⟨_,rfl⟩
 rw[← hG] at hrz
 have hGn:n+1≤G:=by rw[hG];exact grownCap_ge w _ _ _
 have hG63:G≤9223372036854775807:=by
  have:=grownCap_le_maxLen w (n+1) cap 103 (by unfold maxLen;omega)
  rw[← hG] at this
  unfold maxLen at this
  omega
 obtain⟨Z,hZ⟩:∃ Z:List Value,Z=(Builtin.zeroCells z.cells (n+1-i)).toList++(Builtin.zeroCells z.cells (G-(n+1))).toList:=⟨_,rfl⟩
 have hZl:Z.length=(G-i)*3:=by
  rw[hZ,List.length_append,Array.length_toList,Array.length_toList,Oe,Oe,hz]
  omega
 obtain⟨ROW,hROW⟩:∃ ROW:List Value,ROW=cur.toList.take (i*3)++Z:=⟨_,rfl⟩
 have hRA:((cur.toList.take (i*3)).toArray++Builtin.zeroCells z.cells (n+1-i)++Builtin.zeroCells z.cells (G-(n+1)))=ROW.toArray:=by
  rw[hROW,hZ]
  apply Array.ext'
  simp
 rw[hRA] at hrz
 have hRl:ROW.length=G*3:=by rw[hROW,List.length_append,hcl,hZl];omega
 have hRt:ROW.take (i*3)=cur.toList.take (i*3):=by rw[hROW];exact List.take_left' hcl
 obtain⟨row1,hrow1⟩:∃ row1:List Value,row1=ROW.take (i*3)++vs++ROW.drop (i*3+3):=⟨_,rfl⟩
 have hr1l:row1.length=G*3:=by
  rw[hrow1,List.length_append,List.length_append,List.length_take,List.length_drop,hRl,hvl];omega
 obtain⟨cs,hcs⟩:∃ cs,cs=(cur.toList.take (n*3)).drop (i*3):=⟨_,rfl⟩
 have hcsl:cs.length=(n-i)*3:=by
  rw[hcs,List.length_drop,List.length_take,Array.length_toList]
  omega
 have hgw:g<w.heap.size:=by
  rcases Nat.lt_or_ge g w.heap.size with h|h
  ·exact h
  ·rw[Array.getElem?_eq_none h] at hg;cases hg
 have hvw:vb<w.heap.size:=by
  have hv0:vs[0]?=some vs[0]:=List.getElem?_eq_getElem (by omega)
  exact World.block_lt_of_cell? w _ (hvs 0 _ hv0)
 have hmin:Nat.min (n-i) (n-i)=n-i:=Nat.min_self _
 have hmin2:Nat.min 1 (n+1-i)=1:=by simp only[Nat.min_def];split<;>omega
 have hcpA:∀ (W:World),W.heap=(w.alloc (.cells ROW.toArray 103)).heap→∀ ty dc,(Builtin.copy_ #[36,36] ty #[.slice (some ⟨w.heap.size,i*3,none⟩) (n+1-i) dc,.slice (some ⟨vb,voff,none⟩) 1 vc]).run Tryz.prog W=.ok (goInt 1) (W.setRow w.heap.size row1.toArray):=fun W hW ty dc=>by
  have h:=By W 36 36 ty 103 3 w.heap.size (i*3) (n+1-i) dc ⟨vb,voff,none⟩ 1 vc ROW.toArray 103 vs Tryz.underlying36 hinfo (by rw[hW];exact Array.getElem?_push_size) (by rw[hmin2,hvl])
   (fun j v hj=>by
     rw[Addr.add_lit]
     have h1:=hvs j v hj
     rw[← h1]
     refine World.cell?_of_block (w:=w) ?_
     show W.heap[vb]?=w.heap[vb]?
     rw[hW]
     exact Below.heap_alloc w _ vb hvw) (by rw[hvl,List.size_toArray,hRl];omega) h1v
  rw[hmin2,hvl] at h
  rw[hrow1]
  exact h
 have hcpB:∀ (W:World),W.heap[w.heap.size]?=some (.cells row1.toArray 103 (0,0))→W.heap[g]?=w.heap[g]?→∀ ty dc sc,(Builtin.copy_ #[36,36] ty #[.slice (some ⟨w.heap.size,(i+1)*3,none⟩) (n-i) dc,.slice (some ⟨g,i*3,none⟩) (n-i) sc]).run Tryz.prog W=.ok (goInt ((n-i:Nat):Int)) (W.setRow w.heap.size (row1.take ((i+1)*3)++cs++row1.drop ((i+1)*3+(n-i)*3)).toArray):=fun W hW hWg ty dc sc=>by
  have h:=By W 36 36 ty 103 3 w.heap.size ((i+1)*3) (n-i) dc ⟨g,i*3,none⟩ (n-i) sc row1.toArray 103 cs Tryz.underlying36 hinfo hW (by rw[hmin,hcsl])
   (fun j v hj=>by
     rw[Addr.add_lit]
     rw[hcs,List.getElem?_drop,List.getElem?_take] at hj
     split at hj
     ·have hWg2:W.heap[g]?=some (.cells cur 103 (0,0)):=hWg.trans hg
      simpa [World.cell?,hWg2] using hj
     ·cases hj) (by rw[hcsl,List.size_toArray,hr1l];omega) (fun v hv=>h1c v (List.mem_of_mem_drop (by rw[hcs] at hv;exact hv)))
  rw[hmin,hcsl] at h
  exact h
 have hz2:¬ ((i:Int)=(n:Int)):=by omega
 have hz3:(cap:Int)<(n:Int)+1:=by omega
 have hin:i≤n:=by omega
 have hw1:IntKind.i64.wrap ((i:Int)+1)=(i:Int)+1:=by rw[IntKind.wrap_i64];omega
 have hb1:(0:Int)≤(i:Int)+1:=by omega
 have htn:((i:Int)+1).toNat=i+1:=by omega
 have hGi:¬ (G=i):=by omega
 have hGim:¬ (G=i+1):=by omega
 have hci:¬ (cap=i):=by omega
 have hb3:(i:Int)≤(n:Int):=by omega
 have mixed:Tryz.prog.follows .mixedOrders=true:=by kernel_rfl
 have Hcs:=Lib.hid hcs
 have Hrow1:=Lib.hid hrow1
 have HROW:=Lib.hid hRl
 have HRt:=Lib.hid hRt
 clear hcs hrow1 hROW hRl hRt hZ hZl hRA hkk hik hold hG hcl hcsl hr1l hz
 go_enter Tryz.func177,Tryz.ntmps177
 have hA2:∀ ty dc,(Builtin.copy_ #[36,36] ty #[.slice (some ⟨w.heap.size,i*3,none⟩) (n+1-i) dc,.slice (some ⟨vb,voff,none⟩) 1 vc]).run Tryz.prog (w.alloc (.cells ROW.toArray 103)).drew=.ok (goInt 1) ((w.alloc (.cells ROW.toArray 103)).drew.setRow w.heap.size row1.toArray):=fun ty dc=>hcpA (w.alloc (.cells ROW.toArray 103)).drew rfl ty dc
 have hN0:(w.alloc (.cells ROW.toArray 103)).drew.heap[w.heap.size]?=some (.cells ROW.toArray 103 (0,0)):=Array.getElem?_push_size
 have hN1:(((w.alloc (.cells ROW.toArray 103)).drew.setRow w.heap.size row1.toArray).drew).heap[w.heap.size]?=some (.cells row1.toArray 103 (0,0)):=setRow_heap (w.alloc (.cells ROW.toArray 103)).drew w.heap.size _ _ _ _ hN0
 have hN2:(((w.alloc (.cells ROW.toArray 103)).drew.setRow w.heap.size row1.toArray).drew).heap[g]?=w.heap[g]?:=(setRow_other (w.alloc (.cells ROW.toArray 103)).drew w.heap.size g _ (by omega)).trans (Below.heap_alloc w _ g hgw)
 have hB2:∀ ty dc sc,(Builtin.copy_ #[36,36] ty #[.slice (some ⟨w.heap.size,(i+1)*3,none⟩) (n-i) dc,.slice (some ⟨g,i*3,none⟩) (n-i) sc]).run Tryz.prog (((w.alloc (.cells ROW.toArray 103)).drew.setRow w.heap.size row1.toArray).drew)=.ok (goInt ((n-i:Nat):Int)) ((((w.alloc (.cells ROW.toArray 103)).drew.setRow w.heap.size row1.toArray).drew).setRow w.heap.size (row1.take ((i+1)*3)++cs++row1.drop ((i+1)*3+(n-i)*3)).toArray):=fun ty dc sc=>hcpB _ hN1 hN2 ty dc sc
 obtain⟨row2,hrow2⟩:∃ row2:List Value,row2=row1.take ((i+1)*3)++cs++row1.drop ((i+1)*3+(n-i)*3):=⟨_,rfl⟩
 rw[← hrow2] at hB2
 have Hrow2:=Lib.hid hrow2
 clear hcpA hcpB hN0 hN1 hN2 hrow2
 go_wp2_with (at_builtin;refine Lib.wpList_append_run _ rfl _ _ _ _ rfl _ _ rfl rfl _ _ (hrz _) ?_)
 go_region_law_o (refine step_copy_runI rfl _ _ 36 36 rfl _ _ (by simp [Act.eval,Act.put]) (by simp [Act.eval,Act.put]) (hB2 _ _ _) ?_)
 go_wp2
 go_ret
 exact⟨G,ROW,row1,row2,rfl,hGn,hG63,HROW.out,HRt.out,Hrow1.out,by rw[Hrow2.out,Hcs.out],rfl⟩
theorem Vs{cur xs vs cur1 cur2:List Value}{n i cap:Nat}(hcur:cur.length=cap*3)(hxs:cur.take (n*3)=xs)(hi:i<n)(hn:n+1≤cap)(hvl:vs.length=3)
  (h1:cur1=cur.take ((i+1)*3)++(cur.take (n*3)).drop (i*3)++cur.drop ((i+1)*3+(n-i)*3)) (h2:cur2=cur1.take (i*3)++vs++cur1.drop (i*3+3)) :
  cur2.length=cap*3∧cur2.take ((n+1)*3)=xs.take (i*3)++vs++xs.drop (i*3):=by
 have hxl:xs.length=n*3:=by rw[← hxs,List.length_take];omega
 have hA:(cur.take ((i+1)*3)).length=(i+1)*3:=by rw[List.length_take];omega
 have hC:(xs.drop (i*3)).length=(n-i)*3:=by rw[List.length_drop,hxl];omega
 rw[hxs] at h1
 have e1:cur1.take (i*3)=xs.take (i*3):=by
  rw[h1,List.append_assoc,List.take_append_of_le_length (by omega),List.take_take,← hxs,List.take_take,Nat.min_eq_left (by omega),Nat.min_eq_left (by omega)]
 have e2:cur1.drop (i*3+3)=xs.drop (i*3)++cur.drop ((i+1)*3+(n-i)*3):=by
  rw[h1,List.append_assoc]
  exact List.drop_left' (by rw[hA];omega)
 have hX:(xs.take (i*3)).length=i*3:=by rw[List.length_take];omega
 rw[h2,e1,e2]
 refine⟨by rw[List.length_append,List.length_append,List.length_append,hX,hvl,hC,List.length_drop,hcur];omega, ?_⟩
 rw[show (n+1)*3=i*3+3+(n-i)*3 by omega]
 exact L4 hX hvl hC
theorem Uu{cur xs vs ROW row1 row2:List Value}{n i cap G:Nat}(hcur:cur.length=cap*3)(hxs:cur.take (n*3)=xs)(hi:i<n)(hnc:n≤cap)(hG:n+1≤G)(hvl:vs.length=3)(hR:ROW.length=G*3)(h0:ROW.take (i*3)=cur.take (i*3))
  (h1:row1=ROW.take (i*3)++vs++ROW.drop (i*3+3)) (h2:row2=row1.take ((i+1)*3)++(cur.take (n*3)).drop (i*3)++row1.drop ((i+1)*3+(n-i)*3)) :
  row2.length=G*3∧row2.take ((n+1)*3)=xs.take (i*3)++vs++xs.drop (i*3):=by
 have hxl:xs.length=n*3:=by rw[← hxs,List.length_take];omega
 have hC:(xs.drop (i*3)).length=(n-i)*3:=by rw[List.length_drop,hxl];omega
 have hX:(xs.take (i*3)).length=i*3:=by rw[List.length_take];omega
 have e0:ROW.take (i*3)=xs.take (i*3):=by rw[h0,← hxs,List.take_take,Nat.min_eq_left (by omega)]
 have hl1:row1.length=G*3:=by rw[h1,List.length_append,List.length_append,e0,hX,hvl,List.length_drop,hR];omega
 have e1:row1.take ((i+1)*3)=xs.take (i*3)++vs:=by
  rw[h1,e0]
  exact List.take_left' (by rw[List.length_append,hX,hvl];omega)
 rw[hxs,e1] at h2
 rw[h2,List.append_assoc (xs.take (i*3)++vs)]
 refine⟨by rw[List.length_append,List.length_append,List.length_append,hX,hvl,hC,List.length_drop,hl1];omega, ?_⟩
 rw[show (n+1)*3=i*3+3+(n-i)*3 by omega]
 exact L4 hX hvl hC
theorem A1j:∃ i0 z,Tryz.prog.info? 103=some i0∧i0.size=3∧i0.bytes=32∧i0.zero=some z∧z.cells.size=3:=by
 have hall:(Tryz.prog.info? 103).map (fun i=>(i.size,i.bytes,i.zero.map (·.cells.size)))=some (3,32,some 3):=by kernel_rfl
 obtain⟨i0,hi0⟩:∃ i0,Tryz.prog.info? 103=some i0:=by
  cases h:Tryz.prog.info? 103 with
  | none=>rw[h] at hall;cases hall
  | some i0=>exact⟨i0,rfl⟩
 rw[hi0] at hall
 simp only[Option.map_some,Option.some.injEq,Prod.mk.injEq] at hall
 obtain⟨hzs,hzb,hz⟩:=hall
 cases h:i0.zero with
 | none=>rw[h] at hz;cases hz
 | some z =>
  rw[h,Option.map_some,Option.some.injEq] at hz
  exact⟨i0,z,hi0,hzs,hzb,h,hz⟩
set_option maxHeartbeats 1000000 in
theorem A09(w:World)(base n vb voff vc:Nat)(hd:Value)(xs vs:List Value)(hown:w.ownsRow base 103 3 hd n xs)(hvl:vs.length=3)(hvs:∀ j v,vs[j]?=some v→w.cell? ⟨vb,voff+j,none⟩=some v)(h1v:∀ v∈vs,v.oneCell'=true)
  (hbig:(n+1)*32≤140737488355328) (hbase:base≤w.heap.size) :
  Calls Tryz.prog 177 #[hd,.int .i64 n,.slice (some ⟨vb,voff,none⟩) 1 vc] w fun e w'=>∃ v',e=.returned v'∧w'.ownsRow base 103 3 v' (n+1) (xs++vs)∧w.grownBy w' hd.ownBlock∧∀ k,v'.ownBlock=some k→hd.ownBlock=some k∨w.heap.size≤k:=by
 obtain⟨i0,z,hi0,hzs,hzb,hz0,hz⟩:=A1j
 obtain⟨v',w',hrun,h2,h3,h4,_⟩:=Li (P:=Tryz.prog) (ty:=36) (A:=some ⟨vb,voff,none⟩) (m:=1) (c:=vc) (news:=vs) Tryz.underlying36 hi0 hz0 hzs hzb hz (by omega) (by omega) hown (by rw[hvl]) trivial (fun _=>⟨vb,voff,rfl,hvs⟩) h1v hbig hbase
 have hP:=Lib.hid (show ∃ v'',(Ending.returned v'=.returned v'')∧w'.ownsRow base 103 3 v'' (n+1) (xs++vs)∧w.grownBy w' hd.ownBlock∧∀ k,v''.ownBlock=some k→hd.ownBlock=some k∨w.heap.size≤k from ⟨v',rfl,h2,h3,fun k hk=>(h4 k hk).imp id fun e=>by omega⟩)
 have hcase:=hown.2
 clear h2 h3 h4 hown hi0 hzs hzb hz0 hz
 rcases hcase with⟨rfl,rfl⟩|⟨g,cap,cur,rfl,_,hg,hnc,hcm,_,_⟩
 ·go_enter Tryz.func177,Tryz.ntmps177
  go_wp2_with (at_builtin;refine Lib.wpList_append_run _ rfl _ _ _ _ rfl _ _ rfl rfl _ _ hrun ?_)
  go_ret
  exact hP.out
 ·have hcm2:cap≤9223372036854775807:=hcm
  clear hcm
  go_enter Tryz.func177,Tryz.ntmps177
  go_wp2_with (at_builtin;refine Lib.wpList_append_run _ rfl _ _ _ _ rfl _ _ rfl rfl _ _ hrun ?_)
  all_goals (go_ret;exact hP.out)
theorem A0b(w:World)(base n i vb voff vc:Nat)(hd:Value)(xs vs:List Value)(hown:w.ownsRow base 103 3 hd n xs)(hi:i<n)(hvb:hd.ownBlock≠some vb)(hvl:vs.length=3)(hvs:∀ j v,vs[j]?=some v→w.cell? ⟨vb,voff+j,none⟩=some v)(h1v:∀ v∈vs,v.oneCell'=true)(h1x:∀ v∈xs,v.oneCell'=true)
  (hbig:(n+1)*32≤140737488355328) (hbase:base≤w.heap.size) :
  Calls Tryz.prog 177 #[hd,.int .i64 i,.slice (some ⟨vb,voff,none⟩) 1 vc] w fun e w'=>∃ v',e=.returned v'∧w'.ownsRow base 103 3 v' (n+1) (xs.take (i*3)++vs++xs.drop (i*3))∧w.grownBy w' hd.ownBlock∧∀ k,v'.ownBlock=some k→hd.ownBlock=some k∨w.heap.size≤k:=by
 have hlen:(xs.take (i*3)++vs++xs.drop (i*3)).length=(n+1)*3:=by
  have:=hown.1
  rw[List.length_append,List.length_append,List.length_take,List.length_drop,hvl];omega
 rcases hown.2 with⟨rfl,rfl⟩|⟨g,cap,cur,rfl,hb,hg,hnc,hcm,hcs,hx⟩
 ·omega
 ·have hcl:cur.toList.length=cap*3:=by rw[Array.length_toList];exact hcs
  have h1c:∀ v∈cur.toList.take (n*3),v.oneCell'=true:=by rw[hx];exact h1x
  have hvg:vb≠g:=fun e=>hvb (by rw[e];rfl)
  have hgw:g<w.heap.size:=by
   rcases Nat.lt_or_ge g w.heap.size with h|h
   ·exact h
   ·rw[Array.getElem?_eq_none h] at hg;cases hg
  by_cases hroom:n+1≤cap
  ·refine (Wl w g cap n i vb voff vc cur vs hg hcs hi hroom hcm hvg hvl hvs h1c h1v).mono ?_
   rintro e w' ⟨rfl,cur1,cur2,e1,e2,rfl⟩
   obtain⟨k1,k2⟩:=Vs hcl hx hi hroom hvl e1 e2
   have hgd:w.drew.heap[g]?=some (.cells cur 103 (0,0)):=hg
   have hg1:=setRow_heap w.drew g cur cur1.toArray _ _ hgd
   have hg2:=setRow_heap (w.drew.setRow g cur1.toArray) g cur1.toArray cur2.toArray _ _ hg1
   refine⟨_,rfl,⟨hlen,.inr ⟨g,cap,cur2.toArray,rfl,hb,hg2,hroom,hcm,by rw[List.size_toArray,k1],k2⟩⟩,⟨rfl,rfl,rfl,by rw[setRow_size,setRow_size];exact Nat.le_refl _,fun k hk hne=>?_⟩,fun k hk=>.inl hk⟩
   have hkg:k≠g:=fun e=>hne (by rw[e];rfl)
   rw[setRow_other _ g k _ hkg,setRow_other _ g k _ hkg]
   rfl
  ·refine (Wj w g cap n i vb voff vc cur vs hg hcs hi hnc (by omega) hbig hvl hvs h1c h1v).mono ?_
   rintro e w' ⟨G,ROW,row1,row2,rfl,hG,hG63,hR,h0,e1,e2,rfl⟩
   obtain⟨k1,k2⟩:=Uu hcl hx hi hnc hG hvl hR h0 e1 e2
   have hN0:(w.alloc (.cells ROW.toArray 103)).drew.heap[w.heap.size]?=some (.cells ROW.toArray 103 (0,0)):=Array.getElem?_push_size
   have hN1:(((w.alloc (.cells ROW.toArray 103)).drew.setRow w.heap.size row1.toArray).drew).heap[w.heap.size]?=some (.cells row1.toArray 103 (0,0)):=setRow_heap (w.alloc (.cells ROW.toArray 103)).drew w.heap.size _ _ _ _ hN0
   have hN2:=setRow_heap (((w.alloc (.cells ROW.toArray 103)).drew.setRow w.heap.size row1.toArray).drew) w.heap.size row1.toArray row2.toArray _ _ hN1
   refine⟨_,rfl,⟨hlen,.inr ⟨w.heap.size,G,row2.toArray,rfl,hbase,hN2,hG,hG63,by rw[List.size_toArray,k1],k2⟩⟩,⟨rfl,rfl,rfl, ?_,fun k hk hne=>?_⟩,fun k hk=>.inr (by cases hk;exact Nat.le_refl _)⟩
   ·rw[setRow_size]
    show _≤((w.alloc (.cells ROW.toArray 103)).drew.setRow w.heap.size row1.toArray).heap.size
    rw[setRow_size]
    show _≤(w.heap.push _).size
    rw[Array.size_push];omega
   ·rw[setRow_other _ w.heap.size k _ (by omega)]
    exact (setRow_other (w.alloc (.cells ROW.toArray 103)).drew w.heap.size k _ (by omega)).trans (Below.heap_alloc w _ k hk)
theorem A62:(aty Tryz.prog 103).sz=3:=by kernel_rfl
theorem Om{C:World→Prop}{es:List (List AV)}{x:List AV}{i:Nat}(hi:i≤es.length)(hx:x.length=3)(hbig:(es.length+1)*32≤140737488355328) :
  Nr Tryz.prog C 177 103 es [.ex (.int .i64 i),.sl [x]] (es.take i++x :: es.drop i):=by
 refine⟨⟨_,Tryz.func177,rfl,rfl⟩, ?_⟩
 intro M W0 w hd xs args hC hB hM hown hrep hMd hargs
 rw[A62] at hown hrep ⊢
 simp only[RepL] at hargs
 obtain⟨v1,a1,rfl,hv1,v2,a2,rfl,hv2,rfl⟩:=hargs
 simp only[Rep] at hv1 hv2
 obtain⟨rfl,_⟩:=hv1
 obtain⟨A,c,rfl,hc1,hc2,_,hne⟩:=hv2
 obtain⟨vb,voff,sz,vs,rfl,hMb,hbw,hat,hvr⟩:=hne (by simp)
 simp only[RepLL] at hvr
 obtain⟨y,y',rfl,hy1,hy2,hy3,rfl⟩:=hvr
 rw[List.append_nil] at hat
 have hyl:y.length=3:=by rw[RepL.len hy3,hx]
 have hvb:hd.ownBlock≠some vb:=fun e=>hMb (hMd vb e)
 have hxl:=RepLL.len hrep
 have h1x:=RepLL.ones hrep
 have hel:(es.take i++x :: es.drop i).length=es.length+1:=by rw[List.length_append,List.length_cons,List.length_take,List.length_drop];omega
 have key:Calls Tryz.prog 177 #[hd,.int .i64 i,.slice (some ⟨vb,voff,none⟩) 1 c] w fun e w'=>∃ v',e=.returned v'∧w'.ownsRow W0.heap.size 103 3 v' (es.length+1) (xs.take (i*3)++y++xs.drop (i*3))∧w.grownBy w' hd.ownBlock∧∀ k,v'.ownBlock=some k→hd.ownBlock=some k∨w.heap.size≤k:=by
  rcases Nat.lt_or_ge i es.length with h|h
  ·exact A0b w W0.heap.size es.length i vb voff c hd xs y hown h hvb hyl hat hy2 h1x hbig hB.size
  ·have hie:i=es.length:=by omega
   subst hie
   rw[List.take_of_length_le (by omega),List.drop_of_length_le (by omega),List.append_nil]
   exact A09 w W0.heap.size es.length vb voff c hd xs y hown hyl hat hy2 hbig hB.size
 refine key.mono ?_
 rintro e w' ⟨v',rfl,ho,hgr,hk⟩
 have hkeep:Keep M M w w':=fun b hb hnb=>⟨hnb,Nat.lt_of_lt_of_le hb hgr.size,hgr.block b hb fun e=>hnb (hMd b e.symm)⟩
 refine⟨v',_,rfl,by rw[hel];exact ho, ?_,hgr,hk⟩
 have r1:=RepLL.take i hrep
 have r2:=RepLL.drop i hrep
 have hy3':RepLL Bb M w 3 [x] y:=by rw[← hyl];exact RepLL.one hy2 hy3
 have:=RepLL.keep hkeep (Ext.refl Bb) 3 _ _ ((r1.app hy3').app r2)
 rw[List.append_assoc] at this
 exact this
end Go.Proofs.YtbhffbgbhgjdiaaGreatDoor
