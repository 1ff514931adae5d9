/-
  What the list of variables of the law on late entries gives every walk. Conditions: the variables read as listed.
-/
import Derived.Test.YtbhffbgbhgjdiaaGreatDoorM2
import Derived.Test.YtbhffbgbhgjdiaaGreatDoorRows
import Derived.ProofKit
import Derived.LaidMore
import Derived.OpenShut
import Derived.Stop.LaidErr
import Derived.Lib.LaidTab
import Derived.Stop.Joined
import Derived.Carry
import Derived.Lay
set_option linter.unusedSimpArgs false
set_option linter.unusedVariables false
namespace Go.Proofs.YtbhffbgbhgjdiaaGreatDoor
open Go.ChangeShapes Go.WideShapes Go.ChangeAt Go.WideMaps Go.WideElems Go.RowKit
set_option maxRecDepth 100000
abbrev Nf:List (String×DataW Unit):=[("math/bits.deBruijn32tab",Rows.laid_math_bits_deBruijn32tab),("math/bits.deBruijn64tab",Rows.laid_math_bits_deBruijn64tab),("corebank/rounding.steps",Rows.laid_corebank_rounding_steps),("internal/strconv.uint64pow10",Rows.laid_internal_strconv_uint64pow10),("strconv.ErrRange",Rows.laid_strconv_ErrRange),("strconv.ErrSyntax",Rows.laid_strconv_ErrSyntax),("unicode.White_Space",Rows.laid_unicode_White_Space),("strings.asciiSpace",Rows.laid_strings_asciiSpace)]
def Ayq:List Int:=[0,1,56,2,57,49,28,3,61,58,42,50,38,29,17,4,62,47,59,36,45,43,51,22,53,39,33,30,24,18,12,5,63,55,48,27,60,41,37,16,46,35,44,21,52,32,23,11,54,26,40,15,34,20,31,10,25,14,19,9,13,8,7,6]
theorem Zj{P:Program}{W:World}{name:String}{k:IntKind}{zs:List Int}{rest:List (String×DataW Unit)}{g:Nat}{t e:TypeId}{n:Nat}
  (hg:P.globalNamed name=some g) (hty:(P.globals[g]?).map (·.type)=some t) (ht:P.underlying t=some (.array n e)) (he:P.underlying e=some (.int k)) (hce:P.cellsOf e=1) (hct:P.cellsOf t=n)
  (h:laidMet P ((name,Lib.tabData k zs) :: rest) W):Lib.TabIs P W name k zs:=Lib.tabIs_of_head hg hty ht he hce hct h
theorem Vv{W:World}{g:Nat}(h:W.cell? ⟨g,0,none⟩≠none):g+1≤W.heap.size:=by
 rcases hc:W.cell? ⟨g,0,none⟩ with _|v
 ·exact absurd hc h
 ·exact World.block_lt_of_cell? W _ hc
section
variable{H:Type}{enc:TypeId×Value→H}{w:World}{base:Nat}{sp:Nat→Bool}{held:Bool}{fuel:Nat}{cs:List Value}{p:List MemPlace}
theorem Fu{a b:Int}(h:DataW.trod enc Tryz.prog w base sp held fuel 336 cs=some (.agg [.lit (.int .i64 a),.lit (.int .i64 b)],p)):cs=[.int .i64 a,.int .i64 b]:=by
 cases fuel with
 | zero=>simp [DataW.trod] at h
 | succ fuel =>
  have hc:Tryz.prog.cellsOf 336=2:=by kernel_rfl
  have hi:Tryz.prog.cellsOf 3=1:=by kernel_rfl
  simp only[DataW.trod,Tryz.underlying336,hc] at h
  split at h
  ·rename_i hl
   match cs,hl with
   | [x,y],_ =>
    simp only[List.mapM_cons,List.mapM_nil,List.drop_zero,List.drop_succ_cons,List.take_succ_cons,List.take_zero,hi,Option.bind_eq_bind,Option.map_eq_some_iff,Option.bind_eq_some_iff,Option.pure_def,Option.some.injEq] at h
    obtain⟨xs,⟨b1,g1,l1,⟨b2,g2,l2,rfl,rfl⟩,rfl⟩,hx⟩:=h
    obtain⟨z1,c1,rfl,_⟩:=DataW.trod_int Tryz.underlying3 g1
    obtain⟨z2,c2,rfl,_⟩:=DataW.trod_int Tryz.underlying3 g2
    simp at hx c1 c2
    rw[c1,c2,hx.1.1,hx.1.2]
  ·cases h
theorem Ze(h:DataW.trod enc Tryz.prog w base sp held fuel 337 cs=some (.agg [.agg [.lit (.int .i64 0),.lit (.int .i64 0)],.agg [.lit (.int .i64 1),.lit (.int .i64 0)],.agg [.lit (.int .i64 0),.lit (.int .i64 1)],.agg [.lit (.int .i64 0),.lit (.int .i64 0)],.agg [.lit (.int .i64 1),.lit (.int .i64 1)]],p)):cs=stepsV:=by
 cases fuel with
 | zero=>simp [DataW.trod] at h
 | succ fuel =>
  have hc:Tryz.prog.cellsOf 337=10:=by kernel_rfl
  have hi:Tryz.prog.cellsOf 336=2:=by kernel_rfl
  simp only[DataW.trod,Tryz.underlying337,hc] at h
  split at h
  ·rename_i hl
   match cs,hl with
   | [x0,x1,x2,x3,x4,x5,x6,x7,x8,x9],_ =>
    simp only[show List.range 5=[0,1,2,3,4] from rfl,List.mapM_cons,List.mapM_nil,Nat.zero_mul,Nat.one_mul,Nat.reduceMul,List.drop_zero,List.drop_succ_cons,List.take_succ_cons,List.take_zero,hi,Option.bind_eq_bind,Option.map_eq_some_iff,Option.bind_eq_some_iff,Option.pure_def,Option.some.injEq] at h
    obtain⟨xs,⟨b1,g1,l1,⟨b2,g2,l2,⟨b3,g3,l3,⟨b4,g4,l4,⟨b5,g5,l5,rfl,rfl⟩,rfl⟩,rfl⟩,rfl⟩,rfl⟩,hx⟩:=h
    simp only[List.map_cons,List.map_nil,Prod.mk.injEq,DataW.agg.injEq,List.cons.injEq,and_true] at hx
    obtain⟨⟨h1,h2,h3,h4,h5⟩,_⟩:=hx
    obtain⟨b1,q1⟩:=b1
    obtain⟨b2,q2⟩:=b2
    obtain⟨b3,q3⟩:=b3
    obtain⟨b4,q4⟩:=b4
    obtain⟨b5,q5⟩:=b5
    dsimp only at h1 h2 h3 h4 h5
    subst h1 h2 h3 h4 h5
    have e1:=Fu g1
    have e2:=Fu g2
    have e3:=Fu g3
    have e4:=Fu g4
    have e5:=Fu g5
    simp only[List.cons.injEq,and_true] at e1 e2 e3 e4 e5
    obtain⟨rfl,rfl⟩:=e1
    obtain⟨rfl,rfl⟩:=e2
    obtain⟨rfl,rfl⟩:=e3
    obtain⟨rfl,rfl⟩:=e4
    obtain⟨rfl,rfl⟩:=e5
    rfl
  ·cases h
end
theorem Agn{W:World}{rest:List (String×DataW Unit)}(h:laidMet Tryz.prog (("corebank/rounding.steps",Rows.laid_corebank_rounding_steps) :: rest) W):W.var? Tryz.prog "corebank/rounding.steps" = some stepsV.toArray:=by
 obtain⟨ps,⟨g',t',cs,fuel,p,q,hg',ht',hvar,hd,_,_⟩,_⟩:=h
 have hg:Tryz.prog.globalNamed "corebank/rounding.steps" = some 0:=by kernel_rfl
 have hty:(Tryz.prog.globals[0]?).map (·.type)=some 337:=by kernel_rfl
 obtain rfl:=Option.some.inj (hg.symm.trans hg')
 obtain rfl:=Option.some.inj (hty.symm.trans ht')
 rw[hvar,← Ze hd]
theorem Pk{W:World}(h:laidMetH Tryz.prog Nf W):Ol W:=by
 rw[MakeChecks.laidMetH_plain _ _ _ (by kernel_rfl)] at h
 have h64:Lib.TabIs Tryz.prog W "math/bits.deBruijn64tab" .u8 Ayq:=Zj (g:=5) (t:=374) (e:=5) (n:=64) (by kernel_rfl) (by kernel_rfl) Tryz.underlying374 Tryz.underlying5 (by kernel_rfl) (by kernel_rfl) h.tail
 have hst:=Agn h.tail.tail
 have hpow:Lib.TabIs Tryz.prog W "internal/strconv.uint64pow10" .u64 Lib.pow10Tab:=Zj (g:=1) (t:=344) (e:=37) (n:=20) (by kernel_rfl) (by kernel_rfl) Tryz.underlying344 Tryz.underlying37 (by kernel_rfl) (by kernel_rfl) h.tail.tail.tail
 have h4:=h64.cell (g:=5) (by kernel_rfl) 15 (by decide)
 have h0:=h64.cell (g:=5) (by kernel_rfl) 0 (by decide)
 refine⟨Vv (by rw[h0];simp),hpow,h4,fun j u hu=>?_⟩
 rw[Nat.zero_add]
 have:=World.var?_cell (g:=0) (by kernel_rfl) hst j
 rw[this]
 simpa using hu
theorem Ug{W W':World}(h:Ol W)(hb:Below (5+1) W W'):Ol W':=by
 obtain⟨h0,h1,h2,h3⟩:=h
 refine⟨Nat.le_trans h0 hb.size, ?_, ?_,fun j u hu=>?_⟩
 ·exact var?_below hb (g:=1) (by kernel_rfl) (by decide) h1
 ·exact (hb.cell (by decide)).trans h2
 ·exact (hb.cell (p:=⟨0,0+j,none⟩) (show 0<5+1 by decide)).trans (h3 j u hu)
theorem Uh{W:World}(h:laidMetH Tryz.prog Nf W):CtxP W:=fun _ hb=>Ug (Pk h) hb
theorem Awr(os:Os)(args:Array Value):laidMetH Tryz.prog Nf ((World.laidAll Tryz.prog os Nf).forCall (fun _ _=>0) ⟨#[],args,[]⟩).memory:=by
 rw[MakeChecks.laidMetH_plain _ _ _ (by kernel_rfl)]
 exact laidMet_laidAll _ (by kernel_rfl) (by kernel_rfl)
theorem own:ownKnob Tryz.prog.godebug=none:=by kernel_rfl
theorem laidOut:laidOutB Tryz.prog=true:=by kernel_rfl
section
variable{H:Type}{enc:TypeId×Value→H}
theorem Jt{P:Program}(hl:laidOutB P=true){W W':World}(hb:Below W.heap.size W W'):∀ (ts:List TypeId) (vs:List Value) (ds:List (DataW H)) (ps:List MemPlace),
  (ts.all fun t=>P.readableRec t && decide (t<P.types.size))=true→DataW.TrodAll enc P W 0 (fun _=>true) true ts vs ds ps→(∀ x∈ps,x.block<W.heap.size) →
  DataW.TrodAll enc P W' 0 (fun b=>decide (b<W.heap.size)) true ts vs ds ps
 | [],vs,ds,ps,_,h,_=>by
  obtain⟨rfl,rfl,rfl⟩:=trodAll_nil h
  exact trodAll_mk0
 | t :: ts,vs,ds,ps,ha,h,hlt=>by
  obtain⟨v,vs',d,ds',p,q,rfl,rfl,rfl,h1,h2⟩:=trodAll_cons h
  rw[List.all_cons,Bool.and_eq_true,Bool.and_eq_true,decide_eq_true_eq] at ha
  exact trodAll_cons_mk (Below.trod hl ha.1.1 ha.1.2 h1 hb fun x hx=>hlt x (List.mem_append_left _ hx)) (Jt hl hb ts vs' ds' q ha.2 h2 fun x hx=>hlt x (List.mem_append_right _ hx))
theorem Aeb{f:Func}{s:ChangeSpec}{tb:TypeId}(hv:s.vars=[])(hr:f.resultTypes=#[tb])(htb:Tryz.prog.underlying tb=some .bool)
  (hps:(f.params.toList.all fun t=>Tryz.prog.readableRec t && decide (t<Tryz.prog.types.size))=true)
  {W W':World} {args:Array Value} {ds gs:List (DataW H)} {before:List MemPlace} (hW:DataW.Whole enc Tryz.prog f.params.toList s.vars false W args.toList ds gs before)
  (hfn:s.fn H (ds++gs)={ results:=[.lit (.bool true)],args:=ds }) (hb:Below W.heap.size W W') :
  s.post enc Tryz.prog f false true false false W args (.bool true) W':=by
 have hW':=hW
 obtain⟨p,q,hA,hV,rfl,hfz,_⟩:=hW
 rw[hv] at hV
 obtain⟨rfl,rfl⟩:=trodVars_none hV
 have hlt:∀ x∈p,x.block<W.heap.size:=fun x hx=>hW'.lt x (List.mem_append_left _ hx)
 refine⟨ds,[],_,[],p,[],hW', ?_, ?_, ?_,hb.frame _,fun h=>by cases h⟩
 ·rw[hfn,hr]
  exact trodAll_mk1 (shut_bool htb true)
 ·rw[hfn]
  exact Jt laidOut hb _ _ _ _ hps hA hlt
 ·rw[hfn,hv];rfl
end
end Go.Proofs.YtbhffbgbhgjdiaaGreatDoor
