/-
  Part 10 of the proof that the law EvalRangesUptoCardSaid of the given program answers true for every input of the given statement; the input reads behind the call as it did. (The texts: packed from 3 texts. Names are shortened by the packing program, for the bound on size.)
-/
import Derived.Test.YtamakbhlhpaiiaaGreatDoorA9
import Derived.ChangeMaps5
set_option linter.all false
section
namespace TwW.Rw
open Go Tw TwW Go.ChangeShapes Go.WideShapes Go.ChangeAt Go.RowKit Go.Deep Go.Proofs.Tryz Go.Proofs.YtamakbhlhpaiiaaGreatDoor
noncomputable abbrev wV (os:Os)(args:Array Value):World:=(RP os).forCall (λ_ _=>0) ⟨#[],args,[]⟩
def AHj (P:Program)(w:World)(g:Nat):Bool:=
 match ((begin P (λ_ _=>0) default).world.heap[g]?).bind Obj.row? with
 | none=>true
 | some (zero,t)=>
  match w.heap[g]? with
  | some (.cells cs A frozen)=>decide (A=t)&&decide (frozen=(0,0))&&cs.size==zero.size&&(!P.buildable t||Row.okRefB P w t cs)
  | _=>false
theorem AEE {P:Program}{w:World}(h:∀g,g<P.globals.size->AHj P w g=true):w.variablesRefB P=true:=
 AnJ.2 λg A=>h g (Aoe.1 A)
theorem sT {P:Program}{w:World}{t e:TypeId}{cs:Array Value}{n:Nat}(G:P.cellTypes P.depth t=some (List.replicate n e))(hs:cs.size=n)(C:(cs.toList.all λv=>Cell.okRefB P w e v)=true):Row.okRefB P w t cs=true:=by
 unfold Row.okRefB;rw[G];simp only[AoU,hs,Nat.mod_self,Amn,AoA,AnJ,Aoe,true_and];intro i hi;have A:i<cs.size:=by omega
 rw[Aol A,Nat.mod_eq_of_lt hi,Aob,Amc hi];exact AnJ.1 C _ (by simp)
theorem vI {P:Program}{w:World}{g n:Nat}{t e:TypeId}{cs:Array Value}(A:(((begin P (λ_ _=>0) default).world.heap[g]?).bind Obj.row?).map (λx=>(x.1.size,x.2))=some (n,t))(h1:w.heap[g]?=some (.cells cs t (0,0)))(C:cs.size=n)(ct:P.cellTypes P.depth t=some (List.replicate n e))(G:(cs.toList.all λv=>Cell.okRefB P w e v)=true):AHj P w g=true:=by
 unfold AHj;cases hb:((begin P (λ_ _=>0) default).world.heap[g]?).bind Obj.row? with
 | none=>rfl
 | some x=>
  obtain⟨zero,t'⟩:=x;rw[hb]at A;simp only[AnK,Ami,AoZ]at A;obtain⟨h2,rfl⟩:=A;simp only[h1,sT ct C G,C,h2];simp
set_option maxRecDepth 1000000
theorem AYK (os:Os){args:Array Value}:((List.range 17).all λg=>(g==10||g==11)||AHj prog (wV os args) g)=true:=by kernel_rfl
theorem Aep (os:Os){args:Array Value}:(wV os args).heap[10]?=some (.cells (fl2 Rows.laid_internal_strconv_pow10Tab).toArray 342 (0,0)):=by kernel_rfl
theorem Aeq (os:Os){args:Array Value}:(wV os args).heap[11]?=some (.cells (yE Rows.laid_unicode_utf8_first).toArray 351 (0,0)):=by kernel_rfl
theorem z10:(((begin prog (λ_ _=>0) default).world.heap[10]?).bind Obj.row?).map (λx=>(x.1.size,x.2))=some (1392,342):=by kernel_rfl
theorem z11:(((begin prog (λ_ _=>0) default).world.heap[11]?).bind Obj.row?).map (λx=>(x.1.size,x.2))=some (256,351):=by kernel_rfl
theorem t10:prog.cellTypes prog.depth 342=some (List.replicate 1392 57):=by kernel_rfl
theorem t11:prog.cellTypes prog.depth 351=some (List.replicate 256 5):=by kernel_rfl
theorem s10:(fl2 Rows.laid_internal_strconv_pow10Tab).toArray.size=1392:=by kernel_rfl
theorem s11:(yE Rows.laid_unicode_utf8_first).toArray.size=256:=by kernel_rfl
theorem a10 (os:Os){args:Array Value}:((fl2 Rows.laid_internal_strconv_pow10Tab).toArray.toList.all λv=>Cell.okRefB prog (wV os args) 57 v)=true:=by kernel_rfl
theorem a11 (os:Os){args:Array Value}:((yE Rows.laid_unicode_utf8_first).toArray.toList.all λv=>Cell.okRefB prog (wV os args) 5 v)=true:=by kernel_rfl
theorem Aer (os:Os){args:Array Value}:(wV os args).variablesRefB prog=true:=AEE λg hg=>by
 by_cases G:g=10
 .subst G;exact vI z10 (Aep os) s10 t10 (a10 os)
 by_cases C:g=11
 .subst C;exact vI z11 (Aeq os) s11 t11 (a11 os)
 have A:g<17:=hg;have:=AnJ.1 (AYK os (args:=args)) g (Aoe.2 A);simpa[G,C] using this
abbrev SrI (ss:List Sr):Prop:=oH (λs:Sr=>s.ls.length<=1048576/\s.ps.length<=1048576/\∀p∈s.ps,0<=p.2/\p.2<18446744073709551616) ss
theorem AOy {ss:List Sr}(h:SrI ss):∀s∈ss,∀p∈s.ps,0<=p.2/\p.2<18446744073709551616:=λs A=>(h.1 s A).2.2
end TwW.Rw
end
section
namespace TwW.Rw
open Go Tw TwW Go.Proofs.Tryz Go.Proofs.YtamakbhlhpaiiaaGreatDoor
abbrev NdI (T:List Nd):Prop:=oH (λx:Nd=>x.text.size<=1048576/\x.mt.length<=1048576/\x.names.length<=1048576) T
theorem vN {T:List Nd}{ss:List Sr}(G:NdI T)(A:SrI ss):Modest T ss:=
 ⟨AnL G.2 (by decide),λx hx=>AnL (G.1 x hx).1 (by decide),AnL A.2 (by decide),λs C=>AnL (A.1 s C).2.1 (by decide),λs C p hp=>((A.1 s C).2.2 p hp).1⟩
theorem Aet {T:List Nd}(A:NdI T):TOk T:=⟨AnL A.2 (by decide),λx C=>AnL (A.1 x C).2.1 (by decide),λx C=>AnL (A.1 x C).2.2 (by decide)⟩
theorem Aeu {ss:List Sr}(A:SrI ss):SOk ss:=⟨AnL A.2 (by decide),λs C=>AnL (A.1 s C).1 (by decide),λs C=>AnL (A.1 s C).2.1 (by decide)⟩
end TwW.Rw
end
section
namespace Go.Proofs.YtamakbhlhpaiiaaGreatDoor.evalRanges
open Go Tw TwW TwW.Rw Go.ChangeShapes Go.WideShapes Go.ChangeAt Go.RowKit Go.Deep
open Go.Proofs.Tryz (f4 func4 params4)
abbrev oI:Array Value:=#[.slice none 0 0,.slice none 0 0,.int .i64 0,.int .i64 0,.int .i64 0]
noncomputable abbrev wW (os:Os):World:=(RP os).forCall (λ_ _=>0) ⟨#[],oI,[]⟩
set_option maxRecDepth 1000000
theorem wHr (os:Os):((wW os).heap.toList.drop prog.globals.size).take ((begin prog (λ_ _=>0) default).world.heap.size-prog.globals.size)=(begin prog (λ_ _=>0) default).world.heap.toList.drop prog.globals.size:=by kernel_rfl
theorem Aev (os:Os):Input.okWideB prog (wW os) 4 ⟨#[],oI,[]⟩=true:=by kernel_rfl
theorem wHv (os:Os):(wW os).variablesRefB prog=true:=Aer os (args:=oI)
theorem reads (os:Os){H:Type}(enc:TypeId×Value->H):∃A,DataW.whole enc prog (wW os).memory f4.params.toList Rows.evalRangesSpec.vars false oI.toList 8=some ([.nil,.nil,.lit (.int .i64 0),.lit (.int .i64 0),.lit (.int .i64 0)],[],A):=
 ⟨[],by kernel_rfl⟩
theorem AEF (H:Type)(enc:TypeId×Value->H)(W:World)(base:Nat)(args:Array Value)(ds gs:List (DataW H))(A:List MemPlace)
  (G:∀(j:Nat) t v,f4.params[j]?=some t->args[j]?=some v->Value.okWide prog W .any base t v)
  (hW:DataW.Whole enc prog f4.params.toList Rows.evalRangesSpec.vars false W args.toList ds gs A) (hk:Rows.uptoBulkAll (ds++gs)<=1048576) (hL:laidMetH prog Laid W) (hsh:W.ShapedOpen prog) :
  Calls prog 4 args W λe W'=>∃v,e=.returned v/\Rows.evalRangesSpec.post enc prog f4 false true false false W args v W':=by
 have hW':=hW;obtain⟨p,q,hA0,hV,rfl,hfz,hnd⟩:=hW;have hA:DataW.TrodAll enc prog W 0 (λ_=>true) true f4.params.toList args.toList ds p:=hA0;rw[params4]at hA G;obtain⟨v0,vs0,d0,ds0,p0,q0,Ni,rfl,rfl,h0,r0⟩:=trodAll_cons hA;obtain⟨v1,vs1,d1,ds1,p1,q1,rfl,rfl,rfl,h1,r1⟩:=trodAll_cons r0;obtain⟨v2,vs2,d2,ds2,p2,q2,rfl,rfl,rfl,h2,r2⟩:=trodAll_cons r1;obtain⟨v3,vs3,d3,ds3,p3,q3,rfl,rfl,rfl,h3,r3⟩:=trodAll_cons r2;obtain⟨v4,vs4,d4,ds4,p4,q4,rfl,rfl,rfl,h4,r4⟩:=trodAll_cons r3;obtain⟨rfl,rfl,rfl⟩:=trodAll_nil r4;obtain rfl:args=#[v0,v1,v2,v3,v4]:=by cases args;simp_all
 obtain⟨rfl,rfl⟩:=trodVars_none hV;simp only[AoD,Rows.uptoBulkAll]at hk;obtain⟨a0,n0,c0,T0,rfl,hr0,Ui⟩:=AD9 (G 0 22 v0 rfl rfl) h0 (by omega);obtain⟨a1,n1,c1,ss1,rfl,Gq,C⟩:=AEA (G 1 23 v1 rfl rfl) h1 (by omega);obtain⟨x2,rfl,rfl,_,w2⟩:=open_int Go.Proofs.Tryz.underlying2 (G 2 2 v2 rfl rfl) h2;obtain⟨x3,rfl,rfl,_,w3⟩:=open_int Go.Proofs.Tryz.underlying2 (G 3 2 v3 rfl rfl) h3;obtain⟨x4,rfl,rfl,_,w4⟩:=open_int Go.Proofs.Tryz.underlying2 (G 4 2 v4 rfl rfl) h4;exact AOt (by kernel_rfl) rfl rfl ⟨rfl,rfl,rfl⟩ hW' (oE (AD4 Aei) (AYH hL hsh) hr0 Gq (vN Ui C) (Aet Ui) (Aeu C) (AOy C) C.2 λZ' hx=>⟨rfl,hx⟩)
theorem AOz:Go.Proofs.Tryz.checked.prog.inits.idxOf? 4=none:=by kernel_rfl
theorem witness (os:Os)(G:os.Started)(H:Type)(enc:TypeId×Value->H):∃(w:World) (A:Tape) (i:Input),w.os=os/\(w.forCall A i).Shaped Go.Proofs.Tryz.checked.prog/\i.vars=[]/\Input.okWide Go.Proofs.Tryz.checked.prog (w.forCall A i) .any w.heap.size 4 i/\
  (Rows.OpenSpec.upto Rows.evalRangesSpec).preRow enc Go.Proofs.Tryz.checked.prog f4 Rows.evalRangesUptoRow.domain false Rows.evalRangesUptoRow.laid (w.forCall A i).memory i.args/\({}:Assume).holds Go.Proofs.Tryz.checked.prog (lone (Frame.enter Go.Proofs.Tryz.checked.prog 4 i.args .normal) [] (w.forCall A i)):=by
 obtain⟨places,hx⟩:=reads os enc;exact witness_row_atRef (enc:=enc) (C:=Go.Proofs.Tryz.checked) false (RP os) oI rfl (wHv os) (wHr os) (Aev os)
  (OpenSpec.preRow_of_cond 8 hx (by as_aux_lemma=>kernel_rfl) (λk hk=>by cases hk;as_aux_lemma=>kernel_rfl) (by as_aux_lemma=>kernel_rfl) (AEB os _))
theorem lifted (os:Os)(A:os.Started)(H:Type)(enc:TypeId×Value->H)(F:Stop.Interp):
  ReturnsInHanded {} Go.Proofs.Tryz.checked os 4 .any ((Rows.OpenSpec.upto Rows.evalRangesSpec).preRow enc prog f4 Rows.evalRangesUptoRow.domain false Rows.evalRangesUptoRow.laid) (((Rows.OpenSpec.upto Rows.evalRangesSpec).at F).post enc prog f4 false true false false):=by
 refine returnsInHanded_of_row (C:=Go.Proofs.Tryz.checked) (s:=Rows.OpenSpec.upto Rows.evalRangesSpec) own A AOz func4 (witness os A H enc) ?_;intro W base args ds gs G AYL hW _ AYM _ hL hsh _;exact AEF H enc W base args ds gs G AYL hW (Amg (AYM _ rfl)) hL hsh
end Go.Proofs.YtamakbhlhpaiiaaGreatDoor.evalRanges
end
