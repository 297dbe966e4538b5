/-
  Part 8 of the proof that the law QuerierFewUptoCardSaid of the given program answers true for every input of the given statement; the input reads behind the call as it did. (The texts: packed from 3 texts. Names are shortened by the packing program, for the bound on size.)
-/
import Derived.Test.YtdlkodiemlmmiaaGreatDoorA7
import Derived.ChangeMaps5
set_option linter.all false
section
namespace TwW.Rw
open Go Tw TwW Go.ChangeShapes Go.WideShapes Go.ChangeAt Go.RowKit Go.Deep Go.Proofs.Tryz Go.Proofs.YtdlkodiemlmmiaaGreatDoor
noncomputable abbrev wV (os:Os)(args:Array Value):World:=(M8 os).forCall (fun _ _=>0) ⟨#[],args,[]⟩
def ABO (P:Program)(w:World)(g:Nat):Bool:=
 match ((begin P (fun _ _=>0) default).world.heap[g]?).bind Obj.row? with
 | none=>true
 | some (zero,t)=>
  match w.heap[g]? with
  | some (.cells cs t' frozen)=>decide (t'=t)&&decide (frozen=(0,0))&&cs.size==zero.size&&(!P.buildable t||Row.okRefB P w t cs)
  | _=>false
theorem xX {P:Program}{w:World}(h:∀g,g<P.globals.size→ABO P w g=true):w.variablesRefB P=true:=
 Acb.2 fun g hg=>h g (Ac5.1 hg)
theorem kL {P:Program}{w:World}{t e:TypeId}{cs:Array Value}{n:Nat}(ax:P.cellTypes P.depth t=some (List.replicate n e))(hs:cs.size=n)(Kd:(cs.toList.all fun v=>Cell.okRefB P w e v)=true):Row.okRefB P w t cs=true:=by
 unfold Row.okRefB;rw[ax];simp only[List.length_replicate,hs,Nat.mod_self,Abt,AeC,Acb,Ac5,true_and];intro i hi;have Bi:i<cs.size:=by omega
 rw[Acz Bi,Nat.mod_eq_of_lt hi,Ady,Abe hi];exact Acb.1 Kd _ (by simp)
theorem mh {P:Program}{w:World}{g n:Nat}{t e:TypeId}{cs:Array Value}(h0:(((begin P (fun _ _=>0) default).world.heap[g]?).bind Obj.row?).map (fun x=>(x.1.size,x.2))=some (n,t))(h1:w.heap[g]?=some (.cells cs t (0,0)))(hs:cs.size=n)(ax:P.cellTypes P.depth t=some (List.replicate n e))(Kd:(cs.toList.all fun v=>Cell.okRefB P w e v)=true):ABO P w g=true:=by
 unfold ABO;cases hb:((begin P (fun _ _=>0) default).world.heap[g]?).bind Obj.row? with
 | none=>rfl
 | some x=>
  obtain⟨zero,t'⟩:=x;rw[hb]at h0;simp only[AcM,Abg,AcT]at h0;obtain⟨h2,rfl⟩:=h0;simp only[h1,kL ax hs Kd,hs,h2];simp
set_option maxRecDepth 1000000
theorem AOi (os:Os){args:Array Value}:((List.range 17).all fun g=>(g==10||g==11)||ABO prog (wV os args) g)=true:=by kernel_rfl
theorem AU0 (os:Os){args:Array Value}:(wV os args).heap[10]?=some (.cells (fl2 Rows.laid_internal_strconv_pow10Tab).toArray 391 (0,0)):=by kernel_rfl
theorem AU1 (os:Os){args:Array Value}:(wV os args).heap[11]?=some (.cells (qa Rows.laid_unicode_utf8_first).toArray 400 (0,0)):=by kernel_rfl
theorem z10:(((begin prog (fun _ _=>0) default).world.heap[10]?).bind Obj.row?).map (fun x=>(x.1.size,x.2))=some (1392,391):=by kernel_rfl
theorem z11:(((begin prog (fun _ _=>0) default).world.heap[11]?).bind Obj.row?).map (fun x=>(x.1.size,x.2))=some (256,400):=by kernel_rfl
theorem t10:prog.cellTypes prog.depth 391=some (List.replicate 1392 27):=by kernel_rfl
theorem t11:prog.cellTypes prog.depth 400=some (List.replicate 256 5):=by kernel_rfl
theorem s10:(fl2 Rows.laid_internal_strconv_pow10Tab).toArray.size=1392:=by kernel_rfl
theorem s11:(qa Rows.laid_unicode_utf8_first).toArray.size=256:=by kernel_rfl
theorem jH (os:Os){args:Array Value}:((fl2 Rows.laid_internal_strconv_pow10Tab).toArray.toList.all fun v=>Cell.okRefB prog (wV os args) 27 v)=true:=by kernel_rfl
theorem wj (os:Os){args:Array Value}:((qa Rows.laid_unicode_utf8_first).toArray.toList.all fun v=>Cell.okRefB prog (wV os args) 5 v)=true:=by kernel_rfl
theorem AU2 (os:Os){args:Array Value}:(wV os args).variablesRefB prog=true:=xX fun g hg=>by
 by_cases Nq:g=10
 ·subst Nq;exact mh z10 (AU0 os) s10 t10 (jH os)
 by_cases yE:g=11
 ·subst yE;exact mh z11 (AU1 os) s11 t11 (wj os)
 have h17:g<17:=hg;have:=Acb.1 (AOi os (args:=args)) g (Ac5.2 h17);simpa[Nq,yE] using this
end TwW.Rw
end
section
namespace TwW.Rw
open Go Tw TwW Go.RowKit Go.ChangeShapes Go.WideShapes Go.ChangeAt Go.Deep Go.Proofs.Tryz Go.Proofs.YtdlkodiemlmmiaaGreatDoor
set_option maxRecDepth 100000
section
variable {H:Type}{enc:TypeId×Value→H}{W:World}{base:Nat}{v:Value}{d:DataW H}{ps:List MemPlace}{r:Reach}
theorem ABP (hv:Value.okWide prog W r base 50 v)(h:DataW.Trod enc prog W 0 (fun _=>true) true 50 v d ps)(hw:Rows.uptoBulk d≤1048576):∃p n c xs,v=.slice p n c∧C2 .i64 (full W) p n xs∧AUv (fun x:Int=>(Lit.int .i64 x).wf=true) xs:=by
 obtain⟨a,l,c,rfl⟩:=okWide_slice underlying50 hv;obtain⟨fuel,hf⟩:=h;obtain⟨xs,⟨p,n,c',e,_,hr⟩,hI,_⟩:=WS.len (s:=1) underlying50 (by kernel_rfl) (by decide) (WS.int underlying3) hf hw;have e':[Value.slice a l c]=[.slice p n c']:=by simpa[Value.cells] using e
 cases e';exact⟨a,l,c,xs,rfl,hr,hI⟩
end
end TwW.Rw
end
section
namespace Go.Proofs.YtdlkodiemlmmiaaGreatDoor.querierFew
open Go Tw TwW TwW.Rw Go.ChangeShapes Go.WideShapes Go.ChangeAt Go.RowKit Go.Deep
open Go.Proofs.Tryz (f4 func4 params4)
abbrev gG:Array Value:=#[.int .i64 0,.int .i64 0,.slice none 0 0]
noncomputable abbrev wW (os:Os):World:=(M8 os).forCall (fun _ _=>0) ⟨#[],gG,[]⟩
set_option maxRecDepth 1000000
theorem wHr (os:Os):((wW os).heap.toList.drop prog.globals.size).take ((begin prog (fun _ _=>0) default).world.heap.size-prog.globals.size)=(begin prog (fun _ _=>0) default).world.heap.toList.drop prog.globals.size:=by kernel_rfl
theorem AU3 (os:Os):Input.okWideB prog (wW os) 4 ⟨#[],gG,[]⟩=true:=by kernel_rfl
theorem wHv (os:Os):(wW os).variablesRefB prog=true:=AU2 os (args:=gG)
theorem reads (os:Os){H:Type}(enc:TypeId×Value→H):∃places,DataW.whole enc prog (wW os).memory f4.params.toList Rows.querierFewSpec.vars false gG.toList 8=some ([.lit (.int .i64 0),.lit (.int .i64 0),.nil],[],places):=
 ⟨[],by kernel_rfl⟩
theorem xY (H:Type)(enc:TypeId×Value→H)(W:World)(base:Nat)(args:Array Value)(ds gs:List (DataW H))(before:List MemPlace)
  (ABQ:∀(j:Nat) t v,f4.params[j]?=some t→args[j]?=some v→Value.okWide prog W .any base t v)
  (hW:DataW.Whole enc prog f4.params.toList Rows.querierFewSpec.vars false W args.toList ds gs before) (hk:Rows.uptoBulkAll (ds++gs)≤1048576) (hL:laidMetH prog Laid W) (hsh:W.ShapedOpen prog) :
  Calls prog 4 args W fun e W'=>∃v,e=.returned v∧Rows.querierFewSpec.post enc prog f4 false true false false W args v W':=by
 have hW':=hW;obtain⟨p,q,hA0,hV,rfl,hfz,JM⟩:=hW;have hA:DataW.TrodAll enc prog W 0 (fun _=>true) true f4.params.toList args.toList ds p:=hA0;rw[params4]at hA ABQ;obtain⟨v0,vs0,d0,ds0,p0,q0,G1,rfl,rfl,h0,r0⟩:=trodAll_cons hA;obtain⟨v1,vs1,d1,ds1,p1,q1,rfl,rfl,rfl,h1,r1⟩:=trodAll_cons r0;obtain⟨v2,vs2,d2,ds2,p2,q2,rfl,rfl,rfl,h2,r2⟩:=trodAll_cons r1;obtain⟨rfl,rfl,rfl⟩:=trodAll_nil r2;obtain rfl:args=#[v0,v1,v2]:=by cases args;simp_all
 obtain⟨rfl,rfl⟩:=trodVars_none hV;simp only[Acq,Rows.uptoBulkAll]at hk;obtain⟨x0,rfl,rfl,_,w0⟩:=open_int Go.Proofs.Tryz.underlying3 (ABQ 0 3 v0 rfl rfl) h0;obtain⟨x1,rfl,rfl,_,w1⟩:=open_int Go.Proofs.Tryz.underlying3 (ABQ 1 3 v1 rfl rfl) h1;obtain⟨a2,n2,c2,xs2,rfl,HE,hI2⟩:=ABP (ABQ 2 50 v2 rfl rfl) h2 (by omega);exact AG2 (by kernel_rfl) rfl rfl ⟨rfl,rfl,rfl⟩ hW' (qZ HE (AOf hL hsh) fun σ' hx=>⟨rfl,hx⟩)
theorem AG7:Go.Proofs.Tryz.checked.prog.inits.idxOf? 4=none:=by kernel_rfl
theorem witness (os:Os)(started:os.Started)(H:Type)(enc:TypeId×Value→H):∃(w:World) (tape:Tape) (i:Input),w.os=os∧(w.forCall tape i).Shaped Go.Proofs.Tryz.checked.prog∧i.vars=[]∧Input.okWide Go.Proofs.Tryz.checked.prog (w.forCall tape i) .any w.heap.size 4 i∧
  (Rows.OpenSpec.upto Rows.querierFewSpec).preRow enc Go.Proofs.Tryz.checked.prog f4 Rows.querierFewUptoRow.domain false Rows.querierFewUptoRow.laid (w.forCall tape i).memory i.args∧({}:Assume).holds Go.Proofs.Tryz.checked.prog (lone (Frame.enter Go.Proofs.Tryz.checked.prog 4 i.args .normal) [] (w.forCall tape i)):=by
 obtain⟨places,hx⟩:=reads os enc;exact witness_row_atRef (enc:=enc) (C:=Go.Proofs.Tryz.checked) false (M8 os) gG rfl (wHv os) (wHr os) (AU3 os)
  (OpenSpec.preRow_of_cond 8 hx (by as_aux_lemma=>kernel_rfl) (fun k hk=>by cases hk;as_aux_lemma=>kernel_rfl) (by as_aux_lemma=>kernel_rfl) (xU os _))
theorem lifted (os:Os)(started:os.Started)(H:Type)(enc:TypeId×Value→H)(F:Stop.Interp):
  ReturnsInHanded {} Go.Proofs.Tryz.checked os 4 .any ((Rows.OpenSpec.upto Rows.querierFewSpec).preRow enc prog f4 Rows.querierFewUptoRow.domain false Rows.querierFewUptoRow.laid) (((Rows.OpenSpec.upto Rows.querierFewSpec).at F).post enc prog f4 false true false false):=by
 refine returnsInHanded_of_row (C:=Go.Proofs.Tryz.checked) (s:=Rows.OpenSpec.upto Rows.querierFewSpec) own started AG7 func4 (witness os started H enc) ?_;intro W base args ds gs before AOj hW _ AOk _ hL hsh _;exact xY H enc W base args ds gs before AOj hW (Abm (AOk _ rfl)) hL hsh
end Go.Proofs.YtdlkodiemlmmiaaGreatDoor.querierFew
end
