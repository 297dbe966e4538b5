/-
  Part 9 of the proof that the law EvalInstantsUptoCardSaid of the given program answers true for every input of the given statement; the input reads behind the call as it did. (The texts: packed from 3 texts. Names are shortened by the packing program, for the bound on size.)
-/
import Derived.Test.YtamakbhlhpaiiaaGreatDoorA8
import Derived.ChangeMaps5
set_option linter.all false
section
namespace TwW.Rw
open Go Tw TwW Go.ChangeShapes Go.WideShapes Go.ChangeAt Go.RowKit Go.Deep Go.Proofs.Tryz Go.Proofs.YtamakbhlhpaiiaaGreatDoor
noncomputable abbrev wV (os:Os)(args:Array Value):World:=(Pk os).forCall (fun _ _=>0) ⟨#[],args,[]⟩
def AEA (P:Program)(w:World)(g:Nat):Bool:=
 match ((begin P (fun _ _=>0) default).world.heap[g]?).bind Obj.row? with
 | none=>true
 | some (zero,t)=>
  match w.heap[g]? with
  | some (.cells cs t' frozen)=>decide (t'=t)&&decide (frozen=(0,0))&&cs.size==zero.size&&(!P.buildable t||Row.okRefB P w t cs)
  | _=>false
theorem AAy {P:Program}{w:World}(h:∀g,g<P.globals.size→AEA P w g=true):w.variablesRefB P=true:=
 List.all_eq_true.2 fun g hg=>h g (List.mem_range.1 hg)
theorem nk {P:Program}{w:World}{t e:TypeId}{cs:Array Value}{n:Nat}(ZB:P.cellTypes P.depth t=some (List.replicate n e))(hs:cs.size=n)(GJ:(cs.toList.all fun v=>Cell.okRefB P w e v)=true):Row.okRefB P w t cs=true:=by
 unfold Row.okRefB;rw[ZB];simp only[Ajn,hs,Nat.mod_self,AiS,Aja,List.all_eq_true,List.mem_range,true_and];intro i hi;have BF:i<cs.size:=by omega
 rw[Aj2 BF,Nat.mod_eq_of_lt hi,Ajt,AiL hi];exact List.all_eq_true.1 GJ _ (by simp)
theorem qY {P:Program}{w:World}{g n:Nat}{t e:TypeId}{cs:Array Value}(h0:(((begin P (fun _ _=>0) default).world.heap[g]?).bind Obj.row?).map (fun x=>(x.1.size,x.2))=some (n,t))(h1:w.heap[g]?=some (.cells cs t (0,0)))(hs:cs.size=n)(ZB:P.cellTypes P.depth t=some (List.replicate n e))(GJ:(cs.toList.all fun v=>Cell.okRefB P w e v)=true):AEA P w g=true:=by
 unfold AEA;cases hb:((begin P (fun _ _=>0) default).world.heap[g]?).bind Obj.row? with
 | none=>rfl
 | some x=>
  obtain⟨zero,t'⟩:=x;rw[hb]at h0;simp only[Aiv,AiO,Ajr]at h0;obtain⟨h2,rfl⟩:=h0;simp only[h1,nk ZB hs GJ,hs,h2];simp
set_option maxRecDepth 1000000
theorem ATo (os:Os){args:Array Value}:((List.range 17).all fun g=>(g==10||g==11)||AEA prog (wV os args) g)=true:=by kernel_rfl
theorem AaW (os:Os){args:Array Value}:(wV os args).heap[10]?=some (.cells (fl2 Rows.laid_internal_strconv_pow10Tab).toArray 342 (0,0)):=by kernel_rfl
theorem AaX (os:Os){args:Array Value}:(wV os args).heap[11]?=some (.cells (tY Rows.laid_unicode_utf8_first).toArray 351 (0,0)):=by kernel_rfl
theorem z10:(((begin prog (fun _ _=>0) default).world.heap[10]?).bind Obj.row?).map (fun x=>(x.1.size,x.2))=some (1392,342):=by kernel_rfl
theorem z11:(((begin prog (fun _ _=>0) default).world.heap[11]?).bind Obj.row?).map (fun x=>(x.1.size,x.2))=some (256,351):=by kernel_rfl
theorem t10:prog.cellTypes prog.depth 342=some (List.replicate 1392 57):=by kernel_rfl
theorem t11:prog.cellTypes prog.depth 351=some (List.replicate 256 5):=by kernel_rfl
theorem s10:(fl2 Rows.laid_internal_strconv_pow10Tab).toArray.size=1392:=by kernel_rfl
theorem s11:(tY Rows.laid_unicode_utf8_first).toArray.size=256:=by kernel_rfl
theorem a10 (os:Os){args:Array Value}:((fl2 Rows.laid_internal_strconv_pow10Tab).toArray.toList.all fun v=>Cell.okRefB prog (wV os args) 57 v)=true:=by kernel_rfl
theorem a11 (os:Os){args:Array Value}:((tY Rows.laid_unicode_utf8_first).toArray.toList.all fun v=>Cell.okRefB prog (wV os args) 5 v)=true:=by kernel_rfl
theorem AaY (os:Os){args:Array Value}:(wV os args).variablesRefB prog=true:=AAy fun g hg=>by
 by_cases VF:g=10
 ·subst VF;exact qY z10 (AaW os) s10 t10 (a10 os)
 by_cases IT:g=11
 ·subst IT;exact qY z11 (AaX os) s11 t11 (a11 os)
 have h17:g<17:=hg;have:=List.all_eq_true.1 (ATo os (args:=args)) g (List.mem_range.2 h17);simpa[VF,IT] using this
abbrev SrI (ss:List Sr):Prop:=j1 (fun s:Sr=>s.ls.length≤1048576∧s.ps.length≤1048576∧∀p∈s.ps,0≤p.2∧p.2<18446744073709551616) ss
theorem AK2 {ss:List Sr}(h:SrI ss):∀s∈ss,∀p∈s.ps,0≤p.2∧p.2<18446744073709551616:=fun s hs=>(h.1 s hs).2.2
end TwW.Rw
end
section
namespace TwW.Rw
open Go Tw TwW Go.Proofs.Tryz Go.Proofs.YtamakbhlhpaiiaaGreatDoor
abbrev NdI (T:List Nd):Prop:=j1 (fun x:Nd=>x.text.size≤1048576∧x.mt.length≤1048576∧x.names.length≤1048576) T
theorem qe {T:List Nd}{ss:List Sr}(hT:NdI T)(hS:SrI ss):Modest T ss:=
 ⟨Aiy hT.2 (by decide),fun x hx=>Aiy (hT.1 x hx).1 (by decide),Aiy hS.2 (by decide),fun s hs=>Aiy (hS.1 s hs).2.1 (by decide),fun s hs p hp=>((hS.1 s hs).2.2 p hp).1⟩
theorem Aaa {T:List Nd}(hT:NdI T):TOk T:=⟨Aiy hT.2 (by decide),fun x hx=>Aiy (hT.1 x hx).2.1 (by decide),fun x hx=>Aiy (hT.1 x hx).2.2 (by decide)⟩
theorem Aab {ss:List Sr}(hS:SrI ss):SOk ss:=⟨Aiy hS.2 (by decide),fun s hs=>Aiy (hS.1 s hs).1 (by decide),fun s hs=>Aiy (hS.1 s hs).2.1 (by decide)⟩
end TwW.Rw
end
section
namespace Go.Proofs.YtamakbhlhpaiiaaGreatDoor.evalInstants
open Go Tw TwW TwW.Rw Go.ChangeShapes Go.WideShapes Go.ChangeAt Go.RowKit Go.Deep
open Go.Proofs.Tryz (f3 func3 params3)
abbrev j2:Array Value:=#[.slice none 0 0,.slice none 0 0,.int .i64 0]
noncomputable abbrev wW (os:Os):World:=(Pk os).forCall (fun _ _=>0) ⟨#[],j2,[]⟩
set_option maxRecDepth 1000000
theorem wHr (os:Os):((wW os).heap.toList.drop prog.globals.size).take ((begin prog (fun _ _=>0) default).world.heap.size-prog.globals.size)=(begin prog (fun _ _=>0) default).world.heap.toList.drop prog.globals.size:=by kernel_rfl
theorem Aac (os:Os):Input.okWideB prog (wW os) 3 ⟨#[],j2,[]⟩=true:=by kernel_rfl
theorem wHv (os:Os):(wW os).variablesRefB prog=true:=AaY os (args:=j2)
theorem reads (os:Os){H:Type}(enc:TypeId×Value→H):∃places,DataW.whole enc prog (wW os).memory f3.params.toList Rows.evalInstantsSpec.vars false j2.toList 8=some ([.nil,.nil,.lit (.int .i64 0)],[],places):=
 ⟨[],by kernel_rfl⟩
theorem AAz (H:Type)(enc:TypeId×Value→H)(W:World)(base:Nat)(args:Array Value)(ds gs:List (DataW H))(before:List MemPlace)
  (AEB:∀(j:Nat) t v,f3.params[j]?=some t→args[j]?=some v→Value.okWide prog W .any base t v)
  (hW:DataW.Whole enc prog f3.params.toList Rows.evalInstantsSpec.vars false W args.toList ds gs before) (hk:Rows.uptoBulkAll (ds++gs)≤1048576) (hL:laidMetH prog Laid W) (hsh:W.ShapedOpen prog) :
  Calls prog 3 args W fun e W'=>∃v,e=.returned v∧Rows.evalInstantsSpec.post enc prog f3 false true false false W args v W':=by
 have hW':=hW;obtain⟨p,q,hA0,hV,rfl,hfz,hnd⟩:=hW;have hA:DataW.TrodAll enc prog W 0 (fun _=>true) true f3.params.toList args.toList ds p:=hA0;rw[params3]at hA AEB;obtain⟨v0,vs0,d0,ds0,p0,q0,M6,rfl,rfl,h0,r0⟩:=trodAll_cons hA;obtain⟨v1,vs1,d1,ds1,p1,q1,rfl,rfl,rfl,h1,r1⟩:=trodAll_cons r0;obtain⟨v2,vs2,d2,ds2,p2,q2,rfl,rfl,rfl,h2,r2⟩:=trodAll_cons r1;obtain⟨rfl,rfl,rfl⟩:=trodAll_nil r2;obtain rfl:args=#[v0,v1,v2]:=by cases args;simp_all
 obtain⟨rfl,rfl⟩:=trodVars_none hV;simp only[AkC,Rows.uptoBulkAll]at hk;obtain⟨a0,n0,c0,T0,rfl,hr0,Sz⟩:=AAt (AEB 0 22 v0 rfl rfl) h0 (by omega);obtain⟨a1,n1,c1,ss1,rfl,F1,hS1⟩:=AAu (AEB 1 23 v1 rfl rfl) h1 (by omega);obtain⟨x2,rfl,rfl,_,w2⟩:=open_int Go.Proofs.Tryz.underlying2 (AEB 2 2 v2 rfl rfl) h2;exact AKx (by kernel_rfl) rfl rfl ⟨rfl,rfl,rfl⟩ hW' (instants_spec nU (ATl hL hsh) hr0 F1 (qe Sz hS1) (Aaa Sz) (Aab hS1) (AK2 hS1) fun σ' hx=>⟨rfl,hx⟩)
theorem AK3:Go.Proofs.Tryz.checked.prog.inits.idxOf? 3=none:=by kernel_rfl
theorem witness (os:Os)(started:os.Started)(H:Type)(enc:TypeId×Value→H):∃(w:World) (tape:Tape) (i:Input),w.os=os∧(w.forCall tape i).Shaped Go.Proofs.Tryz.checked.prog∧i.vars=[]∧Input.okWide Go.Proofs.Tryz.checked.prog (w.forCall tape i) .any w.heap.size 3 i∧
  (Rows.OpenSpec.upto Rows.evalInstantsSpec).preRow enc Go.Proofs.Tryz.checked.prog f3 Rows.evalInstantsUptoRow.domain false Rows.evalInstantsUptoRow.laid (w.forCall tape i).memory i.args∧({}:Assume).holds Go.Proofs.Tryz.checked.prog (lone (Frame.enter Go.Proofs.Tryz.checked.prog 3 i.args .normal) [] (w.forCall tape i)):=by
 obtain⟨places,hx⟩:=reads os enc;exact witness_row_atRef (enc:=enc) (C:=Go.Proofs.Tryz.checked) false (Pk os) j2 rfl (wHv os) (wHr os) (Aac os)
  (OpenSpec.preRow_of_cond 8 hx (by as_aux_lemma=>kernel_rfl) (fun k hk=>by cases hk;as_aux_lemma=>kernel_rfl) (by as_aux_lemma=>kernel_rfl) (AAv os _))
theorem lifted (os:Os)(started:os.Started)(H:Type)(enc:TypeId×Value→H)(F:Stop.Interp):
  ReturnsInHanded {} Go.Proofs.Tryz.checked os 3 .any ((Rows.OpenSpec.upto Rows.evalInstantsSpec).preRow enc prog f3 Rows.evalInstantsUptoRow.domain false Rows.evalInstantsUptoRow.laid) (((Rows.OpenSpec.upto Rows.evalInstantsSpec).at F).post enc prog f3 false true false false):=by
 refine returnsInHanded_of_row (C:=Go.Proofs.Tryz.checked) (s:=Rows.OpenSpec.upto Rows.evalInstantsSpec) own started AK3 func3 (witness os started H enc) ?_;intro W base args ds gs before ATp hW _ ATq _ hL hsh _;exact AAz H enc W base args ds gs before ATp hW (AiP (ATq _ rfl)) hL hsh
end Go.Proofs.YtamakbhlhpaiiaaGreatDoor.evalInstants
end
