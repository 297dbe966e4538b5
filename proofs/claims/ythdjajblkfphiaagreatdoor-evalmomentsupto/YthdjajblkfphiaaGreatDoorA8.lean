/-
  Part 8 of the proof that the law EvalMomentsUptoCardSaid of the given program answers true for every input of the given statement; the input reads behind the call as it did. (The texts: packed from 3 texts. Names are shortened by the packing program, for the bound on size.)
-/
import Derived.Test.YthdjajblkfphiaaGreatDoorA7
import Derived.ChangeMaps5
set_option linter.all false
section
namespace TwW.Rw
open Go Tw TwW Go.ChangeShapes Go.WideShapes Go.ChangeAt Go.RowKit Go.Deep Go.Proofs.Tryz Go.Proofs.YthdjajblkfphiaaGreatDoor
noncomputable abbrev wV (os:Os)(args:Array Value):World:=(LX os).forCall (fun _ _=>0) ⟨#[],args,[]⟩
def w6 (P:Program)(w:World)(g:Nat):Bool:=
 match ((begin P (fun _ _=>0) default).world.heap[g]?).bind Obj.row? with
 | none=>true
 | some (zero,t)=>
  match w.heap[g]? with
  | some (.cells cs t' frozen)=>decide (t'=t)&&decide (frozen=(0,0))&&cs.size==zero.size&&(!P.buildable t||Row.okRefB P w t cs)
  | _=>false
theorem sZ {P:Program}{w:World}(h:∀g,g<P.globals.size→w6 P w g=true):w.variablesRefB P=true:=
 AXj.2 fun g hg=>h g (AY0.1 hg)
theorem fO {P:Program}{w:World}{t e:TypeId}{cs:Array Value}{n:Nat}(bm:P.cellTypes P.depth t=some (List.replicate n e))(hs:cs.size=n)(JF:(cs.toList.all fun v=>Cell.okRefB P w e v)=true):Row.okRefB P w t cs=true:=by
 unfold Row.okRefB;rw[bm];simp only[List.length_replicate,hs,Nat.mod_self,AWv,AYx,AXj,AY0,true_and];intro i hi;have Bj:i<cs.size:=by omega
 rw[AYQ Bj,Nat.mod_eq_of_lt hi,List.getElem?_replicate,AWl hi];exact AXj.1 JF _ (by simp)
theorem ig {P:Program}{w:World}{g n:Nat}{t e:TypeId}{cs:Array Value}(h0:(((begin P (fun _ _=>0) default).world.heap[g]?).bind Obj.row?).map (fun x=>(x.1.size,x.2))=some (n,t))(h1:w.heap[g]?=some (.cells cs t (0,0)))(hs:cs.size=n)(bm:P.cellTypes P.depth t=some (List.replicate n e))(JF:(cs.toList.all fun v=>Cell.okRefB P w e v)=true):w6 P w g=true:=by
 unfold w6;cases hb:((begin P (fun _ _=>0) default).world.heap[g]?).bind Obj.row? with
 | none=>rfl
 | some x=>
  obtain⟨zero,t'⟩:=x;rw[hb]at h0;simp only[AXT,AWp,AYG]at h0;obtain⟨h2,rfl⟩:=h0;simp only[h1,fO bm hs JF,hs,h2];simp
set_option maxRecDepth 1000000
theorem AKf (os:Os){args:Array Value}:((List.range 17).all fun g=>(g==10||g==11)||w6 prog (wV os args) g)=true:=by kernel_rfl
theorem AQC (os:Os){args:Array Value}:(wV os args).heap[10]?=some (.cells (fl2 Rows.laid_internal_strconv_pow10Tab).toArray 320 (0,0)):=by kernel_rfl
theorem AQD (os:Os){args:Array Value}:(wV os args).heap[11]?=some (.cells (lF Rows.laid_unicode_utf8_first).toArray 329 (0,0)):=by kernel_rfl
theorem z10:(((begin prog (fun _ _=>0) default).world.heap[10]?).bind Obj.row?).map (fun x=>(x.1.size,x.2))=some (1392,320):=by kernel_rfl
theorem z11:(((begin prog (fun _ _=>0) default).world.heap[11]?).bind Obj.row?).map (fun x=>(x.1.size,x.2))=some (256,329):=by kernel_rfl
theorem t10:prog.cellTypes prog.depth 320=some (List.replicate 1392 38):=by kernel_rfl
theorem t11:prog.cellTypes prog.depth 329=some (List.replicate 256 5):=by kernel_rfl
theorem s10:(fl2 Rows.laid_internal_strconv_pow10Tab).toArray.size=1392:=by kernel_rfl
theorem s11:(lF Rows.laid_unicode_utf8_first).toArray.size=256:=by kernel_rfl
theorem a10 (os:Os){args:Array Value}:((fl2 Rows.laid_internal_strconv_pow10Tab).toArray.toList.all fun v=>Cell.okRefB prog (wV os args) 38 v)=true:=by kernel_rfl
theorem a11 (os:Os){args:Array Value}:((lF Rows.laid_unicode_utf8_first).toArray.toList.all fun v=>Cell.okRefB prog (wV os args) 5 v)=true:=by kernel_rfl
theorem AQE (os:Os){args:Array Value}:(wV os args).variablesRefB prog=true:=sZ fun g hg=>by
 by_cases Y6:g=10
 ·subst Y6;exact ig z10 (AQC os) s10 t10 (a10 os)
 by_cases iE:g=11
 ·subst iE;exact ig z11 (AQD os) s11 t11 (a11 os)
 have h17:g<17:=hg;have:=AXj.1 (AKf os (args:=args)) g (AY0.2 h17);simpa[Y6,iE] using this
abbrev SrI (ss:List Sr):Prop:=bJ (fun s:Sr=>s.ls.length≤1048576∧s.ps.length≤1048576∧∀p∈s.ps,0≤p.2∧p.2<18446744073709551616) ss
end TwW.Rw
end
section
namespace TwW.Rw
open Go Tw TwW Go.Proofs.Tryz Go.Proofs.YthdjajblkfphiaaGreatDoor
abbrev NdI (T:List Nd):Prop:=bJ (fun x:Nd=>x.text.size≤1048576∧x.mt.length≤1048576∧x.names.length≤1048576) T
theorem iz {T:List Nd}{ss:List Sr}(hT:NdI T)(hS:SrI ss):Modest T ss:=
 ⟨AXD hT.2 (by decide),fun x hx=>AXD (hT.1 x hx).1 (by decide),AXD hS.2 (by decide),fun s hs=>AXD (hS.1 s hs).2.1 (by decide),fun s hs p hp=>((hS.1 s hs).2.2 p hp).1⟩
theorem AQF {T:List Nd}(hT:NdI T):TOk T:=⟨AXD hT.2 (by decide),fun x hx=>AXD (hT.1 x hx).2.1 (by decide),fun x hx=>AXD (hT.1 x hx).2.2 (by decide)⟩
theorem AQG {ss:List Sr}(hS:SrI ss):SOk ss:=⟨AXD hS.2 (by decide),fun s hs=>AXD (hS.1 s hs).1 (by decide),fun s hs=>AXD (hS.1 s hs).2.1 (by decide)⟩
end TwW.Rw
end
section
namespace Go.Proofs.YthdjajblkfphiaaGreatDoor.evalMoments
open Go Tw TwW TwW.Rw Go.ChangeShapes Go.WideShapes Go.ChangeAt Go.RowKit Go.Deep
open Go.Proofs.Tryz (f3 func3 params3)
abbrev bK:Array Value:=#[.slice none 0 0,.slice none 0 0,.int .i64 0,.int .i64 0,.int .i64 0]
noncomputable abbrev wW (os:Os):World:=(LX os).forCall (fun _ _=>0) ⟨#[],bK,[]⟩
set_option maxRecDepth 1000000
theorem wHr (os:Os):((wW os).heap.toList.drop prog.globals.size).take ((begin prog (fun _ _=>0) default).world.heap.size-prog.globals.size)=(begin prog (fun _ _=>0) default).world.heap.toList.drop prog.globals.size:=by kernel_rfl
theorem AQH (os:Os):Input.okWideB prog (wW os) 3 ⟨#[],bK,[]⟩=true:=by kernel_rfl
theorem wHv (os:Os):(wW os).variablesRefB prog=true:=AQE os (args:=bK)
theorem reads (os:Os){H:Type}(enc:TypeId×Value→H):∃places,DataW.whole enc prog (wW os).memory f3.params.toList Rows.evalMomentsSpec.vars false bK.toList 8=some ([.nil,.nil,.lit (.int .i64 0),.lit (.int .i64 0),.lit (.int .i64 0)],[],places):=
 ⟨[],by kernel_rfl⟩
theorem sa (H:Type)(enc:TypeId×Value→H)(W:World)(base:Nat)(args:Array Value)(ds gs:List (DataW H))(before:List MemPlace)
  (lI:∀(j:Nat) t v,f3.params[j]?=some t→args[j]?=some v→Value.okWide prog W .any base t v)
  (hW:DataW.Whole enc prog f3.params.toList Rows.evalMomentsSpec.vars false W args.toList ds gs before) (hk:Rows.uptoBulkAll (ds++gs)≤1048576) (hL:laidMetH prog Laid W) (hsh:W.ShapedOpen prog) :
  Calls prog 3 args W fun e W'=>∃v,e=.returned v∧Rows.evalMomentsSpec.post enc prog f3 false true false false W args v W':=by
 have hW':=hW;obtain⟨p,q,hA0,hV,rfl,hfz,UT⟩:=hW;have hA:DataW.TrodAll enc prog W 0 (fun _=>true) true f3.params.toList args.toList ds p:=hA0;rw[params3]at hA lI;obtain⟨v0,vs0,d0,ds0,p0,q0,Fs,rfl,rfl,h0,r0⟩:=trodAll_cons hA;obtain⟨v1,vs1,d1,ds1,p1,q1,rfl,rfl,rfl,h1,r1⟩:=trodAll_cons r0;obtain⟨v2,vs2,d2,ds2,p2,q2,rfl,rfl,rfl,h2,r2⟩:=trodAll_cons r1;obtain⟨v3,vs3,d3,ds3,p3,q3,rfl,rfl,rfl,h3,r3⟩:=trodAll_cons r2;obtain⟨v4,vs4,d4,ds4,p4,q4,rfl,rfl,rfl,h4,r4⟩:=trodAll_cons r3;obtain⟨rfl,rfl,rfl⟩:=trodAll_nil r4;obtain rfl:args=#[v0,v1,v2,v3,v4]:=by cases args;simp_all
 obtain⟨rfl,rfl⟩:=trodVars_none hV;simp only[AYC,Rows.uptoBulkAll]at hk;obtain⟨a0,n0,c0,T0,rfl,hr0,eh⟩:=sT (lI 0 22 v0 rfl rfl) h0 (by omega);obtain⟨a1,n1,c1,ss1,rfl,Gi,hS1⟩:=sU (lI 1 23 v1 rfl rfl) h1 (by omega);obtain⟨x2,rfl,rfl,_,w2⟩:=open_int Go.Proofs.Tryz.underlying2 (lI 2 2 v2 rfl rfl) h2;obtain⟨x3,rfl,rfl,_,w3⟩:=open_int Go.Proofs.Tryz.underlying3 (lI 3 3 v3 rfl rfl) h3;obtain⟨x4,rfl,rfl,_,w4⟩:=open_int Go.Proofs.Tryz.underlying2 (lI 4 2 v4 rfl rfl) h4;exact ADH (by kernel_rfl) rfl rfl ⟨rfl,rfl,rfl⟩ hW' (XX (r8 AP1) (AKc hL hsh) hr0 Gi (iz eh hS1) (AQF eh) (AQG hS1) hS1.2 fun σ' hx=>⟨rfl,hx⟩)
theorem ADM:Go.Proofs.Tryz.checked.prog.inits.idxOf? 3=none:=by kernel_rfl
theorem witness (os:Os)(started:os.Started)(H:Type)(enc:TypeId×Value→H):∃(w:World) (tape:Tape) (i:Input),w.os=os∧(w.forCall tape i).Shaped Go.Proofs.Tryz.checked.prog∧i.vars=[]∧Input.okWide Go.Proofs.Tryz.checked.prog (w.forCall tape i) .any w.heap.size 3 i∧
  (Rows.OpenSpec.upto Rows.evalMomentsSpec).preRow enc Go.Proofs.Tryz.checked.prog f3 Rows.evalMomentsUptoRow.domain false Rows.evalMomentsUptoRow.laid (w.forCall tape i).memory i.args∧({}:Assume).holds Go.Proofs.Tryz.checked.prog (lone (Frame.enter Go.Proofs.Tryz.checked.prog 3 i.args .normal) [] (w.forCall tape i)):=by
 obtain⟨places,hx⟩:=reads os enc;exact witness_row_atRef (enc:=enc) (C:=Go.Proofs.Tryz.checked) false (LX os) bK rfl (wHv os) (wHr os) (AQH os)
  (OpenSpec.preRow_of_cond 8 hx (by as_aux_lemma=>kernel_rfl) (fun k hk=>by cases hk;as_aux_lemma=>kernel_rfl) (by as_aux_lemma=>kernel_rfl) (sV os _))
theorem lifted (os:Os)(started:os.Started)(H:Type)(enc:TypeId×Value→H)(F:Stop.Interp):
  ReturnsInHanded {} Go.Proofs.Tryz.checked os 3 .any ((Rows.OpenSpec.upto Rows.evalMomentsSpec).preRow enc prog f3 Rows.evalMomentsUptoRow.domain false Rows.evalMomentsUptoRow.laid) (((Rows.OpenSpec.upto Rows.evalMomentsSpec).at F).post enc prog f3 false true false false):=by
 refine returnsInHanded_of_row (C:=Go.Proofs.Tryz.checked) (s:=Rows.OpenSpec.upto Rows.evalMomentsSpec) own started ADM func3 (witness os started H enc) ?_;intro W base args ds gs before AKg hW _ AKh _ hL hsh _;exact sa H enc W base args ds gs before AKg hW (AWr (AKh _ rfl)) hL hsh
end Go.Proofs.YthdjajblkfphiaaGreatDoor.evalMoments
end
