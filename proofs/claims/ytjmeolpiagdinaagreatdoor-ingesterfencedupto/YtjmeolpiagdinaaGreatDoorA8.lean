/-
  Part 8 of the proof that the law IngesterFencedUptoCardSaid of the given program answers true for every input of the given statement; the input reads behind the call as it did. (The texts: packed from 3 texts. Names are shortened by the packing program, for the bound on size.)
-/
import Derived.Test.YtjmeolpiagdinaaGreatDoorA7
import Derived.Deep.DeepWitnessRowRef
import Derived.Deep.DeepLaidRun
import Derived.Lib.LaidTab
set_option linter.all false
section
namespace TwW.Rw
open Go TwW Go.Proofs.Tryz Go.Proofs.YtjmeolpiagdinaaGreatDoor
def fl0:DataW Unit->List Value
 | .lit (.int k z)=>[.int k z]
 | .lit (.bool b)=>[.bool b]
 | .lit (.float k b)=>[.float k b]
 | .lit (.string s)=>[.string ⟨s.toArray⟩]
 | _=>[]
def fl1:DataW Unit->List Value
 | .agg l=>l.flatMap fl0
 | x=>fl0 x
def fl2:DataW Unit->List Value
 | .agg l=>l.flatMap fl1
 | x=>fl0 x
def fls:DataW Unit->List Value
 | .slice l _=>l.flatMap fl1
 | .iface _ (.ptr d)=>fl1 d
 | _=>[]
noncomputable def SC (os:Os):World:=
 let N:=(World.settled prog os).heap.size
 let A (x:DataW Unit) (t:TypeId):Obj:=.cells (fls x).toArray t (0,0)
 let G:=World.holding prog os ⟨#[A Rows.laid_strconv_ErrSyntax 377,A Rows.laid_strconv_ErrRange 377],#[],[]⟩
 let put (h:Array Obj) (g:Nat) (cs:List Value):Array Obj:=h.modify g fun
  | .cells _ t frozen=>.cells cs.toArray t frozen
  | o=>o
 let h1:=put (put G.heap 1 [.iface 375 (.pointer (some ⟨N,0,none⟩))]) 2 [.iface 375 (.pointer (some ⟨N+1,0,none⟩))]
 let h4:=put (put (put h1 3 (fl1 Rows.laid_internal_strconv_uint64pow10)) 4 (fl1 Rows.laid_unicode_utf8_first)) 5 (fl2 Rows.laid_unicode_utf8_acceptRanges)
 { G with heap:=put (put h4 6 (fl1 Rows.laid_math_bits_deBruijn32tab)) 7 (fl1 Rows.laid_math_bits_deBruijn64tab) }
abbrev Laid:List (String×DataW Unit):=Rows.ingesterFencedUptoRow.laid
noncomputable abbrev LW (os:Os)(args:Array Value):World:=((SC os).forCall (λ_ _=>0) ⟨#[],args,[]⟩).memory
set_option maxRecDepth 1000000
theorem AVH (os:Os)(args:Array Value):(DataW.laidRun prog (LW os args) 8 (Laid.map (·.1))).map (·.1)=some Laid:=by kernel_rfl
noncomputable def LBk (os:Os):List (Nat×Nat):=
 let N:=(World.settled prog os).heap.size
 [(6,32),(7,64),(3,20),(5,32),(2,1),(N+1,1),(1,1),(N,1),(4,256)]
theorem AVI (os:Os)(args:Array Value):(DataW.laidRun prog (LW os args) 8 (Laid.map (·.1))).map (·.2)=some ((LBk os).flatMap λx=>MemPlace.row ⟨x.1,0,none⟩ x.2):=by kernel_rfl
theorem AG2 (os:Os):nodupB ((LBk os).map Prod.fst)=true:=by kernel_rfl
theorem AG3 (os:Os)(args:Array Value):((LBk os).all λx=>laidB prog (LW os args) x.1)=true:=by kernel_rfl
theorem xP (os:Os)(args:Array Value):laidMet prog Laid (LW os args):=ax 8 (LBk os) (AVH os args) (AVI os args) (nodup_of_nodupB (AG2 os)) (λx A=>Afu.1 (AG3 os args) x A)
end TwW.Rw
end
section
namespace TwW.Rw
open Go Tw TwW Go.RowKit Go.Deep Go.Proofs.Tryz Go.Proofs.YtjmeolpiagdinaaGreatDoor
theorem Ck {a b:Bool}(A:a=true)(G:b=true):(a&&b)=true:=by rw[A,G];rfl
theorem ANh:mapsRowed prog=true:=by kernel_rfl
theorem heard:prog.stopsHeard=true:=by kernel_rfl
theorem enters:prog.mayEnter=true:=by kernel_rfl
theorem AG4:(prog.stops==[])=true:=by kernel_rfl
theorem AG5:(prog.stopKnobs==[])=true:=by kernel_rfl
theorem ANi:(Rows.ingesterFencedRow.lifted==prog.liftsFinal)=true:=by kernel_rfl
theorem keys:(Rows.ingesterFencedRow.plainKeys==prog.plainKeys)=true:=by kernel_rfl
theorem makes:(prog.make==some Rows.ingesterFencedRow.make)=true:=by kernel_rfl
theorem xQ {W : World} {cs : Array Value} (h : W.var? prog "internal/strconv.uint64pow10" = some cs) : ∃ T fr,W.heap[3]? = some (.cells cs T fr) := by
 unfold World.var? at h
 rw [show prog.globalNamed "internal/strconv.uint64pow10" = some 3 by kernel_rfl] at h
 simp only [Ahj] at h
 split at h
 · rename_i c T fr hc
   cases h
   exact ⟨T,fr,hc⟩
 · cases h
theorem ADa {W : World} (h : laidMetH prog Laid W) (hs : W.ShapedOpen prog) : Tb (full W) /\ Gm (full W) := by
 have h1 : laidMet prog Laid W := by
   rw [MakeChecks.laidMetH_plain _ _ _ (by kernel_rfl)] at h
   exact h
 have h2 : laidMet prog (("internal/strconv.uint64pow10",Lib.tabData .u64 Lib.pow10Tab) :: [("unicode/utf8.acceptRanges",Rows.laid_unicode_utf8_acceptRanges),("strconv.ErrRange",Rows.laid_strconv_ErrRange),("strconv.ErrSyntax",Rows.laid_strconv_ErrSyntax),("unicode/utf8.first",Rows.laid_unicode_utf8_first)]) W := laidMet.tail (laidMet.tail h1)
 have h3 := Lib.tabIs_of_head (g := 3) (t := 386) (e := 23) (n := 20) (by kernel_rfl) (by kernel_rfl) underlying386 underlying23 (by kernel_rfl) (by kernel_rfl) h2
 obtain ⟨T,fr,h4⟩ := xQ h3
 exact ⟨⟨3,T,fr,by kernel_rfl,h4⟩,let ⟨m,hm⟩ := Go.Proofs.cell_of_shapedOpen_int (g := 0) (zero := #[.int .i64 0]) (t := 3) hs (AfS (by kernel_rfl)) (by kernel_rfl) rfl (by kernel_rfl) (by kernel_rfl) underlying3; ⟨m,lG hm⟩⟩
end TwW.Rw
end
section
namespace Go.Proofs.YtjmeolpiagdinaaGreatDoor.ingesterFenced
open Go Tw TwW TwW.Rw Go.ChangeShapes Go.WideShapes Go.ChangeAt Go.RowKit Go.Deep
open Go.Proofs.Tryz (f3 func3 params3)
abbrev nO:Array Value:=#[.slice none 0 0,.int .u64 0,.int .u64 0,.int .i64 0]
noncomputable abbrev wW (os:Os):World:=(SC os).forCall (λ_ _=>0) ⟨#[],nO,[]⟩
set_option maxRecDepth 1000000
theorem wHr (os:Os):((wW os).heap.toList.drop prog.globals.size).take ((begin prog (λ_ _=>0) default).world.heap.size-prog.globals.size)=(begin prog (λ_ _=>0) default).world.heap.toList.drop prog.globals.size:=by kernel_rfl
theorem AVJ (os:Os):Input.okWideB prog (wW os) 3 ⟨#[],nO,[]⟩=true:=by kernel_rfl
theorem wHv (os:Os):(wW os).variablesRefB prog=true:=by kernel_rfl
theorem reads (os:Os){H:Type}(enc:TypeId×Value->H):∃A,DataW.whole enc prog (wW os).memory f3.params.toList Rows.ingesterFencedSpec.vars false nO.toList 8=some ([.nil,.lit (.int .u64 0),.lit (.int .u64 0),.lit (.int .i64 0)],[],A):=
 ⟨[],by kernel_rfl⟩
theorem xR (H:Type)(enc:TypeId×Value->H)(W:World)(base:Nat)(args:Array Value)(ds gs:List (DataW H))(A:List MemPlace)
  (G:∀(j:Nat) t v,f3.params[j]?=some t->args[j]?=some v->Value.okWide prog W .any base t v)
  (hW:DataW.Whole enc prog f3.params.toList Rows.ingesterFencedSpec.vars false W args.toList ds gs A) (hk:Rows.uptoBulkAll (ds++gs)<=1048576) (hL:laidMetH prog Laid W) (Ig:W.ShapedOpen prog) :
  Calls prog 3 args W λe W'=>∃v,e=.returned v/\Rows.ingesterFencedSpec.post enc prog f3 false true false false W args v W':=by
 have hW':=hW;obtain⟨p,q,hA0,hV,rfl,hfz,LZ⟩:=hW;have hA:DataW.TrodAll enc prog W 0 (λ_=>true) true f3.params.toList args.toList ds p:=hA0;rw[params3]at hA G;obtain⟨v0,vs0,d0,ds0,p0,q0,HY,rfl,rfl,h0,r0⟩:=trodAll_cons hA;obtain⟨v1,vs1,d1,ds1,p1,q1,rfl,rfl,rfl,h1,r1⟩:=trodAll_cons r0;obtain⟨v2,vs2,d2,ds2,p2,q2,rfl,rfl,rfl,h2,r2⟩:=trodAll_cons r1;obtain⟨v3,vs3,d3,ds3,p3,q3,rfl,rfl,rfl,h3,r3⟩:=trodAll_cons r2;obtain⟨rfl,rfl,rfl⟩:=trodAll_nil r3;obtain rfl:args=#[v0,v1,v2,v3]:=by cases args;simp_all
 obtain⟨rfl,rfl⟩:=trodVars_none hV;simp only[AfG,Rows.uptoBulkAll]at hk;obtain⟨pa,na,ca,ss,rfl,hr,hI,hn⟩:=xO (G 0 22 v0 rfl rfl) h0 (by omega);obtain⟨x1,rfl,rfl,_,w1⟩:=open_int Go.Proofs.Tryz.underlying23 (G 1 23 v1 rfl rfl) h1;obtain⟨x2,rfl,rfl,_,w2⟩:=open_int Go.Proofs.Tryz.underlying23 (G 2 23 v2 rfl rfl) h2;obtain⟨x3,rfl,rfl,_,w3⟩:=open_int Go.Proofs.Tryz.underlying3 (G 3 3 v3 rfl rfl) h3;have hln:ss.length=na:=hr.1;have z1:0<=x1:=by simp[Lit.wf,IntKind.min,IntKind.max,IntKind.signed,IntKind.bits]at w1;exact w1.1
 have z2:0<=x2:=by simp[Lit.wf,IntKind.min,IntKind.max,IntKind.signed,IntKind.bits]at w2;exact w2.1
 exact AG0 (by kernel_rfl) rfl rfl ⟨rfl,rfl,rfl⟩ hW' (fw (ADa hL Ig).1 (ADa hL Ig).2 hr (by omega) (λs hs=>AfU (hI s hs).1.2 (by decide)) (λs hs=>AGy (hI s hs).1) (λs hs=>(hI s hs).2) z1 z2 λZ'2 hx=>⟨rfl,hx⟩)
theorem AG6:Go.Proofs.Tryz.checked.prog.inits.idxOf? 3=none:=by kernel_rfl
theorem witness (os:Os)(G:os.Started)(H:Type)(enc:TypeId×Value->H):∃(w:World) (A:Tape) (i:Input),w.os=os/\(w.forCall A i).Shaped Go.Proofs.Tryz.checked.prog/\i.vars=[]/\Input.okWide Go.Proofs.Tryz.checked.prog (w.forCall A i) .any w.heap.size 3 i/\
  (Rows.OpenSpec.upto Rows.ingesterFencedSpec).preRow enc Go.Proofs.Tryz.checked.prog f3 Rows.ingesterFencedUptoRow.domain false Rows.ingesterFencedUptoRow.laid (w.forCall A i).memory i.args/\({}:Assume).holds Go.Proofs.Tryz.checked.prog (lone (Frame.enter Go.Proofs.Tryz.checked.prog 3 i.args .normal) [] (w.forCall A i)):=by
 obtain⟨places,hx⟩:=reads os enc;exact witness_row_atRef (enc:=enc) (C:=Go.Proofs.Tryz.checked) false (SC os) nO rfl (wHv os) (wHr os) (AVJ os)
  (OpenSpec.preRow_of_cond 8 hx (by as_aux_lemma=>kernel_rfl) (λk hk=>by cases hk;as_aux_lemma=>kernel_rfl) (by as_aux_lemma=>kernel_rfl) (xP os _))
theorem lifted (os:Os)(A:os.Started)(H:Type)(enc:TypeId×Value->H)(F:Stop.Interp):
  ReturnsInHanded {} Go.Proofs.Tryz.checked os 3 .any ((Rows.OpenSpec.upto Rows.ingesterFencedSpec).preRow enc prog f3 Rows.ingesterFencedUptoRow.domain false Rows.ingesterFencedUptoRow.laid) (((Rows.OpenSpec.upto Rows.ingesterFencedSpec).at F).post enc prog f3 false true false false):=by
 refine returnsInHanded_of_row (C:=Go.Proofs.Tryz.checked) (s:=Rows.OpenSpec.upto Rows.ingesterFencedSpec) own A AG6 func3 (witness os A H enc) ?_;intro W base args ds gs G ANj hW _ ANk _ hL Ig _;exact xR H enc W base args ds gs G ANj hW (AfS (ANk _ rfl)) hL Ig
end Go.Proofs.YtjmeolpiagdinaaGreatDoor.ingesterFenced
end
