/-
  Part 7 of the proof that the law QuerierOrderUptoCardSaid of the given program answers true for every input of the given statement; the input reads behind the call as it did. (The texts: packed from 30 texts. Names are shortened by the packing program, for the bound on size.)
-/
import Derived.Test.YtdlkodiemlmmiaaGreatDoorA6
import Derived.ChangeMaps5
import Derived.Laws.FloatBits
import Ieee.Arith
set_option linter.all false
section
namespace TwW.Rw
open Go Tw TwW Go.ChangeShapes Go.WideShapes Go.ChangeAt Go.RowKit Go.Deep Go.Proofs.Tryz Go.Proofs.YtdlkodiemlmmiaaGreatDoor
noncomputable abbrev wV (os:Os)(args:Array Value):World:=(QC os).forCall (λ_ _=>0) ⟨#[],args,[]⟩
def AF0 (P:Program)(w:World)(g:Nat):Bool:=
 match ((begin P (λ_ _=>0) default).world.heap[g]?).bind Obj.row? with
 | none=>true
 | some (zero,t)=>
  match w.heap[g]? with
  | some (.cells cs G frozen)=>decide (G=t)&&decide (frozen=(0,0))&&cs.size==zero.size&&(!P.buildable t||Row.okRefB P w t cs)
  | _=>false
theorem ACb {P:Program}{w:World}(h:∀g,g<P.globals.size->AF0 P w g=true):w.variablesRefB P=true:=
 Akk.2 λg G=>h g (AlK.1 G)
theorem qK {P:Program}{w:World}{t e:TypeId}{cs:Array Value}{n:Nat}(iA:P.cellTypes P.depth t=some (List.replicate n e))(hs:cs.size=n)(Mg:(cs.toList.all λv=>Cell.okRefB P w e v)=true):Row.okRefB P w t cs=true:=by
 unfold Row.okRefB;rw[iA];simp only[List.length_replicate,hs,Nat.mod_self,Ajz,AmL,Akk,AlK,true_and];intro i hi;have G:i<cs.size:=by omega
 rw[AlD G,Nat.mod_eq_of_lt hi,List.getElem?_replicate,Ajl hi];exact Akk.1 Mg _ (by simp)
theorem tU {P:Program}{w:World}{g n:Nat}{t e:TypeId}{cs:Array Value}(G:(((begin P (λ_ _=>0) default).world.heap[g]?).bind Obj.row?).map (λx=>(x.1.size,x.2))=some (n,t))(h1:w.heap[g]?=some (.cells cs t (0,0)))(hs:cs.size=n)(iA:P.cellTypes P.depth t=some (List.replicate n e))(Mg:(cs.toList.all λv=>Cell.okRefB P w e v)=true):AF0 P w g=true:=by
 unfold AF0;cases hb:((begin P (λ_ _=>0) default).world.heap[g]?).bind Obj.row? with
 | none=>rfl
 | some x=>
  obtain⟨zero,t'⟩:=x;rw[hb]at G;simp only[Aki,Ajv,Akh]at G;obtain⟨h2,rfl⟩:=G;simp only[h1,qK iA hs Mg,hs,h2];simp
set_option maxRecDepth 1000000
theorem AUc (os:Os){args:Array Value}:((List.range 17).all λg=>(g==10||g==11)||AF0 prog (wV os args) g)=true:=by kernel_rfl
theorem AbO (os:Os){args:Array Value}:(wV os args).heap[10]?=some (.cells (fl2 Rows.laid_internal_strconv_pow10Tab).toArray 391 (0,0)):=by kernel_rfl
theorem AbP (os:Os){args:Array Value}:(wV os args).heap[11]?=some (.cells (w7 Rows.laid_unicode_utf8_first).toArray 400 (0,0)):=by kernel_rfl
theorem z10:(((begin prog (λ_ _=>0) default).world.heap[10]?).bind Obj.row?).map (λx=>(x.1.size,x.2))=some (1392,391):=by kernel_rfl
theorem z11:(((begin prog (λ_ _=>0) default).world.heap[11]?).bind Obj.row?).map (λx=>(x.1.size,x.2))=some (256,400):=by kernel_rfl
theorem t10:prog.cellTypes prog.depth 391=some (List.replicate 1392 27):=by kernel_rfl
theorem t11:prog.cellTypes prog.depth 400=some (List.replicate 256 5):=by kernel_rfl
theorem s10:(fl2 Rows.laid_internal_strconv_pow10Tab).toArray.size=1392:=by kernel_rfl
theorem s11:(w7 Rows.laid_unicode_utf8_first).toArray.size=256:=by kernel_rfl
theorem pL (os:Os){args:Array Value}:((fl2 Rows.laid_internal_strconv_pow10Tab).toArray.toList.all λv=>Cell.okRefB prog (wV os args) 27 v)=true:=by kernel_rfl
theorem a11 (os:Os){args:Array Value}:((w7 Rows.laid_unicode_utf8_first).toArray.toList.all λv=>Cell.okRefB prog (wV os args) 5 v)=true:=by kernel_rfl
theorem AbQ (os:Os){args:Array Value}:(wV os args).variablesRefB prog=true:=ACb λg hg=>by
 by_cases MX:g=10
 .subst MX;exact tU z10 (AbO os) s10 t10 (pL os)
 by_cases G:g=11
 .subst G;exact tU z11 (AbP os) s11 t11 (a11 os)
 have h17:g<17:=hg;have:=Akk.1 (AUc os (args:=args)) g (AlK.2 h17);simpa[MX,G] using this
end TwW.Rw
end
section
namespace iN
open Go Go.MapKept Tw
variable [GO]
section
variable {P:Program}{Z22:Hp}{ik:IntKind}
class MpJ (P:Program)(T:TypeId)(ik:outParam IntKind)(K V:outParam TypeId):Prop where
 U1:P.underlying T=some (.map K V)
 key:P.underlying K=some (.int ik)
def Az (ik:IntKind)(Z22:Hp)(b:Nat)(l:List MapEntry)(clock:Nat):Prop:=Z22 b=some (.map l.toArray clock)/\Stamped l.toArray clock/\∀x∈l,IsKey (.int ik) x.key
theorem Az.loc {Z22 Z':Hp}{b:Nat}{l:List MapEntry}{clock:Nat}(h:Az ik Z22 b l clock)(G:Z' b=Z22 b):Az ik Z' b l clock:=⟨G.trans h.1,h.2⟩
theorem Az.nodup {Z22:Hp}{b:Nat}{l:List MapEntry}{clock:Nat}(h:Az ik Z22 b l clock):(l.map (·.key)).Nodup:=h.2.1.2.2
theorem Az.AIr {Z22:Hp}{b:Nat}{l:List MapEntry}{clock:Nat}(h:Az ik Z22 b l clock):(l.map (·.born)).Nodup:=h.2.1.2.1
theorem DE {s:Int}{l:List MapEntry}(hk:∀x∈l,IsKey (.int ik) x.key):
  (Instr.findNow (.int ik) (.int ik s) l 0=some none/\∀x∈l,x.key≠.int ik s)\/∃G e l2,l=G++e::l2/\e.key=.int ik s/\Instr.findNow (.int ik) (.int ik s) l 0=some (some (G.length,e.val)):=by
 rcases findNow_spec (d:=.int ik) (k:=.int ik s) rfl l 0 hk with h|⟨j,e,h1,h2,h3⟩
 .exact .inl h
 .obtain⟨hj,rfl⟩:=Ajn.1 h2;refine .inr ⟨l.take j,l[j],l.drop (j+1),?_,h3,?_⟩
  .rw[Alm,Aks]
  .rw[h1];simp[Alz (AnJ hj)]
section
variable {T K V ty:TypeId}{b clock:Nat}{l:List MapEntry}{s:Int}
theorem Az.fresh {b:Nat}{Z22:Hp}:Az ik (Z22.set b (.map #[] 0)) b [] 0:=⟨Hp.AA _ _ _,stamped_empty 0,by simp⟩
theorem Kg [t:MpJ P T ik K V](hm:Az ik Z22 b l clock){z:Value}(hz:∀w,(zeroValue V).run P w=.ok z w){Q:Value->Prop}
  (h0:(∀x∈l,x.key≠.int ik s)->Q z) (h1:∀l1 e l2,l=l1++e::l2->e.key=.int ik s->Q e.val):∃v,Q v/\YF P (Instr.lookup T (.map (some b)) (.int ik s) false) Z22 v:=by
 rcases DE (s:=s) hm.2.2 with ⟨G,hn⟩|⟨l1,e,l2,hl,he,G⟩
 .refine⟨z,h0 hn,λw hs=>?_⟩;have:=hs _ _ hm.1;simp[Instr.lookup,run_underlying t.U1,run_getObj_map this,run_checkKey t.key (k:=.int ik s) rfl,run_findKey t.key G,hz,Result.andThen]
 .refine⟨e.val,h1 l1 e l2 hl he,λw hs=>?_⟩;have:=hs _ _ hm.1;simp[Instr.lookup,run_underlying t.U1,run_getObj_map this,run_checkKey t.key (k:=.int ik s) rfl,run_findKey t.key G,Result.andThen]
theorem Lr [t:MpJ P T ik K V](hm:Az ik Z22 b l clock){z:Value}(hz:∀w,(zeroValue V).run P w=.ok z w){Φ:Value->Hp->Prop}
  (G:(∀x∈l,x.key≠.int ik s)->Φ z Z22) (h1:∀l1 e l2,l=l1++e::l2->e.key=.int ik s->Φ e.val Z22):AI P (Instr.lookup T (.map (some b)) (.int ik s) false) Z22 Φ:=by
 obtain⟨v,hq,hy⟩:=Kg (T:=T) (K:=K) (s:=s) (Q:=λv=>Φ v Z22) hm hz G h1;exact AI.pu hy hq
theorem pN [t:MpJ P T ik K V](hm:Az ik Z22 b l clock):YF P (Builtin.len_ #[T] ty #[.map (some b)]) Z22 (.int .i64 l.length):=λw G=>by
 have:=G _ _ hm.1;simp[Builtin.len_,run_underlying t.U1,run_getObj_map this,goInt,Result.andThen]
abbrev LN (ik:IntKind)(s:Int)(v:Value)(n:Nat):MapEntry:={ key:=.int ik s,val:=v,born:=n }
theorem FZ [t:MpJ P T ik K V](hm:Az ik Z22 b l clock){v:Value}{Φ:Unit->Hp->Prop}
  (h0:(∀x∈l,x.key≠.int ik s)->∀Z',Z'=Z22.set b (.map (l++[LN ik s v clock]).toArray (clock+1))->Az ik Z' b (l++[LN ik s v clock]) (clock+1)->Φ () Z')
  (h1:∀G e l2,l=G++e::l2->e.key=.int ik s->∀Z',Z'=Z22.set b (.map (G++LN ik s v e.born::l2).toArray clock)->Az ik Z' b (G++LN ik s v e.born::l2) clock->Φ () Z') :
  AI P (Instr.mapUpdate T (.map (some b)) (.int ik s) v) Z22 Φ:=by
 obtain⟨hb,CA,hk⟩:=hm;rcases DE (s:=s) hk with ⟨hf,hn⟩|⟨G,e,l2,hl,he,hf⟩
 .have Uc:(l++[LN ik s v clock]).toArray=l.toArray.push (LN ik s v clock):=by simp
  refine AI.obj (v:=()) (o':=.map (l++[LN ik s v clock]).toArray (clock+1)) hb (λw hs=>⟨w,.inl rfl,?_⟩) (h0 hn _ rfl ⟨Hp.AA _ _ _,?_,?_⟩)
  .have:=hs _ _ hb;rw[Uc];simp only[Instr.mapUpdate,Sem.run_bind,run_underlying t.U1,run_getObj_map this,run_checkKey t.key (k:=.int ik s) rfl,run_findKey t.key hf,Result.andThen_ok];simp[setObj,Sem.run,this,ChangeMaps.setBlock]
  .rw[Uc];exact stamped_push CA (by simpa using hn)
  .intro x hx;rcases AkH.1 hx with hx|hx
   .exact hk x hx
   .rw[Ajp]at hx;subst hx;rfl
 .subst hl;have kW:(G++LN ik s v e.born::l2).toArray=(G++e::l2).toArray.modify G.length (λe=>{ e with key:=.int ik s,val:=v }):=by
   rw[<-AkD];apply Akv
   intro j;simp only[AkQ,AlJ,Als];by_cases hj:G.length=j
   .subst hj;simp
   .rw[Ajj hj];rcases Alc j G.length with h|h
    .rw[AkJ h,AkJ h]
    .have:∃k,j=G.length+(k+1):=⟨j-G.length-1,by omega⟩;obtain⟨k,rfl⟩:=this;simp[Akf]
  have RU:(G++e::l2).toArray[G.length]?=some e:=by simp
  refine AI.obj (v:=()) (o':=.map (G++LN ik s v e.born::l2).toArray clock) hb (λw hs=>⟨w,.inl rfl,?_⟩) (h1 G e l2 rfl he _ rfl ⟨Hp.AA _ _ _,?_,?_⟩)
  .have:=hs _ _ hb;rw[kW];simp only[Instr.mapUpdate,Sem.run_bind,run_underlying t.U1,run_getObj_map this,run_checkKey t.key (k:=.int ik s) rfl,run_findKey t.key hf,Result.andThen_ok,RU,Aki,Ak6,he,
    run_keyThatStays (d:=.int ik) (k:=.int ik s) rfl]
   simp[setObj,Sem.run,this,ChangeMaps.setBlock]
  .rw[kW];exact stamped_modify CA _ _ (λ_ _=>rfl) (λe' _ VJ=>by rw[RU]at VJ;cases VJ;exact he.symm)
  .intro x hx;rcases AkH.1 hx with hx|hx
   .exact hk x (Aky _ hx)
   .rcases Ajo.1 hx with rfl|hx
    .rfl
    .exact hk x (AlX _ (Ajm _ hx))
theorem P4 [t:MpJ P T ik K V](hm:Az ik Z22 b l clock){Φ:Value->Hp->Prop}(h:∀i o,Z22 i=none->I8 (Z22.set i o) i b l l clock->Φ (.pointer (some ⟨i,0,none⟩)) (Z22.set i o)):AI P (Instr.range T (.map (some b))) Z22 Φ:=
 AI.new (v:=λi=>.pointer (some ⟨i,0,none⟩)) (o:=.mapIter (some b) clock #[] clock) (λw G=>by
  have:=G _ _ hm.1;simp[Instr.range,run_underlying t.U1,run_getObj_map this,Result.andThen]) λi hi=>h i _ hi ⟨#[],clock,Hp.AA _ _ _,Ajt _,by simp[leftOf,Alf.2]⟩
theorem Kh (hm:Az ik Z22 b l clock){i:Nat}{L:List MapEntry}(hi:I8 Z22 i b l L clock){Φ:Value->Hp->Prop}
  (h0:L=[]->Φ (.tuple #[.bool false]) Z22)
  (h1:∀e∈L,e∈l->∀o,(∀O2,O2 i=some o->I8 O2 i b l (L.filter λx=>x.born != e.born) clock)->
   (∀O2,O2 i=some o->O2 b=Z22 b->∀{Ψ:Value->Hp->Prop},Ψ (.tuple #[e.key,e.val]) O2->AI P (Instr.entry (.pointer (some ⟨i,0,none⟩))) O2 Ψ)->Φ (.tuple #[.bool true,e.key,e.val]) (Z22.set i o)) :
  AI P (Instr.next (.pointer (some ⟨i,0,none⟩)) false ty) Z22 Φ:=by
 obtain⟨seen,c0,hi,hc,rfl⟩:=hi;obtain⟨hb,CA,G⟩:=hm;have hold:∀x∈l.toArray.toList,x.born<clock:=CA.1;intro w F hs hF;rcases run_next_at (P:=P) w ty i b clock c0 seen l.toArray clock (hs _ _ hi) (hs _ _ hb) hold hc with ⟨h,CG⟩|⟨e,he,w1,av,CG⟩
 .exact⟨_,w,Z22,CG,h0 (Aj8 (by simpa using h)),hs,λk G=>⟨(hF k G).2,rfl⟩,.same rfl rfl rfl,rfl,Ajt _⟩
 .have yJ:=(mem_left he).1;have h2:=h1 e he (by simpa using yJ) (.mapIter (some b) clock (seen.push e.born) clock) (λO2 hτ=>⟨_,_,hτ,Ajt _,Tn.symm⟩) (λO2 hτ ABc Ψ hΨ=>AI.pu (λw' Ms=>run_entry_at w' i b clock seen l.toArray clock e (Ms _ _ hτ) (Ms _ _ (ABc.trans hb)) yJ CA.2.1) hΨ);have Ax:i<w.heap.size:=(Aj2.1 (hs _ _ hi)).1;have FJ:w1.heap=w.heap:=by rcases av with rfl|rfl<;>rfl
  refine⟨_,_,_,CG,h2,λk u G=>?_,λk G=>?_,?_,?_,?_⟩
  .simp only[ChangeMaps.setBlock,FJ];by_cases FM:k=i
   .subst FM;rw[Hp.AA]at G;cases G;simp[Ax]
   .rw[Hp.AB FM]at G;simp[Aj4 FM,hs k u G]
  .have FM:k≠i:=λe=>by have:=(hF k G).2;rw[e,hi]at this;cases this
   refine⟨by rw[Hp.AB FM];exact(hF k G).2,?_⟩;simp[ChangeMaps.setBlock,FJ,Aj4 FM]
  .rcases av with rfl|rfl
   .exact .same rfl rfl rfl
   .exact⟨rfl,rfl,λ_=>⟨1,rfl⟩⟩
  .rcases av with rfl|rfl<;>rfl
  .simp[ChangeMaps.setBlock,FJ]
end
end
end iN
end
section
namespace TwW
open Go Go.MapKept Tw
variable [GO]
theorem iK {x:Int}(h:-1000<=x/\x<=1000):AL x:=by unfold AL;omega
theorem A2.left {Z22:Hp}{b o:Nat}{l m:List Value}(h:A2 Z22 b o (l++m)):A2 Z22 b o l:=by
 have:=A2.part (i:=0) (m:=l.length) h;simpa using this
def Rc (ik:IntKind)(p:Int×Int):Value×Value:=(.int ik p.1,.I p.2)
def qM (e:MapEntry):Value×Value:=(e.key,e.val)
def MZ (ik:IntKind)(Z22:Hp)(m:Nat)(L:List (Int×Int)):Prop:=∃(l:List MapEntry) (clock:Nat),iN.Az ik Z22 m l clock/\l.map qM=L.map (Rc ik)
theorem MZ.loc {ik:IntKind}{Z22 Z':Hp}{m:Nat}{L:List (Int×Int)}(h:MZ ik Z22 m L)(G:Z' m=Z22 m):MZ ik Z' m L:=let ⟨l,c,h1,h2⟩:=h;⟨l,c,h1.loc G,h2⟩
theorem MZ.known {ik:IntKind}{Z22:Hp}{m:Nat}{L:List (Int×Int)}(h:MZ ik Z22 m L):Z22 m≠none:=let ⟨l,c,h1,h2⟩:=h;by rw[h1.1];simp
theorem MZ.fresh {ik:IntKind}{Z22:Hp}{m:Nat}:MZ ik (Z22.set m (.map #[] 0)) m []:=⟨[],0,iN.Az.fresh,rfl⟩
def A3 (L:List (Int×Int))(k:Int):Option Int:=(L.find? λp=>decide (p.1=k)).map (·.2)
def E1:List (Int×Int)->Int->Int->List (Int×Int)
 | [],k,v=>[(k,v)]
 | p::L,k,v=>if p.1=k then(k,v)::L else p::E1 L k v
theorem lZ {G L2:List (Int×Int)}{k x v:Int}(h:∀a∈G,a.1≠k):E1 (G++(k,x)::L2) k v=G++(k,v)::L2:=by
 induction G with
 | nil=>simp[E1]
 | cons a L ih=>
  simp only[Akl,E1];rw[Ajj (h a (Aj5 ..)),ih λx hx=>h x (Ajm _ hx)]
theorem dM {L:List (Int×Int)}{k v:Int}(h:∀a∈L,a.1≠k):E1 L k v=L++[(k,v)]:=by
 induction L with
 | nil=>rfl
 | cons a L ih=>
  simp only[Akl,E1];rw[Ajj (h a (Aj5 ..)),ih λx G=>h x (Ajm _ G)]
theorem dO {G L2:List (Int×Int)}{k x:Int}(h:∀a∈G,a.1≠k):A3 (G++(k,x)::L2) k=some x:=by
 unfold A3;rw[List.find?_append,Amg.2 (by simpa using h)];simp
theorem qN {L:List (Int×Int)}{k:Int}(h:∀a∈L,a.1≠k):A3 L k=none:=by
 unfold A3;rw[Amg.2 (by simpa using h)];rfl
theorem gG {ik:IntKind}{l:List MapEntry}{L:List (Int×Int)}{k:Int}(he:l.map qM=L.map (Rc ik))(G:∀x∈l,x.key≠.int ik k):∀a∈L,a.1≠k:=λa ha hk=>by
 have h1:Rc ik a∈l.map qM:=by rw[he];exact Alx ha
 obtain⟨x,hx,e⟩:=AkT.1 h1;refine G x hx ?_;have:=Ajw Prod.fst e;simpa[qM,Rc,hk] using this
theorem la {ik:IntKind}{l1 l2:List MapEntry}{e:MapEntry}{L:List (Int×Int)}{k:Int}(hn:((l1++e::l2).map (·.key)).Nodup)(he:(l1++e::l2).map qM=L.map (Rc ik))(hk:e.key=.int ik k):
  ∃G x L2,L=G++(k,x)::L2/\l1.map qM=G.map (Rc ik)/\e.val=.I x/\l2.map qM=L2.map (Rc ik)/\∀a∈G,a.1≠k:=by
 rw[AkI,AkR]at he;obtain⟨G,L',rfl,h1,h2⟩:=List.map_eq_append_iff.1 he.symm;obtain⟨p,L2,rfl,h3,h4⟩:=List.map_eq_cons_iff.1 h2;obtain⟨pk,px⟩:=p;have e1:pk=k:=by
  have:=Ajw Prod.fst h3;simp only[Rc,qM,hk,Value.int.injEq,true_and]at this;exact this
 have e2:e.val=.I px:=by
  have:=Ajw Prod.snd h3;simpa[Rc,qM] using this.symm
 subst e1;refine⟨G,px,L2,rfl,h1.symm,e2,h4.symm,?_⟩;refine gG h1.symm λx hx Ug=>?_;rw[AkI,AkR,Alb]at hn;exact hn.2.2 _ (Alx hx) _ (Aj5 ..) (by rw[Ug,hk])
section
variable {P:Program}{ik:IntKind}{T K V:TypeId}{Z22:Hp}{m:Nat}{L:List (Int×Int)}{k:Int}
def AF1 (two:Bool)(v:Value)(b:Bool):Value:=if two then .tuple #[v,.bool b] else v
theorem MZ.look [t:iN.MpJ P T ik K V]{two:Bool}(h:MZ ik Z22 m L)(hz:∀w,(zeroValue V).run P w=.ok (.I 0) w){Φ:Value->Hp->Prop}
  (h0:A3 L k=none->Φ (AF1 two (.I 0) false) Z22) (h1:∀x,A3 L k=some x->Φ (AF1 two (.I x) true) Z22):AI P (Instr.lookup T (.map (some m)) (.int ik k) two) Z22 Φ:=by
 obtain⟨l,c,hm,he⟩:=h;rcases iN.DE (s:=k) hm.2.2 with ⟨hf,G⟩|⟨l1,e,l2,rfl,hk,hf⟩
 .refine AI.pu (λw hs=>?_) (h0 (qN (gG he G)));have:=hs _ _ hm.1;cases two<;>simp[AF1,Instr.lookup,run_underlying t.U1,run_getObj_map this,run_checkKey t.key (k:=.int ik k) rfl,run_findKey t.key hf,hz,Result.andThen]
 .obtain⟨L1,x,L2,rfl,_,hv,_,G⟩:=la hm.nodup he hk;refine AI.pu (λw hs=>?_) (h1 x (dO G));have:=hs _ _ hm.1;cases two<;>simp[AF1,Instr.lookup,run_underlying t.U1,run_getObj_map this,run_checkKey t.key (k:=.int ik k) rfl,run_findKey t.key hf,Result.andThen,hv]
theorem MZ.put [t:iN.MpJ P T ik K V]{v:Int}(h:MZ ik Z22 m L){Φ:Unit->Hp->Prop}(hΦ:∀o,(∀O2,O2 m=some o->MZ ik O2 m (E1 L k v))->Φ () (Z22.set m o)):AI P (Instr.mapUpdate T (.map (some m)) (.int ik k) (.I v)) Z22 Φ:=by
 obtain⟨l,c,hm,he⟩:=h;refine iN.FZ hm (λAb Z' G mq=>?_) λl1 e l2 hl hk Z' G mq=>?_
 .subst G;refine hΦ _ λO2 hτ=>⟨_,_,mq.loc (hτ.trans (Hp.AA _ _ _).symm),?_⟩;rw[dM (gG he Ab),AkI,AkI,he];rfl
 .subst G hl;obtain⟨L1,x,L2,rfl,h1,hv,h2,Ab⟩:=la hm.nodup he hk;refine hΦ _ λO2 hτ=>⟨_,_,mq.loc (hτ.trans (Hp.AA _ _ _).symm),?_⟩;rw[lZ Ab,AkI,AkI,AkR,AkR,h1,h2];rfl
end
def Pe (L:List (Int×Int)):Nat:=L.countP λp=>decide (0<p.2)
def Yl (e:MapEntry):Bool:=match e.val with
 | .int _ x=>decide (0<x)
 | _=>false
theorem pos_eq {ik:IntKind}:∀{l:List MapEntry} {L:List (Int×Int)},l.map qM=L.map (Rc ik)->l.countP Yl=Pe L
 | [],[],_=>rfl
 | [],_::_,h=>by simp at h
 | _::_,[],h=>by simp at h
 | e::l,p::L,h=>by
  simp only[AkR,Ali]at h;have G:Yl e=decide (0<p.2):=by
   have:=Ajw Prod.snd h.1;simp only[qM,Rc]at this;unfold Yl;rw[this]
  have:=pos_eq (l:=l) (L:=L) h.2;unfold Pe at this ⊢;rw[Alv,Alv,G,this]
omit [GO] in
theorem JG {p:MapEntry->Bool}:∀{L:List MapEntry} {e:MapEntry},(L.map (·.born)).Nodup->e∈L->L.countP p=(L.filter λx=>x.born != e.born).countP p+(if p e then 1 else 0)
 | a::L,e,G,he=>by
  have Mh:=G;rw[AkR,Ako]at G;rcases Ajo.1 he with rfl|he
  .rw[Ak4 (by simp),Alv,Alf.2 λx hx=>?_];simp only[bne_iff_ne,ne_eq];exact λh=>G.1 (AkT.2 ⟨x,hx,h⟩)
  .have Av:(a.born != e.born)=true:=by
    simp only[bne_iff_ne,ne_eq];exact λh=>G.1 (AkT.2 ⟨e,he,h.symm⟩)
   rw[Ak3 (by simpa using Av),Alv,Alv,JG G.2 he];omega
end TwW
end
section
namespace TwW
open Go Tw Go.Proofs.Tryz
structure Mem where
 id:Int
 state:Int
 C9:List Int
def Qh (Z22:Hp)(vs:List Value)(m:Mem):Prop:=∃p n c,vs=[.I m.id,.I m.state,.slice p n c]/\DB .u32 Z22 p n m.C9
theorem Qh.mono:Hk Qh:=λ_ _ _ _ h ⟨p,n,c,hv,G⟩=>⟨p,n,c,hv,G.mono h⟩
abbrev RdM:=Ae 3 Qh
theorem RdM.at' {Z22:Hp}{p:Option Addr}{n i:Nat}{ms:List Mem}{m:Mem}(hr:RdM Z22 p n ms)(hx:ms[i]?=some m):
  ∃b o q k c,p=some ⟨b,o,none⟩/\A2 Z22 b (o+i*3) [.I m.id,.I m.state,.slice q k c]/\DB .u32 Z22 q k m.C9:=by
 obtain⟨b,o,vs,hp,⟨q,k,c,rfl,hq⟩,G⟩:=Ae.idx hr hx;exact⟨b,o,q,k,c,hp,G,hq⟩
theorem ACd {a b:Int}{p:Option Addr}{n c:Nat}:FL [.I a,.I b,.slice p n c]:=by
 intro u G;simp only[Ajo,Aj7,Akc]at G;rcases G with rfl|rfl|rfl<;>rfl
def Mn (xs:List Int):Prop:=xs.Pairwise (· < ·)
instance (xs:List Int):Decidable (Mn xs):=inferInstanceAs (Decidable (xs.Pairwise (· < ·)))
theorem qP {xs:List Int}{k:Nat}{y:Int}(G:0<k)(hy:xs[k-1]?=some y):xs.take k=xs.take (k-1)++[y]:=by
 have:=AU hy;rwa[Nat.sub_add_cancel G]at this
theorem T3 {xs:List Int}{k:Nat}{x y:Int}(hk:0<k)(hy:xs[k-1]?=some y)(hx:xs[k]?=some x)(h:Mn (xs.take k))(hl:y<x):Mn (xs.take (k+1)):=by
 unfold Mn at *;rw[AU hx,List.pairwise_append];refine⟨h,by simp,λa G b hb=>?_⟩;simp only[Ajp]at hb;subst hb;rw[qP hk hy]at G h;rw[List.pairwise_append]at h;simp only[AkH,Ajp]at G;rcases G with G|rfl
 .have:=h.2.2 a G y (by simp);omega
 .exact hl
theorem Ym {xs:List Int}{k:Nat}{x y:Int}(hk:0<k)(hy:xs[k-1]?=some y)(G:xs[k]?=some x)(hl:x<=y):¬Mn xs:=λh=>by
 have h1:=(Akm.1 h) (k-1) k (Ajn.1 hy).1 (Ajn.1 G).1 (by omega);rw[(Ajn.1 hy).2,(Ajn.1 G).2]at h1;omega
theorem L5 {xs:List Int}(h:xs.length<=1):Mn xs:=by
 match xs,h with
 | [],_=>simp[Mn]
 | [x],_=>simp[Mn]
theorem gH {R:Rr}{Z22:Hp}{p:Option Addr}{n c:Nat}{xs:List Int}(G:DB .u32 Z22 p n xs)(h:R (.returned (.bool (decide (Mn xs)))) Z22):
  Spec prog 56 #[.slice p n c] Z22 R:=by
 refine Cb.start ?_
 suffices H:∀d k:Nat,n-k=d->0<k->Mn (xs.take k)->Cb.GQ R p n c k Z22 from H (n-1) 1 rfl (by omega) (L5 (by simp;omega))
 intro d
 induction d with
 | zero=>
  intro k hd hk Ab;refine Cb.BI ⟨λAx=>by omega,λ_=>?_⟩;rw[Ajq (by rw[G.1];omega)]at Ab;simpa[Ab] using h
 | succ d ih=>
  intro k hd hk Ab;refine Cb.BI ⟨λAx=>?_,λRU=>by omega⟩;have Cs:k<n:=by omega
  obtain⟨x,hx⟩:=G.ex Cs;obtain⟨y,hy⟩:=G.ex (k:=k-1) (by omega);obtain⟨b,o,rfl,hl⟩:=G.at hx;obtain⟨b',o',he,RI⟩:=G.at hy;cases he;have e:((k:Int)-1)=((k-1:Nat):Int):=by omega
  have hb:=G.big;refine⟨b,o,rfl,by omega,x,by simpa using hl,by unfold AL;omega,by omega,y,by rw[e];simpa using RI,λhle=>?_,λvv=>⟨AO Cs G.big,ih (k+1) (by omega) (by omega) (T3 hk hy hx Ab (by omega))⟩⟩;simpa[Ym hk hy hx hle] using h
theorem gI {R:Rr}{Z22:Hp}{p:Option Addr}{n c:Nat}{xs:List Int}(G:DB .i64 Z22 p n xs)(h:R (.returned (.bool (decide (Mn xs)))) Z22):
  Spec prog 57 #[.slice p n c] Z22 R:=by
 refine Dn.start ?_
 suffices H:∀d k:Nat,n-k=d->0<k->Mn (xs.take k)->Dn.GQ R p n c k Z22 from H (n-1) 1 rfl (by omega) (L5 (by simp;omega))
 intro d
 induction d with
 | zero=>
  intro k hd hk Ab;refine Dn.BI ⟨λAx=>by omega,λ_=>?_⟩;rw[Ajq (by rw[G.1];omega)]at Ab;simpa[Ab] using h
 | succ d ih=>
  intro k hd hk Ab;refine Dn.BI ⟨λAx=>?_,λRU=>by omega⟩;have Cs:k<n:=by omega
  obtain⟨x,hx⟩:=G.ex Cs;obtain⟨y,hy⟩:=G.ex (k:=k-1) (by omega);obtain⟨b,o,rfl,hl⟩:=G.at hx;obtain⟨b',o',he,RI⟩:=G.at hy;cases he;have e:((k:Int)-1)=((k-1:Nat):Int):=by omega
  have hb:=G.big;refine⟨b,o,rfl,by omega,x,by simpa using hl,by unfold AL;omega,by omega,y,by rw[e];simpa using RI,λhle=>?_,λvv=>⟨AO Cs G.big,ih (k+1) (by omega) (by omega) (T3 hk hy hx Ab (by omega))⟩⟩;simpa[Ym hk hy hx hle] using h
def OkM (m:Mem):Prop:=0<=m.id/\m.id<16/\1<=m.state/\m.state<=3/\1<=m.C9.length/\m.C9.length<=64/\Mn m.C9
instance (m:Mem):Decidable (OkM m):=by unfold OkM;infer_instance
def ids (ms:List Mem):List Int:=ms.map Mem.id
def OkR (ms:List Mem):Prop:=(∀m∈ms,OkM m)/\Mn (ids ms)
instance (ms:List Mem):Decidable (OkR ms):=by unfold OkR;infer_instance
def ACe (ms:List Mem):Int:=if OkR ms then 0 else 130
theorem lf {R:Rr}{Z22:Hp}{x:Int}(h:R (.returned (.bool (decide (0<=x/\x<16)))) Z22):Spec prog 55 #[.I x] Z22 R:=by
 refine sR.start ⟨λG=>by simpa[G] using h,λG=>by simpa[G] using h⟩
def gJ (ms:List Mem):Prop:=ms.length<=3518437208883/\∀m∈ms,m.C9.length<=35184372088832
theorem Pf {R:Rr}{Z22:Hp}{e:Int}{p:Option Addr}{n c:Nat}{ms:List Mem}(hr:RdM Z22 p n ms)(hs:gJ ms)(h:R (.returned (.I (ACe ms))) Z22):
  Spec prog 26 #[.agg #[.U e,.slice p n c]] Z22 R:=by
 refine Spec.drop (I4.start ?_);have hlen:n<=3518437208883:=by have:=hs.1;have:=hr.1;omega
 have bad:¬OkR ms->∀Z',Ext Z22 Z'->Drop R (.returned (.I 130)) Z':=λhn Z' hx=>.mk hx (by simpa[ACe,hn] using h)
 suffices H:∀d k:Nat,∀p3 c3 Z',n-k=d->k<=n->(∀m∈ms.take k,OkM m)->Ext Z22 Z'->DS .i64 (Z22.new Z') p3 k c3 (ids (ms.take k))->I4.A4 (Drop R) p3 k c3 p n c n k Z' from λ_=>H n 0 _ _ _ rfl (by omega) (by simp) (.refl Z22) DS.nil
 intro d
 induction d with
 | zero=>
  intro k p3 c3 Z' hd hk ho hx CV;refine I4.AX ⟨λAx=>by omega,λ_=>gI (CV.rd.mono (Ext.CY Z22 Z')) ⟨_,rfl,?_,?_⟩⟩
  all_goals rw[Ajq (by rw[hr.1];omega)]at ho ⊢
  .intro hf;exact bad (λG=>by simp[G.2]at hf) _ hx
  .intro ht;have:OkR ms:=⟨ho,by simpa using ht⟩;exact .mk hx (by simpa[ACe,this] using h)
 | succ d ih=>
  intro k p3 c3 Z' hd hk ho hx CV;refine I4.AX ⟨λAx=>?_,λRU=>by omega⟩;have Cs:k<n:=by omega
  obtain⟨m,hm⟩:=hr.ex Cs;obtain⟨b,o,q,j,c',rfl,hl,ht⟩:=hr.at' hm;have VP:m∈ms:=Aju hm;have hlj:=ht.1;refine⟨b,o,rfl,by omega,m.id,m.state,q,j,c',by simpa using hl.mono hx,λ_ UO AbR=>?_⟩;refine DS.FN hx CV (by omega) (λp' c2 Z2 B6 Ao _=>⟨p',k+1,c2,rfl,lf ⟨_,rfl,?_,?_⟩⟩) AbR
  .intro hf;exact bad (λG=>by have:=G.1 m VP;simp[OkM]at this hf;omega) _ Ao
  intro ht1;refine⟨λh1=>bad (λG=>by have:=G.1 m VP;simp[OkM]at this;omega) _ Ao,λh1=>⟨λh2=>bad (λG=>by have:=G.1 m VP;simp[OkM]at this;omega) _ Ao,λh2=>⟨λh3=>bad (λG=>by have:=G.1 m VP;simp[OkM]at this;omega) _ Ao,λh3=>⟨λh4=>bad (λG=>by have:=G.1 m VP;simp[OkM]at this;omega) _ Ao,λh4=>?_⟩⟩⟩⟩;refine gH (ht.mono Ao) ⟨_,rfl,λhf=>bad (λG=>by have:=G.1 m VP;simp[OkM]at this hf;exact hf this.2.2.2.2.2.2) _ Ao,λhri=>⟨AO Cs hr.big,ih (k+1) _ _ _ (by omega) (by omega) ?_ Ao ?_⟩⟩
  .intro m' mq;rw[Amk,hm]at mq;simp only[Option.toList,AkH,Ajp]at mq;rcases mq with mq|rfl
   .exact ho m' mq
   .simp at ht1 hri;exact⟨by omega,by omega,by omega,by omega,by omega,by omega,hri⟩
  .have:ids (ms.take (k+1))=ids (ms.take k)++[m.id]:=by simp[ids,Amk,hm]
   rw[this];exact B6
end TwW
end
section
namespace TwW
open Go Tw Go.RowKit Go.Proofs.Tryz
variable {Z22:Hp}{R:Rr}
abbrev e4 (q:Option Addr)(e:Nat):List Value:=[.U 4,.I 0,.I 60,.I 0,.slice q 0 e,.I 0,.I 0]
theorem lg {v fl:Int}(hf:-1099511627776<=fl/\fl<=1099511627776)(h:R (.returned (.I 0)) Z22):Spec prog 41 #[.agg #[.U v,.I fl,.N]] Z22 R:=
 Bi.start λb1=>⟨λG=>absurd G (by decide),λ_=>⟨λG=>by omega,λ_=>⟨λG=>by omega,λ_=>Bi.EE ⟨λG=>absurd G (by decide),λ_=>h⟩⟩⟩⟩
theorem AbS {q:Option Addr}{e:Nat}(h:∀Z',Ext Z22 Z'->R (.B true) Z'):Spec prog 76 #[.agg (e4 q e).toArray] Z22 R:=by
 refine BV.start λb1 b hb=>?_;have hx:=Ext.set (o:=.cells #[.I 0,.I 0,.I 0] 3 (0,0)) hb;have hl:∀k:Nat,k<3->Hp.ld (Z22.set b (.cells #[.I 0,.I 0,.I 0] 3 (0,0))) ⟨b,0+Int.toNat (k:Int)*1,none⟩=some (.I 0):=λk hk=>by
  refine AJ (Hp.AA _ _ _) ?_
  match k,hk with
  | 0,_=>rfl
  | 1,_=>rfl
  | 2,_=>rfl
 refine BV.A0 ⟨λ_=>⟨b,0,rfl,by decide,0,hl 0 (by decide),λG=>absurd G (by decide),λ_=>⟨λG=>absurd G (by decide),λ_=>⟨iK (by decide),?_⟩⟩⟩,λG=>absurd (by decide) G⟩;refine BV.A0 ⟨λ_=>⟨b,0,rfl,by decide,0,hl 1 (by decide),λG=>absurd G (by decide),λ_=>⟨λG=>absurd G (by decide),λ_=>⟨iK (by decide),?_⟩⟩⟩,λG=>absurd (by decide) G⟩;refine BV.A0 ⟨λ_=>⟨b,0,rfl,by decide,0,hl 2 (by decide),λG=>absurd G (by decide),λ_=>⟨λG=>absurd G (by decide),λ_=>⟨iK (by decide),?_⟩⟩⟩,λG=>absurd (by decide) G⟩;refine BV.A0 ⟨λG=>absurd G (by decide),λ_=>?_⟩;exact BV.Fm ⟨λG=>absurd G (by decide),λ_=>⟨λ_=>h _ hx,λG=>absurd (by decide) G⟩⟩
theorem lh {v fl:Int}{b o c:Nat}{q:Option Addr}{e:Nat}(hf:-1099511627776<=fl/\fl<=1099511627776)(hl:A2 Z22 b o (e4 q e++[.bool false,.I 0]))(h:∀Z',Ext Z22 Z'->R (.returned (.I 0)) Z'):
  Spec prog 41 #[.agg #[.U v,.I fl,.slice (aD b o) 1 c]] Z22 R:=
 Bi.start λb1=>⟨λG=>absurd G (by decide),λ_=>⟨λG=>by omega,λ_=>⟨λG=>by omega,λ_=>Bi.EE ⟨λ_=>⟨b,o,rfl,by decide,_,_,_,_,_,_,_,_,_,_,_,by simpa using hl,λb4=>
  AbS λZ' hx=>⟨true,rfl,λG=>(by cases G),λ_=>⟨λG=>absurd G (by decide),λ_=>⟨λ_=>⟨λG=>absurd rfl G,λ_=>⟨iK (by decide),Bi.EE ⟨λG=>absurd G (by decide),λ_=>h Z' hx⟩⟩⟩,λG=>by cases G⟩⟩⟩⟩,λG=>absurd (by decide) G⟩⟩⟩⟩
theorem tV {v fl:Int}(h:R (.returned (.agg #[.U v,.I fl,.N])) Z22):Spec prog 42 #[.agg #[.U v,.I fl,.N]] Z22 R:=
 DD.start λb1 b2 b3=>DD.Bp ⟨λG=>absurd G (by decide),λ_=>h⟩
theorem tW {v fl:Int}{b o c:Nat}{q:Option Addr}{e:Nat}(hl:A2 Z22 b o (e4 q e++[.bool false,.I 0]))
  (h:∀Z' b' o' c' q' e',A2 Z' b' o' (e4 q' e'++[.bool false,.I 0])->Ext Z22 Z'->R (.returned (.agg #[.U v,.I fl,.slice (aD b' o') 1 c'])) Z') :
  Spec prog 42 #[.agg #[.U v,.I fl,.slice (aD b o) 1 c]] Z22 R:=by
 refine DD.start λb1 b2 b3=>DD.Bp ⟨λ_=>⟨b,o,rfl,by decide,_,_,_,_,_,_,_,_,_,_,_,by simpa using hl,λb5 U8 h15=>?_⟩,λhh=>absurd (by decide) hh⟩;refine Kq (cs:=[]) ⟨rfl,by omega,.inl rfl⟩ (λu G=>by cases G) (by decide) (λiD cE Z1 _ BC=>⟨_,_,_,rfl,λNT h25=>?_⟩) h15;refine Pu (Z0:=Z1) (n:=0) (m:=1) (cs:=[]) (ys:=[.U 4,.I 0,.I 60,.I 0,.slice iD 0 cE,.I 0,.I 0,.bool false,.I 0]) (.refl _) BL.nil rfl (λu G=>?_) (by decide) (λai aj Z2 ho Ao _=>⟨_,_,_,rfl,iK (by decide),?_⟩) h25
 .simp only[Ajo,Aj7,Akc]at G;rcases G with rfl|rfl|rfl|rfl|rfl|rfl|rfl|rfl|rfl<;>rfl
 .refine DD.Bp ⟨λhh=>absurd hh (by decide),λ_=>?_⟩;obtain⟨_,_,h0|⟨b',o',rfl,RI⟩⟩:=BL.rd ho
  .exact absurd h0 (by decide)
  .exact h Z2 b' o' aj iD cE (A2.mono (l:=e4 iD cE++[.bool false,.I 0]) (Ext.CY Z1 Z2) RI) (BC.trans Ao)
theorem AF2 {v fl:Int}(hf:-1099511627776<=fl/\fl<=1099511627776)(h:R (.returned (.N)) Z22):Spec prog 53 #[.agg #[.U v,.I fl,.N]] Z22 R:=
 DC.start λb1=>lg hf ⟨_,rfl,λG=>absurd rfl G,λ_=>tV ⟨_,_,_,_,_,rfl,λb3=>Bz.start λb4=>Bz.AX ⟨λG=>absurd G (by decide),λ_=>
  ⟨_,_,_,rfl,DC.CF ⟨λG=>absurd G (by decide),λ_=>h⟩⟩⟩⟩⟩
theorem AF3 {v fl:Int}{b o c:Nat}{q:Option Addr}{e:Nat}(hf:-1099511627776<=fl/\fl<=1099511627776)(hl:A2 Z22 b o (e4 q e++[.bool false,.I 0]))
  (h:∀Z' b' o' c' q' e',A2 Z' b' o' (e4 q' e')->Ext Z22 Z'->R (.returned (.slice (aD b' o') 1 c')) Z'):Spec prog 53 #[.agg #[.U v,.I fl,.slice (aD b o) 1 c]] Z22 R:=by
 refine DC.start λb1=>lh hf hl λZ1 BC=>⟨_,rfl,λG=>absurd rfl G,λ_=>tW (hl.mono BC) λZ2 b2 o2 c2 q2 e2 iI Ao=>⟨_,_,_,_,_,rfl,λb3=>?_⟩⟩;refine Bz.start λb4=>Bz.AX ⟨λ_=>⟨b,o,rfl,by decide,_,_,_,_,_,_,_,_,_,_,_,by simpa using hl.mono (BC.trans Ao),λb5=>⟨λ_ HE h19=>?_,λG=>by cases G⟩⟩,λG=>absurd (by decide) G⟩;refine Pu (Z0:=Z2) (n:=0) (m:=1) (cs:=[]) (ys:=[.I 0]) (.refl _) BL.nil rfl (λu hu=>by simp only[Ajp]at hu;subst hu;rfl) (by decide) (λUR R9 Z3 ho CE _=>⟨_,_,_,rfl,Bz.Em ⟨iK (by decide),?_⟩⟩) h19;refine Bz.AX ⟨λG=>absurd G (by decide),λ_=>⟨_,_,_,rfl,?_⟩⟩;obtain⟨_,_,h0|⟨b7,o7,rfl,hl7,_⟩⟩:=BL.rd ho
 .exact absurd h0 (by decide)
 refine DC.CF ⟨λ_=>⟨b7,o7,rfl,by decide,0,by simpa using(Ext.CY Z2 Z3).ld hl7,b2,o2,rfl,by decide,_,_,_,_,_,_,_,_,_,by simpa using(A2.left iI).mono CE,λmh h26=>?_⟩,λG=>absurd (by decide) G⟩;refine Pu (Z0:=Z3) (n:=0) (m:=1) (cs:=[]) (ys:=[.U 4,.I 0,.I 60,.I 0,.slice q2 0 e2,.I 0,.I 0]) (.refl _) BL.nil rfl (λu hu=>?_) (by decide) (λp27 yB Z4 Hy KK _=>⟨_,_,_,rfl,iK (by decide),?_⟩) h26
 .simp only[Ajo,Aj7,Akc]at hu;rcases hu with rfl|rfl|rfl|rfl|rfl|rfl|rfl<;>rfl
 .refine DC.CF ⟨λG=>absurd G (by decide),λ_=>?_⟩;obtain⟨_,_,h0|⟨b',o',rfl,RI⟩⟩:=BL.rd Hy
  .exact absurd h0 (by decide)
  .exact h Z4 b' o' yB q2 e2 (A2.mono (l:=e4 q2 e2) (Ext.CY Z3 Z4) RI) (BC.trans (Ao.trans (CE.trans KK)))
structure En where
 id:Int
 min:Int
 max:Int
 lvl:Int
 src:List Int
 YV:Int
 Yi:Int
 gone:Bool
 at_:Int
abbrev meV (x:En)(p:Option Addr)(n c:Nat):List Value:=[.U x.id,.I x.min,.I x.max,.I x.lvl,.slice p n c,.I x.YV,.I x.Yi]
abbrev enV (x:En)(p:Option Addr)(n c:Nat):List Value:=[.U x.id,.I x.min,.I x.max,.I x.lvl,.slice p n c,.I x.YV,.I x.Yi,.bool x.gone,.I x.at_]
def F3 (Z22:Hp)(vs:List Value)(x:En):Prop:=∃p n c,vs=enV x p n c/\DB .u64 Z22 p n x.src/\n<=4000000
def qQ (Z22:Hp)(vs:List Value)(x:En):Prop:=∃p n c,vs=meV x p n c/\DB .u64 Z22 p n x.src/\n<=4000000
theorem F3.mono:Hk F3:=λ_ _ _ _ h ⟨p,n,c,hv,hr,G⟩=>⟨p,n,c,hv,hr.mono h,G⟩
theorem qQ.mono:Hk qQ:=λ_ _ _ _ h ⟨p,n,c,hv,hr,G⟩=>⟨p,n,c,hv,hr.mono h,G⟩
theorem F3.one (Z22:Hp)(vs:List Value)(x:En)(h:F3 Z22 vs x):FL vs:=by
 obtain⟨p,n,c,rfl,_⟩:=h;intro u G;simp only[Ajo,Aj7,Akc]at G;rcases G with rfl|rfl|rfl|rfl|rfl|rfl|rfl|rfl|rfl<;>rfl
theorem qQ.one (Z22:Hp)(vs:List Value)(x:En)(h:qQ Z22 vs x):FL vs:=by
 obtain⟨p,n,c,rfl,_⟩:=h;intro u G;simp only[Ajo,Aj7,Akc]at G;rcases G with rfl|rfl|rfl|rfl|rfl|rfl|rfl<;>rfl
theorem F3.at {Z22:Hp}{p:Option Addr}{n i:Nat}{t:List En}{x:En}(hr:Ae 9 F3 Z22 p n t)(hx:t[i]?=some x):∃b o q k c,p=some ⟨b,o,none⟩/\A2 Z22 b (o+i*9) (enV x q k c)/\DB .u64 Z22 q k x.src/\k<=4000000:=by
 obtain⟨b,o,vs,hp,⟨q,k,c,rfl,G,h2⟩,hl⟩:=Ae.idx hr hx;exact⟨b,o,q,k,c,hp,hl,G,h2⟩
theorem qQ.at {Z22:Hp}{p:Option Addr}{n i:Nat}{t:List En}{x:En}(hr:Ae 7 qQ Z22 p n t)(hx:t[i]?=some x):∃b o q k c,p=some ⟨b,o,none⟩/\A2 Z22 b (o+i*7) (meV x q k c)/\DB .u64 Z22 q k x.src/\k<=4000000:=by
 obtain⟨b,o,vs,hp,⟨q,k,c,rfl,G,h2⟩,hl⟩:=Ae.idx hr hx;exact⟨b,o,q,k,c,hp,hl,G,h2⟩
abbrev inN (x:Int):Bool:=decide (0<=x)&&decide (x<=2147483647)
def lj (x:En):Bool:=inN x.lvl&&inN x.YV&&inN x.Yi&&decide (Mn x.src)&&decide (x.min<=x.max)&&decide (x.src.length<=64)
def preB:Option Int->Int->Bool
 | none,_=>true
 | some i,j=>decide (i<j)
def ixL:Option Int->List En->Bool
 | _,[]=>true
 | G,x::r=>lj x&&preB G x.id&&(x.gone||decide (x.at_=0))&&ixL (some x.id) r
def IJ (fl:Int)(es:List En):Bool:=decide (es.length<=256)&&decide (-1099511627776<=fl)&&decide (fl<=1099511627776)&&ixL none es
section
variable {Z22:Hp}{R:Rr}
theorem ACg {x:En}{p:Option Addr}{n c:Nat}(hr:DB .u64 Z22 p n x.src)(hn:n<=4000000)(h:∀Z',Ext Z22 Z'->R (.returned (.bool (lj x))) Z'):Spec prog 76 #[.agg (meV x p n c).toArray] Z22 R:=by
 have hl:x.src.length=n:=hr.1;refine BV.start λb1 b hb=>?_;have hx:=Ext.set (o:=.cells #[.I x.lvl,.I x.YV,.I x.Yi] 3 (0,0)) hb;have G:=h _ hx;clear h
 change BV.Gf R x.id x.min x.max x.lvl p n c x.YV x.Yi (aD b 0) 3 3 3 0 (Z22.set b (.cells #[.I x.lvl,.I x.YV,.I x.Yi] 3 (0,0)))
 have hZ:=hr.mono hx;have hL:∀(k:Nat) (v:Int),k<3->[x.lvl,x.YV,x.Yi][k]?=some v->Hp.ld (Z22.set b (.cells #[.I x.lvl,.I x.YV,.I x.Yi] 3 (0,0))) ⟨b,0+Int.toNat (k:Int)*1,none⟩=some (.I v):=λk v hk hv=>by
  refine AJ (Hp.AA _ _ _) ?_
  match k,hk,hv with
  | 0,_,hv=>cases hv;rfl
  | 1,_,hv=>cases hv;rfl
  | 2,_,hv=>cases hv;rfl
 generalize Z22.set b (.cells #[.I x.lvl,.I x.YV,.I x.Yi] 3 (0,0))=Z1 at hL G hZ ⊢;have p31:(inN x.lvl&&inN x.YV&&inN x.Yi)=true->BV.Fv R x.id x.min x.max x.lvl p n c x.YV x.Yi p n c (n:Int) 0 Z1:=λUD=>by
  have eM:lj x=(decide (Mn x.src)&&decide (x.min<=x.max)&&decide (x.src.length<=64)):=by unfold lj;rw[UD];rfl
  rw[eM] at G
  suffices H:∀d k:Nat,n-k=d->k<=n->Mn (x.src.take k)->BV.Fv R x.id x.min x.max x.lvl p n c x.YV x.Yi p n c (n:Int) (k:Int) Z1 from H n 0 rfl (Ajy _) (L5 (by simp))
  intro d
  induction d with
  | zero=>
   intro k hd hk hs;rw[Ajq (by omega)]at hs;rw[Aj0 hs,Ak1] at G;refine BV.Fm ⟨λhh=>by omega,λ_=>⟨λhle=>?_,λhle=>?_⟩⟩
   .rw[Aj0 hle,Ak1,hl] at G;have:decide ((n:Int)<=64)=decide (n<=64):=Akr.2 (by omega);rw[this];exact G
   .rw[Aj1 (show ¬x.min<=x.max by omega),Aku] at G;exact G
  | succ d ih=>
   intro k hd hk hs;have Cs:k<n:=by omega
   obtain⟨u,hu⟩:=hZ.ex Cs;obtain⟨b1,o1,e1,RB⟩:=hZ.at hu;have next:Mn (x.src.take (k+1))->AL ((k:Int)+1)/\BV.Fv R x.id x.min x.max x.lvl p n c x.YV x.Yi p n c (n:Int) ((k:Int)+1) Z1:=λMs=>⟨by unfold AL;omega,by
    have:=ih (k+1) (by omega) (by omega) Ms;rw[show((k+1:Nat):Int)=(k:Int)+1 by omega]at this;exact this⟩
   subst e1;refine BV.Fm ⟨λ_=>⟨b1,o1,rfl,by unfold In;omega,u,by simpa using RB,λIs=>⟨by unfold AL;omega,?_⟩,λhz=>next (L5 (by simp;omega))⟩,λhh=>by omega⟩;obtain⟨y,hy⟩:=hZ.ex (k:=k-1) (by omega);obtain⟨b2,o2,e2,iI⟩:=hZ.at hy;cases e2;refine⟨b1,o1,rfl,by unfold In;omega,y,?_,λhle=>?_,λvv=>next (T3 (by omega) hy hu hs (by omega))⟩
   .rw[show Int.toNat ((k:Int)-1)=k-1 by omega];exact iI
   .rw[Aj1 (Ym (by omega) hy hu hle),Aku,Aku] at G;exact G
 have step:∀(k:Nat) (v:Int),k<3->[x.lvl,x.YV,x.Yi][k]?=some v->(inN v=false->lj x=false)->(inN v=true->BV.Gf R x.id x.min x.max x.lvl p n c x.YV x.Yi (aD b 0) 3 3 3 ((k:Int)+1) Z1)->BV.Gf R x.id x.min x.max x.lvl p n c x.YV x.Yi (aD b 0) 3 3 3 (k:Int) Z1:=λk v hk hv Ab AMQ=>by
  refine BV.A0 ⟨λ_=>⟨b,0,rfl,by unfold In;omega,v,hL k v hk hv,λAx=>?_,λRU=>⟨λvv=>?_,λhle=>⟨by unfold AL;omega,AMQ (by unfold inN;rw[Aj0 (by omega),Aj0 (by omega)];rfl)⟩⟩⟩,λhh=>by omega⟩
  .have:=G;rw[Ab (by unfold inN;rw[Aj1 (by omega)];rfl)]at this;exact this
  .have:=G;rw[Ab (by unfold inN;rw[Aj1 (show ¬v<=2147483647 by omega),Akx])]at this;exact this
 have e0:BV.Gf R x.id x.min x.max x.lvl p n c x.YV x.Yi (aD b 0) 3 3 3 ((0:Nat):Int) Z1:=by
  refine step 0 x.lvl (by decide) rfl (λh0=>by unfold lj;rw[h0];rfl) λh0=>?_;refine step 1 x.YV (by decide) rfl (λh1=>by unfold lj;rw[h1,Akx];rfl) λh1=>?_;refine step 2 x.Yi (by decide) rfl (λh2=>by unfold lj;rw[h2,Akx];rfl) λh2=>?_;exact BV.A0 ⟨λhh=>absurd hh (by decide),λ_=>p31 (by rw[h0,h1,h2];rfl)⟩
 exact e0
theorem Sv {v fl:Int}{p:Option Addr}{n c:Nat}{es:List En}(hr:Ae 9 F3 Z22 p n es)(h:∀Z',Ext Z22 Z'->R (.returned (.I (if IJ fl es then 0 else 140))) Z'):
  Spec prog 41 #[.agg #[.U v,.I fl,.slice p n c]] Z22 R:=by
 have hl:es.length=n:=hr.1;have no:IJ fl es=false->∀Z',Ext Z22 Z'->R (.returned (.I 140)) Z':=λh0 Z' hx=>by
  have:=h Z' hx;rw[h0]at this;exact this
 refine Bi.start λb1=>⟨λhh=>no (by unfold IJ;rw[Aj1 (by omega)];rfl) Z22 (.refl Z22),λAhQ=>⟨λhh=>no (by unfold IJ;rw[Aj1 (show ¬ -1099511627776<=fl by omega),Akx];rfl) Z22 (.refl Z22),λhlo=>⟨λhh=>no (by unfold IJ;rw[Aj1 (show ¬fl<=1099511627776 by omega),Akx];rfl) Z22 (.refl Z22),λhhi=>?_⟩⟩⟩;have eO:IJ fl es=ixL none es:=by unfold IJ;rw[Aj0 (by omega),Aj0 (by omega),Aj0 (by omega)];rfl
 rw[eO]at h no
 suffices H:∀d k:Nat,∀Z1,Ext Z22 Z1->n-k=d->k<=n->ixL none es=ixL (if k=0 then none else(es[k-1]?).map En.id) (es.drop k)->Bi.Gc R v fl p n c p n c (n:Int) (k:Int) Z1 from H n 0 Z22 (.refl Z22) rfl (Ajy _) rfl
 intro d
 induction d with
 | zero=>
  intro k Z1 hx hd hk G;rw[AkF (by omega),ixL]at G;have:=h Z1 hx;rw[G]at this;exact Bi.EE ⟨λhh=>by omega,λ_=>this⟩
 | succ d ih=>
  intro k Z1 hx hd hk G;have Cs:k<n:=by omega
  have EB:=hr.mono F3.mono hx;obtain⟨x,Ug⟩:=EB.ex Cs;obtain⟨b,o,q,j,c',rfl,Dy,hs,hj⟩:=F3.at EB Ug;rw[BR Ug,ixL]at G;refine Bi.EE ⟨λ_=>⟨b,o,rfl,by unfold In;omega,_,_,_,_,_,_,_,_,_,_,_,by simpa using Dy,λb4=>ACg hs hj λZ2 Ao=>⟨_,rfl,λhf=>?_,λht=>?_⟩⟩,λhh=>by omega⟩
  .exact no (by rw[G,hf];rfl) Z2 (hx.trans Ao)
  rw[ht,Ak1]at G;have last:∀g:Bool,g=true->ixL none es=(g&&(x.gone||decide (x.at_=0))&&ixL (some x.id) (es.drop (k+1)))->(x.gone=false->(x.at_≠0->R (.returned (.I 140)) Z2)/\(¬x.at_≠0->AL ((k:Int)+1)/\Bi.Gc R v fl (aD b o) n c (aD b o) n c (n:Int) ((k:Int)+1) Z2))/\(x.gone=true->AL ((k:Int)+1)/\Bi.Gc R v fl (aD b o) n c (aD b o) n c (n:Int) ((k:Int)+1) Z2):=λg hg hE=>by
   rw[hg,Ak1]at hE;have next:(x.gone||decide (x.at_=0))=true->AL ((k:Int)+1)/\Bi.Gc R v fl (aD b o) n c (aD b o) n c (n:Int) ((k:Int)+1) Z2:=λh1=>⟨by unfold AL;omega,by
    have:=ih (k+1) Z2 (hx.trans Ao) (by omega) (by omega) (by
     rw[hE,h1,Ak1,Ajj (by omega),Amh,Ug];rfl)
    rw[show((k+1:Nat):Int)=(k:Int)+1 by omega]at this;exact this⟩
   refine⟨λhm=>⟨λha=>no (by rw[hE,hm,Aj1 ha];rfl) Z2 (hx.trans Ao),λha=>next (by rw[Aj0 (AkK.1 ha),AmV])⟩,λhm=>next (by rw[hm];rfl)⟩
  refine⟨λIs=>⟨by unfold AL;omega,?_⟩,λhz=>?_⟩
  .rw[Ajj (by omega)]at G;obtain⟨y,hy⟩:=EB.ex (k:=k-1) (by omega);obtain⟨b2,o2,q2,j2,c2,e2,ALn,_,_⟩:=F3.at EB hy;cases e2;rw[hy]at G;refine⟨b,o,rfl,by unfold In;omega,y.id,?_,λhle=>?_,λvv=>last (decide (y.id<x.id)) (Aj0 (by omega)) G⟩
   .rw[show Int.toNat ((k:Int)-1)=k-1 by omega];exact(ALn.mono Ao).1
   .exact no (by rw[G];simp only[Aki,preB];rw[Aj1 (by omega)];rfl) Z2 (hx.trans Ao)
  .rw[Ajl (by omega)]at G;exact last true rfl G
end
theorem FK.AUe {k:IntKind}(Z22:Hp)(vs:List Value)(x:Int)(h:FK k Z22 vs x):FL vs:=by
 have h:vs=[.int k x]:=h;subst h;intro u G;rw[Ajp.1 G];rfl
def HJ:Nat->List En->List Int
 | _,[]=>[]
 | k,x::r=>if x.gone then HJ (k+1) r else(k:Int)::HJ (k+1) r
theorem Yn:∀(es:List En) (k:Nat) (x:En),HJ k (es++[x])=HJ k es++(if x.gone then[] else[((k+es.length:Nat):Int)])
 | [],k,x=>by simp[HJ]
 | y::es,k,x=>by
  rw[Akl,HJ,HJ,Yn es (k+1) x];rw[show k+1+es.length=k+(y::es).length by rw[Ajk];omega];split
  .rfl
  .rfl
abbrev xB (es:List En):List En:=es.filter λx=>!x.gone
theorem Yo:∀(es:List En) (d j:Nat) (k:Int),(HJ d es)[j]?=some k->∃(i:Nat) (x:En),k=((d+i:Nat):Int)/\es[i]?=some x/\(xB es)[j]?=some x
 | [],d,j,k,h=>by simp[HJ]at h
 | y::es,d,j,k,h=>by
  rw[HJ]at h;by_cases G:y.gone=true
  .rw[Ajl G]at h;obtain⟨i,x,h1,h2,h3⟩:=Yo es (d+1) j k h;refine⟨i+1,x,by rw[h1];congr 1;omega,h2,?_⟩;show((y::es).filter λx=>!x.gone)[j]?=some x
   rw[Ak4 (by rw[G];decide)];exact h3
  .rw[Ajj G]at h;have hy':y.gone=false:=by simpa using G
   have ef:xB (y::es)=y::xB es:=Ak3 (by rw[hy'];rfl);cases j with
   | zero=>
    simp at h;exact⟨0,y,by rw[<-h];rfl,rfl,by rw[ef];rfl⟩
   | succ j=>
    rw[AkU]at h;obtain⟨i,x,h1,h2,h3⟩:=Yo es (d+1) j k h;exact⟨i+1,x,by rw[h1];congr 1;omega,h2,by rw[ef];exact h3⟩
theorem QD:∀(es:List En) (d:Nat),(HJ d es).length=(xB es).length
 | [],d=>rfl
 | y::es,d=>by
  rw[HJ];by_cases G:y.gone=true
  .rw[Ajl G,QD es (d+1)];show _=((y::es).filter λx=>!x.gone).length
   rw[Ak4 (by rw[G];decide)]
  .have hy':y.gone=false:=by simpa using G
   rw[Ajj G,Ajk,QD es (d+1)];show _=((y::es).filter λx=>!x.gone).length
   rw[Ak3 (by rw[hy'];rfl),Ajk]
section
variable {Z22:Hp}{R:Rr}
theorem gK {p:Option Addr}{n c:Nat}{xs:List Int}(hr:DB .u64 Z22 p n xs)(hn:n<=4000000)(h:∀G c' Z',DB .u64 (Z22.new Z') G n xs->Ext Z22 Z'->R (.returned (.slice G n c')) Z'):Spec prog 52 #[.slice p n c] Z22 R:=
 SA.start λb3 h3=>Kq (Fo.of_map hr) FL.Pr (by omega) (λG c' Z' ho hx=>⟨_,_,_,rfl,h G c' Z' (DS.rd ho) hx⟩) h3
theorem Uq {v fl:Int}{p:Option Addr}{n c:Nat}{es:List En}(hr:Ae 9 F3 Z22 p n es)(hn:n<=4000000)(h:∀p' c' Z',AN 9 F3 Z22 Z' p' n c' es->R (.returned (.agg #[.U v,.I fl,.slice p' n c'])) Z'):
  Spec prog 42 #[.agg #[.U v,.I fl,.slice p n c]] Z22 R:=by
 have hl:es.length=n:=hr.1;refine DD.start λb1 b2 b3=>?_
 suffices H:∀d k:Nat,∀Z1 p3 c3,AN 9 F3 Z22 Z1 p3 k c3 (es.take k)->n-k=d->k<=n->DD.Dp R 0 0 none 0 0 v fl p3 k c3 p n c (n:Int) (k:Int) Z1 from H n 0 Z22 none 0 (AN.nil (.refl Z22)) rfl (Ajy _)
 intro d
 induction d with
 | zero=>
  intro k Z1 p3 c3 G hd hk;obtain rfl:k=n:=by omega
  rw[Ajq (by omega)]at G;exact DD.Bp ⟨λhh=>by omega,λ_=>h p3 c3 Z1 G⟩
 | succ d ih=>
  intro k Z1 p3 c3 G hd hk;have Cs:k<n:=by omega
  obtain⟨x,hx⟩:=hr.ex Cs;obtain⟨b,o,q,j,c',rfl,Dy,hs,hj⟩:=F3.at (hr.mono F3.mono G.up) hx;refine DD.Bp ⟨λ_=>⟨b,o,rfl,by unfold In;omega,_,_,_,_,_,_,_,_,_,_,_,by simpa using Dy,λb5 U8 h15=>?_⟩,λhh=>by omega⟩;refine Kq (Fo.of_map hs) FL.Pr (by omega) (λiD cE Z2 B6 Ao=>⟨_,_,_,rfl,λNT h25=>?_⟩) h15;have hE:F3 (Z2.del p3) (enV x iD j cE) x:=⟨iD,j,cE,rfl,(DS.rd B6).mono (G.new Ao),hj⟩;refine AN.FN F3.mono (G.mono F3.mono Ao) rfl (F3.one _ _ _ hE) hE (by omega) (λai aj Z3 Di _=>⟨_,_,_,rfl,by unfold AL;omega,?_⟩) h25;have:=ih (k+1) Z3 ai aj (by rw[AU hx];exact Di) (by omega) (by omega);rw[show((k+1:Nat):Int)=(k:Int)+1 by omega]at this;exact this
theorem Ur {v fl:Int}{p:Option Addr}{n c:Nat}{es:List En}(hr:Ae 9 F3 Z22 p n es)(hn:n<=4000000)(h:∀p' c' Z',AN 9 F3 Z22 Z' p' n c' es->R (.returned (.agg #[.U v,.I fl,.slice p' n c'])) Z'):
  Spec prog 20 #[.agg #[.U v,.I fl,.slice p n c]] Z22 R:=by
 have hl:es.length=n:=hr.1;refine EW.start λb1 b2 b3=>?_
 suffices H:∀d k:Nat,∀Z1 p3 c3,AN 9 F3 Z22 Z1 p3 k c3 (es.take k)->n-k=d->k<=n->EW.CD R v fl p n c 0 0 none 0 0 v fl p3 k c3 (k:Int) Z1 from H n 0 Z22 none 0 (AN.nil (.refl Z22)) rfl (Ajy _)
 intro d
 induction d with
 | zero=>
  intro k Z1 p3 c3 G hd hk;obtain rfl:k=n:=by omega
  rw[Ajq (by omega)]at G;exact EW.A5 ⟨λhh=>by omega,λ_=>h p3 c3 Z1 G⟩
 | succ d ih=>
  intro k Z1 p3 c3 G hd hk;have Cs:k<n:=by omega
  obtain⟨x,hx⟩:=hr.ex Cs;obtain⟨b,o,q,j,c',rfl,Dy,hs,hj⟩:=F3.at (hr.mono F3.mono G.up) hx;refine EW.A5 ⟨λ_=>⟨b,o,rfl,by unfold In;omega,_,_,_,_,_,_,_,_,_,_,_,by simpa using Dy,λb5=>gK hs hj λai aj Z2 Ff Ao=>⟨_,_,_,rfl,λzl h32=>?_⟩⟩,λhh=>by omega⟩;have hE:F3 (Z2.del p3) (enV x ai j aj) x:=⟨ai,j,aj,rfl,Ff.mono (G.new Ao),hj⟩;refine AN.FN F3.mono (G.mono F3.mono Ao) rfl (F3.one _ _ _ hE) hE (by omega) (λzY xr Z3 Di _=>⟨_,_,_,rfl,by unfold AL;omega,?_⟩) h32;have:=ih (k+1) Z3 zY xr (by rw[AU hx];exact Di) (by omega) (by omega);rw[show((k+1:Nat):Int)=(k:Int)+1 by omega]at this;exact this
theorem xC {v fl:Int}{p:Option Addr}{n c:Nat}{es:List En}(hr:Ae 9 F3 Z22 p n es)(hn:n<=4000000)(h:∀p' m c' Z',DB .i64 Z' p' m (HJ 0 es)->Ext Z22 Z'->R (.returned (.slice p' m c')) Z'):
  Spec prog 84 #[.agg #[.U v,.I fl,.slice p n c]] Z22 R:=by
 have hl:es.length=n:=hr.1;refine Bz.start λb1=>?_
 suffices H:∀d k:Nat,∀Z1 p3 m c3,AN 1 (FK .i64) Z22 Z1 p3 m c3 (HJ 0 (es.take k))->m<=k->n-k=d->k<=n->Bz.A4 R p3 m c3 p n c (n:Int) (k:Int) Z1 from H n 0 Z22 none 0 0 (AN.nil (.refl Z22)) (Ajt _) rfl (Ajy _)
 intro d
 induction d with
 | zero=>
  intro k Z1 p3 m c3 ho hm hd hk;rw[Ajq (by omega)]at ho;exact Bz.AX ⟨λhh=>by omega,λ_=>h p3 m c3 Z1 (ho.rd (FK.mono _)) ho.up⟩
 | succ d ih=>
  intro k Z1 p3 m c3 ho hm hd hk;have Cs:k<n:=by omega
  obtain⟨x,hx⟩:=hr.ex Cs;obtain⟨b,o,q,j,c',rfl,Dy,hs,hj⟩:=F3.at (hr.mono F3.mono ho.up) hx;have next:∀Z2 p2 m2 c2,AN 1 (FK .i64) Z22 Z2 p2 m2 c2 (HJ 0 (es.take (k+1)))->m2<=k+1->Bz.Iy R p2 m2 c2 (aD b o) n c (n:Int) (k:Int) Z2:=λZ2 p2 m2 c2 h2 h3=>by
   have:=ih (k+1) Z2 p2 m2 c2 h2 h3 (by omega) (by omega);rw[show((k+1:Nat):Int)=(k:Int)+1 by omega]at this;exact Bz.Em ⟨by unfold AL;omega,this⟩
  have G:HJ 0 (es.take (k+1))=HJ 0 (es.take k)++(if x.gone then[] else[(k:Int)]):=by
   rw[AU hx,Yn];rw[show 0+(es.take k).length=k by rw[AkA];omega]
  refine Bz.AX ⟨λ_=>⟨b,o,rfl,by unfold In;omega,_,_,_,_,_,_,_,_,_,_,_,by simpa using Dy,λb5=>⟨λhg HE h19=>?_,λhg=>?_⟩⟩,λhh=>by omega⟩
  .rw[hg,Ajj (by decide)]at G;have hE:FK .i64 (Z1.del p3) [.I (k:Int)] (k:Int):=rfl;refine AN.FN (FK.mono _) ho rfl (FK.AUe _ _ _ hE) hE (by omega) (λUR R9 Z2 B6 _=>⟨_,_,_,rfl,next Z2 UR (m+1) R9 (by rw[G];exact B6) (by omega)⟩) h19
  .rw[hg,Ajl rfl,Akq]at G;exact next Z1 p3 m c3 (by rw[G];exact ho) (by omega)
def Kr (fl:Int)(es:List En):List En:=if IJ fl es then xB es else[]
theorem ll {v fl:Int}{p:Option Addr}{n c:Nat}{es:List En}(hr:Ae 9 F3 Z22 p n es)(hn:n<=4000000)(h:∀p' m c' Z',Ae 7 qQ Z' p' m (Kr fl es)->Ext Z22 Z'->R (.returned (.slice p' m c')) Z'):
  Spec prog 53 #[.agg #[.U v,.I fl,.slice p n c]] Z22 R:=by
 have hl:es.length=n:=hr.1;refine DC.start λb1=>Sv hr λZ1 BC=>⟨_,rfl,λAv=>?_,λheq=>?_⟩
 .have h0:IJ fl es=false:=by
   cases hh:IJ fl es with
   | false=>rfl
   | true=>rw[hh]at Av;exact absurd rfl Av
  have:=h none 0 0 Z1;unfold Kr at this;rw[h0]at this;exact this Ae.nil BC
 have Aa:IJ fl es=true:=by
  cases hh:IJ fl es with
  | true=>rfl
  | false=>rw[hh]at heq;exact absurd (by decide) heq
 unfold Kr at h;rw[Aa,Ajl rfl]at h;refine Uq (hr.mono F3.mono BC) hn λpc cc Z2 hoc=>⟨_,_,_,_,_,rfl,λb3=>xC (hr.mono F3.mono (BC.trans hoc.up)) hn λpl m cl Z3 lQ CE=>⟨_,_,_,rfl,?_⟩⟩;have hrc:=(hoc.rd F3.mono).mono F3.mono CE;have hml:(HJ 0 es).length=m:=lQ.1;have hmn:m<=n:=by
  rw[<-hml,QD];have:=AkG (λx:En=>!x.gone) es;show((es.filter λx=>!x.gone)).length<=n
  omega
 have X3:Ext Z22 Z3:=BC.trans (hoc.up.trans CE)
 suffices H:∀d k:Nat,∀Z4 p4 c4,AN 7 qQ Z3 Z4 p4 k c4 ((xB es).take k)->m-k=d->k<=m->DC.HR R v fl pc n cc p4 k c4 pl m cl (m:Int) (k:Int) Z4 from H m 0 Z3 none 0 (AN.nil (.refl Z3)) rfl (Ajy _)
 intro d
 induction d with
 | zero=>
  intro k Z4 p4 c4 G hd hk;obtain rfl:k=m:=by omega
  rw[Ajq (by rw[<-QD es 0];omega)]at G;exact DC.CF ⟨λhh=>by omega,λ_=>h p4 k c4 Z4 (G.rd qQ.mono) (X3.trans G.up)⟩
 | succ d ih=>
  intro k Z4 p4 c4 G hd hk;have Cs:k<m:=by omega
  obtain⟨z,hz⟩:=lQ.ex Cs;obtain⟨i,x,h1,h2,h3⟩:=Yo es 0 k z hz;rw[Akn]at h1;subst h1;obtain⟨b,o,rfl,hlz⟩:=(lQ.mono G.up).at hz;have hi:i<n:=by rw[<-hl];exact(Ajn.1 h2).1
  obtain⟨bc,oc,q,j,c',rfl,Dy,hs,hj⟩:=F3.at hrc h2;refine DC.CF ⟨λ_=>⟨b,o,rfl,by unfold In;omega,_,by simpa using hlz,bc,oc,rfl,by unfold In;omega,_,_,_,_,_,_,_,_,_,by simpa using(A2.left (l:=meV x q j c') (m:=[.bool x.gone,.I x.at_]) Dy).mono G.up,λmh h26=>?_⟩,λhh=>by omega⟩;have hE:qQ (Z4.del p4) (meV x q j c') x:=⟨q,j,c',rfl,hs.mono G.2,hj⟩;refine AN.FN qQ.mono G rfl (qQ.one _ _ _ hE) hE (by omega) (λp27 yB Z5 Sb _=>⟨_,_,_,rfl,by unfold AL;omega,?_⟩) h26;have:=ih (k+1) Z5 p27 yB (by rw[AU h3];exact Sb) (by omega) (by omega);rw[show((k+1:Nat):Int)=(k:Int)+1 by omega]at this;exact this
theorem gL {p q:Option Addr}{n m c d:Nat}{xs ys:List Int}(hx:DB .u64 Z22 p n xs)(hy:DB .u64 Z22 q m ys)(h:R (.returned (.bool (decide (xs=ys)))) Z22):Spec prog 22 #[.slice p n c,.slice q m d] Z22 R:=by
 have RV:=hx.big;have YA:xs.length=n:=hx.1;have fU:ys.length=m:=hy.1;refine C0.start ⟨λAv=>?_,λheq=>?_⟩
 .rw[Aj1 (λe=>Av (by rw[e]at YA;omega))]at h;exact h
 have hnm:n=m:=by omega
 subst hnm
 suffices H:∀g k:Nat,n-k=g->k<=n->xs.take k=ys.take k->C0.FA R p n c q n d (k:Int) Z22 from H n 0 rfl (Ajy _) rfl
 intro g
 induction g with
 | zero=>
  intro k hg hk he;rw[Ajq (by omega),Ajq (by omega)]at he;rw[Aj0 he]at h;exact C0.DH ⟨λhh=>by omega,λ_=>h⟩
 | succ g ih=>
  intro k hg hk he;have Cs:k<n:=by omega
  obtain⟨x,Ug⟩:=hx.ex Cs;obtain⟨y,G⟩:=hy.ex Cs;obtain⟨b,o,rfl,hl⟩:=hx.at Ug;obtain⟨b2,o2,rfl,iI⟩:=hy.at G;refine C0.DH ⟨λ_=>⟨b,o,rfl,by unfold In;omega,x,by simpa using hl,b2,o2,rfl,by unfold In;omega,y,by simpa using iI,λAv=>?_,λheq=>⟨by unfold AL;omega,?_⟩⟩,λhh=>by omega⟩
  .rw[Aj1 (λe=>Av (by rw[e,G]at Ug;cases Ug;rfl))]at h;exact h
  .have e:=AkK.1 heq;subst e;have:=ih (k+1) (by omega) (by omega) (by rw[AU Ug,AU G,he]);rw[show((k+1:Nat):Int)=(k:Int)+1 by omega]at this;exact this
end
theorem tX:∀{T:List Nd} {st r:List Int},E6 T st=some r->∀n∈T,E5 n=true/\GH Dt n.mt=0
 | [],_,_,_,n,hn=>by cases hn
 | x::T,st,r,h,n,hn=>by
  rw[E6]at h;by_cases G:(Bq x st).1=0
  .rw[Ajl G]at h;rcases Ajo.1 hn with rfl|hn
   .unfold Bq at G;by_cases h1:E5 n=false\/(st.length:Int)<n.parts
    .rw[Ajl h1]at G;exact absurd G (by show ¬(190:Int)=0;decide)
    .rw[Ajj h1]at G;by_cases h2:GH Dt n.mt≠0
     .rw[Ajl h2]at G;exact absurd G (by show ¬(193:Int)=0;decide)
     .exact⟨by cases hq:E5 n with
      | true=>rfl
      | false=>exact absurd (.inl hq) h1,AkK.1 h2⟩
   .exact tX h n hn
  .rw[Ajj G]at h;cases h
theorem AIu {n:Nd}(h:E5 n=true):(n.kind=2->0<=n.back/\n.back<=2147483647/\n.width=0)/\(n.kind=3->0<=n.back/\n.back<=2147483647/\0<=n.width/\n.width<=2147483647):=by
 have G:=JD h;have hp:=QA h;unfold HH at G;unfold Hb at hp;have hp:=Ajx hp
 constructor
 .intro h2;rw[Ajj (by omega),Ajl h2]at G;have hw:=hp.2.2.2.1;unfold B9 at hw;rw[Ajj (by omega),Ajl h2]at hw;unfold Ma at G;simp only[Ajz,Aj3]at G;exact⟨by omega,by omega,hw⟩
 .intro h3;rw[Ajj (by omega),Ajj (by omega),Ajl h3]at G;unfold Ma at G;simp only[Ajz,Aj3]at G;omega
section
variable {Z22:Hp}{R:Rr}
end
def Us:List Nd->List Int->Int
 | [],_=>0
 | n::t,st=>if(Bq n st).1=0 then Us t (Bq n st).2 else(Bq n st).1
def gM (t:List Nd):Int:=if Us t []≠0 then Us t [] else if(Hd t).isSome then 0 else 190
section
variable {Z22 Z' Z0:Hp}{R:Rr}
theorem dP {t:List Nd}(h:Hd t=none):gM t≠0:=by
 unfold gM;by_cases G:Us t []=0
 .rw[Ajj (by rw[G];simp),h];decide
 .rw[Ajl G];exact G
theorem lq {p:Option Addr}{n c:Nat}{t:List Nd}(hr:Ae 10 Ia Z22 p n t)(hn:n<=1000000000)(hb:∀x∈t,x.text.size<=4611686018427387904)
  (h:∀k Z',Hd t=some k->Ext Z22 Z'->R (.T #[.I k,.I 0,.I 0]) Z') (h':∀j Z',Hd t=none->Ext Z22 Z'->R (.T #[.I 0,.I j,.I (gM t)]) Z') :
  Spec prog 24 #[.slice p n c] Z22 R:=by
 have hl:t.length=n:=hr.1;refine C2.start λwb hwb=>?_
 suffices H:∀g k:Nat,∀r j e st Z',n-k=g->k<=n->j<=k->k9 Z22 Z' wb r j e st->E6 t []=E6 (t.drop k) st->Us t []=Us (t.drop k) st->C2.A4 R p n c (aD wb 0) p n c n k Z' from
  H n 0 none 0 0 [] _ rfl (Ajy _) (Ajt _) ⟨Hp.AA _ _ _,DS.nil,λa ha=>(by cases ha),hwb,.set hwb⟩ rfl rfl
 intro g
 induction g with
 | zero=>
  intro k r j e st Z' hg hk hj hW he hE;rw[AkF (by omega)]at he hE;have CA:st.length=j:=by have:=hW.own.1;simpa using this
  have ht:Hd t=AB7 t (some st):=by unfold Hd;rw[he];rfl
  have bad:Hd t=none->gM t=190:=λG=>by
   unfold gM;rw[Ajj (by rw[hE];simp[Us]),G];rfl
  refine C2.AX ⟨λAx=>by omega,λ_=>⟨wb,0,rfl,r,j,e,AJ hW.cell rfl,λh1=>?_,λh1=>⟨λRV=>?_,λjD=>?_⟩⟩⟩
  .have G:Hd t=none:=by
    rw[ht]
    match st,CA with
    | [],_=>rfl
    | [_],CA=>simp at CA;omega
    | _::_::_,_=>rfl
   have:=h' ((n:Nat):Int) Z' G hW.ext;rw[bad G]at this;exact this
  .have G:Hd t=none:=by
    rw[ht]
    match st,CA with
    | [],_=>rfl
    | [_],CA=>exact Ajj (by omega)
    | _::_::_,_=>rfl
   have:=h' ((n:Nat):Int) Z' G hW.ext;rw[bad G]at this;exact this
  .have hj1:j=1:=by omega
   subst hj1
   match st,CA with
   | [x],_=>
    obtain⟨b,o,rfl,Dy⟩:=DB.at (DS.rd hW.own) (i:=0) (x:=x) rfl;exact⟨_,1,e,AJ hW.cell rfl,b,o,rfl,by omega,x,by simpa using Dy,h x Z' (by rw[ht];exact Ajl (by omega)) hW.ext⟩
 | succ g ih=>
  intro k r j e st Z' hg hk hj hW he hE;have Cs:k<n:=by omega
  obtain⟨x,hx⟩:=hr.ex Cs;obtain⟨b,o,p1,k1,c1,q1,m1,d1,rfl,Dy,h1,h2⟩:=Ia.at hr hx;rw[BR hx,E6]at he;rw[BR hx,Us]at hE;refine C2.AX ⟨λ_=>⟨b,o,rfl,by omega,_,_,_,_,_,_,_,_,_,_,_,_,_,_,by simpa using Dy.mono hW.ext,λ_=>?_⟩,λhh=>by omega⟩;refine dE hW h1 h2 (hb x (Aju hx)) (by omega) (λr' j' e' Z2 G hW2=>⟨0,rfl,λhh=>absurd rfl hh,λ_=>⟨AO Cs hr.big,ih (k+1) r' j' e' _ Z2 (by omega) (by omega) ?_ hW2 ?_ ?_⟩⟩) λZ2 G Ao=>⟨_,rfl,λ_=>?_,λhh=>absurd G hh⟩
  .have h3:=lA (n:=x) (st:=st);have h4:(Bq x st).2.length=j':=by have:=hW2.own.1;simpa using this
   have h5:st.length=j:=by have:=hW.own.1;simpa using this
   omega
  .rw[he,Ajl G]
  .rw[hE,Ajl G]
  .have e1:gM t=(Bq x st).1:=by
    unfold gM;rw[hE,Ajj G,Ajl G]
   have:=h' (k:Int) Z2 (by unfold Hd;rw[he,Ajj G];rfl) Ao;rw[e1]at this;exact this
end
def T5 (G:Int)(x:Nd):Int:=if x.kind=2 then(if G<x.back+300 then x.back+300 else G) else if x.kind=3 then(if G<x.back+x.width then x.back+x.width else G) else G
def Mo (T:List Nd):Int:=T.foldl T5 0
theorem tY:∀(T:List Nd) (a:Int),(∀x∈T,E5 x=true)->0<=a->a<=4294967294->a<=T.foldl T5 a/\T.foldl T5 a<=4294967294
 | [],a,_,h0,G=>⟨AmC _,G⟩
 | x::T,a,hf,h0,G=>by
  obtain⟨n2,n3⟩:=AIu (hf x (Aj5 ..));have e:a<=T5 a x/\T5 a x<=4294967294:=by
   unfold T5;split
   .rename_i h;obtain⟨a1,a2,a3⟩:=n2 h;split<;>omega
   split
   .rename_i h;obtain⟨a1,a2,a3,a4⟩:=n3 h;split<;>omega
   .omega
  have:=tY T (T5 a x) (λy hy=>hf y (Ajm _ hy)) (by omega) e.2;rw[Alj];exact⟨by omega,this.2⟩
section
variable {Z22:Hp}{R:Rr}
theorem gN {p:Option Addr}{n c:Nat}{T:List Nd}{kk:Int}(hr:Ae 10 Ia Z22 p n T)(hn:n<=1000000000)(htx:∀x∈T,x.text.size<=4611686018427387904)(hty:Hd T=some kk)
  (h:∀x Z',0<=Mo T->Mo T<=4294967294->Ext Z22 Z'->R (.T #[.I (Mo T),.I x]) Z'):Spec prog 66 #[.slice p n c] Z22 R:=by
 have hl:T.length=n:=hr.1;have hf:=tX (lV hty).1;refine A8.start (Lz hr hn htx (λk Z1 hk hx=>⟨_,_,_,rfl,λhh=>absurd rfl hh,λ_=>?_⟩) λk j e Z' hk=>by rw[hty]at hk;cases hk);have EB:=hr.mono Ia.mono hx;have bd:∀i,0<=Mo (T.take i)/\Mo (T.take i)<=4294967294:=λi=>tY _ 0 (λx hx=>(hf x (Alu hx)).1) (AmC _) (by decide)
 suffices H:∀(g i:Nat) (x8:Int) (t9:Bool),n-i=g->i<=n->A8.HR R (Mo (T.take i)) x8 t9 p n c (n:Int) (i:Int) Z1 from H n 0 0 false rfl (Ajy _)
 intro g
 induction g with
 | zero=>
  intro i x8 t9 hg hi;have:=bd i;rw[Ajq (by omega)]at this ⊢;exact A8.CF ⟨λhh=>by omega,λ_=>h x8 Z1 this.1 this.2 hx⟩
 | succ g ih=>
  intro i x8 t9 hg hi;have CO:i<n:=by omega
  obtain⟨x,hxi⟩:=EB.ex CO;have yP:=Aju hxi;obtain⟨b,o,p1,k1,c1,q1,m1,d1,rfl,pP,_,_⟩:=Ia.at EB hxi;obtain⟨n2,n3⟩:=AIu (hf x yP).1;have es:Mo (T.take (i+1))=T5 (Mo (T.take i)) x:=by
   unfold Mo;rw[AU hxi,AlB];rfl
  obtain⟨bd0,bd1⟩:=bd i;have next:∀x8' t9',A8.AEl R (T5 (Mo (T.take i)) x) x8' t9' (aD b o) n c (n:Int) (i:Int) Z1:=λx8' t9'=>by
   have:=ih (i+1) x8' t9' (by omega) (by omega);rw[show((i+1:Nat):Int)=(i:Int)+1 by omega,es]at this;exact A8.sK ⟨AO CO EB.big,this⟩
  have oS:∀{Aba Abb:Int} {Abc:ByteArray} {Abd:Option Addr} {y2 y3:Nat} {y4 y5 y6:Int} {y7:Option Addr} {y8 y9:Nat} {y10:Bool} {y12:Int} (v:Int),(if Mo (T.take i)<v then v else Mo (T.take i))=T5 (Mo (T.take i)) x->A8.Wg R (Mo (T.take i)) x8 t9 Aba Abb Abc Abd y2 y3 y4 y5 y6 y7 y8 y9 y10 y12 v (aD b o) n c (n:Int) (i:Int) Z1:=λv e=>by
   have go:∀z,A8.fG R (if Mo (T.take i)<v then v else Mo (T.take i)) z (aD b o) n c (n:Int) (i:Int) Z1:=λz=>by
    rw[e];exact A8.Vi (next _ _)
   exact A8.SE ⟨λ_=>go _,λ_=>⟨λ_=>go _,λ_=>go _⟩⟩
  refine A8.CF ⟨λ_=>⟨b,o,rfl,by unfold In;omega,_,_,_,_,_,_,_,_,_,_,_,_,_,_,by simpa using pP,λ_=>⟨λG=>⟨λk3=>?_,λk3=>?_⟩,λG=>?_⟩⟩,λhh=>by omega⟩
  .have:=next x8 t9
   unfold T5 at this;rw[Ajj G,Ajj k3]at this;exact this
  .have k3:=AkK.1 k3;obtain⟨a1,a2,a3,a4⟩:=n3 k3;exact⟨by unfold AL;omega,λhk=>absurd hk G,λ_=>oS _ (by unfold T5;rw[Ajj G,Ajl k3])⟩
  .have G:=AkK.1 G;obtain⟨a1,a2,a3⟩:=n2 G;exact⟨by unfold AL;omega,λ_=>⟨by unfold AL;omega,oS _ (by unfold T5;rw[Ajl G,a3,Int.add_zero])⟩,λhk=>absurd G hk⟩
end
def cnV (v:Int):Prop:=(Qc v.toNat=false/\0<=v)\/v=9221120237041090560
def AUg (l:List El):Prop:=l.Pairwise λa b=>Ay a.ls b.ls<0
def ElS (ss:List Sr)(e:El):Prop:=VL e.ls=0/\(cnV e.v\/∃s∈ss,∃p∈s.ps,p.2=e.v)
structure VS (ss:List Sr)(x:Vv):Prop where
 el:∀e∈x.vec,ElS ss e
 up:AUg x.vec
 rg:∀r∈x.RG,VL r.ls=0
 one:x.kind=1->cnV x.v
theorem QE:∀{ss:List Sr} {q:Option (List Lb)},DU q ss=true->(∀k,q=some k->∀s∈ss,Ay k s.ls<0)/\ss.Pairwise λa b=>Ay a.ls b.ls<0
 | [],q,_=>⟨λk _ s hs=>(by cases hs),.nil⟩
 | s::l,q,h=>by
  rw[P5]at h;simp only[Ajz]at h;obtain⟨h1,h2⟩:=QE h.2;refine⟨λk hk u G=>?_,AkN.2 ⟨λu G=>h1 s.ls rfl u G,h2⟩⟩;subst hk;have h3:Ay k s.ls<0:=Ajx h.1.2;rcases Ajo.1 G with rfl|G
  .exact h3
  .exact Ad.trans _ _ _ h3 (h1 s.ls rfl u G)
end TwW
end
section
namespace TwW
open Ieee
theorem fb:((double.fractionBits:Nat):Int)=52:=by kernel_rfl
end TwW
end
section
namespace TwW
open Go Tw Go.RowKit Go.Proofs.Tryz
def fnW:List ByteArray:=[⟨#[]⟩,⟨#[114,97,116,101]⟩,⟨#[105,110,99,114,101,97,115,101]⟩,⟨#[100,101,108,116,97]⟩,⟨#[115,117,109,95,111,118,101,114,95,116,105,109,101]⟩,⟨#[97,118,103,95,111,118,101,114,95,116,105,109,101]⟩,⟨#[109,105,110,95,111,118,101,114,95,116,105,109,101]⟩,⟨#[109,97,120,95,111,118,101,114,95,116,105,109,101]⟩,⟨#[99,111,117,110,116,95,111,118,101,114,95,116,105,109,101]⟩,⟨#[108,97,115,116,95,111,118,101,114,95,116,105,109,101]⟩,⟨#[119,97,118,101]⟩,⟨#[97,98,115]⟩,⟨#[102,108,111,111,114]⟩]
def agW:List ByteArray:=[⟨#[]⟩,⟨#[115,117,109]⟩,⟨#[109,105,110]⟩,⟨#[109,97,120]⟩,⟨#[97,118,103]⟩,⟨#[99,111,117,110,116]⟩]
def opW:List ByteArray:=[⟨#[]⟩,⟨#[43]⟩,⟨#[45]⟩,⟨#[42]⟩,⟨#[47]⟩,⟨#[61,61]⟩,⟨#[33,61]⟩,⟨#[60]⟩,⟨#[60,61]⟩,⟨#[62]⟩,⟨#[62,61]⟩,⟨#[97,110,100]⟩,⟨#[111,114]⟩,⟨#[117,110,108,101,115,115]⟩]
def ACh:List ByteArray->ByteArray->Nat->Nat
 | [],_,_=>0
 | x::l,s,k=>if x=s/\s≠⟨#[]⟩ then k else ACh l s (k+1)
def Ja (l:List ByteArray)(s:ByteArray):Nat:=ACh l s 0
def AF7:List ByteArray:=[⟨#[111,114]⟩,⟨#[97,110,100]⟩,⟨#[117,110,108,101,115,115]⟩,⟨#[98,111,111,108]⟩,⟨#[111,110]⟩,⟨#[105,103,110,111,114,105,110,103]⟩,⟨#[98,121]⟩,⟨#[119,105,116,104,111,117,116]⟩,⟨#[111,102,102,115,101,116]⟩]
def lr (s:ByteArray):Bool:=Fa s AF7||decide (0<Ja fnW s)||decide (0<Ja agW s)
structure Cl where
 kind:Int
 text:ByteArray
 span:Int
 op:Nat
 fn:Nat
 ag:Nat
 kept:Bool
 big:Bool
 name:Bool
 lp:Bool
 rp:Bool
 comma:Bool
 lsq:Bool
 rsq:Bool
 lbr:Bool
 minus:Bool
 bool:Bool
 on:Bool
 ign:Bool
 qR:Bool
 out:Bool
 off:Bool
def GN (k:Int)(s:ByteArray)(j:Int)(t:ByteArray):Bool:=decide (k=j)&&decide (s=t)
def Ut (k:Int)(s:ByteArray)(v:Int):Cl where
 kind:=k
 text:=s
 span:=v
 op:=Ja opW s
 fn:=Ja fnW s
 ag:=Ja agW s
 kept:=lr s
 big:=decide (256<s.size)
 name:=decide (k=3)&&Dt s
 lp:=GN k s 5 ⟨#[40]⟩
 rp:=GN k s 5 ⟨#[41]⟩
 comma:=GN k s 5 ⟨#[44]⟩
 lsq:=GN k s 5 ⟨#[91]⟩
 rsq:=GN k s 5 ⟨#[93]⟩
 lbr:=GN k s 5 ⟨#[123]⟩
 minus:=GN k s 5 ⟨#[45]⟩
 bool:=GN k s 3 ⟨#[98,111,111,108]⟩
 on:=GN k s 3 ⟨#[111,110]⟩
 ign:=GN k s 3 ⟨#[105,103,110,111,114,105,110,103]⟩
 qR:=GN k s 3 ⟨#[98,121]⟩
 out:=GN k s 3 ⟨#[119,105,116,104,111,117,116]⟩
 off:=GN k s 3 ⟨#[111,102,102,115,101,116]⟩
def AMR (op:Nat)(b:Bool):Nd:=⟨6,op,⟨#[]⟩,[],0,0,0,[],b,2⟩
def lu:Nd:=⟨7,0,⟨#[]⟩,[],0,0,0,[],false,1⟩
def xD (s:ByteArray):Nd:=⟨1,0,s,[],0,0,0,[],false,0⟩
def dQ (op:Nat):Nd:=⟨4,op,⟨#[]⟩,[],0,0,0,[],false,1⟩
def xE (op:Nat)(g:Int)(ns:List ByteArray):Nd:=⟨5,op,⟨#[]⟩,[],0,0,g,ns,false,1⟩
def Abe (s:ByteArray):Nd:=⟨2,0,⟨#[]⟩,[⟨1,Eb,s⟩],0,0,0,[],false,0⟩
def Abf (s:ByteArray)(w:Int):Nd:=⟨3,0,⟨#[]⟩,[⟨1,Eb,s⟩],w,0,0,[],false,0⟩
def nmZ:Nat->List Cl->List ByteArray->Option (List ByteArray×List Cl)
 | 0,_,_=>none
 | _+1,[],_=>none
 | f+1,c::r,ns=>if c.rp then some (ns,r) else if ns.length=0 then(if c.name then nmZ f r (ns++[c.text]) else none) else if c.comma then(match r with
  | []=>none
  | w::r'=>if w.name then nmZ f r' (ns++[w.text]) else none) else none
def qS:List Cl->Option (Int×List ByteArray×List Cl)
 | []=>none
 | c::r=>if c.qR||c.out then match r with
   | []=>none
   | e::r=>if e.lp then(nmZ 8 r []).map λx=>(if c.qR then 1 else 2,x.1,x.2) else none
  else some (0,[],c::r)
def AGA (c:Cl)(r:List Cl):Option (List Cl×List Nd):=match r with
 | []=>none
 | a::r'=>if a.lbr then none else if a.lsq then match r' with
   | s::e::o::G=>if s.kind=2/\e.rsq=true/\o.off=false then some (o::G,[Abf c.text s.span]) else none
   | _=>none
  else if a.off then none else some (a::r',[Abe c.text])
def H4:Nat->Int×Int
 | 0=>(12,12)
 | 1=>(11,13)
 | 2=>(5,10)
 | 3=>(1,2)
 | _=>(3,4)
def pz:Nat->Nat->Int->List Cl->Option (List Cl×List Nd)
 | 0,_,_,_=>none
 | f+1,l,d,ts=>
  if l<5 then(pz f (l+1) d ts).bind λx=>(pz f (l+10) d x.1).map λy=>(y.1,x.2++y.2)
  else if 10<=l then match ts with
   | []=>none
   | c::r=>if(c.kind≠5/\c.kind≠3)\/(c.op:Int)<(H4 (l-10)).1\/(H4 (l-10)).2<(c.op:Int)\/(l=11/\c.op=12) then some (c::r,[])
    else match r with
     | []=>none
     | b::r'=>let bl:=decide (5<=c.op)&&decide (c.op<=10)&&b.bool
      match (bif bl then r' else b::r') with
      | []=>none
      | g::G=>if g.on||g.ign then none else
       (pz f (l-9) d (g::G)).bind λx=>(pz f l d x.1).map λy=>(y.1,x.2++AMR c.op bl::y.2)
  else match ts with
   | []=>none
   | c::r=>
    if l=5 then if c.minus then if d=64 then none else(pz f 5 (d+1) r).map λx=>(x.1,x.2++[lu]) else pz f 6 d (c::r)
    else if l=6 then
     if c.kind=1 then some (r,[xD c.text])
     else if c.lp then pz f 7 d (c::r)
     else if c.kind≠3 then none
     else if 0<c.fn then(pz f 7 d r).map λx=>(x.1,x.2++[dQ c.fn])
     else if 0<c.ag then(qS r).bind λg=>(pz f 7 d g.2.2).map λx=>(x.1,x.2++[xE c.ag g.1 g.2.1])
     else if c.kept||c.big then none
     else AGA c r
    else if c.lp=true/\d≠64 then(pz f 0 (d+1) r).bind λx=>match x.1 with
      | []=>none
      | e::r'=>if e.rp then some (r',x.2) else none
     else none
section
variable {Z22 Z':Hp}{R:Rr}{p:Option Addr}{n c:Nat}{ss:List Sr}
set_option maxRecDepth 100000 in
theorem AUh {x y : Operand} {a b a' b' : ByteArray} : YF prog (do eqGuard .neq 144 x y (.agg #[.string a,.string b]) (.agg #[.string a',.string b']); binOp .neq 144 (.agg #[.string a,.string b]) (.agg #[.string a',.string b'])) Z22 (.bool (!(a.toList == a'.toList && b.toList == b'.toList))) := λw _ => by
 have u9 := underlying9
 have hS : prog.underlying 144 = some (.struct (prog.fieldsOf 144)) := by kernel_rfl
 have hp : prog.stoodInHeld 144 = false := by kernel_rfl
 have hf : (prog.fieldsOf 144).toList = [{ name := "Name",type := 9,offset := 0,embedded := false,tag := "",pkgPath := "",byteOffset := 0 },{ name := "Value",type := 9,offset := 1,embedded := false,tag := "",pkgPath := "",byteOffset := 16 }] := by kernel_rfl
 simp only [Sem.run_bind,run_eqGuard_agg _ _ _ _ _ _ _ (show prog.eqGuardType prog.depth 144 = false by kernel_rfl),Result.andThen_ok,run_neq_struct]
 rw [show (10000 : Nat) = 9999 + 1 from rfl,run_equalIn_agg w 9999 144 _ _ hS hp,hf]
 simp only [Op.eqFields]
 go_simp
 by_cases h1 : a.toList = a'.toList <;> by_cases h2 : b.toList = b'.toList <;> simp [h1,h2]
theorem qT {p p':Option Addr}{n n' c c':Nat}{ls:List Lb}(G:HG Z22 p n ls)(h2:HG Z22 p' n' ls)(hR:R (.B true) Z22):Spec prog 48 #[.slice p n c,.slice p' n' c'] Z22 R:=by
 have e1:ls.length=n:=G.1;have e2:ls.length=n':=h2.1;refine Dm.start ⟨λAv=>absurd (by omega) Av,λ_=>?_⟩
 suffices H:∀d i:Nat,n-i=d->i<=n->Dm.FA R p n c p' n' c' i Z22 from H n 0 rfl (Ajy _)
 intro d
 induction d with
 | zero=>exact λi hd hi=>Dm.DH ⟨λAx=>by omega,λ_=>hR⟩
 | succ d ih=>
  intro i hd hi;obtain⟨x,hx⟩:=G.ex (show i<n by omega);obtain⟨b,o,rfl,l1⟩:=HG.at G hx;obtain⟨b',o',rfl,l2⟩:=HG.at h2 hx;exact Dm.DH ⟨λ_=>⟨b,o,rfl,by omega,x.1,x.2,by simpa using l1,b',o',rfl,by omega,x.1,x.2,by simpa using l2,_,AUh,λhh=>by simp at hh,λ_=>⟨AO (by omega) G.big,ih (i+1) (by omega) (by omega)⟩⟩,λhh=>by omega⟩
theorem Yp {q:Option Addr}{m d:Nat}(G:Ae 2 BX Z22 p n ss)(h2:Ae 2 BX Z22 q m ss)(hR:R (.B true) Z22):Spec prog 17 #[.slice p n c,.slice q m d] Z22 R:=by
 have e1:ss.length=n:=G.1;have e2:ss.length=m:=h2.1;refine Dq.start ⟨λAv=>absurd (by omega) Av,λ_=>?_⟩
 suffices H:∀d' i:Nat,n-i=d'->i<=n->Dq.FA R p n c q m d i Z22 from H n 0 rfl (Ajy _)
 intro d'
 induction d' with
 | zero=>exact λi hd hi=>Dq.DH ⟨λAx=>by omega,λ_=>hR⟩
 | succ d' ih=>
  intro i hd hi;obtain⟨x,hx⟩:=G.ex (show i<n by omega);obtain⟨b,o,p1,k1,c1,q1,m1,d1,rfl,l1,Abg,Abh,_⟩:=BX.at G hx;obtain⟨b',o',p2,k2,c2,q2,m2,d2,rfl,l2,Abi,Abj,_⟩:=BX.at h2 hx;exact Dq.DH ⟨λ_=>⟨b,o,rfl,by omega,p1,k1,c1,by simpa using l1.1,b',o',rfl,by omega,p2,k2,c2,by simpa using l2.1,qT Abg Abi ⟨_,rfl,λhh=>(by cases hh),λ_=>⟨by omega,q1,m1,d1,by simpa using l1.2.1,by omega,q2,m2,d2,by simpa using l2.2.1,lW Abh Abj ⟨_,rfl,λhh=>(by cases hh),λ_=>⟨AO (by omega) G.big,ih (i+1) (by omega) (by omega)⟩⟩⟩⟩⟩,λhh=>by omega⟩
end
theorem BZ {ρ M:Hp}{b:Nat}{o:Obj}(h:ρ b=none):(ρ.or M).set b o=ρ.or (M.set b o):=by
 funext k
 by_cases e:k=b
 .subst e;rw[Hp.AA,Hp.Cn h,Hp.AA]
 .rw[Hp.AB e];cases G:ρ k with
  | some u=>rw[Hp.Cf G,Hp.Cf G]
  | none=>rw[Hp.Cn G,Hp.Cn G,Hp.AB e]
theorem Gw {ρ M:Hp}{b:Nat}{o:Obj}:(ρ.or M).set b o=(ρ.set b o).or M:=by
 funext k
 by_cases e:k=b
 .subst e;rw[Hp.AA,Hp.Cf (Hp.AA _ _ _)]
 .rw[Hp.AB e];cases G:ρ k with
  | some u=>rw[Hp.Cf G,Hp.Cf (by rw[Hp.AB e];exact G)]
  | none=>rw[Hp.Cn G,Hp.Cn (by rw[Hp.AB e];exact G)]
theorem or_none {ρ M:Hp}{b:Nat}(h:(ρ.or M) b=none):ρ b=none/\M b=none:=by
 cases G:ρ b with
 | some u=>rw[Hp.Cf G]at h;cases h
 | none=>rw[Hp.Cn G]at h;exact⟨rfl,h⟩
theorem H5 {ρ M:Hp}{b:Nat}{o:Obj}(h:FI ρ M)(hb:ρ b=none):FI ρ (M.set b o):=λk G=>by
 by_cases e:k=b
 .subst e;exact hb
 .rw[Hp.AB e]at G;exact h k G
theorem VT {ρ M:Hp}{b:Nat}{o:Obj}(h:FI ρ M)(hb:M b=none):FI (ρ.set b o) M:=λk G=>by
 have e:k≠b:=λe=>G (by rw[e];exact hb);rw[Hp.AB e];exact h k G
theorem Ext.parts {ρ M Z':Hp}(hd:FI ρ M)(h:Ext (ρ.or M) Z'):∃ρ',Ext ρ ρ'/\FI ρ' M/\Z'=ρ'.or M/\Ext ((ρ.or M).new Z') ρ':=by
 refine⟨Z'.minus M,Ext.ABg ((Ext.Cf ρ M).trans h) (λk G=>?_),λk G=>?_,?_,λk o G=>?_⟩
 .cases hm:M k with
  | none=>rfl
  | some u=>exact absurd (hd k (by rw[hm];simp)) G
 .unfold Hp.minus;cases hm:M k with
  | none=>exact absurd hm G
  | some u=>rfl
 .funext k
  cases hm:M k with
  | none=>
   cases G:Z' k with
   | none=>rw[Hp.Cn (by unfold Hp.minus;rw[hm];exact G),hm]
   | some u=>rw[Hp.Cf (Hp.HY.2 ⟨hm,G⟩)]
  | some u=>
   have:(Z'.minus M) k=none:=by unfold Hp.minus;rw[hm]
   rw[Hp.Cn this,hm];exact h _ _ (by rw[Hp.Cn (hd k (by rw[hm];simp))];exact hm)
 .obtain⟨k1,k2⟩:=Af.1 G;exact Hp.HY.2 ⟨(or_none k1).2,k2⟩
theorem Dd {f:FuncId}{args:Array Value}{ρ M:Hp}{R:Rr}(hd:FI ρ M)(h:Spec prog f args ρ λe ρ'=>FI ρ' M->R e (ρ'.or M)):Spec prog f args (ρ.or M) R:=
 Spec.ABh (Ext.Cf ρ M) (Ext.Cn hd) hd h
def TX:List Nd:=[nV]
theorem tyX:Hd TX=some 2:=by kernel_rfl
theorem txX:∀x∈TX,x.text.size<=4611686018427387904:=λx G=>by
 simp only[TX,Ajp]at G;subst G;decide
section
variable {Z22:Hp}{R:Rr}
theorem xF {p:Option Addr}{n c:Nat}(hr:Ae 10 Ia Z22 p n TX)(h:∀Z',Ext Z22 Z'->R (.T #[.I 300,.I 0]) Z'):Spec prog 66 #[.slice p n c] Z22 R:=by
 have hn:1=n:=hr.1;subst hn;refine A8.start (Lz hr (by decide) txX (λk Z1 hk hx=>⟨_,_,_,rfl,λG=>absurd rfl G,λ_=>?_⟩) λk j e Z' hk=>by rw[tyX]at hk;cases hk);have EB:=hr.mono Ia.mono hx;obtain⟨b,o,p1,k1,c1,q1,m1,d1,rfl,pP,_,_⟩:=Ia.at EB (i:=0) (x:=nV) rfl;refine A8.CF ⟨λ_=>⟨b,o,rfl,by decide,_,_,_,_,_,_,_,_,_,_,_,_,_,_,pP,λ_=>⟨λG=>absurd rfl G,λ_=>⟨AbI,λ_=>⟨AUV,A8.SE ?_⟩,λG=>absurd rfl G⟩⟩⟩,λG=>absurd (by decide) G⟩;exact⟨λ_=>A8.Vi (A8.sK ⟨by unfold AL;omega,A8.CF ⟨λG=>absurd G (by decide),λ_=>h _ hx⟩⟩),λG=>by cases G⟩
end
structure Qs where
 Gx:Int
 rd:Bool
 fl:Int
 one:Bool
 mem:List (Int×Int)
 TB:List (Int×Int)
 all:List Sr
abbrev qL (pt:Option Addr)(G m:Nat)(Gx:Int)(rd:Bool)(fl:Int)(pi:Option Addr)(ni ci fm:Nat)(pa:Option Addr)(na ca:Nat)(f:Value):Array Value:=
 #[.slice pt 1 G,.I 60,.I 60,.I 0,.map (some m),.I Gx,.bool rd,.U 0,.I fl,.slice pi ni ci,.map (some fm),.slice pa na ca,f]
abbrev qO (pt:Option Addr)(G m:Nat)(Gx:Int)(rd:Bool)(fl:Int)(pi:Option Addr)(ni ci fm:Nat)(pa:Option Addr)(na ca b:Nat)(f:Nat):Obj:=
 .cells (qL pt G m Gx rd fl pi ni ci fm pa na ca (.func (.func f) #[.pointer (aD b 0)] #[])) 72 (0,0)
theorem AI.tZ {P:Program}{Z22:Hp}{b n o:Nat}{T t:TypeId}{c c':Array Value}{v:Value}{Φ:Unit->Hp->Prop}(hz:∀w,(Go.sizeOf T).run P w=.ok n w)(hb:Z22 b=some (.cells c t (0,0)))
  (hv:v.cells.size=n) (hl:Nat.ble (o+n) c.size=true) (G:(v.cells.toList.all λu=>u.oneCell')=true) (hc:LF c o v.cells.toList=c') (h:Φ () (Z22.set b (.cells c' t (0,0)))) :
  AI P (Instr.storeAt T (.pointer (some ⟨b,o,none⟩)) v) Z22 Φ:=by
 subst hc;exact AI.store hz hb hv (Akd hl) (λu hu=>Akk.1 G u hu) h
section
variable {a0 a1 a2 a3 a4 a5 a6 a7 a8 a9 pL a11 a12 v u t:Value}
theorem AIv:LF #[a0,a1,a2,a3,a4,a5,a6,a7,a8,a9,pL,a11,a12] 5 [v]=#[a0,a1,a2,a3,a4,v,a6,a7,a8,a9,pL,a11,a12]:=rfl
theorem AIw:LF #[a0,a1,a2,a3,a4,a5,a6,a7,a8,a9,pL,a11,a12] 6 [v]=#[a0,a1,a2,a3,a4,a5,v,a7,a8,a9,pL,a11,a12]:=rfl
theorem AIx:LF #[a0,a1,a2,a3,a4,a5,a6,a7,a8,a9,pL,a11,a12] 7 [v,u,t]=#[a0,a1,a2,a3,a4,a5,a6,v,u,t,pL,a11,a12]:=rfl
theorem gO:LF #[a0,a1,a2,a3,a4,a5,a6,a7,a8,a9,pL,a11,a12] 11 [v]=#[a0,a1,a2,a3,a4,a5,a6,a7,a8,a9,pL,v,a12]:=rfl
theorem gP:LF #[a0,a1,a2,a3,a4,a5,a6,a7,a8,a9,pL,a11,a12] 12 [v]=#[a0,a1,a2,a3,a4,a5,a6,a7,a8,a9,pL,a11,v]:=rfl
end
theorem gQ:∀w,(Go.sizeOf 2).run prog w=.ok 1 w:=λw=>by kernel_rfl
theorem ACl:∀w,(Go.sizeOf 3).run prog w=.ok 1 w:=λw=>by kernel_rfl
theorem ACm:∀w,(Go.sizeOf 4).run prog w=.ok 1 w:=λw=>by kernel_rfl
theorem Vr:∀w,(Go.sizeOf 22).run prog w=.ok 1 w:=λw=>by kernel_rfl
theorem te:∀w,(Go.sizeOf 43).run prog w=.ok 3 w:=λw=>by kernel_rfl
theorem Vs:∀w,(Go.sizeOf 45).run prog w=.ok 1 w:=λw=>by kernel_rfl
instance:iN.MpJ prog 69 .i64 3 3:=⟨underlying69,underlying3⟩
instance:iN.MpJ prog 70 .u64 27 3:=⟨underlying70,underlying27⟩
theorem Pg:∀w,(zeroValue 3).run prog w=.ok (.I 0) w:=λw=>by kernel_rfl
def IxE (ρ:Hp)(one:Bool)(pi:Option Addr)(ni ci:Nat):Prop:=match one with
 | false=>pi=none/\ni=0/\ci=0
 | true=>ni=1/\∃G oi q e,pi=some ⟨G,oi,none⟩/\A2 ρ G oi (e4 q e++[.bool false,.I 0])
theorem IxE.mono {ρ ρ':Hp}{one:Bool}{pi:Option Addr}{ni ci:Nat}(h:IxE ρ one pi ni ci)(hx:Ext ρ ρ'):IxE ρ' one pi ni ci:=by
 cases one with
 | false=>exact h
 | true=>obtain⟨h1,G,oi,q,e,h2,h3⟩:=h;exact⟨h1,G,oi,q,e,h2,h3.mono hx⟩
def bG (rd:Bool):Nat:=if rd then 43 else 27
structure QU (Q:Qs)(ρ M:Hp)(b m fm:Nat):Prop where
 L6:FI ρ M
 bm:b≠m
 bf:b≠fm
 mf:m≠fm
 q:∃pt ct pi ni ci pa na ca,M b=some (qO pt ct m Q.Gx Q.rd Q.fl pi ni ci fm pa na ca b (bG Q.rd))/\Ae 10 Ia ρ pt 1 TX/\IxE ρ Q.one pi ni ci/\Ae 2 BX ρ pa na Q.all/\na<=ca
 mm:MZ .i64 M m Q.mem
 ff:MZ .u64 M fm Q.TB
 lo:-1099511627776<=Q.fl/\Q.fl<=1099511627776
theorem QU.grow {Q:Qs}{ρ ρ' M M':Hp}{b m fm:Nat}(h:QU Q ρ M b m fm)(G:Ext ρ ρ')(hd:FI ρ' M')(h1:M' b=M b)(h2:M' m=M m)(h3:M' fm=M fm):QU Q ρ' M' b m fm:=by
 obtain⟨pt,ct,pi,ni,ci,pa,na,ca,k1,k2,k3,k4,k5⟩:=h.q;exact⟨hd,h.bm,h.bf,h.mf,⟨pt,ct,pi,ni,ci,pa,na,ca,h1.trans k1,k2.mono Ia.mono G,k3.mono G,k4.mono BX.mono G,k5⟩,h.mm.loc h2,h.ff.loc h3,h.lo⟩
theorem QU.up {Q:Qs}{ρ ρ' M:Hp}{b m fm:Nat}(h:QU Q ρ M b m fm)(G:Ext ρ ρ')(hd:FI ρ' M):QU Q ρ' M b m fm:=h.grow G hd rfl rfl rfl
theorem gR {ρ M:Hp}:∀{L:List (Nat×Obj)},BW (ρ.or M) L=(BW ρ L).or M
 | []=>rfl
 | (b,o)::L=>by simp only[BW];rw[gR,Gw]
theorem BT {ρ M:Hp}(h:FI ρ M){b:Nat}{o:Obj}(G:M b=some o):(ρ.or M) b=some o:=by rw[Hp.Cn (h b (by rw[G];simp))];exact G
theorem Gy {ρ M:Hp}{m:Nat}{ik:IntKind}{L:List (Int×Int)}(h:FI ρ M)(hm:MZ ik M m L):MZ ik (ρ.or M) m L:=hm.loc (Hp.Cn (h m hm.known))
theorem MZ.dR {P:Program}{ik:IntKind}{T K V:TypeId}{Z22:Hp}{m:Nat}{L:List (Int×Int)}{k:Int}[t:iN.MpJ P T ik K V](h:MZ ik Z22 m L)(hz:∀w,(zeroValue V).run P w=.ok (.I 0) w){Φ:Value->Hp->Prop}
  (G:Φ (.I ((A3 L k).getD 0)) Z22):AI P (Instr.lookup T (.map (some m)) (.int ik k) false) Z22 Φ:=
 MZ.look (two:=false) h hz (λh0=>by rw[h0]at G;exact G) λx h1=>by rw[h1]at G;exact G
section
variable {Q:Qs}{ρ M:Hp}{b m fm:Nat}{R:Rr}
theorem L8 (h:QU Q ρ M b m fm)(hR:∀ρ',Ext ρ ρ'->FI ρ' M->R (.T #[.I (-240),.I 60]) (ρ'.or M)):Spec prog 33 #[.pointer (aD b 0)] (ρ.or M) R:=by
 obtain⟨pt,ct,pi,ni,ci,pa,na,ca,k1,k2,k3,k4,k5⟩:=h.q;have hb:=BT h.L6 k1;refine Bu.start ⟨b,0,rfl,pt,1,ct,AJ hb rfl,xF (k2.mono Ia.mono (Ext.Cf ρ M)) λZ1 BC=>⟨_,_,rfl,60,AJ (BC _ _ hb) rfl,λb6 h6=>?_⟩⟩;obtain⟨G,X1,D1,rfl,_⟩:=Ext.parts h.L6 BC;have JE:=BT D1 k1;obtain⟨r6,m6⟩:=or_none h6;have n6:b≠b6:=λe=>by rw[<-e,k1]at m6;cases m6
 show AI prog _ (BW (G.or M) [(b6,.cells #[.I 0] 2 (0,0))]) _
 refine AI.RT (L:=[(b6,.cells #[.I 0] 2 (0,0))]) (i:=0) (c:=#[.I 0]) (c':=#[.I 60]) gQ (by simp[names]) rfl rfl rfl rfl rfl ?_;intro D l r0 hDl hD hl hY;have hD:(G.or M).set b6 (.cells #[.I 60] 2 (0,0)) D=none:=hD;have hl:(G.or M).set b6 (.cells #[.I 60] 2 (0,0)) l=none:=hl;obtain⟨d6,hD⟩:=Hp.AM hD;obtain⟨l6,hl⟩:=Hp.AM hl;have nD:b≠D:=λe=>by rw[<-e,JE]at hD;cases hD
 have nl:b≠l:=λe=>by rw[<-e,JE]at hl;cases hl
 have Gz:([l,D,b6]:List Nat).Nodup:=by
  simp only[Ako,Ajo,Aj7,Akc,Ak9,Amu,Al7,Alw];exact⟨⟨λe=>hDl e.symm,l6⟩,d6⟩
 let L:Loop->Obj->List (Nat×Obj):=λlo d=>[(l,.loop lo),(D,d),(b6,.cells #[.I 60] 2 (0,0))]
 have hbS:∀lo d,BW (G.or M) (L lo d) b=some _:=λlo d=>(FY (by simp only[L,names,AkR,AlO,Ajo,Aj7,Akc,Alw];exact⟨nl,nD,n6⟩)).trans JE;show Spec prog _ #[.pointer (aD b 0),.func (.yield l) #[] #[]] (BW (G.or M) (L (lp r0 .ready none) (.deferred (some [])))) _
 refine By.start ⟨b,0,rfl,60,AJ (hbS _ _) rfl,By.LU ⟨l,rfl,hY _ _ 60 (Bd (L:=L (lp r0 .ready none) (.deferred (some []))) (i:=0) Gz rfl) (Bu.A5 ⟨Bd (L:=L (lp r0 .ready none) (.deferred (some []))) (i:=0) Gz rfl,?_⟩)⟩⟩;rw[DQ (L:=L (lp r0 .ready none) (.deferred (some []))) (i:=0) Gz rfl];refine AI.RT (L:=L (lp r0 .busy none) (.deferred (some []))) (i:=2) (c:=#[.I 60]) (c':=#[.I 60]) gQ Gz rfl rfl rfl rfl rfl ⟨Bd (L:=L (lp r0 .busy none) (.deferred (some []))) (i:=0) Gz rfl,?_⟩;show AY _ _ _ ((BW (G.or M) (L (lp r0 .busy none) (.deferred (some [])))).set l _)
 rw[DQ (L:=L (lp r0 .busy none) (.deferred (some []))) (i:=0) Gz rfl];refine⟨true,rfl,λ_=>⟨b,0,rfl,0,AJ (hbS (lp r0 .ready none) (.deferred (some []))) rfl,λhh=>absurd hh (by decide),λ_=>?_⟩,λhh=>by cases hh⟩;refine⟨_,.ready,none,rfl,Bd (L:=L (lp r0 .ready none) (.deferred (some []))) (i:=0) Gz rfl,by decide,rfl,?_⟩;have e1:(BW (G.or M) ((L (lp r0 .busy none) (.deferred (some []))).set 0 (l,.loop (lp r0 .ready none)))).set l (.loop (lp r0 .exhausted none))=BW (G.or M) (L (lp r0 .exhausted none) (.deferred (some []))):=DQ (L:=L (lp r0 .ready none) (.deferred (some []))) (i:=0) Gz rfl;rw[e1];refine⟨60,AJ (hbS (lp r0 .exhausted none) (.deferred (some []))) rfl,by unfold AL;omega,60,ldL (L:=L (lp r0 .exhausted none) (.deferred (some []))) (i:=2) Gz rfl rfl,Bd (L:=L (lp r0 .exhausted none) (.deferred (some []))) (i:=1) Gz rfl,?_⟩;rw[DQ (L:=L (lp r0 .exhausted none) (.deferred (some []))) (i:=1) Gz rfl,gR];have fN:VI (L (lp r0 .exhausted none) (.deferred none)) G:=λk hk=>by
  simp only[L,names,AkR,AlO,Ajo,Aj7,Akc]at hk;rcases hk with rfl|rfl|rfl
  .exact(or_none hl).1
  .exact(or_none hD).1
  .exact r6
 refine hR (BW G (L (lp r0 .exhausted none) (.deferred none))) (X1.trans (VI.ext Gz fN)) λk hk=>?_;rw[FY]
 .exact D1 k hk
 .simp only[L,names,AkR,AlO,Ajo,Aj7,Akc,Alw];refine⟨λe=>hk ?_,λe=>hk ?_,λe=>hk ?_⟩
  .rw[e];exact(or_none hl).2
  .rw[e];exact(or_none hD).2
  .rw[e];exact m6
theorem lv (h:QU Q ρ M b m fm)(h1:Q.one=false)(hR:∀ρ',Ext ρ ρ'->FI ρ' M->R (.returned (.N)) (ρ'.or M)):Spec prog 21 #[.pointer (aD b 0)] (ρ.or M) R:=by
 refine AT.start (L8 h λρ1 BC G=>⟨_,_,rfl,b,0,rfl,?_⟩);obtain⟨pt,ct,pi,ni,ci,pa,na,ca,k1,k2,k3,k4,k5⟩:=(h.up BC G).q;rw[h1]at k3;obtain⟨rfl,rfl,rfl⟩:=k3;have hb:=BT G k1;exact⟨0,Q.fl,none,0,0,⟨AJ hb rfl,AJ hb rfl,AJ hb rfl,trivial⟩,AF2 h.lo ⟨_,_,_,rfl,AT.Bp ⟨λhh=>absurd hh (by decide),λ_=>hR ρ1 BC G⟩⟩⟩
theorem Ph (h:QU Q ρ M b m fm)(h1:Q.one=true)(h2:Q.rd=true)(h3:Q.fl<=60)(hR:(A3 Q.TB 4).getD 0=0->∀ρ' p c,Ext ρ ρ'->FI ρ' M->DB .u64 ρ' p 1 [4]->1<=c->R (.returned (.slice p 1 c)) (ρ'.or M))
  (Mx:(A3 Q.TB 4).getD 0≠0->∀ρ',Ext ρ ρ'->FI ρ' M->R (.returned (.N)) (ρ'.or M)):Spec prog 21 #[.pointer (aD b 0)] (ρ.or M) R:=by
 refine AT.start (L8 h λρ1 BC bH=>⟨_,_,rfl,b,0,rfl,?_⟩);obtain⟨pt,ct,pi,ni,ci,pa,na,ca,k1,k2,k3,k4,k5⟩:=(h.up BC bH).q;rw[h1]at k3;obtain⟨rfl,bi,oi,q,e,rfl,hli⟩:=k3;have hb:=BT bH k1;refine⟨0,Q.fl,aD bi oi,1,ci,⟨AJ hb rfl,AJ hb rfl,AJ hb rfl,trivial⟩,AF3 h.lo (hli.mono (Ext.Cf _ _)) λZ2 b2 o2 c2 q2 e2 iI Ao=>⟨_,_,_,rfl,?_⟩⟩;obtain⟨ρ2,X2,D2,rfl,_⟩:=Ext.parts bH Ao;have Fi:=BT D2 k1;refine AT.Bp ⟨λ_=>⟨b2,o2,rfl,by decide,4,0,60,0,q2,0,e2,0,0,by simpa using iI,λ_=>⟨b,0,rfl,Q.rd,AJ Fi rfl,λ_=>⟨λ_=>⟨λ_=>⟨Q.fl,AJ Fi rfl,λ_=>⟨some fm,AJ Fi rfl,?_⟩,λG=>absurd h3 G⟩,λG=>absurd (by decide) G⟩,λG=>absurd (by decide) G⟩,λG=>(by rw[h2]at G;cases G)⟩⟩,λG=>absurd (by decide) G⟩;refine(Gy D2 h.ff).dR Pg ⟨_,rfl,λh0 b62 h62=>?_,λh0=>?_⟩
 .obtain⟨r62,m62⟩:=or_none h62;refine Pu (Z0:=ρ2.or M) (n:=0) (m:=1) (cs:=[]) (ys:=[.U 4]) (.refl _) BL.nil rfl (λu hu=>by simp only[Ajp]at hu;subst hu;rfl) (by decide) (λp c Z3 ho CE _=>⟨_,_,_,rfl,AT.SD ⟨iK (by decide),AT.Bp ⟨λG=>absurd G (by decide),λ_=>?_⟩⟩⟩) h62;obtain⟨ρ3,X3,D3,rfl,X4⟩:=Ext.parts D2 CE;exact hR h0 ρ3 p c (BC.trans (X2.trans X3)) D3 ((DS.rd (xs:=[4]) ho).mono X4) (BL.cap ho)
 .exact AT.SD ⟨iK (by decide),AT.Bp ⟨λG=>absurd G (by decide),λ_=>Mx h0 ρ2 (BC.trans X2) D2⟩⟩
end
end TwW
end
section
namespace TwW
open Go Tw
section
variable {F:Fl}{ss ss':List Sr}{t:Int}
def Bk:List (Int×Int)->List (Int×Int)->List (Int×Int)
 | [],b=>b
 | a,[]=>a
 | x::a,y::b=>if x.1<y.1 then x::Bk a (y::b) else if y.1<x.1 then y::Bk (x::a) b else(x.1,if x.2<y.2 then y.2 else x.2)::Bk a b
termination_by a b=>a.length+b.length
def BE:List Sr->List Sr->List Sr
 | [],b=>b
 | a,[]=>a
 | x::a,y::b=>if Ay x.ls y.ls<0 then x::BE a (y::b) else if 0<Ay x.ls y.ls then y::BE (x::a) b else⟨x.ls,Bk x.ps y.ps⟩::BE a b
termination_by a b=>a.length+b.length
theorem Ig (b:List Sr):BE [] b=b:=by rw[BE]
end
end TwW
end
section
namespace TwW
open Go Tw Go.RowKit Go.Proofs.Tryz
theorem Dx (a:List Pt):Bk a []=a:=by cases a<;>rw[Bk];intro h;cases h
theorem CW (b:List Pt):Bk [] b=b:=by rw[Bk]
theorem GJ {x y:Pt}{a b:List Pt}:Bk (x::a) (y::b)=if x.1<y.1 then x::Bk a (y::b) else if y.1<x.1 then y::Bk (x::a) b else(x.1,if x.2<y.2 then y.2 else x.2)::Bk a b:=by rw[Bk]
theorem Ks (a:List Sr):BE a []=a:=by cases a<;>rw[BE];intro h;cases h
theorem Kt {x y:Sr}{a b:List Sr}:BE (x::a) (y::b)=if Ay x.ls y.ls<0 then x::BE a (y::b) else if 0<Ay x.ls y.ls then y::BE (x::a) b else⟨x.ls,Bk x.ps y.ps⟩::BE a b:=by rw[BE]
theorem Pj:∀(a b:List Pt),(Bk a b).length<=a.length+b.length
 | [],b=>by rw[CW];simp
 | x::a,[]=>by rw[Dx];simp
 | x::a,y::b=>by
  rw[GJ];have G:=Pj a (y::b);have h2:=Pj (x::a) b;have h3:=Pj a b;simp only[Ajk]at *;split
  .simp only[Ajk];omega
  .split
   .simp only[Ajk];omega
   .simp only[Ajk];omega
termination_by a b=>a.length+b.length
abbrev QF (x y:Sr):Prop:=Ay x.ls y.ls<0
end TwW
end
section
namespace TwW
open Go Tw
theorem ACn:∀{l:List Sr} {q:Option (List Lb)},(∀s∈l,VL s.ls=0/\PZ s.ps=true)->l.Pairwise QF->(∀k,q=some k->∀s∈l,Ay k s.ls<0)->DU q l=true
 | [],q,_,_,_=>by cases q<;>rfl
 | e::l,q,h1,G,h3=>by
  have G:=AkN.1 G;rw[P5];simp only[Ajz,Aj3];refine⟨⟨h1 e (by simp),?_⟩,ACn (λu hu=>h1 u (Ajm _ hu)) G.2 λk hk u hu=>by cases hk;exact G.1 u hu⟩;cases q with
  | none=>rfl
  | some k=>exact Aj0 (h3 k rfl e (by simp))
abbrev ltP (x y:Pt):Prop:=x.1<y.1
theorem AMT {ps:List Pt}(G:ps≠[])(h:ps.Pairwise ltP):PZ ps=true:=(Kk _).2 ⟨Amc.2 G,λj a b ha hb=>by
 obtain⟨i1,i2⟩:=Ajn.1 ha;obtain⟨k1,k2⟩:=Ajn.1 hb;have:=Akm.1 h j (j+1) i1 k1 (by omega);rwa[i2,k2]at this⟩
theorem qU {ps:List Pt}(h:PZ ps=true):ps≠[]/\ps.Pairwise ltP:=by
 refine⟨λe=>(by rw[e]at h;cases h),?_⟩;have hs:=((Kk _).1 h).2;refine Akm.2 λi j hi G eA=>?_;have key:∀d i (hi:i<ps.length) (G:i+d+1<ps.length),ps[i].1<ps[i+d+1].1:=λd=>by
  induction d with
  | zero=>exact λi hi G=>hs i _ _ (Ajs hi) (Ajs G)
  | succ d ih=>
   intro i hi G;have h1:=ih i hi (by omega);have h2:=hs (i+d+1) _ _ (Ajs (by omega)) (Ajs (by omega:i+d+1+1<ps.length));have e:i+(d+1)+1=i+d+1+1:=by omega
   simp only[e];omega
 have:=key (j-i-1) i hi (by omega);have e:i+(j-i-1)+1=j:=by omega
 simp only[e]at this;exact this
theorem Ed:∀(a b:List Sr),∀s∈BE a b,s∈a\/s∈b\/∃x∈a,∃y∈b,s=⟨x.ls,Bk x.ps y.ps⟩/\x.ls=y.ls
 | [],b=>λs G=>by rw[Ig]at G;exact .inr (.inl G)
 | x::a,[]=>λs G=>by rw[Ks]at G;exact .inl G
 | x::a,y::b=>λs G=>by
  rw[Kt]at G;split at G
  .rcases Ajo.1 G with rfl|G
   .exact .inl (Aj5 ..)
   .rcases Ed a (y::b) s G with h1|h1|⟨w,h1,v,h2,h3⟩
    .exact .inl (Ajm _ h1)
    .exact .inr (.inl h1)
    .exact .inr (.inr ⟨w,Ajm _ h1,v,h2,h3⟩)
  .rename_i h;split at G
   .rcases Ajo.1 G with rfl|G
    .exact .inr (.inl (Aj5 ..))
    .rcases Ed (x::a) b s G with h1|h1|⟨w,h1,v,h2,h3⟩
     .exact .inl h1
     .exact .inr (.inl (Ajm _ h1))
     .exact .inr (.inr ⟨w,h1,v,Ajm _ h2,h3⟩)
   .rename_i h';rcases Ajo.1 G with rfl|G
    .exact .inr (.inr ⟨x,Aj5 ..,y,Aj5 ..,rfl,(Ad.eq _ _).1 (by omega)⟩)
    .rcases Ed a b s G with h1|h1|⟨w,h1,v,h2,h3⟩
     .exact .inl (Ajm _ h1)
     .exact .inr (.inl (Ajm _ h1))
     .exact .inr (.inr ⟨w,Ajm _ h1,v,Ajm _ h2,h3⟩)
termination_by a b=>a.length+b.length
theorem CX:∀(a b:List Sr),a.Pairwise QF->b.Pairwise QF->(BE a b).Pairwise QF
 | [],b,_,hb=>by rw[Ig];exact hb
 | x::a,[],ha,_=>by rw[Ks];exact ha
 | x::a,y::b,ha,hb=>by
  obtain⟨a1,a2⟩:=AkN.1 ha;obtain⟨b1,b2⟩:=AkN.1 hb;rw[Kt];split
  .rename_i h;refine AkN.2 ⟨λz hz=>?_,CX a (y::b) a2 hb⟩;rcases Ed a (y::b) z hz with G|G|⟨w,G,v,h2,h3,_⟩
   .exact a1 z G
   .rcases Ajo.1 G with rfl|G
    .exact h
    .exact Ad.trans _ _ _ h (b1 z G)
   .subst h3;exact a1 w G
  .rename_i h;split
   .rename_i h';have h4:QF y x:=(Ad.Qb _ _).2 h';refine AkN.2 ⟨λz hz=>?_,CX (x::a) b ha b2⟩;rcases Ed (x::a) b z hz with G|G|⟨w,G,v,h2,h3,h5⟩
    .rcases Ajo.1 G with rfl|G
     .exact h4
     .exact Ad.trans _ _ _ h4 (a1 z G)
    .exact b1 z G
    .subst h3;show Ay y.ls w.ls<0
     rw[h5];exact b1 v h2
   .rename_i h';have G9:x.ls=y.ls:=(Ad.eq _ _).1 (by omega);refine AkN.2 ⟨λz hz=>?_,CX a b a2 b2⟩;rcases Ed a b z hz with G|G|⟨w,G,v,h2,h3,h5⟩
    .exact a1 z G
    .show Ay x.ls z.ls<0
     rw[G9];exact b1 z G
    .subst h3;exact a1 w G
termination_by a b=>a.length+b.length
def IP:List Sr->List Lb->Option (List Pt)
 | [],_=>none
 | s::M,k=>if s.ls=k then some s.ps else IP M k
def AJY:List Sr->List Lb->Pt->List Sr
 | [],k,x=>[⟨k,[x]⟩]
 | s::M,k,x=>if s.ls=k then⟨k,s.ps++[x]⟩::M else s::AJY M k x
abbrev Abm (M:List Sr):Prop:=(M.map (·.ls)).Nodup
theorem Sx:∀{M:List Sr} {k:List Lb},(∀s∈M,s.ls≠k)->IP M k=none
 | [],_,_=>rfl
 | s::M,k,h=>by rw[IP,Ajj (h s (by simp))];exact Sx λu G=>h u (Ajm _ G)
theorem qV:∀{M:List Sr} {k:List Lb} {p:List Pt},IP M k=some p->(⟨k,p⟩:Sr)∈M
 | s::M,k,p,h=>by
  rw[IP]at h;split at h
  .rename_i e;cases h;subst e;exact Aj5 ..
  .exact Ajm _ (qV h)
theorem Yq {x y:Sr}(h:QF x y):x.ls≠y.ls:=λe=>by
 have:=(Ad.eq _ _).2 e;omega
theorem gS:∀{M N:List Sr},M.Pairwise QF->N.Pairwise QF->(∀k,IP M k=IP N k)->M=N
 | [],[],_,_,_=>rfl
 | [],s::N,_,_,h=>by have:=h s.ls;rw[IP,IP,Ajl rfl]at this;cases this
 | s::M,[],_,_,h=>by have:=h s.ls;rw[IP,IP,Ajl rfl]at this;cases this
 | x::M,y::N,hm,hn,h=>by
  obtain⟨m1,m2⟩:=AkN.1 hm;obtain⟨n1,n2⟩:=AkN.1 hn;have hx:IP (y::N) x.ls=some x.ps:=by rw[<-h,IP,Ajl rfl]
  have hy:IP (x::M) y.ls=some y.ps:=by rw[h,IP,Ajl rfl]
  have e:x.ls=y.ls:=by
   rcases Ajo.1 (qV hx) with e|e
   .exact Ajw Sr.ls e
   .rcases Ajo.1 (qV hy) with G|G
    .exact(Ajw Sr.ls G).symm
    .have h1:Ay y.ls x.ls<0:=n1 _ e;have h2:Ay x.ls y.ls<0:=m1 _ G;have:=(Ad.Qb _ _).1 h1;omega
  have hp:x.ps=y.ps:=by
   rw[e,IP,Ajl rfl]at hx;exact(Akj hx).symm
  have G9:x=y:=by cases x;cases y;simp only at e hp;rw[e,hp]
  subst G9;rw[gS m2 n2 λk=>by
   by_cases hk:x.ls=k
   .subst hk;rw[Sx λs hs=>(Yq (m1 s hs)).symm,Sx λs hs=>(Yq (n1 s hs)).symm]
   .have:=h k;rw[IP,IP,Ajj hk,Ajj hk]at this;exact this]
theorem T6:∀(a b:List Sr),a.Pairwise QF->b.Pairwise QF->∀k,IP (BE a b) k=match IP a k,IP b k with
  | none,o=>o
  | some p,none=>some p
  | some p,some q=>some (Bk p q)
 | [],b,_,_,k=>by rw[Ig];rfl
 | x::a,[],_,_,k=>by rw[Ks,show IP [] k=none from rfl];cases IP (x::a) k<;>rfl
 | x::a,y::b,ha,hb,k=>by
  obtain⟨a1,a2⟩:=AkN.1 ha;obtain⟨b1,b2⟩:=AkN.1 hb;rw[Kt];split
  .rename_i h;rw[IP,T6 a (y::b) a2 hb k];by_cases G:x.ls=k
   .have e:IP (y::b) k=none:=Sx λs hs e=>by
     subst G;rcases Ajo.1 hs with rfl|hs
     .exact Yq h e.symm
     .exact Yq (Ad.trans _ _ _ h (b1 s hs)) e.symm
    rw[Ajl G,e,IP,Ajl G]
   .rw[Ajj G,show IP (x::a) k=IP a k by rw[IP,Ajj G]]
  .rename_i h;split
   .rename_i h';have h4:QF y x:=(Ad.Qb _ _).2 h';rw[IP,T6 (x::a) b ha b2 k];by_cases G:y.ls=k
    .have e:IP (x::a) k=none:=Sx λs hs e=>by
      subst G;rcases Ajo.1 hs with rfl|hs
      .exact Yq h4 e.symm
      .exact Yq (Ad.trans _ _ _ h4 (a1 s hs)) e.symm
     rw[Ajl G,e,IP,Ajl G]
    .rw[Ajj G,show IP (y::b) k=IP b k by rw[IP,Ajj G]]
   .have G9:x.ls=y.ls:=(Ad.eq _ _).1 (by omega);rw[IP,T6 a b a2 b2 k,IP,IP];by_cases G:x.ls=k
    .rw[Ajl G,Ajl G,Ajl (G9▸G)]
    .rw[Ajj G,Ajj G,Ajj (G9▸G)]
termination_by a b=>a.length+b.length
theorem Ku:∀(a b:List Sr),(BE a b).length<=a.length+b.length
 | [],b=>by rw[Ig];simp
 | x::a,[]=>by rw[Ks];simp
 | x::a,y::b=>by
  rw[Kt];have G:=Ku a (y::b);have h2:=Ku (x::a) b;have h3:=Ku a b;simp only[Ajk]at G h2 h3 ⊢;split
  .simp only[Ajk];omega
  .split<;>(simp only[Ajk];omega)
termination_by a b=>a.length+b.length
structure Iv (t:Int)(c:Nat)(G M:List Sr):Prop where
 key:Abm G
 ok:DU none M=true
 lk:∀k,IP G k=IP M k
 tm:∀s∈M,(∀p∈s.ps,p.1<t)/\s.ps.length<=c
end TwW
end
section
namespace TwW
open Go Tw Go.RowKit Go.Proofs.Tryz
theorem AGB:∀w,(Go.sizeOf 111).run prog w=.ok 2 w:=λw=>by kernel_rfl
theorem AMU {α:Type}{s:Nat}{E:Hp->List Value->α->Prop}{Z22:Hp}{p:Option Addr}{n c:Nat}{x:α}{xs:List α}(h:Ae s E Z22 p n (x::xs))(hs:0<s)(G:n<=c):Ae s E Z22 (Ee p 1 c s) (n-1) xs:=by
 have hn:(x::xs).length=n:=h.1;rw[Ajk]at hn;have:=Ae.sub h (i:=1) (m:=n-1) hs (by omega) G;rwa[List.drop_succ_cons,Alr,Ajq (by omega)]at this
section
variable {α:Type}{s bs:Nat}{E:Hp->List Value->α->Prop}{Z0 Z22:Hp}{p q:Option Addr}{n c m d:Nat}{xs zs:List α}
theorem AN.AGC {T Et ty:TypeId}[KE prog T Et s bs]{Φ:Value->Hp->Prop}(hE:Hk E)(h1:∀Z22 vs x,E Z22 vs x->FL vs)(hs:0<s)(h:AN s E Z0 Z22 p n c xs)(hy:Ae s E Z0 q m zs)(hb:(n+m)*bs<=140737488355328)
  (hΦ:∀p' c' Z',AN s E Z0 Z' p' (n+m) c' (xs++zs)->Φ (.slice p' (n+m) c') Z'):AI prog (Builtin.append_ #[T,T] ty #[.slice p n c,.slice q m d]) Z22 Φ:=by
 obtain⟨⟨hl,cs,ho,hc⟩,tI⟩:=h;obtain⟨hz,ys,hy1,hy2,hy3⟩:=hy;have G:Ch s E Z0 ys zs:=⟨hy2,hy3⟩;exact ED ho (hy1.mono (tI.trans (Ext.LG _ _))) (Ch.uY h1 G hs) hb λp' c' Z' EM Sc=>hΦ p' c' Z' ⟨⟨by rw[Ajr,hl,hz],_,EM,(hc.append (G.mono hE tI)).mono hE Sc⟩,tI.trans Sc⟩
end
section
variable {Z22:Hp}{R:Rr}
theorem gT {p q:Option Addr}{n c m d:Nat}{a b:List Pt}(hr:Ae 2 DX Z22 p n a)(hs:Ae 2 DX Z22 q m b)(rM:n<=c)(lM:m<=d)(Jw:n<=1000000000)(hm1:m<=1000000000)
  (h:∀p' n' c' Z',AN 2 DX Z22 Z' p' n' c' (Bk a b)->R (.returned (.slice p' n' c')) Z'):Spec prog 37 #[.slice p n c,.slice q m d] Z22 R:=by
 refine Bc.start ?_
 suffices H:∀(g:Nat) (a' b':List Pt) (pa pb:Option Addr) (na ca nb cb:Nat) (O2:Hp) (p5:Option Addr) (n5 c5:Nat) (out:List Pt),a'.length+b'.length<=g->Ae 2 DX Z22 pa na a'->na<=ca->Ae 2 DX Z22 pb nb b'->nb<=cb->AN 2 DX Z22 O2 p5 n5 c5 out->n5+na+nb<=2000000000->out++Bk a' b'=Bk a b->Bc.GQ R pa na ca pb nb cb p5 n5 c5 O2 from
  H (a.length+b.length) a b p q n c m d Z22 none 0 0 [] (Ajt _) hr rM hs lM (AN.nil (.refl _)) (by omega) rfl
 intro g
 induction g with
 | zero=>
  intro a' b' pa pb na ca nb cb O2 p5 n5 c5 out hg ha hca hb yT ho h5 he;have e1:a'=[]:=AkV.1 (by omega);have e2:b'=[]:=AkV.1 (by omega);subst e1;subst e2;have hna:0=na:=ha.1;subst hna;refine Bc.BI ⟨λhh=>absurd hh (by decide),λ_=>?_⟩;refine AN.AGC DX.mono DX.one (by decide) ho ha (by omega) λp' c' Z' EM=>⟨_,_,_,rfl,AN.AGC DX.mono DX.one (by decide) EM hb (by omega) λp2 c2 Z2 B6=>⟨_,_,_,rfl,?_⟩⟩;rw[Dx,Akq]at he;rw[Akq,Akq,he]at B6;exact h _ _ _ _ B6
 | succ g ih=>
  intro a' b' pa pb na ca nb cb O2 p5 n5 c5 out hg ha hca hb yT ho h5 he;have hup:=ho.up;have hla:a'.length=na:=ha.1;have yN:b'.length=nb:=hb.1;have tail:(a'=[]\/b'=[])->AI prog (Builtin.append_ #[96,96] 96 #[.slice p5 n5 c5,.slice pa na ca]) O2 (CS λp63 n63 c63 y=>AI prog (Builtin.append_ #[96,96] 96 #[.slice p63 n63 c63,.slice pb nb cb]) y (CS λp65 n65 c65 AE=>R (.returned (.slice p65 n65 c65)) AE)):=λyM=>by
   refine AN.AGC DX.mono DX.one (by decide) ho ha (by omega) λp' c' Z' EM=>⟨_,_,_,rfl,AN.AGC DX.mono DX.one (by decide) EM hb (by omega) λp2 c2 Z2 B6=>⟨_,_,_,rfl,?_⟩⟩;have e:out++a'++b'=Bk a b:=by
    rw[<-he,AkC];rcases yM with rfl|rfl
    .rw[CW];rfl
    .rw[Dx,Akq]
   rw[e]at B6;exact h _ _ _ _ B6
  cases a' with
  | nil=>exact Bc.BI ⟨λhh=>by simp only[Aka]at hla;omega,λ_=>tail (.inl rfl)⟩
  | cons x a'=>
   cases b' with
   | nil=>exact Bc.BI ⟨λ_=>⟨λhh=>by simp only[Aka]at yN;omega,λ_=>tail (.inr rfl)⟩,λ_=>tail (.inr rfl)⟩
   | cons y b'=>
    rw[Ajk]at hla yN;simp only[Ajk]at hg;obtain⟨bx,ox,rfl,YA⟩:=DX.at ha (i:=0) (x:=x) rfl;obtain⟨qR,oy,rfl,fU⟩:=DX.at hb (i:=0) (x:=y) rfl;rw[AlT,Ak7]at YA fU;have lx:=YA.mono hup;have ly:=fU.mono hup;rw[GJ]at he;have ta:=AMU ha (by decide) hca;have tb:=AMU hb (by decide) yT;have one:In 0 (na:Int):=by unfold In;omega
    have two:In 0 (nb:Int):=by unfold In;omega
    have push:∀(z:Pt) (O1:Hp) (a2 b2:List Pt) (pa2 pb2:Option Addr) (G ca2 nb2 cb2:Nat),Ext O2 O1->a2.length+b2.length<=g->Ae 2 DX Z22 pa2 G a2->G<=ca2->Ae 2 DX Z22 pb2 nb2 b2->nb2<=cb2->G+nb2+1<=na+nb->(out++[z])++Bk a2 b2=Bk a b->
      Al O1 λbb=>AI prog (Builtin.append_ #[96,96] 96 #[.slice p5 n5 c5,(.slice (aD bb 0) 1 1)]) (Hp.set O1 bb (.cells #[.I z.1,.U z.2] 111 (0,0))) (CS λp' n' c' AE=>Bc.GQ R pa2 G ca2 pb2 nb2 cb2 p' n' c' AE):=λz O1 a2 b2 pa2 pb2 G ca2 nb2 cb2 hx h1 h2 h3 h4 h6 h7 h8 bb xG=>
     AN.FN (vs:=[.I z.1,.U z.2]) (x:=z) DX.mono (ho.mono DX.mono hx) rfl (DX.one O1 _ z rfl) rfl (by omega) (λp' c' O'2 EM _=>⟨_,_,_,rfl,ih a2 b2 pa2 pb2 G ca2 nb2 cb2 O'2 p' (n5+1) c' (out++[z]) h1 h2 h3 h4 h6 EM (by omega) h8⟩) xG
    have body:∀b6:Nat,O2 b6=none->AI prog (Instr.storeAt 111 (.pointer (aD b6 0)) (.agg #[.I x.1,.U x.2])) (Hp.set O2 b6 (.cells #[.I 0,.U 0] 111 (0,0))) (λ_ yy=>Kp [qR] (Hp.set O2 b6 (.cells #[.I 0,.U 0] 111 (0,0))) yy/\LI .i64 yy b6 0 λx39=>Br (x39<y.1) (∃J9 KA,A2 yy b6 0 [.I J9,.U KA]/\((0:Int)<=1/\1<=(na:Int))/\Al yy λad=>AI prog (Builtin.append_ #[96,96] 96 #[.slice p5 n5 c5,(.slice (aD ad 0) 1 1)]) (Hp.set yy ad (.cells #[.I J9,.U KA] 111 (0,0))) (CS λsF n46 ot AE=>Bc.GQ R (Ee (aD bx ox) 1 ca 2) (na-1) (ca-1) (aD qR oy) nb cb sF n46 ot AE)) (LI .i64 yy b6 0 λx53=>Br (y.1<x53) (((0:Int)<=1/\1<=(nb:Int))/\Al yy λQR=>AI prog (Builtin.append_ #[96,96] 96 #[.slice p5 n5 c5,(.slice (aD QR 0) 1 1)]) (Hp.set yy QR (.cells #[.I y.1,.U y.2] 111 (0,0))) (CS λaM UQ cK AE=>Bc.GQ R (aD bx ox) na ca (Ee (aD qR oy) 1 cb 2) (nb-1) (cb-1) aM UQ cK AE)) (LI .i64 yy b6 0 λP0=>LI .u64 yy b6 1 λau=>((0:Int)<=1/\1<=(na:Int))/\((0:Int)<=1/\1<=(nb:Int))/\Al yy λve=>AI prog (Builtin.append_ #[96,96] 96 #[.slice p5 n5 c5,(.slice (aD ve 0) 1 1)]) (Hp.set yy ve (.cells #[.I P0,(.U (if au<y.2 then y.2 else au))] 111 (0,0))) (CS λp32 n32 c32 AE=>Bc.GQ R (Ee (aD bx ox) 1 ca 2) (na-1) (ca-1) (Ee (aD qR oy) 1 cb 2) (nb-1) (cb-1) p32 n32 c32 AE)))):=λb6 h6=>by
     refine AI.RT (O2:=O2) (L:=[(b6,.cells #[.I 0,.U 0] 111 (0,0))]) (i:=0) (c:=#[.I 0,.U 0]) (c':=#[.I x.1,.U x.2]) AGB (by simp[names]) rfl rfl rfl rfl rfl ?_;have x6:Ext O2 (BW O2 (([(b6,Obj.cells #[.I 0,.U 0] 111 (0,0))]:List (Nat×Obj)).set 0 (b6,Obj.cells #[.I x.1,.U x.2] 111 (0,0)))):=Ext.set h6;have g6:(BW O2 (([(b6,Obj.cells #[.I 0,.U 0] 111 (0,0))]:List (Nat×Obj)).set 0 (b6,Obj.cells #[.I x.1,.U x.2] 111 (0,0)))) b6=some (.cells #[.I x.1,.U x.2] 111 (0,0)):=Hp.AA _ _ _;generalize hy1:BW O2 (([(b6,Obj.cells #[.I 0,.U 0] 111 (0,0))]:List (Nat×Obj)).set 0 (b6,Obj.cells #[.I x.1,.U x.2] 111 (0,0)))=y1 at *;have l0:Hp.ld y1 ⟨b6,0,none⟩=some (.I x.1):=AJ g6 rfl;have l1:Hp.ld y1 ⟨b6,1,none⟩=some (.U x.2):=AJ g6 rfl;refine⟨λk hk u hu=>?_,x.1,l0,λAx=>?_,λRU=>⟨x.1,l0,λvv=>?_,λhle=>⟨x.1,l0,x.2,l1,?_⟩⟩⟩
     .rw[Ajp]at hk;subst hk;have Av:k≠b6:=λe=>by
       have:=ly.1;rw[e]at this;simp[Hp.ld,h6]at this
      rw[Hp.AB Av]at hu;exact x6 _ _ hu
     .rw[Ajl Ax]at he;refine⟨x.1,x.2,A2.Fg (c:=[.I x.1,.U x.2]) g6,⟨by decide,by omega⟩,?_⟩;exact push x y1 a' (y::b') _ _ _ _ _ _ x6 (by rw[Ajk];omega) ta (by omega) hb yT (by omega) (by rw[AkC];exact he)
     .rw[Ajj RU,Ajl vv]at he;exact⟨⟨by decide,by omega⟩,push y y1 (x::a') b' _ _ _ _ _ _ x6 (by rw[Ajk];omega) ha hca tb (by omega) (by omega) (by rw[AkC];exact he)⟩
     .rw[Ajj RU,Ajj hle]at he;exact⟨⟨by decide,by omega⟩,⟨by decide,by omega⟩,push (x.1,if x.2<y.2 then y.2 else x.2) y1 a' b' _ _ _ _ _ _ x6 (by omega) ta (by omega) tb (by omega) (by omega) (by rw[AkC];exact he)⟩
    exact Bc.BI ⟨λ_=>⟨λ_=>⟨bx,ox,rfl,one,x.1,x.2,lx,qR,oy,rfl,two,y.1,y.2,ly,λb6 h6 _=>body b6 h6,λ_ b6 h6=>body b6 h6⟩,λhh=>by omega⟩,λhh=>by omega⟩
theorem Uu {p q:Option Addr}{n c m d b3 b7:Nat}{ls:List Lb}{ps:List Pt}{G:Option Addr->Nat->Nat->Option Addr->Nat->Nat->Hp->Prop}(hl:HG Z22 p n ls)(hp:Ae 2 DX Z22 q m ps)(hn:n<=1000000000)(hm:m<=1000000000)
  (h:∀p' c' q' d' Z',HG (Z22.new Z') p' n ls->Ae 2 DX (Z22.new Z') q' m ps->m<=d'->Ext Z22 Z'->G p' n c' q' m d' Z') (h7:Z22 b7=none) (h3:(Z22.set b7 (.cells #[] 111 (0,0))) b3=none) :
  AI prog (Builtin.append_ #[95,95] 95 #[(.slice (aD b3 0) 0 0),.slice p n c]) ((Z22.set b7 (.cells #[] 111 (0,0))).set b3 (.cells #[] 144 (0,0))) (CS λp6 n6 c6 y=>AI prog (Builtin.append_ #[96,96] 96 #[(.slice (aD b7 0) 0 0),.slice q m d]) y (CS λRo n10 MK AE=>G p6 n6 c6 Ro n10 MK AE)):=by
 have x7:=Ext.set (o:=.cells #[] 111 (0,0)) h7;obtain⟨hm1,cs,hm2,hm3⟩:=hp;refine HZ (hl.mono Cg.mono x7) hn (λp' c' Z2 B6 Ao=>⟨_,_,_,rfl,?_⟩) h3;have AMW:=x7.trans Ao;refine ED (BL.mono Ao BL.empty) (hm2.mono AMW) (Ch.uY DX.one hm3 (by decide)) (by omega) λq' d' Z3 Di CE=>?_;have hq:∀a:Addr,(some (⟨b7,0,none⟩:Addr))=some a->Z22 a.block=none:=λa ha=>by cases ha;exact h7
 rw[Akn]at Di ⊢;rw[Akp]at Di;refine⟨_,_,_,rfl,h p' c' q' d' Z3 ?_ ⟨hm1,cs,BL.rd (BL.TJ Di (HL hq CE AMW)),hm3.1,λi x hx=>hm3.2 i x hx⟩ (BL.cap Di) (LJ hq CE AMW)⟩;refine(B6.rd Cg.mono).mono Cg.mono λk u hk=>?_;obtain⟨k1,k2⟩:=Af.1 hk;obtain⟨k3,k4⟩:=Hp.AM k1;have:=CE k u (Aq.2 ⟨λa ha=>by cases ha;exact k3,k2⟩);exact Af.2 ⟨k4,(Aq.1 this).2⟩
theorem AGD {p q:Option Addr}{n c m d:Nat}{ls:List Lb}{ps:List Pt}{G:Option Addr->Nat->Nat->Option Addr->Nat->Nat->Hp->Prop}(hl:HG Z22 p n ls)(hp:Ae 2 DX Z22 q m ps)(hn:n<=1000000000)(hm:m<=1000000000)
  (h:∀p' c' q' d' Z',HG (Z22.new Z') p' n ls->Ae 2 DX (Z22.new Z') q' m ps->m<=d'->Ext Z22 Z'->G p' n c' q' m d' Z') :
  (Al Z22 λH8=>(AI prog (Builtin.append_ #[95,95] 95 #[(.slice (aD H8 0) 0 0),.slice p n c]) (Hp.set Z22 H8 (.cells #[] 144 (0,0))) (CS λRm n16 QJ y=>Al y λH9=>AI prog (Builtin.append_ #[96,96] 96 #[(.slice (aD H9 0) 0 0),.slice q m d]) (Hp.set y H9 (.cells #[] 111 (0,0))) (CS λUR n20 R9 AE=>G Rm n16 QJ UR n20 R9 AE)))/\(Al (Hp.set Z22 H8 (.cells #[] 144 (0,0))) λH9=>AI prog (Builtin.append_ #[95,95] 95 #[(.slice (aD H8 0) 0 0),.slice p n c]) (Hp.set (Hp.set Z22 H8 (.cells #[] 144 (0,0))) H9 (.cells #[] 111 (0,0))) (CS λRm n16 QJ y=>AI prog (Builtin.append_ #[96,96] 96 #[(.slice (aD H9 0) 0 0),.slice q m d]) y (CS λUR n20 R9 AE=>G Rm n16 QJ UR n20 R9 AE))))/\
  (Al Z22 λH9=>Al (Hp.set Z22 H9 (.cells #[] 111 (0,0))) λH8=>AI prog (Builtin.append_ #[95,95] 95 #[(.slice (aD H8 0) 0 0),.slice p n c]) (Hp.set (Hp.set Z22 H9 (.cells #[] 111 (0,0))) H8 (.cells #[] 144 (0,0))) (CS λRm n16 QJ y=>AI prog (Builtin.append_ #[96,96] 96 #[(.slice (aD H9 0) 0 0),.slice q m d]) y (CS λUR n20 R9 AE=>G Rm n16 QJ UR n20 R9 AE))):=by
 refine⟨λb3 h3=>⟨?_,λb7 h7=>?_⟩,λb7 h7 b3 h3=>Uu hl hp hn hm h h7 h3⟩
 .refine HZ hl hn (λp' c' Z2 B6 Ao=>⟨_,_,_,rfl,λb7 h7=>?_⟩) h3;obtain⟨hm1,cs,hm2,hm3⟩:=hp;refine Kq (hm2.mono Ao) (Ch.uY DX.one hm3 (by decide)) (by omega) (λq' d' Z3 Di CE=>⟨_,_,_,rfl,?_⟩) h7;exact h p' c' q' d' Z3 ((B6.rd Cg.mono).mono Cg.mono (Ext.Ir CE)) ⟨hm1,cs,(BL.rd Di).mono (Ext.Cq Ao),hm3.1,λi x hx=>hm3.2 i x hx⟩ (BL.cap Di) (Ao.trans CE)
 .obtain⟨e1,e2⟩:=Hp.AM h7;rw[Hp.BD (Aj4 e1)];exact Uu hl hp hn hm h e2 (by rw[Hp.AB (Aj4 e1)];exact h3)
theorem qW {p:Option Addr}{n c:Nat}{ss:List Sr}(hr:Ae 2 BX Z22 p n ss)(hn:n<=2900000000000)(hS:∀s∈ss,s.ls.length<=1000000000/\s.ps.length<=1000000000)(h:∀p' c' Z',Ae 2 BX Z' p' n ss->n<=c'->Ext Z22 Z'->R (.returned (.slice p' n c')) Z'):Spec prog 38 #[.slice p n c] Z22 R:=by
 have hl:ss.length=n:=hr.1;refine GD.start ?_
 suffices H:∀g i:Nat,∀p3 n3 c3 Z',n-i=g->i<=n->AN 2 BX Z22 Z' p3 n3 c3 (ss.take i)->GD.A4 R p3 n3 c3 p n c n i Z' from H n 0 none 0 0 Z22 rfl (Ajy _) (AN.nil (.refl _))
 intro g
 induction g with
 | zero=>
  intro i p3 n3 c3 Z' hg hi ho;rw[Ajq (by omega)]at ho;have Qe:n=n3:=hl.symm.trans ho.1.1;subst Qe;exact GD.AX ⟨λAx=>by omega,λ_=>h p3 c3 Z' (ho.rd BX.mono) (by obtain⟨cs,TA,_⟩:=ho.1.2;exact BL.cap TA) ho.up⟩
 | succ g ih=>
  intro i p3 n3 c3 Z' hg hi ho;have CO:i<n:=by omega
  obtain⟨x,hx⟩:=hr.ex CO;obtain⟨b,o,p1,k1,c1,q1,m1,d1,rfl,Dy,Vn,hps,lM⟩:=BX.at hr hx;obtain⟨a1,a2⟩:=hS x (Aju hx);have a3:x.ls.length=k1:=Vn.1;have a4:x.ps.length=m1:=hps.1;have Qe:n3=i:=by have:=ho.1.1;rw[AkA]at this;omega
  refine GD.AX ⟨λ_=>⟨b,o,rfl,by unfold In;omega,p1,k1,c1,q1,m1,d1,by simpa using Dy.mono ho.up,λ_=>AGD (G:=λRm n16 QJ UR n20 R9 AE=>Al AE λed=>AI prog (Builtin.append_ #[22,22] 22 #[.slice p3 n3 c3,(.slice (aD ed 0) 1 1)]) (Hp.set AE ed (.cells #[.slice Rm n16 QJ,.slice UR n20 R9] 98 (0,0))) (CS λmY n23 ec AK=>AL ((i:Int)+1)/\GD.A4 R mY n23 ec (aD b o) n c n ((i:Int)+1) AK)) (Vn.mono Cg.mono ho.up) (hps.mono DX.mono ho.up) (by omega) (by omega) λp4 c4 p5 c5 Z3 Ff Up hd3 CE ed Abo=>?_⟩,λhh=>by omega⟩;have Di:=ho.mono BX.mono CE;have he:BX (Z3.del p3) [.slice p4 k1 c4,.slice p5 m1 c5] x:=⟨p4,k1,c4,p5,m1,c5,rfl,Ff.mono Cg.mono (ho.new CE),Up.mono DX.mono (ho.new CE),hd3⟩;refine AN.FN BX.mono Di rfl (BX.one _ _ _ he) he (by omega) (λp' c' Z4 Hy _=>⟨_,_,_,rfl,AO CO hr.big,?_⟩) Abo;have:=ih (i+1) p' (n3+1) c' Z4 (by omega) (by omega) (by rw[AU hx];exact Hy);rw[show((i+1:Nat):Int)=(i:Int)+1 by omega]at this;exact this
end
end TwW
end
section
namespace TwW
open Go Tw
theorem QG:∀(a b:List Pt),Bk a b=Bk b a
 | [],b=>by rw[CW,Dx]
 | x::a,[]=>by rw[CW,Dx]
 | x::a,y::b=>by
  rw[GJ,GJ];by_cases G:x.1<y.1
  .rw[Ajl G,Ajj (by omega),Ajl G,QG a (y::b)]
  .rw[Ajj G];by_cases h2:y.1<x.1
   .rw[Ajl h2,Ajl h2,QG (x::a) b]
   .rw[Ajj h2,Ajj h2,Ajj G,QG a b];have e1:x.1=y.1:=by omega
    have e2:(if x.2<y.2 then y.2 else x.2)=(if y.2<x.2 then x.2 else y.2):=by
     by_cases h3:x.2<y.2
     .rw[Ajl h3,Ajj (by omega)]
     .rw[Ajj h3];by_cases h4:y.2<x.2
      .rw[Ajl h4]
      .rw[Ajj h4];omega
    rw[e1,e2]
termination_by a b=>a.length+b.length
theorem AGE {a b:List Sr}(G:a.Pairwise QF)(hb:b.Pairwise QF)(k:List Lb):IP (BE a b) k=IP (BE b a) k:=by
 rw[T6 _ _ G hb,T6 _ _ hb G];cases IP a k<;>cases IP b k<;>first|rfl|(dsimp only;rw[QG])
theorem dS {a b:List Sr}(G:a.Pairwise QF)(hb:b.Pairwise QF):BE b a=BE a b:=
 gS (CX _ _ hb G) (CX _ _ G hb) λk=>(AGE G hb k).symm
def Qi (O:List Sr)(s:Sr):List Sr:=match O.getLast? with
 | some u=>if u.ls=s.ls then O.dropLast++[⟨u.ls,Bk u.ps s.ps⟩] else O++[s]
 | none=>O++[s]
theorem Yr {O:List Sr}{u s:Sr}(h:u.ls=s.ls):Qi (O++[u]) s=O++[⟨u.ls,Bk u.ps s.ps⟩]:=by
 unfold Qi;rw[AmW];simp[h]
theorem AGF {O:List Sr}{s:Sr}(h:∀u∈O,u.ls≠s.ls):Qi O s=O++[s]:=by
 unfold Qi;cases G:O.getLast? with
 | none=>rfl
 | some u=>dsimp only;rw[Ajj (h u (List.mem_of_getLast? G))]
inductive Pk:List Sr->List Sr->List Sr->Prop
 | nil:Pk [] [] []
 | left {a:Sr} {A B ys:List Sr}:(∀b,B.head?=some b->¬Ay b.ls a.ls<0)->Pk A B ys->Pk (a::A) B (a::ys)
 | right {b:Sr} {A B ys:List Sr}:(∀a,A.head?=some a->¬Ay a.ls b.ls<0)->Pk A B ys->Pk A (b::B) (b::ys)
theorem Pk.symm {A B ys:List Sr}(h:Pk A B ys):Pk B A ys:=by
 induction h with
 | nil=>exact .nil
 | left G _ ih=>exact .right G ih
 | right G _ ih=>exact .left G ih
theorem ACp:∀(n:Nat) (A B ys O:List Sr),A.length+B.length<=n->A.Pairwise QF->B.Pairwise QF->Pk A B ys->(∀u∈O,(∀x∈A,QF u x)/\∀y∈B,QF u y)->ys.foldl Qi O=O++BE A B:=by
 intro n
 induction n with
 | zero=>
  intro A B ys O hn hA hB hp hO;have e1:A=[]:=AkV.1 (by omega);have e2:B=[]:=AkV.1 (by omega);subst e1;subst e2;cases hp;rw[Ig,Akq];rfl
 | succ n ih=>
  intro A B ys O hn hA hB hp hO;have key:∀(a:Sr) (A B ys:List Sr),(a::A).length+B.length<=n+1->(a::A).Pairwise QF->B.Pairwise QF->(∀b,B.head?=some b->¬Ay b.ls a.ls<0)->Pk A B ys->(∀u∈O,(∀x∈a::A,QF u x)/\∀y∈B,QF u y)->(a::ys).foldl Qi O=O++BE (a::A) B:=by
   intro a A B ys hn hA hB h1 hp hO;obtain⟨a1,a2⟩:=AkN.1 hA;have hOa:∀u∈O,u.ls≠a.ls:=λu G=>Yq ((hO u G).1 a (by simp));rw[Alj,AGF hOa];cases B with
   | nil=>
    rw[ih A [] ys (O++[a]) (by simp only[Ajk,Aka]at hn ⊢;omega) a2 hB hp λu G=>⟨λx hx=>?_,λy hy=>(by cases hy)⟩,Ks,Ks,AkC]
    .rfl
    .rcases AkH.1 G with G|G
     .exact(hO u G).1 x (Ajm _ hx)
     .rw[Ajp]at G;subst G;exact a1 x hx
   | cons b B=>
    obtain⟨b1,b2⟩:=AkN.1 hB;have hba:=h1 b rfl;rw[Kt];by_cases yM:Ay a.ls b.ls<0
    .rw[Ajl yM,ih A (b::B) ys (O++[a]) (by simp only[Ajk]at hn ⊢;omega) a2 hB hp λu G=>?_,AkC]
     .rfl
     .rcases AkH.1 G with G|G
      .exact⟨λx hx=>(hO u G).1 x (Ajm _ hx),(hO u G).2⟩
      .rw[Ajp]at G;subst G;refine⟨a1,λy hy=>?_⟩;rcases Ajo.1 hy with rfl|hy
       .exact yM
       .exact Ad.trans _ _ _ yM (b1 y hy)
    .have vv:¬0<Ay a.ls b.ls:=λh=>hba ((Ad.Qb _ _).2 h);have he:a.ls=b.ls:=(Ad.eq _ _).1 (by omega);rw[Ajj yM,Ajj vv];have Q6:∃zs,ys=b::zs/\Pk A B zs:=by
      cases hp with
      | left h2 h3=>
       rename_i a' A' zs;exact absurd (by rw[<-he];exact a1 a' (by simp)) (h2 b rfl)
      | right h2 h3=>exact⟨_,rfl,h3⟩
     obtain⟨zs,rfl,qE⟩:=Q6;rw[Alj,Yr he,ih A B zs _ (by simp only[Ajk]at hn;omega) a2 b2 qE λu G=>?_,AkC]
     .rfl
     .rcases AkH.1 G with G|G
      .exact⟨λx hx=>(hO u G).1 x (Ajm _ hx),λy hy=>(hO u G).2 y (Ajm _ hy)⟩
      .rw[Ajp]at G;subst G;exact⟨a1,λy hy=>by show Ay a.ls y.ls<0;rw[he];exact b1 y hy⟩
  cases hp with
  | nil=>rw[Ig,Akq];rfl
  | left h1 h2=>exact key _ _ _ _ hn hA hB h1 h2 hO
  | right h1 h2=>
   rename_i b B ys;rw[key b B A ys (by omega) hB hA h1 h2.symm λu G=>⟨(hO u G).2,(hO u G).1⟩,dS hA hB]
end TwW
end
section
namespace TwW
open Go Tw Go.RowKit Go.Proofs.Tryz
structure Cu where
 b:Nat
 p:Option Addr
 n:Nat
 c:Nat
 X:List Sr
def Cu.ptr (u:Cu):Value:=.pointer (aD u.b 0)
structure HM (O2 N:Hp)(hb:Nat)(w:Option Addr)(e:Nat)(H:List Cu):Prop where
 hv:N hb=some (.cells #[.slice w H.length e] 147 (0,0))
 arr:BL 1 N w H.length e (H.map Cu.ptr)
 cur:∀u∈H,N u.b=some (.cells #[.slice u.p u.n u.c] 152 (0,0))/\Ae 2 BX O2 u.p u.n u.X/\u.n<=u.c
 ext:Ext O2 N
 hτ:O2 hb=none
 cτ:∀u∈H,O2 u.b=none/\u.b≠hb
 aτ:∀a,w=some a->O2 a.block=none/\a.block≠hb/\∀u∈H,u.b≠a.block
 nd:(H.map (·.b)).Nodup
section
variable {Z22 O2 N N':Hp}{R:Rr}{hb e:Nat}{w:Option Addr}{H:List Cu}
theorem HM.mono (h:HM O2 N hb w e H)(G:Ext N N'):HM O2 N' hb w e H:=⟨G _ _ h.hv,h.arr.mono G,λu hu=>let ⟨a,b,c⟩:=h.cur u hu;⟨G _ _ a,b,c⟩,h.ext.trans G,h.hτ,h.cτ,h.aτ,h.nd⟩
theorem HM.at (h:HM O2 N hb w e H){i:Nat}{u:Cu}(hi:H[i]?=some u):∃b o,w=some ⟨b,o,none⟩/\i<H.length/\Hp.ld N ⟨b,o+i,none⟩=some u.ptr:=by
 have Ax:=(Ajn.1 hi).1;obtain⟨_,_,G⟩:=h.arr.rd;rcases G with G|⟨b,o,hp,hl⟩
 .omega
 .exact⟨b,o,hp,Ax,hl.get (by rw[Akt,hi];rfl)⟩
theorem HM.ldh (h:HM O2 N hb w e H):Hp.ld N ⟨hb,0,none⟩=some (.slice w H.length e):=AJ h.hv rfl
theorem xH {i j:Nat}{u v:Cu}{x y:Sr}(h:HM O2 N hb w e H)(hi:H[i]?=some u)(hj:H[j]?=some v)(hu:u.X[0]?=some x)(hv:v.X[0]?=some y)(hR:∀N',Ext N N'->R (.returned (.bool (decide (Ay x.ls y.ls<0)))) N'):
  Spec prog 360 #[.slice w H.length e,.I (i:Int),.I (j:Int)] N R:=by
 obtain⟨b,o,hw,hil,h1⟩:=h.at hi;obtain⟨b',o',G,hjl,h2⟩:=h.at hj;rw[hw] at G;cases G;obtain⟨c1,c2,c3⟩:=h.cur u (Aju hi);obtain⟨d1,d2,d3⟩:=h.cur v (Aju hj);obtain⟨bx,ox,p1,n1,e1,p2,n2,e2,hpu,l1,r1,_,_⟩:=BX.at (c2.mono BX.mono h.ext) hu;obtain⟨qR,oy,q1,m1,f1,q2,m2,f2,hpv,l2,r2,_,_⟩:=BX.at (d2.mono BX.mono h.ext) hv;have TF:0<u.n:=by have:=(Ajn.1 hu).1;have h9:u.X.length=u.n:=c2.1;omega
 have hvn:0<v.n:=by have:=(Ajn.1 hv).1;have h9:v.X.length=v.n:=d2.1;omega
 rw[AlT,Ak7]at l1 l2;refine DI.start ⟨b,o,hw,by unfold In;omega,aD u.b 0,by rw[Aj9,AlQ];exact h1,u.b,0,rfl,u.p,u.n,u.c,AJ c1 rfl,bx,ox,hpu,by unfold In;omega,p1,n1,e1,l1.1,by unfold In;omega,aD v.b 0,by rw[Aj9,AlQ];exact h2,v.b,0,rfl,v.p,v.n,v.c,AJ d1 rfl,qR,oy,hpv,by unfold In;omega,q1,m1,f1,l2.1,?_⟩;exact Kj r1 r2 λN' hx=>⟨_,rfl,hR N' hx⟩
theorem Vt:∀w,(Go.sizeOf 150).run prog w=.ok 1 w:=λw=>by kernel_rfl
instance:KE prog 147 150 1 8:=⟨underlying147,⟨Go.Proofs.Tryz.t150,_,by kernel_rfl,rfl,rfl,rfl,rfl⟩,by decide,by decide⟩
theorem qX {p:Option Addr}{n c:Nat}:∀u∈(Value.slice p n c).cells.toList,u.oneCell'=true:=λu G=>by
 have G:u∈[Value.slice p n c]:=G;rw[Ajp.1 G];rfl
theorem tf:∀w,(Go.sizeOf 147).run prog w=.ok 1 w:=λw=>by kernel_rfl
theorem HM.AUk {b o:Nat}{obj:Obj}{H':List Cu}(h:HM O2 N hb (some ⟨b,o,none⟩) e H)(hl:H'.length=H.length)(hm:∀u∈H',u∈H)(hn:(H'.map (·.b)).Nodup)(ho:BL 1 (N.set b obj) (some ⟨b,o,none⟩) H.length e (H'.map Cu.ptr)):HM O2 (N.set b obj) hb (some ⟨b,o,none⟩) e H':=by
 obtain⟨a1,a2,a3⟩:=h.aτ _ rfl;refine⟨by rw[Hp.AB (λe=>a2 e.symm),hl];exact h.hv,by rw[hl];exact ho,λu G=>?_,λk v hk=>?_,h.hτ,λu G=>h.cτ u (hm u G),λa ha=>by cases ha;exact⟨a1,a2,λu G=>a3 u (hm u G)⟩,hn⟩
 .obtain⟨c1,c2⟩:=h.cur u (hm u G);exact⟨by rw[Hp.AB (a3 u (hm u G))];exact c1,c2⟩
 .rw[Hp.AB (λe=>by rw[e,a1]at hk;cases hk)];exact h.ext _ _ hk
theorem lz {u v:Cu}(h:HM O2 N hb w e [u,v])(hR:∀N',HM O2 N' hb w e [v,u]->R (.T #[]) N'):Spec prog 361 #[.slice w 2 e,.I 0,.I 1] N R:=by
 obtain⟨b,o,rfl,_,h1⟩:=h.at (i:=0) (u:=u) rfl;obtain⟨b',o',G,_,h2⟩:=h.at (i:=1) (u:=v) rfl;cases G;refine Bs.start ⟨b,o,rfl,by decide,aD v.b 0,by simpa[Cu.ptr] using h2,by decide,aD u.b 0,by simpa[Cu.ptr] using h1,by decide,?_⟩;have ho:=h.arr;refine BL.Yj (j:=0) ho (by simp) Vt rfl rfl λobj g1=>⟨by decide,BL.Yj (j:=1) g1 (by simp) Vt rfl rfl λAbq g2=>?_⟩;rw[Hp.set_set]at g2 ⊢;refine hR _ (h.AUk rfl (λx hx=>?_) ?_ g2)
 .simp only[Ajo,Aj7,Akc]at hx ⊢;exact hx.symm
 .have:=h.nd;simp only[AkR,AlO,Ako,Ajp,Aj7,Al7,Ak9,Amu]at this ⊢;exact λe=>this e.symm
theorem l3 {u:Cu}(h:HM O2 N hb w e [u])(hR:∀N',HM O2 N' hb w e [u]->R (.T #[]) N'):Spec prog 361 #[.slice w 1 e,.I 0,.I 0] N R:=by
 obtain⟨b,o,rfl,_,h1⟩:=h.at (i:=0) (u:=u) rfl;refine Bs.start ⟨b,o,rfl,by decide,aD u.b 0,by simpa[Cu.ptr] using h1,by decide,aD u.b 0,by simpa[Cu.ptr] using h1,by decide,?_⟩;have ho:=h.arr;refine BL.Yj (j:=0) ho (by simp) Vt rfl rfl λobj g1=>⟨by decide,BL.Yj (j:=0) g1 (by simp) Vt rfl rfl λAbq G=>?_⟩;rw[Hp.set_set]at G ⊢;exact hR _ (h.AUk rfl (λx hx=>hx) h.nd G)
theorem AMX {v:Value}{Φ:Value->Hp->Prop}(h:Φ v Z22):AI prog (Instr.typeAssert (.iface 150 v) 20 150 false) Z22 Φ:=
 AI.pu (λw hs=>by
  have G:prog.underlying 150=some (.pointer 152):=by kernel_rfl
  simp[Instr.typeAssert,run_underlying G]) h
theorem Ys {u:Cu}(h:HM O2 N hb w e H)(hl:H.length<=1000)(hN:N u.b=some (.cells #[.slice u.p u.n u.c] 152 (0,0)))(hr:Ae 2 BX O2 u.p u.n u.X)(hc:u.n<=u.c)(hτ:O2 u.b=none)(Av:u.b≠hb)(hnw:∀a,w=some a->u.b≠a.block)(Gz:∀v∈H,v.b≠u.b)
  (hR:∀N' w' e',HM O2 N' hb w' e' (H++[u])->R (.T #[]) N'):Spec prog 363 #[.pointer (aD hb 0),.iface 150 (.pointer (aD u.b 0))] N R:=by
 refine CM.start ⟨hb,0,rfl,w,H.length,e,h.ldh,AMX ⟨aD u.b 0,rfl,λk _ v hv=>hv,λDk MX=>?_⟩⟩;have x10:=Ext.set (o:=.cells #[.pointer (aD u.b 0)] 150 (0,0)) MX;have h9:=h.mono x10;refine ED h9.arr (q:=aD Dk 0) (ys:=[u.ptr]) ⟨rfl,by decide,.inr ⟨Dk,0,rfl,A2.Fg (c:=[u.ptr]) (Hp.AA _ _ _)⟩⟩ (λv hv=>by rw[Ajp.1 hv];rfl) (by omega) λp' c' y EM Sc=>⟨_,_,_,rfl,?_⟩;have K:∀k v,N k=some v->(∀a,w=some a->k≠a.block)->y k=some v/\∀a,p'=some a->k≠a.block:=λk v hk Av=>by
  obtain⟨a1,a2⟩:=Aq.1 (Sc k v (Aq.2 ⟨Av,x10 _ _ hk⟩));exact⟨a2,a1⟩
 obtain⟨k1,k2⟩:=K hb _ h.hv λa G e=>(h.aτ a G).2.1 e.symm;have kτ:∀k v,O2 k=some v->y k=some v/\∀a,p'=some a->k≠a.block:=λk v hk=>K k v (h.ext _ _ hk) λa G e=>by rw[e,(h.aτ a G).1]at hk;cases hk
 have kc:∀v∈H,y v.b=some (.cells #[.slice v.p v.n v.c] 152 (0,0))/\∀a,p'=some a->v.b≠a.block:=λv hv=>K _ _ (h.cur v hv).1 λa G=>(h.aτ a G).2.2 v hv;obtain⟨ku1,ku2⟩:=K _ _ hN hnw;refine AI.store (P:=prog) tf k1 rfl (Ajt _) qX (hR _ p' c' ?_);have e1:LF #[Value.slice w H.length e] 0 (Value.slice p' (H.length+1) c').cells.toList=#[.slice p' (H.length+1) c']:=rfl;rw[e1];refine⟨by rw[Hp.AA,Ajr,AkS],?_,λv hv=>?_,λk v hk=>?_,h.hτ,λv hv=>?_,λa G=>⟨?_,λe=>k2 a G e.symm,λv hv=>?_⟩,?_⟩
 .rw[Ajr,AkS,AkI,AlV];exact BL.here EM λa G=>Hp.AB λe=>k2 a G e.symm
 .rcases AkH.1 hv with hv|hv
  .exact⟨by rw[Hp.AB (h.cτ v hv).2];exact(kc v hv).1,(h.cur v hv).2⟩
  .rw[Ajp]at hv;subst hv;exact⟨by rw[Hp.AB Av];exact ku1,hr,hc⟩
 .rw[Hp.AB (λe=>by rw[e,h.hτ]at hk;cases hk)];exact(kτ k v hk).1
 .rcases AkH.1 hv with hv|hv
  .exact h.cτ v hv
  .rw[Ajp]at hv;subst hv;exact⟨hτ,Av⟩
 .cases hh:O2 a.block with
  | none=>rfl
  | some v=>exact absurd rfl ((kτ _ _ hh).2 a G)
 .rcases AkH.1 hv with hv|hv
  .exact(kc v hv).2 a G
  .rw[Ajp]at hv;subst hv;exact ku2 a G
 .rw[AkI,Alb];exact⟨h.nd,by simp,λa G b hb e=>by
   rw[AlV,Ajp]at hb;obtain⟨v,hv,rfl⟩:=AkT.1 G;exact Gz v hv (e.trans hb)⟩
theorem dT {u:Cu}(h:HM O2 N hb w e (H++[u]))(hl:H.length<=1000)(hR:∀N' v,HM O2 N' hb w e H->R (.returned v) N'):Spec prog 362 #[.pointer (aD hb 0)] N R:=by
 have G:(H++[u]).length=H.length+1:=by simp
 obtain⟨b,o,rfl,_,h1⟩:=h.at (i:=H.length) (u:=u) (by rw[Akf (Ajt _),Ald];rfl);have hh:=h.ldh;have Yg:=BL.cap h.arr;rw[G]at hh Yg;have t1:Int.toNat (((H.length+1:Nat):Int)-1)=H.length:=by omega
 refine Ca.start ⟨hb,0,rfl,some ⟨b,o,none⟩,H.length+1,e,hh,some ⟨b,o,none⟩,H.length+1,e,hh,by unfold AL;omega,b,o,rfl,by unfold In;omega,aD u.b 0,by rw[t1,AlQ];exact h1,some ⟨b,o,none⟩,H.length+1,e,hh,some ⟨b,o,none⟩,H.length+1,e,hh,by unfold AL;omega,⟨by omega,by omega⟩,?_⟩;rw[t1];refine AI.store (P:=prog) tf h.hv rfl (Ajt _) qX (hR _ _ ?_);have e1:LF #[Value.slice (some ⟨b,o,none⟩) (H++[u]).length e] 0 (Value.slice (some ⟨b,o,none⟩) H.length e).cells.toList=#[.slice (some ⟨b,o,none⟩) H.length e]:=rfl;rw[e1];obtain⟨a1,a2,a3⟩:=h.aτ _ rfl;have UD:∀v∈H,v∈H++[u]:=λv hv=>Aky _ hv;refine⟨Hp.AA _ _ _,?_,λv hv=>?_,λk v hk=>?_,h.hτ,λv hv=>h.cτ v (UD v hv),λa ha=>by cases ha;exact⟨a1,a2,λv hv=>a3 v (UD v hv)⟩,?_⟩
 .have:=BL.take h.arr (m:=H.length) (by rw[G];omega);rw[AkI,AlQ,List.take_left' (by simp)]at this;exact BL.here this λa ha=>Hp.AB (by cases ha;exact a2)
 .exact⟨by rw[Hp.AB (h.cτ v (UD v hv)).2];exact(h.cur v (UD v hv)).1,(h.cur v (UD v hv)).2⟩
 .rw[Hp.AB (λe=>by rw[e,h.hτ]at hk;cases hk)];exact h.ext _ _ hk
 .have:=h.nd;rw[AkI,Alb]at this;exact this.1
end
section
variable {Z22 O2 N N':Hp}{R:Rr}{hb e:Nat}{w:Option Addr}{H:List Cu}
theorem JH {x:Int}(h:-1000<=x/\x<=1000):AL x:=by unfold AL;omega
def Pm (P:Program)(T:TypeId)(name:String):Option (Bool×Option (FuncId×Bool)):=match P.info? T with
 | none=>none
 | some i=>match i.methods.find? (λm=>m.name==name) with
  | none=>none
  | some m=>some (m.path.isEmpty,m.func)
theorem ACq {P:Program}{T:TypeId}{name:String}{f:FuncId}{G:Bool}(h:Pm P T name=some (true,some (f,G))):∃i m,P.info? T=some i/\i.methods.find? (λm=>m.name==name)=some m/\m.path=#[]/\m.func=some (f,G):=by
 unfold Pm at h;split at h
 .cases h
 .rename_i i hi;split at h
  .cases h
  .rename_i m hm;simp only[Ajv,Akh]at h;exact⟨i,m,hi,hm,Array.isEmpty_iff.1 h.1,h.2⟩
theorem AGH {P:Program}{T:TypeId}{a:Addr}{s G:ByteArray}{w:World}:(Builtin.ssaWrapNilChk_ #[T] T #[.pointer (some a),.string s,.string G]).run P w=.ok (.pointer (some a)) w:=rfl
theorem fuel {P:Program}:∃k,P.types.size+Made.depth=k+1:=Nat.exists_eq_add_one_of_ne_zero (by
 have:Made.depth≠0:=by decide
 omega)
variable {P:Program}{T E:TypeId}
theorem AUl {w : World} {nm : String} {sl : Value} (hu : P.underlying T = some (.pointer E)) (hag : ∀ w,(isAgg E).run P w = .ok false w) (hs : Sat Z22 w) (Dy : Hp.ld Z22 ⟨hb,0,none⟩ = some sl) : (receiverAt T (.val (.pointer (aD hb 0))) false (some nm)).run P w = .ok sl w := by
 have hl := hs.ld Dy
 unfold receiverAt
 simp only [Sem.run_bind,run_underlying hu,Result.andThen_ok,Place.get]
 show ((Builtin.ssaWrapNilChk_ #[T] T #[.pointer (aD hb 0),strVal "",strVal nm]).run P w).andThen _ = _
 have e : (Builtin.ssaWrapNilChk_ #[T] T #[.pointer (aD hb 0),strVal "",strVal nm]).run P w = .ok (.pointer (aD hb 0)) w := AGH
 simp only [e,Result.andThen_ok]
 have e2 : (asAddr (.pointer (aD hb 0))).run P w = .ok ⟨hb,0,none⟩ w := rfl
 simp only [e2,Result.andThen_ok]
 simp [loadVar,hag,load,Sem.run,hl]
theorem AUm {w:World}{nm:Option String}{v:Value}(G:P.underlying T=some (.pointer E)):(receiverAt T (.val v) true nm).run P w=.ok v w:=by
 unfold receiverAt;simp only[Sem.run_bind,run_underlying G,Result.andThen_ok,Place.get];rfl
theorem AIz {w : World} {k : Nat} {name : String} {v r : Value} {f : FuncId} {pr : Bool} {i : TypeInfo} {m : Method} (hi : P.info? T = some i) (hm : i.methods.find? (λm => m.name == name) = some m) (hp : m.path = #[]) (hf : m.func = some (f,pr)) (hr : ∀ nm,(receiverAt T (.val v) pr (some nm)).run P w = .ok r w) : (method (k + 1) T v name).run P w = .ok (f,r) w := by
 unfold method
 have ht : (typeInfo T).run P w = .ok i w := by simp [typeInfo,hi]
 simp only [Sem.run_bind,ht,Result.andThen_ok,hm,hp,hf,follow]
 show ((receiverAt T (.val v) pr _).run P w).andThen _ = _
 rw [show (if (#[] : Array FieldStep).isEmpty = true then some ((name.splitOn ".").getLastD name) else none) = some ((name.splitOn ".").getLastD name) from rfl,hr]; rfl
theorem inv1 {w:World}{name:String}{v r:Value}{f:FuncId}{args:Array Value}(hm:∀k,(method (k+1) T v name).run P w=.ok (f,r) w)(KQ:Enters P f):(invoke (.fn (.method name) #[]) (#[.iface T v]++args)).run P w=.ok (.enter f (#[r]++args)) w:=by
 obtain⟨k,hk⟩:=fuel (P:=P);have e1:(#[Value.iface T v]++args).extract 1 (#[Value.iface T v]++args).size=args:=by
  apply AkD.1
  rw[AmO,Ama,Aml];simp only[List.extract,Amm,Ajk,Aka,Akn,Al6];show List.take args.size args.toList=args.toList
  exact Ajq (Amt AkP)
 have e0:(#[Value.iface T v]++args)[0]?=some (.iface T v):=by rw[AlW];rfl
 simp only[invoke,e0,e1,callMethod];simp only[Sem.run_bind];have G:(program:Sem Program).run P w=.ok P w:=rfl;rw[G];simp only[Result.andThen_ok,hk,hm];exact KQ _ w
theorem AGI {name:String}{f:FuncId}{args:Array Value}{sl:Value}(hm:Pm P T name=some (true,some (f,false)))(hu:P.underlying T=some (.pointer E))(G:∀w,(isAgg E).run P w=.ok false w)(KQ:Enters P f)(Dy:Hp.ld Z22 ⟨hb,0,none⟩=some sl)(h:Spec P f (#[sl]++args) Z22 R):MC P (.iface T (.pointer (aD hb 0))) name args Z22 R:=by
 obtain⟨i,m,hi,hm,hp,hf⟩:=ACq hm;exact⟨f,#[sl]++args,λw hs=>inv1 (λk=>AIz hi hm hp hf λnm=>AUl hu G hs Dy) KQ,h⟩
theorem AGJ {name:String}{f:FuncId}{args:Array Value}(hm:Pm P T name=some (true,some (f,true)))(hu:P.underlying T=some (.pointer E))(KQ:Enters P f)(h:Spec P f (#[.pointer (aD hb 0)]++args) Z22 R):MC P (.iface T (.pointer (aD hb 0))) name args Z22 R:=by
 obtain⟨i,m,hi,hm,hp,hf⟩:=ACq hm;have hr:∀(w:World) (k:Nat),(method (k+1) T (.pointer (aD hb 0)) name).run P w=.ok (f,.pointer (aD hb 0)) w:=λw k=>AIz (r:=.pointer (aD hb 0)) hi hm hp hf λnm=>AUm (v:=.pointer (aD hb 0)) (nm:=some nm) hu;have G:∀w:World,(invoke (.fn (.method name) #[]) (#[.iface T (.pointer (aD hb 0))]++args)).run P w=.ok (.enter f (#[.pointer (aD hb 0)]++args)) w:=λw=>inv1 (v:=.pointer (aD hb 0)) (r:=.pointer (aD hb 0)) (args:=args) (hr w) KQ;exact⟨f,_,λw _=>G w,h⟩
theorem ACr:prog.underlying 149=some (.pointer 147):=by kernel_rfl
theorem AMY:∀w,(isAgg 147).run prog w=.ok false w:=λw=>by kernel_rfl
theorem AMZ:Pm prog 149 zI=some (true,some (359,false)):=by kernel_rfl
theorem AGK:Pm prog 149 UI=some (true,some (360,false)):=by kernel_rfl
theorem tg:Pm prog 149 R5=some (true,some (361,false)):=by kernel_rfl
theorem th:Pm prog 149 AG3=some (true,some (363,true)):=by kernel_rfl
theorem ACs:Pm prog 149 AOk=some (true,some (362,true)):=by kernel_rfl
theorem gU {name:String}{f:FuncId}{args:Array Value}{p:Option Addr}{n c:Nat}(hm:Pm prog 149 name=some (true,some (f,false)))(KQ:Enters prog f)(G:Hp.ld Z22 ⟨hb,0,none⟩=some (.slice p n c))(h:Spec prog f (#[.slice p n c]++args) Z22 R):MC prog (.iface 149 (.pointer (aD hb 0))) name args Z22 R:=AGI hm ACr AMY KQ G h
theorem gV {name:String}{f:FuncId}{args:Array Value}(hm:Pm prog 149 name=some (true,some (f,true)))(G:Enters prog f)(h:Spec prog f (#[.pointer (aD hb 0)]++args) Z22 R):MC prog (.iface 149 (.pointer (aD hb 0))) name args Z22 R:=AGJ hm ACr G h
abbrev hV (hb:Nat):Value:=.iface 149 (.pointer (aD hb 0))
theorem xI (h:HM O2 N hb w e H)(G:R (.returned (.I (H.length:Int))) N):MC prog (hV hb) zI #[] N R:=
 gU AMZ Db.en h.ldh (Db.start G)
theorem AI0 {i j:Nat}{u v:Cu}{x y:Sr}(h:HM O2 N hb w e H)(hi:H[i]?=some u)(hj:H[j]?=some v)(hu:u.X[0]?=some x)(hv:v.X[0]?=some y)(G:∀N',Ext N N'->R (.returned (.bool (decide (Ay x.ls y.ls<0)))) N'):
 MC prog (hV hb) UI #[.I (i:Int),.I (j:Int)] N R:=gU AGK DI.en h.ldh (xH h hi hj hu hv G)
theorem gW {u v:Cu}(h:HM O2 N hb w e [u,v])(G:∀N',HM O2 N' hb w e [v,u]->R (.T #[]) N'):MC prog (hV hb) R5 #[.I 0,.I 1] N R:=gU tg Bs.en h.ldh (lz h G)
theorem AGL {u:Cu}(h:HM O2 N hb w e [u])(G:∀N',HM O2 N' hb w e [u]->R (.T #[]) N'):MC prog (hV hb) R5 #[.I 0,.I 0] N R:=gU tg Bs.en h.ldh (l3 h G)
theorem Yt {v:Value}(hR:R (.T #[]) N):Spec prog 102 #[v,.I 0] N R:=
 EI.start ⟨JH (by decide),by decide,λx7 G=>⟨λ_=>hR,λhn=>absurd (G.trans (by decide)) hn⟩⟩
theorem ACt {u v:Cu}{x y:Sr}(h:HM O2 N hb w e [u,v])(hu:u.X[0]?=some x)(hv:v.X[0]?=some y)(hR1:Ay y.ls x.ls<0->∀N',HM O2 N' hb w e [v,u]->R (.T #[]) N')(lH:¬Ay y.ls x.ls<0->∀N',HM O2 N' hb w e [u,v]->R (.T #[]) N'):
  Spec prog 102 #[hV hb,.I 1] N R:=by
 refine EI.start ⟨JH (by decide),by decide,λx7 G=>?_⟩;have G:x7=0:=G.trans (by decide);subst G;refine⟨λhh=>absurd hh (by decide),λ_=>AI0 (i:=1) (j:=0) h rfl rfl hv hu λN' hx=>⟨_,rfl,λhf=>lH (AkM hf) _ (h.mono hx),λht=>gW (h.mono hx) λN2 h2=>⟨rfl,EI.ALL ⟨JH (by decide),by decide,λx7 G=>⟨λ_=>hR1 (Ajx ht) _ h2,λhn=>absurd (G.trans (by decide)) hn⟩⟩⟩⟩⟩
theorem Re {v:Value}{n:Int}(hn:n<=1)(G:R (.B false) N):Spec prog 103 #[v,.I 0,.I n] N R:=
 Aw.start (Aw.BI ⟨JH (by decide),JH (by decide),λ_=>Aw.SB G,λhh=>absurd (by omega) hh⟩)
theorem qY {u v:Cu}{x y:Sr}(h:HM O2 N hb w e [u,v])(hu:u.X[0]?=some x)(hv:v.X[0]?=some y)(hR1:Ay y.ls x.ls<0->∀N',HM O2 N' hb w e [v,u]->R (.B true) N')(lH:¬Ay y.ls x.ls<0->∀N',HM O2 N' hb w e [u,v]->R (.B false) N'):
  Spec prog 103 #[hV hb,.I 0,.I 2] N R:=by
 refine Aw.start (Aw.BI ⟨JH (by decide),JH (by decide),λG=>absurd G (by decide),λ_=>⟨λG=>absurd G (by decide),λ_=>⟨JH (by decide),λG=>absurd G (by decide),λ_=>?_⟩⟩⟩);exact Aw.DZ (AI0 (i:=1) (j:=0) h rfl rfl hv hu λN' hx=>⟨_,rfl,λhf=>Aw.SB (lH (AkM hf) _ (h.mono hx)),λht=>gW (h.mono hx) λN2 h2=>⟨rfl,Aw.BI ⟨JH (by decide),JH (by decide),λ_=>Aw.SB (hR1 (Ajx ht) _ h2),λG=>absurd (by decide) G⟩⟩⟩)
theorem xJ {u:Cu}(h:HM O2 N hb w e [u])(G:R (.T #[]) N):Spec prog 71 #[hV hb,.I 0] N R:=
 Fy.start (xI h ⟨_,rfl,Re (by simp) ⟨_,rfl,λ_=>Yt ⟨rfl,G⟩,λhh=>(by cases hh)⟩⟩)
theorem xK {u v:Cu}{x y:Sr}(h:HM O2 N hb w e [u,v])(hu:u.X[0]?=some x)(hv:v.X[0]?=some y)(hR1:Ay y.ls x.ls<0->∀N',HM O2 N' hb w e [v,u]->R (.T #[]) N')(lH:¬Ay y.ls x.ls<0->∀N',HM O2 N' hb w e [u,v]->R (.T #[]) N'):
  Spec prog 71 #[hV hb,.I 0] N R:=
 Fy.start (xI h ⟨_,rfl,qY h hu hv (λhc N' G=>⟨_,rfl,λhh=>(by cases hh),λ_=>hR1 hc N' G⟩) λhc N' G=>⟨_,rfl,λ_=>Yt ⟨rfl,lH hc N' G⟩,λhh=>(by cases hh)⟩⟩)
theorem xL {u:Cu}(h:HM O2 N hb w e [u])(hR:∀N' z,HM O2 N' hb w e []->R (.returned z) N'):Spec prog 70 #[hV hb] N R:=
 Fu.start (xI h ⟨_,rfl,JH (by simp),AGL h λN1 h1=>⟨rfl,Re (by simp) ⟨_,rfl,gV ACs Ca.en (dT (H:=[]) h1 (by simp) λG z h2=>⟨z,rfl,hR G z h2⟩)⟩⟩⟩)
theorem xM {u v:Cu}(h:HM O2 N hb w e [u,v])(hR:∀N' z,HM O2 N' hb w e [v]->R (.returned z) N'):Spec prog 70 #[hV hb] N R:=
 Fu.start (xI h ⟨_,rfl,JH (by simp),gW h λN1 h1=>⟨rfl,Re (by simp) ⟨_,rfl,gV ACs Ca.en (dT (H:=[v]) h1 (by simp) λG z h2=>⟨z,rfl,hR G z h2⟩)⟩⟩⟩)
structure AMa (O2 N:Hp)(hb:Nat)(w:Option Addr)(H:List Cu)(u:Cu):Prop where
 at_:N u.b=some (.cells #[.slice u.p u.n u.c] 152 (0,0))
 rd:Ae 2 BX O2 u.p u.n u.X
 cap:u.n<=u.c
 new:O2 u.b=none
 ne:u.b≠hb
 nw:∀a,w=some a->u.b≠a.block
 nd:∀v∈H,v.b≠u.b
theorem Yu {u:Cu}(h:HM O2 N hb w e [])(G:AMa O2 N hb w [] u)(hR:∀N' w' e',HM O2 N' hb w' e' [u]->R (.T #[]) N'):Spec prog 69 #[hV hb,.iface 150 (.pointer (aD u.b 0))] N R:=
 FB.start (gV th CM.en (Ys h (by simp) G.at_ G.rd G.cap G.new G.ne G.nw G.nd λN1 w1 e1 h1=>⟨rfl,xI h1 ⟨_,rfl,JH (by simp),Yt ⟨rfl,hR N1 w1 e1 h1⟩⟩⟩))
theorem qZ {u v:Cu}{x y:Sr}(h:HM O2 N hb w e [u])(G:AMa O2 N hb w [u] v)(hux:u.X[0]?=some x)(hvy:v.X[0]?=some y)(hR1:Ay y.ls x.ls<0->∀N' w' e',HM O2 N' hb w' e' [v,u]->R (.T #[]) N')(lH:¬Ay y.ls x.ls<0->∀N' w' e',HM O2 N' hb w' e' [u,v]->R (.T #[]) N'):
  Spec prog 69 #[hV hb,.iface 150 (.pointer (aD v.b 0))] N R:=
 FB.start (gV th CM.en (Ys h (by simp) G.at_ G.rd G.cap G.new G.ne G.nw G.nd λN1 w1 e1 h1=>⟨rfl,xI h1 ⟨_,rfl,JH (by simp),ACt h1 hux hvy (λhc N2 h2=>⟨rfl,hR1 hc N2 w1 e1 h2⟩) λhc N2 h2=>⟨rfl,lH hc N2 w1 e1 h2⟩⟩⟩))
end
section
variable {Z22 O2 N N':Hp}{R:Rr}{hb e:Nat}{w:Option Addr}{H:List Cu}
theorem HM.upd {u:Cu}{Hs:List Cu}{p':Option Addr}{n' c':Nat}{X':List Sr}(h:HM O2 N hb w e (u::Hs))(hr:Ae 2 BX O2 p' n' X')(hc:n'<=c'):HM O2 (N.set u.b (.cells #[.slice p' n' c'] 152 (0,0))) hb w e (⟨u.b,p',n',c',X'⟩::Hs):=by
 obtain⟨c1,c2⟩:=h.cτ u (by simp);have Gz:=h.nd;rw[AkR]at Gz;obtain⟨d1,d2⟩:=Ako.1 Gz;refine⟨by rw[Hp.AB (λe=>c2 e.symm)];exact h.hv,BL.here h.arr λa G=>Hp.AB λe=>(h.aτ a G).2.2 u (by simp) e.symm,λv hv=>?_,λk v hk=>?_,h.hτ,λv hv=>?_,λa G=>⟨(h.aτ a G).1,(h.aτ a G).2.1,λv hv=>?_⟩,Gz⟩
 .rcases Ajo.1 hv with rfl|hv
  .exact⟨Hp.AA _ _ _,hr,hc⟩
  .have Av:v.b≠u.b:=λe=>d1 (by rw[<-e];exact AkT.2 ⟨v,hv,rfl⟩);exact⟨by rw[Hp.AB Av];exact(h.cur v (Ajm _ hv)).1,(h.cur v (Ajm _ hv)).2⟩
 .rw[Hp.AB (λe=>by rw[e,c1]at hk;cases hk)];exact h.ext _ _ hk
 .rcases Ajo.1 hv with rfl|hv
  .exact⟨c1,c2⟩
  .exact h.cτ v (Ajm _ hv)
 .rcases Ajo.1 hv with rfl|hv
  .exact(h.aτ a G).2.2 u (by simp)
  .exact(h.aτ a G).2.2 v (Ajm _ hv)
inductive Mb:List Cu->List Sr->List Sr->Prop
 | nil:Mb [] [] []
 | one {u:Cu} {x:Sr}:u.X[0]?=some x->Mb [u] u.X []
 | two {u v:Cu} {x y:Sr}:u.X[0]?=some x->v.X[0]?=some y->¬Ay y.ls x.ls<0->Mb [u,v] u.X v.X
def QQ (A B O X Y:List Sr):Prop:=∀zs,Pk X Y zs->∃ys,Pk A B ys/\ys.foldl Qi []=zs.foldl Qi O
theorem QQ.symm {A B O X Y:List Sr}(h:QQ A B O X Y):QQ A B O Y X:=λzs G=>h zs G.symm
theorem QQ.step {A B O X Y:List Sr}{s:Sr}(h:QQ A B O (s::X) Y)(G:∀b,Y.head?=some b->¬Ay b.ls s.ls<0):QQ A B (Qi O s) X Y:=λzs hz=>h (s::zs) (.left G hz)
theorem AUn:∀(n:Nat) (X Y:List Sr),X.length+Y.length<=n->∃zs,Pk X Y zs:=by
 intro n
 induction n with
 | zero=>
  intro X Y hn;have e1:X=[]:=AkV.1 (by omega);have e2:Y=[]:=AkV.1 (by omega);subst e1;subst e2;exact⟨[],.nil⟩
 | succ n ih=>
  intro X Y hn;cases X with
  | nil=>
   cases Y with
   | nil=>exact⟨[],.nil⟩
   | cons y Y=>
    obtain⟨zs,G⟩:=ih [] Y (by simp only[Ajk]at hn ⊢;omega);exact⟨_,.right (λa ha=>by cases ha) G⟩
  | cons x X=>
   by_cases hc:∃y,Y.head?=some y/\Ay y.ls x.ls<0
   .obtain⟨y,hy,Ax⟩:=hc;cases Y with
    | nil=>cases hy
    | cons y' Y=>
     cases hy;obtain⟨zs,G⟩:=ih (x::X) Y (by simp only[Ajk]at hn ⊢;omega);exact⟨_,.right (λa ha=>by cases ha;exact λhh=>by have:=(Ad.Qb _ _).1 Ax;omega) G⟩
   .obtain⟨zs,G⟩:=ih X Y (by simp only[Ajk]at hn;omega);exact⟨_,.left (λb hb Ax=>hc ⟨b,hb,Ax⟩) G⟩
theorem Sz:∀(a b:List Pt),a.length<=(Bk a b).length
 | [],b=>Ajy _
 | x::a,[]=>by rw[Dx];exact Ajt _
 | x::a,y::b=>by
  rw[GJ];have h1:=Sz a (y::b);have G:=Sz (x::a) b;have h3:=Sz a b;simp only[Ajk]at G ⊢;split
  .simp only[Ajk];omega
  .split<;>(simp only[Ajk];omega)
termination_by a b=>a.length+b.length
theorem ACv {O:List Sr}{s:Sr}:O.length<=(Qi O s).length/\∀u∈O,∃v∈Qi O s,u.ps.length<=v.ps.length:=by
 rcases Am7 O with rfl|⟨G,u,rfl⟩
 .exact⟨Ajy _,λu hu=>(by cases hu)⟩
 .by_cases h:u.ls=s.ls
  .rw[AmK,Yr h];refine⟨by simp,λv hv=>?_⟩;rcases AkH.1 hv with hv|hv
   .exact⟨v,Aky _ hv,Ajt _⟩
   .rw[Ajp]at hv;subst hv;exact⟨_,AlX _ (Ajp.2 rfl),Sz _ _⟩
  .have e:Qi (G.concat u) s=G.concat u++[s]:=by
    unfold Qi;rw[AmK,AmW];simp[h]
   rw[e];exact⟨by simp,λv hv=>⟨v,Aky _ hv,Ajt _⟩⟩
theorem dU:∀{zs O:List Sr},O.length<=(zs.foldl Qi O).length/\∀u∈O,∃v∈zs.foldl Qi O,u.ps.length<=v.ps.length
 | [],O=>⟨Ajt _,λu G=>⟨u,G,Ajt _⟩⟩
 | z::zs,O=>by
  obtain⟨h1,h2⟩:=ACv (O:=O) (s:=z);obtain⟨h3,h4⟩:=dU (zs:=zs) (O:=Qi O z);refine⟨Ake h1 h3,λu G=>?_⟩;obtain⟨v,hv,h5⟩:=h2 u G;obtain⟨v',hv',h6⟩:=h4 v hv;exact⟨v',hv',Ake h5 h6⟩
abbrev S0 (s:Sr):Prop:=s.ls.length<=1000000000/\s.ps.length<=100000000
abbrev BdO (O:List Sr):Prop:=(∀u∈O,u.ps.length<=200000000)/\O.length<=2900000000000
theorem ACw {A B:List Sr}(hA:∀s∈A,S0 s)(hB:∀s∈B,S0 s):∀u∈BE A B,u.ls.length<=1000000000/\u.ps.length<=200000000:=λu hu=>by
 rcases Ed _ _ u hu with G|G|⟨x,G,y,h2,rfl,h3⟩
 .have:=hA u G;exact⟨this.1,by have:=this.2;omega⟩
 .have:=hB u G;exact⟨this.1,by have:=this.2;omega⟩
 .have e1:=hA x G;have e2:=hB y h2;have:=Pj x.ps y.ps;exact⟨e1.1,by have:=e1.2;have:=e2.2;dsimp only;omega⟩
theorem AUo {A B O X Y:List Sr}(sA:A.Pairwise QF)(sB:B.Pairwise QF)(hA:∀s∈A,S0 s)(hB:∀s∈B,S0 s)(hl:A.length+B.length<=2900000000000)(h:QQ A B O X Y):BdO O:=by
 obtain⟨zs,hz⟩:=AUn _ X Y (Ajt _);obtain⟨ys,h1,h2⟩:=h zs hz;rw[ACp _ A B ys [] (Ajt _) sA sB h1 λu G=>(by cases G),Akp]at h2;obtain⟨g1,g2⟩:=dU (zs:=zs) (O:=O);rw[<-h2]at g1 g2;refine⟨λu G=>?_,Ake g1 (Ake (Ku A B) hl)⟩;obtain⟨v,hv,h3⟩:=g2 u G;exact Ake h3 (ACw hA hB v hv).2
structure Cli (O2:Hp)(l:Nat)(J:Hp->List Sr->Hp->Prop):Prop where
 st:∀N N' O Z22 Z',J N O Z22->Ext N' Z'->Ext O2 N'->(∀k v,N k=none->Z22 k=some v->Z' k=some v/\N' k=none)->J N' O Z'
 ext:∀N O Z22,J N O Z22->Ext N Z22
 y:∀N O Z22 s p n c q m d,J N O Z22->BdO O->S0 s->Ext O2 N->HG O2 p n s.ls->Ae 2 DX O2 q m s.ps->m<=d->Jf prog l #[.agg #[.slice p n c,.slice q m d]] Z22 (λe Z'=>e=.B true/\J N (Qi O s) Z')
variable {l:Nat}{J:Hp->List Sr->Hp->Prop}
theorem Cli.call (G:Cli O2 l J){f:FuncId}{args:Array Value}{O:List Sr}(hJ:J N O Z22)(h:Spec prog f args N (λe N'=>Ext O2 N'/\∀Z',J N' O Z'->R e Z')):Spec prog f args Z22 R:=
 Spec.ABh (N:=N) (M:=Z22.minus N) (G.ext _ _ _ hJ) (Ext.ABf _ _) (FI.minus _ _) (h.mono λe N' ⟨hx,hr⟩ hd=>hr _ (G.st N N' O Z22 _ hJ (Ext.Cf _ _) hx λk v hk hv=>by
  have hm:=Hp.HY.2 ⟨hk,hv⟩;have hn:=hd k (by rw[hm];simp);exact⟨by rw[Hp.Cn hn];exact hm,hn⟩))
theorem Cli.set (hC:Cli O2 l J){O:List Sr}{b:Nat}{o:Obj}(hJ:J N O Z22)(hb:N b≠none\/Z22 b=none)(hx:Ext O2 (N.set b o)):J (N.set b o) O (Z22.set b o):=by
 have hN:=hC.ext _ _ _ hJ;refine hC.st N _ O Z22 _ hJ (λk v G=>?_) hx λk v G hv=>?_
 .by_cases h:k=b
  .subst h;rw[Hp.AA]at G ⊢;exact G
  .rw[Hp.AB h]at G ⊢;exact hN _ _ G
 .have Av:k≠b:=λe=>by
   rcases hb with hb|hb
   .exact hb (by rw[<-e];exact G)
   .rw[<-e,hv]at hb;cases hb
  rw[Hp.AB Av,Hp.AB Av];exact⟨hv,G⟩
theorem ti:∀w,(Go.sizeOf 22).run prog w=.ok 1 w:=λw=>by kernel_rfl
theorem xN {A B:List Sr}{b3:Nat}(hC:Cli O2 l J)(hbd:∀O X Y,QQ A B O X Y->BdO O)(iU:∀N ys Z22,Pk A B ys->J N (ys.foldl Qi []) Z22->R (.T #[]) Z22):
  ∀(g:Nat) (X Y:List Sr) (Hs:List Cu) (N Z22:Hp) (O:List Sr) (w:Option Addr) (e:Nat),X.length+Y.length<=g->Mb Hs X Y->HM O2 N b3 w e Hs->J N O Z22->QQ A B O X Y->(∀x,x∈X\/x∈Y->S0 x)->AQ.Kb R (.func (.yield l) #[] #[]) b3 Z22:=by
 intro g
 induction g with
 | zero=>
  intro X Y Hs N Z22 O w e hg hH hM hJ hQ hP;have hN:=hC.ext _ _ _ hJ;cases hH with
  | nil=>
   obtain⟨ys,h1,h2⟩:=hQ [] .nil;exact AQ.Jl ⟨w,0,e,hN.ld hM.ldh,λhh=>absurd hh (by decide),λ_=>iU N ys Z22 h1 (by rw[h2];exact hJ)⟩
  | one G=>have:=(Ajn.1 G).1;omega
  | two G hy hc=>have:=(Ajn.1 G).1;omega
 | succ g ih=>
  have go:∀(u:Cu) (Hs:List Cu) (s:Sr) (X' Y:List Sr) (N Z22:Hp) (O:List Sr) (w:Option Addr) (e:Nat),u.X=s::X'->HM O2 N b3 w e (u::Hs)->J N O Z22->QQ A B O (s::X') Y->(∀b,Y.head?=some b->¬Ay b.ls s.ls<0)->S0 s->
    (∀N1 Z1,J N1 (Qi O s) Z1->QQ A B (Qi O s) X' Y->HM O2 N1 b3 w e (⟨u.b,Ee u.p 1 u.c 2,u.n-1,u.c-1,X'⟩::Hs)->Br (((u.n-1:Nat):Int)=0) (Spec prog 70 #[hV b3] Z1 (AY R (λz AK=>∃v53,v53=z/\AQ.Kb R (.func (.yield l) #[] #[]) b3 AK))) (Spec prog 71 #[hV b3,.I 0] Z1 (AY R (λz AK=>z=(.tuple #[])/\AQ.Kb R (.func (.yield l) #[] #[]) b3 AK))))->AQ.Kb R (.func (.yield l) #[] #[]) b3 Z22:=by
   intro u Hs s X' Y N Z22 O w e huX hM hJ hQ hs hPs next
   have hN:=hC.ext _ _ _ hJ;obtain⟨b,o,rfl,Ax,pP⟩:=hM.at (i:=0) (u:=u) rfl;obtain⟨c1,c2,c3⟩:=hM.cur u (by simp);rw[huX]at c2;have TF:(s::X').length=u.n:=c2.1;rw[Ajk]at TF;obtain⟨bx,ox,p1,n1,e1,q1,m1,d1,hpu,l1,r1,r2,r3⟩:=BX.at c2 (i:=0) (s:=s) rfl;rw[AlT,Ak7]at l1;have AUp:=hM.ext.trans hN;have hlen:(0:Int)<(((u::Hs).length:Nat):Int):=by rw[Ajk];omega
   refine AQ.Jl ⟨_,_,e,hN.ld hM.ldh,λ_=>⟨_,_,e,hN.ld hM.ldh,b,o,rfl,⟨by decide,hlen⟩,aD u.b 0,hN.ld pP,u.b,0,rfl,u.p,u.n,u.c,AJ (hN _ _ c1) rfl,bx,ox,hpu,by unfold In;omega,p1,n1,e1,q1,m1,d1,l1.mono AUp,l,rfl,?_⟩,λhh=>absurd hlen hh⟩;refine(hC.y N O Z22 s p1 n1 e1 q1 m1 d1 hJ (hbd _ _ _ hQ) hPs hM.ext r1 r2 r3).mono λen Z1 ⟨he,l5⟩=>?_;subst he;have hN1:=hC.ext _ _ _ l5;refine⟨true,rfl,λhh=>(by cases hh),λ_=>⟨u.p,u.n,u.c,AJ (hN1 _ _ c1) rfl,⟨by decide,by omega⟩,?_⟩⟩;have lN:=hM.upd (AMU c2 (by decide) c3) (by omega:u.n-1<=u.c-1);refine AI.store (P:=prog) ti (hN1 _ _ c1) rfl (Ajt _) qX ?_;have e1:LF #[Value.slice u.p u.n u.c] 0 (Value.slice (Ee u.p 1 u.c 2) (u.n-1) (u.c-1)).cells.toList=#[.slice (Ee u.p 1 u.c 2) (u.n-1) (u.c-1)]:=rfl;rw[e1];exact⟨_,_,_,AJ (Hp.AA _ _ _) rfl,next _ _ (hC.set l5 (.inl (by rw[c1];simp)) lN.ext) (hQ.step hs) lN⟩
  intro X Y Hs N Z22 O w e hg hH hM hJ hQ hP;have hN:=hC.ext _ _ _ hJ;cases hH with
  | nil=>
   obtain⟨ys,h1,h2⟩:=hQ [] .nil;exact AQ.Jl ⟨w,0,e,hN.ld hM.ldh,λhh=>absurd hh (by decide),λ_=>iU N ys Z22 h1 (by rw[h2];exact hJ)⟩
  | one G=>
   rename_i u s;cases huX:u.X with
   | nil=>rw[huX]at G;cases G
   | cons s' X'=>
    rw[huX]at hg hQ hP;simp only[Ajk,Aka]at hg;refine go u [] s' X' [] N Z22 O w e huX hM hJ hQ (λb hb=>by cases hb) (hP s' (.inl (by simp))) λN1 Z1 l5 tj lN=>⟨λh0=>?_,λh0=>?_⟩
    .have hX':X'=[]:=AkV.1 (by have:=(lN.cur _ (Aj5 ..)).2.1.1;simp only at this;omega);subst hX';exact hC.call l5 (xL lN λN2 z h2=>⟨h2.ext,λZ2 yU=>⟨z,rfl,ih [] [] [] N2 Z2 _ w e (by simp) .nil h2 yU tj λx G=>by rcases G with G|G<;>cases G⟩⟩)
    .cases hX:X' with
     | nil=>exact absurd (by have:=(lN.cur _ (Aj5 ..)).2.1.1;simp only[hX,Aka]at this;omega) h0
     | cons t X2=>
      subst hX;exact hC.call l5 (xJ lN ⟨lN.ext,λZ2 yU=>⟨rfl,ih _ [] _ N1 Z2 _ w e (by simp only[Ajk,Aka]at hg ⊢;omega) (Mb.one (u:=⟨u.b,Ee u.p 1 u.c 2,u.n-1,u.c-1,t::X2⟩) (x:=t) rfl) lN yU tj λx G=>hP x (G.imp (Ajm _) id)⟩⟩)
  | two G hy hc=>
   rename_i u v s y;cases huX:u.X with
   | nil=>rw[huX]at G;cases G
   | cons s' X'=>
    rw[huX]at hg hQ G hP;have Ms:s'=s:=by simpa using G
    subst Ms;simp only[Ajk]at hg;have AUq:∀b,v.X.head?=some b->¬Ay b.ls s'.ls<0:=λb hb=>by
     rw[Alo,hy]at hb;cases hb;exact hc
    refine go u [v] s' X' v.X N Z22 O w e huX hM hJ hQ AUq (hP s' (.inl (by simp))) λN1 Z1 l5 tj lN=>⟨λh0=>?_,λh0=>?_⟩
    .have hX':X'=[]:=AkV.1 (by have:=(lN.cur _ (Aj5 ..)).2.1.1;simp only at this;omega);subst hX';exact hC.call l5 (xM lN λN2 z h2=>⟨h2.ext,λZ2 yU=>⟨z,rfl,ih v.X [] [v] N2 Z2 _ w e (by simp only[Aka]at hg ⊢;omega) (.one hy) h2 yU tj.symm λx G=>hP x (G.elim .inr λh=>by cases h)⟩⟩)
    .cases hX:X' with
     | nil=>exact absurd (by have:=(lN.cur _ (Aj5 ..)).2.1.1;simp only[hX,Aka]at this;omega) h0
     | cons t X2=>
      subst hX;simp only[Ajk]at hg;refine hC.call l5 (xK (x:=t) (y:=y) lN rfl hy (λAx N2 h2=>⟨h2.ext,λZ2 yU=>⟨rfl,?_⟩⟩) λRU N2 h2=>⟨h2.ext,λZ2 yU=>⟨rfl,?_⟩⟩)
      .exact ih v.X (t::X2) _ N2 Z2 _ w e (by simp only[Ajk];omega) (Mb.two (u:=v) (v:=⟨u.b,Ee u.p 1 u.c 2,u.n-1,u.c-1,t::X2⟩) (x:=y) (y:=t) hy rfl λhh=>by have:=(Ad.Qb _ _).1 Ax;omega) h2 yU tj.symm λx G=>hP x (G.elim .inr λh=>.inl (Ajm _ h))
      .exact ih (t::X2) v.X _ N2 Z2 _ w e (by simp only[Ajk];omega) (Mb.two (u:=⟨u.b,Ee u.p 1 u.c 2,u.n-1,u.c-1,t::X2⟩) (v:=v) (x:=t) (y:=y) rfl hy RU) h2 yU tj λx G=>hP x (G.imp (Ajm _) id)
theorem xO {A B:List Sr}{b1 lb nA cA nB cB:Nat}{pA pB:Option Addr}{Z0:Hp}(hC:Cli O2 l J)(JE:Hp.ld O2 ⟨b1,0,none⟩=some (.slice (aD lb 0) 2 2))(pP:Hp.ld O2 ⟨lb,0,none⟩=some (.slice pA nA cA))(RB:Hp.ld O2 ⟨lb,1,none⟩=some (.slice pB nB cB))(rA:Ae 2 BX O2 pA nA A)(kA:nA<=cA)(rB:Ae 2 BX O2 pB nB B)(kB:nB<=cB)
  (sA:A.Pairwise QF) (sB:B.Pairwise QF) (hA:∀s∈A,S0 s) (hB:∀s∈B,S0 s) (hl:A.length+B.length<=2900000000000) (h0:J O2 [] Z0) (iU:∀N ys Z22,Pk A B ys->J N (ys.foldl Qi []) Z22->R (.T #[]) Z22):Spec prog 68 #[.func (.yield l) #[] #[],.pointer (aD b1 0)] Z0 R:=by
 have hlA:A.length=nA:=rA.1;have hlB:B.length=nB:=rB.1;have tI:=hC.ext _ _ _ h0;refine AQ.start λb3 h3=>?_;have t3:O2 b3=none:=A7 tI h3;have x3:=Ext.set (o:=.cells #[.N] 147 (0,0)) t3;have J3:=hC.set (o:=.cells #[.N] 147 (0,0)) h0 (.inr h3) x3;have M3:HM O2 (O2.set b3 (.cells #[.N] 147 (0,0))) b3 none 0 []:=⟨Hp.AA _ _ _,BL.nil,λu hu=>(by cases hu),x3,t3,λu hu=>(by cases hu),λa ha=>(by cases ha),Ak9⟩;generalize O2.set b3 (.cells #[.N] 147 (0,0))=N3 at *
 suffices H:∀Z3,J N3 [] Z3->∃p7:Option Addr,∃n7 c7:Nat,Hp.ld Z3 ⟨b1,0,none⟩=some (.slice p7 n7 c7)/\AQ.Gf R (.func (.yield l) #[] #[]) b3 p7 n7 c7 (n7:Int) 0 Z3 from H _ J3
 clear J3;intro Z3 J3;have CE:=M3.ext.trans (hC.ext _ _ _ J3);have fin:∀(X Y:List Sr) (Hs:List Cu) (N Z22:Hp) (w:Option Addr) (e:Nat),Mb Hs X Y->HM O2 N b3 w e Hs->J N [] Z22->QQ A B [] X Y->(∀x,x∈X\/x∈Y->S0 x)->AQ.Kb R (.func (.yield l) #[] #[]) b3 Z22:=λX Y Hs N Z22 w e h1 h2 h4 h5 h6=>xN hC (λO X Y h=>AUo sA sB hA hB hl h) iU _ X Y Hs N Z22 [] w e (Ajt _) h1 h2 h4 h5 h6;have PB:∀x,x∈B\/x∈A->S0 x:=λx hx=>hx.elim (hB x) (hA x);have PA:∀x,x∈A\/x∈B->S0 x:=λx hx=>hx.elim (hA x) (hB x);have Q0:QQ A B [] A B:=λzs hz=>⟨zs,hz,rfl⟩;have AMb:∀(N Z22:Hp) (w:Option Addr) (e:Nat) (Hs:List Cu) (p:Option Addr) (n c:Nat) (X:List Sr) (G:Nat),HM O2 N b3 w e Hs->J N [] Z22->Z22 G=none->Ae 2 BX O2 p n X->n<=c->HM O2 (N.set G (.cells #[.slice p n c] 152 (0,0))) b3 w e Hs/\J (N.set G (.cells #[.slice p n c] 152 (0,0))) [] (Z22.set G (.cells #[.slice p n c] 152 (0,0)))/\AMa O2 (N.set G (.cells #[.slice p n c] 152 (0,0))) b3 w Hs ⟨G,p,n,c,X⟩:=λN Z22 w e Hs p n c X G hM hJ h19 hr hc=>by
  have hN:=hC.ext _ _ _ hJ;have n19:N G=none:=A7 hN h19;have Ce:=Ext.set (o:=.cells #[.slice p n c] 152 (0,0)) n19;refine⟨hM.mono Ce,hC.set hJ (.inr h19) (hM.ext.trans Ce),⟨Hp.AA _ _ _,hr,hc,A7 hM.ext n19,λe=>?_,λa ha e=>?_,λv hv e=>?_⟩⟩
  .have:=hM.hv;rw[<-e]at this;simp only at this;rw[n19]at this;cases this
  .exact hM.arr.block a ha (by rw[<-e];exact n19)
  .have:=(hM.cur v hv).1;rw[e]at this;simp only at this;rw[n19]at this;cases this
 refine⟨_,_,_,CE.ld JE,?_⟩;refine AQ.A0 ⟨λ_=>⟨lb,0,rfl,by decide,pA,nA,cA,by simpa using CE.ld pP,λhA=>?_,λhA=>AQ.Eu ⟨JH (by decide),?_⟩⟩,λhh=>absurd (by decide) hh⟩
 .obtain⟨a,ha⟩:∃a,A[0]?=some a:=⟨_,Ajs (by omega)⟩;intro G h19;obtain⟨g1,g2,g3⟩:=AMb N3 Z3 none 0 [] pA nA cA A G M3 J3 h19 rA kA;refine hC.call g2 (Yu (u:=⟨G,pA,nA,cA,A⟩) g1 g3 λN4 w4 e4 h4=>⟨h4.ext,λZ4 J4=>⟨rfl,AQ.Eu ⟨JH (by decide),?_⟩⟩⟩);have KK:=h4.ext.trans (hC.ext _ _ _ J4);refine AQ.A0 ⟨λ_=>⟨lb,0,rfl,by decide,pB,nB,cB,by simpa using KK.ld RB,λhB=>?_,λhB=>AQ.Eu ⟨JH (by decide),AQ.A0 ⟨λhh=>absurd hh (by decide),λ_=>?_⟩⟩⟩,λhh=>absurd (by decide) hh⟩
  .obtain⟨b,xG⟩:∃b,B[0]?=some b:=⟨_,Ajs (by omega)⟩;intro S8 h29;obtain⟨k1,k2,k3⟩:=AMb N4 Z4 w4 e4 _ pB nB cB B S8 h4 J4 h29 rB kB;refine hC.call k2 (qZ (u:=⟨G,pA,nA,cA,A⟩) (v:=⟨S8,pB,nB,cB,B⟩) (x:=a) (y:=b) k1 k3 ha xG (λAx N5 w5 e5 h5=>⟨h5.ext,λZ5 J5=>⟨rfl,AQ.Eu ⟨JH (by decide),AQ.A0 ⟨λhh=>absurd hh (by decide),λ_=>?_⟩⟩⟩⟩) λRU N5 w5 e5 h5=>⟨h5.ext,λZ5 J5=>⟨rfl,AQ.Eu ⟨JH (by decide),AQ.A0 ⟨λhh=>absurd hh (by decide),λ_=>?_⟩⟩⟩⟩)
   .exact fin B A _ N5 Z5 w5 e5 (Mb.two (u:=⟨S8,pB,nB,cB,B⟩) (v:=⟨G,pA,nA,cA,A⟩) xG ha λhh=>by have:=(Ad.Qb _ _).1 Ax;omega) h5 J5 Q0.symm PB
   .exact fin A B _ N5 Z5 w5 e5 (Mb.two (u:=⟨G,pA,nA,cA,A⟩) (v:=⟨S8,pB,nB,cB,B⟩) ha xG RU) h5 J5 Q0 PA
  .have hBn:B=[]:=AkV.1 (by omega);subst hBn;exact fin A [] _ N4 Z4 w4 e4 (Mb.one (u:=⟨G,pA,nA,cA,A⟩) ha) h4 J4 Q0 PA
 .have hAn:A=[]:=AkV.1 (by omega);subst hAn;refine AQ.A0 ⟨λ_=>⟨lb,0,rfl,by decide,pB,nB,cB,by simpa using CE.ld RB,λhB=>?_,λhB=>AQ.Eu ⟨JH (by decide),AQ.A0 ⟨λhh=>absurd hh (by decide),λ_=>?_⟩⟩⟩,λhh=>absurd (by decide) hh⟩
  .obtain⟨b,xG⟩:∃b,B[0]?=some b:=⟨_,Ajs (by omega)⟩;intro G h19;obtain⟨g1,g2,g3⟩:=AMb N3 Z3 none 0 [] pB nB cB B G M3 J3 h19 rB kB;exact hC.call g2 (Yu (u:=⟨G,pB,nB,cB,B⟩) g1 g3 λN4 w4 e4 h4=>⟨h4.ext,λZ4 J4=>⟨rfl,AQ.Eu ⟨JH (by decide),AQ.A0 ⟨λhh=>absurd hh (by decide),λ_=>fin B [] _ N4 Z4 w4 e4 (Mb.one (u:=⟨G,pB,nB,cB,B⟩) xG) h4 J4 Q0.symm PB⟩⟩⟩⟩)
  .have hBn:B=[]:=AkV.1 (by omega);subst hBn;exact fin [] [] _ N3 Z3 none 0 .nil M3 J3 Q0 PA
end
end TwW
end
section
namespace TwW
open Go Tw
theorem BL.AMc {s:Nat}{Z22 Z':Hp}{p:Option Addr}{n c:Nat}{cs:List Value}(G:BL s Z22 p n c cs)(h:∀a,p=some a->Z' a.block=Z22 a.block):BL s Z' p n c cs:=
 ⟨G.1,G.2.1,G.2.2.imp id λ⟨b',o',arr,T,hp,hb,r⟩=>⟨b',o',arr,T,hp,by rw[h _ hp];exact hb,r⟩⟩
theorem Hp.ACx {Z22 Z':Hp}{p:Option Addr}(hx:Ext Z22 (Z'.del p)):∀a,p=some a->(Z22.new Z') a.block=Z' a.block:=λa ha=>by
 subst ha;cases G:Z22 a.block with
 | none=>simp only[Hp.new,G]
 | some u=>
  have:=hx _ _ G;simp[Hp.del]at this
theorem AN.gY {α:Type}{s:Nat}{E:Hp->List Value->α->Prop}{Z0 Z22:Hp}{p:Option Addr}{n c:Nat}{xs:List α}(hE:∀Z22 Z' vs x,E Z22 vs x->E Z' vs x)(h:AN s E Z0 Z22 p n c xs):Ae s E (Z0.new Z22) p n xs:=by
 obtain⟨⟨h1,cs,h2,G⟩,h4⟩:=h;exact⟨h1,cs,(BL.AMc h2 (Hp.ACx h4)).rd,G.1,λi x hi=>hE _ _ _ _ (G.2 i x hi)⟩
end TwW
end
section
namespace TwW
open Go Tw Go.RowKit Go.Proofs.Tryz
abbrev mL (l D b7:Nat)(w:Option Addr)(j e:Nat)(lo:Loop):List (Nat×Obj):=[(l,.loop lo),(D,.deferred (some [])),(b7,.cells #[.slice w j e] 22 (0,0))]
structure OM (C B:Hp)(w:Option Addr)(j e:Nat)(O:List Sr):Prop where
 own:∃cs,BL 2 B w j e cs/\Ch 2 BX C cs O
 ext:Ext C B
 nw:∀a,w=some a->C a.block=none
structure JmB (O2 N:Hp)(l D b7:Nat)(O:List Sr)(B C:Hp)(w:Option Addr)(e:Nat):Prop where
 off:∀b∈[l,D,b7],B b=none
 nb:Ext N B
 om:OM C B w O.length e O
 tc:Ext O2 C
 cn:∀k,C k≠none->O2 k≠none\/N k=none
 wn:∀a,w=some a->N a.block=none
def Jm (O2:Hp)(l D b7:Nat)(r0:Loop)(N:Hp)(O:List Sr)(Z22:Hp):Prop:=∃B C w e,Z22=BW B (mL l D b7 w O.length e (lp r0 .ready none))/\JmB O2 N l D b7 O B C w e
section
variable {Z22 Z' O2 N N' B C:Hp}{R:Rr}{l D b7 e:Nat}{r0:Loop}{O:List Sr}{w:Option Addr}
theorem Jm.ext (Gz:[l,D,b7].Nodup)(h:Jm O2 l D b7 r0 N O Z22):Ext N Z22:=by
 obtain⟨B,C,w,e,rfl,G⟩:=h;exact G.nb.trans (VI.ext (L:=mL l D b7 w O.length e (lp r0 .ready none)) Gz G.off)
theorem Jm.st (Gz:[l,D,b7].Nodup)(h:Jm O2 l D b7 r0 N O Z22)(hx:Ext N' Z')(hτ:Ext O2 N')(hk:∀k v,N k=none->Z22 k=some v->Z' k=some v/\N' k=none):Jm O2 l D b7 r0 N' O Z':=by
 obtain⟨B,C,w,e,rfl,hJ⟩:=h
 let L:=mL l D b7 w O.length e (lp r0 .ready none)
 have hL:(names L).Nodup:=Gz;have boxed:∀(i b:Nat) (o:Obj),L[i]?=some (b,o)->b∈[l,D,b7]->Z' b=some o/\N' b=none:=λi b o hi hb=>hk b o (A7 hJ.nb (hJ.off b hb)) (Bd hL hi);have keep:∀k v,B k=some v->N k=none->Z' k=some v/\N' k=none:=λk v hb hn=>hk k v hn (VI.ext (L:=L) hL hJ.off k v hb)
 let B':Hp:=λk=>if k=l\/k=D\/k=b7 then none else Z' k
 have other:∀k,B k≠none\/N' k≠none->B' k=Z' k:=λk Cs=>by
  have hn:¬(k=l\/k=D\/k=b7):=λG=>by
   have hm:k∈[l,D,b7]:=by simpa using G
   rcases Cs with hb|hb
   .exact hb (hJ.off k hm)
   .rcases G with rfl|rfl|rfl
    .exact hb (boxed 0 _ _ rfl hm).2
    .exact hb (boxed 1 _ _ rfl hm).2
    .exact hb (boxed 2 _ _ rfl hm).2
  show(if k=l\/k=D\/k=b7 then none else Z' k)=Z' k
  rw[Ajj hn]
 have tn:∀k v,B k=some v->N k=none->B' k=some v/\N' k=none:=λk v hb hn=>by
  obtain⟨k1,k2⟩:=keep k v hb hn;exact⟨by rw[other k (.inl (by rw[hb];simp))];exact k1,k2⟩
 have hB':Z'=BW B' L:=funext λk=>by
  show Z' k=(((B'.set b7 (.cells #[.slice w O.length e] 22 (0,0))).set D (.deferred (some []))).set l (.loop (lp r0 .ready none))) k
  by_cases h1:k=l
  .subst h1;rw[Hp.AA];exact(boxed 0 _ _ rfl (by simp)).1
  .rw[Hp.AB h1];by_cases h2:k=D
   .subst h2;rw[Hp.AA];exact(boxed 1 _ _ rfl (by simp)).1
   .rw[Hp.AB h2];by_cases h3:k=b7
    .subst h3;rw[Hp.AA];exact(boxed 2 _ _ rfl (by simp)).1
    .rw[Hp.AB h3];show Z' k=if k=l\/k=D\/k=b7 then none else Z' k
     rw[Ajj (by rintro(h|h|h);exact h1 h;exact h2 h;exact h3 h)]
 obtain⟨⟨cs,ho,hc⟩,tq,hnw⟩:=hJ.om;refine⟨B',C,w,e,hB',λb hb=>?_,λk v Cs=>?_,⟨⟨cs,BL.here ho λa ha=>?_,hc⟩,λk v Cs=>?_,hnw⟩,hJ.tc,λk Cs=>?_,λa ha=>?_⟩
 .show(if b=l\/b=D\/b=b7 then none else Z' b)=none
  rw[Ajl (by simpa using hb)]
 .rw[other k (.inr (by rw[Cs];simp))];exact hx _ _ Cs
 .cases G:B a.block with
  | none=>exact absurd G (ho.block a ha)
  | some v=>exact(tn _ _ G (hJ.wn a ha)).1
 .have hb:=tq _ _ Cs;rcases hJ.cn k (by rw[Cs];simp) with h1|h1
  .rw[other k (.inl (by rw[hb];simp))];cases G:O2 k with
   | none=>exact absurd G h1
   | some u=>
    have:=hJ.tc _ _ G;rw[Cs]at this;rw[hx _ _ (hτ _ _ G),<-this]
  .exact(tn k v hb h1).1
 .rcases hJ.cn k Cs with h1|h1
  .exact .inl h1
  .cases G:C k with
   | none=>exact absurd G Cs
   | some v=>exact .inr (tn k v (tq _ _ G) h1).2
 .cases G:B a.block with
  | none=>exact absurd G (ho.block a ha)
  | some v=>exact(tn _ _ G (hJ.wn a ha)).2
theorem AMd:∀w,(Go.sizeOf 98).run prog w=.ok 2 w:=λw=>by kernel_rfl
theorem JmB.mono {G:Hp}(h:JmB O2 N l D b7 O B C w e)(hx:Ext B G)(ho:∀b∈[l,D,b7],G b=none):JmB O2 N l D b7 O G C w e:=
 ⟨ho,h.nb.trans hx,⟨let ⟨cs,h1,h2⟩:=h.om.own;⟨cs,h1.mono hx,h2⟩,h.om.ext.trans hx,h.om.nw⟩,h.tc,h.cn,h.wn⟩
theorem xP {s:Sr}{p q:Option Addr}{n c m d:Nat}(Gz:[l,D,b7].Nodup)(hJ:JmB O2 N l D b7 O B C w e)(hbd:BdO O)(hs:S0 s)(r1:HG O2 p n s.ls)(r2:Ae 2 DX O2 q m s.ps)(lM:m<=d):
  Da.AKE (λen Z'=>en=.B true/\Jm O2 l D b7 r0 N (Qi O s) Z') l r0 b7 (.agg #[.slice p n c,.slice q m d]) (BW B (mL l D b7 w O.length e (lp r0 .ready none))):=by
 refine Da.AEQ λb8 h8=>?_;obtain⟨n8,hB8⟩:=P3 (L:=mL l D b7 w O.length e (lp r0 .ready none)) h8;have Qf:(b8::[l,D,b7]).Nodup:=Ako.2 ⟨n8,Gz⟩
 let o8:Obj:=.cells #[.slice p n c,.slice q m d] 98 (0,0)
 let Lo:Option Addr->Nat->Nat->Loop->List (Nat×Obj):=λw j e lo=>(b8,o8)::mL l D b7 w j e lo
 let L:List (Nat×Obj):=(b8,o8)::mL l D b7 w O.length e (lp r0 .busy none)
 have hL:(names L).Nodup:=Qf;have AMe:∀{B' w' j' e' lo},(∀b∈[l,D,b7],B' b=none)->B' b8=none->VI (Lo w' j' e' lo) B':=λho h9 x hx=>by
  rcases Ajo.1 hx with rfl|hx
  .exact h9
  .exact ho x hx
 have ACy:∀{B' w' j' e' lo},VI (Lo w' j' e' lo) B'->(∀b∈[l,D,b7],B' b=none)/\B' b8=none:=λho=>⟨λx hx=>ho x (Ajm _ hx),ho b8 (Aj5 ..)⟩;show AI prog (Instr.storeAt 98 (.pointer (some ⟨b8,0,none⟩)) (.agg #[.slice p n c,.slice q m d])) (BW B ((b8,.cells #[.N,.N] 98 (0,0))::mL l D b7 w O.length e (lp r0 .ready none))) _
 refine AI.RT (L:=(b8,.cells #[.N,.N] 98 (0,0))::mL l D b7 w O.length e (lp r0 .ready none)) (i:=0) (c:=#[.N,.N]) (c':=#[.slice p n c,.slice q m d]) AMd Qf rfl rfl rfl rfl rfl ?_;refine⟨Bd (L:=Lo w O.length e (lp r0 .ready none)) (i:=1) Qf rfl,?_⟩;have eb:(BW B (((b8,Obj.cells #[.N,.N] 98 (0,0))::mL l D b7 w O.length e (lp r0 .ready none)).set 0 (b8,Obj.cells #[.slice p n c,.slice q m d] 98 (0,0)))).set l (.loop (lp r0 .busy none))=BW B L:=DQ (L:=Lo w O.length e (lp r0 .ready none)) (i:=1) Qf rfl;rw[eb];have fin:∀(B' C':Hp) (w':Option Addr) (e':Nat) (O':List Sr),O'=Qi O s->JmB O2 N l D b7 O' B' C' w' e'->B' b8=none->BW B' (Lo w' O'.length e' (lp r0 .busy none)) l=some (.loop (lp r0 .busy none))/\((Ending.B true:Ending)=.B true/\Jm O2 l D b7 r0 N (Qi O s) ((BW B' (Lo w' O'.length e' (lp r0 .busy none))).set l (.loop (lp r0 .ready none)))):=λB' C' w' e' O' hO hJ' h8'=>by
  subst hO;have e1:(BW B' (Lo w' (Qi O s).length e' (lp r0 .busy none))).set l (.loop (lp r0 .ready none))=BW (B'.set b8 o8) (mL l D b7 w' (Qi O s).length e' (lp r0 .ready none)):=by
   rw[DQ (L:=Lo w' (Qi O s).length e' (lp r0 .busy none)) (i:=1) Qf rfl];exact RS (L:=mL l D b7 w' (Qi O s).length e' (lp r0 .ready none)) n8
  refine⟨Bd (L:=Lo w' (Qi O s).length e' (lp r0 .busy none)) (i:=1) Qf rfl,rfl,?_⟩;rw[e1];exact⟨_,C',w',e',rfl,hJ'.mono (Ext.set h8') λb hb=>by rw[Hp.AB (show b≠b8 from λe=>n8 (e▸hb))];exact hJ'.off b hb⟩
 have es:BX C [.slice p n c,.slice q m d] s:=⟨p,n,c,q,m,d,rfl,r1.mono Cg.mono hJ.tc,r2.mono DX.mono hJ.tc,lM⟩;have app:Qi O s=O++[s]->∀(B1:Hp),Ext B B1->(∀b∈[l,D,b7],B1 b=none)->B1 b8=none->∃r9:Option Addr,∃sC:Nat,∃sD:Nat,Hp.ld (BW B1 L) ⟨b7,0,none⟩=some (.slice r9 sC sD)/\∃QK:Option Addr,∃QL:Nat,∃QM:Nat,∃QN:Option Addr,∃QO:Nat,∃QP:Nat,A2 (BW B1 L) b8 0 [.slice QK QL QM,.slice QN QO QP]/\∀QR:Nat,(BW B1 L) QR=none->AI prog (Builtin.append_ #[22,22] 22 #[.slice r9 sC sD,.slice (some ⟨QR,0,none⟩) 1 1]) (Hp.set (BW B1 L) QR (.cells #[.slice QK QL QM,.slice QN QO QP] 98 (0,0))) (λma EV=>∃aM:Option Addr,∃UQ:Nat,∃cK:Nat,ma=.slice aM UQ cK/\AI prog (Instr.storeAt 22 (.pointer (some ⟨b7,0,none⟩)) (.slice aM UQ cK)) EV (λ_ Qq=>Qq l=some (.loop (lp r0 .busy none))/\((Ending.B true:Ending)=.B true/\Jm O2 l D b7 r0 N (Qi O s) (Hp.set Qq l (.loop (lp r0 .ready none)))))):=λhap B1 BC R6 h81=>by
  refine⟨w,O.length,e,ldL (L:=L) (i:=3) hL rfl rfl,p,n,c,q,m,d,A2.Fg (c:=[.slice p n c,.slice q m d]) (Bd (L:=L) (i:=0) hL rfl),λQR h57=>?_⟩;obtain⟨n57,Abu⟩:=P3 (L:=L) h57;rw[RS n57];have l5:=hJ.mono BC R6;obtain⟨⟨cs,ho,hc⟩,tq,hnw⟩:=l5.om;have x57:=Ext.set (o:=.cells #[.slice p n c,.slice q m d] 98 (0,0)) Abu;refine AI.Lq hL (VI.set (AMe R6 h81) n57) (ED (ho.mono x57) (q:=aD QR 0) (ys:=[.slice p n c,.slice q m d]) ⟨rfl,by decide,.inr ⟨QR,0,rfl,A2.Fg (c:=[.slice p n c,.slice q m d]) (Hp.AA _ _ _)⟩⟩ (λu hu=>by
   simp only[Ajo,Aj7,Akc]at hu;rcases hu with rfl|rfl<;>rfl) (by have:=hbd.2;omega) λp' c' B2 B6 Ao tu=>⟨p',O.length+1,c',rfl,?_⟩)
  obtain⟨AMf,h82⟩:=ACy tu;refine AI.RT (L:=L) (i:=3) (c:=#[.slice w O.length e]) (c':=#[.slice p' (O.length+1) c']) ti hL rfl rfl rfl rfl rfl ?_;have K:∀k v,B1 k=some v->(∀a,w=some a->k≠a.block)->B2 k=some v/\∀a,p'=some a->k≠a.block:=λk v G Av=>by
   obtain⟨a1,a2⟩:=Aq.1 (Ao k v (Aq.2 ⟨Av,x57 _ _ G⟩));exact⟨a2,a1⟩
  have KC:∀k v,C k=some v->B2 k=some v/\∀a,p'=some a->k≠a.block:=λk v G=>K k v (tq _ _ G) λa ha e=>by rw[e,hnw a ha]at G;cases G
  have KN:∀k v,N k=some v->B2 k=some v/\∀a,p'=some a->k≠a.block:=λk v G=>K k v (l5.nb _ _ G) λa ha e=>by rw[e,l5.wn a ha]at G;cases G
  have:=fin B2 C p' c' (O++[s]) hap.symm ⟨AMf,λk v G=>(KN k v G).1,⟨⟨_,by rw[Ajr,AkS];exact B6,hc.snoc rfl es⟩,λk v G=>(KC k v G).1,λa ha=>?_⟩,l5.tc,l5.cn,λa ha=>?_⟩ h82
  .rw[Ajr,AkS]at this;exact this
  .cases hh:C a.block with
   | none=>rfl
   | some v=>exact absurd rfl ((KC _ _ hh).2 a ha)
  .cases hh:N a.block with
   | none=>rfl
   | some v=>exact absurd rfl ((KN _ _ hh).2 a ha)
 have e14:Hp.ld (BW B L) ⟨b7,0,none⟩=some (.slice w O.length e):=ldL (L:=L) (i:=3) hL rfl rfl;refine⟨w,O.length,e,e14,λIs=>?_,λhz=>?_⟩
 .obtain⟨O',u,hO⟩:∃O' u,O=O'++[u]:=by
   rcases Am7 O with h|⟨O',u,h⟩
   .subst h;exact absurd Is (by decide)
   .exact⟨O',u,by rw[h,AmK]⟩
  have hlen:O.length=O'.length+1:=by rw[hO];simp
  have lS:O[O'.length]?=some u:=by rw[hO,Akf (Ajt _),Ald];rfl
  have t1:Int.toNat ((O.length:Int)-1)=O'.length:=by omega
  obtain⟨⟨cs,ho,hc⟩,tq,hnw⟩:=hJ.om;have hxB:Ext B (BW B L):=VI.ext hL (AMe hJ.off hB8);have hr:Ae 2 (λ_ vs x=>BX C vs x) B w O.length O:=⟨rfl,cs,ho.rd,hc.1,λi x hx=>hc.2 i x hx⟩;obtain⟨bw,ow,vs,hw,iC,hl⟩:=Ae.idx hr lS;obtain⟨p1,n1,c1,q1,m1,d1,rfl,s1,s2,s3⟩:=iC;subst hw;have l0:∀{B':Hp},Ext B B'->Hp.ld B' ⟨bw,ow+Int.toNat ((O.length:Int)-1)*2,none⟩=some (.slice p1 n1 c1):=λhx=>by rw[t1];exact(hl.mono hx).1
  have l1:∀{B':Hp},Ext B B'->Hp.ld B' ⟨bw,(ow+Int.toNat ((O.length:Int)-1)*2)+1,none⟩=some (.slice q1 m1 d1):=λhx=>by rw[t1];exact(hl.mono hx).2.1
  have i64:AL ((O.length:Int)-1):=by have:=hbd.2;unfold AL;omega
  have RG:(0:Int)<=(O.length:Int)-1/\(O.length:Int)-1<(O.length:Int):=⟨by omega,by omega⟩;refine⟨_,O.length,e,e14,i64,bw,ow,rfl,RG,p1,n1,c1,l0 hxB,p,n,c,ldL (L:=L) (i:=0) hL rfl rfl,?_⟩;refine Spec.Lq hL (AMe hJ.off hB8) (Kj (s1.mono Cg.mono tq) (r1.mono Cg.mono (hJ.tc.trans tq)) λB1 BC tw=>⟨_,rfl,λh0=>?_,λAv=>?_⟩)
  .obtain⟨AMg,h81⟩:=ACy tw;have hul:u.ls=s.ls:=(Ad.eq _ _).1 h0;have hap:Qi O s=O'++[⟨u.ls,Bk u.ps s.ps⟩]:=by rw[hO];exact Yr hul
   have Abv:Ext B1 (BW B1 L):=VI.ext hL tw;have e15:Hp.ld (BW B1 L) ⟨b7,0,none⟩=some (.slice (some ⟨bw,ow,none⟩) O.length e):=ldL (L:=L) (i:=3) hL rfl rfl;have l5:=hJ.mono BC AMg;have hm1:u.ps.length=m1:=s2.1;have hm2:s.ps.length=m:=r2.1;have JE:=hbd.1 u (Aju lS);have Fi:=hs.2;refine⟨_,O.length,e,e15,i64,_,O.length,e,e15,i64,bw,ow,rfl,RG,q1,m1,d1,l1 (BC.trans Abv),q,m,d,ldL (L:=L) (i:=0) hL rfl rfl,?_⟩;refine Spec.Lq hL tw (gT (s2.mono DX.mono (tq.trans BC)) (r2.mono DX.mono (hJ.tc.trans (tq.trans BC))) s3 lM (by omega) (by omega) λp5 n5 c5 B2 Sb tu=>⟨p5,n5,c5,rfl,kpL (L:=L) (i:=3) hL rfl,bw,ow,rfl,RG,?_⟩);obtain⟨AMf,h82⟩:=ACy tu;have Ao:=Sb.up;have yU:=l5.mono Ao AMf;obtain⟨⟨cs2,B6,aK⟩,Ahk,_⟩:=yU.om;have Yg:n5<=c5:=by obtain⟨ds,TA,_⟩:=Sb.1.2;exact BL.cap TA
   rw[t1,AnB];refine AI.Lq hL tu (BL.Yj B6 (j:=O'.length*2+1) (by omega) AMF rfl rfl λobj Di l7=>?_);obtain⟨Abw,h83⟩:=ACy l7
   let C':=C.or (B1.new B2)
   have hCC:Ext C C':=Ext.Cf _ _;have hNC:Ext (B1.new B2) C':=Ext.Cn λk G=>by
    cases hh:C k with
    | none=>rfl
    | some v=>
     cases h4:(B1.new B2) k with
     | none=>exact absurd h4 G
     | some v'=>have:=BC _ _ (tq _ _ hh);rw[(Af.1 h4).1]at this;cases this
   have hC2:Ext C' B2:=Ext.kX (tq.trans (BC.trans Ao)) (Ext.CY _ _);have hbw:B1 bw≠none:=λhh=>ho.block ⟨bw,ow,none⟩ rfl (A7 BC hh);have AUr:C' bw=none:=by
    show(C.or (B1.new B2)) bw=none
    rw[Hp.Cn (show C bw=none from hnw ⟨bw,ow,none⟩ rfl)];cases hh:(B1.new B2) bw with
    | none=>rfl
    | some v=>exact absurd (Af.1 hh).1 hbw
   have e9:O'++[⟨u.ls,Bk u.ps s.ps⟩]=O.set O'.length ⟨u.ls,Bk u.ps s.ps⟩:=by rw[hO,Am6 _ _ (Ajt _),Ald];rfl
   have AI1:(O'++[(⟨u.ls,Bk u.ps s.ps⟩:Sr)]).length=O.length:=by rw[e9,AmU]
   have:=fin (B2.set bw obj) C' (some ⟨bw,ow,none⟩) e (O'++[⟨u.ls,Bk u.ps s.ps⟩]) hap.symm ⟨Abw,λk v G=>?_,⟨⟨_,by rw[AI1];exact Di,?_⟩,λk v G=>?_,λa ha=>by cases ha;exact AUr⟩,hJ.tc.trans hCC,λk G=>?_,hJ.wn⟩ h83
   .rw[AI1]at this;exact this
   .rw[Hp.AB (λe=>by rw[e,hJ.wn ⟨bw,ow,none⟩ rfl]at G;cases G)];exact yU.nb _ _ G
   .rw[e9];refine⟨by rw[AmU,AmU];exact aK.1,λi y hy=>?_⟩;rw[wz (by decide)];by_cases hi:O'.length=i
    .subst hi;rw[Ajl rfl];rw[All (by omega)]at hy;cases hy;obtain⟨p9,n9,c9,q9,m9,d9,hv9,t4,t5,t6⟩:=aK.2 O'.length u lS;rw[hv9];exact⟨p9,n9,c9,p5,n5,c5,rfl,t4.mono Cg.mono hCC,(AN.gY (λ_ _ _ _ h=>h) Sb).mono DX.mono hNC,Yg⟩
    .rw[Ajj hi];rw[AmS hi]at hy;exact BX.mono _ _ _ _ hCC (aK.2 i y hy)
   .rw[Hp.AB (λe=>by rw[e,AUr]at G;cases G)];exact hC2 _ _ G
   .by_cases hck:C k=none
    .right
     have G:C' k≠none:=G;have e1:C' k=(B1.new B2) k:=Hp.Cn hck;rw[e1]at G;cases hh:(B1.new B2) k with
     | none=>exact absurd hh G
     | some v=>exact A7 (l5.nb) (Af.1 hh).1
    .exact hJ.cn k hck
  .obtain⟨AMg,h81⟩:=ACy tw;exact app (by rw[hO,Qi];rw[AmW];simp only[List.getLast?_singleton,Option.some_or];rw[Ajj λe=>Av ((Ad.eq _ _).2 e)]) B1 BC AMg h81
 .have hO:O=[]:=AkV.1 (by omega);exact app (by rw[hO];rfl) B (.refl _) hJ.off hB8
theorem Jx {lb nA cA nB cB:Nat}{pA pB:Option Addr}{A B:List Sr}{T:TypeId}(yN:Z22 lb=some (.cells #[.slice pA nA cA,.slice pB nB cB] T (0,0)))(rA:Ae 2 BX Z22 pA nA A)(kA:nA<=cA)(rB:Ae 2 BX Z22 pB nB B)(kB:nB<=cB)(oA:DU none A=true)(oB:DU none B=true)(hA:∀s∈A,S0 s)(hB:∀s∈B,S0 s)(hl:A.length+B.length<=2900000000000)
  (h:∀p' n' c' Z',Ae 2 BX Z' p' n' (BE A B)->n'<=c'->Ext Z22 Z'->R (.T #[.slice p' n' c',.I 0]) Z'):Spec prog 10 #[.slice (aD lb 0) 2 2] Z22 R:=by
 have l0:Hp.ld Z22 ⟨lb,0,none⟩=some (.slice pA nA cA):=AJ yN rfl;have l1:Hp.ld Z22 ⟨lb,1,none⟩=some (.slice pB nB cB):=AJ yN rfl;have sA:=(QE oA).2;have sB:=(QE oB).2;refine Da.start (Da.A0 ⟨λ_=>⟨lb,0,rfl,by decide,pA,nA,cA,by simpa using l0,Ec rA λZ1 BC=>⟨_,rfl,λAv=>absurd (by rw[oA];rfl) Av,λ_=>⟨JH (by decide),?_⟩⟩⟩,λhh=>absurd (by decide) hh⟩);refine Da.A0 ⟨λ_=>⟨lb,0,rfl,by decide,pB,nB,cB,by simpa using BC.ld l1,Ec (rB.mono BX.mono BC) λZ2 Ao=>⟨_,rfl,λAv=>absurd (by rw[oB];rfl) Av,λ_=>⟨JH (by decide),?_⟩⟩⟩,λhh=>absurd (by decide) hh⟩;refine Da.A0 ⟨λhh=>absurd hh (by decide),λ_ b7 h7=>?_⟩;have X2:=BC.trans Ao
 let L7:List (Nat×Obj):=[(b7,.cells #[.N] 22 (0,0))]
 have hn7:(names L7).Nodup:=by simp[L7,names]
 have ho7:VI L7 Z2:=λb hb=>by
  have hb:b∈[b7]:=hb;rw[Ajp]at hb;subst hb;exact h7
 show Spec prog 35 #[.slice (aD lb 0) 2 2] (BW Z2 L7) _
 refine Spec.Lq hn7 ho7 (UY.start λb1 JE ACz=>⟨_,_,_,rfl,_,_,rfl,AQ.en,λD l r0 hDl hD RI hy=>?_⟩);have ACz:VI L7 (Z2.set b1 (.cells #[.slice (aD lb 0) 2 2] 92 (0,0))):=ACz;have x1:=Ext.set (o:=.cells #[.slice (aD lb 0) 2 2] 92 (0,0)) JE;have g1:(Z2.set b1 (.cells #[.slice (aD lb 0) 2 2] 92 (0,0))) b1=some (.cells #[.slice (aD lb 0) 2 2] 92 (0,0)):=Hp.AA _ _ _;generalize hτ:Z2.set b1 (.cells #[.slice (aD lb 0) 2 2] 92 (0,0))=O2 at *;have Xτ:=X2.trans x1;obtain⟨nD,hDB⟩:=P3 (L:=L7) hD;obtain⟨nl,hlB⟩:=P3 (L:=L7) RI;have e7:names L7=[b7]:=rfl;rw[e7,Ajp]at nD nl;have Gz:[l,D,b7].Nodup:=by
  simp only[Ako,Ajo,Aj7,Akc,Ak9,Amu,Al7];exact⟨λhh=>hh.elim (λe=>hDl e.symm) nl,nD⟩
 have fN:∀b∈[l,D,b7],O2 b=none:=λb hb=>by
  simp only[Ajo,Aj7,Akc]at hb;rcases hb with rfl|rfl|rfl
  .exact hlB
  .exact hDB
  .exact ACz b (Ajp.2 rfl)
 show Spec prog 68 #[.func (.yield l) #[] #[],.pointer (aD b1 0)] (BW O2 (mL l D b7 none 0 0 (lp r0 .ready none))) _
 refine xO (O2:=O2) (A:=A) (B:=B) (J:=λN O Z22=>Jm O2 l D b7 r0 N O Z22) ⟨λN N' O Z22 Z' h1 h2 h3 h4=>h1.st Gz h2 h3 h4,λN O Z22 h1=>h1.ext Gz,λN O Z22 s p n c q m d hJ hbd hs _ r1 r2 lM=>?_⟩ (AJ g1 rfl) (Xτ.ld l0) (Xτ.ld l1) (rA.mono BX.mono Xτ) kA (rB.mono BX.mono Xτ) kB sA sB hA hB hl
  ⟨O2,O2,none,0,rfl,⟨fN,.refl _,⟨⟨[],BL.nil,by simp[Ch]⟩,.refl _,λa ha=>(by cases ha)⟩,.refl _,λk hk=>.inl hk,λa ha=>(by cases ha)⟩⟩ λN ys Z9 hys hJ=>?_
 .obtain⟨B',C',G,e',rfl,hJ⟩:=hJ;exact hy _ _ p n c q m d (Bd (L:=mL l D b7 G O.length e' (lp r0 .ready none)) (i:=0) Gz rfl) (xP Gz hJ hbd hs r1 r2 lM)
 .have hO:=ACp _ A B ys [] (Ajt _) sA sB hys λu hu=>(by cases hu);rw[Akp]at hO;rw[hO]at hJ;obtain⟨B',C',G,e',rfl,hJ⟩:=hJ;generalize hO2:BE A B=O at *;have hbd:O.length<=2900000000000:=by rw[<-hO2];exact Ake (Ku A B) hl
  have KD:∀s∈O,s.ls.length<=1000000000/\s.ps.length<=1000000000:=λs hs=>by
   have:=ACw hA hB s (by rw[hO2];exact hs);exact⟨this.1,by have:=this.2;omega⟩
  obtain⟨⟨cs,ho,hc⟩,tq,_⟩:=hJ.om;have hrO:Ae 2 BX B' G O.length O:=⟨rfl,cs,ho.rd,hc.1,λi x hx=>BX.mono _ _ _ _ tq (hc.2 i x hx)⟩;have el:(BW B' (mL l D b7 G O.length e' (lp r0 .ready none))).set l (.loop (lp r0 .exhausted none))=BW B' (mL l D b7 G O.length e' (lp r0 .exhausted none)):=Hp.set_set;refine⟨_,.ready,none,rfl,Bd (L:=mL l D b7 G O.length e' (lp r0 .ready none)) (i:=0) Gz rfl,by decide,rfl,?_⟩;rw[el];refine⟨G,O.length,e',ldL (L:=mL l D b7 G O.length e' (lp r0 .exhausted none)) (i:=2) Gz rfl rfl,?_⟩;refine Spec.Lq (L:=mL l D b7 G O.length e' (lp r0 .exhausted none)) Gz hJ.off (qW hrO hbd KD λp' c' B3 Up Yg CE l7=>⟨p',O.length,c',rfl,Bd (L:=mL l D b7 G O.length e' (lp r0 .exhausted none)) (i:=1) Gz rfl,?_⟩);have l7:VI (mL l D b7 G O.length e' (lp r0 .exhausted none)) B3:=l7;rw[DQ (L:=mL l D b7 G O.length e' (lp r0 .exhausted none)) (i:=1) Gz rfl];have x9:Ext B3 (BW B3 ((mL l D b7 G O.length e' (lp r0 .exhausted none)).set 1 (D,.deferred none))):=VI.ext (L:=(mL l D b7 G O.length e' (lp r0 .exhausted none)).set 1 (D,.deferred none)) Gz l7;exact h p' O.length c' _ (Up.mono BX.mono x9) Yg (Xτ.trans (hJ.tc.trans (tq.trans (CE.trans x9))))
end
def JI (a z:Int)(ps:List Pt):List Pt:=ps.filter λx=>decide (a<=x.1/\x.1<=z)
def E7 (a z:Int)(ss:List Sr):List Sr:=(ss.map λs=>Sr.mk s.ls (JI a z s.ps)).filter λs=>decide (s.ps≠[])
section
variable {Z22:Hp}{R:Rr}
theorem xQ {p:Option Addr}{n c:Nat}{a z:Int}{ps:List Pt}(hr:Ae 2 DX Z22 p n ps)(hn:n<=1000000000)(h:∀p' n' c' Z',Ae 2 DX (Z22.new Z') p' n' (JI a z ps)->n'<=n->n'<=c'->Ext Z22 Z'->R (.returned (.slice p' n' c')) Z'):
  Spec prog 105 #[.slice p n c,.I a,.I z] Z22 R:=by
 have hl:ps.length=n:=hr.1;refine EY.start ?_
 suffices H:∀g i:Nat,∀p3 n3 c3 Z',n-i=g->i<=n->n3<=i->AN 2 DX Z22 Z' p3 n3 c3 (JI a z (ps.take i))->EY.A4 R a z p3 n3 c3 p n c n i Z' from H n 0 none 0 0 Z22 rfl (Ajy _) (Ajt _) (AN.nil (.refl _))
 intro g
 induction g with
 | zero=>
  intro i p3 n3 c3 Z' hg hi Qe G;rw[Ajq (by omega)]at G;exact EY.AX ⟨λAx=>by omega,λ_=>h p3 n3 c3 Z' (G.gY λ_ _ _ _ h=>h) (by omega) (by obtain⟨cs,TA,_⟩:=G.1.2;exact BL.cap TA) G.up⟩
 | succ g ih=>
  intro i p3 n3 c3 Z' hg hi Qe G;have CO:i<n:=by omega
  obtain⟨x,hx⟩:=hr.ex CO;obtain⟨b,o,rfl,Dy⟩:=DX.at hr hx;have next:∀p4 n4 c4 Z4,n4<=i+1->AN 2 DX Z22 Z4 p4 n4 c4 (JI a z (ps.take (i+1)))->EY.Iy R a z p4 n4 c4 (aD b o) n c n (i:Int) Z4:=λp4 n4 c4 Z4 h4 Hy=>by
   have:=ih (i+1) p4 n4 c4 Z4 (by omega) (by omega) h4 Hy;rw[show((i+1:Nat):Int)=(i:Int)+1 by omega]at this;exact EY.Em ⟨AO CO hr.big,this⟩
  have Ab:¬(a<=x.1/\x.1<=z)->JI a z (ps.take (i+1))=JI a z (ps.take i):=λhh=>by
   unfold JI;rw[AU hx,Ak0,Ak4 (by simpa using hh),AmX,Akq]
  have AMQ:(a<=x.1/\x.1<=z)->JI a z (ps.take (i+1))=JI a z (ps.take i)++[x]:=λhh=>by
   unfold JI;rw[AU hx,Ak0,Ak3 (by simpa using hh),AmX]
  refine EY.AX ⟨λ_=>⟨b,o,rfl,by unfold In;omega,x.1,x.2,by simpa using Dy.mono G.up,λ_=>⟨λh1=>⟨λh2 b28 h28=>?_,λh2=>next _ _ _ _ (by omega) (by rw[Ab λhh=>h2 hh.2];exact G)⟩,λh1=>next _ _ _ _ (by omega) (by rw[Ab λhh=>h1 hh.1];exact G)⟩⟩,λhh=>by omega⟩;refine AN.FN DX.mono G rfl (DX.one Z22 _ x rfl) rfl (by omega) (λp' c' Z4 Hy _=>⟨_,_,_,rfl,next p' (n3+1) c' Z4 (by omega) (by rw[AMQ ⟨h1,h2⟩];exact Hy)⟩) h28
theorem Yv {p:Option Addr}{n c:Nat}{a z:Int}{ss:List Sr}(hr:Ae 2 BX Z22 p n ss)(Aa:DU none ss=true)(hn:n<=2900000000000)(hS:∀s∈ss,S0 s)
  (h:∀p' n' c' Z',Ae 2 BX Z' p' n' (E7 a z ss)->n'<=c'->Ext Z22 Z'->R (.T #[.slice p' n' c',.I 0]) Z') :
  Spec prog 77 #[.slice p n c,.I a,.I z] Z22 R:=by
 have hl:ss.length=n:=hr.1;refine EX.start (Ec hr λZ1 BC=>⟨_,rfl,λAv=>absurd (by rw[Aa];rfl) Av,λ_=>?_⟩);have hr:=hr.mono BX.mono BC
 suffices H:∀g i:Nat,∀p3 n3 c3 Z',n-i=g->i<=n->n3<=i->AN 2 BX Z1 Z' p3 n3 c3 (E7 a z (ss.take i))->EX.HR R a z p3 n3 c3 p n c n i Z' from H n 0 none 0 0 Z1 rfl (Ajy _) (Ajt _) (AN.nil (.refl _))
 intro g
 induction g with
 | zero=>
  intro i p3 n3 c3 Z' hg hi Qe G;rw[Ajq (by omega)]at G;exact EX.CF ⟨λAx=>by omega,λ_=>h p3 n3 c3 Z' (G.rd BX.mono) (by obtain⟨cs,TA,_⟩:=G.1.2;exact BL.cap TA) (BC.trans G.up)⟩
 | succ g ih=>
  intro i p3 n3 c3 Z' hg hi Qe G;have CO:i<n:=by omega
  obtain⟨x,hx⟩:=hr.ex CO;obtain⟨b,o,p1,k1,c1,q1,m1,d1,rfl,Dy,Vn,hps,lM⟩:=BX.at hr hx;obtain⟨a1,a2⟩:=hS x (Aju hx);have a3:x.ls.length=k1:=Vn.1;have a4:x.ps.length=m1:=hps.1;have next:∀p4 n4 c4 Z4,n4<=i+1->AN 2 BX Z1 Z4 p4 n4 c4 (E7 a z (ss.take (i+1)))->EX.fA R a z p4 n4 c4 (aD b o) n c n (i:Int) Z4:=λp4 n4 c4 Z4 h4 Hy=>by
   have:=ih (i+1) p4 n4 c4 Z4 (by omega) (by omega) h4 Hy;rw[show((i+1:Nat):Int)=(i:Int)+1 by omega]at this;exact EX.SB ⟨AO CO hr.big,this⟩
  have yb:E7 a z (ss.take (i+1))=E7 a z (ss.take i)++[Sr.mk x.ls (JI a z x.ps)].filter λs=>decide (s.ps≠[]):=by
   unfold E7;rw[AU hx,AkI,Ak0];rfl
  refine EX.CF ⟨λ_=>⟨b,o,rfl,by unfold In;omega,p1,k1,c1,q1,m1,d1,by simpa using Dy.mono G.up,λ_=>xQ (hps.mono DX.mono G.up) (by omega) λp4 n4 c4 Z2 yS tz hc4 Ao=>⟨_,_,_,rfl,λIs U5 h33=>?_,λhz=>?_⟩⟩,λhh=>by omega⟩
  .have Av:JI a z x.ps≠[]:=λe=>by
    have:=yS.1;rw[e]at this;have:(0:Nat)=n4:=this;omega
   have B6:=G.mono BX.mono Ao;refine HZ (Vn.mono Cg.mono B6.up) (by omega) (λp5 c5 Z3 Sb CE=>⟨_,_,_,rfl,λsO h39=>?_⟩) h33;have Di:=B6.mono BX.mono CE;have he:BX (Z3.del p3) [.slice p5 k1 c5,.slice p4 n4 c4] (Sr.mk x.ls (JI a z x.ps)):=⟨p5,k1,c5,p4,n4,c4,rfl,(Sb.rd Cg.mono).mono Cg.mono (B6.new CE),(yS.mono DX.mono (Ext.Ir CE)).mono DX.mono (G.new (Ao.trans CE)),hc4⟩;refine AN.FN BX.mono Di rfl (BX.one _ _ _ he) he (by omega) (λp' c' Z4 Hy _=>⟨_,_,_,rfl,next p' (n3+1) c' Z4 (by omega) (by rw[yb,Ak3 (by simpa using Av),AmX];exact Hy)⟩) h39
  .have he:JI a z x.ps=[]:=Aj8 (by have:=yS.1;omega);exact next _ _ _ _ (by omega) (by rw[yb,Ak4 (by simpa using he),AmX,Akq];exact G.mono BX.mono Ao)
end
theorem dV (a:List Sr):BE a []=a:=by cases a<;>rw[BE];simp
section
variable {Q:Qs}{ρ M:Hp}{b m fm:Nat}{R:Rr}
theorem dW {x k:Int}{p:Option Addr}{n c:Nat}{B:List Sr}(h:QU Q ρ M b m fm)(hk:A3 Q.mem x=some k)(hk0:0<=k/\k<=4611686018427387903)(rB:Ae 2 BX ρ p n B)(hc:n<=c)(oA:DU none Q.all=true)(oB:DU none B=true)(hA:∀s∈Q.all,S0 s)(hB:∀s∈B,S0 s)(hl:Q.all.length+B.length<=2900000000000)
  (hR:∀ρ' M',QU { Q with mem:=E1 Q.mem x (k+1),all:=BE Q.all B } ρ' M' b m fm->Ext ρ ρ'->(∀j,j≠b->j≠m->M' j=M j)->R (.returned (.I 0)) (ρ'.or M')) :
  Spec prog 11 #[.pointer (aD b 0),.I x,.slice p n c] (ρ.or M) R:=by
 obtain⟨pt,ct,pi,ni,ci,pa,na,ca,k1,k2,k3,k4,k5⟩:=h.q;have hb:=BT h.L6 k1;refine F0.start ⟨b,0,rfl,some m,AJ hb rfl,MZ.look (two:=true) (Gy h.L6 h.mm) Pg (λhv=>by rw[hk]at hv;cases hv) λv hv=>?_⟩;rw[hk]at hv;cases hv;refine⟨k,true,rfl,λhh=>(by cases hh),λ_=>⟨pa,na,ca,AJ hb rfl,λb28 h28=>?_⟩⟩;obtain⟨r28,m28⟩:=or_none h28;rw[Gw];have MP:=Ext.set (o:=.cells #[.slice pa na ca,.slice p n c] 22 (0,0)) r28;refine Dd (VT h.L6 m28) (Jx (Hp.AA _ _ _) (k4.mono BX.mono MP) k5 (rB.mono BX.mono MP) hc oA oB hA hB hl λp' n' c' ρ2 Ff aK Ao G=>?_);have Fi:=BT G k1;refine⟨p',n',c',0,rfl,λhh=>absurd rfl hh,λ_=>⟨some m,AJ Fi rfl,(Gy G h.mm).dR Pg ⟨_,rfl,?_⟩⟩⟩;rw[hk,Ak6];refine⟨by unfold AL;omega,MZ.put (Gy G h.mm) λo ho=>?_⟩;have D3:FI ρ2 (M.set m o):=H5 G (G m h.mm.known);have hM:(M.set m o) b=some (qO pt ct m Q.Gx Q.rd Q.fl pi ni ci fm pa na ca b (bG Q.rd)):=(Hp.AB h.bm).trans k1;rw[BZ (G m h.mm.known)];refine AI.tZ Vr (BT D3 hM) rfl rfl rfl gO ?_;rw[BZ (D3 b (by rw[hM];simp))];have X:=MP.trans Ao;refine hR ρ2 _ ⟨H5 D3 (D3 b (by rw[hM];simp)),h.bm,h.bf,h.mf,⟨pt,ct,pi,ni,ci,p',n',c',Hp.AA _ _ _,k2.mono Ia.mono X,k3.mono X,Ff,aK⟩,ho _ ((Hp.AB (Aj4 h.bm)).trans (Hp.AA _ _ _)),h.ff.loc ((Hp.AB (Aj4 h.bf)).trans (Hp.AB (Aj4 h.mf))),h.lo⟩ X λj hj hjm=>(Hp.AB hj).trans (Hp.AB hjm)
theorem xR {p q:Option Addr}{n c d:Nat}{B:List Sr}(h:QU Q ρ M b m fm)(h2:Q.rd=true)(rI:DB .u64 ρ q 1 [4])(hk:0<=(A3 Q.TB 4).getD 0/\(A3 Q.TB 4).getD 0<=4611686018427387903)(rB:Ae 2 BX ρ p n B)(hc:n<=c)(oA:DU none Q.all=true)(oB:DU none B=true)(hA:∀s∈Q.all,S0 s)(hB:∀s∈B,S0 s)(hl:Q.all.length+B.length<=2900000000000)
  (hR:∀ρ' M',QU { Q with TB:=E1 Q.TB 4 ((A3 Q.TB 4).getD 0+1),all:=BE Q.all B } ρ' M' b m fm->Ext ρ ρ'->(∀j,j≠b->j≠fm->M' j=M j)->R (.returned (.I 0)) (ρ'.or M')) :
  Spec prog 23 #[.pointer (aD b 0),.slice q 1 d,.slice p n c] (ρ.or M) R:=by
 obtain⟨pt,ct,pi,ni,ci,pa,na,ca,k1,k2,k3,k4,k5⟩:=h.q;have hb:=BT h.L6 k1;refine BO.start ⟨b,0,rfl,pa,na,ca,AJ hb rfl,λb28 h28=>?_⟩;obtain⟨r28,m28⟩:=or_none h28;rw[Gw];have MP:=Ext.set (o:=.cells #[.slice pa na ca,.slice p n c] 22 (0,0)) r28;refine Dd (VT h.L6 m28) (Jx (Hp.AA _ _ _) (k4.mono BX.mono MP) k5 (rB.mono BX.mono MP) hc oA oB hA hB hl λp' n' c' G Ff aK Ao D2=>?_);have Fi:=BT D2 k1;refine⟨p',n',c',0,rfl,λhh=>absurd rfl hh,λ_=>⟨Q.rd,AJ Fi rfl,λhh=>(by rw[h2]at hh;cases hh),λ_=>?_⟩⟩;have X:=MP.trans Ao;have k6:=h.ff;have nb:G b=none:=D2 b (by rw[k1];simp);refine AI.tZ Vr Fi rfl rfl rfl gO ?_;rw[BZ nb];have D3:FI G (M.set b (qO pt ct m Q.Gx Q.rd Q.fl pi ni ci fm p' n' c' b (bG Q.rd))):=H5 D2 nb;have k7:MZ .u64 (M.set b (qO pt ct m Q.Gx Q.rd Q.fl pi ni ci fm p' n' c' b (bG Q.rd))) fm Q.TB:=k6.loc (Hp.AB (Aj4 h.bf));obtain⟨za,zb,rfl,AMj⟩:=DB.at (rI.mono X) (i:=0) (x:=4) rfl;refine BO.DZ ⟨λ_=>⟨za,zb,rfl,by decide,4,by simpa using(Ext.Cf G _).ld AMj,b,0,rfl,some fm,AJ (BT D3 (Hp.AA _ _ _)) rfl,(Gy D3 k7).dR Pg ⟨_,rfl,by unfold AL;omega,MZ.put (Gy D3 k7) λo ho=>⟨iK (by decide),?_⟩⟩⟩,λhh=>absurd (by decide) hh⟩;rw[BZ (D3 fm k7.known)];refine BO.DZ ⟨λhh=>absurd hh (by decide),λ_=>hR G _ ⟨H5 D3 (D3 fm k7.known),h.bm,h.bf,h.mf,⟨pt,ct,pi,ni,ci,p',n',c',(Hp.AB h.bf).trans (Hp.AA _ _ _),k2.mono Ia.mono X,k3.mono X,Ff,aK⟩,h.mm.loc ((Hp.AB h.mf).trans (Hp.AB (Aj4 h.bm))),ho _ (Hp.AA _ _ _),h.lo⟩ X λj hj hjm=>(Hp.AB hjm).trans (Hp.AB hj)⟩
end
section
variable {Z22:Hp}{R:Rr}
theorem AC0 {v fl:Int}{one:Bool}{p:Option Addr}{n c:Nat}(hf:-1099511627776<=fl/\fl<=1099511627776)(G:IxE Z22 one p n c)(h:∀Z',Ext Z22 Z'->R (.returned (.I 0)) Z'):Spec prog 41 #[.agg #[.U v,.I fl,.slice p n c]] Z22 R:=by
 cases one with
 | false=>
  obtain⟨rfl,rfl,rfl⟩:=G;exact lg hf (h Z22 (.refl _))
 | true=>
  obtain⟨rfl,bi,oi,q,e,rfl,hl⟩:=G;exact lh hf hl h
theorem AGP {v fl:Int}{one:Bool}{p:Option Addr}{n c:Nat}(G:IxE Z22 one p n c)(h:∀Z' p' n' c',IxE Z' one p' n' c'->Ext Z22 Z'->R (.returned (.agg #[.U v,.I fl,.slice p' n' c'])) Z'):Spec prog 42 #[.agg #[.U v,.I fl,.slice p n c]] Z22 R:=by
 cases one with
 | false=>
  obtain⟨rfl,rfl,rfl⟩:=G;exact tV (h Z22 none 0 0 ⟨rfl,rfl,rfl⟩ (.refl _))
 | true=>
  obtain⟨rfl,bi,oi,q,e,rfl,hl⟩:=G;exact tW hl λZ' b' o' c' q' e' RI hx=>h Z' _ _ _ ⟨rfl,b',o',q',e',rfl,RI⟩ hx
end
section
variable {Q:Qs}{ρ M:Hp}{b m fm:Nat}{R:Rr}
structure RdK (Q:Qs)(M:Hp)(b m fm:Nat)(one:Bool)(fl:Int)(R:Rr)(ρ:Hp):Prop where
 few:(Pe Q.mem:Int)<Q.Gx->∀ρ',Ext ρ ρ'->FI ρ' M->R (.returned (.I 271)) (ρ'.or M)
 ok:Q.Gx<=Pe Q.mem->∀ρ' M',QU { Q with rd:=true,fl:=fl,one:=one } ρ' M' b m fm->Ext ρ ρ'->(∀j,j≠b->M' j=M j)->R (.returned (.I 0)) (ρ'.or M')
theorem AC1 {one:Bool}{fl:Int}{pI:Option Addr}{nI cI:Nat}(h:QU Q ρ M b m fm)(hf:-1099511627776<=fl/\fl<=1099511627776)(hI:IxE ρ one pI nI cI)(hK:RdK Q M b m fm one fl R ρ):
  Br ((Pe Q.mem:Int)<Q.Gx) (R (.returned (.I 271)) (ρ.or M)) (Spec prog 42 #[.agg #[.U 0,.I fl,.slice pI nI cI]] (ρ.or M) (AY R (λz AE=>∃jd je jf jg jh,z=(.agg #[.U jd,.I je,.slice jf jg jh])/\AI prog (Instr.storeAt 43 (.pointer (aD b (0+7))) (.agg #[.U jd,.I je,.slice jf jg jh])) AE (λ_ AK=>AI prog (Instr.storeAt 4 (.pointer (aD b (0+6))) (.bool true)) AK (λ_ Ai=>AI prog (Instr.storeAt 45 (.pointer (aD b (0+12))) (.func (.func 43) #[(.pointer (aD b 0))] #[])) Ai (λ_ CC=>R (.returned (.I 0)) CC)))))):=by
 refine⟨λAx=>hK.few Ax ρ (.refl _) h.L6,λRU=>Dd h.L6 (AGP hI λG p' n' c' hI2 Ao D2=>⟨0,fl,p',n',c',rfl,?_⟩)⟩;obtain⟨pt,ct,pi,ni,ci,pa,na,ca,k1,k2,k3,k4,k5⟩:=h.q;have nb:G b=none:=D2 b (by rw[k1];simp);refine AI.tZ te (BT D2 k1) rfl rfl rfl AIx ?_;rw[BZ nb];have D3:FI G (M.set b (qO pt ct m Q.Gx Q.rd fl p' n' c' fm pa na ca b (bG Q.rd))):=H5 D2 nb;refine AI.tZ ACm (BT D3 (Hp.AA _ _ _)) rfl rfl rfl AIw ?_;rw[BZ nb,Hp.set_set];have D4:FI G (M.set b (qO pt ct m Q.Gx true fl p' n' c' fm pa na ca b (bG Q.rd))):=H5 D2 nb;refine AI.tZ Vs (BT D4 (Hp.AA _ _ _)) rfl rfl rfl gP ?_;rw[BZ nb,Hp.set_set];exact hK.ok (by omega) G _ ⟨H5 D2 nb,h.bm,h.bf,h.mf,⟨pt,ct,p',n',c',pa,na,ca,Hp.AA _ _ _,k2.mono Ia.mono Ao,hI2,k4.mono BX.mono Ao,k5⟩,h.mm.loc (Hp.AB (Aj4 h.bm)),h.ff.loc (Hp.AB (Aj4 h.bf)),hf⟩ Ao λj hj=>Hp.AB hj
theorem RdK.up {one:Bool}{fl:Int}{ρ':Hp}(h:RdK Q M b m fm one fl R ρ)(hx:Ext ρ ρ'):RdK Q M b m fm one fl R ρ':=⟨λG r x=>h.few G r (hx.trans x),λG r M' hu x=>h.ok G r M' hu (hx.trans x)⟩
theorem xS {one:Bool}{fl:Int}{pI:Option Addr}{nI cI:Nat}{l:List MapEntry}{clock i:Nat}(hf:-1099511627776<=fl/\fl<=1099511627776)(hm:iN.Az .i64 M m l clock)(jD:l.length<=1000000)(he:l.map qM=Q.mem.map (Rc .i64))(h:QU Q ρ M b m fm)(hI:IxE ρ one pI nI cI)(hK:RdK Q M b m fm one fl R ρ)(hi0:ρ i=none)(Mi:M i=none):
  ∀(k:Nat) (u:Obj) (L:List MapEntry) (n:Nat),L.length=k->I8 ((ρ.set i u).or M) i m l L clock->(∀e∈L,e∈l)->(L.map (·.born)).Nodup->n+L.countP Yl=Pe Q.mem->n+k<=l.length->
   BB.HR R (aD b 0) 0 fl pI nI cI (n:Int) (.pointer (some ⟨i,0,none⟩)) ((ρ.set i u).or M):=by
 intro k
 induction k with
 | zero=>
  intro u L n hk hi Pa Gz hc hn;have D1:FI (ρ.set i u) M:=VT h.L6 Mi;have x1:=Ext.set (o:=u) hi0;obtain rfl:=Aj8 hk;have e:n=Pe Q.mem:=by simpa using hc
  subst e;obtain⟨pt,ct,pi,ni,ci,pa,na,ca,k1,k2,k3,k4,k5⟩:=h.q;exact BB.CF (iN.Kh (hm.loc (Hp.Cn (D1 m h.mm.known))) hi (λ_=>.inl ⟨rfl,b,0,rfl,Q.Gx,AJ (BT D1 k1) rfl,AC1 (h.up x1 D1) hf (hI.mono x1) (hK.up x1)⟩) λe VJ=>by cases VJ)
 | succ k ih=>
  intro u L n hk hi Pa Gz hc hn;have D1:FI (ρ.set i u) M:=VT h.L6 Mi;refine BB.CF (iN.Kh (hm.loc (Hp.Cn (D1 m h.mm.known))) hi (λh0=>by rw[h0]at hk;cases hk) λe heL yJ o ho AC2=>?_);rw[Gw,Hp.set_set];have D2:FI (ρ.set i o) M:=VT h.L6 Mi;obtain⟨p,yR,qE⟩:∃p:Int×Int,e.key=.I p.1/\e.val=.I p.2:=by
   have:qM e∈Q.mem.map (Rc .i64):=by rw[<-he];exact Alx yJ
   obtain⟨p,_,hp⟩:=AkT.1 this;exact⟨p,(Ajw Prod.fst hp).symm,(Ajw Prod.snd hp).symm⟩
  have hb:((ρ.set i o).or M) i=some o:=Hp.Cf (Hp.AA _ _ _);have hbm:((ρ.set i o).or M) m=((ρ.set i u).or M) m:=by rw[Hp.Cn (D2 m h.mm.known),Hp.Cn (D1 m h.mm.known)]
  rw[yR,qE]at AC2 ⊢;refine .inr ⟨_,_,rfl,AC2 _ hb hbm ⟨_,_,rfl,?_⟩⟩;have aV:=JG (p:=Yl) Gz heL;have hpv:Yl e=decide (0<p.2):=by unfold Yl;rw[qE]
  have G:(L.filter λx=>x.born != e.born).length=k:=by
   have:=JG (p:=λ_=>true) Gz heL;simp only[List.countP_true,AlG]at this;omega
  have l8:∀x∈L.filter λx=>x.born != e.born,x∈l:=λx hx=>Pa x ((AlC.1 hx).1);have AC4:((L.filter λx=>x.born != e.born).map (·.born)).Nodup:=Gz.sublist (List.filter_sublist.map _);refine⟨λIs=>⟨by unfold AL;omega,?_⟩,λAb=>?_⟩
  .rw[hpv,Aj0 Is,Ajl rfl]at aV;exact ih o _ (n+1) G (ho _ hb) l8 AC4 (by omega) (by omega)
  .rw[hpv,Aj1 Ab,Ajj (by decide)]at aV;exact ih o _ n G (ho _ hb) l8 AC4 (by omega) (by omega)
theorem Yw {one:Bool}{fl:Int}{pI:Option Addr}{nI cI:Nat}(h:QU Q ρ M b m fm)(hf:-1099511627776<=fl/\fl<=1099511627776)(hI:IxE ρ one pI nI cI)(jD:Q.mem.length<=1000000)(hK:RdK Q M b m fm one fl R ρ):
  Spec prog 13 #[.pointer (aD b 0),.agg #[.U 0,.I fl,.slice pI nI cI]] (ρ.or M) R:=by
 refine BB.start λb3=>AC0 hf (hI.mono (Ext.Cf _ _)) λZ1 BC=>⟨0,rfl,λhh=>absurd rfl hh,λ_=>?_⟩;obtain⟨ρ1,X1,G,rfl,_⟩:=Ext.parts h.L6 BC;obtain⟨pt,ct,pi,ni,ci,pa,na,ca,k1,k2,k3,k4,k5⟩:=h.q;obtain⟨l,clock,hm,he⟩:=h.mm;refine⟨b,0,rfl,some m,AJ (BT G k1) rfl,iN.P4 (hm.loc (Hp.Cn (G m h.mm.known))) λi o hi hit=>⟨_,rfl,?_⟩⟩;obtain⟨ri,mi⟩:=or_none hi;rw[Gw]at hit ⊢;have hl:l.length=Q.mem.length:=by
  have:=Ajw List.length he;simpa using this
 exact xS hf hm (by omega) he (h.up X1 G) (hI.mono X1) (hK.up X1) ri mi l.length o l 0 rfl hit (λ_ h=>h) hm.AIr (by rw[Akn,pos_eq he]) (by omega)
theorem gZ (h:QU Q ρ M b m fm)(h2:Q.rd=true)(h1:Q.one=true)(h3:Q.fl<=60)(h4:(A3 Q.TB 4).getD 0=0)(hR:∀ρ',Ext ρ ρ'->FI ρ' M->R (.T #[.N,.I 0,.I 272]) (ρ'.or M)):Spec prog 14 #[.pointer (aD b 0)] (ρ.or M) R:=by
 obtain⟨pt,ct,pi,ni,ci,pa,na,ca,k1,k2,k3,k4,k5⟩:=h.q;rw[h2]at k1;exact Cz.start ⟨b,0,rfl,_,AJ (BT h.L6 k1) rfl,_,_,_,rfl,An.en,An.start (Ph h h1 h2 h3 (λ_ ρ1 p c BC D1 _ _=>⟨_,_,_,rfl,λ_=>⟨_,_,_,_,_,rfl,hR ρ1 BC D1⟩,λG=>absurd (by decide) G⟩) λG=>absurd h4 G)⟩
abbrev VU:Int:=4611686018427387904
theorem l9 (h:QU Q ρ M b m fm)(hg:Gl ρ)(h2:Q.rd=true)(hN:Q.one=false\/(Q.one=true/\Q.fl<=60/\(A3 Q.TB 4).getD 0≠0))(oA:DU none Q.all=true)(hA:∀s∈Q.all,S0 s)(hl:Q.all.length<=1000000)(hM:Modest TX (E7 Q.fl VU Q.all))(hI:(instF TX (E7 Q.fl VU Q.all) 60).1=0)
  (hR:∀ρ' p n c,Ext ρ ρ'->FI ρ' M->Ae 2 BX (ρ'.or M) p n ((instF TX (E7 Q.fl VU Q.all) 60).2.map λe=>⟨e.ls,[(60,e.v)]⟩)->R (.T #[.slice p n c,.I Q.fl,.I 0]) (ρ'.or M)) :
  Spec prog 14 #[.pointer (aD b 0)] (ρ.or M) R:=by
 obtain⟨pt,ct,pi,ni,ci,pa,na,ca,k1,k2,k3,k4,k5⟩:=h.q;rw[h2]at k1;have key:∀{Rn:Rr},(∀G,Ext ρ G->FI G M->Rn (.returned (.N)) (G.or M))->Spec prog 21 #[.pointer (aD b 0)] (ρ.or M) Rn:=λgo=>by
  rcases hN with h1|⟨h1,h3,h4⟩
  .exact lv h h1 go
  .exact Ph h h1 h2 h3 (λhh=>absurd hh h4) λ_=>go
 refine Cz.start ⟨b,0,rfl,_,AJ (BT h.L6 k1) rfl,_,_,_,rfl,An.en,?_⟩;show Spec prog 43 #[.pointer (aD b 0)] _ _
 refine An.start (key λG BC D1=>?_);have JE:=BT D1 k1;refine⟨_,_,_,rfl,λhh=>absurd hh (by decide),λ_=>⟨b,0,rfl,pa,na,ca,AJ JE rfl,Q.fl,AJ JE rfl,Yv ((k4.mono BX.mono BC).mono BX.mono (Ext.Cf _ _)) oA (by have:=k4.1;omega) hA λp2 n2 c2 Z2 Ff aK Ao=>⟨_,_,_,_,rfl,?_⟩⟩⟩;obtain⟨ρ2,X2,D2,rfl,_⟩:=Ext.parts D1 Ao;have Fi:=BT D2 k1;have Y2:=BC.trans X2;refine⟨0,AJ Fi rfl,λ_=>⟨pt,1,ct,AJ Fi rfl,60,AJ Fi rfl,inst_spec ((hg.mono Y2).mono (Ext.Cf _ _)) ((k2.mono Ia.mono Y2).mono Ia.mono (Ext.Cf _ _)) Ff hM (λO2 p3 n3 c3 Z3 bs h0 AC5 CE=>⟨_,_,_,_,rfl,An.Em ⟨λhh=>absurd rfl hh,λ_=>?_⟩⟩) λZ3 Av=>absurd hI Av⟩,λhh=>absurd rfl hh⟩;obtain⟨ρ3,X3,D3,rfl,_⟩:=Ext.parts D2 (CE.trans AC5.ext);exact⟨b,0,rfl,Q.fl,AJ (BT D3 k1) rfl,⟨_,_,_,_,_,rfl,hR ρ3 p3 n3 c3 (Y2.trans X3) D3 AC5.rd⟩⟩
end
def Yx (_:Hp)(vs:List Value)(c:Cl):Prop:=c=Ut c.kind c.text c.span/\∃a:Int,vs=[.I c.kind,.I a,.string c.text,.I c.span]
theorem Yx.mono:Hk Yx:=λ_ _ _ _ _ h=>h
abbrev pO (p:Option Addr)(n c:Nat)(d:Int)(q:Option Addr)(m e:Nat):Obj:=.cells #[.slice p n c,.I d,.slice q m e] 78 (0,0)
structure B4 (O2 ρ:Hp)(pb:Nat)(p:Option Addr)(n c:Nat)(q:Option Addr)(m e:Nat)(ts:List Cl)(out:List Nd):Prop where
 pb:ρ pb=none
 C9:Ae 4 Yx (ρ.del q) p n ts
 cap:n<=c
 out:AN 10 Ia O2 ρ q m e out
theorem JJ {Z22:Hp}{b:Nat}{c:List Value}{T:TypeId}(h:Z22 b=some (.cells c.toArray T (0,0))):A2 Z22 b 0 c:=A2.of λj v G=>by
 rw[Akn];exact AJ h (by simpa using G)
theorem ga {Z22:Hp}{b T:Nat}{l:List ByteArray}(h:Z22 b=some (.cells (l.map Value.string).toArray T (0,0)))(G:l.length<=1000):Fo 1 Z22 (aD b 0) l.length (l.map .string):=
 ⟨by simp,by omega,.inr ⟨b,0,rfl,JJ h⟩⟩
theorem st1 {Z22:Hp}{b T U o:Nat}{c c':Array Value}{v:Value}{Φ:Unit->Hp->Prop}(hz:∀w,(Go.sizeOf U).run prog w=.ok 1 w)(hb:Z22 b=some (.cells c T (0,0)))(hv:v.cells=#[v])(h1:v.oneCell'=true)(ho:o<c.size)(hc:c.setIfInBounds o v=c')(hΦ:Φ () (Z22.set b (.cells c' T (0,0)))):
  AI prog (Instr.storeAt U (.pointer (aD b o)) v) Z22 Φ:=by
 refine AI.store hz hb (by rw[hv];rfl) ho (λu G=>by rw[hv]at G;simp at G;rw[G];exact h1) ?_;rw[hv];subst hc;exact hΦ
theorem AMk:∀w,(Go.sizeOf 73).run prog w=.ok 1 w:=λw=>by kernel_rfl
theorem AMl:∀w,(Go.sizeOf 32).run prog w=.ok 1 w:=λw=>by kernel_rfl
section
variable {O2 ρ ρ':Hp}{pb n c m e:Nat}{p q:Option Addr}{ts:List Cl}{out:List Nd}{d:Int}{t:Cl}{R:Rr}
theorem B4.grow (h:B4 O2 ρ pb p n c q m e ts out)(G:Ext ρ ρ')(hn:ρ' pb=none):B4 O2 ρ' pb p n c q m e ts out:=⟨hn,h.C9.mono Yx.mono (G.del q),h.cap,h.out.mono Ia.mono G⟩
theorem B4.ext (h:B4 O2 ρ pb p n c q m e ts out)(o:Obj):Ext ρ (ρ.set pb o):=.set h.pb
theorem B4.box {b:Nat}{o u:Obj}(h:B4 O2 ρ pb p n c q m e ts out)(hb:(ρ.set pb o) b=none):B4 O2 (ρ.set b u) pb p n c q m e ts out/\(ρ.set pb o).set b u=(ρ.set b u).set pb o:=by
 obtain⟨G,h2⟩:=Hp.AM hb;exact⟨h.grow (.set h2) (by rw[Hp.AB (Aj4 G)];exact h.pb),Hp.BD (Aj4 G)⟩
theorem B4.tok (h:B4 O2 ρ pb p n c q m e (t::ts) out):t=Ut t.kind t.text t.span/\∃b o,∃a:Int,p=some ⟨b,o,none⟩/\0<n/\A2 ρ b o [.I t.kind,.I a,.string t.text,.I t.span]:=by
 obtain⟨b,o,vs,hp,⟨ht,a,rfl⟩,G⟩:=Ae.idx h.C9 (i:=0) (x:=t) rfl;have hn:(t::ts).length=n:=h.C9.1;rw[Ajk]at hn;exact⟨ht,b,o,a,hp,by omega,by simpa using G.mono (Ext.LG _ _)⟩
theorem BJ (h:B4 O2 ρ pb p n c q m e (t::ts) out)(G:∀a:Int,R (.returned (.agg #[.I t.kind,.I a,.string t.text,.I t.span])) (ρ.set pb (pO p n c d q m e))):Spec prog 31 #[.pointer (aD pb 0)] (ρ.set pb (pO p n c d q m e)) R:=by
 obtain⟨_,b,o,a,rfl,hn,hl⟩:=h.tok;exact Kf.start λ_=>⟨pb,0,rfl,aD b o,n,c,by simp[Hp.ld,Hp.AA],b,o,rfl,by omega,_,_,_,_,hl.mono (h.ext _),G a⟩
theorem B4.step (h:B4 O2 ρ pb p n c q m e (t::ts) out):B4 O2 ρ pb (Ee p 1 c 4) (n-1) (c-1) q m e ts out:=by
 have hc:=h.cap;have iM:(t::ts).length=n:=h.C9.1;rw[Ajk]at iM;have G:=Ae.sub h.C9 (i:=1) (m:=n-1) (by decide) (by omega) hc;rw[List.drop_succ_cons,Alr,Ajq (by omega)]at G;exact⟨h.pb,G,by omega,h.out⟩
theorem B4.Yy (h:B4 O2 ρ pb p n c q m e ts out):B4 (ρ.del q) ρ pb p n c q m e ts out:=⟨h.pb,h.C9,h.cap,⟨h.out.1,.refl _⟩⟩
theorem B4.base {G:Hp}(h:B4 G ρ pb p n c q m e ts out)(hx:Ext O2 G):B4 O2 ρ pb p n c q m e ts out:=⟨h.pb,h.C9,h.cap,⟨h.out.1,hx.trans h.out.2⟩⟩
theorem BF (h:B4 O2 ρ pb p n c q m e (t::ts) out)(G:∀a:Int,R (.returned (.agg #[.I t.kind,.I a,.string t.text,.I t.span])) (ρ.set pb (pO (Ee p 1 c 4) (n-1) (c-1) d q m e))):
  Spec prog 97 #[.pointer (aD pb 0)] (ρ.set pb (pO p n c d q m e)) R:=by
 obtain⟨_,b,o,a,rfl,hn,hl⟩:=h.tok;have hc:=h.cap;have iM:(t::ts).length=n:=h.C9.1;rw[Ajk]at iM;refine ML.start λ_=>⟨pb,0,rfl,aD b o,n,c,by simp[Hp.ld,Hp.AA],b,o,rfl,by omega,_,_,_,_,hl.mono (h.ext _),λ_=>⟨aD b o,n,c,by simp[Hp.ld,Hp.AA],by omega,?_⟩⟩;refine st1 AMk (Hp.AA _ _ _) rfl rfl (by simp) rfl ?_;rw[Hp.set_set];exact G a
theorem BS {k:Int}{s:ByteArray}(h:B4 O2 ρ pb p n c q m e (t::ts) out)(G:R (.returned (.bool (GN t.kind t.text k s))) (ρ.set pb (pO p n c d q m e))):Spec prog 98 #[.pointer (aD pb 0),.I k,.string s] (ρ.set pb (pO p n c d q m e)) R:=by
 refine MM.start (BJ h λa=>⟨_,_,_,_,rfl,λhk=>BJ h λa'=>⟨_,_,_,_,rfl,?_⟩,λhk=>?_⟩)
 .rw[iH];unfold GN at G;rw[Aj0 hk,Ak1]at G;exact G
 .unfold GN at G;rw[Aj1 hk,Aku]at G;exact G
theorem QH {s:ByteArray}(h:B4 O2 ρ pb p n c q m e (t::ts) out)(hs:GN t.kind t.text 5 s=true)(G:R (.T #[]) (ρ.set pb (pO (Ee p 1 c 4) (n-1) (c-1) d q m e))):
  Spec prog 137 #[.pointer (aD pb 0),.string s] (ρ.set pb (pO p n c d q m e)) R:=
 C3.start (BS h ⟨_,rfl,λhf=>absurd (hs.symm.trans hf) (by decide),λ_=>C3.LU (BF h λa=>⟨_,_,_,_,rfl,G⟩)⟩)
theorem CJ {x:Nd}{pm pn:Option Addr}{km cm kn cn:Nat}(h:B4 O2 ρ pb p n c q m e ts out)(hb:m<=1000000)(h1:Ae 3 Js (ρ.del q) pm km x.mt)(h2:Fo 1 (ρ.del q) pn kn (x.names.map .string))
  (hR:∀(ρ':Hp) (q':Option Addr) (G:Nat),B4 O2 ρ' pb p n c q' (m+1) G ts (out++[x])->R (.T #[]) (ρ'.set pb (pO p n c d q' (m+1) G))) :
  Spec prog 100 #[.pointer (aD pb 0),Qd x pm km cm pn kn cn] (ρ.set pb (pO p n c d q m e)) R:=by
 refine Jh.start λ_=>⟨pb,0,rfl,q,m,e,by simp[Hp.ld,Hp.AA],λb Abz=>?_⟩;obtain⟨e1,e2⟩:=Hp.AM Abz;rw[Hp.BD (Aj4 e1)];refine AI.AR (by rw[Hp.AB (Aj4 e1)];exact h.pb) ?_;have he:Ia (ρ.del q) [.I x.kind,.I x.op,.string x.text,.slice pm km cm,.I x.width,.I x.back,.I x.GU,.slice pn kn cn,.bool x.bool,.I x.parts] x:=⟨pm,km,cm,pn,kn,cn,rfl,h1,h2⟩;refine AN.FN Ia.mono h.out rfl (λu hu=>?_) he (by omega) (λq' G ρ' ho hx hn=>⟨_,_,_,rfl,?_⟩) e2
 .simp only[Ajo,Aj7,Akc]at hu;rcases hu with rfl|rfl|rfl|rfl|rfl|rfl|rfl|rfl|rfl|rfl<;>rfl
 .refine st1 AMl (Hp.AA _ _ _) rfl rfl (by simp) rfl ?_;rw[Hp.set_set];exact hR ρ' q' G ⟨hn,h.C9.mono Yx.mono hx,h.cap,ho⟩
theorem DA {l:List ByteArray}{s:ByteArray}{Z22:Hp}{pt:Option Addr}{k j:Nat}(hr:Fo 1 Z22 pt k (l.map .string))(hR:R (.returned (.I (Ja l s))) Z22):Spec prog 95 #[.slice pt k j,.string s] Z22 R:=by
 have hl:l.length=k:=by have:=hr.1;simpa using this
 have RV:k<=4611686018427387904:=hr.2.1;refine Ep.start ?_
 suffices H:∀g i:Nat,k-i=g->i<=k->Ja l s=ACh (l.drop i) s i->Ep.Gf R s pt k j k i Z22 from H k 0 rfl (Ajy _) rfl
 intro g
 induction g with
 | zero=>
  intro i hg hi he;rw[AkF (by omega)]at he;refine Ep.A0 ⟨λAx=>by omega,λ_=>?_⟩;rw[he]at hR;exact hR
 | succ g ih=>
  intro i hg hi he;have CO:i<k:=by omega
  obtain⟨x,hx⟩:∃x,l[i]?=some x:=⟨_,Ajs (by omega)⟩;obtain⟨b,o,rfl,Dy⟩:=Fo.at1 hr (k:=i) (v:=.string x) (by simp[hx]);rw[BR hx]at he;have next:¬(x=s/\s≠⟨#[]⟩)->AL ((i:Int)+1)/\Ep.Gf R s (aD b o) k j k ((i:Int)+1) Z22:=λAv=>⟨AO CO RV,ih (i+1) (by omega) (by omega) (by rw[he,ACh,Ajj Av])⟩
  refine Ep.A0 ⟨λ_=>⟨b,o,rfl,by omega,x,by simpa using Dy,λht=>⟨λG=>?_,λG=>next λhh=>?_⟩,λG=>next λhh=>?_⟩,λhh=>by omega⟩
  .rw[iH,Aj3]at ht;rw[iH,AkY]at G;rw[he,ACh,Ajl ⟨ht,G⟩]at hR;exact hR
  .rw[iH,Aj3]at G;exact hh.2 G
  .rw[iH,AkY]at G;exact G hh.1
theorem AC6 (h:B4 O2 ρ pb p n c q m e ts out)(hR:∀ρ' b,B4 O2 ρ' pb p n c q m e ts out->Ext ρ ρ'->Fo 1 (ρ'.set pb (pO p n c d q m e)) (aD b 0) 14 (opW.map .string)->R (.returned (.slice (aD b 0) 14 14)) (ρ'.set pb (pO p n c d q m e))):Spec prog 96 #[] (ρ.set pb (pO p n c d q m e)) R:=by
 refine cM.start λb hb=>?_;obtain⟨h1,G⟩:=h.box (u:=.cells (opW.map Value.string).toArray 9 (0,0)) hb;have:=hR _ b h1 (.set (Hp.AM hb).2) (by rw[<-G];exact ga (Hp.AA _ _ _) (by decide));rw[<-G]at this;exact this
theorem Yz (h:B4 O2 ρ pb p n c q m e ts out)(hR:∀ρ' b,B4 O2 ρ' pb p n c q m e ts out->Ext ρ ρ'->Fo 1 (ρ'.set pb (pO p n c d q m e)) (aD b 0) 13 (fnW.map .string)->R (.returned (.slice (aD b 0) 13 13)) (ρ'.set pb (pO p n c d q m e))):Spec prog 239 #[] (ρ.set pb (pO p n c d q m e)) R:=by
 refine US.start λb hb=>?_;obtain⟨h1,G⟩:=h.box (u:=.cells (fnW.map Value.string).toArray 9 (0,0)) hb;have:=hR _ b h1 (.set (Hp.AM hb).2) (by rw[<-G];exact ga (Hp.AA _ _ _) (by decide));rw[<-G]at this;exact this
theorem Y0 (h:B4 O2 ρ pb p n c q m e ts out)(hR:∀ρ' b,B4 O2 ρ' pb p n c q m e ts out->Ext ρ ρ'->Fo 1 (ρ'.set pb (pO p n c d q m e)) (aD b 0) 6 (agW.map .string)->R (.returned (.slice (aD b 0) 6 6)) (ρ'.set pb (pO p n c d q m e))):Spec prog 240 #[] (ρ.set pb (pO p n c d q m e)) R:=by
 refine Wx.start λb hb=>?_;obtain⟨h1,G⟩:=h.box (u:=.cells (agW.map Value.string).toArray 9 (0,0)) hb;have:=hR _ b h1 (.set (Hp.AM hb).2) (by rw[<-G];exact ga (Hp.AA _ _ _) (by decide));rw[<-G]at this;exact this
theorem xT {s:ByteArray}{b:Bool}(h:B4 O2 ρ pb p n c q m e ts out)(G:∀ρ',B4 O2 ρ' pb p n c q m e ts out->Ext ρ ρ'->R (.returned (.bool (b||decide (0<Ja fnW s)||decide (0<Ja agW s)))) (ρ'.set pb (pO p n c d q m e))):Iz.VF R s b (ρ.set pb (pO p n c d q m e)):=by
 refine Iz.AEh ⟨λhb=>?_,λhb=>?_⟩
 .have:=G ρ h (.refl _);rw[hb]at this;simpa using this
 .subst hb;refine Yz h λρ1 b1 h1 x1 EB=>⟨_,_,_,rfl,DA EB ⟨_,rfl,λhp=>?_,λhp=>Y0 h1 λρ2 b2 h2 x2 Ff=>⟨_,_,_,rfl,DA Ff ⟨_,rfl,?_⟩⟩⟩⟩
  .have:=G ρ1 h1 x1;rw[Aj0 (show 0<Ja fnW s by omega)]at this;simpa using this
  .have:=G ρ2 h2 (x1.trans x2);rw[Aj1 (show ¬0<Ja fnW s by omega)]at this;have e:decide ((0:Int)<((Ja agW s:Nat):Int))=decide (0<Ja agW s):=Akr.2 (by omega);dsimp only;simp only[Ak8]at this;rw[<-e]at this;exact this
theorem dX {s:ByteArray}(h:B4 O2 ρ pb p n c q m e ts out)(hR:∀ρ',B4 O2 ρ' pb p n c q m e ts out->Ext ρ ρ'->R (.returned (.bool (lr s))) (ρ'.set pb (pO p n c d q m e))):Spec prog 263 #[.string s] (ρ.set pb (pO p n c d q m e)) R:=by
 have tl:∀b,Fa s AF7=b->Iz.VF R s b (ρ.set pb (pO p n c d q m e)):=λb hb=>xT h λρ' G x'=>by
  have:=hR ρ' G x';unfold lr at this;rw[hb]at this;exact this
 have hm:Fa s AF7=(decide (s=⟨#[111,114]⟩)||(decide (s=⟨#[97,110,100]⟩)||(decide (s=⟨#[117,110,108,101,115,115]⟩)||(decide (s=⟨#[98,111,111,108]⟩)||(decide (s=⟨#[111,110]⟩)||(decide (s=⟨#[105,103,110,111,114,105,110,103]⟩)||(decide (s=⟨#[98,121]⟩)||(decide (s=⟨#[119,105,116,104,111,117,116]⟩)||decide (s=⟨#[111,102,102,115,101,116]⟩))))))))):=by
  unfold Fa AF7;simp only[AnE,List.any_nil,Bool.or_false]
 refine Iz.start ⟨λh1=>tl _ ?_,λh1=>⟨λh2=>tl _ ?_,λh2=>⟨λh3=>tl _ ?_,λh3=>⟨λh4=>tl _ ?_,λh4=>⟨λh5=>tl _ ?_,λh5=>⟨λh6=>tl _ ?_,λh6=>⟨λh7=>tl _ ?_,λh7=>⟨λh8=>tl _ ?_,λh8=>tl _ ?_⟩⟩⟩⟩⟩⟩⟩⟩ <;>
 .simp only[iH]at *;simp only[hm, *,Amv,AmV,Ak8]
theorem qa (h:B4 O2 ρ pb p n c q m e (t::ts) out)(hk:t.kind=2)(hR:R (.returned (.I t.span)) (ρ.set pb (pO (Ee p 1 c 4) (n-1) (c-1) d q m e))):Spec prog 266 #[.pointer (aD pb 0)] (ρ.set pb (pO p n c d q m e)) R:=
 Cy.start (BJ h λa=>⟨_,_,_,_,rfl,λG=>absurd hk G,λ_=>Cy.BI (BF h λa=>⟨_,_,_,_,rfl,hR⟩)⟩)
theorem qb (h:B4 O2 ρ pb p n c q m e (t::ts) out)(hk:t.name=true)(hR:R (.returned (.string t.text)) (ρ.set pb (pO (Ee p 1 c 4) (n-1) (c-1) d q m e))):Spec prog 138 #[.pointer (aD pb 0)] (ρ.set pb (pO p n c d q m e)) R:=by
 have ht:=h.tok.1;have G:(decide (t.kind=3)&&Dt t.text)=true:=by rw[<-hk];exact(Ajw Cl.name ht).symm
 rw[Ajz,Aj3]at G;exact C5.start (BJ h λa=>⟨_,_,_,_,rfl,λAv=>absurd G.1 Av,λ_=>BJ h λa=>⟨_,_,_,_,rfl,P9 ⟨_,rfl,λhf=>absurd (G.2.symm.trans hf) (by decide),λ_=>C5.BI (BF h λa=>⟨_,_,_,_,rfl,hR⟩)⟩⟩⟩)
def VV (_:Hp)(vs:List Value)(x:ByteArray):Prop:=vs=[.string x]
theorem VV.mono:Hk VV:=λ_ _ _ _ _ h=>h
theorem AMm {Z22:Hp}:∀{l:List ByteArray} {cs:List Value},Ch 1 VV Z22 cs l->cs=l.map .string:=by
 intro l cs h;refine Akv λi=>?_;have hl:cs.length=l.length:=by have:=h.1;omega
 by_cases hi:i<l.length
 .have:=h.2 i l[i] (Ajs hi);rw[Akt,Ajs hi];unfold VV at this;have G:=Ajw (·[0]?) this;simpa[AkE,AkL] using G
 .rw[Ak2 (by omega),Ak2 (by simp;omega)]
theorem BL.AMn {s:Nat}{Z22 Z':Hp}{p:Option Addr}{n c:Nat}{cs:List Value}(G:BL s Z22 p n c cs)(h:∀a,p=some a->Z' a.block=Z22 a.block):BL s Z' p n c cs:=
 ⟨G.1,G.2.1,G.2.2.imp id λ⟨b',o',arr,T,hp,hb,r⟩=>⟨b',o',arr,T,hp,by rw[h _ hp];exact hb,r⟩⟩
theorem Hp.AGQ {Z22 Z':Hp}{p:Option Addr}(hx:Ext Z22 (Z'.del p)):∀a,p=some a->(Z22.new Z') a.block=Z' a.block:=λa ha=>by
 subst ha;cases G:Z22 a.block with
 | none=>simp only[Hp.new,G]
 | some u=>
  have:=hx _ _ G;simp[Hp.del]at this
theorem AN.gb {α:Type}{s:Nat}{E:Hp->List Value->α->Prop}{Z0 Z22:Hp}{p:Option Addr}{n c:Nat}{xs:List α}(hE:∀Z22 Z' vs x,E Z22 vs x->E Z' vs x)(h:AN s E Z0 Z22 p n c xs):Ae s E (Z0.new Z22) p n xs:=by
 obtain⟨⟨h1,cs,h2,G⟩,h4⟩:=h;exact⟨h1,cs,(BL.AMn h2 (Hp.AGQ h4)).rd,G.1,λi x hi=>hE _ _ _ _ (G.2 i x hi)⟩
theorem uA {Z22:Hp}{p:Option Addr}{n:Nat}{l:List ByteArray}(h:Ae 1 VV Z22 p n l):Fo 1 Z22 p n (l.map .string):=by
 obtain⟨h1,cs,G,h3⟩:=h;rw[<-AMm h3];exact G
theorem qc {ρ0:Hp}:∀(f:Nat) (ts:List Cl) (ns:List ByteArray) (x:List ByteArray×List Cl),nmZ f ts ns=some x->ns.length+f<=1000->∀{ρ:Hp} {p pn:Option Addr} {n c kn cn:Nat},B4 O2 ρ0 pb p n c q m e ts out->ρ pb=none->AN 1 VV ρ0 ρ pn kn cn ns->
  (∀(ρ':Hp) (p' pn':Option Addr) (n' c' kn' G:Nat),B4 O2 ρ0 pb p' n' c' q m e x.2 out->ρ' pb=none->AN 1 VV ρ0 ρ' pn' kn' G x.1->R (.returned (.slice pn' kn' G)) (ρ'.set pb (pO p' n' c' d q m e)))->
  Au.CD R (aD pb 0) pn kn cn (ρ.set pb (pO p n c d q m e)):=by
 intro f
 induction f with
 | zero=>intro ts ns x h;cases h
 | succ f ih=>
  intro ts ns x h hb ρ p pn n c kn cn h0 hn ho hR;cases ts with
  | nil=>cases h
  | cons c0 r=>
   have hu:=h0.grow ho.up hn;have ht:=hu.tok.1;have iP:ns.length=kn:=ho.1.1;have cH:c0.rp=GN c0.kind c0.text 5 ⟨#[41]⟩:=Ajw Cl.rp ht;have hcm:c0.comma=GN c0.kind c0.text 5 ⟨#[44]⟩:=Ajw Cl.comma ht;unfold nmZ at h;have app:∀(w:Cl) (r':List Cl) (p1:Option Addr) (n1 c1:Nat),w.name=true->nmZ f r' (ns++[w.text])=some x->B4 O2 ρ0 pb p1 n1 c1 q m e (w::r') out->Au.SH R (aD pb 0) pn kn cn (ρ.set pb (pO p1 n1 c1 d q m e)):=λw r' p1 n1 c1 hw hz Qy=>
    Au.Eu (qb (Qy.grow ho.up hn) hw ⟨_,rfl,λb LD=>by
     obtain⟨e1,e2⟩:=Hp.AM LD;rw[Hp.BD (Aj4 e1)];refine AI.AR (by rw[Hp.AB (Aj4 e1)];exact hn) ?_;refine AN.FN VV.mono ho rfl (λu hu=>by rw[Ajp]at hu;subst hu;rfl) rfl (by omega) (λpn' G ρ' EM Sc Mh=>⟨_,_,_,rfl,?_⟩) e2;exact ih r' _ x hz (by rw[Ajr,AkS];omega) Qy.step Mh EM hR⟩)
   refine Au.A5 (BS hu ⟨_,rfl,λuR=>?_,λpU=>BF hu λa=>⟨_,_,_,_,rfl,?_⟩⟩)
   .rw[<-cH]at uR;rw[Ajj (by rw[uR];decide)]at h;refine⟨λIs=>?_,λIs=>?_⟩
    .rw[Ajj (by omega)]at h;split at h
     .rename_i hc;split at h
      .cases h
      .rename_i w r';split at h
       .rename_i hw;exact QH hu (by rw[<-hcm];exact hc) ⟨rfl,app w r' _ _ _ hw h h0.step⟩
       .cases h
     .cases h
    .rw[Ajl (by omega)]at h;split at h
     .rename_i hc;exact app c0 r p n c hc h h0
     .cases h
   .rw[<-cH]at pU;rw[Ajl pU]at h;cases h;exact hR ρ _ pn _ _ kn cn h0.step hn ho
theorem mA {x:List ByteArray×List Cl}(h:B4 O2 ρ pb p n c q m e (t::ts) out)(hl:t.lp=true)(hz:nmZ 8 ts []=some x)
  (hR:∀(ρ':Hp) (p' pn:Option Addr) (n' c' G cn:Nat),B4 O2 ρ' pb p' n' c' q m e x.2 out->Ext ρ ρ'->Fo 1 (ρ.new ρ') pn G (x.1.map .string)->R (.returned (.slice pn G cn)) (ρ'.set pb (pO p' n' c' d q m e))) :
  Spec prog 122 #[.pointer (aD pb 0)] (ρ.set pb (pO p n c d q m e)) R:=by
 have RI:GN t.kind t.text 5 ⟨#[40]⟩=true:=by rw[<-hl];exact(Ajw Cl.lp h.tok.1).symm
 refine Au.start (QH h RI ⟨rfl,qc 8 ts [] x hz (by decide) h.step h.pb (AN.nil (.refl _)) λρ' p2 pn n2 c2 G cn hu hn ho=>hR ρ' p2 pn n2 c2 G cn (hu.grow ho.up hn) ho.up (uA (ho.gb λ_ _ _ _ h=>h))⟩)
end
abbrev Y1 (k op:Int)(pm:Option Addr)(km cm:Nat)(w g:Int)(pn:Option Addr)(G cn:Nat)(b:Bool)(ps:Int):Obj:=.cells #[.I k,.I op,.string (ByteArray.mk #[]),.slice pm km cm,.I w,.I 0,.I g,.slice pn G cn,.bool b,.I ps] 127 (0,0)
theorem qd:∀w,(Go.sizeOf 2).run prog w=.ok 1 w:=λw=>by kernel_rfl
theorem uB:∀w,(Go.sizeOf 112).run prog w=.ok 1 w:=λw=>by kernel_rfl
theorem uC:∀w,(Go.sizeOf 125).run prog w=.ok 1 w:=λw=>by kernel_rfl
section
variable {O2 ρ ρ':Hp}{pb nb n c m e:Nat}{p q:Option Addr}{ts:List Cl}{out:List Nd}{d:Int}{t:Cl}{R:Rr}
theorem T7 {Z22:Hp}{k op:Int}{ps:Int}{b:Bool}{Φ:Unit->Hp->Prop}(h:Φ () (Z22.set nb (Y1 k op none 0 0 0 0 none 0 0 b ps))):
  AI prog (Instr.storeAt 127 (.pointer (aD nb 0)) (.agg #[.I k,.I op,(.string (ByteArray.mk #[])),.N,.I 0,.I 0,.I 0,.N,.bool b,.I ps])) (Z22.set nb (Y1 0 0 none 0 0 0 0 none 0 0 false 0)) Φ:=by
 refine AI.store tE (Hp.AA _ _ _) rfl (by simp) (by simp[Value.cells,Value.oneCell']) ?_;rw[Hp.set_set];show Φ () (Z22.set nb (.cells (LF _ 0 [.I k,.I op,(.string (ByteArray.mk #[])),.N,.I 0,.I 0,.I 0,.N,.bool b,.I ps]) 127 (0,0)))
 rw[YM (by rfl)];exact h
theorem xU {s:ByteArray}{k v a:Int}{s':ByteArray}(h:B4 O2 ρ pb p n c q m e ts out)(Hc:(ρ.set pb (pO p n c d q m e)) nb=none)(hs:s.size<=256)
  (hR:∀(ρ':Hp) (pm:Option Addr) (cm:Nat),B4 O2 ρ' pb p n c q m e ts out->Ext ρ ρ'->(ρ'.set pb (pO p n c d q m e)) nb=none->Ae 3 Js (ρ.new ρ') pm 1 [⟨1,Eb,s⟩]->R (.T #[]) ((ρ'.set pb (pO p n c d q m e)).set nb (Y1 2 0 pm 1 cm 0 0 none 0 0 false 0))) :
  Spec prog 264 #[.pointer (aD pb 0),.pointer (aD nb 0),.agg #[.I 1,.string (ByteArray.mk #[95,95,110,97,109,101,95,95]),.string s],.agg #[.I k,.I a,.string s',.I v]] ((ρ.set pb (pO p n c d q m e)).set nb (Y1 2 0 none 0 0 0 0 none 0 0 false 0)) R:=by
 refine HX.start λ_ _=>⟨nb,0,rfl,none,0,0,by simp[Hp.ld,Hp.AA],λb hb=>?_⟩;obtain⟨e1,Fi⟩:=Hp.AM hb;obtain⟨e2,Uh⟩:=Hp.AM Fi;obtain⟨e3,Qe⟩:=Hp.AM Hc;rw[Hp.BD (Aj4 e1)];refine AI.AR (by rw[Hp.AB (Aj4 e1)];exact Hc) ?_;rw[Hp.BD (Aj4 e2)];refine AI.AR (by rw[Hp.AB (Aj4 e2)];exact h.pb) ?_;refine AN.FN (vs:=[.I 1,.string Eb,.string s]) (x:=(⟨1,Eb,s⟩:Mt)) Js.mono (AN.nil (s:=3) (E:=Js) (.refl ρ)) rfl (λu hu=>?_) rfl (by decide) (λpm cm ρ' G hx yR Jw=>⟨_,_,_,rfl,?_⟩) Uh
 .simp only[Ajo,Aj7,Akc]at hu;rcases hu with rfl|rfl|rfl<;>rfl
 .have hr:=G.gb λ_ _ _ _ h=>h;refine st1 uB (Hp.AA _ _ _) rfl rfl (by simp) rfl ?_;rw[Hp.set_set];have Vw:=hR ρ' pm cm (h.grow G.up yR) G.up Jw hr;refine⟨pm,1,cm,by simp[Hp.ld,Hp.AA],Pb (ms:=[⟨1,Eb,s⟩]) ((hr.mono Js.mono ((Ext.CY _ _).trans ((Ext.set yR).trans (Ext.set Jw))))) ⟨_,rfl,λAv=>absurd ?_ Av,λ_=>Vw⟩⟩;have:GH Dt [⟨1,Eb,s⟩]=0:=by
   unfold GH;simp only[AkS,AmD,List.all_nil,Bool.and_true];rw[Ajj (by decide),Ajl];rw[show Dt Eb=true by decide,Aj0 hs];rfl
  exact this
theorem Y3 {k w:Int}{s:ByteArray}{pm:Option Addr}{cm:Nat}(h:B4 O2 ρ pb p n c q m e (t::ts) out)(Hc:(ρ.set pb (pO p n c d q m e)) nb=none)(ho:t.off=false)(hb:m<=1000000)(hr:Ae 3 Js (ρ.del q) pm 1 [⟨1,Eb,s⟩])
  (hR:∀(ρ':Hp) (q':Option Addr) (G:Nat),B4 O2 ρ' pb p n c q' (m+1) G (t::ts) (out++[⟨k,0,⟨#[]⟩,[⟨1,Eb,s⟩],w,0,0,[],false,0⟩])->R (.T #[]) (ρ'.set pb (pO p n c d q' (m+1) G))) :
  AP.PF R (aD pb 0) nb ((ρ.set pb (pO p n c d q m e)).set nb (Y1 k 0 pm 1 cm w 0 none 0 0 false 0)):=by
 have EM:GN t.kind t.text 3 ⟨#[111,102,102,115,101,116]⟩=false:=by rw[<-ho];exact(Ajw Cl.off h.tok.1).symm
 refine AP.Ll (Spec.AR Hc (BS h λhn=>⟨_,rfl,λht=>absurd (EM.symm.trans ht) (by decide),λ_=>AP.SE ⟨_,_,_,_,_,_,_,_,_,_,_,_,_,_,JJ (Hp.AA _ _ _),?_⟩⟩));refine Spec.AR hn (CJ (x:=⟨k,0,⟨#[]⟩,[⟨1,Eb,s⟩],w,0,0,[],false,0⟩) h hb hr ⟨rfl,by omega,.inl rfl⟩ λρ' q' G hu Mh=>⟨rfl,?_⟩);obtain⟨h1,h2⟩:=hu.box (u:=Y1 k 0 pm 1 cm w 0 none 0 0 false 0) Mh;rw[h2];exact hR _ q' G h1
theorem choose_spec {r:List Cl}{x:Nd}(h:B4 O2 ρ pb p n c q m e (t::ts) out)(hk:t.kind=3)(hke:t.kept=false)(hs:t.text.size<=256)(hb:m<=1000000)
  (G:AGA t ts=some (r,[x]))
  (hR:∀(ρ':Hp) (p' q':Option Addr) (n' c' e':Nat),B4 O2 ρ' pb p' n' c' q' (m+1) e' r (out++[x])->R (.T #[]) (ρ'.set pb (pO p' n' c' d q' (m+1) e'))) :
  Spec prog 242 #[.pointer (aD pb 0)] (ρ.set pb (pO p n c d q m e)) R:=by
 have Ab0:lr t.text=false:=by rw[<-hke];exact(Ajw Cl.kept h.tok.1).symm
 unfold AGA at G;cases ts with
 | nil=>cases G
 | cons a r'=>
  refine AP.start λnb Hc=>T7 ?_;refine Spec.AR Hc (BJ h λa' Jw=>⟨_,_,_,_,rfl,λ_=>⟨λ_=>?_,λAv=>absurd hk Av⟩⟩);refine Spec.AR Jw (dX h λρ1 h1 x1 Jv=>⟨_,rfl,λ_=>?_,λht=>absurd (Ab0.symm.trans ht) (by decide)⟩);have h2:=h1.step;refine Spec.AR Jv (BF h1 λa' Qe=>⟨_,_,_,_,rfl,?_⟩);refine xU h2 Qe hs λρ2 pm cm h3 x2 tz hr=>⟨rfl,?_⟩;have ht:=h3.tok.1;have e1:a.lbr=GN a.kind a.text 5 ⟨#[123]⟩:=Ajw Cl.lbr ht;have e2:a.lsq=GN a.kind a.text 5 ⟨#[91]⟩:=Ajw Cl.lsq ht;have Ff:Ae 3 Js (ρ2.del q) pm 1 [⟨1,Eb,t.text⟩]:=hr.mono Js.mono (h2.out.new x2);dsimp only at G;split at G
  .cases G
  rename_i yN;refine AP.EE (Spec.AR tz (BS h3 λhn5=>⟨_,rfl,λpU=>absurd (e1.trans pU) yN,λ_=>⟨λhh=>(by cases hh),λ_=>?_⟩⟩));split at G
  .rename_i Vn;split at G
   .rename_i s ee o r'';split at G
    .rename_i hc;obtain⟨hs2,hrs,hof⟩:=hc;simp only[Ajv,Akh,Ali,Amu]at G;obtain⟨rfl,rfl⟩:=G;refine AP.DZ (Spec.AR hn5 (BS h3 λhn6=>⟨_,rfl,λ_=>?_,λhf=>absurd (Vn.symm.trans (e2.trans hf)) (by decide)⟩));have h4:=h3.step;have h5:=h4.step;have h6:=h5.step;refine Spec.AR hn6 (BF h3 λa2 hn7=>⟨_,_,_,_,rfl,?_⟩);refine Spec.AR hn7 (qa h4 hs2 λQf=>⟨_,rfl,?_⟩);refine st1 JB (Hp.AA _ _ _) rfl rfl (by simp) rfl ?_;rw[Hp.set_set];refine st1 qd (Hp.AA _ _ _) rfl rfl (by simp) rfl ?_;rw[Hp.set_set];have e3:GN ee.kind ee.text 5 ⟨#[93]⟩=true:=by rw[<-hrs];exact(Ajw Cl.rsq h5.tok.1).symm
     refine Spec.AR Qf (QH h5 e3 λhn9=>⟨rfl,?_⟩);exact Y3 (k:=3) (w:=s.span) h6 hn9 hof hb Ff λρ' q' e' hu=>hR ρ' _ q' _ _ e' hu
    .cases G
   .cases G
  .rename_i Vn;split at G
   .cases G
   rename_i hof;simp only[Ajv,Akh,Ali,Amu]at G;obtain⟨rfl,rfl⟩:=G;refine AP.DZ (Spec.AR hn5 (BS h3 λhn6=>⟨_,rfl,λpU=>absurd (e2.trans pU) Vn,λ_=>?_⟩));exact Y3 (k:=2) (w:=0) h3 hn6 (by simpa using hof) hb Ff λρ' q' e' hu=>hR ρ' _ q' _ _ e' hu
end
section
variable {O2 ρ ρ':Hp}{pb nb n c m e:Nat}{p q:Option Addr}{ts:List Cl}{out:List Nd}{d:Int}{t:Cl}{R:Rr}
theorem mB {k op x0 x1 v ps:Int}{b:Bool}{i b7:Nat}{s0 s1 s:ByteArray}{r:List Cl}{l:Cl}{x:List ByteArray×List Cl}(h:B4 O2 ρ pb p n c q m e (t::l::r) out)(Hc:(ρ.set pb (pO p n c d q m e)) nb=none)(hb7:ρ b7=some (.cells #[.I x0,.I x1] 189 (0,0)))
  (hi:i<2) (hs:[s0,s1][i]?=some s) (hv:(#[Value.int .i64 x0,.I x1])[i]?=some (.I v)) (ht:GN t.kind t.text 3 s=true) (hl:l.lp=true) (hz:nmZ 8 r []=some x)
  (hR:∀(ρ':Hp) (p' pn:Option Addr) (n' c' kn cn:Nat),B4 O2 ρ' pb p' n' c' q m e x.2 out->Ext ρ ρ'->(ρ'.set pb (pO p' n' c' d q m e)) nb=none->Fo 1 (ρ.new ρ') pn kn (x.1.map .string)->R (.T #[]) ((ρ'.set pb (pO p' n' c' d q m e)).set nb (Y1 k op none 0 0 0 v pn kn cn b ps))) :
  Am.jo R (aD pb 0) (aD nb 0) b7 s0 s1 (i:Int) ((ρ.set pb (pO p n c d q m e)).set nb (Y1 k op none 0 0 0 0 none 0 0 b ps)):=by
 have kn7:∀{G:Hp} {o u:Obj},Ext ρ G->G pb=none->(G.set pb o) nb=none->((G.set pb o).set nb u) b7=some (.cells #[.I x0,.I x1] 189 (0,0)):=λhx h1 h2=>(Ext.set h2) _ _ ((Ext.set h1) _ _ (hx _ _ hb7));refine Am.NS ⟨λ_=>⟨by omega,s,by simpa using hs,Spec.AR Hc (BS h λhn=>⟨_,rfl,λ_=>Spec.AR hn (BF h λa Jw=>⟨_,_,_,_,rfl,by omega,v,?_,Spec.AR Jw (mA h.step hl hz λG p2 pn n2 c2 kn cn hu hx hr Jv=>⟨_,_,_,rfl,?_,nb,0,rfl,?_⟩)⟩),λhf=>absurd (ht.symm.trans hf) (by decide)⟩)⟩,λhh=>by omega⟩
 .exact AJ (kn7 (.refl _) h.pb Jw) (by simpa using hv)
 .intro j hj o ho;rw[Ajp]at hj;subst hj;rw[kn7 (.refl _) h.pb Jw]at ho;rw[kn7 hx hu.pb Jv];exact ho
 .refine st1 JB (Hp.AA _ _ _) rfl rfl (by simp) rfl ?_;rw[Hp.set_set];refine st1 uC (Hp.AA _ _ _) rfl rfl (by simp) rfl ?_;rw[Hp.set_set];exact hR G p2 pn n2 c2 kn cn hu hx Jv hr
theorem L9 {i b7:Nat}{s0 s1 s:ByteArray}{o:Obj}{qn:Option Addr}(h:B4 O2 ρ pb p n c q m e (t::ts) out)(Hc:(ρ.set pb (pO p n c d q m e)) nb=none)
  (hi:i<2) (hs:[s0,s1][i]?=some s) (ht:GN t.kind t.text 3 s=false) (hR:Am.jo R (aD pb 0) qn b7 s0 s1 ((i+1:Nat):Int) ((ρ.set pb (pO p n c d q m e)).set nb o)) :
  Am.jo R (aD pb 0) qn b7 s0 s1 (i:Int) ((ρ.set pb (pO p n c d q m e)).set nb o):=
 Am.NS ⟨λ_=>⟨by omega,s,by simpa using hs,Spec.AR Hc (BS h λhn=>⟨_,rfl,λG=>absurd (ht.symm.trans G) (by decide),λ_=>⟨by unfold AL;omega,hR⟩⟩)⟩,λG=>by omega⟩
theorem Rf {x0 x1:Int}{s0 s1:ByteArray}{o:Obj}(h:B4 O2 ρ pb p n c q m e (t::ts) out)(Hc:(ρ.set pb (pO p n c d q m e)) nb=none)(h0:GN t.kind t.text 3 s0=false)(h1:GN t.kind t.text 3 s1=false)
  (hR:∀ρ',B4 O2 ρ' pb p n c q m e (t::ts) out->Ext ρ ρ'->(ρ'.set pb (pO p n c d q m e)) nb=none->R (.T #[]) ((ρ'.set pb (pO p n c d q m e)).set nb o)) :
  Spec prog 99 #[.pointer (aD pb 0),.pointer (aD nb 0),.agg #[.string s0,.string s1],.agg #[.I x0,.I x1]] ((ρ.set pb (pO p n c d q m e)).set nb o) R:=by
 refine Am.start λ_ b7 hb=>?_;obtain⟨e1,Fi⟩:=Hp.AM hb;obtain⟨e2,Uh⟩:=Hp.AM Fi;rw[Hp.BD (Aj4 e1),Hp.BD (Aj4 e2)];have hu:=h.grow (.set (o:=.cells #[.I x0,.I x1] 189 (0,0)) Uh) (by rw[Hp.AB (Aj4 e2)];exact h.pb);have G:((ρ.set b7 (.cells #[.I x0,.I x1] 189 (0,0))).set pb (pO p n c d q m e)) nb=none:=by
  rw[Hp.BD e2,Hp.AB (Aj4 e1)];exact Hc
 refine L9 (i:=0) hu G (by decide) rfl h0 (L9 (i:=1) hu G (by decide) rfl h1 (Am.NS ⟨λhh=>by omega,λ_=>?_⟩));exact hR _ hu (.set Uh) G
theorem qe {op:Int}{g:Int×List ByteArray×List Cl}(h:B4 O2 ρ pb p n c q m e ts out)(Hc:(ρ.set pb (pO p n c d q m e)) nb=none)(G:qS ts=some g)
  (hR:∀(ρ':Hp) (p' pn:Option Addr) (n' c' kn cn:Nat),B4 O2 ρ' pb p' n' c' q m e g.2.2 out->Ext ρ ρ'->(ρ'.set pb (pO p' n' c' d q m e)) nb=none->Fo 1 (ρ.new ρ') pn kn (g.2.1.map .string)->R (.T #[]) ((ρ'.set pb (pO p' n' c' d q m e)).set nb (Y1 5 op none 0 0 0 g.1 pn kn cn false 1))) :
  Spec prog 99 #[.pointer (aD pb 0),.pointer (aD nb 0),(.agg #[(.string (ByteArray.mk #[98,121])),(.string (ByteArray.mk #[119,105,116,104,111,117,116]))]),.agg #[.I 1,.I 2]] ((ρ.set pb (pO p n c d q m e)).set nb (Y1 5 op none 0 0 0 0 none 0 0 false 1)) R:=by
 cases ts with
 | nil=>cases G
 | cons t r=>
  have ht:=h.tok.1;have e1:t.qR=GN t.kind t.text 3 ⟨#[98,121]⟩:=Ajw Cl.qR ht;have e2:t.out=GN t.kind t.text 3 ⟨#[119,105,116,104,111,117,116]⟩:=Ajw Cl.out ht;unfold qS at G;dsimp only at G;split at G
  .rename_i yQ;cases r with
   | nil=>cases G
   | cons l r=>
    dsimp only at G;split at G
    .rename_i hl;cases hz:nmZ 8 r [] with
     | none=>rw[hz]at G;cases G
     | some x=>
      rw[hz]at G;simp only[Aki,Ajv]at G;subst G;refine Am.start λ_ b7 hb=>?_;obtain⟨n1,Fi⟩:=Hp.AM hb;obtain⟨n2,Uh⟩:=Hp.AM Fi;rw[Hp.BD (Aj4 n1),Hp.BD (Aj4 n2)];have x0:=Ext.set (o:=.cells #[.I 1,.I 2] 189 (0,0)) Uh;have hu:=h.grow x0 (by rw[Hp.AB (Aj4 n2)];exact h.pb);have Mh:((ρ.set b7 (.cells #[.I 1,.I 2] 189 (0,0))).set pb (pO p n c d q m e)) nb=none:=by
       rw[Hp.BD n2,Hp.AB (Aj4 n1)];exact Hc
      by_cases hb:t.qR=true
      .refine mB (i:=0) (v:=1) hu Mh (Hp.AA _ _ _) (by decide) rfl rfl (by rw[<-e1];exact hb) hl hz λρ' p' pn n' c' kn cn Bt hx Jv hr=>?_;have:=hR ρ' p' pn n' c' kn cn Bt (x0.trans hx) Jv (hr.mono (Ext.Cq x0));rw[Ajl hb]at this;exact this
      .have LD:t.qR=false:=by simpa using hb
       have ho:t.out=true:=by rw[LD,Ak8]at yQ;exact yQ
       refine L9 (i:=0) hu Mh (by decide) rfl (by rw[<-e1];exact LD) ?_;refine mB (i:=1) (v:=2) hu Mh (Hp.AA _ _ _) (by decide) rfl rfl (by rw[<-e2];exact ho) hl hz λρ' p' pn n' c' kn cn Bt hx Jv hr=>?_;have:=hR ρ' p' pn n' c' kn cn Bt (x0.trans hx) Jv (hr.mono (Ext.Cq x0));rw[Ajj hb]at this;exact this
    .cases G
  .rename_i yQ;simp only[Ajv]at G;subst G;rw[Bool.not_eq_true,Akz]at yQ;refine Rf h Hc (by rw[<-e1];exact yQ.1) (by rw[<-e2];exact yQ.2) λρ' hu hx hn=>?_;exact hR ρ' p none n c 0 0 hu hx hn ⟨rfl,by omega,.inl rfl⟩
theorem T8 {g:Nat}{fst cap:Array Value}(KQ:Enters prog g)(h:B4 O2 ρ pb p n c q m e (t::ts) out)(hd:0<=d/\d<64)
  (hR:Spec prog g (fst++#[]++cap) (ρ.set pb (pO (Ee p 1 c 4) (n-1) (c-1) (d+1) q m e)) (AY R λz y=>z=.tuple #[]/\∃(ρ':Hp) (p' q':Option Addr) (n' c' m' G:Nat),y=ρ'.set pb (pO p' n' c' (d+1) q' m' G)/\R (.T #[]) (ρ'.set pb (pO p' n' c' d q' m' G)))) :
  Spec prog 219 #[.pointer (aD pb 0),.func (.func g) fst cap] (ρ.set pb (pO p n c d q m e)) R:=by
 refine EF.start ⟨pb,0,rfl,d,by simp[Hp.ld,Hp.AA],λhh=>by omega,λ_=>EF.NS ⟨pb,0,rfl,d,by simp[Hp.ld,Hp.AA],by unfold AL;omega,?_⟩⟩;refine st1 JB (Hp.AA _ _ _) rfl rfl (by simp) rfl ?_;rw[Hp.set_set];refine BF h λa=>⟨_,_,_,_,rfl,g,fst,cap,rfl,KQ,hR.cont λz y hy=>?_⟩;obtain⟨rfl,ρ2,p2,q2,n2,c2,m2,e2,rfl,hr⟩:=hy;refine⟨rfl,d+1,by simp[Hp.ld,Hp.AA],by unfold AL;omega,?_⟩;refine st1 JB (Hp.AA _ _ _) rfl rfl (by simp) rfl ?_;rw[Hp.set_set,show d+1-1=d by omega];exact hr
end
end TwW
end
