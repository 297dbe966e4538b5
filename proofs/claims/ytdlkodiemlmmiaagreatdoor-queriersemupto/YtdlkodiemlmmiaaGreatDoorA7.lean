/-
  Part 7 of the proof that the law QuerierSemUptoCardSaid of the given program answers true for every input of the given statement; the input reads behind the call as it did. (The texts: packed from 34 texts. Names are shortened by the packing program, for the bound on size.)
-/
import Derived.Test.YtdlkodiemlmmiaaGreatDoorA6
import Derived.ChangeMaps5
import Derived.Laws.FloatBits
import Ieee.Arith
set_option linter.all false
section
namespace TwW.Rw
open Go Tw TwW Go.ChangeShapes Go.WideShapes Go.ChangeAt Go.RowKit Go.Deep Go.Proofs.Tryz Go.Proofs.YtdlkodiemlmmiaaGreatDoor
noncomputable abbrev wV (os:Os)(args:Array Value):World:=(P2 os).forCall (λ_ _=>0) ⟨#[],args,[]⟩
def AFj (P:Program)(w:World)(g:Nat):Bool:=
 match ((begin P (λ_ _=>0) default).world.heap[g]?).bind Obj.row? with
 | none=>true
 | some (zero,t)=>
  match w.heap[g]? with
  | some (.cells cs G frozen)=>decide (G=t)&&decide (frozen=(0,0))&&cs.size==zero.size&&(!P.buildable t||Row.okRefB P w t cs)
  | _=>false
theorem ABx {P:Program}{w:World}(h:∀g,g<P.globals.size->AFj P w g=true):w.variablesRefB P=true:=
 Ajt.2 λg G=>h g (AkS.1 G)
theorem pP {P:Program}{w:World}{t e:TypeId}{cs:Array Value}{n:Nat}(gZ:P.cellTypes P.depth t=some (List.replicate n e))(hs:cs.size=n)(Kr:(cs.toList.all λv=>Cell.okRefB P w e v)=true):Row.okRefB P w t cs=true:=by
 unfold Row.okRefB;rw[gZ];simp only[List.length_replicate,hs,Nat.mod_self,AjD,AlX,Ajt,AkS,true_and];intro i hi;have G:i<cs.size:=by omega
 rw[AkN G,Nat.mod_eq_of_lt hi,List.getElem?_replicate,Aiy hi];exact Ajt.1 Kr _ (by simp)
theorem sq {P:Program}{w:World}{g n:Nat}{t e:TypeId}{cs:Array Value}(G:(((begin P (λ_ _=>0) default).world.heap[g]?).bind Obj.row?).map (λx=>(x.1.size,x.2))=some (n,t))(h1:w.heap[g]?=some (.cells cs t (0,0)))(hs:cs.size=n)(gZ:P.cellTypes P.depth t=some (List.replicate n e))(Kr:(cs.toList.all λv=>Cell.okRefB P w e v)=true):AFj P w g=true:=by
 unfold AFj;cases hb:((begin P (λ_ _=>0) default).world.heap[g]?).bind Obj.row? with
 | none=>rfl
 | some x=>
  obtain⟨zero,t'⟩:=x;rw[hb]at G;simp only[Aju,Ai9,Ajs]at G;obtain⟨h2,rfl⟩:=G;simp only[h1,pP gZ hs Kr,hs,h2];simp
set_option maxRecDepth 1000000
theorem AT5 (os:Os){args:Array Value}:((List.range 17).all λg=>(g==10||g==11)||AFj prog (wV os args) g)=true:=by kernel_rfl
theorem Aai (os:Os){args:Array Value}:(wV os args).heap[10]?=some (.cells (fl2 Rows.laid_internal_strconv_pow10Tab).toArray 391 (0,0)):=by kernel_rfl
theorem Aaj (os:Os){args:Array Value}:(wV os args).heap[11]?=some (.cells (wH Rows.laid_unicode_utf8_first).toArray 400 (0,0)):=by kernel_rfl
theorem z10:(((begin prog (λ_ _=>0) default).world.heap[10]?).bind Obj.row?).map (λx=>(x.1.size,x.2))=some (1392,391):=by kernel_rfl
theorem z11:(((begin prog (λ_ _=>0) default).world.heap[11]?).bind Obj.row?).map (λx=>(x.1.size,x.2))=some (256,400):=by kernel_rfl
theorem t10:prog.cellTypes prog.depth 391=some (List.replicate 1392 27):=by kernel_rfl
theorem t11:prog.cellTypes prog.depth 400=some (List.replicate 256 5):=by kernel_rfl
theorem s10:(fl2 Rows.laid_internal_strconv_pow10Tab).toArray.size=1392:=by kernel_rfl
theorem s11:(wH Rows.laid_unicode_utf8_first).toArray.size=256:=by kernel_rfl
theorem oO (os:Os){args:Array Value}:((fl2 Rows.laid_internal_strconv_pow10Tab).toArray.toList.all λv=>Cell.okRefB prog (wV os args) 27 v)=true:=by kernel_rfl
theorem a11 (os:Os){args:Array Value}:((wH Rows.laid_unicode_utf8_first).toArray.toList.all λv=>Cell.okRefB prog (wV os args) 5 v)=true:=by kernel_rfl
theorem Aak (os:Os){args:Array Value}:(wV os args).variablesRefB prog=true:=ABx λg hg=>by
 by_cases MK:g=10
 .subst MK;exact sq z10 (Aai os) s10 t10 (oO os)
 by_cases G:g=11
 .subst G;exact sq z11 (Aaj os) s11 t11 (a11 os)
 have h17:g<17:=hg;have:=Ajt.1 (AT5 os (args:=args)) g (AkS.2 h17);simpa[MK,G] using this
end TwW.Rw
end
section
namespace gy
open Go Go.MapKept Tw
variable [GF]
section
variable {P:Program}{Z2:Hp}{ik:IntKind}
class MpJ (P:Program)(T:TypeId)(ik:outParam IntKind)(K V:outParam TypeId):Prop where
 Us:P.underlying T=some (.map K V)
 key:P.underlying K=some (.int ik)
def Ay (ik:IntKind)(Z2:Hp)(b:Nat)(l:List MapEntry)(clock:Nat):Prop:=Z2 b=some (.map l.toArray clock)/\Stamped l.toArray clock/\∀x∈l,IsKey (.int ik) x.key
theorem Ay.loc {Z2 Z':Hp}{b:Nat}{l:List MapEntry}{clock:Nat}(h:Ay ik Z2 b l clock)(G:Z' b=Z2 b):Ay ik Z' b l clock:=⟨G.trans h.1,h.2⟩
theorem Ay.nodup {Z2:Hp}{b:Nat}{l:List MapEntry}{clock:Nat}(h:Ay ik Z2 b l clock):(l.map (·.key)).Nodup:=h.2.1.2.2
theorem Ay.AIN {Z2:Hp}{b:Nat}{l:List MapEntry}{clock:Nat}(h:Ay ik Z2 b l clock):(l.map (·.born)).Nodup:=h.2.1.2.1
theorem C7 {s:Int}{l:List MapEntry}(hk:∀x∈l,IsKey (.int ik) x.key):
  (Instr.findNow (.int ik) (.int ik s) l 0=some none/\∀x∈l,x.key≠.int ik s)\/∃G e l2,l=G++e::l2/\e.key=.int ik s/\Instr.findNow (.int ik) (.int ik s) l 0=some (some (G.length,e.val)):=by
 rcases findNow_spec (d:=.int ik) (k:=.int ik s) rfl l 0 hk with h|⟨j,e,h1,h2,h3⟩
 .exact .inl h
 .obtain⟨hj,rfl⟩:=Ai0.1 h2;refine .inr ⟨l.take j,l[j],l.drop (j+1),?_,h3,?_⟩
  .rw[Ak2,Aj4]
  .rw[h1];simp[AlC (AmX hj)]
section
variable {T K V ty:TypeId}{b clock:Nat}{l:List MapEntry}{s:Int}
theorem Ay.fresh {b:Nat}{Z2:Hp}:Ay ik (Z2.set b (.map #[] 0)) b [] 0:=⟨Hp.AA _ _ _,stamped_empty 0,by simp⟩
theorem KY [t:MpJ P T ik K V](hm:Ay ik Z2 b l clock){z:Value}(hz:∀w,(zeroValue V).run P w=.ok z w){Q:Value->Prop}
  (h0:(∀x∈l,x.key≠.int ik s)->Q z) (h1:∀l1 e l2,l=l1++e::l2->e.key=.int ik s->Q e.val):∃v,Q v/\YF P (Instr.lookup T (.map (some b)) (.int ik s) false) Z2 v:=by
 rcases C7 (s:=s) hm.2.2 with ⟨G,hn⟩|⟨l1,e,l2,hl,he,G⟩
 .refine⟨z,h0 hn,λw hs=>?_⟩;have:=hs _ _ hm.1;simp[Instr.lookup,run_underlying t.Us,run_getObj_map this,run_checkKey t.key (k:=.int ik s) rfl,run_findKey t.key G,hz,Result.andThen]
 .refine⟨e.val,h1 l1 e l2 hl he,λw hs=>?_⟩;have:=hs _ _ hm.1;simp[Instr.lookup,run_underlying t.Us,run_getObj_map this,run_checkKey t.key (k:=.int ik s) rfl,run_findKey t.key G,Result.andThen]
theorem Li [t:MpJ P T ik K V](hm:Ay ik Z2 b l clock){z:Value}(hz:∀w,(zeroValue V).run P w=.ok z w){Φ:Value->Hp->Prop}
  (G:(∀x∈l,x.key≠.int ik s)->Φ z Z2) (h1:∀l1 e l2,l=l1++e::l2->e.key=.int ik s->Φ e.val Z2):AI P (Instr.lookup T (.map (some b)) (.int ik s) false) Z2 Φ:=by
 obtain⟨v,hq,hy⟩:=KY (T:=T) (K:=K) (s:=s) (Q:=λv=>Φ v Z2) hm hz G h1;exact AI.pu hy hq
theorem oQ [t:MpJ P T ik K V](hm:Ay ik Z2 b l clock):YF P (Builtin.len_ #[T] ty #[.map (some b)]) Z2 (.int .i64 l.length):=λw G=>by
 have:=G _ _ hm.1;simp[Builtin.len_,run_underlying t.Us,run_getObj_map this,goInt,Result.andThen]
abbrev Ky (ik:IntKind)(s:Int)(v:Value)(n:Nat):MapEntry:={ key:=.int ik s,val:=v,born:=n }
theorem FO [t:MpJ P T ik K V](hm:Ay ik Z2 b l clock){v:Value}{Φ:Unit->Hp->Prop}
  (h0:(∀x∈l,x.key≠.int ik s)->∀Z',Z'=Z2.set b (.map (l++[Ky ik s v clock]).toArray (clock+1))->Ay ik Z' b (l++[Ky ik s v clock]) (clock+1)->Φ () Z')
  (h1:∀G e l2,l=G++e::l2->e.key=.int ik s->∀Z',Z'=Z2.set b (.map (G++Ky ik s v e.born::l2).toArray clock)->Ay ik Z' b (G++Ky ik s v e.born::l2) clock->Φ () Z') :
  AI P (Instr.mapUpdate T (.map (some b)) (.int ik s) v) Z2 Φ:=by
 obtain⟨hb,B9,hk⟩:=hm;rcases C7 (s:=s) hk with ⟨hf,hn⟩|⟨G,e,l2,hl,he,hf⟩
 .have UR:(l++[Ky ik s v clock]).toArray=l.toArray.push (Ky ik s v clock):=by simp
  refine AI.obj (v:=()) (o':=.map (l++[Ky ik s v clock]).toArray (clock+1)) hb (λw hs=>⟨w,.inl rfl,?_⟩) (h0 hn _ rfl ⟨Hp.AA _ _ _,?_,?_⟩)
  .have:=hs _ _ hb;rw[UR];simp only[Instr.mapUpdate,Sem.run_bind,run_underlying t.Us,run_getObj_map this,run_checkKey t.key (k:=.int ik s) rfl,run_findKey t.key hf,Result.andThen_ok];simp[setObj,Sem.run,this,ChangeMaps.setBlock]
  .rw[UR];exact stamped_push B9 (by simpa using hn)
  .intro x hx;rcases AjU.1 hx with hx|hx
   .exact hk x hx
   .rw[Ai2]at hx;subst hx;rfl
 .subst hl;have VC:(G++Ky ik s v e.born::l2).toArray=(G++e::l2).toArray.modify G.length (λe=>{ e with key:=.int ik s,val:=v }):=by
   rw[<-AjS];apply AkA
   intro j;simp only[Aje,AkW,Ak5];by_cases hj:G.length=j
   .subst hj;simp
   .rw[Aiw hj];rcases Aku j G.length with h|h
    .rw[AjV h,AjV h]
    .have:∃k,j=G.length+(k+1):=⟨j-G.length-1,by omega⟩;obtain⟨k,rfl⟩:=this;simp[Ajm]
  have TW:(G++e::l2).toArray[G.length]?=some e:=by simp
  refine AI.obj (v:=()) (o':=.map (G++Ky ik s v e.born::l2).toArray clock) hb (λw hs=>⟨w,.inl rfl,?_⟩) (h1 G e l2 rfl he _ rfl ⟨Hp.AA _ _ _,?_,?_⟩)
  .have:=hs _ _ hb;rw[VC];simp only[Instr.mapUpdate,Sem.run_bind,run_underlying t.Us,run_getObj_map this,run_checkKey t.key (k:=.int ik s) rfl,run_findKey t.key hf,Result.andThen_ok,TW,Aju,Ak6,he,
    run_keyThatStays (d:=.int ik) (k:=.int ik s) rfl]
   simp[setObj,Sem.run,this,ChangeMaps.setBlock]
  .rw[VC];exact stamped_modify B9 _ _ (λ_ _=>rfl) (λe' _ VD=>by rw[TW]at VD;cases VD;exact he.symm)
  .intro x hx;rcases AjU.1 hx with hx|hx
   .exact hk x (AkI _ hx)
   .rcases Ai1.1 hx with rfl|hx
    .rfl
    .exact hk x (Ak4 _ (Aiz _ hx))
theorem Ps [t:MpJ P T ik K V](hm:Ay ik Z2 b l clock){Φ:Value->Hp->Prop}(h:∀i o,Z2 i=none->Ix (Z2.set i o) i b l l clock->Φ (.pointer (some ⟨i,0,none⟩)) (Z2.set i o)):AI P (Instr.range T (.map (some b))) Z2 Φ:=
 AI.new (v:=λi=>.pointer (some ⟨i,0,none⟩)) (o:=.mapIter (some b) clock #[] clock) (λw G=>by
  have:=G _ _ hm.1;simp[Instr.range,run_underlying t.Us,run_getObj_map this,Result.andThen]) λi hi=>h i _ hi ⟨#[],clock,Hp.AA _ _ _,Ai7 _,by simp[leftOf,Akv.2]⟩
theorem KZ (hm:Ay ik Z2 b l clock){i:Nat}{L:List MapEntry}(hi:Ix Z2 i b l L clock){Φ:Value->Hp->Prop}
  (h0:L=[]->Φ (.tuple #[.bool false]) Z2)
  (h1:∀e∈L,e∈l->∀o,(∀O22,O22 i=some o->Ix O22 i b l (L.filter λx=>x.born != e.born) clock)->
   (∀O22,O22 i=some o->O22 b=Z2 b->∀{Ψ:Value->Hp->Prop},Ψ (.tuple #[e.key,e.val]) O22->AI P (Instr.entry (.pointer (some ⟨i,0,none⟩))) O22 Ψ)->Φ (.tuple #[.bool true,e.key,e.val]) (Z2.set i o)) :
  AI P (Instr.next (.pointer (some ⟨i,0,none⟩)) false ty) Z2 Φ:=by
 obtain⟨seen,c0,hi,hc,rfl⟩:=hi;obtain⟨hb,B9,G⟩:=hm;have hold:∀x∈l.toArray.toList,x.born<clock:=B9.1;intro w F hs hF;rcases run_next_at (P:=P) w ty i b clock c0 seen l.toArray clock (hs _ _ hi) (hs _ _ hb) hold hc with ⟨h,CD⟩|⟨e,he,w1,aj,CD⟩
 .exact⟨_,w,Z2,CD,h0 (AjL (by simpa using h)),hs,λk G=>⟨(hF k G).2,rfl⟩,.same rfl rfl rfl,rfl,Ai7 _⟩
 .have xQ:=(mem_left he).1;have h2:=h1 e he (by simpa using xQ) (.mapIter (some b) clock (seen.push e.born) clock) (λO22 hτ=>⟨_,_,hτ,Ai7 _,TY.symm⟩) (λO22 hτ AAx Ψ hΨ=>AI.pu (λw' Pb=>run_entry_at w' i b clock seen l.toArray clock e (Pb _ _ hτ) (Pb _ _ (AAx.trans hb)) xQ B9.2.1) hΨ);have Ax:i<w.heap.size:=(AjF.1 (hs _ _ hi)).1;have FA:w1.heap=w.heap:=by rcases aj with rfl|rfl<;>rfl
  refine⟨_,_,_,CD,h2,λk u G=>?_,λk G=>?_,?_,?_,?_⟩
  .simp only[ChangeMaps.setBlock,FA];by_cases FB:k=i
   .subst FB;rw[Hp.AA]at G;cases G;simp[Ax]
   .rw[Hp.AB FB]at G;simp[AjI FB,hs k u G]
  .have FB:k≠i:=λe=>by have:=(hF k G).2;rw[e,hi]at this;cases this
   refine⟨by rw[Hp.AB FB];exact(hF k G).2,?_⟩;simp[ChangeMaps.setBlock,FA,AjI FB]
  .rcases aj with rfl|rfl
   .exact .same rfl rfl rfl
   .exact⟨rfl,rfl,λ_=>⟨1,rfl⟩⟩
  .rcases aj with rfl|rfl<;>rfl
  .simp[ChangeMaps.setBlock,FA]
end
end
end gy
end
section
namespace TwW
open Go Go.MapKept Tw
variable [GF]
theorem iK {x:Int}(h:-1000<=x/\x<=1000):AL x:=by unfold AL;omega
theorem Az.left {Z2:Hp}{b o:Nat}{l m:List Value}(h:Az Z2 b o (l++m)):Az Z2 b o l:=by
 have:=Az.part (i:=0) (m:=l.length) h;simpa using this
def RX (ik:IntKind)(p:Int×Int):Value×Value:=(.int ik p.1,.I p.2)
def pQ (e:MapEntry):Value×Value:=(e.key,e.val)
def MZ (ik:IntKind)(Z2:Hp)(m:Nat)(L:List (Int×Int)):Prop:=∃(l:List MapEntry) (clock:Nat),gy.Ay ik Z2 m l clock/\l.map pQ=L.map (RX ik)
theorem MZ.loc {ik:IntKind}{Z2 Z':Hp}{m:Nat}{L:List (Int×Int)}(h:MZ ik Z2 m L)(G:Z' m=Z2 m):MZ ik Z' m L:=let ⟨l,c,h1,h2⟩:=h;⟨l,c,h1.loc G,h2⟩
theorem MZ.known {ik:IntKind}{Z2:Hp}{m:Nat}{L:List (Int×Int)}(h:MZ ik Z2 m L):Z2 m≠none:=let ⟨l,c,h1,h2⟩:=h;by rw[h1.1];simp
theorem MZ.fresh {ik:IntKind}{Z2:Hp}{m:Nat}:MZ ik (Z2.set m (.map #[] 0)) m []:=⟨[],0,gy.Ay.fresh,rfl⟩
def Gk (L:List (Int×Int))(k:Int):Option Int:=(L.find? λp=>decide (p.1=k)).map (·.2)
def JS:List (Int×Int)->Int->Int->List (Int×Int)
 | [],k,v=>[(k,v)]
 | p::L,k,v=>if p.1=k then(k,v)::L else p::JS L k v
theorem lE {G L2:List (Int×Int)}{k x v:Int}(h:∀a∈G,a.1≠k):JS (G++(k,x)::L2) k v=G++(k,v)::L2:=by
 induction G with
 | nil=>simp[JS]
 | cons a L ih=>
  simp only[Ajp,JS];rw[Aiw (h a (AjG ..)),ih λx hx=>h x (Aiz _ hx)]
theorem dI {L:List (Int×Int)}{k v:Int}(h:∀a∈L,a.1≠k):JS L k v=L++[(k,v)]:=by
 induction L with
 | nil=>rfl
 | cons a L ih=>
  simp only[Ajp,JS];rw[Aiw (h a (AjG ..)),ih λx G=>h x (Aiz _ G)]
theorem dJ {G L2:List (Int×Int)}{k x:Int}(h:∀a∈G,a.1≠k):Gk (G++(k,x)::L2) k=some x:=by
 unfold Gk;rw[List.find?_append,Alq.2 (by simpa using h)];simp
theorem pR {L:List (Int×Int)}{k:Int}(h:∀a∈L,a.1≠k):Gk L k=none:=by
 unfold Gk;rw[Alq.2 (by simpa using h)];rfl
theorem ft {ik:IntKind}{l:List MapEntry}{L:List (Int×Int)}{k:Int}(he:l.map pQ=L.map (RX ik))(G:∀x∈l,x.key≠.int ik k):∀a∈L,a.1≠k:=λa ha hk=>by
 have h1:RX ik a∈l.map pQ:=by rw[he];exact AlA ha
 obtain⟨x,hx,e⟩:=Ajf.1 h1;refine G x hx ?_;have:=Ai8 Prod.fst e;simpa[pQ,RX,hk] using this
theorem lF {ik:IntKind}{l1 l2:List MapEntry}{e:MapEntry}{L:List (Int×Int)}{k:Int}(hn:((l1++e::l2).map (·.key)).Nodup)(he:(l1++e::l2).map pQ=L.map (RX ik))(hk:e.key=.int ik k):
  ∃G x L2,L=G++(k,x)::L2/\l1.map pQ=G.map (RX ik)/\e.val=.I x/\l2.map pQ=L2.map (RX ik)/\∀a∈G,a.1≠k:=by
 rw[AjP,AjR]at he;obtain⟨G,L',rfl,h1,h2⟩:=List.map_eq_append_iff.1 he.symm;obtain⟨p,L2,rfl,h3,h4⟩:=List.map_eq_cons_iff.1 h2;obtain⟨pk,px⟩:=p;have e1:pk=k:=by
  have:=Ai8 Prod.fst h3;simp only[RX,pQ,hk,Value.int.injEq,true_and]at this;exact this
 have e2:e.val=.I px:=by
  have:=Ai8 Prod.snd h3;simpa[RX,pQ] using this.symm
 subst e1;refine⟨G,px,L2,rfl,h1.symm,e2,h4.symm,?_⟩;refine ft h1.symm λx hx aq=>?_;rw[AjP,AjR,Aks]at hn;exact hn.2.2 _ (AlA hx) _ (AjG ..) (by rw[aq,hk])
section
variable {P:Program}{ik:IntKind}{T K V:TypeId}{Z2:Hp}{m:Nat}{L:List (Int×Int)}{k:Int}
def AFk (two:Bool)(v:Value)(b:Bool):Value:=if two then .tuple #[v,.bool b] else v
theorem MZ.look [t:gy.MpJ P T ik K V]{two:Bool}(h:MZ ik Z2 m L)(hz:∀w,(zeroValue V).run P w=.ok (.I 0) w){Φ:Value->Hp->Prop}
  (h0:Gk L k=none->Φ (AFk two (.I 0) false) Z2) (h1:∀x,Gk L k=some x->Φ (AFk two (.I x) true) Z2):AI P (Instr.lookup T (.map (some m)) (.int ik k) two) Z2 Φ:=by
 obtain⟨l,c,hm,he⟩:=h;rcases gy.C7 (s:=k) hm.2.2 with ⟨hf,G⟩|⟨l1,e,l2,rfl,hk,hf⟩
 .refine AI.pu (λw hs=>?_) (h0 (pR (ft he G)));have:=hs _ _ hm.1;cases two<;>simp[AFk,Instr.lookup,run_underlying t.Us,run_getObj_map this,run_checkKey t.key (k:=.int ik k) rfl,run_findKey t.key hf,hz,Result.andThen]
 .obtain⟨L1,x,L2,rfl,_,hv,_,G⟩:=lF hm.nodup he hk;refine AI.pu (λw hs=>?_) (h1 x (dJ G));have:=hs _ _ hm.1;cases two<;>simp[AFk,Instr.lookup,run_underlying t.Us,run_getObj_map this,run_checkKey t.key (k:=.int ik k) rfl,run_findKey t.key hf,Result.andThen,hv]
theorem MZ.put [t:gy.MpJ P T ik K V]{v:Int}(h:MZ ik Z2 m L){Φ:Unit->Hp->Prop}(hΦ:∀o,(∀O22,O22 m=some o->MZ ik O22 m (JS L k v))->Φ () (Z2.set m o)):AI P (Instr.mapUpdate T (.map (some m)) (.int ik k) (.I v)) Z2 Φ:=by
 obtain⟨l,c,hm,he⟩:=h;refine gy.FO hm (λAZ Z' G mJ=>?_) λl1 e l2 hl hk Z' G mJ=>?_
 .subst G;refine hΦ _ λO22 hτ=>⟨_,_,mJ.loc (hτ.trans (Hp.AA _ _ _).symm),?_⟩;rw[dI (ft he AZ),AjP,AjP,he];rfl
 .subst G hl;obtain⟨L1,x,L2,rfl,h1,hv,h2,AZ⟩:=lF hm.nodup he hk;refine hΦ _ λO22 hτ=>⟨_,_,mJ.loc (hτ.trans (Hp.AA _ _ _).symm),?_⟩;rw[lE AZ,AjP,AjP,AjR,AjR,h1,h2];rfl
end
def QW (L:List (Int×Int)):Nat:=L.countP λp=>decide (0<p.2)
def YZ (e:MapEntry):Bool:=match e.val with
 | .int _ x=>decide (0<x)
 | _=>false
theorem pos_eq {ik:IntKind}:∀{l:List MapEntry} {L:List (Int×Int)},l.map pQ=L.map (RX ik)->l.countP YZ=QW L
 | [],[],_=>rfl
 | [],_::_,h=>by simp at h
 | _::_,[],h=>by simp at h
 | e::l,p::L,h=>by
  simp only[AjR,Aky]at h;have G:YZ e=decide (0<p.2):=by
   have:=Ai8 Prod.snd h.1;simp only[pQ,RX]at this;unfold YZ;rw[this]
  have:=pos_eq (l:=l) (L:=L) h.2;unfold QW at this ⊢;rw[Ak8,Ak8,G,this]
omit [GF] in
theorem I6 {p:MapEntry->Bool}:∀{L:List MapEntry} {e:MapEntry},(L.map (·.born)).Nodup->e∈L->L.countP p=(L.filter λx=>x.born != e.born).countP p+(if p e then 1 else 0)
 | a::L,e,G,he=>by
  have MQ:=G;rw[AjR,Aj0]at G;rcases Ai1.1 he with rfl|he
  .rw[Aj6 (by simp),Ak8,Akv.2 λx hx=>?_];simp only[bne_iff_ne,ne_eq];exact λh=>G.1 (Ajf.2 ⟨x,hx,h⟩)
  .have Ad:(a.born != e.born)=true:=by
    simp only[bne_iff_ne,ne_eq];exact λh=>G.1 (Ajf.2 ⟨e,he,h.symm⟩)
   rw[Aj5 (by simpa using Ad),Ak8,Ak8,I6 G.2 he];omega
end TwW
end
section
namespace TwW
open Go Tw Go.Proofs.Tryz
structure Mem where
 id:Int
 state:Int
 C0:List Int
def QX (Z2:Hp)(vs:List Value)(m:Mem):Prop:=∃p n c,vs=[.I m.id,.I m.state,.slice p n c]/\Dc .u32 Z2 p n m.C0
theorem QX.mono:HA QX:=λ_ _ _ _ h ⟨p,n,c,hv,G⟩=>⟨p,n,c,hv,G.mono h⟩
abbrev RdM:=Af 3 QX
theorem RdM.at' {Z2:Hp}{p:Option Addr}{n i:Nat}{ms:List Mem}{m:Mem}(hr:RdM Z2 p n ms)(hx:ms[i]?=some m):
  ∃b o q k c,p=some ⟨b,o,none⟩/\Az Z2 b (o+i*3) [.I m.id,.I m.state,.slice q k c]/\Dc .u32 Z2 q k m.C0:=by
 obtain⟨b,o,vs,hp,⟨q,k,c,rfl,hq⟩,G⟩:=Af.idx hr hx;exact⟨b,o,q,k,c,hp,G,hq⟩
theorem ABz {a b:Int}{p:Option Addr}{n c:Nat}:FZ [.I a,.I b,.slice p n c]:=by
 intro u G;simp only[Ai1,AjK,Ajl]at G;rcases G with rfl|rfl|rfl<;>rfl
def MW (xs:List Int):Prop:=xs.Pairwise (· < ·)
instance (xs:List Int):Decidable (MW xs):=inferInstanceAs (Decidable (xs.Pairwise (· < ·)))
theorem pS {xs:List Int}{k:Nat}{y:Int}(G:0<k)(hy:xs[k-1]?=some y):xs.take k=xs.take (k-1)++[y]:=by
 have:=AR hy;rwa[Nat.sub_add_cancel G]at this
theorem To {xs:List Int}{k:Nat}{x y:Int}(hk:0<k)(hy:xs[k-1]?=some y)(hx:xs[k]?=some x)(h:MW (xs.take k))(hl:y<x):MW (xs.take (k+1)):=by
 unfold MW at *;rw[AR hx,Akt];refine⟨h,by simp,λa G b hb=>?_⟩;simp only[Ai2]at hb;subst hb;rw[pS hk hy]at G h;rw[Akt]at h;simp only[AjU,Ai2]at G;rcases G with G|rfl
 .have:=h.2.2 a G y (by simp);omega
 .exact hl
theorem Ya {xs:List Int}{k:Nat}{x y:Int}(hk:0<k)(hy:xs[k-1]?=some y)(G:xs[k]?=some x)(hl:x<=y):¬MW xs:=λh=>by
 have h1:=(Ajx.1 h) (k-1) k (Ai0.1 hy).1 (Ai0.1 G).1 (by omega);rw[(Ai0.1 hy).2,(Ai0.1 G).2]at h1;omega
theorem Lt {xs:List Int}(h:xs.length<=1):MW xs:=by
 match xs,h with
 | [],_=>simp[MW]
 | [x],_=>simp[MW]
theorem fu {R:Rr}{Z2:Hp}{p:Option Addr}{n c:Nat}{xs:List Int}(G:Dc .u32 Z2 p n xs)(h:R (.returned (.bool (decide (MW xs)))) Z2):
  Spec prog 56 #[.slice p n c] Z2 R:=by
 refine CZ.start ?_
 suffices H:∀d k:Nat,n-k=d->0<k->MW (xs.take k)->CZ.FV R p n c k Z2 from H (n-1) 1 rfl (by omega) (Lt (by simp;omega))
 intro d
 induction d with
 | zero=>
  intro k hd hk AZ;refine CZ.A9 ⟨λAx=>by omega,λ_=>?_⟩;rw[Ai4 (by rw[G.1];omega)]at AZ;simpa[AZ] using h
 | succ d ih=>
  intro k hd hk AZ;refine CZ.A9 ⟨λAx=>?_,λTW=>by omega⟩;have C8:k<n:=by omega
  obtain⟨x,hx⟩:=G.ex C8;obtain⟨y,hy⟩:=G.ex (k:=k-1) (by omega);obtain⟨b,o,rfl,hl⟩:=G.at hx;obtain⟨b',o',he,Q7⟩:=G.at hy;cases he;have e:((k:Int)-1)=((k-1:Nat):Int):=by omega
  have hb:=G.big;refine⟨b,o,rfl,by omega,x,by simpa using hl,by unfold AL;omega,by omega,y,by rw[e];simpa using Q7,λhle=>?_,λhgt=>⟨AO C8 G.big,ih (k+1) (by omega) (by omega) (To hk hy hx AZ (by omega))⟩⟩;simpa[Ya hk hy hx hle] using h
theorem fw {R:Rr}{Z2:Hp}{p:Option Addr}{n c:Nat}{xs:List Int}(G:Dc .i64 Z2 p n xs)(h:R (.returned (.bool (decide (MW xs)))) Z2):
  Spec prog 57 #[.slice p n c] Z2 R:=by
 refine Dp.start ?_
 suffices H:∀d k:Nat,n-k=d->0<k->MW (xs.take k)->Dp.FV R p n c k Z2 from H (n-1) 1 rfl (by omega) (Lt (by simp;omega))
 intro d
 induction d with
 | zero=>
  intro k hd hk AZ;refine Dp.A9 ⟨λAx=>by omega,λ_=>?_⟩;rw[Ai4 (by rw[G.1];omega)]at AZ;simpa[AZ] using h
 | succ d ih=>
  intro k hd hk AZ;refine Dp.A9 ⟨λAx=>?_,λTW=>by omega⟩;have C8:k<n:=by omega
  obtain⟨x,hx⟩:=G.ex C8;obtain⟨y,hy⟩:=G.ex (k:=k-1) (by omega);obtain⟨b,o,rfl,hl⟩:=G.at hx;obtain⟨b',o',he,Q7⟩:=G.at hy;cases he;have e:((k:Int)-1)=((k-1:Nat):Int):=by omega
  have hb:=G.big;refine⟨b,o,rfl,by omega,x,by simpa using hl,by unfold AL;omega,by omega,y,by rw[e];simpa using Q7,λhle=>?_,λhgt=>⟨AO C8 G.big,ih (k+1) (by omega) (by omega) (To hk hy hx AZ (by omega))⟩⟩;simpa[Ya hk hy hx hle] using h
def OkM (m:Mem):Prop:=0<=m.id/\m.id<16/\1<=m.state/\m.state<=3/\1<=m.C0.length/\m.C0.length<=64/\MW m.C0
instance (m:Mem):Decidable (OkM m):=by unfold OkM;infer_instance
def ids (ms:List Mem):List Int:=ms.map Mem.id
def OkR (ms:List Mem):Prop:=(∀m∈ms,OkM m)/\MW (ids ms)
instance (ms:List Mem):Decidable (OkR ms):=by unfold OkR;infer_instance
def AB0 (ms:List Mem):Int:=if OkR ms then 0 else 130
theorem lG {R:Rr}{Z2:Hp}{x:Int}(h:R (.returned (.bool (decide (0<=x/\x<16)))) Z2):Spec prog 55 #[.I x] Z2 R:=by
 refine rz.start ⟨λG=>by simpa[G] using h,λG=>by simpa[G] using h⟩
def fx (ms:List Mem):Prop:=ms.length<=3518437208883/\∀m∈ms,m.C0.length<=35184372088832
theorem PK {R:Rr}{Z2:Hp}{e:Int}{p:Option Addr}{n c:Nat}{ms:List Mem}(hr:RdM Z2 p n ms)(hs:fx ms)(h:R (.returned (.I (AB0 ms))) Z2):
  Spec prog 26 #[.agg #[.U e,.slice p n c]] Z2 R:=by
 refine Spec.drop (Ir.start ?_);have hlen:n<=3518437208883:=by have:=hs.1;have:=hr.1;omega
 have bad:¬OkR ms->∀Z',Ext Z2 Z'->Drop R (.returned (.I 130)) Z':=λhn Z' hx=>.mk hx (by simpa[AB0,hn] using h)
 suffices H:∀d k:Nat,∀p3 c3 Z',n-k=d->k<=n->(∀m∈ms.take k,OkM m)->Ext Z2 Z'->DS .i64 (Z2.new Z') p3 k c3 (ids (ms.take k))->Ir.A0 (Drop R) p3 k c3 p n c n k Z' from λ_=>H n 0 _ _ _ rfl (by omega) (by simp) (.refl Z2) DS.nil
 intro d
 induction d with
 | zero=>
  intro k p3 c3 Z' hd hk ho hx CR;refine Ir.AX ⟨λAx=>by omega,λ_=>fw (CR.rd.mono (Ext.CX Z2 Z')) ⟨_,rfl,?_,?_⟩⟩
  all_goals rw[Ai4 (by rw[hr.1];omega)]at ho ⊢
  .intro hf;exact bad (λG=>by simp[G.2]at hf) _ hx
  .intro ht;have:OkR ms:=⟨ho,by simpa using ht⟩;exact .mk hx (by simpa[AB0,this] using h)
 | succ d ih=>
  intro k p3 c3 Z' hd hk ho hx CR;refine Ir.AX ⟨λAx=>?_,λTW=>by omega⟩;have C8:k<n:=by omega
  obtain⟨m,hm⟩:=hr.ex C8;obtain⟨b,o,q,j,c',rfl,hl,ht⟩:=hr.at' hm;have VK:m∈ms:=Ai6 hm;have hlj:=ht.1;refine⟨b,o,rfl,by omega,m.id,m.state,q,j,c',by simpa using hl.mono hx,λ_ UE Aal=>?_⟩;refine DS.Ey hx CR (by omega) (λp' c2 Z22 Bq Aw _=>⟨p',k+1,c2,rfl,lG ⟨_,rfl,?_,?_⟩⟩) Aal
  .intro hf;exact bad (λG=>by have:=G.1 m VK;simp[OkM]at this hf;omega) _ Aw
  intro ht1;refine⟨λh1=>bad (λG=>by have:=G.1 m VK;simp[OkM]at this;omega) _ Aw,λh1=>⟨λh2=>bad (λG=>by have:=G.1 m VK;simp[OkM]at this;omega) _ Aw,λh2=>⟨λh3=>bad (λG=>by have:=G.1 m VK;simp[OkM]at this;omega) _ Aw,λh3=>⟨λh4=>bad (λG=>by have:=G.1 m VK;simp[OkM]at this;omega) _ Aw,λh4=>?_⟩⟩⟩⟩;refine fu (ht.mono Aw) ⟨_,rfl,λhf=>bad (λG=>by have:=G.1 m VK;simp[OkM]at this hf;exact hf this.2.2.2.2.2.2) _ Aw,λhri=>⟨AO C8 hr.big,ih (k+1) _ _ _ (by omega) (by omega) ?_ Aw ?_⟩⟩
  .intro m' mJ;rw[Alv,hm]at mJ;simp only[Option.toList,AjU,Ai2]at mJ;rcases mJ with mJ|rfl
   .exact ho m' mJ
   .simp at ht1 hri;exact⟨by omega,by omega,by omega,by omega,by omega,by omega,hri⟩
  .have:ids (ms.take (k+1))=ids (ms.take k)++[m.id]:=by simp[ids,Alv,hm]
   rw[this];exact Bq
end TwW
end
section
namespace TwW
open Go Tw Go.RowKit Go.Proofs.Tryz
variable {Z2:Hp}{R:Rr}
abbrev e4 (q:Option Addr)(e:Nat):List Value:=[.U 4,.I 0,.I 60,.I 0,.slice q 0 e,.I 0,.I 0]
theorem lH {v fl:Int}(hf:-1099511627776<=fl/\fl<=1099511627776)(h:R (.returned (.I 0)) Z2):Spec prog 41 #[.agg #[.U v,.I fl,.N]] Z2 R:=
 Be.start λb1=>⟨λG=>absurd G (by decide),λ_=>⟨λG=>by omega,λ_=>⟨λG=>by omega,λ_=>Be.EA ⟨λG=>absurd G (by decide),λ_=>h⟩⟩⟩⟩
theorem Aam {q:Option Addr}{e:Nat}(h:∀Z',Ext Z2 Z'->R (.B true) Z'):Spec prog 76 #[.agg (e4 q e).toArray] Z2 R:=by
 refine BQ.start λb1 b hb=>?_;have hx:=Ext.set (o:=.cells #[.I 0,.I 0,.I 0] 3 (0,0)) hb;have hl:∀k:Nat,k<3->Hp.ld (Z2.set b (.cells #[.I 0,.I 0,.I 0] 3 (0,0))) ⟨b,0+Int.toNat (k:Int)*1,none⟩=some (.I 0):=λk hk=>by
  refine AJ (Hp.AA _ _ _) ?_
  match k,hk with
  | 0,_=>rfl
  | 1,_=>rfl
  | 2,_=>rfl
 refine BQ.BG ⟨λ_=>⟨b,0,rfl,by decide,0,hl 0 (by decide),λG=>absurd G (by decide),λ_=>⟨λG=>absurd G (by decide),λ_=>⟨iK (by decide),?_⟩⟩⟩,λG=>absurd (by decide) G⟩;refine BQ.BG ⟨λ_=>⟨b,0,rfl,by decide,0,hl 1 (by decide),λG=>absurd G (by decide),λ_=>⟨λG=>absurd G (by decide),λ_=>⟨iK (by decide),?_⟩⟩⟩,λG=>absurd (by decide) G⟩;refine BQ.BG ⟨λ_=>⟨b,0,rfl,by decide,0,hl 2 (by decide),λG=>absurd G (by decide),λ_=>⟨λG=>absurd G (by decide),λ_=>⟨iK (by decide),?_⟩⟩⟩,λG=>absurd (by decide) G⟩;refine BQ.BG ⟨λG=>absurd G (by decide),λ_=>?_⟩;exact BQ.FY ⟨λG=>absurd G (by decide),λ_=>⟨λ_=>h _ hx,λG=>absurd (by decide) G⟩⟩
theorem lI {v fl:Int}{b o c:Nat}{q:Option Addr}{e:Nat}(hf:-1099511627776<=fl/\fl<=1099511627776)(hl:Az Z2 b o (e4 q e++[.bool false,.I 0]))(h:∀Z',Ext Z2 Z'->R (.returned (.I 0)) Z'):
  Spec prog 41 #[.agg #[.U v,.I fl,.slice (aD b o) 1 c]] Z2 R:=
 Be.start λb1=>⟨λG=>absurd G (by decide),λ_=>⟨λG=>by omega,λ_=>⟨λG=>by omega,λ_=>Be.EA ⟨λ_=>⟨b,o,rfl,by decide,_,_,_,_,_,_,_,_,_,_,_,by simpa using hl,λb4=>
  Aam λZ' hx=>⟨true,rfl,λG=>(by cases G),λ_=>⟨λG=>absurd G (by decide),λ_=>⟨λ_=>⟨λG=>absurd rfl G,λ_=>⟨iK (by decide),Be.EA ⟨λG=>absurd G (by decide),λ_=>h Z' hx⟩⟩⟩,λG=>by cases G⟩⟩⟩⟩,λG=>absurd (by decide) G⟩⟩⟩⟩
theorem sr {v fl:Int}(h:R (.returned (.agg #[.U v,.I fl,.N])) Z2):Spec prog 42 #[.agg #[.U v,.I fl,.N]] Z2 R:=
 C6.start λb1 b2 b3=>C6.Bk ⟨λG=>absurd G (by decide),λ_=>h⟩
theorem su {v fl:Int}{b o c:Nat}{q:Option Addr}{e:Nat}(hl:Az Z2 b o (e4 q e++[.bool false,.I 0]))
  (h:∀Z' b' o' c' q' e',Az Z' b' o' (e4 q' e'++[.bool false,.I 0])->Ext Z2 Z'->R (.returned (.agg #[.U v,.I fl,.slice (aD b' o') 1 c'])) Z') :
  Spec prog 42 #[.agg #[.U v,.I fl,.slice (aD b o) 1 c]] Z2 R:=by
 refine C6.start λb1 b2 b3=>C6.Bk ⟨λ_=>⟨b,o,rfl,by decide,_,_,_,_,_,_,_,_,_,_,_,by simpa using hl,λb5 U1 h15=>?_⟩,λhh=>absurd (by decide) hh⟩;refine P1 (cs:=[]) ⟨rfl,by omega,.inl rfl⟩ (λu hu=>by cases hu) (by decide) (λrF rG Z1 _ BS=>⟨_,_,_,rfl,λNA h25=>?_⟩) h15;refine Pc (Z0:=Z1) (n:=0) (m:=1) (cs:=[]) (ys:=[.U 4,.I 0,.I 60,.I 0,.slice rF 0 rG,.I 0,.I 0,.bool false,.I 0]) (.refl _) BH.nil rfl (λu hu=>?_) (by decide) (λmD mE G ho Aw _=>⟨_,_,_,rfl,iK (by decide),?_⟩) h25
 .simp only[Ai1,AjK,Ajl]at hu;rcases hu with rfl|rfl|rfl|rfl|rfl|rfl|rfl|rfl|rfl<;>rfl
 .refine C6.Bk ⟨λhh=>absurd hh (by decide),λ_=>?_⟩;obtain⟨_,_,h0|⟨b',o',rfl,Q7⟩⟩:=BH.rd ho
  .exact absurd h0 (by decide)
  .exact h G b' o' mE rF rG (Az.mono (l:=e4 rF rG++[.bool false,.I 0]) (Ext.CX Z1 G) Q7) (BS.trans Aw)
theorem AFl {v fl:Int}(hf:-1099511627776<=fl/\fl<=1099511627776)(h:R (.returned (.N)) Z2):Spec prog 53 #[.agg #[.U v,.I fl,.N]] Z2 R:=
 C5.start λb1=>lH hf ⟨_,rfl,λG=>absurd rfl G,λ_=>sr ⟨_,_,_,_,_,rfl,λb3=>By.start λb4=>By.AX ⟨λG=>absurd G (by decide),λ_=>
  ⟨_,_,_,rfl,C5.CC ⟨λG=>absurd G (by decide),λ_=>h⟩⟩⟩⟩⟩
theorem AFm {v fl:Int}{b o c:Nat}{q:Option Addr}{e:Nat}(hf:-1099511627776<=fl/\fl<=1099511627776)(hl:Az Z2 b o (e4 q e++[.bool false,.I 0]))
  (h:∀Z' b' o' c' q' e',Az Z' b' o' (e4 q' e')->Ext Z2 Z'->R (.returned (.slice (aD b' o') 1 c')) Z'):Spec prog 53 #[.agg #[.U v,.I fl,.slice (aD b o) 1 c]] Z2 R:=by
 refine C5.start λb1=>lI hf hl λZ1 BS=>⟨_,rfl,λG=>absurd rfl G,λ_=>su (hl.mono BS) λZ22 b2 o2 c2 q2 e2 fX Aw=>⟨_,_,_,_,_,rfl,λb3=>?_⟩⟩;refine By.start λb4=>By.AX ⟨λ_=>⟨b,o,rfl,by decide,_,_,_,_,_,_,_,_,_,_,_,by simpa using hl.mono (BS.trans Aw),λb5=>⟨λ_ KA h19=>?_,λG=>by cases G⟩⟩,λG=>absurd (by decide) G⟩;refine Pc (Z0:=Z22) (n:=0) (m:=1) (cs:=[]) (ys:=[.I 0]) (.refl _) BH.nil rfl (λu hu=>by simp only[Ai2]at hu;subst hu;rfl) (by decide) (λUH Ry Z3 ho B0 _=>⟨_,_,_,rfl,By.Eg ⟨iK (by decide),?_⟩⟩) h19;refine By.AX ⟨λG=>absurd G (by decide),λ_=>⟨_,_,_,rfl,?_⟩⟩;obtain⟨_,_,h0|⟨b7,o7,rfl,hl7,_⟩⟩:=BH.rd ho
 .exact absurd h0 (by decide)
 refine C5.CC ⟨λ_=>⟨b7,o7,rfl,by decide,0,by simpa using(Ext.CX Z22 Z3).ld hl7,b2,o2,rfl,by decide,_,_,_,_,_,_,_,_,_,by simpa using(Az.left fX).mono B0,λmF h26=>?_⟩,λG=>absurd (by decide) G⟩;refine Pc (Z0:=Z3) (n:=0) (m:=1) (cs:=[]) (ys:=[.U 4,.I 0,.I 60,.I 0,.slice q2 0 e2,.I 0,.I 0]) (.refl _) BH.nil rfl (λu hu=>?_) (by decide) (λp27 xK Z4 Iy KB _=>⟨_,_,_,rfl,iK (by decide),?_⟩) h26
 .simp only[Ai1,AjK,Ajl]at hu;rcases hu with rfl|rfl|rfl|rfl|rfl|rfl|rfl<;>rfl
 .refine C5.CC ⟨λG=>absurd G (by decide),λ_=>?_⟩;obtain⟨_,_,h0|⟨b',o',rfl,Q7⟩⟩:=BH.rd Iy
  .exact absurd h0 (by decide)
  .exact h Z4 b' o' xK q2 e2 (Az.mono (l:=e4 q2 e2) (Ext.CX Z3 Z4) Q7) (BS.trans (Aw.trans (B0.trans KB)))
structure En where
 id:Int
 min:Int
 max:Int
 lvl:Int
 src:List Int
 aI:Int
 aJ:Int
 gone:Bool
 at_:Int
abbrev meV (x:En)(p:Option Addr)(n c:Nat):List Value:=[.U x.id,.I x.min,.I x.max,.I x.lvl,.slice p n c,.I x.aI,.I x.aJ]
abbrev enV (x:En)(p:Option Addr)(n c:Nat):List Value:=[.U x.id,.I x.min,.I x.max,.I x.lvl,.slice p n c,.I x.aI,.I x.aJ,.bool x.gone,.I x.at_]
def Lu (Z2:Hp)(vs:List Value)(x:En):Prop:=∃p n c,vs=enV x p n c/\Dc .u64 Z2 p n x.src/\n<=4000000
def sv (Z2:Hp)(vs:List Value)(x:En):Prop:=∃p n c,vs=meV x p n c/\Dc .u64 Z2 p n x.src/\n<=4000000
theorem Lu.mono:HA Lu:=λ_ _ _ _ h ⟨p,n,c,hv,hr,G⟩=>⟨p,n,c,hv,hr.mono h,G⟩
theorem sv.mono:HA sv:=λ_ _ _ _ h ⟨p,n,c,hv,hr,G⟩=>⟨p,n,c,hv,hr.mono h,G⟩
theorem Lu.one (Z2:Hp)(vs:List Value)(x:En)(h:Lu Z2 vs x):FZ vs:=by
 obtain⟨p,n,c,rfl,_⟩:=h;intro u G;simp only[Ai1,AjK,Ajl]at G;rcases G with rfl|rfl|rfl|rfl|rfl|rfl|rfl|rfl|rfl<;>rfl
theorem sv.one (Z2:Hp)(vs:List Value)(x:En)(h:sv Z2 vs x):FZ vs:=by
 obtain⟨p,n,c,rfl,_⟩:=h;intro u G;simp only[Ai1,AjK,Ajl]at G;rcases G with rfl|rfl|rfl|rfl|rfl|rfl|rfl<;>rfl
theorem Lu.at {Z2:Hp}{p:Option Addr}{n i:Nat}{t:List En}{x:En}(hr:Af 9 Lu Z2 p n t)(hx:t[i]?=some x):∃b o q k c,p=some ⟨b,o,none⟩/\Az Z2 b (o+i*9) (enV x q k c)/\Dc .u64 Z2 q k x.src/\k<=4000000:=by
 obtain⟨b,o,vs,hp,⟨q,k,c,rfl,G,h2⟩,hl⟩:=Af.idx hr hx;exact⟨b,o,q,k,c,hp,hl,G,h2⟩
theorem sv.at {Z2:Hp}{p:Option Addr}{n i:Nat}{t:List En}{x:En}(hr:Af 7 sv Z2 p n t)(hx:t[i]?=some x):∃b o q k c,p=some ⟨b,o,none⟩/\Az Z2 b (o+i*7) (meV x q k c)/\Dc .u64 Z2 q k x.src/\k<=4000000:=by
 obtain⟨b,o,vs,hp,⟨q,k,c,rfl,G,h2⟩,hl⟩:=Af.idx hr hx;exact⟨b,o,q,k,c,hp,hl,G,h2⟩
abbrev inN (x:Int):Bool:=decide (0<=x)&&decide (x<=2147483647)
def lJ (x:En):Bool:=inN x.lvl&&inN x.aI&&inN x.aJ&&decide (MW x.src)&&decide (x.min<=x.max)&&decide (x.src.length<=64)
def preB:Option Int->Int->Bool
 | none,_=>true
 | some i,j=>decide (i<j)
def ixL:Option Int->List En->Bool
 | _,[]=>true
 | G,x::r=>lJ x&&preB G x.id&&(x.gone||decide (x.at_=0))&&ixL (some x.id) r
def I7 (fl:Int)(es:List En):Bool:=decide (es.length<=256)&&decide (-1099511627776<=fl)&&decide (fl<=1099511627776)&&ixL none es
section
variable {Z2:Hp}{R:Rr}
theorem AB2 {x:En}{p:Option Addr}{n c:Nat}(hr:Dc .u64 Z2 p n x.src)(hn:n<=4000000)(h:∀Z',Ext Z2 Z'->R (.returned (.bool (lJ x))) Z'):Spec prog 76 #[.agg (meV x p n c).toArray] Z2 R:=by
 have hl:x.src.length=n:=hr.1;refine BQ.start λb1 b hb=>?_;have hx:=Ext.set (o:=.cells #[.I x.lvl,.I x.aI,.I x.aJ] 3 (0,0)) hb;have G:=h _ hx;clear h
 change BQ.GG R x.id x.min x.max x.lvl p n c x.aI x.aJ (aD b 0) 3 3 3 0 (Z2.set b (.cells #[.I x.lvl,.I x.aI,.I x.aJ] 3 (0,0)))
 have gY:=hr.mono hx;have hL:∀(k:Nat) (v:Int),k<3->[x.lvl,x.aI,x.aJ][k]?=some v->Hp.ld (Z2.set b (.cells #[.I x.lvl,.I x.aI,.I x.aJ] 3 (0,0))) ⟨b,0+Int.toNat (k:Int)*1,none⟩=some (.I v):=λk v hk hv=>by
  refine AJ (Hp.AA _ _ _) ?_
  match k,hk,hv with
  | 0,_,hv=>cases hv;rfl
  | 1,_,hv=>cases hv;rfl
  | 2,_,hv=>cases hv;rfl
 generalize Z2.set b (.cells #[.I x.lvl,.I x.aI,.I x.aJ] 3 (0,0))=Z1 at hL G gY ⊢;have p31:(inN x.lvl&&inN x.aI&&inN x.aJ)=true->BQ.Fg R x.id x.min x.max x.lvl p n c x.aI x.aJ p n c (n:Int) 0 Z1:=λTz=>by
  have eM:lJ x=(decide (MW x.src)&&decide (x.min<=x.max)&&decide (x.src.length<=64)):=by unfold lJ;rw[Tz];rfl
  rw[eM] at G
  suffices H:∀d k:Nat,n-k=d->k<=n->MW (x.src.take k)->BQ.Fg R x.id x.min x.max x.lvl p n c x.aI x.aJ p n c (n:Int) (k:Int) Z1 from H n 0 rfl (AjB _) (Lt (by simp))
  intro d
  induction d with
  | zero=>
   intro k hd hk hs;rw[Ai4 (by omega)]at hs;rw[AjC hs,AkE] at G;refine BQ.FY ⟨λhh=>by omega,λ_=>⟨λhle=>?_,λhle=>?_⟩⟩
   .rw[AjC hle,AkE,hl] at G;have:decide ((n:Int)<=64)=decide (n<=64):=Aj2.2 (by omega);rw[this];exact G
   .rw[AjE (show ¬x.min<=x.max by omega),Aj8] at G;exact G
  | succ d ih=>
   intro k hd hk hs;have C8:k<n:=by omega
   obtain⟨u,hu⟩:=gY.ex C8;obtain⟨b1,o1,e1,Sx⟩:=gY.at hu;have next:MW (x.src.take (k+1))->AL ((k:Int)+1)/\BQ.Fg R x.id x.min x.max x.lvl p n c x.aI x.aJ p n c (n:Int) ((k:Int)+1) Z1:=λPb=>⟨by unfold AL;omega,by
    have:=ih (k+1) (by omega) (by omega) Pb;rw[show((k+1:Nat):Int)=(k:Int)+1 by omega]at this;exact this⟩
   subst e1;refine BQ.FY ⟨λ_=>⟨b1,o1,rfl,by unfold In;omega,u,by simpa using Sx,λHu=>⟨by unfold AL;omega,?_⟩,λhz=>next (Lt (by simp;omega))⟩,λhh=>by omega⟩;obtain⟨y,hy⟩:=gY.ex (k:=k-1) (by omega);obtain⟨b2,o2,e2,fX⟩:=gY.at hy;cases e2;refine⟨b1,o1,rfl,by unfold In;omega,y,?_,λhle=>?_,λhgt=>next (To (by omega) hy hu hs (by omega))⟩
   .rw[show Int.toNat ((k:Int)-1)=k-1 by omega];exact fX
   .rw[AjE (Ya (by omega) hy hu hle),Aj8,Aj8] at G;exact G
 have step:∀(k:Nat) (v:Int),k<3->[x.lvl,x.aI,x.aJ][k]?=some v->(inN v=false->lJ x=false)->(inN v=true->BQ.GG R x.id x.min x.max x.lvl p n c x.aI x.aJ (aD b 0) 3 3 3 ((k:Int)+1) Z1)->BQ.GG R x.id x.min x.max x.lvl p n c x.aI x.aJ (aD b 0) 3 3 3 (k:Int) Z1:=λk v hk hv AZ AB3=>by
  refine BQ.BG ⟨λ_=>⟨b,0,rfl,by unfold In;omega,v,hL k v hk hv,λAx=>?_,λTW=>⟨λhgt=>?_,λhle=>⟨by unfold AL;omega,AB3 (by unfold inN;rw[AjC (by omega),AjC (by omega)];rfl)⟩⟩⟩,λhh=>by omega⟩
  .have:=G;rw[AZ (by unfold inN;rw[AjE (by omega)];rfl)]at this;exact this
  .have:=G;rw[AZ (by unfold inN;rw[AjE (show ¬v<=2147483647 by omega),AkC])]at this;exact this
 have e0:BQ.GG R x.id x.min x.max x.lvl p n c x.aI x.aJ (aD b 0) 3 3 3 ((0:Nat):Int) Z1:=by
  refine step 0 x.lvl (by decide) rfl (λh0=>by unfold lJ;rw[h0];rfl) λh0=>?_;refine step 1 x.aI (by decide) rfl (λh1=>by unfold lJ;rw[h1,AkC];rfl) λh1=>?_;refine step 2 x.aJ (by decide) rfl (λh2=>by unfold lJ;rw[h2,AkC];rfl) λh2=>?_;exact BQ.BG ⟨λhh=>absurd hh (by decide),λ_=>p31 (by rw[h0,h1,h2];rfl)⟩
 exact e0
theorem Sf {v fl:Int}{p:Option Addr}{n c:Nat}{es:List En}(hr:Af 9 Lu Z2 p n es)(h:∀Z',Ext Z2 Z'->R (.returned (.I (if I7 fl es then 0 else 140))) Z'):
  Spec prog 41 #[.agg #[.U v,.I fl,.slice p n c]] Z2 R:=by
 have hl:es.length=n:=hr.1;have no:I7 fl es=false->∀Z',Ext Z2 Z'->R (.returned (.I 140)) Z':=λh0 Z' hx=>by
  have:=h Z' hx;rw[h0]at this;exact this
 refine Be.start λb1=>⟨λhh=>no (by unfold I7;rw[AjE (by omega)];rfl) Z2 (.refl Z2),λAgf=>⟨λhh=>no (by unfold I7;rw[AjE (show ¬ -1099511627776<=fl by omega),AkC];rfl) Z2 (.refl Z2),λhlo=>⟨λhh=>no (by unfold I7;rw[AjE (show ¬fl<=1099511627776 by omega),AkC];rfl) Z2 (.refl Z2),λhhi=>?_⟩⟩⟩;have eO:I7 fl es=ixL none es:=by unfold I7;rw[AjC (by omega),AjC (by omega),AjC (by omega)];rfl
 rw[eO]at h no
 suffices H:∀d k:Nat,∀Z1,Ext Z2 Z1->n-k=d->k<=n->ixL none es=ixL (if k=0 then none else(es[k-1]?).map En.id) (es.drop k)->Be.GQ R v fl p n c p n c (n:Int) (k:Int) Z1 from H n 0 Z2 (.refl Z2) rfl (AjB _) rfl
 intro d
 induction d with
 | zero=>
  intro k Z1 hx hd hk he;rw[AjW (by omega),ixL]at he;have:=h Z1 hx;rw[he]at this;exact Be.EA ⟨λhh=>by omega,λ_=>this⟩
 | succ d ih=>
  intro k Z1 hx hd hk he;have C8:k<n:=by omega
  have D7:=hr.mono Lu.mono hx;obtain⟨x,aq⟩:=D7.ex C8;obtain⟨b,o,q,j,c',rfl,DD,hs,hj⟩:=Lu.at D7 aq;rw[BZ aq,ixL]at he;refine Be.EA ⟨λ_=>⟨b,o,rfl,by unfold In;omega,_,_,_,_,_,_,_,_,_,_,_,by simpa using DD,λb4=>AB2 hs hj λG Aw=>⟨_,rfl,λhf=>?_,λht=>?_⟩⟩,λhh=>by omega⟩
  .exact no (by rw[he,hf];rfl) G (hx.trans Aw)
  rw[ht,AkE]at he;have last:∀g:Bool,g=true->ixL none es=(g&&(x.gone||decide (x.at_=0))&&ixL (some x.id) (es.drop (k+1)))->(x.gone=false->(x.at_≠0->R (.returned (.I 140)) G)/\(¬x.at_≠0->AL ((k:Int)+1)/\Be.GQ R v fl (aD b o) n c (aD b o) n c (n:Int) ((k:Int)+1) G))/\(x.gone=true->AL ((k:Int)+1)/\Be.GQ R v fl (aD b o) n c (aD b o) n c (n:Int) ((k:Int)+1) G):=λg hg hE=>by
   rw[hg,AkE]at hE;have next:(x.gone||decide (x.at_=0))=true->AL ((k:Int)+1)/\Be.GQ R v fl (aD b o) n c (aD b o) n c (n:Int) ((k:Int)+1) G:=λh1=>⟨by unfold AL;omega,by
    have:=ih (k+1) G (hx.trans Aw) (by omega) (by omega) (by
     rw[hE,h1,AkE,Aiw (by omega),Alr,aq];rfl)
    rw[show((k+1:Nat):Int)=(k:Int)+1 by omega]at this;exact this⟩
   refine⟨λhm=>⟨λha=>no (by rw[hE,hm,AjE ha];rfl) G (hx.trans Aw),λha=>next (by rw[AjC (AjZ.1 ha),Alg])⟩,λhm=>next (by rw[hm];rfl)⟩
  refine⟨λHu=>⟨by unfold AL;omega,?_⟩,λhz=>?_⟩
  .rw[Aiw (by omega)]at he;obtain⟨y,hy⟩:=D7.ex (k:=k-1) (by omega);obtain⟨b2,o2,q2,j2,c2,e2,ALE,_,_⟩:=Lu.at D7 hy;cases e2;rw[hy]at he;refine⟨b,o,rfl,by unfold In;omega,y.id,?_,λhle=>?_,λhgt=>last (decide (y.id<x.id)) (AjC (by omega)) he⟩
   .rw[show Int.toNat ((k:Int)-1)=k-1 by omega];exact(ALE.mono Aw).1
   .exact no (by rw[he];simp only[Aju,preB];rw[AjE (by omega)];rfl) G (hx.trans Aw)
  .rw[Aiy (by omega)]at he;exact last true rfl he
end
theorem F6.AT7 {k:IntKind}(Z2:Hp)(vs:List Value)(x:Int)(h:F6 k Z2 vs x):FZ vs:=by
 have h:vs=[.int k x]:=h;subst h;intro u G;rw[Ai2.1 G];rfl
def G9:Nat->List En->List Int
 | _,[]=>[]
 | k,x::r=>if x.gone then G9 (k+1) r else(k:Int)::G9 (k+1) r
theorem Yb:∀(es:List En) (k:Nat) (x:En),G9 k (es++[x])=G9 k es++(if x.gone then[] else[((k+es.length:Nat):Int)])
 | [],k,x=>by simp[G9]
 | y::es,k,x=>by
  rw[Ajp,G9,G9,Yb es (k+1) x];rw[show k+1+es.length=k+(y::es).length by rw[Aix];omega];split
  .rfl
  .rfl
abbrev wN (es:List En):List En:=es.filter λx=>!x.gone
theorem Yc:∀(es:List En) (d j:Nat) (k:Int),(G9 d es)[j]?=some k->∃(i:Nat) (x:En),k=((d+i:Nat):Int)/\es[i]?=some x/\(wN es)[j]?=some x
 | [],d,j,k,h=>by simp[G9]at h
 | y::es,d,j,k,h=>by
  rw[G9]at h;by_cases G:y.gone=true
  .rw[Aiy G]at h;obtain⟨i,x,h1,h2,h3⟩:=Yc es (d+1) j k h;refine⟨i+1,x,by rw[h1];congr 1;omega,h2,?_⟩;show((y::es).filter λx=>!x.gone)[j]?=some x
   rw[Aj6 (by rw[G];decide)];exact h3
  .rw[Aiw G]at h;have hy':y.gone=false:=by simpa using G
   have ef:wN (y::es)=y::wN es:=Aj5 (by rw[hy'];rfl);cases j with
   | zero=>
    simp at h;exact⟨0,y,by rw[<-h];rfl,rfl,by rw[ef];rfl⟩
   | succ j=>
    rw[Ajq]at h;obtain⟨i,x,h1,h2,h3⟩:=Yc es (d+1) j k h;exact⟨i+1,x,by rw[h1];congr 1;omega,h2,by rw[ef];exact h3⟩
theorem P3:∀(es:List En) (d:Nat),(G9 d es).length=(wN es).length
 | [],d=>rfl
 | y::es,d=>by
  rw[G9];by_cases G:y.gone=true
  .rw[Aiy G,P3 es (d+1)];show _=((y::es).filter λx=>!x.gone).length
   rw[Aj6 (by rw[G];decide)]
  .have hy':y.gone=false:=by simpa using G
   rw[Aiw G,Aix,P3 es (d+1)];show _=((y::es).filter λx=>!x.gone).length
   rw[Aj5 (by rw[hy'];rfl),Aix]
section
variable {Z2:Hp}{R:Rr}
theorem Ug {v fl:Int}{p:Option Addr}{n c:Nat}{es:List En}(hr:Af 9 Lu Z2 p n es)(hn:n<=4000000)(h:∀p' c' Z',AN 9 Lu Z2 Z' p' n c' es->R (.returned (.agg #[.U v,.I fl,.slice p' n c'])) Z'):
  Spec prog 42 #[.agg #[.U v,.I fl,.slice p n c]] Z2 R:=by
 have hl:es.length=n:=hr.1;refine C6.start λb1 b2 b3=>?_
 suffices H:∀d k:Nat,∀Z1 p3 c3,AN 9 Lu Z2 Z1 p3 k c3 (es.take k)->n-k=d->k<=n->C6.Dq R 0 0 none 0 0 v fl p3 k c3 p n c (n:Int) (k:Int) Z1 from H n 0 Z2 none 0 (AN.nil (.refl Z2)) rfl (AjB _)
 intro d
 induction d with
 | zero=>
  intro k Z1 p3 c3 G hd hk;obtain rfl:k=n:=by omega
  rw[Ai4 (by omega)]at G;exact C6.Bk ⟨λhh=>by omega,λ_=>h p3 c3 Z1 G⟩
 | succ d ih=>
  intro k Z1 p3 c3 G hd hk;have C8:k<n:=by omega
  obtain⟨x,hx⟩:=hr.ex C8;obtain⟨b,o,q,j,c',rfl,DD,hs,hj⟩:=Lu.at (hr.mono Lu.mono G.up) hx;refine C6.Bk ⟨λ_=>⟨b,o,rfl,by unfold In;omega,_,_,_,_,_,_,_,_,_,_,_,by simpa using DD,λb5 U1 h15=>?_⟩,λhh=>by omega⟩;refine P1 (Fj.of_map hs) FZ.Rm (by omega) (λrF rG Z22 Bq Aw=>⟨_,_,_,rfl,λNA h25=>?_⟩) h15;have hE:Lu (Z22.del p3) (enV x rF j rG) x:=⟨rF,j,rG,rfl,(DS.rd Bq).mono (G.new Aw),hj⟩;refine AN.Ey Lu.mono (G.mono Lu.mono Aw) rfl (Lu.one _ _ _ hE) hE (by omega) (λmD mE Z3 Dh _=>⟨_,_,_,rfl,by unfold AL;omega,?_⟩) h25;have:=ih (k+1) Z3 mD mE (by rw[AR hx];exact Dh) (by omega) (by omega);rw[show((k+1:Nat):Int)=(k:Int)+1 by omega]at this;exact this
theorem wO {v fl:Int}{p:Option Addr}{n c:Nat}{es:List En}(hr:Af 9 Lu Z2 p n es)(hn:n<=4000000)(h:∀p' m c' Z',Dc .i64 Z' p' m (G9 0 es)->Ext Z2 Z'->R (.returned (.slice p' m c')) Z'):
  Spec prog 84 #[.agg #[.U v,.I fl,.slice p n c]] Z2 R:=by
 have hl:es.length=n:=hr.1;refine By.start λb1=>?_
 suffices H:∀d k:Nat,∀Z1 p3 m c3,AN 1 (F6 .i64) Z2 Z1 p3 m c3 (G9 0 (es.take k))->m<=k->n-k=d->k<=n->By.A0 R p3 m c3 p n c (n:Int) (k:Int) Z1 from H n 0 Z2 none 0 0 (AN.nil (.refl Z2)) (Ai7 _) rfl (AjB _)
 intro d
 induction d with
 | zero=>
  intro k Z1 p3 m c3 ho hm hd hk;rw[Ai4 (by omega)]at ho;exact By.AX ⟨λhh=>by omega,λ_=>h p3 m c3 Z1 (ho.rd (F6.mono _)) ho.up⟩
 | succ d ih=>
  intro k Z1 p3 m c3 ho hm hd hk;have C8:k<n:=by omega
  obtain⟨x,hx⟩:=hr.ex C8;obtain⟨b,o,q,j,c',rfl,DD,hs,hj⟩:=Lu.at (hr.mono Lu.mono ho.up) hx;have next:∀G p2 m2 c2,AN 1 (F6 .i64) Z2 G p2 m2 c2 (G9 0 (es.take (k+1)))->m2<=k+1->By.Ii R p2 m2 c2 (aD b o) n c (n:Int) (k:Int) G:=λG p2 m2 c2 h2 h3=>by
   have:=ih (k+1) G p2 m2 c2 h2 h3 (by omega) (by omega);rw[show((k+1:Nat):Int)=(k:Int)+1 by omega]at this;exact By.Eg ⟨by unfold AL;omega,this⟩
  have es1:G9 0 (es.take (k+1))=G9 0 (es.take k)++(if x.gone then[] else[(k:Int)]):=by
   rw[AR hx,Yb];rw[show 0+(es.take k).length=k by rw[AjJ];omega]
  refine By.AX ⟨λ_=>⟨b,o,rfl,by unfold In;omega,_,_,_,_,_,_,_,_,_,_,_,by simpa using DD,λb5=>⟨λhg KA h19=>?_,λhg=>?_⟩⟩,λhh=>by omega⟩
  .rw[hg,Aiw (by decide)]at es1;have hE:F6 .i64 (Z1.del p3) [.I (k:Int)] (k:Int):=rfl;refine AN.Ey (F6.mono _) ho rfl (F6.AT7 _ _ _ hE) hE (by omega) (λUH Ry G Bq _=>⟨_,_,_,rfl,next G UH (m+1) Ry (by rw[es1];exact Bq) (by omega)⟩) h19
  .rw[hg,Aiy rfl,Aj1]at es1;exact next Z1 p3 m c3 (by rw[es1];exact ho) (by omega)
def Kh (fl:Int)(es:List En):List En:=if I7 fl es then wN es else[]
theorem lK {v fl:Int}{p:Option Addr}{n c:Nat}{es:List En}(hr:Af 9 Lu Z2 p n es)(hn:n<=4000000)(h:∀p' m c' Z',Af 7 sv Z' p' m (Kh fl es)->Ext Z2 Z'->R (.returned (.slice p' m c')) Z'):
  Spec prog 53 #[.agg #[.U v,.I fl,.slice p n c]] Z2 R:=by
 have hl:es.length=n:=hr.1;refine C5.start λb1=>Sf hr λZ1 BS=>⟨_,rfl,λAd=>?_,λheq=>?_⟩
 .have h0:I7 fl es=false:=by
   cases hh:I7 fl es with
   | false=>rfl
   | true=>rw[hh]at Ad;exact absurd rfl Ad
  have:=h none 0 0 Z1;unfold Kh at this;rw[h0]at this;exact this Af.nil BS
 have AW:I7 fl es=true:=by
  cases hh:I7 fl es with
  | true=>rfl
  | false=>rw[hh]at heq;exact absurd (by decide) heq
 unfold Kh at h;rw[AW,Aiy rfl]at h;refine Ug (hr.mono Lu.mono BS) hn λpc cc Z22 hoc=>⟨_,_,_,_,_,rfl,λb3=>wO (hr.mono Lu.mono (BS.trans hoc.up)) hn λpl m cl Z3 kt B0=>⟨_,_,_,rfl,?_⟩⟩;have hrc:=(hoc.rd Lu.mono).mono Lu.mono B0;have hml:(G9 0 es).length=m:=kt.1;have hmn:m<=n:=by
  rw[<-hml,P3];have:=Ajb (λx:En=>!x.gone) es;show((es.filter λx=>!x.gone)).length<=n
  omega
 have X3:Ext Z2 Z3:=BS.trans (hoc.up.trans B0)
 suffices H:∀d k:Nat,∀Z4 p4 c4,AN 7 sv Z3 Z4 p4 k c4 ((wN es).take k)->m-k=d->k<=m->C5.HG R v fl pc n cc p4 k c4 pl m cl (m:Int) (k:Int) Z4 from H m 0 Z3 none 0 (AN.nil (.refl Z3)) rfl (AjB _)
 intro d
 induction d with
 | zero=>
  intro k Z4 p4 c4 G hd hk;obtain rfl:k=m:=by omega
  rw[Ai4 (by rw[<-P3 es 0];omega)]at G;exact C5.CC ⟨λhh=>by omega,λ_=>h p4 k c4 Z4 (G.rd sv.mono) (X3.trans G.up)⟩
 | succ d ih=>
  intro k Z4 p4 c4 G hd hk;have C8:k<m:=by omega
  obtain⟨z,hz⟩:=kt.ex C8;obtain⟨i,x,h1,h2,h3⟩:=Yc es 0 k z hz;rw[Ajz]at h1;subst h1;obtain⟨b,o,rfl,hlz⟩:=(kt.mono G.up).at hz;have hi:i<n:=by rw[<-hl];exact(Ai0.1 h2).1
  obtain⟨bc,oc,q,j,c',rfl,DD,hs,hj⟩:=Lu.at hrc h2;refine C5.CC ⟨λ_=>⟨b,o,rfl,by unfold In;omega,_,by simpa using hlz,bc,oc,rfl,by unfold In;omega,_,_,_,_,_,_,_,_,_,by simpa using(Az.left (l:=meV x q j c') (m:=[.bool x.gone,.I x.at_]) DD).mono G.up,λmF h26=>?_⟩,λhh=>by omega⟩;have hE:sv (Z4.del p4) (meV x q j c') x:=⟨q,j,c',rfl,hs.mono G.2,hj⟩;refine AN.Ey sv.mono G rfl (sv.one _ _ _ hE) hE (by omega) (λp27 xK Z5 SO _=>⟨_,_,_,rfl,by unfold AL;omega,?_⟩) h26;have:=ih (k+1) Z5 p27 xK (by rw[AR h3];exact SO) (by omega) (by omega);rw[show((k+1:Nat):Int)=(k:Int)+1 by omega]at this;exact this
end
theorem tA:∀{T:List Nd} {st r:List Int},Ex T st=some r->∀n∈T,Ew n=true/\F0 Du n.mt=0
 | [],_,_,_,n,hn=>by cases hn
 | x::T,st,r,h,n,hn=>by
  rw[Ex]at h;by_cases G:(Bp x st).1=0
  .rw[Aiy G]at h;rcases Ai1.1 hn with rfl|hn
   .unfold Bp at G;by_cases h1:Ew n=false\/(st.length:Int)<n.parts
    .rw[Aiy h1]at G;exact absurd G (by show ¬(190:Int)=0;decide)
    .rw[Aiw h1]at G;by_cases h2:F0 Du n.mt≠0
     .rw[Aiy h2]at G;exact absurd G (by show ¬(193:Int)=0;decide)
     .exact⟨by cases hq:Ew n with
      | true=>rfl
      | false=>exact absurd (.inl hq) h1,AjZ.1 h2⟩
   .exact tA h n hn
  .rw[Aiw G]at h;cases h
theorem AIQ {n:Nd}(h:Ew n=true):(n.kind=2->0<=n.back/\n.back<=2147483647/\n.width=0)/\(n.kind=3->0<=n.back/\n.back<=2147483647/\0<=n.width/\n.width<=2147483647):=by
 have G:=I3 h;have hp:=Pz h;unfold G7 at G;unfold HR at hp;have hp:=AjA hp
 constructor
 .intro h2;rw[Aiw (by omega),Aiy h2]at G;have hw:=hp.2.2.2.1;unfold B8 at hw;rw[Aiw (by omega),Aiy h2]at hw;unfold MM at G;simp only[AjD,AjH]at G;exact⟨by omega,by omega,hw⟩
 .intro h3;rw[Aiw (by omega),Aiw (by omega),Aiy h3]at G;unfold MM at G;simp only[AjD,AjH]at G;omega
section
variable {Z2:Hp}{R:Rr}
end
def Uh:List Nd->List Int->Int
 | [],_=>0
 | n::t,st=>if(Bp n st).1=0 then Uh t (Bp n st).2 else(Bp n st).1
def fy (t:List Nd):Int:=if Uh t []≠0 then Uh t [] else if(HT t).isSome then 0 else 190
section
variable {Z2 Z' Z0:Hp}{R:Rr}
theorem dK {t:List Nd}(h:HT t=none):fy t≠0:=by
 unfold fy;by_cases G:Uh t []=0
 .rw[Aiw (by rw[G];simp),h];decide
 .rw[Aiy G];exact G
theorem lL {p:Option Addr}{n c:Nat}{t:List Nd}(hr:Af 10 H8 Z2 p n t)(hn:n<=1000000000)(hb:∀x∈t,x.text.size<=4611686018427387904)
  (h:∀k Z',HT t=some k->Ext Z2 Z'->R (.T #[.I k,.I 0,.I 0]) Z') (h':∀j Z',HT t=none->Ext Z2 Z'->R (.T #[.I 0,.I j,.I (fy t)]) Z') :
  Spec prog 24 #[.slice p n c] Z2 R:=by
 have hl:t.length=n:=hr.1;refine Cr.start λwb hwb=>?_
 suffices H:∀g k:Nat,∀r j e st Z',n-k=g->k<=n->j<=k->kU Z2 Z' wb r j e st->Ex t []=Ex (t.drop k) st->Uh t []=Uh (t.drop k) st->Cr.A0 R p n c (aD wb 0) p n c n k Z' from
  H n 0 none 0 0 [] _ rfl (AjB _) (Ai7 _) ⟨Hp.AA _ _ _,DS.nil,λa ha=>(by cases ha),hwb,.set hwb⟩ rfl rfl
 intro g
 induction g with
 | zero=>
  intro k r j e st Z' hg hk hj hW he hE;rw[AjW (by omega)]at he hE;have B9:st.length=j:=by have:=hW.own.1;simpa using this
  have ht:HT t=ABT t (some st):=by unfold HT;rw[he];rfl
  have bad:HT t=none->fy t=190:=λG=>by
   unfold fy;rw[Aiw (by rw[hE];simp[Uh]),G];rfl
  refine Cr.AX ⟨λAx=>by omega,λ_=>⟨wb,0,rfl,r,j,e,AJ hW.cell rfl,λh1=>?_,λh1=>⟨λSP=>?_,λia=>?_⟩⟩⟩
  .have G:HT t=none:=by
    rw[ht]
    match st,B9 with
    | [],_=>rfl
    | [_],B9=>simp at B9;omega
    | _::_::_,_=>rfl
   have:=h' ((n:Nat):Int) Z' G hW.ext;rw[bad G]at this;exact this
  .have G:HT t=none:=by
    rw[ht]
    match st,B9 with
    | [],_=>rfl
    | [_],B9=>exact Aiw (by omega)
    | _::_::_,_=>rfl
   have:=h' ((n:Nat):Int) Z' G hW.ext;rw[bad G]at this;exact this
  .have hj1:j=1:=by omega
   subst hj1
   match st,B9 with
   | [x],_=>
    obtain⟨b,o,rfl,DD⟩:=Dc.at (DS.rd hW.own) (i:=0) (x:=x) rfl;exact⟨_,1,e,AJ hW.cell rfl,b,o,rfl,by omega,x,by simpa using DD,h x Z' (by rw[ht];exact Aiy (by omega)) hW.ext⟩
 | succ g ih=>
  intro k r j e st Z' hg hk hj hW he hE;have C8:k<n:=by omega
  obtain⟨x,hx⟩:=hr.ex C8;obtain⟨b,o,p1,k1,c1,q1,m1,d1,rfl,DD,h1,h2⟩:=H8.at hr hx;rw[BZ hx,Ex]at he;rw[BZ hx,Uh]at hE;refine Cr.AX ⟨λ_=>⟨b,o,rfl,by omega,_,_,_,_,_,_,_,_,_,_,_,_,_,_,by simpa using DD.mono hW.ext,λ_=>?_⟩,λhh=>by omega⟩;refine dA hW h1 h2 (hb x (Ai6 hx)) (by omega) (λr' j' e' Z22 G hW2=>⟨0,rfl,λhh=>absurd rfl hh,λ_=>⟨AO C8 hr.big,ih (k+1) r' j' e' _ Z22 (by omega) (by omega) ?_ hW2 ?_ ?_⟩⟩) λZ22 G Aw=>⟨_,rfl,λ_=>?_,λhh=>absurd G hh⟩
  .have h3:=kV (n:=x) (st:=st);have h4:(Bp x st).2.length=j':=by have:=hW2.own.1;simpa using this
   have h5:st.length=j:=by have:=hW.own.1;simpa using this
   omega
  .rw[he,Aiy G]
  .rw[hE,Aiy G]
  .have e1:fy t=(Bp x st).1:=by
    unfold fy;rw[hE,Aiw G,Aiy G]
   have:=h' (k:Int) Z22 (by unfold HT;rw[he,Aiw G];rfl) Aw;rw[e1]at this;exact this
end
def Tp (G:Int)(x:Nd):Int:=if x.kind=2 then(if G<x.back+300 then x.back+300 else G) else if x.kind=3 then(if G<x.back+x.width then x.back+x.width else G) else G
def MX (T:List Nd):Int:=T.foldl Tp 0
theorem tB:∀(T:List Nd) (a:Int),(∀x∈T,Ew x=true)->0<=a->a<=4294967294->a<=T.foldl Tp a/\T.foldl Tp a<=4294967294
 | [],a,_,h0,G=>⟨Alm _,G⟩
 | x::T,a,hf,h0,G=>by
  obtain⟨n2,n3⟩:=AIQ (hf x (AjG ..));have e:a<=Tp a x/\Tp a x<=4294967294:=by
   unfold Tp;split
   .rename_i h;obtain⟨a1,a2,a3⟩:=n2 h;split<;>omega
   split
   .rename_i h;obtain⟨a1,a2,a3,a4⟩:=n3 h;split<;>omega
   .omega
  have:=tB T (Tp a x) (λy hy=>hf y (Aiz _ hy)) (by omega) e.2;rw[Akz];exact⟨by omega,this.2⟩
section
variable {Z2:Hp}{R:Rr}
theorem fz {p:Option Addr}{n c:Nat}{T:List Nd}{kk:Int}(hr:Af 10 H8 Z2 p n T)(hn:n<=1000000000)(htx:∀x∈T,x.text.size<=4611686018427387904)(hty:HT T=some kk)
  (h:∀x Z',0<=MX T->MX T<=4294967294->Ext Z2 Z'->R (.T #[.I (MX T),.I x]) Z'):Spec prog 66 #[.slice p n c] Z2 R:=by
 have hl:T.length=n:=hr.1;have hf:=tA (lA hty).1;refine A5.start (Lq hr hn htx (λk Z1 hk hx=>⟨_,_,_,rfl,λhh=>absurd rfl hh,λ_=>?_⟩) λk j e Z' hk=>by rw[hty]at hk;cases hk);have D7:=hr.mono H8.mono hx;have bd:∀i,0<=MX (T.take i)/\MX (T.take i)<=4294967294:=λi=>tB _ 0 (λx hx=>(hf x (Ak7 hx)).1) (Alm _) (by decide)
 suffices H:∀(g i:Nat) (x8:Int) (t9:Bool),n-i=g->i<=n->A5.HG R (MX (T.take i)) x8 t9 p n c (n:Int) (i:Int) Z1 from H n 0 0 false rfl (AjB _)
 intro g
 induction g with
 | zero=>
  intro i x8 t9 hg hi;have:=bd i;rw[Ai4 (by omega)]at this ⊢;exact A5.CC ⟨λhh=>by omega,λ_=>h x8 Z1 this.1 this.2 hx⟩
 | succ g ih=>
  intro i x8 t9 hg hi;have CF:i<n:=by omega
  obtain⟨x,hxi⟩:=D7.ex CF;have xU:=Ai6 hxi;obtain⟨b,o,p1,k1,c1,q1,m1,d1,rfl,vK,_,_⟩:=H8.at D7 hxi;obtain⟨n2,n3⟩:=AIQ (hf x xU).1;have es:MX (T.take (i+1))=Tp (MX (T.take i)) x:=by
   unfold MX;rw[AR hxi,Akd];rfl
  obtain⟨bd0,bd1⟩:=bd i;have next:∀x8' t9',A5.AEX R (Tp (MX (T.take i)) x) x8' t9' (aD b o) n c (n:Int) (i:Int) Z1:=λx8' t9'=>by
   have:=ih (i+1) x8' t9' (by omega) (by omega);rw[show((i+1:Nat):Int)=(i:Int)+1 by omega,es]at this;exact A5.rj ⟨AO CF D7.big,this⟩
  have nz:∀{Aav Aaw:Int} {Aax:ByteArray} {Aay:Option Addr} {y2 y3:Nat} {y4 y5 y6:Int} {y7:Option Addr} {y8 y9:Nat} {y10:Bool} {y12:Int} (v:Int),(if MX (T.take i)<v then v else MX (T.take i))=Tp (MX (T.take i)) x->A5.WZ R (MX (T.take i)) x8 t9 Aav Aaw Aax Aay y2 y3 y4 y5 y6 y7 y8 y9 y10 y12 v (aD b o) n c (n:Int) (i:Int) Z1:=λv e=>by
   have go:∀z,A5.RJ R (if MX (T.take i)<v then v else MX (T.take i)) z (aD b o) n c (n:Int) (i:Int) Z1:=λz=>by
    rw[e];exact A5.Pp (next _ _)
   exact A5.R5 ⟨λ_=>go _,λ_=>⟨λ_=>go _,λ_=>go _⟩⟩
  refine A5.CC ⟨λ_=>⟨b,o,rfl,by unfold In;omega,_,_,_,_,_,_,_,_,_,_,_,_,_,_,by simpa using vK,λ_=>⟨λG=>⟨λk3=>?_,λk3=>?_⟩,λG=>?_⟩⟩,λhh=>by omega⟩
  .have:=next x8 t9
   unfold Tp at this;rw[Aiw G,Aiw k3]at this;exact this
  .have k3:=AjZ.1 k3;obtain⟨a1,a2,a3,a4⟩:=n3 k3;exact⟨by unfold AL;omega,λhk=>absurd hk G,λ_=>nz _ (by unfold Tp;rw[Aiw G,Aiy k3])⟩
  .have G:=AjZ.1 G;obtain⟨a1,a2,a3⟩:=n2 G;exact⟨by unfold AL;omega,λ_=>⟨by unfold AL;omega,nz _ (by unfold Tp;rw[Aiy G,a3,Int.add_zero])⟩,λhk=>absurd G hk⟩
end
def cnV (v:Int):Prop:=(QQ v.toNat=false/\0<=v)\/v=9221120237041090560
def AT9 (l:List El):Prop:=l.Pairwise λa b=>A3 a.ls b.ls<0
def ElS (ss:List Sr)(e:El):Prop:=VF e.ls=0/\(cnV e.v\/∃s∈ss,∃p∈s.ps,p.2=e.v)
structure VS (ss:List Sr)(x:Vv):Prop where
 el:∀e∈x.vec,ElS ss e
 up:AT9 x.vec
 rg:∀r∈x.Q5,VF r.ls=0
 one:x.kind=1->cnV x.v
theorem Tq:∀{ss:List Sr} {q:Option (List Lb)},Da q ss=true->(∀k,q=some k->∀s∈ss,A3 k s.ls<0)/\ss.Pairwise λa b=>A3 a.ls b.ls<0
 | [],q,_=>⟨λk _ s hs=>(by cases hs),.nil⟩
 | s::l,q,h=>by
  rw[Pu]at h;simp only[AjD]at h;obtain⟨h1,h2⟩:=Tq h.2;refine⟨λk hk u G=>?_,AjY.2 ⟨λu G=>h1 s.ls rfl u G,h2⟩⟩;subst hk;have h3:A3 k s.ls<0:=AjA h.1.2;rcases Ai1.1 G with rfl|G
  .exact h3
  .exact Aa.trans _ _ _ h3 (h1 s.ls rfl u G)
end TwW
end
section
namespace TwW
open Ieee
theorem fb:((double.fractionBits:Nat):Int)=52:=by kernel_rfl
end TwW
end
section
namespace TwW
open Go Tw Go.RowKit Go.Proofs.Tryz
def fnW:List ByteArray:=[⟨#[]⟩,⟨#[114,97,116,101]⟩,⟨#[105,110,99,114,101,97,115,101]⟩,⟨#[100,101,108,116,97]⟩,⟨#[115,117,109,95,111,118,101,114,95,116,105,109,101]⟩,⟨#[97,118,103,95,111,118,101,114,95,116,105,109,101]⟩,⟨#[109,105,110,95,111,118,101,114,95,116,105,109,101]⟩,⟨#[109,97,120,95,111,118,101,114,95,116,105,109,101]⟩,⟨#[99,111,117,110,116,95,111,118,101,114,95,116,105,109,101]⟩,⟨#[108,97,115,116,95,111,118,101,114,95,116,105,109,101]⟩,⟨#[119,97,118,101]⟩,⟨#[97,98,115]⟩,⟨#[102,108,111,111,114]⟩]
def agW:List ByteArray:=[⟨#[]⟩,⟨#[115,117,109]⟩,⟨#[109,105,110]⟩,⟨#[109,97,120]⟩,⟨#[97,118,103]⟩,⟨#[99,111,117,110,116]⟩]
def opW:List ByteArray:=[⟨#[]⟩,⟨#[43]⟩,⟨#[45]⟩,⟨#[42]⟩,⟨#[47]⟩,⟨#[61,61]⟩,⟨#[33,61]⟩,⟨#[60]⟩,⟨#[60,61]⟩,⟨#[62]⟩,⟨#[62,61]⟩,⟨#[97,110,100]⟩,⟨#[111,114]⟩,⟨#[117,110,108,101,115,115]⟩]
def AB4:List ByteArray->ByteArray->Nat->Nat
 | [],_,_=>0
 | x::l,s,k=>if x=s/\s≠⟨#[]⟩ then k else AB4 l s (k+1)
def JT (l:List ByteArray)(s:ByteArray):Nat:=AB4 l s 0
def AFq:List ByteArray:=[⟨#[111,114]⟩,⟨#[97,110,100]⟩,⟨#[117,110,108,101,115,115]⟩,⟨#[98,111,111,108]⟩,⟨#[111,110]⟩,⟨#[105,103,110,111,114,105,110,103]⟩,⟨#[98,121]⟩,⟨#[119,105,116,104,111,117,116]⟩,⟨#[111,102,102,115,101,116]⟩]
def lM (s:ByteArray):Bool:=FP s AFq||decide (0<JT fnW s)||decide (0<JT agW s)
structure Cl where
 kind:Int
 text:ByteArray
 span:Int
 op:Nat
 fn:Nat
 ag:Nat
 kept:Bool
 big:Bool
 name:Bool
 lp:Bool
 rp:Bool
 comma:Bool
 lsq:Bool
 rsq:Bool
 lbr:Bool
 minus:Bool
 bool:Bool
 on:Bool
 ign:Bool
 pT:Bool
 out:Bool
 off:Bool
def GC (k:Int)(s:ByteArray)(j:Int)(t:ByteArray):Bool:=decide (k=j)&&decide (s=t)
def Ui (k:Int)(s:ByteArray)(v:Int):Cl where
 kind:=k
 text:=s
 span:=v
 op:=JT opW s
 fn:=JT fnW s
 ag:=JT agW s
 kept:=lM s
 big:=decide (256<s.size)
 name:=decide (k=3)&&Du s
 lp:=GC k s 5 ⟨#[40]⟩
 rp:=GC k s 5 ⟨#[41]⟩
 comma:=GC k s 5 ⟨#[44]⟩
 lsq:=GC k s 5 ⟨#[91]⟩
 rsq:=GC k s 5 ⟨#[93]⟩
 lbr:=GC k s 5 ⟨#[123]⟩
 minus:=GC k s 5 ⟨#[45]⟩
 bool:=GC k s 3 ⟨#[98,111,111,108]⟩
 on:=GC k s 3 ⟨#[111,110]⟩
 ign:=GC k s 3 ⟨#[105,103,110,111,114,105,110,103]⟩
 pT:=GC k s 3 ⟨#[98,121]⟩
 out:=GC k s 3 ⟨#[119,105,116,104,111,117,116]⟩
 off:=GC k s 3 ⟨#[111,102,102,115,101,116]⟩
def ALs (op:Nat)(b:Bool):Nd:=⟨6,op,⟨#[]⟩,[],0,0,0,[],b,2⟩
def lN:Nd:=⟨7,0,⟨#[]⟩,[],0,0,0,[],false,1⟩
def wP (s:ByteArray):Nd:=⟨1,0,s,[],0,0,0,[],false,0⟩
def dL (op:Nat):Nd:=⟨4,op,⟨#[]⟩,[],0,0,0,[],false,1⟩
def wR (op:Nat)(g:Int)(ns:List ByteArray):Nd:=⟨5,op,⟨#[]⟩,[],0,0,g,ns,false,1⟩
def Aaz (s:ByteArray):Nd:=⟨2,0,⟨#[]⟩,[⟨1,EV,s⟩],0,0,0,[],false,0⟩
def Aa0 (s:ByteArray)(w:Int):Nd:=⟨3,0,⟨#[]⟩,[⟨1,EV,s⟩],w,0,0,[],false,0⟩
def nmZ:Nat->List Cl->List ByteArray->Option (List ByteArray×List Cl)
 | 0,_,_=>none
 | _+1,[],_=>none
 | f+1,c::r,ns=>if c.rp then some (ns,r) else if ns.length=0 then(if c.name then nmZ f r (ns++[c.text]) else none) else if c.comma then(match r with
  | []=>none
  | w::r'=>if w.name then nmZ f r' (ns++[w.text]) else none) else none
def pU:List Cl->Option (Int×List ByteArray×List Cl)
 | []=>none
 | c::r=>if c.pT||c.out then match r with
   | []=>none
   | e::r=>if e.lp then(nmZ 8 r []).map λx=>(if c.pT then 1 else 2,x.1,x.2) else none
  else some (0,[],c::r)
def AFt (c:Cl)(r:List Cl):Option (List Cl×List Nd):=match r with
 | []=>none
 | a::r'=>if a.lbr then none else if a.lsq then match r' with
   | s::e::o::G=>if s.kind=2/\e.rsq=true/\o.off=false then some (o::G,[Aa0 c.text s.span]) else none
   | _=>none
  else if a.off then none else some (a::r',[Aaz c.text])
def Ho:Nat->Int×Int
 | 0=>(12,12)
 | 1=>(11,13)
 | 2=>(5,10)
 | 3=>(1,2)
 | _=>(3,4)
def pz:Nat->Nat->Int->List Cl->Option (List Cl×List Nd)
 | 0,_,_,_=>none
 | f+1,l,d,ts=>
  if l<5 then(pz f (l+1) d ts).bind λx=>(pz f (l+10) d x.1).map λy=>(y.1,x.2++y.2)
  else if 10<=l then match ts with
   | []=>none
   | c::r=>if(c.kind≠5/\c.kind≠3)\/(c.op:Int)<(Ho (l-10)).1\/(Ho (l-10)).2<(c.op:Int)\/(l=11/\c.op=12) then some (c::r,[])
    else match r with
     | []=>none
     | b::r'=>let bl:=decide (5<=c.op)&&decide (c.op<=10)&&b.bool
      match (bif bl then r' else b::r') with
      | []=>none
      | g::G=>if g.on||g.ign then none else
       (pz f (l-9) d (g::G)).bind λx=>(pz f l d x.1).map λy=>(y.1,x.2++ALs c.op bl::y.2)
  else match ts with
   | []=>none
   | c::r=>
    if l=5 then if c.minus then if d=64 then none else(pz f 5 (d+1) r).map λx=>(x.1,x.2++[lN]) else pz f 6 d (c::r)
    else if l=6 then
     if c.kind=1 then some (r,[wP c.text])
     else if c.lp then pz f 7 d (c::r)
     else if c.kind≠3 then none
     else if 0<c.fn then(pz f 7 d r).map λx=>(x.1,x.2++[dL c.fn])
     else if 0<c.ag then(pU r).bind λg=>(pz f 7 d g.2.2).map λx=>(x.1,x.2++[wR c.ag g.1 g.2.1])
     else if c.kept||c.big then none
     else AFt c r
    else if c.lp=true/\d≠64 then(pz f 0 (d+1) r).bind λx=>match x.1 with
      | []=>none
      | e::r'=>if e.rp then some (r',x.2) else none
     else none
section
variable {Z2 Z':Hp}{R:Rr}{p:Option Addr}{n c:Nat}{ss:List Sr}
set_option maxRecDepth 100000 in
theorem AUA {x y : Operand} {a b a' b' : ByteArray} : YF prog (do eqGuard .neq 144 x y (.agg #[.string a,.string b]) (.agg #[.string a',.string b']); binOp .neq 144 (.agg #[.string a,.string b]) (.agg #[.string a',.string b'])) Z2 (.bool (!(a.toList == a'.toList && b.toList == b'.toList))) := λw _ => by
 have u9 := underlying9
 have hS : prog.underlying 144 = some (.struct (prog.fieldsOf 144)) := by kernel_rfl
 have hp : prog.stoodInHeld 144 = false := by kernel_rfl
 have hf : (prog.fieldsOf 144).toList = [{ name := "Name",type := 9,offset := 0,embedded := false,tag := "",pkgPath := "",byteOffset := 0 },{ name := "Value",type := 9,offset := 1,embedded := false,tag := "",pkgPath := "",byteOffset := 16 }] := by kernel_rfl
 simp only [Sem.run_bind,run_eqGuard_agg _ _ _ _ _ _ _ (show prog.eqGuardType prog.depth 144 = false by kernel_rfl),Result.andThen_ok,run_neq_struct]
 rw [show (10000 : Nat) = 9999 + 1 from rfl,run_equalIn_agg w 9999 144 _ _ hS hp,hf]
 simp only [Op.eqFields]
 go_simp
 by_cases h1 : a.toList = a'.toList <;> by_cases h2 : b.toList = b'.toList <;> simp [h1,h2]
theorem pV {p p':Option Addr}{n n' c c':Nat}{ls:List Lb}(G:Gy Z2 p n ls)(h2:Gy Z2 p' n' ls)(hR:R (.B true) Z2):Spec prog 48 #[.slice p n c,.slice p' n' c'] Z2 R:=by
 have e1:ls.length=n:=G.1;have e2:ls.length=n':=h2.1;refine Dn.start ⟨λAd=>absurd (by omega) Ad,λ_=>?_⟩
 suffices H:∀d i:Nat,n-i=d->i<=n->Dn.FH R p n c p' n' c' i Z2 from H n 0 rfl (AjB _)
 intro d
 induction d with
 | zero=>exact λi hd hi=>Dn.EB ⟨λAx=>by omega,λ_=>hR⟩
 | succ d ih=>
  intro i hd hi;obtain⟨x,hx⟩:=G.ex (show i<n by omega);obtain⟨b,o,rfl,l1⟩:=Gy.at G hx;obtain⟨b',o',rfl,l2⟩:=Gy.at h2 hx;exact Dn.EB ⟨λ_=>⟨b,o,rfl,by omega,x.1,x.2,by simpa using l1,b',o',rfl,by omega,x.1,x.2,by simpa using l2,_,AUA,λhh=>by simp at hh,λ_=>⟨AO (by omega) G.big,ih (i+1) (by omega) (by omega)⟩⟩,λhh=>by omega⟩
theorem Ye {q:Option Addr}{m d:Nat}(G:Af 2 BT Z2 p n ss)(h2:Af 2 BT Z2 q m ss)(hR:R (.B true) Z2):Spec prog 17 #[.slice p n c,.slice q m d] Z2 R:=by
 have e1:ss.length=n:=G.1;have e2:ss.length=m:=h2.1;refine Dr.start ⟨λAd=>absurd (by omega) Ad,λ_=>?_⟩
 suffices H:∀d' i:Nat,n-i=d'->i<=n->Dr.FH R p n c q m d i Z2 from H n 0 rfl (AjB _)
 intro d'
 induction d' with
 | zero=>exact λi hd hi=>Dr.EB ⟨λAx=>by omega,λ_=>hR⟩
 | succ d' ih=>
  intro i hd hi;obtain⟨x,hx⟩:=G.ex (show i<n by omega);obtain⟨b,o,p1,k1,c1,q1,m1,d1,rfl,l1,Aa1,Aa2,_⟩:=BT.at G hx;obtain⟨b',o',p2,k2,c2,q2,m2,d2,rfl,l2,Aa3,Aa4,_⟩:=BT.at h2 hx;exact Dr.EB ⟨λ_=>⟨b,o,rfl,by omega,p1,k1,c1,by simpa using l1.1,b',o',rfl,by omega,p2,k2,c2,by simpa using l2.1,pV Aa1 Aa3 ⟨_,rfl,λhh=>(by cases hh),λ_=>⟨by omega,q1,m1,d1,by simpa using l1.2.1,by omega,q2,m2,d2,by simpa using l2.2.1,lB Aa2 Aa4 ⟨_,rfl,λhh=>(by cases hh),λ_=>⟨AO (by omega) G.big,ih (i+1) (by omega) (by omega)⟩⟩⟩⟩⟩,λhh=>by omega⟩
end
theorem Bf {ρ M:Hp}{b:Nat}{o:Obj}(h:ρ b=none):(ρ.or M).set b o=ρ.or (M.set b o):=by
 funext k
 by_cases e:k=b
 .subst e;rw[Hp.AA,Hp.EH h,Hp.AA]
 .rw[Hp.AB e];cases G:ρ k with
  | some u=>rw[Hp.DZ G,Hp.DZ G]
  | none=>rw[Hp.EH G,Hp.EH G,Hp.AB e]
theorem Gm {ρ M:Hp}{b:Nat}{o:Obj}:(ρ.or M).set b o=(ρ.set b o).or M:=by
 funext k
 by_cases e:k=b
 .subst e;rw[Hp.AA,Hp.DZ (Hp.AA _ _ _)]
 .rw[Hp.AB e];cases G:ρ k with
  | some u=>rw[Hp.DZ G,Hp.DZ (by rw[Hp.AB e];exact G)]
  | none=>rw[Hp.EH G,Hp.EH (by rw[Hp.AB e];exact G)]
theorem or_none {ρ M:Hp}{b:Nat}(h:(ρ.or M) b=none):ρ b=none/\M b=none:=by
 cases G:ρ b with
 | some u=>rw[Hp.DZ G]at h;cases h
 | none=>rw[Hp.EH G]at h;exact⟨rfl,h⟩
theorem IU {ρ M:Hp}{b:Nat}{o:Obj}(h:Gi ρ M)(hb:ρ b=none):Gi ρ (M.set b o):=λk G=>by
 by_cases e:k=b
 .subst e;exact hb
 .rw[Hp.AB e]at G;exact h k G
theorem VN {ρ M:Hp}{b:Nat}{o:Obj}(h:Gi ρ M)(hb:M b=none):Gi (ρ.set b o) M:=λk G=>by
 have e:k≠b:=λe=>G (by rw[e];exact hb);rw[Hp.AB e];exact h k G
theorem Ext.parts {ρ M Z':Hp}(hd:Gi ρ M)(h:Ext (ρ.or M) Z'):∃ρ',Ext ρ ρ'/\Gi ρ' M/\Z'=ρ'.or M/\Ext ((ρ.or M).new Z') ρ':=by
 refine⟨Z'.minus M,Ext.AA1 ((Ext.DZ ρ M).trans h) (λk G=>?_),λk G=>?_,?_,λk o G=>?_⟩
 .cases hm:M k with
  | none=>rfl
  | some u=>exact absurd (hd k (by rw[hm];simp)) G
 .unfold Hp.minus;cases hm:M k with
  | none=>exact absurd hm G
  | some u=>rfl
 .funext k
  cases hm:M k with
  | none=>
   cases G:Z' k with
   | none=>rw[Hp.EH (by unfold Hp.minus;rw[hm];exact G),hm]
   | some u=>rw[Hp.DZ (Hp.HP.2 ⟨hm,G⟩)]
  | some u=>
   have:(Z'.minus M) k=none:=by unfold Hp.minus;rw[hm]
   rw[Hp.EH this,hm];exact h _ _ (by rw[Hp.EH (hd k (by rw[hm];simp))];exact hm)
 .obtain⟨k1,k2⟩:=Ae.1 G;exact Hp.HP.2 ⟨(or_none k1).2,k2⟩
theorem E3 {f:FuncId}{args:Array Value}{ρ M:Hp}{R:Rr}(hd:Gi ρ M)(h:Spec prog f args ρ λe ρ'=>Gi ρ' M->R e (ρ'.or M)):Spec prog f args (ρ.or M) R:=
 Spec.AA2 (Ext.DZ ρ M) (Ext.EH hd) hd h
def TX:List Nd:=[nV]
theorem tyX:HT TX=some 2:=by kernel_rfl
theorem txX:∀x∈TX,x.text.size<=4611686018427387904:=λx G=>by
 simp only[TX,Ai2]at G;subst G;decide
section
variable {Z2:Hp}{R:Rr}
theorem wS {p:Option Addr}{n c:Nat}(hr:Af 10 H8 Z2 p n TX)(h:∀Z',Ext Z2 Z'->R (.T #[.I 300,.I 0]) Z'):Spec prog 66 #[.slice p n c] Z2 R:=by
 have hn:1=n:=hr.1;subst hn;refine A5.start (Lq hr (by decide) txX (λk Z1 hk hx=>⟨_,_,_,rfl,λG=>absurd rfl G,λ_=>?_⟩) λk j e Z' hk=>by rw[tyX]at hk;cases hk);have D7:=hr.mono H8.mono hx;obtain⟨b,o,p1,k1,c1,q1,m1,d1,rfl,vK,_,_⟩:=H8.at D7 (i:=0) (x:=nV) rfl;refine A5.CC ⟨λ_=>⟨b,o,rfl,by decide,_,_,_,_,_,_,_,_,_,_,_,_,_,_,vK,λ_=>⟨λG=>absurd rfl G,λ_=>⟨Aac,λ_=>⟨ATz,A5.R5 ?_⟩,λG=>absurd rfl G⟩⟩⟩,λG=>absurd (by decide) G⟩;exact⟨λ_=>A5.Pp (A5.rj ⟨by unfold AL;omega,A5.CC ⟨λG=>absurd G (by decide),λ_=>h _ hx⟩⟩),λG=>by cases G⟩
end
structure Qs where
 Hq:Int
 rd:Bool
 fl:Int
 one:Bool
 mem:List (Int×Int)
 mP:List (Int×Int)
 all:List Sr
abbrev qL (pt:Option Addr)(G m:Nat)(Hq:Int)(rd:Bool)(fl:Int)(pi:Option Addr)(ni ci fm:Nat)(pa:Option Addr)(na ca:Nat)(f:Value):Array Value:=
 #[.slice pt 1 G,.I 60,.I 60,.I 0,.map (some m),.I Hq,.bool rd,.U 0,.I fl,.slice pi ni ci,.map (some fm),.slice pa na ca,f]
abbrev qO (pt:Option Addr)(G m:Nat)(Hq:Int)(rd:Bool)(fl:Int)(pi:Option Addr)(ni ci fm:Nat)(pa:Option Addr)(na ca b:Nat)(f:Nat):Obj:=
 .cells (qL pt G m Hq rd fl pi ni ci fm pa na ca (.func (.func f) #[.pointer (aD b 0)] #[])) 72 (0,0)
theorem AI.wX {P:Program}{Z2:Hp}{b n o:Nat}{T t:TypeId}{c c':Array Value}{v:Value}{Φ:Unit->Hp->Prop}(hz:∀w,(Go.sizeOf T).run P w=.ok n w)(hb:Z2 b=some (.cells c t (0,0)))
  (hv:v.cells.size=n) (hl:Nat.ble (o+n) c.size=true) (G:(v.cells.toList.all λu=>u.oneCell')=true) (hc:Ks c o v.cells.toList=c') (h:Φ () (Z2.set b (.cells c' t (0,0)))) :
  AI P (Instr.storeAt T (.pointer (some ⟨b,o,none⟩)) v) Z2 Φ:=by
 subst hc;exact AI.store hz hb hv (Ajo hl) (λu hu=>Ajt.1 G u hu) h
section
variable {a0 a1 a2 a3 a4 a5 a6 a7 a8 a9 oO a11 a12 v u t:Value}
theorem AIR:Ks #[a0,a1,a2,a3,a4,a5,a6,a7,a8,a9,oO,a11,a12] 5 [v]=#[a0,a1,a2,a3,a4,v,a6,a7,a8,a9,oO,a11,a12]:=rfl
theorem AIS:Ks #[a0,a1,a2,a3,a4,a5,a6,a7,a8,a9,oO,a11,a12] 6 [v]=#[a0,a1,a2,a3,a4,a5,v,a7,a8,a9,oO,a11,a12]:=rfl
theorem AIT:Ks #[a0,a1,a2,a3,a4,a5,a6,a7,a8,a9,oO,a11,a12] 7 [v,u,t]=#[a0,a1,a2,a3,a4,a5,a6,v,u,t,oO,a11,a12]:=rfl
theorem pW:Ks #[a0,a1,a2,a3,a4,a5,a6,a7,a8,a9,oO,a11,a12] 11 [v]=#[a0,a1,a2,a3,a4,a5,a6,a7,a8,a9,oO,v,a12]:=rfl
theorem gD:Ks #[a0,a1,a2,a3,a4,a5,a6,a7,a8,a9,oO,a11,a12] 12 [v]=#[a0,a1,a2,a3,a4,a5,a6,a7,a8,a9,oO,a11,v]:=rfl
end
theorem gE:∀w,(Go.sizeOf 2).run prog w=.ok 1 w:=λw=>by kernel_rfl
theorem AB8:∀w,(Go.sizeOf 3).run prog w=.ok 1 w:=λw=>by kernel_rfl
theorem AB9:∀w,(Go.sizeOf 4).run prog w=.ok 1 w:=λw=>by kernel_rfl
theorem gF:∀w,(Go.sizeOf 22).run prog w=.ok 1 w:=λw=>by kernel_rfl
theorem tC:∀w,(Go.sizeOf 43).run prog w=.ok 3 w:=λw=>by kernel_rfl
theorem Vh:∀w,(Go.sizeOf 45).run prog w=.ok 1 w:=λw=>by kernel_rfl
instance:gy.MpJ prog 69 .i64 3 3:=⟨underlying69,underlying3⟩
instance:gy.MpJ prog 70 .u64 27 3:=⟨underlying70,underlying27⟩
theorem RY:∀w,(zeroValue 3).run prog w=.ok (.I 0) w:=λw=>by kernel_rfl
def IxE (ρ:Hp)(one:Bool)(pi:Option Addr)(ni ci:Nat):Prop:=match one with
 | false=>pi=none/\ni=0/\ci=0
 | true=>ni=1/\∃G oi q e,pi=some ⟨G,oi,none⟩/\Az ρ G oi (e4 q e++[.bool false,.I 0])
theorem IxE.mono {ρ ρ':Hp}{one:Bool}{pi:Option Addr}{ni ci:Nat}(h:IxE ρ one pi ni ci)(hx:Ext ρ ρ'):IxE ρ' one pi ni ci:=by
 cases one with
 | false=>exact h
 | true=>obtain⟨h1,G,oi,q,e,h2,h3⟩:=h;exact⟨h1,G,oi,q,e,h2,h3.mono hx⟩
def gG (rd:Bool):Nat:=if rd then 43 else 27
structure QU (Q:Qs)(ρ M:Hp)(b m fm:Nat):Prop where
 Qt:Gi ρ M
 bm:b≠m
 bf:b≠fm
 mf:m≠fm
 q:∃pt ct pi ni ci pa na ca,M b=some (qO pt ct m Q.Hq Q.rd Q.fl pi ni ci fm pa na ca b (gG Q.rd))/\Af 10 H8 ρ pt 1 TX/\IxE ρ Q.one pi ni ci/\Af 2 BT ρ pa na Q.all/\na<=ca
 mm:MZ .i64 M m Q.mem
 ff:MZ .u64 M fm Q.mP
 lo:-1099511627776<=Q.fl/\Q.fl<=1099511627776
theorem QU.grow {Q:Qs}{ρ ρ' M M':Hp}{b m fm:Nat}(h:QU Q ρ M b m fm)(G:Ext ρ ρ')(hd:Gi ρ' M')(h1:M' b=M b)(h2:M' m=M m)(h3:M' fm=M fm):QU Q ρ' M' b m fm:=by
 obtain⟨pt,ct,pi,ni,ci,pa,na,ca,k1,k2,k3,k4,k5⟩:=h.q;exact⟨hd,h.bm,h.bf,h.mf,⟨pt,ct,pi,ni,ci,pa,na,ca,h1.trans k1,k2.mono H8.mono G,k3.mono G,k4.mono BT.mono G,k5⟩,h.mm.loc h2,h.ff.loc h3,h.lo⟩
theorem QU.up {Q:Qs}{ρ ρ' M:Hp}{b m fm:Nat}(h:QU Q ρ M b m fm)(G:Ext ρ ρ')(hd:Gi ρ' M):QU Q ρ' M b m fm:=h.grow G hd rfl rfl rfl
theorem gH {ρ M:Hp}:∀{L:List (Nat×Obj)},BR (ρ.or M) L=(BR ρ L).or M
 | []=>rfl
 | (b,o)::L=>by simp only[BR];rw[gH,Gm]
theorem Ba {ρ M:Hp}(h:Gi ρ M){b:Nat}{o:Obj}(G:M b=some o):(ρ.or M) b=some o:=by rw[Hp.EH (h b (by rw[G];simp))];exact G
theorem H9 {ρ M:Hp}{m:Nat}{ik:IntKind}{L:List (Int×Int)}(h:Gi ρ M)(hm:MZ ik M m L):MZ ik (ρ.or M) m L:=hm.loc (Hp.EH (h m hm.known))
theorem MZ.lO {P:Program}{ik:IntKind}{T K V:TypeId}{Z2:Hp}{m:Nat}{L:List (Int×Int)}{k:Int}[t:gy.MpJ P T ik K V](h:MZ ik Z2 m L)(hz:∀w,(zeroValue V).run P w=.ok (.I 0) w){Φ:Value->Hp->Prop}
  (G:Φ (.I ((Gk L k).getD 0)) Z2):AI P (Instr.lookup T (.map (some m)) (.int ik k) false) Z2 Φ:=
 MZ.look (two:=false) h hz (λh0=>by rw[h0]at G;exact G) λx h1=>by rw[h1]at G;exact G
section
variable {Q:Qs}{ρ M:Hp}{b m fm:Nat}{R:Rr}
theorem Lv (h:QU Q ρ M b m fm)(hR:∀ρ',Ext ρ ρ'->Gi ρ' M->R (.T #[.I (-240),.I 60]) (ρ'.or M)):Spec prog 33 #[.pointer (aD b 0)] (ρ.or M) R:=by
 obtain⟨pt,ct,pi,ni,ci,pa,na,ca,k1,k2,k3,k4,k5⟩:=h.q;have hb:=Ba h.Qt k1;refine Bt.start ⟨b,0,rfl,pt,1,ct,AJ hb rfl,wS (k2.mono H8.mono (Ext.DZ ρ M)) λZ1 BS=>⟨_,_,rfl,60,AJ (BS _ _ hb) rfl,λb6 h6=>?_⟩⟩;obtain⟨G,X1,D1,rfl,_⟩:=Ext.parts h.Qt BS;have I4:=Ba D1 k1;obtain⟨r6,m6⟩:=or_none h6;have n6:b≠b6:=λe=>by rw[<-e,k1]at m6;cases m6
 show AI prog _ (BR (G.or M) [(b6,.cells #[.I 0] 2 (0,0))]) _
 refine AI.RN (L:=[(b6,.cells #[.I 0] 2 (0,0))]) (i:=0) (c:=#[.I 0]) (c':=#[.I 60]) gE (by simp[names]) rfl rfl rfl rfl rfl ?_;intro D l r0 hDl hD hl hY;have hD:(G.or M).set b6 (.cells #[.I 60] 2 (0,0)) D=none:=hD;have hl:(G.or M).set b6 (.cells #[.I 60] 2 (0,0)) l=none:=hl;obtain⟨d6,hD⟩:=Hp.AM hD;obtain⟨l6,hl⟩:=Hp.AM hl;have nD:b≠D:=λe=>by rw[<-e,I4]at hD;cases hD
 have nl:b≠l:=λe=>by rw[<-e,I4]at hl;cases hl
 have Gn:([l,D,b6]:List Nat).Nodup:=by
  simp only[Aj0,Ai1,AjK,Ajl,AkR,AmO,Al0,Ak9];exact⟨⟨λe=>hDl e.symm,l6⟩,d6⟩
 let L:Loop->Obj->List (Nat×Obj):=λlo d=>[(l,.loop lo),(D,d),(b6,.cells #[.I 60] 2 (0,0))]
 have hbS:∀lo d,BR (G.or M) (L lo d) b=some _:=λlo d=>(FN (by simp only[L,names,AjR,Akb,Ai1,AjK,Ajl,Ak9];exact⟨nl,nD,n6⟩)).trans I4;show Spec prog _ #[.pointer (aD b 0),.func (.yield l) #[] #[]] (BR (G.or M) (L (lp r0 .ready none) (.deferred (some [])))) _
 refine Bu.start ⟨b,0,rfl,60,AJ (hbS _ _) rfl,Bu.LD ⟨l,rfl,hY _ _ 60 (BY (L:=L (lp r0 .ready none) (.deferred (some []))) (i:=0) Gn rfl) (Bt.A1 ⟨BY (L:=L (lp r0 .ready none) (.deferred (some []))) (i:=0) Gn rfl,?_⟩)⟩⟩;rw[DO (L:=L (lp r0 .ready none) (.deferred (some []))) (i:=0) Gn rfl];refine AI.RN (L:=L (lp r0 .busy none) (.deferred (some []))) (i:=2) (c:=#[.I 60]) (c':=#[.I 60]) gE Gn rfl rfl rfl rfl rfl ⟨BY (L:=L (lp r0 .busy none) (.deferred (some []))) (i:=0) Gn rfl,?_⟩;show Ab _ _ _ ((BR (G.or M) (L (lp r0 .busy none) (.deferred (some [])))).set l _)
 rw[DO (L:=L (lp r0 .busy none) (.deferred (some []))) (i:=0) Gn rfl];refine⟨true,rfl,λ_=>⟨b,0,rfl,0,AJ (hbS (lp r0 .ready none) (.deferred (some []))) rfl,λhh=>absurd hh (by decide),λ_=>?_⟩,λhh=>by cases hh⟩;refine⟨_,.ready,none,rfl,BY (L:=L (lp r0 .ready none) (.deferred (some []))) (i:=0) Gn rfl,by decide,rfl,?_⟩;have e1:(BR (G.or M) ((L (lp r0 .busy none) (.deferred (some []))).set 0 (l,.loop (lp r0 .ready none)))).set l (.loop (lp r0 .exhausted none))=BR (G.or M) (L (lp r0 .exhausted none) (.deferred (some []))):=DO (L:=L (lp r0 .ready none) (.deferred (some []))) (i:=0) Gn rfl;rw[e1];refine⟨60,AJ (hbS (lp r0 .exhausted none) (.deferred (some []))) rfl,by unfold AL;omega,60,ldL (L:=L (lp r0 .exhausted none) (.deferred (some []))) (i:=2) Gn rfl rfl,BY (L:=L (lp r0 .exhausted none) (.deferred (some []))) (i:=1) Gn rfl,?_⟩;rw[DO (L:=L (lp r0 .exhausted none) (.deferred (some []))) (i:=1) Gn rfl,gH];have fH:VB (L (lp r0 .exhausted none) (.deferred none)) G:=λk hk=>by
  simp only[L,names,AjR,Akb,Ai1,AjK,Ajl]at hk;rcases hk with rfl|rfl|rfl
  .exact(or_none hl).1
  .exact(or_none hD).1
  .exact r6
 refine hR (BR G (L (lp r0 .exhausted none) (.deferred none))) (X1.trans (VB.ext Gn fH)) λk hk=>?_;rw[FN]
 .exact D1 k hk
 .simp only[L,names,AjR,Akb,Ai1,AjK,Ajl,Ak9];refine⟨λe=>hk ?_,λe=>hk ?_,λe=>hk ?_⟩
  .rw[e];exact(or_none hl).2
  .rw[e];exact(or_none hD).2
  .rw[e];exact m6
theorem lP (h:QU Q ρ M b m fm)(h1:Q.one=false)(hR:∀ρ',Ext ρ ρ'->Gi ρ' M->R (.returned (.N)) (ρ'.or M)):Spec prog 21 #[.pointer (aD b 0)] (ρ.or M) R:=by
 refine AT.start (Lv h λρ1 BS G=>⟨_,_,rfl,b,0,rfl,?_⟩);obtain⟨pt,ct,pi,ni,ci,pa,na,ca,k1,k2,k3,k4,k5⟩:=(h.up BS G).q;rw[h1]at k3;obtain⟨rfl,rfl,rfl⟩:=k3;have hb:=Ba G k1;exact⟨0,Q.fl,none,0,0,⟨AJ hb rfl,AJ hb rfl,AJ hb rfl,trivial⟩,AFl h.lo ⟨_,_,_,rfl,AT.Bk ⟨λhh=>absurd hh (by decide),λ_=>hR ρ1 BS G⟩⟩⟩
theorem PL (h:QU Q ρ M b m fm)(h1:Q.one=true)(h2:Q.rd=true)(h3:Q.fl<=60)(hR:(Gk Q.mP 4).getD 0=0->∀ρ' p c,Ext ρ ρ'->Gi ρ' M->Dc .u64 ρ' p 1 [4]->1<=c->R (.returned (.slice p 1 c)) (ρ'.or M))
  (Mf:(Gk Q.mP 4).getD 0≠0->∀ρ',Ext ρ ρ'->Gi ρ' M->R (.returned (.N)) (ρ'.or M)):Spec prog 21 #[.pointer (aD b 0)] (ρ.or M) R:=by
 refine AT.start (Lv h λρ1 BS bE=>⟨_,_,rfl,b,0,rfl,?_⟩);obtain⟨pt,ct,pi,ni,ci,pa,na,ca,k1,k2,k3,k4,k5⟩:=(h.up BS bE).q;rw[h1]at k3;obtain⟨rfl,bi,oi,q,e,rfl,hli⟩:=k3;have hb:=Ba bE k1;refine⟨0,Q.fl,aD bi oi,1,ci,⟨AJ hb rfl,AJ hb rfl,AJ hb rfl,trivial⟩,AFm h.lo (hli.mono (Ext.DZ _ _)) λZ22 b2 o2 c2 q2 e2 fX Aw=>⟨_,_,_,rfl,?_⟩⟩;obtain⟨ρ2,X2,D2,rfl,_⟩:=Ext.parts bE Aw;have F7:=Ba D2 k1;refine AT.Bk ⟨λ_=>⟨b2,o2,rfl,by decide,4,0,60,0,q2,0,e2,0,0,by simpa using fX,λ_=>⟨b,0,rfl,Q.rd,AJ F7 rfl,λ_=>⟨λ_=>⟨λ_=>⟨Q.fl,AJ F7 rfl,λ_=>⟨some fm,AJ F7 rfl,?_⟩,λG=>absurd h3 G⟩,λG=>absurd (by decide) G⟩,λG=>absurd (by decide) G⟩,λG=>(by rw[h2]at G;cases G)⟩⟩,λG=>absurd (by decide) G⟩;refine(H9 D2 h.ff).lO RY ⟨_,rfl,λh0 b62 h62=>?_,λh0=>?_⟩
 .obtain⟨r62,m62⟩:=or_none h62;refine Pc (Z0:=ρ2.or M) (n:=0) (m:=1) (cs:=[]) (ys:=[.U 4]) (.refl _) BH.nil rfl (λu hu=>by simp only[Ai2]at hu;subst hu;rfl) (by decide) (λp c Z3 ho B0 _=>⟨_,_,_,rfl,AT.R4 ⟨iK (by decide),AT.Bk ⟨λG=>absurd G (by decide),λ_=>?_⟩⟩⟩) h62;obtain⟨ρ3,X3,D3,rfl,X4⟩:=Ext.parts D2 B0;exact hR h0 ρ3 p c (BS.trans (X2.trans X3)) D3 ((DS.rd (xs:=[4]) ho).mono X4) (BH.cap ho)
 .exact AT.R4 ⟨iK (by decide),AT.Bk ⟨λG=>absurd G (by decide),λ_=>Mf h0 ρ2 (BS.trans X2) D2⟩⟩
end
end TwW
end
section
namespace TwW
open Go Tw
section
variable {F:Fl}{ss ss':List Sr}{t:Int}
def Bh:List (Int×Int)->List (Int×Int)->List (Int×Int)
 | [],b=>b
 | a,[]=>a
 | x::a,y::b=>if x.1<y.1 then x::Bh a (y::b) else if y.1<x.1 then y::Bh (x::a) b else(x.1,if x.2<y.2 then y.2 else x.2)::Bh a b
termination_by a b=>a.length+b.length
def CK:List Sr->List Sr->List Sr
 | [],b=>b
 | a,[]=>a
 | x::a,y::b=>if A3 x.ls y.ls<0 then x::CK a (y::b) else if 0<A3 x.ls y.ls then y::CK (x::a) b else⟨x.ls,Bh x.ps y.ps⟩::CK a b
termination_by a b=>a.length+b.length
theorem P4 (b:List Sr):CK [] b=b:=by rw[CK]
end
end TwW
end
section
namespace TwW
open Go Tw Go.RowKit Go.Proofs.Tryz
theorem Dy (a:List Pt):Bh a []=a:=by cases a<;>rw[Bh];intro h;cases h
theorem CV (b:List Pt):Bh [] b=b:=by rw[Bh]
theorem F3 {x y:Pt}{a b:List Pt}:Bh (x::a) (y::b)=if x.1<y.1 then x::Bh a (y::b) else if y.1<x.1 then y::Bh (x::a) b else(x.1,if x.2<y.2 then y.2 else x.2)::Bh a b:=by rw[Bh]
theorem Sg (a:List Sr):CK a []=a:=by cases a<;>rw[CK];intro h;cases h
theorem P5 {x y:Sr}{a b:List Sr}:CK (x::a) (y::b)=if A3 x.ls y.ls<0 then x::CK a (y::b) else if 0<A3 x.ls y.ls then y::CK (x::a) b else⟨x.ls,Bh x.ps y.ps⟩::CK a b:=by rw[CK]
theorem PM:∀(a b:List Pt),(Bh a b).length<=a.length+b.length
 | [],b=>by rw[CV];simp
 | x::a,[]=>by rw[Dy];simp
 | x::a,y::b=>by
  rw[F3];have G:=PM a (y::b);have h2:=PM (x::a) b;have h3:=PM a b;simp only[Aix]at *;split
  .simp only[Aix];omega
  .split
   .simp only[Aix];omega
   .simp only[Aix];omega
termination_by a b=>a.length+b.length
abbrev PN (x y:Sr):Prop:=A3 x.ls y.ls<0
end TwW
end
section
namespace TwW
open Go Tw
theorem ACA:∀{l:List Sr} {q:Option (List Lb)},(∀s∈l,VF s.ls=0/\PD s.ps=true)->l.Pairwise PN->(∀k,q=some k->∀s∈l,A3 k s.ls<0)->Da q l=true
 | [],q,_,_,_=>by cases q<;>rfl
 | e::l,q,h1,G,h3=>by
  have G:=AjY.1 G;rw[Pu];simp only[AjD,AjH];refine⟨⟨h1 e (by simp),?_⟩,ACA (λu hu=>h1 u (Aiz _ hu)) G.2 λk hk u hu=>by cases hk;exact G.1 u hu⟩;cases q with
  | none=>rfl
  | some k=>exact AjC (h3 k rfl e (by simp))
abbrev ltP (x y:Pt):Prop:=x.1<y.1
theorem ALu {ps:List Pt}(G:ps≠[])(h:ps.Pairwise ltP):PD ps=true:=(Kc _).2 ⟨All.2 G,λj a b ha hb=>by
 obtain⟨i1,i2⟩:=Ai0.1 ha;obtain⟨k1,k2⟩:=Ai0.1 hb;have:=Ajx.1 h j (j+1) i1 k1 (by omega);rwa[i2,k2]at this⟩
theorem pX {ps:List Pt}(h:PD ps=true):ps≠[]/\ps.Pairwise ltP:=by
 refine⟨λe=>(by rw[e]at h;cases h),?_⟩;have hs:=((Kc _).1 h).2;refine Ajx.2 λi j hi G Vq=>?_;have key:∀d i (hi:i<ps.length) (G:i+d+1<ps.length),ps[i].1<ps[i+d+1].1:=λd=>by
  induction d with
  | zero=>exact λi hi G=>hs i _ _ (Ai3 hi) (Ai3 G)
  | succ d ih=>
   intro i hi G;have h1:=ih i hi (by omega);have h2:=hs (i+d+1) _ _ (Ai3 (by omega)) (Ai3 (by omega:i+d+1+1<ps.length));have e:i+(d+1)+1=i+d+1+1:=by omega
   simp only[e];omega
 have:=key (j-i-1) i hi (by omega);have e:i+(j-i-1)+1=j:=by omega
 simp only[e]at this;exact this
theorem FU:∀(a b:List Sr),∀s∈CK a b,s∈a\/s∈b\/∃x∈a,∃y∈b,s=⟨x.ls,Bh x.ps y.ps⟩/\x.ls=y.ls
 | [],b=>λs G=>by rw[P4]at G;exact .inr (.inl G)
 | x::a,[]=>λs G=>by rw[Sg]at G;exact .inl G
 | x::a,y::b=>λs G=>by
  rw[P5]at G;split at G
  .rcases Ai1.1 G with rfl|G
   .exact .inl (AjG ..)
   .rcases FU a (y::b) s G with h1|h1|⟨w,h1,v,h2,h3⟩
    .exact .inl (Aiz _ h1)
    .exact .inr (.inl h1)
    .exact .inr (.inr ⟨w,Aiz _ h1,v,h2,h3⟩)
  .rename_i h;split at G
   .rcases Ai1.1 G with rfl|G
    .exact .inr (.inl (AjG ..))
    .rcases FU (x::a) b s G with h1|h1|⟨w,h1,v,h2,h3⟩
     .exact .inl h1
     .exact .inr (.inl (Aiz _ h1))
     .exact .inr (.inr ⟨w,h1,v,Aiz _ h2,h3⟩)
   .rename_i h';rcases Ai1.1 G with rfl|G
    .exact .inr (.inr ⟨x,AjG ..,y,AjG ..,rfl,(Aa.eq _ _).1 (by omega)⟩)
    .rcases FU a b s G with h1|h1|⟨w,h1,v,h2,h3⟩
     .exact .inl (Aiz _ h1)
     .exact .inr (.inl (Aiz _ h1))
     .exact .inr (.inr ⟨w,Aiz _ h1,v,Aiz _ h2,h3⟩)
termination_by a b=>a.length+b.length
theorem Eu:∀(a b:List Sr),a.Pairwise PN->b.Pairwise PN->(CK a b).Pairwise PN
 | [],b,_,hb=>by rw[P4];exact hb
 | x::a,[],ha,_=>by rw[Sg];exact ha
 | x::a,y::b,ha,hb=>by
  obtain⟨a1,a2⟩:=AjY.1 ha;obtain⟨b1,b2⟩:=AjY.1 hb;rw[P5];split
  .rename_i h;refine AjY.2 ⟨λz hz=>?_,Eu a (y::b) a2 hb⟩;rcases FU a (y::b) z hz with G|G|⟨w,G,v,h2,h3,_⟩
   .exact a1 z G
   .rcases Ai1.1 G with rfl|G
    .exact h
    .exact Aa.trans _ _ _ h (b1 z G)
   .subst h3;exact a1 w G
  .rename_i h;split
   .rename_i h';have h4:PN y x:=(Aa.RO _ _).2 h';refine AjY.2 ⟨λz hz=>?_,Eu (x::a) b ha b2⟩;rcases FU (x::a) b z hz with G|G|⟨w,G,v,h2,h3,h5⟩
    .rcases Ai1.1 G with rfl|G
     .exact h4
     .exact Aa.trans _ _ _ h4 (a1 z G)
    .exact b1 z G
    .subst h3;show A3 y.ls w.ls<0
     rw[h5];exact b1 v h2
   .rename_i h';have Gz:x.ls=y.ls:=(Aa.eq _ _).1 (by omega);refine AjY.2 ⟨λz hz=>?_,Eu a b a2 b2⟩;rcases FU a b z hz with G|G|⟨w,G,v,h2,h3,h5⟩
    .exact a1 z G
    .show A3 x.ls z.ls<0
     rw[Gz];exact b1 z G
    .subst h3;exact a1 w G
termination_by a b=>a.length+b.length
def DP:List Sr->List Lb->Option (List Pt)
 | [],_=>none
 | s::M,k=>if s.ls=k then some s.ps else DP M k
def AI1:List Sr->List Lb->Pt->List Sr
 | [],k,x=>[⟨k,[x]⟩]
 | s::M,k,x=>if s.ls=k then⟨k,s.ps++[x]⟩::M else s::AI1 M k x
abbrev ALv (M:List Sr):Prop:=(M.map (·.ls)).Nodup
theorem Jn:∀{M:List Sr} {k:List Lb},(∀s∈M,s.ls≠k)->DP M k=none
 | [],_,_=>rfl
 | s::M,k,h=>by rw[DP,Aiw (h s (by simp))];exact Jn λu G=>h u (Aiz _ G)
theorem Yf:∀{M:List Sr} {k:List Lb} {p:List Pt},DP M k=some p->(⟨k,p⟩:Sr)∈M
 | s::M,k,p,h=>by
  rw[DP]at h;split at h
  .rename_i e;cases h;subst e;exact AjG ..
  .exact Aiz _ (Yf h)
theorem ACB:∀{M:List Sr} {s:Sr},ALv M->s∈M->DP M s.ls=some s.ps
 | u::M,s,hn,G=>by
  obtain⟨h1,h2⟩:=Aj0.1 (show(u.ls::M.map (·.ls)).Nodup from hn);rw[DP];rcases Ai1.1 G with rfl|G
  .rw[Aiy rfl]
  .rw[Aiw λe=>h1 (by rw[e];exact Ajf.2 ⟨s,G,rfl⟩)];exact ACB h2 G
theorem Qu {x y:Sr}(h:PN x y):x.ls≠y.ls:=λe=>by
 have:=(Aa.eq _ _).2 e;omega
theorem ACC {M:List Sr}(h:M.Pairwise PN):ALv M:=Alz.2 (h.imp λh=>Qu h)
theorem ACD:∀{M N:List Sr},M.Pairwise PN->N.Pairwise PN->(∀k,DP M k=DP N k)->M=N
 | [],[],_,_,_=>rfl
 | [],s::N,_,_,h=>by have:=h s.ls;rw[DP,DP,Aiy rfl]at this;cases this
 | s::M,[],_,_,h=>by have:=h s.ls;rw[DP,DP,Aiy rfl]at this;cases this
 | x::M,y::N,hm,hn,h=>by
  obtain⟨m1,m2⟩:=AjY.1 hm;obtain⟨n1,n2⟩:=AjY.1 hn;have hx:DP (y::N) x.ls=some x.ps:=by rw[<-h,DP,Aiy rfl]
  have hy:DP (x::M) y.ls=some y.ps:=by rw[h,DP,Aiy rfl]
  have e:x.ls=y.ls:=by
   rcases Ai1.1 (Yf hx) with e|e
   .exact Ai8 Sr.ls e
   .rcases Ai1.1 (Yf hy) with G|G
    .exact(Ai8 Sr.ls G).symm
    .have h1:A3 y.ls x.ls<0:=n1 _ e;have h2:A3 x.ls y.ls<0:=m1 _ G;have:=(Aa.RO _ _).1 h1;omega
  have hp:x.ps=y.ps:=by
   rw[e,DP,Aiy rfl]at hx;exact(Ajv hx).symm
  have Gz:x=y:=by cases x;cases y;simp only at e hp;rw[e,hp]
  subst Gz;rw[ACD m2 n2 λk=>by
   by_cases hk:x.ls=k
   .subst hk;rw[Jn λs hs=>(Qu (m1 s hs)).symm,Jn λs hs=>(Qu (n1 s hs)).symm]
   .have:=h k;rw[DP,DP,Aiw hk,Aiw hk]at this;exact this]
theorem gI:∀(a b:List Sr),a.Pairwise PN->b.Pairwise PN->∀k,DP (CK a b) k=match DP a k,DP b k with
  | none,o=>o
  | some p,none=>some p
  | some p,some q=>some (Bh p q)
 | [],b,_,_,k=>by rw[P4];rfl
 | x::a,[],_,_,k=>by rw[Sg,show DP [] k=none from rfl];cases DP (x::a) k<;>rfl
 | x::a,y::b,ha,hb,k=>by
  obtain⟨a1,a2⟩:=AjY.1 ha;obtain⟨b1,b2⟩:=AjY.1 hb;rw[P5];split
  .rename_i h;rw[DP,gI a (y::b) a2 hb k];by_cases G:x.ls=k
   .have e:DP (y::b) k=none:=Jn λs hs e=>by
     subst G;rcases Ai1.1 hs with rfl|hs
     .exact Qu h e.symm
     .exact Qu (Aa.trans _ _ _ h (b1 s hs)) e.symm
    rw[Aiy G,e,DP,Aiy G]
   .rw[Aiw G,show DP (x::a) k=DP a k by rw[DP,Aiw G]]
  .rename_i h;split
   .rename_i h';have h4:PN y x:=(Aa.RO _ _).2 h';rw[DP,gI (x::a) b ha b2 k];by_cases G:y.ls=k
    .have e:DP (x::a) k=none:=Jn λs hs e=>by
      subst G;rcases Ai1.1 hs with rfl|hs
      .exact Qu h4 e.symm
      .exact Qu (Aa.trans _ _ _ h4 (a1 s hs)) e.symm
     rw[Aiy G,e,DP,Aiy G]
    .rw[Aiw G,show DP (y::b) k=DP b k by rw[DP,Aiw G]]
   .have Gz:x.ls=y.ls:=(Aa.eq _ _).1 (by omega);rw[DP,gI a b a2 b2 k,DP,DP];by_cases G:x.ls=k
    .rw[Aiy G,Aiy G,Aiy (Gz▸G)]
    .rw[Aiw G,Aiw G,Aiw (Gz▸G)]
termination_by a b=>a.length+b.length
theorem PO:∀(a b:List Sr),(CK a b).length<=a.length+b.length
 | [],b=>by rw[P4];simp
 | x::a,[]=>by rw[Sg];simp
 | x::a,y::b=>by
  rw[P5];have G:=PO a (y::b);have h2:=PO (x::a) b;have h3:=PO a b;simp only[Aix]at G h2 h3 ⊢;split
  .simp only[Aix];omega
  .split<;>(simp only[Aix];omega)
termination_by a b=>a.length+b.length
structure Iv (t:Int)(c:Nat)(G M:List Sr):Prop where
 key:ALv G
 ok:Da none M=true
 lk:∀k,DP G k=DP M k
 tm:∀s∈M,(∀p∈s.ps,p.1<t)/\s.ps.length<=c
end TwW
end
section
namespace TwW
open Go Tw
theorem P6:∀(a b:List Pt),Bh a b=Bh b a
 | [],b=>by rw[CV,Dy]
 | x::a,[]=>by rw[CV,Dy]
 | x::a,y::b=>by
  rw[F3,F3];by_cases G:x.1<y.1
  .rw[Aiy G,Aiw (by omega),Aiy G,P6 a (y::b)]
  .rw[Aiw G];by_cases h2:y.1<x.1
   .rw[Aiy h2,Aiy h2,P6 (x::a) b]
   .rw[Aiw h2,Aiw h2,Aiw G,P6 a b];have e1:x.1=y.1:=by omega
    have e2:(if x.2<y.2 then y.2 else x.2)=(if y.2<x.2 then x.2 else y.2):=by
     by_cases h3:x.2<y.2
     .rw[Aiy h3,Aiw (by omega)]
     .rw[Aiw h3];by_cases h4:y.2<x.2
      .rw[Aiy h4]
      .rw[Aiw h4];omega
    rw[e1,e2]
termination_by a b=>a.length+b.length
def Yg (O:List Sr)(s:Sr):List Sr:=match O.getLast? with
 | some u=>if u.ls=s.ls then O.dropLast++[⟨u.ls,Bh u.ps s.ps⟩] else O++[s]
 | none=>O++[s]
theorem lQ {O:List Sr}{u s:Sr}(h:u.ls=s.ls):Yg (O++[u]) s=O++[⟨u.ls,Bh u.ps s.ps⟩]:=by
 unfold Yg;rw[List.getLast?_append];simp[h]
theorem AFu {O:List Sr}{s:Sr}(h:∀u∈O,u.ls≠s.ls):Yg O s=O++[s]:=by
 unfold Yg;cases G:O.getLast? with
 | none=>rfl
 | some u=>dsimp only;rw[Aiw (h u (List.mem_of_getLast? G))]
inductive Pk:List Sr->List Sr->List Sr->Prop
 | nil:Pk [] [] []
 | left {a:Sr} {A B ys:List Sr}:(∀b,B.head?=some b->¬A3 b.ls a.ls<0)->Pk A B ys->Pk (a::A) B (a::ys)
 | right {b:Sr} {A B ys:List Sr}:(∀a,A.head?=some a->¬A3 a.ls b.ls<0)->Pk A B ys->Pk A (b::B) (b::ys)
end TwW
end
section
namespace TwW
open Go Tw
section
variable {x y z:Pt}{a b c:List Pt}
theorem tD (h:x.1<y.1):Bh (x::a) (y::b)=x::Bh a (y::b):=by rw[F3,Aiy h]
theorem iA (h:y.1<x.1):Bh (x::a) (y::b)=y::Bh (x::a) b:=by rw[F3,Aiw (by omega),Aiy h]
theorem pY (h:x.1=y.1):Bh (x::a) (y::b)=(x.1,if x.2<y.2 then y.2 else x.2)::Bh a b:=by rw[F3,Aiw (by omega),Aiw (by omega)]
theorem qM1 {t v:Int}(h:t<y.1):Bh ((t,v)::a) (y::b)=(t,v)::Bh a (y::b):=tD h
theorem qM2 {t v:Int}(h:y.1<t):Bh ((t,v)::a) (y::b)=y::Bh ((t,v)::a) b:=iA h
theorem qM3 {t v:Int}(h:t=y.1):Bh ((t,v)::a) (y::b)=(t,if v<y.2 then y.2 else v)::Bh a b:=pY h
theorem rM1 {t v:Int}(h:x.1<t):Bh (x::a) ((t,v)::b)=x::Bh a ((t,v)::b):=tD h
theorem rM2 {t v:Int}(h:t<x.1):Bh (x::a) ((t,v)::b)=(t,v)::Bh (x::a) b:=iA h
theorem rM3 {t v:Int}(h:x.1=t):Bh (x::a) ((t,v)::b)=(x.1,if x.2<v then v else x.2)::Bh a b:=pY h
end
theorem dM:∀a:List Pt,Bh a a=a
 | []=>Dy []
 | x::a=>by
  rw[pY rfl,dM a,Aiw (by omega)]
theorem pZ:∀(n:Nat) (a b c:List Pt),a.length+b.length+c.length<=n->Bh (Bh a b) c=Bh a (Bh b c):=by
 intro n
 induction n with
 | zero=>
  intro a b c h;obtain rfl:a=[]:=AjL (by omega);rw[CV,CV]
 | succ n ih=>
  intro a b c h;cases a with
  | nil=>rw[CV,CV]
  | cons x a=>
   cases b with
   | nil=>rw[Dy,CV]
   | cons y b=>
    cases c with
    | nil=>rw[Dy,Dy]
    | cons z c=>
     simp only[Aix]at h;have i1:=ih a (y::b) (z::c) (by simp only[Aix];omega);have i2:=ih (x::a) b (z::c) (by simp only[Aix];omega);have i3:=ih (x::a) (y::b) c (by simp only[Aix];omega);have i4:=ih a (y::b) c (by simp only[Aix];omega);have i5:=ih (x::a) b c (by simp only[Aix];omega);have i6:=ih a b (z::c) (by simp only[Aix];omega);have i7:=ih a b c (by omega);rcases AkT x.1 y.1 with G|G|G
     .rcases AkT x.1 z.1 with pd|pd|pd
      .rw[tD G,tD pd,i1];rcases AkT y.1 z.1 with Rh|Rh|Rh
       .rw[tD Rh,tD G]
       .rw[pY Rh,rM1 G]
       .rw[iA Rh,tD pd]
      .rw[tD G,pY pd,i4,iA (x:=y) (y:=z) (by omega),pY pd]
      .rw[iA (x:=y) (y:=z) (by omega),iA pd,<-i3,tD G,iA pd]
     .rcases AkT x.1 z.1 with pd|pd|pd
      .rw[pY G,qM1 pd,i6,tD (x:=y) (y:=z) (by omega),pY G]
      .rw[pY G,qM3 pd,i7,pY (x:=y) (y:=z) (by omega),rM3 G]
       congr 2
       try dsimp only
       (repeat' split)<;>omega
      .rw[iA (x:=y) (y:=z) (by omega),iA pd,<-i3,pY G,qM2 pd]
     .rcases AkT y.1 z.1 with Rh|Rh|Rh
      .rw[iA G,tD Rh,i2,tD Rh,iA G]
      .rw[iA G,pY Rh,i5,pY Rh,rM2 G]
      .rw[iA (x:=y) (y:=z) Rh,iA (x:=x) (y:=z) (by omega),<-i3,iA G,iA Rh]
def GD:Option (List Pt)->Option (List Pt)->Option (List Pt)
 | some x,some y=>some (Bh x y)
 | some x,none=>some x
 | none,o=>o
theorem Yh {a b:List Sr}(G:a.Pairwise PN)(hb:b.Pairwise PN)(k:List Lb):DP (CK a b) k=GD (DP a k) (DP b k):=by
 rw[gI a b G hb k];cases DP a k<;>cases DP b k<;>rfl
theorem F5 (x y z:Option (List Pt)):GD (GD x y) z=GD x (GD y z):=by
 cases x<;>cases y<;>cases z<;>simp only[GD];exact Ai8 some (pZ _ _ _ _ (Ai7 _))
end TwW
end
section
namespace TwW
open Go Tw
def Ri (a b:List Lb):Prop:=¬A3 b a<0
theorem Ri.tr {a b c:List Lb}(h1:Ri a b)(G:Ri b c):Ri a c:=λh=>by
 by_cases h3:A3 a b<0
 .exact G (Aa.trans _ _ _ h h3)
 .have h4:¬0<A3 a b:=λhh=>h1 ((Aa.RO _ _).2 hh);obtain rfl:=(Aa.eq a b).1 (by omega);exact G h
theorem Ri.lt {a b:List Lb}(h:A3 a b<0):Ri a b:=λG=>by have:=(Aa.RO _ _).1 G;omega
theorem Ri.re (a:List Lb):Ri a a:=λh=>by have:=(Aa.eq a a).2 rfl;omega
theorem Ri.ne {a b:List Lb}(h:Ri a b)(hn:a≠b):A3 a b<0:=by
 have h1:¬0<A3 a b:=λG=>h ((Aa.RO _ _).2 G);have h2:A3 a b≠0:=λe=>hn ((Aa.eq _ _).1 e);omega
abbrev mQ (a c:Nat):Prop:=c=2*a+1\/c=2*a+2
def dO (f:Nat->List Lb)(n:Nat):Prop:=∀a c,mQ a c->c<n->Ri (f a) (f c)
def swF (f:Nat->List Lb)(i j k:Nat):List Lb:=if k=i then f j else if k=j then f i else f k
section
variable {f g:Nat->List Lb}{n i j k:Nat}
theorem dP:swF f i j i=f j:=Aiy rfl
theorem lR:swF f i j j=f i:=by
 unfold swF;by_cases h:j=i
 .rw[Aiy h,h]
 .rw[Aiw h,Aiy rfl]
theorem PQ (G:k≠i)(h2:k≠j):swF f i j k=f k:=by unfold swF;rw[Aiw G,Aiw h2]
structure xY (f:Nat->List Lb)(n i:Nat):Prop where
 o:∀a c,mQ a c->c<n->a≠i->Ri (f a) (f c)
 g:∀a c,mQ a i->mQ i c->c<n->Ri (f a) (f c)
theorem xY.fin (h:xY f n i)(hc:∀c,mQ i c->c<n->Ri (f i) (f c)):dO f n:=λa c G hn=>by
 by_cases e:a=i
 .subst e;exact hc c G hn
 .exact h.o a c G hn e
theorem xY.step (h:xY f n i)(hj:mQ i j)(hn:j<n)(Ax:A3 (f j) (f i)<0)(ho:∀c,mQ i c->c<n->Ri (f j) (f c)):xY (swF f i j) n j:=by
 refine⟨λa c ha hc Ad=>?_,λa c ha hc hcn=>?_⟩
 .by_cases e:a=i
  .subst e;rw[dP];by_cases G:c=j
   .subst G;rw[lR];exact .lt Ax
   .rw[PQ (by omega) G];exact ho c ha hc
  .rw[PQ e Ad];by_cases G:c=i
   .subst G;rw[dP];exact h.g a j ha hj hn
   .rw[PQ G (by omega)];exact h.o a c ha hc e
 .obtain rfl:a=i:=by omega
  rw[dP,PQ (by omega) (by omega)];exact h.o j c hc hcn (by omega)
structure HuO (f:Nat->List Lb)(n j:Nat):Prop where
 o:∀a c,mQ a c->c<n->c≠j->Ri (f a) (f c)
 g:∀a c,mQ a j->mQ j c->c<n->Ri (f a) (f c)
theorem HuO.fin (h:HuO f n j)(hc:∀a,mQ a j->Ri (f a) (f j)):dO f n:=λa c G hn=>by
 by_cases e:c=j
 .subst e;exact hc a G
 .exact h.o a c G hn e
theorem HuO.step (h:HuO f n j)(hj:mQ i j)(hn:j<n)(Ax:A3 (f j) (f i)<0):HuO (swF f i j) n i:=by
 have hi:∀a,mQ a i->Ri (f a) (f i):=λa G=>h.o a i G (by omega) (by omega);refine⟨λa c G hc Ad=>?_,λa c G hc hcn=>?_⟩
 .by_cases e:c=j
  .subst e;obtain rfl:a=i:=by omega
   rw[dP,lR];exact .lt Ax
  .rw[PQ Ad e];by_cases e1:a=i
   .subst e1;rw[dP];exact(Ri.lt Ax).tr (h.o a c G hc e)
   .by_cases e2:a=j
    .subst e2;rw[lR];exact h.g i c hj G hc
    .rw[PQ e1 e2];exact h.o a c G hc e
 .rw[PQ (by omega) (by omega)];by_cases e:c=j
  .subst e;rw[lR];exact hi a G
  .rw[PQ (by omega) e];exact(hi a G).tr (h.o i c hc hcn e)
theorem dO.up (h:dO f n)(G:∀i<n,g i=f i):HuO g (n+1) n:=⟨λa c ha hc Ad=>by rw[G a (by omega),G c (by omega)];exact h a c ha (by omega),λa c _ hc hn=>by omega⟩
theorem dO.down (h:dO f n)(he:∀i<n,i≠0->g i=f i):xY g n 0:=⟨λa c G hc Ad=>by rw[he a (by omega) Ad,he c (by omega) (by omega)];exact h a c G hc,λa c G=>by omega⟩
theorem dO.congr (h:dO f n)(he:∀i<n,g i=f i):dO g n:=λa c ha G=>by rw[he a (by omega),he c G];exact h a c ha G
theorem xY.congr (h:xY f n i)(he:∀k<n,g k=f k):xY g n i:=⟨λa c ha G Ad=>by rw[he a (by omega),he c G];exact h.o a c ha G Ad,λa c ha G hn=>by rw[he a (by omega),he c hn];exact h.g a c ha G hn⟩
theorem HuO.congr (h:HuO f n i)(he:∀k<n,g k=f k):HuO g n i:=⟨λa c ha G Ad=>by rw[he a (by omega),he c G];exact h.o a c ha G Ad,λa c ha G hn=>by rw[he a (by omega),he c hn];exact h.g a c ha G hn⟩
theorem dO.min (h:dO f n):∀(m i:Nat),i<=m->i<n->Ri (f 0) (f i):=by
 intro m
 induction m with
 | zero=>
  intro i hi _;obtain rfl:i=0:=by omega
  exact .re _
 | succ m ih=>
  intro i hi hn;by_cases G:i=0
  .subst G;exact .re _
  .exact(ih ((i-1)/2) (by omega) (by omega)).tr (h _ i (by omega) hn)
end
theorem Yi (x y:Option (List Pt)):GD x y=GD y x:=by
 cases x<;>cases y<;>simp only[GD];exact Ai8 some (P6 _ _)
theorem Ki (x:Option (List Pt)):GD x none=x:=by cases x<;>rfl
theorem ACE (x:Option (List Pt)):GD x x=x:=by
 cases x<;>simp only[GD];exact Ai8 some (dM _)
theorem Yj (x y z:Option (List Pt)):GD x (GD y z)=GD y (GD x z):=by rw[<-F5,Yi x y,F5]
def dQ (Xs:List (List Sr))(k:List Lb):Option (List Pt):=Xs.foldr (λX o=>GD (DP X k) o) none
theorem C1 (X:List Sr)(Xs:List (List Sr))(k:List Lb):dQ (X::Xs) k=GD (DP X k) (dQ Xs k):=rfl
theorem tE {Xs G:List (List Sr)}(h:Xs.Perm G)(k:List Lb):dQ Xs k=dQ G k:=by
 induction h with
 | nil=>rfl
 | cons _ _ ih=>rw[C1,C1,ih]
 | swap _ _ _=>rw[C1,C1,C1,C1,Yj]
 | trans _ _ h1 h2=>rw[h1,h2]
def sgO (s:Sr)(k:List Lb):Option (List Pt):=if s.ls=k then some s.ps else none
theorem AFv {s:Sr}{X:List Sr}(h:(s::X).Pairwise PN)(k:List Lb):DP (s::X) k=GD (sgO s k) (DP X k):=by
 rw[DP];unfold sgO;by_cases e:s.ls=k
 .rw[Aiy e,Aiy e,Jn λu G=>by rw[<-e];exact(Qu ((AjY.1 h).1 u G)).symm];rfl
 .rw[Aiw e,Aiw e];rfl
theorem pf (A B:List Sr)(k:List Lb):DP (A++B) k=(DP A k).or (DP B k):=by
 induction A with
 | nil=>rfl
 | cons s A G=>
  rw[Ajp,DP,DP,G];split<;>rfl
theorem ALx {O:List Sr}{s:Sr}(ho:O.Pairwise PN)(hs:∀u∈O,Ri u.ls s.ls):(∀k,DP (Yg O s) k=GD (DP O k) (sgO s k))/\(Yg O s).Pairwise PN/\∀u∈Yg O s,Ri u.ls s.ls:=by
 by_cases hn:∀u∈O,u.ls≠s.ls
 .have Ax:∀u∈O,PN u s:=λu G=>(hs u G).ne (hn u G);rw[AFu hn];refine⟨λk=>?_,Akt.2 ⟨ho,by simp,λa ha b hb=>by rw[Ai2]at hb;subst hb;exact Ax a ha⟩,λu G=>?_⟩
  .rw[pf];show(DP O k).or (sgO s k)=_
   unfold sgO;by_cases e:s.ls=k
   .rw[Jn λu G=>by rw[<-e];exact hn u G];rfl
   .rw[Aiw e,Ki];cases DP O k<;>rfl
  .rcases AjU.1 G with G|G
   .exact hs u G
   .rw[Ai2]at G;subst G;exact .re _
 .rcases AmK O with rfl|⟨O',u,rfl⟩
  .exact absurd (λu G=>by cases G) hn
  rw[AmL]at ho hs hn ⊢;obtain⟨o1,_,o3⟩:=Akt.1 ho;have o3:∀a∈O',PN a u:=λa ha=>o3 a ha u (by simp);have hus:=hs u (by simp);have e:u.ls=s.ls:=AlD λAd=>hn λv hv=>by
   rcases AjU.1 hv with hv|hv
   .exact Qu (Aa.trans _ _ _ (o3 v hv) (hus.ne Ad))
   .rw[Ai2]at hv;subst hv;exact Ad
  rw[lQ e];refine⟨λk=>?_,Akt.2 ⟨o1,by simp,λa ha b hb=>by rw[Ai2]at hb;subst hb;exact o3 a ha⟩,λv hv=>?_⟩
  .rw[pf,pf];show(DP O' k).or (if u.ls=k then some (Bh u.ps s.ps) else none)=GD ((DP O' k).or (if u.ls=k then some u.ps else none)) (sgO s k)
   unfold sgO;by_cases e2:u.ls=k
   .rw[Aiy e2,Aiy e2,Aiy (e▸e2),Jn λv hv=>by rw[<-e2];exact Qu (o3 v hv)];rfl
   .rw[Aiw e2,Aiw e2,Aiw (e▸e2),Ki]
  .rcases AjU.1 hv with hv|hv
   .exact hs v (AkI _ hv)
   .rw[Ai2]at hv;subst hv;exact hus
def mgF (Xs:List (List Sr)):List Sr:=Xs.foldl CK []
theorem ACF:∀(Xs:List (List Sr)) (Z:List Sr),Z.Pairwise PN->(∀X∈Xs,X.Pairwise PN)->(Xs.foldl CK Z).Pairwise PN/\∀k,DP (Xs.foldl CK Z) k=GD (DP Z k) (dQ Xs k)
 | [],Z,G,_=>⟨G,λk=>(Ki _).symm⟩
 | X::Xs,Z,G,hx=>by
  have hX:=hx X (by simp);obtain⟨h1,h2⟩:=ACF Xs (CK Z X) (Eu _ _ G hX) λY hY=>hx Y (Aiz _ hY);refine⟨h1,λk=>?_⟩;rw[Akz,h2,Yh G hX,C1,F5]
theorem AIV {Xs:List (List Sr)}{O:List Sr}(hx:∀X∈Xs,X.Pairwise PN)(ho:O.Pairwise PN)(h:∀k,DP O k=dQ Xs k):O=mgF Xs:=by
 obtain⟨G,h2⟩:=ACF Xs [] List.Pairwise.nil hx;exact ACD ho G λk=>by rw[h];exact(h2 k).symm
theorem ALz {a b c:List Sr}(G:a.Pairwise PN)(hb:b.Pairwise PN)(hc:c.Pairwise PN):CK (CK (CK (CK [] c) a) b) a=mgF [a,b,c]:=by
 have n0:([]:List Sr).Pairwise PN:=List.Pairwise.nil;have s1:=Eu _ _ n0 hc;have s2:=Eu _ _ s1 G;have s3:=Eu _ _ s2 hb;refine AIV (λX hX=>?_) (Eu _ _ s3 G) λk=>?_
 .simp only[Ai1,AjK,Ajl]at hX;rcases hX with rfl|rfl|rfl<;>assumption
 .rw[Yh s3 G,Yh s2 hb,Yh s1 G,Yh n0 hc,C1,C1,C1];show GD (GD (GD (DP c k) (DP a k)) (DP b k)) (DP a k)=GD (DP a k) (GD (DP b k) (GD (DP c k) none))
  generalize DP a k=x;generalize DP b k=y;generalize DP c k=z;rw[Ki,Yi _ x,F5 z x y,Yj x z,<-F5 x x y,ACE,Yj z x y,Yi z y]
end TwW
end
section
namespace TwW
open Go Tw Go.RowKit Go.Proofs.Tryz
theorem AFw:∀w,(Go.sizeOf 111).run prog w=.ok 2 w:=λw=>by kernel_rfl
theorem AL0 {α:Type}{s:Nat}{E:Hp->List Value->α->Prop}{Z2:Hp}{p:Option Addr}{n c:Nat}{x:α}{xs:List α}(h:Af s E Z2 p n (x::xs))(hs:0<s)(G:n<=c):Af s E Z2 (E4 p 1 c s) (n-1) xs:=by
 have hn:(x::xs).length=n:=h.1;rw[Aix]at hn;have:=Af.sub h (i:=1) (m:=n-1) hs (by omega) G;rwa[List.drop_succ_cons,AlI,Ai4 (by omega)]at this
section
variable {α:Type}{s bs:Nat}{E:Hp->List Value->α->Prop}{Z0 Z2:Hp}{p q:Option Addr}{n c m d:Nat}{xs zs:List α}
theorem AN.AFx {T Et ty:TypeId}[J2 prog T Et s bs]{Φ:Value->Hp->Prop}(hE:HA E)(h1:∀Z2 vs x,E Z2 vs x->FZ vs)(hs:0<s)(h:AN s E Z0 Z2 p n c xs)(hy:Af s E Z0 q m zs)(hb:(n+m)*bs<=140737488355328)
  (hΦ:∀p' c' Z',AN s E Z0 Z' p' (n+m) c' (xs++zs)->Φ (.slice p' (n+m) c') Z'):AI prog (Builtin.append_ #[T,T] ty #[.slice p n c,.slice q m d]) Z2 Φ:=by
 obtain⟨⟨hl,cs,ho,hc⟩,sW⟩:=h;obtain⟨hz,ys,hy1,hy2,hy3⟩:=hy;have G:Ch s E Z0 ys zs:=⟨hy2,hy3⟩;exact D9 ho (hy1.mono (sW.trans (Ext.Kt _ _))) (Ch.uB h1 G hs) hb λp' c' Z' Di QO=>hΦ p' c' Z' ⟨⟨by rw[Ai5,hl,hz],_,Di,(hc.append (G.mono hE sW)).mono hE QO⟩,sW.trans QO⟩
end
section
variable {Z2:Hp}{R:Rr}
theorem gJ {p q:Option Addr}{n c m d:Nat}{a b:List Pt}(hr:Af 2 C9 Z2 p n a)(hs:Af 2 C9 Z2 q m b)(qf:n<=c)(kr:m<=d)(JR:n<=1000000000)(hm1:m<=1000000000)
  (h:∀p' n' c' Z',AN 2 C9 Z2 Z' p' n' c' (Bh a b)->R (.returned (.slice p' n' c')) Z'):Spec prog 37 #[.slice p n c,.slice q m d] Z2 R:=by
 refine BX.start ?_
 suffices H:∀(g:Nat) (a' b':List Pt) (pa pb:Option Addr) (na ca nb cb:Nat) (O22:Hp) (p5:Option Addr) (n5 c5:Nat) (out:List Pt),a'.length+b'.length<=g->Af 2 C9 Z2 pa na a'->na<=ca->Af 2 C9 Z2 pb nb b'->nb<=cb->AN 2 C9 Z2 O22 p5 n5 c5 out->n5+na+nb<=2000000000->out++Bh a' b'=Bh a b->BX.FV R pa na ca pb nb cb p5 n5 c5 O22 from
  H (a.length+b.length) a b p q n c m d Z2 none 0 0 [] (Ai7 _) hr qf hs kr (AN.nil (.refl _)) (by omega) rfl
 intro g
 induction g with
 | zero=>
  intro a' b' pa pb na ca nb cb O22 p5 n5 c5 out hg ha hca hb hcb ho h5 he;have e1:a'=[]:=AkH.1 (by omega);have e2:b'=[]:=AkH.1 (by omega);subst e1;subst e2;have hna:0=na:=ha.1;subst hna;refine BX.A9 ⟨λhh=>absurd hh (by decide),λ_=>?_⟩;refine AN.AFx C9.mono C9.one (by decide) ho ha (by omega) λp' c' Z' Di=>⟨_,_,_,rfl,AN.AFx C9.mono C9.one (by decide) Di hb (by omega) λp2 c2 Z22 Bq=>⟨_,_,_,rfl,?_⟩⟩;rw[Dy,Aj1]at he;rw[Aj1,Aj1,he]at Bq;exact h _ _ _ _ Bq
 | succ g ih=>
  intro a' b' pa pb na ca nb cb O22 p5 n5 c5 out hg ha hca hb hcb ho h5 he;have hup:=ho.up;have hla:a'.length=na:=ha.1;have hlb:b'.length=nb:=hb.1;have tail:(a'=[]\/b'=[])->AI prog (Builtin.append_ #[96,96] 96 #[.slice p5 n5 c5,.slice pa na ca]) O22 (CS λp63 n63 c63 y=>AI prog (Builtin.append_ #[96,96] 96 #[.slice p63 n63 c63,.slice pb nb cb]) y (CS λp65 n65 c65 AE=>R (.returned (.slice p65 n65 c65)) AE)):=λhab=>by
   refine AN.AFx C9.mono C9.one (by decide) ho ha (by omega) λp' c' Z' Di=>⟨_,_,_,rfl,AN.AFx C9.mono C9.one (by decide) Di hb (by omega) λp2 c2 Z22 Bq=>⟨_,_,_,rfl,?_⟩⟩;have e:out++a'++b'=Bh a b:=by
    rw[<-he,AjT];rcases hab with rfl|rfl
    .rw[CV];rfl
    .rw[Dy,Aj1]
   rw[e]at Bq;exact h _ _ _ _ Bq
  cases a' with
  | nil=>exact BX.A9 ⟨λhh=>by simp only[Ajw]at hla;omega,λ_=>tail (.inl rfl)⟩
  | cons x a'=>
   cases b' with
   | nil=>exact BX.A9 ⟨λ_=>⟨λhh=>by simp only[Ajw]at hlb;omega,λ_=>tail (.inr rfl)⟩,λ_=>tail (.inr rfl)⟩
   | cons y b'=>
    rw[Aix]at hla hlb;simp only[Aix]at hg;obtain⟨bx,ox,rfl,au⟩:=C9.at ha (i:=0) (x:=x) rfl;obtain⟨pT,oy,rfl,gq⟩:=C9.at hb (i:=0) (x:=y) rfl;rw[Akl,AkK]at au gq;have lx:=au.mono hup;have ly:=gq.mono hup;rw[F3]at he;have ta:=AL0 ha (by decide) hca;have tb:=AL0 hb (by decide) hcb;have one:In 0 (na:Int):=by unfold In;omega
    have two:In 0 (nb:Int):=by unfold In;omega
    have push:∀(z:Pt) (O1:Hp) (a2 b2:List Pt) (pa2 pb2:Option Addr) (G ca2 nb2 cb2:Nat),Ext O22 O1->a2.length+b2.length<=g->Af 2 C9 Z2 pa2 G a2->G<=ca2->Af 2 C9 Z2 pb2 nb2 b2->nb2<=cb2->G+nb2+1<=na+nb->(out++[z])++Bh a2 b2=Bh a b->
      Al O1 λbb=>AI prog (Builtin.append_ #[96,96] 96 #[.slice p5 n5 c5,(.slice (aD bb 0) 1 1)]) (Hp.set O1 bb (.cells #[.I z.1,.U z.2] 111 (0,0))) (CS λp' n' c' AE=>BX.FV R pa2 G ca2 pb2 nb2 cb2 p' n' c' AE):=λz O1 a2 b2 pa2 pb2 G ca2 nb2 cb2 hx h1 h2 h3 h4 h6 h7 h8 bb hbb=>
     AN.Ey (vs:=[.I z.1,.U z.2]) (x:=z) C9.mono (ho.mono C9.mono hx) rfl (C9.one O1 _ z rfl) rfl (by omega) (λp' c' O'2 Di _=>⟨_,_,_,rfl,ih a2 b2 pa2 pb2 G ca2 nb2 cb2 O'2 p' (n5+1) c' (out++[z]) h1 h2 h3 h4 h6 Di (by omega) h8⟩) hbb
    have body:∀b6:Nat,O22 b6=none->AI prog (Instr.storeAt 111 (.pointer (aD b6 0)) (.agg #[.I x.1,.U x.2])) (Hp.set O22 b6 (.cells #[.I 0,.U 0] 111 (0,0))) (λ_ yy=>Kp [pT] (Hp.set O22 b6 (.cells #[.I 0,.U 0] 111 (0,0))) yy/\LI .i64 yy b6 0 λx39=>Br (x39<y.1) (∃Jy Jz,Az yy b6 0 [.I Jy,.U Jz]/\((0:Int)<=1/\1<=(na:Int))/\Al yy λaW=>AI prog (Builtin.append_ #[96,96] 96 #[.slice p5 n5 c5,(.slice (aD aW 0) 1 1)]) (Hp.set yy aW (.cells #[.I Jy,.U Jz] 111 (0,0))) (CS λrY n46 oI AE=>BX.FV R (E4 (aD bx ox) 1 ca 2) (na-1) (ca-1) (aD pT oy) nb cb rY n46 oI AE)) (LI .i64 yy b6 0 λx53=>Br (y.1<x53) (((0:Int)<=1/\1<=(nb:Int))/\Al yy λQG=>AI prog (Builtin.append_ #[96,96] 96 #[.slice p5 n5 c5,(.slice (aD QG 0) 1 1)]) (Hp.set yy QG (.cells #[.I y.1,.U y.2] 111 (0,0))) (CS λaB UG cE AE=>BX.FV R (aD bx ox) na ca (E4 (aD pT oy) 1 cb 2) (nb-1) (cb-1) aB UG cE AE)) (LI .i64 yy b6 0 λPj=>LI .u64 yy b6 1 λaf=>((0:Int)<=1/\1<=(na:Int))/\((0:Int)<=1/\1<=(nb:Int))/\Al yy λvD=>AI prog (Builtin.append_ #[96,96] 96 #[.slice p5 n5 c5,(.slice (aD vD 0) 1 1)]) (Hp.set yy vD (.cells #[.I Pj,(.U (if af<y.2 then y.2 else af))] 111 (0,0))) (CS λp32 n32 c32 AE=>BX.FV R (E4 (aD bx ox) 1 ca 2) (na-1) (ca-1) (E4 (aD pT oy) 1 cb 2) (nb-1) (cb-1) p32 n32 c32 AE)))):=λb6 h6=>by
     refine AI.RN (O22:=O22) (L:=[(b6,.cells #[.I 0,.U 0] 111 (0,0))]) (i:=0) (c:=#[.I 0,.U 0]) (c':=#[.I x.1,.U x.2]) AFw (by simp[names]) rfl rfl rfl rfl rfl ?_;have x6:Ext O22 (BR O22 (([(b6,Obj.cells #[.I 0,.U 0] 111 (0,0))]:List (Nat×Obj)).set 0 (b6,Obj.cells #[.I x.1,.U x.2] 111 (0,0)))):=Ext.set h6;have g6:(BR O22 (([(b6,Obj.cells #[.I 0,.U 0] 111 (0,0))]:List (Nat×Obj)).set 0 (b6,Obj.cells #[.I x.1,.U x.2] 111 (0,0)))) b6=some (.cells #[.I x.1,.U x.2] 111 (0,0)):=Hp.AA _ _ _;generalize hy1:BR O22 (([(b6,Obj.cells #[.I 0,.U 0] 111 (0,0))]:List (Nat×Obj)).set 0 (b6,Obj.cells #[.I x.1,.U x.2] 111 (0,0)))=y1 at *;have l0:Hp.ld y1 ⟨b6,0,none⟩=some (.I x.1):=AJ g6 rfl;have l1:Hp.ld y1 ⟨b6,1,none⟩=some (.U x.2):=AJ g6 rfl;refine⟨λk hk u hu=>?_,x.1,l0,λAx=>?_,λTW=>⟨x.1,l0,λhgt=>?_,λhle=>⟨x.1,l0,x.2,l1,?_⟩⟩⟩
     .rw[Ai2]at hk;subst hk;have Ad:k≠b6:=λe=>by
       have:=ly.1;rw[e]at this;simp[Hp.ld,h6]at this
      rw[Hp.AB Ad]at hu;exact x6 _ _ hu
     .rw[Aiy Ax]at he;refine⟨x.1,x.2,Az.EW (c:=[.I x.1,.U x.2]) g6,⟨by decide,by omega⟩,?_⟩;exact push x y1 a' (y::b') _ _ _ _ _ _ x6 (by rw[Aix];omega) ta (by omega) hb hcb (by omega) (by rw[AjT];exact he)
     .rw[Aiw TW,Aiy hgt]at he;exact⟨⟨by decide,by omega⟩,push y y1 (x::a') b' _ _ _ _ _ _ x6 (by rw[Aix];omega) ha hca tb (by omega) (by omega) (by rw[AjT];exact he)⟩
     .rw[Aiw TW,Aiw hle]at he;exact⟨⟨by decide,by omega⟩,⟨by decide,by omega⟩,push (x.1,if x.2<y.2 then y.2 else x.2) y1 a' b' _ _ _ _ _ _ x6 (by omega) ta (by omega) tb (by omega) (by omega) (by rw[AjT];exact he)⟩
    exact BX.A9 ⟨λ_=>⟨λ_=>⟨bx,ox,rfl,one,x.1,x.2,lx,pT,oy,rfl,two,y.1,y.2,ly,λb6 h6 _=>body b6 h6,λ_ b6 h6=>body b6 h6⟩,λhh=>by omega⟩,λhh=>by omega⟩
theorem Uj {p q:Option Addr}{n c m d b3 b7:Nat}{ls:List Lb}{ps:List Pt}{G:Option Addr->Nat->Nat->Option Addr->Nat->Nat->Hp->Prop}(hl:Gy Z2 p n ls)(hp:Af 2 C9 Z2 q m ps)(hn:n<=1000000000)(hm:m<=1000000000)
  (h:∀p' c' q' d' Z',Gy (Z2.new Z') p' n ls->Af 2 C9 (Z2.new Z') q' m ps->m<=d'->Ext Z2 Z'->G p' n c' q' m d' Z') (h7:Z2 b7=none) (h3:(Z2.set b7 (.cells #[] 111 (0,0))) b3=none) :
  AI prog (Builtin.append_ #[95,95] 95 #[(.slice (aD b3 0) 0 0),.slice p n c]) ((Z2.set b7 (.cells #[] 111 (0,0))).set b3 (.cells #[] 144 (0,0))) (CS λp6 n6 c6 y=>AI prog (Builtin.append_ #[96,96] 96 #[(.slice (aD b7 0) 0 0),.slice q m d]) y (CS λRf n10 L6 AE=>G p6 n6 c6 Rf n10 L6 AE)):=by
 have x7:=Ext.set (o:=.cells #[] 111 (0,0)) h7;obtain⟨hm1,cs,hm2,hm3⟩:=hp;refine Fy (hl.mono CW.mono x7) hn (λp' c' Z22 Bq Aw=>⟨_,_,_,rfl,?_⟩) h3;have AL5:=x7.trans Aw;refine D9 (BH.mono Aw BH.empty) (hm2.mono AL5) (Ch.uB C9.one hm3 (by decide)) (by omega) λq' d' Z3 Dh B0=>?_;have hq:∀a:Addr,(some (⟨b7,0,none⟩:Addr))=some a->Z2 a.block=none:=λa ha=>by cases ha;exact h7
 rw[Ajz]at Dh ⊢;rw[Aj9]at Dh;refine⟨_,_,_,rfl,h p' c' q' d' Z3 ?_ ⟨hm1,cs,BH.rd (BH.S8 Dh (HB hq B0 AL5)),hm3.1,λi x hx=>hm3.2 i x hx⟩ (BH.cap Dh) (Kv hq B0 AL5)⟩;refine(Bq.rd CW.mono).mono CW.mono λk u hk=>?_;obtain⟨k1,k2⟩:=Ae.1 hk;obtain⟨k3,k4⟩:=Hp.AM k1;have:=B0 k u (Aq.2 ⟨λa ha=>by cases ha;exact k3,k2⟩);exact Ae.2 ⟨k4,(Aq.1 this).2⟩
theorem AFy {p q:Option Addr}{n c m d:Nat}{ls:List Lb}{ps:List Pt}{G:Option Addr->Nat->Nat->Option Addr->Nat->Nat->Hp->Prop}(hl:Gy Z2 p n ls)(hp:Af 2 C9 Z2 q m ps)(hn:n<=1000000000)(hm:m<=1000000000)
  (h:∀p' c' q' d' Z',Gy (Z2.new Z') p' n ls->Af 2 C9 (Z2.new Z') q' m ps->m<=d'->Ext Z2 Z'->G p' n c' q' m d' Z') :
  (Al Z2 λHr=>(AI prog (Builtin.append_ #[95,95] 95 #[(.slice (aD Hr 0) 0 0),.slice p n c]) (Hp.set Z2 Hr (.cells #[] 144 (0,0))) (CS λRe n16 P9 y=>Al y λFb=>AI prog (Builtin.append_ #[96,96] 96 #[(.slice (aD Fb 0) 0 0),.slice q m d]) (Hp.set y Fb (.cells #[] 111 (0,0))) (CS λUH n20 Ry AE=>G Re n16 P9 UH n20 Ry AE)))/\(Al (Hp.set Z2 Hr (.cells #[] 144 (0,0))) λFb=>AI prog (Builtin.append_ #[95,95] 95 #[(.slice (aD Hr 0) 0 0),.slice p n c]) (Hp.set (Hp.set Z2 Hr (.cells #[] 144 (0,0))) Fb (.cells #[] 111 (0,0))) (CS λRe n16 P9 y=>AI prog (Builtin.append_ #[96,96] 96 #[(.slice (aD Fb 0) 0 0),.slice q m d]) y (CS λUH n20 Ry AE=>G Re n16 P9 UH n20 Ry AE))))/\
  (Al Z2 λFb=>Al (Hp.set Z2 Fb (.cells #[] 111 (0,0))) λHr=>AI prog (Builtin.append_ #[95,95] 95 #[(.slice (aD Hr 0) 0 0),.slice p n c]) (Hp.set (Hp.set Z2 Fb (.cells #[] 111 (0,0))) Hr (.cells #[] 144 (0,0))) (CS λRe n16 P9 y=>AI prog (Builtin.append_ #[96,96] 96 #[(.slice (aD Fb 0) 0 0),.slice q m d]) y (CS λUH n20 Ry AE=>G Re n16 P9 UH n20 Ry AE))):=by
 refine⟨λb3 h3=>⟨?_,λb7 h7=>?_⟩,λb7 h7 b3 h3=>Uj hl hp hn hm h h7 h3⟩
 .refine Fy hl hn (λp' c' Z22 Bq Aw=>⟨_,_,_,rfl,λb7 h7=>?_⟩) h3;obtain⟨hm1,cs,hm2,hm3⟩:=hp;refine P1 (hm2.mono Aw) (Ch.uB C9.one hm3 (by decide)) (by omega) (λq' d' Z3 Dh B0=>⟨_,_,_,rfl,?_⟩) h7;exact h p' c' q' d' Z3 ((Bq.rd CW.mono).mono CW.mono (Ext.Ha B0)) ⟨hm1,cs,(BH.rd Dh).mono (Ext.Ci Aw),hm3.1,λi x hx=>hm3.2 i x hx⟩ (BH.cap Dh) (Aw.trans B0)
 .obtain⟨e1,e2⟩:=Hp.AM h7;rw[Hp.BA (AjI e1)];exact Uj hl hp hn hm h e2 (by rw[Hp.AB (AjI e1)];exact h3)
theorem pg {p:Option Addr}{n c:Nat}{ss:List Sr}(hr:Af 2 BT Z2 p n ss)(hn:n<=2900000000000)(hS:∀s∈ss,s.ls.length<=1000000000/\s.ps.length<=1000000000)(h:∀p' c' Z',Af 2 BT Z' p' n ss->n<=c'->Ext Z2 Z'->R (.returned (.slice p' n c')) Z'):Spec prog 38 #[.slice p n c] Z2 R:=by
 have hl:ss.length=n:=hr.1;refine Ft.start ?_
 suffices H:∀g i:Nat,∀p3 n3 c3 Z',n-i=g->i<=n->AN 2 BT Z2 Z' p3 n3 c3 (ss.take i)->Ft.A0 R p3 n3 c3 p n c n i Z' from H n 0 none 0 0 Z2 rfl (AjB _) (AN.nil (.refl _))
 intro g
 induction g with
 | zero=>
  intro i p3 n3 c3 Z' hg hi ho;rw[Ai4 (by omega)]at ho;have QS:n=n3:=hl.symm.trans ho.1.1;subst QS;exact Ft.AX ⟨λAx=>by omega,λ_=>h p3 c3 Z' (ho.rd BT.mono) (by obtain⟨cs,Qr,_⟩:=ho.1.2;exact BH.cap Qr) ho.up⟩
 | succ g ih=>
  intro i p3 n3 c3 Z' hg hi ho;have CF:i<n:=by omega
  obtain⟨x,hx⟩:=hr.ex CF;obtain⟨b,o,p1,k1,c1,q1,m1,d1,rfl,DD,Vd,xX,kr⟩:=BT.at hr hx;obtain⟨a1,a2⟩:=hS x (Ai6 hx);have a3:x.ls.length=k1:=Vd.1;have a4:x.ps.length=m1:=xX.1;have QS:n3=i:=by have:=ho.1.1;rw[AjJ]at this;omega
  refine Ft.AX ⟨λ_=>⟨b,o,rfl,by unfold In;omega,p1,k1,c1,q1,m1,d1,by simpa using DD.mono ho.up,λ_=>AFy (G:=λRe n16 P9 UH n20 Ry AE=>Al AE λeW=>AI prog (Builtin.append_ #[22,22] 22 #[.slice p3 n3 c3,(.slice (aD eW 0) 1 1)]) (Hp.set AE eW (.cells #[.slice Re n16 P9,.slice UH n20 Ry] 98 (0,0))) (CS λl9 n23 eQ AK=>AL ((i:Int)+1)/\Ft.A0 R l9 n23 eQ (aD b o) n c n ((i:Int)+1) AK)) (Vd.mono CW.mono ho.up) (xX.mono C9.mono ho.up) (by omega) (by omega) λp4 c4 p5 c5 Z3 G0 Uf hd3 B0 eW Aa8=>?_⟩,λhh=>by omega⟩;have Dh:=ho.mono BT.mono B0;have he:BT (Z3.del p3) [.slice p4 k1 c4,.slice p5 m1 c5] x:=⟨p4,k1,c4,p5,m1,c5,rfl,G0.mono CW.mono (ho.new B0),Uf.mono C9.mono (ho.new B0),hd3⟩;refine AN.Ey BT.mono Dh rfl (BT.one _ _ _ he) he (by omega) (λp' c' Z4 Iy _=>⟨_,_,_,rfl,AO CF hr.big,?_⟩) Aa8;have:=ih (i+1) p' (n3+1) c' Z4 (by omega) (by omega) (by rw[AR hx];exact Iy);rw[show((i+1:Nat):Int)=(i:Int)+1 by omega]at this;exact this
end
structure Cu where
 b:Nat
 p:Option Addr
 n:Nat
 c:Nat
 X:List Sr
def Cu.ptr (u:Cu):Value:=.pointer (aD u.b 0)
structure HM (O22 N:Hp)(hb:Nat)(w:Option Addr)(e:Nat)(H:List Cu):Prop where
 hv:N hb=some (.cells #[.slice w H.length e] 147 (0,0))
 arr:BH 1 N w H.length e (H.map Cu.ptr)
 cur:∀u∈H,N u.b=some (.cells #[.slice u.p u.n u.c] 152 (0,0))/\Af 2 BT O22 u.p u.n u.X/\u.n<=u.c
 ext:Ext O22 N
 hτ:O22 hb=none
 cτ:∀u∈H,O22 u.b=none/\u.b≠hb
 aτ:∀a,w=some a->O22 a.block=none/\a.block≠hb/\∀u∈H,u.b≠a.block
 nd:(H.map (·.b)).Nodup
section
variable {Z2 O22 N N':Hp}{R:Rr}{hb e:Nat}{w:Option Addr}{H:List Cu}
theorem HM.mono (h:HM O22 N hb w e H)(G:Ext N N'):HM O22 N' hb w e H:=⟨G _ _ h.hv,h.arr.mono G,λu hu=>let ⟨a,b,c⟩:=h.cur u hu;⟨G _ _ a,b,c⟩,h.ext.trans G,h.hτ,h.cτ,h.aτ,h.nd⟩
theorem HM.at (h:HM O22 N hb w e H){i:Nat}{u:Cu}(hi:H[i]?=some u):∃b o,w=some ⟨b,o,none⟩/\i<H.length/\Hp.ld N ⟨b,o+i,none⟩=some u.ptr:=by
 have Ax:=(Ai0.1 hi).1;obtain⟨_,_,G⟩:=h.arr.rd;rcases G with G|⟨b,o,hp,hl⟩
 .omega
 .exact⟨b,o,hp,Ax,hl.get (by rw[Aj7,hi];rfl)⟩
theorem HM.ldh (h:HM O22 N hb w e H):Hp.ld N ⟨hb,0,none⟩=some (.slice w H.length e):=AJ h.hv rfl
theorem wY {i j:Nat}{u v:Cu}{x y:Sr}(h:HM O22 N hb w e H)(hi:H[i]?=some u)(hj:H[j]?=some v)(hu:u.X[0]?=some x)(hv:v.X[0]?=some y)(hR:∀N',Ext N N'->R (.returned (.bool (decide (A3 x.ls y.ls<0)))) N'):
  Spec prog 360 #[.slice w H.length e,.I (i:Int),.I (j:Int)] N R:=by
 obtain⟨b,o,hw,hil,h1⟩:=h.at hi;obtain⟨b',o',G,hjl,h2⟩:=h.at hj;rw[hw] at G;cases G;obtain⟨c1,c2,c3⟩:=h.cur u (Ai6 hi);obtain⟨d1,d2,d3⟩:=h.cur v (Ai6 hj);obtain⟨bx,ox,p1,n1,e1,p2,n2,e2,hpu,l1,r1,_,_⟩:=BT.at (c2.mono BT.mono h.ext) hu;obtain⟨pT,oy,q1,m1,f1,q2,m2,f2,hpv,l2,r2,_,_⟩:=BT.at (d2.mono BT.mono h.ext) hv;have Sv:0<u.n:=by have:=(Ai0.1 hu).1;have h9:u.X.length=u.n:=c2.1;omega
 have hvn:0<v.n:=by have:=(Ai0.1 hv).1;have h9:v.X.length=v.n:=d2.1;omega
 rw[Akl,AkK]at l1 l2;refine DE.start ⟨b,o,hw,by unfold In;omega,aD u.b 0,by rw[AjM,AkG];exact h1,u.b,0,rfl,u.p,u.n,u.c,AJ c1 rfl,bx,ox,hpu,by unfold In;omega,p1,n1,e1,l1.1,by unfold In;omega,aD v.b 0,by rw[AjM,AkG];exact h2,v.b,0,rfl,v.p,v.n,v.c,AJ d1 rfl,pT,oy,hpv,by unfold In;omega,q1,m1,f1,l2.1,?_⟩;exact Kb r1 r2 λN' hx=>⟨_,rfl,hR N' hx⟩
theorem tF:∀w,(Go.sizeOf 150).run prog w=.ok 1 w:=λw=>by kernel_rfl
instance:J2 prog 147 150 1 8:=⟨underlying147,⟨Go.Proofs.Tryz.t150,_,by kernel_rfl,rfl,rfl,rfl,rfl⟩,by decide,by decide⟩
theorem ph {p:Option Addr}{n c:Nat}:∀u∈(Value.slice p n c).cells.toList,u.oneCell'=true:=λu G=>by
 have G:u∈[Value.slice p n c]:=G;rw[Ai2.1 G];rfl
theorem tG:∀w,(Go.sizeOf 147).run prog w=.ok 1 w:=λw=>by kernel_rfl
theorem HM.AbA {b o:Nat}{obj:Obj}{H':List Cu}(h:HM O22 N hb (some ⟨b,o,none⟩) e H)(hl:H'.length=H.length)(hm:∀u∈H',u∈H)(hn:(H'.map (·.b)).Nodup)(ho:BH 1 (N.set b obj) (some ⟨b,o,none⟩) H.length e (H'.map Cu.ptr)):HM O22 (N.set b obj) hb (some ⟨b,o,none⟩) e H':=by
 obtain⟨a1,a2,a3⟩:=h.aτ _ rfl;refine⟨by rw[Hp.AB (λe=>a2 e.symm),hl];exact h.hv,by rw[hl];exact ho,λu G=>?_,λk v hk=>?_,h.hτ,λu G=>h.cτ u (hm u G),λa ha=>by cases ha;exact⟨a1,a2,λu G=>a3 u (hm u G)⟩,hn⟩
 .obtain⟨c1,c2⟩:=h.cur u (hm u G);exact⟨by rw[Hp.AB (a3 u (hm u G))];exact c1,c2⟩
 .rw[Hp.AB (λe=>by rw[e,a1]at hk;cases hk)];exact h.ext _ _ hk
theorem AL6 {v:Value}{Φ:Value->Hp->Prop}(h:Φ v Z2):AI prog (Instr.typeAssert (.iface 150 v) 20 150 false) Z2 Φ:=
 AI.pu (λw hs=>by
  have G:prog.underlying 150=some (.pointer 152):=by kernel_rfl
  simp[Instr.typeAssert,run_underlying G]) h
theorem pj {u:Cu}(h:HM O22 N hb w e H)(hl:H.length<=1000)(hN:N u.b=some (.cells #[.slice u.p u.n u.c] 152 (0,0)))(hr:Af 2 BT O22 u.p u.n u.X)(hc:u.n<=u.c)(hτ:O22 u.b=none)(Ad:u.b≠hb)(hnw:∀a,w=some a->u.b≠a.block)(Gn:∀v∈H,v.b≠u.b)
  (hR:∀N' w' e',HM O22 N' hb w' e' (H++[u])->R (.T #[]) N'):Spec prog 363 #[.pointer (aD hb 0),.iface 150 (.pointer (aD u.b 0))] N R:=by
 refine DG.start ⟨hb,0,rfl,w,H.length,e,h.ldh,AL6 ⟨aD u.b 0,rfl,λk _ v hv=>hv,λDk MK=>?_⟩⟩;have x10:=Ext.set (o:=.cells #[.pointer (aD u.b 0)] 150 (0,0)) MK;have h9:=h.mono x10;refine D9 h9.arr (q:=aD Dk 0) (ys:=[u.ptr]) ⟨rfl,by decide,.inr ⟨Dk,0,rfl,Az.EW (c:=[u.ptr]) (Hp.AA _ _ _)⟩⟩ (λv hv=>by rw[Ai2.1 hv];rfl) (by omega) λp' c' y Di QO=>⟨_,_,_,rfl,?_⟩;have K:∀k v,N k=some v->(∀a,w=some a->k≠a.block)->y k=some v/\∀a,p'=some a->k≠a.block:=λk v hk Ad=>by
  obtain⟨a1,a2⟩:=Aq.1 (QO k v (Aq.2 ⟨Ad,x10 _ _ hk⟩));exact⟨a2,a1⟩
 obtain⟨k1,k2⟩:=K hb _ h.hv λa G e=>(h.aτ a G).2.1 e.symm;have kτ:∀k v,O22 k=some v->y k=some v/\∀a,p'=some a->k≠a.block:=λk v hk=>K k v (h.ext _ _ hk) λa G e=>by rw[e,(h.aτ a G).1]at hk;cases hk
 have kc:∀v∈H,y v.b=some (.cells #[.slice v.p v.n v.c] 152 (0,0))/\∀a,p'=some a->v.b≠a.block:=λv hv=>K _ _ (h.cur v hv).1 λa G=>(h.aτ a G).2.2 v hv;obtain⟨ku1,ku2⟩:=K _ _ hN hnw;refine AI.store (P:=prog) tG k1 rfl (Ai7 _) ph (hR _ p' c' ?_);have e1:Ks #[Value.slice w H.length e] 0 (Value.slice p' (H.length+1) c').cells.toList=#[.slice p' (H.length+1) c']:=rfl;rw[e1];refine⟨by rw[Hp.AA,Ai5,Ajc],?_,λv hv=>?_,λk v hk=>?_,h.hτ,λv hv=>?_,λa G=>⟨?_,λe=>k2 a G e.symm,λv hv=>?_⟩,?_⟩
 .rw[Ai5,Ajc,AjP,Akn];exact BH.here Di λa G=>Hp.AB λe=>k2 a G e.symm
 .rcases AjU.1 hv with hv|hv
  .exact⟨by rw[Hp.AB (h.cτ v hv).2];exact(kc v hv).1,(h.cur v hv).2⟩
  .rw[Ai2]at hv;subst hv;exact⟨by rw[Hp.AB Ad];exact ku1,hr,hc⟩
 .rw[Hp.AB (λe=>by rw[e,h.hτ]at hk;cases hk)];exact(kτ k v hk).1
 .rcases AjU.1 hv with hv|hv
  .exact h.cτ v hv
  .rw[Ai2]at hv;subst hv;exact⟨hτ,Ad⟩
 .cases hh:O22 a.block with
  | none=>rfl
  | some v=>exact absurd rfl ((kτ _ _ hh).2 a G)
 .rcases AjU.1 hv with hv|hv
  .exact(kc v hv).2 a G
  .rw[Ai2]at hv;subst hv;exact ku2 a G
 .rw[AjP,Aks];exact⟨h.nd,by simp,λa G b hb e=>by
   rw[Akn,Ai2]at hb;obtain⟨v,hv,rfl⟩:=Ajf.1 G;exact Gn v hv (e.trans hb)⟩
theorem wZ {u:Cu}(h:HM O22 N hb w e (H++[u]))(hl:H.length<=1000)(hR:∀N' v,HM O22 N' hb w e H->R (.returned v) N'):Spec prog 362 #[.pointer (aD hb 0)] N R:=by
 have G:(H++[u]).length=H.length+1:=by simp
 obtain⟨b,o,rfl,_,h1⟩:=h.at (i:=H.length) (u:=u) (by rw[Ajm (Ai7 _),Aki];rfl);have hh:=h.ldh;have Tm:=BH.cap h.arr;rw[G]at hh Tm;have t1:Int.toNat (((H.length+1:Nat):Int)-1)=H.length:=by omega
 refine DX.start ⟨hb,0,rfl,some ⟨b,o,none⟩,H.length+1,e,hh,some ⟨b,o,none⟩,H.length+1,e,hh,by unfold AL;omega,b,o,rfl,by unfold In;omega,aD u.b 0,by rw[t1,AkG];exact h1,some ⟨b,o,none⟩,H.length+1,e,hh,some ⟨b,o,none⟩,H.length+1,e,hh,by unfold AL;omega,⟨by omega,by omega⟩,?_⟩;rw[t1];refine AI.store (P:=prog) tG h.hv rfl (Ai7 _) ph (hR _ _ ?_);have e1:Ks #[Value.slice (some ⟨b,o,none⟩) (H++[u]).length e] 0 (Value.slice (some ⟨b,o,none⟩) H.length e).cells.toList=#[.slice (some ⟨b,o,none⟩) H.length e]:=rfl;rw[e1];obtain⟨a1,a2,a3⟩:=h.aτ _ rfl;have Tz:∀v∈H,v∈H++[u]:=λv hv=>AkI _ hv;refine⟨Hp.AA _ _ _,?_,λv hv=>?_,λk v hk=>?_,h.hτ,λv hv=>h.cτ v (Tz v hv),λa ha=>by cases ha;exact⟨a1,a2,λv hv=>a3 v (Tz v hv)⟩,?_⟩
 .have:=BH.take h.arr (m:=H.length) (by rw[G];omega);rw[AjP,AkG,List.take_left' (by simp)]at this;exact BH.here this λa ha=>Hp.AB (by cases ha;exact a2)
 .exact⟨by rw[Hp.AB (h.cτ v (Tz v hv)).2];exact(h.cur v (Tz v hv)).1,(h.cur v (Tz v hv)).2⟩
 .rw[Hp.AB (λe=>by rw[e,h.hτ]at hk;cases hk)];exact h.ext _ _ hk
 .have:=h.nd;rw[AjP,Aks]at this;exact this.1
end
section
variable {Z2 O22 N N':Hp}{R:Rr}{hb e:Nat}{w:Option Addr}{H:List Cu}
theorem AbB {x:Int}(h:-1000<=x/\x<=1000):AL x:=by unfold AL;omega
def PR (P:Program)(T:TypeId)(name:String):Option (Bool×Option (FuncId×Bool)):=match P.info? T with
 | none=>none
 | some i=>match i.methods.find? (λm=>m.name==name) with
  | none=>none
  | some m=>some (m.path.isEmpty,m.func)
theorem ACG {P:Program}{T:TypeId}{name:String}{f:FuncId}{G:Bool}(h:PR P T name=some (true,some (f,G))):∃i m,P.info? T=some i/\i.methods.find? (λm=>m.name==name)=some m/\m.path=#[]/\m.func=some (f,G):=by
 unfold PR at h;split at h
 .cases h
 .rename_i i hi;split at h
  .cases h
  .rename_i m hm;simp only[Ai9,Ajs]at h;exact⟨i,m,hi,hm,Array.isEmpty_iff.1 h.1,h.2⟩
theorem AF0 {P:Program}{T:TypeId}{a:Addr}{s G:ByteArray}{w:World}:(Builtin.ssaWrapNilChk_ #[T] T #[.pointer (some a),.string s,.string G]).run P w=.ok (.pointer (some a)) w:=rfl
theorem fuel {P:Program}:∃k,P.types.size+Made.depth=k+1:=Nat.exists_eq_add_one_of_ne_zero (by
 have:Made.depth≠0:=by decide
 omega)
variable {P:Program}{T E:TypeId}
theorem AUE {w : World} {nm : String} {sl : Value} (hu : P.underlying T = some (.pointer E)) (hag : ∀ w,(isAgg E).run P w = .ok false w) (hs : Sat Z2 w) (DD : Hp.ld Z2 ⟨hb,0,none⟩ = some sl) : (receiverAt T (.val (.pointer (aD hb 0))) false (some nm)).run P w = .ok sl w := by
 have hl := hs.ld DD
 unfold receiverAt
 simp only [Sem.run_bind,run_underlying hu,Result.andThen_ok,Place.get]
 show ((Builtin.ssaWrapNilChk_ #[T] T #[.pointer (aD hb 0),strVal "",strVal nm]).run P w).andThen _ = _
 have e : (Builtin.ssaWrapNilChk_ #[T] T #[.pointer (aD hb 0),strVal "",strVal nm]).run P w = .ok (.pointer (aD hb 0)) w := AF0
 simp only [e,Result.andThen_ok]
 have e2 : (asAddr (.pointer (aD hb 0))).run P w = .ok ⟨hb,0,none⟩ w := rfl
 simp only [e2,Result.andThen_ok]
 simp [loadVar,hag,load,Sem.run,hl]
theorem AUF {w:World}{nm:Option String}{v:Value}(G:P.underlying T=some (.pointer E)):(receiverAt T (.val v) true nm).run P w=.ok v w:=by
 unfold receiverAt;simp only[Sem.run_bind,run_underlying G,Result.andThen_ok,Place.get];rfl
theorem AIX {w : World} {k : Nat} {name : String} {v r : Value} {f : FuncId} {pr : Bool} {i : TypeInfo} {m : Method} (hi : P.info? T = some i) (hm : i.methods.find? (λm => m.name == name) = some m) (hp : m.path = #[]) (hf : m.func = some (f,pr)) (hr : ∀ nm,(receiverAt T (.val v) pr (some nm)).run P w = .ok r w) : (method (k + 1) T v name).run P w = .ok (f,r) w := by
 unfold method
 have ht : (typeInfo T).run P w = .ok i w := by simp [typeInfo,hi]
 simp only [Sem.run_bind,ht,Result.andThen_ok,hm,hp,hf,follow]
 show ((receiverAt T (.val v) pr _).run P w).andThen _ = _
 rw [show (if (#[] : Array FieldStep).isEmpty = true then some ((name.splitOn ".").getLastD name) else none) = some ((name.splitOn ".").getLastD name) from rfl,hr]; rfl
theorem inv1 {w:World}{name:String}{v r:Value}{f:FuncId}{args:Array Value}(hm:∀k,(method (k+1) T v name).run P w=.ok (f,r) w)(KG:Enters P f):(invoke (.fn (.method name) #[]) (#[.iface T v]++args)).run P w=.ok (.enter f (#[r]++args)) w:=by
 obtain⟨k,hk⟩:=fuel (P:=P);have e1:(#[Value.iface T v]++args).extract 1 (#[Value.iface T v]++args).size=args:=by
  apply AjS.1
  rw[Ala,Alj,Alw];simp only[List.extract,Alx,Aix,Ajw,Ajz,AlL];show List.take args.size args.toList=args.toList
  exact Ai4 (Al6 Ajd)
 have e0:(#[Value.iface T v]++args)[0]?=some (.iface T v):=by rw[Ako];rfl
 simp only[invoke,e0,e1,callMethod];simp only[Sem.run_bind];have G:(program:Sem Program).run P w=.ok P w:=rfl;rw[G];simp only[Result.andThen_ok,hk,hm];exact KG _ w
theorem AF1 {name:String}{f:FuncId}{args:Array Value}{sl:Value}(hm:PR P T name=some (true,some (f,false)))(hu:P.underlying T=some (.pointer E))(G:∀w,(isAgg E).run P w=.ok false w)(KG:Enters P f)(DD:Hp.ld Z2 ⟨hb,0,none⟩=some sl)(h:Spec P f (#[sl]++args) Z2 R):MC P (.iface T (.pointer (aD hb 0))) name args Z2 R:=by
 obtain⟨i,m,hi,hm,hp,hf⟩:=ACG hm;exact⟨f,#[sl]++args,λw hs=>inv1 (λk=>AIX hi hm hp hf λnm=>AUE hu G hs DD) KG,h⟩
theorem AF2 {name:String}{f:FuncId}{args:Array Value}(hm:PR P T name=some (true,some (f,true)))(hu:P.underlying T=some (.pointer E))(KG:Enters P f)(h:Spec P f (#[.pointer (aD hb 0)]++args) Z2 R):MC P (.iface T (.pointer (aD hb 0))) name args Z2 R:=by
 obtain⟨i,m,hi,hm,hp,hf⟩:=ACG hm;have hr:∀(w:World) (k:Nat),(method (k+1) T (.pointer (aD hb 0)) name).run P w=.ok (f,.pointer (aD hb 0)) w:=λw k=>AIX (r:=.pointer (aD hb 0)) hi hm hp hf λnm=>AUF (v:=.pointer (aD hb 0)) (nm:=some nm) hu;have G:∀w:World,(invoke (.fn (.method name) #[]) (#[.iface T (.pointer (aD hb 0))]++args)).run P w=.ok (.enter f (#[.pointer (aD hb 0)]++args)) w:=λw=>inv1 (v:=.pointer (aD hb 0)) (r:=.pointer (aD hb 0)) (args:=args) (hr w) KG;exact⟨f,_,λw _=>G w,h⟩
theorem ACI:prog.underlying 149=some (.pointer 147):=by kernel_rfl
theorem AL7:∀w,(isAgg 147).run prog w=.ok false w:=λw=>by kernel_rfl
theorem AL8:PR prog 149 yN=some (true,some (359,false)):=by kernel_rfl
theorem AF3:PR prog 149 T6=some (true,some (360,false)):=by kernel_rfl
theorem AF4:PR prog 149 T7=some (true,some (361,false)):=by kernel_rfl
theorem AF5:PR prog 149 AGo=some (true,some (363,true)):=by kernel_rfl
theorem AL9:PR prog 149 AOJ=some (true,some (362,true)):=by kernel_rfl
theorem po {name:String}{f:FuncId}{args:Array Value}{p:Option Addr}{n c:Nat}(hm:PR prog 149 name=some (true,some (f,false)))(KG:Enters prog f)(G:Hp.ld Z2 ⟨hb,0,none⟩=some (.slice p n c))(h:Spec prog f (#[.slice p n c]++args) Z2 R):MC prog (.iface 149 (.pointer (aD hb 0))) name args Z2 R:=AF1 hm ACI AL7 KG G h
theorem ACJ {name:String}{f:FuncId}{args:Array Value}(hm:PR prog 149 name=some (true,some (f,true)))(G:Enters prog f)(h:Spec prog f (#[.pointer (aD hb 0)]++args) Z2 R):MC prog (.iface 149 (.pointer (aD hb 0))) name args Z2 R:=AF2 hm ACI G h
abbrev hV (hb:Nat):Value:=.iface 149 (.pointer (aD hb 0))
theorem AMA (h:HM O22 N hb w e H)(G:R (.returned (.I (H.length:Int))) N):MC prog (hV hb) yN #[] N R:=
 po AL8 DW.en h.ldh (DW.start G)
theorem ACK {i j:Nat}{u v:Cu}{x y:Sr}(h:HM O22 N hb w e H)(hi:H[i]?=some u)(hj:H[j]?=some v)(hu:u.X[0]?=some x)(hv:v.X[0]?=some y)(G:∀N',Ext N N'->R (.returned (.bool (decide (A3 x.ls y.ls<0)))) N'):
 MC prog (hV hb) T6 #[.I (i:Int),.I (j:Int)] N R:=po AF3 DE.en h.ldh (wY h hi hj hu hv G)
theorem ACL {v:Value}(hR:R (.T #[]) N):Spec prog 102 #[v,.I 0] N R:=
 Bl.start ⟨AbB (by decide),by decide,λx7 G=>⟨λ_=>hR,λhn=>absurd (G.trans (by decide)) hn⟩⟩
structure AUG (O22 N:Hp)(hb:Nat)(w:Option Addr)(H:List Cu)(u:Cu):Prop where
 at_:N u.b=some (.cells #[.slice u.p u.n u.c] 152 (0,0))
 rd:Af 2 BT O22 u.p u.n u.X
 cap:u.n<=u.c
 new:O22 u.b=none
 ne:u.b≠hb
 nw:∀a,w=some a->u.b≠a.block
 nd:∀v∈H,v.b≠u.b
end
def kL (u:Cu):List Lb:=match u.X with
 | []=>[]
 | x::_=>x.ls
def kA (H:List Cu)(i:Nat):List Lb:=match H[i]? with
 | some u=>kL u
 | none=>[]
def mR (H:List Cu)(n:Nat):Prop:=∀(i:Nat) (v:Cu),i<n->H[i]?=some v->∃x X,v.X=x::X
def swL (H:List Cu)(i j:Nat)(u v:Cu):List Cu:=(H.set i v).set j u
section
variable {H H':List Cu}{i j n:Nat}{u v:Cu}
theorem lS (hi:H[i]?=some u):kA H i=kL u:=by unfold kA;rw[hi]
theorem Lw {x:Sr}{X:List Sr}(hi:H[i]?=some u)(G:u.X=x::X):kA H i=x.ls:=by rw[lS hi];unfold kL;rw[G]
theorem Yk (h:H'[i]?=H[i]?):kA H' i=kA H i:=by unfold kA;rw[h]
theorem Si (hi:H[i]?=some u)(hj:H[j]?=some v):(swL H i j u v).Perm H:=by
 obtain⟨G,rfl⟩:=Ai0.1 hi;obtain⟨h2,rfl⟩:=Ai0.1 hj;exact List.set_set_perm G h2
theorem Yl (hi:H[i]?=some u)(hj:H[j]?=some v)(k:Nat):(swL H i j u v)[k]?=if k=j then some u else if k=i then some v else H[k]?:=by
 have h1:=(Ai0.1 hi).1;have h2:=(Ai0.1 hj).1;unfold swL;rw[Ake,AlE,Ake];by_cases G:j=k
 .rw[Aiy G,Aiy G.symm,Aiy (G▸h2)]
 .rw[Aiw G,Aiw (AjI G)];by_cases e2:i=k
  .rw[Aiy e2,Aiy e2.symm,Aiy (e2▸h1)]
  .rw[Aiw e2,Aiw (AjI e2)]
theorem tH (hi:H[i]?=some u)(hj:H[j]?=some v)(k:Nat):kA (swL H i j u v) k=swF (kA H) i j k:=by
 have h:=Yl hi hj k;by_cases G:k=j
 .subst G;rw[Aiy rfl]at h;rw[lS h,lR,lS hi]
 .rw[Aiw G]at h;by_cases e2:k=i
  .subst e2;rw[Aiy rfl]at h;rw[lS h,dP,lS hj]
  .rw[Aiw e2]at h;rw[Yk h,PQ e2 G]
theorem mR.sw (h:mR H n)(hi:H[i]?=some u)(hj:H[j]?=some v)(h1:i<n)(h2:j<n):mR (swL H i j u v) n:=λk x hk G=>by
 rw[Yl hi hj]at G;by_cases e1:k=j
 .rw[Aiy e1]at G;cases G;exact h i _ h1 hi
 .rw[Aiw e1]at G;by_cases e2:k=i
  .rw[Aiy e2]at G;cases G;exact h j _ h2 hj
  .rw[Aiw e2]at G;exact h k x hk G
end
theorem AF6:(List.range 1001).all (λj=>decide (IntKind.i64.wrap (Int.tdiv ((j:Int)-1) 2)=(((j-1)/2:Nat):Int)))=true:=by kernel_rfl
theorem ACN {j:Nat}(h:j<=1000):IntKind.i64.wrap (Int.tdiv ((j:Int)-1) 2)=(((j-1)/2:Nat):Int):=AjA (Ajt.1 AF6 j (AkS.2 (by omega)))
section
variable {O22 N:Hp}{R:Rr}{hb e i j n:Nat}{w:Option Addr}{H Hs:List Cu}{u v:Cu}
theorem wa (h:HM O22 N hb w e H)(hi:H[i]?=some u)(hj:H[j]?=some v)(hR:∀N',HM O22 N' hb w e (swL H i j u v)->R (.T #[]) N'):
  Spec prog 361 #[.slice w H.length e,.I (i:Int),.I (j:Int)] N R:=by
 obtain⟨b,o,rfl,hil,h1⟩:=h.at hi;obtain⟨b',o',G,hjl,h2⟩:=h.at hj;cases G;have ti:o+Int.toNat (i:Int)*1=o+i:=by omega
 have tj:o+Int.toNat (j:Int)*1=o+j:=by omega
 refine DF.start ⟨b,o,rfl,by unfold In;omega,aD v.b 0,by rw[tj];exact h2,by unfold In;omega,aD u.b 0,by rw[ti];exact h1,by unfold In;omega,?_⟩;rw[ti,tj];have hp:=Si hi hj;refine BH.pL (j:=i) h.arr (by omega) tF rfl rfl λobj g1=>⟨by unfold In;omega,BH.pL (j:=j) g1 (by omega) tF rfl rfl λAgv g2=>?_⟩;rw[Hp.set_set]at g2 ⊢;have e9:((H.map Cu.ptr).set i (.pointer (aD v.b 0))).set j (.pointer (aD u.b 0))=(swL H i j u v).map Cu.ptr:=by
  unfold swL;rw[Al5,Al5];rfl
 exact hR _ (h.AbA hp.length_eq (λx hx=>hp.mem_iff.1 hx) ((hp.map _).nodup_iff.2 h.nd) (by rw[<-e9];exact g2))
theorem ACO (h:HM O22 N hb w e H)(hi:H[i]?=some u)(hj:H[j]?=some v)(G:∀N',HM O22 N' hb w e (swL H i j u v)->R (.T #[]) N'):MC prog (hV hb) T7 #[.I (i:Int),.I (j:Int)] N R:=po AF4 DF.en h.ldh (wa h hi hj G)
theorem ACP:∀(m j:Nat) (H:List Cu) (N:Hp),j<=m->HM O22 N hb w e H->H.length<=1000->j<H.length->mR H H.length->HuO (kA H) H.length j->(∀N' H',HM O22 N' hb w e H'->H'.Perm H->dO (kA H') H'.length->mR H' H'.length->R (.T #[]) N')->
  Bl.pt4 R (hV hb) (j:Int) N/\Spec prog 102 #[hV hb,.I (j:Int)] N R:=by
 intro m
 induction m with
 | zero=>
  intro j H N hj h hl G Ad hU hR
  suffices hF:_ from⟨Bl.AAK hF,Bl.start hF⟩
  refine⟨by unfold AL;omega,by decide,λx7 e7=>?_⟩;rw[ACN (by omega)]at e7;exact⟨λ_=>hR N H h (.refl _) (hU.fin λa ha=>by omega) Ad,λhn=>absurd (by omega) hn⟩
 | succ m ih=>
  intro j H N hj h hl G Ad hU hR;by_cases h0:j=0
  .exact ih j H N (by omega) h hl G Ad hU hR
  suffices hF:_ from⟨Bl.AAK hF,Bl.start hF⟩
  refine⟨by unfold AL;omega,by decide,λx7 e7=>?_⟩;rw[ACN (by omega)]at e7;generalize hi:(j-1)/2=i at e7;subst e7;have Vq:mQ i j:=by omega
  obtain⟨u,hu⟩:∃u,H[i]?=some u:=⟨_,Ai3 (by omega)⟩;obtain⟨v,hv⟩:∃v,H[j]?=some v:=⟨_,Ai3 G⟩;obtain⟨x,X,hx⟩:=Ad i u (by omega) hu;obtain⟨y,Y,hy⟩:=Ad j v G hv;have kx:=Lw hu hx;have ky:=Lw hv hy;refine⟨λhh=>by omega,λ_=>ACK (i:=j) (j:=i) h hv hu (by rw[hy];rfl) (by rw[hx];rfl) λN' hxt=>⟨_,rfl,λhf=>?_,λht=>?_⟩⟩
  .refine hR N' H (h.mono hxt) (.refl _) (hU.fin λa ha=>?_) Ad;obtain rfl:a=i:=by omega
   rw[kx,ky];exact AjX hf
  .have hp:=Si hu hv;have Ax:A3 (kA H j) (kA H i)<0:=by rw[kx,ky];exact AjA ht
   refine ACO (h.mono hxt) hu hv λN2 h2=>⟨rfl,(ih i _ N2 (by omega) h2 (by rw[hp.length_eq];exact hl) (by rw[hp.length_eq];omega) (by rw[hp.length_eq];exact Ad.sw hu hv (by omega) G) ?_ λN3 H3 h3 hp3=>hR N3 H3 h3 (hp3.trans hp)).1⟩;rw[hp.length_eq];exact(hU.step Vq G Ax).congr λk _=>tH hu hv k
theorem Ym {i0:Int}{n:Nat}:∀(m i:Nat) (H:List Cu) (N:Hp),n-i<=m->i<=1000->HM O22 N hb w e H->H.length<=1000->n<=H.length->mR H n->xY (kA H) n i->(∀N' H' r,HM O22 N' hb w e H'->H'.Perm H->(∀k,n<=k->H'[k]?=H[k]?)->dO (kA H') n->mR H' n->R (.B r) N')->
  An.FV R (hV hb) i0 (n:Int) (i:Int) N:=by
 intro m
 induction m with
 | zero=>
  intro i H N hm hi h hl hn Ad hD hR;exact An.A9 ⟨by unfold AL;omega,by unfold AL;omega,λ_=>An.R0 (hR N H _ h (.refl _) (λ_ _=>rfl) (hD.fin λc hc G=>by omega) Ad),λhh=>by omega⟩
 | succ m ih=>
  intro i H N hm hi h hl hn Ad hD hR;have c1:((2*i+1:Nat):Int)=2*(i:Int)+1:=by omega
  have c2:((2*i+2:Nat):Int)=2*(i:Int)+1+1:=by omega
  have go:∀(N':Hp) (j:Nat),HM O22 N' hb w e H->mQ i j->j<n->(∀c,mQ i c->c<n->Ri (kA H j) (kA H c))->An.HF R (hV hb) i0 (n:Int) (i:Int) (j:Int) N':=λN' j h' Vq hjn pq=>by
   obtain⟨u,hu⟩:∃u,H[i]?=some u:=⟨_,Ai3 (by omega)⟩;obtain⟨v,hv⟩:∃v,H[j]?=some v:=⟨_,Ai3 (by omega)⟩;obtain⟨x,X,hx⟩:=Ad i u (by omega) hu;obtain⟨y,Y,hy⟩:=Ad j v hjn hv;have kx:=Lw hu hx;have ky:=Lw hv hy;refine An.Ea (ACK (i:=j) (j:=i) h' hv hu (by rw[hy];rfl) (by rw[hx];rfl) λN2 hxt=>⟨_,rfl,λhf=>?_,λht=>?_⟩)
   .refine An.R0 (hR N2 H _ (h'.mono hxt) (.refl _) (λ_ _=>rfl) (hD.fin λc hc G=>?_) Ad);have h9:Ri (kA H i) (kA H j):=by rw[kx,ky];exact AjX hf
    exact h9.tr (pq c hc G)
   .have hp:=Si hu hv;have Ax:A3 (kA H j) (kA H i)<0:=by rw[kx,ky];exact AjA ht
    refine ACO (h'.mono hxt) hu hv λN3 h3=>⟨rfl,ih j _ N3 (by omega) (by omega) h3 (by rw[hp.length_eq];exact hl) (by rw[hp.length_eq];exact hn) (Ad.sw hu hv (by omega) hjn) ((hD.step Vq hjn Ax pq).congr λk _=>tH hu hv k) λN4 H4 r h4 hp4 hk4=>hR N4 H4 r h4 (hp4.trans hp) λk hk=>?_⟩;rw[hk4 k hk,Yl hu hv,Aiw (by omega),Aiw (by omega)]
  have key:∀j,j<n->∃v y Y,H[j]?=some v/\v.X=y::Y/\kA H j=y.ls:=λj hj=>by
   obtain⟨v,hv⟩:∃v,H[j]?=some v:=⟨_,Ai3 (by omega)⟩;obtain⟨y,Y,hy⟩:=Ad j v hj hv;exact⟨v,y,Y,hv,hy,Lw hv hy⟩
  refine An.A9 ⟨by unfold AL;omega,by unfold AL;omega,λ_=>An.R0 (hR N H _ h (.refl _) (λ_ _=>rfl) (hD.fin λc hc G=>by omega) Ad),λh1=>⟨λhh=>by omega,λ_=>⟨by unfold AL;omega,λh2=>?_,λh2=>?_⟩⟩⟩
  .rw[<-c2,<-c1];obtain⟨v1,y1,Y1,hv1,hy1,k1⟩:=key (2*i+1) (by omega);obtain⟨v2,y2,Y2,hv2,hy2,k2⟩:=key (2*i+2) (by omega);refine ACK (i:=2*i+2) (j:=2*i+1) h hv2 hv1 (by rw[hy2];rfl) (by rw[hy1];rfl) λN' hxt=>⟨_,rfl,λht=>?_,λhf=>?_⟩
   .refine go N' (2*i+2) (h.mono hxt) (by omega) (by omega) λc hc G=>?_;have h9:Ri (kA H (2*i+2)) (kA H (2*i+1)):=by rw[k1,k2];exact .lt (AjA ht)
    rcases hc with rfl|rfl
    .exact h9
    .exact .re _
   .refine go N' (2*i+1) (h.mono hxt) (by omega) (by omega) λc hc G=>?_;have h9:Ri (kA H (2*i+1)) (kA H (2*i+2)):=by rw[k1,k2];exact AjX hf
    rcases hc with rfl|rfl
    .exact .re _
    .exact h9
  .rw[<-c1];refine go N (2*i+1) h (by omega) (by omega) λc hc G=>?_;obtain rfl:c=2*i+1:=by omega
   exact .re _
theorem ACQ (h:HM O22 N hb w e H)(hl:H.length<=1000)(Ad:mR H H.length)(hD:xY (kA H) H.length 0)(hR:∀N' H',HM O22 N' hb w e H'->H'.Perm H->dO (kA H') H'.length->mR H' H'.length->R (.T #[]) N'):Spec prog 71 #[hV hb,.I 0] N R:=
 Ip.start (AMA h ⟨_,rfl,An.start (Ym _ 0 H N (Ai7 _) (by decide) h hl (Ai7 _) Ad hD λN' H' r G hp hk hO hn=>⟨r,rfl,λ_=>ACL ⟨rfl,hR N' H' G hp (by rw[hp.length_eq];exact hO) (by rw[hp.length_eq];exact hn)⟩,λ_=>hR N' H' G hp (by rw[hp.length_eq];exact hO) (by rw[hp.length_eq];exact hn)⟩)⟩)
theorem ACR (h:HM O22 N hb w e (u::Hs))(hl:Hs.length+1<=1000)(Ad:mR Hs Hs.length)(hD:xY (kA (u::Hs)) (Hs.length+1) 0)(hR:∀N' z H',HM O22 N' hb w e H'->H'.Perm Hs->dO (kA H') H'.length->mR H' H'.length->R (.returned z) N'):Spec prog 70 #[hV hb] N R:=by
 have c:(((u::Hs).length:Nat):Int)-1=(Hs.length:Int):=by rw[Aix];omega
 obtain⟨v,hv⟩:∃v,(u::Hs)[Hs.length]?=some v:=⟨_,Ai3 (Nat.lt_succ_self _)⟩;have hu:(u::Hs)[0]?=some u:=rfl;have hp:=Si hu hv;have hlen:(swL (u::Hs) 0 Hs.length u v).length=Hs.length+1:=hp.length_eq;refine Il.start (AMA h ⟨_,rfl,by rw[c];unfold AL;omega,?_⟩);rw[c];refine ACO (i:=0) h hu hv λN1 h1=>⟨rfl,An.start (Ym (n:=Hs.length) _ 0 _ N1 (Ai7 _) (by decide) h1 (by omega) (by omega) (λk x hk G=>?_) ⟨λa c ha hc h0=>?_,λa c ha=>by omega⟩ λN2 H2 r h2 mN hk hO hn=>⟨r,rfl,?_⟩)⟩
 .rw[Yl hu hv,Aiw (by omega)]at G;by_cases h0:k=0
  .rw[Aiy h0]at G;cases G;obtain⟨k',C8⟩:∃k',Hs.length=k'+1:=⟨Hs.length-1,by omega⟩;refine Ad k' v (by omega) ?_;rw[C8]at hv;exact hv
  .rw[Aiw h0]at G;obtain⟨k',rfl⟩:∃k',k=k'+1:=⟨k-1,by omega⟩;exact Ad k' x (by omega) G
 .rw[tH hu hv,tH hu hv,PQ h0 (by omega),PQ (by omega) (by omega)];exact hD.o a c ha (by omega) h0
 .have fX:H2.length=Hs.length+1:=mN.length_eq.trans hlen;have QY:H2[Hs.length]?=some u:=by rw[hk _ (Ai7 _),Yl hu hv,Aiy rfl]
  have e2:H2=H2.take Hs.length++[u]:=by
   rw[<-AR QY,Ai4 (by omega)]
  have hp3:(H2.take Hs.length).Perm Hs:=by
   have:=mN.trans hp;rw[e2]at this;exact List.Perm.cons_inv ((List.perm_append_singleton u _).symm.trans this)
  have lt:(H2.take Hs.length).length=Hs.length:=by rw[AjJ];omega
  rw[e2]at h2;refine ACJ AL9 DX.en (wZ h2 (by omega) λN3 z h3=>⟨z,rfl,hR N3 z _ h3 hp3 ?_ ?_⟩)
  .rw[lt];exact hO.congr λk hk=>Yk (by rw[AjQ,Aiy hk])
  .rw[lt];intro k x hk G;rw[AjQ,Aiy hk]at G;exact hn k x hk G
theorem wc (h:HM O22 N hb w e H)(hl:H.length+1<=1000)(hu:AUG O22 N hb w H u)(Ad:mR H H.length)(hux:∃x X,u.X=x::X)(hO:dO (kA H) H.length)(hR:∀N' w' e' H',HM O22 N' hb w' e' H'->H'.Perm (H++[u])->dO (kA H') H'.length->mR H' H'.length->R (.T #[]) N'):
  Spec prog 69 #[hV hb,.iface 150 (.pointer (aD u.b 0))] N R:=by
 have G:(H++[u]).length=H.length+1:=by simp
 have c:(((H++[u]).length:Nat):Int)-1=(H.length:Int):=by rw[G];omega
 have hat:∀i,i<H.length->(H++[u])[i]?=H[i]?:=λi hi=>AjV hi;refine ID.start (ACJ AF5 DG.en (pj h (by omega) hu.at_ hu.rd hu.cap hu.new hu.ne hu.nw hu.nd λN1 w1 e1 h1=>⟨rfl,AMA h1 ⟨_,rfl,by rw[c];unfold AL;omega,?_⟩⟩));rw[c];refine(ACP H.length H.length (H++[u]) N1 (Ai7 _) h1 (by omega) (by omega) (λi x hi hx=>?_) ?_ λN2 H2 h2 hp hO2 IF=>⟨rfl,hR N2 w1 e1 H2 h2 hp hO2 IF⟩).2
 .by_cases Ax:i<H.length
  .rw[hat i Ax]at hx;exact Ad i x Ax hx
  .obtain rfl:i=H.length:=by omega
   rw[Ajm (Ai7 _),Aki]at hx;cases hx;exact hux
 .rw[G];exact hO.up λi hi=>Yk (hat i hi)
end
section
variable {Z2 O22 N N':Hp}{R:Rr}{hb e:Nat}{w:Option Addr}{H:List Cu}
theorem HM.upd {u:Cu}{Hs:List Cu}{p':Option Addr}{n' c':Nat}{X':List Sr}(h:HM O22 N hb w e (u::Hs))(hr:Af 2 BT O22 p' n' X')(hc:n'<=c'):HM O22 (N.set u.b (.cells #[.slice p' n' c'] 152 (0,0))) hb w e (⟨u.b,p',n',c',X'⟩::Hs):=by
 obtain⟨c1,c2⟩:=h.cτ u (by simp);have Gn:=h.nd;rw[AjR]at Gn;obtain⟨d1,d2⟩:=Aj0.1 Gn;refine⟨by rw[Hp.AB (λe=>c2 e.symm)];exact h.hv,BH.here h.arr λa G=>Hp.AB λe=>(h.aτ a G).2.2 u (by simp) e.symm,λv hv=>?_,λk v hk=>?_,h.hτ,λv hv=>?_,λa G=>⟨(h.aτ a G).1,(h.aτ a G).2.1,λv hv=>?_⟩,Gn⟩
 .rcases Ai1.1 hv with rfl|hv
  .exact⟨Hp.AA _ _ _,hr,hc⟩
  .have Ad:v.b≠u.b:=λe=>d1 (by rw[<-e];exact Ajf.2 ⟨v,hv,rfl⟩);exact⟨by rw[Hp.AB Ad];exact(h.cur v (Aiz _ hv)).1,(h.cur v (Aiz _ hv)).2⟩
 .rw[Hp.AB (λe=>by rw[e,c1]at hk;cases hk)];exact h.ext _ _ hk
 .rcases Ai1.1 hv with rfl|hv
  .exact⟨c1,c2⟩
  .exact h.cτ v (Aiz _ hv)
 .rcases Ai1.1 hv with rfl|hv
  .exact(h.aτ a G).2.2 u (by simp)
  .exact(h.aτ a G).2.2 v (Aiz _ hv)
inductive ACS:List Cu->List Sr->List Sr->Prop
 | nil:ACS [] [] []
 | one {u:Cu} {x:Sr}:u.X[0]?=some x->ACS [u] u.X []
 | two {u v:Cu} {x y:Sr}:u.X[0]?=some x->v.X[0]?=some y->¬A3 y.ls x.ls<0->ACS [u,v] u.X v.X
theorem Sj:∀(a b:List Pt),a.length<=(Bh a b).length
 | [],b=>AjB _
 | x::a,[]=>by rw[Dy];exact Ai7 _
 | x::a,y::b=>by
  rw[F3];have h1:=Sj a (y::b);have G:=Sj (x::a) b;have h3:=Sj a b;simp only[Aix]at G ⊢;split
  .simp only[Aix];omega
  .split<;>(simp only[Aix];omega)
termination_by a b=>a.length+b.length
abbrev aK (s:Sr):Prop:=s.ls.length<=1000000000/\s.ps.length<=100000000
abbrev BdO (O:List Sr):Prop:=(∀u∈O,u.ps.length<=200000000)/\O.length<=2900000000000
structure Cli (O22:Hp)(l:Nat)(J:Hp->List Sr->Hp->Prop):Prop where
 st:∀N N' O Z2 Z',J N O Z2->Ext N' Z'->Ext O22 N'->(∀k v,N k=none->Z2 k=some v->Z' k=some v/\N' k=none)->J N' O Z'
 ext:∀N O Z2,J N O Z2->Ext N Z2
 y:∀N O Z2 s p n c q m d,J N O Z2->BdO O->aK s->Ext O22 N->Gy O22 p n s.ls->Af 2 C9 O22 q m s.ps->m<=d->JY prog l #[.agg #[.slice p n c,.slice q m d]] Z2 (λe Z'=>e=.B true/\J N (Yg O s) Z')
variable {l:Nat}{J:Hp->List Sr->Hp->Prop}
theorem Cli.call (G:Cli O22 l J){f:FuncId}{args:Array Value}{O:List Sr}(hJ:J N O Z2)(h:Spec prog f args N (λe N'=>Ext O22 N'/\∀Z',J N' O Z'->R e Z')):Spec prog f args Z2 R:=
 Spec.AA2 (N:=N) (M:=Z2.minus N) (G.ext _ _ _ hJ) (Ext.AA0 _ _) (Gi.minus _ _) (h.mono λe N' ⟨hx,hr⟩ hd=>hr _ (G.st N N' O Z2 _ hJ (Ext.DZ _ _) hx λk v hk hv=>by
  have hm:=Hp.HP.2 ⟨hk,hv⟩;have hn:=hd k (by rw[hm];simp);exact⟨by rw[Hp.EH hn];exact hm,hn⟩))
theorem Cli.set (hC:Cli O22 l J){O:List Sr}{b:Nat}{o:Obj}(hJ:J N O Z2)(hb:N b≠none\/Z2 b=none)(hx:Ext O22 (N.set b o)):J (N.set b o) O (Z2.set b o):=by
 have hN:=hC.ext _ _ _ hJ;refine hC.st N _ O Z2 _ hJ (λk v G=>?_) hx λk v G hv=>?_
 .by_cases h:k=b
  .subst h;rw[Hp.AA]at G ⊢;exact G
  .rw[Hp.AB h]at G ⊢;exact hN _ _ G
 .have Ad:k≠b:=λe=>by
   rcases hb with hb|hb
   .exact hb (by rw[<-e];exact G)
   .rw[<-e,hv]at hb;cases hb
  rw[Hp.AB Ad,Hp.AB Ad];exact⟨hv,G⟩
theorem tI:∀w,(Go.sizeOf 22).run prog w=.ok 1 w:=λw=>by kernel_rfl
end
def ELs (Z2:Hp)(vs:List Value)(X:List Sr):Prop:=∃p n c,vs=[.slice p n c]/\Af 2 BT Z2 p n X/\n<=c
theorem ELs.mono:HA ELs:=λZ2 Z' vs X hx ⟨p,n,c,G,h2,h3⟩=>⟨p,n,c,G,h2.mono BT.mono hx,h3⟩
theorem ELs.at {Z2:Hp}{p:Option Addr}{n i:Nat}{Xs:List (List Sr)}{X:List Sr}(hr:Af 1 ELs Z2 p n Xs)(hx:Xs[i]?=some X):∃b o q m d,p=some ⟨b,o,none⟩/\Hp.ld Z2 ⟨b,o+i,none⟩=some (.slice q m d)/\Af 2 BT Z2 q m X/\m<=d:=by
 obtain⟨b,o,vs,rfl,⟨q,m,d,rfl,h2,h3⟩,G⟩:=Af.idx hr hx;rw[AkG]at G;exact⟨b,o,q,m,d,rfl,G.1,h2,h3⟩
def pw (H:List Cu):Nat:=(H.map λu=>u.X.length).sum
structure RI (F:List Lb->Option (List Pt))(O:List Sr)(H:List Cu)(g:Nat):Prop where
 f:∀k,GD (DP O k) (dQ (H.map Cu.X) k)=F k
 o:O.Pairwise PN
 le:∀u∈O,∀v∈H,∀x∈v.X,Ri u.ls x.ls
 ok:∀v∈H,v.X.Pairwise PN/\∀s∈v.X,aK s
 sz:pw H<=g
 tot:O.length+g<=2900000000000
theorem AF7 (O:List Sr)(s:Sr):(Yg O s).length<=O.length+1:=by
 unfold Yg;cases G:O.getLast? with
 | none=>simp
 | some u=>
  dsimp only;split
  .rw[Ai5,List.length_dropLast,Ajc];omega
  .simp
section
variable {F:List Lb->Option (List Pt)}{O:List Sr}{H H' Hs:List Cu}{g:Nat}{u u':Cu}{s:Sr}{X':List Sr}
theorem RI.bd (h:RI F O H g)(hF:∀k ps,F k=some ps->ps.length<=200000000):BdO O:=by
 refine⟨λu hu=>?_,by have:=h.tot;omega⟩;have G:=h.f u.ls;rw[ACB (ACC h.o) hu]at G;cases h2:dQ (H.map Cu.X) u.ls with
 | none=>rw[h2]at G;exact hF _ _ G.symm
 | some q=>rw[h2]at G;exact Aj3 (Sj _ _) (hF _ _ G.symm)
theorem RI.perm (h:RI F O H g)(hp:H'.Perm H):RI F O H' g:=
 ⟨λk=>by rw[tE (hp.map _)];exact h.f k,h.o,λu G v hv=>h.le u G v (hp.mem_iff.1 hv),λv hv=>h.ok v (hp.mem_iff.1 hv),by
  unfold pw;rw[(hp.map _).sum_nat];exact h.sz,h.tot⟩
theorem RI.drop (h:RI F O (u::Hs) g)(G:u.X=[]):RI F O Hs g:=
 ⟨λk=>by
  have:=h.f k;rw[AjR,G,C1]at this;exact this,h.o,λx hx v hv=>h.le x hx v (Aiz _ hv),λv hv=>h.ok v (Aiz _ hv),by
  have:=h.sz;unfold pw at this ⊢;rw[AjR,Akf]at this;omega,h.tot⟩
theorem RI.step (h:RI F O (u::Hs) (g+1))(G:u.X=s::X')(pq:∀v∈u::Hs,∀x∈v.X,Ri s.ls x.ls)(Bi:u'.X=X'):RI F (Yg O s) (u'::Hs) g:=by
 have hs:s∈u.X:=by rw[G];exact AjG ..
 obtain⟨g1,g2,g3⟩:=ALx h.o λx hx=>h.le x hx u (AjG ..) s hs;obtain⟨k1,k2⟩:=h.ok u (AjG ..);rw[G]at k1;refine⟨λk=>?_,g2,λx hx v hv y hy=>(g3 x hx).tr ?_,λv hv=>?_,?_,?_⟩
 .have:=h.f k;rw[AjR,G,C1,AFv k1,F5]at this;rw[g1,AjR,Bi,C1,F5];exact this
 .rcases Ai1.1 hv with rfl|hv
  .exact pq u (AjG ..) y (by rw[G];exact Aiz _ (Bi▸hy))
  .exact pq v (Aiz _ hv) y hy
 .rcases Ai1.1 hv with rfl|hv
  .rw[Bi];exact⟨(AjY.1 k1).2,λy hy=>k2 y (by rw[G];exact Aiz _ hy)⟩
  .exact h.ok v (Aiz _ hv)
 .have:=h.sz;unfold pw at this ⊢;rw[AjR,Akf,G,Aix]at this;rw[AjR,Akf,Bi];omega
 .have:=h.tot;have:=AF7 O s;omega
end
section
variable {Z2 O22 N N':Hp}{R:Rr}{l hb e:Nat}{w:Option Addr}{J:Hp->List Sr->Hp->Prop}
theorem qA {F:List Lb->Option (List Pt)}{b3:Nat}(hC:Cli O22 l J)(hF:∀k ps,F k=some ps->ps.length<=200000000)(mj:∀N O Z2,O.Pairwise PN->(∀k,DP O k=F k)->J N O Z2->R (.T #[]) Z2):
  ∀(g:Nat) (H:List Cu) (N Z2:Hp) (O:List Sr) (w:Option Addr) (e:Nat),RI F O H g->H.length<=1000->mR H H.length->dO (kA H) H.length->HM O22 N b3 w e H->J N O Z2->BC.NB R (.func (.yield l) #[] #[]) b3 Z2:=by
 have stop:∀(g:Nat) (N Z2:Hp) (O:List Sr) (w:Option Addr) (e:Nat),RI F O [] g->HM O22 N b3 w e []->J N O Z2->BC.NB R (.func (.yield l) #[] #[]) b3 Z2:=λg N Z2 O w e hI hM hJ=>by
  refine BC.LG ⟨w,0,e,(hC.ext _ _ _ hJ).ld hM.ldh,λhh=>absurd hh (by decide),λ_=>mj N O Z2 hI.o (λk=>?_) hJ⟩;rw[<-hI.f k];exact(Ki _).symm
 intro g
 induction g with
 | zero=>
  intro H N Z2 O w e hI hl Ad hO hM hJ;cases H with
  | nil=>exact stop _ N Z2 O w e hI hM hJ
  | cons u Hs=>
   obtain⟨s,X',G⟩:=Ad 0 u (Nat.zero_lt_succ _) rfl;have:=hI.sz;unfold pw at this;rw[AjR,Akf,G,Aix]at this;omega
 | succ g ih=>
  intro H N Z2 O w e hI hl Ad hO hM hJ;cases H with
  | nil=>exact stop _ N Z2 O w e hI hM hJ
  | cons u Hs=>
   have hN:=hC.ext _ _ _ hJ;obtain⟨s,X',G⟩:=Ad 0 u (Nat.zero_lt_succ _) rfl;have pq:∀v∈u::Hs,∀x∈v.X,Ri s.ls x.ls:=λv hv x hx=>by
    obtain⟨i,hi,rfl⟩:=List.getElem_of_mem hv;obtain⟨y,Y,hY⟩:=Ad i _ hi (Ai3 hi);have h1:=hO.min i i (Ai7 _) hi;rw[Lw (H:=u::Hs) (i:=0) rfl G,Lw (Ai3 hi) hY]at h1;rw[hY]at hx;rcases Ai1.1 hx with rfl|hx
    .exact h1
    .have h2:=(hI.ok _ hv).1;rw[hY]at h2;exact h1.tr (.lt ((AjY.1 h2).1 x hx))
   have hPs:=(hI.ok u (by simp)).2 s (by rw[G];simp);obtain⟨b,o,rfl,Ax,vK⟩:=hM.at (i:=0) (u:=u) rfl;obtain⟨c1,c2,c3⟩:=hM.cur u (by simp);rw[G]at c2;have Sv:(s::X').length=u.n:=c2.1;rw[Aix]at Sv;obtain⟨bx,ox,p1,n1,e1,q1,m1,d1,hpu,l1,r1,r2,r3⟩:=BT.at c2 (i:=0) (s:=s) rfl;rw[Akl,AkK]at l1;have AUI:=hM.ext.trans hN;have hlen:(0:Int)<(((u::Hs).length:Nat):Int):=by rw[Aix];omega
   refine BC.LG ⟨_,_,e,hN.ld hM.ldh,λ_=>⟨_,_,e,hN.ld hM.ldh,b,o,rfl,⟨by decide,hlen⟩,aD u.b 0,hN.ld vK,u.b,0,rfl,u.p,u.n,u.c,AJ (hN _ _ c1) rfl,bx,ox,hpu,by unfold In;omega,p1,n1,e1,q1,m1,d1,l1.mono AUI,l,rfl,?_⟩,λhh=>absurd hlen hh⟩;refine(hC.y N O Z2 s p1 n1 e1 q1 m1 d1 hJ (hI.bd hF) hPs hM.ext r1 r2 r3).mono λen Z1 ⟨he,hJ1⟩=>?_;subst he;have hN1:=hC.ext _ _ _ hJ1;refine⟨true,rfl,λhh=>(by cases hh),λ_=>⟨u.p,u.n,u.c,AJ (hN1 _ _ c1) rfl,⟨by decide,by omega⟩,?_⟩⟩;have hM1:=hM.upd (AL0 c2 (by decide) c3) (by omega:u.n-1<=u.c-1);refine AI.store (P:=prog) tI (hN1 _ _ c1) rfl (Ai7 _) ph ?_;have e1:Ks #[Value.slice u.p u.n u.c] 0 (Value.slice (E4 u.p 1 u.c 2) (u.n-1) (u.c-1)).cells.toList=#[.slice (E4 u.p 1 u.c 2) (u.n-1) (u.c-1)]:=rfl;rw[e1];refine⟨_,_,_,AJ (Hp.AA _ _ _) rfl,?_⟩;have hJ2:=hC.set hJ1 (.inl (by rw[c1];simp)) hM1.ext;have hI1:=hI.step (u':=⟨u.b,E4 u.p 1 u.c 2,u.n-1,u.c-1,X'⟩) G pq rfl;have hag:∀i<(u::Hs).length,i≠0->kA (⟨u.b,E4 u.p 1 u.c 2,u.n-1,u.c-1,X'⟩::Hs) i=kA (u::Hs) i:=λi _ h0=>by
    cases i with
    | zero=>exact absurd rfl h0
    | succ i=>rfl
   have Agz:∀(i:Nat) (v:Cu),0<i->i<(u::Hs).length->(u::Hs)[i]?=some v->∃x X,v.X=x::X:=λi v _ hi hv=>Ad i v hi hv;have kg:∀(i:Nat) (v:Cu),i<Hs.length->Hs[i]?=some v->∃x X,v.X=x::X:=λi v hi hv=>Ad (i+1) v (Nat.succ_lt_succ hi) hv;rw[Aix]at hl;refine⟨λh0=>?_,λh0=>?_⟩
   .have hX':X'=[]:=AkH.1 (by omega);subst hX';exact hC.call hJ2 (ACR hM1 hl kg (hO.down hag) λN2 z H2 h2 hp hO2 IF=>⟨h2.ext,λZ22 hJ3=>⟨z,rfl,ih H2 N2 Z22 _ _ e ((hI1.drop rfl).perm hp) (by rw[hp.length_eq];omega) IF hO2 h2 hJ3⟩⟩)
   .cases hX:X' with
    | nil=>subst hX;exact absurd (by simp only[Ajw]at Sv;omega) h0
    | cons t X2=>
     subst hX;refine hC.call hJ2 (ACQ hM1 (by simp only[Aix];omega) (λi v hi hv=>?_) (hO.down hag) λN2 H2 h2 hp hO2 IF=>⟨h2.ext,λZ22 hJ3=>⟨rfl,ih H2 N2 Z22 _ _ e (hI1.perm hp) (by rw[hp.length_eq,Aix];omega) IF hO2 h2 hJ3⟩⟩);cases i with
     | zero=>cases hv;exact⟨t,X2,rfl⟩
     | succ i=>exact kg i v (by simp only[Aix]at hi;omega) hv
structure HH (Ys:List (List Sr))(H:List Cu):Prop where
 rs:∀k,dQ (H.map Cu.X) k=dQ Ys k
 sz:pw H<=(Ys.map List.length).sum
 len:H.length<=Ys.length
 ok:∀v∈H,v.X.Pairwise PN/\∀s∈v.X,aK s
theorem qB (G Bs:List (List Sr))(k:List Lb):dQ (G++Bs) k=GD (dQ G k) (dQ Bs k):=by
 induction G with
 | nil=>rfl
 | cons A G ih=>rw[Ajp,C1,C1,ih,F5]
theorem AbE {a i k n:Nat}(G:a<=min i n)(h2:i<k)(h3:k<=1000):a+1<=1000:=by omega
theorem qC {Xs:List (List Sr)}{b1 kl cl:Nat}{pl:Option Addr}{Z0:Hp}(hC:Cli O22 l J)(I4:Hp.ld O22 ⟨b1,0,none⟩=some (.slice pl kl cl))(hL:Af 1 ELs O22 pl kl Xs)(hk:kl<=1000)(hS:∀X∈Xs,X.Pairwise PN/\∀s∈X,aK s)(hF:∀k ps,dQ Xs k=some ps->ps.length<=200000000)(hl:(Xs.map List.length).sum<=2900000000000)
  (h0:J O22 [] Z0) (mj:∀N Z2,J N (mgF Xs) Z2->R (.T #[]) Z2):Spec prog 68 #[.func (.yield l) #[] #[],.pointer (aD b1 0)] Z0 R:=by
 have hlen:Xs.length=kl:=hL.1;have sW:=hC.ext _ _ _ h0;refine BC.start λb3 h3=>?_;have t3:O22 b3=none:=A4 sW h3;have x3:=Ext.set (o:=.cells #[.N] 147 (0,0)) t3;have J3:=hC.set (o:=.cells #[.N] 147 (0,0)) h0 (.inr h3) x3;have M3:HM O22 (O22.set b3 (.cells #[.N] 147 (0,0))) b3 none 0 []:=⟨Hp.AA _ _ _,BH.nil,λu hu=>(by cases hu),x3,t3,λu hu=>(by cases hu),λa ha=>(by cases ha),AkR⟩;have B0:=M3.ext.trans (hC.ext _ _ _ J3)
 suffices H:∀(d i:Nat) (H:List Cu) (N Z2:Hp) (w:Option Addr) (e:Nat),kl-i=d->i<=kl->HH (Xs.take i) H->mR H H.length->dO (kA H) H.length->HM O22 N b3 w e H->J N [] Z2->BC.GG R (.func (.yield l) #[] #[]) b3 pl kl cl (kl:Int) (i:Int) Z2 from
  ⟨_,_,_,B0.ld I4,H kl 0 [] _ _ none 0 rfl (AjB _) ⟨λk=>rfl,Ai7 _,Ai7 _,λv hv=>by cases hv⟩ (λi v hi=>absurd hi (Nat.not_lt_zero _)) (λa c _ hc=>absurd hc (Nat.not_lt_zero _)) M3 J3⟩
 intro d
 induction d with
 | zero=>
  intro i H N Z2 w e hd hi G Ad hO hM hJ;obtain rfl:i=kl:=by omega
  rw[Ai4 (by omega)]at G;have:=G.len;exact BC.BG ⟨λhh=>by omega,λ_=>qA hC hF (λN O Z2 h1 h2 h4=>mj N Z2 (by rw[<-AIV (λX hX=>(hS X hX).1) h1 h2];exact h4)) _ H N Z2 [] w e ⟨λk=>G.rs k,List.Pairwise.nil,λu hu=>(by cases hu),G.ok,G.sz,by rw[Ajw];omega⟩ (by omega) Ad hO hM hJ⟩
 | succ d ih=>
  intro i H N Z2 w e hd hi G Ad hO hM hJ;have hN:=hC.ext _ _ _ hJ;have hik:i<kl:=by omega
  obtain⟨X,hX⟩:=hL.ex hik;obtain⟨lb,ob,q,m,dd,rfl,DD,rX,kX⟩:=ELs.at hL hX;have hlX:X.length=m:=rX.1;have eT:=AR hX;have hHl:=G.len;rw[AjJ]at hHl;have next:∀(H':List Cu) (N' Z':Hp) (w':Option Addr) (e':Nat),HH (Xs.take (i+1)) H'->mR H' H'.length->dO (kA H') H'.length->HM O22 N' b3 w' e' H'->J N' [] Z'->BC.RL R (.func (.yield l) #[] #[]) b3 (aD lb ob) kl cl (kl:Int) (i:Int) Z':=λH' N' Z' w' e' h1 h2 h4 h5 h6=>by
   have:=ih (i+1) H' N' Z' w' e' (by omega) (by omega) h1 h2 h4 h5 h6;rw[show((i+1:Nat):Int)=(i:Int)+1 by omega]at this;exact BC.La ⟨by unfold AL;omega,this⟩
  refine BC.BG ⟨λ_=>⟨lb,ob,rfl,by unfold In;omega,q,m,dd,by rw[AjM,AkG];exact(hM.ext.trans hN).ld DD,λHu=>λKA h19=>?_,λhz=>?_⟩,λhh=>by omega⟩
  .obtain⟨x,X',hxX⟩:∃x X',X=x::X':=by
    cases X with
    | nil=>simp only[Ajw]at hlX;omega
    | cons x X'=>exact⟨x,X',rfl⟩
   have n19:N KA=none:=A4 hN h19;have Cd:=Ext.set (o:=.cells #[.slice q m dd] 152 (0,0)) n19;have hu:AUG O22 (N.set KA (.cells #[.slice q m dd] 152 (0,0))) b3 w H ⟨KA,q,m,dd,X⟩:=by
    refine⟨Hp.AA _ _ _,rX,kX,A4 hM.ext n19,λe=>?_,λa ha e=>?_,λv hv e=>?_⟩
    .have:=hM.hv;rw[<-e]at this;simp only at this;rw[n19]at this;cases this
    .exact hM.arr.block a ha (by rw[<-e];exact n19)
    .have:=(hM.cur v hv).1;rw[e]at this;simp only at this;rw[n19]at this;cases this
   have AMB:=hM.mono Cd;have AUK:=hC.set (o:=.cells #[.slice q m dd] 152 (0,0)) hJ (.inr h19) AMB.ext;generalize N.set KA (.cells #[.slice q m dd] 152 (0,0))=N19 at AMB AUK hu;refine hC.call AUK (wc (u:=⟨KA,q,m,dd,X⟩) AMB (AbE hHl hik hk) hu Ad ⟨x,X',hxX⟩ hO λN4 w4 e4 H4 h4 hp hO4 mS=>⟨h4.ext,λZ4 J4=>⟨rfl,next H4 N4 Z4 w4 e4 ⟨λk=>?_,?_,?_,λv hv=>?_⟩ mS hO4 h4 J4⟩⟩)
   .rw[tE (hp.map _),AjP,qB,G.rs,eT,qB];rfl
   .have:=G.sz;unfold pw at this ⊢;rw[(hp.map _).sum_nat,eT,AjP,Aka,AjP,Aka];exact Nat.add_le_add_right this _
   .rw[hp.length_eq,Ai5,Ajc,AjJ];omega
   .rcases AjU.1 (hp.mem_iff.1 hv) with hv|hv
    .exact G.ok v hv
    .rw[Ai2]at hv;subst hv;exact hS X (Ai6 hX)
  .have hX0:X=[]:=AjL (by omega);subst hX0;refine next H N Z2 w e ⟨λk=>?_,?_,?_,G.ok⟩ Ad hO hM hJ
   .rw[G.rs,eT,qB];exact(Ki _).symm
   .rw[eT,AjP,Aka];have:=G.sz;omega
   .rw[AjJ];omega
end
end TwW
end
section
namespace TwW
open Go Tw
theorem BH.AMC {s:Nat}{Z2 Z':Hp}{p:Option Addr}{n c:Nat}{cs:List Value}(G:BH s Z2 p n c cs)(h:∀a,p=some a->Z' a.block=Z2 a.block):BH s Z' p n c cs:=
 ⟨G.1,G.2.1,G.2.2.imp id λ⟨b',o',arr,T,hp,hb,r⟩=>⟨b',o',arr,T,hp,by rw[h _ hp];exact hb,r⟩⟩
theorem Hp.ACV {Z2 Z':Hp}{p:Option Addr}(hx:Ext Z2 (Z'.del p)):∀a,p=some a->(Z2.new Z') a.block=Z' a.block:=λa ha=>by
 subst ha;cases G:Z2 a.block with
 | none=>simp only[Hp.new,G]
 | some u=>
  have:=hx _ _ G;simp[Hp.del]at this
theorem AN.Vi {α:Type}{s:Nat}{E:Hp->List Value->α->Prop}{Z0 Z2:Hp}{p:Option Addr}{n c:Nat}{xs:List α}(hE:∀Z2 Z' vs x,E Z2 vs x->E Z' vs x)(h:AN s E Z0 Z2 p n c xs):Af s E (Z0.new Z2) p n xs:=by
 obtain⟨⟨h1,cs,h2,G⟩,h4⟩:=h;exact⟨h1,cs,(BH.AMC h2 (Hp.ACV h4)).rd,G.1,λi x hi=>hE _ _ _ _ (G.2 i x hi)⟩
end TwW
end
section
namespace TwW
open Go Tw Go.RowKit Go.Proofs.Tryz
abbrev mL (l D b7:Nat)(w:Option Addr)(j e:Nat)(lo:Loop):List (Nat×Obj):=[(l,.loop lo),(D,.deferred (some [])),(b7,.cells #[.slice w j e] 22 (0,0))]
structure OM (C B:Hp)(w:Option Addr)(j e:Nat)(O:List Sr):Prop where
 own:∃cs,BH 2 B w j e cs/\Ch 2 BT C cs O
 ext:Ext C B
 nw:∀a,w=some a->C a.block=none
structure JmB (O22 N:Hp)(l D b7:Nat)(O:List Sr)(B C:Hp)(w:Option Addr)(e:Nat):Prop where
 off:∀b∈[l,D,b7],B b=none
 nb:Ext N B
 om:OM C B w O.length e O
 tc:Ext O22 C
 cn:∀k,C k≠none->O22 k≠none\/N k=none
 wn:∀a,w=some a->N a.block=none
def Jm (O22:Hp)(l D b7:Nat)(r0:Loop)(N:Hp)(O:List Sr)(Z2:Hp):Prop:=∃B C w e,Z2=BR B (mL l D b7 w O.length e (lp r0 .ready none))/\JmB O22 N l D b7 O B C w e
section
variable {Z2 Z' O22 N N' B C:Hp}{R:Rr}{l D b7 e:Nat}{r0:Loop}{O:List Sr}{w:Option Addr}
theorem Jm.ext (Gn:[l,D,b7].Nodup)(h:Jm O22 l D b7 r0 N O Z2):Ext N Z2:=by
 obtain⟨B,C,w,e,rfl,G⟩:=h;exact G.nb.trans (VB.ext (L:=mL l D b7 w O.length e (lp r0 .ready none)) Gn G.off)
theorem Jm.st (Gn:[l,D,b7].Nodup)(h:Jm O22 l D b7 r0 N O Z2)(hx:Ext N' Z')(hτ:Ext O22 N')(hk:∀k v,N k=none->Z2 k=some v->Z' k=some v/\N' k=none):Jm O22 l D b7 r0 N' O Z':=by
 obtain⟨B,C,w,e,rfl,hJ⟩:=h
 let L:=mL l D b7 w O.length e (lp r0 .ready none)
 have hL:(names L).Nodup:=Gn;have boxed:∀(i b:Nat) (o:Obj),L[i]?=some (b,o)->b∈[l,D,b7]->Z' b=some o/\N' b=none:=λi b o hi hb=>hk b o (A4 hJ.nb (hJ.off b hb)) (BY hL hi);have keep:∀k v,B k=some v->N k=none->Z' k=some v/\N' k=none:=λk v hb hn=>hk k v hn (VB.ext (L:=L) hL hJ.off k v hb)
 let B':Hp:=λk=>if k=l\/k=D\/k=b7 then none else Z' k
 have other:∀k,B k≠none\/N' k≠none->B' k=Z' k:=λk C8=>by
  have hn:¬(k=l\/k=D\/k=b7):=λG=>by
   have hm:k∈[l,D,b7]:=by simpa using G
   rcases C8 with hb|hb
   .exact hb (hJ.off k hm)
   .rcases G with rfl|rfl|rfl
    .exact hb (boxed 0 _ _ rfl hm).2
    .exact hb (boxed 1 _ _ rfl hm).2
    .exact hb (boxed 2 _ _ rfl hm).2
  show(if k=l\/k=D\/k=b7 then none else Z' k)=Z' k
  rw[Aiw hn]
 have tJ:∀k v,B k=some v->N k=none->B' k=some v/\N' k=none:=λk v hb hn=>by
  obtain⟨k1,k2⟩:=keep k v hb hn;exact⟨by rw[other k (.inl (by rw[hb];simp))];exact k1,k2⟩
 have hB':Z'=BR B' L:=funext λk=>by
  show Z' k=(((B'.set b7 (.cells #[.slice w O.length e] 22 (0,0))).set D (.deferred (some []))).set l (.loop (lp r0 .ready none))) k
  by_cases h1:k=l
  .subst h1;rw[Hp.AA];exact(boxed 0 _ _ rfl (by simp)).1
  .rw[Hp.AB h1];by_cases h2:k=D
   .subst h2;rw[Hp.AA];exact(boxed 1 _ _ rfl (by simp)).1
   .rw[Hp.AB h2];by_cases h3:k=b7
    .subst h3;rw[Hp.AA];exact(boxed 2 _ _ rfl (by simp)).1
    .rw[Hp.AB h3];show Z' k=if k=l\/k=D\/k=b7 then none else Z' k
     rw[Aiw (by rintro(h|h|h);exact h1 h;exact h2 h;exact h3 h)]
 obtain⟨⟨cs,ho,hc⟩,tK,hnw⟩:=hJ.om;refine⟨B',C,w,e,hB',λb hb=>?_,λk v C8=>?_,⟨⟨cs,BH.here ho λa ha=>?_,hc⟩,λk v C8=>?_,hnw⟩,hJ.tc,λk C8=>?_,λa ha=>?_⟩
 .show(if b=l\/b=D\/b=b7 then none else Z' b)=none
  rw[Aiy (by simpa using hb)]
 .rw[other k (.inr (by rw[C8];simp))];exact hx _ _ C8
 .cases G:B a.block with
  | none=>exact absurd G (ho.block a ha)
  | some v=>exact(tJ _ _ G (hJ.wn a ha)).1
 .have hb:=tK _ _ C8;rcases hJ.cn k (by rw[C8];simp) with h1|h1
  .rw[other k (.inl (by rw[hb];simp))];cases G:O22 k with
   | none=>exact absurd G h1
   | some u=>
    have:=hJ.tc _ _ G;rw[C8]at this;rw[hx _ _ (hτ _ _ G),<-this]
  .exact(tJ k v hb h1).1
 .rcases hJ.cn k C8 with h1|h1
  .exact .inl h1
  .cases G:C k with
   | none=>exact absurd G C8
   | some v=>exact .inr (tJ k v (tK _ _ G) h1).2
 .cases G:B a.block with
  | none=>exact absurd G (ho.block a ha)
  | some v=>exact(tJ _ _ G (hJ.wn a ha)).2
theorem AMD:∀w,(Go.sizeOf 98).run prog w=.ok 2 w:=λw=>by kernel_rfl
theorem JmB.mono {G:Hp}(h:JmB O22 N l D b7 O B C w e)(hx:Ext B G)(ho:∀b∈[l,D,b7],G b=none):JmB O22 N l D b7 O G C w e:=
 ⟨ho,h.nb.trans hx,⟨let ⟨cs,h1,h2⟩:=h.om.own;⟨cs,h1.mono hx,h2⟩,h.om.ext.trans hx,h.om.nw⟩,h.tc,h.cn,h.wn⟩
theorem we {s:Sr}{p q:Option Addr}{n c m d:Nat}(Gn:[l,D,b7].Nodup)(hJ:JmB O22 N l D b7 O B C w e)(hbd:BdO O)(hs:aK s)(r1:Gy O22 p n s.ls)(r2:Af 2 C9 O22 q m s.ps)(kr:m<=d):
  DV.AJe (λen Z'=>en=.B true/\Jm O22 l D b7 r0 N (Yg O s) Z') l r0 b7 (.agg #[.slice p n c,.slice q m d]) (BR B (mL l D b7 w O.length e (lp r0 .ready none))):=by
 refine DV.AEH λb8 h8=>?_;obtain⟨n8,hB8⟩:=Pr (L:=mL l D b7 w O.length e (lp r0 .ready none)) h8;have QT:(b8::[l,D,b7]).Nodup:=Aj0.2 ⟨n8,Gn⟩
 let o8:Obj:=.cells #[.slice p n c,.slice q m d] 98 (0,0)
 let Lo:Option Addr->Nat->Nat->Loop->List (Nat×Obj):=λw j e lo=>(b8,o8)::mL l D b7 w j e lo
 let L:List (Nat×Obj):=(b8,o8)::mL l D b7 w O.length e (lp r0 .busy none)
 have hL:(names L).Nodup:=QT;have AMF:∀{B' w' j' e' lo},(∀b∈[l,D,b7],B' b=none)->B' b8=none->VB (Lo w' j' e' lo) B':=λho h9 x hx=>by
  rcases Ai1.1 hx with rfl|hx
  .exact h9
  .exact ho x hx
 have ACW:∀{B' w' j' e' lo},VB (Lo w' j' e' lo) B'->(∀b∈[l,D,b7],B' b=none)/\B' b8=none:=λho=>⟨λx hx=>ho x (Aiz _ hx),ho b8 (AjG ..)⟩;show AI prog (Instr.storeAt 98 (.pointer (some ⟨b8,0,none⟩)) (.agg #[.slice p n c,.slice q m d])) (BR B ((b8,.cells #[.N,.N] 98 (0,0))::mL l D b7 w O.length e (lp r0 .ready none))) _
 refine AI.RN (L:=(b8,.cells #[.N,.N] 98 (0,0))::mL l D b7 w O.length e (lp r0 .ready none)) (i:=0) (c:=#[.N,.N]) (c':=#[.slice p n c,.slice q m d]) AMD QT rfl rfl rfl rfl rfl ?_;refine⟨BY (L:=Lo w O.length e (lp r0 .ready none)) (i:=1) QT rfl,?_⟩;have eb:(BR B (((b8,Obj.cells #[.N,.N] 98 (0,0))::mL l D b7 w O.length e (lp r0 .ready none)).set 0 (b8,Obj.cells #[.slice p n c,.slice q m d] 98 (0,0)))).set l (.loop (lp r0 .busy none))=BR B L:=DO (L:=Lo w O.length e (lp r0 .ready none)) (i:=1) QT rfl;rw[eb];have fin:∀(B' C':Hp) (w':Option Addr) (e':Nat) (O':List Sr),O'=Yg O s->JmB O22 N l D b7 O' B' C' w' e'->B' b8=none->BR B' (Lo w' O'.length e' (lp r0 .busy none)) l=some (.loop (lp r0 .busy none))/\((Ending.B true:Ending)=.B true/\Jm O22 l D b7 r0 N (Yg O s) ((BR B' (Lo w' O'.length e' (lp r0 .busy none))).set l (.loop (lp r0 .ready none)))):=λB' C' w' e' O' hO hJ' h8'=>by
  subst hO;have e1:(BR B' (Lo w' (Yg O s).length e' (lp r0 .busy none))).set l (.loop (lp r0 .ready none))=BR (B'.set b8 o8) (mL l D b7 w' (Yg O s).length e' (lp r0 .ready none)):=by
   rw[DO (L:=Lo w' (Yg O s).length e' (lp r0 .busy none)) (i:=1) QT rfl];exact RM (L:=mL l D b7 w' (Yg O s).length e' (lp r0 .ready none)) n8
  refine⟨BY (L:=Lo w' (Yg O s).length e' (lp r0 .busy none)) (i:=1) QT rfl,rfl,?_⟩;rw[e1];exact⟨_,C',w',e',rfl,hJ'.mono (Ext.set h8') λb hb=>by rw[Hp.AB (show b≠b8 from λe=>n8 (e▸hb))];exact hJ'.off b hb⟩
 have es:BT C [.slice p n c,.slice q m d] s:=⟨p,n,c,q,m,d,rfl,r1.mono CW.mono hJ.tc,r2.mono C9.mono hJ.tc,kr⟩;have app:Yg O s=O++[s]->∀(B1:Hp),Ext B B1->(∀b∈[l,D,b7],B1 b=none)->B1 b8=none->∃rQ:Option Addr,∃rR:Nat,∃rS:Nat,Hp.ld (BR B1 L) ⟨b7,0,none⟩=some (.slice rQ rR rS)/\∃QA:Option Addr,∃QB:Nat,∃QC:Nat,∃QD:Option Addr,∃QE:Nat,∃QF:Nat,Az (BR B1 L) b8 0 [.slice QA QB QC,.slice QD QE QF]/\∀QG:Nat,(BR B1 L) QG=none->AI prog (Builtin.append_ #[22,22] 22 #[.slice rQ rR rS,.slice (some ⟨QG,0,none⟩) 1 1]) (Hp.set (BR B1 L) QG (.cells #[.slice QA QB QC,.slice QD QE QF] 98 (0,0))) (λmB EP=>∃aB:Option Addr,∃UG:Nat,∃cE:Nat,mB=.slice aB UG cE/\AI prog (Instr.storeAt 22 (.pointer (some ⟨b7,0,none⟩)) (.slice aB UG cE)) EP (λ_ Qe=>Qe l=some (.loop (lp r0 .busy none))/\((Ending.B true:Ending)=.B true/\Jm O22 l D b7 r0 N (Yg O s) (Hp.set Qe l (.loop (lp r0 .ready none)))))):=λhap B1 BS Rv h81=>by
  refine⟨w,O.length,e,ldL (L:=L) (i:=3) hL rfl rfl,p,n,c,q,m,d,Az.EW (c:=[.slice p n c,.slice q m d]) (BY (L:=L) (i:=0) hL rfl),λQG h57=>?_⟩;obtain⟨n57,AbG⟩:=Pr (L:=L) h57;rw[RM n57];have hJ1:=hJ.mono BS Rv;obtain⟨⟨cs,ho,hc⟩,tK,hnw⟩:=hJ1.om;have x57:=Ext.set (o:=.cells #[.slice p n c,.slice q m d] 98 (0,0)) AbG;refine AI.Lh hL (VB.set (AMF Rv h81) n57) (D9 (ho.mono x57) (q:=aD QG 0) (ys:=[.slice p n c,.slice q m d]) ⟨rfl,by decide,.inr ⟨QG,0,rfl,Az.EW (c:=[.slice p n c,.slice q m d]) (Hp.AA _ _ _)⟩⟩ (λu hu=>by
   simp only[Ai1,AjK,Ajl]at hu;rcases hu with rfl|rfl<;>rfl) (by have:=hbd.2;omega) λp' c' B2 Bq Aw tL=>⟨p',O.length+1,c',rfl,?_⟩)
  obtain⟨AMG,h82⟩:=ACW tL;refine AI.RN (L:=L) (i:=3) (c:=#[.slice w O.length e]) (c':=#[.slice p' (O.length+1) c']) tI hL rfl rfl rfl rfl rfl ?_;have K:∀k v,B1 k=some v->(∀a,w=some a->k≠a.block)->B2 k=some v/\∀a,p'=some a->k≠a.block:=λk v G Ad=>by
   obtain⟨a1,a2⟩:=Aq.1 (Aw k v (Aq.2 ⟨Ad,x57 _ _ G⟩));exact⟨a2,a1⟩
  have KC:∀k v,C k=some v->B2 k=some v/\∀a,p'=some a->k≠a.block:=λk v G=>K k v (tK _ _ G) λa ha e=>by rw[e,hnw a ha]at G;cases G
  have KN:∀k v,N k=some v->B2 k=some v/\∀a,p'=some a->k≠a.block:=λk v G=>K k v (hJ1.nb _ _ G) λa ha e=>by rw[e,hJ1.wn a ha]at G;cases G
  have:=fin B2 C p' c' (O++[s]) hap.symm ⟨AMG,λk v G=>(KN k v G).1,⟨⟨_,by rw[Ai5,Ajc];exact Bq,hc.snoc rfl es⟩,λk v G=>(KC k v G).1,λa ha=>?_⟩,hJ1.tc,hJ1.cn,λa ha=>?_⟩ h82
  .rw[Ai5,Ajc]at this;exact this
  .cases hh:C a.block with
   | none=>rfl
   | some v=>exact absurd rfl ((KC _ _ hh).2 a ha)
  .cases hh:N a.block with
   | none=>rfl
   | some v=>exact absurd rfl ((KN _ _ hh).2 a ha)
 have e14:Hp.ld (BR B L) ⟨b7,0,none⟩=some (.slice w O.length e):=ldL (L:=L) (i:=3) hL rfl rfl;refine⟨w,O.length,e,e14,λHu=>?_,λhz=>?_⟩
 .obtain⟨O',u,hO⟩:∃O' u,O=O'++[u]:=by
   rcases AmK O with h|⟨O',u,h⟩
   .subst h;exact absurd Hu (by decide)
   .exact⟨O',u,by rw[h,AmL]⟩
  have hlen:O.length=O'.length+1:=by rw[hO];simp
  have kv:O[O'.length]?=some u:=by rw[hO,Ajm (Ai7 _),Aki];rfl
  have t1:Int.toNat ((O.length:Int)-1)=O'.length:=by omega
  obtain⟨⟨cs,ho,hc⟩,tK,hnw⟩:=hJ.om;have hxB:Ext B (BR B L):=VB.ext hL (AMF hJ.off hB8);have hr:Af 2 (λ_ vs x=>BT C vs x) B w O.length O:=⟨rfl,cs,ho.rd,hc.1,λi x hx=>hc.2 i x hx⟩;obtain⟨bw,ow,vs,hw,gb,hl⟩:=Af.idx hr kv;obtain⟨p1,n1,c1,q1,m1,d1,rfl,s1,s2,s3⟩:=gb;subst hw;have l0:∀{B':Hp},Ext B B'->Hp.ld B' ⟨bw,ow+Int.toNat ((O.length:Int)-1)*2,none⟩=some (.slice p1 n1 c1):=λhx=>by rw[t1];exact(hl.mono hx).1
  have l1:∀{B':Hp},Ext B B'->Hp.ld B' ⟨bw,(ow+Int.toNat ((O.length:Int)-1)*2)+1,none⟩=some (.slice q1 m1 d1):=λhx=>by rw[t1];exact(hl.mono hx).2.1
  have i64:AL ((O.length:Int)-1):=by have:=hbd.2;unfold AL;omega
  have Q5:(0:Int)<=(O.length:Int)-1/\(O.length:Int)-1<(O.length:Int):=⟨by omega,by omega⟩;refine⟨_,O.length,e,e14,i64,bw,ow,rfl,Q5,p1,n1,c1,l0 hxB,p,n,c,ldL (L:=L) (i:=0) hL rfl rfl,?_⟩;refine Spec.Lh hL (AMF hJ.off hB8) (Kb (s1.mono CW.mono tK) (r1.mono CW.mono (hJ.tc.trans tK)) λB1 BS tM=>⟨_,rfl,λh0=>?_,λAd=>?_⟩)
  .obtain⟨AMH,h81⟩:=ACW tM;have hul:u.ls=s.ls:=(Aa.eq _ _).1 h0;have hap:Yg O s=O'++[⟨u.ls,Bh u.ps s.ps⟩]:=by rw[hO];exact lQ hul
   have AbH:Ext B1 (BR B1 L):=VB.ext hL tM;have e15:Hp.ld (BR B1 L) ⟨b7,0,none⟩=some (.slice (some ⟨bw,ow,none⟩) O.length e):=ldL (L:=L) (i:=3) hL rfl rfl;have hJ1:=hJ.mono BS AMH;have hm1:u.ps.length=m1:=s2.1;have hm2:s.ps.length=m:=r2.1;have I4:=hbd.1 u (Ai6 kv);have F7:=hs.2;refine⟨_,O.length,e,e15,i64,_,O.length,e,e15,i64,bw,ow,rfl,Q5,q1,m1,d1,l1 (BS.trans AbH),q,m,d,ldL (L:=L) (i:=0) hL rfl rfl,?_⟩;refine Spec.Lh hL tM (gJ (s2.mono C9.mono (tK.trans BS)) (r2.mono C9.mono (hJ.tc.trans (tK.trans BS))) s3 kr (by omega) (by omega) λp5 n5 c5 B2 SO tL=>⟨p5,n5,c5,rfl,kpL (L:=L) (i:=3) hL rfl,bw,ow,rfl,Q5,?_⟩);obtain⟨AMG,h82⟩:=ACW tL;have Aw:=SO.up;have hJ2:=hJ1.mono Aw AMG;obtain⟨⟨cs2,Bq,bN⟩,Ag7,_⟩:=hJ2.om;have Tm:n5<=c5:=by obtain⟨ds,Qr,_⟩:=SO.1.2;exact BH.cap Qr
   rw[t1,AmQ];refine AI.Lh hL tL (BH.pL Bq (j:=O'.length*2+1) (by omega) ALg rfl rfl λobj Dh lT=>?_);obtain⟨AbI,h83⟩:=ACW lT
   let C':=C.or (B1.new B2)
   have hCC:Ext C C':=Ext.DZ _ _;have hNC:Ext (B1.new B2) C':=Ext.EH λk G=>by
    cases hh:C k with
    | none=>rfl
    | some v=>
     cases h4:(B1.new B2) k with
     | none=>exact absurd h4 G
     | some v'=>have:=BS _ _ (tK _ _ hh);rw[(Ae.1 h4).1]at this;cases this
   have hC2:Ext C' B2:=Ext.j6 (tK.trans (BS.trans Aw)) (Ext.CX _ _);have hbw:B1 bw≠none:=λhh=>ho.block ⟨bw,ow,none⟩ rfl (A4 BS hh);have AUL:C' bw=none:=by
    show(C.or (B1.new B2)) bw=none
    rw[Hp.EH (show C bw=none from hnw ⟨bw,ow,none⟩ rfl)];cases hh:(B1.new B2) bw with
    | none=>rfl
    | some v=>exact absurd (Ae.1 hh).1 hbw
   have e9:O'++[⟨u.ls,Bh u.ps s.ps⟩]=O.set O'.length ⟨u.ls,Bh u.ps s.ps⟩:=by rw[hO,AmJ _ _ (Ai7 _),Aki];rfl
   have AIZ:(O'++[(⟨u.ls,Bh u.ps s.ps⟩:Sr)]).length=O.length:=by rw[e9,AlE]
   have:=fin (B2.set bw obj) C' (some ⟨bw,ow,none⟩) e (O'++[⟨u.ls,Bh u.ps s.ps⟩]) hap.symm ⟨AbI,λk v G=>?_,⟨⟨_,by rw[AIZ];exact Dh,?_⟩,λk v G=>?_,λa ha=>by cases ha;exact AUL⟩,hJ.tc.trans hCC,λk G=>?_,hJ.wn⟩ h83
   .rw[AIZ]at this;exact this
   .rw[Hp.AB (λe=>by rw[e,hJ.wn ⟨bw,ow,none⟩ rfl]at G;cases G)];exact hJ2.nb _ _ G
   .rw[e9];refine⟨by rw[AlE,AlE];exact bN.1,λi y hy=>?_⟩;rw[wG (by decide)];by_cases hi:O'.length=i
    .subst hi;rw[Aiy rfl];rw[Ak1 (by omega)]at hy;cases hy;obtain⟨p9,n9,c9,q9,m9,d9,hv9,t4,t5,t6⟩:=bN.2 O'.length u kv;rw[hv9];exact⟨p9,n9,c9,p5,n5,c5,rfl,t4.mono CW.mono hCC,(AN.Vi (λ_ _ _ _ h=>h) SO).mono C9.mono hNC,Tm⟩
    .rw[Aiw hi];rw[Ale hi]at hy;exact BT.mono _ _ _ _ hCC (bN.2 i y hy)
   .rw[Hp.AB (λe=>by rw[e,AUL]at G;cases G)];exact hC2 _ _ G
   .by_cases hck:C k=none
    .right
     have G:C' k≠none:=G;have e1:C' k=(B1.new B2) k:=Hp.EH hck;rw[e1]at G;cases hh:(B1.new B2) k with
     | none=>exact absurd hh G
     | some v=>exact A4 (hJ1.nb) (Ae.1 hh).1
    .exact hJ.cn k hck
  .obtain⟨AMH,h81⟩:=ACW tM;exact app (by rw[hO,Yg];rw[List.getLast?_append];simp only[List.getLast?_singleton,Option.some_or];rw[Aiw λe=>Ad ((Aa.eq _ _).2 e)]) B1 BS AMH h81
 .have hO:O=[]:=AkH.1 (by omega);exact app (by rw[hO];rfl) B (.refl _) hJ.off hB8
end
theorem ACX:∀{Xs:List (List Sr)} {k:List Lb} {ps:List Pt},dQ Xs k=some ps->∃X∈Xs,∃s∈X,s.ls=k
 | [],k,ps,h=>by cases h
 | X::Xs,k,ps,h=>by
  rw[C1]at h;cases G:DP X k with
  | some q=>exact⟨X,AjG ..,_,Yf G,rfl⟩
  | none=>
   rw[G]at h;obtain⟨Y,hY,s,hs⟩:=ACX h;exact⟨Y,Aiz _ hY,s,hs⟩
theorem qD {K:Nat}:∀{Xs:List (List Sr)} {k:List Lb} {ps:List Pt},(∀X∈Xs,∀s∈X,s.ps.length<=K)->dQ Xs k=some ps->ps.length<=Xs.length*K
 | [],k,ps,_,h=>by cases h
 | X::Xs,k,ps,hX,h=>by
  have ih:=λq (hq:dQ Xs k=some q)=>qD (λY hY=>hX Y (Aiz _ hY)) hq;have h0:=λq (hq:DP X k=some q)=>hX X (AjG ..) _ (Yf hq);rw[C1]at h;rw[Aix,Akj];cases G:DP X k with
  | none=>rw[G]at h;have:=ih ps h;omega
  | some q=>
   rw[G]at h;have:=h0 q G;cases h2:dQ Xs k with
   | none=>rw[h2]at h;cases h;dsimp only at this;omega
   | some r=>
    rw[h2]at h;cases h;have h3:=ih r h2;have h4:=PM q r;dsimp only at this;omega
theorem ACY:∀(Xs:List (List Sr)) (Z:List Sr),(Xs.foldl CK Z).length<=Z.length+(Xs.map List.length).sum
 | [],Z=>Ai7 _
 | X::Xs,Z=>by
  have G:=ACY Xs (CK Z X);have h2:=PO Z X;rw[Akz,AjR,Akf];omega
section
variable {Z2:Hp}{R:Rr}
theorem Uk {Xs:List (List Sr)}{pl:Option Addr}{kl cl:Nat}(hL:Af 1 ELs Z2 pl kl Xs)(hk:kl<=1000)(hB:∀X∈Xs,∀s∈X,aK s)(hF:∀k ps,dQ Xs k=some ps->ps.length<=200000000)(hl:(Xs.map List.length).sum<=2900000000000)
  (hE:(∃X∈Xs,Da none X=false)->∀Z',Ext Z2 Z'->R (.T #[.N,.I 100]) Z')
  (h:(∀X∈Xs,Da none X=true)->∀p' n' c' Z',Af 2 BT Z' p' n' (mgF Xs)->n'<=c'->Ext Z2 Z'->R (.T #[.slice p' n' c',.I 0]) Z'):Spec prog 10 #[.slice pl kl cl] Z2 R:=by
 have hlen:Xs.length=kl:=hL.1
 suffices H:∀(d i:Nat) (G:Hp),kl-i=d->i<=kl->Ext Z2 G->(∀X∈Xs.take i,Da none X=true)->DV.GG R pl kl cl pl kl cl (kl:Int) (i:Int) G from
  DV.start (H kl 0 Z2 rfl (AjB _) (.refl _) λX hX=>by cases hX)
 intro d
 induction d with
 | succ d ih=>
  intro i G hd hi X2 AW;obtain⟨X,hX⟩:=hL.ex (show i<kl by omega);obtain⟨lb,ob,q,m,dd,rfl,DD,rX,kX⟩:=ELs.at hL hX;refine DV.BG ⟨λ_=>⟨lb,ob,rfl,⟨by omega,by omega⟩,q,m,dd,by rw[AjM,AkG];exact X2.ld DD,PE (rX.mono BT.mono X2) λZ3 B0=>⟨_,rfl,λAd=>?_,λh0=>?_⟩⟩,λhh=>by omega⟩
  .have hX0:Da none X=false:=by
    cases h1:Da none X with
    | false=>rfl
    | true=>rw[h1]at Ad;exact absurd rfl Ad
   rw[hX0];exact hE ⟨X,Ai6 hX,hX0⟩ Z3 (X2.trans B0)
  .have hX0:Da none X=true:=by
    cases h1:Da none X with
    | true=>rfl
    | false=>rw[h1]at h0;exact absurd (by decide) h0
   have:=ih (i+1) Z3 (by omega) (by omega) (X2.trans B0) λY hY=>by
    rw[AR hX]at hY;rcases AjU.1 hY with hY|hY
    .exact AW Y hY
    .rw[Ai2]at hY;subst hY;exact hX0
   rw[show((i+1:Nat):Int)=(i:Int)+1 by omega]at this;exact⟨by unfold AL;omega,this⟩
 | zero=>
 intro i G hd hi X2 AW;rw[Ai4 (by omega)]at AW;obtain rfl:i=kl:=by omega
 refine DV.BG ⟨λhh=>by omega,λ_ b7 h7=>?_⟩;have hS:∀X∈Xs,X.Pairwise PN/\∀s∈X,aK s:=λX hX=>⟨(Tq (AW X hX)).2,hB X hX⟩
 let L7:List (Nat×Obj):=[(b7,.cells #[.N] 22 (0,0))]
 have hn7:(names L7).Nodup:=by simp[L7,names]
 have ho7:VB L7 G:=λb hb=>by
  have hb:b∈[b7]:=hb;rw[Ai2]at hb;subst hb;exact h7
 show Spec prog 35 #[.slice pl i cl] (BR G L7) _
 refine Spec.Lh hn7 ho7 (UN.start λb1 I4 ACZ=>⟨_,_,_,rfl,_,_,rfl,BC.en,λD l r0 hDl hD Q7 hy=>?_⟩);have ACZ:VB L7 (G.set b1 (.cells #[.slice pl i cl] 92 (0,0))):=ACZ;have x1:=Ext.set (o:=.cells #[.slice pl i cl] 92 (0,0)) I4;have g1:(G.set b1 (.cells #[.slice pl i cl] 92 (0,0))) b1=some (.cells #[.slice pl i cl] 92 (0,0)):=Hp.AA _ _ _;generalize hτ:G.set b1 (.cells #[.slice pl i cl] 92 (0,0))=O22 at *;have Xτ:=X2.trans x1;obtain⟨nD,hDB⟩:=Pr (L:=L7) hD;obtain⟨nl,hlB⟩:=Pr (L:=L7) Q7;have e7:names L7=[b7]:=rfl;rw[e7,Ai2]at nD nl;have Gn:[l,D,b7].Nodup:=by
  simp only[Aj0,Ai1,AjK,Ajl,AkR,AmO,Al0];exact⟨λhh=>hh.elim (λe=>hDl e.symm) nl,nD⟩
 have fH:∀b∈[l,D,b7],O22 b=none:=λb hb=>by
  simp only[Ai1,AjK,Ajl]at hb;rcases hb with rfl|rfl|rfl
  .exact hlB
  .exact hDB
  .exact ACZ b (Ai2.2 rfl)
 show Spec prog 68 #[.func (.yield l) #[] #[],.pointer (aD b1 0)] (BR O22 (mL l D b7 none 0 0 (lp r0 .ready none))) _
 refine qC (O22:=O22) (J:=λN O Z2=>Jm O22 l D b7 r0 N O Z2) ⟨λN N' O Z2 Z' h1 h2 h3 h4=>h1.st Gn h2 h3 h4,λN O Z2 h1=>h1.ext Gn,λN O Z2 s p n c q m d hJ hbd hs _ r1 r2 kr=>?_⟩ (AJ g1 rfl) (hL.mono ELs.mono Xτ) hk hS hF hl
  ⟨O22,O22,none,0,rfl,⟨fH,.refl _,⟨⟨[],BH.nil,by simp[Ch]⟩,.refl _,λa ha=>(by cases ha)⟩,.refl _,λk hk=>.inl hk,λa ha=>(by cases ha)⟩⟩ λN Z9 hJ=>?_
 .obtain⟨B',C',w',e',rfl,hJ⟩:=hJ;exact hy _ _ p n c q m d (BY (L:=mL l D b7 w' O.length e' (lp r0 .ready none)) (i:=0) Gn rfl) (we Gn hJ hbd hs r1 r2 kr)
 .have hbd:(mgF Xs).length<=2900000000000:=Aj3 (ACY Xs []) (by rw[Ajw];omega);obtain⟨m1,m2⟩:=ACF Xs [] List.Pairwise.nil λX hX=>(hS X hX).1;have J1:∀s∈mgF Xs,s.ls.length<=1000000000/\s.ps.length<=1000000000:=λs hs=>by
   have h1:dQ Xs s.ls=some s.ps:=(m2 s.ls).symm.trans (ACB (ACC m1) hs);obtain⟨X,hX,u,hu,e⟩:=ACX h1;have:=hF _ _ h1;exact⟨by rw[<-e];exact(hB X hX u hu).1,by omega⟩
  obtain⟨B',C',w',e',rfl,hJ⟩:=hJ;generalize mgF Xs=O at *;obtain⟨⟨cs,ho,hc⟩,tK,_⟩:=hJ.om;have hrO:Af 2 BT B' w' O.length O:=⟨rfl,cs,ho.rd,hc.1,λi x hx=>BT.mono _ _ _ _ tK (hc.2 i x hx)⟩;have el:(BR B' (mL l D b7 w' O.length e' (lp r0 .ready none))).set l (.loop (lp r0 .exhausted none))=BR B' (mL l D b7 w' O.length e' (lp r0 .exhausted none)):=Hp.set_set;refine⟨_,.ready,none,rfl,BY (L:=mL l D b7 w' O.length e' (lp r0 .ready none)) (i:=0) Gn rfl,by decide,rfl,?_⟩;rw[el];refine⟨w',O.length,e',ldL (L:=mL l D b7 w' O.length e' (lp r0 .exhausted none)) (i:=2) Gn rfl rfl,?_⟩;refine Spec.Lh (L:=mL l D b7 w' O.length e' (lp r0 .exhausted none)) Gn hJ.off (pg hrO hbd J1 λp' c' B3 Uf Tm B0 lT=>⟨p',O.length,c',rfl,BY (L:=mL l D b7 w' O.length e' (lp r0 .exhausted none)) (i:=1) Gn rfl,?_⟩);have lT:VB (mL l D b7 w' O.length e' (lp r0 .exhausted none)) B3:=lT;rw[DO (L:=mL l D b7 w' O.length e' (lp r0 .exhausted none)) (i:=1) Gn rfl];have x9:Ext B3 (BR B3 ((mL l D b7 w' O.length e' (lp r0 .exhausted none)).set 1 (D,.deferred none))):=VB.ext (L:=(mL l D b7 w' O.length e' (lp r0 .exhausted none)).set 1 (D,.deferred none)) Gn lT;exact h AW p' O.length c' _ (Uf.mono BT.mono x9) Tm (Xτ.trans (hJ.tc.trans (tK.trans (B0.trans x9))))
theorem lU {lb:Nat}{T:TypeId}{cs:List Value}{Xs:List (List Sr)}(hb:Z2 lb=some (.cells cs.toArray T (0,0)))(hk:Xs.length<=1000)(G:Ch 1 ELs Z2 cs Xs):Af 1 ELs Z2 (aD lb 0) Xs.length Xs:=by
 have h1:cs.length=Xs.length:=by rw[G.1,AkG]
 exact⟨rfl,cs,⟨by rw[h1,AkG],by omega,.inr ⟨lb,0,rfl,Az.EW hb⟩⟩,G⟩
theorem PS {lb nA cA nB cB:Nat}{pA pB:Option Addr}{A B:List Sr}{T:TypeId}(hlb:Z2 lb=some (.cells #[.slice pA nA cA,.slice pB nB cB] T (0,0)))(rA:Af 2 BT Z2 pA nA A)(kA:nA<=cA)(rB:Af 2 BT Z2 pB nB B)(kB:nB<=cB)(oA:Da none A=true)(oB:Da none B=true)(hA:∀s∈A,aK s)(hB:∀s∈B,aK s)(hl:A.length+B.length<=2900000000000)
  (h:∀p' n' c' Z',Af 2 BT Z' p' n' (CK A B)->n'<=c'->Ext Z2 Z'->R (.T #[.slice p' n' c',.I 0]) Z'):Spec prog 10 #[.slice (aD lb 0) 2 2] Z2 R:=by
 have two:∀{P:List Sr->Prop},P A->P B->∀X∈[A,B],P X:=λh1 h2 X G=>by
  simp only[Ai1,AjK,Ajl]at G;rcases G with rfl|rfl
  .exact h1
  .exact h2
 refine Uk (Xs:=[A,B]) (lU (cs:=[.slice pA nA cA,.slice pB nB cB]) hlb (by simp) ⟨rfl,λi X G=>?_⟩) (by decide) (two hA hB) (λk ps xX=>?_) (by simpa using hl) (λ⟨X,G,h0⟩=>?_) λ_ p' n' c' Z' h1 h2 h4=>h p' n' c' Z' (by rw[<-P4 A];exact h1) h2 h4
 .match i,G with
  | 0,G=>cases G;exact⟨pA,nA,cA,rfl,rA,kA⟩
  | 1,G=>cases G;exact⟨pB,nB,cB,rfl,rB,kB⟩
 .have:=qD (K:=100000000) (two (λs hs=>(hA s hs).2) λs hs=>(hB s hs).2) xX;have e2:[A,B].length=2:=rfl;rw[e2]at this;omega
 .rw[two (P:=λX=>Da none X=true) oA oB X G]at h0;cases h0
end
def C2 (a z:Int)(ps:List Pt):List Pt:=ps.filter λx=>decide (a<=x.1/\x.1<=z)
def DC (a z:Int)(ss:List Sr):List Sr:=(ss.map λs=>Sr.mk s.ls (C2 a z s.ps)).filter λs=>decide (s.ps≠[])
section
variable {Z2:Hp}{R:Rr}
theorem wg {p:Option Addr}{n c:Nat}{a z:Int}{ps:List Pt}(hr:Af 2 C9 Z2 p n ps)(hn:n<=1000000000)(h:∀p' n' c' Z',Af 2 C9 (Z2.new Z') p' n' (C2 a z ps)->n'<=n->n'<=c'->Ext Z2 Z'->R (.returned (.slice p' n' c')) Z'):
  Spec prog 105 #[.slice p n c,.I a,.I z] Z2 R:=by
 have hl:ps.length=n:=hr.1;refine ES.start ?_
 suffices H:∀g i:Nat,∀p3 n3 c3 Z',n-i=g->i<=n->n3<=i->AN 2 C9 Z2 Z' p3 n3 c3 (C2 a z (ps.take i))->ES.A0 R a z p3 n3 c3 p n c n i Z' from H n 0 none 0 0 Z2 rfl (AjB _) (Ai7 _) (AN.nil (.refl _))
 intro g
 induction g with
 | zero=>
  intro i p3 n3 c3 Z' hg hi QS G;rw[Ai4 (by omega)]at G;exact ES.AX ⟨λAx=>by omega,λ_=>h p3 n3 c3 Z' (G.Vi λ_ _ _ _ h=>h) (by omega) (by obtain⟨cs,Qr,_⟩:=G.1.2;exact BH.cap Qr) G.up⟩
 | succ g ih=>
  intro i p3 n3 c3 Z' hg hi QS G;have CF:i<n:=by omega
  obtain⟨x,hx⟩:=hr.ex CF;obtain⟨b,o,rfl,DD⟩:=C9.at hr hx;have next:∀p4 n4 c4 Z4,n4<=i+1->AN 2 C9 Z2 Z4 p4 n4 c4 (C2 a z (ps.take (i+1)))->ES.Ii R a z p4 n4 c4 (aD b o) n c n (i:Int) Z4:=λp4 n4 c4 Z4 h4 Iy=>by
   have:=ih (i+1) p4 n4 c4 Z4 (by omega) (by omega) h4 Iy;rw[show((i+1:Nat):Int)=(i:Int)+1 by omega]at this;exact ES.Eg ⟨AO CF hr.big,this⟩
  have AZ:¬(a<=x.1/\x.1<=z)->C2 a z (ps.take (i+1))=C2 a z (ps.take i):=λhh=>by
   unfold C2;rw[AR hx,Ajy,Aj6 (by simpa using hh),Akc,Aj1]
  have AB3:(a<=x.1/\x.1<=z)->C2 a z (ps.take (i+1))=C2 a z (ps.take i)++[x]:=λhh=>by
   unfold C2;rw[AR hx,Ajy,Aj5 (by simpa using hh),Akc]
  refine ES.AX ⟨λ_=>⟨b,o,rfl,by unfold In;omega,x.1,x.2,by simpa using DD.mono G.up,λ_=>⟨λh1=>⟨λh2 rm h28=>?_,λh2=>next _ _ _ _ (by omega) (by rw[AZ λhh=>h2 hh.2];exact G)⟩,λh1=>next _ _ _ _ (by omega) (by rw[AZ λhh=>h1 hh.1];exact G)⟩⟩,λhh=>by omega⟩;refine AN.Ey C9.mono G rfl (C9.one Z2 _ x rfl) rfl (by omega) (λp' c' Z4 Iy _=>⟨_,_,_,rfl,next p' (n3+1) c' Z4 (by omega) (by rw[AB3 ⟨h1,h2⟩];exact Iy)⟩) h28
theorem Yn {p:Option Addr}{n c:Nat}{a z:Int}{ss:List Sr}(hr:Af 2 BT Z2 p n ss)(AW:Da none ss=true)(hn:n<=2900000000000)(hS:∀s∈ss,aK s)
  (h:∀p' n' c' Z',Af 2 BT Z' p' n' (DC a z ss)->n'<=c'->Ext Z2 Z'->R (.T #[.slice p' n' c',.I 0]) Z') :
  Spec prog 77 #[.slice p n c,.I a,.I z] Z2 R:=by
 have hl:ss.length=n:=hr.1;refine ER.start (PE hr λZ1 BS=>⟨_,rfl,λAd=>absurd (by rw[AW];rfl) Ad,λ_=>?_⟩);have hr:=hr.mono BT.mono BS
 suffices H:∀g i:Nat,∀p3 n3 c3 Z',n-i=g->i<=n->n3<=i->AN 2 BT Z1 Z' p3 n3 c3 (DC a z (ss.take i))->ER.HG R a z p3 n3 c3 p n c n i Z' from H n 0 none 0 0 Z1 rfl (AjB _) (Ai7 _) (AN.nil (.refl _))
 intro g
 induction g with
 | zero=>
  intro i p3 n3 c3 Z' hg hi QS G;rw[Ai4 (by omega)]at G;exact ER.CC ⟨λAx=>by omega,λ_=>h p3 n3 c3 Z' (G.rd BT.mono) (by obtain⟨cs,Qr,_⟩:=G.1.2;exact BH.cap Qr) (BS.trans G.up)⟩
 | succ g ih=>
  intro i p3 n3 c3 Z' hg hi QS G;have CF:i<n:=by omega
  obtain⟨x,hx⟩:=hr.ex CF;obtain⟨b,o,p1,k1,c1,q1,m1,d1,rfl,DD,Vd,xX,kr⟩:=BT.at hr hx;obtain⟨a1,a2⟩:=hS x (Ai6 hx);have a3:x.ls.length=k1:=Vd.1;have a4:x.ps.length=m1:=xX.1;have next:∀p4 n4 c4 Z4,n4<=i+1->AN 2 BT Z1 Z4 p4 n4 c4 (DC a z (ss.take (i+1)))->ER.eo R a z p4 n4 c4 (aD b o) n c n (i:Int) Z4:=λp4 n4 c4 Z4 h4 Iy=>by
   have:=ih (i+1) p4 n4 c4 Z4 (by omega) (by omega) h4 Iy;rw[show((i+1:Nat):Int)=(i:Int)+1 by omega]at this;exact ER.R0 ⟨AO CF hr.big,this⟩
  have xh:DC a z (ss.take (i+1))=DC a z (ss.take i)++[Sr.mk x.ls (C2 a z x.ps)].filter λs=>decide (s.ps≠[]):=by
   unfold DC;rw[AR hx,AjP,Ajy];rfl
  refine ER.CC ⟨λ_=>⟨b,o,rfl,by unfold In;omega,p1,k1,c1,q1,m1,d1,by simpa using DD.mono G.up,λ_=>wg (xX.mono C9.mono G.up) (by omega) λp4 n4 c4 Z22 gw mS hc4 Aw=>⟨_,_,_,rfl,λHu Uy h33=>?_,λhz=>?_⟩⟩,λhh=>by omega⟩
  .have Ad:C2 a z x.ps≠[]:=λe=>by
    have:=gw.1;rw[e]at this;have:(0:Nat)=n4:=this;omega
   have Bq:=G.mono BT.mono Aw;refine Fy (Vd.mono CW.mono Bq.up) (by omega) (λp5 c5 Z3 SO B0=>⟨_,_,_,rfl,λaH h39=>?_⟩) h33;have Dh:=Bq.mono BT.mono B0;have he:BT (Z3.del p3) [.slice p5 k1 c5,.slice p4 n4 c4] (Sr.mk x.ls (C2 a z x.ps)):=⟨p5,k1,c5,p4,n4,c4,rfl,(SO.rd CW.mono).mono CW.mono (Bq.new B0),(gw.mono C9.mono (Ext.Ha B0)).mono C9.mono (G.new (Aw.trans B0)),hc4⟩;refine AN.Ey BT.mono Dh rfl (BT.one _ _ _ he) he (by omega) (λp' c' Z4 Iy _=>⟨_,_,_,rfl,next p' (n3+1) c' Z4 (by omega) (by rw[xh,Aj5 (by simpa using Ad),Akc];exact Iy)⟩) h39
  .have he:C2 a z x.ps=[]:=AjL (by have:=gw.1;omega);exact next _ _ _ _ (by omega) (by rw[xh,Aj6 (by simpa using he),Akc,Aj1];exact G.mono BT.mono Aw)
end
theorem dR (a:List Sr):CK a []=a:=by cases a<;>rw[CK];simp
section
variable {Q:Qs}{ρ M:Hp}{b m fm:Nat}{R:Rr}
theorem dS {x k:Int}{p:Option Addr}{n c:Nat}{B:List Sr}(h:QU Q ρ M b m fm)(hk:Gk Q.mem x=some k)(hk0:0<=k/\k<=4611686018427387903)(rB:Af 2 BT ρ p n B)(hc:n<=c)(oA:Da none Q.all=true)(oB:Da none B=true)(hA:∀s∈Q.all,aK s)(hB:∀s∈B,aK s)(hl:Q.all.length+B.length<=2900000000000)
  (hR:∀ρ' M',QU { Q with mem:=JS Q.mem x (k+1),all:=CK Q.all B } ρ' M' b m fm->Ext ρ ρ'->(∀j,j≠b->j≠m->M' j=M j)->R (.returned (.I 0)) (ρ'.or M')) :
  Spec prog 11 #[.pointer (aD b 0),.I x,.slice p n c] (ρ.or M) R:=by
 obtain⟨pt,ct,pi,ni,ci,pa,na,ca,k1,k2,k3,k4,k5⟩:=h.q;have hb:=Ba h.Qt k1;refine Fh.start ⟨b,0,rfl,some m,AJ hb rfl,MZ.look (two:=true) (H9 h.Qt h.mm) RY (λhv=>by rw[hk]at hv;cases hv) λv hv=>?_⟩;rw[hk]at hv;cases hv;refine⟨k,true,rfl,λhh=>(by cases hh),λ_=>⟨pa,na,ca,AJ hb rfl,λrm h28=>?_⟩⟩;obtain⟨r28,m28⟩:=or_none h28;rw[Gm];have Me:=Ext.set (o:=.cells #[.slice pa na ca,.slice p n c] 22 (0,0)) r28;refine E3 (VN h.Qt m28) (PS (Hp.AA _ _ _) (k4.mono BT.mono Me) k5 (rB.mono BT.mono Me) hc oA oB hA hB hl λp' n' c' ρ2 G0 bN Aw G=>?_);have F7:=Ba G k1;refine⟨p',n',c',0,rfl,λhh=>absurd rfl hh,λ_=>⟨some m,AJ F7 rfl,(H9 G h.mm).lO RY ⟨_,rfl,?_⟩⟩⟩;rw[hk,Ak6];refine⟨by unfold AL;omega,MZ.put (H9 G h.mm) λo ho=>?_⟩;have D3:Gi ρ2 (M.set m o):=IU G (G m h.mm.known);have hM:(M.set m o) b=some (qO pt ct m Q.Hq Q.rd Q.fl pi ni ci fm pa na ca b (gG Q.rd)):=(Hp.AB h.bm).trans k1;rw[Bf (G m h.mm.known)];refine AI.wX gF (Ba D3 hM) rfl rfl rfl pW ?_;rw[Bf (D3 b (by rw[hM];simp))];have X:=Me.trans Aw;refine hR ρ2 _ ⟨IU D3 (D3 b (by rw[hM];simp)),h.bm,h.bf,h.mf,⟨pt,ct,pi,ni,ci,p',n',c',Hp.AA _ _ _,k2.mono H8.mono X,k3.mono X,G0,bN⟩,ho _ ((Hp.AB (AjI h.bm)).trans (Hp.AA _ _ _)),h.ff.loc ((Hp.AB (AjI h.bf)).trans (Hp.AB (AjI h.mf))),h.lo⟩ X λj hj hjm=>(Hp.AB hj).trans (Hp.AB hjm)
theorem wh {p q:Option Addr}{n c d:Nat}{B:List Sr}(h:QU Q ρ M b m fm)(h2:Q.rd=true)(rI:Dc .u64 ρ q 1 [4])(hk:0<=(Gk Q.mP 4).getD 0/\(Gk Q.mP 4).getD 0<=4611686018427387903)(rB:Af 2 BT ρ p n B)(hc:n<=c)(oA:Da none Q.all=true)(oB:Da none B=true)(hA:∀s∈Q.all,aK s)(hB:∀s∈B,aK s)(hl:Q.all.length+B.length<=2900000000000)
  (hR:∀ρ' M',QU { Q with mP:=JS Q.mP 4 ((Gk Q.mP 4).getD 0+1),all:=CK Q.all B } ρ' M' b m fm->Ext ρ ρ'->(∀j,j≠b->j≠fm->M' j=M j)->R (.returned (.I 0)) (ρ'.or M')) :
  Spec prog 23 #[.pointer (aD b 0),.slice q 1 d,.slice p n c] (ρ.or M) R:=by
 obtain⟨pt,ct,pi,ni,ci,pa,na,ca,k1,k2,k3,k4,k5⟩:=h.q;have hb:=Ba h.Qt k1;refine DU.start ⟨b,0,rfl,pa,na,ca,AJ hb rfl,λrm h28=>?_⟩;obtain⟨r28,m28⟩:=or_none h28;rw[Gm];have Me:=Ext.set (o:=.cells #[.slice pa na ca,.slice p n c] 22 (0,0)) r28;refine E3 (VN h.Qt m28) (PS (Hp.AA _ _ _) (k4.mono BT.mono Me) k5 (rB.mono BT.mono Me) hc oA oB hA hB hl λp' n' c' G G0 bN Aw D2=>?_);have F7:=Ba D2 k1;refine⟨p',n',c',0,rfl,λhh=>absurd rfl hh,λ_=>⟨Q.rd,AJ F7 rfl,λhh=>(by rw[h2]at hh;cases hh),λ_=>?_⟩⟩;have X:=Me.trans Aw;have k6:=h.ff;have nb:G b=none:=D2 b (by rw[k1];simp);refine AI.wX gF F7 rfl rfl rfl pW ?_;rw[Bf nb];have D3:Gi G (M.set b (qO pt ct m Q.Hq Q.rd Q.fl pi ni ci fm p' n' c' b (gG Q.rd))):=IU D2 nb;have k7:MZ .u64 (M.set b (qO pt ct m Q.Hq Q.rd Q.fl pi ni ci fm p' n' c' b (gG Q.rd))) fm Q.mP:=k6.loc (Hp.AB (AjI h.bf));obtain⟨b37,o37,rfl,AbK⟩:=Dc.at (rI.mono X) (i:=0) (x:=4) rfl;refine DU.Ea ⟨λ_=>⟨b37,o37,rfl,by decide,4,by simpa using(Ext.DZ G _).ld AbK,b,0,rfl,some fm,AJ (Ba D3 (Hp.AA _ _ _)) rfl,(H9 D3 k7).lO RY ⟨_,rfl,by unfold AL;omega,MZ.put (H9 D3 k7) λo ho=>⟨iK (by decide),?_⟩⟩⟩,λhh=>absurd (by decide) hh⟩;rw[Bf (D3 fm k7.known)];refine DU.Ea ⟨λhh=>absurd hh (by decide),λ_=>hR G _ ⟨IU D3 (D3 fm k7.known),h.bm,h.bf,h.mf,⟨pt,ct,pi,ni,ci,p',n',c',(Hp.AB h.bf).trans (Hp.AA _ _ _),k2.mono H8.mono X,k3.mono X,G0,bN⟩,h.mm.loc ((Hp.AB h.mf).trans (Hp.AB (AjI h.bm))),ho _ (Hp.AA _ _ _),h.lo⟩ X λj hj hjm=>(Hp.AB hjm).trans (Hp.AB hj)⟩
end
section
variable {Z2:Hp}{R:Rr}
theorem ACa {v fl:Int}{one:Bool}{p:Option Addr}{n c:Nat}(hf:-1099511627776<=fl/\fl<=1099511627776)(G:IxE Z2 one p n c)(h:∀Z',Ext Z2 Z'->R (.returned (.I 0)) Z'):Spec prog 41 #[.agg #[.U v,.I fl,.slice p n c]] Z2 R:=by
 cases one with
 | false=>
  obtain⟨rfl,rfl,rfl⟩:=G;exact lH hf (h Z2 (.refl _))
 | true=>
  obtain⟨rfl,bi,oi,q,e,rfl,hl⟩:=G;exact lI hf hl h
theorem AF8 {v fl:Int}{one:Bool}{p:Option Addr}{n c:Nat}(G:IxE Z2 one p n c)(h:∀Z' p' n' c',IxE Z' one p' n' c'->Ext Z2 Z'->R (.returned (.agg #[.U v,.I fl,.slice p' n' c'])) Z'):Spec prog 42 #[.agg #[.U v,.I fl,.slice p n c]] Z2 R:=by
 cases one with
 | false=>
  obtain⟨rfl,rfl,rfl⟩:=G;exact sr (h Z2 none 0 0 ⟨rfl,rfl,rfl⟩ (.refl _))
 | true=>
  obtain⟨rfl,bi,oi,q,e,rfl,hl⟩:=G;exact su hl λZ' b' o' c' q' e' Q7 hx=>h Z' _ _ _ ⟨rfl,b',o',q',e',rfl,Q7⟩ hx
end
section
variable {Q:Qs}{ρ M:Hp}{b m fm:Nat}{R:Rr}
structure RdK (Q:Qs)(M:Hp)(b m fm:Nat)(one:Bool)(fl:Int)(R:Rr)(ρ:Hp):Prop where
 few:(QW Q.mem:Int)<Q.Hq->∀ρ',Ext ρ ρ'->Gi ρ' M->R (.returned (.I 271)) (ρ'.or M)
 ok:Q.Hq<=QW Q.mem->∀ρ' M',QU { Q with rd:=true,fl:=fl,one:=one } ρ' M' b m fm->Ext ρ ρ'->(∀j,j≠b->M' j=M j)->R (.returned (.I 0)) (ρ'.or M')
theorem ACb {one:Bool}{fl:Int}{pI:Option Addr}{nI cI:Nat}(h:QU Q ρ M b m fm)(hf:-1099511627776<=fl/\fl<=1099511627776)(hI:IxE ρ one pI nI cI)(hK:RdK Q M b m fm one fl R ρ):
  Br ((QW Q.mem:Int)<Q.Hq) (R (.returned (.I 271)) (ρ.or M)) (Spec prog 42 #[.agg #[.U 0,.I fl,.slice pI nI cI]] (ρ.or M) (Ab R (λz AE=>∃jM jN jO jP jQ,z=(.agg #[.U jM,.I jN,.slice jO jP jQ])/\AI prog (Instr.storeAt 43 (.pointer (aD b (0+7))) (.agg #[.U jM,.I jN,.slice jO jP jQ])) AE (λ_ AK=>AI prog (Instr.storeAt 4 (.pointer (aD b (0+6))) (.bool true)) AK (λ_ Am=>AI prog (Instr.storeAt 45 (.pointer (aD b (0+12))) (.func (.func 43) #[(.pointer (aD b 0))] #[])) Am (λ_ CL=>R (.returned (.I 0)) CL)))))):=by
 refine⟨λAx=>hK.few Ax ρ (.refl _) h.Qt,λTW=>E3 h.Qt (AF8 hI λG p' n' c' hI2 Aw D2=>⟨0,fl,p',n',c',rfl,?_⟩)⟩;obtain⟨pt,ct,pi,ni,ci,pa,na,ca,k1,k2,k3,k4,k5⟩:=h.q;have nb:G b=none:=D2 b (by rw[k1];simp);refine AI.wX tC (Ba D2 k1) rfl rfl rfl AIT ?_;rw[Bf nb];have D3:Gi G (M.set b (qO pt ct m Q.Hq Q.rd fl p' n' c' fm pa na ca b (gG Q.rd))):=IU D2 nb;refine AI.wX AB9 (Ba D3 (Hp.AA _ _ _)) rfl rfl rfl AIS ?_;rw[Bf nb,Hp.set_set];have D4:Gi G (M.set b (qO pt ct m Q.Hq true fl p' n' c' fm pa na ca b (gG Q.rd))):=IU D2 nb;refine AI.wX Vh (Ba D4 (Hp.AA _ _ _)) rfl rfl rfl gD ?_;rw[Bf nb,Hp.set_set];exact hK.ok (by omega) G _ ⟨IU D2 nb,h.bm,h.bf,h.mf,⟨pt,ct,p',n',c',pa,na,ca,Hp.AA _ _ _,k2.mono H8.mono Aw,hI2,k4.mono BT.mono Aw,k5⟩,h.mm.loc (Hp.AB (AjI h.bm)),h.ff.loc (Hp.AB (AjI h.bf)),hf⟩ Aw λj hj=>Hp.AB hj
theorem RdK.up {one:Bool}{fl:Int}{ρ':Hp}(h:RdK Q M b m fm one fl R ρ)(hx:Ext ρ ρ'):RdK Q M b m fm one fl R ρ':=⟨λG r x=>h.few G r (hx.trans x),λG r M' hu x=>h.ok G r M' hu (hx.trans x)⟩
theorem wk {one:Bool}{fl:Int}{pI:Option Addr}{nI cI:Nat}{l:List MapEntry}{clock i:Nat}(hf:-1099511627776<=fl/\fl<=1099511627776)(hm:gy.Ay .i64 M m l clock)(ia:l.length<=1000000)(he:l.map pQ=Q.mem.map (RX .i64))(h:QU Q ρ M b m fm)(hI:IxE ρ one pI nI cI)(hK:RdK Q M b m fm one fl R ρ)(hi0:ρ i=none)(Mi:M i=none):
  ∀(k:Nat) (u:Obj) (L:List MapEntry) (n:Nat),L.length=k->Ix ((ρ.set i u).or M) i m l L clock->(∀e∈L,e∈l)->(L.map (·.born)).Nodup->n+L.countP YZ=QW Q.mem->n+k<=l.length->
   A8.HG R (aD b 0) 0 fl pI nI cI (n:Int) (.pointer (some ⟨i,0,none⟩)) ((ρ.set i u).or M):=by
 intro k
 induction k with
 | zero=>
  intro u L n hk hi RS Gn hc hn;have D1:Gi (ρ.set i u) M:=VN h.Qt Mi;have x1:=Ext.set (o:=u) hi0;obtain rfl:=AjL hk;have e:n=QW Q.mem:=by simpa using hc
  subst e;obtain⟨pt,ct,pi,ni,ci,pa,na,ca,k1,k2,k3,k4,k5⟩:=h.q;exact A8.CC (gy.KZ (hm.loc (Hp.EH (D1 m h.mm.known))) hi (λ_=>.inl ⟨rfl,b,0,rfl,Q.Hq,AJ (Ba D1 k1) rfl,ACb (h.up x1 D1) hf (hI.mono x1) (hK.up x1)⟩) λe VD=>by cases VD)
 | succ k ih=>
  intro u L n hk hi RS Gn hc hn;have D1:Gi (ρ.set i u) M:=VN h.Qt Mi;refine A8.CC (gy.KZ (hm.loc (Hp.EH (D1 m h.mm.known))) hi (λh0=>by rw[h0]at hk;cases hk) λe heL xQ o ho ACc=>?_);rw[Gm,Hp.set_set];have D2:Gi (ρ.set i o) M:=VN h.Qt Mi;obtain⟨p,xW,mN⟩:∃p:Int×Int,e.key=.I p.1/\e.val=.I p.2:=by
   have:pQ e∈Q.mem.map (RX .i64):=by rw[<-he];exact AlA xQ
   obtain⟨p,_,hp⟩:=Ajf.1 this;exact⟨p,(Ai8 Prod.fst hp).symm,(Ai8 Prod.snd hp).symm⟩
  have hb:((ρ.set i o).or M) i=some o:=Hp.DZ (Hp.AA _ _ _);have hbm:((ρ.set i o).or M) m=((ρ.set i u).or M) m:=by rw[Hp.EH (D2 m h.mm.known),Hp.EH (D1 m h.mm.known)]
  rw[xW,mN]at ACc ⊢;refine .inr ⟨_,_,rfl,ACc _ hb hbm ⟨_,_,rfl,?_⟩⟩;have aP:=I6 (p:=YZ) Gn heL;have hpv:YZ e=decide (0<p.2):=by unfold YZ;rw[mN]
  have G:(L.filter λx=>x.born != e.born).length=k:=by
   have:=I6 (p:=λ_=>true) Gn heL;simp only[List.countP_true,AkQ]at this;omega
  have lV:∀x∈L.filter λx=>x.born != e.born,x∈l:=λx hx=>RS x ((AkU.1 hx).1);have ACe:((L.filter λx=>x.born != e.born).map (·.born)).Nodup:=Gn.sublist (List.filter_sublist.map _);refine⟨λHu=>⟨by unfold AL;omega,?_⟩,λAZ=>?_⟩
  .rw[hpv,AjC Hu,Aiy rfl]at aP;exact ih o _ (n+1) G (ho _ hb) lV ACe (by omega) (by omega)
  .rw[hpv,AjE AZ,Aiw (by decide)]at aP;exact ih o _ n G (ho _ hb) lV ACe (by omega) (by omega)
theorem Yo {one:Bool}{fl:Int}{pI:Option Addr}{nI cI:Nat}(h:QU Q ρ M b m fm)(hf:-1099511627776<=fl/\fl<=1099511627776)(hI:IxE ρ one pI nI cI)(ia:Q.mem.length<=1000000)(hK:RdK Q M b m fm one fl R ρ):
  Spec prog 13 #[.pointer (aD b 0),.agg #[.U 0,.I fl,.slice pI nI cI]] (ρ.or M) R:=by
 refine A8.start λb3=>ACa hf (hI.mono (Ext.DZ _ _)) λZ1 BS=>⟨0,rfl,λhh=>absurd rfl hh,λ_=>?_⟩;obtain⟨ρ1,X1,G,rfl,_⟩:=Ext.parts h.Qt BS;obtain⟨pt,ct,pi,ni,ci,pa,na,ca,k1,k2,k3,k4,k5⟩:=h.q;obtain⟨l,clock,hm,he⟩:=h.mm;refine⟨b,0,rfl,some m,AJ (Ba G k1) rfl,gy.Ps (hm.loc (Hp.EH (G m h.mm.known))) λi o hi hit=>⟨_,rfl,?_⟩⟩;obtain⟨ri,mi⟩:=or_none hi;rw[Gm]at hit ⊢;have hl:l.length=Q.mem.length:=by
  have:=Ai8 List.length he;simpa using this
 exact wk hf hm (by omega) he (h.up X1 G) (hI.mono X1) (hK.up X1) ri mi l.length o l 0 rfl hit (λ_ h=>h) hm.AIN (by rw[Ajz,pos_eq he]) (by omega)
theorem gK (h:QU Q ρ M b m fm)(h2:Q.rd=true)(h1:Q.one=true)(h3:Q.fl<=60)(h4:(Gk Q.mP 4).getD 0=0)(hR:∀ρ',Ext ρ ρ'->Gi ρ' M->R (.T #[.N,.I 0,.I 272]) (ρ'.or M)):Spec prog 14 #[.pointer (aD b 0)] (ρ.or M) R:=by
 obtain⟨pt,ct,pi,ni,ci,pa,na,ca,k1,k2,k3,k4,k5⟩:=h.q;rw[h2]at k1;exact Cp.start ⟨b,0,rfl,_,AJ (Ba h.Qt k1) rfl,_,_,_,rfl,Ao.en,Ao.start (PL h h1 h2 h3 (λ_ ρ1 p c BS D1 _ _=>⟨_,_,_,rfl,λ_=>⟨_,_,_,_,_,rfl,hR ρ1 BS D1⟩,λG=>absurd (by decide) G⟩) λG=>absurd h4 G)⟩
abbrev Ts:Int:=4611686018427387904
theorem lW (h:QU Q ρ M b m fm)(hg:Gl ρ)(h2:Q.rd=true)(hN:Q.one=false\/(Q.one=true/\Q.fl<=60/\(Gk Q.mP 4).getD 0≠0))(oA:Da none Q.all=true)(hA:∀s∈Q.all,aK s)(hl:Q.all.length<=1000000)(hM:Modest TX (DC Q.fl Ts Q.all))(hI:(instF TX (DC Q.fl Ts Q.all) 60).1=0)
  (hR:∀ρ' p n c,Ext ρ ρ'->Gi ρ' M->Af 2 BT (ρ'.or M) p n ((instF TX (DC Q.fl Ts Q.all) 60).2.map λe=>⟨e.ls,[(60,e.v)]⟩)->R (.T #[.slice p n c,.I Q.fl,.I 0]) (ρ'.or M)) :
  Spec prog 14 #[.pointer (aD b 0)] (ρ.or M) R:=by
 obtain⟨pt,ct,pi,ni,ci,pa,na,ca,k1,k2,k3,k4,k5⟩:=h.q;rw[h2]at k1;have key:∀{Rn:Rr},(∀G,Ext ρ G->Gi G M->Rn (.returned (.N)) (G.or M))->Spec prog 21 #[.pointer (aD b 0)] (ρ.or M) Rn:=λgo=>by
  rcases hN with h1|⟨h1,h3,h4⟩
  .exact lP h h1 go
  .exact PL h h1 h2 h3 (λhh=>absurd hh h4) λ_=>go
 refine Cp.start ⟨b,0,rfl,_,AJ (Ba h.Qt k1) rfl,_,_,_,rfl,Ao.en,?_⟩;show Spec prog 43 #[.pointer (aD b 0)] _ _
 refine Ao.start (key λG BS D1=>?_);have I4:=Ba D1 k1;refine⟨_,_,_,rfl,λhh=>absurd hh (by decide),λ_=>⟨b,0,rfl,pa,na,ca,AJ I4 rfl,Q.fl,AJ I4 rfl,Yn ((k4.mono BT.mono BS).mono BT.mono (Ext.DZ _ _)) oA (by have:=k4.1;omega) hA λp2 n2 c2 Z22 G0 bN Aw=>⟨_,_,_,_,rfl,?_⟩⟩⟩;obtain⟨ρ2,X2,D2,rfl,_⟩:=Ext.parts D1 Aw;have F7:=Ba D2 k1;have Y2:=BS.trans X2;refine⟨0,AJ F7 rfl,λ_=>⟨pt,1,ct,AJ F7 rfl,60,AJ F7 rfl,inst_spec ((hg.mono Y2).mono (Ext.DZ _ _)) ((k2.mono H8.mono Y2).mono H8.mono (Ext.DZ _ _)) G0 hM (λO22 p3 n3 c3 Z3 bs h0 gL B0=>⟨_,_,_,_,rfl,Ao.Eg ⟨λhh=>absurd rfl hh,λ_=>?_⟩⟩) λZ3 Ad=>absurd hI Ad⟩,λhh=>absurd rfl hh⟩;obtain⟨ρ3,X3,D3,rfl,_⟩:=Ext.parts D2 (B0.trans gL.ext);exact⟨b,0,rfl,Q.fl,AJ (Ba D3 k1) rfl,⟨_,_,_,_,_,rfl,hR ρ3 p3 n3 c3 (Y2.trans X3) D3 gL.rd⟩⟩
end
def Yp (_:Hp)(vs:List Value)(c:Cl):Prop:=c=Ui c.kind c.text c.span/\∃a:Int,vs=[.I c.kind,.I a,.string c.text,.I c.span]
theorem Yp.mono:HA Yp:=λ_ _ _ _ _ h=>h
abbrev pO (p:Option Addr)(n c:Nat)(d:Int)(q:Option Addr)(m e:Nat):Obj:=.cells #[.slice p n c,.I d,.slice q m e] 78 (0,0)
structure B4 (O22 ρ:Hp)(pb:Nat)(p:Option Addr)(n c:Nat)(q:Option Addr)(m e:Nat)(ts:List Cl)(out:List Nd):Prop where
 pb:ρ pb=none
 C0:Af 4 Yp (ρ.del q) p n ts
 cap:n<=c
 out:AN 10 H8 O22 ρ q m e out
theorem I8 {Z2:Hp}{b:Nat}{c:List Value}{T:TypeId}(h:Z2 b=some (.cells c.toArray T (0,0))):Az Z2 b 0 c:=Az.of λj v G=>by
 rw[Ajz];exact AJ h (by simpa using G)
theorem gM {Z2:Hp}{b T:Nat}{l:List ByteArray}(h:Z2 b=some (.cells (l.map Value.string).toArray T (0,0)))(G:l.length<=1000):Fj 1 Z2 (aD b 0) l.length (l.map .string):=
 ⟨by simp,by omega,.inr ⟨b,0,rfl,I8 h⟩⟩
theorem st1 {Z2:Hp}{b T U o:Nat}{c c':Array Value}{v:Value}{Φ:Unit->Hp->Prop}(hz:∀w,(Go.sizeOf U).run prog w=.ok 1 w)(hb:Z2 b=some (.cells c T (0,0)))(hv:v.cells=#[v])(h1:v.oneCell'=true)(ho:o<c.size)(hc:c.setIfInBounds o v=c')(hΦ:Φ () (Z2.set b (.cells c' T (0,0)))):
  AI prog (Instr.storeAt U (.pointer (aD b o)) v) Z2 Φ:=by
 refine AI.store hz hb (by rw[hv];rfl) ho (λu G=>by rw[hv]at G;simp at G;rw[G];exact h1) ?_;rw[hv];subst hc;exact hΦ
theorem AMI:∀w,(Go.sizeOf 73).run prog w=.ok 1 w:=λw=>by kernel_rfl
theorem AMJ:∀w,(Go.sizeOf 32).run prog w=.ok 1 w:=λw=>by kernel_rfl
section
variable {O22 ρ ρ':Hp}{pb n c m e:Nat}{p q:Option Addr}{ts:List Cl}{out:List Nd}{d:Int}{t:Cl}{R:Rr}
theorem B4.grow (h:B4 O22 ρ pb p n c q m e ts out)(G:Ext ρ ρ')(hn:ρ' pb=none):B4 O22 ρ' pb p n c q m e ts out:=⟨hn,h.C0.mono Yp.mono (G.del q),h.cap,h.out.mono H8.mono G⟩
theorem B4.ext (h:B4 O22 ρ pb p n c q m e ts out)(o:Obj):Ext ρ (ρ.set pb o):=.set h.pb
theorem B4.box {b:Nat}{o u:Obj}(h:B4 O22 ρ pb p n c q m e ts out)(hb:(ρ.set pb o) b=none):B4 O22 (ρ.set b u) pb p n c q m e ts out/\(ρ.set pb o).set b u=(ρ.set b u).set pb o:=by
 obtain⟨G,h2⟩:=Hp.AM hb;exact⟨h.grow (.set h2) (by rw[Hp.AB (AjI G)];exact h.pb),Hp.BA (AjI G)⟩
theorem B4.tok (h:B4 O22 ρ pb p n c q m e (t::ts) out):t=Ui t.kind t.text t.span/\∃b o,∃a:Int,p=some ⟨b,o,none⟩/\0<n/\Az ρ b o [.I t.kind,.I a,.string t.text,.I t.span]:=by
 obtain⟨b,o,vs,hp,⟨ht,a,rfl⟩,G⟩:=Af.idx h.C0 (i:=0) (x:=t) rfl;have hn:(t::ts).length=n:=h.C0.1;rw[Aix]at hn;exact⟨ht,b,o,a,hp,by omega,by simpa using G.mono (Ext.Kt _ _)⟩
theorem BF (h:B4 O22 ρ pb p n c q m e (t::ts) out)(G:∀a:Int,R (.returned (.agg #[.I t.kind,.I a,.string t.text,.I t.span])) (ρ.set pb (pO p n c d q m e))):Spec prog 31 #[.pointer (aD pb 0)] (ρ.set pb (pO p n c d q m e)) R:=by
 obtain⟨_,b,o,a,rfl,hn,hl⟩:=h.tok;exact KW.start λ_=>⟨pb,0,rfl,aD b o,n,c,by simp[Hp.ld,Hp.AA],b,o,rfl,by omega,_,_,_,_,hl.mono (h.ext _),G a⟩
theorem B4.step (h:B4 O22 ρ pb p n c q m e (t::ts) out):B4 O22 ρ pb (E4 p 1 c 4) (n-1) (c-1) q m e ts out:=by
 have hc:=h.cap;have k9:(t::ts).length=n:=h.C0.1;rw[Aix]at k9;have G:=Af.sub h.C0 (i:=1) (m:=n-1) (by decide) (by omega) hc;rw[List.drop_succ_cons,AlI,Ai4 (by omega)]at G;exact⟨h.pb,G,by omega,h.out⟩
theorem B4.Yq (h:B4 O22 ρ pb p n c q m e ts out):B4 (ρ.del q) ρ pb p n c q m e ts out:=⟨h.pb,h.C0,h.cap,⟨h.out.1,.refl _⟩⟩
theorem B4.base {G:Hp}(h:B4 G ρ pb p n c q m e ts out)(hx:Ext O22 G):B4 O22 ρ pb p n c q m e ts out:=⟨h.pb,h.C0,h.cap,⟨h.out.1,hx.trans h.out.2⟩⟩
theorem BB (h:B4 O22 ρ pb p n c q m e (t::ts) out)(G:∀a:Int,R (.returned (.agg #[.I t.kind,.I a,.string t.text,.I t.span])) (ρ.set pb (pO (E4 p 1 c 4) (n-1) (c-1) d q m e))):
  Spec prog 97 #[.pointer (aD pb 0)] (ρ.set pb (pO p n c d q m e)) R:=by
 obtain⟨_,b,o,a,rfl,hn,hl⟩:=h.tok;have hc:=h.cap;have k9:(t::ts).length=n:=h.C0.1;rw[Aix]at k9;refine L8.start λ_=>⟨pb,0,rfl,aD b o,n,c,by simp[Hp.ld,Hp.AA],b,o,rfl,by omega,_,_,_,_,hl.mono (h.ext _),λ_=>⟨aD b o,n,c,by simp[Hp.ld,Hp.AA],by omega,?_⟩⟩;refine st1 AMI (Hp.AA _ _ _) rfl rfl (by simp) rfl ?_;rw[Hp.set_set];exact G a
theorem BN {k:Int}{s:ByteArray}(h:B4 O22 ρ pb p n c q m e (t::ts) out)(G:R (.returned (.bool (GC t.kind t.text k s))) (ρ.set pb (pO p n c d q m e))):Spec prog 98 #[.pointer (aD pb 0),.I k,.string s] (ρ.set pb (pO p n c d q m e)) R:=by
 refine L9.start (BF h λa=>⟨_,_,_,_,rfl,λhk=>BF h λa'=>⟨_,_,_,_,rfl,?_⟩,λhk=>?_⟩)
 .rw[gm];unfold GC at G;rw[AjC hk,AkE]at G;exact G
 .unfold GC at G;rw[AjE hk,Aj8]at G;exact G
theorem P7 {s:ByteArray}(h:B4 O22 ρ pb p n c q m e (t::ts) out)(hs:GC t.kind t.text 5 s=true)(G:R (.T #[]) (ρ.set pb (pO (E4 p 1 c 4) (n-1) (c-1) d q m e))):
  Spec prog 137 #[.pointer (aD pb 0),.string s] (ρ.set pb (pO p n c d q m e)) R:=
 Cs.start (BN h ⟨_,rfl,λhf=>absurd (hs.symm.trans hf) (by decide),λ_=>Cs.LD (BB h λa=>⟨_,_,_,_,rfl,G⟩)⟩)
theorem CG {x:Nd}{pm pn:Option Addr}{km cm kn cn:Nat}(h:B4 O22 ρ pb p n c q m e ts out)(hb:m<=1000000)(h1:Af 3 Jj (ρ.del q) pm km x.mt)(h2:Fj 1 (ρ.del q) pn kn (x.names.map .string))
  (hR:∀(ρ':Hp) (q':Option Addr) (G:Nat),B4 O22 ρ' pb p n c q' (m+1) G ts (out++[x])->R (.T #[]) (ρ'.set pb (pO p n c d q' (m+1) G))) :
  Spec prog 100 #[.pointer (aD pb 0),QR x pm km cm pn kn cn] (ρ.set pb (pO p n c d q m e)) R:=by
 refine Ja.start λ_=>⟨pb,0,rfl,q,m,e,by simp[Hp.ld,Hp.AA],λb AbM=>?_⟩;obtain⟨e1,e2⟩:=Hp.AM AbM;rw[Hp.BA (AjI e1)];refine AI.AQ (by rw[Hp.AB (AjI e1)];exact h.pb) ?_;have he:H8 (ρ.del q) [.I x.kind,.I x.op,.string x.text,.slice pm km cm,.I x.width,.I x.back,.I x.GH,.slice pn kn cn,.bool x.bool,.I x.parts] x:=⟨pm,km,cm,pn,kn,cn,rfl,h1,h2⟩;refine AN.Ey H8.mono h.out rfl (λu hu=>?_) he (by omega) (λq' G ρ' ho hx hn=>⟨_,_,_,rfl,?_⟩) e2
 .simp only[Ai1,AjK,Ajl]at hu;rcases hu with rfl|rfl|rfl|rfl|rfl|rfl|rfl|rfl|rfl|rfl<;>rfl
 .refine st1 AMJ (Hp.AA _ _ _) rfl rfl (by simp) rfl ?_;rw[Hp.set_set];exact hR ρ' q' G ⟨hn,h.C0.mono Yp.mono hx,h.cap,ho⟩
theorem C3 {l:List ByteArray}{s:ByteArray}{Z2:Hp}{pt:Option Addr}{k j:Nat}(hr:Fj 1 Z2 pt k (l.map .string))(hR:R (.returned (.I (JT l s))) Z2):Spec prog 95 #[.slice pt k j,.string s] Z2 R:=by
 have hl:l.length=k:=by have:=hr.1;simpa using this
 have SP:k<=4611686018427387904:=hr.2.1;refine Ei.start ?_
 suffices H:∀g i:Nat,k-i=g->i<=k->JT l s=AB4 (l.drop i) s i->Ei.GG R s pt k j k i Z2 from H k 0 rfl (AjB _) rfl
 intro g
 induction g with
 | zero=>
  intro i hg hi he;rw[AjW (by omega)]at he;refine Ei.BG ⟨λAx=>by omega,λ_=>?_⟩;rw[he]at hR;exact hR
 | succ g ih=>
  intro i hg hi he;have CF:i<k:=by omega
  obtain⟨x,hx⟩:∃x,l[i]?=some x:=⟨_,Ai3 (by omega)⟩;obtain⟨b,o,rfl,DD⟩:=Fj.at1 hr (k:=i) (v:=.string x) (by simp[hx]);rw[BZ hx]at he;have next:¬(x=s/\s≠⟨#[]⟩)->AL ((i:Int)+1)/\Ei.GG R s (aD b o) k j k ((i:Int)+1) Z2:=λAd=>⟨AO CF SP,ih (i+1) (by omega) (by omega) (by rw[he,AB4,Aiw Ad])⟩
  refine Ei.BG ⟨λ_=>⟨b,o,rfl,by omega,x,by simpa using DD,λht=>⟨λG=>?_,λG=>next λhh=>?_⟩,λG=>next λhh=>?_⟩,λhh=>by omega⟩
  .rw[gm,AjH]at ht;rw[gm,Aji]at G;rw[he,AB4,Aiy ⟨ht,G⟩]at hR;exact hR
  .rw[gm,AjH]at G;exact hh.2 G
  .rw[gm,Aji]at G;exact G hh.1
theorem ACf (h:B4 O22 ρ pb p n c q m e ts out)(hR:∀ρ' b,B4 O22 ρ' pb p n c q m e ts out->Ext ρ ρ'->Fj 1 (ρ'.set pb (pO p n c d q m e)) (aD b 0) 14 (opW.map .string)->R (.returned (.slice (aD b 0) 14 14)) (ρ'.set pb (pO p n c d q m e))):Spec prog 96 #[] (ρ.set pb (pO p n c d q m e)) R:=by
 refine cJ.start λb hb=>?_;obtain⟨h1,G⟩:=h.box (u:=.cells (opW.map Value.string).toArray 9 (0,0)) hb;have:=hR _ b h1 (.set (Hp.AM hb).2) (by rw[<-G];exact gM (Hp.AA _ _ _) (by decide));rw[<-G]at this;exact this
theorem Yr (h:B4 O22 ρ pb p n c q m e ts out)(hR:∀ρ' b,B4 O22 ρ' pb p n c q m e ts out->Ext ρ ρ'->Fj 1 (ρ'.set pb (pO p n c d q m e)) (aD b 0) 13 (fnW.map .string)->R (.returned (.slice (aD b 0) 13 13)) (ρ'.set pb (pO p n c d q m e))):Spec prog 239 #[] (ρ.set pb (pO p n c d q m e)) R:=by
 refine UI.start λb hb=>?_;obtain⟨h1,G⟩:=h.box (u:=.cells (fnW.map Value.string).toArray 9 (0,0)) hb;have:=hR _ b h1 (.set (Hp.AM hb).2) (by rw[<-G];exact gM (Hp.AA _ _ _) (by decide));rw[<-G]at this;exact this
theorem Yt (h:B4 O22 ρ pb p n c q m e ts out)(hR:∀ρ' b,B4 O22 ρ' pb p n c q m e ts out->Ext ρ ρ'->Fj 1 (ρ'.set pb (pO p n c d q m e)) (aD b 0) 6 (agW.map .string)->R (.returned (.slice (aD b 0) 6 6)) (ρ'.set pb (pO p n c d q m e))):Spec prog 240 #[] (ρ.set pb (pO p n c d q m e)) R:=by
 refine Wq.start λb hb=>?_;obtain⟨h1,G⟩:=h.box (u:=.cells (agW.map Value.string).toArray 9 (0,0)) hb;have:=hR _ b h1 (.set (Hp.AM hb).2) (by rw[<-G];exact gM (Hp.AA _ _ _) (by decide));rw[<-G]at this;exact this
theorem wm {s:ByteArray}{b:Bool}(h:B4 O22 ρ pb p n c q m e ts out)(G:∀ρ',B4 O22 ρ' pb p n c q m e ts out->Ext ρ ρ'->R (.returned (.bool (b||decide (0<JT fnW s)||decide (0<JT agW s)))) (ρ'.set pb (pO p n c d q m e))):Ij.U9 R s b (ρ.set pb (pO p n c d q m e)):=by
 refine Ij.AET ⟨λhb=>?_,λhb=>?_⟩
 .have:=G ρ h (.refl _);rw[hb]at this;simpa using this
 .subst hb;refine Yr h λρ1 b1 h1 x1 D7=>⟨_,_,_,rfl,C3 D7 ⟨_,rfl,λhp=>?_,λhp=>Yt h1 λρ2 b2 h2 x2 G0=>⟨_,_,_,rfl,C3 G0 ⟨_,rfl,?_⟩⟩⟩⟩
  .have:=G ρ1 h1 x1;rw[AjC (show 0<JT fnW s by omega)]at this;simpa using this
  .have:=G ρ2 h2 (x1.trans x2);rw[AjE (show ¬0<JT fnW s by omega)]at this;have e:decide ((0:Int)<((JT agW s:Nat):Int))=decide (0<JT agW s):=Aj2.2 (by omega);dsimp only;simp only[AkL]at this;rw[<-e]at this;exact this
theorem dT {s:ByteArray}(h:B4 O22 ρ pb p n c q m e ts out)(hR:∀ρ',B4 O22 ρ' pb p n c q m e ts out->Ext ρ ρ'->R (.returned (.bool (lM s))) (ρ'.set pb (pO p n c d q m e))):Spec prog 263 #[.string s] (ρ.set pb (pO p n c d q m e)) R:=by
 have tl:∀b,FP s AFq=b->Ij.U9 R s b (ρ.set pb (pO p n c d q m e)):=λb hb=>wm h λρ' G x'=>by
  have:=hR ρ' G x';unfold lM at this;rw[hb]at this;exact this
 have hm:FP s AFq=(decide (s=⟨#[111,114]⟩)||(decide (s=⟨#[97,110,100]⟩)||(decide (s=⟨#[117,110,108,101,115,115]⟩)||(decide (s=⟨#[98,111,111,108]⟩)||(decide (s=⟨#[111,110]⟩)||(decide (s=⟨#[105,103,110,111,114,105,110,103]⟩)||(decide (s=⟨#[98,121]⟩)||(decide (s=⟨#[119,105,116,104,111,117,116]⟩)||decide (s=⟨#[111,102,102,115,101,116]⟩))))))))):=by
  unfold FP AFq;simp only[AmT,List.any_nil,Bool.or_false]
 refine Ij.start ⟨λh1=>tl _ ?_,λh1=>⟨λh2=>tl _ ?_,λh2=>⟨λh3=>tl _ ?_,λh3=>⟨λh4=>tl _ ?_,λh4=>⟨λh5=>tl _ ?_,λh5=>⟨λh6=>tl _ ?_,λh6=>⟨λh7=>tl _ ?_,λh7=>⟨λh8=>tl _ ?_,λh8=>tl _ ?_⟩⟩⟩⟩⟩⟩⟩⟩ <;>
 .simp only[gm]at *;simp only[hm, *,Al8,Alg,AkL]
theorem qE (h:B4 O22 ρ pb p n c q m e (t::ts) out)(hk:t.kind=2)(hR:R (.returned (.I t.span)) (ρ.set pb (pO (E4 p 1 c 4) (n-1) (c-1) d q m e))):Spec prog 266 #[.pointer (aD pb 0)] (ρ.set pb (pO p n c d q m e)) R:=
 Co.start (BF h λa=>⟨_,_,_,_,rfl,λG=>absurd hk G,λ_=>Co.A9 (BB h λa=>⟨_,_,_,_,rfl,hR⟩)⟩)
theorem qF (h:B4 O22 ρ pb p n c q m e (t::ts) out)(hk:t.name=true)(hR:R (.returned (.string t.text)) (ρ.set pb (pO (E4 p 1 c 4) (n-1) (c-1) d q m e))):Spec prog 138 #[.pointer (aD pb 0)] (ρ.set pb (pO p n c d q m e)) R:=by
 have ht:=h.tok.1;have G:(decide (t.kind=3)&&Du t.text)=true:=by rw[<-hk];exact(Ai8 Cl.name ht).symm
 rw[AjD,AjH]at G;exact Cv.start (BF h λa=>⟨_,_,_,_,rfl,λAd=>absurd G.1 Ad,λ_=>BF h λa=>⟨_,_,_,_,rfl,Py ⟨_,rfl,λhf=>absurd (G.2.symm.trans hf) (by decide),λ_=>Cv.A9 (BB h λa=>⟨_,_,_,_,rfl,hR⟩)⟩⟩⟩)
def VO (_:Hp)(vs:List Value)(x:ByteArray):Prop:=vs=[.string x]
theorem VO.mono:HA VO:=λ_ _ _ _ _ h=>h
theorem AMK {Z2:Hp}:∀{l:List ByteArray} {cs:List Value},Ch 1 VO Z2 cs l->cs=l.map .string:=by
 intro l cs h;refine AkA λi=>?_;have hl:cs.length=l.length:=by have:=h.1;omega
 by_cases hi:i<l.length
 .have:=h.2 i l[i] (Ai3 hi);rw[Aj7,Ai3 hi];unfold VO at this;have G:=Ai8 (·[0]?) this;simpa[AjQ,Aja] using G
 .rw[AkF (by omega),AkF (by simp;omega)]
theorem BH.AML {s:Nat}{Z2 Z':Hp}{p:Option Addr}{n c:Nat}{cs:List Value}(G:BH s Z2 p n c cs)(h:∀a,p=some a->Z' a.block=Z2 a.block):BH s Z' p n c cs:=
 ⟨G.1,G.2.1,G.2.2.imp id λ⟨b',o',arr,T,hp,hb,r⟩=>⟨b',o',arr,T,hp,by rw[h _ hp];exact hb,r⟩⟩
theorem Hp.AF9 {Z2 Z':Hp}{p:Option Addr}(hx:Ext Z2 (Z'.del p)):∀a,p=some a->(Z2.new Z') a.block=Z' a.block:=λa ha=>by
 subst ha;cases G:Z2 a.block with
 | none=>simp only[Hp.new,G]
 | some u=>
  have:=hx _ _ G;simp[Hp.del]at this
theorem AN.gN {α:Type}{s:Nat}{E:Hp->List Value->α->Prop}{Z0 Z2:Hp}{p:Option Addr}{n c:Nat}{xs:List α}(hE:∀Z2 Z' vs x,E Z2 vs x->E Z' vs x)(h:AN s E Z0 Z2 p n c xs):Af s E (Z0.new Z2) p n xs:=by
 obtain⟨⟨h1,cs,h2,G⟩,h4⟩:=h;exact⟨h1,cs,(BH.AML h2 (Hp.AF9 h4)).rd,G.1,λi x hi=>hE _ _ _ _ (G.2 i x hi)⟩
theorem tN {Z2:Hp}{p:Option Addr}{n:Nat}{l:List ByteArray}(h:Af 1 VO Z2 p n l):Fj 1 Z2 p n (l.map .string):=by
 obtain⟨h1,cs,G,h3⟩:=h;rw[<-AMK h3];exact G
theorem qG {ρ0:Hp}:∀(f:Nat) (ts:List Cl) (ns:List ByteArray) (x:List ByteArray×List Cl),nmZ f ts ns=some x->ns.length+f<=1000->∀{ρ:Hp} {p pn:Option Addr} {n c kn cn:Nat},B4 O22 ρ0 pb p n c q m e ts out->ρ pb=none->AN 1 VO ρ0 ρ pn kn cn ns->
  (∀(ρ':Hp) (p' pn':Option Addr) (n' c' kn' G:Nat),B4 O22 ρ0 pb p' n' c' q m e x.2 out->ρ' pb=none->AN 1 VO ρ0 ρ' pn' kn' G x.1->R (.returned (.slice pn' kn' G)) (ρ'.set pb (pO p' n' c' d q m e)))->
  Av.CA R (aD pb 0) pn kn cn (ρ.set pb (pO p n c d q m e)):=by
 intro f
 induction f with
 | zero=>intro ts ns x h;cases h
 | succ f ih=>
  intro ts ns x h hb ρ p pn n c kn cn h0 hn ho hR;cases ts with
  | nil=>cases h
  | cons c0 r=>
   have hu:=h0.grow ho.up hn;have ht:=hu.tok.1;have ma:ns.length=kn:=ho.1.1;have cD:c0.rp=GC c0.kind c0.text 5 ⟨#[41]⟩:=Ai8 Cl.rp ht;have hcm:c0.comma=GC c0.kind c0.text 5 ⟨#[44]⟩:=Ai8 Cl.comma ht;unfold nmZ at h;have app:∀(w:Cl) (r':List Cl) (p1:Option Addr) (n1 c1:Nat),w.name=true->nmZ f r' (ns++[w.text])=some x->B4 O22 ρ0 pb p1 n1 c1 q m e (w::r') out->Av.RL R (aD pb 0) pn kn cn (ρ.set pb (pO p1 n1 c1 d q m e)):=λw r' p1 n1 c1 hw hz Ql=>
    Av.La (qF (Ql.grow ho.up hn) hw ⟨_,rfl,λb Kq=>by
     obtain⟨e1,e2⟩:=Hp.AM Kq;rw[Hp.BA (AjI e1)];refine AI.AQ (by rw[Hp.AB (AjI e1)];exact hn) ?_;refine AN.Ey VO.mono ho rfl (λu hu=>by rw[Ai2]at hu;subst hu;rfl) rfl (by omega) (λpn' G ρ' Di QO MQ=>⟨_,_,_,rfl,?_⟩) e2;exact ih r' _ x hz (by rw[Ai5,Ajc];omega) Ql.step MQ Di hR⟩)
   refine Av.A1 (BN hu ⟨_,rfl,λth=>?_,λoV=>BB hu λa=>⟨_,_,_,_,rfl,?_⟩⟩)
   .rw[<-cD]at th;rw[Aiw (by rw[th];decide)]at h;refine⟨λHu=>?_,λHu=>?_⟩
    .rw[Aiw (by omega)]at h;split at h
     .rename_i hc;split at h
      .cases h
      .rename_i w r';split at h
       .rename_i hw;exact P7 hu (by rw[<-hcm];exact hc) ⟨rfl,app w r' _ _ _ hw h h0.step⟩
       .cases h
     .cases h
    .rw[Aiy (by omega)]at h;split at h
     .rename_i hc;exact app c0 r p n c hc h h0
     .cases h
   .rw[<-cD]at oV;rw[Aiy oV]at h;cases h;exact hR ρ _ pn _ _ kn cn h0.step hn ho
theorem lX {x:List ByteArray×List Cl}(h:B4 O22 ρ pb p n c q m e (t::ts) out)(hl:t.lp=true)(hz:nmZ 8 ts []=some x)
  (hR:∀(ρ':Hp) (p' pn:Option Addr) (n' c' G cn:Nat),B4 O22 ρ' pb p' n' c' q m e x.2 out->Ext ρ ρ'->Fj 1 (ρ.new ρ') pn G (x.1.map .string)->R (.returned (.slice pn G cn)) (ρ'.set pb (pO p' n' c' d q m e))) :
  Spec prog 122 #[.pointer (aD pb 0)] (ρ.set pb (pO p n c d q m e)) R:=by
 have Q7:GC t.kind t.text 5 ⟨#[40]⟩=true:=by rw[<-hl];exact(Ai8 Cl.lp h.tok.1).symm
 refine Av.start (P7 h Q7 ⟨rfl,qG 8 ts [] x hz (by decide) h.step h.pb (AN.nil (.refl _)) λρ' p2 pn n2 c2 G cn hu hn ho=>hR ρ' p2 pn n2 c2 G cn (hu.grow ho.up hn) ho.up (tN (ho.gN λ_ _ _ _ h=>h))⟩)
end
abbrev Yu (k op:Int)(pm:Option Addr)(km cm:Nat)(w g:Int)(pn:Option Addr)(G cn:Nat)(b:Bool)(ps:Int):Obj:=.cells #[.I k,.I op,.string (ByteArray.mk #[]),.slice pm km cm,.I w,.I 0,.I g,.slice pn G cn,.bool b,.I ps] 127 (0,0)
theorem qH:∀w,(Go.sizeOf 2).run prog w=.ok 1 w:=λw=>by kernel_rfl
theorem tO:∀w,(Go.sizeOf 112).run prog w=.ok 1 w:=λw=>by kernel_rfl
theorem tP:∀w,(Go.sizeOf 125).run prog w=.ok 1 w:=λw=>by kernel_rfl
section
variable {O22 ρ ρ':Hp}{pb nb n c m e:Nat}{p q:Option Addr}{ts:List Cl}{out:List Nd}{d:Int}{t:Cl}{R:Rr}
theorem Tt {Z2:Hp}{k op:Int}{ps:Int}{b:Bool}{Φ:Unit->Hp->Prop}(h:Φ () (Z2.set nb (Yu k op none 0 0 0 0 none 0 0 b ps))):
  AI prog (Instr.storeAt 127 (.pointer (aD nb 0)) (.agg #[.I k,.I op,(.string (ByteArray.mk #[])),.N,.I 0,.I 0,.I 0,.N,.bool b,.I ps])) (Z2.set nb (Yu 0 0 none 0 0 0 0 none 0 0 false 0)) Φ:=by
 refine AI.store sS (Hp.AA _ _ _) rfl (by simp) (by simp[Value.cells,Value.oneCell']) ?_;rw[Hp.set_set];show Φ () (Z2.set nb (.cells (Ks _ 0 [.I k,.I op,(.string (ByteArray.mk #[])),.N,.I 0,.I 0,.I 0,.N,.bool b,.I ps]) 127 (0,0)))
 rw[YE (by rfl)];exact h
theorem wo {s:ByteArray}{k v a:Int}{s':ByteArray}(h:B4 O22 ρ pb p n c q m e ts out)(HS:(ρ.set pb (pO p n c d q m e)) nb=none)(hs:s.size<=256)
  (hR:∀(ρ':Hp) (pm:Option Addr) (cm:Nat),B4 O22 ρ' pb p n c q m e ts out->Ext ρ ρ'->(ρ'.set pb (pO p n c d q m e)) nb=none->Af 3 Jj (ρ.new ρ') pm 1 [⟨1,EV,s⟩]->R (.T #[]) ((ρ'.set pb (pO p n c d q m e)).set nb (Yu 2 0 pm 1 cm 0 0 none 0 0 false 0))) :
  Spec prog 264 #[.pointer (aD pb 0),.pointer (aD nb 0),.agg #[.I 1,.string (ByteArray.mk #[95,95,110,97,109,101,95,95]),.string s],.agg #[.I k,.I a,.string s',.I v]] ((ρ.set pb (pO p n c d q m e)).set nb (Yu 2 0 none 0 0 0 0 none 0 0 false 0)) R:=by
 refine HO.start λ_ _=>⟨nb,0,rfl,none,0,0,by simp[Hp.ld,Hp.AA],λb hb=>?_⟩;obtain⟨e1,F7⟩:=Hp.AM hb;obtain⟨e2,UW⟩:=Hp.AM F7;obtain⟨e3,QS⟩:=Hp.AM HS;rw[Hp.BA (AjI e1)];refine AI.AQ (by rw[Hp.AB (AjI e1)];exact HS) ?_;rw[Hp.BA (AjI e2)];refine AI.AQ (by rw[Hp.AB (AjI e2)];exact h.pb) ?_;refine AN.Ey (vs:=[.I 1,.string EV,.string s]) (x:=(⟨1,EV,s⟩:Mt)) Jj.mono (AN.nil (s:=3) (E:=Jj) (.refl ρ)) rfl (λu hu=>?_) rfl (by decide) (λpm cm ρ' G hx xW JR=>⟨_,_,_,rfl,?_⟩) UW
 .simp only[Ai1,AjK,Ajl]at hu;rcases hu with rfl|rfl|rfl<;>rfl
 .have hr:=G.gN λ_ _ _ _ h=>h;refine st1 tO (Hp.AA _ _ _) rfl rfl (by simp) rfl ?_;rw[Hp.set_set];have Vk:=hR ρ' pm cm (h.grow G.up xW) G.up JR hr;refine⟨pm,1,cm,by simp[Hp.ld,Hp.AA],PF (ms:=[⟨1,EV,s⟩]) ((hr.mono Jj.mono ((Ext.CX _ _).trans ((Ext.set xW).trans (Ext.set JR))))) ⟨_,rfl,λAd=>absurd ?_ Ad,λ_=>Vk⟩⟩;have:F0 Du [⟨1,EV,s⟩]=0:=by
   unfold F0;simp only[Ajc,AlQ,List.all_nil,Bool.and_true];rw[Aiw (by decide),Aiy];rw[show Du EV=true by decide,AjC hs];rfl
  exact this
theorem Yv {k w:Int}{s:ByteArray}{pm:Option Addr}{cm:Nat}(h:B4 O22 ρ pb p n c q m e (t::ts) out)(HS:(ρ.set pb (pO p n c d q m e)) nb=none)(ho:t.off=false)(hb:m<=1000000)(hr:Af 3 Jj (ρ.del q) pm 1 [⟨1,EV,s⟩])
  (hR:∀(ρ':Hp) (q':Option Addr) (G:Nat),B4 O22 ρ' pb p n c q' (m+1) G (t::ts) (out++[⟨k,0,⟨#[]⟩,[⟨1,EV,s⟩],w,0,0,[],false,0⟩])->R (.T #[]) (ρ'.set pb (pO p n c d q' (m+1) G))) :
  AP.Ns R (aD pb 0) nb ((ρ.set pb (pO p n c d q m e)).set nb (Yu k 0 pm 1 cm w 0 none 0 0 false 0)):=by
 have Di:GC t.kind t.text 3 ⟨#[111,102,102,115,101,116]⟩=false:=by rw[<-ho];exact(Ai8 Cl.off h.tok.1).symm
 refine AP.Lc (Spec.AQ HS (BN h λhn=>⟨_,rfl,λht=>absurd (Di.symm.trans ht) (by decide),λ_=>AP.R5 ⟨_,_,_,_,_,_,_,_,_,_,_,_,_,_,I8 (Hp.AA _ _ _),?_⟩⟩));refine Spec.AQ hn (CG (x:=⟨k,0,⟨#[]⟩,[⟨1,EV,s⟩],w,0,0,[],false,0⟩) h hb hr ⟨rfl,by omega,.inl rfl⟩ λρ' q' G hu MQ=>⟨rfl,?_⟩);obtain⟨h1,h2⟩:=hu.box (u:=Yu k 0 pm 1 cm w 0 none 0 0 false 0) MQ;rw[h2];exact hR _ q' G h1
theorem choose_spec {r:List Cl}{x:Nd}(h:B4 O22 ρ pb p n c q m e (t::ts) out)(hk:t.kind=3)(hke:t.kept=false)(hs:t.text.size<=256)(hb:m<=1000000)
  (G:AFt t ts=some (r,[x]))
  (hR:∀(ρ':Hp) (p' q':Option Addr) (n' c' e':Nat),B4 O22 ρ' pb p' n' c' q' (m+1) e' r (out++[x])->R (.T #[]) (ρ'.set pb (pO p' n' c' d q' (m+1) e'))) :
  Spec prog 242 #[.pointer (aD pb 0)] (ρ.set pb (pO p n c d q m e)) R:=by
 have AbN:lM t.text=false:=by rw[<-hke];exact(Ai8 Cl.kept h.tok.1).symm
 unfold AFt at G;cases ts with
 | nil=>cases G
 | cons a r'=>
  refine AP.start λnb HS=>Tt ?_;refine Spec.AQ HS (BF h λa' JR=>⟨_,_,_,_,rfl,λ_=>⟨λ_=>?_,λAd=>absurd hk Ad⟩⟩);refine Spec.AQ JR (dT h λρ1 h1 x1 IF=>⟨_,rfl,λ_=>?_,λht=>absurd (AbN.symm.trans ht) (by decide)⟩);have h2:=h1.step;refine Spec.AQ IF (BB h1 λa' QS=>⟨_,_,_,_,rfl,?_⟩);refine wo h2 QS hs λρ2 pm cm h3 x2 mS hr=>⟨rfl,?_⟩;have ht:=h3.tok.1;have e1:a.lbr=GC a.kind a.text 5 ⟨#[123]⟩:=Ai8 Cl.lbr ht;have e2:a.lsq=GC a.kind a.text 5 ⟨#[91]⟩:=Ai8 Cl.lsq ht;have G0:Af 3 Jj (ρ2.del q) pm 1 [⟨1,EV,t.text⟩]:=hr.mono Jj.mono (h2.out.new x2);dsimp only at G;split at G
  .cases G
  rename_i hlb;refine AP.EA (Spec.AQ mS (BN h3 λhn5=>⟨_,rfl,λoV=>absurd (e1.trans oV) hlb,λ_=>⟨λhh=>(by cases hh),λ_=>?_⟩⟩));split at G
  .rename_i Vd;split at G
   .rename_i s ee o r'';split at G
    .rename_i hc;obtain⟨hs2,hrs,hof⟩:=hc;simp only[Ai9,Ajs,Aky,AmO]at G;obtain⟨rfl,rfl⟩:=G;refine AP.Ea (Spec.AQ hn5 (BN h3 λhn6=>⟨_,rfl,λ_=>?_,λhf=>absurd (Vd.symm.trans (e2.trans hf)) (by decide)⟩));have h4:=h3.step;have h5:=h4.step;have h6:=h5.step;refine Spec.AQ hn6 (BB h3 λa2 hn7=>⟨_,_,_,_,rfl,?_⟩);refine Spec.AQ hn7 (qE h4 hs2 λQT=>⟨_,rfl,?_⟩);refine st1 I1 (Hp.AA _ _ _) rfl rfl (by simp) rfl ?_;rw[Hp.set_set];refine st1 qH (Hp.AA _ _ _) rfl rfl (by simp) rfl ?_;rw[Hp.set_set];have e3:GC ee.kind ee.text 5 ⟨#[93]⟩=true:=by rw[<-hrs];exact(Ai8 Cl.rsq h5.tok.1).symm
     refine Spec.AQ QT (P7 h5 e3 λhn9=>⟨rfl,?_⟩);exact Yv (k:=3) (w:=s.span) h6 hn9 hof hb G0 λρ' q' e' hu=>hR ρ' _ q' _ _ e' hu
    .cases G
   .cases G
  .rename_i Vd;split at G
   .cases G
   rename_i hof;simp only[Ai9,Ajs,Aky,AmO]at G;obtain⟨rfl,rfl⟩:=G;refine AP.Ea (Spec.AQ hn5 (BN h3 λhn6=>⟨_,rfl,λoV=>absurd (e2.trans oV) Vd,λ_=>?_⟩));exact Yv (k:=2) (w:=0) h3 hn6 (by simpa using hof) hb G0 λρ' q' e' hu=>hR ρ' _ q' _ _ e' hu
end
end TwW
end
