/-
  Part 6 of the proof that the law QuerierSemUptoCardSaid of the given program answers true for every input of the given statement; the input reads behind the call as it did. (The texts: packed from 5 texts. Names are shortened by the packing program, for the bound on size.)
-/
import Derived.Test.YtdlkodiemlmmiaaGreatDoorA5
import Derived.Deep.DeepWitnessRowRef
import Derived.Deep.DeepLaidRun
import Derived.Lib.LaidTab
import Derived.LaidLaws
set_option linter.all false
section
namespace TwW.Rw
open Go Go.Proofs.Tryz Go.Proofs.YtdlkodiemlmmiaaGreatDoor
def fl0:DataW Unit->List Value
 | .lit (.int k z)=>[.int k z]
 | .lit (.bool b)=>[.bool b]
 | .lit (.float k b)=>[.float k b]
 | .lit (.string s)=>[.string ⟨s.toArray⟩]
 | _=>[]
def wH:DataW Unit->List Value
 | .agg l=>l.flatMap fl0
 | x=>fl0 x
def fl2:DataW Unit->List Value
 | .agg l=>l.flatMap wH
 | x=>fl0 x
def fls:DataW Unit->List Value
 | .slice l _=>l.flatMap wH
 | .iface _ (.ptr d)=>wH d
 | _=>[]
def lns:DataW Unit->Nat
 | .slice l _=>l.length
 | _=>0
noncomputable def P2 (os:Os):World:=
 let N:=(World.settled prog os).heap.size
 let G (x:DataW Unit) (t:TypeId):Obj:=.cells (fls x).toArray t (0,0)
 let w0:=World.holding prog os ⟨#[G Rows.laid_strconv_ErrSyntax 367,G Rows.laid_strconv_ErrRange 367,G Rows.laid_internal_strconv_float32pow10 329,G Rows.laid_internal_strconv_powtab 3,G Rows.laid_internal_strconv_float64pow10 258,G Rows.laid_internal_strconv_leftcheats 407],#[],[]⟩
 let put (h:Array Obj) (g:Nat) (cs:List Value):Array Obj:=h.modify g fun
  | .cells _ t frozen=>.cells cs.toArray t frozen
  | o=>o
 let sl (i:Nat) (x:DataW Unit):List Value:=[.slice (some ⟨N+i,0,none⟩) (lns x) (lns x)]
 let h1:=put (put w0.heap 2 [.iface 365 (.pointer (some ⟨N,0,none⟩))]) 3 [.iface 365 (.pointer (some ⟨N+1,0,none⟩))]
 let h2:=put (put (put (put h1 7 (sl 2 Rows.laid_internal_strconv_float32pow10)) 8 (sl 3 Rows.laid_internal_strconv_powtab)) 9 (sl 4 Rows.laid_internal_strconv_float64pow10)) 13 (sl 5 Rows.laid_internal_strconv_leftcheats)
 let h3:=put (put (put h2 4 (wH Rows.laid_internal_strconv_float32info)) 5 (wH Rows.laid_internal_strconv_optimize)) 6 (wH Rows.laid_internal_strconv_float64info)
 let h4:=put (put (put h3 10 (fl2 Rows.laid_internal_strconv_pow10Tab)) 11 (wH Rows.laid_unicode_utf8_first)) 12 (fl2 Rows.laid_unicode_utf8_acceptRanges)
 { w0 with heap:=put (put (put h4 14 (wH Rows.laid_internal_strconv_uint64pow10)) 15 (wH Rows.laid_math_bits_deBruijn32tab)) 16 (wH Rows.laid_math_bits_deBruijn64tab) }
abbrev Laid:List (String×DataW Unit):=Rows.querierFewUptoRow.laid
noncomputable abbrev LW (os:Os)(args:Array Value):World:=((P2 os).forCall (λ_ _=>0) ⟨#[],args,[]⟩).memory
set_option maxRecDepth 1000000
theorem Aaf (os:Os)(args:Array Value):(DataW.laidRun prog (LW os args) 8 (Laid.map (·.1))).map (·.1)=some Laid:=by kernel_rfl
noncomputable def LBk (os:Os):List (Nat×Nat):=
 let N:=(World.settled prog os).heap.size
 [(15,32),(16,64),(4,3),(6,3),(5,1),(8,1),(N+3,lns Rows.laid_internal_strconv_powtab),(9,1),(N+4,lns Rows.laid_internal_strconv_float64pow10),(7,1),(N+2,lns Rows.laid_internal_strconv_float32pow10),(14,20),(12,32),(3,1),(N+1,1),(2,1),(N,1),(13,1),(N+5,lns Rows.laid_internal_strconv_leftcheats*2),(10,1392),(11,256)]
theorem Aag (os:Os)(args:Array Value):(DataW.laidRun prog (LW os args) 8 (Laid.map (·.1))).map (·.2)=some ((LBk os).flatMap λx=>MemPlace.row ⟨x.1,0,none⟩ x.2):=by kernel_rfl
end TwW.Rw
end
section
namespace TwW
open Go
def rowsOf (L:List (Nat×Nat)):List MemPlace:=L.flatMap λx=>MemPlace.row ⟨x.1,0,none⟩ x.2
theorem fk {b n:Nat}{p:MemPlace}:p∈MemPlace.row ⟨b,0,none⟩ n↔∃i,i<n/\p=.cell b i:=by
 unfold MemPlace.row;simp only[Ajf,AkS,Ajz];exact⟨λ⟨i,h,e⟩=>⟨i,h,e.symm⟩,λ⟨i,h,e⟩=>⟨i,h,e.symm⟩⟩
theorem wJ (b n:Nat):(MemPlace.row ⟨b,0,none⟩ n).Nodup:=by
 unfold MemPlace.row;refine Alz.2 ((List.nodup_range (n:=n)).imp fun {i j} G e=>G ?_);simpa using e
theorem YY:∀{L:List (Nat×Nat)},(L.map Prod.fst).Nodup->(rowsOf L).Nodup
 | [],_=>AkR
 | x::L,h=>by
  have h:=Aj0.1 (show(x.1::L.map Prod.fst).Nodup from h);unfold rowsOf;rw[Akr,Aks];refine⟨wJ _ _,YY h.2,λp hp q G e=>?_⟩;subst e;obtain⟨i,_,rfl⟩:=fk.1 hp;obtain⟨y,hy,G⟩:=List.mem_flatMap.1 G;obtain⟨j,_,e⟩:=fk.1 G;simp only[MemPlace.cell.injEq]at e;exact h.1 (Ajf.2 ⟨y,hy,e.1.symm⟩)
def laidB (P:Program)(w:World)(b:Nat):Bool:=
 match w.heap[b]? with
 | some (.cells c _ (0,0))=>c.toList.all fun | .iface u v=>Value.okWideB P w u v | _=>true
 | _=>false
theorem fp {P:Program}{w:World}{l:List (String×DataW Unit)}(fuel:Nat)(L:List (Nat×Nat))(G:(DataW.laidRun P w fuel (l.map (·.1))).map (·.1)=some l)(h2:(DataW.laidRun P w fuel (l.map (·.1))).map (·.2)=some (rowsOf L))
  (hn:(L.map Prod.fst).Nodup) (hb:∀x∈L,laidB P w x.1=true):laidMet P l w:=by
 cases hx:DataW.laidRun P w fuel (l.map (·.1)) with
 | none=>rw[hx]at G;cases G
 | some x=>
  obtain⟨l',ps⟩:=x;rw[hx]at G h2;simp only[Aju,Ai9]at G h2;subst G;subst h2;refine⟨_,DataW.LaidVars_of_laidRun hx,YY hn,λb off hp=>?_⟩;obtain⟨y,hy,hp⟩:=List.mem_flatMap.1 hp;obtain⟨i,hi,e⟩:=fk.1 hp;simp only[MemPlace.cell.injEq]at e;obtain⟨rfl,rfl⟩:=e;have:=hb y hy;unfold laidB at this;split at this
  .rename_i c t hh;refine⟨⟨c,t,hh⟩,λu v hc=>?_⟩;have hc':c[off]?=some (.iface u v):=by simpa[World.cell?,hh] using hc
   have hm:Value.iface u v∈c.toList:=Array.mem_toList_iff.2 (Array.mem_of_getElem? hc');exact Value.okWide_of_okWideB (Ajt.1 this _ hm)
  .cases this
end TwW
end
section
namespace TwW.Rw
open Go TwW Go.Proofs.Tryz Go.Proofs.YtdlkodiemlmmiaaGreatDoor
set_option maxRecDepth 1000000
theorem ALo (os:Os):nodupB ((LBk os).map Prod.fst)=true:=by kernel_rfl
theorem ALp (os:Os)(args:Array Value):((LBk os).all λx=>laidB prog (LW os args) x.1)=true:=by kernel_rfl
theorem ABu (os:Os)(args:Array Value):laidMet prog Laid (LW os args):=fp 8 (LBk os) (Aaf os args) (Aag os args) (nodup_of_nodupB (ALo os)) (λx G=>Ajt.1 (ALp os args) x G)
end TwW.Rw
end
section
namespace TwW.Rw
open Go Tw TwW Go.RowKit Go.Deep Go.Proofs.Tryz Go.Proofs.YtdlkodiemlmmiaaGreatDoor
theorem pN {H:Type}{enc:TypeId×Value->H}{w:World}{base:Nat}{sp:Nat->Bool}{G:Bool}{fuel:Nat}{t:TypeId}{cs:List Value}{x:DataW H×List MemPlace}{k:FloatKind}(ht:prog.underlying t=some (.float k))(h:DataW.trod enc prog w base sp G fuel t cs=some x):∃n,cs=[.float k n]/\x=(.lit (.float k n),[]):=by
 cases fuel with
 | zero=>simp[DataW.trod]at h
 | succ n=>
  unfold DataW.trod at h;rw[ht]at h;split at h<;>simp_all
theorem so {P:Program}{w:World}:∀{l:List (String×DataW Unit)} {ps:List MemPlace} {i:Nat} {n:String} {d:DataW Unit},DataW.LaidVars P w l ps->l[i]?=some (n,d)->
  ∃g t cs fuel p,P.globalNamed n=some g/\(P.globals[g]?).map (·.type)=some t/\w.var? P n=some cs/\DataW.trod (λ_=>()) P w 0 (λ_=>true) false fuel t cs.toList=some (d,p)
 | [],_,_,_,_,_,h=>by simp at h
 | (m,e)::r,ps,0,n,d,h,hi=>by
  cases hi;obtain⟨g,t,cs,fuel,p,q,G,h2,h3,h4,_⟩:=h;exact⟨g,t,cs,fuel,p,G,h2,h3,h4⟩
 | (m,e)::r,ps,i+1,n,d,h,hi=>by
  obtain⟨g,t,cs,fuel,p,q,G,h2,h3,h4,h5,_⟩:=h;exact so h5 hi
theorem fq {P:Program}{w:World}{l:List (String×DataW Unit)}{i g t:Nat}{n:String}{d:DataW Unit}(h:laidMet P l w)(hi:l[i]?=some (n,d))(hg:P.globalNamed n=some g)(ht:(P.globals[g]?).map (·.type)=some t):
  ∃cs fuel p,(∀(j:Nat) v,cs[j]?=some v->(full w).ld ⟨g,j,none⟩=some v)/\DataW.trod (λ_=>()) P w 0 (λ_=>true) false fuel t cs=some (d,p):=by
 obtain⟨ps,hv,_⟩:=h;obtain⟨g',t',cs,fuel,p,h1,h2,G,h4⟩:=so hv hi;obtain rfl:=Ajv (hg.symm.trans h1);obtain rfl:=Ajv (ht.symm.trans h2);refine⟨cs.toList,fuel,p,λj v hj=>VQ ?_,h4⟩;unfold World.var? at G;rw[hg]at G;simp only[AlS]at G;split at G
 .rename_i c T fr hc;cases G;simpa[World.cell?,hc] using hj
 .cases G
theorem ABv {W : World} (h : laidMet prog Laid W) : (full W).ld ⟨5,0,none⟩ = some (.bool true) := by
 obtain ⟨cs,fuel,p,h1,h2⟩ := fq (i := 4) (n := "internal/strconv.optimize") (d := .lit (.bool true)) (g := 5) (t := 4) h rfl (by kernel_rfl) (by kernel_rfl)
 obtain ⟨b,rfl,e⟩ := DataW.trod_bool underlying4 h2
 cases e
 exact h1 0 _ rfl
set_option maxRecDepth 100000 in
theorem wK {W : World} (h : laidMet prog Laid W) : (full W).ld ⟨6,0,none⟩ = some (.int .u64 52) := by
 obtain ⟨cs,fuel,p,h1,h2⟩ := fq (i := 3) (n := "internal/strconv.float64info") (d := .agg [.lit (.int .u64 52),.lit (.int .u64 11),.lit (.int .i64 (-1023))]) (g := 6) (t := 350) h rfl (by kernel_rfl) (by kernel_rfl)
 obtain ⟨xs,n,_,e,hlen,hxl,hg⟩ := DataW.trod_struct underlying350 h2
 rw [show prog.cellsOf 350 = 3 by kernel_rfl] at hlen
 match cs,hlen,xs,hxl with
 | [c0,c1,c2],_,[y0,y1,y2],_ =>
   have h0 := hg 0 _ rfl
   simp only [show prog.cellsOf 215 = 1 by kernel_rfl,List.drop,List.take,Ajj] at h0
   obtain ⟨a,e0,e1,_⟩ := DataW.trod_int underlying215 h0
   cases e0
   have e2 : y0.1 = .lit (.int .u64 52) := by
     have := Ai8 Prod.fst e
     simp only [AjR,DataW.agg.injEq,Aky] at this
     exact this.1.symm
   rw [e1] at e2
   cases e2
   exact h1 0 _ rfl
set_option maxRecDepth 100000 in
theorem ABw {W : World} (h : laidMet prog Laid W) : ∃ b o n c,(full W).ld ⟨9,0,none⟩ = some (.slice (some ⟨b,o,none⟩) n c) /\ 16 <= n /\ ∀ i v,YJ[i]? = some v -> (full W).ld ⟨b,o + i * 1,none⟩ = some (.float .f64 v) := by
 obtain ⟨cs,fuel,p,h1,h2⟩ := fq (i := 6) (n := "internal/strconv.float64pow10") (d := Rows.laid_internal_strconv_float64pow10) (g := 9) (t := 386) h rfl (by kernel_rfl) (by kernel_rfl)
 rcases open_slice underlying386 h2 with ⟨_,e⟩ | ⟨a,len,cap,m,n,D,Pl,rfl,hb,hl,hm,hmm,e,hi⟩
 · have := Ai8 Prod.fst e
   simp [Rows.laid_internal_strconv_float64pow10] at this
 have e1 := Ai8 Prod.fst e
 simp only [Rows.laid_internal_strconv_float64pow10,DataW.slice.injEq] at e1
 obtain ⟨e1,_⟩ := e1
 have hlen := Ai8 List.length e1
 rw [Ajn,List.length_range] at hlen
 simp only [Aix,Ajw] at hlen
 have hlm : len <= m := by rw [hmm]; split <;> omega
 have bK : ∀ i,i < len -> ∃ v,W.cell? (a.add (i * 1)) = some (.float .f64 v) /\ D i = .lit (.float .f64 v) := λi CF => by
   obtain ⟨cs',hc,oV⟩ := hi i (by omega)
   rw [show prog.cellsOf 258 = 1 by kernel_rfl] at hc
   obtain ⟨_,aP,hat⟩ := World.cells?_some hc
   obtain ⟨v,rfl,ev⟩ := pN underlying258 oV
   have h0 := hat 0 (by decide)
   simp only [Ajj] at h0
   exact ⟨v,h0,(Ai8 Prod.fst ev)⟩
 have lD : a.spot = none := by
   obtain ⟨v,hv,_⟩ := bK 0 (by omega)
   have := bO hv
   simpa [Addr.add] using this
 obtain ⟨b,o,sp⟩ := a
 simp only at lD
 subst lD
 refine ⟨b,o,len,cap,h1 0 _ rfl,by omega,λi v hv => ?_⟩
 have Aah : i < 16 := (Ai0.1 hv).1
 obtain ⟨u,hu,hD⟩ := bK i (by omega)
 have hDi : ((List.range len).map D)[i]? = some (D i) := by rw [Aj7,List.getElem?_range (by omega)]; rfl
 rw [<- e1,hD] at hDi
 have huv : u = v := by
   match i,Aah with
   | 0,_ | 1,_ | 2,_ | 3,_ | 4,_ | 5,_ | 6,_ | 7,_ | 8,_ | 9,_ | 10,_ | 11,_ | 12,_ | 13,_ | 14,_ | 15,_ =>
     simp [YJ] at hv hDi
     omega
 subst huv
 have h9 := VQ hu
 rw [Cm] at h9
 exact h9
theorem AT2 {W:World}(h:laidMetH prog Laid W)(G:W.ShapedOpen prog):Gl (full W):=by
 have h:laidMet prog Laid W:=by
  rw[MakeChecks.laidMetH_plain _ _ _ (by kernel_rfl)]at h;exact h
 exact⟨let ⟨m,hm⟩:=Go.Proofs.cell_of_shapedOpen_int (g:=0) (zero:=#[.int .i64 0]) (t:=3) G (AjA (by kernel_rfl)) (by kernel_rfl) rfl (by kernel_rfl) (by kernel_rfl) underlying3;⟨m,VQ hm⟩,ABv h,wK h,ABw h⟩
end TwW.Rw
end
section
namespace TwW.Rw
open Go Tw TwW Go.Proofs.Tryz Go.Proofs.YtdlkodiemlmmiaaGreatDoor
theorem Cb {a b:Bool}(G:a=true)(h2:b=true):(a&&b)=true:=by rw[G,h2];rfl
theorem AT3:mapsRowed prog=true:=by kernel_rfl
theorem heard:prog.stopsHeard=true:=by kernel_rfl
theorem enters:prog.mayEnter=true:=by kernel_rfl
theorem ALq:(prog.stops==[])=true:=by kernel_rfl
theorem ALr:(prog.stopKnobs==[])=true:=by kernel_rfl
theorem AT4:(Rows.querierFewRow.lifted==prog.liftsFinal)=true:=by kernel_rfl
theorem keys:(Rows.querierFewRow.plainKeys==prog.plainKeys)=true:=by kernel_rfl
theorem makes:(prog.make==some Rows.querierFewRow.make)=true:=by kernel_rfl
end TwW.Rw
end
