/-
  Part 7 of the proof that the law QuerierFewUptoCardSaid of the given program answers true for every input of the given statement; the input reads behind the call as it did. (The texts: packed from 5 texts. Names are shortened by the packing program, for the bound on size.)
-/
import Derived.Test.YtdlkodiemlmmiaaGreatDoorA6
import Derived.Deep.DeepWitnessRowRef
import Derived.Deep.DeepLaidRun
import Derived.Lib.LaidTab
import Derived.LaidLaws
set_option linter.all false
section
namespace TwW.Rw
open Go Go.Proofs.Tryz Go.Proofs.YtdlkodiemlmmiaaGreatDoor
def fl0:DataW Unit→List Value
 | .lit (.int k z)=>[.int k z]
 | .lit (.bool b)=>[.bool b]
 | .lit (.float k b)=>[.float k b]
 | .lit (.string s)=>[.string ⟨s.toArray⟩]
 | _=>[]
def qa:DataW Unit→List Value
 | .agg l=>l.flatMap fl0
 | x=>fl0 x
def fl2:DataW Unit→List Value
 | .agg l=>l.flatMap qa
 | x=>fl0 x
def fls:DataW Unit→List Value
 | .slice l _=>l.flatMap qa
 | .iface _ (.ptr d)=>qa d
 | _=>[]
def lns:DataW Unit→Nat
 | .slice l _=>l.length
 | _=>0
noncomputable def M8 (os:Os):World:=
 let N:=(World.settled prog os).heap.size
 let ob (x:DataW Unit) (t:TypeId):Obj:=.cells (fls x).toArray t (0,0)
 let w0:=World.holding prog os ⟨#[ob Rows.laid_strconv_ErrSyntax 367,ob Rows.laid_strconv_ErrRange 367,ob Rows.laid_internal_strconv_float32pow10 329,ob Rows.laid_internal_strconv_powtab 3,ob Rows.laid_internal_strconv_float64pow10 258,ob Rows.laid_internal_strconv_leftcheats 407],#[],[]⟩
 let put (h:Array Obj) (g:Nat) (cs:List Value):Array Obj:=h.modify g fun
  | .cells _ t frozen=>.cells cs.toArray t frozen
  | o=>o
 let sl (i:Nat) (x:DataW Unit):List Value:=[.slice (some ⟨N+i,0,none⟩) (lns x) (lns x)]
 let h1:=put (put w0.heap 2 [.iface 365 (.pointer (some ⟨N,0,none⟩))]) 3 [.iface 365 (.pointer (some ⟨N+1,0,none⟩))]
 let h2:=put (put (put (put h1 7 (sl 2 Rows.laid_internal_strconv_float32pow10)) 8 (sl 3 Rows.laid_internal_strconv_powtab)) 9 (sl 4 Rows.laid_internal_strconv_float64pow10)) 13 (sl 5 Rows.laid_internal_strconv_leftcheats)
 let h3:=put (put (put h2 4 (qa Rows.laid_internal_strconv_float32info)) 5 (qa Rows.laid_internal_strconv_optimize)) 6 (qa Rows.laid_internal_strconv_float64info)
 let h4:=put (put (put h3 10 (fl2 Rows.laid_internal_strconv_pow10Tab)) 11 (qa Rows.laid_unicode_utf8_first)) 12 (fl2 Rows.laid_unicode_utf8_acceptRanges)
 { w0 with heap:=put (put (put h4 14 (qa Rows.laid_internal_strconv_uint64pow10)) 15 (qa Rows.laid_math_bits_deBruijn32tab)) 16 (qa Rows.laid_math_bits_deBruijn64tab) }
abbrev Laid:List (String×DataW Unit):=Rows.querierFewUptoRow.laid
noncomputable abbrev LW (os:Os)(args:Array Value):World:=((M8 os).forCall (fun _ _=>0) ⟨#[],args,[]⟩).memory
set_option maxRecDepth 1000000
theorem AUx (os:Os)(args:Array Value):(DataW.laidRun prog (LW os args) 8 (Laid.map (·.1))).map (·.1)=some Laid:=by kernel_rfl
noncomputable def LBk (os:Os):List (Nat×Nat):=
 let N:=(World.settled prog os).heap.size
 [(15,32),(16,64),(4,3),(6,3),(5,1),(8,1),(N+3,lns Rows.laid_internal_strconv_powtab),(9,1),(N+4,lns Rows.laid_internal_strconv_float64pow10),(7,1),(N+2,lns Rows.laid_internal_strconv_float32pow10),(14,20),(12,32),(3,1),(N+1,1),(2,1),(N,1),(13,1),(N+5,lns Rows.laid_internal_strconv_leftcheats*2),(10,1392),(11,256)]
theorem AUy (os:Os)(args:Array Value):(DataW.laidRun prog (LW os args) 8 (Laid.map (·.1))).map (·.2)=some ((LBk os).flatMap fun x=>MemPlace.row ⟨x.1,0,none⟩ x.2):=by kernel_rfl
end TwW.Rw
end
section
namespace TwW
open Go
def rowsOf (L:List (Nat×Nat)):List MemPlace:=L.flatMap fun x=>MemPlace.row ⟨x.1,0,none⟩ x.2
theorem aq {b n:Nat}{p:MemPlace}:p∈MemPlace.row ⟨b,0,none⟩ n↔∃i,i<n∧p=.cell b i:=by
 unfold MemPlace.row;simp only[AcO,Ac5,Acl];exact⟨fun⟨i,h,e⟩=>⟨i,h,e.symm⟩,fun⟨i,h,e⟩=>⟨i,h,e.symm⟩⟩
theorem qb (b n:Nat):(MemPlace.row ⟨b,0,none⟩ n).Nodup:=by
 unfold MemPlace.row;refine List.pairwise_map.2 ((List.nodup_range (n:=n)).imp fun {i j} A8 e=>A8 ?_);simpa using e
theorem WT:∀{L:List (Nat×Nat)},(L.map Prod.fst).Nodup→(rowsOf L).Nodup
 | [],_=>Ac9
 | x::L,h=>by
  have h:=Acg.1 (show(x.1::L.map Prod.fst).Nodup from h);unfold rowsOf;rw[AdL,AdK];refine⟨qb _ _,WT h.2,fun p hp q hq e=>?_⟩;subst e;obtain⟨i,_,rfl⟩:=aq.1 hp;obtain⟨y,hy,hq⟩:=List.mem_flatMap.1 hq;obtain⟨j,_,e⟩:=aq.1 hq;simp only[MemPlace.cell.injEq]at e;exact h.1 (AcO.2 ⟨y,hy,e.1.symm⟩)
def laidB (P:Program)(w:World)(b:Nat):Bool:=
 match w.heap[b]? with
 | some (.cells c _ (0,0))=>c.toList.all fun | .iface u v=>Value.okWideB P w u v | _=>true
 | _=>false
theorem au {P:Program}{w:World}{l:List (String×DataW Unit)}(fuel:Nat)(L:List (Nat×Nat))(h1:(DataW.laidRun P w fuel (l.map (·.1))).map (·.1)=some l)(h2:(DataW.laidRun P w fuel (l.map (·.1))).map (·.2)=some (rowsOf L))
  (hn:(L.map Prod.fst).Nodup) (hb:∀x∈L,laidB P w x.1=true):laidMet P l w:=by
 cases hx:DataW.laidRun P w fuel (l.map (·.1)) with
 | none=>rw[hx]at h1;cases h1
 | some x=>
  obtain⟨l',ps⟩:=x;rw[hx]at h1 h2;simp only[AcM,Abg]at h1 h2;subst h1;subst h2;refine⟨_,DataW.LaidVars_of_laidRun hx,WT hn,fun b off hp=>?_⟩;obtain⟨y,hy,hp⟩:=List.mem_flatMap.1 hp;obtain⟨i,hi,e⟩:=aq.1 hp;simp only[MemPlace.cell.injEq]at e;obtain⟨rfl,rfl⟩:=e;have:=hb y hy;unfold laidB at this;split at this
  ·rename_i c t hh;refine⟨⟨c,t,hh⟩,fun u v hc=>?_⟩;have hc':c[off]?=some (.iface u v):=by simpa[World.cell?,hh] using hc
   have hm:Value.iface u v∈c.toList:=Array.mem_toList_iff.2 (Ae3 hc');exact Value.okWide_of_okWideB (Acb.1 this _ hm)
  ·cases this
end TwW
end
section
namespace TwW.Rw
open Go TwW Go.Proofs.Tryz Go.Proofs.YtdlkodiemlmmiaaGreatDoor
set_option maxRecDepth 1000000
theorem AG3 (os:Os):nodupB ((LBk os).map Prod.fst)=true:=by kernel_rfl
theorem AG4 (os:Os)(args:Array Value):((LBk os).all fun x=>laidB prog (LW os args) x.1)=true:=by kernel_rfl
theorem xU (os:Os)(args:Array Value):laidMet prog Laid (LW os args):=au 8 (LBk os) (AUx os args) (AUy os args) (nodup_of_nodupB (AG3 os)) (fun x hx=>Acb.1 (AG4 os args) x hx)
end TwW.Rw
end
section
namespace TwW.Rw
open Go Tw TwW Go.RowKit Go.Deep Go.Proofs.Tryz Go.Proofs.YtdlkodiemlmmiaaGreatDoor
theorem kK {H:Type}{enc:TypeId×Value→H}{w:World}{base:Nat}{sp:Nat→Bool}{held:Bool}{fuel:Nat}{t:TypeId}{cs:List Value}{x:DataW H×List MemPlace}{k:FloatKind}(ht:prog.underlying t=some (.float k))(h:DataW.trod enc prog w base sp held fuel t cs=some x):∃n,cs=[.float k n]∧x=(.lit (.float k n),[]):=by
 cases fuel with
 | zero=>simp[DataW.trod]at h
 | succ n=>
  unfold DataW.trod at h;rw[ht]at h;split at h<;>simp_all
theorem mg {P:Program}{w:World}:∀{l:List (String×DataW Unit)} {ps:List MemPlace} {i:Nat} {n:String} {d:DataW Unit},DataW.LaidVars P w l ps→l[i]?=some (n,d)→
  ∃g t cs fuel p,P.globalNamed n=some g∧(P.globals[g]?).map (·.type)=some t∧w.var? P n=some cs∧DataW.trod (fun _=>()) P w 0 (fun _=>true) false fuel t cs.toList=some (d,p)
 | [],_,_,_,_,_,h=>by simp at h
 | (m,e)::r,ps,0,n,d,h,hi=>by
  cases hi;obtain⟨g,t,cs,fuel,p,q,h1,h2,h3,h4,_⟩:=h;exact⟨g,t,cs,fuel,p,h1,h2,h3,h4⟩
 | (m,e)::r,ps,i+1,n,d,h,hi=>by
  obtain⟨g,t,cs,fuel,p,q,h1,h2,h3,h4,h5,_⟩:=h;exact mg h5 hi
theorem av {P:Program}{w:World}{l:List (String×DataW Unit)}{i g t:Nat}{n:String}{d:DataW Unit}(h:laidMet P l w)(hi:l[i]?=some (n,d))(hg:P.globalNamed n=some g)(ht:(P.globals[g]?).map (·.type)=some t):
  ∃cs fuel p,(∀(j:Nat) v,cs[j]?=some v→(full w).ld ⟨g,j,none⟩=some v)∧DataW.trod (fun _=>()) P w 0 (fun _=>true) false fuel t cs=some (d,p):=by
 obtain⟨ps,hv,_⟩:=h;obtain⟨g',t',cs,fuel,p,h1,h2,h3,h4⟩:=mg hv hi;obtain rfl:=AcX (hg.symm.trans h1);obtain rfl:=AcX (ht.symm.trans h2);refine⟨cs.toList,fuel,p,fun j v hj=>TU ?_,h4⟩;unfold World.var? at h3;rw[hg]at h3;simp only[Ad4]at h3;split at h3
 ·rename_i c T fr hc;cases h3;simpa[World.cell?,hc] using hj
 ·cases h3
theorem xV {W : World} (h : laidMet prog Laid W) : (full W).ld ⟨5,0,none⟩ = some (.bool true) := by
 obtain ⟨cs,fuel,p,h1,h2⟩ := av (i := 4) (n := "internal/strconv.optimize") (d := .lit (.bool true)) (g := 5) (t := 4) h rfl (by kernel_rfl) (by kernel_rfl)
 obtain ⟨b,rfl,e⟩ := DataW.trod_bool underlying4 h2
 cases e
 exact h1 0 _ rfl
set_option maxRecDepth 100000 in
theorem qc {W : World} (h : laidMet prog Laid W) : (full W).ld ⟨6,0,none⟩ = some (.int .u64 52) := by
 obtain ⟨cs,fuel,p,h1,h2⟩ := av (i := 3) (n := "internal/strconv.float64info") (d := .agg [.lit (.int .u64 52),.lit (.int .u64 11),.lit (.int .i64 (-1023))]) (g := 6) (t := 350) h rfl (by kernel_rfl) (by kernel_rfl)
 obtain ⟨xs,n,_,e,hlen,hxl,hg⟩ := DataW.trod_struct underlying350 h2
 rw [show prog.cellsOf 350 = 3 by kernel_rfl] at hlen
 match cs,hlen,xs,hxl with
 | [c0,c1,c2],_,[y0,y1,y2],_ =>
   have h0 := hg 0 _ rfl
   simp only [show prog.cellsOf 215 = 1 by kernel_rfl,List.drop,List.take,Aca] at h0
   obtain ⟨a,e0,e1,_⟩ := DataW.trod_int underlying215 h0
   cases e0
   have e2 : y0.1 = .lit (.int .u64 52) := by
     have := Abr Prod.fst e
     simp only [AcH,DataW.agg.injEq,AdY] at this
     exact this.1.symm
   rw [e1] at e2
   cases e2
   exact h1 0 _ rfl
set_option maxRecDepth 100000 in
theorem xW {W : World} (h : laidMet prog Laid W) : ∃ b o n c,(full W).ld ⟨9,0,none⟩ = some (.slice (some ⟨b,o,none⟩) n c) ∧ 16 ≤ n ∧ ∀ i v,Vt[i]? = some v → (full W).ld ⟨b,o + i * 1,none⟩ = some (.float .f64 v) := by
 obtain ⟨cs,fuel,p,h1,h2⟩ := av (i := 6) (n := "internal/strconv.float64pow10") (d := Rows.laid_internal_strconv_float64pow10) (g := 9) (t := 386) h rfl (by kernel_rfl) (by kernel_rfl)
 rcases open_slice underlying386 h2 with ⟨_,e⟩ | ⟨a,len,cap,m,n,D,Pl,rfl,hb,hl,hm,hmm,e,hi⟩
 · have := Abr Prod.fst e
   simp [Rows.laid_internal_strconv_float64pow10] at this
 have e1 := Abr Prod.fst e
 simp only [Rows.laid_internal_strconv_float64pow10,DataW.slice.injEq] at e1
 obtain ⟨e1,_⟩ := e1
 have hlen := Abr List.length e1
 rw [AcR,Ac1] at hlen
 simp only [Abk,Acu] at hlen
 have hlm : len ≤ m := by rw [hmm]; split <;> omega
 have W3 : ∀ i,i < len → ∃ v,W.cell? (a.add (i * 1)) = some (.float .f64 v) ∧ D i = .lit (.float .f64 v) := fun i Bi => by
   obtain ⟨cs',hc,q8⟩ := hi i (by omega)
   rw [show prog.cellsOf 258 = 1 by kernel_rfl] at hc
   obtain ⟨_,bC,hat⟩ := World.cells?_some hc
   obtain ⟨v,rfl,ev⟩ := kK underlying258 q8
   have h0 := hat 0 (by decide)
   simp only [Aca] at h0
   exact ⟨v,h0,(Abr Prod.fst ev)⟩
 have gF : a.spot = none := by
   obtain ⟨v,hv,_⟩ := W3 0 (by omega)
   have := Xj hv
   simpa [Addr.add] using this
 obtain ⟨b,o,sp⟩ := a
 simp only at gF
 subst gF
 refine ⟨b,o,len,cap,h1 0 _ rfl,by omega,fun i v hv => ?_⟩
 have AUz : i < 16 := (Abf.1 hv).1
 obtain ⟨u,hu,hD⟩ := W3 i (by omega)
 have hDi : ((List.range len).map D)[i]? = some (D i) := by rw [AcP,Ac2 (by omega)]; rfl
 rw [← e1,hD] at hDi
 have huv : u = v := by
   match i,AUz with
   | 0,_ | 1,_ | 2,_ | 3,_ | 4,_ | 5,_ | 6,_ | 7,_ | 8,_ | 9,_ | 10,_ | 11,_ | 12,_ | 13,_ | 14,_ | 15,_ =>
     simp [Vt] at hv hDi
     omega
 subst huv
 have h9 := TU hu
 rw [B4] at h9
 exact h9
theorem AOf {W:World}(h:laidMetH prog Laid W)(hs:W.ShapedOpen prog):Gl (full W):=by
 have h:laidMet prog Laid W:=by
  rw[MakeChecks.laidMetH_plain _ _ _ (by kernel_rfl)]at h;exact h
 exact⟨let ⟨m,hm⟩:=Go.Proofs.cell_of_shapedOpen_int (g:=0) (zero:=#[.int .i64 0]) (t:=3) hs (Abm (by kernel_rfl)) (by kernel_rfl) rfl (by kernel_rfl) (by kernel_rfl) underlying3;⟨m,TU hm⟩,xV h,qc h,xW h⟩
end TwW.Rw
end
section
namespace TwW.Rw
open Go Tw TwW Go.Proofs.Tryz Go.Proofs.YtdlkodiemlmmiaaGreatDoor
theorem Bj {a b:Bool}(h1:a=true)(h2:b=true):(a&&b)=true:=by rw[h1,h2];rfl
theorem AOg:mapsRowed prog=true:=by kernel_rfl
theorem heard:prog.stopsHeard=true:=by kernel_rfl
theorem enters:prog.mayEnter=true:=by kernel_rfl
theorem AG5:(prog.stops==[])=true:=by kernel_rfl
theorem AG6:(prog.stopKnobs==[])=true:=by kernel_rfl
theorem AOh:(Rows.querierFewRow.lifted==prog.liftsFinal)=true:=by kernel_rfl
theorem keys:(Rows.querierFewRow.plainKeys==prog.plainKeys)=true:=by kernel_rfl
theorem makes:(prog.make==some Rows.querierFewRow.make)=true:=by kernel_rfl
end TwW.Rw
end
