/-
  Part 4 of the proof that the law EvalInstantsUptoCardSaid of the given program answers true for every input of the given statement; the input reads behind the call as it did. (The texts: packed from 30 texts. Names are shortened by the packing program, for the bound on size.)
-/
import Derived.Test.YtamakbhlhpaiiaaGreatDoorA3
import Derived.Laws.BytesArg
import Derived.Laws.Bits64b
import Derived.Laws.IdiomStrings
import Derived.Lib.Bytealg
import Derived.Lib.Split
import Derived.Lib.Index
import Derived.Shelf.Strings.Search3
import Derived.Shelf.Strings.Split
import Derived.Lib.IndexMore
set_option linter.all false
section
namespace Tw
open Go Go.MapKept
variable [G9]
def WK (p:Option Addr):List Nat:=match p with
 | some a=>[a.block]
 | none=>[]
structure Loc (A:Hp→Prop)(σ:Hp)(S:List Nat):Prop where
 here:A σ
 known:∀b∈S,σ b≠none
 loc:∀σ',(∀b∈S,σ' b=σ b)→A σ'
section
variable {P:Program}{σ:Hp}{α:Type}
theorem AK.obj {m:Sem α}{b:Nat}{o o':Obj}{v:α}{Φ:α→Hp→Prop}(hb:σ b=some o)(hm:∀w,Sat σ w→∃w1:World,(w1=w∨w1=w.drew)∧m.run P w=.ok v (ChangeMaps.setBlock w1 b o'))(h:Φ v (σ.set b o')):AK P m σ Φ:=fun w F hs hF=>by
 obtain⟨w1,hw,Bz⟩:=hm w hs;have Aq:b<w.heap.size:=(Array.getElem?_eq_some_iff.1 (hs b o hb)).1;have RQ:w1.heap=w.heap:=by rcases hw with rfl|rfl<;>rfl
 refine⟨v,_,_,Bz,h,fun k u hk=>?_,fun k hk=>?_,?_,?_,?_⟩
 ·simp only[ChangeMaps.setBlock,RQ];by_cases J3:k=b
  ·subst J3;rw[Hp.AA]at hk;cases hk;simp[Aq]
  ·rw[Hp.AM J3]at hk;simp[AjI J3,hs k u hk]
 ·have J3:k≠b:=fun e=>by have:=(hF k hk).2;rw[e,hb]at this;cases this
  refine⟨by rw[Hp.AM J3];exact(hF k hk).2,?_⟩;simp[ChangeMaps.setBlock,RQ,AjI J3]
 ·rcases hw with rfl|rfl
  ·exact .same rfl rfl rfl
  ·exact⟨rfl,rfl,fun _=>⟨1,rfl⟩⟩
 ·rcases hw with rfl|rfl<;>rfl
 ·simp[ChangeMaps.setBlock,RQ]
theorem AK.new {m:Sem α}{o:Obj}{v:Nat→α}{Φ:α→Hp→Prop}(hm:∀w,Sat σ w→m.run P w=.ok (v w.heap.size) (w.alloc o))(h:∀b,σ b=none→Φ (v b) (σ.set b o)):AK P m σ Φ:=fun w F hs hF=>
 ⟨_,_,_,hm w hs,h _ (IW hs),Fin.alloc hs hF _ rfl (.same rfl rfl rfl) rfl⟩
class yX (P:Program)(T:TypeId)(K V:outParam TypeId):Prop where
 oD:P.underlying T=some (.map K V)
 key:P.underlying K=some .string
def C8 (σ:Hp)(b:Nat)(l:List MapEntry)(clock:Nat):Prop:=σ b=some (.map l.toArray clock)∧Stamped l.toArray clock∧∀x∈l,IsKey .string x.key
theorem C8.mono {σ σ':Hp}{b:Nat}{l:List MapEntry}{clock:Nat}(h:C8 σ b l clock)(hx:Ext σ σ'):C8 σ' b l clock:=⟨hx _ _ h.1,h.2⟩
theorem C8.loc {σ σ':Hp}{b:Nat}{l:List MapEntry}{clock:Nat}(h:C8 σ b l clock)(hx:σ' b=σ b):C8 σ' b l clock:=⟨hx.trans h.1,h.2⟩
theorem C8.nodup {σ:Hp}{b:Nat}{l:List MapEntry}{clock:Nat}(h:C8 σ b l clock):(l.map (·.key)).Nodup:=h.2.1.2.2
theorem H8 {s:ByteArray}{l:List MapEntry}(hk:∀x∈l,IsKey .string x.key):
  (Instr.findNow .string (.string s) l 0=some none∧∀x∈l,x.key≠.string s)∨∃l1 e l2,l=l1++e::l2∧e.key=.string s∧Instr.findNow .string (.string s) l 0=some (some (l1.length,e.val)):=by
 rcases findNow_spec (d:=.string) (k:=.string s) trivial l 0 hk with h|⟨j,e,h1,h2,h3⟩
 ·exact .inl h
 ·obtain⟨hj,rfl⟩:=List.getElem?_eq_some_iff.1 h2;refine .inr ⟨l.take j,l[j],l.drop (j+1),?_,h3,?_⟩
  ·rw[List.getElem_cons_drop,Ai8]
  ·rw[h1];simp[Ajg (Nat.le_of_lt hj)]
section
variable {T K V ty:TypeId}{b clock:Nat}{l:List MapEntry}{s:ByteArray}
theorem G3 {Φ:Value→Hp→Prop}(h:∀b,σ b=none→Φ (.map (some b)) (σ.set b (.map #[] 0))):AK P (Instr.makeMap T none) σ Φ:=
 AK.new (v:=fun b=>.map (some b)) (fun w _=>by simp[Instr.makeMap,Result.andThen]) h
theorem C8.fresh {b:Nat}{σ:Hp}:C8 (σ.set b (.map #[] 0)) b [] 0:=⟨Hp.AA _ _ _,stamped_empty 0,by simp⟩
theorem Tf [t:yX P T K V](hm:C8 σ b l clock){z:Value}(hz:∀w,(zeroValue V).run P w=.ok z w){Q:Value→Prop}
  (h0:(∀x∈l,x.key≠.string s)→Q z) (h1:∀l1 e l2,l=l1++e::l2→e.key=.string s→Q e.val):∃v,Q v∧YF P (Instr.lookup T (.map (some b)) (.string s) false) σ v:=by
 rcases H8 (s:=s) hm.2.2 with ⟨hf,hn⟩|⟨l1,e,l2,hl,he,hf⟩
 ·refine⟨z,h0 hn,fun w hs=>?_⟩;have:=hs _ _ hm.1;simp[Instr.lookup,run_underlying t.oD,run_getObj_map this,run_checkKey t.key (k:=.string s) trivial,run_findKey t.key hf,hz,Result.andThen]
 ·refine⟨e.val,h1 l1 e l2 hl he,fun w hs=>?_⟩;have:=hs _ _ hm.1;simp[Instr.lookup,run_underlying t.oD,run_getObj_map this,run_checkKey t.key (k:=.string s) trivial,run_findKey t.key hf,Result.andThen]
theorem Q4 [t:yX P T K V](hm:C8 σ b l clock){z:Value}(hz:∀w,(zeroValue V).run P w=.ok z w){Φ:Value→Hp→Prop}
  (h0:(∀x∈l,x.key≠.string s)→Φ z σ) (h1:∀l1 e l2,l=l1++e::l2→e.key=.string s→Φ e.val σ):AK P (Instr.lookup T (.map (some b)) (.string s) false) σ Φ:=by
 obtain⟨v,hq,hy⟩:=Tf (T:=T) (K:=K) (s:=s) (Q:=fun v=>Φ v σ) hm hz h0 h1;exact AK.pu hy hq
theorem yY [t:yX P T K V](hm:C8 σ b l clock):YF P (Builtin.len_ #[T] ty #[.map (some b)]) σ (.int .i64 l.length):=fun w hs=>by
 have:=hs _ _ hm.1;simp[Builtin.len_,run_underlying t.oD,run_getObj_map this,goInt,Result.andThen]
abbrev RU (s:ByteArray)(v:Value)(n:Nat):MapEntry:={ key:=.string s,val:=v,born:=n }
theorem Kw [t:yX P T K V](hm:C8 σ b l clock){v:Value}{Φ:Unit→Hp→Prop}
  (h0:(∀x∈l,x.key≠.string s)→∀σ',σ'=σ.set b (.map (l++[RU s v clock]).toArray (clock+1))→C8 σ' b (l++[RU s v clock]) (clock+1)→Φ () σ')
  (h1:∀l1 e l2,l=l1++e::l2→e.key=.string s→∀σ',σ'=σ.set b (.map (l1++RU s v e.born::l2).toArray clock)→C8 σ' b (l1++RU s v e.born::l2) clock→Φ () σ') :
  AK P (Instr.mapUpdate T (.map (some b)) (.string s) v) σ Φ:=by
 obtain⟨hb,E2,hk⟩:=hm;rcases H8 (s:=s) hk with ⟨hf,hn⟩|⟨l1,e,l2,hl,he,hf⟩
 ·have iX:(l++[RU s v clock]).toArray=l.toArray.push (RU s v clock):=by simp
  refine AK.obj (v:=()) (o':=.map (l++[RU s v clock]).toArray (clock+1)) hb (fun w hs=>⟨w,.inl rfl,?_⟩) (h0 hn _ rfl ⟨Hp.AA _ _ _,?_,?_⟩)
  ·have:=hs _ _ hb;rw[iX];simp only[Instr.mapUpdate,Sem.run_bind,run_underlying t.oD,run_getObj_map this,run_checkKey t.key (k:=.string s) trivial,run_findKey t.key hf,Result.andThen_ok];simp[setObj,Sem.run,this,ChangeMaps.setBlock]
  ·rw[iX];exact stamped_push E2 (by simpa using hn)
  ·intro x hx;rcases List.mem_append.1 hx with hx|hx
   ·exact hk x hx
   ·rw[AiY]at hx;subst hx;trivial
 ·subst hl;have yZ:(l1++RU s v e.born::l2).toArray=(l1++e::l2).toArray.modify l1.length (fun e=>{ e with key:=.string s,val:=v }):=by
   rw[←Aip];apply AjP
   intro j;simp only[AjJ,Array.getElem?_modify,List.getElem?_toArray];by_cases hj:l1.length=j
   ·subst hj;simp
   ·rw[AiK hj];rcases AkL j l1.length with h|h
    ·rw[Ai6 h,Ai6 h]
    ·have:∃k,j=l1.length+(k+1):=⟨j-l1.length-1,by omega⟩;obtain⟨k,rfl⟩:=this;simp[AjE]
  have Zg:(l1++e::l2).toArray[l1.length]?=some e:=by simp
  refine AK.obj (v:=()) (o':=.map (l1++RU s v e.born::l2).toArray clock) hb (fun w hs=>⟨w,.inl rfl,?_⟩) (h1 l1 e l2 rfl he _ rfl ⟨Hp.AA _ _ _,?_,?_⟩)
  ·have:=hs _ _ hb;rw[yZ];simp only[Instr.mapUpdate,Sem.run_bind,run_underlying t.oD,run_getObj_map this,run_checkKey t.key (k:=.string s) trivial,run_findKey t.key hf,Result.andThen_ok,Zg,Aiv,Option.getD_some,he,
    run_keyThatStays (d:=.string) (k:=.string s) trivial]
   simp[setObj,Sem.run,this,ChangeMaps.setBlock]
  ·rw[yZ];exact stamped_modify E2 _ _ (fun _ _=>rfl) (fun e' _ QZ=>by rw[Zg]at QZ;cases QZ;exact he.symm)
  ·intro x hx;rcases List.mem_append.1 hx with hx|hx
   ·exact hk x (Ajo _ hx)
   ·rcases AiT.1 hx with rfl|hx
    ·trivial
    ·exact hk x (List.mem_append_right _ (AiX _ hx))
end
end
end Tw
end
section
theorem Tw.Hp.C9 {σ:Tw.Hp}{b k:Nat}{o:Go.Obj}(h:(σ.set b o) k=none):k≠b∧σ k=none:=by
 have Ah:k≠b:=fun e=>by rw[e,Tw.Hp.AA]at h;cases h
 exact⟨Ah,by rw[Tw.Hp.AM Ah]at h;exact h⟩
namespace ya
open Go Go.MapKept Tw
variable [G9]
section
variable {P:Program}{σ:Hp}
class MpI (P:Program)(T:TypeId)(K V:outParam TypeId):Prop where
 oD:P.underlying T=some (.map K V)
 key:P.underlying K=some (.int .i64)
def C8 (σ:Hp)(b:Nat)(l:List MapEntry)(clock:Nat):Prop:=σ b=some (.map l.toArray clock)∧Stamped l.toArray clock∧∀x∈l,IsKey (.int .i64) x.key
theorem C8.loc {σ σ':Hp}{b:Nat}{l:List MapEntry}{clock:Nat}(h:C8 σ b l clock)(hx:σ' b=σ b):C8 σ' b l clock:=⟨hx.trans h.1,h.2⟩
theorem H8 {s:Int}{l:List MapEntry}(hk:∀x∈l,IsKey (.int .i64) x.key):
  (Instr.findNow (.int .i64) (.int .i64 s) l 0=some none∧∀x∈l,x.key≠.int .i64 s)∨∃l1 e l2,l=l1++e::l2∧e.key=.int .i64 s∧Instr.findNow (.int .i64) (.int .i64 s) l 0=some (some (l1.length,e.val)):=by
 rcases findNow_spec (d:=.int .i64) (k:=.int .i64 s) rfl l 0 hk with h|⟨j,e,h1,h2,h3⟩
 ·exact .inl h
 ·obtain⟨hj,rfl⟩:=List.getElem?_eq_some_iff.1 h2;refine .inr ⟨l.take j,l[j],l.drop (j+1),?_,h3,?_⟩
  ·rw[List.getElem_cons_drop,Ai8]
  ·rw[h1];simp[Ajg (Nat.le_of_lt hj)]
section
variable {T K V ty:TypeId}{b clock:Nat}{l:List MapEntry}{s:Int}
theorem C8.fresh {b:Nat}{σ:Hp}:C8 (σ.set b (.map #[] 0)) b [] 0:=⟨Hp.AA _ _ _,stamped_empty 0,by simp⟩
theorem Tf [t:MpI P T K V](hm:C8 σ b l clock){z:Value}(hz:∀w,(zeroValue V).run P w=.ok z w){Q:Value→Prop}
  (h0:(∀x∈l,x.key≠.int .i64 s)→Q z) (h1:∀l1 e l2,l=l1++e::l2→e.key=.int .i64 s→Q e.val):∃v,Q v∧YF P (Instr.lookup T (.map (some b)) (.int .i64 s) false) σ v:=by
 rcases H8 (s:=s) hm.2.2 with ⟨hf,hn⟩|⟨l1,e,l2,hl,he,hf⟩
 ·refine⟨z,h0 hn,fun w hs=>?_⟩;have:=hs _ _ hm.1;simp[Instr.lookup,run_underlying t.oD,run_getObj_map this,run_checkKey t.key (k:=.int .i64 s) rfl,run_findKey t.key hf,hz,Result.andThen]
 ·refine⟨e.val,h1 l1 e l2 hl he,fun w hs=>?_⟩;have:=hs _ _ hm.1;simp[Instr.lookup,run_underlying t.oD,run_getObj_map this,run_checkKey t.key (k:=.int .i64 s) rfl,run_findKey t.key hf,Result.andThen]
theorem Q4 [t:MpI P T K V](hm:C8 σ b l clock){z:Value}(hz:∀w,(zeroValue V).run P w=.ok z w){Φ:Value→Hp→Prop}
  (h0:(∀x∈l,x.key≠.int .i64 s)→Φ z σ) (h1:∀l1 e l2,l=l1++e::l2→e.key=.int .i64 s→Φ e.val σ):AK P (Instr.lookup T (.map (some b)) (.int .i64 s) false) σ Φ:=by
 obtain⟨v,hq,hy⟩:=Tf (T:=T) (K:=K) (s:=s) (Q:=fun v=>Φ v σ) hm hz h0 h1;exact AK.pu hy hq
theorem yY [t:MpI P T K V](hm:C8 σ b l clock):YF P (Builtin.len_ #[T] ty #[.map (some b)]) σ (.int .i64 l.length):=fun w hs=>by
 have:=hs _ _ hm.1;simp[Builtin.len_,run_underlying t.oD,run_getObj_map this,goInt,Result.andThen]
abbrev RU (s:Int)(v:Value)(n:Nat):MapEntry:={ key:=.int .i64 s,val:=v,born:=n }
theorem Kw [t:MpI P T K V](hm:C8 σ b l clock){v:Value}{Φ:Unit→Hp→Prop}
  (h0:(∀x∈l,x.key≠.int .i64 s)→∀σ',σ'=σ.set b (.map (l++[RU s v clock]).toArray (clock+1))→C8 σ' b (l++[RU s v clock]) (clock+1)→Φ () σ')
  (h1:∀l1 e l2,l=l1++e::l2→e.key=.int .i64 s→∀σ',σ'=σ.set b (.map (l1++RU s v e.born::l2).toArray clock)→C8 σ' b (l1++RU s v e.born::l2) clock→Φ () σ') :
  AK P (Instr.mapUpdate T (.map (some b)) (.int .i64 s) v) σ Φ:=by
 obtain⟨hb,E2,hk⟩:=hm;rcases H8 (s:=s) hk with ⟨hf,hn⟩|⟨l1,e,l2,hl,he,hf⟩
 ·have iX:(l++[RU s v clock]).toArray=l.toArray.push (RU s v clock):=by simp
  refine AK.obj (v:=()) (o':=.map (l++[RU s v clock]).toArray (clock+1)) hb (fun w hs=>⟨w,.inl rfl,?_⟩) (h0 hn _ rfl ⟨Hp.AA _ _ _,?_,?_⟩)
  ·have:=hs _ _ hb;rw[iX];simp only[Instr.mapUpdate,Sem.run_bind,run_underlying t.oD,run_getObj_map this,run_checkKey t.key (k:=.int .i64 s) rfl,run_findKey t.key hf,Result.andThen_ok];simp[setObj,Sem.run,this,ChangeMaps.setBlock]
  ·rw[iX];exact stamped_push E2 (by simpa using hn)
  ·intro x hx;rcases List.mem_append.1 hx with hx|hx
   ·exact hk x hx
   ·rw[AiY]at hx;subst hx;rfl
 ·subst hl;have yZ:(l1++RU s v e.born::l2).toArray=(l1++e::l2).toArray.modify l1.length (fun e=>{ e with key:=.int .i64 s,val:=v }):=by
   rw[←Aip];apply AjP
   intro j;simp only[AjJ,Array.getElem?_modify,List.getElem?_toArray];by_cases hj:l1.length=j
   ·subst hj;simp
   ·rw[AiK hj];rcases AkL j l1.length with h|h
    ·rw[Ai6 h,Ai6 h]
    ·have:∃k,j=l1.length+(k+1):=⟨j-l1.length-1,by omega⟩;obtain⟨k,rfl⟩:=this;simp[AjE]
  have Zg:(l1++e::l2).toArray[l1.length]?=some e:=by simp
  refine AK.obj (v:=()) (o':=.map (l1++RU s v e.born::l2).toArray clock) hb (fun w hs=>⟨w,.inl rfl,?_⟩) (h1 l1 e l2 rfl he _ rfl ⟨Hp.AA _ _ _,?_,?_⟩)
  ·have:=hs _ _ hb;rw[yZ];simp only[Instr.mapUpdate,Sem.run_bind,run_underlying t.oD,run_getObj_map this,run_checkKey t.key (k:=.int .i64 s) rfl,run_findKey t.key hf,Result.andThen_ok,Zg,Aiv,Option.getD_some,he,
    run_keyThatStays (d:=.int .i64) (k:=.int .i64 s) rfl]
   simp[setObj,Sem.run,this,ChangeMaps.setBlock]
  ·rw[yZ];exact stamped_modify E2 _ _ (fun _ _=>rfl) (fun e' _ QZ=>by rw[Zg]at QZ;cases QZ;exact he.symm)
  ·intro x hx;rcases List.mem_append.1 hx with hx|hx
   ·exact hk x (Ajo _ hx)
   ·rcases AiT.1 hx with rfl|hx
    ·rfl
    ·exact hk x (List.mem_append_right _ (AiX _ hx))
end
end
end ya
end
section
namespace Tw
open Go
variable [G9]
def YM (s:ByteArray):List Value:=s.data.toList.map fun b=>.int .u8 b.toNat
theorem yb {s:ByteArray}:(YM s).length=s.size:=by simp[YM]
theorem yc {s:ByteArray}:G7 (YM s):=fun u hu=>by obtain⟨x,_,rfl⟩:=List.mem_map.1 hu;rfl
section append
variable {P:Program}{T E ty:TypeId}{bs:Nat}{σ:Hp}{p:Option Addr}{n c m:Nat}{cs ys:List Value}{Φ:Value→Hp→Prop}
theorem YO {str:ByteArray}(w:World)(size:Nat):(Builtin.firstCells size str.size (.string str)).run P w=.ok (YM str).toArray w:=by
 have hx:(Array.map (fun b:UInt8=>Value.int IntKind.u8 (b.toNat:Int)) str.data).extract 0 str.size=(YM str).toArray:=by
  have hs:str.size=(Array.map (fun b:UInt8=>Value.int IntKind.u8 (b.toNat:Int)) str.data).size:=by rw[Array.size_map];rfl
  rw[hs,Array.extract_size];apply Array.ext'
  simp[YM]
 have An:Array.map (fun b:UInt8=>Value.int IntKind.u8 (b.toNat:Int)) str.data=(YM str).toArray:=by apply Array.ext';simp[YM]
 simp[Builtin.firstCells,An]
theorem ACk [h:J6 P T E 1 bs]{U:TypeId}{str:ByteArray}(hU:P.underlying U=some .string)(DB:Au 1 σ p n c cs)(hm:str.size=m)(hys:YM str=ys)(hb:(n+m)*bs≤140737488355328)
  (hΦ:∀p' c' σ',Au 1 σ' p' (n+m) c' (cs++ys)→Ext (σ.del p) (σ'.del p')→((p'=p∧c'=c∧n+m≤c)∨(c<n+m∧Ext σ σ'∧∀a,p'=some a→σ a.block=none))→Φ (.slice p' (n+m) c') σ') :
  AK P (Builtin.append_ #[T,U] ty #[.slice p n c,.string str]) σ Φ:=by
 obtain⟨ht,⟨i,z,hi,hz,Im,rfl,hzs⟩,WE,uW⟩:=h;have h1:G7 ys:=hys▸yc;have hyl:ys.length=m*1:=by rw[←hys,←hm,AjX];exact yb
 have h62:n+m≤140737488355328:=Aiy (Nat.le_mul_of_pos_right _ uW) hb;intro w F hs hF;have hf:=YO (P:=P) (str:=str) w 1;rw[hys,hm]at hf;have tc:=fun w':World=>YO (P:=P) (str:=str) w' 1;rw[hys,hm]at tc;have Sj:=fun w' (hw:Sat σ w')=>PE (P:=P) (d:=c) w' hw DB.rd;have hlen:(cs++ys).length=(n+m)*1:=by rw[Aid,DB.1,hyl,AjM]
 by_cases KH:n+m≤c
 ·
  rcases DB.2.2 with ⟨hp,hn,hc⟩|⟨b,o,arr,T',rfl,hblk,oC,J2,LK⟩
  ·subst hp hn hc;have hm:m=0:=by omega
   subst hm;have hys:ys=[]:=Ai0 (by simpa using hyl);have LK:cs=[]:=Ai0 (by simpa using DB.1);subst hys LK;refine⟨.slice none 0 0,w,σ,?_,hΦ none 0 σ Au.nil (Ext.refl _) (.inl ⟨rfl,rfl,KH⟩),hs,fun b hb=>⟨(hF b hb).2,rfl⟩,.same rfl rfl rfl,rfl,AiV _⟩;simp[Builtin.append_,run_underlying ht,run_underlying hU,Im,hm,Go.sizeOf,typeInfo,hi,Builtin.lenOf,hf]
  ·have hw:=hs _ _ hblk;have AHC:o+n*1+0+ys.length≤arr.size:=by
    rw[hyl];have:(n+m)*1≤c*1:=Aiw _ KH;rw[AjM]at this;omega
   have E2:=HB (P:=P) b (o+n*1) T' ys 0 arr w hw AHC h1;simp only[AjH,AjX]at E2;refine⟨.slice (some ⟨b,o,none⟩) (n+m) c,w.setRow b (Qp arr (o+n) ys),σ.set b (.cells (Qp arr (o+n) ys) T' (0,0)),?_,hΦ _ _ _ ⟨hlen,by omega,.inr ⟨b,o,_,T',rfl,Hp.AA _ _ _,KH,by rw[IV];exact J2,?_⟩⟩ (by rw[Hp.JF];exact Ext.refl _) (.inl ⟨rfl,rfl,KH⟩),?_⟩
   ·simp[Builtin.append_,run_underlying ht,run_underlying hU,Im,hm,Go.sizeOf,typeInfo,hi,Builtin.lenOf,KH,hf,DH,E2]
   ·refine AjP fun j=>?_;rw[Ail];simp only[Ain,AjJ];rw[VY _ _ _ _ (by omega),AjD];have e1:cs.length=n*1:=DB.1;have e2:ys.length=m*1:=hyl;have e3:(n+m)*1=n*1+m*1:=AjM ..;by_cases j3:j<cs.length
    ·rw[AiL (by omega),AiK (by omega),AiL j3,←LK,Ail,AiL (by omega)];simp
    ·rw[AiK j3];by_cases hj2:j<(n+m)*1
     ·rw[AiL hj2,AiL (by omega),show o+j-(o+n)=j-cs.length by omega]
     ·rw[AiK hj2,Ajk (by omega)]
   ·refine⟨fun k u hk=>?_,fun k hk=>?_,.same rfl rfl rfl,rfl,by simp⟩
    ·by_cases J3:k=b
     ·subst J3;rw[Hp.AA]at hk;cases hk;exact setRow_heap w k arr _ T' (0,0) hw
     ·rw[Hp.AM J3]at hk;rw[setRow_other _ _ _ _ J3];exact hs k u hk
    ·have J3:k≠b:=fun h=>by have:=(hF k hk).2;rw[h,hblk]at this;cases this
     exact⟨by rw[Hp.AM J3];exact(hF k hk).2,setRow_other _ _ _ _ J3⟩
 ·
  have ALt:Builtin.nextslicecap (n+m) c*i.bytes≤281474976710656:=growslice_fits (by omega) hb;have hgc:=grownCap_ge w (n+m) c E;have Va:Sat σ w.drew:=hs;have Bz:(Builtin.append_ #[T,U] ty #[.slice p n c,.string str]).run P w =
    .ok (.slice (some ⟨w.heap.size,0,none⟩) (n+m) (grownCap w (n+m) c E))
     (w.drew.alloc (.cells (cs.toArray++ys.toArray++Builtin.zeroCells z.cells (grownCap w (n+m) c E-(n+m))) E)):=by
   have AHE:¬(9223372036854775807<((n:Int)+(m:Int))):=by omega
   have AHF:¬(281474976710656<Builtin.nextslicecap (n+m) c*i.bytes):=by omega
   simp[Builtin.append_,run_underlying ht,run_underlying hU,Im,hm,Go.sizeOf,typeInfo,zeroValue,hi,hz,Builtin.lenOf,KH,AHE,AHF,Question.forced,tc,Sj _ Va,newRow,grownCap]
   congr 2
   apply Array.ext'
   simp[AjL]
  refine⟨_,_,σ.set w.heap.size _,Bz,hΦ _ _ _ ⟨hlen,by omega,.inr ⟨w.heap.size,0,_,E,rfl,Hp.AA _ _ _,hgc,?_,?_⟩⟩ ?_ (.inr ⟨by omega,Ext.set (IW hs),fun a ha=>by cases ha;exact IW hs⟩),Fin.alloc hs hF _ rfl ⟨rfl,rfl,fun _=>⟨1,rfl⟩⟩ rfl⟩
  ·simp only[Array.size_append,List.size_toArray,size_zeroCells,hzs,DB.1,hyl,←AjM];have:n+m+(grownCap w (n+m) c E-(n+m))=grownCap w (n+m) c E:=by omega
   rw[this];omega
  ·simp only[Array.toList_append,AkO];rw[←hlen];exact List.take_left
  ·rw[Hp.MN (IW hs)];exact Ext.Jb σ p
end append
end Tw
end
section
namespace Tw
open Go
variable [G9]
def Hp.or (N M:Hp):Hp:=fun k=>match N k with | some o=>some o | none=>M k
def Dis (N M:Hp):Prop:=∀k,M k≠none→N k=none
theorem Hp.mG {N M:Hp}{k:Nat}{o:Obj}(h:N k=some o):N.or M k=some o:=by simp[Hp.or,h]
theorem Hp.R7 {N M:Hp}{k:Nat}(h:N k=none):N.or M k=M k:=by simp[Hp.or,h]
theorem Ext.mG (N M:Hp):Ext N (N.or M):=fun _ _ h=>Hp.mG h
theorem Ext.R7 {N M:Hp}(hd:Dis N M):Ext M (N.or M):=fun k o h=>by rw[Hp.R7 (hd k (by rw[h];simp))];exact h
theorem Ext.YQ {N M σ:Hp}(h1:Ext N σ)(h2:Ext M σ):Ext (N.or M) σ:=fun k o h=>by
 unfold Hp.or at h;split at h
 ·rename_i u hu;cases h;exact h1 _ _ hu
 ·exact h2 _ _ h
end Tw
end
section
namespace TwW
open Go Tw Go.Proofs.Tryz
theorem Aj {σ:Hp}{b o:Nat}{c:Array Value}{t:TypeId}{fr:Nat×Nat}{v:Value}(h:σ b=some (.cells c t fr))(hv:c[o]?=some v):σ.ld ⟨b,o,none⟩=some v:=by simp[Hp.ld,h,hv]
section
variable {σ:Hp}{d:Nat}{S:List Nat}{R:Rr}
end
end TwW
namespace TwW
open Go Tw Go.Proofs.Tryz
section
variable {σ:Hp}{d:Nat}{S:List Nat}{R:Rr}
theorem Au.cap {s:Nat}{σ:Hp}{p:Option Addr}{n c:Nat}{cs:List Value}(h:Au s σ p n c cs):n≤c:=by
 rcases h.2.2 with ⟨_,h1,h2⟩|⟨b,o,arr,T,_,_,h3,_⟩
 ·omega
 ·exact h3
end
end TwW
namespace TwW
open Go Tw Go.Proofs.Tryz
def uv (x:Nat):List Int:=if h:128≤x then((x%128+128:Nat):Int)::uv (x/128) else[(x:Int)]
termination_by x
decreasing_by omega
theorem Q5 {x:Nat}(h:128≤x):uv x=((x%128+128:Nat):Int)::uv (x/128):=by rw[uv,dif_pos h]
theorem HU {x:Nat}(h:¬128≤x):uv x=[(x:Int)]:=by rw[uv,dif_neg h]
theorem yd:∀(k x:Nat),x<128^(k+1)→(uv x).length≤k+1
 | 0,x,h=>by rw[HU (by simpa using h)];simp
 | k+1,x,h=>by
  by_cases hx:128≤x
  ·rw[Q5 hx];have:=yd k (x/128) (by rw[Nat.div_lt_iff_lt_mul (by decide)];rw[Nat.pow_succ]at h;exact h);simp;omega
  ·rw[HU hx];simp
theorem Og {x:Nat}(h:x<18446744073709551616):(uv x).length≤10:=yd 9 x (by omega)
set_option maxRecDepth 100000 in
theorem AR2:∀y:Fin 256,Go.bits .or .u8 (y.1:Int) 128=((y.1%128+128:Nat):Int):=by decide
theorem R8 {R:Rr}{σ:Hp}{p:Option Addr}{n c x:Nat}{xs:List Int}(hr:EP .u8 σ p n xs)(hn:n≤70368744177664)(hx:x<18446744073709551616)
  (h:∀p' n' c' σ',EJ .u8 (σ.new σ') p' n' c' (xs++uv x)→Ext σ σ'→R (.returned (.slice p' n' c')) σ'):Spec prog 89 #[.slice p n c,.U x] σ R:=by
 refine GU.start fun b hb=>?_;refine DT Au.empty ((G6.of_map hr).mono (.set hb)) G7.VZ (by omega) fun p' c' σ' DB I2=>?_;have hq:∀a:Addr,(some (⟨b,0,none⟩:Addr))=some a→σ a.block=none:=fun a ha=>by cases ha;exact hb
 have ho:=Au.WG DB (JP hq I2 (.set hb));have he:=PF hq I2 (.set hb);refine⟨p',0+n,c',rfl,?_⟩;rw[AjV]at ho ⊢;have hlen:=hr.1
 suffices H:∀(k x n':Nat) p' c' σ' ys,x<128^(k+1)→n'+k≤n+9→EJ .u8 (σ.new σ') p' n' c' ys→Ext σ σ'→(∀p' n' c' σ',EJ .u8 (σ.new σ') p' n' c' (ys++uv x)→Ext σ σ'→R (.returned (.slice p' n' c')) σ')→GU.Fm R x p' n' c' σ' from
  H 9 x n p' c' σ' xs (by omega) (by omega) ho he h
 intro k
 induction k with
 | zero=>
  intro x n' p' c' σ' ys hx hn' ho he h;refine GU.As ⟨fun Aq=>by omega,fun _ UZ AJc b2 bz=>?_⟩;have mH:UZ=(x:Int):=by rw[AJc];simp[IntKind.wrap,IntKind.bits,IntKind.signed];omega
  subst mH;refine EJ.Hu he ho (by omega) (fun p2 c2 σ2 A6 Vw _=>⟨p2,n'+1,c2,rfl,h _ _ _ _ ?_ Vw⟩) bz;rw[HU (by omega)];exact A6
 | succ k ih=>
  intro x n' p' c' σ' ys hx hn' ho he h;refine GU.As ⟨fun Aq x15 AXp x16 AXq b2 bz=>?_,fun Zg UZ AJc b2 bz=>?_⟩
  ·have h15:x15=((x%256:Nat):Int):=by rw[AXp];simp[IntKind.wrap,IntKind.bits,IntKind.signed]
   have ye:x16=((x%128+128:Nat):Int):=by
    rw[AXq,h15,AR2 ⟨x%256,Aj1 _ (by decide)⟩];have:x%256%128=x%128:=by omega
    rw[this]
   subst ye;refine EJ.Hu he ho (by omega) (fun p2 c2 σ2 A6 Vw _=>⟨p2,n'+1,c2,rfl,by simp[IntKind.bits],fun x12 AXr=>?_⟩) bz;have J4:x12=((x/128:Nat):Int):=by rw[AXr];simp
   subst J4;refine ih (x/128) (n'+1) p2 c2 σ2 _ (by rw[Nat.div_lt_iff_lt_mul (by decide)];rw[Nat.pow_succ]at hx;exact hx) (by omega) A6 Vw fun p3 n3 c3 σ3 DJ he3=>h p3 n3 c3 σ3 ?_ he3;rw[Q5 (by omega)];simpa using DJ
  ·have mH:UZ=(x:Int):=by rw[AJc];simp[IntKind.wrap,IntKind.bits,IntKind.signed];omega
   subst mH;refine EJ.Hu he ho (by omega) (fun p2 c2 σ2 A6 Vw _=>⟨p2,n'+1,c2,rfl,h _ _ _ _ ?_ Vw⟩) bz;rw[HU (by omega)];exact A6
theorem mI:∀(v w:Nat) (r s:List Int),uv v++r=uv w++s→v=w∧r=s:=by
 intro v
 induction v using Nat.strongRecOn with
 | _ v ih=>
 intro w r s h;by_cases hv:128≤v<;>by_cases hw:128≤w
 ·rw[Q5 hv,Q5 hw]at h;simp only[Ai1,Ajp]at h;have:=ih (v/128) (by omega) (w/128) r s h.2;exact⟨by omega,this.2⟩
 ·rw[Q5 hv,HU hw]at h;simp only[Ai1,Ajp]at h;omega
 ·rw[HU hv,Q5 hw]at h;simp only[Ai1,Ajp]at h;omega
 ·rw[HU hv,HU hw]at h;simp only[Ai1,AjK,Ajp]at h;exact⟨by omega,h.2⟩
end TwW
namespace TwW
open Go Tw Go.RowKit Go.Proofs.Tryz
theorem G6.at1 {σ:Hp}{p:Option Addr}{n k:Nat}{L:List Value}{v:Value}(h:G6 1 σ p n L)(hk:L[k]?=some v):∃b o,p=some ⟨b,o,none⟩∧σ.ld ⟨b,o+k*1,none⟩=some v:=by
 obtain⟨h1,_,h2⟩:=h;have Aq:=(List.getElem?_eq_some_iff.1 hk).1;rcases h2 with h2|⟨b,o,hp,hl⟩
 ·simp at h1;omega
 ·refine⟨b,o,hp,?_⟩;rw[AjX];exact hl.get hk
section
variable {σ τ:Hp}{d:Nat}{R:Rr}
end
section
variable {dir:ByteArray}{cnt:Nat}
end
end TwW
namespace TwW
open Go Tw Go.RowKit Go.Proofs.Tryz
def kD (s:ByteArray):List Int:=s.data.toList.map fun b=>(b.toNat:Int)
theorem PZ {s:ByteArray}:(kD s).length=s.size:=by simp[kD]
theorem yf {s:ByteArray}:YM s=(kD s).map (.int .u8):=by simp[YM,kD]
theorem YR (l:List UInt8):strOfNums (l.map fun b=>(b.toNat:Int))=⟨l.toArray⟩:=by
 apply ByteArray.ext
 apply Aip.1
 rw[strOfNums_data,List.map_map]
 conv=>rhs;rw[←List.map_id l]
 exact List.map_congr_left fun a _=>by simp
theorem ao {s:ByteArray}:strOfNums (kD s)=s:=by
 rw[kD,YR]
theorem pJ {s t:ByteArray}(h:kD s=kD t):s=t:=by rw[←ao (s:=s),h,ao]
section
variable {σ:Hp}{R:Rr}
theorem R9 {p:Option Addr}{n c:Nat}{xs:List Int}{s:ByteArray}(hr:EP .u8 σ p n xs)(hn:n≤1048576)(hs:s.size≤1048576)
  (h:∀p' n' c' σ',EJ .u8 (σ.new σ') p' n' c' (xs++uv s.size++kD s)→Ext σ σ'→R (.returned (.slice p' n' c')) σ'):Spec prog 90 #[.slice p n c,.string s] σ R:=by
 refine QU.start fun x8 h8=>?_;have e8:x8=(s.size:Int):=by rw[h8];simp[IntKind.wrap,IntKind.bits,IntKind.signed];omega
 subst e8;refine R8 hr (by omega) (by omega) fun p' n' c' σ1 ho Bc=>⟨p',n',c',rfl,?_⟩;have hq:∀a,p'=some a→σ a.block=none:=fun a ha=>by
  have h2:=Au.block ho a ha;cases hh:(σ.new σ1) a.block with
  | none=>exact absurd hh h2
  | some o=>exact(AR.1 hh).1
 have hl:(xs++uv s.size).length=n':=by have:=ho.1;simpa using this
 have VF:=Og (x:=s.size) (by omega);have tw:xs.length=n:=hr.1;rw[Aid]at hl;refine ACk underlying9 (Au.mono (Ext.B9 _ _) ho) rfl yf (by omega) fun p2 c2 σ2 A6 An _=>⟨p2,_,c2,rfl,?_⟩;have bz:=JP hq An Bc;refine h p2 _ c2 σ2 ?_ (PF hq An Bc);have:=Au.WG A6 bz;simpa[EJ] using this
theorem Uj {p:Option Addr}{n c:Nat}{xs:List Int}(h:EJ .u8 σ p n c xs):xs.length=n:=by have:=h.1;simpa using this
theorem aq {s:ByteArray}:(ByteArray.toList s==ByteArray.toList (ByteArray.mk #[]))=decide (s.size=0):=by
 rw[ByteArray.toList_eq,ByteArray.toList_eq];by_cases h:s.size=0
 ·have:s=⟨#[]⟩:=ByteArray.ext (AkB h);subst this;rfl
 ·rw[AiZ h];simp only[beq_eq_false_iff_ne];intro e;apply h
  have:=Aie List.length e;simpa using this
end
end TwW
namespace TwW
open Go Tw Go.RowKit Go.Proofs.Tryz
abbrev Lb:=ByteArray×ByteArray
def BL (_:Hp)(vs:List Value)(x:Lb):Prop:=vs=[.string x.1,.string x.2]
theorem BL.mono:Ht BL:=fun _ _ _ _ _ h=>h
abbrev Dy:=AT 2 BL
section
variable {σ:Hp}{R:Rr}
theorem Dy.at {p:Option Addr}{n i:Nat}{ls:List Lb}{x:Lb}(hr:Dy σ p n ls)(hx:ls[i]?=some x):∃b o,p=some ⟨b,o,none⟩∧Ae σ b (o+i*2) [.string x.1,.string x.2]:=by
 obtain⟨b,o,vs,hp,rfl,hl⟩:=AT.idx hr hx;exact⟨b,o,hp,hl⟩
theorem mJ {s t:ByteArray}:(s.toList==t.toList)=decide (s=t):=by
 rw[ByteArray.toList_eq,ByteArray.toList_eq];by_cases h:s=t
 ·subst h;simp
 ·rw[AiZ h,beq_eq_false_iff_ne];exact fun e=>h (ByteArray.ext (Aip.1 e))
theorem Ey {α:Type}{xs:List α}{k:Nat}{y:α}(hy:xs[k]?=some y):xs.drop k=y::xs.drop (k+1):=by
 obtain⟨h,rfl⟩:=List.getElem?_eq_some_iff.1 hy;exact AkU h
def Dg:List Lb→ByteArray→ByteArray
 | [],_=>⟨#[]⟩
 | x::l,k=>if x.1=k then x.2 else Dg l k
theorem Zh {p:Option Addr}{n c:Nat}{ls:List Lb}{k:ByteArray}(hr:Dy σ p n ls)(h:R (.returned (.string (Dg ls k))) σ):Spec prog 196 #[.slice p n c,.string k] σ R:=by
 refine Lg.start ?_
 suffices H:∀d i:Nat,n-i=d→i≤n→Dg ls k=Dg (ls.drop i) k→Lg.Q2 R k p n c n i σ from H n 0 rfl (AiR _) rfl
 intro d
 induction d with
 | zero=>
  intro i hd hi he;refine Lg.FO ⟨fun Aq=>by omega,fun _=>?_⟩;rw[Aji (by rw[hr.1];omega)]at he;rw[he]at h;exact h
 | succ d ih=>
  intro i hd hi he;refine Lg.FO ⟨fun _=>?_,fun hh=>by omega⟩;have BF:i<n:=by omega
  obtain⟨x,hx⟩:=hr.ex BF;obtain⟨b,o,rfl,hl⟩:=Dy.at hr hx;rw[Ey hx,Dg]at he;refine⟨b,o,rfl,by omega,x.1,x.2,by simpa using hl,fun _=>⟨fun hk=>?_,fun hk=>⟨AJ BF hr.big,ih (i+1) (by omega) (by omega) ?_⟩⟩⟩
  ·rw[mJ,AiW]at hk;rw[AiL hk]at he;rw[he]at h;exact h
  ·rw[mJ,Aik]at hk;rwa[AiK hk]at he
theorem pK {s:ByteArray}{ok:UInt8→Bool}{pt:Int→Prop}{G:Bool→Prop}
  (ub:G true→pt s.size) (Eu:∀(k:Nat) (u:UInt8),k<s.size→s.data[Int.toNat (k:Int)]?=some u→AG ((k:Int)+1)→(ok u=true→pt ((k:Int)+1))→(ok u=false→G false)→pt k)
  (h:G (s.data.toList.all ok)) (hb:s.size≤4611686018427387904):pt 0:=by
 have J2:s.data.toList.length=s.size:=rfl
 suffices H:∀d k:Nat,s.size-k=d→k≤s.size→(s.data.toList.take k).all ok=true→pt k from H s.size 0 rfl (AiR _) rfl
 intro d
 induction d with
 | zero=>
  intro k hd hk GJ;rw[AiQ (by omega)]at GJ;rw[GJ]at h;have:k=s.size:=by omega
  rw[this];exact ub h
 | succ d ih=>
  intro k hd hk GJ;have Ei:k<s.size:=by omega
  obtain⟨u,hu⟩:∃u,s.data.toList[k]?=some u:=⟨_,AiN (by omega)⟩;refine Eu k u Ei (by simpa using hu) (by unfold AG;omega) (fun hc=>ih (k+1) (by omega) (by omega) (by rw[AQ hu,List.all_append,GJ];simpa using hc)) fun hc=>?_;have:s.data.toList.all ok=false:=by
   rw[List.all_eq_false];exact⟨u,AiM hu,by simp[hc]⟩
  rwa[this]at h
def dgt (u:UInt8):Bool:=decide (48≤u.toNat∧u.toNat≤57)
def nch (u:UInt8):Bool:=decide (u.toNat=95∨(48≤u.toNat∧u.toNat≤57)∨(65≤u.toNat∧u.toNat≤90)∨(97≤u.toNat∧u.toNat≤122))
def DC (s:ByteArray):Bool:=decide (0<s.size)&&decide (s.size≤64)&&!(s.data.toList.head?.any dgt)&&s.data.toList.all nch
theorem Oh {s:ByteArray}(h:R (.returned (.bool (DC s))) σ):Spec prog 118 #[.string s] σ R:=by
 have J2:s.data.toList.length=s.size:=rfl;refine H4.start ⟨fun h0=>?_,fun h0=>⟨fun h1=>?_,fun h1=>?_⟩⟩
 ·rw[aq,AiW]at h0;simpa[DC,h0] using h
 ·have:¬s.size≤64:=by omega
  simpa[DC,this] using h
 ·rw[aq,Aik]at h0;obtain⟨u,hu⟩:∃u,s.data.toList[0]?=some u:=⟨_,AiN (by omega)⟩;have EG:s.data[Int.toNat (0:Int)]?=some u:=by simpa using hu
  have hh:s.data.toList.head?=some u:=by rw[←hu];cases s.data.toList<;>rfl
  have rest:dgt u=false→H4.Aw R s 0 σ:=fun hd=>by
   have e:DC s=s.data.toList.all nch:=by simp[DC,show 0<s.size by omega,show s.size≤64 by omega,hh,hd]
   rw[e]at h;refine pK (s:=s) (pt:=fun k=>H4.Aw R s k σ) (ok:=nch) (G:=fun t=>R (.B t) σ) (fun g=>H4.Ay ⟨fun Aq=>by omega,fun _=>g⟩) (fun k u hk hu hi good bad=>?_) h (by omega);simp only[nch,AiW,Aik]at good bad;refine H4.Ay ⟨fun Aq=>⟨u,by omega,hu,?_⟩,fun Zg=>by omega⟩;clear h;generalize u.toNat=n at good bad
   repeat' (first|refine⟨fun _=>?_,fun _=>?_⟩|exact⟨hi,good (by omega)⟩|exact bad (by omega))
  simp only[dgt,Aik]at rest;refine⟨u,by omega,EG,fun h2=>⟨u,by omega,EG,fun h3=>?_,fun h3=>rest (by omega)⟩,fun h2=>rest (by omega)⟩;have:dgt u=true:=by simp[dgt];omega
  simpa[DC,hh,this] using h
def vl:Nat→Nat→Nat→List UInt8→Bool
 | 0,_,_,[]=>true
 | _+1,_,_,[]=>false
 | 0,_,_,c::r=>
  if c.toNat<128 then vl 0 128 191 r
  else if 194≤c.toNat∧c.toNat≤223 then vl 1 128 191 r
  else if 224≤c.toNat∧c.toNat≤239 then(if c.toNat=224 then vl 2 160 191 r else if c.toNat=237 then vl 2 128 159 r else vl 2 128 191 r)
  else if 240≤c.toNat∧c.toNat≤244 then(if c.toNat=240 then vl 3 144 191 r else if c.toNat=244 then vl 3 128 143 r else vl 3 128 191 r)
  else false
 | m+1,lo,hi,c::r=>if c.toNat<lo∨hi<c.toNat then false else vl m 128 191 r
def Oi (s:ByteArray):Bool:=vl 0 128 191 s.data.toList
theorem vl0 (l:List UInt8)(a b c d:Nat):vl 0 a b l=vl 0 c d l:=by cases l<;>rfl
attribute [local irreducible] BA.Ab BA.KB BA.v7 in
theorem VH {s:ByteArray}(hb:s.size≤4611686018427387904)(h:R (.returned (.bool (Oi s))) σ):Spec prog 119 #[.string s] σ R:=by
 have J2:s.data.toList.length=s.size:=rfl;refine BA.start ?_
 suffices H:∀d:Nat,(∀k:Nat,s.size-k=d→k≤s.size→Oi s=vl 0 128 191 (s.data.toList.drop k)→BA.Ab R s k σ)∧
   (∀(k m lo hi:Nat),s.size-k=d→k≤s.size→Oi s=vl m lo hi (s.data.toList.drop k)→m≤3→BA.v7 R s k m lo hi σ) from(H s.size).1 0 (by omega) (by omega) rfl
 intro d
 induction d with
 | zero=>
  have A:∀k:Nat,s.size-k=0→k≤s.size→Oi s=vl 0 128 191 (s.data.toList.drop k)→BA.Ab R s k σ:=fun k hd hk he=>by
   refine BA.AO ⟨fun _=>?_,fun Ah=>by omega⟩;rw[Aji (by omega)]at he;rw[he]at h;exact h
  refine⟨A,fun k m lo hi hd hk he hm=>BA.oz ⟨fun h0=>A k hd hk ?_,fun h0=>⟨fun _=>?_,fun Ah=>by omega⟩⟩⟩
  ·have:m=0:=by omega
   subst this;rw[he];exact vl0 _ _ _ _ _
  ·obtain⟨m',rfl⟩:∃m',m=m'+1:=⟨m-1,by omega⟩;rw[Aji (by omega)]at he;rw[he]at h;exact h
 | succ d ih=>
  have A:∀k:Nat,s.size-k=d+1→k≤s.size→Oi s=vl 0 128 191 (s.data.toList.drop k)→BA.Ab R s k σ:=fun k hd hk he=>by
   have Ei:k<s.size:=by omega
   obtain⟨u,hu⟩:∃u,s.data.toList[k]?=some u:=⟨_,AiN (by omega)⟩;have EG:s.data[Int.toNat (k:Int)]?=some u:=by simpa using hu
   have hi:AG ((k:Int)+1):=by unfold AG;omega
   rw[Ey hu,vl]at he;have st:∀(m lo hi:Nat),m≤3→Oi s=vl m lo hi (s.data.toList.drop (k+1))→BA.KB R s k m lo hi σ:=fun m lo hh hm he=>BA.ACL ⟨hi,ih.2 (k+1) m lo hh (by omega) (by omega) he hm⟩;have nx:Oi s=vl 0 128 191 (s.data.toList.drop (k+1))→BA.Ab R s ((k:Int)+1) σ:=fun he=>ih.1 (k+1) (by omega) (by omega) he;have no:Oi s=false→R (.B false) σ:=fun e=>by rw[e]at h;exact h
   refine BA.AO ⟨fun Ah=>by omega,fun _=>⟨u,by omega,EG,?_⟩⟩;generalize s.data.toList.drop (k+1)=r at he st nx;clear ih h hu EG;generalize u.toNat=n at he;have st1:=st 1 128 191 (by omega);have st2:=st 2 160 191 (by omega);have st3:=st 2 128 159 (by omega);have st4:=st 2 128 191 (by omega);have st5:=st 3 144 191 (by omega);have st6:=st 3 128 143 (by omega);have st7:=st 3 128 191 (by omega)
   repeat' (first|refine⟨fun _=>?_,fun _=>?_⟩|refine⟨hi,nx ?_⟩|refine st1 ?_|refine st2 ?_|refine st3 ?_|refine st4 ?_|refine st5 ?_|refine st6 ?_|refine st7 ?_|refine no ?_)
   all_goals first|(exfalso;clear he;omega)|(rw[he];repeat' (first|rfl|rw[AiL (by omega)] | rw[AiK (by omega)]))
  refine⟨A,fun k m lo hi hd hk he hm=>BA.oz ⟨fun h0=>A k hd hk ?_,fun h0=>⟨fun Ah=>by omega,fun _=>?_⟩⟩⟩
  ·have:m=0:=by omega
   subst this;rw[he];exact vl0 _ _ _ _ _
  ·obtain⟨m',rfl⟩:∃m',m=m'+1:=⟨m-1,by omega⟩;have Ei:k<s.size:=by omega
   obtain⟨u,hu⟩:∃u,s.data.toList[k]?=some u:=⟨_,AiN (by omega)⟩;have EG:s.data[Int.toNat (k:Int)]?=some u:=by simpa using hu
   rw[Ey hu,vl]at he;refine⟨u,by omega,EG,fun h1=>?_,fun h1=>⟨u,by omega,EG,fun h2=>?_,fun h2=>⟨by unfold AG;omega,by unfold AG;omega,?_⟩⟩⟩
   ·rw[AiL (by omega)]at he;rw[he]at h;exact h
   ·rw[AiL (by omega)]at he;rw[he]at h;exact h
   ·rw[AiK (by omega)]at he;have:=ih.2 (k+1) m' 128 191 (by omega) (by omega) he (by omega);have e1:((m'+1:Nat):Int)-1=(m':Nat):=by omega
    rw[e1];exact this
end
end TwW
namespace TwW
open Go Tw Go.RowKit Go.Proofs.Tryz
section
variable {σ:Hp}{R:Rr}
def sle (a b:ByteArray):Bool:=Op.bytesLess a.toList b.toList||a.toList==b.toList
theorem yh {x y:Operand}{a b:ByteArray}{T:TypeId}:YF prog (do eqGuard .leq T x y (.string a) (.string b);binOp .leq T (.string a) (.string b)) σ (.bool (sle a b)):=fun w _=>by
 simp[eqGuard,binOp,Op.stringOp,sle]
def GV:Option ByteArray→List Lb→Int
 | _,[]=>0
 | pv,x::l=>if DC x.1=false then 31 else if x.2.size=0∨256<x.2.size∨Oi x.2=false then 32 else if pv.any (sle x.1 ·)=true then 33 else GV (some x.1) l
def GD (ls:List Lb):Int:=if 16<ls.length then 30 else GV none ls
theorem VI {p:Option Addr}{n c:Nat}{ls:List Lb}(hr:Dy σ p n ls)(h:R (.returned (.I (GD ls))) σ):Spec prog 74 #[.slice p n c] σ R:=by
 have hn:ls.length=n:=hr.1;refine Gq.start ⟨fun h1=>?_,fun h1=>?_⟩
 ·rw[GD,AiL (by omega)]at h;exact h
 rw[GD,AiK (by omega)]at h
 let pv:Nat→Option ByteArray:=fun i=>if i=0 then none else(ls[i-1]?).map (·.1)
 suffices H:∀d i:Nat,n-i=d→i≤n→GV none ls=GV (pv i) (ls.drop i)→Gq.Nb R p n c p n c n i σ from H n 0 rfl (AiR _) rfl
 intro d
 induction d with
 | zero=>
  intro i hd hi he;refine Gq.KK ⟨fun Aq=>by omega,fun _=>?_⟩;rw[Aji (by omega)]at he;rw[he]at h;exact h
 | succ d ih=>
  intro i hd hi he;have BF:i<n:=by omega
  obtain⟨x,hx⟩:=hr.ex BF;obtain⟨b,o,rfl,hl⟩:=Dy.at hr hx;rw[Ey hx,GV]at he;have out:∀e:Int,GV none ls=e→R (.returned (.I e)) σ:=fun e h1=>h1▸h;refine Gq.KK ⟨fun _=>?_,fun hh=>by omega⟩;refine⟨b,o,rfl,by omega,x.1,x.2,by simpa using hl,fun _=>Oh ⟨_,rfl,fun h1=>out _ ?_,fun h1=>?_⟩⟩
  ·rw[he,AiL h1]
  rw[AiK (by simp[h1])]at he;rw[aq];refine⟨fun h2=>out _ ?_,fun h2=>⟨fun h3=>out _ ?_,fun h3=>VH (by omega) ⟨_,rfl,fun h4=>out _ ?_,fun h4=>?_⟩⟩⟩
  ·rw[he,AiL (.inl (by simpa using h2))]
  ·rw[he,AiL (.inr (.inl (by omega)))]
  ·rw[he,AiL (.inr (.inr h4))]
  rw[AiK (by rw[Aik]at h2;simp[h2,h4];omega)]at he;have nx:pv (i+1)=some x.1:=by simp[pv,hx]
  have go:(pv i).any (sle x.1 ·)=false→Gq.Nb R (aD b o) n c (aD b o) n c n ((i:Int)+1) σ:=fun h5=>by
   rw[AiK (by simp[h5]),←nx]at he;exact ih (i+1) (by omega) (by omega) he
  refine⟨fun h5=>?_,fun h5=>⟨AJ BF hr.big,go ?_⟩⟩
  ·obtain⟨y,hy⟩:=hr.ex (k:=i-1) (by omega);obtain⟨b',o',hp,UK⟩:=Dy.at hr hy;cases hp;have e1:((i:Int)-1).toNat=i-1:=by omega
   have hpv:pv i=some y.1:=by simp[pv,hy,show i≠0 by omega]
   refine⟨by have:=hr.big;unfold AG;omega,b,o,rfl,by omega,y.1,by rw[e1];exact UK.1,_,yh,fun h6=>out _ ?_,fun h6=>⟨AJ BF hr.big,go ?_⟩⟩
   ·rw[he,AiL (by rw[hpv];exact h6)]
   ·rw[hpv];exact h6
  ·have:i=0:=by omega
   simp[pv,this]
theorem au:∀{ls:List Lb} {pv:Option ByteArray},GV pv ls=0→∀x∈ls,DC x.1=true∧0<x.2.size∧x.2.size≤256∧Oi x.2=true
 | [],_,_,_,hx=>by cases hx
 | y::l,pv,h,x,hx=>by
  rw[GV]at h;split at h
  ·cases h
  split at h
  ·cases h
  split at h
  ·cases h
  rename_i h1 h2 h3;rcases AiT.1 hx with rfl|hx
  ·simp only[not_or,Bool.not_eq_false]at h1 h2;exact⟨h1,by omega,by omega,h2.2.2⟩
  ·exact au h x hx
def Af (ls:List Lb):Prop:=ls.length≤16∧∀x∈ls,x.1.size≤256∧x.2.size≤256
theorem Af.of {ls:List Lb}(h:GD ls=0):Af ls:=by
 unfold GD at h;split at h
 ·cases h
 ·refine⟨by omega,fun x hx=>?_⟩;obtain⟨h1,_,h2,_⟩:=au h x hx;simp[DC]at h1;exact⟨by omega,h2⟩
theorem BL.one (σ:Hp)(vs:List Value)(x:Lb)(h:BL σ vs x):G7 vs:=by
 rw[h];intro u hu;simp only[AiT,Air,or_false]at hu;rcases hu with rfl|rfl<;>rfl
theorem Dz {σ1:Hp}{q:Option Addr}{j c b:Nat}{ls:List Lb}{ty:TypeId}{Φ:Value→Hp→Prop}(ht:Dy σ1 q j ls)(hb:j≤1000000000)
  (hΦ:∀p' c' σ',Ix 2 BL (σ1.new σ') p' j c' ls→Ext σ1 σ'→Φ (.slice p' j c') σ') (hn:σ1 b=none) :
  AK prog (Builtin.append_ #[47,47] ty #[.slice (some ⟨b,0,none⟩) 0 0,.slice q j c]) (σ1.set b (.cells #[] 71 (0,0))) Φ:=by
 obtain⟨h1,cs,h2,h3⟩:=ht;refine DT Au.empty (h2.mono (.set hn)) (Ch.WH BL.one h3 (by decide)) (by omega) fun p' c' σ' DB I2=>?_;have hq:∀a:Addr,(some (⟨b,0,none⟩:Addr))=some a→σ1 a.block=none:=fun a ha=>by cases ha;exact hn
 rw[AjV]at DB ⊢;rw[AjK]at DB;exact hΦ p' c' σ' ⟨h1,cs,Au.WG DB (JP hq I2 (.set hn)),h3⟩ (PF hq I2 (.set hn))
def Qa (x:Lb):List Int:=uv x.1.size++kD x.1++(uv x.2.size++kD x.2)
def r8 (ls:List Lb):List Int:=uv ls.length++ls.flatMap Qa
theorem r9 {x:Lb}(h:x.1.size≤256∧x.2.size≤256):(Qa x).length≤532:=by
 have h1:=Og (x:=x.1.size) (by omega);have h2:=Og (x:=x.2.size) (by omega);simp only[Qa,Aid,PZ];omega
theorem yi {ls:List Lb}(h:∀x∈ls,x.1.size≤256∧x.2.size≤256):(ls.flatMap Qa).length≤ls.length*532:=by
 induction ls with
 | nil=>simp
 | cons x l ih=>
  have:=ih fun y hy=>h y (AiX _ hy);have:=r9 (h x (by simp));rw[Aje,Aid,AjB];omega
theorem dI {p:Option Addr}{n c:Nat}{ls:List Lb}(hr:Dy σ p n ls)(hs:Af ls)(h:∀p' n' c' σ',EJ .u8 (σ.new σ') p' n' c' (r8 ls)→Ext σ σ'→R (.returned (.slice p' n' c')) σ'):Spec prog 56 #[.slice p n c] σ R:=by
 have hn:ls.length=n:=hr.1;have ye:=hs.1;refine HM.start fun x8 h8=>?_;have e8:x8=(n:Int):=by rw[h8];simp[IntKind.wrap,IntKind.bits,IntKind.signed];omega
 subst e8;refine R8 AT.nil (by omega) (by omega) fun p1 n1 c1 σ1 NN Bc=>⟨p1,n1,c1,rfl,?_⟩;rw[AjK]at NN
 suffices H:∀d k:Nat,∀p3 n3 c3 σ3,n-k=d→k≤n→EJ .u8 (σ.new σ3) p3 n3 c3 (uv n++(ls.take k).flatMap Qa)→Ext σ σ3→HM.B4 R p3 n3 c3 p n c n k σ3 from H n 0 p1 n1 c1 σ1 rfl (AiR _) (by simpa using NN) Bc
 intro d
 induction d with
 | zero=>
  intro k p3 n3 c3 σ3 hd hk ho hx;refine HM.Ap ⟨fun Aq=>by omega,fun _=>h p3 n3 c3 σ3 ?_ hx⟩;rw[AiQ (by omega)]at ho;rw[r8,hn];exact ho
 | succ d ih=>
  intro k p3 n3 c3 σ3 hd hk ho hx;have Ei:k<n:=by omega
  obtain⟨y,hy⟩:=hr.ex Ei;obtain⟨b,o,rfl,hl⟩:=Dy.at hr hy;have ZF:=hs.2 y (AiM hy);have hl3:=Uj ho;have VF:=Og (x:=n) (by omega);have hfl:=yi (ls:=ls.take k) fun x hx=>hs.2 x (AjY hx);rw[Aid]at hl3;rw[AiU]at hfl;have h3b:n3≤9000:=by omega
  refine HM.Ap ⟨fun _=>⟨b,o,rfl,by omega,y.1,y.2,by simpa using hl.mono hx,fun _=>?_⟩,fun hh=>by omega⟩;refine R9 (EJ.rd (Au.mono (Ext.B9 _ _) ho)) (by omega) (by omega) fun p4 n4 c4 σ4 FW JK=>⟨p4,n4,c4,rfl,?_⟩;have hl4:=Uj FW;have hu1:=Og (x:=y.1.size) (by omega);simp only[Aid,PZ]at hl4;refine R9 (EJ.rd (Au.mono (Ext.B9 _ _) FW)) (by omega) (by omega) fun p5 n5 c5 σ5 KT Sv=>⟨p5,n5,c5,rfl,AJ Ei hr.big,?_⟩;refine ih (k+1) p5 n5 c5 σ5 (by omega) (by omega) ?_ (hx.trans (JK.trans Sv));have:=Au.mono (Ext.Eg (hx.trans JK)) KT;rw[AQ hy,List.flatMap_append];simpa[Qa,EJ] using this
end
end TwW
namespace TwW
open Go Tw Go.RowKit Go.Proofs.Tryz
section
variable {σ σ' τ:Hp}{R:Rr}
def Hi (x:ByteArray)(xs:List ByteArray):Bool:=xs.any fun y=>decide (x=y)
theorem YS {x:ByteArray}{xs:List ByteArray}:Hi x xs=true↔x∈xs:=by simp[Hi]
theorem Oj {p:Option Addr}{n c:Nat}{x:ByteArray}{xs:List ByteArray}(hr:G6 1 σ p n (xs.map .string))(h:R (.returned (.bool (Hi x xs))) σ):Spec prog 214 #[.slice p n c,.string x] σ R:=by
 have hn:xs.length=n:=by have:=hr.1;simpa using this
 have H9:n≤4611686018427387904:=hr.2.1;have key:∀i:Int,(0≤i↔x∈xs)→BB R (CI .i64 fun x7 y=>R (.returned (.bool (decide (0≤x7)))) y) (.returned (.I i)) σ:=fun i hi=>⟨i,rfl,by
  dsimp only;rw[show decide (0≤i)=Hi x xs by rw[Bool.eq_iff_iff,YS,AiW];exact hi];exact h⟩
 refine HQ.start (Ct.start ?_)
 suffices H:∀d k:Nat,n-k=d→k≤n→x ∉ xs.take k→Ct.Q2 (BB R (CI .i64 fun x7 y=>R (.returned (.bool (decide (0≤x7)))) y)) p n c x n k σ from H n 0 rfl (AiR _) (by simp)
 intro d
 induction d with
 | zero=>
  intro k hd hk Cg;refine Ct.FO ⟨fun Aq=>by omega,fun _=>key (-1) ?_⟩;rw[AiQ (by omega)]at Cg;exact⟨fun h=>absurd h (by decide),fun h=>absurd h Cg⟩
 | succ d ih=>
  intro k hd hk Cg;have Ei:k<n:=by omega
  obtain⟨y,hy⟩:∃y,xs[k]?=some y:=⟨_,AiN (by omega)⟩;obtain⟨b,o,rfl,hl⟩:=G6.at1 hr (k:=k) (v:=.string y) (by rw[Ait,hy];rfl);refine Ct.FO ⟨fun _=>⟨b,o,rfl,by omega,y,by simpa using hl,fun he=>key k ⟨fun _=>?_,fun _=>by omega⟩,fun Ah=>⟨AJ Ei H9,ih (k+1) (by omega) (by omega) ?_⟩⟩,fun Zg=>by omega⟩
  ·rw[mJ,AiW]at he;rw[he];exact AiM hy
  ·rw[mJ,Aik]at Ah;rw[ZL hy]
   rintro(h1|h1)
   ·exact Cg h1
   ·exact Ah h1
theorem Uk {f:Nat}{cap:Array Value}{g:Lb→Bool}{p:Option Addr}{n c:Nat}{ls:List Lb}(Ut:Enters prog f)(hr:Dy σ p n ls)(hn:n≤1000000)
  (hf:∀(σ':Hp) (x:Lb) (R':Rr),Ext σ σ'→R' (.returned (.bool (g x))) σ'→Spec prog f (#[]++#[.agg #[.string x.1,.string x.2]]++cap) σ' R')
  (h:∀p' n' c' σ',Ix 2 BL (σ.new σ') p' n' c' (ls.filter g)→Ext σ σ'→R (.returned (.slice p' n' c')) σ'):Spec prog 212 #[.slice p n c,.func (.func f) #[] cap] σ R:=by
 have sB:ls.length=n:=hr.1;refine EL.start ?_
 suffices H:∀d k:Nat,∀p5 n5 c5 σ5,n-k=d→k≤n→Ix 2 BL (σ.new σ5) p5 n5 c5 ((ls.take k).filter g)→Ext σ σ5→EL.B4 R (.func (.func f) #[] cap) p5 n5 c5 p n c n k σ5 from H n 0 none 0 0 σ rfl (AiR _) Ix.nil (.refl _)
 intro d
 induction d with
 | zero=>
  intro k p5 n5 c5 σ5 hd hk ho hx;refine EL.Ap ⟨fun Aq=>by omega,fun _=>h p5 n5 c5 σ5 ?_ hx⟩;rw[AiQ (by omega)]at ho;exact ho
 | succ d ih=>
  intro k p5 n5 c5 σ5 hd hk ho hx;have Ei:k<n:=by omega
  obtain⟨x,dJ⟩:=hr.ex Ei;obtain⟨b,o,rfl,hl⟩:=Dy.at hr dJ;have hn5:n5≤n:=by
   have h1:=ho.1;have h2:=Ais g (ls.take k);rw[AiU]at h2;omega
  have ht:(ls.take (k+1)).filter g=(ls.take k).filter g++if g x then[x] else[]:=by
   rw[AQ dJ,Ajd];by_cases hg:g x<;>simp[hg]
  refine EL.Ap ⟨fun _=>⟨b,o,rfl,by omega,x.1,x.2,by simpa using hl.mono hx,fun _=>⟨f,#[],cap,rfl,Ut,hf σ5 x _ hx ⟨_,rfl,fun hg Dl AXs=>?_,fun hg=>?_⟩⟩⟩,fun hh=>by omega⟩
  ·refine Ix.Hu BL.mono (vs:=[.string x.1,.string x.2]) (x:=x) hx ho rfl (BL.one σ _ _ rfl) rfl (by omega) (fun p' c' σ' Sj KU=>⟨_,_,_,rfl,EL.Mi ⟨AJ Ei hr.big,ih (k+1) _ _ _ _ (by omega) (by omega) ?_ KU⟩⟩) AXs;rw[ht,AiL hg];exact Sj
  ·refine EL.Mi ⟨AJ Ei hr.big,ih (k+1) _ _ _ _ (by omega) (by omega) ?_ hx⟩;rw[ht,AiK (by simp[hg]),AkC];exact ho
theorem AR3:Enters prog 215:=fun args w=>call215 args w
theorem Mn {p q:Option Addr}{n c m d:Nat}{ls:List Lb}{ns:List ByteArray}(hr:Dy σ p n ls)(hn:n≤1000000)(hs:G6 1 σ q m (ns.map .string))
  (h:∀p' n' c' σ',Ix 2 BL (σ.new σ') p' n' c' (ls.filter fun x=>!Hi x.1 ns)→Ext σ σ'→R (.returned (.slice p' n' c')) σ'):Spec prog 166 #[.slice p n c,.slice q m d] σ R:=by
 refine QX.start fun b3 hb3=>?_;have BU:Ext σ (σ.set b3 (.cells #[.slice q m d] 42 (0,0))):=.set hb3;refine Uk (f:=215) (g:=fun x=>!Hi x.1 ns) AR3 (hr.mono BL.mono BU) hn (fun σ' x R' hx RN=>?_) fun p' n' c' σ' ho hx=>⟨_,_,_,rfl,h p' n' c' σ' ?_ (BU.trans hx)⟩
 ·refine NC.start fun _=>⟨q,m,d,Aj (hx _ _ (Hp.AA _ _ _)) rfl,Oj (hs.mono (BU.trans hx)) ⟨_,rfl,RN⟩⟩
 ·exact ho.mono BL.mono (Ext.Eg BU)
end
end TwW
namespace TwW
open Go Tw Go.RowKit Go.Proofs.Tryz
section
variable {σ σ' τ:Hp}{R:Rr}
theorem YT {α:Type}{b:Nat}{T:TypeId}{f:α→Value}{x:α}{ρ:Hp}(h:ρ b=some (.cells #[f x] T (0,0))):G6 1 ρ (some ⟨b,0,none⟩) 1 ([x].map f):=⟨rfl,by omega,.inr ⟨b,0,rfl,⟨Aj h rfl,trivial⟩⟩⟩
end
end TwW
end
section
namespace TwW
open Go Tw
structure Mt where
 kind:Int
 name:ByteArray
 val:ByteArray
structure Nd where
 kind:Int
 op:Int
 text:ByteArray
 mt:List Mt
 width:Int
 back:Int
 BW:Int
 names:List ByteArray
 bool:Bool
 parts:Int
structure Sr where
 ls:List Lb
 ps:List (Int×Int)
structure El where
 ls:List Lb
 v:Int
structure Rg where
 ls:List Lb
 vs:List Int
structure Vv where
 kind:Int
 v:Int
 vec:List El
 RV:List Rg
structure Fl where
 num:ByteArray→Int
 abs:Int→Int
 floor:Int→Int
 whole:Int→Int
 yj:Int→Int
 over:Int→List Int→Int→Option Int
 fold:Int→List Int→Int
 Mo:Int→Int→Int→Int×Bool
 dK:List Mt→List Lb→Bool
 cmpL:List Lb→List Lb→Int
abbrev G4:Int:=9218868437227405314
def SA:ByteArray:=⟨#[95,95,110,97,109,101,95,95]⟩
def EO (ls:List Lb):ByteArray:=strOfNums (r8 ls)
section
variable {α:Type}
def KC:List (ByteArray×α)→ByteArray→α→List (ByteArray×α)
 | [],k,x=>[(k,x)]
 | (a,b)::l,k,x=>if a=k then(k,x)::l else(a,b)::KC l k x
def DM:List (ByteArray×α)→ByteArray→Option α
 | [],_=>none
 | (a,b)::l,k=>if a=k then some b else DM l k
end
def Bd (ls:List Lb):List Lb:=ls.filter fun x=>!Hi x.1 [SA]
def SB (ns:List ByteArray)(ls:List Lb):List Lb:=ls.filter fun x=>Hi x.1 ns
def Qb (ns:List ByteArray)(ls:List Lb):List Lb:=ls.filter fun x=>!Hi x.1 ns
section
variable (F:Fl)
def mK (x:El):List El→List El
 | []=>[x]
 | y::l=>if F.cmpL x.ls y.ls≤0 then x::y::l else y::mK x l
def pL (l:List El):List El:=l.foldr (mK F) []
def Co (l:List El):Option (List El):=if l.Pairwise (fun a b=>F.cmpL a.ls b.ls≠0) then some (pL F l) else none
def FT (ps:List (Int×Int))(F5 Js:Int):List (Int×Int):=ps.filter fun p=>decide (F5<p.1)&&decide (p.1≤Js)
def HV (n:Nd)(ss:List Sr)(at_:Int):List El:=ss.filterMap fun s=>match (FT s.ps (at_-n.back-300) (at_-n.back)).getLast? with
 | none=>none
 | some p=>if p.2=G4∨F.dK n.mt s.ls=false then none else some ⟨s.ls,p.2⟩
def Ol (n:Nd)(ss:List Sr)(at_:Int):List Rg:=ss.filterMap fun s=>
 let vs:=((FT s.ps (at_-n.back-n.width) (at_-n.back)).filter fun p=>decide (p.2≠G4)).map Prod.snd
 bif !vs.isEmpty&&F.dK n.mt s.ls then some ⟨s.ls,vs⟩ else none
def JB (n:Nd)(p:Vv):List El:=(p.vec.map fun x=>⟨Bd x.ls,if n.op=11 then F.abs x.v else F.floor x.v⟩)++p.RV.filterMap fun s=>(F.over n.op s.vs p.v).map fun v=>⟨Bd s.ls,v⟩
def Bs (n:Nd)(ls:List Lb):List Lb:=if n.BW=1 then SB n.names ls else if n.BW=2 then Bd (Qb n.names ls) else[]
def D6 (ls:List Lb)(v:Int):List Rg→List Rg
 | []=>[⟨ls,[v]⟩]
 | g::l=>if EO g.ls=EO ls then⟨g.ls,g.vs++[v]⟩::l else g::D6 ls v l
def Mp (n:Nd)(p:Vv):List El:=(p.vec.foldl (fun gs x=>D6 (Bs n x.ls) x.v gs) []).map fun g=>⟨g.ls,F.fold n.op g.vs⟩
def BN (op:Int):Bool:=decide (5≤op)&&decide (op≤10)
def JL (n:Nd)(vec:List El)(f:Int→Int×Bool):List El:=vec.filterMap fun x=>
 if BN n.op=false∨n.bool=true then some ⟨Bd x.ls,(f x.v).1⟩ else if(f x.v).2 then some x else none
def D0 (n:Nd)(ls:List Lb):List Lb:=if n.BW=3 then SB n.names ls else Bd (Qb n.names ls)
def Zi (n:Nd)(l:List El):List (ByteArray×El):=l.foldl (fun m x=>KC m (EO (D0 n x.ls)) x) []
def Hk (n:Nd)(l:List El)(k:List Lb):Option El:=DM (Zi n l) (EO k)
def Lm (n:Nd)(l:List El):Bool:=decide ((Zi n l).length=l.length)
def Io (n:Nd)(x y:List El):List El:=
 (x.filter fun e=>decide (n.op=12)||((Hk n y (D0 n e.ls)).isSome==decide (n.op=11)))++y.filter fun e=>(Hk n x (D0 n e.ls)).isNone&&decide (n.op=12)
def Hl (n:Nd)(x y:List El):Option (List El):=if Lm n x&&Lm n y then some (x.filterMap fun e=>match Hk n y (D0 n e.ls) with
 | none=>none
 | some o=>if BN n.op=false∨n.bool=true then some ⟨D0 n e.ls,(F.Mo n.op e.v o.v).1⟩ else if(F.Mo n.op e.v o.v).2 then some e else none) else none
def Zj (n:Nd)(x y:Vv):Option Vv:=
 if x.kind=1∧y.kind=1 then some ⟨1,(F.Mo n.op x.v y.v).1,[],[]⟩
 else((if x.kind=1 then some (JL n y.vec (F.Mo n.op x.v)) else if y.kind=1 then some (JL n x.vec fun v=>F.Mo n.op v y.v) else if 11≤n.op∧n.op≤13 then some (Io n x.vec y.vec) else Hl F n x.vec y.vec).bind (Co F)).map fun l=>⟨2,0,l,[]⟩
def iY (p:Vv):Option Vv:=if p.kind=1 then some ⟨1,F.yj p.v,[],[]⟩ else(Co F (p.vec.map fun x=>⟨Bd x.ls,F.yj x.v⟩)).map fun l=>⟨2,0,l,[]⟩
def Ez (ss:List Sr)(at_:Int)(n:Nd)(l:List Vv):Option Vv:=
 if n.kind=1 then some ⟨1,F.num n.text,[],[]⟩
 else if n.kind=2 then some ⟨2,0,HV F n ss at_,[]⟩
 else if n.kind=3 then some ⟨3,F.whole n.width,[],Ol F n ss at_⟩
 else match l with
  | [p]=>if n.kind=4 then(Co F (JB F n p)).map fun l=>⟨2,0,l,[]⟩ else if n.kind=5 then(Co F (Mp F n p)).map fun l=>⟨2,0,l,[]⟩ else if n.kind=7 then iY F p else none
  | [p,q]=>if n.kind=6 then Zj F n p q else none
  | _=>none
def Ip (ss:List Sr)(at_:Int):List Nd→List Vv→Option (List Vv)
 | [],st=>some st
 | n::t,st=>(Ez F ss at_ n (st.drop (st.length-n.parts.toNat))).bind fun v=>Ip ss at_ t (st.take (st.length-n.parts.toNat)++[v])
def Bl (t:List Nd)(ss:List Sr)(at_:Int):Option (List El):=(Ip F ss at_ t []).bind fun st=>st.head?.map fun v=>if v.kind=1 then[⟨[],v.v⟩] else v.vec
end
section
variable {F:Fl}
end
end TwW
end
section
namespace TwW
open Go Tw
structure Qc {α:Type}(c:α→α→Int):Prop where
 eq:∀x y,c x y=0↔x=y
 VJ:∀x y,c x y<0↔0<c y x
 trans:∀x y z,c x y<0→c y z<0→c x z<0
def Ln {α:Type}(c:α→α→Int):List α→List α→Int
 | [],[]=>0
 | [],_::_=>-1
 | _::_,[]=>1
 | x::l,y::m=>if c x y=0 then Ln c l m else c x y
def Mq {α β:Type}(c:α→α→Int)(d:β→β→Int)(x y:α×β):Int:=if c x.1 y.1=0 then d x.2 y.2 else c x.1 y.1
theorem Qc.Ln {α:Type}{c:α→α→Int}(h:Qc c):Qc (Ln c):=by
 refine⟨fun l=>?_,fun l=>?_,fun l=>?_⟩
 ·induction l with
  | nil=>intro m;cases m<;>simp[TwW.Ln]
  | cons x l ih=>
   intro m;cases m with
   | nil=>simp[TwW.Ln]
   | cons y m=>
    unfold TwW.Ln;by_cases hc:c x y=0
    ·rw[AiL hc,ih];simp[(h.eq x y).1 hc]
    ·rw[AiK hc];simp[hc,mt (h.eq x y).2 hc]
 ·induction l with
  | nil=>intro m;cases m<;>simp[TwW.Ln]
  | cons x l ih=>
   intro m;cases m with
   | nil=>simp[TwW.Ln]
   | cons y m=>
    unfold TwW.Ln;by_cases hc:c x y=0
    ·have YU:=(h.eq x y).1 hc;rw[AiL hc,AiL ((h.eq y x).2 YU.symm),ih]
    ·have hc':c y x≠0:=fun e=>hc ((h.eq x y).2 ((h.eq y x).1 e).symm);rw[AiK hc,AiK hc',h.VJ]
 ·induction l with
  | nil=>
   intro m k h1 h2;cases m with
   | nil=>simp[TwW.Ln]at h1
   | cons y m=>
    cases k with
    | nil=>simp[TwW.Ln]at h2
    | cons z k=>simp[TwW.Ln]
  | cons x l ih=>
   intro m k h1 h2;cases m with
   | nil=>simp[TwW.Ln]at h1
   | cons y m=>
    cases k with
    | nil=>simp[TwW.Ln]at h2
    | cons z k=>
     unfold TwW.Ln at h1 h2 ⊢;by_cases YU:c x y=0
     ·rw[AiL YU]at h1;have e:=(h.eq x y).1 YU;subst e;by_cases mL:c x z=0
      ·rw[AiL mL]at h2 ⊢;exact ih m k h1 h2
      ·rw[AiK mL]at h2 ⊢;exact h2
     ·rw[AiK YU]at h1;by_cases mL:c y z=0
      ·rw[AiL mL]at h2;have e:=(h.eq y z).1 mL;subst e;rw[AiK YU];exact h1
      ·rw[AiK mL]at h2;have h3:=h.trans x y z h1 h2;rw[AiK (by omega)];exact h3
theorem Qc.Mq {α β:Type}{c:α→α→Int}{d:β→β→Int}(h:Qc c)(g:Qc d):Qc (Mq c d):=by
 refine⟨fun x y=>?_,fun x y=>?_,fun x y z h1 h2=>?_⟩
 ·obtain⟨x1,x2⟩:=x;obtain⟨y1,y2⟩:=y;unfold TwW.Mq;by_cases hc:c x1 y1=0
  ·simp only[hc,AiL];rw[g.eq];simp[(h.eq x1 y1).1 hc]
  ·simp only[hc,if_false];simp[hc,mt (h.eq x1 y1).2 hc]
 ·unfold TwW.Mq;by_cases hc:c x.1 y.1=0
  ·rw[AiL hc,AiL ((h.eq _ _).2 ((h.eq _ _).1 hc).symm),g.VJ]
  ·rw[AiK hc,AiK (fun e=>hc ((h.eq _ _).2 ((h.eq _ _).1 e).symm)),h.VJ]
 ·unfold TwW.Mq at h1 h2 ⊢;by_cases YU:c x.1 y.1=0
  ·rw[AiL YU]at h1;rw[(h.eq _ _).1 YU];by_cases mL:c y.1 z.1=0
   ·rw[AiL mL]at h2 ⊢;exact g.trans _ _ _ h1 h2
   ·rw[AiK mL]at h2 ⊢;exact h2
  ·rw[AiK YU]at h1;by_cases mL:c y.1 z.1=0
   ·rw[AiL mL]at h2;rw[←(h.eq _ _).1 mL,AiK YU];exact h1
   ·rw[AiK mL]at h2;have h3:=h.trans _ _ _ h1 h2;rw[AiK (by omega)];exact h3
def mM (a b:UInt8):Int:=if a<b then -1 else if b<a then 1 else 0
theorem dL {a b:UInt8}:mM a b<0↔a.toNat<b.toNat:=by
 unfold mM;by_cases h:a<b
 ·have:=UInt8.lt_iff_toNat_lt.1 h;simp[h,this]
 ·have h':=mt UInt8.lt_iff_toNat_lt.2 h;rw[AiK h];by_cases g:b<a<;>simp[g]<;>omega
theorem pM {a b:UInt8}:0<mM a b↔b.toNat<a.toNat:=by
 unfold mM;by_cases h:a<b
 ·have:=UInt8.lt_iff_toNat_lt.1 h;simp[h];omega
 ·rw[AiK h];by_cases g:b<a
  ·have:=UInt8.lt_iff_toNat_lt.1 g;simp[g,this]
  ·have h':=mt UInt8.lt_iff_toNat_lt.2 g;simp[g];omega
theorem ACn:Qc mM:=by
 refine⟨fun x y=>?_,fun x y=>?_,fun x y z h1 h2=>?_⟩
 ·have h1:=@dL x y;have h2:=@pM x y;rw[←UInt8.toNat_inj];omega
 ·rw[dL,pM]
 ·rw[dL]at *;omega
theorem yk:∀a b:List UInt8,Ln mM a b=Lib.compareBytes a b
 | [],[]=>rfl
 | [],_::_=>rfl
 | _::_,[]=>rfl
 | x::l,y::m=>by
  unfold Ln Lib.compareBytes;rw[←yk l m];unfold mM;by_cases h1:x<y
  ·simp[h1]
  ·by_cases h2:y<x<;>simp[h1,h2]
def F0 (a b:ByteArray):Int:=Lib.compareBytes a.data.toList b.data.toList
theorem pN:Qc F0:=by
 have h:=ACn.Ln;refine⟨fun x y=>?_,fun x y=>?_,fun x y z h1 h2=>?_⟩
 ·unfold F0;rw[←yk,h.eq];exact⟨fun e=>by cases x;cases y;simp at e;rw[e],fun e=>by rw[e]⟩
 ·unfold F0;rw[←yk,←yk];exact h.VJ _ _
 ·unfold F0 at *;rw[←yk]at *;exact h.trans _ _ _ h1 h2
def BX:List Lb→List Lb→Int:=Ln (Mq F0 F0)
theorem Ao:Qc BX:=(pN.Mq pN).Ln
section
variable {F:Fl}(hF:F.cmpL=BX)
theorem Tg (x:El):∀l:List El,(mK F x l).Perm (x::l)
 | []=>List.Perm.refl _
 | y::l=>by
  unfold mK;split
  ·exact List.Perm.refl _
  ·exact((Tg x l).cons y).trans (List.Perm.swap ..)
theorem Mr:∀l:List El,(pL F l).Perm l
 | []=>List.Perm.refl _
 | x::l=>(Tg x _).trans ((Mr l).cons x)
include hF
theorem le_trans' {x y z:El}(h1:F.cmpL x.ls y.ls≤0)(h2:F.cmpL y.ls z.ls≤0):F.cmpL x.ls z.ls≤0:=by
 rw[hF]at *;rcases Int.lt_or_eq_of_le h1 with g1|g1
 ·rcases Int.lt_or_eq_of_le h2 with g2|g2
  ·exact Int.le_of_lt (Ao.trans _ _ _ g1 g2)
  ·rw[←(Ao.eq _ _).1 g2];exact h1
 ·rw[(Ao.eq _ _).1 g1];exact h2
theorem Ul (x:El):∀l:List El,l.Pairwise (fun a b=>F.cmpL a.ls b.ls≤0)→(mK F x l).Pairwise fun a b=>F.cmpL a.ls b.ls≤0
 | [],_=>by simp[mK]
 | y::l,h=>by
  rw[List.pairwise_cons]at h;unfold mK;split
  ·rename_i YU;refine List.pairwise_cons.2 ⟨fun z hz=>?_,List.pairwise_cons.2 h⟩;rcases AiT.1 hz with rfl|hz
   ·exact YU
   ·exact le_trans' hF YU (h.1 z hz)
  ·rename_i YU;refine List.pairwise_cons.2 ⟨fun z hz=>?_,Ul x l h.2⟩;rcases AiT.1 ((Tg x l).mem_iff.1 hz) with rfl|hz
   ·have h1:0<F.cmpL z.ls y.ls:=by omega
    rw[hF]at *;exact Int.le_of_lt ((Ao.VJ _ _).2 h1)
   ·exact h.1 z hz
theorem Ms:∀l:List El,(pL F l).Pairwise fun a b=>F.cmpL a.ls b.ls≤0
 | []=>List.Pairwise.nil
 | x::l=>Ul hF x _ (Ms l)
theorem Pa {l m:List El}(hp:m.Perm l)(hs:m.Pairwise fun a b=>F.cmpL a.ls b.ls<0):Co F l=some m:=by
 have Ah:m.Pairwise fun a b=>F.cmpL a.ls b.ls≠0:=hs.imp fun h=>by omega
 have AXu:l.Pairwise fun a b=>F.cmpL a.ls b.ls≠0:=(hp.pairwise_iff fun {a b} h e=>by
  rw[hF]at *;exact h ((Ao.eq _ _).2 ((Ao.eq _ _).1 e).symm)).1 Ah
 unfold Co;rw[AiL AXu];refine Aie some (List.Perm.eq_of_pairwise (le:=fun a b:El=>F.cmpL a.ls b.ls≤0) (fun a b ha hb h1 h2=>?_) (Ms hF l) (hs.imp fun h=>Int.le_of_lt h) ((Mr l).trans hp.symm));have ym:F.cmpL a.ls b.ls=0:=by
  refine Int.le_antisymm h1 (Int.not_lt.1 fun h3=>?_);rw[hF]at *;have:=(Ao.VJ _ _).1 h3;omega
 have ham:=((Mr (F:=F) l).trans hp.symm).mem_iff.1 ha;obtain⟨i,hi,rfl⟩:=List.mem_iff_getElem.1 ham;obtain⟨j,hj,rfl⟩:=List.mem_iff_getElem.1 hb;have tz:=Ai2.1 Ah;rcases AkK i j with h|h|h
 ·exact absurd ym (tz i j hi hj h)
 ·subst h;rfl
 ·have h4:=tz j i hj hi h;rw[hF]at ym h4;exact absurd ((Ao.eq _ _).2 ((Ao.eq _ _).1 ym).symm) h4
theorem sC {l m:List El}(hp:m.Perm l)(h:¬m.Pairwise fun a b=>F.cmpL a.ls b.ls≠0):Co F l=none:=by
 unfold Co;rw[AiK fun hl=>h ((hp.pairwise_iff fun {a b} h e=>by
  rw[hF]at *;exact h ((Ao.eq _ _).2 ((Ao.eq _ _).1 e).symm)).2 hl)]
end
end TwW
end
section
namespace TwW
open Go Tw
def GX (c:UInt8)(s:ByteArray):List ByteArray:=Lib.splitB ⟨#[c]⟩ 0 (Lib.countB s ⟨#[c]⟩) s
def Zk:List ByteArray→ByteArray→Bool
 | [],_=>true
 | t::r,s=>if Lib.index s.data.toList t.data.toList<0 then false else Zk r (s.extract ((Lib.index s.data.toList t.data.toList).toNat+t.size) s.size)
def uA (l:List ByteArray)(s:ByteArray):Bool:=
 let a:=l.head?.getD ⟨#[]⟩
 let z:=l.getLast?.getD ⟨#[]⟩
 if l.length=1 then decide (s=a) else
  if s.size<a.size+z.size∨s.extract 0 a.size≠a∨s.extract (s.size-z.size) s.size≠z then false else Zk l.tail.dropLast (s.extract a.size (s.size-z.size))
def Lo (p s:ByteArray):Bool:=(GX 124 p).any fun x=>uA (GX 42 x) s
def Om (m:Mt)(ls:List Lb):Bool:=
 let v:=Dg ls m.name
 if m.kind=1 then decide (v=m.val) else if m.kind=2 then decide (v≠m.val) else if m.kind=3 then Lo m.val v else if m.kind=4 then !Lo m.val v else false
def GY (ms:List Mt)(ls:List Lb):Bool:=ms.all fun m=>Om m ls
def D7 (u:UInt8):Bool:=decide (48≤u.toNat∧u.toNat≤57)
end TwW
end
section
namespace TwW
open Go Tw
def Lp (v least:Int):Bool:=decide (least≤v)&&decide (v<2147483648)
section
variable (yn:ByteArray→Bool)(Ab7:ByteArray→Bool)
def On (n:Nd):Bool:=n.names.all yn&&(decide (n.names.length=0)||decide (n.BW≠0))
def HW (ms:List Mt):Int:=if 8<ms.length then 41 else if ms.all (fun m=>decide (1≤m.kind∧m.kind≤4)&&yn m.name&&decide (m.val.size≤256)) then 0 else 40
end
end TwW
end
section
namespace TwW
open Go Tw Go.RowKit Go.Proofs.Tryz
abbrev Pt:=Int×Int
def J5 (_:Hp)(vs:List Value)(x:Pt):Prop:=vs=[.I x.1,.U x.2]
theorem J5.mono:Ht J5:=fun _ _ _ _ _ h=>h
def Dh (σ:Hp)(vs:List Value)(s:Sr):Prop:=∃p n c q m d,vs=[.slice p n c,.slice q m d]∧Dy σ p n s.ls∧AT 2 J5 σ q m s.ps∧m≤d
theorem Dh.mono:Ht Dh:=fun _ _ _ _ hx ⟨p,n,c,q,m,d,hv,h1,h2,h3⟩=>⟨p,n,c,q,m,d,hv,h1.mono BL.mono hx,h2.mono J5.mono hx,h3⟩
def Jt (_:Hp)(vs:List Value)(m:Mt):Prop:=vs=[.I m.kind,.string m.name,.string m.val]
theorem Jt.mono:Ht Jt:=fun _ _ _ _ _ h=>h
def GF (σ:Hp)(vs:List Value)(n:Nd):Prop:=∃p k c q m d,vs=[.I n.kind,.I n.op,.string n.text,.slice p k c,.I n.width,.I n.back,.I n.BW,.slice q m d,.bool n.bool,.I n.parts]∧AT 3 Jt σ p k n.mt∧G6 1 σ q m (n.names.map .string)
theorem GF.mono:Ht GF:=fun _ _ _ _ hx ⟨p,k,c,q,m,d,hv,h1,h2⟩=>⟨p,k,c,q,m,d,hv,h1.mono Jt.mono hx,h2.mono hx⟩
def Aa (σ:Hp)(vs:List Value)(x:El):Prop:=∃p n c,vs=[.slice p n c,.U x.v]∧Dy σ p n x.ls
theorem Aa.mono:Ht Aa:=fun _ _ _ _ hx ⟨p,n,c,hv,h⟩=>⟨p,n,c,hv,h.mono BL.mono hx⟩
def KV (σ:Hp)(vs:List Value)(x:Rg):Prop:=∃p n c q m d,vs=[.slice p n c,.slice q m d]∧Dy σ p n x.ls∧EP .u64 σ q m x.vs∧m≤d
theorem KV.mono:Ht KV:=fun _ _ _ _ hx ⟨p,n,c,q,m,d,hv,h1,h2,h3⟩=>⟨p,n,c,q,m,d,hv,h1.mono BL.mono hx,h2.mono hx,h3⟩
def Q6 (σ:Hp)(vs:List Value)(x:Vv):Prop:=∃p n c q m d,vs=[.I x.kind,.U x.v,.slice p n c,.slice q m d]∧AT 2 Aa σ p n x.vec∧AT 2 KV σ q m x.RV
theorem Q6.mono:Ht Q6:=fun _ _ _ _ hx ⟨p,n,c,q,m,d,hv,h1,h2⟩=>⟨p,n,c,q,m,d,hv,h1.mono Aa.mono hx,h2.mono KV.mono hx⟩
theorem AT.sub {α:Type}{s:Nat}{E:Hp→List Value→α→Prop}{σ:Hp}{p:Option Addr}{n c i m:Nat}{xs:List α}(h:AT s E σ p n xs)(hs:0<s)(him:i+m≤n)(hc:n≤c):AT s E σ (MK p i c s) m ((xs.drop i).take m):=by
 obtain⟨h1,cs,⟨h2,h3,h4⟩,h5,h6⟩:=h;refine⟨by rw[AiU,Aic];omega,(cs.drop (i*s)).take (m*s),⟨?_,by omega,?_⟩,?_,fun j x hj=>?_⟩
 ·have:i*s+m*s≤n*s:=by rw[←AjM];exact Aiw _ him
  rw[AiU,Aic];omega
 ·rcases Nat.eq_zero_or_pos m with hm|hm
  ·exact .inl hm
  ·rcases h4 with h4|⟨b,o,rfl,h4⟩
   ·omega
   ·refine .inr ⟨b,o+i*s,?_,?_⟩
    ·unfold MK;rw[AiK (by omega)];simp[DH]
    ·exact h4.part
 ·have:i*s+m*s≤n*s:=by rw[←AjM];exact Aiw _ him
  rw[AiU,Aic,AiU,Aic];have:min m (xs.length-i)=m:=by omega
  rw[this];omega
 ·rw[Ail]at hj;split at hj
  ·rename_i hjm;rw[Ain]at hj;have:=h6 (i+j) x hj;have e:((((cs.drop (i*s)).take (m*s)).drop (j*s)).take s)=(cs.drop ((i+j)*s)).take s:=by
    have hle:j*s+s≤m*s:=by rw[←Ajw];exact Aiw _ hjm
    rw[Aj5,List.take_take,AjQ,AjM]
    congr 1
    omega
   rw[e];exact this
  ·cases hj
section
variable {σ σ' τ:Hp}{R:Rr}
theorem sD {a b:ByteArray}:YN prog 144 #[.string a,.string b] σ (.I (F0 a b)):=fun w _=>by
 rw[run_callFunc_extern Go.Proofs.Tryz.func144 (by kernel_rfl) (by kernel_rfl) (by kernel_rfl) (e:=Extern.BytealgCompare.compare) (by kernel_rfl),Lib.run_compareString];rfl
theorem Um [G9]{a b:ByteArray}(h:R (.returned (.I (F0 a b))) σ):Spec prog 62 #[.string a,.string b] σ R:=
 NH.start (Dn.start (.y sD ⟨_,rfl,_,rfl,h⟩))
theorem mN [G9]{x y:Lb}(h:∀σ',Ext σ σ'→R (.returned (.I (Mq F0 F0 x y))) σ'):Spec prog 60 #[.agg #[.string x.1,.string x.2],.agg #[.string y.1,.string y.2]] σ R:=by
 refine NG.start fun _ _=>Um ⟨_,rfl,Um ⟨_,rfl,fun b hb=>?_⟩⟩;have hh:=h _ (.set hb (o:=.cells #[.I (F0 x.1 y.1),.I (F0 x.2 y.2)] 3 (0,0)));unfold Mq at hh;generalize F0 x.1 y.1=u at *;generalize F0 x.2 y.2=v at *;refine Jn.start (Jn.Ap ⟨fun _=>⟨b,0,rfl,by omega,u,by simp[Hp.ld,Hp.AA],fun h0=>⟨_,rfl,?_⟩,fun h0=>⟨by unfold AG;omega,Jn.Ap ⟨fun _=>⟨b,0,rfl,by omega,v,by simp[Hp.ld,Hp.AA],fun h1=>⟨_,rfl,?_⟩,fun h1=>⟨by unfold AG;omega,Jn.Ap ⟨fun h2=>by omega,fun _=>⟨_,rfl,?_⟩⟩⟩⟩,fun h2=>by omega⟩⟩⟩,fun h2=>by omega⟩)
 ·rw[AiK h0]at hh;exact hh
 ·rw[AiL (Aig.1 h0)]at hh;exact hh
 ·have h1':v=0:=Aig.1 h1;rw[AiL (Aig.1 h0),h1']at hh;rw[←h1']at hh ⊢;exact hh
theorem AXv:Enters prog 60:=fun args w=>call60 args w
theorem A0 {α:Type}{xs:List α}{k:Nat}{y:α}(hy:xs[k]?=some y):xs.drop k=y::xs.drop (k+1):=by
 obtain⟨h,rfl⟩:=List.getElem?_eq_some_iff.1 hy;exact AkU h
theorem Pb [G9]{p q:Option Addr}{n c m d:Nat}{ls ms:List Lb}(hr:Dy σ p n ls)(hs:Dy σ q m ms)(h:∀σ',Ext σ σ'→R (.returned (.I (BX ls ms))) σ'):Spec prog 42 #[.slice p n c,.slice q m d] σ R:=by
 have hl:ls.length=n:=hr.1;have hm:ms.length=m:=hs.1;refine QT.start (BV.start ?_)
 suffices H:∀g k:Nat,∀σ',n-k=g→k≤n→k≤m→Ext σ σ'→BX ls ms=BX (ls.drop k) (ms.drop k)→BV.Q2 (BB R (CI .i64 fun x7 y=>R (.returned (.I x7)) y)) p n c q m d (.func (.func 60) #[] #[]) p n c n k σ' from H n 0 σ rfl (AiR _) (AiR _) (.refl _) rfl
 intro g
 induction g with
 | zero=>
  intro k σ' hg hk hkm hx he;have QC:k=n:=by omega
  rw[Aib (by omega)]at he;refine BV.FO ⟨fun Aq=>by omega,fun _=>⟨fun uB=>⟨_,rfl,?_⟩,fun uB=>⟨_,rfl,?_⟩⟩⟩
  ·obtain⟨y,hy⟩:=hs.ex (k:=k) (by omega);rw[A0 hy]at he;have:=h σ' hx;rw[he]at this;exact this
  ·rw[Aib (by omega)]at he;have:=h σ' hx;rw[he]at this;exact this
 | succ g ih=>
  intro k σ' hg hk hkm hx he;obtain⟨x,dJ⟩:=hr.ex (k:=k) (by omega);obtain⟨b,o,rfl,NQ⟩:=Dy.at hr dJ;rw[A0 dJ]at he;refine BV.FO ⟨fun _=>⟨b,o,rfl,by omega,x.1,x.2,by simpa using NQ.mono hx,fun _=>⟨fun te=>⟨_,rfl,?_⟩,fun te=>?_⟩⟩,fun hh=>by omega⟩
  ·rw[show ms.drop k=[] from Aib (by omega)]at he;have:=h σ' hx;rw[he]at this;exact this
  ·obtain⟨y,mO⟩:=hs.ex (k:=k) (by omega);obtain⟨b',o',rfl,SC⟩:=Dy.at hs mO;rw[A0 mO]at he;have Eu:BX ls ms=if Mq F0 F0 x y=0 then BX (ls.drop (k+1)) (ms.drop (k+1)) else Mq F0 F0 x y:=he
   refine⟨b',o',rfl,by omega,y.1,y.2,by simpa using SC.mono hx,fun _=>⟨60,#[],#[],rfl,AXv,mN fun σ2 An=>⟨_,rfl,fun Ah=>⟨_,rfl,?_⟩,fun heq=>⟨AJ (by omega:k<n) hr.big,ih (k+1) σ2 (by omega) (by omega) (by omega) (hx.trans An) ?_⟩⟩⟩⟩
   ·have:=h σ2 (hx.trans An);rw[Eu,AiK Ah]at this;exact this
   ·rw[Eu,AiL (Aig.1 heq)]
def Kx:List Pt→Bool
 | []=>false
 | [_]=>true
 | a::b::l=>decide (a.1<b.1)&&Kx (b::l)
theorem Lq:∀ps:List Pt,Kx ps=true↔0<ps.length∧∀j a b,ps[j]?=some a→ps[j+1]?=some b→a.1<b.1
 | []=>by simp[Kx]
 | [a]=>by simp[Kx]
 | a::b::l=>by
  simp only[Kx,AiS,AiW];rw[Lq (b::l)]
  constructor
  ·rintro⟨h1,h2,h3⟩
   refine⟨by simp,fun j x y hx hy=>?_⟩;cases j with
   | zero=>simp at hx hy;subst hx;subst hy;exact h1
   | succ j=>exact h3 j x y (by simpa using hx) (by simpa using hy)
  ·rintro⟨h1,h2⟩
   exact⟨h2 0 a b rfl rfl,by simp,fun j x y hx hy=>h2 (j+1) x y (by simpa using hx) (by simpa using hy)⟩
theorem J5.at {p:Option Addr}{n i:Nat}{ps:List Pt}{x:Pt}(hr:AT 2 J5 σ p n ps)(hx:ps[i]?=some x):∃b o,p=some ⟨b,o,none⟩∧Ae σ b (o+i*2) [.I x.1,.U x.2]:=by
 obtain⟨b,o,vs,hp,rfl,hl⟩:=AT.idx hr hx;exact⟨b,o,hp,hl⟩
theorem iZ {p:Option Addr}{n c:Nat}{ps:List Pt}(hr:AT 2 J5 σ p n ps)(h:R (.returned (.bool (Kx ps))) σ):Spec prog 75 #[.slice p n c] σ R:=by
 have hl:ps.length=n:=hr.1;refine GN.start ?_;have fin:(∀j a b,ps[j]?=some a→ps[j+1]?=some b→a.1<b.1)→R (.returned (.bool (decide (0<(n:Int))))) σ:=fun hh=>by
  have e:Kx ps=decide (0<(n:Int)):=by
   rw[Bool.eq_iff_iff,Lq,AiW];exact⟨fun h=>by omega,fun h=>⟨by omega,hh⟩⟩
  rw[e]at h;exact h
 suffices H:∀g k:Nat,n-k=g→1≤k→(∀j a b,j+1<k→ps[j]?=some a→ps[j+1]?=some b→a.1<b.1)→GN.Fm R p n c k σ from H (n-1) 1 rfl (AiV _) (fun j a b hj=>by omega)
 intro g
 induction g with
 | zero=>
  intro k hg hk Cg;refine GN.As ⟨fun Aq=>by omega,fun _=>fin fun j a b ha hb=>Cg j a b ?_ ha hb⟩;have:=(List.getElem?_eq_some_iff.1 hb).1;omega
 | succ g ih=>
  intro k hg hk Cg;obtain⟨x,hx⟩:=hr.ex (k:=k) (by omega);obtain⟨y,hy⟩:=hr.ex (k:=k-1) (by omega);obtain⟨b,o,rfl,NQ⟩:=J5.at hr hx;obtain⟨_,_,he,SC⟩:=J5.at hr hy;cases he;have e1:Int.toNat ((k:Int)-1)=k-1:=by omega
  refine GN.As ⟨fun _=>⟨b,o,rfl,by omega,x.1,by simpa using NQ.1,by unfold AG;have:=hr.big;omega,by omega,y.1,by rw[e1];simpa using SC.1,fun hle=>?_,fun hgt=>⟨AJ (by omega:k<n) hr.big,ih (k+1) (by omega) (by omega) fun j a b' hj ha hb=>?_⟩⟩,fun hh=>by omega⟩
  ·have e:Kx ps=false:=by
    rw[AjU,ne_eq,Lq];exact fun hh=>by
     have:=hh.2 (k-1) y x hy (by rw[show k-1+1=k by omega];exact hx);omega
   rw[e]at h;exact h
  ·by_cases eV:j+1=k
   ·rw[eV,hx]at hb;cases hb;rw[show j=k-1 by omega,hy]at ha;cases ha;omega
   ·exact Cg j a b' (by omega) ha hb
def D1:Option (List Lb)→List Sr→Bool
 | _,[]=>true
 | q,s::l=>decide (GD s.ls=0)&&Kx s.ps&&(match q with | none=>true | some q=>decide (BX q s.ls<0))&&D1 (some s.ls) l
theorem Lr (q:Option (List Lb))(s:Sr)(l:List Sr):D1 q (s::l)=(decide (GD s.ls=0)&&Kx s.ps&&(match q with | none=>true | some q=>decide (BX q s.ls<0))&&D1 (some s.ls) l):=by
 cases q<;>rfl
theorem Dh.at {p:Option Addr}{n i:Nat}{ss:List Sr}{s:Sr}(hr:AT 2 Dh σ p n ss)(hx:ss[i]?=some s):∃b o p1 n1 c1 q m d,p=some ⟨b,o,none⟩∧Ae σ b (o+i*2) [.slice p1 n1 c1,.slice q m d]∧Dy σ p1 n1 s.ls∧AT 2 J5 σ q m s.ps∧m≤d:=by
 obtain⟨b,o,vs,hp,⟨p1,n1,c1,q,m,d,rfl,h1,h2,h3⟩,hl⟩:=AT.idx hr hx;exact⟨b,o,p1,n1,c1,q,m,d,hp,hl,h1,h2,h3⟩
theorem ia {p:Option Addr}{n c:Nat}{ss:List Sr}(hr:AT 2 Dh σ p n ss)(h:∀σ',Ext σ σ'→R (.returned (.I (if D1 none ss then 0 else 100))) σ'):Spec prog 46 #[.slice p n c] σ R:=by
 have hl:ss.length=n:=hr.1;refine Fy.start ?_
 suffices H:∀g k:Nat,∀σ',n-k=g→k≤n→Ext σ σ'→D1 none ss=D1 (if k=0 then none else(ss[k-1]?).map (·.ls)) (ss.drop k)→Fy.Q2 R p n c p n c n k σ' from H n 0 σ rfl (AiR _) (.refl _) rfl
 intro g
 induction g with
 | zero=>
  intro k σ' hg hk hx he;rw[Aib (by omega)]at he;refine Fy.FO ⟨fun Aq=>by omega,fun _=>?_⟩;have:=h σ' hx;rw[he]at this;exact this
 | succ g ih=>
  intro k σ' hg hk hx he;have Ei:k<n:=by omega
  obtain⟨s,hs⟩:=hr.ex Ei;obtain⟨b,o,p1,n1,c1,q,m,d,rfl,GZ,h1,h2,h3⟩:=Dh.at hr hs;rw[A0 hs,Lr]at he;have bad:(decide (GD s.ls=0)&&Kx s.ps&&(match (if k=0 then none else(ss[k-1]?).map (·.ls)) with | none=>true | some q=>decide (BX q s.ls<0)))=false→∀σ2,Ext σ σ2→R (.returned (.I 100)) σ2:=fun hf σ2 An=>by
   have:=h σ2 An;rw[he,hf]at this;exact this
  refine Fy.FO ⟨fun _=>⟨b,o,rfl,by omega,p1,n1,c1,q,m,d,by simpa using GZ.mono hx,fun _=>VI (h1.mono BL.mono hx) ⟨_,rfl,fun Ah=>bad (by simp[Ah]) σ' hx,fun h0=>iZ (h2.mono J5.mono hx) ⟨_,rfl,fun hf=>bad (by simp[hf]) σ' hx,fun ht=>?_⟩⟩⟩,fun hh=>by omega⟩;have Ju:=Aig.1 h0;have ht':Kx s.ps=true:=ht;have next:∀σ2,Ext σ σ2→(match (if k=0 then none else(ss[k-1]?).map (·.ls)) with | none=>true | some q=>decide (BX q s.ls<0))=true→AG ((k:Int)+1)∧Fy.Q2 R (aD b o) n c (aD b o) n c n ((k:Int)+1) σ2:=fun σ2 An hm=>by
   refine⟨AJ Ei hr.big,ih (k+1) σ2 (by omega) (by omega) An ?_⟩;rw[he,hm,Ju,ht'];simp[hs]
  refine⟨fun WE=>⟨by unfold AG;have:=hr.big;omega,b,o,rfl,by omega,?_⟩,fun WE=>next σ' hx (by rw[AiL (by omega)])⟩;obtain⟨s',Va⟩:=hr.ex (k:=k-1) (by omega);obtain⟨_,_,p1',n1',c1',_,_,_,QZ,AJh,h1',_,_⟩:=Dh.at hr Va;cases QZ;have e1:Int.toNat ((k:Int)-1)=k-1:=by omega
  refine⟨p1',n1',c1',by rw[e1];simpa using(AJh.mono hx).1,Pb (h1'.mono BL.mono hx) (h1.mono BL.mono hx) fun σ2 An=>⟨_,rfl,fun Zg=>bad ?_ σ2 (hx.trans An),fun Aq=>next σ2 (hx.trans An) ?_⟩⟩
  ·rw[AiK (by omega),Va];simp;omega
  ·rw[AiK (by omega),Va];simp;omega
end
def GG (x:Nat):Bool:=!(FloatKind.f64.format.order x x==some .eq)
def toF (x:Nat):Nat:=if GG x then 9221120237041090560 else x
theorem YV (d:Ieee.Datum):d.order d=if d.isNaN then none else some .eq:=by
 cases d with
 | nan=>rfl
 | infinity s=>cases s<;>rfl
 | number s m i=>simp[Ieee.Datum.order,Ieee.Datum.isNaN,Std.ReflCmp.compare_self]
theorem Iq (x:Nat):GG x=true↔9218868437227405312<x%9223372036854775808:=by
 have h1:GG x=(Ieee.double.read x).isNaN:=by
  show(!((Ieee.double.read x).order (Ieee.double.read x)==some .eq))=_
  rw[YV];cases(Ieee.double.read x).isNaN<;>rfl
 rw[h1];have e1:Ieee.double.signWeight=9223372036854775808:=by decide
 have e2:Ieee.double.binade=4503599627370496:=by decide
 have e3:Ieee.double.infRung=9218868437227405312:=by decide
 unfold Ieee.Format.read;simp only[e1,e2,e3];split
 ·simp[Ieee.Datum.isNaN];omega
 ·split
  ·simp[Ieee.Datum.isNaN];omega
  ·split
   ·simp[Ieee.Datum.isNaN];omega
   ·simp[Ieee.Datum.isNaN];omega
theorem Oo:GG 9221120237041090560=true:=(Iq _).2 (by decide)
theorem mP (a b t:Nat):GG (Question.cut (.nanBits .f64 a b) t)=true:=by
 rw[Iq];show 9218868437227405312<((t%2)*9223372036854775808+9218868437227405312+1+(t/2)%4503599627370495)%9223372036854775808
 have h1:=Aj1 (t/2) (show 0<4503599627370495 by decide);generalize (t/2)%4503599627370495=r at *;rcases Nat.mod_two_eq_zero_or_one t with h|h<;>rw[h]<;>omega
theorem toF_drawn (a b t:Nat):toF (Question.cut (.nanBits .f64 a b) t)=9221120237041090560:=by unfold toF;rw[mP];rfl
theorem toF_lt {x:Nat}(h:x<18446744073709551616):toF x<18446744073709551616:=by unfold toF;split<;>omega
def fAr (op:Int)(a b:Nat):Option Nat:=if op=1 then Ieee.double.add a b else if op=2 then Ieee.double.sub a b else if op=3 then Ieee.double.mul a b else Ieee.double.div a b
def AJi:Option Nat→Nat
 | some r=>toF r
 | none=>9221120237041090560
def AXy (a b:Nat):Option Nat→Sem Value
 | some r=>pure (.float .f64 r)
 | none=>do pure (.float .f64 (←choose (.nanBits .f64 a b)))
def RO (op:Int)(a b:Nat):Nat:=AJi (fAr op a b)
def fCm (op:Int)(a b:Nat):Bool:=
 let c:=Ieee.double.order a b
 if op=5 then c==some .eq else if op=6 then c != some .eq else if op=7 then c==some .lt else if op=8 then c==some .lt||c==some .eq else if op=9 then c==some .gt else if op=10 then c==some .gt||c==some .eq else false
section
variable [G9]{σ:Hp}{R:Rr}
theorem Oq {b:Nat}:YN prog 53 #[.float .f64 b] σ (.U b):=fun w _=>by
 rw[run_callFunc_extern Go.Proofs.Tryz.func53 (by kernel_rfl) (by kernel_rfl) (by kernel_rfl) (e:=Extern.MathFloatBits.float64bits) (by kernel_rfl)];rfl
theorem mQ {x:Int}:YN prog 183 #[.U x] σ (.float .f64 x.toNat):=fun w _=>by
 rw[run_callFunc_extern Go.Proofs.Tryz.func183 (by kernel_rfl) (by kernel_rfl) (by kernel_rfl) (e:=Extern.MathFloatBits.float64frombits) (by kernel_rfl)];rfl
theorem mR {x:Nat}(h:R (.returned (.bool (GG x))) σ):Spec prog 224 #[.float .f64 x] σ R:=
 Wz.start ⟨GG x,fun w _=>rfl,h⟩
theorem JM {x:Int}(h:R (.returned (.float .f64 x.toNat)) σ):Spec prog 198 #[.U x] σ R:=
 pF.start (.y mQ ⟨_,rfl,h⟩)
theorem JN {x:Nat}(h:R (.returned (.U (toF x:Nat))) σ):Spec prog 190 #[.float .f64 x] σ R:=by
 refine ow.start (mR ⟨_,rfl,fun ht=>?_,fun hf=>.y Oq ⟨_,rfl,?_⟩⟩)
 ·rw[show toF x=9221120237041090560 by unfold toF;rw[ht];rfl]at h;exact h
 ·rw[show toF x=x by unfold toF;rw[hf];rfl]at h;exact h
def nrm (x:Int):Int:=(toF x.toNat:Nat)
theorem Ir {x:Int}(h:R (.returned (.U (nrm x))) σ):Spec prog 201 #[.U x] σ R:=
 UX.start (JM ⟨_,rfl,JN ⟨_,rfl,h⟩⟩)
theorem yo {m:Sem Value}{q:Question}{f:Nat→Value}{Φ:Value→Hp→Prop}(hm:∀w,m.run prog w=.ok (f (q.cut (w.tape w.drawn q))) { w with drawn:=w.drawn+1 })(h:∀t,Φ (f (q.cut t)) σ):AK prog m σ Φ:=fun w F hs hF=>
 ⟨_,_,σ,hm w,h _,⟨fun b o hb=>hs b o hb,fun b hb=>⟨(hF b hb).2,rfl⟩,(Gh.same rfl rfl rfl).drew,rfl,AiV _⟩⟩
theorem Ls {m:Sem Value}{v:Value}{Φ:Value→Hp→Prop}(hm:∀w,m.run prog w=.ok v w)(h:Φ v σ):AK prog m σ Φ:=fun w F hs hF=>
 ⟨_,_,σ,hm w,h,⟨hs,fun b hb=>⟨(hF b hb).2,rfl⟩,.same rfl rfl rfl,rfl,AiV _⟩⟩
theorem Pc {op:BinOp}{a b:Nat}{Φ:Value→Hp→Prop}(r:Option Nat)(hr:∀w,(Go.binOp op 73 (.float .f64 a) (.float .f64 b)).run prog w=(AXy a b r).run prog w)
  (h:∀x:Nat,toF x=AJi r→Φ (.float .f64 x) σ):AK prog (Go.binOp op 73 (.float .f64 a) (.float .f64 b)) σ Φ:=by
 cases r with
 | some r=>exact Ls (v:=.float .f64 r) (fun w=>(hr w).trans rfl) (h r rfl)
 | none=>exact yo (q:=.nanBits .f64 a b) (f:=fun x=>.float .f64 x) (fun w=>(hr w).trans rfl) (fun t=>h _ (toF_drawn a b t))
theorem HX {a b:Nat}{Φ:Value→Hp→Prop}(h:∀x:Nat,toF x=RO 1 a b→Φ (.float .f64 x) σ):AK prog (Go.binOp .add 73 (.float .f64 a) (.float .f64 b)) σ Φ:=
 Pc (Ieee.double.add a b) (fun w=>by refine(show _=(Op.floatArith .add .f64 a b).run prog w from rfl).trans ?_;unfold Op.floatArith;simp only[FloatKind.format];cases Ieee.double.add a b<;>rfl) h
theorem pO {a b:Nat}{Φ:Value→Hp→Prop}(h:∀x:Nat,toF x=RO 2 a b→Φ (.float .f64 x) σ):AK prog (Go.binOp .sub 73 (.float .f64 a) (.float .f64 b)) σ Φ:=
 Pc (Ieee.double.sub a b) (fun w=>by refine(show _=(Op.floatArith .sub .f64 a b).run prog w from rfl).trans ?_;unfold Op.floatArith;simp only[FloatKind.format];cases Ieee.double.sub a b<;>rfl) h
theorem Dj {a b:Nat}{Φ:Value→Hp→Prop}(h:∀x:Nat,toF x=RO 3 a b→Φ (.float .f64 x) σ):AK prog (Go.binOp .mul 73 (.float .f64 a) (.float .f64 b)) σ Φ:=
 Pc (Ieee.double.mul a b) (fun w=>by refine(show _=(Op.floatArith .mul .f64 a b).run prog w from rfl).trans ?_;unfold Op.floatArith;simp only[FloatKind.format];cases Ieee.double.mul a b<;>rfl) h
theorem Vx {a b:Nat}{Φ:Value→Hp→Prop}(h:∀x:Nat,toF x=RO 4 a b→Φ (.float .f64 x) σ):AK prog (Go.binOp .quo 73 (.float .f64 a) (.float .f64 b)) σ Φ:=
 Pc (Ieee.double.div a b) (fun w=>by refine(show _=(Op.floatArith .quo .f64 a b).run prog w from rfl).trans ?_;unfold Op.floatArith;simp only[FloatKind.format];cases Ieee.double.div a b<;>rfl) h
def NL (op a b:Int):Int:=(RO op a.toNat b.toNat:Nat)
theorem Mu {op a b:Int}(h:R (.returned (if 1≤op∧op≤4 then .tuple #[.U (NL op a b),.bool true] else .tuple #[.U 0,.bool false])) σ):Spec prog 218 #[.I op,.U a,.U b] σ R:=by
 refine W4.start (JM ⟨_,rfl,JM ⟨_,rfl,fun h1=>HX fun x hx=>⟨_,rfl,JN ⟨_,rfl,?_⟩⟩,fun h1=>⟨fun h2=>pO fun x hx=>⟨_,rfl,JN ⟨_,rfl,?_⟩⟩,fun h2=>⟨fun h3=>Dj fun x hx=>⟨_,rfl,JN ⟨_,rfl,?_⟩⟩,fun h3=>⟨fun h4=>Vx fun x hx=>⟨_,rfl,JN ⟨_,rfl,?_⟩⟩,fun h4=>?_⟩⟩⟩⟩⟩)
 ·subst h1;rw[hx];exact h
 ·subst h2;rw[hx];exact h
 ·subst h3;rw[hx];exact h
 ·subst h4;rw[hx];exact h
 ·rw[AiK (by omega)]at h;exact h
end
section
variable [G9]{σ:Hp}{R:Rr}
def IA (op a b:Int):Bool:=fCm op a.toNat b.toNat
theorem Mv {op a b:Int}(h:R (.T #[.bool (IA op a b),.bool (decide (5≤op∧op≤10))]) σ):Spec prog 219 #[.I op,.U a,.U b] σ R:=by
 have fin:∀{k:Int} {t:Bool},op=k→5≤k→k≤10→fCm k a.toNat b.toNat=t→R (.T #[.bool t,.bool true]) σ:=fun hk h5 VF ht=>by
  subst hk;rw[show IA op a b=fCm op a.toNat b.toNat from rfl,ht,show decide (5≤op∧op≤10)=true from Aia ⟨h5,VF⟩]at h;exact h
 refine Ra.start (JM ⟨_,rfl,JM ⟨_,rfl,
  fun h1=>⟨_,fun w _=>rfl,fin h1 (by decide) (by decide) rfl⟩,fun h1=>
  ⟨fun h2=>⟨_,fun w _=>rfl,fin h2 (by decide) (by decide) rfl⟩,fun h2=>
  ⟨fun h3=>⟨_,fun w _=>rfl,fin h3 (by decide) (by decide) rfl⟩,fun h3=>
  ⟨fun h4=>⟨_,fun w _=>rfl,fin h4 (by decide) (by decide) rfl⟩,fun h4=>
  ⟨fun h5=>⟨_,fun w _=>rfl,fin h5 (by decide) (by decide) rfl⟩,fun h5=>
  ⟨fun h6=>⟨_,fun w _=>rfl,fin h6 (by decide) (by decide) rfl⟩,fun h6=>?_⟩⟩⟩⟩⟩⟩⟩)
 rw[show decide (5≤op∧op≤10)=false from AiZ (by omega),show IA op a b=false by unfold IA fCm;simp only[h1,h2,h3,h4,h5,h6,if_false]]at h;exact h
def P5 (x:Int):Int:=(toF (Go.bits .andNot .u64 x 9223372036854775808).toNat:Nat)
theorem yp {x:Int}(hx:0≤x)(h:R (.returned (.U (P5 x))) σ):Spec prog 160 #[.U x] σ R:=by
 refine R0.start (JM ⟨_,rfl,iH.start (.y Oq ⟨_,rfl,fun x5 h5=>.y mQ ⟨_,rfl,_,rfl,JN ⟨_,rfl,?_⟩⟩⟩)⟩);rw[show P5 x=(toF x5.toNat:Nat) by unfold P5;rw[h5,Int.toNat_of_nonneg hx]]at h;exact h
def Ky (x:Nat):Nat:=match Ieee.double.read x with
 | .nan _ _=>9221120237041090560
 | d=>toF (Ieee.double.write (d.integral .down))
def HY (x:Int):Int:=(Ky x.toNat:Nat)
theorem Th (x:Nat):GG x=(Ieee.double.read x).isNaN:=by
 show(!((Ieee.double.read x).order (Ieee.double.read x)==some .eq))=_
 rw[YV];cases(Ieee.double.read x).isNaN<;>rfl
theorem mS (s:Bool)(t:Nat):GG (Ieee.double.write (.nan s (Ieee.double.quiet t)))=true:=by
 rw[Iq];have e1:Ieee.double.signWeight=9223372036854775808:=by decide
 have e2:Ieee.double.binade=4503599627370496:=by decide
 have e3:Ieee.double.infRung=9218868437227405312:=by decide
 have hp:(Ieee.double.quiet t%4503599627370496).testBit 51=true:=by
  rw[show 4503599627370496=2^52 from rfl,Nat.testBit_mod_two_pow];show(decide (51<52)&&(t ||| 2^51).testBit 51)=true
  rw[Nat.testBit_or,Nat.testBit_two_pow_self];simp
 have hp0:0<Ieee.double.quiet t%4503599627370496:=by
  apply Nat.pos_of_ne_zero
  intro h0;rw[h0]at hp;simp at hp
 have Aq:=Aj1 (Ieee.double.quiet t) (show 0<4503599627370496 by decide);show 9218868437227405312<Ieee.double.word s (Ieee.double.infRung+Ieee.double.quiet t%Ieee.double.binade)%9223372036854775808
 unfold Ieee.Format.word;rw[e1,e2,e3];generalize Ieee.double.quiet t%4503599627370496=p at *;cases s
 ·rw[AiK (by decide)];omega
 ·rw[AiL rfl];omega
def flo (x : Nat) : Sem Value := match Ieee.double.read x with
 | .nan s t => if Ieee.double.quiet t = t then pure (.float .f64 x) else do
   let kept ← choose (.extern "math.Floor,Ceil,Trunc,RoundToEven.signallingNaN kept" 2)
   pure (.float .f64 (if kept == 1 then x else Ieee.double.write (.nan s (Ieee.double.quiet t))))
 | d => pure (.float .f64 (Ieee.double.write (d.integral .down)))
theorem ib {x : Nat} {Φ : Value → Hp → Prop} (h : ∀ y : Nat,toF y = Ky x → Φ (.float .f64 y) σ) : EN prog 184 #[.float .f64 x] σ Φ := by
 have Bz : ∀ w,(callFunc 184 #[.float .f64 x]).run prog w = ((flo x).run prog w).andThen fun v w' => .ok (.value v) w' := fun w => by
   rw [run_callFunc_extern Go.Proofs.Tryz.func184 (by kernel_rfl) (by kernel_rfl) (by kernel_rfl) (e := Extern.MathFloor.toIntegral "math.archFloor" .down) (by kernel_rfl)]
   rfl
 have same : ∀ y,flo x = pure (.float .f64 y) → toF y = Ky x → EN prog 184 #[.float .f64 x] σ Φ := fun y hy hf => .y (v := .float .f64 y) (fun w _ => by rw [Bz,hy]; rfl) (h y hf)
 cases hd : Ieee.double.read x with
 | number s m i => exact same _ (by unfold flo; rw [hd]) (by unfold Ky; rw [hd])
 | infinity s => exact same _ (by unfold flo; rw [hd]) (by unfold Ky; rw [hd])
 | nan s t =>
   have hx : GG x = true := by rw [Th,hd]; rfl
   have hn : Ky x = 9221120237041090560 := by unfold Ky; rw [hd]
   have e1 : toF x = 9221120237041090560 := by unfold toF; rw [hx]; rfl
   by_cases hq : Ieee.double.quiet t = t
   · exact same x (by unfold flo; rw [hd]; simp only [hq,if_true]) (by rw [e1,hn])
   · intro w F hs hF
     refine ⟨.float .f64 (if (Question.cut (.extern "math.Floor,Ceil,Trunc,RoundToEven.signallingNaN kept" 2) (w.tape w.drawn (.extern "math.Floor,Ceil,Trunc,RoundToEven.signallingNaN kept" 2))) == 1 then x else Ieee.double.write (.nan s (Ieee.double.quiet t))),{ w with drawn := w.drawn + 1 },σ,?_,?_,⟨fun b o hb => hs b o hb,fun b hb => ⟨(hF b hb).2,rfl⟩,(Gh.same rfl rfl rfl).drew,rfl,Nat.le_refl _⟩⟩
     · rw [Bz]
       unfold flo
       rw [hd]
       simp only [hq,if_false]
       rfl
     · refine h _ ?_
       rw [hn]
       split
       · exact e1
       · unfold toF; rw [mS]; rfl
theorem mT {x:Int}(h:R (.returned (.U (HY x))) σ):Spec prog 161 #[.U x] σ R:=
 Ml.start (JM ⟨_,rfl,Q3.start (ib fun y hy=>⟨_,rfl,_,rfl,JN ⟨_,rfl,by rw[hy];exact h⟩⟩)⟩)
def AV (n:Int):Int:=(FloatKind.f64.nearest n:Nat)
theorem Mw {n:Int}(h:R (.returned (.U (AV n))) σ):Spec prog 159 #[.I n] σ R:=
 Wl.start (Ls (v:=.float .f64 (FloatKind.f64.nearest n)) (fun w=>by kernel_rfl) ⟨_,rfl,.y Oq ⟨_,rfl,h⟩⟩)
theorem mU {b:Bool}(h:R (.returned (.U (if b then AV 1 else AV 0))) σ):Spec prog 220 #[.bool b] σ R:=
 W6.start ⟨fun ht=>Mw ⟨_,rfl,by rw[ht]at h;exact h⟩,fun hf=>Mw ⟨_,rfl,by rw[hf]at h;exact h⟩⟩
theorem ic {a b:Int}(h:R (.returned (.U (NL 1 a b))) σ):Spec prog 216 #[.U a,.U b] σ R:=eval_add.start (Mu ⟨_,_,rfl,h⟩)
theorem ig {a b:Int}(h:R (.returned (.U (NL 2 a b))) σ):Spec prog 205 #[.U a,.U b] σ R:=gn.start (Mu ⟨_,_,rfl,h⟩)
theorem ij {a b:Int}(h:R (.returned (.U (NL 4 a b))) σ):Spec prog 209 #[.U a,.U b] σ R:=iI.start (Mu ⟨_,_,rfl,h⟩)
theorem yq {a:Int}(h:R (.returned (.bool (decide (nrm a=9221120237041090560)))) σ):Spec prog 241 #[.U a] σ R:=iJ.start (Ir ⟨_,rfl,h⟩)
def Ot (x:Int):Int:=nrm (Go.bits .xor .u64 x 9223372036854775808)
theorem Un {x:Int}(h:R (.returned (.U (Ot x))) σ):Spec prog 178 #[.U x] σ R:=UO.start fun x4 h4=>Ir ⟨_,rfl,by rw[h4];exact h⟩
end
section
variable [G9]{σ:Hp}{R:Rr}
def Ti:List Int→Int
 | []=>0
 | v::l=>l.foldl (NL 1) (nrm v)
theorem YW {p:Option Addr}{n c:Nat}{vs:List Int}(hr:EP .u64 σ p n vs)(h0:0<n)(hc:n≤c)(h:R (.returned (.U (Ti vs))) σ):Spec prog 167 #[.slice p n c] σ R:=by
 have hl:vs.length=n:=hr.1;obtain⟨v,hv⟩:=hr.ex h0;obtain⟨b,o,rfl,CF⟩:=EP.at hr hv;refine Ie.start ⟨b,o,rfl,by omega,v,by simpa using CF,Ir ⟨_,rfl,by omega,?_⟩⟩;have hs:EP .u64 σ (MK (aD b o) 1 c 1) (n-1) ((vs.drop 1).take (n-1)):=AT.sub hr (by decide) (by omega) hc;have hd:(vs.drop 1).take (n-1)=vs.tail:=by rw[List.drop_one,AiQ (by rw[Ajj];omega)]
 rw[hd]at hs;have ZN:vs=v::vs.tail:=by
  cases vs with
  | nil=>cases hv
  | cons a l=>simp only[Aim,AiO]at hv;rw[hv];rfl
 rw[ZN]at h
 change R (.returned (.U (vs.tail.foldl (NL 1) (nrm v)))) σ at h
 generalize MK (aD b o) 1 c 1=q at *
 suffices H:∀g k:Nat,∀(q':Option Addr) (a:Int),(0<n-1→q'=q)→n-1-k=g→k≤n-1→vs.tail.foldl (NL 1) (nrm v)=(vs.tail.drop k).foldl (NL 1) a→Ie.B4 R a q (n-1) (c-1) ((n-1:Nat):Int) k σ from H (n-1) 0 q (nrm v) (fun _=>rfl) (by omega) (by omega) rfl
 intro g
 induction g with
 | zero=>
  intro k q' a _ hg hk he;refine Ie.Ap ⟨fun Aq=>by omega,fun _=>?_⟩;rw[Aib (by rw[Ajj];omega)]at he;rw[he]at h;exact h
 | succ g ih=>
  intro k q' a hq hg hk he;obtain⟨x,hx⟩:=hs.ex (k:=k) (by omega);obtain⟨b',o',rfl,NQ⟩:=EP.at hs hx;rw[A0 hx]at he;refine Ie.Ap ⟨fun _=>⟨b',o',rfl,by omega,x,by simpa using NQ,ic ⟨_,rfl,AJ (by omega:k<n-1) hs.big,ih (k+1) _ _ (fun _=>rfl) (by omega) (by omega) he⟩⟩,fun hh=>by omega⟩
theorem Q7 {p:Option Addr}{n c:Nat}(h:R (.returned (.U (AV n))) σ):Spec prog 171 #[.slice p n c] σ R:=
 Jq.start (Mw ⟨_,rfl,h⟩)
theorem SD {p:Option Addr}{n c:Nat}{vs:List Int}(hr:EP .u64 σ p n vs)(h0:0<n)(hc:n≤c)(h:R (.returned (.U (NL 4 (Ti vs) (AV n)))) σ):Spec prog 170 #[.slice p n c] σ R:=
 HO.start (YW hr h0 hc ⟨_,rfl,Q7 ⟨_,rfl,ij ⟨_,rfl,h⟩⟩⟩)
def VK (op:Int)(out v:Int):Int:=if IA op v out=true∨nrm out=9221120237041090560 then v else out
def KW (op:Int):List Int→Int
 | []=>0
 | v::l=>nrm (l.foldl (VK op) v)
theorem aw {op:Int}{p:Option Addr}{n c:Nat}{vs:List Int}(hr:EP .u64 σ p n vs)(h0:0<n)(hc:n≤c)(h:R (.returned (.U (KW op vs))) σ):Spec prog 217 #[.I op,.slice p n c] σ R:=by
 have hl:vs.length=n:=hr.1;obtain⟨v,hv⟩:=hr.ex h0;obtain⟨b,o,rfl,CF⟩:=EP.at hr hv;refine Hy.start ⟨b,o,rfl,by omega,v,by simpa using CF,by omega,?_⟩;have hs:EP .u64 σ (MK (aD b o) 1 c 1) (n-1) ((vs.drop 1).take (n-1)):=AT.sub hr (by decide) (by omega) hc;have hd:(vs.drop 1).take (n-1)=vs.tail:=by rw[List.drop_one,AiQ (by rw[Ajj];omega)]
 rw[hd]at hs;have ZN:vs=v::vs.tail:=by
  cases vs with
  | nil=>cases hv
  | cons a l=>simp only[Aim,AiO]at hv;rw[hv];rfl
 rw[ZN]at h
 change R (.returned (.U (nrm (vs.tail.foldl (VK op) v)))) σ at h
 generalize MK (aD b o) 1 c 1=q at *
 suffices H:∀g k:Nat,∀(a:Int),n-1-k=g→k≤n-1→vs.tail.foldl (VK op) v=(vs.tail.drop k).foldl (VK op) a→Hy.B4 R op a q (n-1) (c-1) ((n-1:Nat):Int) k σ from H (n-1) 0 v (by omega) (by omega) rfl
 intro g
 induction g with
 | zero=>
  intro k a hg hk he;refine Hy.Ap ⟨fun Aq=>by omega,fun _=>Ir ⟨_,rfl,?_⟩⟩;rw[Aib (by rw[Ajj];omega)]at he;rw[he]at h;exact h
 | succ g ih=>
  intro k a hg hk he;obtain⟨x,hx⟩:=hs.ex (k:=k) (by omega);obtain⟨b',o',rfl,NQ⟩:=EP.at hs hx;rw[A0 hx,Ajb]at he;have go:∀y,VK op a x=y→Hy.ZX R op y (aD b' o') (n-1) (c-1) ((n-1:Nat):Int) k σ:=fun y hy=>Hy.Vh ⟨AJ (by omega:k<n-1) hs.big,ih (k+1) y (by omega) (by omega) (by rw[←hy];exact he)⟩;refine Hy.Ap ⟨fun _=>⟨b',o',rfl,by omega,x,by simpa using NQ,Mv ⟨_,_,rfl,fun ht=>go x (by unfold VK;rw[AiL (.inl ht)]),fun hf=>yq ⟨_,rfl,fun ht=>go x ?_,fun hn=>go a ?_⟩⟩⟩,fun hh=>by omega⟩
  ·unfold VK;rw[AiL (.inr (AiP ht))]
  ·unfold VK;rw[AiK (by
   rintro(h1|h1)
   ·rw[h1]at hf;cases hf
   ·exact absurd h1 (Aio hn))]
theorem YX {p:Option Addr}{n c:Nat}{vs:List Int}(hr:EP .u64 σ p n vs)(h0:0<n)(hc:n≤c)(h:R (.returned (.U (KW 7 vs))) σ):Spec prog 168 #[.slice p n c] σ R:=Jm.start (aw hr h0 hc ⟨_,rfl,h⟩)
theorem Qd {p:Option Addr}{n c:Nat}{vs:List Int}(hr:EP .u64 σ p n vs)(h0:0<n)(hc:n≤c)(h:R (.returned (.U (KW 9 vs))) σ):Spec prog 169 #[.slice p n c] σ R:=GO.start (aw hr h0 hc ⟨_,rfl,h⟩)
def Hm (out:Int)(p:Int×Int):Int:=if IA 7 p.2 p.1=true then NL 1 out p.1 else out
def Hn (vs:List Int):Int:=(vs.zip vs.tail).foldl Hm (NL 2 (vs.getLast?.getD 0) (vs.head?.getD 0))
theorem YY {p:Option Addr}{n c:Nat}{vs:List Int}(hr:EP .u64 σ p n vs)(h0:0<n)(h:R (.returned (.U (Hn vs))) σ):Spec prog 207 #[.slice p n c] σ R:=by
 have hl:vs.length=n:=hr.1;have H9:=hr.big;obtain⟨v,hv⟩:=hr.ex h0;obtain⟨z,hz⟩:=hr.ex (k:=n-1) (by omega);obtain⟨b,o,rfl,CF⟩:=EP.at hr hv;obtain⟨_,_,he,yr⟩:=EP.at hr hz;cases he;have e1:Int.toNat ((n:Int)-1)=n-1:=by omega
 refine Gm.start ⟨by unfold AG;omega,b,o,rfl,by omega,z,by rw[e1];exact yr,by omega,v,by simpa using CF,ig ⟨_,rfl,?_⟩⟩;have yt:Hn vs=(vs.zip vs.tail).foldl Hm (NL 2 z v):=by
  unfold Hn;rw[Ajc,hl,hz,AkF,hv];rfl
 rw[yt]at h
 suffices H:∀g k:Nat,∀a:Int,n-1-k=g→k≤n-1→(vs.zip vs.tail).foldl Hm (NL 2 z v)=((vs.zip vs.tail).drop k).foldl Hm a→Gm.Ab R (aD b o) n c a ((k+1:Nat):Int) σ from H (n-1) 0 _ (by omega) (by omega) rfl
 have hlen:(vs.zip vs.tail).length=n-1:=by rw[AjO,Ajj];omega
 intro g
 induction g with
 | zero=>
  intro k a hg hk he;refine Gm.AO ⟨fun Aq=>by omega,fun _=>?_⟩;rw[Aib (by omega)]at he;rw[he]at h;exact h
 | succ g ih=>
  intro k a hg hk he;obtain⟨x,hx⟩:=hr.ex (k:=k) (by omega);obtain⟨y,hy⟩:=hr.ex (k:=k+1) (by omega);obtain⟨_,_,h1,NQ⟩:=EP.at hr hx;obtain⟨_,_,h2,SC⟩:=EP.at hr hy;cases h1;cases h2;have AJj:(vs.zip vs.tail)[k]?=some (x,y):=by
   rw[List.getElem?_zip_eq_some];exact⟨hx,by rw[List.getElem?_tail];exact hy⟩
  rw[A0 AJj,Ajb]at he;have e2:Int.toNat (((k+1:Nat):Int)-1)=k:=by omega
  have e3:Int.toNat ((k+1:Nat):Int)=k+1:=by omega
  have go:∀w,Hm a (x,y)=w→Gm.TX R (aD b o) n c w ((k+1:Nat):Int) σ:=fun w hw=>Gm.Mi ⟨AJ (by omega:k+1<n) hr.big,ih (k+1) w (by omega) (by omega) (by rw[←hw];exact he)⟩;refine Gm.AO ⟨fun _=>⟨b,o,rfl,by omega,y,by rw[e3];exact SC,by unfold AG;omega,by omega,x,by rw[e2];exact NQ,Mv ⟨_,_,rfl,fun ht=>⟨by unfold AG;omega,by omega,x,by rw[e2];exact NQ,ic ⟨_,rfl,go _ ?_⟩⟩,fun hf=>go _ ?_⟩⟩,fun hh=>by omega⟩
  ·unfold Hm;rw[AiL ht]
  ·unfold Hm;rw[AiK (by rw[hf];decide)]
end
theorem YZ {x:Nat}(h:GG x=true):∃s t,Ieee.double.read x=.nan s t:=by
 rw[Th]at h;cases hd:Ieee.double.read x with
 | nan s t=>exact⟨s,t,rfl⟩
 | number=>rw[hd]at h;cases h
 | infinity=>rw[hd]at h;cases h
theorem AGL {op:Int}{a b:Nat}(h:GG a=true):fAr op a b=none:=by
 obtain⟨s,t,hr⟩:=YZ h;unfold fAr Ieee.Format.add Ieee.Format.sub Ieee.Format.mul Ieee.Format.div;rw[hr];simp[Ieee.Datum.sum,Ieee.Datum.product,Ieee.Datum.quotient]
theorem AGM {op:Int}{a b:Nat}(h:GG b=true):fAr op a b=none:=by
 obtain⟨s,t,hr⟩:=YZ h;unfold fAr Ieee.Format.add Ieee.Format.sub Ieee.Format.mul Ieee.Format.div;rw[hr];cases Ieee.double.read a<;>simp[Ieee.Datum.sum,Ieee.Datum.product,Ieee.Datum.quotient,Ieee.Datum.opposite]
theorem Ou (op:Int)(a b:Nat):RO op (toF a) (toF b)=RO op a b:=by
 unfold RO;by_cases ha:GG a=true
 ·rw[AGL ha,show toF a=9221120237041090560 by unfold toF;rw[ha];rfl,AGL Oo]
 ·rw[show toF a=a by unfold toF;rw[AiK ha]];by_cases hb:GG b=true
  ·rw[AGM hb,show toF b=9221120237041090560 by unfold toF;rw[hb];rfl,AGM Oo]
  ·rw[show toF b=b by unfold toF;rw[AiK hb]]
abbrev cN:Nat:=4604544271217802189
abbrev dN:Nat:=13827916308072577997
abbrev AR6:Nat:=4607182418800017408
abbrev AR7:Nat:=13830554455654793216
def VL:List (Nat×Nat):=[(AR6,0),(cN,dN),(0,AR7),(dN,dN),(AR7,0),(dN,cN),(0,AR6),(cN,cN)]
def Ho (j n:Nat):List Int→Nat→Nat×Nat→Nat×Nat
 | [],_,a=>a
 | x::l,k,a=>
  let w:=VL.getD ((j*k%n)*(8/n)) (0,0)
  Ho j n l (k+1) (RO 1 a.1 (RO 3 x.toNat w.1),RO 1 a.2 (RO 3 x.toNat w.2))
def dM (vs:List Int):Nat:=
 let l:=Ho (1%vs.length) vs.length vs 0 (0,0)
 RO 1 (RO 3 l.1 l.1) (RO 3 l.2 l.2)
section
variable [G9]{σ:Hp}{R:Rr}
theorem Mx {x y:Nat}(h:x ^^^ 9223372036854775808=y):YF prog (Op.unary .neg (.float .f64 x)) σ (.float .f64 y):=fun w _=>by subst h;rfl
theorem Zl (h:∀b T σ',σ b=none→σ'=σ.set b (.cells (VL.map fun p=>.complex .f64 p.1 p.2).toArray T (0,0))→R (.returned (.slice (aD b 0) 8 8)) σ'):Spec prog 272 #[] σ R:=by
 refine QM.start (JM ⟨_,rfl,dN,Mx (by decide),_,_,fun w _=>rfl,dN,Mx (by decide),dN,Mx (by decide),_,_,fun w _=>rfl,dN,Mx (by decide),_,_,fun w _=>rfl,_,_,fun w _=>rfl,fun b hb=>?_⟩);exact h b _ _ hb rfl
theorem sE {j:Nat}(hj:j≤1){p:Option Addr}{n c:Nat}{vs:List Int}(hr:EP .u64 σ p n vs)(hn:n=1∨n=2∨n=4∨n=8)
  (h:∀re im σ',Ext σ σ'→toF re=(Ho j n vs 0 (0,0)).1→toF im=(Ho j n vs 0 (0,0)).2→R (.returned (.complex .f64 re im)) σ'):Spec prog 252 #[.slice p n c,.I j] σ R:=by
 have hl:vs.length=n:=hr.1;have z0:toF 0=0:=by
  unfold toF;rw[AiK];rw[Iq];decide
 refine Lf.start (Zl fun b T σ1 hb Im=>⟨_,_,_,rfl,?_⟩);have Bc:Ext σ σ1:=by rw[Im];exact .set hb
 have hlb:∀k,k<8→∀re im,VL[k]?=some (re,im)→σ1.ld ⟨b,0+k*1,none⟩=some (.complex .f64 re im):=fun k hk re im hw=>by
  rw[Im];unfold Hp.ld;simp only[Hp.AA];have:(VL.map fun p=>Value.complex .f64 p.1 p.2)[k]?=some (.complex .f64 re im):=by rw[Ait,hw];rfl
  simpa using this
 clear Im
 suffices H:∀g k:Nat,∀re im,∀a:Nat×Nat,n-k=g→k≤n→toF re=a.1→toF im=a.2→Ho j n vs 0 (0,0)=Ho j n (vs.drop k) k a→Lf.Jh R p n c j (aD b 0) 8 8 (.complex .f64 re im) k σ1 from H n 0 0 0 (0,0) rfl (AiR _) z0 z0 rfl
 intro g
 induction g with
 | zero=>
  intro k re im a hg hk h1 h2 he;have QC:k=n:=by omega
  subst QC;rw[Aib (by omega)]at he;refine Lf.HJ ⟨fun _=>?_,fun hh=>by omega⟩;rw[he]at h;exact h re im σ1 Bc h1 h2
 | succ g ih=>
  intro k re im a hg hk h1 h2 he;have QC:k<n:=by omega
  obtain⟨x,hx⟩:=hr.ex QC;obtain⟨b',o',rfl,CF⟩:=EP.at hr hx;rw[A0 hx]at he;have ht:(j:Int)*k=((j*k:Nat):Int):=by push_cast;rfl
  have eV:j*k≤8:=by
   rcases Nat.le_one_iff_eq_zero_or_eq_one.1 hj with h|h<;>subst h<;>omega
  refine Lf.HJ ⟨fun hh=>by omega,fun _=>⟨b',o',rfl,by omega,x,by simpa using Bc.ld CF,by unfold AG;omega,by omega,fun Kv h27=>⟨by omega,fun LZ h30=>?_⟩⟩⟩;have e27:Kv=((j*k%n:Nat):Int):=by rw[h27,ht,AkS (by omega)];omega
  have e30:LZ=((8/n:Nat):Int):=by rw[h30];rcases hn with h|h|h|h<;>subst h<;>rfl
  have hm:(j*k%n)*(8/n)<8:=by
   have:=Aj1 (j*k) (show 0<n by omega);rcases hn with h|h|h|h<;>subst h<;>simp at*<;> omega
  have ep:Kv*LZ=(((j*k%n)*(8/n):Nat):Int):=by rw[e27,e30];push_cast;rfl
  dsimp only;rw[ep];generalize hq:(j*k%n)*(8/n)=q at *;obtain⟨⟨wr,wi⟩,hw⟩:∃w,VL[q]?=some w:=⟨_,AiN (show q<VL.length from hm)⟩;have hgd:VL.getD q (0,0)=(wr,wi):=by rw[List.getD_eq_getElem?_getD,hw];rfl
  rw[Ho,hq,hgd]at he;refine⟨by unfold AG;omega,b,0,rfl,by omega,wr,wi,by simpa using hlb q hm wr wi hw,JM ⟨_,rfl,fun _ _ _ h=>h,re,fun w _=>rfl,wr,fun w _=>rfl,Dj fun y hy=>⟨_,rfl,HX fun z hz=>⟨_,rfl,im,fun w _=>rfl,wi,fun w _=>rfl,Dj fun y' hy'=>⟨_,rfl,HX fun z' mV=>⟨_,rfl,z,z',fun w _=>rfl,AJ QC hr.big,?_⟩⟩⟩⟩⟩⟩;refine ih (k+1) z z' _ (by omega) (by omega) ?_ ?_ he
  ·rw[hz,←Ou,h1,hy]
  ·rw[mV,←Ou,h2,hy']
theorem mW {p:Option Addr}{n c:Nat}{vs:List Int}(hr:EP .u64 σ p n vs)(hn:n=1∨n=2∨n=4∨n=8)
  (h:∀σ',Ext σ σ'→R (.T #[.U (dM vs:Nat),.I 0]) σ'):Spec prog 237 #[.slice p n c] σ R:=by
 have hl:vs.length=n:=hr.1;have J2:∀{t:Bool} {Q:Rr},Q (.B true) σ→Spec prog 251 #[.I n] σ Q:=fun hq=>aY.start ⟨fun _=>hq,fun h1=>⟨fun _=>hq,fun h2=>⟨fun _=>hq,fun h4=>by rw[show decide ((n:Int)=8)=true from Aia (by omega)];exact hq⟩⟩⟩;refine W7.start (J2 (t:=true) ?_);refine⟨true,rfl,fun hf=>(by cases hf),fun _=>⟨by omega,fun x12 J4=>?_⟩⟩;have e12:x12=((1%n:Nat):Int):=by rw[J4,AkS (by omega)];exact(Int.natCast_emod 1 n).symm
 rw[e12];refine sE (Nat.mod_le 1 n) hr hn fun re im σ1 hx h1 h2=>⟨_,_,rfl,re,fun w _=>rfl,re,fun w _=>rfl,Dj fun y hy=>⟨_,rfl,im,fun w _=>rfl,im,fun w _=>rfl,Dj fun z hz=>⟨_,rfl,HX fun u hu=>⟨_,rfl,JN ⟨_,rfl,?_⟩⟩⟩⟩⟩;have e:toF u=dM vs:=by
  rw[hu,←Ou,hy,hz];unfold dM;rw[hl];dsimp only;rw[←h1,←h2,Ou,Ou]
 rw[e];exact h σ1 hx
def EH (n:Nat):Nat:=if 8≤n then 8 else if 4≤n then 4 else if 2≤n then 2 else 1
def KX (vs:List Int):Int:=(dM (vs.drop (vs.length-EH vs.length)):Nat)
theorem Zm {p:Option Addr}{n c:Nat}{vs:List Int}(hr:EP .u64 σ p n vs)(h0:0<n)(hc:n≤c)
  (h:∀σ',Ext σ σ'→R (.returned (.U (KX vs))) σ'):Spec prog 202 #[.slice p n c] σ R:=by
 have hl:vs.length=n:=hr.1;have H9:=hr.big;have last:∀m:Nat,EH n=m→m≤n→(m=1∨m=2∨m=4∨m=8)→AG ((n:Int)-m)∧((0:Int)≤((n:Int)-m)∧((n:Int)-m)≤(n:Int))∧Spec prog 237 #[(.slice (MK p (Int.toNat ((n:Int)-m)) c 1) (n-Int.toNat ((n:Int)-m)) (c-Int.toNat ((n:Int)-m)))] σ (BB R (fun z y=>∃Ta cW,z=(.tuple #[.U Ta,.I cW])∧R (.returned (.U Ta)) y)):=fun m hm hmn hk=>by
  have e:Int.toNat ((n:Int)-m)=n-m:=by omega
  rw[e];refine⟨by unfold AG;omega,by omega,?_⟩;have hs:=AT.sub (i:=n-m) (m:=m) hr (by decide) (by omega) hc;rw[AiQ (by rw[Aic];omega)]at hs;rw[show n-(n-m)=m by omega];refine mW hs hk fun σ' hx=>⟨_,_,rfl,?_⟩;have:=h σ' hx;unfold KX at this;rw[hl,hm]at this;exact this
 have two:∀m x:Int,x=IntKind.i64.wrap (Int.tdiv m 2)→(m=8∨m=4∨m=2)→x=m/2:=fun m x hx hm=>by
  rw[hx];rcases hm with h|h|h<;>subst h<;>rfl
 refine C7.start (C7.As ⟨fun h8=>⟨by decide,fun x1 e1=>?_⟩,fun h8=>last 8 (by unfold EH;rw[AiL (by omega)]) (by omega) (by omega)⟩);have e1:=two _ _ e1 (.inl rfl);subst e1;refine C7.As ⟨fun h4=>⟨by decide,fun x2 e2=>?_⟩,fun h4=>last 4 (by unfold EH;rw[AiK (by omega),AiL (by omega)]) (by omega) (by omega)⟩;have e2:=two _ _ e2 (.inr (.inl (by decide)));subst e2;refine C7.As ⟨fun h2=>⟨by decide,fun x3 e3=>?_⟩,fun h2=>last 2 (by unfold EH;rw[AiK (by omega),AiK (by omega),AiL (by omega)]) (by omega) (by omega)⟩;have e3:=two _ _ e3 (.inr (.inr (by decide)));subst e3;exact C7.As ⟨fun h1=>by omega,fun h1=>last 1 (by unfold EH;rw[AiK (by omega),AiK (by omega),AiK (by omega)]) (by omega) (by omega)⟩
end
def JO (ps:List Pt)(x:Int):Nat:=ps.countP fun q=>decide (q.1≤x)
theorem pP {ps:List Pt}{x:Int}{i:Nat}(hi:i≤ps.length)(h1:∀k q,k<i→ps[k]?=some q→q.1≤x)(h2:∀k q,i≤k→ps[k]?=some q→x<q.1):JO ps x=i:=by
 unfold JO;rw[←Ai8 i ps,List.countP_append];have e1:(ps.take i).countP (fun q=>decide (q.1≤x))=(ps.take i).length:=List.countP_eq_length.2 fun q hq=>by
  obtain⟨k,hk⟩:=List.mem_iff_getElem?.1 hq;rw[Ail]at hk;split at hk
  ·rename_i hki;exact Aia (h1 k q hki hk)
  ·cases hk
 have e2:(ps.drop i).countP (fun q=>decide (q.1≤x))=0:=List.countP_eq_zero.2 fun q hq=>by
  obtain⟨k,hk⟩:=List.mem_iff_getElem?.1 hq;rw[Ain]at hk;have:=h2 _ q (Aju i k) hk;simp;omega
 rw[e1,e2,AiU];omega
def ik (ps:List Pt):Prop:=ps.Pairwise fun a b=>a.1<b.1
theorem sF {ps:List Pt}(h:Kx ps=true):ik ps:=by
 have hh:=((Lq ps).1 h).2;unfold ik;rw[Ai2];intro i j hi hj JE
 induction j with
 | zero=>omega
 | succ j ih=>
  have hs:=hh j ps[j] ps[j+1] (AiN _) (AiN _);by_cases h:i=j
  ·subst h;exact hs
  ·exact Int.lt_trans (ih (by omega) (by omega)) hs
theorem pQ {ps:List Pt}(h:ik ps){i j:Nat}{a b:Pt}(JE:i<j)(ha:ps[i]?=some a)(hb:ps[j]?=some b):a.1<b.1:=by
 obtain⟨h1,rfl⟩:=List.getElem?_eq_some_iff.1 ha;obtain⟨h2,rfl⟩:=List.getElem?_eq_some_iff.1 hb;exact Ai2.1 h i j h1 h2 JE
theorem AR8 {x:Int}(h0:0≤x)(h1:x<18446744073709551616):IntKind.u64.wrap x=x:=by simp[IntKind.wrap,IntKind.bits,IntKind.signed];omega
theorem AR9 {x:Int}(h0:0≤x)(h1:x<9223372036854775808):IntKind.i64.wrap x=x:=by simp[IntKind.wrap,IntKind.bits,IntKind.signed];omega
section
variable [G9]{σ:Hp}{R:Rr}
theorem pR {f:Nat}(hf:Enters prog f)(ACq:∀a b x σ' R',R' (.returned (.I (if a≤x then -1 else 1))) σ'→Spec prog f #[.agg #[.I a,.U b],.I x] σ' R'){p:Option Addr}{n c:Nat}{ps:List Pt}{x:Int}(hr:AT 2 J5 σ p n ps)(hs:ik ps)
  (h:∀t,R (.T #[.I (JO ps x),.bool t]) σ):Spec prog 191 #[.slice p n c,.I x,.func (.func f) #[] #[]] σ R:=by
 have hl:ps.length=n:=hr.1;have H9:=hr.big;refine BR.start ?_
 suffices H:∀g i j:Nat,j-i=g→i≤j→j≤n→(∀k q,k<i→ps[k]?=some q→q.1≤x)→(∀k q,j≤k→ps[k]?=some q→x<q.1)→BR.Ab R p n c x (.func (.func f) #[] #[]) n i j σ from
  H n 0 n rfl (AiR _) (AiV _) (fun k q hk=>by omega) (fun k q hk hq=>by have:=(List.getElem?_eq_some_iff.1 hq).1;omega)
 intro g
 induction g using Nat.strongRecOn with
 | _ g ih=>
  intro i j hg JE hj h1 h2;refine BR.AO ⟨fun Aq=>⟨by unfold AG;omega,fun UZ e21=>⟨by decide,fun MH e22 GC e23=>?_⟩⟩,fun Zg=>⟨fun By=>?_,fun By=>?_⟩⟩
  ·rw[AR8 (by omega) (by omega)]at e21;have AJl:MH=((i+j)/2:Nat):=by rw[e22,e21];show((i:Int)+j)/2^1=_;omega
   rw[AJl,AR9 (by omega) (by omega)]at e23;generalize hm:(i+j)/2=m at *;have him:i≤m∧m<j:=by omega
   obtain⟨q,hq⟩:=hr.ex (k:=m) (by omega);obtain⟨b,o,rfl,CF⟩:=J5.at hr hq;rw[e23];refine⟨b,o,rfl,by omega,q.1,q.2,by simpa using CF,f,#[],#[],rfl,hf,ACq _ _ _ _ _ ⟨_,rfl,fun Tj=>⟨by unfold AG;omega,?_⟩,fun WE=>?_⟩⟩
   ·have hq1:q.1≤x:=by
     by_cases hh:q.1≤x
     ·exact hh
     ·rw[AiK hh]at Tj;omega
    refine ih (j-(m+1)) (by omega) (m+1) j rfl (by omega) hj (fun k r hk hkr=>?_) h2;by_cases hkm:k=m
    ·rw[hkm,hq]at hkr;cases hkr;exact hq1
    ·have:=pQ hs (by omega:k<m) hkr hq;omega
   ·have hq1:x<q.1:=by
     by_cases hh:q.1≤x
     ·rw[AiL hh]at WE;omega
     ·omega
    refine ih (m-i) (by omega) i m rfl (by omega) (by omega) h1 (fun k r hk hkr=>?_);by_cases hkm:k=m
    ·rw[hkm,hq]at hkr;cases hkr;exact hq1
    ·have:=pQ hs (by omega:m<k) hq hkr;omega
  ·have e:i=j:=by omega
   subst e;have hc:=pP (by omega) h1 h2;obtain⟨q,hq⟩:=hr.ex (k:=i) (by omega);obtain⟨b,o,rfl,CF⟩:=J5.at hr hq;refine⟨b,o,rfl,by omega,q.1,q.2,by simpa using CF,f,#[],#[],rfl,hf,ACq _ _ _ _ _ ⟨_,rfl,?_⟩⟩;have:=h (decide ((if q.1≤x then(-1:Int) else 1)=0));rw[hc]at this;exact this
  ·have e:i=j:=by omega
   subst e;have hc:=pP (by omega) h1 h2;have:=h false;rw[hc]at this;exact this
omit [G9] in
theorem Lt {x:Int}:∀{ps:List Pt},ik ps→JO ps x≤ps.length∧(∀k q,k<JO ps x→ps[k]?=some q→q.1≤x)∧(∀k q,JO ps x≤k→ps[k]?=some q→x<q.1)
 | [],_=>⟨AiV _,fun k q hk=>by simp[JO]at hk,fun k q _ hq=>by simp at hq⟩
 | a::l,h=>by
  have hl:=List.pairwise_cons.1 h;obtain⟨h1,h2,h3⟩:=Lt (x:=x) (ps:=l) hl.2;by_cases ha:a.1≤x
  ·have e:JO (a::l) x=JO l x+1:=by unfold JO;rw[List.countP_cons_of_pos (by simpa using ha)]
   rw[e];refine⟨by simp;exact h1,fun k q hk hq=>?_,fun k q hk hq=>?_⟩
   ·cases k with
    | zero=>simp at hq;subst hq;exact ha
    | succ k=>exact h2 k q (by omega) (by simpa using hq)
   ·cases k with
    | zero=>omega
    | succ k=>exact h3 k q (by omega) (by simpa using hq)
  ·have e:JO (a::l) x=0:=by
    unfold JO;rw[List.countP_eq_zero];intro q hq;rcases AiT.1 hq with rfl|hq
    ·simpa using ha
    ·have:=hl.1 q hq;simp;omega
   rw[e];refine⟨AiR _,fun k q hk=>by omega,fun k q _ hq=>?_⟩;cases k with
   | zero=>simp at hq;subst hq;omega
   | succ k=>
    have:=hl.1 q (AiM (by simpa using hq));omega
omit [G9] in
theorem ACr {ps:List Pt}(hs:ik ps)(F5 Js:Int){i m:Nat}(hi:i=min (JO ps F5) (JO ps Js))(hm:m=JO ps Js-i):(ps.drop i).take m=FT ps F5 Js:=by
 obtain⟨a1,a2,a3⟩:=Lt (x:=F5) hs;obtain⟨m1,m2,m3⟩:=Lt (x:=Js) hs;have e:ps=ps.take i++((ps.drop i).take m++(ps.drop i).drop m):=by rw[Ai8,Ai8]
 have hf:FT ps F5 Js=FT (ps.take i) F5 Js++(FT ((ps.drop i).take m) F5 Js++FT ((ps.drop i).drop m) F5 Js):=by
  conv=>lhs;rw[e]
  unfold FT;rw[Ajd,Ajd]
 rw[hf];have f1:FT (ps.take i) F5 Js=[]:=List.filter_eq_nil_iff.2 fun q hq=>by
  obtain⟨k,hk⟩:=List.mem_iff_getElem?.1 hq;rw[Ail]at hk;split at hk
  ·have:=a2 k q (by omega) hk;simp;omega
  ·cases hk
 have f2:FT ((ps.drop i).take m) F5 Js=(ps.drop i).take m:=List.filter_eq_self.2 fun q hq=>by
  obtain⟨k,hk⟩:=List.mem_iff_getElem?.1 hq;rw[Ail]at hk;split at hk
  ·rename_i hkm;rw[Ain]at hk;have g1:=m2 _ q (by omega) hk;have g2:=a3 _ q (by omega) hk;simp;omega
  ·cases hk
 have f3:FT ((ps.drop i).drop m) F5 Js=[]:=List.filter_eq_nil_iff.2 fun q hq=>by
  obtain⟨k,hk⟩:=List.mem_iff_getElem?.1 hq;rw[Ain,Ain]at hk;have:=m3 _ q (by omega) hk;simp;omega
 rw[f1,f2,f3];simp
theorem Uo {p:Option Addr}{n c:Nat}{ps:List Pt}{F5 Js:Int}(hr:AT 2 J5 σ p n ps)(hc:n≤c)(hs:ik ps)
  (h:∀q m d,AT 2 J5 σ q m (FT ps F5 Js)→m≤d→R (.returned (.slice q m d)) σ):Spec prog 157 #[.slice p n c,.I F5,.I Js] σ R:=by
 have hl:ps.length=n:=hr.1;have c1:∀a b x σ' R',R' (.returned (.I (if a≤x then -1 else 1))) σ'→Spec prog 192 #[.agg #[.I a,.U b],.I x] σ' R':=fun a b x σ' R' hh=>QW.start fun _=>⟨fun hle=>by rw[AiL hle]at hh;exact hh,fun hle=>by rw[AiK hle]at hh;exact hh⟩;have c2:∀a b x σ' R',R' (.returned (.I (if a≤x then -1 else 1))) σ'→Spec prog 193 #[.agg #[.I a,.U b],.I x] σ' R':=fun a b x σ' R' hh=>QY.start fun _=>⟨fun hle=>by rw[AiL hle]at hh;exact hh,fun hle=>by rw[AiK hle]at hh;exact hh⟩;have ha:=(Lt (x:=F5) hs).1;have hm:=(Lt (x:=Js) hs).1;refine UL.start (pR (fun args w=>call192 args w) c1 hr hs fun t=>⟨_,_,rfl,pR (fun args w=>call193 args w) c2 hr hs fun t'=>⟨_,_,rfl,?_⟩⟩);have e:(if((JO ps Js:Nat):Int)<(JO ps F5:Nat) then((JO ps Js:Nat):Int) else(JO ps F5:Nat))=((min (JO ps F5) (JO ps Js):Nat):Int):=by split<;>omega
 rw[e];generalize hi:min (JO ps F5) (JO ps Js)=i;have VM:=AT.sub (i:=i) (m:=JO ps Js-i) hr (by decide) (by omega) hc;rw[ACr hs F5 Js hi.symm rfl]at VM;refine⟨by omega,?_⟩;have:=h _ _ (c-i) VM (by omega);simpa using this
end
theorem IB {α:Type}{P:α→Bool}:∀{l:List α} {k:Nat},k≤l.length→(∀j u,j<k→l[j]?=some u→P u=true)→(∀u,l[k]?=some u→P u=false)→(l.takeWhile P).length=k
 | [],k,hk,_,_=>by simp at hk;subst hk;rfl
 | a::l,0,_,_,h2=>by simp[List.takeWhile,h2 a rfl]
 | a::l,k+1,hk,h1,h2=>by
  have ha:P a=true:=h1 0 a (by omega) rfl;simp only[List.takeWhile,ha,AjB];rw[IB (k:=k) (by simp at hk;omega) (fun j u hj hu=>h1 (j+1) u (by omega) (by simpa using hu)) (fun u hu=>h2 u (by simpa using hu))]
def AS (s:ByteArray):Nat:=(s.data.toList.takeWhile D7).length
theorem My (s:ByteArray):AS s≤s.size:=by
 unfold AS;exact Aiy (AkG (List.takeWhile_sublist _)) (Nat.le_of_eq (AjA (xs:=s.data)))
section
variable [G9]{σ:Hp}{R:Rr}
omit [G9] in
theorem yu {s:ByteArray}{h:Nat}(hh:h≤s.size):YF prog (Instr.sliceAt 9 (.string s) none (some (.I (h:Int))) none) σ (.string (s.extract 0 h)):=fun w _=>by
 rw[run_sliceAt_string (h:=underlying9)];have h1:(h:Int)≤s.size:=by omega
 simp[Instr.slice,run_underlying underlying9,Instr.sliceBounds,run_sliceBound,h1,Result.andThen]
omit [G9] in
theorem Vy {s:ByteArray}{l:Nat}(hl:l≤s.size):YF prog (Instr.sliceAt 9 (.string s) (some (.I (l:Int))) none none) σ (.string (s.extract l s.size)):=fun w _=>by
 rw[run_sliceAt_string (h:=underlying9)];have h1:(l:Int)≤s.size:=by omega
 simp[Instr.slice,run_underlying underlying9,Instr.sliceBounds,run_sliceBound,h1,Result.andThen]
omit [G9] in
theorem byte_at {s:ByteArray}{k:Nat}(hk:k<s.size):∃u,s.data[k]?=some u∧s.data.toList[k]?=some u:=⟨s.data[k]'hk,by rw[Aj2],by rw[AjJ,Aj2]⟩
theorem Ov {s:ByteArray}(hb:s.size≤4611686018427387904)(h:R (.returned (.I (AS s))) σ):Spec prog 179 #[.string s] σ R:=by
 have hlen:s.data.toList.length=s.size:=AjA (xs:=s.data);refine Jk.start ?_
 suffices H:∀g k:Nat,s.size-k=g→k≤s.size→(∀j u,j<k→s.data.toList[j]?=some u→D7 u=true)→Jk.Fm R s k σ from H s.size 0 rfl (AiR _) (fun j u hj=>by omega)
 intro g
 induction g with
 | zero=>
  intro k hg hk h1;have e:AS s=k:=IB (by omega) h1 (fun u hu=>by have:=(List.getElem?_eq_some_iff.1 hu).1;omega);rw[e]at h;exact Jk.As ⟨fun Aq=>by omega,fun _=>h⟩
 | succ g ih=>
  intro k hg hk h1;obtain⟨u,hu,EG⟩:=byte_at (show k<s.size by omega);have stop:D7 u=false→R (.returned (.I k)) σ:=fun hd=>by
   have e:AS s=k:=IB (by omega) h1 (fun v hv=>by rw[EG]at hv;cases hv;exact hd);rw[e]at h;exact h
  refine Jk.As ⟨fun _=>⟨u,by omega,by simpa using hu,aX.start ⟨fun kE=>⟨_,rfl,fun ht=>?_,fun hf=>stop ?_⟩,fun kE=>⟨false,rfl,⟨fun ht=>(by cases ht),fun _=>stop ?_⟩⟩⟩⟩,fun hh=>by omega⟩
  ·refine⟨AJ (by omega:k<s.size) hb,ih (k+1) (by omega) (by omega) fun j v hj hv=>?_⟩;by_cases eV:j=k
   ·rw[eV,EG]at hv;cases hv;have:=AiP ht;exact Aia (by omega)
   ·exact h1 j v (by omega) hv
  ·have:=Aio hf;exact AiZ (by omega)
  ·exact AiZ (by omega)
end
abbrev KD (n:Nd)(p:Option Addr)(k c:Nat)(q:Option Addr)(m d:Nat):Value:=.agg #[.I n.kind,.I n.op,.string n.text,.slice p k c,.I n.width,.I n.back,.I n.BW,.slice q m d,.bool n.bool,.I n.parts]
def CY (n:Nd):Nd:=
 if n.kind=1 then⟨n.kind,0,n.text,[],0,0,0,[],false,0⟩
 else if n.kind=2 then⟨n.kind,0,ByteArray.mk #[],[],0,n.back,0,[],false,0⟩
 else if n.kind=3 then⟨n.kind,0,ByteArray.mk #[],[],n.width,n.back,0,[],false,0⟩
 else if n.kind=4 then⟨n.kind,n.op,ByteArray.mk #[],[],0,0,0,[],false,n.parts⟩
 else if n.kind=5 then⟨n.kind,n.op,ByteArray.mk #[],[],0,0,n.BW,[],false,n.parts⟩
 else if n.kind=6 then⟨n.kind,n.op,ByteArray.mk #[],[],0,0,n.BW,[],n.bool,n.parts⟩
 else⟨n.kind,0,ByteArray.mk #[],[],0,0,0,[],false,n.parts⟩
theorem yw:∀w,(Go.sizeOf 2).run prog w=.ok 1 w:=fun w=>by kernel_rfl
theorem SE:∀w,(Go.sizeOf 3).run prog w=.ok 1 w:=fun w=>by kernel_rfl
theorem AGP:∀w,(Go.sizeOf 4).run prog w=.ok 1 w:=fun w=>by kernel_rfl
theorem ASA:∀w,(Go.sizeOf 9).run prog w=.ok 1 w:=fun w=>by kernel_rfl
theorem yx:∀w,(Go.sizeOf 44).run prog w=.ok 10 w:=fun w=>by kernel_rfl
theorem SF {c:Array Value}{l:List Value}(h:l.length=c.size):Qp c 0 l=l.toArray:=by
 apply Array.ext_getElem?
 intro j;rw[VY l c 0 j (by omega)];split
 ·simp
 ·rename_i hj;rw[Array.getElem?_eq_none (by omega),List.getElem?_toArray,Ajk (by omega)]
section
variable [G9]{σ:Hp}{R:Rr}
omit [G9] in
theorem yy {τ:Hp}{b T:Nat}:∀{l:List Value} {c:Array Value} {o:Nat},τ b=some (.cells c T (0,0))→(∀j v,l[j]?=some v→c[o+j]?=some v)→Ae τ b o l
 | [],_,_,_,_=>trivial
 | v::l,c,o,hb,h=>⟨by unfold Hp.ld;rw[hb];simpa using h 0 v rfl,yy hb fun j u hu=>by have:=h (j+1) u (by simpa using hu);rwa[show o+(j+1)=o+1+j by omega]at this⟩
omit [G9] in
theorem pS {τ:Hp}{b:Nat}{o:Obj}(hb:σ b=none)(h:Ext σ τ):Ext σ (τ.set b o):=fun k u hk=>by
 rw[Hp.AM (fun e=>by rw[e,hb]at hk;cases hk)];exact h k u hk
set_option maxHeartbeats 4000000 in
theorem sG {n:Nd}{p q:Option Addr}{k c m d:Nat}(h:∀σ',Ext σ σ'→R (.returned (KD (CY n) none 0 0 none 0 0)) σ'):Spec prog 128 #[KD n p k c q m d] σ R:=by
 refine YJ.start fun _ _ b hb=>?_;have fin:∀(τ:Hp) (c:Array Value) (T:Nat),τ b=some (.cells c T (0,0))→Ext σ τ→c=#[.I (CY n).kind,.I (CY n).op,.string (CY n).text,.N,.I (CY n).width,.I (CY n).back,.I (CY n).BW,.N,.bool (CY n).bool,.I (CY n).parts]→
   ∃xx xy yA yB yC yD yE yF yG yH yI yJ yK yL,Ae τ b 0 [.I xx,.I xy,.string yA,.slice yB yC yD,.I yE,.I yF,.I yG,.slice yH yI yJ,.bool yK,.I yL]∧R (.returned (.agg #[.I xx,.I xy,.string yA,.slice yB yC yD,.I yE,.I yF,.I yG,.slice yH yI yJ,.bool yK,.I yL])) τ:=fun τ c T hτ hx hc=>
  ⟨_,_,_,_,_,_,_,_,_,_,_,_,_,_,yy hτ fun j v hv=>by rw[hc,AjV];simpa using hv,h τ hx⟩
 have st:∀{τ:Hp} {c:Array Value} {T U o:Nat} {v:Value} {Φ:Unit→Hp→Prop},(∀w,(Go.sizeOf U).run prog w=.ok 1 w)→τ b=some (.cells c T (0,0))→Ext σ τ→o+1≤c.size→v.cells=#[v]→v.oneCell'=true→
   (∀(τ':Hp) (c':Array Value),c'=Qp c o [v]→c'.size=c.size→τ' b=some (.cells c' T (0,0))→Ext σ τ'→Φ () τ')→AK prog (Instr.storeAt U (.pointer (aD b o)) v) τ Φ:=fun {τ c T U o v Φ} hz hτ hx ho h1 h2 hk=>by
  refine AK.store hz hτ (by rw[h1];rfl) (by simpa using ho) (fun u hu=>by rw[h1]at hu;simp at hu;rw[hu];exact h2) ?_;rw[h1];exact hk _ _ rfl (IV _ _ _) (Hp.AA _ _ _) (pS hb hx)
 have st0:∀{Φ:Unit→Hp→Prop},(∀(τ:Hp) (c:Array Value),c=#[.I n.kind,.I 0,(.string (ByteArray.mk #[])),.N,.I 0,.I 0,.I 0,.N,.bool false,.I 0]→c.size=10→τ b=some (.cells c 44 (0,0))→Ext σ τ→Φ () τ)→
   AK prog (Instr.storeAt 44 (.pointer (aD b 0)) (.agg #[.I n.kind,.I 0,(.string (ByteArray.mk #[])),.N,.I 0,.I 0,.I 0,.N,.bool false,.I 0])) (Hp.set σ b (.cells #[.I 0,.I 0,(.string (ByteArray.mk #[])),.N,.I 0,.I 0,.I 0,.N,.bool false,.I 0] 44 (0,0))) Φ:=fun {Φ} hk=>by
  refine AK.store yx (Hp.AA _ _ _) rfl (by simp) (by simp[Value.cells,Value.oneCell']) ?_;exact hk _ _ (SF rfl) (by rw[IV];rfl) (Hp.AA _ _ _) (pS hb (Ext.set hb))
 refine st0 fun τ c0 e0 z0 g0 x0=>?_;refine⟨fun h1=>?_,fun h1=>⟨fun h2=>?_,fun h2=>⟨fun h3=>?_,fun h3=>⟨fun h4=>?_,fun h4=>⟨fun h5=>?_,fun h5=>⟨fun h6=>?_,fun h6=>?_⟩⟩⟩⟩⟩⟩
 ·refine st ASA g0 x0 (by omega) rfl rfl fun τ1 c1 e1 z1 g1 x1=>fin τ1 c1 _ g1 x1 ?_;subst e0 e1;unfold CY;simp only[h1,if_true];rfl
 ·refine st yw g0 x0 (by omega) rfl rfl fun τ1 c1 e1 z1 g1 x1=>fin τ1 c1 _ g1 x1 ?_;subst e0 e1;unfold CY;simp only[h2,if_true];rfl
 ·refine st yw g0 x0 (by omega) rfl rfl fun τ1 c1 e1 z1 g1 x1=>?_;refine st yw g1 x1 (by omega) rfl rfl fun τ2 c2 e2 z2 g2 x2=>fin τ2 c2 _ g2 x2 ?_;subst e0 e1 e2;unfold CY;simp only[h3,if_true];rfl
 ·refine st SE g0 x0 (by omega) rfl rfl fun τ1 c1 e1 z1 g1 x1=>?_;refine st SE g1 x1 (by omega) rfl rfl fun τ2 c2 e2 z2 g2 x2=>fin τ2 c2 _ g2 x2 ?_;subst e0 e1 e2;unfold CY;simp only[h4,if_true];rfl
 ·refine st SE g0 x0 (by omega) rfl rfl fun τ1 c1 e1 z1 g1 x1=>?_;refine st SE g1 x1 (by omega) rfl rfl fun τ2 c2 e2 z2 g2 x2=>?_;refine st SE g2 x2 (by omega) rfl rfl fun τ3 c3 e3 z3 g3 x3=>fin τ3 c3 _ g3 x3 ?_;subst e0 e1 e2 e3;unfold CY;simp only[h5,if_true];rfl
 ·refine st SE g0 x0 (by omega) rfl rfl fun τ1 c1 e1 z1 g1 x1=>?_;refine st SE g1 x1 (by omega) rfl rfl fun τ2 c2 e2 z2 g2 x2=>?_;refine st AGP g2 x2 (by omega) rfl rfl fun τ3 c3 e3 z3 g3 x3=>?_;refine st SE g3 x3 (by omega) rfl rfl fun τ4 c4 e4 z4 g4 x4=>fin τ4 c4 _ g4 x4 ?_;subst e0 e1 e2 e3 e4;unfold CY;simp only[h6,if_true];rfl
 ·refine st SE g0 x0 (by omega) rfl rfl fun τ1 c1 e1 z1 g1 x1=>fin τ1 c1 _ g1 x1 ?_;subst e0 e1;unfold CY;simp only[h1,h2,h3,h4,h5,h6,if_false];rfl
end
section
variable {σ:Hp}{R:Rr}
theorem Ej {k:Int}(h:R (.returned (.bool (BN k))) σ):Spec prog 132 #[.I k] σ R:=by
 refine Np.start ⟨fun h1=>?_,fun h1=>?_⟩
 ·rw[show BN k=decide (k≤10) by unfold BN;rw[Aia h1];rfl]at h;exact h
 ·rw[show BN k=false by unfold BN;rw[AiZ h1];rfl]at h;exact h
theorem Up {k:Int}(h:R (.returned (.bool (decide (11≤k∧k≤13)))) σ):Spec prog 136 #[.I k] σ R:=by
 refine W8.start ⟨fun h1=>?_,fun h1=>?_⟩
 ·rw[show decide (11≤k∧k≤13)=decide (k≤13) from Ai9.2 ⟨fun h=>h.2,fun h=>⟨h1,h⟩⟩]at h;exact h
 ·rw[show decide (11≤k∧k≤13)=false from AiZ (fun hh=>h1 hh.1)]at h;exact h
theorem Tk {v l:Int}(h:R (.returned (.bool (Lp v l))) σ):Spec prog 131 #[.I v,.I l] σ R:=by
 refine W3.start ⟨fun h1=>?_,fun h1=>?_⟩
 ·rw[show Lp v l=decide (v<2147483648) by unfold Lp;rw[Aia h1];rfl]at h;exact h
 ·rw[show Lp v l=false by unfold Lp;rw[AiZ h1];rfl]at h;exact h
theorem ax {k:Int}(h:R (.returned (.bool (decide (1≤k∧k≤4)))) σ):Spec prog 133 #[.I k] σ R:=by
 refine YK.start ⟨fun h1=>?_,fun h1=>?_⟩
 ·rw[show decide (1≤k∧k≤4)=decide (k≤4) from Ai9.2 ⟨fun h=>h.2,fun h=>⟨h1,h⟩⟩]at h;exact h
 ·rw[show decide (1≤k∧k≤4)=false from AiZ (fun hh=>h1 hh.1)]at h;exact h
theorem ay {s:ByteArray}(h:R (.returned (.bool (DC s))) σ):Spec prog 134 #[.string s] σ R:=by
 refine YC.start (Oh ?_);exact⟨_,rfl,h⟩
theorem Jt.at {p:Option Addr}{n i:Nat}{ms:List Mt}{x:Mt}(hr:AT 3 Jt σ p n ms)(hx:ms[i]?=some x):∃b o,p=some ⟨b,o,none⟩∧Ae σ b (o+i*3) [.I x.kind,.string x.name,.string x.val]:=by
 obtain⟨b,o,vs,hp,rfl,hl⟩:=AT.idx hr hx;exact⟨b,o,hp,hl⟩
def Sx (m:Mt):Bool:=decide (1≤m.kind∧m.kind≤4)&&DC m.name&&decide (m.val.size≤256)
theorem il {p:Option Addr}{n c:Nat}{ms:List Mt}(hr:AT 3 Jt σ p n ms)(h:R (.returned (.I (HW DC ms))) σ):Spec prog 78 #[.slice p n c] σ R:=by
 have hl:ms.length=n:=hr.1;refine Ij.start ⟨fun h8=>?_,fun h8=>?_⟩
 ·rw[show HW DC ms=41 by unfold HW;rw[AiL (by omega)]]at h;exact h
 have hm:HW DC ms=if ms.all Sx then 0 else 40:=by unfold HW;rw[AiK (by omega)];rfl
 rw[hm]at h
 suffices H:∀g k:Nat,n-k=g→k≤n→ms.all Sx=(ms.drop k).all Sx→Ij.Nb R p n c n k σ from H n 0 rfl (AiR _) rfl
 intro g
 induction g with
 | zero=>
  intro k hg hk he;rw[Aib (by omega)]at he;rw[he]at h;exact Ij.KK ⟨fun Aq=>by omega,fun _=>h⟩
 | succ g ih=>
  intro k hg hk he;have Ei:k<n:=by omega
  obtain⟨x,hx⟩:=hr.ex Ei;obtain⟨b,o,rfl,CF⟩:=Jt.at hr hx;rw[A0 hx,List.all_cons]at he;have bad:Sx x=false→R (.returned (.I 40)) σ:=fun hf=>by
   rw[hf]at he;rw[he]at h;exact h
  refine Ij.KK ⟨fun _=>⟨b,o,rfl,by omega,x.kind,x.name,x.val,by simpa using CF,fun _=>ax ⟨_,rfl,fun hf=>bad ?_,fun ht=>ay ⟨_,rfl,fun hf=>bad ?_,fun hn=>⟨fun hv=>bad ?_,fun hv=>⟨AJ Ei hr.big,ih (k+1) (by omega) (by omega) ?_⟩⟩⟩⟩⟩,fun hh=>by omega⟩
  ·unfold Sx;rw[hf];rfl
  ·unfold Sx;rw[hf];simp
  ·unfold Sx;rw[show decide (x.val.size≤256)=false from AiZ (by omega)];simp
  ·rw[he,show Sx x=true by unfold Sx;rw[ht,hn,show decide (x.val.size≤256)=true from Aia (by omega)];rfl,AjR]
end
section
variable {σ:Hp}{R:Rr}
theorem mX {n:Nd}{p q:Option Addr}{k c m d:Nat}(hr:G6 1 σ q m (n.names.map .string))(h:R (.returned (.bool (On DC n))) σ):Spec prog 129 #[KD n p k c q m d] σ R:=by
 have hl:n.names.length=m:=by have:=hr.1;simpa using this
 refine Ic.start fun _=>?_
 suffices H:∀g i:Nat,m-i=g→i≤m→n.names.all DC=(n.names.drop i).all DC→Ic.Q2 R n.kind n.op n.text p k c n.width n.back n.BW q m d n.bool n.parts q m d m i σ from H m 0 rfl (AiR _) rfl
 have H9:m≤4611686018427387904:=hr.2.1;intro g
 induction g with
 | zero=>
  intro i hg hi he;rw[Aib (by omega)]at he;have e:On DC n=(decide (m=0)||decide (n.BW≠0)):=by unfold On;rw[he,hl];rfl
  rw[e]at h;refine Ic.FO ⟨fun Aq=>by omega,fun _=>⟨fun h0=>?_,fun h0=>?_⟩⟩
  ·rw[Aia (show m=0 by omega)]at h;exact h
  ·rw[AiZ (show ¬m=0 by omega)]at h;exact h
 | succ g ih=>
  intro i hg hi he;have BF:i<m:=by omega
  obtain⟨x,hx⟩:∃x,n.names[i]?=some x:=⟨_,AiN (by omega)⟩;obtain⟨b,o,rfl,CF⟩:=G6.at1 hr (k:=i) (v:=.string x) (by rw[Ait,hx];rfl);rw[A0 hx,List.all_cons]at he;refine Ic.FO ⟨fun _=>⟨b,o,rfl,by omega,x,by simpa using CF,ay ⟨_,rfl,fun hf=>?_,fun ht=>⟨AJ BF H9,ih (i+1) (by omega) (by omega) ?_⟩⟩⟩,fun hh=>by omega⟩
  ·have e:On DC n=false:=by unfold On;rw[he,hf];rfl
   rw[e]at h;exact h
  ·rw[he,ht,AjR]
theorem yz {a b:ByteArray}:(ByteArray.toList a==ByteArray.toList b)=decide (a.data.toList=b.data.toList):=by
 rw[ByteArray.toList_eq,ByteArray.toList_eq];by_cases h:a.data.toList=b.data.toList
 ·simp[h]
 ·rw[AiZ h];exact beq_eq_false_iff_ne.2 h
theorem ASB {a b:ByteArray}:(ByteArray.toList a==ByteArray.toList b)=decide (a=b):=by
 rw[yz];exact Ai9.2 ⟨fun h=>ByteArray.ext (Aip.1 h),fun h=>by rw[h]⟩
def HZ (a b:Nd):Bool:=decide (a.kind=b.kind∧a.op=b.op∧a.text=b.text∧a.width=b.width∧a.back=b.back∧a.BW=b.BW∧a.bool=b.bool∧a.parts=b.parts)
theorem mY {a b:Nd}{p p' q q':Option Addr}{k c k' c' m d m' d':Nat}(h:R (.returned (.bool (HZ a b))) σ):Spec prog 127 #[KD a p k c q m d,KD b p' k' c' q' m' d'] σ R:=by
 have no:¬(a.kind=b.kind∧a.op=b.op∧a.text=b.text∧a.width=b.width∧a.back=b.back∧a.BW=b.BW∧a.bool=b.bool∧a.parts=b.parts)→R (.B false) σ:=fun hn=>by
  rw[show HZ a b=false from AiZ hn]at h;exact h
 have last:a.kind=b.kind∧a.op=b.op∧a.text=b.text∧a.width=b.width∧a.back=b.back∧a.BW=b.BW∧a.bool=b.bool→R (.returned (.bool (decide (a.parts=b.parts)))) σ:=fun hh=>by
  rw[show HZ a b=decide (a.parts=b.parts) from Ai9.2 ⟨fun g=>g.2.2.2.2.2.2.2,fun g=>⟨hh.1,hh.2.1,hh.2.2.1,hh.2.2.2.1,hh.2.2.2.2.1,hh.2.2.2.2.2.1,hh.2.2.2.2.2.2,g⟩⟩]at h;exact h
 refine UQ.start fun _ _=>⟨fun h1=>⟨fun h2=>⟨fun h3=>?_,fun h3=>no ?_⟩,fun h2=>no fun g=>h2 g.2.1⟩,fun h1=>no fun g=>h1 g.1⟩
 ·rw[ASB]at h3;have h3:=AiP h3;refine⟨fun h4=>⟨fun h5=>⟨fun h6=>⟨fun t1=>⟨fun t2=>last ⟨h1,h2,h3,h4,h5,h6,t1.trans t2.symm⟩,fun t2=>no fun g=>?_⟩,fun t1=>⟨fun t2=>no fun g=>?_,fun t2=>last ⟨h1,h2,h3,h4,h5,h6,t1.trans t2.symm⟩⟩⟩,fun h6=>no fun g=>h6 g.2.2.2.2.2.1⟩,fun h5=>no fun g=>h5 g.2.2.2.2.1⟩,fun h4=>no fun g=>h4 g.2.2.2.1⟩
  ·have:=g.2.2.2.2.2.2.1;rw[t1,t2]at this;cases this
  ·have:=g.2.2.2.2.2.2.1;rw[t1,t2]at this;cases this
 ·rw[ASB]at h3;exact fun g=>Aio h3 g.2.2.1
end
def E4 (s:ByteArray):Bool:=
 if AS s=0 then false else if 1<AS s∧s.data[0]?=some 48 then false else if AS s=s.size then decide (AS s≤15)
 else decide (s.data[AS s]?=some 46∧0<AS (s.extract (AS s+1) s.size)∧AS s+1+AS (s.extract (AS s+1) s.size)=s.size∧AS s+AS (s.extract (AS s+1) s.size)≤15)
theorem I3 {u:UInt8}{k:Nat}(hk:k<256):((u.toNat:Nat):Int)=k↔u=UInt8.ofNat k:=by
 constructor
 ·intro h;apply UInt8.toNat_inj.1
  rw[UInt8.toNat_ofNat'];omega
 ·rintro rfl
  rw[UInt8.toNat_ofNat'];omega
section
variable {σ:Hp}{R:Rr}
theorem Ya {s:ByteArray}(hb:s.size≤4611686018427387904)(h:R (.returned (.bool (E4 s))) σ):Spec prog 130 #[.string s] σ R:=by
 have hle:=My s;refine W2.start (Ov hb ⟨_,rfl,fun h0=>?_,fun h0=>⟨_,yu hle,?_⟩⟩)
 ·rw[show E4 s=false by unfold E4;rw[AiL (by omega)]]at h;exact h
 have J2:(s.extract 0 (AS s)).size=AS s:=by rw[Ai5];omega
 have tail:¬(1<AS s∧s.data[0]?=some 48)→Br ((AS s:Int)=(s.size:Int)) (R (.returned (.bool (decide ((AS s:Int)≤15)))) σ) (AG ((AS s:Int)+1)∧∃s24,YF prog (Instr.sliceAt 9 (.string s) (some (.I ((AS s:Int)+1))) none none) σ (.string s24)∧Spec prog 179 #[.string s24] σ (BB R (CI .i64 fun Kz AI=>∃u28:UInt8,0≤(AS s:Int)∧(ByteArray.data s)[Int.toNat (AS s:Int)]?=some u28∧Br (((u28.toNat:Int):Int)=46) (Br (0<Kz) (AG ((AS s:Int)+1)∧AG (((AS s:Int)+1)+Kz)∧Br (((((AS s:Int)+1)+Kz):Int)=(s.size:Int)) (AG ((AS s:Int)+Kz)∧R (.returned (.bool (decide ((((AS s:Int)+Kz):Int)≤15)))) AI) (R (.B false) AI)) (R (.B false) AI)) (R (.B false) AI)))):=fun hn=>by
  refine⟨fun he=>?_,fun he=>⟨by unfold AG;omega,s.extract (AS s+1) s.size,Vy (l:=AS s+1) (by omega),?_⟩⟩
  ·rw[show E4 s=decide ((AS s:Int)≤15) by unfold E4;rw[AiK (by omega),AiK hn,AiL (by omega)];exact Ai9.2 (by omega)]at h;exact h
  have AX2:(s.extract (AS s+1) s.size).size=s.size-(AS s+1):=by rw[Ai5];omega
  have hm:=My (s.extract (AS s+1) s.size);refine Ov (by omega) ?_;obtain⟨u,hu,_⟩:=byte_at (show AS s<s.size by omega);have hO:E4 s=decide (s.data[AS s]?=some 46∧0<AS (s.extract (AS s+1) s.size)∧AS s+1+AS (s.extract (AS s+1) s.size)=s.size∧AS s+AS (s.extract (AS s+1) s.size)≤15):=by unfold E4;rw[AiK (by omega),AiK hn,AiK (by omega)]
  rw[hO,hu]at h;generalize AS (s.extract (AS s+1) s.size)=m at *;have gW:=I3 (u:=u) (k:=46) (by decide);have no:¬(u=46∧0<m∧AS s+1+m=s.size∧AS s+m≤15)→R (.B false) σ:=fun hh=>by
   rw[AiZ (by rw[AiO];exact hh)]at h;exact h
  refine⟨_,rfl,u,by omega,by simpa using hu,fun dO=>⟨fun h0m=>⟨by unfold AG;omega,by unfold AG;omega,fun hs=>⟨by unfold AG;omega,?_⟩,fun hs=>no fun g=>hs (by omega)⟩,fun h0m=>no fun g=>h0m (by omega)⟩,fun dO=>no fun g=>dO (gW.2 g.1)⟩;rw[show decide (some u=some 46∧0<m∧AS s+1+m=s.size∧AS s+m≤15)=decide (((AS s:Int)+m)≤15) from Ai9.2 ⟨fun g=>by omega,fun g=>⟨by rw[gW.1 dO];rfl,by omega,by omega,by omega⟩⟩]at h;exact h
 refine Rx.start ⟨fun h1=>?_,fun h1=>⟨false,rfl,fun ht=>(by cases ht),fun _=>tail (by omega)⟩⟩;obtain⟨u,hu,_⟩:=byte_at (show 0<s.size by omega);have I9:=I3 (u:=u) (k:=48) (by decide);have EG:(s.extract 0 (AS s)).data[0]?=some u:=by
  rw[AjZ,AkH];rw[AiL (by have:s.data.size=s.size:=rfl;omega)];simpa using hu
 refine⟨u,by omega,by simpa using EG,_,rfl,fun ht=>?_,fun hf=>tail ?_⟩
 ·have:=I9.1 (AiP ht);rw[show E4 s=false by unfold E4;rw[AiK (by omega),AiL ⟨by omega,by rw[hu,this];rfl⟩]]at h;exact h
 ·rintro⟨_,g⟩
  rw[hu,AiO]at g;exact Aio hf (I9.2 g)
end
def E1 (n:Nd):Bool:=
 if n.kind=1 then E4 n.text else if n.kind=2 then Lp n.back 0 else if n.kind=3 then Lp n.width 1&&Lp n.back 0
 else if n.kind=4 then decide (n.parts=1∧1≤n.op∧n.op≤12)
 else if n.kind=5 then decide (n.parts=1∧1≤n.op∧n.op≤5∧(n.BW=0∨n.BW=1∨n.BW=2))
 else if n.kind=6 then decide (n.parts=2∧1≤n.op∧n.op≤13∧(n.BW=0∨n.BW=3∨n.BW=4))&&(!n.bool||BN n.op)
 else decide (n.kind=7∧n.parts=1)
def Ci (n:Nd):Bool:=HZ n (CY n)&&On DC n&&!(decide (0<n.mt.length)&&decide (n.kind≠2)&&decide (n.kind≠3))&&E1 n
section
variable {σ:Hp}{R:Rr}
theorem sH {n:Nd}{p q:Option Addr}{k c m d:Nat}(hk:n.mt.length=k)(hr:G6 1 σ q m (n.names.map .string))(hb:n.text.size≤4611686018427387904)(h:∀σ',Ext σ σ'→R (.returned (.bool (Ci n))) σ'):Spec prog 77 #[KD n p k c q m d] σ R:=by
 refine W0.start fun _=>sG fun σ1 hx=>⟨_,_,_,_,_,_,_,_,_,_,_,_,_,_,rfl,mY ⟨_,rfl,fun hf=>?_,fun ht=>mX (hr.mono hx) ⟨_,rfl,fun hf=>?_,fun hn=>?_⟩⟩⟩
 ·have:=h σ1 hx;rw[show Ci n=false by unfold Ci;rw[hf];rfl]at this;exact this
 ·have:=h σ1 hx;rw[show Ci n=false by unfold Ci;rw[ht,hf];rfl]at this;exact this
 have hh:=h σ1 hx;have e:Ci n=(!(decide (0<n.mt.length)&&decide (n.kind≠2)&&decide (n.kind≠3))&&E1 n):=by unfold Ci;rw[ht,hn];rfl
 rw[e]at hh;clear e h;have fin:¬(0<n.mt.length∧n.kind≠2∧n.kind≠3)→∀t,E1 n=t→R (.B t) σ1:=fun Cg t ht=>by
  have e2:(!(decide (0<n.mt.length)&&decide (n.kind≠2)&&decide (n.kind≠3)))=true:=by
   rw[Bool.not_eq_true',AjU];intro hc;simp only[AiS,AiW]at hc;exact Cg ⟨hc.1.1,hc.1.2,hc.2⟩
  rw[e2,AjR,ht]at hh;exact hh
 refine⟨fun hm=>⟨fun h2=>⟨fun h3=>?_,fun h3=>?_⟩,fun h2=>?_⟩,fun hm=>?_⟩
 ·rw[show(!(decide (0<n.mt.length)&&decide (n.kind≠2)&&decide (n.kind≠3)))=false by rw[Aia (show 0<n.mt.length by omega),Aia h2,Aia h3];rfl,AjN]at hh;exact hh
 all_goals
  have fin:=fin (by omega);clear hh ht hn;refine⟨fun k1=>Ya hb ⟨_,rfl,?_⟩,fun k1=>⟨fun k2=>Tk ⟨_,rfl,?_⟩,fun k2=>⟨fun k3=>Tk ⟨_,rfl,fun ht=>Tk ⟨_,rfl,?_⟩,fun hf=>?_⟩,fun k3=>⟨fun k4=>⟨fun hp=>⟨fun ho=>?_,fun ho=>?_⟩,fun hp=>?_⟩,fun k4=>⟨fun k5=>⟨fun hp=>⟨fun ho=>⟨fun A6=>⟨fun g0=>?_,fun g0=>⟨fun g1=>?_,fun g1=>?_⟩⟩,fun A6=>?_⟩,fun ho=>?_⟩,fun hp=>?_⟩,fun k5=>⟨fun k6=>⟨fun hp=>⟨fun ho=>⟨fun A6=>⟨fun g0=>⟨fun bf=>?_,fun bt=>Ej ⟨_,rfl,?_⟩⟩,fun g0=>⟨fun g3=>⟨fun bf=>?_,fun bt=>Ej ⟨_,rfl,?_⟩⟩,fun g3=>⟨fun g4=>⟨fun bf=>?_,fun bt=>Ej ⟨_,rfl,?_⟩⟩,fun g4=>?_⟩⟩⟩,fun A6=>?_⟩,fun ho=>?_⟩,fun hp=>?_⟩,fun k6=>⟨fun k7=>?_,fun k7=>?_⟩⟩⟩⟩⟩⟩⟩<;>(refine fin _ ?_;clear fin;unfold E1;simp[*])
end
section
variable {σ:Hp}{R:Rr}
abbrev tyV (x:Int×Int):Value:=.tuple #[.I x.1,.I x.2]
def Qe (n:Nd)(a:Int):Int×Int:=if a=(if n.op=11∨n.op=12 then 2 else 3) then(2,0) else(0,191)
def Uq (a:Int):Int×Int:=if a=2 then(2,0) else(0,191)
def VN (a:Int):Int×Int:=if a=3 then(0,191) else(a,0)
theorem mZ {w:Option Addr}{n:Nd}{p q r:Option Addr}{k c m d s t:Nat}{l:List Int}{a:Int}(hr:EP .i64 σ r s l)(ha:l[0]?=some a)(h:R (.returned (tyV (Qe n a))) σ):Spec prog 80 #[.pointer w,KD n p k c q m d,.slice r s t] σ R:=by
 have hs:l.length=s:=hr.1;have h0:=(List.getElem?_eq_some_iff.1 ha).1;obtain⟨b,o,rfl,CF⟩:=EP.at hr ha;have go:∀z:Int,(if n.op=11∨n.op=12 then 2 else 3)=z→DS.GL R (some ⟨b,o,none⟩) s t z σ:=fun z hz=>by
  unfold Qe at h;rw[hz]at h;refine DS.Fg ⟨b,o,rfl,by omega,a,by simpa using CF,fun Ah=>?_,fun heq=>?_⟩
  ·rw[AiK Ah]at h;exact h
  ·rw[AiL (Aig.1 heq)]at h;exact h
 exact DS.start fun _=>⟨fun h1=>go 2 (AiL (.inl h1)),fun h1=>⟨fun h2=>go 2 (AiL (.inr h2)),fun h2=>go 3 (AiK (by omega))⟩⟩
theorem sI {w:Option Addr}{n:Nd}{p q r:Option Addr}{k c m d s t:Nat}{l:List Int}{a:Int}(hr:EP .i64 σ r s l)(ha:l[0]?=some a)(h:R (.returned (tyV (Uq a))) σ):Spec prog 81 #[.pointer w,KD n p k c q m d,.slice r s t] σ R:=by
 have hs:l.length=s:=hr.1;have h0:=(List.getElem?_eq_some_iff.1 ha).1;obtain⟨b,o,rfl,CF⟩:=EP.at hr ha;unfold Uq at h;refine HG.start fun _=>⟨b,o,rfl,by omega,a,by simpa using CF,fun Ah=>?_,fun heq=>?_⟩
 ·rw[AiK Ah]at h;exact h
 ·rw[AiL (Aig.1 heq)]at h;exact h
theorem sJ {w:Option Addr}{n:Nd}{p q r:Option Addr}{k c m d s t:Nat}{l:List Int}{a:Int}(hr:EP .i64 σ r s l)(ha:l[0]?=some a)(h:R (.returned (tyV (VN a))) σ):Spec prog 83 #[.pointer w,KD n p k c q m d,.slice r s t] σ R:=by
 have hs:l.length=s:=hr.1;have h0:=(List.getElem?_eq_some_iff.1 ha).1;obtain⟨b,o,rfl,CF⟩:=EP.at hr ha;unfold VN at h;refine HR.start fun _=>⟨b,o,rfl,by omega,a,by simpa using CF,fun heq=>?_,fun Ah=>⟨by omega,a,by simpa using CF,?_⟩⟩
 ·rw[AiL heq]at h;exact h
 ·rw[AiK Ah]at h;exact h
end
section
variable {σ:Hp}{R:Rr}
def Q8 (n:Nd)(a b:Int):Int×Int:=if a=3∨b=3∨((11≤n.op∧n.op≤13∨n.BW≠0)∧¬(a=2∧b=2))∨(a=1∧b=1∧BN n.op=true∧n.bool=false) then(0,192) else(if a<b then b else a,0)
theorem sK {w:Option Addr}{n:Nd}{p q r:Option Addr}{k c m d s t:Nat}{l:List Int}{a b:Int}(hr:EP .i64 σ r s l)(ha:l[0]?=some a)(hb:l[1]?=some b)(h:R (.returned (tyV (Q8 n a b))) σ):Spec prog 82 #[.pointer w,KD n p k c q m d,.slice r s t] σ R:=by
 have hs:l.length=s:=hr.1;have h1:=(List.getElem?_eq_some_iff.1 hb).1;obtain⟨b1,o,rfl,CF⟩:=EP.at hr ha;obtain⟨_,_,he,iq⟩:=EP.at hr hb;cases he;have bad:a=3∨b=3∨((11≤n.op∧n.op≤13∨n.BW≠0)∧¬(a=2∧b=2))∨(a=1∧b=1∧BN n.op=true∧n.bool=false)→R (.T #[.I 0,.I 192]) σ:=fun hh=>by
  unfold Q8 at h;rw[AiL hh]at h;exact h
 have good:¬(a=3∨b=3∨((11≤n.op∧n.op≤13∨n.BW≠0)∧¬(a=2∧b=2))∨(a=1∧b=1∧BN n.op=true∧n.bool=false))→R (.T #[.I (if a<b then b else a),.I 0]) σ:=fun hh=>by
  unfold Q8 at h;rw[AiK hh]at h;exact h
 clear h;refine HI.start fun _=>⟨b1,o,rfl,by omega,a,by simpa using CF,by omega,b,by simpa using iq,?_⟩
 repeat' first
  | (apply Up;refine Exists.intro _ (And.intro rfl ?_))
  | (apply Ej;refine Exists.intro _ (And.intro rfl ?_))
  | (apply And.intro<;>intro _)
 all_goals first
  | (refine bad ?_;simp_all;done)
  | (refine good ?_;simp_all;done)
  | (refine bad ?_;simp_all;omega)
  | (refine good ?_;simp_all;omega)
end
theorem HG.en:Enters prog 81:=fun args w=>call81 args w
theorem Fe.en:Enters prog 208:=fun args w=>call208 args w
theorem Gd.en:Enters prog 233:=fun args w=>call233 args w
theorem HI.en:Enters prog 82:=fun args w=>call82 args w
theorem Fo.en:Enters prog 204:=fun args w=>call204 args w
theorem JI.en:Enters prog 213:=fun args w=>call213 args w
theorem Dp.en:Enters prog 55:=fun args w=>call55 args w
theorem DW.en:Enters prog 120:=fun args w=>call120 args w
theorem Az.en:Enters prog 121:=fun args w=>call121 args w
theorem HK.en:Enters prog 231:=fun args w=>call231 args w
theorem Fp.en:Enters prog 174:=fun args w=>call174 args w
theorem Fq.en:Enters prog 200:=fun args w=>call200 args w
theorem Ad.en:Enters prog 123:=fun args w=>call123 args w
theorem FP.en:Enters prog 125:=fun args w=>call125 args w
theorem Ie.en:Enters prog 167:=fun args w=>call167 args w
theorem GO.en:Enters prog 169:=fun args w=>call169 args w
theorem HO.en:Enters prog 170:=fun args w=>call170 args w
theorem HP.en:Enters prog 232:=fun args w=>call232 args w
theorem IS.en:Enters prog 236:=fun args w=>call236 args w
theorem DS.en:Enters prog 80:=fun args w=>call80 args w
theorem AX.en:Enters prog 124:=fun args w=>call124 args w
theorem Jm.en:Enters prog 168:=fun args w=>call168 args w
theorem Cf.en:Enters prog 126:=fun args w=>call126 args w
theorem R0.en:Enters prog 160:=fun args w=>call160 args w
theorem Ml.en:Enters prog 161:=fun args w=>call161 args w
theorem Fu.en:Enters prog 175:=fun args w=>call175 args w
theorem Fv.en:Enters prog 206:=fun args w=>call206 args w
theorem Gg.en:Enters prog 234:=fun args w=>call234 args w
theorem Mm.en:Enters prog 238:=fun args w=>call238 args w
theorem HR.en:Enters prog 83:=fun args w=>call83 args w
theorem AZ.en:Enters prog 122:=fun args w=>call122 args w
theorem Fz.en:Enters prog 135:=fun args w=>call135 args w
theorem Jq.en:Enters prog 171:=fun args w=>call171 args w
theorem C7.en:Enters prog 202:=fun args w=>call202 args w
instance:yX prog 78 9 3:=⟨underlying78,underlying9⟩
instance:ya.MpI prog 144 3 142:=⟨underlying144,underlying3⟩
instance:ya.MpI prog 201 3 166:=⟨underlying201,underlying3⟩
instance:yX prog 207 9 210:=⟨underlying207,underlying9⟩
instance:ya.MpI prog 212 3 211:=⟨underlying212,underlying3⟩
instance:yX prog 247 9 59:=⟨underlying247,underlying9⟩
end TwW
end
section
namespace TwW
open Go Go.MapKept Tw Go.RowKit Go.Proofs.Tryz
section
variable {P:Program}{σ σ':Hp}{R:Rr}
def ma (x:Int×Value)(n:Nat):MapEntry:={ key:=.I x.1,val:=x.2,born:=n }
def MI (σ:Hp)(m:Nat)(l:List (Int×Value)):Prop:=∃(bs:List Nat) (clock:Nat),bs.length=l.length∧ya.C8 σ m (List.zipWith ma l bs) clock
theorem MI.loc {m:Nat}{l:List (Int×Value)}(h:MI σ m l)(hx:σ' m=σ m):MI σ' m l:=let ⟨bs,c,h1,h2⟩:=h;⟨bs,c,h1,h2.loc hx⟩
theorem MI.known {m:Nat}{l:List (Int×Value)}(h:MI σ m l):σ m≠none:=let ⟨bs,c,h1,h2⟩:=h;by rw[h2.1];simp
theorem MI.fresh {m:Nat}:MI (σ.set m (.map #[] 0)) m []:=⟨[],0,rfl,ya.C8.fresh⟩
theorem MI.put {T K V:TypeId}[ya.MpI P T K V]{m:Nat}{l:List (Int×Value)}{x:Int}{v:Value}{Φ:Unit→Hp→Prop}(h:MI σ m l)(hn:∀a∈l,a.1≠x)
  (hΦ:∀o,MI (σ.set m o) m (l++[(x,v)])→Φ () (σ.set m o)):AK P (Instr.mapUpdate T (.map (some m)) (.I x) v) σ Φ:=by
 obtain⟨bs,clock,hb,hm⟩:=h;refine ya.Kw hm (fun Cg σ' hσ hm'=>?_) fun l1 e l2 hl he σ' hσ hm'=>?_
 ·subst hσ;refine hΦ _ ⟨bs++[clock],clock+1,by simp[hb],?_⟩;rw[List.zipWith_append hb.symm];exact hm'
 ·have zA:e∈List.zipWith ma l bs:=by rw[hl];simp
  obtain⟨i,hi⟩:=List.mem_iff_getElem?.1 zA;rw[List.getElem?_zipWith]at hi;cases zB:l[i]? with
  | none=>rw[zB]at hi;cases hi
  | some a=>
   cases hbi:bs[i]? with
   | none=>rw[zB,hbi]at hi;cases hi
   | some b=>
    rw[zB,hbi]at hi;simp only[AiO]at hi;subst hi;have:=hn a (AiM zB);simp only[ma,Value.int.injEq,true_and]at he;exact absurd he this
theorem MI.look {T K V:TypeId}[ya.MpI P T K V]{m:Nat}{l:List (Int×Value)}{x:Int}{z:Value}{Φ:Value→Hp→Prop}(h:MI σ m l)(hz:∀w,(zeroValue V).run P w=.ok z w)
  (h0:(∀a∈l,a.1≠x)→Φ z σ) (h1:∀v,(x,v)∈l→Φ v σ):AK P (Instr.lookup T (.map (some m)) (.I x) false) σ Φ:=by
 obtain⟨bs,clock,hb,hm⟩:=h;refine ya.Q4 hm hz (fun Cg=>h0 fun a ha hax=>?_) fun l1 e l2 hl he=>?_
 ·obtain⟨i,hi⟩:=List.mem_iff_getElem?.1 ha;have Aq:=(List.getElem?_eq_some_iff.1 hi).1;have hm:ma a (bs[i]'(by omega))∈List.zipWith ma l bs:=List.mem_iff_getElem?.2 ⟨i,by rw[List.getElem?_zipWith,hi,AiN (by omega)]⟩;exact Cg _ hm (by rw[←hax];rfl)
 ·have zA:e∈List.zipWith ma l bs:=by rw[hl];simp
  obtain⟨i,hi⟩:=List.mem_iff_getElem?.1 zA;rw[List.getElem?_zipWith]at hi;cases zB:l[i]? with
  | none=>rw[zB]at hi;cases hi
  | some a=>
   cases hbi:bs[i]? with
   | none=>rw[zB,hbi]at hi;cases hi
   | some b=>
    rw[zB,hbi]at hi;simp only[AiO]at hi;subst hi;simp only[ma,Value.int.injEq,true_and]at he;subst he;exact h1 a.2 (AiM zB)
def zC (τ σ:Hp)(m:Nat)(l:List (Int×Value)):Prop:=Ext τ σ∧τ m=none∧MI σ m l
theorem zC.fresh {τ:Hp}{m:Nat}(h:τ m=none):zC τ (τ.set m (.map #[] 0)) m []:=⟨.set h,h,MI.fresh⟩
theorem zC.alloc {τ:Hp}{m b:Nat}{l:List (Int×Value)}{o:Obj}(h:zC τ σ m l)(hb:σ b=none):zC (τ.set b o) (σ.set b o) m l:=by
 have Ah:m≠b:=fun e=>h.2.2.known (by rw[e];exact hb);refine⟨fun k u hk=>?_,by rw[Hp.AM Ah];exact h.2.1,h.2.2.loc (Hp.AM Ah)⟩;by_cases J3:k=b
 ·subst J3;rw[Hp.AA]at hk ⊢;exact hk
 ·rw[Hp.AM J3]at hk ⊢;exact h.1 _ _ hk
theorem zC.put {τ:Hp}{T K V:TypeId}[ya.MpI P T K V]{m:Nat}{l:List (Int×Value)}{x:Int}{v:Value}{Φ:Unit→Hp→Prop}(h:zC τ σ m l)(hn:∀a∈l,a.1≠x)
  (hΦ:∀σ',zC τ σ' m (l++[(x,v)])→Φ () σ'):AK P (Instr.mapUpdate T (.map (some m)) (.I x) v) σ Φ:=
 h.2.2.put hn fun o ho=>hΦ _ ⟨fun k u hk=>by rw[Hp.AM (fun e=>by rw[e,h.2.1]at hk;cases hk)];exact h.1 _ _ hk,h.2.1,ho⟩
section
variable {α:Type}
theorem Yb {l:List (ByteArray×α)}{k:ByteArray}(h:∀a∈l,a.1≠k):DM l k=none:=by
 induction l with
 | nil=>rfl
 | cons a l ih=>rw[DM,AiK (h a (by simp))];exact ih fun b hb=>h b (AiX _ hb)
theorem az {l m:List (ByteArray×α)}{k:ByteArray}{y:α}(h:∀a∈l,a.1≠k):DM (l++(k,y)::m) k=some y:=by
 induction l with
 | nil=>simp[DM]
 | cons a l ih=>rw[Ai1,DM,AiK (h a (by simp))];exact ih fun b hb=>h b (AiX _ hb)
theorem Tl {l:List (ByteArray×α)}{k:ByteArray}{y:α}(h:∀a∈l,a.1≠k):KC l k y=l++[(k,y)]:=by
 induction l with
 | nil=>rfl
 | cons a l ih=>rw[KC,AiK (h a (by simp)),ih fun b hb=>h b (AiX _ hb)];rfl
theorem iu {l m:List (ByteArray×α)}{k:ByteArray}{y z:α}(h:∀a∈l,a.1≠k):KC (l++(k,z)::m) k y=l++(k,y)::m:=by
 induction l with
 | nil=>simp[KC]
 | cons a l ih=>rw[Ai1,KC,AiK (h a (by simp)),ih fun b hb=>h b (AiX _ hb)];rfl
def MS (E:Value→α→Prop)(σ:Hp)(m:Nat)(L:List (ByteArray×α)):Prop:=
 ∃(l:List MapEntry) (clock:Nat),C8 σ m l clock∧l.length=L.length∧∀(i:Nat) (e:MapEntry) (x:ByteArray×α),l[i]?=some e→L[i]?=some x→e.key=.string x.1∧E e.val x.2
theorem MS.mono {E:Value→α→Prop}{m:Nat}{L:List (ByteArray×α)}(h:MS E σ m L)(hx:Ext σ σ'):MS E σ' m L:=let ⟨l,c,h1,h2⟩:=h;⟨l,c,h1.mono hx,h2⟩
theorem MS.loc {E:Value→α→Prop}{m:Nat}{L:List (ByteArray×α)}(h:MS E σ m L)(hx:σ' m=σ m):MS E σ' m L:=let ⟨l,c,h1,h2⟩:=h;⟨l,c,h1.loc hx,h2⟩
theorem MS.imp {E E':Value→α→Prop}{m:Nat}{L:List (ByteArray×α)}(h:MS E σ m L)(hE:∀v x,E v x→E' v x):MS E' σ m L:=let ⟨l,c,h1,h2,h3⟩:=h;⟨l,c,h1,h2,fun i e x he hx=>⟨(h3 i e x he hx).1,hE _ _ (h3 i e x he hx).2⟩⟩
theorem MS.known {E:Value→α→Prop}{m:Nat}{L:List (ByteArray×α)}(h:MS E σ m L):σ m≠none:=let ⟨l,c,h1,h2⟩:=h;by rw[h1.1];simp
theorem MS.fresh {E:Value→α→Prop}{m:Nat}:MS E (σ.set m (.map #[] 0)) m []:=⟨[],0,C8.fresh,rfl,fun i e x he=>by simp at he⟩
theorem MS.len {E:Value→α→Prop}{T K V ty:TypeId}[yX P T K V]{m:Nat}{L:List (ByteArray×α)}(h:MS E σ m L):YF P (Builtin.len_ #[T] ty #[.map (some m)]) σ (.I L.length):=by
 obtain⟨l,c,h1,h2,h3⟩:=h;rw[←h2];exact yY h1
theorem Yc {E:Value→α→Prop}{l l1 l2:List MapEntry}{e:MapEntry}{L:List (ByteArray×α)}{s:ByteArray}(hn:(l.map (·.key)).Nodup)(h2:l.length=L.length)(h3:∀(i:Nat) (e:MapEntry) (x:ByteArray×α),l[i]?=some e→L[i]?=some x→e.key=.string x.1∧E e.val x.2)(hl:l=l1++e::l2)(he:e.key=.string s):
  ∃L1 x L2,L=L1++(s,x)::L2∧L1.length=l1.length∧(∀a∈L1,a.1≠s)∧E e.val x:=by
 subst hl;have Aq:l1.length<L.length:=by rw[←h2];simp
 have Ow:L=L.take l1.length++L[l1.length]::L.drop (l1.length+1):=by rw[List.getElem_cons_drop,Ai8]
 have hx:=h3 l1.length e L[l1.length] (by simp) (AiN _);rw[he]at hx;have hk:L[l1.length].1=s:=by simpa using hx.1.symm
 refine⟨L.take l1.length,L[l1.length].2,L.drop (l1.length+1),?_,by rw[AiU];omega,fun a ha has=>?_,hx.2⟩
 ·rw[←hk];exact Ow
 ·obtain⟨i,hi⟩:=List.mem_iff_getElem?.1 ha;rw[Ail]at hi;split at hi
  ·rename_i hil;have hle:(l1++e::l2)[i]?=some (l1[i]'hil):=by rw[Ai6 hil,AiN hil]
   have h4:=(h3 i _ a hle hi).1;rw[Aiq,Ai4,List.nodup_append]at hn;exact hn.2.2 _ (List.mem_map.2 ⟨l1[i]'hil,List.getElem_mem hil,rfl⟩) _ (by simp;exact .inl rfl) (by rw[h4,he,has])
  ·cases hi
theorem MS.ACs {E:Value→α→Prop}{l:List MapEntry}{L:List (ByteArray×α)}{s:ByteArray}(h2:l.length=L.length)(h3:∀(i:Nat) (e:MapEntry) (x:ByteArray×α),l[i]?=some e→L[i]?=some x→e.key=.string x.1∧E e.val x.2)(Cg:∀e∈l,e.key≠.string s):∀a∈L,a.1≠s:=fun a ha has=>by
 obtain⟨i,hi⟩:=List.mem_iff_getElem?.1 ha;have Aq:=(List.getElem?_eq_some_iff.1 hi).1;have:=(h3 i (l[i]'(by omega)) a (AiN _) hi).1;exact Cg _ (List.getElem_mem _) (by rw[this,has])
theorem MS.look {E:Value→α→Prop}{T K V:TypeId}[yX P T K V]{m:Nat}{L:List (ByteArray×α)}{s:ByteArray}{z:Value}{Φ:Value→Hp→Prop}(h:MS E σ m L)(hz:∀w,(zeroValue V).run P w=.ok z w)
  (h0:DM L s=none→Φ z σ) (h1:∀v x,DM L s=some x→E v x→Φ v σ):AK P (Instr.lookup T (.map (some m)) (.string s) false) σ Φ:=by
 obtain⟨l,c,hm,h2,h3⟩:=h;refine Q4 hm hz (fun Cg=>h0 (Yb (MS.ACs h2 h3 Cg))) fun l1 e l2 hl he=>?_;obtain⟨L1,x,L2,rfl,_,Cg,hE⟩:=Yc hm.nodup h2 h3 hl he;exact h1 e.val x (az Cg) hE
theorem MS.iw {E:Value→α→Prop}{T K V:TypeId}[t:yX P T K V]{m:Nat}{L:List (ByteArray×α)}{s:ByteArray}{z:Value}{Φ:Value→Hp→Prop}(h:MS E σ m L)(hz:∀w,(zeroValue V).run P w=.ok z w)
  (h0:DM L s=none→Φ (.tuple #[z,.bool false]) σ) (h1:∀v x,DM L s=some x→E v x→Φ (.tuple #[v,.bool true]) σ):AK P (Instr.lookup T (.map (some m)) (.string s) true) σ Φ:=by
 obtain⟨l,c,hm,h2,h3⟩:=h;rcases H8 (s:=s) hm.2.2 with ⟨hf,Cg⟩|⟨l1,e,l2,hl,he,hf⟩
 ·refine AK.pu (fun w hs=>?_) (h0 (Yb (MS.ACs h2 h3 Cg)));have:=hs _ _ hm.1;simp[Instr.lookup,run_underlying t.oD,run_getObj_map this,run_checkKey t.key (k:=.string s) trivial,run_findKey t.key hf,hz,Result.andThen]
 ·obtain⟨L1,x,L2,rfl,_,Cg,hE⟩:=Yc hm.nodup h2 h3 hl he;refine AK.pu (fun w hs=>?_) (h1 e.val x (az Cg) hE);have:=hs _ _ hm.1;simp[Instr.lookup,run_underlying t.oD,run_getObj_map this,run_checkKey t.key (k:=.string s) trivial,run_findKey t.key hf,Result.andThen]
theorem MS.put {E:Value→α→Prop}{T K V:TypeId}[yX P T K V]{m:Nat}{L:List (ByteArray×α)}{s:ByteArray}{v:Value}{x:α}{Φ:Unit→Hp→Prop}(h:MS E σ m L)(hv:E v x)
  (hΦ:∀o,MS E (σ.set m o) m (KC L s x)→Φ () (σ.set m o)):AK P (Instr.mapUpdate T (.map (some m)) (.string s) v) σ Φ:=by
 obtain⟨l,c,hm,h2,h3⟩:=h;refine Kw hm (fun Cg σ' hσ hm'=>?_) fun l1 e l2 hl he σ' hσ hm'=>?_
 ·subst hσ;refine hΦ _ ⟨_,_,hm',?_,fun i e y hi hy=>?_⟩
  ·rw[Tl (MS.ACs h2 h3 Cg)];simp[h2]
  ·rw[Tl (MS.ACs h2 h3 Cg)]at hy;rw[AjD]at hi hy;split at hi
   ·rename_i Aq;rw[AiL (by omega)]at hy;exact h3 i e y hi hy
   ·rename_i Aq;rw[AiK (by omega)]at hy;rw[←h2]at hy;cases hj:i-l.length with
    | zero=>
     rw[hj]at hi hy;simp only[Aim,AiO]at hi hy;subst hi;subst hy;exact⟨rfl,hv⟩
    | succ j=>rw[hj]at hi;simp at hi
 ·obtain⟨L1,y,L2,rfl,hlen,Cg,hE⟩:=Yc hm.nodup h2 h3 hl he;subst hσ;subst hl;refine hΦ _ ⟨_,_,hm',?_,fun i e' z hi hz=>?_⟩
  ·rw[iu Cg];simp at h2 ⊢;omega
  ·rw[iu Cg]at hz;by_cases hil:i=l1.length
   ·subst hil;rw[←hlen]at hz;simp at hi hz;subst hi;subst hz;exact⟨rfl,hv⟩
   ·have e1:(l1++Tw.RU s v e.born::l2)[i]?=(l1++e::l2)[i]?:=by
     rcases AkL i l1.length with h|h
     ·rw[Ai6 h,Ai6 h]
     ·obtain⟨k,rfl⟩:∃k,i=l1.length+(k+1):=⟨i-l1.length-1,by omega⟩;simp[AjE]
    have e2:(L1++(s,x)::L2)[i]?=(L1++(s,y)::L2)[i]?:=by
     rcases AkL i L1.length with h|h
     ·rw[Ai6 h,Ai6 h]
     ·obtain⟨k,rfl⟩:∃k,i=L1.length+(k+1):=⟨i-L1.length-1,by omega⟩;simp[AjE]
    exact h3 i e' z (by rw[←e1];exact hi) (by rw[←e2];exact hz)
end
end
end TwW
end
section
namespace TwW
open Go Tw Go.RowKit Go.Proofs.Tryz
def Mz (n:Nd)(l:List Int):Int×Int:=
 if n.kind=1 then(1,0) else if n.kind=2 then(2,0) else if n.kind=3 then(3,0) else if n.kind=4 then Qe n (l[0]?.getD 0) else if n.kind=5 then Uq (l[0]?.getD 0)
 else if n.kind=6 then Q8 n (l[0]?.getD 0) (l[1]?.getD 0) else VN (l[0]?.getD 0)
def BQ (n:Nd)(st:List Int):Int×List Int:=
 if Ci n=false∨(st.length:Int)<n.parts then(190,st) else if HW DC n.mt≠0 then(193,st) else
  ((Mz n (st.drop (st.length-n.parts.toNat))).2,st.take (st.length-n.parts.toNat)++[(Mz n (st.drop (st.length-n.parts.toNat))).1])
theorem FU {n:Nd}(h:Ci n=true):E1 n=true:=by
 unfold Ci at h;simp only[AiS]at h;exact h.2
theorem Pd {n:Nd}(h:Ci n=true):HZ n (CY n)=true:=by
 unfold Ci at h;simp only[AiS]at h;exact h.1.1.1
theorem Au.AM {s b:Nat}{o:Obj}{σ:Hp}{p:Option Addr}{n c:Nat}{cs:List Value}(ho:Au s σ p n c cs)(h:∀a,p=some a→a.block≠b):Au s (σ.set b o) p n c cs:=
 ⟨ho.1,ho.2.1,ho.2.2.imp id fun⟨b',o',arr,T,hp,hb,r⟩=>⟨b',o',arr,T,hp,by rw[Hp.AM (h _ hp)];exact hb,r⟩⟩
theorem ACt:∀w,(zeroValue 142).run prog w=.ok .nilFunc w:=fun w=>by
 have h:prog.info? 142=some t142:=by kernel_rfl
 simp[zeroValue,typeInfo,h];rfl
structure mc (σ0 σ:Hp)(wb:Nat)(p:Option Addr)(n c:Nat)(st:List Int):Prop where
 cell:σ wb=some (.cells #[.slice p n c] 106 (0,0))
 own:EJ .i64 σ p n c st
 off:∀a,p=some a→a.block≠wb∧σ0 a.block=none
 new:σ0 wb=none
 ext:Ext σ0 σ
section
variable {σ σ' σ0:Hp}{R:Rr}
theorem mc.mono {wb:Nat}{p:Option Addr}{n c:Nat}{st:List Int}(h:mc σ0 σ wb p n c st)(hx:Ext σ σ'):mc σ0 σ' wb p n c st:=⟨hx _ _ h.cell,h.own.mono hx,h.off,h.new,h.ext.trans hx⟩
theorem Tm {k:Int}(h:∀b,σ b=none→R (.returned (.func (.func 135) #[] #[.pointer (aD b 0)])) (σ.set b (.cells #[.I k] 3 (0,0)))):Spec prog 79 #[.I k] σ R:=W1.start h
theorem Q9 {n:Nd}{p q r:Option Addr}{k c m d s t b:Nat}{v:Int}(hb:σ b=some (.cells #[.I v] 3 (0,0)))(h:R (.returned (tyV (v,0))) σ):Spec prog 135 #[KD n p k c q m d,.slice r s t,.pointer (aD b 0)] σ R:=
 Fz.start fun _=>⟨v,Aj hb rfl,h⟩
theorem ACu:∀w,(Go.sizeOf 104).run prog w=.ok 1 w:=fun w=>by kernel_rfl
theorem sL {wb:Nat}{p q r:Option Addr}{k c m d j e:Nat}{st:List Int}{n:Nd}(hW:mc σ0 σ wb r j e st)(hm:AT 3 Jt σ0 p k n.mt)(hr:G6 1 σ0 q m (n.names.map .string))(hb:n.text.size≤4611686018427387904)(hj:j≤1000000000000)
  (h:∀r' j' e' σ',(BQ n st).1=0→mc σ0 σ' wb r' j' e' (BQ n st).2→R (.returned (.I 0)) σ') (h':∀σ',(BQ n st).1≠0→Ext σ0 σ'→R (.returned (.I (BQ n st).1)) σ') :
  Spec prog 48 #[.pointer (some ⟨wb,0,none⟩),KD n p k c q m d] σ R:=by
 have hk:n.mt.length=k:=hm.1;have hsl:st.length=j:=by have:=hW.own.1;simpa using this
 refine M8.start fun _=>sH hk (hr.mono hW.ext) hb fun σ1 Bc=>⟨_,rfl,fun hf=>?_,fun ht=>?_⟩
 ·have e1:BQ n st=(190,st):=by unfold BQ;rw[AiL (.inl hf)]
  rw[e1] at h';exact h' σ1 (by dsimp only;decide) (hW.ext.trans Bc)
 have uC:=hW.mono Bc;refine⟨wb,0,rfl,r,j,e,Aj uC.cell rfl,fun Aq=>?_,fun Zg=>il (hm.mono Jt.mono uC.ext) ⟨_,rfl,fun Ah=>?_,fun h0=>?_⟩⟩
 ·have e1:BQ n st=(190,st):=by unfold BQ;rw[AiL (.inr (by omega))]
  rw[e1] at h';exact h' σ1 (by dsimp only;decide) uC.ext
 ·have e1:BQ n st=(193,st):=by unfold BQ;rw[AiK (by rw[ht];simp;omega),AiL Ah]
  rw[e1] at h';exact h' σ1 (by dsimp only;decide) uC.ext
 have Ju:=Aig.1 h0;have eS:BQ n st=((Mz n (st.drop (st.length-n.parts.toNat))).2,st.take (st.length-n.parts.toNat)++[(Mz n (st.drop (st.length-n.parts.toNat))).1]):=by
  unfold BQ;rw[AiK (by rw[ht];simp;omega),AiK h0]
 rw[eS]at h h';dsimp only at h h';have B8:=FU ht;have AX3:0≤n.parts:=by
  unfold E1 at B8;have hp:=Pd ht;by_cases h1:n.kind=1
  ·unfold HZ CY at hp;simp[h1]at hp;omega
  by_cases h2:n.kind=2
  ·unfold HZ CY at hp;simp[h2]at hp;omega
  by_cases h3:n.kind=3
  ·unfold HZ CY at hp;simp[h3]at hp;omega
  rw[AiK h1,AiK h2,AiK h3]at B8;split at B8
  ·simp at B8;omega
  ·split at B8
   ·simp at B8;omega
   ·split at B8
    ·simp at B8;omega
    ·simp at B8;omega
 obtain⟨t,hpt⟩:∃t:Nat,n.parts=t:=⟨n.parts.toNat,by omega⟩;have htj:t≤j:=by omega
 have htn:n.parts.toNat=t:=by omega
 rw[htn,hsl]at h h';refine G3 fun mb zD=>⟨mb,rfl,?_⟩;have s0:=zC.fresh zD;refine Tm fun b1 hb1=>⟨_,_,_,rfl,?_⟩;have s1:=s0.alloc (o:=.cells #[.I 1] 3 (0,0)) hb1;refine s1.put (by simp) fun σ2 s2=>Tm fun b2 bz=>⟨_,_,_,rfl,?_⟩;have s3:=s2.alloc (o:=.cells #[.I 2] 3 (0,0)) bz;refine s3.put (by simp) fun σ4 s4=>Tm fun b3 hb3=>⟨_,_,_,rfl,?_⟩;have s5:=s4.alloc (o:=.cells #[.I 3] 3 (0,0)) hb3;refine s5.put (by simp) fun σ6 s6=>s6.put (by simp) fun σ7 s7=>s7.put (by simp) fun σ8 s8=>s8.put (by simp) fun σ9 s9=>s9.put (by simp) fun σA sA=>?_;clear s0 s1 s3 s5 s6 s7 s8 s9;have n1:σ1 b1=none:=(Hp.C9 hb1).2;have n2:(σ1.set b1 (.cells #[.I 1] 3 (0,0))) b2=none:=Am s2.1 bz;have n3:((σ1.set b1 (.cells #[.I 1] 3 (0,0))).set b2 (.cells #[.I 2] 3 (0,0))) b3=none:=Am s4.1 hb3;have x1:Ext σ1 σA:=(Ext.set n1).trans ((Ext.set n2).trans ((Ext.set n3).trans sA.1));have c3:=sA.1 b3 _ (Hp.AA _ _ _);have c2:=sA.1 b2 _ ((Ext.set n3) _ _ (Hp.AA _ _ _));have c1:=sA.1 b1 _ ((Ext.set n3) _ _ ((Ext.set n2) _ _ (Hp.AA _ _ _)));have sM:=uC.mono x1;have hlA:=sA.2.2;clear s2 s4 sA n1 n2 n3 hb1 bz hb3;simp only[AjK,Ai1]at hlA;have e1:Int.toNat ((j:Int)-n.parts)=j-t:=by omega
 refine⟨r,j,e,Aj sM.cell rfl,by unfold AG;omega,r,j,e,Aj sM.cell rfl,by omega,?_⟩;have hce:j≤e:=Au.cap sM.own;have VM:EP .i64 σA (MK r (j-t) e 1) (j-(j-t)) (st.drop (j-t)):=by
  have:=AT.sub (i:=j-t) (m:=j-(j-t)) (EJ.rd sM.own) (by decide) (by omega) hce;rwa[AiQ (by rw[Aic];omega)]at this
 have VM:EP .i64 σA (MK r (Int.toNat ((j:Int)-n.parts)) e 1) (j-Int.toNat ((j:Int)-n.parts)) (st.drop (j-t)):=by rw[e1];exact VM
 have fin:∀x:Int×Int,x=Mz n (st.drop (j-t))→BB R (fun z lW=>∃ve Nf,z=(.tuple #[.I ve,.I Nf])∧LS lW wb 0 fun p66 vf od=>((0:Int)≤((j:Int)-n.parts)∧((j:Int)-n.parts)≤(od:Int))∧Al lW fun U0=>AK prog (Builtin.append_ #[104,104] 104 #[(.slice p66 (Int.toNat ((j:Int)-n.parts)) od),(.slice (aD U0 0) 1 1)]) (Hp.set lW U0 (.cells #[.I ve] 109 (0,0))) (CS fun p72 n72 c72 AIE=>AK prog (Instr.storeAt 104 (.pointer (aD wb 0)) (.slice p72 n72 c72)) AIE (fun _ AIF=>R (.returned (.I Nf)) AIF))) (.returned (tyV x)) σA:=fun x hx=>by
  rw[←hx]at h h';refine⟨x.1,x.2,rfl,r,j,e,Aj sM.cell rfl,by omega,fun U0 zF=>?_⟩;rw[e1];have DB:=(Au.take (m:=j-t) sM.own (by omega)).mono (Ext.set (o:=.cells #[.I x.1] 109 (0,0)) zF);refine DT DB (YT (f:=.int .i64) (x:=x.1) (Hp.AA _ _ _)) G7.VZ (by omega) fun p' c' σB hoB hxB=>⟨_,_,_,rfl,?_⟩;have hwb:∀a,r=some a→wb≠a.block:=fun a ha=>AjI (sM.off a ha).1;have zG:wb≠U0:=fun e=>by rw[←e,sM.cell]at zF;cases zF
  obtain⟨g1,g2⟩:=AN.1 (hxB wb _ (AN.2 ⟨hwb,(Ext.set zF) _ _ sM.cell⟩));have hE0:Ext σ0 (σB.del p'):=fun k u hk=>hxB k u (AN.2 ⟨fun a ha kF=>(by rw[kF,(sM.off a ha).2]at hk;cases hk),(Ext.set zF) _ _ (sM.ext _ _ hk)⟩);refine AK.store ACu g2 rfl (by simp) (by simp[Value.cells,Value.oneCell']) ?_;have Tn:mc σ0 (σB.set wb (.cells (Qp #[.slice r j e] 0 (Value.slice p' (j-t+1) c').cells.toList) 106 (0,0))) wb p' (j-t+1) c' (st.take (j-t)++[x.1]):=by
   refine⟨by rw[Hp.AA];simp[Qp,Value.cells],?_,fun a ha=>⟨fun e=>g1 a ha e.symm,?_⟩,sM.new,fun k u hk=>?_⟩
   ·have:=Au.AM (b:=wb) (o:=.cells (Qp #[.slice r j e] 0 (Value.slice p' (j-t+1) c').cells.toList) 106 (0,0)) hoB (fun a ha e=>g1 a ha e.symm);unfold EJ;rw[Aiq,List.map_take];simpa using this
   ·cases hh:σ0 a.block with
    | none=>rfl
    | some u=>exact absurd rfl ((AN.1 (hE0 _ _ hh)).1 a ha)
   ·rw[Hp.AM (fun e=>by rw[e,sM.new]at hk;cases hk)];exact(AN.1 (hE0 _ _ hk)).2
  by_cases hz:x.2=0
  ·rw[hz];exact h _ _ _ _ hz Tn
  ·exact h' _ hz Tn.ext
 have part:∀i,i<t→∃v,(st.drop (j-t))[i]?=some v:=fun i hi=>⟨_,AiN (by rw[Aic];omega)⟩;refine hlA.look ACt (fun Cg=>?_) fun v hv=>⟨v,rfl,Kp.Hs (.refl _),?_⟩
 ·exfalso;unfold E1 at B8;have g:=fun i=>Cg i;simp only[AiT,Air,or_false,forall_eq_or_imp,forall_eq]at Cg;obtain⟨a1,a2,a3,a4,a5,a6,a7⟩:=Cg;rw[AiK (AjI a1),AiK (AjI a2),AiK (AjI a3),AiK (AjI a4),AiK (AjI a5),AiK (AjI a6)]at B8;exact a7 (AiP B8).1.symm
 simp only[AiT,Air,or_false,Ajr]at hv;rcases hv with ⟨hn,rfl⟩|⟨hn,rfl⟩|⟨hn,rfl⟩|⟨hn,rfl⟩|⟨hn,rfl⟩|⟨hn,rfl⟩|⟨hn,rfl⟩
 ·exact⟨135,_,_,rfl,Fz.en,Q9 c1 (fin _ (by unfold Mz;rw[AiL hn]))⟩
 ·exact⟨135,_,_,rfl,Fz.en,Q9 c2 (fin _ (by unfold Mz;rw[AiK (by omega),AiL hn]))⟩
 ·exact⟨135,_,_,rfl,Fz.en,Q9 c3 (fin _ (by unfold Mz;rw[AiK (by omega),AiK (by omega),AiL hn]))⟩
 ·have ht1:t=1:=by unfold E1 at B8;simp[hn]at B8;omega
  obtain⟨v,hv⟩:=part 0 (by omega);exact⟨80,_,_,rfl,DS.en,mZ VM hv (fin _ (by unfold Mz;rw[AiK (by omega),AiK (by omega),AiK (by omega),AiL hn,hv];rfl))⟩
 ·have ht1:t=1:=by unfold E1 at B8;simp[hn]at B8;omega
  obtain⟨v,hv⟩:=part 0 (by omega);exact⟨81,_,_,rfl,HG.en,sI VM hv (fin _ (by unfold Mz;rw[AiK (by omega),AiK (by omega),AiK (by omega),AiK (by omega),AiL hn,hv];rfl))⟩
 ·have ht1:t=2:=by unfold E1 at B8;simp[hn]at B8;omega
  obtain⟨v,hv⟩:=part 0 (by omega);obtain⟨u,hu⟩:=part 1 (by omega);exact⟨82,_,_,rfl,HI.en,sK VM hv hu (fin _ (by unfold Mz;rw[AiK (by omega),AiK (by omega),AiK (by omega),AiK (by omega),AiK (by omega),AiL hn,hv,hu];rfl))⟩
 ·have ht1:t=1:=by unfold E1 at B8;simp[hn]at B8;omega
  obtain⟨v,hv⟩:=part 0 (by omega);exact⟨83,_,_,rfl,HR.en,sJ VM hv (fin _ (by unfold Mz;rw[AiK (by omega),AiK (by omega),AiK (by omega),AiK (by omega),AiK (by omega),AiK (by omega),hv];rfl))⟩
def DA:List Nd→List Int→Option (List Int)
 | [],st=>some st
 | n::t,st=>if(BQ n st).1=0 then DA t (BQ n st).2 else none
def zH (t:List Nd):Option (List Int)→Option Int
 | some [k]=>if t.length≤4096 then some k else none
 | _=>none
def I4 (t:List Nd):Option Int:=zH t (DA t [])
theorem GF.at {p:Option Addr}{n i:Nat}{t:List Nd}{x:Nd}(hr:AT 10 GF σ p n t)(hx:t[i]?=some x):∃b o p1 k c q m d,p=some ⟨b,o,none⟩∧Ae σ b (o+i*10) [.I x.kind,.I x.op,.string x.text,.slice p1 k c,.I x.width,.I x.back,.I x.BW,.slice q m d,.bool x.bool,.I x.parts]∧AT 3 Jt σ p1 k x.mt∧G6 1 σ q m (x.names.map .string):=by
 obtain⟨b,o,vs,hp,⟨p1,k,c,q,m,d,rfl,h1,h2⟩,hl⟩:=AT.idx hr hx;exact⟨b,o,p1,k,c,q,m,d,hp,hl,h1,h2⟩
theorem zI {n:Nd}{st:List Int}:(BQ n st).2.length≤st.length+1:=by
 unfold BQ;split
 ·exact Nat.le_succ _
 ·split
  ·exact Nat.le_succ _
  ·simp only[Aid,AiU,AjG];omega
theorem RA {p:Option Addr}{n c:Nat}{t:List Nd}(hr:AT 10 GF σ p n t)(hn:n≤1000000000)(hb:∀x∈t,x.text.size≤4611686018427387904)
  (h:∀k σ',I4 t=some k→Ext σ σ'→R (.T #[.I k,.I 0,.I 0]) σ') (h':∀k j e σ',I4 t=none→e≠0→Ext σ σ'→R (.T #[.I k,.I j,.I e]) σ') :
  Spec prog 28 #[.slice p n c] σ R:=by
 have hl:t.length=n:=hr.1;refine Ia.start fun wb hwb=>?_
 suffices H:∀g k:Nat,∀r j e st σ',n-k=g→k≤n→j≤k→mc σ σ' wb r j e st→DA t []=DA (t.drop k) st→Ia.B4 R p n c (aD wb 0) p n c n k σ' from
  H n 0 none 0 0 [] _ rfl (AiR _) (AiV _) ⟨Hp.AA _ _ _,EJ.nil,fun a ha=>(by cases ha),hwb,.set hwb⟩ rfl
 intro g
 induction g with
 | zero=>
  intro k r j e st σ' hg hk hj hW he;rw[Aib (by omega)]at he;have E2:st.length=j:=by have:=hW.own.1;simpa using this
  have ht:I4 t=zH t (some st):=by unfold I4;rw[he];rfl
  refine Ia.Ap ⟨fun Aq=>by omega,fun _=>⟨wb,0,rfl,r,j,e,Aj hW.cell rfl,fun h1=>h' _ _ _ σ' ?_ (by decide) hW.ext,fun h1=>⟨fun H9=>h' _ _ _ σ' ?_ (by decide) hW.ext,fun TD=>?_⟩⟩⟩
  ·rw[ht]
   match st,E2 with
   | [],_=>rfl
   | [_],E2=>simp at E2;omega
   | _::_::_,_=>rfl
  ·rw[ht]
   match st,E2 with
   | [],_=>rfl
   | [_],E2=>exact AiK (by omega)
   | _::_::_,_=>rfl
  ·have j3:j=1:=by omega
   subst j3
   match st,E2 with
   | [x],_=>
    obtain⟨b,o,rfl,CF⟩:=EP.at (EJ.rd hW.own) (i:=0) (x:=x) rfl;exact⟨_,1,e,Aj hW.cell rfl,b,o,rfl,by omega,x,by simpa using CF,h x σ' (by rw[ht];exact AiL (by omega)) hW.ext⟩
 | succ g ih=>
  intro k r j e st σ' hg hk hj hW he;have Ei:k<n:=by omega
  obtain⟨x,hx⟩:=hr.ex Ei;obtain⟨b,o,p1,k1,c1,q1,m1,d1,rfl,CF,h1,h2⟩:=GF.at hr hx;rw[A0 hx,DA]at he;refine Ia.Ap ⟨fun _=>⟨b,o,rfl,by omega,_,_,_,_,_,_,_,_,_,_,_,_,_,_,by simpa using CF.mono hW.ext,fun _=>?_⟩,fun hh=>by omega⟩;refine sL hW h1 h2 (hb x (AiM hx)) (by omega) (fun r' j' e' σ2 h0 hW2=>⟨0,rfl,fun hh=>absurd rfl hh,fun _=>⟨AJ Ei hr.big,ih (k+1) r' j' e' _ σ2 (by omega) (by omega) ?_ hW2 ?_⟩⟩) fun σ2 h0 An=>⟨_,rfl,fun _=>h' _ _ _ σ2 ?_ h0 An,fun hh=>absurd h0 hh⟩
  ·have h3:=zI (n:=x) (st:=st);have h4:(BQ x st).2.length=j':=by have:=hW2.own.1;simpa using this
   have h5:st.length=j:=by have:=hW.own.1;simpa using this
   omega
  ·rw[he,AiL h0]
  ·unfold I4;rw[he,AiK h0];rfl
end
end TwW
end
section
namespace Go.Proofs
open Go.Shelf
def Tryz.ix:Go.Shelf.Ren:=⟨fun|143=>271|219=>295|217=>316|225=>317|224=>318|267=>319|266=>328|314=>329|n=>n,fun|9=>9|3=>3|4=>4|5=>5|46=>121|146=>355|51=>159|n=>n,fun|1=>1|n=>n⟩
theorem Tryz.ACv:Go.Proofs.Lays.n143 Tryz.prog Tryz.ix:={
 mixed:=by kernel_rfl
 f143:=Tryz.func271.trans (Aie some (by kernel_rfl))
 f217:=Tryz.func316.trans (Aie some (by kernel_rfl))
 f219:=Tryz.func295.trans (Aie some (by kernel_rfl))
 f224:=Tryz.func318.trans (Aie some (by kernel_rfl))
 f225:=Tryz.func317.trans (Aie some (by kernel_rfl))
 f266:=Tryz.func328.trans (Aie some (by kernel_rfl))
 f267:=Tryz.func319.trans (Aie some (by kernel_rfl))
 f314:=Tryz.func329.trans (Aie some (by kernel_rfl))
 t3:=Tryz.underlying3
 a3:=Tryz.isAgg3
 z3:=Tryz.sizeOf3
 v3:=Tryz.zeroValue3
 t4:=Tryz.underlying4
 a4:=Tryz.isAgg4
 z4:=Tryz.sizeOf4
 v4:=Tryz.zeroValue4
 t5:=Tryz.underlying5
 a5:=Tryz.isAgg5
 z5:=Tryz.sizeOf5
 v5:=Tryz.zeroValue5
 t9:=Tryz.underlying9
 a9:=Tryz.isAgg9
 z9:=Tryz.sizeOf9
 v9:=Tryz.zeroValue9
 t46:=Tryz.underlying121
 a46:=Tryz.isAgg121
 z46:=Tryz.sizeOf121
 v46:=Tryz.zeroValue121
 t51:=Tryz.underlying159
 a51:=Tryz.isAgg159
 z51:=Tryz.sizeOf159
 v51:=Tryz.zeroValue159
 t146:=Tryz.underlying355
 a146:=Tryz.isAgg355
 z146:=Tryz.sizeOf355
 v146:=Tryz.zeroValue355
 g1:=by kernel_rfl }
open Go.RowKit Go.Lib in
theorem Tryz.strings_Index (s sub:ByteArray)(m:Int)(w:World)(hs:s.size<4294967281)(hm:w.cell? ⟨1,0,none⟩=some (.I m)):
 Calls Tryz.prog 271 #[.string s,.string sub] w fun e w'=>e=.returned (.I (Lib.index s.data.toList sub.data.toList))∧w'=w:=Any.strings_Index Tryz.ACv s sub m w hs hm
def Tryz.iy:Go.Shelf.Ren:=⟨fun|146=>235|221=>250|268=>269|138=>270|143=>271|195=>292|197=>293|218=>294|219=>295|260=>315|217=>316|225=>317|224=>318|267=>319|266=>328|314=>329|n=>n,fun|9=>9|31=>42|3=>3|4=>4|0=>0|105=>319|21=>21|5=>5|46=>121|119=>351|139=>354|138=>353|146=>355|51=>159|n=>n,fun|1=>1|3=>11|4=>12|n=>n⟩
theorem Tryz.ACw:Go.Proofs.Lays.n146 Tryz.prog Tryz.iy:={
 mixed:=by kernel_rfl
 f138:=Tryz.func270.trans (Aie some (by kernel_rfl))
 f143:=Tryz.func271.trans (Aie some (by kernel_rfl))
 f146:=Tryz.func235.trans (Aie some (by kernel_rfl))
 f195:=Tryz.func292.trans (Aie some (by kernel_rfl))
 f197:=Tryz.func293.trans (Aie some (by kernel_rfl))
 f217:=Tryz.func316.trans (Aie some (by kernel_rfl))
 f218:=Tryz.func294.trans (Aie some (by kernel_rfl))
 f219:=Tryz.func295.trans (Aie some (by kernel_rfl))
 f221:=Tryz.func250.trans (Aie some (by kernel_rfl))
 f224:=Tryz.func318.trans (Aie some (by kernel_rfl))
 f225:=Tryz.func317.trans (Aie some (by kernel_rfl))
 f260:=Tryz.func315.trans (Aie some (by kernel_rfl))
 f266:=Tryz.func328.trans (Aie some (by kernel_rfl))
 f267:=Tryz.func319.trans (Aie some (by kernel_rfl))
 f268:=Tryz.func269.trans (Aie some (by kernel_rfl))
 f314:=Tryz.func329.trans (Aie some (by kernel_rfl))
 t0:=Tryz.underlying0
 a0:=Tryz.isAgg0
 z0:=Tryz.sizeOf0
 v0:=Tryz.zeroValue0
 t3:=Tryz.underlying3
 a3:=Tryz.isAgg3
 z3:=Tryz.sizeOf3
 v3:=Tryz.zeroValue3
 t4:=Tryz.underlying4
 a4:=Tryz.isAgg4
 z4:=Tryz.sizeOf4
 v4:=Tryz.zeroValue4
 t5:=Tryz.underlying5
 a5:=Tryz.isAgg5
 z5:=Tryz.sizeOf5
 v5:=Tryz.zeroValue5
 t9:=Tryz.underlying9
 a9:=Tryz.isAgg9
 z9:=Tryz.sizeOf9
 v9:=Tryz.zeroValue9
 t21:=Tryz.underlying21
 a21:=Tryz.isAgg21
 z21:=Tryz.sizeOf21
 v21:=Tryz.zeroValue21
 t31:=Tryz.underlying42
 a31:=Tryz.isAgg42
 z31:=Tryz.sizeOf42
 v31:=Tryz.zeroValue42
 t46:=Tryz.underlying121
 a46:=Tryz.isAgg121
 z46:=Tryz.sizeOf121
 v46:=Tryz.zeroValue121
 t51:=Tryz.underlying159
 a51:=Tryz.isAgg159
 z51:=Tryz.sizeOf159
 v51:=Tryz.zeroValue159
 t105:=Tryz.underlying319
 a105:=Tryz.isAgg319
 z105:=Tryz.sizeOf319
 v105:=Tryz.zeroValue319
 t119:=Tryz.underlying351
 a119:=Tryz.isAgg351
 z119:=Tryz.sizeOf351
 t138:=Tryz.underlying353
 a138:=Tryz.isAgg353
 z138:=Tryz.sizeOf353
 v138:=Tryz.zeroValue353
 t139:=Tryz.underlying354
 a139:=Tryz.isAgg354
 z139:=Tryz.sizeOf354
 v139:=Tryz.zeroValue354
 t146:=Tryz.underlying355
 a146:=Tryz.isAgg355
 z146:=Tryz.sizeOf355
 v146:=Tryz.zeroValue355
 g1:=by kernel_rfl
 g3:=by kernel_rfl
 g4:=by kernel_rfl }
open Go.RowKit Go.Lib in
theorem Tryz.strings_Split (s sep:ByteArray)(m:Int)(w:World)(hs:s.size<4294967281)(hm:w.cell? ⟨1,0,none⟩=some (.I m))(h1:1≤sep.size):
 Calls Tryz.prog 235 #[.string s,.string sep] w fun e w'=>
  e=.returned (.slice (some ⟨w.heap.size,0,none⟩) (Lib.countB s sep+1) (Lib.countB s sep+1))∧w'=w.alloc (.cells ((Lib.splitB sep 0 (Lib.countB s sep) s).map Value.string).toArray 9):=Any.strings_Split Tryz.ACw (by kernel_rfl) s sep m w hs hm h1
end Go.Proofs
end
section
namespace TwW
open Go Tw Go.RowKit Go.Proofs.Tryz
section
variable {P:Program}{f:FuncId}{args:Array Value}{σ σ':Hp}{R:Rr}
theorem Spec.below {v:Value}(h:∀w,Sat σ w→Calls P f args w fun e w'=>e=.returned v∧Below w.heap.size w w')(hR:R (.returned v) σ):Spec P f args σ R:=fun w F hs hF=>
 (h w hs).mono fun e w' ⟨he,hb⟩=>⟨σ,he▸hR,fun b o ho=>by
  have h1:=hs b o ho;rw[hb.block b (Array.getElem?_eq_some_iff.1 h1).1];exact h1,fun b hFb=>⟨(hF b hFb).2,hb.block b (hF b hFb).1⟩,⟨hb.os,hb.tape,fun h=>h.elim⟩,hb.output,hb.size⟩
theorem Spec.same {v:Value}(h:∀w,Sat σ w→Calls P f args w fun e w'=>e=.returned v∧w'=w)(hR:R (.returned v) σ):Spec P f args σ R:=
 Spec.below (fun w hs=>(h w hs).mono fun e w' ⟨he,hw⟩=>⟨he,hw▸Below.refl _ _⟩) hR
theorem Spec.AJo {o:Obj}{v:Nat→Value}(h:∀w,Sat σ w→Calls P f args w fun e w'=>e=.returned (v w.heap.size)∧w'=w.alloc o)(hR:∀b,σ b=none→R (.returned (v b)) (σ.set b o)):Spec P f args σ R:=fun w F hs hF=>
 (h w hs).mono fun e w' ⟨he,hw⟩=>⟨σ.set w.heap.size o,he▸hR _ (IW hs),by subst hw;exact Fin.alloc hs hF _ rfl (.same rfl rfl rfl) rfl⟩
theorem cell_of {w:World}{b o:Nat}{v:Value}(hs:Sat σ w)(h:σ.ld ⟨b,o,none⟩=some v):w.cell? ⟨b,o,none⟩=some v:=by
 have:=Z0 (ys:=[v]) hs ⟨h,trivial⟩ 0 v rfl;simpa[DH] using this
end
def SG:List Nat:=[4607182418800017408,4621819117588971520,4636737291354636288,4652007308841189376,4666723172467343360,4681608360884174848,4696837146684686336,4711630319722168320,4726483295884279808,4741671816366391296,4756540486875873280,4771362005757984768,4786511204640096256,4801453603149578240,4816244402031689728,4831355200913801216]
structure Gl (σ:Hp):Prop where
 len:∃m:Int,σ.ld ⟨1,0,none⟩=some (.I m)
 opt:σ.ld ⟨5,0,none⟩=some (.bool true)
 bits:σ.ld ⟨6,0,none⟩=some (.U 52)
 pow:∃b o n c,σ.ld ⟨9,0,none⟩=some (.slice (some ⟨b,o,none⟩) n c)∧16≤n∧∀i v,SG[i]?=some v→σ.ld ⟨b,o+i*1,none⟩=some (.float .f64 v)
theorem Gl.mono {σ σ':Hp}(h:Gl σ)(hx:Ext σ σ'):Gl σ':=⟨h.len.imp fun _=>hx.ld,hx.ld h.opt,hx.ld h.bits,let ⟨b,o,n,c,h1,h2,h3⟩:=h.pow;⟨b,o,n,c,hx.ld h1,h2,fun i v hv=>hx.ld (h3 i v hv)⟩⟩
section
variable {σ σ':Hp}{R:Rr}
theorem index_spec {s t:ByteArray}(hg:Gl σ)(hs:s.size<4294967281)(h:R (.returned (.I (Lib.index s.data.toList t.data.toList))) σ):Spec prog 271 #[.string s,.string t] σ R:=by
 obtain⟨m,hm⟩:=hg.len;exact Spec.same (fun w hw=>Go.Proofs.Tryz.strings_Index s t m w hs (cell_of hw hm)) h
theorem Ye {s:ByteArray}{c:UInt8}(hg:Gl σ)(hs:s.size<4294967281)(h:∀b T,σ b=none→R (.returned (.slice (aD b 0) (GX c s).length (GX c s).length)) (σ.set b (.cells ((GX c s).map Value.string).toArray T (0,0)))):Spec prog 235 #[.string s,.string ⟨#[c]⟩] σ R:=by
 obtain⟨m,hm⟩:=hg.len;have hl:(GX c s).length=Lib.countB s ⟨#[c]⟩+1:=Lib.splitB_all ⟨#[c]⟩ (AiV 1) 0 _ s rfl;have h':=fun b=>h b 9;rw[hl] at h';exact Spec.AJo (v:=fun b=>.slice (aD b 0) _ _) (fun w hw=>Go.Proofs.Tryz.strings_Split s ⟨#[c]⟩ m w hs (cell_of hw hm) (AiV 1)) h'
theorem me {s:ByteArray}{l h:Nat}(hl:l≤h)(hh:h≤s.size):YF prog (Instr.sliceAt 9 (.string s) (some (.I (l:Int))) (some (.I (h:Int))) none) σ (.string (s.extract l h)):=fun w _=>by
 rw[run_sliceAt_string (h:=underlying9)];have h1:(h:Int)≤s.size:=by omega
 have h2:(l:Int)≤h:=by omega
 simp[Instr.slice,run_underlying underlying9,Instr.sliceBounds,run_sliceBound,h1,h2,Result.andThen]
theorem iz {s t:ByteArray}(h:R (.returned (.bool (decide (t.size≤s.size∧s.extract 0 t.size=t)))) σ):Spec prog 290 #[.string s,.string t] σ R:=by
 refine KO.start (Dt.start ⟨fun hle=>⟨_,yu (by omega),_,rfl,?_⟩,fun hgt=>⟨_,rfl,?_⟩⟩)
 ·rw[mJ,show decide (s.extract 0 t.size=t)=decide (t.size≤s.size∧s.extract 0 t.size=t) from Ai9.2 ⟨fun h=>⟨by omega,h⟩,fun h=>h.2⟩];exact h
 ·rw[show false=decide (t.size≤s.size∧s.extract 0 t.size=t) from(AiZ fun hh=>hgt (by omega)).symm];exact h
theorem jA {s t:ByteArray}(hs:s.size≤4611686018427387904)(h:R (.returned (.bool (decide (t.size≤s.size∧s.extract (s.size-t.size) s.size=t)))) σ):Spec prog 291 #[.string s,.string t] σ R:=by
 refine KS.start (Dq.start ⟨fun hle=>⟨by unfold AG;omega,s.extract (s.size-t.size) s.size,?_,_,rfl,?_⟩,fun hgt=>⟨_,rfl,?_⟩⟩)
 ·rw[show((s.size:Nat):Int)-((t.size:Nat):Int)=((s.size-t.size:Nat):Int) by omega];exact Vy (by omega)
 ·rw[mJ,show decide (s.extract (s.size-t.size) s.size=t)=decide (t.size≤s.size∧s.extract (s.size-t.size) s.size=t) from Ai9.2 ⟨fun h=>⟨by omega,h⟩,fun h=>h.2⟩];exact h
 ·rw[show false=decide (t.size≤s.size∧s.extract (s.size-t.size) s.size=t) from(AiZ fun hh=>hgt (by omega)).symm];exact h
def ETx (_:Hp)(vs:List Value)(x:ByteArray):Prop:=vs=[.string x]
theorem ETx.mono:Ht ETx:=fun _ _ _ _ _ h=>h
abbrev pT:=AT 1 ETx
theorem pT.at {p:Option Addr}{n i:Nat}{ls:List ByteArray}{x:ByteArray}(hr:pT σ p n ls)(hx:ls[i]?=some x):∃b o,p=some ⟨b,o,none⟩∧σ.ld ⟨b,o+i*1,none⟩=some (.string x):=by
 obtain⟨b,o,vs,hp,rfl,hl⟩:=AT.idx hr hx;exact⟨b,o,hp,hl.1⟩
theorem pT.zJ {b:Nat}{T:TypeId}{L:List ByteArray}(h:σ b=some (.cells (L.map Value.string).toArray T (0,0)))(hb:L.length≤4611686018427387904):pT σ (aD b 0) L.length L:=by
 refine⟨rfl,L.map .string,⟨by simp,hb,.inr ⟨b,0,rfl,Ae.of fun j v hj=>?_⟩⟩,by simp,fun i x hx=>?_⟩
 ·rw[AjV];exact Aj h (by simpa using hj)
 ·have h1:(L.map Value.string)[i]?=some (.string x):=by rw[Ait,hx];rfl
  rw[AjX,A0 h1];rfl
theorem ACx {p:Option Addr}{n c:Nat}{l:List ByteArray}{s:ByteArray}(hg:Gl σ)(hr:pT σ p n l)(h0:0<n)(hc:n≤c)(hs:s.size<4294967281)(hl:∀x∈l,x.size≤4294967296)(h:R (.returned (.bool (uA l s))) σ):
  Spec prog 268 #[.agg #[.slice p n c],.string s] σ R:=by
 have hn:l.length=n:=hr.1;have H9:=hr.big;obtain⟨a,ha⟩:=hr.ex h0;obtain⟨z,hz⟩:=hr.ex (k:=n-1) (by omega);obtain⟨b,o,rfl,hla⟩:=pT.at hr ha;obtain⟨_,_,he,yr⟩:=pT.at hr hz;cases he;have ea:l.head?.getD ⟨#[]⟩=a:=by rw[AkF,ha];rfl
 have ez:l.getLast?.getD ⟨#[]⟩=z:=by rw[Ajc,hn,hz];rfl
 have e1:Int.toNat ((n:Int)-1)=n-1:=by omega
 have hsa:=hl a (AiM ha);have J2:=hl z (AiM hz);have eK:uA l s=if n=1 then decide (s=a) else if s.size<a.size+z.size∨s.extract 0 a.size≠a∨s.extract (s.size-z.size) s.size≠z then false else Zk l.tail.dropLast (s.extract a.size (s.size-z.size)):=by
  unfold uA;rw[ea,ez,hn]
 rw[eK]at h;refine FQ.start fun _=>⟨b,o,rfl,by omega,a,by simpa using hla,by unfold AG;omega,by omega,z,by rw[e1];exact yr,fun h1=>?_,fun h1=>?_⟩
 ·rw[AiL (by omega)]at h;rw[mJ];exact h
 rw[AiK (by omega)]at h;refine⟨by unfold AG;omega,fun Aq=>?_,fun Zg=>iz ⟨_,rfl,fun hp=>?_,fun hp=>jA (by omega) ⟨_,rfl,fun hq=>?_,fun hq=>?_⟩⟩⟩
 ·rw[AiL (.inl (by omega))]at h;exact h
 ·have:=Aio hp;rw[AiL (.inr (.inl fun e=>this ⟨by omega,e⟩))]at h;exact h
 ·have:=Aio hq;rw[AiL (.inr (.inr fun e=>this ⟨by omega,e⟩))]at h;exact h
 have hp':=AiP hp;have hq':=AiP hq;rw[AiK (by
    rintro(h3|h3|h3)
    ·omega
    ·exact h3 hp'.2
    ·exact h3 hq'.2)]at h
 have ACz:pT σ (MK (aD b o) 1 c 1) (n-2) (l.tail.dropLast):=by
  have:=AT.sub (i:=1) (m:=n-2) hr (by decide) (by omega) hc;rwa[List.drop_one,show n-2=l.tail.length-1 by rw[Ajj];omega,←List.dropLast_eq_take,Ajj,show l.length-1-1=n-2 by omega]at this
 refine⟨by unfold AG;omega,s.extract a.size (s.size-z.size),?_,by unfold AG;omega,by omega,?_⟩
 ·rw[show((s.size:Nat):Int)-((z.size:Nat):Int)=((s.size-z.size:Nat):Int) by omega];exact me (by omega) (by omega)
 rw[e1,show n-1-1=n-2 by omega];generalize hu:s.extract a.size (s.size-z.size)=u at *;have hus:u.size<4294967281:=by rw[←hu,Ai5];omega
 generalize MK (aD b o) 1 c 1=q at *;generalize l.tail.dropLast=ms at *;clear hu hla yr ha hz ea ez eK
 suffices H:∀g k:Nat,∀(q':Option Addr) (v:ByteArray),(0<n-2→q'=q)→n-2-k=g→k≤n-2→v.size<4294967281→Zk ms u=Zk (ms.drop k) v→FQ.NK R v q' (n-2) (c-1) ((n-2:Nat):Int) k σ from H (n-2) 0 q u (fun _=>rfl) rfl (AiR _) hus rfl
 have hml:ms.length=n-2:=ACz.1;intro g
 induction g with
 | zero=>
  intro k q' v hq hgk hk hv he;rw[Aib (by omega)]at he;rw[he]at h;exact FQ.Mh ⟨fun Aq=>by omega,fun _=>h⟩
 | succ g ih=>
  intro k q' v hq hgk hk hv he;have Ei:k<n-2:=by omega
  obtain⟨t,ht⟩:=ACz.ex Ei;obtain⟨b2,o2,hq2,Aq⟩:=pT.at ACz ht;rw[hq (by omega),hq2];rw[A0 ht,Zk]at he;refine FQ.Mh ⟨fun _=>⟨b2,o2,rfl,by omega,t,by simpa using Aq,index_spec hg hv ⟨_,rfl,fun Tj=>?_,fun WE=>?_⟩⟩,fun hh=>by omega⟩
  ·rw[AiL Tj]at he;rw[he]at h;exact h
  ·rw[AiK WE]at he;have KH:=Lib.index_room v.data.toList t.data.toList (by omega);have kG:v.data.toList.length=v.size:=AjA (xs:=v.data);have ht1:t.data.toList.length=t.size:=AjA (xs:=t.data);generalize hi:Lib.index v.data.toList t.data.toList=i at *;refine⟨by unfold AG;omega,v.extract (i.toNat+t.size) v.size,?_,AJ Ei ACz.big,ih (k+1) _ _ (fun _=>hq2.symm) (by omega) (by omega) (by rw[Ai5];omega) he⟩;rw[show i+((t.size:Nat):Int)=((i.toNat+t.size:Nat):Int) by omega];exact Vy (by omega)
def zK (σ:Hp)(vs:List Value)(l:List ByteArray):Prop:=∃p n c,vs=[.slice p n c]∧pT σ p n l∧0<n∧n≤c
theorem zK.mono:Ht zK:=fun _ _ _ _ hx ⟨p,n,c,hv,h1,h2⟩=>⟨p,n,c,hv,h1.mono ETx.mono hx,h2⟩
theorem sN {p:Option Addr}{n c:Nat}{L:List (List ByteArray)}{s:ByteArray}(hg:Gl σ)(hr:AT 1 zK σ p n L)(hs:s.size<4294967281)(hl:∀l∈L,∀x∈l,x.size≤4294967296)(h:R (.returned (.bool (L.any fun l=>uA l s))) σ):
  Spec prog 249 #[.agg #[.slice p n c],.string s] σ R:=by
 have hn:L.length=n:=hr.1;refine DF.start fun _=>?_
 suffices H:∀g k:Nat,n-k=g→k≤n→(L.any fun l=>uA l s)=((L.drop k).any fun l=>uA l s)→DF.Q2 R s p n c n k σ from H n 0 rfl (AiR _) rfl
 intro g
 induction g with
 | zero=>
  intro k sO hk he;rw[Aib (by omega)]at he;rw[he]at h;exact DF.FO ⟨fun Aq=>by omega,fun _=>h⟩
 | succ g ih=>
  intro k sO hk he;have Ei:k<n:=by omega
  obtain⟨l,hx⟩:=hr.ex Ei;obtain⟨b,o,vs,rfl,⟨p1,n1,c1,rfl,h1,h2,h3⟩,CF⟩:=AT.idx hr hx;rw[A0 hx,List.any_cons]at he;refine DF.FO ⟨fun _=>⟨b,o,rfl,by omega,p1,n1,c1,by simpa using CF,fun _=>ACx hg h1 h2 h3 hs (hl l (AiM hx)) ⟨_,rfl,fun ht=>?_,fun hf=>⟨AJ Ei hr.big,ih (k+1) (by omega) (by omega) ?_⟩⟩⟩,fun hh=>by omega⟩
  ·rw[ht]at he;rw[he]at h;exact h
  ·rw[hf]at he;exact he
theorem To {c:UInt8}{s:ByteArray}:∀x∈GX c s,x.size≤s.size:=by
 unfold GX;generalize Lib.countB s ⟨#[c]⟩=k
 induction k generalizing s with
 | zero=>intro x hx;rw[Lib.splitB_zero,AiY]at hx;rw[hx];exact AiV _
 | succ k ih=>
  intro x hx;unfold Lib.splitB at hx;split at hx
  ·rw[AiY]at hx;rw[hx];exact AiV _
  ·rcases AiT.1 hx with rfl|hx
   ·rw[Ai5];omega
   ·have:=ih x hx;rw[Ai5]at this;omega
theorem jB {c:UInt8}{s:ByteArray}:(GX c s).length≤s.size+1∧0<(GX c s).length:=by
 have h1:=Lib.splitB_all ⟨#[c]⟩ (AiV 1) 0 _ s rfl;have h2:=Lib.countB_le ⟨#[c]⟩ (AiV 1) s.size s (AiV _);unfold GX;omega
theorem dP {s:ByteArray}(hg:Gl σ)(hs:s.size≤1000000)(h:∀p n c σ',AT 1 zK σ' p n ((GX 124 s).map (GX 42))→Ext σ σ'→R (.returned (.agg #[.slice p n c])) σ'):Spec prog 195 #[.string s] σ R:=by
 refine GQ.start fun _ _=>Ye hg (by omega) fun b T hb=>⟨_,_,_,rfl,?_⟩;have Bc:Ext σ (σ.set b (.cells ((GX 124 s).map Value.string).toArray T (0,0))):=.set hb;obtain⟨hlen,_⟩:=jB (c:=124) (s:=s);have hr:pT (σ.set b (.cells ((GX 124 s).map Value.string).toArray T (0,0))) (aD b 0) (GX 124 s).length (GX 124 s):=pT.zJ (Hp.AA _ _ _) (by omega);generalize AX5:σ.set b (.cells ((GX 124 s).map Value.string).toArray T (0,0))=σ1 at *;have J2:=To (c:=124) (s:=s);generalize GX 124 s=L at *
 suffices H:∀g k:Nat,∀p3 n3 c3 σ',L.length-k=g→k≤L.length→Ix 1 zK (σ1.new σ') p3 n3 c3 ((L.take k).map (GX 42))→Ext σ1 σ'→GQ.B4 R none 0 0 p3 n3 c3 (aD b 0) L.length L.length L.length k σ' from H L.length 0 none 0 0 σ1 rfl (AiR _) Ix.nil (.refl _)
 intro g
 induction g with
 | zero=>
  intro k p3 n3 c3 σ' sO hk ho hx;rw[AiQ (by omega)]at ho;exact GQ.Ap ⟨fun Aq=>by omega,fun _=>h p3 n3 c3 σ' ((ho.rd zK.mono).mono zK.mono (Ext.B9 _ _)) (Bc.trans hx)⟩
 | succ g ih=>
  intro k p3 n3 c3 σ' sO hk ho hx;have Ei:k<L.length:=by omega
  obtain⟨x,dJ⟩:=hr.ex Ei;obtain⟨b2,o2,he,NQ⟩:=pT.at hr dJ;cases he;have hxs:=J2 x (AiM dJ);have hn3:n3=k:=by have:=ho.1;rw[Aii,AiU]at this;omega
  refine GQ.Ap ⟨fun _=>⟨b,0,rfl,by omega,x,by simpa using hx.ld NQ,Ye (hg.mono (Bc.trans hx)) (by omega) fun b4 T4 hb4=>⟨_,_,_,rfl,fun KL AX6=>?_⟩⟩,fun hh=>by omega⟩;obtain⟨AcF,ASI⟩:=jB (c:=42) (s:=x);have JK:Ext σ' (σ'.set b4 (.cells ((GX 42 x).map Value.string).toArray T4 (0,0))):=.set hb4;have hp3:∀a,p3=some a→σ' a.block≠none:=fun a ha=>by
   have:=ho.block a ha;cases hh:(σ1.new σ') a.block with
   | none=>exact absurd hh this
   | some oo=>rw[(AR.1 hh).2];simp
  have AX7:(σ1.new (σ'.set b4 (.cells ((GX 42 x).map Value.string).toArray T4 (0,0))) |>.del p3) b4=some (.cells ((GX 42 x).map Value.string).toArray T4 (0,0)):=AN.2 ⟨fun a ha e=>hp3 a ha (by rw[←e];exact hb4),AR.2 ⟨Am hx hb4,Hp.AA _ _ _⟩⟩;refine Ix.Hu zK.mono (vs:=[.slice (aD b4 0) (GX 42 x).length (GX 42 x).length]) (x:=GX 42 x) (hx.trans JK) (ho.mono zK.mono (Ext.Jc JK)) rfl (fun u hu=>by rw[AiY]at hu;subst hu;rfl) ⟨_,_,_,rfl,pT.zJ AX7 (by omega),ASI,AiV _⟩ (by omega) (fun p' c' σ2 A6 An=>⟨_,_,_,rfl,AJ Ei hr.big,ih (k+1) _ _ _ _ (by omega) (by omega) ?_ An⟩) AX6;rw[AQ dJ,Aiq];exact A6
theorem bA {p q:Option Addr}{n c m d:Nat}{ms:List Mt}{ls:List Lb}(hg:Gl σ)(hr:AT 3 Jt σ p n ms)(hq:Dy σ q m ls)(hm:∀x∈ms,x.val.size≤1000000)(GZ:∀x∈ls,x.2.size≤1000000)(hk:∀x∈ms,1≤x.kind∧x.kind≤4)(h:∀σ',Ext σ σ'→R (.returned (.bool (GY ms ls))) σ'):
  Spec prog 158 #[.slice p n c,.slice q m d] σ R:=by
 have hl:ms.length=n:=hr.1;refine Gk.start (Uc.start fun kb J3=>⟨_,_,_,rfl,?_⟩);have Bc:=Ext.set (o:=.cells #[.nilFunc,(.func (.func 231) #[] #[]),(.func (.func 232) #[] #[]),(.func (.func 233) #[] #[]),(.func (.func 234) #[] #[])] 232 (0,0)) J3;have hc:=Hp.AA σ kb (.cells #[.nilFunc,(.func (.func 231) #[] #[]),(.func (.func 232) #[] #[]),(.func (.func 233) #[] #[]),(.func (.func 234) #[] #[])] 232 (0,0));generalize AX5:σ.set kb (.cells #[.nilFunc,(.func (.func 231) #[] #[]),(.func (.func 232) #[] #[]),(.func (.func 233) #[] #[]),(.func (.func 234) #[] #[])] 232 (0,0))=σ1 at *;have hgs:∀k:ByteArray,(Dg ls k).size≤1000000:=fun k=>by
  clear hq h
  induction ls with
  | nil=>unfold Dg;decide
  | cons a l ih=>
   unfold Dg;split
   ·exact GZ a (by simp)
   ·exact ih fun x hx=>GZ x (AiX _ hx)
 suffices H:∀g k:Nat,∀σ',n-k=g→k≤n→Ext σ1 σ'→GY ms ls=GY (ms.drop k) ls→Gk.B4 R q m d (aD kb 0) 5 5 p n c n k σ' from H n 0 σ1 rfl (AiR _) (.refl _) rfl
 intro g
 induction g with
 | zero=>
  intro k σ' sO Ei hx he;have:=h σ' (Bc.trans hx);rw[he,Aib (by omega)]at this;exact Gk.Ap ⟨fun Aq=>by omega,fun _=>this⟩
 | succ g ih=>
  intro k σ' sO QC hx he;have Ei:k<n:=by omega
  obtain⟨x,dJ⟩:=hr.ex Ei;obtain⟨b,o,rfl,CF⟩:=Jt.at hr dJ;have jC:=AiM dJ;have hk4:=hk x jC;have QZ:GY ms ls=(Om x ls&&GY (ms.drop (k+1)) ls):=by rw[he,A0 dJ];rfl
  have step:∀(t:Bool) (σ2:Hp),t=Om x ls→Ext σ1 σ2→BB R (CB fun t35 AU=>Bn t35 (R (.B false) AU) (AG ((k:Int)+1)∧Gk.B4 R q m d (aD kb 0) 5 5 (aD b o) n c n ((k:Int)+1) AU)) (.B t) σ2:=fun t σ2 ht An=>by
   refine⟨t,rfl,fun hf=>?_,fun zL=>⟨AJ Ei hr.big,ih (k+1) σ2 (by omega) (by omega) An ?_⟩⟩
   ·have:=h σ2 (Bc.trans An);rw[QZ,←ht,hf]at this;exact this
   ·rw[QZ,←ht,zL];rfl
  refine Gk.Ap ⟨fun _=>⟨b,o,rfl,by omega,x.kind,x.name,x.val,by simpa using(CF.mono (Bc.trans hx)),fun _=>ax ⟨_,rfl,fun hf=>?_,fun ht=>⟨kb,0,rfl,by omega,?_⟩⟩⟩,fun hh=>by omega⟩
  ·exact absurd hk4 (Aio hf)
  have GJ:∀σ2 p1 n1 c1,AT 1 zK σ2 p1 n1 ((GX 124 x.val).map (GX 42))→Ext σ1 σ2→∀R2:Rr,R2 (.returned (.bool (Lo x.val (Dg ls x.name)))) σ2→Spec prog 249 #[.agg #[.slice p1 n1 c1],.string (Dg ls x.name)] σ2 R2:=fun σ2 p1 n1 c1 hrp An R2 uD=>by
   refine sN (hg.mono (Bc.trans An)) hrp (by have:=hgs x.name;omega) (fun l hl y hy=>?_) ?_
   ·obtain⟨z,hz,rfl⟩:=List.mem_map.1 hl;have h1:=To y hy;have h2:=To z hz;have h3:=hm x jC;omega
   ·rw[List.any_map];exact uD
  have row:∀(i:Nat) (f:FuncId) (t:Bool),x.kind=i→(#[.nilFunc,(.func (.func 231) #[] #[]),(.func (.func 232) #[] #[]),(.func (.func 233) #[] #[]),(.func (.func 234) #[] #[])]:Array Value)[i]?=some (.func (.func f) #[] #[])→Enters prog f→t=Om x ls→
    (∀p1 n1 c1 σ2 (R2:Rr),AT 1 zK σ2 p1 n1 ((GX 124 x.val).map (GX 42))→Ext σ1 σ2→R2 (.B t) σ2→Spec prog f #[.agg #[.slice p1 n1 c1,.string x.val],.string (Dg ls x.name)] σ2 R2)→
    ∃v24,Hp.ld σ' ⟨kb,(0+Int.toNat x.kind*1),none⟩=some v24∧Spec prog 195 #[.string x.val] σ' (BB R (fun z AB=>∃Qw Pr Qy,z=(.agg #[.slice Qw Pr Qy])∧Kp [kb] σ' AB∧Spec prog 196 #[.slice q m d,.string x.name] AB (BB R (CT fun s34 AI=>Kp [kb] AB AI∧∃(f35:Nat) (gi gj:Array Value),v24=.func (.func f35) gi gj∧Enters prog f35∧Spec prog f35 (gi++#[.agg #[.slice Qw Pr Qy,.string x.val],.string s34]++gj) AI (BB R (CB fun t35 AU=>Bn t35 (R (.B false) AU) (AG ((k:Int)+1)∧Gk.B4 R q m d (aD kb 0) 5 5 (aD b o) n c n ((k:Int)+1) AU)))))) ):=fun i f t hi hv Ut ht hf=>by
   refine⟨.func (.func f) #[] #[],?_,?_⟩
   rotate_left
   ·refine dP (hg.mono (Bc.trans hx)) (hm x jC) fun p1 n1 c1 σ2 hrp An=>⟨p1,n1,c1,rfl,Kp.Hs An,Zh (hq.mono BL.mono (Bc.trans (hx.trans An))) ⟨_,rfl,Kp.Hs (.refl _),f,#[],#[],rfl,Ut,hf p1 n1 c1 σ2 _ hrp (hx.trans An) (step t σ2 ht (hx.trans An))⟩⟩
   rw[hi];exact Aj (hx _ _ hc) (by simpa using hv)
  have zM:x.kind=1∨x.kind=2∨x.kind=3∨x.kind=4:=by omega
  rcases zM with h1|h1|h1|h1
  ·exact row 1 231 (decide (Dg ls x.name=x.val)) h1 rfl HK.en (by unfold Om;rw[AiL h1]) fun p1 n1 c1 σ2 R2 _ _ uD=>HK.start fun _=>by rw[mJ];exact uD
  ·exact row 2 232 (!decide (Dg ls x.name=x.val)) h1 rfl HP.en (by unfold Om;rw[AiK (by omega),AiL h1];simp) fun p1 n1 c1 σ2 R2 _ _ uD=>HP.start fun _=>by rw[mJ];exact uD
  ·exact row 3 233 (Lo x.val (Dg ls x.name)) h1 rfl Gd.en (by unfold Om;rw[AiK (by omega),AiK (by omega),AiL h1]) fun p1 n1 c1 σ2 R2 hrp An uD=>Gd.start fun _=>GJ σ2 p1 n1 c1 hrp An _ ⟨_,rfl,uD⟩
  ·exact row 4 234 (!Lo x.val (Dg ls x.name)) h1 rfl Gg.en (by unfold Om;rw[AiK (by omega),AiK (by omega),AiK (by omega),AiL h1]) fun p1 n1 c1 σ2 R2 hrp An uD=>Gg.start fun _=>GJ σ2 p1 n1 c1 hrp An _ ⟨_,rfl,uD⟩
end
structure Rs where
 m:Nat
 dot:Bool
 nd:Nat
 dp:Int
def De (st:Rs)(u:UInt8):Rs:=if u=46 then { st with dot:=true,dp:=st.nd } else if u=48∧st.nd=0 then { st with dp:=st.dp-1 } else { st with m:=st.m*10+(u.toNat-48),nd:=st.nd+1 }
def Ga (s:ByteArray):Rs:=s.data.toList.foldl De ⟨0,false,0,0⟩
def SH (r:Rs):Int:=if r.m=0 then 0 else(if r.dot then r.dp else r.nd)-r.nd
def RB (s:ByteArray):Int:=
 let r:=Ga s
 if r.m=0 then(toF 0:Nat) else if SH r=0 then(toF (FloatKind.f64.nearest r.m):Nat) else(RO 4 (FloatKind.f64.nearest r.m) (SG.getD (-SH r).toNat 0):Nat)
section
variable {σ σ':Hp}{R:Rr}
theorem SI {s:ByteArray}(hb:s.size≤4611686018427387904)(h:R (.returned (.I (AS s))) σ):Spec prog 228 #[.string s] σ R:=by
 have hlen:s.data.toList.length=s.size:=AjA (xs:=s.data);refine Ik.start ?_
 suffices H:∀g k:Nat,s.size-k=g→k≤s.size→(∀j u,j<k→s.data.toList[j]?=some u→D7 u=true)→Ik.Fm R s k σ from H s.size 0 rfl (AiR _) (fun j u hj=>by omega)
 intro g
 induction g with
 | zero=>
  intro k hg hk h1;have e:AS s=k:=IB (by omega) h1 (fun u hu=>by have:=(List.getElem?_eq_some_iff.1 hu).1;omega);rw[e]at h;exact Ik.As ⟨fun Aq=>by omega,fun _=>h⟩
 | succ g ih=>
  intro k hg hk h1;obtain⟨u,hu,EG⟩:=byte_at (show k<s.size by omega);have stop:D7 u=false→R (.returned (.I k)) σ:=fun hd=>by
   have e:AS s=k:=IB (by omega) h1 (fun v hv=>by rw[EG]at hv;cases hv;exact hd);rw[e]at h;exact h
  refine Ik.As ⟨fun _=>⟨u,by omega,by simpa using hu,fun kE=>⟨u,by omega,by simpa using hu,fun h57=>?_,fun h57=>stop ?_⟩,fun kE=>stop ?_⟩,fun hh=>by omega⟩
  ·refine⟨AJ (by omega:k<s.size) hb,ih (k+1) (by omega) (by omega) fun j v hj hv=>?_⟩;by_cases eV:j=k
   ·rw[eV,EG]at hv;cases hv;exact Aia (by omega)
   ·exact h1 j v (by omega) hv
  ·exact AiZ (by omega)
  ·exact AiZ (by omega)
theorem dQ {s:ByteArray}(hb:s.size≤4611686018427387904)(ht:E4 s=true)(h:R (.B true) σ):Spec prog 188 #[.string s] σ R:=by
 have hle:=My s;have h0:AS s≠0:=fun e=>by unfold E4 at ht;rw[AiL e]at ht;cases ht
 have h1:¬(1<AS s∧s.data[0]?=some 48):=fun e=>by unfold E4 at ht;rw[AiK h0,AiL e]at ht;cases ht
 obtain⟨u0,hu0,_⟩:=byte_at (show 0<s.size by omega);have I9:=I3 (u:=u0) (k:=48) (by decide);have tail:Br ((AS s:Int)=(s.size:Int)) (R (.returned (.bool (decide ((AS s:Int)≤15)))) σ) (AG ((AS s:Int)+1)∧∃s27,YF prog (Instr.sliceAt 9 (.string s) (some (.I ((AS s:Int)+1))) none none) σ (.string s27)∧Spec prog 228 #[.string s27] σ (BB R (CI .i64 fun QN AB=>∃QP:UInt8,0≤(AS s:Int)∧(ByteArray.data s)[Int.toNat (AS s:Int)]?=some QP∧Br (((QP.toNat:Int):Int)=46) (Br (0<QN) (AG ((AS s:Int)+1)∧AG (((AS s:Int)+1)+QN)∧Br (((((AS s:Int)+1)+QN):Int)=(s.size:Int)) (AG ((AS s:Int)+QN)∧R (.returned (.bool (decide ((((AS s:Int)+QN):Int)≤15)))) AB) (R (.B false) AB)) (R (.B false) AB)) (R (.B false) AB)))):=by
  unfold E4 at ht;rw[AiK h0,AiK h1]at ht;refine⟨fun he=>?_,fun he=>⟨by unfold AG;omega,s.extract (AS s+1) s.size,Vy (l:=AS s+1) (by omega),?_⟩⟩
  ·rw[AiL (by omega)]at ht;rw[Aia (by have:=AiP ht;omega)];exact h
  ·rw[AiK (by omega)]at ht;have ht:=AiP ht;have AX2:(s.extract (AS s+1) s.size).size=s.size-(AS s+1):=by rw[Ai5];omega
   have hm:=My (s.extract (AS s+1) s.size);refine SI (by omega) ?_;obtain⟨u,hu,_⟩:=byte_at (show AS s<s.size by omega);rw[hu]at ht;have gW:=I3 (u:=u) (k:=46) (by decide);generalize AS (s.extract (AS s+1) s.size)=m at *;refine⟨_,rfl,u,by omega,by simpa using hu,fun dO=>⟨fun h0m=>⟨by unfold AG;omega,by unfold AG;omega,fun hs=>⟨by unfold AG;omega,?_⟩,fun hs=>absurd (by omega) hs⟩,fun h0m=>absurd (by omega) h0m⟩,fun dO=>absurd (gW.2 (by have:=ht.1;simpa using this)) dO⟩;rw[Aia (by omega)];exact h
 refine Uh.start (SI hb ⟨_,rfl,fun hh=>absurd hh (by omega),fun _=>⟨fun h1n=>⟨u0,by omega,by simpa using hu0,fun kE=>?_,fun _=>tail⟩,fun _=>tail⟩⟩);exact absurd ⟨by omega,by rw[hu0,I9.1 kE];rfl⟩ h1
theorem Yf {α:Type}{p:α→Bool}:∀{l:List α} {u:α},u∈l.takeWhile p→p u=true
 | [],u,h=>by cases h
 | a::l,u,h=>by
  unfold List.takeWhile at h;split at h
  ·rename_i ha;rcases AiT.1 h with rfl|h
   ·exact ha
   ·exact Yf h
  ·cases h
theorem Lu {s:ByteArray}(h:E4 s=true):0<s.size∧s.size≤16∧(∃u,s.data.toList[0]?=some u∧D7 u=true)∧(∀u∈s.data.toList,D7 u=true∨u=46)∧(s.data.toList.filter D7).length≤15∧(∀j k:Nat,s.data.toList[j]?=some 46→s.data.toList[k]?=some 46→j=k):=by
 have hlen:s.data.toList.length=s.size:=AjA (xs:=s.data);have hle:=My s;have h0:AS s≠0:=fun e=>by unfold E4 at h;rw[AiL e]at h;cases h
 have h1:¬(1<AS s∧s.data[0]?=some 48):=fun e=>by unfold E4 at h;rw[AiK h0,AiL e]at h;cases h
 unfold E4 at h;rw[AiK h0,AiK h1]at h;have hT:s.data.toList.takeWhile D7=s.data.toList.take (AS s):=by
  unfold AS;exact(List.prefix_iff_eq_take.1 (AkP _))
 have RC:∀u∈s.data.toList.take (AS s),D7 u=true:=fun u hu=>by rw[←hT]at hu;exact Yf hu
 have d46:D7 46=false:=by decide
 have ex0:∃u,s.data.toList[0]?=some u∧D7 u=true:=by
  obtain⟨u,_,EG⟩:=byte_at (show 0<s.size by omega);refine⟨u,EG,RC u (AiM (i:=0) ?_)⟩;rw[Ail,AiL (by omega)];exact EG
 by_cases he:AS s=s.size
 ·rw[AiL he]at h;have h15:=AiP h;have GJ:∀u∈s.data.toList,D7 u=true:=fun u hu=>RC u (by rw[AiQ (by omega)];exact hu);refine⟨by omega,by omega,ex0,fun u hu=>.inl (GJ u hu),by have:=Ais D7 s.data.toList;omega,fun j k hj _=>?_⟩;have:=GJ 46 (AiM hj);rw[d46]at this;cases this
 ·rw[AiK he]at h;have hh:=AiP h;generalize hm:AS (s.extract (AS s+1) s.size)=m at hh;have sP:m≤15:=by omega
  have Ow:s.data.toList=s.data.toList.take (AS s)++46::s.data.toList.drop (AS s+1):=by
   obtain⟨u,hu,EG⟩:=byte_at (show AS s<s.size by omega);have e46:u=46:=by have:=hh.1;rw[hu]at this;simpa using this
   rw[←e46,←A0 EG,Ai8]
  have I2:(s.extract (AS s+1) s.size).data.toList=s.data.toList.drop (AS s+1):=by
   rw[AjZ,AkR,List.extract_eq_take_drop];rw[AiQ (by rw[Aic];omega)]
  have pU:∀u∈s.data.toList.drop (AS s+1),D7 u=true:=fun u hu=>by
   rw[←I2]at hu;have hp:=AkP (p:=D7) (l:=(s.extract (AS s+1) s.size).data.toList);have hl:((s.extract (AS s+1) s.size).data.toList.takeWhile D7).length=(s.extract (AS s+1) s.size).data.toList.length:=by
    rw[show((s.extract (AS s+1) s.size).data.toList.takeWhile D7).length=AS (s.extract (AS s+1) s.size) from rfl,hm,I2,Aic];omega
   have:=hp.eq_of_length hl;rw[←this]at hu;exact Yf hu
  refine⟨by omega,by omega,ex0,fun u hu=>?_,?_,fun j k hj hk=>?_⟩
  ·rw[Ow]at hu;rcases List.mem_append.1 hu with hu|hu
   ·exact .inl (RC u hu)
   ·rcases AiT.1 hu with rfl|hu
    ·exact .inr rfl
    ·exact .inl (pU u hu)
  ·rw[Ow,Ajd,Aj8,d46];have a1:=Ais D7 (s.data.toList.take (AS s));have a2:=Ais D7 (s.data.toList.drop (AS s+1));rw[AiU]at a1;rw[Aic]at a2;simp only[Aid];simp;omega
  ·have only:∀i:Nat,s.data.toList[i]?=some 46→i=AS s:=fun i hi=>by
    rw[Ow]at hi;have oB:(s.data.toList.take (AS s)).length=AS s:=by rw[AiU];omega
    rcases AkK i (AS s) with Aq|Aq|Aq
    ·rw[Ai6 (by omega)]at hi;have:=RC 46 (AiM hi);rw[d46]at this;cases this
    ·exact Aq
    ·rw[AjE (by omega),oB]at hi;obtain⟨d,hd⟩:∃d,i-AS s=d+1:=⟨i-AS s-1,by omega⟩;rw[hd,Ai3]at hi;have:=pU 46 (AiM hi);rw[d46]at this;cases this
   rw[only j hj,only k hk]
def jD (s:ByteArray)(k:Nat):Nat:=((s.data.toList.take k).filter D7).length
structure ROk (s:ByteArray)(k:Nat)(r:Rs):Prop where
 is:r=(s.data.toList.take k).foldl De ⟨0,false,0,0⟩
 nd:r.nd≤jD s k
 m:r.m<10^r.nd
 lo:(r.nd:Int)-r.dp≤jD s k
 hi:r.dp≤r.nd
 sw:r.dot=true→∃j,j<k∧s.data.toList[j]?=some 46
theorem IC {u:UInt8}(h:D7 u=true):48≤u.toNat∧u.toNat≤57:=AiP h
theorem ROk.zero {s:ByteArray}:ROk s 0 ⟨0,false,0,0⟩:=⟨rfl,AiR _,by decide,by simp,by simp,fun h=>by cases h⟩
theorem sQ {s:ByteArray}{k:Nat}{u:UInt8}(hu:s.data.toList[k]?=some u):jD s (k+1)=jD s k+if D7 u then 1 else 0:=by
 unfold jD;rw[AQ hu,Ajd,Aid]
 congr 1
 by_cases h:D7 u=true<;>simp[h]
theorem ROk.step {s:ByteArray}{k:Nat}{r:Rs}{u:UInt8}(h:ROk s k r)(hu:s.data.toList[k]?=some u)(hd:D7 u=true∨u=46):ROk s (k+1) (De r u):=by
 have hc:=sQ hu;have his:De r u=(s.data.toList.take (k+1)).foldl De ⟨0,false,0,0⟩:=by rw[AQ hu,Aj0,←h.is];rfl
 have h1:=h.nd;have h2:=h.m;have h3:=h.lo;have h4:=h.hi;by_cases dO:u=46
 ·subst dO;have e:De r 46={ r with dot:=true,dp:=r.nd }:=by unfold De;rw[AiL rfl]
  rw[show D7 46=false from by decide]at hc;simp only[Ajv,if_false,AjH]at hc;rw[e]at his ⊢;exact⟨his,by rw[hc];exact h1,h2,by dsimp only;omega,Int.le_refl _,fun _=>⟨k,by omega,hu⟩⟩
 have hdg:=hd.resolve_right dO;have hn:=IC hdg;rw[hdg]at hc;simp only[if_true]at hc;by_cases kE:u=48∧r.nd=0
 ·have e:De r u={ r with dp:=r.dp-1 }:=by unfold De;rw[AiK dO,AiL kE]
  rw[e]at his ⊢;exact⟨his,by dsimp only;omega,h2,by dsimp only;omega,by dsimp only;omega,fun hh=>let ⟨j,h5,h6⟩:=h.sw hh;⟨j,by omega,h6⟩⟩
 ·have e:De r u={ r with m:=r.m*10+(u.toNat-48),nd:=r.nd+1 }:=by unfold De;rw[AiK dO,AiK kE]
  rw[e]at his ⊢;exact⟨his,by dsimp only;omega,by dsimp only;rw[Nat.pow_succ];omega,by dsimp only;omega,by dsimp only;omega,fun hh=>let ⟨j,h5,h6⟩:=h.sw hh;⟨j,by omega,h6⟩⟩
theorem SJ {x:Int}(h0:0≤x)(h1:x<18446744073709551616):IntKind.u64.wrap x=x:=by simp[IntKind.wrap,IntKind.bits,IntKind.signed];omega
theorem AGV {x:Int}(h0:0≤x)(h1:x<256):IntKind.u8.wrap x=x:=by simp[IntKind.wrap,IntKind.bits,IntKind.signed];omega
theorem Lv {n:Nat}(h:n≤15):10^n≤1000000000000000:=Aiy (Nat.pow_le_pow_right (by decide) h) (by decide)
theorem sR {s:ByteArray}(ht:E4 s=true)(h:R (.T #[.U ((Ga s).m:Nat),.I (SH (Ga s)),.bool false,.bool false,.bool false,.I (s.size:Nat),.bool true]) σ):Spec prog 277 #[.string s] σ R:=by
 obtain⟨hs0,AC0,⟨u0,hu0,hd0⟩,hby,sS,AC1⟩:=Lu ht;have hlen:s.data.toList.length=s.size:=AjA (xs:=s.data);have hn0:=IC hd0;have hg0:s.data[0]?=some u0:=by rw[←AjJ];exact hu0
 have zN:∀k,jD s k≤15:=fun k=>Aiy (AkG ((List.take_sublist _ _).filter _)) sS;have dR:AE.yN R s 0 0 false false false 0 false false 10 19 101 false false 0 0 0 σ:=by
  suffices H:∀g k:Nat,∀r:Rs,s.size-k=g→k≤s.size→ROk s k r→AE.yN R s (r.m:Nat) 0 false false false (k:Nat) false false 10 19 101 r.dot (decide (0<k)) (r.nd:Nat) (r.nd:Nat) r.dp σ from H s.size 0 ⟨0,false,0,0⟩ rfl (AiR _) .zero
  intro g
  induction g with
  | zero=>
   intro k r hg hk hr;have QC:k=s.size:=by omega
   have er:r=Ga s:=by rw[hr.is,AiQ (by omega)];rfl
   have hc:=zN k;have h1:=hr.nd;have h3:=hr.lo;have h4:=hr.hi;refine AE.pI ⟨fun Aq=>by omega,fun _=>?_⟩;rw[show decide (0<k)=true from Aia (by omega)];have fin:∀x17:Int,(r.m≠0→x17-r.nd=SH r)→-100≤x17→x17≤100→AE.pH R s (r.m:Nat) 0 false false false (k:Nat) false false 10 101 (r.nd:Nat) x17 σ:=fun x17 hx jE ZG=>by
    refine AE.yT ⟨fun hh=>absurd hh (by decide),fun _=>AE.yU ⟨fun Aq=>by omega,fun _=>⟨fun hh=>absurd hh (by decide),fun _=>AE.yV ⟨fun hm=>⟨by unfold AG;omega,AE.iV ⟨fun hh=>(by cases hh),fun _=>?_⟩⟩,fun hm=>AE.iV ⟨fun hh=>(by cases hh),fun _=>?_⟩⟩⟩⟩⟩
    ·rw[hx (by omega),QC,er];exact h
    ·have uE:r.m=0:=by omega
     have:SH (Ga s)=0:=by rw[←er];unfold SH;rw[AiL uE]
     rw[this,←QC,←er]at h;exact h
   refine AE.yS ⟨fun hh=>(by cases hh),fun _=>⟨fun hf=>fin _ (fun hm=>?_) (by omega) (by omega),fun hf=>fin _ (fun hm=>?_) (by omega) (by omega)⟩⟩
   ·unfold SH;rw[AiK hm,hf];rfl
   ·unfold SH;rw[AiK hm,hf];rfl
  | succ g ih=>
   intro k r hg hk hr;obtain⟨u,hu,EG⟩:=byte_at (show k<s.size by omega);have ZC:=hby u (AiM EG);have E2:=hr.step EG ZC;have Qf:=fun h64=>AE.yW (R:=R) (σ:=σ) (s0:=s) (x2:=((De r u).m:Nat)) (x3:=0) (t4:=false) (t5:=false) (t6:=false) (x7:=(k:Nat)) (t8:=false) (t9:=false) (x10:=10) (x11:=19) (x12:=101) (t13:=(De r u).dot) (t14:=true) (x15:=((De r u).nd:Nat)) (x16:=((De r u).nd:Nat)) (x17:=(De r u).dp) ⟨h64,by
    have:=ih (k+1) (De r u) (by omega) (by omega) E2;rw[show decide (0<k+1)=true from Aia (by omega)]at this
    exact_mod_cast this⟩
   have Qf:=Qf (by unfold AG;omega);have hc:=zN k;have h1:=hr.nd;have h3:=hr.lo;have h4:=hr.hi;refine AE.pI ⟨fun _=>⟨u,by omega,by simpa using hu,fun h95=>?_,fun h95=>⟨fun dO=>⟨fun ASJ=>?_,fun ASJ=>?_⟩,fun dO=>?_⟩⟩,fun hh=>by omega⟩
   ·exfalso;rcases ZC with hd|rfl
    ·have:=IC hd;omega
    ·exact absurd h95 (by decide)
   ·exfalso;obtain⟨j,hj,Zz⟩:=hr.sw ASJ;have e:u=46:=(I3 (k:=46) (by decide)).1 dO;rw[e]at EG;have:=AC1 j k Zz EG;omega
   ·have e:u=46:=(I3 (k:=46) (by decide)).1 dO;have hk0:0<k:=by
     rcases Nat.eq_zero_or_pos k with h0|h0
     ·subst h0;rw[hu0]at EG;cases EG;rw[e]at hd0;exact absurd hd0 (by decide)
     ·exact h0
    rw[show decide (0<k)=true from Aia hk0];rw[show De r u={ r with dot:=true,dp:=r.nd } by unfold De;rw[AiL e]]at Qf;exact Qf
   have hd:=ZC.resolve_right fun e=>dO ((I3 (k:=46) (by decide)).2 e);have hn:=IC hd;have AGX:u≠46:=fun e=>dO ((I3 (k:=46) (by decide)).2 e);have I9:=I3 (u:=u) (k:=48) (by decide);refine⟨fun _=>⟨fun _=>?_,fun hh=>by omega⟩,fun hh=>by omega⟩;have AfP:=Nat.lt_of_lt_of_le hr.m (Lv (show r.nd≤15 by omega));have digit:¬(u=48∧r.nd=0)→AG ((r.nd:Int)+1)∧Br ((r.nd:Int)<19) (Df (IntKind.u64.wrap ((r.m:Int)*10)) fun x99=>Df (IntKind.u8.wrap ((u.toNat:Int)-48)) fun gX=>Df (IntKind.u64.wrap gX) fun gY=>Df (IntKind.u64.wrap (x99+gY)) fun mF=>AG ((r.nd:Int)+1)∧AE.Il R s mF 0 false false false (k:Nat) false false 10 19 101 r.dot true ((r.nd:Int)+1) ((r.nd:Int)+1) r.dp σ) (Br (((u.toNat:Int):Int)≠48) (AE.Il R s (r.m:Nat) 0 false true false (k:Nat) false false 10 19 101 r.dot true ((r.nd:Int)+1) (r.nd:Nat) r.dp σ) (AE.Il R s (r.m:Nat) 0 false false false (k:Nat) false false 10 19 101 r.dot true ((r.nd:Int)+1) (r.nd:Nat) r.dp σ)):=fun Cg=>by
    refine⟨by unfold AG;omega,fun _=>fun x99 e99 gX AX8 gY AX9 mF AYA=>⟨by unfold AG;omega,?_⟩,fun hh=>absurd (by omega) hh⟩;rw[SJ (by omega) (by omega)]at e99;rw[AGV (by omega) (by omega)]at AX8;rw[SJ (by omega) (by omega)]at AX9;rw[SJ (by omega) (by omega)]at AYA;rw[show De r u={ r with m:=r.m*10+(u.toNat-48),nd:=r.nd+1 } by unfold De;rw[AiK AGX,AiK Cg]]at Qf;have:mF=((r.m*10+(u.toNat-48):Nat):Int):=by omega
    rw[this]
    exact_mod_cast Qf
   refine⟨fun kE=>⟨fun hz=>⟨by unfold AG;omega,?_⟩,fun hz=>digit fun hh=>hz (by omega)⟩,fun kE=>digit fun hh=>kE (I9.2 hh.1)⟩;rw[show De r u={ r with dp:=r.dp-1 } by unfold De;rw[AiK AGX,AiL ⟨I9.1 kE,by omega⟩]]at Qf;exact Qf
 have AYB:AE.Ze R s 0 0 false false false 0 false false σ:=by
  refine AE.Vu ⟨by unfold AG;omega,fun Aq=>⟨u0,by omega,by simpa using hg0,fun kE=>⟨by unfold AG;omega,?_⟩,fun _=>AE.JJ dR⟩,fun _=>AE.JJ dR⟩;obtain⟨u1,hu1,AYC⟩:=byte_at (show 1<s.size by omega);refine⟨u1,by decide,by simpa using hu1,HL.start fun x4 e4=>⟨_,rfl,fun AYD=>?_,fun _=>AE.JJ dR⟩⟩;exfalso;have low:∀i:Fin 12,Go.bits .or .u8 (((46+i.1:Nat)):Int) 32≠120:=by decide
  have F1:46≤u1.toNat∧u1.toNat<58:=by
   rcases hby u1 (AiM AYC) with hd|rfl
   ·have:=IC hd;omega
   ·decide
  have:=low ⟨u1.toNat-46,by omega⟩;rw[show 46+(u1.toNat-46)=u1.toNat by omega]at this;exact this (by rw[←e4];exact AYD)
 refine AE.start ⟨fun hh=>by omega,fun _=>⟨u0,by decide,by simpa using hg0,fun hh=>by omega,fun _=>⟨fun hh=>by omega,fun _=>AYB⟩⟩⟩
theorem dS {s:ByteArray}(ht:E4 s=true)(h:R (.T #[.float .f64 0,.I 0,.bool false]) σ):Spec prog 276 #[.string s] σ R:=by
 obtain⟨hs0,AC0,⟨u0,hu0,hd0⟩,hby,sS,AC1⟩:=Lu ht;have hn0:=IC hd0;have hg0:s.data[0]?=some u0:=by rw[←AjJ];exact hu0
 refine A7.start ⟨fun hh=>by omega,fun _=>⟨u0,by decide,by simpa using hg0,fun hh=>by omega,fun _=>A7.IK ⟨fun hh=>?_,fun _=>⟨fun hh=>by omega,fun _=>A7.cK ⟨fun hh=>?_,fun _=>⟨fun hh=>by omega,fun _=>A7.IL ⟨fun hh=>?_,fun _=>A7.PL h⟩⟩⟩⟩⟩⟩⟩
 ·have:=AiP hh;omega
 ·have:=AiP hh;omega
 ·have:=AiP hh;omega
theorem AC3 {x:Int}:YN prog 286 #[.U x] σ (.float .f64 x.toNat):=fun w _=>by
 rw[run_callFunc_extern Go.Proofs.Tryz.func286 (by kernel_rfl) (by kernel_rfl) (by kernel_rfl) (e:=Extern.MathFloatBits.float64frombits) (by kernel_rfl)];rfl
theorem pV {s:ByteArray}(ht:E4 s=true):-15≤SH (Ga s)∧SH (Ga s)≤0∧(Ga s).m<1000000000000000:=by
 obtain⟨hs0,AC0,_,hby,sS,_⟩:=Lu ht;have hlen:s.data.toList.length=s.size:=AjA (xs:=s.data);have H:∀k,k≤s.size→ROk s k ((s.data.toList.take k).foldl De ⟨0,false,0,0⟩):=fun k=>by
  induction k with
  | zero=>intro _;exact .zero
  | succ k ih=>
   intro hk;obtain⟨u,hu,EG⟩:=byte_at (show k<s.size by omega);have:=(ih (by omega)).step EG (hby u (AiM EG));rwa[AQ EG,Aj0]
 have hr:=H s.size (AiV _);rw[AiQ (by omega)]at hr;have hc:jD s s.size≤15:=Aiy (AkG ((List.take_sublist _ _).filter _)) sS;have h1:=hr.nd;have h3:=hr.lo;have h4:=hr.hi;have hm:=Nat.lt_of_lt_of_le hr.m (Lv (show _≤15 by omega))
 change (Ga s).m<_ at hm
 change (Ga s).nd≤_ at h1
 change ((Ga s).nd:Int)-(Ga s).dp≤_ at h3
 change (Ga s).dp≤(Ga s).nd at h4
 unfold SH;split
 ·exact⟨by decide,by decide,hm⟩
 ·split<;>omega
theorem mg {m:Nat}{e:Int}(hg:Gl σ)(hm:m<1000000000000000)(h1:-15≤e)(h2:e≤0)(h:∀x:Nat,(toF x:Nat)=(if e=0 then toF (FloatKind.f64.nearest m) else RO 4 (FloatKind.f64.nearest m) (SG.getD (-e).toNat 0))→R (.T #[.float .f64 x,.bool true]) σ):
  Spec prog 287 #[.U (m:Nat),.I e,.bool false] σ R:=by
 refine Cn.start ⟨52,hg.bits,by decide,fun x11 e11=>⟨fun hh=>?_,fun _=>?_⟩⟩
 ·exfalso;apply hh
  rw[e11];exact Int.ediv_eq_zero_of_lt (by omega) (by show(m:Int)<4503599627370496;omega)
 refine Ls (v:=.float .f64 (FloatKind.f64.nearest m)) (fun w=>by kernel_rfl) ⟨_,rfl,fun hh=>(by cases hh),fun _=>Cn.Vj ⟨fun h0=>h _ (by rw[AiL h0]),fun h0=>⟨fun hh=>by omega,fun _=>⟨fun _=>⟨fun _=>?_,fun hh=>absurd (by omega) hh⟩,fun hh=>absurd (by omega) hh⟩⟩⟩⟩;obtain⟨b,o,n,c,hp,hn,hl⟩:=hg.pow;refine⟨_,n,c,hp,fun lU e60=>?_⟩;have AYE:lU=-e:=by rw[e60];simp[IntKind.wrap,IntKind.bits,IntKind.signed];omega
 have Aq:(-e).toNat<SG.length:=by show _<16;omega
 refine⟨b,o,rfl,by omega,SG.getD (-e).toNat 0,?_,Vx fun y hy=>⟨_,rfl,h y (by rw[AiK h0];exact hy)⟩⟩;rw[AYE];exact hl _ _ (by rw[List.getD_eq_getElem?_getD,AiN Aq];rfl)
theorem sT {s:ByteArray}(hg:Gl σ)(ht:E4 s=true)(h:∀x:Nat,((toF x:Nat):Int)=RB s→R (.T #[.float .f64 x,.I (s.size:Nat),.nilIface]) σ):Spec prog 264 #[.string s] σ R:=by
 obtain⟨h1,h2,hm⟩:=pV ht;refine Gs.start (dS ht ⟨_,_,_,rfl,fun hh=>(by cases hh),fun _=>sR ht ⟨_,_,_,_,_,_,_,rfl,fun hh=>(by cases hh),fun _=>⟨fun hh=>(by cases hh),fun _=>⟨true,hg.opt,fun _=>EF.start ⟨fun hh=>(by cases hh),fun _=>⟨_,rfl,by decide,fun eZ e67=>?_⟩⟩,fun hh=>(by cases hh)⟩⟩⟩⟩);have AYF:eZ=0:=by rw[e67];rfl
 subst AYF;refine⟨fun h0=>fun x71 e71=>.y AC3 ⟨_,rfl,h _ ?_⟩,fun h0=>⟨fun hh=>by omega,fun _=>⟨fun hh=>by omega,fun _=>⟨fun _=>mg hg hm h1 h2 fun x hx=>⟨_,_,rfl,fun _=>h x ?_,fun hh=>(by cases hh)⟩,fun hh=>(by cases hh)⟩⟩⟩⟩
 ·have:x71=0:=by rw[e71];decide
  rw[this];unfold RB;rw[AiL (by omega)];rfl
 ·unfold RB;dsimp only;rw[AiK (by omega),hx];split<;>rfl
theorem jF {s:ByteArray}(hg:Gl σ)(ht:E4 s=true)(h:R (.T #[.U (RB s),.bool true]) σ):Spec prog 156 #[.string s] σ R:=by
 obtain⟨_,AC0,_⟩:=Lu ht;refine UW.start (dQ (by omega) ht ⟨_,rfl,fun hh=>(by cases hh),fun _=>Jj.start (Ex.start (DL.start ⟨fun hh=>absurd hh (by decide),fun _=>sT hg ht fun x hx=>⟨_,_,_,rfl,_,_,_,rfl,fun hh=>absurd rfl hh,fun _=>⟨_,_,rfl,false,fun w _=>by kernel_rfl,fun hh=>(by cases hh),fun _=>⟨_,_,rfl,JN ⟨_,rfl,by rw[hx];exact h⟩⟩⟩⟩⟩))⟩)
end
def AL {α:Type}(s:Nat)(E:Hp→List Value→α→Prop)(σ0 σ:Hp)(p:Option Addr)(n c:Nat)(xs:List α):Prop:=Ix s E σ p n c xs∧Ext σ0 (σ.del p)
section
variable {α:Type}{s bs:Nat}{E:Hp→List Value→α→Prop}{σ0 σ σ':Hp}{p:Option Addr}{n c:Nat}{xs:List α}
theorem AL.nil (hx:Ext σ0 σ):AL s E σ0 σ none 0 0 []:=⟨Ix.nil,hx⟩
theorem AL.mono (hE:Ht E)(h:AL s E σ0 σ p n c xs)(hx:Ext σ σ'):AL s E σ0 σ' p n c xs:=⟨h.1.mono hE hx,h.2.trans (hx.del p)⟩
theorem AL.up (h:AL s E σ0 σ p n c xs):Ext σ0 σ:=h.2.trans (Ext.Jb _ _)
theorem AL.rd (hE:Ht E)(h:AL s E σ0 σ p n c xs):AT s E σ p n xs:=h.1.rd hE
theorem AL.new (h:AL s E σ0 σ p n c xs)(hx:Ext σ σ'):Ext (σ.new σ') (σ'.del p):=Ext.ABV (fun a ha=>h.1.block a ha)
theorem AL.Hu {P:Program}{T Et ty:TypeId}{vs:List Value}{x:α}{Φ:Value→Hp→Prop}(hE:Ht E)[J6 P T Et s bs](h:AL s E σ0 σ p n c xs)(hl:vs.length=s)(h1:G7 vs)(hx:E (σ.del p) vs x)(hb:(n+1)*bs≤140737488355328)
  (hΦ:∀p' c' σ',AL s E σ0 σ' p' (n+1) c' (xs++[x])→Ext (σ.del p) (σ'.del p')→Φ (.slice p' (n+1) c') σ') {b:Nat} (hn:σ b=none) :
  AK P (Builtin.append_ #[T,T] ty #[.slice p n c,.slice (some ⟨b,0,none⟩) 1 1]) (σ.set b (.cells vs.toArray Et (0,0))) Φ:=by
 obtain⟨⟨hlen,cs,ho,hc⟩,sU⟩:=h;refine DT (ho.mono (.set hn)) ⟨by rw[hl,Nat.one_mul],by omega,.inr ⟨b,0,rfl,Ae.of fun j v hj=>?_⟩⟩ h1 hb fun p' c' σ' Sj KU=>?_
 ·simp[Hp.ld,Hp.AA,hj]
 ·have e:Ext (σ.del p) (σ'.del p'):=((Ext.set hn).del p).trans KU;exact hΦ p' c' σ' ⟨⟨by simp[hlen],_,Sj,(hc.snoc hl hx).mono hE e⟩,sU.trans e⟩ e
end
theorem Aa.one (σ:Hp)(vs:List Value)(x:El)(h:Aa σ vs x):G7 vs:=by
 obtain⟨p,n,c,rfl,_⟩:=h;intro u hu;simp only[AiT,Air,or_false]at hu;rcases hu with rfl|rfl<;>rfl
theorem Aa.at {σ:Hp}{p:Option Addr}{n i:Nat}{l:List El}{x:El}(hr:AT 2 Aa σ p n l)(hx:l[i]?=some x):∃b o q m d,p=some ⟨b,o,none⟩∧Ae σ b (o+i*2) [.slice q m d,.U x.v]∧Dy σ q m x.ls:=by
 obtain⟨b,o,vs,hp,⟨q,m,d,rfl,h⟩,hl⟩:=AT.idx hr hx;exact⟨b,o,q,m,d,hp,hl,h⟩
section
variable {σ σ' σ0:Hp}{R:Rr}
theorem zO {p:Option Addr}{n c:Nat}{xs:List Int}{Φ:Value→Hp→Prop}(hr:EP .u8 σ p n xs)(h:Φ (.string (strOfNums xs)) σ):AK prog (convert 117 9 (.slice p n c)) σ Φ:=by
 refine AK.pu (fun w hs=>?_) h;have h1:=underlying117;have h2:=underlying9;by_cases hn:n=0
 ·subst hn;have hx:xs=[]:=Ai0 hr.1;subst hx;rw[run_convert_bytes_string w 117 9 _ p 0 c h1 underlying5 h2];cases p<;>simp[Conv.bytesToString,loadCells]<;>rfl
 ·obtain⟨x0,sU⟩:=hr.ex (k:=0) (by omega);obtain⟨b,o,rfl,_⟩:=hr.at sU;refine run_convert_bytes_arg w 117 _ h1 underlying5 b o n c xs hr.1 (fun i hi=>?_) 9 h2;obtain⟨x,hx⟩:=hr.ex hi;obtain⟨b',o',he,hl⟩:=hr.at hx;cases he;have:=cell_of hs hl;simpa[DH,hx] using this
theorem ID {p:Option Addr}{n c:Nat}{ls:List Lb}(hr:Dy σ p n ls)(hs:Af ls)(h:∀σ',Ext σ σ'→R (.returned (.string (EO ls))) σ'):Spec prog 39 #[.slice p n c] σ R:=
 gR.start (dI hr hs fun p' n' c' σ' ho hx=>⟨_,_,_,rfl,zO (EJ.rd (Au.mono (Ext.B9 _ _) ho)) ⟨_,rfl,h σ' hx⟩⟩)
theorem IE {p:Option Addr}{n c:Nat}{ls:List Lb}(hr:Dy σ p n ls)(hn:n≤1000000)(h:∀p' n' c' σ',Dy (σ.new σ') p' n' (Bd ls)→Ext σ σ'→R (.returned (.slice p' n' c')) σ'):Spec prog 162 #[.slice p n c] σ R:=by
 refine ah.start fun b hb=>?_;have hx:=Ext.set (o:=.cells #[(.string (ByteArray.mk #[95,95,110,97,109,101,95,95]))] 9 (0,0)) hb;refine Mn (ns:=[SA]) (hr.mono BL.mono hx) hn (YT (Hp.AA _ _ _)) fun p' n' c' σ' ho KU=>⟨_,_,_,rfl,h p' n' c' σ' ((ho.rd BL.mono).mono BL.mono (Ext.Eg hx)) (hx.trans KU)⟩
theorem bB {p q:Option Addr}{n c m d:Nat}{ls:List Lb}{ns:List ByteArray}(hr:Dy σ p n ls)(hn:n≤1000000)(hs:G6 1 σ q m (ns.map .string))
  (h:∀p' n' c' σ',Dy (σ.new σ') p' n' (SB ns ls)→Ext σ σ'→R (.returned (.slice p' n' c')) σ'):Spec prog 165 #[.slice p n c,.slice q m d] σ R:=by
 refine Wy.start fun b3 hb3=>?_;have BU:Ext σ (σ.set b3 (.cells #[.slice q m d] 42 (0,0))):=.set hb3;refine Uk (f:=213) (g:=fun x=>Hi x.1 ns) JI.en (hr.mono BL.mono BU) hn (fun σ' x R' hx RN=>?_) fun p' n' c' σ' ho hx=>⟨_,_,_,rfl,h p' n' c' σ' ?_ (BU.trans hx)⟩
 ·refine JI.start fun _=>⟨q,m,d,Aj (hx _ _ (Hp.AA _ _ _)) rfl,Oj (hs.mono (BU.trans hx)) ⟨_,rfl,RN⟩⟩
 ·exact(ho.rd BL.mono).mono BL.mono (Ext.Eg BU)
theorem sV {p q:Option Addr}{n c m d:Nat}{ls:List Lb}{ns:List ByteArray}(hr:Dy σ p n ls)(hn:n≤1000000)(hs:G6 1 σ q m (ns.map .string))
  (h:∀p' n' c' σ',Dy (σ.new σ') p' n' (Bd (Qb ns ls))→Ext σ σ'→R (.returned (.slice p' n' c')) σ') {R':Rr} (hR:∀p' n' c' σ',R (.returned (.slice p' n' c')) σ'→R' (.returned (.slice p' n' c')) σ') :
  Spec prog 166 #[.slice p n c,.slice q m d] σ (BB R' (CS fun kA n15 cz y=>Spec prog 162 #[.slice kA n15 cz] y (BB R' (CS fun gV n16 aZ AB=>R' (.returned (.slice gV n16 aZ)) AB)))):=by
 refine Mn hr hn hs fun p' n' c' σ1 ho hx=>⟨_,_,_,rfl,?_⟩;have hl:n'≤n:=by
  have h1:=ho.1;have h2:=Ais (fun x:Lb=>!Hi x.1 ns) ls;have h3:ls.length=n:=hr.1;omega
 refine IE ((ho.rd BL.mono).mono BL.mono (Ext.B9 _ _)) (by omega) fun p2 n2 c2 σ2 Ha An=>⟨_,_,_,rfl,hR _ _ _ _ (h p2 n2 c2 σ2 (Ha.mono BL.mono (Ext.Eg hx)) (hx.trans An))⟩
theorem Vz {n:Nd}{p q r:Option Addr}{k c m d j e:Nat}{ls:List Lb}(hr:Dy σ r j ls)(hj:j≤1000000)(hs:G6 1 σ q m (n.names.map .string))
  (h:∀p' n' c' σ',Dy (σ.new σ') p' n' (D0 n ls)→Ext σ σ'→R (.returned (.slice p' n' c')) σ'):Spec prog 222 #[KD n p k c q m d,.slice r j e] σ R:=by
 refine pD.start fun _=>⟨fun h3=>bB hr hj hs fun p' n' c' σ' S3 hx=>⟨_,_,_,rfl,h p' n' c' σ' ?_ hx⟩,fun h3=>sV hr hj hs (fun p' n' c' σ' S3 hx=>h p' n' c' σ' ?_ hx) fun _ _ _ _ hh=>hh⟩
 ·unfold D0;rw[AiL h3];exact S3
 ·unfold D0;rw[AiK h3];exact S3
theorem Af.filter {ls:List Lb}(g:Lb→Bool)(h:Af ls):Af (ls.filter g):=⟨Aiy (Ais _ _) h.1,fun x hx=>h.2 x (List.mem_filter.1 hx).1⟩
theorem Af.bare {ls:List Lb}(h:Af ls):Af (Bd ls):=h.filter _
theorem Af.D0 {n:Nd}{ls:List Lb}(h:Af ls):Af (TwW.D0 n ls):=by
 unfold TwW.D0 SB Bd Qb;split
 ·exact h.filter _
 ·exact(h.filter _).filter _
structure Lw (R:Rr)(σ:Hp)(X:Option Vv):Prop where
 ok:∀x σ' p n c q m d,X=some x→Ext σ σ'→AT 2 Aa σ' p n x.vec→AT 2 KV σ' q m x.RV→n≤c→m≤d→R (.T #[.agg #[.I x.kind,.U x.v,.slice p n c,.slice q m d],.I 0]) σ'
 no:X=none→∀σ',Ext σ σ'→R (.T #[.agg #[.I 0,.U 0,.N,.N],.I 223]) σ'
theorem Lw.sW {X:Option Vv}(h:Lw R σ X)(hx:Ext σ σ'):Lw R σ' X:=⟨fun x σ2 p n c q m d h0 h1 h2 h3=>h.ok x σ2 p n c q m d h0 (hx.trans h1) h2 h3,fun h0 σ2 h1=>h.no h0 σ2 (hx.trans h1)⟩
theorem Lw.Zn {X:Option Vv}(h:Lw R σ X):Lw (BB R (fun z y=>∃iL iM iN iO iP iQ iR iS dE,z=(.tuple #[.agg #[.I iL,.U iM,.slice iN iO iP,.slice iQ iR iS],.I dE])∧R (.T #[.agg #[.I iL,.U iM,.slice iN iO iP,.slice iQ iR iS],.I dE]) y)) σ X:=
 ⟨fun x σ' p n c q m d h0 h1 h2 h3 h4 h5=>⟨_,_,_,_,_,_,_,_,_,rfl,h.ok x σ' p n c q m d h0 h1 h2 h3 h4 h5⟩,fun h0 σ' h1=>⟨_,_,_,_,_,_,_,_,_,rfl,h.no h0 σ' h1⟩⟩
theorem sY [G9]{p q:Option Addr}{n c m d:Nat}{v u:Int}{ls ms:List Lb}(hr:Dy σ p n ls)(hs:Dy σ q m ms)(h:∀σ',Ext σ σ'→R (.returned (.I (BX ls ms))) σ'):Spec prog 211 #[.agg #[.slice p n c,.U v],.agg #[.slice q m d,.U u]] σ R:=
 QQ.start fun _ _=>Pb hr hs fun σ' hx=>⟨_,rfl,h σ' hx⟩
end
end TwW
end
