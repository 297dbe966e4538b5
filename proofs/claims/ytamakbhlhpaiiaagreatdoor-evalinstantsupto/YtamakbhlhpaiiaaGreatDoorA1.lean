/-
  Part 1 of the proof that the law EvalInstantsUptoCardSaid of the given program answers true for every input of the given statement; the input reads behind the call as it did. (The texts: packed from 20 texts. Names are shortened by the packing program, for the bound on size.)
-/
import Derived.OrdersHeld
import Derived.StillTail
import Derived.Laws.Entries
import Derived.OrdersIn
import Derived.RangeFuncRecord
import Derived.KernelRfl
import Derived.Laws.Slices
import Derived.Laws.Small
import Derived.Laws.Cells
import Derived.Laws.Strings
import Derived.Laws.Tables
import Derived.Laws.Strings2
import Derived.Laws.Pointers
import Derived.Laws.Append
import Derived.Laws.AppendOwn
import Derived.Lib.Overlaps
import Derived.RangeFuncIn
import Derived.ProofKit
import Derived.SizedLaws
import Derived.Deep.Slices
import Derived.Scope
import Derived.Maps.RangeRun
import Derived.MapKept
import Derived.Test.YtamakbhlhpaiiaaGreatDoorProg
import Derived.ChangeKeysEq
set_option linter.all false
namespace Go.Value
abbrev I(x:Int):Value:=.int .i64 x
abbrev U(x:Int):Value:=.int .u64 x
abbrev N:Value:=.slice none 0 0
end Go.Value
namespace Go.Ending
abbrev T(a:Array Value):Ending:=.returned (.tuple a)
abbrev B(a:Bool):Ending:=.returned (.bool a)
end Go.Ending
abbrev AiK:=@if_neg
abbrev AiL:=@if_pos
abbrev AiM:=@List.mem_of_getElem?
abbrev AiN:=@List.getElem?_eq_getElem
abbrev AiO:=@Option.some.injEq
abbrev AiP:=@of_decide_eq_true
abbrev AiQ:=@List.take_of_length_le
abbrev AiR:=@Nat.zero_le
abbrev AiS:=@Bool.and_eq_true
abbrev AiT:=@List.mem_cons
abbrev AiU:=@List.length_take
abbrev AiV:=@Nat.le_refl
abbrev AiW:=@decide_eq_true_eq
abbrev AiX:=@List.mem_cons_of_mem
abbrev AiY:=@List.mem_singleton
abbrev AiZ:=@decide_eq_false
abbrev Aia:=@decide_eq_true
abbrev Aib:=@List.drop_eq_nil_of_le
abbrev Aic:=@List.length_drop
abbrev Aid:=@List.length_append
abbrev Aie:=@congrArg
abbrev Aif:=@List.length_filterMap_le
abbrev Aig:=@Decidable.not_not
abbrev Aih:=@List.mem_cons_self
abbrev Aii:=@List.length_map
abbrev Aij:=@Option.some.inj
abbrev Aik:=@decide_eq_false_iff_not
abbrev Ail:=@List.getElem?_take
abbrev Aim:=@List.getElem?_cons_zero
abbrev Ain:=@List.getElem?_drop
abbrev Aio:=@of_decide_eq_false
abbrev Aip:=@Array.toList_inj
abbrev Aiq:=@List.map_append
abbrev Air:=@List.not_mem_nil
abbrev Ais:=@List.length_filter_le
abbrev Ait:=@List.getElem?_map
abbrev Aiu:=@Int.toNat_natCast
abbrev Aiv:=@Option.map_some
abbrev Aiw:=@Nat.mul_le_mul_right
abbrev Aix:=@List.getElem?_set_self
abbrev Aiy:=@Nat.le_trans
abbrev Aiz:=@List.getElem?_set_ne
abbrev Ai0:=@List.eq_nil_of_length_eq_zero
abbrev Ai1:=@List.cons_append
abbrev Ai2:=@List.pairwise_iff_getElem
abbrev Ai3:=@List.getElem?_cons_succ
abbrev Ai4:=@List.map_cons
abbrev Ai5:=@ByteArray.size_extract
abbrev Ai6:=@List.getElem?_append_left
abbrev Ai7:=@Nat.eq_of_beq_eq_true
abbrev Ai8:=@List.take_append_drop
abbrev Ai9:=@decide_eq_decide
abbrev AjA:=@Array.length_toList
abbrev AjB:=@List.length_cons
abbrev AjC:=@Int.natCast_nonneg
abbrev AjD:=@List.getElem?_append
abbrev AjE:=@List.getElem?_append_right
abbrev AjF:=@Nat.le_of_ble_eq_true
abbrev AjG:=@List.length_singleton
abbrev AjH:=@Nat.add_zero
abbrev AjI:=@Ne.symm
abbrev AjJ:=@Array.getElem?_toList
abbrev AjK:=@List.nil_append
abbrev AjL:=@List.append_assoc
abbrev AjM:=@Nat.add_mul
abbrev AjN:=@Bool.false_and
abbrev AjO:=@List.length_zip
abbrev AjP:=@List.ext_getElem?
abbrev AjQ:=@List.drop_drop
abbrev AjR:=@Bool.true_and
abbrev AjS:=@Nat.zero_mul
abbrev AjT:=@List.mem_of_mem_drop
abbrev AjU:=@Bool.eq_false_iff
abbrev AjV:=@Nat.zero_add
abbrev AjW:=@Bool.and_eq_false_iff
abbrev AjX:=@Nat.mul_one
abbrev AjY:=@List.mem_of_mem_take
abbrev AjZ:=@ByteArray.data_extract
abbrev Aja:=@beq_iff_eq
abbrev Ajb:=@List.foldl_cons
abbrev Ajc:=@List.getLast?_eq_getElem?
abbrev Ajd:=@List.filter_append
abbrev Aje:=@List.flatMap_cons
abbrev Ajf:=@Bool.or_eq_true
abbrev Ajg:=@Nat.min_eq_left
abbrev Ajh:=@List.length_set
abbrev Aji:=@List.drop_of_length_le
abbrev Ajj:=@List.length_tail
abbrev Ajk:=@List.getElem?_eq_none
abbrev Ajl:=@Bool.and_false
abbrev Ajm:=@List.map_singleton
abbrev Ajn:=@List.length_replicate
abbrev Ajo:=@List.mem_append_left
abbrev Ajp:=@List.cons.injEq
abbrev Ajq:=@List.getElem?_set
abbrev Ajr:=@Prod.mk.injEq
abbrev Ajs:=@List.take_append_of_le_length
abbrev Ajt:=@List.getElem?_replicate
abbrev Aju:=@Nat.le_add_right
abbrev Ajv:=@Bool.false_eq_true
abbrev Ajw:=@Nat.succ_mul
abbrev Ajx:=@Nat.min_self
abbrev Ajy:=@List.sum_append
abbrev Ajz:=@List.isPrefixOf_iff_prefix
abbrev Aj0:=@List.foldl_append
abbrev Aj1:=@Nat.mod_lt
abbrev Aj2:=@Array.getElem?_eq_getElem
abbrev Aj3:=@List.mem_of_getLast?
abbrev Aj4:=@Decidable.byContradiction
abbrev Aj5:=@List.drop_take
abbrev Aj6:=@Nat.mul_le_mul
abbrev Aj7:=@List.take_zero
abbrev Aj8:=@List.filter_cons
abbrev Aj9:=@Array.getElem?_setIfInBounds_ne
abbrev AkA:=@List.head?_cons
abbrev AkB:=@Array.eq_empty_of_size_eq_zero
abbrev AkC:=@List.append_nil
abbrev AkD:=@Nat.shiftLeft_zero
abbrev AkE:=@Nat.add_sub_cancel
abbrev AkF:=@List.head?_eq_getElem?
abbrev AkG:=@List.Sublist.length_le
abbrev AkH:=@Array.getElem?_extract
abbrev AkI:=@Nat.pow_pos
abbrev AkJ:=@Nat.pow_add
abbrev AkK:=@Nat.lt_trichotomy
abbrev AkL:=@Nat.lt_or_ge
abbrev AkM:=@Array.getElem?_append
abbrev AkN:=@Nat.sub_self
abbrev AkO:=@List.drop_zero
abbrev AkP:=@List.takeWhile_prefix
abbrev AkQ:=@Array.getD_eq_getD_getElem?
abbrev AkR:=@Array.toList_extract
abbrev AkS:=@Int.tmod_eq_emod_of_nonneg
abbrev AkT:=@Array.getElem?_push
abbrev AkU:=@List.drop_eq_getElem_cons
abbrev AkV:=@Array.setIfInBounds_comm
section
namespace Tw
open Go
abbrev Hp:=Nat→Option Obj
abbrev Rr:=Ending→Hp→Prop
abbrev Env:=Nat→Value
abbrev Bx:=List (Nat×Obj)
theorem kN {a b:Nat}(h:a≠b):Nat.beq a b=false:=by
 cases hb:Nat.beq a b
 ·rfl
 ·exact absurd (Ai7 hb) h
def Sat (σ:Hp)(w:World):Prop:=∀b o,σ b=some o→w.heap[b]?=some o
def LH (bx:Bx)(w:World):Prop:=∀p∈bx,w.heap[p.1]?=some p.2
def Hp.set (σ:Hp)(b:Nat)(o:Obj):Hp:=fun i=>if i=b then some o else σ i
def upd (e:Env)(t:Nat)(v:Value):Env:=fun i=>bif Nat.beq i t then v else e i
def put (e:Env)(d:Option Nat)(v:Value):Env:=match d with | some d=>upd e d v | none=>e
def AD (e:Env):Operand→Value
 | .tmp t=>e t
 | .const v=>v
 | .global g=>.pointer (some ⟨g,0,none⟩)
 | .func f=>.func (.func f) #[] #[]
class G9 where
 on:Prop
instance AVE:G9:=⟨False⟩
variable [G9]
def Gh (w w':World):Prop:=w'.os=w.os∧w'.tape=w.tape∧(G9.on→∃n:Nat,w'.drawn=w.drawn+n)
theorem Gh.same {w w':World}(h1:w'.os=w.os)(h2:w'.tape=w.tape)(h3:w'.drawn=w.drawn):Gh w w':=⟨h1,h2,fun _=>⟨0,h3⟩⟩
theorem Gh.trans {w w' w'':World}(h:Gh w w')(g:Gh w' w''):Gh w w'':=
 ⟨g.1.trans h.1,g.2.1.trans h.2.1,fun hc=>let ⟨n,h3⟩:=h.2.2 hc;let ⟨m,g3⟩:=g.2.2 hc;⟨n+m,by omega⟩⟩
theorem Gh.drew {w w':World}(h:Gh w w'):Gh w { w' with drawn:=w'.drawn+1 }:=h.trans ⟨rfl,rfl,fun _=>⟨1,rfl⟩⟩
structure Fin (σ:Hp)(F:Nat→Prop)(w w':World):Prop where
 sat:Sat σ w'
 E5:∀b,F b→σ b=none∧w'.heap[b]?=w.heap[b]?
 os:Gh w w'
 out:w'.output=w.output
 grow:w.heap.size≤w'.heap.size
def Spec (P:Program)(f:FuncId)(args:Array Value)(σ:Hp)(R:Rr):Prop:=
 ∀(w:World) (F:Nat→Prop),Sat σ w→(∀b,F b→b<w.heap.size∧σ b=none)→
  Calls P f args w (fun e w'=>∃σ',R e σ'∧Fin σ' F w w')
theorem Spec.mono {P:Program}{f:FuncId}{args:Array Value}{σ:Hp}{R R':Rr}(h:Spec P f args σ R)
  (hr:∀e σ',R e σ'→R' e σ'):Spec P f args σ R':=fun w F hs hF=>
 (h w F hs hF).mono fun _ _ ⟨σ',h1,h2⟩=>⟨σ',hr _ _ h1,h2⟩
structure St (n:Nat)(ds:List Deferred)(w0:World)(F:Nat→Prop)(e:Env)(bx:Bx)(σ:Hp)(a:Act)(w:World):Prop where
 size:a.tmps.size=n
 env:∀t,a.tmps.getD t undef=e t
 defers:a.defers=ds
 sat:Sat σ w
 box:LH bx w
 free:∀p∈bx,σ p.1=none∧¬F p.1
 nodup:(bx.map (·.1)).Nodup
 E5:∀b,F b→b<w0.heap.size∧σ b=none∧w.heap[b]?=w0.heap[b]?
 os:Gh w0 w
 out:w.output=w0.output
 grow:w0.heap.size≤w.heap.size
theorem St.eval {n ds w0 F e bx σ a w}(h:St n ds w0 F e bx σ a w):a.eval=AD e:=by
 funext x
 cases x with
 | tmp t=>exact h.env t
 | _=>rfl
theorem St.put {n ds w0 F e bx σ a w}(h:St n ds w0 F e bx σ a w)(d:Option Nat)(v:Value)(hd:∀t,d=some t→t<n):
  St n ds w0 F (put e d v) bx σ (a.put d v) w:=by
 cases d with
 | none=>exact h
 | some d=>
  have hd:=hd d rfl;refine { h with size:=by simp[Act.put,h.size],env:=fun t=>?_,defers:=h.defers };simp only[Act.put,Tw.put,upd];by_cases ht:t=d
  ·subst ht;have:t<a.tmps.size:=by rw[h.size];exact hd
   simp[this]
  ·have h1:=h.env t;have hb:Nat.beq t d=false:=kN ht;simp only[hb,cond_false];rw[←h1];simp[Aj9 (AjI ht)]
theorem St.drew {n ds w0 F e bx σ a w}(h:St n ds w0 F e bx σ a w):St n ds w0 F e bx σ a { w with drawn:=w.drawn+1 }:=
 { h with sat:=h.sat,box:=h.box,E5:=h.E5,os:=h.os.drew,out:=h.out,grow:=h.grow }
structure Gl where
 P:Program
 f:FuncId
 n:Nat
 R:Rr
 JY:Option Nat
 ds:List Deferred
 pan:(JY=none∧ds=[])∨∀ch σ,¬R (.panicked ch) σ
abbrev Gl.fn (P:Program)(f:FuncId)(n:Nat)(R:Rr):Gl:=⟨P,f,n,R,none,[],.inl ⟨rfl,rfl⟩⟩
def wd (r:Option Nat):Fence:={ Fence.wide with round:=r }
theorem ABP {r:Option Nat}{n:Nat}:(wd r).room n:=fun _ h=>by simp[wd,Fence.wide]at h
theorem E6 {P:Program}{r:Option Nat}{ρ:Operand→Value}{o:Oper}{w w':World}{nx:Next}(h:(execOp ρ o).run P w=.ok nx w')(hn:∀d,nx≠.defer d):(o.semAt r ρ).run P w=.ok nx w':=by
 by_cases hd:∃c,o.op=.defer c
 ·obtain⟨c,hc⟩:=hd;simp only[execOp,hc,Sem.run_bind]at h;cases hr:(resolve ρ c o.type).run P w with
  | ok d w2=>
   rw[hr]at h;simp only[Result.andThen_ok,Sem.run_pure,Result.ok.injEq]at h;exact absurd h.1.symm (hn d)
  | halt x w2=>rw[hr]at h;simp[Result.andThen]at h
 ·rw[Oper.semAt_eq r ρ o (fun c hc=>hd ⟨c,hc⟩)];exact h
def QA (P:Program)(f:FuncId)(JY:Option Nat)(cs:List Frame)(m:Machine)(R:Ending→World→Prop):Prop:=
 match JY with
 | none=>∃e w' fr,R e w'∧Comes P m (lone fr cs w') e∧fr.fn=f∧fr.leaving P w' e
 | some _=>∀c cs',cs=c::cs'→∃v w',R (.returned v) w'∧Steps P m (lone (c.finish v) cs' w')
theorem QA.of_steps {P f JY cs m m' R}(hs:Steps P m m')(h:QA P f JY cs m' R):QA P f JY cs m R:=by
 cases JY with
 | none=>exact let ⟨e,w',fr,r,c,x⟩:=h;⟨e,w',fr,r,.of_steps hs c,x⟩
 | some l=>exact fun c cs' hc=>let ⟨v,w',r,x⟩:=h c cs' hc;⟨v,w',r,hs.trans x⟩
def Kd (P:Program)(f:FuncId)(JY:Option Nat)(k:List Item)(a:Act)(w:World)(R:Ending→World→Prop):Prop:=
 ∀(b:Frame) (cs:List Frame),b.fn=f→b.kind=.normal→b.roundOf=JY→(∃fn,P.funcs[f]?=some fn)→QA P f JY cs (lone (b.atR a k) cs w) R
theorem Kd.step {P f JY k a w R k' a' w'}(hs:∀(b:Frame) cs,b.roundOf=JY→step P (lone (b.atR a k) cs w)=.next (lone (b.atR a' k') cs w'))
 (h:Kd P f JY k' a' w' R):Kd P f JY k a w R:=fun b cs hf hk hr VX=>.of_steps (.one (hs b cs hr)) (h b cs hf hk hr VX)
def ABQ (g:Gl)(w0:World)(F:Nat→Prop):Ending→World→Prop:=fun en w'=>∃σ',g.R en σ'∧Fin σ' F w0 w'
def At (g:Gl)(k:List Item)(e:Env)(bx:Bx)(σ:Hp):Prop:=
 ∀w0 F a w,St g.n g.ds w0 F e bx σ a w→Kd g.P g.f g.JY k a w (ABQ g w0 F)
section steps
variable {g:Gl}{k:List Item}{e:Env}{bx:Bx}{σ:Hp}
theorem At.skip (h:At g k e bx σ):At g (.code .skip::k) e bx σ:=fun w0 F a w st=>.step (fun _ _ _=>stepR_skip) (h w0 F a w st)
theorem At.label {l}(h:At g k e bx σ):At g (.code (.label l)::k) e bx σ:=fun w0 F a w st=>.step (fun _ _ _=>stepR_label) (h w0 F a w st)
theorem At.inBlock {i}(h:At g k e bx σ):At g (.inBlock i::k) e bx σ:=fun w0 F a w st=>.step (fun _ _ _=>stepR_inBlock) (h w0 F a w st)
theorem At.seq {c x y}(hc:c=Code.seq x y)(h:At g (.code x::.code y::k) e bx σ):At g (.code c::k) e bx σ:=
 hc▸fun w0 F a w st=>.step (fun _ _ _=>stepR_seq) (h w0 F a w st)
theorem At.block {c i x}(hc:c=Code.block i x)(h:At g (.code x::.inBlock i::k) e bx σ):At g (.code c::k) e bx σ:=
 hc▸fun w0 F a w st=>.step (fun _ _ _=>stepR_block) (h w0 F a w st)
theorem At.loop {c x}(hc:c=Code.loop x)(h:At g (.code x::.inLoop x::k) e bx σ):At g (.code c::k) e bx σ:=
 hc▸fun w0 F a w st=>.step (fun _ _ _=>stepR_loop) (h w0 F a w st)
theorem At.inLoop {x}(h:At g (.code x::.inLoop x::k) e bx σ):At g (.inLoop x::k) e bx σ:=
 fun w0 F a w st=>.step (fun _ _ _=>stepR_inLoop) (h w0 F a w st)
theorem At.exit {c i k'}(hc:c=Code.exit i)(hk:exitTo i k=some k')(h:At g k' e bx σ):At g (.code c::k) e bx σ:=
 hc▸fun w0 F a w st=>.step (fun _ _ _=>stepR_exit hk) (h w0 F a w st)
theorem At.goto {c i k'}(hc:c=Code.goto i)(hk:gotoIn i k=some k')(h:At g k' e bx σ):At g (.code c::k) e bx σ:=
 hc▸fun w0 F a w st=>.step (fun _ _ _=>stepR_goto hk) (h w0 F a w st)
theorem At.AED {c x y z}(hc:c=Code.cond x y z)(hx:AD e x=.bool true)(h:At g (.code y::k) e bx σ):At g (.code c::k) e bx σ:=
 hc▸fun w0 F a w st=>.step (fun _ _ _=>stepR_cond (t:=true) (by rw[st.eval];exact hx)) (h w0 F a w st)
theorem At.AEE {c x y z}(hc:c=Code.cond x y z)(hx:AD e x=.bool false)(h:At g (.code z::k) e bx σ):At g (.code c::k) e bx σ:=
 hc▸fun w0 F a w st=>.step (fun _ _ _=>stepR_cond (t:=false) (by rw[st.eval];exact hx)) (h w0 F a w st)
def left (ds:List Deferred)(σ:Hp):Hp:=ds.foldl (fun σ d=>match d.target with | .collected D=>σ.set D (.deferred none) | _=>σ) σ
def Marks:List Deferred→Hp→Prop
 | [],_=>True
 | d::ds,σ=>∃D,d={ target:=.collected D,args:=#[] }∧σ D=some (.deferred (some []))∧Marks ds (σ.set D (.deferred none))
theorem Fin.put {σ:Hp}{F:Nat→Prop}{w0 w:World}{l:Nat}{o o':Obj}(h:Fin σ F w0 w)(hl:σ l=some o):Fin (σ.set l o') F w0 (w.putObj l o'):=by
 have Aq:l<w.heap.size:=(Array.getElem?_eq_some_iff.1 (h.sat l o hl)).1;refine⟨fun k u hk=>?_,fun k hk=>?_,h.os,h.out,by simpa using h.grow⟩
 ·by_cases hkl:k=l
  ·subst hkl;simp only[Hp.set,if_true]at hk;cases hk;exact World.putObj_heap_same Aq
  ·simp only[Hp.set,hkl,if_false]at hk;rw[World.putObj_heap_other hkl];exact h.sat k u hk
 ·have hp:=h.E5 k hk;have hkl:k≠l:=fun e=>by rw[e,hl]at hp;cases hp.1
  exact⟨by simp only[Hp.set,hkl,if_false];exact hp.1,by rw[World.putObj_heap_other hkl];exact hp.2⟩
theorem St.toFin {n ds w0 F e bx σ a w}(st:St n ds w0 F e bx σ a w):Fin σ F w0 w:=⟨st.sat,fun b hb=>⟨(st.E5 b hb).2.1,(st.E5 b hb).2.2⟩,st.os,st.out,st.grow⟩
theorem S0 {P:Program}:∀(ds:List Deferred) {σ:Hp} {F:Nat→Prop} {w0 w:World} {fr:Frame} {cs:List Frame},Marks ds σ→Fin σ F w0 w→LH bx w→(∀p∈bx,σ p.1=none)→fr.mode=.returning→fr.defers=ds→
  ∃w',Fin (left ds σ) F w0 w'∧LH bx w'∧Steps P (lone fr cs w) (lone { fr with defers:=[] } cs w')
 | [],σ,F,w0,w,fr,cs,_,hf,hb,_,_,hd=>⟨w,hf,hb,by rw[show({ fr with defers:=[] }:Frame)=fr by cases fr;simp at hd;simp[hd]];exact .refl ..⟩
 | d::ds,σ,F,w0,w,fr,cs,⟨D,hD,hσ,hm⟩,hf,hb,hn,qZ,hd=>by
  subst hD;have h1:=step_collected (P:=P) (fr:=fr) (cs:=cs) (w:=w) (r:=D) (by rw[qZ];simp) hd rfl (run_takeDeferred (hf.sat D _ hσ));have Ah:∀p∈bx,p.1≠D:=fun p hp e=>by have:=hn p hp;rw[e,hσ]at this;cases this
  obtain⟨w',tc,Iw,hs⟩:=S0 ds (fr:={ fr with defers:=[]++ds }) (cs:=cs) hm (hf.put hσ) (fun p hp=>by rw[World.putObj_heap_other (Ah p hp)];exact hb p hp) (fun p hp=>by simp only[Hp.set,Ah p hp,if_false];exact hn p hp) qZ rfl;exact⟨w',tc,Iw,(Steps.one h1).trans hs⟩
theorem At.done {fn:Func}{v:Value}(hf:g.P.funcs[g.f]?=some fn)
  (hr:∀(a:Act) w,(∀t,a.tmps.getD t undef=e t)→Sat (left g.ds σ) w→LH bx w→(results fn a.tmps).run g.P w=.ok v w)
  (h:g.R (.returned v) (left g.ds σ)) (ZI:g.JY=none:=by rfl) (hm:Marks g.ds σ:=by trivial):At g [] e bx σ:=fun w0 F a w st b cs hbf fF nq VX=>by
 have hbn:b.roundOf=none:=nq.trans ZI;obtain⟨w',V7,Iw,hs⟩:=S0 (P:=g.P) (cs:=cs) (fr:={ b.atR a [] with mode:=.returning }) g.ds hm st.toFin st.box (fun p hp=>(st.free p hp).1) rfl st.defers;unfold QA;rw[ZI];exact⟨.returned v,w',_,⟨_,h,V7⟩,(Steps.one (stepR_end hbn)).trans hs,hbf,rfl,rfl,fF,fn,by simpa[Frame.atR,hbf] using hf,hr a w' st.env V7.sat Iw⟩
theorem At.ret {c:Code}{fn:Func}{v:Value}(hc:c=Code.ret)(hf:g.P.funcs[g.f]?=some fn)
  (hr:∀(a:Act) w,(∀t,a.tmps.getD t undef=e t)→Sat (left g.ds σ) w→LH bx w→(results fn a.tmps).run g.P w=.ok v w)
  (h:g.R (.returned v) (left g.ds σ)) (ZI:g.JY=none:=by rfl) (hm:Marks g.ds σ:=by trivial):At g (.code c::k) e bx σ:=hc▸fun w0 F a w st b cs hbf fF nq VX=>by
 have hbn:b.roundOf=none:=nq.trans ZI;obtain⟨w',V7,Iw,hs⟩:=S0 (P:=g.P) (cs:=cs) (fr:={ b.atR a (.code .ret::k) with mode:=.returning }) g.ds hm st.toFin st.box (fun p hp=>(st.free p hp).1) rfl st.defers;unfold QA;rw[ZI];exact⟨.returned v,w',_,⟨_,h,V7⟩,(Steps.one (stepR_ret hbn)).trans hs,hbf,rfl,rfl,fF,fn,by simpa[Frame.atR,hbf] using hf,hr a w' st.env V7.sat Iw⟩
def lp (r:Loop)(s:LoopState)(p:Option Code):Loop:={ r with state:=s,pending:=p }
theorem At.beginRound {l:Nat}{r:Loop}(ZI:g.JY=some l)(hσ:σ l=some (.loop (lp r .ready none)))(h:At g k e bx (σ.set l (.loop (lp r .busy none)))):At g (.beginRound::k) e bx σ:=fun w0 F a w st=>
 Kd.step (fun b cs hb=>stepR_beginRound (hb.trans ZI) (run_beginRound (st.sat _ _ hσ) rfl)) (h w0 F a _ (by
  have hf:=st.toFin.put (o':=.loop (lp r .busy none)) hσ;have Ah:∀p∈bx,p.1≠l:=fun p hp e=>by have:=(st.free p hp).1;rw[e,hσ]at this;cases this
  exact { st with sat:=hf.sat,box:=fun p hp=>by rw[World.putObj_heap_other (Ah p hp)];exact st.box p hp,free:=fun p hp=>⟨by simp only[Hp.set,Ah p hp,if_false];exact(st.free p hp).1,(st.free p hp).2⟩,E5:=fun b hb=>⟨(st.E5 b hb).1,(hf.E5 b hb).1,(hf.E5 b hb).2⟩,os:=hf.os,out:=hf.out,grow:=hf.grow }))
theorem At.uL {l:Nat}{r:Loop}(ZI:g.JY=some l)(hσ:σ l=some (.loop (lp r .busy none)))(h:g.R (.returned (.bool true)) (σ.set l (.loop (lp r .ready none)))):At g [] e bx σ:=fun w0 F a w st b cs hbf fF nq VX=>by
 unfold QA;rw[ZI]
 rintro c cs' rfl
 exact⟨_,_,⟨_,h,st.toFin.put hσ⟩,.one (stepR_round_end (nq.trans ZI) fF (run_endRound (r:=lp r .busy none) none (st.sat _ _ hσ)))⟩
theorem At.uM {l:Nat}{r:Loop}{c:Code}(hc:c=.ret)(ZI:g.JY=some l)(hσ:σ l=some (.loop (lp r .busy none)))(h:g.R (.returned (.bool false)) (σ.set l (.loop (lp r .done (some .ret))))):At g (.code c::k) e bx σ:=fun w0 F a w st b cs hbf fF nq VX=>by
 subst hc;unfold QA;rw[ZI]
 rintro c cs' rfl
 exact⟨_,_,⟨_,h,st.toFin.put hσ⟩,.one (stepR_round_ret (nq.trans ZI) fF (run_endRound (r:=lp r .busy none) (some .ret) (st.sat _ _ hσ)))⟩
theorem At.sub {I7:Bx}(hs:I7.Sublist bx)(h:At g k e I7 σ):At g k e bx σ:=fun w0 F a w st=>
 h w0 F a w { st with box:=fun p hp=>st.box p (hs.subset hp),free:=fun p hp=>st.free p (hs.subset hp),nodup:=(hs.map _).nodup st.nodup }
def NS (e:Env):List (Nat×Value)→Env
 | []=>e
 | (t,v)::l=>upd (NS e l) t v
theorem nr {e:Env}:∀{l:List (Nat×Value)},(∀p∈l,e p.1=p.2)→NS e l=e
 | [],_=>rfl
 | (t,v)::l,h=>by
  have h1:NS e l=e:=nr fun p hp=>h p (AiX _ hp)
  funext i
  simp only[NS,h1,upd];by_cases hi:i=t
  ·subst hi;rw[Nat.beq_refl];exact(h (i,v) (Aih ..)).symm
  ·rw[kN hi];rfl
def Live (e:Env):List (Nat×Value)→Prop
 | []=>True
 | (t,v)::l=>e t=v∧Live e l
theorem Live.mem {e:Env}:∀{l:List (Nat×Value)},Live e l→∀p∈l,e p.1=p.2
 | (_,_)::_,h,p,hp=>by
  rcases AiT.1 hp with rfl|hp
  ·exact h.1
  ·exact h.2.mem p hp
theorem At.live {l:List (Nat×Value)}(hl:Live e l)(h:At g k (NS e l) bx σ):At g k e bx σ:=by
 rwa[nr hl.mem]at h
end steps
theorem Spec.nu {P:Program}{f:FuncId}{fn:Func}{c:Code}{args:Array Value}{σ:Hp}{R:Rr}
  (hf:P.funcs[f]?=some fn) (hb:fn.body=some c) (hn:args.size≤fn.ntmps)
  (h:∀e:Env,(∀t,e t=args.getD t undef)→At (Gl.fn P f fn.ntmps R) [.code c] e [] σ):Spec P f args σ R:=by
 intro w F hs hF cs
 let b:Frame:={ (default:Frame) with fn:=f,kind:=.normal,roundOf:=none }
 have kO:Frame.enter P f args .normal =
   b.atR { tmps:=args++Array.replicate (fn.ntmps-args.size) undef,defers:=[] } [.code c]:=by
  simp[Frame.enter,Frame.atR,hf,hb,b]
 rw[kO];have st:St fn.ntmps [] w F (fun t=>args.getD t undef) [] σ { tmps:=args++Array.replicate (fn.ntmps-args.size) undef,defers:=[] } w:=by
  refine⟨by simp;omega,fun t=>?_,rfl,hs,(fun p hp=>by cases hp),(fun p hp=>by cases hp),List.nodup_nil,fun b hb=>⟨(hF b hb).1,(hF b hb).2,rfl⟩,.same rfl rfl rfl,rfl,AiV _⟩;rcases AkL t args.size with ht|ht
  ·simp[AkM,ht]
  ·simp only[AkQ,AkM,Nat.not_lt.2 ht,if_false,Array.getElem?_replicate,Array.getElem?_eq_none ht];split<;>rfl
 obtain⟨e,w',fr,r,cc,VX,hl⟩:=h _ (fun _=>rfl) w F _ w st b cs rfl rfl rfl ⟨fn,hf⟩;exact⟨e,w',fr,r,cc,VX,hl⟩
def AY (ops:Array Oper)(e:Env)(gd:Option (Nat×Bool)):Bool:=
 match gd with
 | none=>true
 | some (j,want)=>(match (ops[j]?).bind (·.dst) with
  | some d=>(match e d with | .bool b=>some b | _=>none)
  | none=>none)==some want
theorem St.wanted {n ds w0 F e bx σ a w}(h:St n ds w0 F e bx σ a w)(ops:Array Oper)(o:Oper):
  Region.wanted o (yielded ops a.tmps)=AY ops e o.guard:=by
 unfold Region.wanted AY;cases o.guard with
 | none=>rfl
 | some p=>
  obtain⟨j,want⟩:=p;simp only[yielded];cases(ops[j]?).bind (·.dst) with
  | none=>rfl
  | some d=>
   have hd:=h.env d;simp only[Option.bind_some,←hd,AkQ];cases a.tmps[d]? with
   | none=>rfl
   | some v=>cases v<;>rfl
def Qx (g:Gl)(w0:World)(F:Nat→Prop):Exit→Act→World→Prop
 | .panic ch,a,w=>(g.JY=none∧a.defers=[])∧ABQ g w0 F (.panicked ch) w
 | _,_,_=>False
def AP (g:Gl)(ops:Array Oper)(i:Nat)(e:Env)(bx:Bx)(σ:Hp)(K:Env→Bx→Hp→Prop):Prop:=
 ∀w0 F a w,St g.n g.ds w0 F e bx σ a w→wpOpIn (wd g.JY) 0 g.P ops (Qx g w0 F) i (fun a' w'=>∃e' I7 σ',St g.n g.ds w0 F e' I7 σ' a' w'∧K e' I7 σ') a w
def Seq (g:Gl)(ops:Array Oper):List Nat→Env→Bx→Hp→(Env→Bx→Hp→Prop)→Prop
 | [],e,bx,σ,K=>K e bx σ
 | i::is,e,bx,σ,K=>AP g ops i e bx σ fun e' I7 σ'=>Seq g ops is e' I7 σ' K
def Yd (P:Program)(e:Env)(bx:Bx)(σ:Hp)(op:Op)(ty:TypeId)(v:Value):Prop:=
 ∀o:Oper,o.op=op→o.type=ty→∀w,Sat σ w→LH bx w→(execOp (AD e) o).run P w=.ok (.value v) w
abbrev MD:=Option (List (Nat×List Nat))
def S1 (q:MD)(own:Option (Nat×List (List Nat)))(σ:Hp):Hp:=
 match q,own with
 | none,_=>σ
 | some _,none=>fun _=>none
 | some _,some x=>fun b=>if b=x.1 then σ b else none
def Qk:MD→Option (Nat×List (List Nat))→MD
 | none,_=>none
 | some L,none=>some L
 | some L,some x=>some ((x.1,x.2.filterMap List.head?)::L)
def IU:MD→Nat→MD
 | none,_=>none
 | some L,j=>some (L.filter fun x=>!x.2.contains j)
def LJ (ops:Array Oper)(t u:Nat):Bool:=
 match ops[t]? with
 | some o=>o.after.any fun e=>Region.binds .any e&&e.on==u
 | none=>false
def V8 (ops:Array Oper)(i:Nat):List Nat→Bool
 | []=>false
 | [t]=>LJ ops t i
 | t::u::r=>LJ ops t u&&V8 ops i (u::r)
def MD.ok (q:MD)(i:Nat):Bool:=
 match q with
 | none=>true
 | some L=>L.all fun x=>!x.2.contains i
def V9 (ops:Array Oper)(i:Nat):Option (Nat×List (List Nat))→Bool
 | none=>true
 | some x=>x.2.all (V8 ops i)
def Sq (q:MD)(σ:Hp)(bx:Bx)(listed:Array Bool)(w:World):Prop:=
 LH bx w∧match q with
  | none=>Sat σ w
  | some L=>∀x∈L,(∃t∈x.2,listed.getD t false=true)∨∀o,σ x.1=some o→w.heap[x.1]?=some o
def NT (q:MD)(bx:Bx)(σ:Hp)(I7:Bx)(σ':Hp):Prop:=
 (∀p∈bx,p∈I7)∧match q with
  | none=>∀b o,σ b=some o→σ' b=some o
  | some L=>∀x∈L,∀o,σ x.1=some o→σ' x.1=some o
theorem NT.refl (q:MD)(bx:Bx)(σ:Hp):NT q bx σ bx σ:=⟨fun _ h=>h,by cases q<;>simp⟩
theorem Sq.of {q:MD}{σ:Hp}{bx:Bx}{listed:Array Bool}{w:World}(h:Sat σ w)(hb:LH bx w):Sq q σ bx listed w:=⟨hb,by
 cases q with
 | none=>exact h
 | some L=>exact fun x _=>.inr fun o ho=>h _ _ ho⟩
theorem bV {listed:Array Bool}{i t:Nat}(h:t≠i):(listed.setIfInBounds i true).getD t false=listed.getD t false:=getD_set_ne false (AjI h)
theorem Sq.set {q:MD}{σ:Hp}{bx:Bx}{i:Nat}(EI:q.ok i=true)(listed:Array Bool)(w:World):Sq q σ bx (listed.setIfInBounds i true) w↔Sq q σ bx listed w:=by
 unfold Sq;cases q with
 | none=>exact Iff.rfl
 | some L=>
  refine and_congr Iff.rfl (forall_congr' fun x=>forall_congr' fun hx=>or_congr ?_ Iff.rfl);have hni:i ∉ x.2:=by
   have:=List.all_eq_true.1 EI x hx;simpa using this
  refine exists_congr fun t=>and_congr_right fun ht=>?_;rw[bV (fun h=>hni (by subst h;exact ht))]
theorem UB {ops:Array Oper}{n i:Nat}{listed:Array Bool}(inv:HeadInv .any ops n listed):∀(p:List Nat) (t:Nat),V8 ops i p=true→p.head?=some t→listed.getD t false=true→listed.getD i false=true
 | [],_,h,_,_=>by cases h
 | [t'],t,h,ht,hl=>by
  simp only[AkA,AiO]at ht;subst ht;simp only[V8,LJ]at h;split at h
  ·rename_i o ho;obtain⟨e,he,hb⟩:=Array.any_eq_true'.1 h;simp only[AiS,Aja]at hb;exact hb.2▸inv.closed _ o ho hl e he hb.1
  ·cases h
 | t'::u::r,t,h,ht,hl=>by
  simp only[AkA,AiO]at ht;subst ht;simp only[V8,AiS]at h;refine UB inv (u::r) u h.2 rfl ?_;have h:=h.1;simp only[LJ]at h;split at h
  ·rename_i o ho;obtain⟨e,he,hb⟩:=Array.any_eq_true'.1 h;simp only[AiS,Aja]at hb;exact hb.2▸inv.closed _ o ho hl e he hb.1
  ·cases h
theorem Sq.own {ops:Array Oper}{n i:Nat}{listed:Array Bool}{q:MD}{own:Option (Nat×List (List Nat))}{σ:Hp}{bx:Bx}{w:World}(inv:HeadInv .any ops n listed)(bW:listed.getD i true=false)(EI:V9 ops i own=true)
  (h:Sq (Qk q own) σ bx listed w):Sat (S1 q own σ) w∧LH bx w:=by
 refine⟨?_,h.1⟩;cases q with
 | none=>exact h.2
 | some L=>
  cases own with
  | none=>intro b o hb;cases hb
  | some x=>
   intro b o hb;simp only[S1]at hb;split at hb
   ·rename_i hbx;subst hbx;rcases h.2 (x.1,x.2.filterMap List.head?) (Aih ..) with ⟨t,ht,hl⟩|h2
    ·obtain⟨p,hp,hpt⟩:=List.mem_filterMap.1 ht;have:=UB inv p t (List.all_eq_true.1 EI p hp) hpt hl;rw[getD_both bW]at this;cases this
    ·exact h2 o hb
   ·cases hb
theorem Sq.less {q:MD}{own:Option (Nat×List (List Nat))}{σ:Hp}{bx:Bx}{listed:Array Bool}{w:World}(h:Sq (Qk q own) σ bx listed w):Sq q σ bx listed w:=by
 refine⟨h.1,?_⟩;cases q with
 | none=>exact h.2
 | some L=>
  cases own with
  | none=>exact h.2
  | some x=>exact fun y hy=>h.2 y (AiX _ hy)
theorem Sq.bX {q:MD}{σ σ':Hp}{bx I7:Bx}{i:Nat}{listed:Array Bool}{w:World}(hi:listed.getD i false=true)(hk:NT (IU q i) bx σ I7 σ')(h:Sq (IU q i) σ' I7 listed w):Sq q σ bx listed w:=by
 refine⟨fun p hp=>h.1 p (hk.1 p hp),?_⟩;cases q with
 | none=>exact fun b o hb=>h.2 b o (hk.2 b o hb)
 | some L=>
  intro x hx;by_cases hc:i∈x.2
  ·exact .inl ⟨i,hc,hi⟩
  ·have hm:x∈L.filter fun x=>!x.2.contains i:=List.mem_filter.2 ⟨hx,by simpa using hc⟩;rcases h.2 x hm with h2|h2
   ·exact .inl h2
   ·exact .inr fun o ho=>h2 o (hk.2 x hm o ho)
def Head (g:Gl)(ops:Array Oper):MD→List (Nat×Bool)→Env→Bx→Hp→(Env→Bx→Hp→Prop)→Prop
 | _,[],e,bx,σ,K=>K e bx σ
 | q,(i,true)::r,e,bx,σ,K=>∃own o v,((Qk q own).ok i&&V9 ops i own)=true∧ops[i]?=some o∧((AY ops e o.guard=true∧Yd g.P e bx (S1 q own σ) o.op o.type v)∨(AY ops e o.guard=false∧v=undef))∧
  (∀t,o.dst=some t→t<g.n)∧Head g ops (Qk q own) r (put e o.dst v) bx σ K
 | q,(i,false)::r,e,bx,σ,K=>AP g ops i e bx σ fun e' I7 σ'=>NT (IU q i) bx σ I7 σ'∧Head g ops (IU q i) r e' I7 σ' K
def S2 (ops:Array Oper)(n:Nat):List (Nat×Bool)→Array Bool→Bool
 | [],listed=>Region.seqB .any ops (ops.size-n) n listed
 | (i,true)::r,listed=>decide (i<n)&&(Region.ready .any ops listed).contains i&&Region.free .any ops listed i&&S2 ops n r (listed.setIfInBounds i true)
 | (i,false)::r,listed=>decide (i<n)&&(Region.ready .any ops listed==[i])&&S2 ops n r (listed.setIfInBounds i true)
def uN (ops:Array Oper)(n:Nat)(plan:List (Nat×Bool))(tail:List Nat):Bool:=
 Region.noSelect ops&&decide (plan.length=n)&&(decide (n=ops.size)||(decide (n<ops.size)&&Region.sinkB .any ops n&&Region.chainB .any ops n)) &&
  decide (tail=List.range' n (ops.size-n))&&S2 ops n plan (Array.replicate ops.size false)
section head
variable {P:Program}{ro:Option Nat}{ops:Array Oper}{Q:Exit→Act→World→Prop}{md:Region.Mode}
theorem Dk {i:Nat}{o:Oper}{K:Act→World→Prop}{a:Act}{w:World}(ho:ops[i]?=some o)(hw:Region.wanted o (yielded ops a.tmps)=true)(h:o.uponIn (wd ro) 0 P a K Q ((o.semAt ro a.eval).run P w)):
  wpOpIn (wd ro) 0 P ops Q i K a w:=by
 unfold wpOpIn;simp only[ho,hw,if_true];exact⟨fun _ _=>trivial,h⟩
theorem kP {i:Nat}{o:Oper}{K:Act→World→Prop}{a:Act}{w:World}(ho:ops[i]?=some o)(hw:Region.wanted o (yielded ops a.tmps)=false)(h:K (a.put o.dst undef) w):wpOpIn (wd ro) 0 P ops Q i K a w:=by
 unfold wpOpIn;simp only[ho,hw,Ajv,if_false];exact⟨fun _ _=>trivial,h⟩
theorem nz {S:World→Prop}{i:Nat}{o:Oper}{v:Value}{a:Act}(hi:ops[i]?=some o)(hy:YieldsIf P ops S o v a)
  {K:Act→World→Prop} {w:World} (hS:S w) (h:K (a.put o.dst v) w):wpOpIn (wd ro) 0 P ops Q i K a w:=by
 rcases hy with ⟨hw,hv⟩|⟨hw,rfl⟩
 ·refine Dk hi hw ?_;rw[E6 (hv w hS) (fun d=>by simp)];exact h
 ·exact kP hi hw h
theorem qa {o:Oper}(hs:∀cs b,o.op≠.select cs b)(a:Act)(dst:Option Tmp)(u:Value)(h:∀d,dst=some d→d ∉ o.looksAt ops):o.semAt ro (a.put dst u).eval=o.semAt ro a.eval:=by
 have he:=execOp_put o hs a dst u h;by_cases hd:∃c,o.op=.defer c
 ·obtain⟨c,hc⟩:=hd;have hr:resolve (a.put dst u).eval c o.type=resolve a.eval c o.type:=resolve_congr (ρ:=(a.put dst u).eval) (ρ':=a.eval) c o.type (fun x hx=>Act.eval_put fun d hd uO=>h d hd (by
   subst uO;exact Ajo _ (List.mem_filterMap.2 ⟨.tmp d,by rw[hc];simpa[Op.operands] using hx,rfl⟩)))
  unfold Oper.semAt;cases ro with
  | none=>exact he
  | some l=>simp only[hc,hr]
 ·rw[Oper.semAt_eq ro _ o (fun c hc=>hd ⟨c,hc⟩),Oper.semAt_eq ro _ o (fun c hc=>hd ⟨c,hc⟩)];exact he
theorem qb {S:World→Prop}{j:Nat}{oi oj:Oper}{v:Value}(hj:ops[j]?=some oj)(hap:oi.apart ops oj=true)
  (hsi:∀cs b,oi.op≠.select cs b) (hsj:∀cs b,oj.op≠.select cs b)
  (hQ:∀c a w,Q (.panic c) (a.put oi.dst v) w→Q (.panic c) a w) {K:Act→World→Prop} {a:Act} {w:World}
  (hy:YieldsIf P ops S oi v a) (h:wpOpIn (wd ro) 0 P ops Q j K (a.put oi.dst v) w) :
  wpOpIn (wd ro) 0 P ops Q j (fun a' w'=>YieldsIf P ops S oi v a'∧K (a'.put oi.dst v) w') a w:=by
 obtain⟨h1,h2,h3⟩:=Oper.apart_spec hap;have NI:∀(a:Act),YieldsIf P ops S oi v a→∀u,YieldsIf P ops S oi v (a.put oj.dst u):=fun a hy u=>
  hy.of_same (execOp_put oi hsi a oj.dst u h3) (wanted_put oi a oj.dst u h3)
 have ALj:∀d,YieldsIf P ops S oi v { a with defers:=d::a.defers }:=fun d=>hy.of_same rfl rfl;unfold wpOpIn at h;simp only[hj]at h;rw[wanted_put oj a oi.dst v h1]at h;by_cases hw:Region.wanted oj (yielded ops a.tmps)=true
 ·simp only[hw,if_true]at h;refine Dk hj hw ?_;have h:=h.2
  change oj.uponIn (wd ro) 0 P (a.put oi.dst v) K Q ((oj.semAt ro (a.put oi.dst v).eval).run P w)at h
  rw[qa hsj a oi.dst v h1]at h;generalize (oj.semAt ro a.eval).run P w=r at *;cases r with
  | ok n w'=>
   cases n<;>simp only[Oper.uponIn]at h ⊢
   case value u=>exact⟨NI a hy u,by rw[←Act.put_comm a v u h2];exact h⟩
   case skip=>exact⟨NI a hy _,by rw[←Act.put_comm a v undef h2];exact h⟩
   case defer d=>
    refine⟨NI _ (ALj d) _,?_⟩;rw[←Act.put_comm _ v undef h2,←Act.put_defers];exact h
   case enter f args=>
    refine⟨h.1,CallsIn.mono h.2 fun e w'' he=>?_⟩;cases e with
    | returned u=>exact⟨NI a hy u,by rw[←Act.put_comm a v u h2];exact he⟩
    | panicked c=>exact hQ _ _ _ he
    | outgrown=>exact he
   case row row args=>exact⟨h.1,RowsIn.mono h.2 fun u w'' he=>⟨NI a hy u,by rw[←Act.put_comm a v u h2];exact he⟩⟩
   case round l f tmps assign body=>
    refine⟨h.1,RoundIn.mono h.2 fun e w'' he=>?_⟩;cases e with
    | returned u=>exact⟨NI a hy u,by rw[←Act.put_comm a v u h2];exact he⟩
    | panicked c=>exact hQ _ _ _ he
    | outgrown=>exact he
  | halt x w'=>
   cases x<;>simp only[Oper.uponIn]at h ⊢
   case panic u=>exact hQ _ _ _ h
 ·have hw:Region.wanted oj (yielded ops a.tmps)=false:=by simpa using hw
  simp only[hw,Ajv,if_false]at h;exact kP hj hw ⟨NI a hy _,by rw[←Act.put_comm a v undef h2];exact h.2⟩
def JD (P:Program)(ro:Option Nat)(md:Region.Mode)(ops:Array Oper)(Q:Exit→Act→World→Prop)(S:Array Bool→World→Prop)(n:Nat)(L:Array Bool→Act→World→Prop):Nat→Array Bool→Act→World→Prop
 | 0,listed,a,w=>L listed a w
 | f+1,listed,a,w=>Region.ready md ops listed≠[]∧
  ∀i∈Region.ready md ops listed,i<n∧wpOpIn (wd ro) 0 P ops Q i (fun a' w'=>S (listed.setIfInBounds i true) w'∧JD P ro md ops Q S n L f (listed.setIfInBounds i true) a' w') a w
theorem JZ {n g:Nat}{S:Array Bool→World→Prop}{L:Array Bool→Act→World→Prop}(hL:∀listed a w,L listed a w→wpAnyIn (wd ro) 0 P md ops Q g listed a w):
  ∀(f:Nat) (listed:Array Bool) (a:Act) (w:World),JD P ro md ops Q S n L f listed a w→wpAnyIn (wd ro) 0 P md ops Q (f+g) listed a w
 | 0,listed,a,w,h=>by rw[AjV];exact hL _ _ _ h
 | f+1,listed,a,w,h=>by
  rw[show f+1+g=(f+g)+1 by omega];exact⟨fun h0=>absurd h0 h.1,fun i hi=>wpOpIn_mono (fun a' w' h'=>JZ hL f _ a' w' h'.2) (h.2 i hi).2⟩
theorem HA {n:Nat}{S S':Array Bool→World→Prop}{G:Array Bool→Prop}{L:Array Bool→Act→World→Prop}(hG:∀listed j,G listed→G (listed.setIfInBounds j true))(hS:∀listed w,G listed→S' listed w→S listed w):
  ∀(f:Nat) (listed:Array Bool) (a:Act) (w:World),G listed→JD P ro md ops Q S' n L f listed a w→JD P ro md ops Q S n L f listed a w
 | 0,_,_,_,_,h=>h
 | f+1,_,_,_,hg,h=>⟨h.1,fun i hi=>⟨(h.2 i hi).1,wpOpIn_mono (fun a' w' h'=>⟨hS _ _ (hG _ _ hg) h'.1,HA hG hS f _ a' w' (hG _ _ hg) h'.2⟩) (h.2 i hi).2⟩⟩
theorem kQ {n:Nat}{f:FuncId}{args:Array Value}{w:World}{R:Ending→World→Prop}(h:Calls P f args w R):CallsIn (wd ro) n P f args w R:=
 ⟨trivial,fun cs _=>let ⟨e,w',fr,r,s,x⟩:=h cs;⟨e,w',fr,r,comesIn_wide.2 s,x⟩⟩
theorem QB {n i:Nat}{oi:Oper}{v:Value}{S:Array Bool→World→Prop}{Sy:World→Prop}{L:Array Bool→Act→World→Prop}(hi:ops[i]?=some oi)(Ql:∀(j:Nat) (o:Oper) cs b,ops[j]?=some o→o.op≠.select cs b)
  (hQ:∀c a w,Q (.panic c) (a.put oi.dst v) w→Q (.panic c) a w)
  (Ja:∀listed,HeadInv md ops n listed→∀i,i<n→listed.getD i true=false→∀t,n≤t→t ∉ Region.ready md ops listed)
  (hSi:∀listed w,S (listed.setIfInBounds i true) w↔S listed w) (hSy:∀listed w,HeadInv md ops n listed→listed.getD i true=false→S listed w→Sy w)
  (By:i<n) (ALk:∀listed a w,L listed a w→∀j∈Region.ready md ops listed,n≤j) :
  ∀(f:Nat) (listed:Array Bool) (a:Act) (w:World),HeadInv md ops n listed→
   (∀j oj,ops[j]?=some oj→j≠i→listed.getD j true=false→(∀e∈oj.after,Region.binds md e=true→e.on≠i)→oi.apart ops oj=true)→
   i∈Region.ready md ops listed→YieldsIf P ops Sy oi v a→S listed w→
   JD P ro md ops Q S n L f (listed.setIfInBounds i true) (a.put oi.dst v) w→JD P ro md ops Q S n L (f+1) listed a w:=by
 intro f
 induction f with
 | zero=>
  intro listed a w inv _ hr hy hS H;have bW:=(mem_ready.1 hr).1;refine⟨fun h=>(by rw[h]at hr;cases hr),fun j hj=>?_⟩;have oA:j<n:=by
   rcases AkL j n with h|h
   ·exact h
   ·exact absurd hj (Ja _ inv i By bW j h)
  refine⟨oA,?_⟩;by_cases ZJ:j=i
  ·subst ZJ;exact nz hi hy (hSy _ _ inv bW hS) ⟨(hSi _ _).2 hS,H⟩
  ·have:=ALk _ _ _ H j (ready_mono hj ZJ);omega
 | succ f ih=>
  intro listed a w inv AEG hr hy hS H;have bW:=(mem_ready.1 hr).1;refine⟨fun h=>(by rw[h]at hr;cases hr),fun j hj=>?_⟩;have oA:j<n:=by
   rcases AkL j n with h|h
   ·exact h
   ·exact absurd hj (Ja _ inv i By bW j h)
  refine⟨oA,?_⟩;by_cases ZJ:j=i
  ·subst ZJ;exact nz hi hy (hSy _ _ inv bW hS) ⟨(hSi _ _).2 hS,H⟩
  ·have h1:=(H.2 j (ready_mono hj ZJ)).2;obtain⟨ALl,oj,hoj,GJ⟩:=mem_ready.1 hj;have AVH:∀e∈oj.after,Region.binds md e=true→e.on≠i:=fun e he hb heq=>by
    have h1:=GJ e he hb;rw[heq,getD_both bW]at h1;cases h1
   have h2:=qb hoj (AEG j oj hoj ZJ ALl AVH) (fun cs b=>Ql i oi cs b hi) (fun cs b=>Ql j oj cs b hoj) hQ hy h1;have AG2:∀k ok,ops[k]?=some ok→k≠i→(listed.setIfInBounds j true).getD k true=false→
     (∀e∈ok.after,Region.binds md e=true→e.on≠i)→oi.apart ops ok=true:=fun k ok hk hki bW Cg=>by
    refine AEG k ok hk hki ?_ Cg;by_cases eV:j=k
    ·subst eV;exact ALl
    ·rw[getD_set_ne true eV]at bW;exact bW
   refine wpOpIn_mono (fun a' w' h3=>⟨(hSi _ _).1 (by rw[AkV _ _ ZJ];exact h3.2.1),ih (listed.setIfInBounds j true) a' w' (inv.set hj oA) AG2 (ready_mono hr (AjI ZJ)) h3.1 ((hSi _ _).1 (by rw[AkV _ _ ZJ];exact h3.2.1)) ?_⟩) h2;rw[AkV _ _ ZJ];exact h3.2.2
theorem Ke:∀(g k:Nat) (listed:Array Bool) (a:Act) (w:World),
  Region.seqB md ops g k listed=true→wpOpsIn (wd ro) 0 P ops Q (List.range' k g) a w→wpAnyIn (wd ro) 0 P md ops Q g listed a w
 | 0,_,_,_,_,hB,h=>⟨by simpa[Region.seqB] using hB,h⟩
 | g+1,k,listed,a,w,hB,h=>by
  simp only[Region.seqB,AiS,AiW]at hB;refine⟨fun h1=>(by rw[hB.1]at h1;cases h1),fun i hi=>?_⟩;rw[hB.1]at hi;have hik:i=k:=by simpa using hi
  subst hik;rw[List.range'_succ,wpOpsIn_cons]at h;exact wpOpIn_mono (fun a' w' h'=>Ke g (i+1) _ a' w' hB.2 h') h
end head
section regions
variable {g:Gl}{ops:Array Oper}
def Qn (g:Gl)(w0:World)(F:Nat→Prop)(K:Env→Bx→Hp→Prop):Exit→Act→World→Prop
 | .normal,a,w=>∃e bx σ,St g.n g.ds w0 F e bx σ a w∧K e bx σ
 | .panic ch,a,w=>(g.JY=none∧a.defers=[])∧ABQ g w0 F (.panicked ch) w
 | _,_,_=>False
theorem kR {P:Program}{ro:Option Nat}{Q Q':Exit→Act→World→Prop}(hp:∀c a w,Q (.panic c) a w→Q' (.panic c) a w)(ho:∀a w,Q .outgrown a w→Q' .outgrown a w)
  {i:Nat} {K:Act→World→Prop} {a:Act} {w:World} (h:wpOpIn (wd ro) 0 P ops Q i K a w):wpOpIn (wd ro) 0 P ops Q' i K a w:=by
 unfold wpOpIn at *;split
 ·rename_i hn;simpa only[hn] using h
 ·rename_i o hn;simp only[hn]at h;split
  ·rename_i hw;simp only[hw,if_true]at h;unfold Oper.wpIn at *;refine⟨h.1,?_⟩;have h:=h.2;generalize (o.semAt (wd ro).round a.eval).run P w=r at *;cases r with
   | ok x w'=>
    cases x<;>simp only[Oper.uponIn]at h ⊢<;>try exact h
    ·refine⟨h.1,CallsIn.mono h.2 fun en w2 Ut=>?_⟩;cases en with
     | returned v=>exact Ut
     | panicked c=>exact hp _ _ _ Ut
     | outgrown=>obtain⟨a1,w1,h1⟩:=Ut;exact⟨a1,w1,ho _ _ h1⟩
    ·refine⟨h.1,RoundIn.mono h.2 fun en w2 Ut=>?_⟩;cases en with
     | returned v=>exact Ut
     | panicked c=>exact hp _ _ _ Ut
     | outgrown=>obtain⟨a1,w1,h1⟩:=Ut;exact⟨a1,w1,ho _ _ h1⟩
   | halt x w'=>
    cases x<;>simp only[Oper.uponIn]at h ⊢;exact hp _ _ _ h
  ·rename_i hw;simp only[hw]at h;exact h
theorem PC {K:Env→Bx→Hp→Prop}{w0 F}:∀(is:List Nat) (e:Env) (bx:Bx) (σ:Hp) (a:Act) (w:World),St g.n g.ds w0 F e bx σ a w→
  Seq g ops is e bx σ K→wpOpsIn (wd g.JY) 0 g.P ops (Qn g w0 F K) is a w
 | [],e,bx,σ,a,w,st,h=>⟨e,bx,σ,st,h⟩
 | i::is,e,bx,σ,a,w,st,h=>by
  rw[wpOpsIn_cons];refine wpOpIn_mono ?_ (kR (Q:=Qx g w0 F) (fun c a w h=>h) (fun a w h=>h.elim) (h w0 F a w st))
  rintro a' w' ⟨e',I7,σ',RJ,h'⟩
  exact PC is e' I7 σ' a' w' RJ h'
theorem Qm {K:Env→Bx→Hp→Prop}{w0 F}{n:Nat}{tl:List Nat}(Ql:Region.noSelect ops=true)
  (Ja:∀listed,HeadInv .any ops n listed→∀i,i<n→listed.getD i true=false→∀t,n≤t→t ∉ Region.ready .any ops listed)
  (oB:tl=List.range' n (ops.size-n)) :
  ∀(plan:List (Nat×Bool)) (q:MD) (listed:Array Bool) (e:Env) (bx:Bx) (σ:Hp) (a:Act) (w:World),HeadInv .any ops n listed→S2 ops n plan listed=true→
   St g.n g.ds w0 F e bx σ a w→Head g ops q plan e bx σ (fun e bx σ=>Seq g ops tl e bx σ K)→
   JD g.P g.JY .any ops (Qn g w0 F K) (Sq q σ bx) n (fun listed a w=>Region.seqB .any ops (ops.size-n) n listed=true∧wpOpsIn (wd g.JY) 0 g.P ops (Qn g w0 F K) tl a w) plan.length listed a w
 | [],_,listed,e,bx,σ,a,w,_,EI,st,h=>⟨EI,PC _ _ _ _ _ _ st h⟩
 | (i,true)::r,q,listed,e,bx,σ,a,w,inv,EI,st,h=>by
  obtain⟨own,o,v,hqq,ho,hy,hd,h⟩:=h;simp only[AiS]at hqq;simp only[S2,AiS,AiW]at EI;obtain⟨⟨⟨By,hr⟩,hf⟩,EI⟩:=EI;have S3:i∈Region.ready .any ops listed:=by simpa using hr
  refine HA (S':=Sq (Qk q own) σ bx) (G:=fun _=>True) (fun _ _ _=>trivial) (fun _ _ _ h=>h.less) _ _ _ _ trivial ?_;refine QB (Sy:=fun w=>Sat (S1 q own σ) w∧LH bx w) ho (Region.noSelect_spec Ql) ?_ Ja (Sq.set hqq.1) (fun listed w inv bW h=>Sq.own inv bW hqq.2 h) By ?_ _ listed a w inv (Region.free_spec ho hf) S3 ?_ (Sq.of st.sat st.box)
   (Qm Ql Ja oB r _ _ _ _ _ _ _ (inv.set S3 By) EI (st.put o.dst v hd) h)
  ·rintro c a w ⟨⟨h0,h1⟩,h2⟩
   exact⟨⟨h0,by cases Qo:o.dst<;>simpa[Act.put,Qo] using h1⟩,h2⟩
  ·intro listed a w hL;exact seqB_ready hL.1
  ·rcases hy with ⟨hw,hy⟩|⟨hw,rfl⟩
   ·exact .inl ⟨by rw[st.wanted];exact hw,fun w hS=>by rw[st.eval];exact hy o rfl rfl w hS.1 hS.2⟩
   ·exact .inr ⟨by rw[st.wanted];exact hw,rfl⟩
 | (i,false)::r,q,listed,e,bx,σ,a,w,inv,EI,st,h=>by
  simp only[S2,AiS,AiW,Aja]at EI;obtain⟨⟨By,hr⟩,EI⟩:=EI;refine⟨by rw[hr];simp,fun j hj=>?_⟩;rw[hr]at hj;obtain rfl:j=i:=by simpa using hj
  refine⟨By,wpOpIn_mono ?_ (kR (Q:=Qx g w0 F) (fun c a w h=>h) (fun a w h=>h.elim) (h w0 F a w st))⟩
  rintro a' w' ⟨e',I7,σ',RJ,hk,h'⟩
  have hl:(listed.setIfInBounds j true).getD j false=true:=by
   have Aq:j<listed.size:=by rw[inv.size];obtain⟨_,o,ho,_⟩:=mem_ready.1 (show j∈Region.ready .any ops listed by rw[hr];simp);exact(Array.getElem?_eq_some_iff.1 ho).1
   simp[Aq]
  exact⟨Sq.bX hl hk (Sq.of RJ.sat RJ.box),HA (S':=Sq (IU q j) σ' I7) (G:=fun l=>l.getD j false=true) (fun _ _ h=>getD_set_true h) (fun _ _ hg h=>Sq.bX hg hk h) _ _ _ _ hl
   (Qm Ql Ja oB r _ _ _ _ _ _ _ (inv.set (by rw[hr];simp) By) EI RJ h')⟩
end regions
theorem Kd.of_wp {g:Gl}{c:Code}{k:List Item}{a:Act}{w:World}{w0 F}{K:Env→Bx→Hp→Prop}
  (h:c.wpIn (wd g.JY) 0 g.P (Qn g w0 F K) a w) (hk:∀e bx σ,K e bx σ→At g k e bx σ):Kd g.P g.f g.JY (.code c::k) a w (ABQ g w0 F):=by
 intro b cs hf QC nq VX;obtain⟨e,a',w',hq,ABS⟩:=h b k cs nq trivial ABP;cases e with
 | normal=>
  obtain⟨e,bx,σ,st,hK⟩:=hq;exact .of_steps ABS.steps (hk _ _ _ hK w0 F a' w' st b cs hf QC nq VX)
 | panic ch=>
  obtain⟨⟨ZI,hd⟩,hq⟩:=hq;obtain⟨todo,hs⟩:=ABS;obtain⟨fn,VX⟩:=VX;unfold QA;rw[ZI];exact⟨.panicked ch,w',_,hq,hs.steps,hf,rfl,hd,fn,by simpa[Frame.atR,hf] using VX⟩
 | _=>exact hq.elim
section uP
variable {g:Gl}{k:List Item}{e:Env}{bx:Bx}{σ:Hp}
theorem At.region {c:Code}{id:Nat}{ops:Array Oper}{l:List Nat}(hc:c=.region id ops false)(hl:List.range ops.size=l)
  (h:Seq g ops l e bx σ (fun e bx σ=>At g k e bx σ)):At g (.code c::k) e bx σ:=fun _ _ a w st=>
 hc▸Kd.of_wp (K:=fun e bx σ=>At g k e bx σ) (wpIn_region (hl▸PC l e bx σ a w st h)) (fun _ _ _ h=>h)
theorem At.draw {c:Code}{id:Nat}{ops:Array Oper}{n:Nat}{q:MD}{plan:List (Nat×Bool)}{tl:List Nat}(hm:g.P.follows .mixedOrders=true)(hc:c=.region id ops true)
  (hp:uN ops n plan tl=true)
  (h:Head g ops q plan e bx σ (fun e bx σ=>Seq g ops tl e bx σ (fun e bx σ=>At g k e bx σ))):At g (.code c::k) e bx σ:=fun w0 F a w st=>by
 subst hc;simp only[uN,AiS,Ajf,AiW]at hp;obtain⟨⟨⟨⟨Ql,hlen⟩,hn⟩,oB⟩,EI⟩:=hp;have hn':n≤ops.size:=by rcases hn with h|h<;>omega
 have Ja:∀listed,HeadInv .any ops n listed→∀i,i<n→listed.getD i true=false→∀t,n≤t→t ∉ Region.ready .any ops listed:=by
  intro listed inv i hi bW t ht;rcases hn with h|⟨⟨h1,h2⟩,h3⟩
  ·intro hr;obtain⟨_,o,ho,_⟩:=mem_ready.1 hr;have:=(Array.getElem?_eq_some_iff.1 ho).1;omega
  ·exact tail_waits h2 h3 h1 inv _ i rfl hi bW t ht
 have AG3:HeadInv .any ops n (Array.replicate ops.size false):=
  ⟨by simp,fun j oj _ hl=>(by rw[getD_replicate_false]at hl;cases hl),fun t _ ht=>getD_in (by simpa using ht) (getD_replicate_false _ _)⟩
 refine Kd.of_wp (K:=fun e bx σ=>At g k e bx σ) (wpIn_region_any hm ?_) (fun _ _ _ h=>h);have H:=Qm (K:=fun e bx σ=>At g k e bx σ) (tl:=tl) Ql Ja oB plan q (Array.replicate ops.size false) e bx σ a { w with drawn:=w.drawn+1 } AG3 EI st.drew h;have:=JZ (g:=ops.size-n) (fun listed a w hL=>Ke _ _ listed a w hL.1 (oB▸hL.2)) _ _ _ _ H;rw[hlen,show n+(ops.size-n)=ops.size by omega]at this;exact this
end uP
end Tw
end
section
namespace Tw
open Go
variable [G9]
def Hp.ld (σ:Hp)(a:Addr):Option Value:=
 match σ a.block with
 | some (.cells c _ _)=>if a.spot.isSome then none else c[a.off]?
 | _=>none
theorem Sat.ld {σ:Hp}{w:World}(h:Sat σ w){a:Addr}{v:Value}(hl:σ.ld a=some v):w.cell? a=some v:=by
 unfold Hp.ld at hl;unfold World.cell?;cases hb:σ a.block with
 | none=>simp[hb]at hl
 | some o=>rw[h _ _ hb];rw[hb]at hl;exact hl
def Ae (σ:Hp)(b:Nat):Nat→List Value→Prop
 | _,[]=>True
 | o,v::l=>σ.ld ⟨b,o,none⟩=some v∧Ae σ b (o+1) l
theorem Ae.get {σ:Hp}{b:Nat}:∀{l:List Value} {o j:Nat} {v:Value},Ae σ b o l→l[j]?=some v→σ.ld ⟨b,o+j,none⟩=some v
 | x::l,o,0,v,h,hj=>by simp at hj;subst hj;exact h.1
 | x::l,o,j+1,v,h,hj=>by
  have:=Ae.get (l:=l) (o:=o+1) (j:=j) h.2 (by simpa using hj);rwa[show o+(j+1)=o+1+j by omega]
theorem DH (b o n:Nat):(⟨b,o,none⟩:Addr).add n=⟨b,o+n,none⟩:=by cases n<;>simp[Addr.add]
section kS
variable {P:Program}{e:Env}{bx:Bx}{σ:Hp}{ty T T':TypeId}{x y z:Operand}{k:IntKind}{a b:Int}
theorem Yd.of {op:Op}{v:Value}(m:Sem Value)(h:∀o:Oper,o.op=op→o.type=ty→execOp (AD e) o=(do pure (.value (←m))))
  (hm:∀w,Sat σ w→LH bx w→m.run P w=.ok v w):Yd P e bx σ op ty v:=fun oo ho ht w hs hb=>by
 rw[h oo ho ht];simp[hm w hs hb]
theorem Yd.pu {op:Op}{v:Value}(h:∀o:Oper,o.op=op→execOp (AD e) o=pure (.value v)):Yd P e bx σ op ty v:=fun oo ho _ w _ _=>by
 rw[h oo ho];simp
theorem Y.move {v:Value}(hx:AD e x=v):Yd P e bx σ (.move x) ty v:=.pu fun o ho=>by simp[execOp,ho,hx]
theorem Y.assign {v:Value}(hx:AD e x=v):Yd P e bx σ (.assign x) ty v:=.pu fun o ho=>by simp[execOp,ho,hx]
theorem Y.AEI {v:Value}(hc:AD e z=.bool true)(hx:AD e x=v):Yd P e bx σ (.pick z x y) ty v:=
 .pu fun o ho=>by simp[execOp,ho,hc,hx,asBool]
theorem Y.AEJ {v:Value}(hc:AD e z=.bool false)(hx:AD e y=v):Yd P e bx σ (.pick z x y) ty v:=
 .pu fun o ho=>by simp[execOp,ho,hc,hx,asBool]
theorem Y.lss (hx:AD e x=.int k a)(hy:AD e y=.int k b):Yd P e bx σ (.binOp .lss T x y T') ty (.bool (decide (a<b))):=
 fun oo ho _ w _ _=>by simp[execOp,ho,hx,hy,eqGuard_lss,binOp_lss]
theorem Y.leq (hx:AD e x=.int k a)(hy:AD e y=.int k b):Yd P e bx σ (.binOp .leq T x y T') ty (.bool (decide (a≤b))):=
 fun oo ho _ w _ _=>by simp[execOp,ho,hx,hy,eqGuard_leq,binOp_leq]
theorem Y.gtr (hx:AD e x=.int k a)(hy:AD e y=.int k b):Yd P e bx σ (.binOp .gtr T x y T') ty (.bool (decide (b<a))):=
 fun oo ho _ w _ _=>by simp[execOp,ho,hx,hy,eqGuard_gtr,binOp_gtr]
theorem Y.geq (hx:AD e x=.int k a)(hy:AD e y=.int k b):Yd P e bx σ (.binOp .geq T x y T') ty (.bool (decide (b≤a))):=
 fun oo ho _ w _ _=>by simp[execOp,ho,hx,hy,eqGuard_geq,binOp_geq]
theorem Y.eql (hx:AD e x=.int k a)(hy:AD e y=.int k b):Yd P e bx σ (.binOp .eql T x y T') ty (.bool (decide (a=b))):=
 fun oo ho _ w _ _=>by simp[execOp,ho,hx,hy,eqGuard_at_int,binOp_eql];rfl
theorem Y.neq (hx:AD e x=.int k a)(hy:AD e y=.int k b):Yd P e bx σ (.binOp .neq T x y T') ty (.bool (decide (a≠b))):=
 fun oo ho _ w _ _=>by simp[execOp,ho,hx,hy,eqGuard_at_int,binOp_neq];rfl
theorem Y.add (hx:AD e x=.int k a)(hy:AD e y=.int k b):Yd P e bx σ (.binOp .add T x y T') ty (.int k (k.wrap (a+b))):=
 fun oo ho _ w _ _=>by simp[execOp,ho,hx,hy,eqGuard_add,binOp_add,Op.intArith]
theorem Y.sub (hx:AD e x=.int k a)(hy:AD e y=.int k b):Yd P e bx σ (.binOp .sub T x y T') ty (.int k (k.wrap (a-b))):=
 fun oo ho _ w _ _=>by simp[execOp,ho,hx,hy,eqGuard_sub,binOp_sub,Op.intArith]
theorem Y.mul (hx:AD e x=.int k a)(hy:AD e y=.int k b):Yd P e bx σ (.binOp .mul T x y T') ty (.int k (k.wrap (a*b))):=
 fun oo ho _ w _ _=>by simp[execOp,ho,hx,hy,eqGuard_mul,binOp_mul,Op.intArith]
def AG (n:Int):Prop:=-9223372036854775808≤n∧n≤9223372036854775807
theorem AG.wrap {n:Int}(h:AG n):IntKind.i64.wrap n=n:=by
 obtain⟨h1,h2⟩:=h;simp[IntKind.wrap,IntKind.bits,IntKind.signed];split<;>omega
theorem Y.AVK (h:AG (a+b))(hx:AD e x=.int .i64 a)(hy:AD e y=.int .i64 b):Yd P e bx σ (.binOp .add T x y T') ty (.int .i64 (a+b)):=by
 have:=Y.add (P:=P) (bx:=bx) (σ:=σ) (ty:=ty) (T:=T) (T':=T') hx hy;rwa[h.wrap]at this
theorem Y.AVL (h:AG (a-b))(hx:AD e x=.int .i64 a)(hy:AD e y=.int .i64 b):Yd P e bx σ (.binOp .sub T x y T') ty (.int .i64 (a-b)):=by
 have:=Y.sub (P:=P) (bx:=bx) (σ:=σ) (ty:=ty) (T:=T) (T':=T') hx hy;rwa[h.wrap]at this
theorem Y.bits {op:BinOp}(MJ:op=.and∨op=.or∨op=.xor∨op=.andNot)(hx:AD e x=.int k a)(hy:AD e y=.int k b):
  Yd P e bx σ (.binOp op T x y T') ty (.int k (Go.bits op k a b)):=
 fun oo ho _ w _ _=>by
  rcases MJ with rfl|rfl|rfl|rfl <;>
   simp[execOp,ho,hx,hy,eqGuard_at_int,binOp_and,binOp_or,binOp_xor,binOp_andNot,intBits_and,intBits_or,intBits_xor,intBits_andNot]
theorem Y.shl {k':IntKind}(h0:0≤b)(h1:b≤k.bits)(hx:AD e x=.int k a)(hy:AD e y=.int k' b):
  Yd P e bx σ (.binOp .shl T x y T') ty (.int k (k.wrap (a*2^b.toNat))):=
 fun oo ho _ w _ _=>by simp[execOp,ho,hx,hy,eqGuard_shl,binOp_shl,shift_shl k k' a b h0 h1]
theorem Y.shr {k':IntKind}(h0:0≤b)(h1:b≤k.bits)(hx:AD e x=.int k a)(hy:AD e y=.int k' b):
  Yd P e bx σ (.binOp .shr T x y T') ty (.int k (a/2^b.toNat)):=
 fun oo ho _ w _ _=>by simp[execOp,ho,hx,hy,eqGuard_shr,binOp_shr,shift_shr k k' a b h0 h1]
theorem Y.quo (h:b≠0)(hx:AD e x=.int k a)(hy:AD e y=.int k b):Yd P e bx σ (.binOp .quo T x y T') ty (.int k (k.wrap (a.tdiv b))):=
 fun oo ho _ w _ _=>by simp[execOp,ho,hx,hy,eqGuard_quo,binOp_quo,Op.intDiv,h]
theorem Y.rem (h:b≠0)(hx:AD e x=.int k a)(hy:AD e y=.int k b):Yd P e bx σ (.binOp .rem T x y T') ty (.int k (a.tmod b)):=
 fun oo ho _ w _ _=>by simp[execOp,ho,hx,hy,eqGuard_rem,binOp_rem,Op.intDiv,h]
theorem Y.not {p:Bool}(hx:AD e x=.bool p):Yd P e bx σ (.unOp .not T x) ty (.bool (!p)):=
 fun oo ho _ w _ _=>by simp[execOp,ho,hx,Op.unary]
theorem Y.neg (hx:AD e x=.int k a):Yd P e bx σ (.unOp .neg T x) ty (.int k (k.wrap (0-a))):=
 fun oo ho _ w _ _=>by simp[execOp,ho,hx,Op.unary,Op.intArith]
theorem Y.conv {k':IntKind}(hs:(P.underlying T).isSome=true)(hd:P.underlying T'=some (.int k'))(hx:AD e x=.int k a):
  Yd P e bx σ (.convert T T' x) ty (.int k' (k'.wrap a)):=
 fun oo ho _ w _ _=>by
  have hk:P.intKind T'=k':=by simp[Program.intKind,hd]
  have:=run_convert_int w T T' k a hs (by rw[hk];exact hd);rw[hk]at this;simp[execOp,ho,hx,this]
theorem Y.AG4 {p:Option Addr}{n c:Nat}{E:TypeId}(hT:P.underlying T=some (.slice E))(hx:AD e x=.slice p n c){ts:Array TypeId}(ZB:ts=#[T]):
  Yd P e bx σ (.call { callee:=.builtin .len,args:=#[x],argTypes:=ts }) ty (.int .i64 n):=fun oo ho ht w _ _=>by
 subst ZB;simp[execOp,ho,resolve,invoke,builtin,hx,Builtin.len_,run_underlying hT,goInt]
theorem Y.AVM {p:Option Addr}{n c:Nat}{E:TypeId}(hT:P.underlying T=some (.slice E))(hx:AD e x=.slice p n c){ts:Array TypeId}(ZB:ts=#[T]):
  Yd P e bx σ (.call { callee:=.builtin .cap,args:=#[x],argTypes:=ts }) ty (.int .i64 c):=fun oo ho ht w _ _=>by
 subst ZB;simp[execOp,ho,resolve,invoke,builtin,hx,Builtin.cap_,run_underlying hT,goInt]
theorem Y.AG5 {s:ByteArray}(hT:P.underlying T=some .string)(hx:AD e x=.string s){ts:Array TypeId}(ZB:ts=#[T]):
  Yd P e bx σ (.call { callee:=.builtin .len,args:=#[x],argTypes:=ts }) ty (.int .i64 s.size):=fun oo ho ht w _ _=>by
 subst ZB;simp[execOp,ho,resolve,invoke,builtin,hx,Builtin.len_,run_underlying hT,goInt]
theorem Y.min2 {k':IntKind}{ts:Array TypeId}(hx:AD e x=.int k a)(hy:AD e y=.int k' b):
  Yd P e bx σ (.call { callee:=.builtin .min,args:=#[x,y],argTypes:=ts }) ty (.int k (if b<a then b else a)):=fun oo ho ht w _ _=>by
 simp[execOp,ho,resolve,invoke,builtin,hx,hy,run_min_int2]
theorem Y.max2 {k':IntKind}{ts:Array TypeId}(hx:AD e x=.int k a)(hy:AD e y=.int k' b):
  Yd P e bx σ (.call { callee:=.builtin .max,args:=#[x,y],argTypes:=ts }) ty (.int k (if b > a then b else a)):=fun oo ho ht w _ _=>by
 simp[execOp,ho,resolve,invoke,builtin,hx,hy,run_max_int2]
theorem Y.fieldAddr {b o f off:Nat}{fs:Array Field}{fd:Field}{a':Addr}(hT:P.underlying T=some (.struct fs))(hf:fs[f]?=some fd)(hs:∀w,((Go.sizeOf fd.type).run P w)=.ok (off+1) w)
  (hx:AD e x=.pointer (some ⟨b,o,none⟩)) (ha:a'=⟨b,o+fd.offset,none⟩):Yd P e bx σ (.fieldAddr T x f) ty (.pointer (some a')):=
 fun oo ho _ w _ _=>by
  subst ha;simp[execOp,ho,hx,Instr.fieldAt,run_underlying hT,hf,Instr.sureAddr,fieldPlace,hs];exact DH b o fd.offset
theorem Y.extract {vs:Array Value}{i:Nat}{v:Value}(hx:AD e x=.tuple vs)(hv:vs[i]?=some v):Yd P e bx σ (.extract x i) ty v:=
 fun oo ho _ w _ _=>by simp[execOp,ho,hx,Instr.extract,hv]
theorem Y.AG6 {cs:Array Value}{f:Nat}{fs:Array Field}{fd:Field}{v:Value}(hT:P.underlying T=some (.struct fs))(hf:fs[f]?=some fd)(ha:∀w,(isAgg fd.type).run P w=.ok false w)
  (hx:AD e x=.agg cs) (hv:cs[fd.offset]?=some v):Yd P e bx σ (.field T x f) ty v:=
 fun oo ho _ w _ _=>by simp[execOp,ho,hx,Instr.field,run_underlying hT,hf,asAgg,part,ha,hv]
theorem Y.AG7 {cs cs':Array Value}{f n:Nat}{fs:Array Field}{fd:Field}(hT:P.underlying T=some (.struct fs))(hf:fs[f]?=some fd)(ha:∀w,(isAgg fd.type).run P w=.ok true w)
  (hs:∀w,((Go.sizeOf fd.type).run P w)=.ok n w) (hx:AD e x=.agg cs) (hv:cs.extract fd.offset (fd.offset+n)=cs'):Yd P e bx σ (.field T x f) ty (.agg cs'):=
 fun oo ho _ w _ _=>by simp[execOp,ho,hx,Instr.field,run_underlying hT,hf,asAgg,part,ha,hs,hv]
theorem Y.idx {b o n c sz:Nat}{E:TypeId}{i:Int}{a':Addr}(hT:P.underlying T=some (.slice E))(hs:∀w,((Go.sizeOf E).run P w)=.ok sz w)
  (hx:AD e x=.slice (some ⟨b,o,none⟩) n c) (hy:AD e y=.int k i) (hi:0≤i∧i<n) (ha:a'=⟨b,o+i.toNat*sz,none⟩):Yd P e bx σ (.indexAddr T x y) ty (.pointer (some a')):=
 fun oo ho _ w _ _=>by
  subst ha;simp[execOp,ho,hx,hy,Instr.indexAt,run_underlying hT,asIntOf,hi,hs,DH]
theorem Y.AVN {b o n sz:Nat}{E:TypeId}{i:Int}{a':Addr}(hT:P.underlying T=some (.array n E))(hs:∀w,((Go.sizeOf E).run P w)=.ok sz w)
  (hx:AD e x=.pointer (some ⟨b,o,none⟩)) (hy:AD e y=.int k i) (hi:0≤i∧i<n) (ha:a'=⟨b,o+i.toNat*sz,none⟩):Yd P e bx σ (.indexAddr T x y) ty (.pointer (some a')):=
 fun oo ho _ w _ _=>by
  subst ha;simp[execOp,ho,hx,hy,Instr.indexAt,run_underlying hT,asIntOf,hi,hs,DH,Instr.sureAddr]
theorem Y.AG8 {s:ByteArray}{cs:Array Value}{n:Nat}{E:TypeId}{i:Int}(hT:P.underlying T=some (.array n E))(hE:∀w,(isAgg E).run P w=.ok false w)(hs:∀w,((Go.sizeOf E).run P w)=.ok 1 w)(hx:AD e x=.agg cs)(hy:AD e y=.int k i)(h0:0≤i∧i<n)(hv:cs[i.toNat]?=some (.string s)):
  Yd P e bx σ (.index T x y) ty (.string s):=
 fun oo ho _ w _ _=>by simp[execOp,ho,hx,hy,Instr.index,run_underlying hT,asIntOf,h0,hs,part,hE,hv]
theorem Y.AG9 {s:ByteArray}{i:Int}{v:UInt8}(hT:P.underlying T=some .string)(hx:AD e x=.string s)(hy:AD e y=.int k i)(h0:0≤i)(hv:s.data[i.toNat]?=some v):
  Yd P e bx σ (.index T x y) ty (.int .u8 v.toNat):=
 fun oo ho _ w _ _=>by
  have hv':s[i.toNat]?=some v:=by rw[←hv];rfl
  simp[execOp,ho,hx,hy,Instr.index,run_underlying hT,asIntOf,h0,hv']
theorem Y.ld {a:Addr}{v:Value}(hA:∀w,(isAgg T).run P w=.ok false w)(hx:AD e x=.pointer (some a))(h:σ.ld a=some v):Yd P e bx σ (.load T x) ty v:=
 fun oo ho _ w hs _=>by
  simp[execOp,ho,hx,Instr.loadAt,Instr.sureAddr,loadVar,hA,load,Sem.run,hs.ld h]
theorem LH.cell {w:World}{b:Nat}{c:Array Value}{t:TypeId}{fr:Nat×Nat}(hs:LH bx w)(hb:(b,Obj.cells c t fr)∈bx)(o:Nat):w.cell? ⟨b,o,none⟩=c[o]?:=by
 simp[World.cell?,hs _ hb]
theorem Y.ldb {b o:Nat}{c:Array Value}{t:TypeId}{fr:Nat×Nat}{v:Value}(hA:∀w,(isAgg T).run P w=.ok false w)(hx:AD e x=.pointer (some ⟨b,o,none⟩))(hb:(b,Obj.cells c t fr)∈bx)(h:c[o]?=some v):
  Yd P e bx σ (.load T x) ty v:=
 fun oo ho _ w _ hs=>by
  simp[execOp,ho,hx,Instr.loadAt,Instr.sureAddr,loadVar,hA,load,Sem.run,hs.cell hb,h]
theorem Y.lda {b o n:Nat}{vs:List Value}(hA:∀w,(isAgg T).run P w=.ok true w)(hs:∀w,((Go.sizeOf T).run P w)=.ok n w)(hn:vs.length=n)(hx:AD e x=.pointer (some ⟨b,o,none⟩))(h:Ae σ b o vs):
  Yd P e bx σ (.load T x) ty (.agg vs.toArray):=
 fun oo ho _ w uQ _=>by
  subst hn;have:=run_loadCells_list (P:=P) (w:=w) ⟨b,o,none⟩ vs (fun j v hj=>by rw[show(⟨b,o,none⟩:Addr).add j=⟨b,o+j,none⟩ from DH _ _ _];exact uQ.ld (h.get hj));simp[execOp,ho,hx,Instr.loadAt,Instr.sureAddr,loadVar,hA,hs,this]
theorem Y.AVO {b o n:Nat}{c:Array Value}{t:TypeId}{fr:Nat×Nat}{vs:List Value}(hA:∀w,(isAgg T).run P w=.ok true w)(hs:∀w,((Go.sizeOf T).run P w)=.ok n w)(hn:vs.length=n)(hx:AD e x=.pointer (some ⟨b,o,none⟩))
  (hb:(b,Obj.cells c t fr)∈bx) (h:(c.toList.drop o).take n=vs):Yd P e bx σ (.load T x) ty (.agg vs.toArray):=
 fun oo ho _ w _ uQ=>by
  subst hn;have:=run_loadCells_list (P:=P) (w:=w) ⟨b,o,none⟩ vs (fun j v hj=>by
   rw[show(⟨b,o,none⟩:Addr).add j=⟨b,o+j,none⟩ from DH _ _ _,uQ.cell hb];rw[←h]at hj;have Aq:j<vs.length:=by
    have:=(List.getElem?_eq_some_iff.1 hj).1;simp at this;omega
   simpa[Ail,Aq] using hj)
  simp[execOp,ho,hx,Instr.loadAt,Instr.sureAddr,loadVar,hA,hs,this]
theorem Y.nilCheck {a:Addr}(hx:AD e x=.pointer (some a)):Yd P e bx σ (.nilCheck x) ty (.pointer (some a)):=
 .pu fun o ho=>by simp[execOp,ho,hx]
theorem Y.qc {f:FuncId}{xs ys:Array Value}(hx:AD e x=.func (.func f) xs ys):Yd P e bx σ (.nilCheck x) ty (.func (.func f) xs ys):=
 .pu fun o ho=>by simp[execOp,ho,hx]
theorem Y.makeFunc {fn:Fn}{xs ys:Array Operand}{vs us:Array Value}(hx:xs.toList.map (AD e)=vs.toList)(hy:ys.toList.map (AD e)=us.toList):Yd P e bx σ (.makeFunc fn xs ys) ty (.func fn vs us):=
 fun oo ho _ w _ _=>by
 have hx:xs.map (AD e)=vs:=by rw[←Aip];simpa using hx
 have hy:ys.map (AD e)=us:=by rw[←Aip];simpa using hy
 simp[execOp,ho,hx,hy,Instr.makeFunc]
end kS
end Tw
end
section
namespace Tw
open Go
variable [G9]
def sig (ops:Array Oper)(i:Nat):Option (Option Nat×Op×TypeId×Option (Nat×Bool)):=(ops[i]?).map fun o=>(o.dst,o.op,o.type,o.guard)
theorem DD {ops:Array Oper}{i:Nat}{d:Option Nat}{op:Op}{ty:TypeId}{gd:Option (Nat×Bool)}(h:sig ops i=some (d,op,ty,gd)):
  ∃o,ops[i]?=some o∧o.dst=d∧o.op=op∧o.type=ty∧o.guard=gd:=by
 unfold sig at h;cases ho:ops[i]? with
 | none=>simp[ho]at h
 | some o=>
  simp only[ho,Aiv,AiO,Ajr]at h;exact⟨o,rfl,h.1,h.2.1,h.2.2.1,h.2.2.2⟩
def J1 (d:Option Nat)(n:Nat):Bool:=match d with | some d=>Nat.blt d n | none=>true
theorem J1.lt {d:Option Nat}{n:Nat}(h:J1 d n=true):∀t,d=some t→t<n:=fun t ht=>by
 subst ht;exact AjF h
section uR
variable {g:Gl}{ops:Array Oper}{q:MD}{L:List (Nat×List Nat)}{i:Nat}{is:List Nat}{r:List (Nat×Bool)}{e:Env}{bx:Bx}{σ:Hp}{K:Env→Bx→Hp→Prop}{d:Option Nat}{op:Op}{ty:TypeId}{gd:Option (Nat×Bool)}{v:Value}
theorem AP.y (hs:sig ops i=some (d,op,ty,gd))(hw:AY ops e gd=true)(hd:J1 d g.n=true)(hy:Yd g.P e bx σ op ty v)(h:K (put e d v) bx σ):AP g ops i e bx σ K:=by
 intro w0 F a w st;obtain⟨o,ho,rfl,A6,DJ,rfl⟩:=DD hs;refine Dk ho (by rw[st.wanted];exact hw) ?_;rw[st.eval,E6 (hy o A6 DJ w st.sat st.box) (fun d=>by simp)];exact⟨_,_,_,st.put _ _ (J1.lt hd),h⟩
theorem AP.no (hs:sig ops i=some (d,op,ty,gd))(hw:AY ops e gd=false)(hd:J1 d g.n=true)(h:K (put e d undef) bx σ):AP g ops i e bx σ K:=by
 intro w0 F a w st;obtain⟨o,ho,rfl,A6,DJ,rfl⟩:=DD hs;refine kP ho (by rw[st.wanted];exact hw) ?_;exact⟨_,_,_,st.put _ _ (J1.lt hd),h⟩
theorem Seq.y (hs:sig ops i=some (d,op,ty,none))(hd:J1 d g.n=true)(hy:Yd g.P e bx σ op ty v)(h:Seq g ops is (put e d v) bx σ K):Seq g ops (i::is) e bx σ K:=
 AP.y hs rfl hd hy h
theorem Seq.yg (hs:sig ops i=some (d,op,ty,gd))(hw:AY ops e gd=true)(hd:J1 d g.n=true)(hy:Yd g.P e bx σ op ty v)(h:Seq g ops is (put e d v) bx σ K):Seq g ops (i::is) e bx σ K:=
 AP.y hs hw hd hy h
theorem Seq.no (hs:sig ops i=some (d,op,ty,gd))(hw:AY ops e gd=false)(hd:J1 d g.n=true)(h:Seq g ops is (put e d undef) bx σ K):Seq g ops (i::is) e bx σ K:=
 AP.no hs hw hd h
theorem Seq.o (h:AP g ops i e bx σ fun e' I7 σ'=>Seq g ops is e' I7 σ' K):Seq g ops (i::is) e bx σ K:=h
theorem Seq.done (h:K e bx σ):Seq g ops [] e bx σ K:=h
theorem Hr {q:MD}:Qk q none=q:=by cases q<;>rfl
theorem ok_none {q:MD}{i:Nat}{ops:Array Oper}(h:q.ok i=true):((Qk q none).ok i&&V9 ops i none)=true:=by rw[Hr,h];rfl
theorem Head.y (hs:sig ops i=some (d,op,ty,none))(hd:J1 d g.n=true)(hy:Yd g.P e bx (S1 q none σ) op ty v)(h:Head g ops q r (put e d v) bx σ K)(EI:q.ok i=true:=by rfl):Head g ops q ((i,true)::r) e bx σ K:=by
 obtain⟨o,ho,rfl,rfl,rfl,hg⟩:=DD hs;exact⟨none,o,v,ok_none EI,ho,.inl ⟨by rw[hg];rfl,hy⟩,(J1.lt hd),by rw[Hr];exact h⟩
theorem Head.yg (hs:sig ops i=some (d,op,ty,gd))(hw:AY ops e gd=true)(hd:J1 d g.n=true)(hy:Yd g.P e bx (S1 q none σ) op ty v)(h:Head g ops q r (put e d v) bx σ K)(EI:q.ok i=true:=by rfl):Head g ops q ((i,true)::r) e bx σ K:=by
 obtain⟨o,ho,rfl,rfl,rfl,rfl⟩:=DD hs;exact⟨none,o,v,ok_none EI,ho,.inl ⟨hw,hy⟩,(J1.lt hd),by rw[Hr];exact h⟩
theorem Head.yl (b:Nat)(Ds:List (List Nat)){D:List Nat}(hD:Ds.filterMap List.head?=D)(EI:((Qk (some L) (some (b,Ds))).ok i&&V9 ops i (some (b,Ds)))=true)(hs:sig ops i=some (d,op,ty,none))(hd:J1 d g.n=true)(hy:Yd g.P e bx (S1 (some L) (some (b,Ds)) σ) op ty v)
  (h:Head g ops (some ((b,D)::L)) r (put e d v) bx σ K):Head g ops (some L) ((i,true)::r) e bx σ K:=by
 subst hD;obtain⟨o,ho,rfl,rfl,rfl,hg⟩:=DD hs;exact⟨some (b,Ds),o,v,EI,ho,.inl ⟨by rw[hg];rfl,hy⟩,(J1.lt hd),h⟩
theorem Head.o {q':MD}(hq:IU q i=q')(h:AP g ops i e bx σ fun e' I7 σ'=>NT q' bx σ I7 σ'∧Head g ops q' r e' I7 σ' K):Head g ops q ((i,false)::r) e bx σ K:=by
 subst hq;exact h
theorem Head.done (h:K e bx σ):Head g ops q [] e bx σ K:=h
theorem St.grown {n ds w0 F e bx σ a w}(st:St n ds w0 F e bx σ a w)(o:Obj):St n ds w0 F e ((w.heap.size,o)::bx) σ a { w with heap:=w.heap.push o }:=by
 have Aq:∀b o',w.heap[b]?=some o'→b<w.heap.size:=fun b o' h=>(Array.getElem?_eq_some_iff.1 h).1;have hold:∀b o',w.heap[b]?=some o'→({ w with heap:=w.heap.push o }:World).heap[b]?=some o':=fun b o' h=>by
  have:=Aq _ _ h;show(w.heap.push o)[b]?=some o'
  rw[AkT,AiK (Nat.ne_of_lt this)];exact h
 refine { st with sat:=fun b o' hb=>hold _ _ (st.sat b o' hb),box:=fun p hp=>?_,free:=fun p hp=>?_,nodup:=?_,E5:=fun b hb=>?_,os:=st.os,out:=st.out,grow:=by have:=st.grow;simp;omega }
 ·rcases AiT.1 hp with rfl|hp
  ·simp
  ·exact hold _ _ (st.box p hp)
 ·rcases AiT.1 hp with rfl|hp
  ·refine⟨?_,fun hF=>?_⟩
   ·cases hs:σ w.heap.size with
    | none=>rfl
    | some o'=>exact absurd (Aq _ _ (st.sat _ _ hs)) (Nat.lt_irrefl _)
   ·have h1:=(st.E5 _ hF).1;have h2:=st.grow;simp at h1;omega
  ·exact st.free p hp
 ·refine List.nodup_cons.2 ⟨fun hm=>?_,st.nodup⟩;obtain⟨p,hp,he⟩:=List.mem_map.1 hm;have:=Aq _ _ (st.box p hp);simp at he;omega
 ·obtain⟨h1,h2,h3⟩:=st.E5 b hb;refine⟨h1,h2,?_⟩;have:b≠w.heap.size:=by have:=st.grow;omega
  show(w.heap.push o)[b]?=_
  rw[AkT,AiK this];exact h3
theorem AP.box {T:TypeId}{x:Operand}{cs:Array Value}(hs:sig ops i=some (d,.box T x,ty,gd))(hw:AY ops e gd=true)(hd:J1 d g.n=true)(hx:(AD e x).cells=cs)
  (h:∀b,K (put e d (.pointer (some ⟨b,0,none⟩))) ((b,.cells cs T (0,0))::bx) σ):AP g ops i e bx σ K:=by
 intro w0 F a w st;obtain⟨o,ho,rfl,A6,DJ,hg⟩:=DD hs;refine Dk ho (by rw[st.wanted,hg];exact hw) ?_;rw[st.eval];have:(execOp (AD e) o).run g.P w=.ok (.value (.pointer (some ⟨w.heap.size,0,none⟩))) { w with heap:=w.heap.push (.cells cs T (0,0)) }:=by
  simp[execOp,A6,Instr.box,newVar,newRow,newObj,Sem.run,hx]
 rw[E6 this (fun d=>by simp)];exact⟨_,_,_,(st.grown _).put _ _ (J1.lt hd),h _⟩
theorem AP.alloc {T:TypeId}{z:Value}{cs:Array Value}(hs:sig ops i=some (d,.alloc T,ty,gd))(hw:AY ops e gd=true)(hd:J1 d g.n=true)(hz:∀w,(zeroValue T).run g.P w=.ok z w)(hc:z.cells=cs)
  (h:∀b,K (put e d (.pointer (some ⟨b,0,none⟩))) ((b,.cells cs T (0,0))::bx) σ):AP g ops i e bx σ K:=by
 intro w0 F a w st;obtain⟨o,ho,rfl,A6,DJ,hg⟩:=DD hs;refine Dk ho (by rw[st.wanted,hg];exact hw) ?_;rw[st.eval];have:(execOp (AD e) o).run g.P w=.ok (.value (.pointer (some ⟨w.heap.size,0,none⟩))) { w with heap:=w.heap.push (.cells cs T (0,0)) }:=by
  simp[execOp,A6,Instr.alloc,newVar,newRow,newObj,Sem.run,hz,hc]
 rw[E6 this (fun d=>by simp)];exact⟨_,_,_,(st.grown _).put _ _ (J1.lt hd),h _⟩
theorem Hp.AA (σ:Hp)(b:Nat)(o:Obj):σ.set b o b=some o:=by simp[Hp.set]
theorem Hp.AM {σ:Hp}{b c:Nat}{o:Obj}(h:c≠b):σ.set b o c=σ c:=by simp[Hp.set,h]
theorem St.open {n ds w0 F e bx σ a w b o}(st:St n ds w0 F e ((b,o)::bx) σ a w):St n ds w0 F e bx (σ.set b o) a w:=by
 have hb:=st.box (b,o) (Aih ..);have hf:=st.free (b,o) (Aih ..);have hn:=List.nodup_cons.1 (show((b::bx.map (·.1))).Nodup from st.nodup);refine { st with sat:=fun c o' hc=>?_,box:=fun p hp=>st.box p (AiX _ hp),free:=fun p hp=>?_,nodup:=hn.2,E5:=fun c hc=>?_ }
 ·by_cases h:c=b
  ·subst h;rw[Hp.AA]at hc;cases hc;exact hb
  ·rw[Hp.AM h]at hc;exact st.sat c o' hc
 ·have h1:=st.free p (AiX _ hp);have:p.1≠b:=fun h=>hn.1 (List.mem_map.2 ⟨p,hp,h⟩);exact⟨by rw[Hp.AM this];exact h1.1,h1.2⟩
 ·obtain⟨h1,h2,h3⟩:=st.E5 c hc;have:c≠b:=fun h=>hf.2 (h▸hc);exact⟨h1,by rw[Hp.AM this];exact h2,h3⟩
theorem AP.AHA {T:TypeId}{x:Operand}{cs:Array Value}(hs:sig ops i=some (d,.box T x,ty,gd))(hw:AY ops e gd=true)(hd:J1 d g.n=true)(hx:(AD e x).cells=cs)
  (h:∀b,σ b=none→K (put e d (.pointer (some ⟨b,0,none⟩))) bx (σ.set b (.cells cs T (0,0)))):AP g ops i e bx σ K:=by
 intro w0 F a w st;refine wpOpIn_mono ?_ (AP.box (K:=fun e' I7 σ'=>σ'=σ∧∃b,e'=put e d (.pointer (some ⟨b,0,none⟩))∧I7=(b,.cells cs T (0,0))::bx) hs hw hd hx (fun b=>⟨rfl,b,rfl,rfl⟩) w0 F a w st)
 rintro a' w' ⟨_,_,_,RJ,rfl,b,rfl,rfl⟩
 exact⟨_,_,_,RJ.open,h b (RJ.free _ (Aih ..)).1⟩
theorem AP.S4 {T:TypeId}{z:Value}{cs:Array Value}(hs:sig ops i=some (d,.alloc T,ty,gd))(hw:AY ops e gd=true)(hd:J1 d g.n=true)(hz:∀w,(zeroValue T).run g.P w=.ok z w)(hc:z.cells=cs)
  (h:∀b,σ b=none→K (put e d (.pointer (some ⟨b,0,none⟩))) bx (σ.set b (.cells cs T (0,0)))):AP g ops i e bx σ K:=by
 intro w0 F a w st;refine wpOpIn_mono ?_ (AP.alloc (K:=fun e' I7 σ'=>σ'=σ∧∃b,e'=put e d (.pointer (some ⟨b,0,none⟩))∧I7=(b,.cells cs T (0,0))::bx) hs hw hd hz hc (fun b=>⟨rfl,b,rfl,rfl⟩) w0 F a w st)
 rintro a' w' ⟨_,_,_,RJ,rfl,b,rfl,rfl⟩
 exact⟨_,_,_,RJ.open,h b (RJ.free _ (Aih ..)).1⟩
def AK (P:Program){α:Type}(m:Sem α)(σ:Hp)(Φ:α→Hp→Prop):Prop:=
 ∀w (F:Nat→Prop),Sat σ w→(∀b,F b→b<w.heap.size∧σ b=none)→∃v w' σ',m.run P w=.ok v w'∧Φ v σ'∧Fin σ' F w w'
theorem AK.mono {P:Program}{α:Type}{m:Sem α}{Φ Ψ:α→Hp→Prop}(h:AK P m σ Φ)(hh:∀v σ',Φ v σ'→Ψ v σ'):AK P m σ Ψ:=fun w F hs hF=>
 let ⟨v,w',σ',h1,h2,h3⟩:=h w F hs hF
 ⟨v,w',σ',h1,hh _ _ h2,h3⟩
theorem St.lt {n ds w0 F e bx σ a w}(st:St n ds w0 F e bx σ a w):∀b,(F b∨b∈bx.map (·.1))→b<w.heap.size∧σ b=none:=by
 rintro b (h|h)
 ·have h1:=st.E5 b h;have h2:=st.grow;exact⟨by omega,h1.2.1⟩
 ·obtain⟨p,hp,rfl⟩:=List.mem_map.1 h;exact⟨(Array.getElem?_eq_some_iff.1 (st.box p hp)).1,(st.free p hp).1⟩
theorem St.fin {n ds w0 F e bx σ a w σ' w'}(st:St n ds w0 F e bx σ a w)(h:Fin σ' (fun b=>F b∨b∈bx.map (·.1)) w w'):St n ds w0 F e bx σ' a w':=by
 refine { st with sat:=h.sat,box:=fun p hp=>?_,free:=fun p hp=>⟨(h.E5 p.1 (.inr (List.mem_map.2 ⟨p,hp,rfl⟩))).1,(st.free p hp).2⟩,E5:=fun b hb=>?_,os:=st.os.trans h.os,out:=h.out.trans st.out,grow:=Aiy st.grow h.grow }
 ·rw[(h.E5 p.1 (.inr (List.mem_map.2 ⟨p,hp,rfl⟩))).2];exact st.box p hp
 ·obtain⟨h1,_,h3⟩:=st.E5 b hb;exact⟨h1,(h.E5 b (.inl hb)).1,(h.E5 b (.inl hb)).2.trans h3⟩
theorem AP.WA (hs:sig ops i=some (d,op,ty,gd))(hw:AY ops e gd=true)(hd:J1 d g.n=true)(m:Sem Value)(hm:∀o:Oper,o.op=op→o.type=ty→execOp (AD e) o=(do pure (.value (←m))))
  (h:AK g.P m σ fun v σ'=>K (put e d v) bx σ'):AP g ops i e bx σ K:=by
 intro w0 F a w st;obtain⟨o,ho,rfl,A6,DJ,rfl⟩:=DD hs;refine Dk ho (by rw[st.wanted];exact hw) ?_;obtain⟨v,w',σ',h1,h2,h3⟩:=h w _ st.sat st.lt;rw[st.eval];have Bz:=hm o A6 DJ;rw[E6 (by rw[Bz];simp only[Sem.run_bind,h1,Result.andThen_ok];rfl) (fun d=>by simp)];exact⟨_,_,_,(st.fin h3).put _ _ (J1.lt hd),h2⟩
theorem AP.ABT (hs:sig ops i=some (d,op,ty,gd))(hw:AY ops e gd=true)(hd:J1 d g.n=true)(m:Sem Unit)(hm:∀o:Oper,o.op=op→o.type=ty→execOp (AD e) o=(do m;pure .skip))
  (h:AK g.P m σ fun _ σ'=>K (put e d undef) bx σ'):AP g ops i e bx σ K:=by
 intro w0 F a w st;obtain⟨o,ho,rfl,A6,DJ,rfl⟩:=DD hs;refine Dk ho (by rw[st.wanted];exact hw) ?_;obtain⟨v,w',σ',h1,h2,h3⟩:=h w _ st.sat st.lt;rw[st.eval];have Bz:=hm o A6 DJ;rw[E6 (by rw[Bz];simp only[Sem.run_bind,h1,Result.andThen_ok];rfl) (fun d=>by simp)];exact⟨_,_,_,(st.fin h3).put _ _ (J1.lt hd),h2⟩
def BB (R:Rr)(Φ:Value→Hp→Prop):Rr
 | .returned v,σ=>Φ v σ
 | .panicked ch,σ=>R (.panicked ch) σ
 | .outgrown,_=>False
theorem AP.call {f:FuncId}{args:Array Value}(hs:sig ops i=some (d,op,ty,gd))(hw:AY ops e gd=true)(hd:J1 d g.n=true)
  (hm:∀o:Oper,o.op=op→o.type=ty→∀w,(execOp (AD e) o).run g.P w=.ok (.enter f args) w)
  (h:Spec g.P f args σ (BB g.R fun v σ'=>K (put e d v) bx σ')):AP g ops i e bx σ K:=by
 intro w0 F a w st;obtain⟨o,ho,rfl,A6,DJ,rfl⟩:=DD hs;refine Dk ho (by rw[st.wanted];exact hw) ?_;rw[st.eval,E6 (hm o A6 DJ w) (fun d=>by simp)];refine⟨fun hh=>(by cases hh),kQ (Calls.mono (h w _ st.sat st.lt) fun en w'=>?_)⟩
 rintro⟨σ',hr,hf⟩
 have RJ:=st.fin hf;cases en with
 | returned v=>exact⟨_,_,_,RJ.put _ _ (J1.lt hd),hr⟩
 | panicked ch=>
  rcases g.pan with ⟨h1,h2⟩|Cg
  ·exact⟨⟨h1,RJ.defers.trans h2⟩,σ',hr,RJ.toFin⟩
  ·exact absurd hr (Cg ch σ')
 | outgrown=>exact hr.elim
theorem S5 {P:Program}{ρ:Operand→Value}{x:Operand}{xs:Array Operand}{ts:Array TypeId}{f:FuncId}{fst cap vs args:Array Value}
  (hf:∀args w,(callFunc f args).run P w=.ok (.enter f args) w) (hx:ρ x=.func (.func f) fst cap) (M6:xs.toList.map ρ=vs.toList) (ha:fst++vs++cap=args)
  (o:Oper) (ho:o.op=.call { callee:=.value x,args:=xs,argTypes:=ts }) (w:World) :
  (execOp ρ o).run P w=.ok (.enter f args) w:=by
 subst ha;have M6:xs.map ρ=vs:=by rw[←Aip];simpa using M6
 simp only[execOp,ho,resolve,hx,M6,Deferred.ofValue,invoke,bind,Sem.bind,pure];exact hf _ w
end uR
end Tw
end
section
namespace Tw
open Go
variable [G9]
def Qp (c:Array Value)(o:Nat):List Value→Array Value
 | []=>c
 | v::vs=>Qp (c.setIfInBounds o v) (o+1) vs
theorem IV:∀(vs:List Value) (c:Array Value) (o:Nat),(Qp c o vs).size=c.size
 | [],_,_=>rfl
 | v::vs,c,o=>by simp[Qp,IV vs]
theorem VY:∀(vs:List Value) (c:Array Value) (o j:Nat),o+vs.length≤c.size→
  (Qp c o vs)[j]?=if o≤j∧j<o+vs.length then vs[j-o]? else c[j]?
 | [],c,o,j,_=>by rw[AiK (by simp only[List.length_nil];omega)];rfl
 | v::vs,c,o,j,h=>by
  simp only[AjB]at h;rw[Qp,VY vs _ _ j (by simp;omega)];by_cases h1:o+1≤j∧j<o+1+vs.length
  ·rw[AiL h1,AiL (by simp;omega),show j-o=(j-(o+1))+1 by omega,Ai3]
  ·rw[AiK h1];by_cases h2:j=o
   ·subst h2;rw[AiL (by simp),AkN];simp[show j<c.size by omega]
   ·rw[AiK (by simp;omega),Aj9 (AjI h2)]
section
variable {P:Program}
theorem HB (b o:Nat)(t:TypeId):∀(vs:List Value) (i:Nat) (c:Array Value) (w:World),w.heap[b]?=some (.cells c t (0,0))→o+i+vs.length≤c.size→(∀v∈vs,v.oneCell'=true)→
  (storeCells ⟨b,o,none⟩ vs i).run P w=.ok () (w.setRow b (Qp c (o+i) vs))
 | [],i,c,w,hg,hl,_=>by
  have Aq:b<w.heap.size:=(Array.getElem?_eq_some_iff.1 hg).1;have hv:w.heap[b]=.cells c t (0,0):=(Array.getElem?_eq_some_iff.1 hg).2;simp only[storeCells,Qp];show Result.ok () w=_
  congr 1
  unfold World.setRow;cases w with
  | mk heap tape drawn os output=>
   congr 1
   apply Array.ext
   ·simp
   ·intro k h1 h2;simp only[Array.getElem_modify];split
    ·rename_i hk;subst hk;simp at hv;simp[hv]
    ·rfl
 | v::vs,i,c,w,hg,hl,h1=>by
  simp only[AjB]at hl;have Zy:w.cell? ⟨b,o+i,none⟩=some c[o+i]:=by
   simp[World.cell?,hg]
  have hfr:w.frozen? ⟨b,o+i,none⟩=false:=by simp[World.frozen?,hg]
  have AVP:(⟨b,o,none⟩:Addr).add i=⟨b,o+i,none⟩:=DH b o i;have AVQ:=setCell_eq_setRow w b (o+i) c t (0,0) v hg;have RQ:=setRow_heap w b c (c.setIfInBounds (o+i) v) t (0,0) hg;have ih:=HB b o t vs (i+1) (c.setIfInBounds (o+i) v) (w.setRow b (c.setIfInBounds (o+i) v)) RQ (by simp;omega) (fun u hu=>h1 u (AiX _ hu));rw[setRow_setRow]at ih;have E2:=run_store P w ⟨b,o+i,none⟩ v .plain (h1 v (Aih ..));simp only[storeCells,AVP,Sem.run_bind,E2,Zy,hfr,Ajv,if_false,Result.andThen_ok,AVQ,ih,Qp];rw[Nat.add_assoc]
theorem UC (b o:Nat)(t ty:TypeId)(v:Value)(c:Array Value)(w:World){n:Nat}(hs:∀w,(Go.sizeOf ty).run P w=.ok n w)(hn:v.cells.size=n)(hg:w.heap[b]?=some (.cells c t (0,0)))
  (hl:o+n≤c.size) (h1:∀u∈v.cells.toList,u.oneCell'=true) :
  (Instr.storeAt ty (.pointer (some ⟨b,o,none⟩)) v).run P w=.ok () (w.setRow b (Qp c o v.cells.toList)):=by
 have:=HB (P:=P) b o t v.cells.toList 0 c w hg (by simp;omega) h1;simp[Instr.storeAt,Instr.sureAddr,storeVar,hs,hn,this]
end
theorem St.wrote {n ds w0 F e bx σ a w j b c c' t}(st:St n ds w0 F e bx σ a w)(hj:bx[j]?=some (b,Obj.cells c t (0,0))):
  St n ds w0 F e (bx.set j (b,.cells c' t (0,0))) σ a (w.setRow b c'):=by
 have hm:(b,Obj.cells c t (0,0))∈bx:=AiM hj;have hb:=st.box _ hm;have hf:=st.free _ hm;have uS:(bx.set j (b,Obj.cells c' t (0,0))).map (·.1)=bx.map (·.1):=by
  rw[List.map_set];have:(bx.map (·.1))[j]?=some b:=by simp[hj]
  obtain⟨Aq,heq⟩:=List.getElem?_eq_some_iff.1 this;rw[←heq,List.set_getElem_self]
 have kT:∀k,k≠b→(w.setRow b c').heap[k]?=w.heap[k]?:=fun k hk=>setRow_other w b k c' hk;refine { st with sat:=fun k o hk=>?_,box:=fun p hp=>?_,free:=fun p hp=>?_,nodup:=by rw[uS];exact st.nodup,E5:=fun k hk=>?_,os:=st.os,out:=st.out,grow:=by simpa using st.grow }
 ·have:k≠b:=fun h=>by rw[h,hf.1]at hk;cases hk
  rw[kT k this];exact st.sat k o hk
 ·by_cases h:p.1=b
  ·
   obtain⟨i,hi⟩:=List.mem_iff_getElem?.1 hp;have JE:i=j:=by
    have h1:((bx.set j (b,Obj.cells c' t (0,0))).map (·.1))[i]?=some b:=by simp only[Ait,hi,Aiv,h]
    rw[uS]at h1;have h2:(bx.map (·.1))[j]?=some b:=by simp[hj]
    have QD:=(List.getElem?_eq_some_iff.1 h1).1;exact(List.getElem?_inj QD st.nodup).1 (h1.trans h2.symm)
   subst JE;have Aq:i<bx.length:=(List.getElem?_eq_some_iff.1 hj).1;rw[Aix Aq]at hi;cases hi;exact setRow_heap w b c c' t (0,0) hb
  ·rw[kT _ h];rcases List.mem_or_eq_of_mem_set hp with h1|h1
   ·exact st.box p h1
   ·exact absurd (by rw[h1]) h
 ·rcases List.mem_or_eq_of_mem_set hp with h1|h1
  ·exact st.free p h1
  ·rw[h1];exact hf
 ·obtain⟨h1,h2,h3⟩:=st.E5 k hk;have:k≠b:=fun h=>hf.2 (h▸hk);exact⟨h1,h2,by rw[kT k this];exact h3⟩
section uR
variable {g:Gl}{ops:Array Oper}{i:Nat}{e:Env}{bx:Bx}{σ:Hp}{K:Env→Bx→Hp→Prop}{d:Option Nat}{op:Op}{ty T:TypeId}{gd:Option (Nat×Bool)}
theorem AP.AHB {x y:Operand}{j b o n:Nat}{c c':Array Value}{t:TypeId}{v:Value}(hs:sig ops i=some (none,.store T x y,ty,gd))(hw:AY ops e gd=true)(hz:∀w,(Go.sizeOf T).run g.P w=.ok n w)
  (hx:AD e x=.pointer (some ⟨b,o,none⟩)) (hy:AD e y=v) (hj:bx[j]?=some (b,Obj.cells c t (0,0))) (hn:v.cells.size=n) (hl:Nat.ble (o+n) c.size=true) (h1:(v.cells.toList.all fun u=>u.oneCell')=true)
  (hc:Qp c o v.cells.toList=c') (h:K e (bx.set j (b,.cells c' t (0,0))) σ):AP g ops i e bx σ K:=by
 intro w0 F a w st;obtain⟨o',ho,hd,A6,DJ,hg⟩:=DD hs;refine Dk ho (by rw[st.wanted,hg];exact hw) ?_;rw[st.eval];subst hc;have hb:=st.box _ (AiM hj);have:=UC (P:=g.P) b o t T v c w hz hn hb (AjF hl) (fun u hu=>List.all_eq_true.1 h1 u hu);have:(execOp (AD e) o').run g.P w=.ok .skip (w.setRow b (Qp c o v.cells.toList)):=by
  simp[execOp,A6,hx,hy,this]
 rw[E6 this (fun d=>by simp)];have AVS:a.put o'.dst undef=a:=by rw[hd];rfl
 simp only[Oper.uponIn_skip,AVS];exact⟨_,_,_,st.wrote hj,h⟩
theorem AK.store {P:Program}{b o n:Nat}{c:Array Value}{t:TypeId}{v:Value}{Φ:Unit→Hp→Prop}(hz:∀w,(Go.sizeOf T).run P w=.ok n w)(hb:σ b=some (.cells c t (0,0)))(hn:v.cells.size=n)(hl:o+n≤c.size)(h1:∀u∈v.cells.toList,u.oneCell'=true)
  (h:Φ () (σ.set b (.cells (Qp c o v.cells.toList) t (0,0)))):AK P (Instr.storeAt T (.pointer (some ⟨b,o,none⟩)) v) σ Φ:=fun w F hs hF=>by
 refine⟨(),_,_,UC b o t T v c w hz hn (hs _ _ hb) hl h1,h,?_,?_,.same rfl rfl rfl,rfl,by simp⟩
 ·intro k o' hk;by_cases h:k=b
  ·subst h;rw[Hp.AA]at hk;cases hk;exact setRow_heap w k c _ t (0,0) (hs _ _ hb)
  ·rw[Hp.AM h]at hk;rw[setRow_other _ _ _ _ h];exact hs k o' hk
 ·intro k hk;have:k≠b:=fun h=>by have:=(hF k hk).2;rw[h,hb]at this;cases this
  exact⟨by rw[Hp.AM this];exact(hF k hk).2,setRow_other _ _ _ _ this⟩
theorem AP.store {x y:Operand}{p v:Value}(hs:sig ops i=some (none,.store T x y,ty,gd))(hw:AY ops e gd=true)(hx:AD e x=p)(hy:AD e y=v)
  (h:AK g.P (Instr.storeAt T p v) σ fun _ σ'=>K e bx σ'):AP g ops i e bx σ K:=
 AP.ABT hs hw rfl (Instr.storeAt T p v) (fun o ho _=>by simp[execOp,ho,hx,hy]) h
end uR
section kS
variable {P:Program}{e:Env}{bx:Bx}{σ:Hp}{ty T:TypeId}
theorem Y.build {ps:Array (Nat×Operand)}{vs:List (Nat×Value)}{cs:Array Value}(hv:ps.toList.map (fun p=>(p.1,AD e p.2))=vs)(hc:P.built T vs=some cs):Yd P e bx σ (.build T ps) ty (.agg cs):=fun oo ho _ w _ _=>by
 have hh:(ps.map fun(i,x)=>(i,AD e x)).toList=vs:=by rw[←hv];simp
 have:=run_build (P:=P) w T (ps.map fun(i,x)=>(i,AD e x)) cs (by rw[hh];exact hc);simp only[execOp,ho,Sem.run_bind,this,Result.andThen_ok];rfl
end kS
def KF (P:Program)(e:Env)(bx:Bx)(σ:Hp):List ResultVar→List Value→Prop
 | [],vs=>vs=[]
 | .tmp t::r,vs=>∃us,vs=e t::us∧KF P e bx σ r us
 | .cell p T::r,vs=>∃v us,vs=v::us∧(∃a,e p=.pointer (some a)∧∀w,Sat σ w→LH bx w→(loadVar T a).run P w=.ok v w)∧KF P e bx σ r us
def WB:List Value→Value
 | [v]=>v
 | vs=>.tuple vs.toArray
def qd (tmps:Array Value):ResultVar→Sem Value
 | .tmp t=>pure (tmps.getD t undef)
 | .cell a t=>do loadVar t (←asAddr (tmps.getD a undef))
theorem KF.run {P:Program}{e:Env}{bx:Bx}{σ:Hp}{tmps:Array Value}{w:World}(he:∀t,tmps.getD t undef=e t)(hs:Sat σ w)(hb:LH bx w):∀(rs:List ResultVar) (vs:List Value),KF P e bx σ rs vs→
  (rs.mapM (qd tmps)).run P w=Result.ok vs w
 | [],vs,h=>by simp only[KF]at h;subst h;simp
 | .tmp t::r,vs,h=>by
  obtain⟨us,rfl,h⟩:=h;have h1:(qd tmps (.tmp t)).run P w=.ok (e t) w:=by simp only[qd,Sem.run_pure,he]
  simp only[List.mapM_cons,Sem.run_bind,Sem.run_pure,Result.andThen_ok,KF.run he hs hb r us h,h1]
 | .cell p T::r,vs,h=>by
  obtain⟨v,us,rfl,⟨a,ha,hl⟩,h⟩:=h;have h2:(qd tmps (.cell p T)).run P w=.ok v w:=by
   have h1:tmps.getD p undef=.pointer (some a):=(he p).trans ha;simp only[qd,Sem.run_bind,Sem.run_pure,Result.andThen_ok,h1,asAddr,hl w hs hb]
  simp only[List.mapM_cons,Sem.run_bind,Sem.run_pure,Result.andThen_ok,KF.run he hs hb r us h,h2]
theorem KF.results {P:Program}{e:Env}{bx:Bx}{σ:Hp}{fn:Func}{rs:List ResultVar}{vs:List Value}(hr:fn.results=rs.toArray)(h:KF P e bx σ rs vs)(a:Act)(w:World)
  (he:∀t,a.tmps.getD t undef=e t) (hs:Sat σ w) (hb:LH bx w):(results fn a.tmps).run P w=.ok (WB vs) w:=by
 have h1:=KF.run he hs hb _ _ h;have h2:Go.results fn a.tmps=(do let vs ←fn.results.mapM (qd a.tmps);pure (if h:vs.size=1 then vs[0] else .tuple vs)):=rfl;rw[h2,hr];simp only[List.mapM_toArray,Sem.run_bind,Sem.run_map,h1,Result.andThen_ok];cases vs with
 | nil=>rfl
 | cons v vs=>cases vs<;>rfl
theorem ABU {P:Program}{bx:Bx}{σ:Hp}{T:TypeId}{b o:Nat}{c:Array Value}{t:TypeId}{fr:Nat×Nat}{v:Value}(hA:∀w,(isAgg T).run P w=.ok false w)(hb:(b,Obj.cells c t fr)∈bx)(h:c[o]?=some v):
  ∀w,Sat σ w→LH bx w→(loadVar T ⟨b,o,none⟩).run P w=.ok v w:=fun w _ hs=>by
 simp[loadVar,hA,load,Sem.run,hs.cell hb,h]
theorem uT {P:Program}{bx:Bx}{σ:Hp}{T:TypeId}{b n:Nat}{c:Array Value}{t:TypeId}{fr:Nat×Nat}(hA:∀w,(isAgg T).run P w=.ok true w)(hs:∀w,((Go.sizeOf T).run P w)=.ok n w)(hn:c.size=n)(hb:(b,Obj.cells c t fr)∈bx):
  ∀w,Sat σ w→LH bx w→(loadVar T ⟨b,0,none⟩).run P w=.ok (.agg c) w:=fun w _ uQ=>by
 subst hn;have:=run_loadCells_list (P:=P) (w:=w) ⟨b,0,none⟩ c.toList (fun j v hj=>by
  rw[show(⟨b,0,none⟩:Addr).add j=⟨b,0+j,none⟩ from DH _ _ _,uQ.cell hb];simpa using hj)
 simp at this;simp[loadVar,hA,hs,this]
theorem Di {P:Program}{bx:Bx}{σ:Hp}{T:TypeId}{a:Addr}{v:Value}(hA:∀w,(isAgg T).run P w=.ok false w)(h:σ.ld a=some v):∀w,Sat σ w→LH bx w→(loadVar T a).run P w=.ok v w:=fun w hs _=>by
 simp[loadVar,hA,load,Sem.run,hs.ld h]
section ends
variable {g:Gl}{k:List Item}{e:Env}{bx:Bx}{σ:Hp}
theorem At.bY {c:Code}{fn:Func}{rs:List ResultVar}{vs:List Value}(hc:c=Code.ret)(hf:g.P.funcs[g.f]?=some fn)(hr:fn.results=rs.toArray)(h:KF g.P e bx (left g.ds σ) rs vs)(hR:g.R (.returned (WB vs)) (left g.ds σ))
  (ZI:g.JY=none:=by rfl) (hm:Marks g.ds σ:=by trivial):At g (.code c::k) e bx σ:=
 At.ret hc hf (fun a w he hs hb=>h.results hr a w he hs hb) hR ZI hm
theorem At.ALn {fn:Func}{rs:List ResultVar}{vs:List Value}(hf:g.P.funcs[g.f]?=some fn)(hr:fn.results=rs.toArray)(h:KF g.P e bx (left g.ds σ) rs vs)(hR:g.R (.returned (WB vs)) (left g.ds σ))
  (ZI:g.JY=none:=by rfl) (hm:Marks g.ds σ:=by trivial):At g [] e bx σ:=
 At.done hf (fun a w he hs hb=>h.results hr a w he hs hb) hR ZI hm
end ends
end Tw
end
section
namespace Tw
open Go
variable [G9]
def cl:Code→Code
 | .seq a _=>a | .cond _ a _=>a | .block _ a=>a | .loop a=>a | .scope a=>a | .rangeFunc _ _ a _=>a | c=>c
def cr:Code→Code
 | .seq _ b=>b | .cond _ _ b=>b | .rangeFunc _ _ _ b=>b | c=>c
def cO:Code→Array Oper
 | .region _ ops _=>ops | _=>#[]
def PD (P:Program)(t:TypeId)(f:Nat):Field:=
 match P.underlying t with
 | some (.struct fs)=>fs.getD f default
 | _=>default
theorem nt {b:Bool}(h:(!b)=true):b=false:=by simpa using h
theorem nf {b:Bool}(h:(!b)=false):b=true:=by simpa using h
def Ext (σ σ':Hp):Prop:=∀b o,σ b=some o→σ' b=some o
theorem Ext.refl (σ:Hp):Ext σ σ:=fun _ _ h=>h
theorem Ext.trans {σ σ' ALo:Hp}(h:Ext σ σ')(h':Ext σ' ALo):Ext σ ALo:=fun b o hb=>h' b o (h b o hb)
theorem Ext.set {σ:Hp}{b:Nat}{o:Obj}(h:σ b=none):Ext σ (σ.set b o):=fun c o' hc=>by
 have:c≠b:=fun e=>by rw[e,h]at hc;cases hc
 rw[Hp.AM this];exact hc
theorem Ext.ld {σ σ':Hp}(h:Ext σ σ'){a:Addr}{v:Value}(hl:σ.ld a=some v):σ'.ld a=some v:=by
 unfold Hp.ld at *;cases hb:σ a.block with
 | none=>simp[hb]at hl
 | some o=>rw[h _ _ hb];rw[hb]at hl;exact hl
theorem At.ofL {g:Gl}{k:List Item}{e:Env}{bx:Bx}{σ:Hp}{l:List (Nat×Value)}(hl:Live e l)(h:∀J,At g k (NS J l) bx σ):At g k e bx σ:=At.live hl (h e)
def Kp (L:List Nat)(σ σ':Hp):Prop:=∀b∈L,∀o,σ b=some o→σ' b=some o
theorem Kp.Hs {L:List Nat}{σ σ':Hp}(h:Ext σ σ'):Kp L σ σ':=fun b _ o hb=>h b o hb
theorem Kp.nil {σ σ':Hp}:Kp [] σ σ':=fun b hb=>by cases hb
theorem fG {L:List (Nat×List Nat)}{σ σ':Hp}(h:Kp (L.map Prod.fst) σ σ'):∀x∈L,∀o,σ x.1=some o→σ' x.1=some o:=fun x hx o ho=>h x.1 (List.mem_map.2 ⟨x,hx,rfl⟩) o ho
theorem Kf {b o:Nat}{s:Option Nat}{L:List (Nat×List Nat)}{Ds:List (List Nat)}{σ:Hp}{v:Value}(h:σ.ld ⟨b,o,s⟩=some v):(S1 (some L) (some (b,Ds)) σ).ld ⟨b,o,s⟩=some v:=by
 unfold Hp.ld at *;simpa[S1] using h
theorem Spec.cont {P:Program}{f:FuncId}{args:Array Value}{σ:Hp}{R:Rr}{Φ Ψ:Value→Hp→Prop}(h:Spec P f args σ (BB R Φ))(hh:∀v σ',Φ v σ'→Ψ v σ'):
  Spec P f args σ (BB R Ψ):=h.mono fun e σ' he=>by
 cases e with
 | returned v=>exact hh v σ' he
 | panicked ch=>exact he
 | outgrown=>exact he
def YF (P:Program)(m:Sem Value)(σ:Hp)(v:Value):Prop:=∀w,Sat σ w→m.run P w=.ok v w
theorem Yd.any {P:Program}{e:Env}{bx:Bx}{σ:Hp}{op:Op}{ty:TypeId}{v:Value}{m:Sem Value}(hm:∀o:Oper,o.op=op→o.type=ty→execOp (AD e) o=(do pure (Next.value (←m))))(hy:YF P m σ v):Yd P e bx σ op ty v:=
 Yd.of m hm (fun w hs _=>hy w hs)
def MK (p:Option Addr)(l c s:Nat):Option Addr:=if c=l then p else p.map (·.add (l*s))
section
variable {P:Program}{e:Env}{bx:Bx}{σ:Hp}{ty T E:TypeId}{x y z:Operand}{k k':IntKind}{l h:Int}{p:Option Addr}{n c s:Nat}
theorem KG (hT:P.underlying T=some (.slice E)):P.elem T=E:=by simp[Program.elem,hT]
theorem Y.sla (hT:P.underlying T=some (.slice E))(hs:∀w,((Go.sizeOf E).run P w)=.ok s w)(hx:AD e x=.slice p n c)(_:True):Yd P e bx σ (.slice T x none none none) ty (.slice p n c):=fun oo ho _ w _ _=>by
 have kU:P.underlying T=some (.slice (P.elem T)):=by rw[KG hT];exact hT
 have h1:=run_sliceAt_slice (P:=P) (w:=w) T (.slice p n c) none none none kU;have h2:=run_slice_all (P:=P) (w:=w) T p n c kU;simp[execOp,ho,hx,h1,h2,hs,KG hT,sliced];cases p<;>simp[Addr.add]
theorem Y.slh (hT:P.underlying T=some (.slice E))(hs:∀w,((Go.sizeOf E).run P w)=.ok s w)(hx:AD e x=.slice p n c)(hz:AD e z=.int k h)(hh:0≤h∧h≤c):Yd P e bx σ (.slice T x none (some z) none) ty (.slice p h.toNat c):=fun oo ho _ w _ _=>by
 have kU:P.underlying T=some (.slice (P.elem T)):=by rw[KG hT];exact hT
 have h1:=run_sliceAt_slice (P:=P) (w:=w) T (.slice p n c) none (some (.int k h)) none kU;have h2:=run_slice_h (P:=P) (w:=w) T p n c kU k h hh.1 hh.2;simp[execOp,ho,hx,hz,h1,h2,hs,KG hT,sliced];cases p<;>simp[Addr.add]
theorem Y.sll (hT:P.underlying T=some (.slice E))(hs:∀w,((Go.sizeOf E).run P w)=.ok s w)(hx:AD e x=.slice p n c)(hy:AD e y=.int k l)(hh:0≤l∧l≤n):Yd P e bx σ (.slice T x (some y) none none) ty (.slice (MK p l.toNat c s) (n-l.toNat) (c-l.toNat)):=fun oo ho _ w _ _=>by
 have kU:P.underlying T=some (.slice (P.elem T)):=by rw[KG hT];exact hT
 have h1:=run_sliceAt_slice (P:=P) (w:=w) T (.slice p n c) (some (.int k l)) none none kU;have h2:=run_slice_l (P:=P) (w:=w) T p n c kU k l hh.1 hh.2;simp[execOp,ho,hx,hy,h1,h2,hs,KG hT,sliced,MK]
theorem Y.ALp (hT:P.underlying T=some (.slice E))(hs:∀w,((Go.sizeOf E).run P w)=.ok s w)(hx:AD e x=.slice p n c)(hy:AD e y=.int k l)(hz:AD e z=.int k' h)(hh:0≤l∧l≤h∧h≤c):
  Yd P e bx σ (.slice T x (some y) (some z) none) ty (.slice (MK p l.toNat c s) (h.toNat-l.toNat) (c-l.toNat)):=fun oo ho _ w _ _=>by
 have kU:P.underlying T=some (.slice (P.elem T)):=by rw[KG hT];exact hT
 have h1:=run_sliceAt_slice (P:=P) (w:=w) T (.slice p n c) (some (.int k l)) (some (.int k' h)) none kU;have h2:=run_slice_lh (P:=P) (w:=w) T p n c kU k k' l h hh.1 hh.2.1 hh.2.2;simp[execOp,ho,hx,hy,hz,h1,h2,hs,KG hT,sliced,MK]
theorem fH (p:Option Addr)(c s:Nat):MK p 0 c s=p:=by unfold MK;cases p<;>simp[Addr.add]
theorem Y.ALq (hT:P.underlying T=some (.slice E))(hs:∀w,((Go.sizeOf E).run P w)=.ok s w)(hx:AD e x=.slice p n c)(hy:AD e y=.int k 0)(hz:AD e z=.int k' h)(hh:(0:Int)≤0∧0≤h∧h≤c):
  Yd P e bx σ (.slice T x (some y) (some z) none) ty (.slice p h.toNat c):=by
 have:=Y.ALp (P:=P) (bx:=bx) (σ:=σ) (ty:=ty) hT hs hx hy hz hh;simpa[fH] using this
theorem Y.AVT (hT:P.underlying T=some (.slice E))(hs:∀w,((Go.sizeOf E).run P w)=.ok s w)(hx:AD e x=.slice p n c)(hy:AD e y=.int k 0)(hh:(0:Int)≤0∧(0:Int)≤n):
  Yd P e bx σ (.slice T x (some y) none none) ty (.slice p n c):=by
 have:=Y.sll (P:=P) (bx:=bx) (σ:=σ) (ty:=ty) hT hs hx hy hh;simpa[fH] using this
theorem Y.AVU {a b:Bool}(hT:P.underlying T=some .bool)(hx:AD e x=.bool a)(hy:AD e y=.bool b){T':TypeId}:Yd P e bx σ (.binOp .eql T x y T') ty (.bool (a==b)):=fun oo ho _ w _ _=>by
 simp[execOp,ho,hx,hy,eqGuard_at_bool,run_eql_bool w T a b hT]
theorem Y.AVV {a b:Bool}(hT:P.underlying T=some .bool)(hx:AD e x=.bool a)(hy:AD e y=.bool b){T':TypeId}:Yd P e bx σ (.binOp .neq T x y T') ty (.bool (!(a==b))):=fun oo ho _ w _ _=>by
 simp[execOp,ho,hx,hy,eqGuard_at_bool,run_neq_bool w T a b hT]
theorem Y.AVW {a b:ByteArray}(hT:P.underlying T=some .string)(hx:AD e x=.string a)(hy:AD e y=.string b){T':TypeId}:Yd P e bx σ (.binOp .eql T x y T') ty (.bool (a.toList==b.toList)):=fun oo ho _ w _ _=>by
 have _:=hT;have h1:(binOp .eql T (.string a) (.string b)).run P w=.ok (.bool (a.toList==b.toList)) w:=by simp[binOp,Op.stringOp]
 simp[execOp,ho,hx,hy,eqGuard_at_string,h1]
theorem Y.AVX {a b:ByteArray}(hT:P.underlying T=some .string)(hx:AD e x=.string a)(hy:AD e y=.string b){T':TypeId}:Yd P e bx σ (.binOp .neq T x y T') ty (.bool (!(a.toList==b.toList))):=fun oo ho _ w _ _=>by
 have _:=hT;have h1:(binOp .neq T (.string a) (.string b)).run P w=.ok (.bool (!(a.toList==b.toList))) w:=by simp[binOp,Op.stringOp]
 simp[execOp,ho,hx,hy,eqGuard_at_string,h1]
theorem Y.uU {q:Option Addr}{E:TypeId}(hT:P.underlying T=some (.pointer E))(hx:AD e x=.pointer q)(hy:AD e y=.pointer none){T':TypeId}:Yd P e bx σ (.binOp .eql T x y T') ty (.bool q.isNone):=fun oo ho _ w _ _=>by
 have kU:P.underlying T=some (.pointer (P.pointee T)):=by rw[show P.pointee T=E by simp[Program.pointee,hT]];exact hT
 have h1:=run_eql_pointer_nil w T q kU;simp[execOp,ho,hx,hy,eqGuard_at_pointer,h1]
theorem Y.uV {q:Option Addr}{E:TypeId}(hT:P.underlying T=some (.pointer E))(hx:AD e x=.pointer q)(hy:AD e y=.pointer none){T':TypeId}:Yd P e bx σ (.binOp .neq T x y T') ty (.bool q.isSome):=fun oo ho _ w _ _=>by
 have kU:P.underlying T=some (.pointer (P.pointee T)):=by rw[show P.pointee T=E by simp[Program.pointee,hT]];exact hT
 have h1:=run_neq_pointer_nil w T q kU;simp[execOp,ho,hx,hy,eqGuard_at_pointer,h1]
section
variable {u v:Value}{ts:Array TypeId}
theorem IH (hx:AD e x=u)(hy:AD e y=v)(o:Oper)(ho:o.op=.call { callee:=.builtin .append,args:=#[x,y],argTypes:=ts })(ht:o.type=ty):execOp (AD e) o=(do pure (.value (←Builtin.append_ ts ty #[u,v]))):=by
 subst ht;simp[execOp,ho,resolve,invoke,builtin,hx,hy]
theorem fI (hx:AD e x=u)(hy:AD e y=v)(o:Oper)(ho:o.op=.call { callee:=.builtin .copy,args:=#[x,y],argTypes:=ts })(ht:o.type=ty):execOp (AD e) o=(do pure (.value (←Builtin.copy_ ts ty #[u,v]))):=by
 subst ht;simp[execOp,ho,resolve,invoke,builtin,hx,hy]
theorem ZK (hx:AD e x=u)(hy:AD e y=v)(o:Oper)(ho:o.op=.call { callee:=.builtin .delete,args:=#[x,y],argTypes:=ts })(ht:o.type=ty):execOp (AD e) o=(do pure (.value (←Builtin.delete_ ts ty #[u,v]))):=by
 subst ht;simp[execOp,ho,resolve,invoke,builtin,hx,hy]
theorem bZ (hx:AD e x=u)(o:Oper)(ho:o.op=.call { callee:=.builtin .clear,args:=#[x],argTypes:=ts })(ht:o.type=ty):execOp (AD e) o=(do pure (.value (←Builtin.clear_ ts ty #[u]))):=by
 subst ht;simp[execOp,ho,resolve,invoke,builtin,hx]
end
def Program.ML (P:Program)(E:TypeId)(m:Nat)(vs:List (Nat×Value)):Option (Array Value):=
 match P.info? E with
 | some i=>match i.zero with
  | some z=>if m*i.size > 2^24 then none else Instr.fill (fun j=>some (j*i.size,i.size)) ((Array.range (m*i.size)).map (z.cells[·%z.cells.size]!)) vs
  | none=>none
 | none=>none
theorem WC {m:Nat}{vs:List (Nat×Value)}{cs:Array Value}(hT:P.underlying T=some (.slice E))(hc:Program.ML P E m vs=some cs)(ps:Array (Nat×Value))(hp:ps.toList=vs)(w:World):
  (Instr.buildSlice T m ps).run P w=.ok (.slice (some ⟨w.heap.size,0,none⟩) m m) { w with heap:=w.heap.push (.cells cs E (0,0)) }:=by
 unfold Program.ML at hc;cases hi:P.info? E with
 | none=>simp[hi]at hc
 | some i=>
  cases hz:i.zero with
  | none=>simp[hi,hz]at hc
  | some z=>
   simp only[hi,hz]at hc;by_cases hm:m*i.size > 2^24
   ·simp[hm]at hc
   ·simp only[hm,if_false]at hc;subst hp;by_cases h0:m*i.size=0
    ·rw[h0]at hc;have:(Array.range 0).map (fun x=>z.cells[x%z.cells.size]!)=#[]:=by simp
     rw[this]at hc;have h2:Array.map (fun _=>(default:Value)) (Array.range 0)=#[]:=by simp
     simp[Instr.buildSlice,run_underlying hT,Go.sizeOf,typeInfo,hi,h0,h2,hc,newRow,newObj,Sem.run]
    ·simp[Instr.buildSlice,run_underlying hT,Go.sizeOf,typeInfo,zeroValue,hi,hz,hm,h0,hc,newRow,newObj,Sem.run]
end
theorem AP.ML {g:Gl}{ops:Array Oper}{i:Nat}{e:Env}{bx:Bx}{σ:Hp}{K:Env→Bx→Hp→Prop}{d:Option Nat}{ty T E:TypeId}{m:Nat}{ps:Array (Nat×Operand)}{vs:List (Nat×Value)}{cs:Array Value}(hT:g.P.underlying T=some (.slice E))
  {gd:Option (Nat×Bool)} (hs:sig ops i=some (d,.buildSlice T m ps,ty,gd)) (hw:AY ops e gd=true) (hd:J1 d g.n=true) (hv:ps.toList.map (fun p=>(p.1,AD e p.2))=vs) (hc:Program.ML g.P E m vs=some cs)
  (h:∀b,σ b=none→K (put e d (.slice (some ⟨b,0,none⟩) m m)) bx (σ.set b (.cells cs E (0,0)))):AP g ops i e bx σ K:=by
 intro w0 F a w st;obtain⟨o,ho,rfl,A6,DJ,hg⟩:=DD hs;refine Dk ho (by rw[st.wanted,hg];exact hw) ?_;rw[st.eval];have hh:(ps.map fun(i,x)=>(i,AD e x)).toList=vs:=by rw[←hv];simp
 have:=WC hT hc (ps.map fun(i,x)=>(i,AD e x)) hh w;have:(execOp (AD e) o).run g.P w=.ok (.value (.slice (some ⟨w.heap.size,0,none⟩) m m)) { w with heap:=w.heap.push (.cells cs E (0,0)) }:=by
  simp only[execOp,A6,Sem.run_bind,this,Result.andThen_ok];rfl
 rw[E6 this (fun d=>by simp)];have RJ:=st.grown (.cells cs E (0,0));exact⟨_,_,_,RJ.open.put _ _ (J1.lt hd),h _ (RJ.free _ (Aih ..)).1⟩
def Enters (P:Program)(f:FuncId):Prop:=∀args w,(callFunc f args).run P w=.ok (.enter f args) w
theorem AP.ALr {g:Gl}{ops:Array Oper}{i:Nat}{e:Env}{bx:Bx}{σ:Hp}{K:Env→Bx→Hp→Prop}{d:Option Nat}{ty:TypeId}{gd:Option (Nat×Bool)}{x:Operand}{xs:Array Operand}{ts:Array TypeId}
  {f:FuncId} {fst cap vs:Array Value} {u:Value} (hs:sig ops i=some (d,.call { callee:=.value x,args:=xs,argTypes:=ts },ty,gd)) (hw:AY ops e gd=true) (hd:J1 d g.n=true)
  (hx:AD e x=u) (M6:xs.toList.map (AD e)=vs.toList) (hu:u=.func (.func f) fst cap) (Ut:Enters g.P f)
  (h:Spec g.P f (fst++vs++cap) σ (BB g.R fun v σ'=>K (put e d v) bx σ')):AP g ops i e bx σ K:=
 AP.call hs hw hd (fun o ho _ w=>S5 Ut (hx.trans hu) M6 rfl o ho w) h
def YN (P:Program)(f:FuncId)(args:Array Value)(σ:Hp)(v:Value):Prop:=∀w,Sat σ w→(callFunc f args).run P w=.ok (.value v) w
end Tw
end
section
namespace Tw
open Go
variable [G9]
theorem AK.pu {P:Program}{α:Type}{m:Sem α}{σ:Hp}{Φ:α→Hp→Prop}{v:α}(hm:∀w,Sat σ w→m.run P w=.ok v w)(h:Φ v σ):AK P m σ Φ:=fun w _ hs hF=>
 ⟨v,w,σ,hm w hs,h,hs,fun b hb=>⟨(hF b hb).2,rfl⟩,.same rfl rfl rfl,rfl,AiV _⟩
def Hp.del (σ:Hp)(p:Option Addr):Hp:=fun k=>match p with
 | some a=>if k=a.block then none else σ k
 | none=>σ k
def Hp.new (σ σ':Hp):Hp:=fun k=>match σ k with
 | none=>σ' k
 | some _=>none
theorem Ext.del {σ σ':Hp}(h:Ext σ σ')(p:Option Addr):Ext (σ.del p) (σ'.del p):=fun k o hk=>by
 cases p with
 | none=>exact h k o hk
 | some a=>simp only[Hp.del]at hk ⊢;split at hk<;>simp_all [h k o]
theorem Ext.Jb (σ:Hp)(p:Option Addr):Ext (σ.del p) σ:=fun k o hk=>by
 cases p with
 | none=>exact hk
 | some a=>simp only[Hp.del]at hk;split at hk<;>simp_all
theorem Ext.B9 (σ σ':Hp):Ext (σ.new σ') σ':=fun k o hk=>by
 simp only[Hp.new]at hk;split at hk<;>simp_all
theorem Ext.ABV {σ σ':Hp}{p:Option Addr}(hp:∀a,p=some a→σ a.block≠none):Ext (σ.new σ') (σ'.del p):=fun k o hk=>by
 cases p with
 | none=>exact Ext.B9 σ σ' k o hk
 | some a=>
  have h1:=hp a rfl;have h2:=Ext.B9 σ σ' k o hk;simp only[Hp.del];split
  ·rename_i h;subst h;simp only[Hp.new]at hk;split at hk<;>simp_all
  ·exact h2
theorem Ext.Jc {σ σ1 σ2:Hp}(h:Ext σ1 σ2):Ext (σ.new σ1) (σ.new σ2):=fun k o hk=>by
 simp only[Hp.new]at hk ⊢;split at hk<;>simp_all [h k o]
theorem Ext.Eg {σ σ1 σ2:Hp}(h:Ext σ σ1):Ext (σ1.new σ2) (σ.new σ2):=fun k o hk=>by
 simp only[Hp.new]at hk ⊢;split at hk
 ·rename_i hn;cases hs:σ k with
  | none=>exact hk
  | some o'=>rw[h k o' hs]at hn;cases hn
 ·cases hk
def G6 (s:Nat)(σ:Hp)(p:Option Addr)(n:Nat)(cs:List Value):Prop:=
 cs.length=n*s∧n≤4611686018427387904∧(n=0∨∃b o,p=some ⟨b,o,none⟩∧Ae σ b o cs)
theorem Ae.mono {σ σ':Hp}(h:Ext σ σ'){b:Nat}:∀{l:List Value} {o:Nat},Ae σ b o l→Ae σ' b o l
 | [],_,_=>trivial
 | _::_,_,hl=>⟨h.ld hl.1,Ae.mono h hl.2⟩
theorem G6.mono {s:Nat}{σ σ':Hp}(h:Ext σ σ'){p:Option Addr}{n:Nat}{cs:List Value}(hr:G6 s σ p n cs):G6 s σ' p n cs:=
 ⟨hr.1,hr.2.1,hr.2.2.imp id fun⟨b,o,hp,hl⟩=>⟨b,o,hp,hl.mono h⟩⟩
theorem Ae.of {σ:Hp}{b:Nat}:∀{l:List Value} {o:Nat},(∀j v,l[j]?=some v→σ.ld ⟨b,o+j,none⟩=some v)→Ae σ b o l
 | [],_,_=>trivial
 | v::l,o,h=>⟨by simpa using h 0 v rfl,Ae.of fun j u hj=>by have:=h (j+1) u (by simpa using hj);rwa[show o+(j+1)=o+1+j by omega]at this⟩
theorem Ae.part {σ:Hp}{b o i m:Nat}{l:List Value}(h:Ae σ b o l):Ae σ b (o+i) ((l.drop i).take m):=Ae.of fun j v hj=>by
 have Zz:l[i+j]?=some v:=by
  rw[Ail]at hj;split at hj
  ·simpa using hj
  ·cases hj
 have:=h.get Zz;rwa[show o+i+j=o+(i+j) by omega]
def Ch {α:Type}(s:Nat)(E:Hp→List Value→α→Prop)(σ:Hp)(cs:List Value)(xs:List α):Prop:=
 cs.length=xs.length*s∧∀i x,xs[i]?=some x→E σ ((cs.drop (i*s)).take s) x
def AT {α:Type}(s:Nat)(E:Hp→List Value→α→Prop)(σ:Hp)(p:Option Addr)(n:Nat)(xs:List α):Prop:=
 xs.length=n∧∃cs,G6 s σ p n cs∧Ch s E σ cs xs
def Ht {α:Type}(E:Hp→List Value→α→Prop):Prop:=∀σ σ' vs x,Ext σ σ'→E σ vs x→E σ' vs x
theorem Ch.mono {α:Type}{s:Nat}{E:Hp→List Value→α→Prop}(hE:Ht E){σ σ':Hp}(h:Ext σ σ'){cs:List Value}{xs:List α}(hc:Ch s E σ cs xs):Ch s E σ' cs xs:=
 ⟨hc.1,fun i x hx=>hE _ _ _ _ h (hc.2 i x hx)⟩
theorem AT.mono {α:Type}{s:Nat}{E:Hp→List Value→α→Prop}(hE:Ht E){σ σ':Hp}(h:Ext σ σ'){p:Option Addr}{n:Nat}{xs:List α}(hr:AT s E σ p n xs):AT s E σ' p n xs:=
 let ⟨h1,cs,h2,h3⟩:=hr;⟨h1,cs,h2.mono h,h3.mono hE h⟩
theorem AT.nil {α:Type}{s:Nat}{E:Hp→List Value→α→Prop}{σ:Hp}{p:Option Addr}:AT s E σ p 0 []:=⟨rfl,[],⟨by simp,by omega,.inl rfl⟩,by simp[Ch]⟩
theorem AT.idx {α:Type}{s:Nat}{E:Hp→List Value→α→Prop}{σ:Hp}{p:Option Addr}{n i:Nat}{xs:List α}{x:α}(hr:AT s E σ p n xs)(hx:xs[i]?=some x):
  ∃b o vs,p=some ⟨b,o,none⟩∧E σ vs x∧Ae σ b (o+i*s) vs:=by
 obtain⟨h1,cs,⟨hl,_,h2⟩,h3⟩:=hr;have hi:i<n:=by rw[←h1];exact(List.getElem?_eq_some_iff.1 hx).1
 rcases h2 with h2|⟨b,o,hp,CF⟩
 ·omega
 ·exact⟨b,o,_,hp,h3.2 i x hx,CF.part⟩
theorem AT.big {α:Type}{s:Nat}{E:Hp→List Value→α→Prop}{σ:Hp}{p:Option Addr}{n:Nat}{xs:List α}(hr:AT s E σ p n xs):n≤4611686018427387904:=by
 obtain⟨_,cs,⟨_,h,_⟩,_⟩:=hr;exact h
theorem AT.ex {α:Type}{s:Nat}{E:Hp→List Value→α→Prop}{σ:Hp}{p:Option Addr}{n k:Nat}{xs:List α}(hr:AT s E σ p n xs)(hk:k<n):∃y,xs[k]?=some y:=
 ⟨_,AiN (by rw[hr.1];exact hk)⟩
theorem AJ {k n:Nat}(h:k<n)(hn:n≤4611686018427387904):AG ((k:Int)+1):=by unfold AG;omega
theorem AQ {α:Type}{xs:List α}{k:Nat}{y:α}(hy:xs[k]?=some y):xs.take (k+1)=xs.take k++[y]:=by
 rw[List.take_add_one,hy];rfl
theorem ZL {α:Type}{xs:List α}{k:Nat}{x y:α}(hy:xs[k]?=some y):x∈xs.take (k+1)↔x∈xs.take k∨x=y:=by
 rw[AQ hy,List.mem_append,AiY]
def MM (k:IntKind)(_:Hp)(vs:List Value)(x:Int):Prop:=vs=[.int k x]
theorem MM.mono (k:IntKind):Ht (MM k):=fun _ _ _ _ _ h=>h
abbrev EP (k:IntKind):= AT 1 (MM k)
theorem EP.mono {k:IntKind}{σ σ':Hp}(h:Ext σ σ'){p:Option Addr}{n:Nat}{xs:List Int}(hr:EP k σ p n xs):EP k σ' p n xs:=AT.mono (MM.mono k) h hr
theorem EP.at {k:IntKind}{σ:Hp}{p:Option Addr}{n:Nat}{xs:List Int}(hr:EP k σ p n xs){i:Nat}{x:Int}(hx:xs[i]?=some x):
  ∃b o,p=some ⟨b,o,none⟩∧σ.ld ⟨b,o+i*1,none⟩=some (.int k x):=by
 obtain⟨b,o,vs,hp,rfl,hl⟩:=AT.idx hr hx;exact⟨b,o,hp,hl.1⟩
theorem kV {k:IntKind}{σ:Hp}{cs:List Value}{xs:List Int}:Ch 1 (MM k) σ cs xs↔cs=xs.map (.int k):=by
 constructor
 ·rintro⟨h1,h2⟩
  refine AjP fun i=>?_;rw[Ait];cases hx:xs[i]? with
  | none=>
   have:=List.getElem?_eq_none_iff.1 hx;simp only[Option.map_none];exact List.getElem?_eq_none_iff.2 (by omega)
  | some x=>
   have:=h2 i x hx;simp only[MM,AjX]at this;have h3:((cs.drop i).take 1)[0]?=some (.int k x):=by rw[this];rfl
   rw[Ail]at h3;simpa using h3
 ·rintro rfl
  refine⟨by simp,fun i x hx=>?_⟩;have Aq:=(List.getElem?_eq_some_iff.1 hx).1;have hg:=(List.getElem?_eq_some_iff.1 hx).2;simp only[MM,AjX];rw[AkU (by simpa using Aq)];simp[hg]
def Au (s:Nat)(σ:Hp)(p:Option Addr)(n c:Nat)(cs:List Value):Prop:=
 cs.length=n*s∧n≤4611686018427387904∧((p=none∧n=0∧c=0)∨∃b o arr T,p=some ⟨b,o,none⟩∧σ b=some (.cells arr T (0,0))∧n≤c∧o+c*s≤arr.size∧(arr.toList.drop o).take (n*s)=cs)
theorem Au.nil {s:Nat}{σ:Hp}:Au s σ none 0 0 []:=⟨by simp,by omega,.inl ⟨rfl,rfl,rfl⟩⟩
theorem Au.rd {s:Nat}{σ:Hp}{p:Option Addr}{n c:Nat}{cs:List Value}(h:Au s σ p n c cs):G6 s σ p n cs:=by
 obtain⟨h1,h0,h2⟩:=h;refine⟨h1,h0,?_⟩;rcases h2 with ⟨_,hn,_⟩|⟨b,o,arr,T,hp,hb,oC,J2,LK⟩
 ·exact .inl hn
 ·refine .inr ⟨b,o,hp,Ae.of fun j v hj=>?_⟩;rw[←LK,Ail]at hj;split at hj
  ·simp only[Hp.ld,hb];simpa using hj
  ·cases hj
theorem Au.mono {s:Nat}{σ σ':Hp}(h:Ext σ σ'){p:Option Addr}{n c:Nat}{cs:List Value}(ho:Au s σ p n c cs):Au s σ' p n c cs:=
 ⟨ho.1,ho.2.1,ho.2.2.imp id fun⟨b,o,arr,T,hp,hb,r⟩=>⟨b,o,arr,T,hp,h _ _ hb,r⟩⟩
theorem Au.block {s:Nat}{σ:Hp}{p:Option Addr}{n c:Nat}{cs:List Value}(ho:Au s σ p n c cs):∀a,p=some a→σ a.block≠none:=by
 intro a ha;rcases ho.2.2 with ⟨hp,_⟩|⟨b,o,arr,T,hp,hb,_⟩
 ·rw[hp]at ha;cases ha
 ·rw[hp]at ha;cases ha;rw[hb];simp
theorem Au.take {s:Nat}{σ:Hp}{p:Option Addr}{n c m:Nat}{cs:List Value}(ho:Au s σ p n c cs)(hm:m≤n):Au s σ p m c (cs.take (m*s)):=by
 obtain⟨h1,h0,h2⟩:=ho;have hle:m*s≤n*s:=Aiw s hm;refine⟨by rw[AiU,h1];omega,by omega,?_⟩;rcases h2 with ⟨hp,hn,hc⟩|⟨b,o,arr,T,hp,hb,oC,J2,LK⟩
 ·exact .inl ⟨hp,by omega,hc⟩
 ·exact .inr ⟨b,o,arr,T,hp,hb,by omega,J2,by rw[←LK,List.take_take,Ajg hle]⟩
class J6 (P:Program)(T:TypeId)(E:outParam TypeId)(s bs:outParam Nat):Prop where
 oD:P.underlying T=some (.slice E)
 info:∃i z,P.info? E=some i∧i.zero=some z∧i.size=s∧i.bytes=bs∧z.cells.size=s
 pos:0<s
 AVY:0<bs
def G7 (cs:List Value):Prop:=∀u∈cs,u.oneCell'=true
theorem G7.VZ {k:IntKind}{xs:List Int}:G7 (xs.map (.int k)):=fun u hu=>by
 obtain⟨x,_,rfl⟩:=List.mem_map.1 hu;rfl
section append
variable {P:Program}{T E ty:TypeId}{s bs:Nat}{σ:Hp}{p q:Option Addr}{n c m d:Nat}{cs ys:List Value}{Φ:Value→Hp→Prop}
theorem Z0 {w:World}(hs:Sat σ w){b o:Nat}(h:Ae σ b o ys):∀j v,ys[j]?=some v→w.cell? ((⟨b,o,none⟩:Addr).add j)=some v:=fun j v hj=>by
 rw[DH];exact hs.ld (h.get hj)
theorem PE (w:World)(hs:Sat σ w)(hr:G6 s σ q m ys):(Builtin.firstCells s m (.slice q m d)).run P w=.ok ys.toArray w:=by
 rcases hr.2.2 with hm|⟨b,o,rfl,hl⟩
 ·subst hm;have:ys=[]:=Ai0 (by simpa using hr.1);subst this;cases q<;>simp[Builtin.firstCells,loadCells,loadCellsFrom]
 ·exact run_firstCells_some (P:=P) w s m ⟨b,o,none⟩ m d ys hr.1 (Z0 hs hl)
theorem IW {w:World}(hs:Sat σ w):σ w.heap.size=none:=by
 cases h:σ w.heap.size with
 | none=>rfl
 | some o=>exact absurd (Array.getElem?_eq_some_iff.1 (hs _ _ h)).1 (Nat.lt_irrefl _)
theorem Fin.alloc {F:Nat→Prop}{w:World}{o:Obj}(hs:Sat σ w)(hF:∀b,F b→b<w.heap.size∧σ b=none)(w':World)(hw:w'.heap=w.heap.push o)(h1:Gh w w')(h2:w'.output=w.output):Fin (σ.set w.heap.size o) F w w':=by
 refine⟨fun k u hk=>?_,fun b hb=>?_,h1,h2,by rw[hw];simp⟩
 ·rw[hw];by_cases h:k=w.heap.size
  ·subst h;rw[Hp.AA]at hk;cases hk;simp
  ·rw[Hp.AM h]at hk;have:=hs k u hk;have Aq:=(Array.getElem?_eq_some_iff.1 this).1;rw[AkT,AiK h];exact this
 ·have:=(hF b hb).1;refine⟨by rw[Hp.AM (by omega)];exact(hF b hb).2,?_⟩;rw[hw,AkT,AiK (by omega)]
theorem Hp.MN {b:Nat}{o:Obj}{a:Nat}{sp:Option Nat}(h:σ b=none):(σ.set b o).del (some ⟨b,a,sp⟩)=σ:=by
 funext k
 simp only[Hp.del,Hp.set];by_cases hk:k=b
 ·subst hk;simp[h]
 ·simp[hk]
theorem Hp.JF {b:Nat}{o:Obj}{a:Nat}{sp:Option Nat}:(σ.set b o).del (some ⟨b,a,sp⟩)=σ.del (some ⟨b,a,sp⟩):=by
 funext k
 simp only[Hp.del,Hp.set];by_cases hk:k=b<;>simp[hk]
theorem WD [h:J6 P T E s bs](DB:Au s σ p n c cs)(hy:G6 s σ q m ys)(h1:G7 ys)(hb:(n+m)*bs≤140737488355328)
  (hΦ:∀p' c' σ',Au s σ' p' (n+m) c' (cs++ys)→Ext (σ.del p) (σ'.del p')→((p'=p∧c'=c∧n+m≤c)∨(c<n+m∧Ext σ σ'∧∀a,p'=some a→σ a.block=none))→Φ (.slice p' (n+m) c') σ') :
  AK P (Builtin.append_ #[T,T] ty #[.slice p n c,.slice q m d]) σ Φ:=by
 obtain⟨ht,⟨i,z,hi,hz,rfl,rfl,hzs⟩,WE,uW⟩:=h;have h62:n+m≤140737488355328:=Aiy (Nat.le_mul_of_pos_right _ uW) hb;intro w F hs hF;have hf:=PE (P:=P) (d:=d) w hs hy;have tc:=fun w' (hw:Sat σ w')=>PE (P:=P) (d:=d) w' hw hy;have Sj:=fun w' (hw:Sat σ w')=>PE (P:=P) (d:=c) w' hw DB.rd;have hlen:(cs++ys).length=(n+m)*i.size:=by rw[Aid,DB.1,hy.1,AjM]
 by_cases KH:n+m≤c
 ·
  rcases DB.2.2 with ⟨hp,hn,hc⟩|⟨b,o,arr,T',rfl,hblk,oC,J2,LK⟩
  ·subst hp hn hc;have hm:m=0:=by omega
   subst hm;have hys:ys=[]:=Ai0 (by simpa using hy.1);have LK:cs=[]:=Ai0 (by simpa using DB.1);subst hys LK;refine⟨.slice none 0 0,w,σ,?_,hΦ none 0 σ Au.nil (Ext.refl _) (.inl ⟨rfl,rfl,KH⟩),hs,fun b hb=>⟨(hF b hb).2,rfl⟩,.same rfl rfl rfl,rfl,AiV _⟩;simp[Builtin.append_,run_underlying ht,Go.sizeOf,typeInfo,hi,Builtin.lenOf,hf]
  ·have hw:=hs _ _ hblk;have AHC:o+n*i.size+0+ys.length≤arr.size:=by
    rw[hy.1];have:(n+m)*i.size≤c*i.size:=Aiw _ KH;rw[AjM]at this;omega
   have E2:=HB (P:=P) b (o+n*i.size) T' ys 0 arr w hw AHC h1;simp only[AjH]at E2;refine⟨.slice (some ⟨b,o,none⟩) (n+m) c,w.setRow b (Qp arr (o+n*i.size) ys),σ.set b (.cells (Qp arr (o+n*i.size) ys) T' (0,0)),?_,hΦ _ _ _ ⟨hlen,by omega,.inr ⟨b,o,_,T',rfl,Hp.AA _ _ _,KH,by rw[IV];exact J2,?_⟩⟩ (by rw[Hp.JF];exact Ext.refl _) (.inl ⟨rfl,rfl,KH⟩),?_⟩
   ·simp[Builtin.append_,run_underlying ht,Go.sizeOf,typeInfo,hi,Builtin.lenOf,KH,hf,DH,E2]
   ·refine AjP fun j=>?_;rw[Ail];simp only[Ain,AjJ];rw[VY _ _ _ _ (by omega),AjD];have e1:cs.length=n*i.size:=DB.1;have e2:ys.length=m*i.size:=hy.1;have e3:(n+m)*i.size=n*i.size+m*i.size:=AjM ..;by_cases j3:j<cs.length
    ·rw[AiL (by omega),AiK (by omega),AiL j3,←LK,Ail,AiL (by omega)];simp
    ·rw[AiK j3];by_cases hj2:j<(n+m)*i.size
     ·rw[AiL hj2,AiL (by omega),show o+j-(o+n*i.size)=j-cs.length by omega]
     ·rw[AiK hj2,Ajk (by omega)]
   ·refine⟨fun k u hk=>?_,fun k hk=>?_,.same rfl rfl rfl,rfl,by simp⟩
    ·by_cases J3:k=b
     ·subst J3;rw[Hp.AA]at hk;cases hk;exact setRow_heap w k arr _ T' (0,0) hw
     ·rw[Hp.AM J3]at hk;rw[setRow_other _ _ _ _ J3];exact hs k u hk
    ·have J3:k≠b:=fun h=>by have:=(hF k hk).2;rw[h,hblk]at this;cases this
     exact⟨by rw[Hp.AM J3];exact(hF k hk).2,setRow_other _ _ _ _ J3⟩
 ·
  have ALt:Builtin.nextslicecap (n+m) c*i.bytes≤281474976710656:=growslice_fits (by omega) hb;have hgc:=grownCap_ge w (n+m) c E;have Va:Sat σ w.drew:=hs;have Bz:(Builtin.append_ #[T,T] ty #[.slice p n c,.slice q m d]).run P w =
    .ok (.slice (some ⟨w.heap.size,0,none⟩) (n+m) (grownCap w (n+m) c E))
     (w.drew.alloc (.cells (cs.toArray++ys.toArray++Builtin.zeroCells z.cells (grownCap w (n+m) c E-(n+m))) E)):=by
   have AHE:¬(9223372036854775807<((n:Int)+(m:Int))):=by omega
   have AHF:¬(281474976710656<Builtin.nextslicecap (n+m) c*i.bytes):=by omega
   simp[Builtin.append_,run_underlying ht,Go.sizeOf,typeInfo,zeroValue,hi,hz,Builtin.lenOf,KH,AHE,AHF,Question.forced,tc _ Va,Sj _ Va,newRow,grownCap]
   congr 2
   apply Array.ext'
   simp[AjL]
  refine⟨_,_,σ.set w.heap.size _,Bz,hΦ _ _ _ ⟨hlen,by omega,.inr ⟨w.heap.size,0,_,E,rfl,Hp.AA _ _ _,hgc,?_,?_⟩⟩ ?_ (.inr ⟨by omega,Ext.set (IW hs),fun a ha=>by cases ha;exact IW hs⟩),Fin.alloc hs hF _ rfl ⟨rfl,rfl,fun _=>⟨1,rfl⟩⟩ rfl⟩
  ·simp only[Array.size_append,List.size_toArray,size_zeroCells,hzs,DB.1,hy.1,←AjM];have:n+m+(grownCap w (n+m) c E-(n+m))=grownCap w (n+m) c E:=by omega
   rw[this];omega
  ·simp only[Array.toList_append,AkO];rw[←hlen];exact List.take_left
  ·rw[Hp.MN (IW hs)];exact Ext.Jb σ p
theorem DT [h:J6 P T E s bs](DB:Au s σ p n c cs)(hy:G6 s σ q m ys)(h1:G7 ys)(hb:(n+m)*bs≤140737488355328)
  (hΦ:∀p' c' σ',Au s σ' p' (n+m) c' (cs++ys)→Ext (σ.del p) (σ'.del p')→Φ (.slice p' (n+m) c') σ') :
  AK P (Builtin.append_ #[T,T] ty #[.slice p n c,.slice q m d]) σ Φ:=
 WD DB hy h1 hb fun p' c' σ' h1 h2 _=>hΦ p' c' σ' h1 h2
end append
end Tw
end
section
namespace Tw
open Go
variable [G9]
theorem G6.of_map {k:IntKind}{σ:Hp}{p:Option Addr}{n:Nat}{xs:List Int}(hr:EP k σ p n xs):G6 1 σ p n (xs.map (.int k)):=by
 obtain⟨_,cs,h1,h2⟩:=hr;rwa[kV.1 h2]at h1
theorem EP.uX {k:IntKind}{σ:Hp}{p:Option Addr}{n:Nat}{xs:List Int}(h:G6 1 σ p n (xs.map (.int k))):EP k σ p n xs:=
 ⟨by have:=h.1;simpa using this,_,h,kV.2 rfl⟩
abbrev EJ (k:IntKind)(σ:Hp)(p:Option Addr)(n c:Nat)(xs:List Int):Prop:=Au 1 σ p n c (xs.map (.int k))
theorem EJ.rd {k:IntKind}{σ:Hp}{p:Option Addr}{n c:Nat}{xs:List Int}(h:EJ k σ p n c xs):EP k σ p n xs:=.uX (Au.rd h)
theorem Au.empty {s b T:Nat}{σ:Hp}:Au s (σ.set b (.cells #[] T (0,0))) (some ⟨b,0,none⟩) 0 0 []:=
 ⟨by simp,by omega,.inr ⟨b,0,#[],T,rfl,Hp.AA _ _ _,AiV _,by simp,by simp⟩⟩
theorem Au.WG {s:Nat}{σ σ':Hp}{p:Option Addr}{n c:Nat}{cs:List Value}(h:Au s σ' p n c cs)(hp:∀a,p=some a→σ a.block=none):Au s (σ.new σ') p n c cs:=by
 refine⟨h.1,h.2.1,h.2.2.imp id ?_⟩
 rintro⟨b,o,arr,T,hpe,hb,r⟩
 refine⟨b,o,arr,T,hpe,?_,r⟩;simp only[Hp.new];rw[hp _ hpe];exact hb
theorem JP {σ σ1 σ':Hp}{p p':Option Addr}(h:∀a,p=some a→σ a.block=none)(hx:Ext (σ1.del p) (σ'.del p'))(hσ:Ext σ σ1):∀a,p'=some a→σ a.block=none:=by
 intro a ha;cases hb:σ a.block with
 | none=>rfl
 | some o=>
  have h1:=hσ _ _ hb;have h2:(σ1.del p) a.block=some o:=by
   cases p with
   | none=>exact h1
   | some u=>
    simp only[Hp.del];split
    ·rename_i he;have:=h u rfl;rw[←he,hb]at this;cases this
    ·exact h1
  have h3:=hx _ _ h2;rw[ha]at h3;simp[Hp.del]at h3
theorem PF {σ σ1 σ':Hp}{p p':Option Addr}(h:∀a,p=some a→σ a.block=none)(hx:Ext (σ1.del p) (σ'.del p'))(hσ:Ext σ σ1):Ext σ σ':=by
 intro b o hb;have h2:(σ1.del p) b=some o:=by
  cases p with
  | none=>exact hσ _ _ hb
  | some u=>
   simp only[Hp.del];split
   ·rename_i he;have:=h u rfl;rw[←he,hb]at this;cases this
   ·exact hσ _ _ hb
 exact Ext.Jb _ _ _ _ (hx _ _ h2)
theorem AR {σ σ':Hp}{k:Nat}{o:Obj}:σ.new σ' k=some o↔σ k=none∧σ' k=some o:=by
 simp only[Hp.new];cases σ k<;>simp
theorem AN {σ:Hp}{p:Option Addr}{k:Nat}{o:Obj}:σ.del p k=some o↔(∀a,p=some a→k≠a.block)∧σ k=some o:=by
 cases p with
 | none=>simp[Hp.del]
 | some a=>
  simp only[Hp.del];split
  ·rename_i h;simp[h]
  ·rename_i h;simp[h]
theorem Au.uY {s:Nat}{σ σ':Hp}{p:Option Addr}{n c:Nat}{cs:List Value}(h:Au s (σ.new σ') p n c cs):∀a,p=some a→σ a.block=none:=by
 intro a ha;have:=h.block a ha;cases hb:(σ.new σ') a.block with
 | none=>exact absurd hb this
 | some o=>exact(AR.1 hb).1
section append
variable {P:Program}{T Et ty:TypeId}{s bs:Nat}{σ0 σ:Hp}{p q:Option Addr}{n c m d:Nat}{cs ys:List Value}{Φ:Value→Hp→Prop}
theorem ABX [J6 P T Et s bs](h0:Ext σ0 σ)(DB:Au s (σ0.new σ) p n c cs)(hy:G6 s σ q m ys)(h1:G7 ys)(hb:(n+m)*bs≤140737488355328)
  (hΦ:∀p' c' σ',Au s (σ0.new σ') p' (n+m) c' (cs++ys)→Ext σ0 σ'→Ext ((σ0.new σ).del p) ((σ0.new σ').del p')→Φ (.slice p' (n+m) c') σ') :
  AK P (Builtin.append_ #[T,T] ty #[.slice p n c,.slice q m d]) σ Φ:=by
 have hpn:=DB.uY;refine DT (DB.mono (Ext.B9 σ0 σ)) hy h1 hb fun p' c' σ' ho hx=>?_;refine hΦ p' c' σ' (ho.WG (JP hpn hx h0)) (PF hpn hx h0) fun k o hk=>?_;obtain⟨h2,h3⟩:=AN.1 hk;obtain⟨h4,h5⟩:=AR.1 h3;obtain⟨h6,h7⟩:=AN.1 (hx k o (AN.2 ⟨h2,h5⟩));exact AN.2 ⟨h6,AR.2 ⟨h4,h7⟩⟩
theorem oE [J6 P T Et s bs](h0:Ext σ0 σ)(DB:Au s (σ0.new σ) p n c cs)(hl:ys.length=m*s)(h1:G7 ys)(hb:(n+m)*bs≤140737488355328)
  (hΦ:∀p' c' σ',Au s (σ0.new σ') p' (n+m) c' (cs++ys)→Ext σ0 σ'→Ext ((σ0.new σ).del p) ((σ0.new σ').del p')→Φ (.slice p' (n+m) c') σ')
  {b:Nat} (hn:σ b=none):AK P (Builtin.append_ #[T,T] ty #[.slice p n c,.slice (some ⟨b,0,none⟩) m m]) (σ.set b (.cells ys.toArray Et (0,0))) Φ:=by
 have hx:Ext σ (σ.set b (.cells ys.toArray Et (0,0))):=.set hn;have hm:m≤140737488355328:=by
  have hbp:=(inferInstance:J6 P T Et s bs).AVY;have:n+m≤(n+m)*bs:=Nat.le_mul_of_pos_right _ hbp;omega
 refine ABX (h0.trans hx) (DB.mono (Ext.Jc hx)) ⟨hl,by omega,.inr ⟨b,0,rfl,Ae.of fun j v hj=>?_⟩⟩ h1 hb fun p' c' σ' ho he hd=>hΦ p' c' σ' ho he (fun k o hk=>hd k o ((Ext.Jc hx).del p k o hk));simp[Hp.ld,Hp.AA,hj]
end append
def Ix {α:Type}(s:Nat)(E:Hp→List Value→α→Prop)(σ:Hp)(p:Option Addr)(n c:Nat)(xs:List α):Prop:=
 xs.length=n∧∃cs,Au s σ p n c cs∧Ch s E (σ.del p) cs xs
theorem Ix.nil {α:Type}{s:Nat}{E:Hp→List Value→α→Prop}{σ:Hp}:Ix s E σ none 0 0 []:=⟨rfl,[],.nil,by simp[Ch]⟩
theorem Ix.mono {α:Type}{s:Nat}{E:Hp→List Value→α→Prop}(hE:Ht E){σ σ':Hp}(h:Ext σ σ'){p:Option Addr}{n c:Nat}{xs:List α}(ho:Ix s E σ p n c xs):Ix s E σ' p n c xs:=
 let ⟨h1,cs,h2,h3⟩:=ho;⟨h1,cs,h2.mono h,h3.mono hE (h.del p)⟩
theorem Ix.rd {α:Type}{s:Nat}{E:Hp→List Value→α→Prop}(hE:Ht E){σ:Hp}{p:Option Addr}{n c:Nat}{xs:List α}(ho:Ix s E σ p n c xs):AT s E σ p n xs:=
 let ⟨h1,cs,h2,h3⟩:=ho;⟨h1,cs,h2.rd,h3.mono hE (Ext.Jb σ p)⟩
theorem Ix.block {α:Type}{s:Nat}{E:Hp→List Value→α→Prop}{σ:Hp}{p:Option Addr}{n c:Nat}{xs:List α}(ho:Ix s E σ p n c xs):∀a,p=some a→σ a.block≠none:=
 let ⟨_,_,h2,_⟩:=ho;h2.block
theorem Ch.snoc {α:Type}{s:Nat}{E:Hp→List Value→α→Prop}{σ:Hp}{cs vs:List Value}{xs:List α}{x:α}(h:Ch s E σ cs xs)(hl:vs.length=s)(hx:E σ vs x):Ch s E σ (cs++vs) (xs++[x]):=by
 refine⟨by simp[h.1,hl,AjM],fun i y hy=>?_⟩;rw[AjD]at hy;split at hy
 ·rename_i hi;have hle:i*s+s≤cs.length:=by rw[h.1,←Ajw];exact Aiw s hi
  rw[List.drop_append_of_le_length (by omega),Ajs (by simp;omega)];exact h.2 i y hy
 ·rename_i hi;have:i=xs.length:=by
   have:=(List.getElem?_eq_some_iff.1 hy).1;simp at this;omega
  subst this;simp at hy;subst hy;rw[←h.1,List.drop_left,←hl,List.take_length];exact hx
theorem Ix.Hu {α:Type}{P:Program}{T Et ty:TypeId}{s bs:Nat}{E:Hp→List Value→α→Prop}(hE:Ht E)[J6 P T Et s bs]{σ0 σ:Hp}{p:Option Addr}{n c:Nat}{xs:List α}{vs:List Value}{x:α}{Φ:Value→Hp→Prop}
  (h0:Ext σ0 σ) (DB:Ix s E (σ0.new σ) p n c xs) (hl:vs.length=s) (h1:G7 vs) (hx:E ((σ0.new σ).del p) vs x) (hb:(n+1)*bs≤140737488355328)
  (hΦ:∀p' c' σ',Ix s E (σ0.new σ') p' (n+1) c' (xs++[x])→Ext σ0 σ'→Φ (.slice p' (n+1) c') σ') {b:Nat} (hn:σ b=none) :
  AK P (Builtin.append_ #[T,T] ty #[.slice p n c,.slice (some ⟨b,0,none⟩) 1 1]) (σ.set b (.cells vs.toArray Et (0,0))) Φ:=by
 obtain⟨hlen,cs,ho,hc⟩:=DB;refine oE h0 ho (by rw[hl,Nat.one_mul]) h1 hb (fun p' c' σ' Sj he hd=>hΦ p' c' σ' ⟨by simp[hlen],_,Sj,(hc.snoc hl hx).mono hE hd⟩ he) hn
end Tw
end
section
namespace Tw
open Go
variable [G9]
theorem Am {σ σ':Hp}(h:Ext σ σ'){b:Nat}(hb:σ' b=none):σ b=none:=by
 cases hs:σ b with
 | none=>rfl
 | some o=>rw[h _ _ hs]at hb;cases hb
section
variable {P:Program}{T Et ty:TypeId}{bs:Nat}{σ0 σ:Hp}{p:Option Addr}{n c:Nat}{xs:List Int}{x:Int}{k:IntKind}{Φ:Value→Hp→Prop}
theorem EJ.Hu [J6 P T Et 1 bs](h0:Ext σ0 σ)(DB:EJ k (σ0.new σ) p n c xs)(hb:(n+1)*bs≤140737488355328)
  (hΦ:∀p' c' σ',EJ k (σ0.new σ') p' (n+1) c' (xs++[x])→Ext σ0 σ'→Ext ((σ0.new σ).del p) ((σ0.new σ').del p')→Φ (.slice p' (n+1) c') σ')
  {b:Nat} (hn:σ b=none):AK P (Builtin.append_ #[T,T] ty #[.slice p n c,.slice (some ⟨b,0,none⟩) 1 1]) (σ.set b (.cells #[.int k x] Et (0,0))) Φ:=
 oE (ys:=[.int k x]) h0 DB rfl (G7.VZ (xs:=[x])) hb (fun p' c' σ' ho he hd=>hΦ p' c' σ' (by simpa[EJ,Aiq] using ho) he hd) hn
theorem EJ.nil:EJ k σ none 0 0 []:=Au.nil
end
end Tw
end
section
namespace Tw
open Go
variable [G9]
def over (L:List Value)(j:Nat)(zs:List Value):List Value:=L.take j++zs++L.drop (j+zs.length)
section
variable {P:Program}{T T2 E ty:TypeId}{s bs:Nat}{σ:Hp}{p q:Option Addr}{n c m d d' j k:Nat}{L cs ys:List Value}{Φ:Value→Hp→Prop}
end
end Tw
end
section
namespace Tw
open Go
variable [G9]
theorem Hp.set_set {σ:Hp}{b:Nat}{o o':Obj}:(σ.set b o).set b o'=σ.set b o':=by
 funext k;simp only[Hp.set];split<;>rfl
theorem Z1 {τ:Hp}{b:Nat}{o:Obj}(hb:τ b=none){w:World}{F:Nat→Prop}(hs:Sat (τ.set b o) w)(hF:∀k,F k→k<w.heap.size∧(τ.set b o) k=none):
  Sat τ w∧∀k,(F k∨k=b)→k<w.heap.size∧τ k=none:=by
 have hx:Ext τ (τ.set b o):=.set hb;refine⟨fun k u hk=>hs k u (hx k u hk),fun k hk=>?_⟩;rcases hk with hk|rfl
 ·exact⟨(hF k hk).1,Am hx (hF k hk).2⟩
 ·exact⟨(Array.getElem?_eq_some_iff.1 (hs k o (Hp.AA _ _ _))).1,hb⟩
theorem Spec.F6 {P:Program}{f:FuncId}{args:Array Value}{τ:Hp}{b:Nat}{o:Obj}{R:Rr}(hb:τ b=none)
  (h:Spec P f args τ (fun e τ'=>τ' b=none→R e (τ'.set b o))):Spec P f args (τ.set b o) R:=fun w F hs hF=>by
 obtain⟨h1,h2⟩:=Z1 hb hs hF;refine(h w (fun k=>F k∨k=b) h1 h2).mono ?_
 rintro e w' ⟨τ',hr,hf⟩
 have hbp:=hf.E5 b (.inr rfl);refine⟨τ'.set b o,hr hbp.1,fun k u hk=>?_,fun k hk=>?_,hf.os,hf.out,hf.grow⟩
 ·by_cases h:k=b
  ·subst h;rw[hbp.2];rw[Hp.AA]at hk;cases hk;exact hs k _ (Hp.AA _ _ _)
  ·rw[Hp.AM h]at hk;exact hf.sat k u hk
 ·have J3:k≠b:=fun h=>by have:=(hF k hk).2;rw[h,Hp.AA]at this;cases this
  exact⟨by rw[Hp.AM J3];exact(hf.E5 k (.inl hk)).1,(hf.E5 k (.inl hk)).2⟩
theorem AK.F6 {P:Program}{α:Type}{m:Sem α}{τ:Hp}{b:Nat}{o:Obj}{Φ:α→Hp→Prop}(hb:τ b=none)
  (h:AK P m τ (fun v τ'=>τ' b=none→Φ v (τ'.set b o))):AK P m (τ.set b o) Φ:=fun w F hs hF=>by
 obtain⟨h1,h2⟩:=Z1 hb hs hF;obtain⟨v,w',τ',Bz,hr,hf⟩:=h w (fun k=>F k∨k=b) h1 h2;have hbp:=hf.E5 b (.inr rfl);refine⟨v,w',τ'.set b o,Bz,hr hbp.1,fun k u hk=>?_,fun k hk=>?_,hf.os,hf.out,hf.grow⟩
 ·by_cases h:k=b
  ·subst h;rw[hbp.2];rw[Hp.AA]at hk;cases hk;exact hs k _ (Hp.AA _ _ _)
  ·rw[Hp.AM h]at hk;exact hf.sat k u hk
 ·have J3:k≠b:=fun h=>by have:=(hF k hk).2;rw[h,Hp.AA]at this;cases this
  exact⟨by rw[Hp.AM J3];exact(hf.E5 k (.inl hk)).1,(hf.E5 k (.inl hk)).2⟩
section rows
variable {α:Type}{s:Nat}{E:Hp→List Value→α→Prop}{σ:Hp}{cs ds:List Value}{xs ys:List α}
theorem Ch.take (h:Ch s E σ cs xs)(i:Nat):Ch s E σ (cs.take (i*s)) (xs.take i):=by
 refine⟨?_,fun k x hx=>?_⟩
 ·rw[AiU,AiU,h.1,Nat.min_def,Nat.min_def];by_cases hi:i≤xs.length
  ·rw[AiL hi,AiL (Aiw s hi)]
  ·rw[AiK hi];split
   ·exact Nat.le_antisymm (by assumption) (Aiw s (by omega))
   ·rfl
 ·rw[Ail]at hx;split at hx
  ·rename_i hk;have hle:k*s+s≤i*s:=by rw[←Ajw];exact Aiw s hk
   rw[Aj5,List.take_take,Ajg (by omega)];exact h.2 k x hx
  ·cases hx
theorem Ch.drop (h:Ch s E σ cs xs)(i:Nat):Ch s E σ (cs.drop (i*s)) (xs.drop i):=by
 refine⟨by rw[Aic,Aic,h.1,Nat.sub_mul],fun k x hx=>?_⟩;rw[Ain]at hx;rw[AjQ,←AjM];exact h.2 _ x hx
theorem Ch.append (h:Ch s E σ cs xs)(g:Ch s E σ ds ys):Ch s E σ (cs++ds) (xs++ys):=by
 refine⟨by rw[Aid,Aid,h.1,g.1,AjM],fun k x hx=>?_⟩;rw[AjD]at hx;split at hx
 ·rename_i hk;have hle:k*s+s≤cs.length:=by rw[h.1,←Ajw];exact Aiw s hk
  rw[List.drop_append_of_le_length (by omega),Ajs (by simp;omega)];exact h.2 k x hx
 ·rename_i hk;have hle:cs.length≤k*s:=by rw[h.1];exact Aiw s (by omega)
  have:=g.2 (k-xs.length) x hx;rw[Nat.sub_mul,←h.1]at this;rw[List.drop_append];have e:List.drop (k*s) cs=[]:=Aib hle;rw[e,AjK];exact this
theorem Ch.one {vs:List Value}{x:α}(hl:vs.length=s)(hx:E σ vs x):Ch s E σ vs [x]:=by
 refine⟨by simp[hl],fun k y hy=>?_⟩;have hk:k=0:=by
  have:=(List.getElem?_eq_some_iff.1 hy).1;simp at this;exact this
 subst hk;simp at hy;subst hy;simp[←hl,hx]
theorem Ch.WH (hE:∀σ vs x,E σ vs x→G7 vs)(h:Ch s E σ cs xs)(hs:0<s):G7 cs:=fun u hu=>by
 obtain⟨t,ht,rfl⟩:=List.mem_iff_getElem.1 hu;have Aq:t/s<xs.length:=by rw[Nat.div_lt_iff_lt_mul hs,←h.1];exact ht
 have:=h.2 (t/s) _ (AiN Aq);refine hE _ _ _ this _ ?_;have hm:=Aj1 t hs;have hdm:=Nat.div_add_mod t s;rw[Nat.mul_comm]at hdm;refine List.mem_iff_getElem?.2 ⟨t%s,?_⟩;rw[Ail,AiL hm,Ain,hdm];exact AiN ht
end rows
section
variable {P:Program}{T E ty:TypeId}{s bs:Nat}{σ:Hp}{p q:Option Addr}{n c m d:Nat}{L ys:List Value}{Φ:Value→Hp→Prop}
end
end Tw
end
section
namespace Tw
open Go
variable [G9]
def LL (P:Program)(l:Nat)(args:Array Value)(σ:Hp)(R:Rr):Prop:=
 ∀(w:World) (F:Nat→Prop),Sat σ w→(∀b,F b→b<w.heap.size∧σ b=none)→
  ∃fn tmps assign body,(Instr.yield l args).run P w=.ok (.round l fn tmps assign body) w∧RoundIn Fence.wide 0 P l fn tmps assign body w (fun e w'=>∃σ',R e σ'∧Fin σ' F w w')
theorem LL.mono {P:Program}{l:Nat}{args:Array Value}{σ:Hp}{R R':Rr}(h:LL P l args σ R)(hr:∀e σ',R e σ'→R' e σ'):LL P l args σ R':=fun w F hs hF=>
 let ⟨fn,tmps,assign,body,h1,h2⟩:=h w F hs hF
 ⟨fn,tmps,assign,body,h1,h2.mono fun _ _ ⟨σ',h3,h4⟩=>⟨σ',hr _ _ h3,h4⟩⟩
section
variable {g:Gl}{ops:Array Oper}{i:Nat}{e:Env}{bx:Bx}{σ:Hp}{K:Env→Bx→Hp→Prop}{d:Option Nat}{ty:TypeId}{gd:Option (Nat×Bool)}
theorem AP.yield {x:Operand}{xs:Array Operand}{ts:Array TypeId}{l:Nat}{vs:Array Value}{u:Value}(hs:sig ops i=some (d,.call { callee:=.value x,args:=xs,argTypes:=ts },ty,gd))(hw:AY ops e gd=true)(hd:J1 d g.n=true)
  (hx:AD e x=u) (M6:xs.toList.map (AD e)=vs.toList) (hu:u=.func (.yield l) #[] #[])
  (h:LL g.P l vs σ (BB g.R fun v σ'=>K (put e d v) bx σ')):AP g ops i e bx σ K:=by
 intro w0 F a w st;obtain⟨o,ho,rfl,A6,DJ,rfl⟩:=DD hs;refine Dk ho (by rw[st.wanted];exact hw) ?_;obtain⟨fn,tmps,assign,body,hy,AHG⟩:=h w _ st.sat st.lt;have AHH:xs.map (AD e)=vs:=by rw[←Aip];simpa using M6
 have Bz:(execOp (AD e) o).run g.P w=.ok (.round l fn tmps assign body) w:=by
  simp only[execOp,A6,resolve,hx.trans hu,AHH,Deferred.ofValue,invoke,bind,Sem.bind,pure,Array.empty_append];exact hy
 rw[st.eval,E6 Bz (fun d=>by simp)];refine⟨fun hh=>(by cases hh),RoundIn.mono (show RoundIn (wd g.JY) (0-1) g.P l fn tmps assign body w _ from⟨trivial,AHG.2⟩) fun en w'=>?_⟩
 rintro⟨σ',hr,hf⟩
 have RJ:=st.fin hf;cases en with
 | returned v=>exact⟨_,_,_,RJ.put _ _ (J1.lt hd),hr⟩
 | panicked ch=>
  rcases g.pan with ⟨h1,h2⟩|Cg
  ·exact⟨⟨h1,RJ.defers.trans h2⟩,σ',hr,RJ.toFin⟩
  ·exact absurd hr (Cg ch σ')
 | outgrown=>exact hr.elim
end
def NP (R:Rr):Rr:=fun e σ=>match e with | .returned v=>R (.returned v) σ | _=>False
abbrev Gl.round (P:Program)(f:FuncId)(n:Nat)(l:Nat)(R:Rr):Gl:=⟨P,f,n,NP R,some l,[],.inr fun _ _ h=>h⟩
abbrev Gl.behind (P:Program)(f:FuncId)(n:Nat)(D:Nat)(R:Rr):Gl:=⟨P,f,n,NP R,none,[{ target:=.collected D,args:=#[] }],.inr fun _ _ h=>h⟩
theorem uZ {D:Nat}{σ:Hp}(h:σ D=some (.deferred (some []))):Marks [{ target:=.collected D,args:=#[] }] σ:=⟨D,rfl,h,trivial⟩
theorem LL.nu {P:Program}{l n p:Nat}{r:Loop}{σ:Hp}{R:Rr}{v:Value}{fn:Func}{e:Env}{s:LoopState}{c:Option Code}(hσ:σ l=some (.loop (lp r s c)))(hp:r.params=#[p])(hn:r.tmps.size=n)(hpn:p<n)(he:∀t,r.tmps.getD t undef=e t)(VX:P.funcs[r.fn]?=some fn)
  (h:At (Gl.round P r.fn n l R) [.code r.assign,.beginRound,.code r.body] (upd e p v) [] σ):LL P l #[v] σ R:=by
 intro w F hs hF;refine⟨r.fn,_,r.assign,r.body,run_yield (r:=lp r s c) (hs _ _ hσ) (by simp[lp,hp]),trivial,fun c0 cs _=>?_⟩;have ht:(r.params.zip #[v]).foldl (fun t (p,v)=>t.setIfInBounds p v) r.tmps=r.tmps.setIfInBounds p v:=by
  simp[hp]
 have st:St n [] w F (upd e p v) [] σ { tmps:=r.tmps.setIfInBounds p v,defers:=[] } w:=by
  refine⟨by simp[hn],fun t=>?_,rfl,hs,(fun p hp=>by cases hp),(fun p hp=>by cases hp),List.nodup_nil,fun b hb=>⟨(hF b hb).1,(hF b hb).2,rfl⟩,.same rfl rfl rfl,rfl,AiV _⟩;simp only[upd];by_cases htp:t=p
  ·subst htp;simp[hn,hpn]
  ·rw[kN htp,←he t];simp[Aj9 (AjI htp)]
 let b:Frame:={ (default:Frame) with fn:=r.fn,kind:=.normal,roundOf:=some l }
 have hb0:Frame.round l r.fn (r.tmps.setIfInBounds p v) r.assign r.body .normal=b.atR { tmps:=r.tmps.setIfInBounds p v,defers:=[] } [.code r.assign,.beginRound,.code r.body]:=by
  simp[Frame.round,Frame.atR,b]
 obtain⟨v',w',⟨σ',hr,V7⟩,E2⟩:=h w F _ w st b (c0::cs) rfl rfl rfl ⟨fn,VX⟩ c0 cs rfl;refine⟨.returned v',w',⟨σ',hr,V7⟩,?_⟩;have E2:=(stepsIn_wide (P:=P)).2 E2;rw[←hb0,←ht]at E2;exact E2
section
variable {g:Gl}{k:List Item}{e:Env}{bx:Bx}{σ:Hp}
theorem Hp.ua {σ:Hp}{b c:Nat}{o:Obj}(h:c≠b)(hs:σ c=none):(σ.set b o) c=none:=by rw[Hp.AM h];exact hs
theorem St.alloc {n ds w0 F e bx σ a w}(st:St n ds w0 F e bx σ a w)(o:Obj):σ w.heap.size=none∧St n ds w0 F e bx (σ.set w.heap.size o) a (w.alloc o):=by
 have h:=st.grown o;exact⟨(h.free _ (Aih ..)).1,h.open⟩
theorem At.range {c:Code}{gop:Operand}{ps:Array Tmp}{assign body:Code}{gf:Nat}{lb:Array Value}(hc:c=.rangeFunc gop ps assign body)(hr:g.JY=none)(hds:g.ds=[])
  (hg:AD e gop=.func (.func gf) #[] lb) (Ut:Enters g.P gf)
  (h:∀(D l:Nat) (r:Loop),D≠l→σ D=none→σ l=none→r.fn=g.f→r.params=ps→r.assign=assign→r.body=body→r.tmps.size=g.n→(∀t,r.tmps.getD t undef=e t)→
   Spec g.P gf (#[.func (.yield l) #[] #[]]++lb) ((σ.set D (.deferred (some []))).set l (.loop (lp r .ready none)))
    (fun en σ'=>∃v s p,en=.returned v∧σ' l=some (.loop (lp r s p))∧s≠.busy∧
     At (Gl.behind g.P g.f g.n D g.R) ((p.map Item.code).toList++k) e bx (σ'.set l (.loop (lp r .exhausted p))))):At g (.code c::k) e bx σ:=by
 subst hc;intro w0 F a w st b cs hbf fF nq VX;have hbn:b.roundOf=none:=nq.trans hr;obtain⟨hD,st1⟩:=st.alloc (.deferred (some []))
 let r:Loop:={ state:=.ready,pending:=none,fn:=b.fn,tmps:=a.tmps,params:=ps,assign,body,defers:=w.heap.size }
 obtain⟨hl,st2⟩:=st1.alloc (.loop r);have J2:(w.alloc (.deferred (some []))).heap.size=w.heap.size+1:=World.size_alloc ..;rw[J2]at hl st2;have kO:=run_enterLoop_outer (P:=g.P) (w:=w) b.fn a.tmps ps assign body;have AVb:(resolve a.eval (rangeCall gop (w.heap.size+1)) 0).run g.P ((w.alloc (.deferred (some []))).alloc (.loop r))=.ok { target:=.fn (.func gf) lb,args:=#[.func (.yield (w.heap.size+1)) #[] #[]] } ((w.alloc (.deferred (some []))).alloc (.loop r)):=by
  rw[st.eval];simp only[resolve,hg];simp[AD,Deferred.ofValue]
 have hinv:(invoke (.fn (.func gf) lb) #[.func (.yield (w.heap.size+1)) #[] #[]]).run g.P ((w.alloc (.deferred (some []))).alloc (.loop r))=.ok (.enter gf (#[.func (.yield (w.heap.size+1)) #[] #[]]++lb)) ((w.alloc (.deferred (some []))).alloc (.loop r)):=by
  exact Ut _ _
 have Eu:=stepR_rangeFunc (P:=g.P) (b:=b) (a:=a) (k:=k) (cs:=cs) (w:=w) (by rw[hbn];exact kO) AVb hinv;have AHJ:σ (w.heap.size+1)=none:=by rw[Hp.AM (by omega)]at hl;exact hl
 have ALu:=h w.heap.size (w.heap.size+1) r (by omega) hD AHJ hbf rfl rfl rfl st.size st.env;obtain⟨en,w3,fr,⟨σ',⟨v,s,p,he,AHK,hsb,hat⟩,V7⟩,AHM,AdV,AHN⟩:=ALu _ _ st2.sat st2.lt (b.atR { a with defers:=[{ target:=.collected w.heap.size,args:=#[] }]++a.defers } (.inRangeFunc (w.heap.size+1)::k)::cs);subst he;have st3:=st2.fin V7;have ub:=run_endLoop (P:=g.P) (st3.sat _ _ AHK) (by simpa[lp] using hsb);have hf4:=st3.toFin.put (o':=.loop (lp r .exhausted p)) AHK;have Ah:∀q∈bx,q.1≠w.heap.size+1:=fun q hq e=>by have:=(st3.free q hq).1;rw[e,AHK]at this;cases this
 have st4:St g.n [{ target:=.collected w.heap.size,args:=#[] }] w0 F e bx (σ'.set (w.heap.size+1) (.loop (lp r .exhausted p))) { a with defers:=[{ target:=.collected w.heap.size,args:=#[] }]++a.defers } (w3.putObj (w.heap.size+1) (.loop (lp r .exhausted p))):=
  { size:=st.size,env:=st.env,defers:=by rw[show a.defers=[] from st.defers.trans hds];rfl,sat:=hf4.sat,box:=fun q hq=>by rw[World.putObj_heap_other (Ah q hq)];exact st3.box q hq,free:=fun q hq=>⟨Hp.ua (Ah q hq) (st3.free q hq).1,(st3.free q hq).2⟩,nodup:=st.nodup,E5:=fun b hb=>⟨(st.E5 b hb).1,(hf4.E5 b hb).1,(hf4.E5 b hb).2⟩,os:=hf4.os,out:=hf4.out,grow:=hf4.grow }
 have AHP:=hat w0 F _ _ st4 b cs hbf fF hbn VX;have AEN:=step_leave_returned (P:=g.P) (c:=b.atR { a with defers:=[{ target:=.collected w.heap.size,args:=#[] }]++a.defers } (.inRangeFunc (w.heap.size+1)::k)) (cs:=cs) AHN;rw[finish_atR_inRangeFunc]at AEN;have AHQ:=(Steps.one Eu).trans (Steps.trans AHM ((Steps.one AEN).trans (.one (stepR_endRangeFunc (k:=k) ub))));obtain⟨e',w',fr',⟨σ2,hR,hf2⟩,hc2,hx⟩:=AHP;unfold QA;rw[hr];refine⟨e',w',fr',⟨σ2,?_,hf2⟩,.of_steps AHQ hc2,hx⟩;cases e' with
 | returned v=>exact hR
 | _=>exact hR.elim
end
end Tw
end
section
namespace Tw
open Go Go.RowKit Go.ChangeShapes Go.WideShapes Go.Deep
def full (w:World):Hp:=fun b=>w.heap[b]?
theorem uc (w:World):Sat (full w) w:=fun _ _ h=>h
theorem Vb {w:World}{a:Addr}{v:Value}(h:w.cell? a=some v):(full w).ld a=some v:=h
theorem ud {w w':World}{σ':Hp}(hx:Ext (full w) σ')(hs:Sat σ' w')(ho:Gh w w')(AHR:w'.output=w.output)(hg:w.heap.size≤w'.heap.size):Below w.heap.size w w':=
 ⟨ho.1,ho.2.1,AHR,hg,fun k hk=>by
  have h1:w.heap[k]?=some w.heap[k]:=Aj2 hk;rw[h1];exact hs _ _ (hx _ _ h1)⟩
def Lawful (P:Program)(f:FuncId)(args:Array Value)(w:World):Prop:=Spec P f args (full w) (fun e σ'=>e=.returned (.bool true)∧Ext (full w) σ')
theorem Lawful.calls {P:Program}{f:FuncId}{args:Array Value}{w:World}(h:Lawful P f args w):Calls P f args w fun e w'=>e=.returned (.bool true)∧Below w.heap.size w w':=
 (h w (fun _=>False) (uc w) (fun _ h=>h.elim)).mono fun e w' ⟨σ',⟨he,hx⟩,hf⟩=>⟨he,ud hx hf.sat hf.os hf.out hf.grow⟩
section
variable {H:Type}{enc:TypeId×Value→H}{P:Program}
theorem QE (hl:laidOutB P=true){W W':World}(hb:Below W.heap.size W W'):∀{ts:List TypeId} {vs:List Value} {ds:List (DataW H)} {ps:List MemPlace},(ts.all fun t=>P.readableRec t&&Nat.blt t P.types.size)=true→(∀x∈ps,x.block<W.heap.size)→
  DataW.TrodAll enc P W 0 (fun _=>true) true ts vs ds ps→DataW.TrodAll enc P W' 0 (fun b=>decide (b<W.heap.size)) true ts vs ds ps
 | [],[],[],ps,_,_,h=>h
 | t::ts,v::vs,d::ds,ps,hr,Aq,⟨p,q,h1,h2,e⟩=>by
  simp only[List.all_cons,AiS]at hr;subst e;exact⟨p,q,Below.trod hl hr.1.1 (AjF hr.1.2) h1 hb (fun x hx=>Aq x (Ajo _ hx)),QE hl hb hr.2 (fun x hx=>Aq x (List.mem_append_right _ hx)) h2,rfl⟩
 | [],_::_,_,_,_,_,h=>h.elim
 | [],[],_::_,_,_,_,h=>h.elim
 | _::_,[],_,_,_,_,h=>h.elim
 | _::_,_::_,[],_,_,_,h=>h.elim
theorem ue {f:Func}{s:ChangeSpec}{W W':World}{args:Array Value}{ds gs:List (DataW H)}{before:List MemPlace}{tb:TypeId}(hl:laidOutB P=true)(hr:(f.params.toList.all fun t=>P.readableRec t&&Nat.blt t P.types.size)=true)
  (hrt:f.resultTypes=#[tb]) (uf:P.underlying tb=some .bool) (hv:s.vars=[]) (VX:(s.fn H (ds++gs)).results=[.lit (.bool true)]∧(s.fn H (ds++gs)).args=ds∧(s.fn H (ds++gs)).vars=[])
  (hW:DataW.Whole enc P f.params.toList s.vars false W args.toList ds gs before) (hb:Below W.heap.size W W'):s.post enc P f false true false false W args (.bool true) W':=by
 have Aq:∀p∈before,p.block<W.heap.size:=fun p hp=>hW.lt p hp;have hW':=hW;obtain⟨p,q,hA,hV,rfl,hfz,_⟩:=hW';refine⟨ds,gs,p++q,[],p,[],hW,?_,?_,?_,World.keptBut_mono (fun x hx=>⟨hx,?_⟩) (hb.frame (·∈p++q)),fun h=>by cases h⟩
 ·rw[VX.1,hrt];exact trodAll_mk1 (shut_bool uf true)
 ·rw[VX.2.1];exact QE hl hb hr (fun x hx=>Aq x (Ajo _ hx)) hA
 ·rw[VX.2.2,hv];rfl
 ·rw[hv]at hV;have:q=[]:=by
   cases gs with
   | nil=>exact hV
   | cons _ _=>exact hV.elim
  subst this;exact .inr (.inl (by simpa using hx))
theorem Ae.snoc {σ:Hp}{b:Nat}:∀{l m:List Value} {o:Nat},Ae σ b o l→Ae σ b (o+l.length) m→Ae σ b o (l++m)
 | [],m,o,_,h=>by simpa using h
 | v::l,m,o,h,h'=>⟨h.1,Ae.snoc h.2 (by simpa[Nat.add_assoc,Nat.add_comm 1] using h')⟩
theorem Z2 {w:World}{a:Addr}{v:Value}(h:w.cell? a=some v):a.spot=none:=by
 unfold World.cell? at h;split at h
 ·split at h
  ·cases h
  ·rename_i hs;simpa using hs
 ·cases h
end
end Tw
end
section
namespace Tw
open Go
variable [G9]
def qv (P:Program)(ops:Array Oper)(i:Nat)(e:Env):Option (Option Nat×Value):=
 match ops[i]? with
 | none=>none
 | some o=>match AY ops e o.guard with
  | false=>none
  | true=>match o.op with
   | .move x=>some (o.dst,AD e x)
   | .assign x=>some (o.dst,AD e x)
   | .pick z x y=>(match AD e z with
    | .bool true=>some (o.dst,AD e x)
    | .bool false=>some (o.dst,AD e y)
    | _=>none)
   | .extract x j=>(match AD e x with
    | .tuple vs=>(match vs[j]? with | some v=>some (o.dst,v) | none=>none)
    | _=>none)
   | .unOp u _ x=>(match u,AD e x with
    | .not,.bool b=>some (o.dst,.bool (!b))
    | _,_=>none)
   | .binOp b _ x y _=>(match AD e x,AD e y with
    | .int k a,.int k' c=>(match decide (k=k') with
     | false=>none
     | true=>(match b with
      | .lss=>some (o.dst,.bool (decide (a<c)))
      | .leq=>some (o.dst,.bool (decide (a≤c)))
      | .gtr=>some (o.dst,.bool (decide (c<a)))
      | .geq=>some (o.dst,.bool (decide (c≤a)))
      | .eql=>some (o.dst,.bool (decide (a=c)))
      | .neq=>some (o.dst,.bool (decide (a≠c)))
      | _=>none))
    | _,_=>none)
   | _=>none
theorem AEO {P:Program}{ops:Array Oper}{i:Nat}{e:Env}{bx:Bx}{d:Option Nat}{v:Value}(h:qv P ops i e=some (d,v)):
  ∃o,ops[i]?=some o∧AY ops e o.guard=true∧o.dst=d∧∀σ,Yd P e bx σ o.op o.type v:=by
 unfold qv at h;cases ho:ops[i]? with
 | none=>simp[ho]at h
 | some o=>
  simp only[ho]at h;cases hw:AY ops e o.guard with
  | false=>simp[hw]at h
  | true=>
   simp only[hw]at h;refine⟨o,rfl,hw,?_⟩;cases MJ:o.op<;>simp only[MJ]at h<;>try (cases h;done)
   case move x=>cases h;exact⟨rfl,fun σ=>Y.move rfl⟩
   case assign x=>cases h;exact⟨rfl,fun σ=>Y.assign rfl⟩
   case pick z x y=>
    split at h
    ·rename_i hz;cases h;exact⟨rfl,fun σ=>Y.AEI hz rfl⟩
    ·rename_i hz;cases h;exact⟨rfl,fun σ=>Y.AEJ hz rfl⟩
    ·cases h
   case extract x j=>
    split at h
    ·rename_i vs hx;split at h
     ·rename_i u hu;cases h;exact⟨rfl,fun σ=>Y.extract hx hu⟩
     ·cases h
    ·cases h
   case unOp u T x=>
    split at h
    ·rename_i b hx;cases h;exact⟨rfl,fun σ=>Y.not hx⟩
    ·cases h
   case binOp b T x y T'=>
    split at h
    ·rename_i k a k' c hx hy;split at h
     ·cases h
     ·rename_i hk;have hk:=AiP hk;subst hk;cases b<;>simp only at h<;>cases h
      ·exact⟨rfl,fun σ=>Y.eql hx hy⟩
      ·exact⟨rfl,fun σ=>Y.neq hx hy⟩
      ·exact⟨rfl,fun σ=>Y.lss hx hy⟩
      ·exact⟨rfl,fun σ=>Y.leq hx hy⟩
      ·exact⟨rfl,fun σ=>Y.gtr hx hy⟩
      ·exact⟨rfl,fun σ=>Y.geq hx hy⟩
    ·cases h
def nv (ops:Array Oper)(i:Nat)(e:Env):Option (Option Nat):=
 match ops[i]? with
 | none=>none
 | some o=>match AY ops e o.guard with
  | true=>none
  | false=>some o.dst
theorem AVg {ops:Array Oper}{i:Nat}{e:Env}{d:Option Nat}(h:nv ops i e=some d):∃o,ops[i]?=some o∧AY ops e o.guard=false∧o.dst=d:=by
 unfold nv at h;cases ho:ops[i]? with
 | none=>simp[ho]at h
 | some o=>
  simp only[ho]at h;cases hw:AY ops e o.guard with
  | true=>simp[hw]at h
  | false=>simp only[hw]at h;cases h;exact⟨o,rfl,hw,rfl⟩
theorem E7 {ops:Array Oper}{i:Nat}{o:Oper}(h:ops[i]?=some o):sig ops i=some (o.dst,o.op,o.type,o.guard):=by simp[sig,h]
section
variable {g:Gl}{ops:Array Oper}{q:MD}{i:Nat}{is:List Nat}{r:List (Nat×Bool)}{e:Env}{bx:Bx}{σ:Hp}{K:Env→Bx→Hp→Prop}{k:List Item}{c:Code}
theorem Seq.u (d:Nat)(v:Value)(h:Seq g ops is (put e (some d) v) bx σ K)(hq:qv g.P ops i e=some (some d,v):=by kernel_rfl)(hd:Nat.blt d g.n=true:=by rfl):Seq g ops (i::is) e bx σ K:=by
 obtain⟨o,ho,hw,Qo,hy⟩:=AEO (bx:=bx) hq;have hs:=E7 ho;rw[Qo]at hs;exact Seq.yg hs hw hd (hy σ) h
def ALv (e:Env):List (Nat×Value)→Env
 | []=>e
 | (d,v)::l=>ALv (put e (some d) v) l
def Qs (P:Program)(ops:Array Oper):List Nat→List (Nat×Value)→Env→List (Option (Option Nat×Value))
 | _,[],_=>[]
 | i::is,(d,v)::l,e=>qv P ops i e::Qs P ops is l (put e (some d) v)
 | [],_::_,_=>[none]
theorem Seq.us (l:List (Nat×Value))(h:Seq g ops (is.drop l.length) (ALv e l) bx σ K)(hq:Qs g.P ops is l e=l.map (fun p=>some (some p.1,p.2)):=by kernel_rfl)(hd:(l.all fun p=>Nat.blt p.1 g.n)=true:=by rfl):Seq g ops is e bx σ K:=by
 induction l generalizing is e with
 | nil=>exact h
 | cons p l ih=>
  obtain⟨d,v⟩:=p;cases is with
  | nil=>simp[Qs]at hq
  | cons i is=>
   simp only[Qs,Ai4,Ajp]at hq;simp only[List.all_cons,AiS]at hd;exact Seq.u d v (ih h hq.2 hd.2) hq.1 hd.1
theorem Head.u (d:Nat)(v:Value)(h:Head g ops q r (put e (some d) v) bx σ K)(hq:qv g.P ops i e=some (some d,v):=by kernel_rfl)(hd:Nat.blt d g.n=true:=by rfl)(EI:q.ok i=true:=by rfl):Head g ops q ((i,true)::r) e bx σ K:=by
 obtain⟨o,ho,hw,Qo,hy⟩:=AEO (bx:=bx) hq;have hs:=E7 ho;rw[Qo]at hs;exact Head.yg hs hw hd (hy _) h EI
theorem Seq.n (d:Nat)(h:Seq g ops is (put e (some d) undef) bx σ K)(hn:nv ops i e=some (some d):=by kernel_rfl)(hd:Nat.blt d g.n=true:=by rfl):Seq g ops (i::is) e bx σ K:=by
 obtain⟨o,ho,hw,Qo⟩:=AVg hn;have hs:=E7 ho;rw[Qo]at hs;exact Seq.no hs hw hd h
theorem Seq.z (d:Nat)(op:Op)(ty:TypeId)(v:Value)(hy:Yd g.P e bx σ op ty v)(h:Seq g ops is (put e (some d) v) bx σ K)(hs:sig ops i=some (some d,op,ty,none):=by kernel_rfl)(hd:Nat.blt d g.n=true:=by rfl):Seq g ops (i::is) e bx σ K:=Seq.y hs hd hy h
theorem Head.z (d:Nat)(op:Op)(ty:TypeId)(v:Value)(hy:Yd g.P e bx (S1 q none σ) op ty v)(h:Head g ops q r (put e (some d) v) bx σ K)(hs:sig ops i=some (some d,op,ty,none):=by kernel_rfl)(hd:Nat.blt d g.n=true:=by rfl)(EI:q.ok i=true:=by rfl):Head g ops q ((i,true)::r) e bx σ K:=Head.y hs hd hy h EI
theorem ba:∀{l:List (Nat×Value)},l.map (fun p=>e p.1)=l.map (·.2)→Live e l
 | [],_=>trivial
 | (t,v)::l,h=>by
  simp only[Ai4,Ajp]at h;exact⟨h.1,ba h.2⟩
theorem At.L (l:List (Nat×Value))(h:∀J,At g k (NS J l) bx σ)(hl:l.map (fun p=>e p.1)=l.map (·.2):=by kernel_rfl):At g k e bx σ:=At.ofL (ba hl) h
theorem At.v (l:List (Nat×Value))(h:At g k (NS e l) bx σ)(hl:l.map (fun p=>e p.1)=l.map (·.2):=by kernel_rfl):At g k e bx σ:=At.live (ba hl) h
theorem At.rg (id:Nat)(l:List Nat)(h:Seq g (cO c) l e bx σ (fun e bx σ=>At g k e bx σ))(hc:c=.region id (cO c) false:=by kernel_rfl)(hl:List.range (cO c).size=l:=by kernel_rfl):At g (.code c::k) e bx σ:=At.region hc hl h
theorem At.s (x y:Code)(h:At g (.code x::.code y::k) e bx σ)(hc:c=.seq x y:=by kernel_rfl):At g (.code c::k) e bx σ:=At.seq hc h
theorem At.cT (t:Nat)(y z:Code)(h:At g (.code y::k) e bx σ)(hc:c=.cond (.tmp t) y z:=by kernel_rfl)(hx:AD e (.tmp t)=.bool true:=by rfl):At g (.code c::k) e bx σ:=At.AED hc hx h
theorem At.cF (t:Nat)(y z:Code)(h:At g (.code z::k) e bx σ)(hc:c=.cond (.tmp t) y z:=by kernel_rfl)(hx:AD e (.tmp t)=.bool false:=by rfl):At g (.code c::k) e bx σ:=At.AEE hc hx h
theorem At.x (i:Nat)(k':List Item)(h:At g k' e bx σ)(hc:c=.exit i:=by kernel_rfl)(hk:exitTo i k=some k':=by kernel_rfl):At g (.code c::k) e bx σ:=At.exit hc hk h
theorem At.b (i:Nat)(x:Code)(h:At g (.code x::.inBlock i::k) e bx σ)(hc:c=.block i x:=by kernel_rfl):At g (.code c::k) e bx σ:=At.block hc h
theorem At.rt {fn:Func}(rs:List ResultVar)(vs:List Value)(hf:g.P.funcs[g.f]?=some fn)(h:KF g.P e bx (left g.ds σ) rs vs)(hR:g.R (.returned (WB vs)) (left g.ds σ))
 (hc:c=Code.ret:=by kernel_rfl) (hr:fn.results=rs.toArray:=by kernel_rfl) (ZI:g.JY=none:=by rfl) (hm:Marks g.ds σ:=by trivial):At g (.code c::k) e bx σ:=At.bY hc hf hr h hR ZI hm
def cv (ops:Array Oper)(i:Nat)(e:Env):Option (Option Nat×FuncId×Array Value):=
 match ops[i]? with
 | none=>none
 | some o=>match AY ops e o.guard with
  | false=>none
  | true=>match o.op with
   | .call c=>(match c.callee with
    | .value x=>(match AD e x with
     | .func fn fst cap=>(match fn with
      | .func f=>some (o.dst,f,(fst.toList++(c.args.toList.map (AD e)++cap.toList)).toArray)
      | _=>none)
     | _=>none)
    | _=>none)
   | _=>none
theorem AP.cl {f:FuncId}{args:Array Value}(d:Option Nat)(ug:∀args w,(callFunc f args).run g.P w=.ok (.enter f args) w)(h:Spec g.P f args σ (BB g.R fun v σ'=>K (put e d v) bx σ'))
  (hc:cv ops i e=some (d,f,args):=by kernel_rfl) (hd:J1 d g.n=true:=by rfl):AP g ops i e bx σ K:=by
 unfold cv at hc;cases ho:ops[i]? with
 | none=>simp[ho]at hc
 | some o=>
  simp only[ho]at hc;cases hw:AY ops e o.guard with
  | false=>simp[hw]at hc
  | true=>
   simp only[hw]at hc;cases MJ:o.op<;>simp only[MJ]at hc<;>try cases hc
   rename_i c;split at hc
   ·rename_i x ALw;split at hc
    ·rename_i fn fst cap hx;split at hc
     ·rename_i f';simp only[AiO,Ajr]at hc;obtain⟨rfl,rfl,ha⟩:=hc;refine AP.call (E7 ho) hw hd (fun o' Sj _ w=>?_) h;obtain⟨callee,xs,ts⟩:=c;simp only at ALw;subst ALw;refine S5 (x:=x) (xs:=xs) (ts:=ts) (fst:=fst) (cap:=cap) (vs:=(xs.toList.map (AD e)).toArray) ug hx (by simp) ?_ o' (by rw[Sj,MJ]) w;rw[←ha,←Aip];simp
     ·cases hc
    ·cases hc
   ·cases hc
end
end Tw
end
section
namespace Tw
open Go
variable [G9]
section
variable {g:Gl}{ops:Array Oper}{i:Nat}{e:Env}{bx:Bx}{σ:Hp}{K:Env→Bx→Hp→Prop}{k:List Item}{c x:Code}{d:Option Nat}{gd:Option (Nat×Bool)}{ty:TypeId}
theorem fJ {P:Program}{b:Frame}{a:Act}{k:List Item}{cs:List Frame}{w:World}{c:Code}:step P (lone (b.atR a (.code (.scope c)::k)) cs w)=.next (lone (b.atR a (.code c::.inScope c::k)) cs w):=rfl
theorem ZM {P:Program}{b:Frame}{a:Act}{k:List Item}{cs:List Frame}{w:World}{c:Code}:step P (lone (b.atR a (.inScope c::k)) cs w)=.next (lone (b.atR a k) cs w):=rfl
theorem At.scope (hc:c=Code.scope x)(h:At g (.code x::.inScope x::k) e bx σ):At g (.code c::k) e bx σ:=
 hc▸fun w0 F a w st=>.step (fun _ _ _=>fJ) (h w0 F a w st)
theorem At.inScope (h:At g k e bx σ):At g (.inScope x::k) e bx σ:=fun w0 F a w st=>.step (fun _ _ _=>ZM) (h w0 F a w st)
theorem AP.panic {x:Operand}{T:TypeId}{v:Value}(hs:sig ops i=some (d,.panic x,ty,gd))(hw:AY ops e gd=true)(hx:AD e x=.iface T v)(h1:g.JY=none)(h2:g.ds=[])
  (h:g.R (.panicked [{ v:=.iface T v,recovered:=false }]) σ):AP g ops i e bx σ K:=by
 intro w0 F a w st;obtain⟨o,ho,rfl,A6,DJ,rfl⟩:=DD hs;refine Dk ho (by rw[st.wanted];exact hw) ?_;rw[st.eval];have Bz:(o.semAt g.JY (AD e)).run g.P w=.halt (.panic (.iface T v)) w:=by
  rw[h1,Oper.semAt_eq none (AD e) o (fun c hc=>by rw[A6]at hc;cases hc)];simp[execOp,A6,hx,Instr.panic,goPanic,Sem.run]
 rw[Bz];exact⟨⟨h1,st.defers.trans h2⟩,σ,h,st.toFin⟩
theorem kW {x:Operand}{u:Value}{ts:Array TypeId}(hx:AD e x=u)(o:Oper)(ho:o.op=.call { callee:=.builtin .len,args:=#[x],argTypes:=ts })(ht:o.type=ty):execOp (AD e) o=(do pure (.value (←Builtin.len_ ts ty #[u]))):=by
 subst ht;simp[execOp,ho,resolve,invoke,builtin,hx]
def isIf:TypeDesc→Bool
 | .interface _=>true
 | _=>false
theorem Y.iface {P:Program}{T:TypeId}{dd:TypeDesc}{x:Operand}{v:Value}(hT:P.underlying T=some dd)(hd:isIf dd=false)(hx:AD e x=v):Yd P e bx σ (.makeInterface T x) ty (.iface T v):=fun oo ho _ w _ _=>by
 cases dd<;>simp[isIf]at hd<;>simp[execOp,ho,hx,Instr.makeInterface,run_underlying hT]
theorem Y.AVh {P:Program}{T T':TypeId}{x y:Operand}{a b:ByteArray}(hT:P.underlying T=some .string)(hx:AD e x=.string a)(hy:AD e y=.string b)(hs:a.size+b.size≤9223372036854775807):Yd P e bx σ (.binOp .add T x y T') ty (.string (a++b)):=fun oo ho _ w _ _=>by
 have Va:(a.size:Int)+(b.size:Int)≤9223372036854775807:=by omega
 simp[execOp,ho,hx,hy,eqGuard_add,binOp,Op.stringOp,Va]
end
end Tw
end
section
set_option maxRecDepth 100000
noncomputable section
namespace TwW
open Go Tw Go.Proofs.Tryz
variable [G9]{R:Rr}{σ:Hp}
noncomputable abbrev prog:Program:=Go.Proofs.Tryz.prog
theorem mixed:Go.Proofs.Tryz.prog.follows .mixedOrders=true:=by kernel_rfl
instance:J6 Go.Proofs.Tryz.prog 22 44 10 120:=⟨Go.Proofs.Tryz.underlying22,⟨Go.Proofs.Tryz.t44,_,by kernel_rfl,rfl,rfl,rfl,rfl⟩,by decide,by decide⟩
instance:J6 Go.Proofs.Tryz.prog 23 51 2 48:=⟨Go.Proofs.Tryz.underlying23,⟨Go.Proofs.Tryz.t51,_,by kernel_rfl,rfl,rfl,rfl,rfl⟩,by decide,by decide⟩
instance:J6 Go.Proofs.Tryz.prog 41 75 3 40:=⟨Go.Proofs.Tryz.underlying41,⟨Go.Proofs.Tryz.t75,_,by kernel_rfl,rfl,rfl,rfl,rfl⟩,by decide,by decide⟩
instance:J6 Go.Proofs.Tryz.prog 42 9 1 16:=⟨Go.Proofs.Tryz.underlying42,⟨Go.Proofs.Tryz.t9,_,by kernel_rfl,rfl,rfl,rfl,rfl⟩,by decide,by decide⟩
instance:J6 Go.Proofs.Tryz.prog 47 71 2 32:=⟨Go.Proofs.Tryz.underlying47,⟨Go.Proofs.Tryz.t71,_,by kernel_rfl,rfl,rfl,rfl,rfl⟩,by decide,by decide⟩
instance:J6 Go.Proofs.Tryz.prog 49 61 2 16:=⟨Go.Proofs.Tryz.underlying49,⟨Go.Proofs.Tryz.t61,_,by kernel_rfl,rfl,rfl,rfl,rfl⟩,by decide,by decide⟩
instance:J6 Go.Proofs.Tryz.prog 54 59 2 32:=⟨Go.Proofs.Tryz.underlying54,⟨Go.Proofs.Tryz.t59,_,by kernel_rfl,rfl,rfl,rfl,rfl⟩,by decide,by decide⟩
instance:J6 Go.Proofs.Tryz.prog 77 23 1 24:=⟨Go.Proofs.Tryz.underlying77,⟨Go.Proofs.Tryz.t23,_,by kernel_rfl,rfl,rfl,rfl,rfl⟩,by decide,by decide⟩
instance:J6 Go.Proofs.Tryz.prog 87 94 2 32:=⟨Go.Proofs.Tryz.underlying87,⟨Go.Proofs.Tryz.t94,_,by kernel_rfl,rfl,rfl,rfl,rfl⟩,by decide,by decide⟩
instance:J6 Go.Proofs.Tryz.prog 88 165 2 48:=⟨Go.Proofs.Tryz.underlying88,⟨Go.Proofs.Tryz.t165,_,by kernel_rfl,rfl,rfl,rfl,rfl⟩,by decide,by decide⟩
instance:J6 Go.Proofs.Tryz.prog 95 200 2 48:=⟨Go.Proofs.Tryz.underlying95,⟨Go.Proofs.Tryz.t200,_,by kernel_rfl,rfl,rfl,rfl,rfl⟩,by decide,by decide⟩
instance:J6 Go.Proofs.Tryz.prog 104 109 1 8:=⟨Go.Proofs.Tryz.underlying104,⟨Go.Proofs.Tryz.t109,_,by kernel_rfl,rfl,rfl,rfl,rfl⟩,by decide,by decide⟩
instance:J6 Go.Proofs.Tryz.prog 110 3 1 8:=⟨Go.Proofs.Tryz.underlying110,⟨Go.Proofs.Tryz.t3,_,by kernel_rfl,rfl,rfl,rfl,rfl⟩,by decide,by decide⟩
instance:J6 Go.Proofs.Tryz.prog 117 5 1 1:=⟨Go.Proofs.Tryz.underlying117,⟨Go.Proofs.Tryz.t5,_,by kernel_rfl,rfl,rfl,rfl,rfl⟩,by decide,by decide⟩
instance:J6 Go.Proofs.Tryz.prog 127 90 5 72:=⟨Go.Proofs.Tryz.underlying127,⟨Go.Proofs.Tryz.t90,_,by kernel_rfl,rfl,rfl,rfl,rfl⟩,by decide,by decide⟩
instance:J6 Go.Proofs.Tryz.prog 138 141 1 8:=⟨Go.Proofs.Tryz.underlying138,⟨Go.Proofs.Tryz.t141,_,by kernel_rfl,rfl,rfl,rfl,rfl⟩,by decide,by decide⟩
instance:J6 Go.Proofs.Tryz.prog 140 97 4 64:=⟨Go.Proofs.Tryz.underlying140,⟨Go.Proofs.Tryz.t97,_,by kernel_rfl,rfl,rfl,rfl,rfl⟩,by decide,by decide⟩
instance:J6 Go.Proofs.Tryz.prog 163 57 1 8:=⟨Go.Proofs.Tryz.underlying163,⟨Go.Proofs.Tryz.t57,_,by kernel_rfl,rfl,rfl,rfl,rfl⟩,by decide,by decide⟩
instance:J6 Go.Proofs.Tryz.prog 202 205 1 8:=⟨Go.Proofs.Tryz.underlying202,⟨Go.Proofs.Tryz.t205,_,by kernel_rfl,rfl,rfl,rfl,rfl⟩,by decide,by decide⟩
instance:J6 Go.Proofs.Tryz.prog 208 210 1 8:=⟨Go.Proofs.Tryz.underlying208,⟨Go.Proofs.Tryz.t210,_,by kernel_rfl,rfl,rfl,rfl,rfl⟩,by decide,by decide⟩
instance:J6 Go.Proofs.Tryz.prog 230 232 1 8:=⟨Go.Proofs.Tryz.underlying230,⟨Go.Proofs.Tryz.t232,_,by kernel_rfl,rfl,rfl,rfl,rfl⟩,by decide,by decide⟩
instance:J6 Go.Proofs.Tryz.prog 233 260 1 24:=⟨Go.Proofs.Tryz.underlying233,⟨Go.Proofs.Tryz.t260,_,by kernel_rfl,rfl,rfl,rfl,rfl⟩,by decide,by decide⟩
instance:J6 Go.Proofs.Tryz.prog 251 4 1 1:=⟨Go.Proofs.Tryz.underlying251,⟨Go.Proofs.Tryz.t4,_,by kernel_rfl,rfl,rfl,rfl,rfl⟩,by decide,by decide⟩
instance:J6 Go.Proofs.Tryz.prog 265 73 1 8:=⟨Go.Proofs.Tryz.underlying265,⟨Go.Proofs.Tryz.t73,_,by kernel_rfl,rfl,rfl,rfl,rfl⟩,by decide,by decide⟩
instance:J6 Go.Proofs.Tryz.prog 290 273 1 16:=⟨Go.Proofs.Tryz.underlying290,⟨Go.Proofs.Tryz.t273,_,by kernel_rfl,rfl,rfl,rfl,rfl⟩,by decide,by decide⟩
instance:J6 Go.Proofs.Tryz.prog 326 280 1 4:=⟨Go.Proofs.Tryz.underlying326,⟨Go.Proofs.Tryz.t280,_,by kernel_rfl,rfl,rfl,rfl,rfl⟩,by decide,by decide⟩
instance:J6 Go.Proofs.Tryz.prog 359 358 2 24:=⟨Go.Proofs.Tryz.underlying359,⟨Go.Proofs.Tryz.t358,_,by kernel_rfl,rfl,rfl,rfl,rfl⟩,by decide,by decide⟩
end TwW
end
end
section
namespace Tw
open Go
variable [G9]
inductive Ord where
 | done
 | yes (i:Nat) (r:Ord)
 | alt (i:Nat) (r s:Ord)
 | no
def NU (g:Gl)(ops:Array Oper):Ord→MD→Env→Bx→Hp→(Env→Bx→Hp→Prop)→Prop
 | .done,_,e,bx,σ,K=>K e bx σ
 | .yes i r,q,e,bx,σ,K=>∃own o v,((Qk q own).ok i&&V9 ops i own)=true∧ops[i]?=some o∧((AY ops e o.guard=true∧Yd g.P e bx (S1 q own σ) o.op o.type v)∨(AY ops e o.guard=false∧v=undef))∧
  (∀t,o.dst=some t→t<g.n)∧NU g ops r (Qk q own) (put e o.dst v) bx σ K
 | .alt i r s,q,e,bx,σ,K=>(AP g ops i e bx σ fun e' I7 σ'=>NT (IU q i) bx σ I7 σ'∧NU g ops r (IU q i) e' I7 σ' K)∧NU g ops s q e bx σ K
 | .no,_,_,_,_,_=>True
def RR (ops:Array Oper)(n:Nat):Ord→Nat→Array Bool→List Nat→Bool
 | .done,f,listed,seen=>decide (f=0)&&seen.isEmpty&&Region.seqB .any ops (ops.size-n) n listed
 | .yes i r,f,listed,seen=>seen.isEmpty&&decide (0<f)&&decide (i<n)&&(Region.ready .any ops listed).contains i&&Region.free .any ops listed i&&RR ops n r (f-1) (listed.setIfInBounds i true) []
 | .alt i r s,f,listed,seen=>decide (0<f)&&decide (i<n)&&(Region.ready .any ops listed).contains i&&RR ops n r (f-1) (listed.setIfInBounds i true) []&&RR ops n s f listed (i::seen)
 | .no,f,listed,seen=>decide (0<f)&&!(Region.ready .any ops listed).isEmpty&&(Region.ready .any ops listed).all seen.contains
def bc (ops:Array Oper)(n:Nat)(plan:Ord)(tail:List Nat):Bool:=
 Region.noSelect ops&&(decide (n=ops.size)||(decide (n<ops.size)&&Region.sinkB .any ops n&&Region.chainB .any ops n)) &&
  decide (tail=List.range' n (ops.size-n))&&RR ops n plan n (Array.replicate ops.size false) []
section regions
variable {g:Gl}{ops:Array Oper}
theorem KI {K:Env→Bx→Hp→Prop}{w0 F}{n:Nat}{tl:List Nat}(Ql:Region.noSelect ops=true)
  (Ja:∀listed,HeadInv .any ops n listed→∀i,i<n→listed.getD i true=false→∀t,n≤t→t ∉ Region.ready .any ops listed)
  (oB:tl=List.range' n (ops.size-n)) :
  ∀(plan:Ord) (f:Nat) (seen:List Nat) (q:MD) (listed:Array Bool) (e:Env) (bx:Bx) (σ:Hp) (a:Act) (w:World),HeadInv .any ops n listed→RR ops n plan f listed seen=true→
   St g.n g.ds w0 F e bx σ a w→NU g ops plan q e bx σ (fun e bx σ=>Seq g ops tl e bx σ K)→
   (∀j∈seen,j∈Region.ready .any ops listed→j<n∧wpOpIn (wd g.JY) 0 g.P ops (Qn g w0 F K) j (fun a' w'=>Sq q σ bx (listed.setIfInBounds j true) w'∧
    JD g.P g.JY .any ops (Qn g w0 F K) (Sq q σ bx) n (fun listed a w=>Region.seqB .any ops (ops.size-n) n listed=true∧wpOpsIn (wd g.JY) 0 g.P ops (Qn g w0 F K) tl a w) (f-1) (listed.setIfInBounds j true) a' w') a w)→
   JD g.P g.JY .any ops (Qn g w0 F K) (Sq q σ bx) n (fun listed a w=>Region.seqB .any ops (ops.size-n) n listed=true∧wpOpsIn (wd g.JY) 0 g.P ops (Qn g w0 F K) tl a w) f listed a w
 | .done,f,seen,_,listed,e,bx,σ,a,w,_,EI,st,h,_=>by
  simp only[RR,AiS,AiW]at EI;obtain⟨⟨rfl,_⟩,EI⟩:=EI;exact⟨EI,PC _ _ _ _ _ _ st h⟩
 | .yes i r,f,seen,q,listed,e,bx,σ,a,w,inv,EI,st,h,_=>by
  obtain⟨own,o,v,hqq,ho,hy,hd,h⟩:=h;simp only[AiS]at hqq;simp only[RR,AiS,AiW]at EI;obtain⟨⟨⟨⟨⟨_,hf0⟩,By⟩,hr⟩,hf⟩,EI⟩:=EI;obtain⟨f,rfl⟩:∃f',f=f'+1:=⟨f-1,by omega⟩;have S3:i∈Region.ready .any ops listed:=by simpa using hr
  refine HA (S':=Sq (Qk q own) σ bx) (G:=fun _=>True) (fun _ _ _=>trivial) (fun _ _ _ h=>h.less) _ _ _ _ trivial ?_;refine QB (Sy:=fun w=>Sat (S1 q own σ) w∧LH bx w) ho (Region.noSelect_spec Ql) ?_ Ja (Sq.set hqq.1) (fun listed w inv bW h=>Sq.own inv bW hqq.2 h) By ?_ _ listed a w inv (Region.free_spec ho hf) S3 ?_ (Sq.of st.sat st.box)
   (KI Ql Ja oB r f [] _ _ _ _ _ _ _ (inv.set S3 By) EI (st.put o.dst v hd) h (fun j hj=>by cases hj))
  ·rintro c a w ⟨⟨h0,h1⟩,h2⟩
   exact⟨⟨h0,by cases Qo:o.dst<;>simpa[Act.put,Qo] using h1⟩,h2⟩
  ·intro listed a w hL;exact seqB_ready hL.1
  ·rcases hy with ⟨hw,hy⟩|⟨hw,rfl⟩
   ·exact .inl ⟨by rw[st.wanted];exact hw,fun w hS=>by rw[st.eval];exact hy o rfl rfl w hS.1 hS.2⟩
   ·exact .inr ⟨by rw[st.wanted];exact hw,rfl⟩
 | .alt i r s,f,seen,q,listed,e,bx,σ,a,w,inv,EI,st,h,uh=>by
  obtain⟨h,hs⟩:=h;simp only[RR,AiS,AiW]at EI;obtain⟨⟨⟨⟨hf0,By⟩,hr⟩,EI⟩,AVi⟩:=EI;have S3:i∈Region.ready .any ops listed:=by simpa using hr
  refine KI Ql Ja oB s f (i::seen) q listed e bx σ a w inv AVi st hs (fun j hj hjr=>?_);rcases AiT.1 hj with rfl|hj
  ·refine⟨By,wpOpIn_mono ?_ (kR (Q:=Qx g w0 F) (fun c a w h=>h) (fun a w h=>h.elim) (h w0 F a w st))⟩
   rintro a' w' ⟨e',I7,σ',RJ,hk,h'⟩
   have hl:(listed.setIfInBounds j true).getD j false=true:=by
    have Aq:j<listed.size:=by rw[inv.size];obtain⟨_,o,ho,_⟩:=mem_ready.1 S3;exact(Array.getElem?_eq_some_iff.1 ho).1
    simp[Aq]
   exact⟨Sq.bX hl hk (Sq.of RJ.sat RJ.box),HA (S':=Sq (IU q j) σ' I7) (G:=fun l=>l.getD j false=true) (fun _ _ h=>getD_set_true h) (fun _ _ hg h=>Sq.bX hg hk h) _ _ _ _ hl
    (KI Ql Ja oB r (f-1) [] _ _ _ _ _ _ _ (inv.set S3 By) EI RJ h' (fun j hj=>by cases hj))⟩
  ·exact uh j hj hjr
 | .no,f,seen,q,listed,e,bx,σ,a,w,inv,EI,st,h,uh=>by
  simp only[RR,AiS,AiW]at EI;obtain⟨⟨hf0,Ah⟩,GJ⟩:=EI;obtain⟨f,rfl⟩:∃f',f=f'+1:=⟨f-1,by omega⟩;exact⟨fun h0=>(by rw[h0]at Ah;cases Ah),fun j hj=>uh j (by simpa using List.all_eq_true.1 GJ j hj) hj⟩
theorem At.ALx {k:List Item}{e:Env}{bx:Bx}{σ:Hp}{c:Code}{id:Nat}{n:Nat}{q:MD}{plan:Ord}{tl:List Nat}(hm:g.P.follows .mixedOrders=true)(hc:c=.region id ops true)
  (hp:bc ops n plan tl=true)
  (h:NU g ops plan q e bx σ (fun e bx σ=>Seq g ops tl e bx σ (fun e bx σ=>At g k e bx σ))):At g (.code c::k) e bx σ:=fun w0 F a w st=>by
 subst hc;simp only[bc,AiS,Ajf,AiW]at hp;obtain⟨⟨⟨Ql,hn⟩,oB⟩,EI⟩:=hp;have hn':n≤ops.size:=by rcases hn with h|h<;>omega
 have Ja:∀listed,HeadInv .any ops n listed→∀i,i<n→listed.getD i true=false→∀t,n≤t→t ∉ Region.ready .any ops listed:=by
  intro listed inv i hi bW t ht;rcases hn with h|⟨⟨h1,h2⟩,h3⟩
  ·intro hr;obtain⟨_,o,ho,_⟩:=mem_ready.1 hr;have:=(Array.getElem?_eq_some_iff.1 ho).1;omega
  ·exact tail_waits h2 h3 h1 inv _ i rfl hi bW t ht
 have AG3:HeadInv .any ops n (Array.replicate ops.size false):=
  ⟨by simp,fun j oj _ hl=>(by rw[getD_replicate_false]at hl;cases hl),fun t _ ht=>getD_in (by simpa using ht) (getD_replicate_false _ _)⟩
 refine Kd.of_wp (K:=fun e bx σ=>At g k e bx σ) (wpIn_region_any hm ?_) (fun _ _ _ h=>h);have H:=KI (K:=fun e bx σ=>At g k e bx σ) (tl:=tl) Ql Ja oB plan n [] q (Array.replicate ops.size false) e bx σ a { w with drawn:=w.drawn+1 } AG3 EI st.drew h (fun j hj=>by cases hj);have:=JZ (g:=ops.size-n) (fun listed a w hL=>Ke _ _ listed a w hL.1 (oB▸hL.2)) _ _ _ _ H;rw[show n+(ops.size-n)=ops.size by omega]at this;exact this
end regions
end Tw
namespace Tw
open Go
section
variable {g:Gl}{ops:Array Oper}{i:Nat}{r s:Ord}{q:MD}{e:Env}{bx:Bx}{σ:Hp}{K:Env→Bx→Hp→Prop}{d:Option Nat}{op:Op}{ty:TypeId}{gd:Option (Nat×Bool)}{v:Value}{L:List (Nat×List Nat)}
end
end Tw
end
section
namespace Tw
open Go
variable [G9]
def nth {α:Type}(d:α):List α→Nat→α
 | [],_=>d
 | x::_,0=>x
 | _::l,n+1=>nth d l n
theorem PH {α:Type}{d:α}:∀{l m:List α} {i:Nat},i<l.length→nth d (l++m) i=nth d l i
 | x::l,m,0,_=>rfl
 | x::l,m,i+1,h=>by simp only[Ai1,nth];exact PH (by simpa using h)
theorem PI {α:Type}{d x:α}:∀{l:List α},nth d (l++[x]) l.length=x
 | []=>rfl
 | _::l=>PI (l:=l)
inductive BK where
 | prop (P:Prop) (i:Decidable P)
 | var (b:Bool)
def BK.val:BK→Bool
 | .prop P i=>@decide P i
 | .var b=>b
def BK.yes:BK→Prop
 | .prop P _=>P
 | .var b=>b=true
def BK.no:BK→Prop
 | .prop P _=>¬P
 | .var b=>b=false
theorem BK.ui {k:BK}(h:k.val=true):k.yes:=by
 cases k with
 | prop P i=>exact @AiP P i h
 | var b=>exact h
theorem BK.AEP {k:BK}(h:k.val=false):k.no:=by
 cases k with
 | prop P i=>exact @Aio P i h
 | var b=>exact h
structure Vl where
 ρ:List (Option Addr)
 β:List BK
 δ:List Nat
inductive PV where
 | lit (p:Option Addr)
 | var (i:Nat)
 | at (b o:Nat)
 | bx (i o:Nat)
def PV.den (v:Vl):PV→Option Addr
 | .lit p=>p
 | .var i=>nth none v.ρ i
 | .at b o=>some ⟨b,o,none⟩
 | .bx i o=>some ⟨nth 0 v.δ i,o,none⟩
def PV.ok (v:Vl):PV→Bool
 | .var i=>Nat.blt i v.ρ.length
 | .bx i _=>Nat.blt i v.δ.length
 | _=>true
inductive DN where
 | int (k:IntKind) (x:Int)
 | num (k:IntKind) (x:Int)
 | bl (b:Bool)
 | bs (i:Nat) (neg:Bool)
 | str (s:ByteArray)
 | sl (p:PV) (n c:Nat)
 | pt (p:PV)
 | fn (f:Nat) (fst cap:Array Value)
 | mp (m:Option Nat)
 | un
 | raw (v:Value)
def DN.den (v:Vl):DN→Value
 | .int k x=>.int k x
 | .num k x=>.int k x
 | .bl b=>.bool b
 | .bs i false=>.bool (nth (.var false) v.β i).val
 | .bs i true=>.bool (!(nth (.var false) v.β i).val)
 | .str s=>.string s
 | .sl p n c=>.slice (p.den v) n c
 | .pt p=>.pointer (p.den v)
 | .fn f a b=>.func (.func f) a b
 | .mp m=>.map m
 | .un=>undef
 | .raw x=>x
def DN.ok (v:Vl):DN→Bool
 | .bs i _=>Nat.blt i v.β.length
 | .sl p _ _=>p.ok v
 | .pt p=>p.ok v
 | _=>true
inductive JQ where
 | a (x:DN)
 | agg (l:List DN)
def Bp (v:Vl):List DN→List Value
 | []=>[]
 | x::l=>x.den v::Bp v l
def oks (v:Vl):List DN→Bool
 | []=>true
 | x::l=>x.ok v&&oks v l
def JQ.den (v:Vl):JQ→Value
 | .a x=>x.den v
 | .agg l=>.agg (Bp v l).toArray
def JQ.ok (v:Vl):JQ→Bool
 | .a x=>x.ok v
 | .agg l=>oks v l
inductive SV where
 | v (x:JQ)
 | Z3 (l:List JQ)
def KJ (v:Vl):List JQ→List Value
 | []=>[]
 | x::l=>x.den v::KJ v l
def qe (v:Vl):List JQ→Bool
 | []=>true
 | x::l=>x.ok v&&qe v l
def SV.den (v:Vl):SV→Value
 | .v x=>x.den v
 | .Z3 l=>.tuple (KJ v l).toArray
def SV.ok (v:Vl):SV→Bool
 | .v x=>x.ok v
 | .Z3 l=>qe v l
abbrev SV.at (x:DN):SV:=.v (.a x)
structure Vl.le (v w:Vl):Prop where
 ρ:∀i,i<v.ρ.length→nth none w.ρ i=nth none v.ρ i
 β:∀i,i<v.β.length→nth (.var false) w.β i=nth (.var false) v.β i
 δ:∀i,i<v.δ.length→nth 0 w.δ i=nth 0 v.δ i
theorem Vl.le.refl (v:Vl):v.le v:=⟨fun _ _=>rfl,fun _ _=>rfl,fun _ _=>rfl⟩
theorem PV.Kg {v w:Vl}(h:v.le w){p:PV}(hp:p.ok v=true):p.den w=p.den v:=by
 cases p with
 | var i=>exact h.ρ i (AjF hp)
 | bx i o=>simp only[PV.den];rw[h.δ i (AjF hp)]
 | _=>rfl
theorem DN.Kg {v w:Vl}(h:v.le w){x:DN}(hp:x.ok v=true):x.den w=x.den v:=by
 cases x with
 | bs i n=>cases n<;>simp only[DN.den]<;>rw[h.β i (AjF hp)]
 | sl p n c=>simp only[DN.den];rw[PV.Kg h hp]
 | pt p=>simp only[DN.den];rw[PV.Kg h hp]
 | _=>rfl
theorem Vc {v w:Vl}(h:v.le w):∀{l:List DN},oks v l=true→Bp w l=Bp v l
 | [],_=>rfl
 | x::l,hp=>by
  simp only[oks,AiS]at hp;simp only[Bp];rw[DN.Kg h hp.1,Vc h hp.2]
theorem JQ.Kg {v w:Vl}(h:v.le w){x:JQ}(hp:x.ok v=true):x.den w=x.den v:=by
 cases x with
 | a x=>exact DN.Kg h hp
 | agg l=>simp only[JQ.den];rw[Vc h hp]
theorem fK {v w:Vl}(h:v.le w):∀{l:List JQ},qe v l=true→KJ w l=KJ v l
 | [],_=>rfl
 | x::l,hp=>by
  simp only[qe,AiS]at hp;simp only[KJ];rw[JQ.Kg h hp.1,fK h hp.2]
theorem SV.Kg {v w:Vl}(h:v.le w){x:SV}(hp:x.ok v=true):x.den w=x.den v:=by
 cases x with
 | v x=>exact JQ.Kg h hp
 | Z3 l=>simp only[SV.den];rw[fK h hp]
def PV.sub (i b o:Nat):PV→PV
 | .var j=>bif Nat.beq j i then .at b o else .var j
 | p=>p
inductive Jd where
 | ptr (i b o:Nat)
 | bool (i:Nat) (t:Bool)
def PV.tell:Jd→PV→PV
 | .ptr i b o,p=>p.sub i b o
 | .bool ..,p=>p
def DN.tell (t:Jd):DN→DN
 | .bs j n=>match t with
  | .bool i b=>bif Nat.beq j i then .bl (bif n then !b else b) else .bs j n
  | _=>.bs j n
 | .sl p n c=>.sl (p.tell t) n c
 | .pt p=>.pt (p.tell t)
 | x=>x
def Jd.holds (v:Vl):Jd→Prop
 | .ptr i b o=>nth none v.ρ i=some ⟨b,o,none⟩
 | .bool i t=>(nth (.var false) v.β i).val=t
theorem PV.GK {v:Vl}{t:Jd}(h:t.holds v){p:PV}:(p.tell t).den v=p.den v:=by
 cases t with
 | bool i t=>rfl
 | ptr i b o=>
  cases p with
  | var j=>
   simp only[PV.tell,PV.sub];cases hj:Nat.beq j i with
   | true=>have:=Ai7 hj;subst this;exact h.symm
   | false=>rfl
  | _=>rfl
theorem DN.GK {v:Vl}{t:Jd}(h:t.holds v){x:DN}:(x.tell t).den v=x.den v:=by
 cases x with
 | bs j n=>
  cases t with
  | ptr i b o=>rfl
  | bool i b=>
   simp only[DN.tell];cases hj:Nat.beq j i with
   | true=>
    have:=Ai7 hj;subst this;simp only[Jd.holds]at h;cases n<;>simp only[DN.den,cond_true,cond_false,h]
   | false=>rfl
 | sl p n c=>simp only[DN.tell,DN.den];rw[PV.GK h]
 | pt p=>simp only[DN.tell,DN.den];rw[PV.GK h]
 | _=>rfl
def tells (t:Jd):List DN→List DN
 | []=>[]
 | x::l=>x.tell t::tells t l
theorem S6 {v:Vl}{t:Jd}(h:t.holds v):∀{l:List DN},Bp v (tells t l)=Bp v l
 | []=>rfl
 | x::l=>by simp only[tells,Bp];rw[DN.GK h,S6 h]
def JQ.tell (t:Jd):JQ→JQ
 | .a x=>.a (x.tell t)
 | .agg l=>.agg (tells t l)
theorem JQ.GK {v:Vl}{t:Jd}(h:t.holds v){x:JQ}:(x.tell t).den v=x.den v:=by
 cases x with
 | a x=>exact DN.GK h
 | agg l=>simp only[JQ.tell,JQ.den];rw[S6 h]
def bd (t:Jd):List JQ→List JQ
 | []=>[]
 | x::l=>x.tell t::bd t l
theorem WI {v:Vl}{t:Jd}(h:t.holds v):∀{l:List JQ},KJ v (bd t l)=KJ v l
 | []=>rfl
 | x::l=>by simp only[bd,KJ];rw[JQ.GK h,WI h]
def SV.tell (t:Jd):SV→SV
 | .v x=>.v (x.tell t)
 | .Z3 l=>.Z3 (bd t l)
theorem SV.GK {v:Vl}{t:Jd}(h:t.holds v){x:SV}:(x.tell t).den v=x.den v:=by
 cases x with
 | v x=>exact JQ.GK h
 | Z3 l=>simp only[SV.tell,SV.den];rw[WI h]
abbrev Hv:=Nat×TypeId×List DN
structure S where
 env:List (Nat×SV)
 bx:List Hv
 vl:Vl
 σ:Hp
def J7 (v:Vl):List (Nat×SV)→List (Nat×Value)
 | []=>[]
 | (t,x)::l=>(t,x.den v)::J7 v l
def okE (v:Vl):List (Nat×SV)→Bool
 | []=>true
 | (_,x)::l=>x.ok v&&okE v l
def oF (t:Jd):List (Nat×SV)→List (Nat×SV)
 | []=>[]
 | (s,x)::l=>(s,x.tell t)::oF t l
def HC (v:Vl):List Hv→Bx
 | []=>[]
 | (i,t,cs)::l=>(nth 0 v.δ i,.cells (Bp v cs).toArray t (0,0))::HC v l
def okB (v:Vl):List Hv→Bool
 | []=>true
 | (i,_,cs)::l=>Nat.blt i v.δ.length&&oks v cs&&okB v l
def oG (t:Jd):List Hv→List Hv
 | []=>[]
 | (i,T,cs)::l=>(i,T,tells t cs)::oG t l
def S.e (J:Env)(s:S):Env:=NS J (J7 s.vl s.env)
def S.b (s:S):Bx:=HC s.vl s.bx
def S.ok (s:S):Bool:=okE s.vl s.env&&okB s.vl s.bx
def S.tell (s:S)(t:Jd):S:=⟨oF t s.env,oG t s.bx,s.vl,s.σ⟩
def S.w (s:S)(v:Vl):S:=⟨s.env,s.bx,v,s.σ⟩
def S.put (s:S)(d:Option Nat)(x:SV):S:=match d with
 | some d=>⟨(d,x)::s.env,s.bx,s.vl,s.σ⟩
 | none=>s
def S.hp (s:S)(σ:Hp):S:=⟨s.env,s.bx,s.vl,σ⟩
theorem oH {v w:Vl}(h:v.le w):∀{l:List (Nat×SV)},okE v l=true→J7 w l=J7 v l
 | [],_=>rfl
 | (t,x)::l,hp=>by
  simp only[okE,AiS]at hp;simp only[J7];rw[SV.Kg h hp.1,oH h hp.2]
theorem oI {v w:Vl}(h:v.le w):∀{l:List Hv},okB v l=true→HC w l=HC v l
 | [],_=>rfl
 | (i,t,cs)::l,hp=>by
  simp only[okB,AiS]at hp;simp only[HC];rw[Vc h hp.1.2,oI h hp.2,h.δ i (AjF hp.1.1)]
theorem Z4 {v:Vl}{t:Jd}(h:t.holds v):∀{l:List (Nat×SV)},J7 v (oF t l)=J7 v l
 | []=>rfl
 | (s,x)::l=>by simp only[oF,J7];rw[SV.GK h,Z4 h]
theorem Z5 {v:Vl}{t:Jd}(h:t.holds v):∀{l:List Hv},HC v (oG t l)=HC v l
 | []=>rfl
 | (i,T,cs)::l=>by simp only[oG,HC];rw[S6 h,Z5 h]
theorem S.e_w {J:Env}{s:S}{v:Vl}(hs:s.ok=true)(h:s.vl.le v):(s.w v).e J=s.e J:=by
 simp only[S.ok,AiS]at hs;simp only[S.e,S.w,oH h hs.1]
theorem S.b_w {s:S}{v:Vl}(hs:s.ok=true)(h:s.vl.le v):(s.w v).b=s.b:=by
 simp only[S.ok,AiS]at hs;simp only[S.b,S.w,oI h hs.2]
theorem S.AHT {J:Env}{s:S}{t:Jd}(h:t.holds s.vl):(s.tell t).e J=s.e J:=by
 simp only[S.e,S.tell,Z4 h]
theorem S.AHU {s:S}{t:Jd}(h:t.holds s.vl):(s.tell t).b=s.b:=by
 simp only[S.b,S.tell,Z5 h]
theorem S.LM {J:Env}{s:S}{d:Option Nat}{x:SV}:(s.put d x).e J=Tw.put (s.e J) d (x.den s.vl):=by
 cases d<;>rfl
theorem S.LN {s:S}{d:Option Nat}{x:SV}:(s.put d x).b=s.b:=by cases d<;>rfl
theorem S.Hw {s:S}{d:Option Nat}{x:SV}:(s.put d x).σ=s.σ:=by cases d<;>rfl
def bh:List (Nat×SV)→Nat→Option SV
 | [],_=>none
 | (t,x)::l,i=>bif Nat.beq i t then some x else bh l i
theorem Gn {v:Vl}{J:Env}:∀{l:List (Nat×SV)} {i:Nat} {x:SV},bh l i=some x→NS J (J7 v l) i=x.den v
 | (t,y)::l,i,x,h=>by
  simp only[bh]at h;simp only[J7,NS,upd];cases hi:Nat.beq i t with
  | true=>rw[hi]at h;simp only[cond_true]at h ⊢;cases h;rfl
  | false=>rw[hi]at h;simp only[cond_false]at h ⊢;exact Gn h
def AHV:Value→DN
 | .int k x=>.num k x
 | .bool b=>.bl b
 | .string s=>.str s
 | .slice p n c=>.sl (.lit p) n c
 | .pointer p=>.pt (.lit p)
 | .map m=>.mp m
 | v=>.raw v
theorem fL {vl:Vl}(v:Value):(AHV v).den vl=v:=by cases v<;>rfl
def UD:List Value→List DN
 | []=>[]
 | x::l=>AHV x::UD l
theorem LO {vl:Vl}:∀l:List Value,Bp vl (UD l)=l
 | []=>rfl
 | x::l=>by simp only[UD,Bp];rw[fL,LO]
def uj:Value→JQ
 | .agg cs=>.agg (UD cs.toList)
 | v=>.a (AHV v)
theorem fM {vl:Vl}(v:Value):(uj v).den vl=v:=by
 cases v
 case agg cs=>simp only[uj,JQ.den,LO]
 all_goals (simp only[uj,JQ.den];exact fL _)
def oJ:List Value→List JQ
 | []=>[]
 | x::l=>uj x::oJ l
theorem Z6 {vl:Vl}:∀l:List Value,KJ vl (oJ l)=l
 | []=>rfl
 | x::l=>by simp only[oJ,KJ];rw[fM,Z6]
def svV:Value→SV
 | .tuple vs=>.Z3 (oJ vs.toList)
 | v=>.v (uj v)
theorem ABa {vl:Vl}(v:Value):(svV v).den vl=v:=by
 cases v
 case tuple cs=>simp only[svV,SV.den,Z6]
 all_goals (simp only[svV,SV.den];exact fM _)
def S.op (s:S):Operand→Option SV
 | .tmp t=>bh s.env t
 | .const v=>some (svV v)
 | .func f=>some (.at (.fn f #[] #[]))
 | .global g=>some (.at (.pt (.at g 0)))
theorem S.ABb {J:Env}{s:S}{x:Operand}{v:SV}(h:s.op x=some v):AD (s.e J) x=v.den s.vl:=by
 cases x with
 | tmp t=>exact Gn h
 | const c=>simp only[S.op,AiO]at h;subst h;exact(ABa c).symm
 | func f=>simp only[S.op,AiO]at h;subst h;rfl
 | global g=>simp only[S.op,AiO]at h;subst h;rfl
def Vl.uo (v:Vl)(p:Option Addr):Vl:=⟨v.ρ++[p],v.β,v.δ⟩
def Vl.kX (v:Vl)(k:BK):Vl:=⟨v.ρ,v.β++[k],v.δ⟩
def Vl.ABc (v:Vl)(b:Nat):Vl:=⟨v.ρ,v.β,v.δ++[b]⟩
theorem Vl.ABd (v:Vl)(p:Option Addr):v.le (v.uo p):=⟨fun _ h=>PH h,fun _ _=>rfl,fun _ _=>rfl⟩
theorem Vl.oK (v:Vl)(k:BK):v.le (v.kX k):=⟨fun _ _=>rfl,fun _ h=>PH h,fun _ _=>rfl⟩
theorem Vl.ABe (v:Vl)(b:Nat):v.le (v.ABc b):=⟨fun _ _=>rfl,fun _ _=>rfl,fun _ h=>PH h⟩
theorem Vl.le.trans {u v w:Vl}(h:u.le v)(g:v.le w)(hl:u.ρ.length≤v.ρ.length∧u.β.length≤v.β.length∧u.δ.length≤v.δ.length):u.le w:=
 ⟨fun i hi=>(g.ρ i (by omega)).trans (h.ρ i hi),fun i hi=>(g.β i (by omega)).trans (h.β i hi),fun i hi=>(g.δ i (by omega)).trans (h.δ i hi)⟩
end Tw
end
section
namespace Tw
open Go
variable [G9]
structure S.LP (s s':S):Prop where
 e:∀J,s'.e J=s.e J
 b:s'.b=s.b
 σ:s'.σ=s.σ
theorem S.LP.refl (s:S):s.LP s:=⟨fun _=>rfl,rfl,rfl⟩
theorem S.LP.trans {s s' s'':S}(h:s.LP s')(g:s'.LP s''):s.LP s'':=⟨fun J=>(g.e J).trans (h.e J),g.b.trans h.b,g.σ.trans h.σ⟩
theorem S.WJ {s:S}{v:Vl}(hs:s.ok=true)(h:s.vl.le v):s.LP (s.w v):=⟨fun J=>S.e_w hs h,S.b_w hs h,rfl⟩
theorem S.LR {s:S}{t:Jd}(h:t.holds s.vl):s.LP (s.tell t):=⟨fun J=>S.AHT h,S.AHU h,rfl⟩
def S.boo (s:S)(k:BK)(neg:Bool)(K:SV→S→Prop):Prop:=
 match s.ok with
 | true=>K (.at (.bs s.vl.β.length neg)) (s.w (s.vl.kX k))
 | false=>False
theorem S.qf {s:S}{k:BK}{neg:Bool}{K:SV→S→Prop}(h:s.boo k neg K):∃v s',s.LP s'∧v.den s'.vl=.bool (bif neg then !k.val else k.val)∧K v s':=by
 unfold S.boo at h;cases hs:s.ok with
 | false=>rw[hs]at h;cases h
 | true=>
  rw[hs]at h;refine⟨_,_,S.WJ hs (Vl.oK _ _),?_,h⟩;cases neg<;>simp only[SV.den,JQ.den,DN.den,S.w,Vl.kX,PI,cond_true,cond_false]
def S.onB (s:S)(i:Nat)(neg:Bool)(K:Bool→S→Prop):Prop:=
 match neg with
 | false=>((nth (.var false) s.vl.β i).yes→K true (s.tell (.bool i true)))∧((nth (.var false) s.vl.β i).no→K false (s.tell (.bool i false)))
 | true=>((nth (.var false) s.vl.β i).no→K true (s.tell (.bool i false)))∧((nth (.var false) s.vl.β i).yes→K false (s.tell (.bool i true)))
theorem S.qg {s:S}{i:Nat}{neg:Bool}{K:Bool→S→Prop}(h:s.onB i neg K):∃t s',s.LP s'∧s'.vl=s.vl∧(DN.bs i neg).den s.vl=.bool t∧K t s':=by
 cases hb:(nth (.var false) s.vl.β i).val with
 | true=>
  cases neg with
  | false=>exact⟨true,_,S.LR (t:=.bool i true) hb,rfl,by simp only[DN.den,hb],h.1 (BK.ui hb)⟩
  | true=>exact⟨false,_,S.LR (t:=.bool i true) hb,rfl,by simp only[DN.den,hb];rfl,h.2 (BK.ui hb)⟩
 | false=>
  cases neg with
  | false=>exact⟨false,_,S.LR (t:=.bool i false) hb,rfl,by simp only[DN.den,hb],h.2 (BK.AEP hb)⟩
  | true=>exact⟨true,_,S.LR (t:=.bool i false) hb,rfl,by simp only[DN.den,hb];rfl,h.1 (BK.AEP hb)⟩
def S.onV (s:S)(v:Option SV)(K:Bool→S→Prop):Prop:=
 match v with
 | some (.v (.a (.bl b)))=>K b s
 | some (.v (.a (.bs i n)))=>s.onB i n K
 | _=>False
theorem S.Hx {s:S}{v:Option SV}{K:Bool→S→Prop}(h:s.onV v K):∃t s' x,s.LP s'∧s'.vl=s.vl∧v=some x∧x.den s.vl=.bool t∧K t s':=by
 unfold S.onV at h;split at h
 ·exact⟨_,s,_,.refl s,rfl,rfl,rfl,h⟩
 ·obtain⟨t,s',h1,h2,h3,h4⟩:=S.qg h;exact⟨t,s',_,h1,h2,rfl,h3,h4⟩
 ·cases h
def S.onP (s:S)(p:PV)(K:PV→S→Prop):Prop:=
 match p with
 | .at b o=>K (.at b o) s
 | .bx i o=>K (.bx i o) s
 | .var i=>∃(b o:Nat),nth none s.vl.ρ i=some ⟨b,o,none⟩∧K (.at b o) (s.tell (.ptr i b o))
 | .lit _=>False
def PV.WK (v:Vl):PV→Nat
 | .at b _=>b
 | .bx i _=>nth 0 v.δ i
 | _=>0
def PV.off:PV→Nat
 | .at _ o=>o
 | .bx _ o=>o
 | _=>0
def PV.mv:PV→Nat→PV
 | .at b _,o=>.at b o
 | .bx i _,o=>.bx i o
 | p,_=>p
def PV.isA:PV→Bool
 | .at ..=>true
 | .bx ..=>true
 | _=>false
theorem PV.MO {v:Vl}{p:PV}(h:p.isA=true):p.den v=some ⟨p.WK v,p.off,none⟩:=by cases p<;>first|rfl|cases h
theorem PV.kY {v:Vl}{p:PV}{o:Nat}(h:p.isA=true):(p.mv o).den v=some ⟨p.WK v,o,none⟩:=by cases p<;>first|rfl|cases h
theorem S.Z7 {s:S}{p:PV}{K:PV→S→Prop}(h:s.onP p K):∃q s',s.LP s'∧s'.vl=s.vl∧q.isA=true∧q.den s.vl=p.den s.vl∧K q s':=by
 unfold S.onP at h;split at h
 ·exact⟨_,s,.refl s,rfl,rfl,rfl,h⟩
 ·exact⟨_,s,.refl s,rfl,rfl,rfl,h⟩
 ·obtain⟨b,o,h1,h2⟩:=h;exact⟨.at b o,_,S.LR (t:=.ptr _ b o) h1,rfl,rfl,h1.symm,h2⟩
 ·cases h
def fN (P:Program)(t:TypeId):Option Nat:=(P.info? t).map (·.size)
theorem EK {P:Program}{t:TypeId}{n:Nat}(h:fN P t=some n):∀w,(Go.sizeOf t).run P w=.ok n w:=fun w=>by
 unfold fN at h;cases hi:P.info? t with
 | none=>rw[hi]at h;cases h
 | some i=>rw[hi]at h;simp only[Aiv,AiO]at h;subst h;simp[Go.sizeOf,typeInfo,hi]
def fO (P:Program)(t:TypeId):Option Bool:=match P.underlying t with
 | some (.struct _)=>some true
 | some (.array _ _)=>some true
 | some _=>some false
 | none=>none
theorem HD {P:Program}{t:TypeId}{b:Bool}(h:fO P t=some b):∀w,(isAgg t).run P w=.ok b w:=fun w=>by
 unfold fO at h;cases hi:P.underlying t with
 | none=>rw[hi]at h;cases h
 | some d=>
  rw[hi]at h;cases d<;>simp only[AiO]at h<;>subst h<;>simp[isAgg,run_underlying hi]
def eW:Option SV→Option (IntKind×Int)
 | some (.v (.a (.int k x)))=>some (k,x)
 | some (.v (.a (.num k x)))=>some (k,x)
 | _=>none
theorem DU {v:Option SV}{k:IntKind}{x:Int}(h:eW v=some (k,x)):∃u,v=some u∧∀vl,u.den vl=.int k x:=by
 unfold eW at h;split at h
 ·cases h;exact⟨_,rfl,fun _=>rfl⟩
 ·cases h;exact⟨_,rfl,fun _=>rfl⟩
 ·cases h
def YP (P:Program)(op:Op)(ty:TypeId)(s:S)(K:SV→S→Prop):Prop:=∃v s',s.LP s'∧(∀J σ,Yd P (s.e J) s.b σ op ty (v.den s'.vl))∧K v s'
def S7 (wr:Bool)(k:IntKind)(z:Int)(s:S)(K:SV→S→Prop):Prop:=
 match wr,k with
 | false,.i64=>AG z∧K (.at (.int .i64 z)) s
 | _,_=>∀x,x=k.wrap z→K (.at (.int k x)) s
theorem bj {wr:Bool}{k:IntKind}{z:Int}{s:S}{K:SV→S→Prop}(h:S7 wr k z s K):∃x,x=k.wrap z∧K (.at (.int k x)) s:=by
 unfold S7 at h;split at h
 ·exact⟨z,h.1.wrap.symm,h.2⟩
 ·exact⟨_,rfl,h _ rfl⟩
def AHX (wr:Bool)(b:BinOp)(k:IntKind)(a:Int)(k':IntKind)(c:Int)(s:S)(K:SV→S→Prop):Prop:=
 match b with
 | .shl=>((0:Int)≤c∧c≤((IntKind.bits k:Nat):Int))∧∀x,x=k.wrap (a*2^c.toNat)→K (.at (.int k x)) s
 | .shr=>((0:Int)≤c∧c≤((IntKind.bits k:Nat):Int))∧∀x,x=a/2^c.toNat→K (.at (.int k x)) s
 | b=>match decide (k=k') with
  | false=>False
  | true=>match b with
   | .lss=>s.boo (.prop (a<c) inferInstance) false K
   | .leq=>s.boo (.prop (a≤c) inferInstance) false K
   | .gtr=>s.boo (.prop (c<a) inferInstance) false K
   | .geq=>s.boo (.prop (c≤a) inferInstance) false K
   | .eql=>s.boo (.prop (a=c) inferInstance) false K
   | .neq=>s.boo (.prop (a≠c) inferInstance) false K
   | .add=>S7 wr k (a+c) s K
   | .sub=>S7 wr k (a-c) s K
   | .mul=>S7 wr k (a*c) s K
   | .and=>∀x,x=Go.bits .and k a c→K (.at (.int k x)) s
   | .or=>∀x,x=Go.bits .or k a c→K (.at (.int k x)) s
   | .xor=>∀x,x=Go.bits .xor k a c→K (.at (.int k x)) s
   | .andNot=>∀x,x=Go.bits .andNot k a c→K (.at (.int k x)) s
   | .quo=>c≠(0:Int)∧∀x,x=k.wrap (a.tdiv c)→K (.at (.int k x)) s
   | .rem=>c≠(0:Int)∧∀x,x=a.tmod c→K (.at (.int k x)) s
   | _=>False
section
variable {P:Program}{s:S}{K:SV→S→Prop}{T T' ty:TypeId}{x y z:Operand}
theorem Kh {op:Op}{k:BK}{neg:Bool}(h:s.boo k neg K)(hy:∀J σ,Yd P (s.e J) s.b σ op ty (.bool (bif neg then !k.val else k.val))):YP P op ty s K:=by
 obtain⟨v,s',h1,h2,h3⟩:=S.qf h;exact⟨v,s',h1,fun J σ=>by rw[h2];exact hy J σ,h3⟩
theorem Ki {op:Op}{k:IntKind}{z:Int}(h:∀x,x=z→K (.at (.int k x)) s)(hy:∀J σ,Yd P (s.e J) s.b σ op ty (.int k z)):YP P op ty s K:=
 ⟨.at (.int k z),s,.refl s,hy,h _ rfl⟩
theorem DE {op:Op}{v:SV}(h:K v s)(hy:∀J σ,Yd P (s.e J) s.b σ op ty (v.den s.vl)):YP P op ty s K:=⟨v,s,.refl s,hy,h⟩
theorem kZ {wr:Bool}{b:BinOp}{k k':IntKind}{a c:Int}(h:AHX wr b k a k' c s K)(hx:∀J,AD (s.e J) x=.int k a)(hy:∀J,AD (s.e J) y=.int k' c):YP P (.binOp b T x y T') ty s K:=by
 have ar:∀{z:Int} {op:Op},S7 wr k z s K→(∀J σ,Yd P (s.e J) s.b σ op ty (.int k (k.wrap z)))→YP P op ty s K:=fun h hy=>by
  obtain⟨x,rfl,h⟩:=bj h;exact DE h hy
 unfold AHX at h;split at h
 ·exact Ki h.2 fun J σ=>Y.shl h.1.1 h.1.2 (hx J) (hy J)
 ·exact Ki h.2 fun J σ=>Y.shr h.1.1 h.1.2 (hx J) (hy J)
 ·split at h
  ·cases h
  ·rename_i hk;have hk:=AiP hk;subst hk;split at h
   ·exact Kh h fun J σ=>Y.lss (hx J) (hy J)
   ·exact Kh h fun J σ=>Y.leq (hx J) (hy J)
   ·exact Kh h fun J σ=>Y.gtr (hx J) (hy J)
   ·exact Kh h fun J σ=>Y.geq (hx J) (hy J)
   ·exact Kh h fun J σ=>Y.eql (hx J) (hy J)
   ·exact Kh h fun J σ=>Y.neq (hx J) (hy J)
   ·exact ar h fun J σ=>Y.add (hx J) (hy J)
   ·exact ar h fun J σ=>Y.sub (hx J) (hy J)
   ·exact ar h fun J σ=>Y.mul (hx J) (hy J)
   ·exact Ki h fun J σ=>Y.bits (by simp) (hx J) (hy J)
   ·exact Ki h fun J σ=>Y.bits (by simp) (hx J) (hy J)
   ·exact Ki h fun J σ=>Y.bits (by simp) (hx J) (hy J)
   ·exact Ki h fun J σ=>Y.bits (by simp) (hx J) (hy J)
   ·exact Ki h.2 fun J σ=>Y.quo h.1 (hx J) (hy J)
   ·exact Ki h.2 fun J σ=>Y.rem h.1 (hx J) (hy J)
   ·cases h
def asS:Option SV→Option ByteArray
 | some (.v (.a (.str u)))=>some u
 | _=>none
def uq:Option SV→Option PV
 | some (.v (.a (.pt p)))=>some p
 | _=>none
theorem fP {v:Option SV}{u:ByteArray}(h:asS v=some u):∃w,v=some w∧∀vl,w.den vl=.string u:=by
 unfold asS at h;split at h
 ·cases h;exact⟨_,rfl,fun _=>rfl⟩
 ·cases h
theorem HE {v:Option SV}{p:PV}(h:uq v=some p):∃w,v=some w∧∀vl,w.den vl=.pointer (p.den vl):=by
 unfold uq at h;split at h
 ·cases h;exact⟨_,rfl,fun _=>rfl⟩
 ·cases h
def ALy (b:BinOp)(u w:ByteArray)(s:S)(K:SV→S→Prop):Prop:=
 match b with
 | .eql=>s.boo (.var (ByteArray.toList u==ByteArray.toList w)) false K
 | .neq=>s.boo (.var (ByteArray.toList u==ByteArray.toList w)) true K
 | .add=>(ByteArray.size u+ByteArray.size w≤9223372036854775807)∧K (.at (.str (u++w))) s
 | _=>False
def isNil:PV→Bool
 | .lit none=>true
 | _=>false
def ALz (b:BinOp)(p q:PV)(s:S)(K:SV→S→Prop):Prop:=
 match isNil q with
 | false=>False
 | true=>match b with
  | .eql=>match p.isA with
   | true=>K (.at (.bl false)) s
   | false=>s.boo (.var (Option.isNone (p.den s.vl))) false K
  | .neq=>match p.isA with
   | true=>K (.at (.bl true)) s
   | false=>s.boo (.var (Option.isSome (p.den s.vl))) false K
  | _=>False
def AL0 (b:BinOp)(x y:Operand)(s:S)(K:SV→S→Prop):Prop:=
 match b with
 | .eql=>s.onV (s.op x) fun t s=>s.onV (s.op y) fun u s=>K (.at (.bl (t==u))) s
 | .neq=>s.onV (s.op x) fun t s=>s.onV (s.op y) fun u s=>K (.at (.bl (!(t==u)))) s
 | _=>False
def AHY (P:Program)(wr:Bool)(b:BinOp)(T:TypeId)(x y:Operand)(s:S)(K:SV→S→Prop):Prop:=
 match eW (s.op x),eW (s.op y) with
 | some (k,a),some (k',c)=>AHX wr b k a k' c s K
 | _,_=>match P.underlying T with
  | some .string=>match asS (s.op x),asS (s.op y) with
   | some u,some w=>ALy b u w s K
   | _,_=>False
  | some (.pointer _)=>match uq (s.op x),uq (s.op y) with
   | some p,some q=>ALz b p q s K
   | _,_=>False
  | some .bool=>AL0 b x y s K
  | _=>False
theorem ev {J:Env}{v:SV}(h:s.op x=some v):AD (s.e J) x=v.den s.vl:=S.ABb h
theorem ka {wr:Bool}{b:BinOp}(h:AHY P wr b T x y s K):YP P (.binOp b T x y T') ty s K:=by
 unfold AHY at h;split at h
 ·rename_i k a k' c h1 h2;obtain⟨u,e1,e2⟩:=DU h1;obtain⟨w,e3,e4⟩:=DU h2;exact kZ h (fun J=>by rw[ev e1,e2]) (fun J=>by rw[ev e3,e4])
 ·split at h
  ·rename_i hT;split at h
   ·rename_i u w h1 h2;obtain⟨_,e1,e2⟩:=fP h1;obtain⟨_,e3,e4⟩:=fP h2;unfold ALy at h;split at h
    ·exact Kh h fun J σ=>Y.AVW hT (by rw[ev e1,e2]) (by rw[ev e3,e4])
    ·exact Kh h fun J σ=>Y.AVX hT (by rw[ev e1,e2]) (by rw[ev e3,e4])
    ·exact DE h.2 fun J σ=>Y.AVh hT (by rw[ev e1,e2]) (by rw[ev e3,e4]) h.1
    ·cases h
   ·cases h
  ·rename_i hT;split at h
   ·rename_i p q h1 h2;obtain⟨_,e1,e2⟩:=HE h1;obtain⟨_,e3,e4⟩:=HE h2;unfold ALz at h;split at h
    ·cases h
    ·rename_i hq;have hqn:q.den s.vl=none:=by
      unfold isNil at hq;split at hq
      ·rfl
      ·cases hq
     have e5:∀J,AD (s.e J) y=.pointer none:=fun J=>by rw[ev e3,e4,hqn]
     split at h
     ·split at h
      ·rename_i hp;exact DE h fun J σ=>by
        have:=Y.uU (P:=P) (e:=s.e J) (bx:=s.b) (σ:=σ) (ty:=ty) (T':=T') hT (x:=x) (y:=y) (q:=p.den s.vl) (by rw[ev e1,e2]) (e5 J);rw[PV.MO hp]at this;exact this
      ·exact Kh h fun J σ=>Y.uU hT (by rw[ev e1,e2]) (e5 J)
     ·split at h
      ·rename_i hp;exact DE h fun J σ=>by
        have:=Y.uV (P:=P) (e:=s.e J) (bx:=s.b) (σ:=σ) (ty:=ty) (T':=T') hT (x:=x) (y:=y) (q:=p.den s.vl) (by rw[ev e1,e2]) (e5 J);rw[PV.MO hp]at this;exact this
      ·exact Kh h fun J σ=>Y.uV hT (by rw[ev e1,e2]) (e5 J)
     ·cases h
   ·cases h
  ·rename_i hT;unfold AL0 at h;split at h
   ·obtain⟨t,s1,v1,h1,h2,h3,h4,h⟩:=S.Hx h;obtain⟨u,s2,v2,g1,g2,g3,g4,h⟩:=S.Hx h;exact⟨_,s2,h1.trans g1,fun J σ=>Y.AVU hT (by rw[ev h3,h4]) (by rw[←h1.e J,ev g3,g4]),h⟩
   ·obtain⟨t,s1,v1,h1,h2,h3,h4,h⟩:=S.Hx h;obtain⟨u,s2,v2,g1,g2,g3,g4,h⟩:=S.Hx h;exact⟨_,s2,h1.trans g1,fun J σ=>Y.AVV hT (by rw[ev h3,h4]) (by rw[←h1.e J,ev g3,g4]),h⟩
   ·cases h
  ·cases h
end
def S.val (s:S)(x:Operand)(K:SV→S→Prop):Prop:=match s.op x with
 | some v=>K v s
 | none=>False
def AEQ (x y z:Operand)(s:S)(K:SV→S→Prop):Prop:=s.onV (s.op z) fun t s=>match t with
 | true=>s.val x K
 | false=>s.val y K
def AHZ (x:Operand)(s:S)(K:SV→S→Prop):Prop:=match s.op x with
 | some (.v (.a (.bl true)))=>K (.at (.bl false)) s
 | some (.v (.a (.bl false)))=>K (.at (.bl true)) s
 | some (.v (.a (.bs i n)))=>K (.at (.bs i (!n))) s
 | _=>False
def AHa (x:Operand)(s:S)(K:SV→S→Prop):Prop:=match eW (s.op x) with
 | some (k,a)=>∀x,x=k.wrap (0-a)→K (.at (.int k x)) s
 | none=>False
def ur (P:Program)(T T':TypeId)(x:Operand)(s:S)(K:SV→S→Prop):Prop:=match (P.underlying T).isSome,P.underlying T' with
 | true,some (.int k')=>match s.op x with
  | some (.v (.a (.num k a)))=>K (.at (.num k' (k'.wrap a))) s
  | some (.v (.a (.int k a)))=>∀x,x=k'.wrap a→K (.at (.int k' x)) s
  | _=>False
 | _,_=>False
def AHb (P:Program)(T:TypeId)(x:Operand)(f:Nat)(s:S)(K:SV→S→Prop):Prop:=match P.underlying T with
 | some (.struct fs)=>match fs[f]? with
  | some fd=>match fN P fd.type,uq (s.op x) with
   | some (_+1),some p=>match p.isA with
    | true=>K (.at (.pt (p.mv (p.off+fd.offset)))) s
    | false=>False
   | _,_=>False
  | none=>False
 | _=>False
def Dg {α:Type}:List α→Nat→Option α
 | [],_=>none
 | x::_,0=>some x
 | _::l,n+1=>Dg l n
def AHc (x:Operand)(i:Nat)(s:S)(K:SV→S→Prop):Prop:=match s.op x with
 | some (.Z3 l)=>match Dg l i with
  | some u=>K (.v u) s
  | none=>False
 | _=>False
def kc (P:Program)(T:TypeId)(x:Operand)(f:Nat)(s:S)(K:SV→S→Prop):Prop:=match P.underlying T,s.op x with
 | some (.struct fs),some (.v (.agg l))=>match fs[f]? with
  | some fd=>match fO P fd.type with
   | some false=>match Dg l fd.offset with
    | some u=>K (.at u) s
    | none=>False
   | some true=>match fN P fd.type with
    | some n=>K (.v (.agg ((l.drop fd.offset).take n))) s
    | none=>False
   | none=>False
  | none=>False
 | _,_=>False
def isNum:Option SV→Bool
 | some (.v (.a (.num _ _)))=>true
 | _=>false
def AHd (P:Program)(T:TypeId)(x y:Operand)(s:S)(K:SV→S→Prop):Prop:=match eW (s.op y) with
 | none=>False
 | some (_,i)=>match P.underlying T with
  | some (.slice E)=>match fN P E,s.op x with
   | some z,some (.v (.a (.sl p n c)))=>s.onP p fun q s=>((0:Int)≤i∧i<((n:Nat):Int))∧K (.at (.pt (q.mv (q.off+i.toNat*z)))) s
   | _,_=>False
  | some (.array n E)=>match fN P E,uq (s.op x) with
   | some z,some p=>match p.isA with
    | false=>False
    | true=>match isNum (s.op y) with
     | true=>match decide (0≤i∧i<(n:Int)) with
      | true=>K (.at (.pt (p.mv (p.off+i.toNat*z)))) s
      | false=>False
     | false=>((0:Int)≤i∧i<((n:Nat):Int))∧K (.at (.pt (p.mv (p.off+i.toNat*z)))) s
   | _,_=>False
  | _=>False
def fQ:List DN→Option (List ByteArray)
 | []=>some []
 | .str w::l=>match fQ l with
  | some r=>some (w::r)
  | none=>none
 | _::_=>none
def uu (P:Program)(T:TypeId)(x y:Operand)(s:S)(K:SV→S→Prop):Prop:=match P.underlying T,s.op x,eW (s.op y) with
 | some .string,some (.v (.a (.str w))),some (_,i)=>∃u:UInt8,(0:Int)≤i∧(ByteArray.data w)[Int.toNat i]?=some u∧K (.at (.int .u8 ((UInt8.toNat u:Nat):Int))) s
 | some (.array n E),some (.v (.agg l)),some (_,i)=>match fO P E,fN P E,fQ l with
  | some false,some 1,some r=>((0:Int)≤i∧i<((n:Nat):Int))∧∃u:ByteArray,r[Int.toNat i]?=some u∧K (.at (.str u)) s
  | _,_,_=>False
 | _,_,_=>False
def AHe (x:Operand)(s:S)(K:SV→S→Prop):Prop:=match s.op x with
 | some (.v (.a (.fn f a b)))=>K (.at (.fn f a b)) s
 | some (.v (.a (.pt p)))=>s.onP p fun q s=>K (.at (.pt q)) s
 | _=>False
def S.WL (s:S):List Operand→Option (List SV)
 | []=>some []
 | x::l=>match s.op x,s.WL l with
  | some v,some r=>some (v::r)
  | _,_=>none
def D8 (vl:Vl):List SV→List Value
 | []=>[]
 | x::l=>x.den vl::D8 vl l
def AHf (fn:Fn)(xs ys:Array Operand)(s:S)(K:SV→S→Prop):Prop:=match fn with
 | .func f=>match s.WL xs.toList,s.WL ys.toList with
  | some a,some b=>K (.at (.fn f (D8 s.vl a).toArray (D8 s.vl b).toArray)) s
  | _,_=>False
 | _=>False
def ke (P:Program)(T:TypeId)(x:Operand)(s:S)(K:SV→S→Prop):Prop:=match P.underlying T with
 | some d=>match isIf d with
  | false=>match s.op x with
   | some v=>K (.at (.raw (.iface T (v.den s.vl)))) s
   | none=>False
  | true=>False
 | none=>False
def AHg (P:Program)(x:Operand)(ts:Array TypeId)(s:S)(K:SV→S→Prop):Prop:=match ts.toList,s.op x with
 | [T],some (.v (.a (.sl _ n _)))=>match P.underlying T with
  | some (.slice _)=>K (.at (.int .i64 ((n:Nat):Int))) s
  | _=>False
 | [T],some (.v (.a (.str w)))=>match P.underlying T with
  | some .string=>K (.at (.int .i64 ((ByteArray.size w:Nat):Int))) s
  | _=>False
 | _,_=>False
def AHh (P:Program)(x:Operand)(ts:Array TypeId)(s:S)(K:SV→S→Prop):Prop:=match ts.toList,s.op x with
 | [T],some (.v (.a (.sl _ _ c)))=>match P.underlying T with
  | some (.slice _)=>K (.at (.int .i64 ((c:Nat):Int))) s
  | _=>False
 | _,_=>False
section
variable {P:Program}{s:S}{K:SV→S→Prop}{T T' ty:TypeId}{x y z:Operand}
theorem Z8 {op:Op}(h:s.val x K)(hy:∀v J σ,AD (s.e J) x=v→Yd P (s.e J) s.b σ op ty v):YP P op ty s K:=by
 unfold S.val at h;split at h
 ·rename_i v hv;exact DE h fun J σ=>hy _ J σ (ev hv)
 ·cases h
theorem fR (h:AEQ x y z s K):YP P (.pick z x y) ty s K:=by
 obtain⟨t,s1,v1,h1,h2,h3,h4,h⟩:=S.Hx h;have hz:∀J,AD (s.e J) z=.bool t:=fun J=>by rw[ev h3,h4]
 cases t with
 | true=>
  simp only[S.val]at h;split at h
  ·rename_i v hv;exact⟨v,s1,h1,fun J σ=>Y.AEI (hz J) (by rw[←h1.e J];exact ev hv),h⟩
  ·cases h
 | false=>
  simp only[S.val]at h;split at h
  ·rename_i v hv;exact⟨v,s1,h1,fun J σ=>Y.AEJ (hz J) (by rw[←h1.e J];exact ev hv),h⟩
  ·cases h
theorem kg (h:AHZ x s K):YP P (.unOp .not T x) ty s K:=by
 unfold AHZ at h;split at h
 ·rename_i hv;exact DE h fun J σ=>Y.not (p:=true) (by rw[ev hv];rfl)
 ·rename_i hv;exact DE h fun J σ=>Y.not (p:=false) (by rw[ev hv];rfl)
 ·rename_i i n hv;refine DE h fun J σ=>?_;cases n with
  | false=>exact Y.not (by rw[ev hv];rfl)
  | true=>
   have:=Y.not (P:=P) (e:=s.e J) (bx:=s.b) (σ:=σ) (ty:=ty) (T:=T) (x:=x) (p:=!(nth (.var false) s.vl.β i).val) (by rw[ev hv];rfl);rw[Bool.not_not]at this;exact this
 ·cases h
theorem kh (h:AHa x s K):YP P (.unOp .neg T x) ty s K:=by
 unfold AHa at h;split at h
 ·rename_i k a hv;obtain⟨u,e1,e2⟩:=DU hv;exact Ki h fun J σ=>Y.neg (by rw[ev e1,e2])
 ·cases h
theorem fS (h:ur P T T' x s K):YP P (.convert T T' x) ty s K:=by
 unfold ur at h;split at h
 ·rename_i h1 h2;split at h
  ·rename_i hv;exact DE h fun J σ=>Y.conv h1 h2 (by rw[ev hv];rfl)
  ·rename_i hv;exact Ki h fun J σ=>Y.conv h1 h2 (by rw[ev hv];rfl)
  ·cases h
 ·cases h
theorem ki {f:Nat}(h:AHb P T x f s K):YP P (.fieldAddr T x f) ty s K:=by
 unfold AHb at h;split at h
 ·rename_i fs hT;split at h
  ·rename_i fd hf;split at h
   ·rename_i n p hz hp;split at h
    ·rename_i hA;obtain⟨u,e1,e2⟩:=HE hp;refine DE h fun J σ=>?_;have:=Y.fieldAddr (P:=P) (e:=s.e J) (bx:=s.b) (σ:=σ) (ty:=ty) (x:=x) (a':=⟨p.WK s.vl,p.off+fd.offset,none⟩) hT hf (EK hz) (by rw[ev e1,e2,PV.MO hA]) rfl;simpa only[SV.den,JQ.den,DN.den,PV.kY hA] using this
    ·cases h
   ·cases h
  ·cases h
 ·cases h
theorem S8 {vl:Vl}:∀{l:List DN} {i:Nat} {u:DN},Dg l i=some u→(Bp vl l)[i]?=some (u.den vl)
 | x::l,0,u,h=>by simp only[Dg,AiO]at h;subst h;rfl
 | x::l,i+1,u,h=>by simp only[Dg]at h;simp only[Bp,Ai3];exact S8 h
theorem WM {vl:Vl}:∀{l:List JQ} {i:Nat} {u:JQ},Dg l i=some u→(KJ vl l)[i]?=some (u.den vl)
 | x::l,0,u,h=>by simp only[Dg,AiO]at h;subst h;rfl
 | x::l,i+1,u,h=>by simp only[Dg]at h;simp only[KJ,Ai3];exact WM h
theorem WN (vl:Vl):∀l:List DN,Bp vl l=l.map (DN.den vl)
 | []=>rfl
 | x::l=>by simp only[Bp,Ai4];rw[WN vl l]
theorem kj {i:Nat}(h:AHc x i s K):YP P (.extract x i) ty s K:=by
 unfold AHc at h;split at h
 ·rename_i l hv;split at h
  ·rename_i u hu;exact DE h fun J σ=>Y.extract (by rw[ev hv];rfl) (by simpa[SV.den] using WM hu)
  ·cases h
 ·cases h
theorem bm {f:Nat}(h:kc P T x f s K):YP P (.field T x f) ty s K:=by
 unfold kc at h;split at h
 ·rename_i fs l hT hv;split at h
  ·rename_i fd hf;split at h
   ·rename_i ha;split at h
    ·rename_i u hu;exact DE h fun J σ=>Y.AG6 hT hf (HD ha) (by rw[ev hv];rfl) (by simpa[SV.den,JQ.den] using S8 hu)
    ·cases h
   ·rename_i ha;split at h
    ·rename_i n hn;refine DE h fun J σ=>?_;have:=Y.AG7 (P:=P) (e:=s.e J) (bx:=s.b) (σ:=σ) (ty:=ty) (x:=x) hT hf (HD ha) (EK hn) (cs:=(Bp s.vl l).toArray) (by rw[ev hv];rfl) (cs':=(Bp s.vl ((l.drop fd.offset).take n)).toArray) (by simp[WN,List.extract_eq_take_drop]);exact this
    ·cases h
   ·cases h
  ·cases h
 ·cases h
theorem kl (h:AHd P T x y s K):YP P (.indexAddr T x y) ty s K:=by
 unfold AHd at h;split at h
 ·cases h
 ·rename_i k i hi;obtain⟨u,e1,e2⟩:=DU hi;have hy:∀J,AD (s.e J) y=.int k i:=fun J=>by rw[ev e1,e2]
  split at h
  ·rename_i E hT;split at h
   ·rename_i z p n c hz hv;obtain⟨q,s',h1,h2,h3,h4,h5,h⟩:=S.Z7 h;refine⟨_,s',h1,fun J σ=>?_,h⟩;have:=Y.idx (P:=P) (e:=s.e J) (bx:=s.b) (σ:=σ) (ty:=ty) (x:=x) (y:=y) (a':=⟨q.WK s.vl,q.off+i.toNat*z,none⟩) hT (EK hz) (b:=q.WK s.vl) (o:=q.off) (n:=n) (c:=c) (by
     rw[ev hv];show Value.slice (p.den s.vl) n c=_;rw[←h4,PV.MO h3]) (hy J) h5 rfl
    simpa only[SV.den,JQ.den,DN.den,h2,PV.kY h3] using this
   ·cases h
  ·rename_i n E hT;split at h
   ·rename_i z p hz hp;obtain⟨u2,e3,e4⟩:=HE hp;split at h
    ·cases h
    ·rename_i hA;have go:(0≤i∧i<(n:Int))→K (.at (.pt (p.mv (p.off+i.toNat*z)))) s→YP P (.indexAddr T x y) ty s K:=fun hr hk=>by
      refine DE hk fun J σ=>?_;have:=Y.AVN (P:=P) (e:=s.e J) (bx:=s.b) (σ:=σ) (ty:=ty) (x:=x) (y:=y) (a':=⟨p.WK s.vl,p.off+i.toNat*z,none⟩) hT (EK hz) (b:=p.WK s.vl) (o:=p.off) (by rw[ev e3,e4,PV.MO hA]) (hy J) hr rfl;simpa only[SV.den,JQ.den,DN.den,PV.kY hA] using this
     split at h
     ·split at h
      ·rename_i hd;exact go (AiP hd) h
      ·cases h
     ·exact go h.1 h.2
   ·cases h
  ·cases h
theorem Z9 {vl:Vl}:∀{l:List DN} {r:List ByteArray},fQ l=some r→Bp vl l=r.map .string
 | [],r,h=>by simp only[fQ,AiO]at h;subst h;rfl
 | x::l,r,h=>by
  cases x<;>simp only[fQ]at h<;>try (cases h;done)
  split at h
  ·rename_i r' h1;cases h;simp only[Bp,Ai4,Z9 h1];rfl
  ·cases h
theorem fT (h:uu P T x y s K):YP P (.index T x y) ty s K:=by
 unfold uu at h;split at h
 ·rename_i w k i hT hx hy;obtain⟨u2,e3,e4⟩:=DU hy;obtain⟨u,h0,h1,h⟩:=h;exact DE h fun J σ=>Y.AG9 hT (by rw[ev hx];rfl) (by rw[ev e3,e4]) h0 h1
 ·rename_i n E l k i hT hx hy;obtain⟨u2,e3,e4⟩:=DU hy;split at h
  ·rename_i r ha hz hr;obtain⟨h0,u,h1,h⟩:=h;refine DE h fun J σ=>Y.AG8 hT (HD ha) (EK hz) (cs:=(Bp s.vl l).toArray) (by rw[ev hx];rfl) (by rw[ev e3,e4]) h0 ?_;rw[Z9 hr];simp[h1]
  ·cases h
 ·cases h
theorem km (h:AHe x s K):YP P (.nilCheck x) ty s K:=by
 unfold AHe at h;split at h
 ·rename_i hv;exact DE h fun J σ=>Y.qc (by rw[ev hv];rfl)
 ·rename_i p hv;obtain⟨q,s',h1,h2,h3,h4,h⟩:=S.Z7 h;refine⟨_,s',h1,fun J σ=>?_,h⟩;have:=Y.nilCheck (P:=P) (e:=s.e J) (bx:=s.b) (σ:=σ) (ty:=ty) (x:=x) (a:=⟨q.WK s.vl,q.off,none⟩) (by
   rw[ev hv];show Value.pointer (p.den s.vl)=_;rw[←h4,PV.MO h3])
  simpa only[SV.den,JQ.den,DN.den,h2,PV.MO h3] using this
 ·cases h
theorem FX:∀{l:List Operand} {r:List SV} {J:Env},s.WL l=some r→l.map (AD (s.e J))=D8 s.vl r
 | [],r,J,h=>by simp only[S.WL,AiO]at h;subst h;rfl
 | x::l,r,J,h=>by
  simp only[S.WL]at h;split at h
  ·rename_i v r' h1 h2;cases h;simp only[Ai4,D8];rw[ev h1,FX h2]
  ·cases h
theorem ko {fn:Fn}{xs ys:Array Operand}(h:AHf fn xs ys s K):YP P (.makeFunc fn xs ys) ty s K:=by
 unfold AHf at h;split at h
 ·split at h
  ·rename_i a b h1 h2;exact DE h fun J σ=>Y.makeFunc (by simpa using FX h1) (by simpa using FX h2)
  ·cases h
 ·cases h
theorem bn (h:ke P T x s K):YP P (.makeInterface T x) ty s K:=by
 unfold ke at h;split at h
 ·rename_i d hT;split at h
  ·rename_i hd;split at h
   ·rename_i v hv;exact DE h fun J σ=>Y.iface hT hd (ev hv)
   ·cases h
  ·cases h
 ·cases h
theorem kr {ts:Array TypeId}(h:AHg P x ts s K):YP P (.call { callee:=.builtin .len,args:=#[x],argTypes:=ts }) ty s K:=by
 unfold AHg at h;split at h
 ·rename_i T p n c h1 hv;have ZB:ts=#[T]:=by rw[←Aip];simpa using h1
  split at h
  ·rename_i hT;exact DE h fun J σ=>Y.AG4 hT (by rw[ev hv];rfl) ZB
  ·cases h
 ·rename_i T w h1 hv;have ZB:ts=#[T]:=by rw[←Aip];simpa using h1
  split at h
  ·rename_i hT;exact DE h fun J σ=>Y.AG5 hT (by rw[ev hv];rfl) ZB
  ·cases h
 ·cases h
theorem ks {ts:Array TypeId}(h:AHh P x ts s K):YP P (.call { callee:=.builtin .cap,args:=#[x],argTypes:=ts }) ty s K:=by
 unfold AHh at h;split at h
 ·rename_i T p n c h1 hv;have ZB:ts=#[T]:=by rw[←Aip];simpa using h1
  split at h
  ·rename_i hT;exact DE h fun J σ=>Y.AVM hT (by rw[ev hv];rfl) ZB
  ·cases h
 ·cases h
end
def isZero:Option SV→Bool
 | some (.v (.a (.num _ 0)))=>true
 | _=>false
def ku (P:Program)(T:TypeId)(x:Operand)(lo hi:Option Operand)(s:S)(K:SV→S→Prop):Prop:=match P.underlying T,s.op x with
 | some (.slice E),some (.v (.a (.sl p n c)))=>match fN P E with
  | none=>False
  | some z=>match lo,hi with
   | none,none=>True∧K (.at (.sl p n c)) s
   | none,some h=>match eW (s.op h) with
    | some (_,h)=>((0:Int)≤h∧h≤((c:Nat):Int))∧K (.at (.sl p (Int.toNat h) c)) s
    | none=>False
   | some l,none=>match isZero (s.op l) with
    | true=>((0:Int)≤0∧(0:Int)≤((n:Nat):Int))∧K (.at (.sl p n c)) s
    | false=>match eW (s.op l) with
     | some (_,l)=>((0:Int)≤l∧l≤((n:Nat):Int))∧K (.at (.sl (.lit (MK (p.den s.vl) (Int.toNat l) c z)) (n-Int.toNat l) (c-Int.toNat l))) s
     | none=>False
   | some l,some h=>match eW (s.op h) with
    | none=>False
    | some (_,h)=>match isZero (s.op l) with
     | true=>((0:Int)≤0∧(0:Int)≤h∧h≤((c:Nat):Int))∧K (.at (.sl p (Int.toNat h) c)) s
     | false=>match eW (s.op l) with
      | some (_,l)=>((0:Int)≤l∧l≤h∧h≤((c:Nat):Int))∧K (.at (.sl (.lit (MK (p.den s.vl) (Int.toNat l) c z)) (Int.toNat h-Int.toNat l) (c-Int.toNat l))) s
      | none=>False
 | _,_=>False
def ABg {α:Type}:List α→Nat→α→List α
 | [],_,_=>[]
 | _::l,0,y=>y::l
 | x::l,n+1,y=>x::ABg l n y
def kv:List DN→Nat→List DN→List DN
 | c,_,[]=>c
 | c,o,x::l=>kv (ABg c o x) (o+1) l
def DN.one:DN→Bool
 | .raw v=>v.oneCell'
 | _=>true
def SV.flat:SV→Option (List DN)
 | .v (.a x)=>match x.one with
  | true=>some [x]
  | false=>none
 | .v (.agg l)=>some l
 | .Z3 _=>none
def aA (place:Nat→Option (Nat×Nat)):List DN→List (Nat×SV)→Option (List DN)
 | c,[]=>some c
 | c,(i,v)::r=>match place i,v.flat with
  | some (off,z),some l=>match decide (l.length≠z)||decide (off+l.length > c.length) with
   | true=>none
   | false=>aA place (kv c off l) r
  | _,_=>none
def S.parts (s:S):List (Nat×Operand)→Option (List (Nat×SV))
 | []=>some []
 | (i,x)::l=>match s.op x,s.parts l with
  | some v,some r=>some ((i,v)::r)
  | _,_=>none
def Qq (vl:Vl):List (Nat×SV)→List (Nat×Value)
 | []=>[]
 | (i,x)::l=>(i,x.den vl)::Qq vl l
def RS (P:Program):List Field→Option (List (Nat×Nat))
 | []=>some []
 | f::l=>match fN P f.type,RS P l with
  | some z,some r=>some ((f.offset,z)::r)
  | _,_=>none
def kx (P:Program)(T:TypeId)(ps:List (Nat×SV)):Option (List DN):=
 match P.info? T,P.underlying T with
 | some it,some (.array _ e)=>match it.zero,fN P e with
  | some z,some ie=>aA (fun i=>some (i*ie,ie)) (UD z.cells.toList) ps
  | _,_=>none
 | some it,some (.struct fs)=>match it.zero,RS P fs.toList with
  | some z,some pl=>aA (fun i=>Dg pl i) (UD z.cells.toList) ps
  | _,_=>none
 | _,_=>none
def ky (P:Program)(T:TypeId)(ps:Array (Nat×Operand))(s:S)(K:SV→S→Prop):Prop:=match s.parts ps.toList with
 | none=>False
 | some vs=>match kx P T vs with
  | some l=>K (.v (.agg l)) s
  | none=>False
section
variable {P:Program}{s:S}{K:SV→S→Prop}{T T' ty:TypeId}{x y z:Operand}
theorem UE {J:Env}(h:isZero (s.op x)=true):∃k,AD (s.e J) x=.int k 0:=by
 cases hv:s.op x with
 | none=>rw[hv]at h;cases h
 | some v=>
  rw[hv]at h;unfold isZero at h;split at h
  ·rename_i k hk;cases hk;exact⟨k,by rw[ev hv];rfl⟩
  ·cases h
theorem bo {lo hi:Option Operand}(h:ku P T x lo hi s K):YP P (.slice T x lo hi none) ty s K:=by
 unfold ku at h;split at h
 ·rename_i E p n c hT hv;have hx:∀J,AD (s.e J) x=.slice (p.den s.vl) n c:=fun J=>by rw[ev hv];rfl
  split at h
  ·cases h
  ·rename_i z hz;split at h
   ·exact DE h.2 fun J σ=>Y.sla hT (EK hz) (hx J) trivial
   ·split at h
    ·rename_i h1;obtain⟨u,e1,e2⟩:=DU h1;exact DE h.2 fun J σ=>Y.slh hT (EK hz) (hx J) (by rw[ev e1,e2]) h.1
    ·cases h
   ·split at h
    ·rename_i hz0;exact DE h.2 fun J σ=>Y.AVT hT (EK hz) (hx J) (UE hz0).choose_spec h.1
    ·split at h
     ·rename_i h1;obtain⟨u,e1,e2⟩:=DU h1;exact DE h.2 fun J σ=>Y.sll hT (EK hz) (hx J) (by rw[ev e1,e2]) h.1
     ·cases h
   ·split at h
    ·cases h
    ·rename_i h2;obtain⟨u,e1,e2⟩:=DU h2;split at h
     ·rename_i hz0;exact DE h.2 fun J σ=>Y.ALq hT (EK hz) (hx J) (UE hz0).choose_spec (by rw[ev e1,e2]) h.1
     ·split at h
      ·rename_i h1;obtain⟨u2,e3,e4⟩:=DU h1;exact DE h.2 fun J σ=>Y.ALp hT (EK hz) (hx J) (by rw[ev e3,e4]) (by rw[ev e1,e2]) h.1
      ·cases h
 ·cases h
theorem aB {vl:Vl}{a:DN}:∀{l:List DN} {i:Nat},Bp vl (ABg l i a)=(Bp vl l).set i (a.den vl)
 | [],_=>rfl
 | x::l,0=>rfl
 | x::l,i+1=>by simp only[ABg,Bp,List.set_cons_succ];rw[aB]
theorem WO {vl:Vl}:∀{l c:List DN} {o:Nat},(Bp vl (kv c o l)).toArray=Qp (Bp vl c).toArray o (Bp vl l)
 | [],_,_=>rfl
 | x::l,c,o=>by
  simp only[kv,Bp,Qp];rw[WO,aB];simp
theorem aC:∀(l:List Value) (c:Array Value) (off k:Nat),(l.zipIdx k).foldl (fun cs (x:Value×Nat)=>cs.setIfInBounds (off+x.2) x.1) c=Qp c (off+k) l
 | [],c,off,k=>rfl
 | x::l,c,off,k=>by
  simp only[List.zipIdx_cons,Ajb,Qp];rw[aC l _ off (k+1)];rfl
theorem E8 {vl:Vl}:∀l:List DN,(Bp vl l).length=l.length
 | []=>rfl
 | x::l=>by simp only[Bp,AjB];rw[E8]
theorem fU {vl:Vl}{v:SV}{l:List DN}(h:v.flat=some l):(v.den vl).cells=(Bp vl l).toArray:=by
 unfold SV.flat at h;split at h
 ·rename_i x;split at h
  ·rename_i h1;cases h;simp only[SV.den,JQ.den,Bp];cases x<;>try rfl
   case bs i n=>cases n<;>rfl
   case raw v=>cases v<;>first|rfl|cases h1
  ·cases h
 ·cases h;rfl
 ·cases h
theorem S9 {vl:Vl}{place:Nat→Option (Nat×Nat)}:∀{ps:List (Nat×SV)} {c out:List DN},aA place c ps=some out→Instr.fill place (Bp vl c).toArray (Qq vl ps)=some (Bp vl out).toArray
 | [],c,out,h=>by simp only[aA,AiO]at h;subst h;rfl
 | (i,v)::r,c,out,h=>by
  simp only[aA]at h;split at h
  ·rename_i off z l h1 h2;split at h
   ·cases h
   ·rename_i hd;simp only[Bool.or_eq_false_iff,Aik]at hd;have hc:=fU (vl:=vl) h2;have:=S9 (vl:=vl) h;simp only[Qq,Instr.fill,h1,hc];have hs:((Bp vl l).toArray.size≠z||off+(Bp vl l).toArray.size > (Bp vl c).toArray.size)=false:=by
     simp[E8];omega
    rw[AiK (by simpa using hs)];rw[←this]
    congr 1
    rw[WO];have h9:=aC (Bp vl l) (Bp vl c).toArray off 0;rw[AjH]at h9;rw[←h9];simp
  ·cases h
theorem Qr {J:Env}:∀{l:List (Nat×Operand)} {r:List (Nat×SV)},s.parts l=some r→l.map (fun p=>(p.1,AD (s.e J) p.2))=Qq s.vl r
 | [],r,h=>by simp only[S.parts,AiO]at h;subst h;rfl
 | (i,x)::l,r,h=>by
  simp only[S.parts]at h;split at h
  ·rename_i v r' h1 h2;cases h;simp only[Ai4,Qq];rw[ev h1,Qr h2]
  ·cases h
theorem RT:∀{l:List Field} {r:List (Nat×Nat)},RS P l=some r→l.mapM (fun f=>(P.info? f.type).map fun i=>(f.offset,i.size))=some r
 | [],r,h=>by simp only[RS,AiO]at h;subst h;rfl
 | f::l,r,h=>by
  simp only[RS]at h;split at h
  ·rename_i z r' h1 h2;cases h;unfold fN at h1;cases hi:P.info? f.type with
   | none=>rw[hi]at h1;cases h1
   | some i=>
    rw[hi]at h1;simp only[Aiv,AiO]at h1;subst h1;simp[List.mapM_cons,hi,RT h2]
  ·cases h
theorem oL {α:Type}:∀(l:List α) (i:Nat),Dg l i=l[i]?
 | [],_=>by simp[Dg]
 | x::l,0=>rfl
 | x::l,i+1=>by simp only[Dg,Ai3];exact oL l i
theorem kz {vl:Vl}{ps:List (Nat×SV)}{l:List DN}(h:kx P T ps=some l):P.built T (Qq vl ps)=some (Bp vl l).toArray:=by
 unfold kx at h;unfold Program.built;split at h
 ·rename_i it n e h1 h2;rw[h1,h2];split at h
  ·rename_i z ie h3 h4;unfold fN at h4;cases hi:P.info? e with
   | none=>rw[hi]at h4;cases h4
   | some i=>
    rw[hi]at h4;simp only[Aiv,AiO]at h4;subst h4;have:=S9 (vl:=vl) h;rw[LO]at this;simpa[h3,hi] using this
  ·cases h
 ·rename_i it fs h1 h2;rw[h1,h2];split at h
  ·rename_i z pl h3 h4;have:=S9 (vl:=vl) h;rw[LO]at this;have h5:=RT h4;simp only[h3,h5];simpa[oL] using this
  ·cases h
 ·cases h
theorem br {ps:Array (Nat×Operand)}(h:ky P T ps s K):YP P (.build T ps) ty s K:=by
 unfold ky at h;split at h
 ·cases h
 ·rename_i vs hv;split at h
  ·rename_i l hl;exact DE h fun J σ=>Y.build (Qr hv) (kz hl)
  ·cases h
end
end Tw
end
section
namespace Tw
open Go
variable [G9]
structure Vl.Le (v w:Vl):Prop where
 le:v.le w
 ln:v.ρ.length≤w.ρ.length∧v.β.length≤w.β.length∧v.δ.length≤w.δ.length
theorem Vl.Le.refl (v:Vl):v.Le v:=⟨.refl v,AiV _,AiV _,AiV _⟩
theorem Vl.Le.trans {u v w:Vl}(h:u.Le v)(g:v.Le w):u.Le w:=⟨h.le.trans g.le h.ln,by have:=h.ln;have:=g.ln;omega⟩
theorem Vl.oM (v:Vl)(p:Option Addr):v.Le (v.uo p):=⟨v.ABd p,by simp[Vl.uo]⟩
theorem Vl.oN (v:Vl)(k:BK):v.Le (v.kX k):=⟨v.oK k,by simp[Vl.kX]⟩
def exA (P:Program)(t:TypeId)(vl:Vl)(k:DN→Vl→Prop):Prop:=match P.underlying t with
 | some (.int kd)=>∃x:Int,k (.int kd x) vl
 | some .bool=>∃b:Bool,k (.bs vl.β.length false) (vl.kX (.var b))
 | some (.slice _)=>∃p:Option Addr,∃n:Nat,∃c:Nat,k (.sl (.var vl.ρ.length) n c) (vl.uo p)
 | some .string=>∃w:ByteArray,k (.str w) vl
 | some (.pointer _)=>∃q:Option Addr,k (.pt (.var vl.ρ.length)) (vl.uo q)
 | some (.map _ _)=>∃m:Option Nat,k (.mp m) vl
 | _=>∃v:Value,k (.raw v) vl
def AHi (P:Program):List TypeId→Vl→(List DN→Vl→Prop)→Prop
 | [],vl,k=>k [] vl
 | t::l,vl,k=>exA P t vl fun a vl=>AHi P l vl fun r vl=>k (a::r) vl
def uw (P:Program):Nat→TypeId→List TypeId
 | 0,t=>[t]
 | f+1,t=>match P.underlying t with
  | some (.struct fs)=>(fs.toList.map fun fd=>uw P f fd.type).flatten
  | some (.array n e)=>(List.replicate n (uw P f e)).flatten
  | _=>[t]
def small (P:Program)(t:TypeId):Bool:=match fO P t,fN P t with
 | some true,some n=>Nat.ble n 24
 | _,_=>false
def ex1 (P:Program)(t:TypeId)(vl:Vl)(k:JQ→Vl→Prop):Prop:=match small P t with
 | true=>AHi P (uw P 40 t) vl fun l vl=>k (.agg l) vl
 | false=>exA P t vl fun a vl=>k (.a a) vl
def AHj (P:Program):List TypeId→Vl→(List JQ→Vl→Prop)→Prop
 | [],vl,k=>k [] vl
 | t::l,vl,k=>ex1 P t vl fun a vl=>AHj P l vl fun r vl=>k (a::r) vl
def exV (P:Program)(t:TypeId)(vl:Vl)(k:SV→Vl→Prop):Prop:=match P.underlying t with
 | some (.tuple ts)=>AHj P ts.toList vl fun l vl=>k (.Z3 l) vl
 | some (.float d)=>∃x:Nat,k (.v (.a (.raw (.float d x)))) vl
 | some (.complex d)=>∃x:Nat,∃y:Nat,k (.v (.a (.raw (.complex d x y)))) vl
 | _=>ex1 P t vl fun a vl=>k (.v a) vl
def aF (P:Program)(t:TypeId)(vl:Vl)(k:SV→Vl→Prop):Prop:=match P.underlying t with
 | some (.func _ _ _)=>∃f:Fn,∃a:Array Value,∃c:Array Value,k (.v (.a (.raw (.func f a c)))) vl
 | _=>exV P t vl k
section
variable {P:Program}
theorem aG {t:TypeId}{vl:Vl}{k:DN→Vl→Prop}(h:exA P t vl k):∃a w,vl.Le w∧k a w:=by
 unfold exA at h;split at h
 ·obtain⟨x,h⟩:=h;exact⟨_,_,.refl _,h⟩
 ·obtain⟨x,h⟩:=h;exact⟨_,_,Vl.oN _ _,h⟩
 ·obtain⟨p,n,c,h⟩:=h;exact⟨_,_,Vl.oM _ _,h⟩
 ·obtain⟨x,h⟩:=h;exact⟨_,_,.refl _,h⟩
 ·obtain⟨x,h⟩:=h;exact⟨_,_,Vl.oM _ _,h⟩
 ·obtain⟨x,h⟩:=h;exact⟨_,_,.refl _,h⟩
 ·obtain⟨x,h⟩:=h;exact⟨_,_,.refl _,h⟩
theorem WQ:∀{l:List TypeId} {vl:Vl} {k:List DN→Vl→Prop},AHi P l vl k→∃a w,vl.Le w∧k a w
 | [],vl,k,h=>⟨_,_,.refl _,h⟩
 | t::l,vl,k,h=>by
  obtain⟨a,w,h1,h⟩:=aG h;obtain⟨r,w2,h2,h⟩:=WQ h;exact⟨_,_,h1.trans h2,h⟩
theorem Gp {t:TypeId}{vl:Vl}{k:JQ→Vl→Prop}(h:ex1 P t vl k):∃a w,vl.Le w∧k a w:=by
 unfold ex1 at h;split at h
 ·obtain⟨a,w,h1,h⟩:=WQ h;exact⟨_,_,h1,h⟩
 ·obtain⟨a,w,h1,h⟩:=aG h;exact⟨_,_,h1,h⟩
theorem WR:∀{l:List TypeId} {vl:Vl} {k:List JQ→Vl→Prop},AHj P l vl k→∃a w,vl.Le w∧k a w
 | [],vl,k,h=>⟨_,_,.refl _,h⟩
 | t::l,vl,k,h=>by
  obtain⟨a,w,h1,h⟩:=Gp h;obtain⟨r,w2,h2,h⟩:=WR h;exact⟨_,_,h1.trans h2,h⟩
theorem aH {t:TypeId}{vl:Vl}{k:SV→Vl→Prop}(h:exV P t vl k):∃a w,vl.Le w∧k a w:=by
 unfold exV at h;split at h
 ·obtain⟨a,w,h1,h⟩:=WR h;exact⟨_,_,h1,h⟩
 ·obtain⟨x,h⟩:=h;exact⟨_,_,.refl _,h⟩
 ·obtain⟨x,y,h⟩:=h;exact⟨_,_,.refl _,h⟩
 ·obtain⟨a,w,h1,h⟩:=Gp h;exact⟨_,_,h1,h⟩
theorem qh {t:TypeId}{vl:Vl}{k:SV→Vl→Prop}(h:aF P t vl k):∃a w,vl.Le w∧k a w:=by
 unfold aF at h;split at h
 ·obtain⟨f,a,c,h⟩:=h;exact⟨_,_,.refl _,h⟩
 ·exact aH h
end
def S.ex (s:S)(P:Program)(t:TypeId)(K:SV→S→Prop):Prop:=match s.ok with
 | true=>exV P t s.vl fun v vl=>K v (s.w vl)
 | false=>False
theorem S.WS {s:S}{P:Program}{t:TypeId}{K:SV→S→Prop}(h:s.ex P t K):∃v s',s.LP s'∧K v s':=by
 unfold S.ex at h;cases hs:s.ok with
 | false=>rw[hs]at h;cases h
 | true=>
  rw[hs]at h;obtain⟨v,w,h1,h⟩:=aH h;exact⟨v,_,S.WJ hs h1.le,h⟩
def eqV (x:SV)(vl:Vl)(v:Value)(F:Prop):Prop:=match x with
 | .v (.a (.raw u))=>u=v∧F
 | x=>v=x.den vl∧F
theorem qi {x:SV}{vl:Vl}{v:Value}{F:Prop}(h:eqV x vl v F):v=x.den vl∧F:=by
 unfold eqV at h;split at h
 ·exact⟨h.1.symm,h.2⟩
 ·exact h
def fV:List Hv→Nat→Option (TypeId×List DN)
 | [],_=>none
 | (i,t,cs)::l,j=>bif Nat.beq i j then some (t,cs) else fV l j
theorem NV {vl:Vl}:∀{l:List Hv} {j:Nat} {t:TypeId} {cs:List DN},fV l j=some (t,cs)→(nth 0 vl.δ j,Obj.cells (Bp vl cs).toArray t (0,0))∈HC vl l
 | (i,u,ds)::l,j,t,cs,h=>by
  simp only[fV]at h;cases hi:Nat.beq i j with
  | true=>
   rw[hi]at h;simp only[cond_true,AiO,Ajr]at h;obtain⟨rfl,rfl⟩:=h;have:=Ai7 hi;subst this;exact Aih ..
  | false=>
   rw[hi]at h;simp only[cond_false]at h;exact AiX _ (NV h)
def ldV (P:Program)(T:TypeId)(x:Operand)(s:S)(K:Option Nat→SV→S→Prop):Prop:=match uq (s.op x) with
 | some (.bx i o)=>match fV s.bx i,fO P T with
  | some (_,cs),some true=>match fN P T with
   | some n=>match decide (((cs.drop o).take n).length=n) with
    | true=>K none (.v (.agg ((cs.drop o).take n))) s
    | false=>False
   | none=>False
  | some (_,cs),some false=>match Dg cs o with
   | some u=>K none (.at u) s
   | none=>False
  | _,_=>False
 | some (.at b o)=>match fO P T,fN P T with
  | some true,some n=>s.ex P T fun v s=>match v with
   | .v (.agg l)=>match decide (l.length=n) with
    | true=>Ae s.σ b o (Bp s.vl l)∧K (some b) v s
    | false=>False
   | _=>False
  | some false,some _=>s.ex P T fun v s=>Hp.ld s.σ ⟨b,o,none⟩=some (v.den s.vl)∧K (some b) v s
  | _,_=>False
 | _=>False
theorem Hp.ux {σ:Hp}{b o:Nat}{v:Value}(h:Hp.ld σ ⟨b,o,none⟩=some v):Hp.ld (fun x=>if x=b then σ x else none) ⟨b,o,none⟩=some v:=by
 unfold Hp.ld at *;simpa using h
theorem Ae.lim {σ:Hp}{b:Nat}:∀{l:List Value} {o:Nat},Ae σ b o l→Ae (fun x=>if x=b then σ x else none) b o l
 | [],_,_=>trivial
 | v::l,o,h=>⟨Hp.ux h.1,Ae.lim h.2⟩
theorem aI {P:Program}{T ty:TypeId}{x:Operand}{s:S}{K:Option Nat→SV→S→Prop}(h:ldV P T x s K):
  ∃m v s',s.LP s'∧K m v s'∧∀J,match m with
   | none=>∀σ,Yd P (s.e J) s.b σ (.load T x) ty (v.den s'.vl)
   | some b=>Yd P (s.e J) s.b (fun x=>if x=b then s.σ x else none) (.load T x) ty (v.den s'.vl):=by
 unfold ldV at h;split at h
 ·rename_i i o hp;obtain⟨u,e1,e2⟩:=HE hp;have hx:∀J,AD (s.e J) x=.pointer (some ⟨nth 0 s.vl.δ i,o,none⟩):=fun J=>by rw[ev e1,e2];rfl
  split at h
  ·rename_i t cs hb ha;split at h
   ·rename_i n hn;split at h
    ·rename_i hd;have hd:=AiP hd;refine⟨none,_,s,.refl s,h,fun J σ=>?_⟩;have:=Y.AVO (P:=P) (e:=s.e J) (bx:=s.b) (σ:=σ) (ty:=ty) (vs:=Bp s.vl ((cs.drop o).take n)) (HD ha) (EK hn) (by rw[E8];exact hd) (hx J) (NV hb) (by simp[WN]);exact this
    ·cases h
   ·cases h
  ·rename_i t cs hb ha;split at h
   ·rename_i u hu;exact⟨none,_,s,.refl s,h,fun J σ=>Y.ldb (HD ha) (hx J) (NV hb) (by simpa[SV.den,JQ.den] using S8 hu)⟩
   ·cases h
  ·cases h
 ·rename_i b o hp;obtain⟨u,e1,e2⟩:=HE hp;have hx:∀J,AD (s.e J) x=.pointer (some ⟨b,o,none⟩):=fun J=>by rw[ev e1,e2];rfl
  split at h
  ·rename_i n ha hn;obtain⟨v,s',h1,h⟩:=S.WS h;split at h
   ·rename_i l;split at h
    ·rename_i hd;have hd:=AiP hd;refine⟨some b,_,s',h1,h.2,fun J=>?_⟩;have hl:=h.1;rw[h1.σ]at hl;exact Y.lda (HD ha) (EK hn) (by rw[E8];exact hd) (hx J) hl.lim
    ·cases h
   ·cases h
  ·rename_i n ha hn;obtain⟨v,s',h1,h⟩:=S.WS h;have hl:=h.1;rw[h1.σ]at hl;exact⟨some b,_,s',h1,h.2,fun J=>Y.ld (HD ha) (hx J) (Hp.ux hl)⟩
  ·cases h
 ·cases h
def yv (P:Program)(wr:Bool)(op:Op)(s:S)(K:SV→S→Prop):Prop:=match op with
 | .move x=>s.val x K
 | .assign x=>s.val x K
 | .pick z x y=>AEQ x y z s K
 | .binOp b T x y _=>AHY P wr b T x y s K
 | .unOp u _ x=>match u with
  | .not=>AHZ x s K
  | .neg=>AHa x s K
  | _=>False
 | .convert T T' x=>ur P T T' x s K
 | .fieldAddr T x f=>AHb P T x f s K
 | .field T x f=>kc P T x f s K
 | .extract x i=>AHc x i s K
 | .indexAddr T x y=>AHd P T x y s K
 | .index T x y=>uu P T x y s K
 | .nilCheck x=>AHe x s K
 | .makeFunc fn xs ys=>AHf fn xs ys s K
 | .build T ps=>ky P T ps s K
 | .makeInterface T x=>ke P T x s K
 | .slice T x lo hi mx=>match mx with
  | none=>ku P T x lo hi s K
  | some _=>False
 | .call c=>match c.callee,c.args.toList with
  | .builtin .len,[x]=>AHg P x c.argTypes s K
  | .builtin .cap,[x]=>AHh P x c.argTypes s K
  | .builtin .min,[x,y]=>match eW (s.op x),eW (s.op y) with
   | some (k,a),some (_,b)=>K (.at (.int k (if(b:Int)<a then b else a))) s
   | _,_=>False
  | .builtin .max,[x,y]=>match eW (s.op x),eW (s.op y) with
   | some (k,a),some (_,b)=>K (.at (.int k (if(a:Int)<b then b else a))) s
   | _,_=>False
  | _,_=>False
 | _=>False
theorem fW {P:Program}{wr:Bool}{op:Op}{ty:TypeId}{s:S}{K:SV→S→Prop}(h:yv P wr op s K):YP P op ty s K:=by
 unfold yv at h;split at h
 ·exact Z8 h fun v J σ hv=>Y.move hv
 ·exact Z8 h fun v J σ hv=>Y.assign hv
 ·exact fR h
 ·exact ka h
 ·split at h
  ·exact kg h
  ·exact kh h
  ·cases h
 ·exact fS h
 ·exact ki h
 ·exact bm h
 ·exact kj h
 ·exact kl h
 ·exact fT h
 ·exact km h
 ·exact ko h
 ·exact br h
 ·exact bn h
 ·split at h
  ·exact bo h
  ·cases h
 ·rename_i c;obtain⟨ce,AiJ,ts⟩:=c;split at h
  ·rename_i x h1 h2;simp only at h1 h2 h;have:AiJ=#[x]:=by rw[←Aip];simpa using h2
   subst this h1;exact kr h
  ·rename_i x h1 h2;simp only at h1 h2 h;have:AiJ=#[x]:=by rw[←Aip];simpa using h2
   subst this h1;exact ks h
  ·rename_i x y h1 h2;simp only at h1 h2 h;have:AiJ=#[x,y]:=by rw[←Aip];simpa using h2
   subst this h1;split at h
   ·rename_i k a k' b hx hy;obtain⟨u,e1,e2⟩:=DU hx;obtain⟨v,e3,e4⟩:=DU hy;exact DE h fun J σ=>Y.min2 (by rw[ev e1,e2]) (by rw[ev e3,e4])
   ·cases h
  ·rename_i x y h1 h2;simp only at h1 h2 h;have:AiJ=#[x,y]:=by rw[←Aip];simpa using h2
   subst this h1;split at h
   ·rename_i k a k' b hx hy;obtain⟨u,e1,e2⟩:=DU hx;obtain⟨v,e3,e4⟩:=DU hy;exact DE h fun J σ=>Y.max2 (by rw[ev e1,e2]) (by rw[ev e3,e4])
   ·cases h
  ·cases h
 ·cases h
end Tw
end
section
namespace Tw
open Go
variable [G9]
def qj:List Nat→Nat→Bool
 | [],_=>false
 | x::l,n=>Nat.beq x n||qj l n
theorem fX:∀{l:List Nat} {n:Nat},qj l n=true→n∈l
 | x::l,n,h=>by
  simp only[qj,Ajf]at h;rcases h with h|h
  ·exact(Ai7 h)▸Aih ..
  ·exact AiX _ (fX h)
def AH (P:Program)(l:List Nat):Prop:=∀f∈l,Enters P f
theorem AH.nil {P:Program}:AH P []:=fun f h=>by cases h
theorem AH.cons {P:Program}{f:Nat}{l:List Nat}(h:Enters P f)(hl:AH P l):AH P (f::l):=fun x hx=>by
 rcases AiT.1 hx with rfl|hx
 ·exact h
 ·exact hl x hx
abbrev KP:=Hp→Hp→Prop→Prop
def Je (gen:Vl→(SV→Vl→Prop)→Prop)(dst:Option Nat)(s:S)(σ0:Hp)(v:Value)(kp:KP)(K:S→Prop):Prop:=match dst with
 | none=>kp σ0 s.σ (K s)
 | some d=>match s.ok with
  | true=>gen s.vl fun x vl=>eqV x vl v (kp σ0 s.σ (K ((s.w vl).put (some d) x)))
  | false=>False
def aJ (gen:Vl→(SV→Vl→Prop)→Prop):Prop:=∀vl k,gen vl k→∃a w,vl.Le w∧k a w
theorem NW {P:Program}{t:TypeId}:aJ (aF P t):=fun _ _ h=>qh h
def uy:Vl→(SV→Vl→Prop)→Prop:=fun vl k=>∃m:Nat,k (.at (.mp (some m))) vl
theorem qk:aJ uy:=fun vl k ⟨m,h⟩=>⟨_,_,.refl _,h⟩
def uz:Vl→(SV→Vl→Prop)→Prop:=fun vl k=>∃v:Value,k (.at (.raw v)) vl
theorem ql:aJ uz:=fun vl k ⟨m,h⟩=>⟨_,_,.refl _,h⟩
def Vd (P:Program)(t:TypeId)(two:Bool):Vl→(SV→Vl→Prop)→Prop:=fun vl k=>match two with
 | false=>ex1 P t vl fun a vl=>k (.v a) vl
 | true=>ex1 P t vl fun a vl=>∃b:Bool,k (.Z3 [a,.a (.bs vl.β.length false)]) (vl.kX (.var b))
theorem k8 {P:Program}{t:TypeId}{two:Bool}:aJ (Vd P t two):=fun vl k h=>by
 cases two with
 | false=>unfold Vd at h;obtain⟨a,w,h1,h⟩:=Gp h;exact⟨_,_,h1,h⟩
 | true=>unfold Vd at h;obtain⟨a,w,h1,b,h⟩:=Gp h;exact⟨_,_,h1.trans (Vl.oN _ _),h⟩
def u4 (P:Program)(t u:TypeId):Vl→(SV→Vl→Prop)→Prop:=fun vl k=>ex1 P t vl fun a vl=>ex1 P u vl fun b vl=>k (.Z3 [a,b]) vl
theorem qm {P:Program}{t u:TypeId}:aJ (u4 P t u):=fun vl k h=>by
 obtain⟨a,w,h1,h⟩:=Gp h;obtain⟨b,w2,h2,h⟩:=Gp h;exact⟨_,_,h1.trans h2,h⟩
def St' (J:Env)(s:S)(kq:Hp→Hp→Prop)(K:S→Prop):Env→Bx→Hp→Prop:=fun e' I7 σ'=>∃s',e'=s'.e J∧I7=s'.b∧σ'=s'.σ∧kq s.σ σ'∧(∀p∈s.b,p∈I7)∧K s'
theorem Av {gen:Vl→(SV→Vl→Prop)→Prop}(hg:aJ gen){dst:Option Nat}{s:S}{σ1:Hp}{v:Value}{kp:KP}{kq:Hp→Hp→Prop}{K:S→Prop}(Sk:∀σ0 σ1 F,kp σ0 σ1 F→F∧kq σ0 σ1)
  (h:Je gen dst (s.hp σ1) s.σ v kp K) (J:Env):St' J s kq K (put (s.e J) dst v) s.b σ1:=by
 cases dst with
 | none=>
  obtain⟨h1,h2⟩:=Sk _ _ _ h;exact⟨s.hp σ1,rfl,rfl,rfl,h2,fun _ h=>h,h1⟩
 | some d=>
  simp only[Je]at h;cases hs:(s.hp σ1).ok with
  | false=>rw[hs]at h;cases h
  | true=>
   rw[hs]at h;obtain⟨x,w,hle,h⟩:=hg _ _ h;obtain⟨hv,h⟩:=qi h;obtain⟨h1,h2⟩:=Sk _ _ _ h;have UF:=S.WJ hs hle.le;refine⟨_,?_,?_,?_,h2,fun _ h=>h,h1⟩
   ·rw[S.LM,UF.e J,hv];rfl
   ·rw[S.LN,UF.b];rfl
   ·rw[S.Hw];rfl
def S.boxed (s:S)(d:Option Nat)(b:Nat)(T:TypeId)(cs:List DN):S:=
 S.put ⟨s.env,(s.vl.δ.length,T,cs)::s.bx,s.vl.ABc b,s.σ⟩ d (.at (.pt (.bx s.vl.δ.length 0)))
def ABh (hid:Bool)(d:Option Nat)(T:TypeId)(cs:List DN)(s:S)(K:S→Prop):Prop:=match hid with
 | true=>match s.ok&&oks s.vl cs with
  | true=>∀b:Nat,K (s.boxed d b T cs)
  | false=>False
 | false=>∀b:Nat,s.σ b=none→K ((s.hp (Hp.set s.σ b (.cells (Bp s.vl cs).toArray T (0,0)))).put d (.at (.pt (.at b 0))))
def u5 (P:Program)(T:TypeId):Option Value:=match P.info? T with
 | some it=>it.zero
 | none=>none
theorem aK {P:Program}{T:TypeId}{z:Value}(h:u5 P T=some z):∀w,(zeroValue T).run P w=.ok z w:=fun w=>by
 unfold u5 at h;split at h
 ·rename_i it hi;simp[zeroValue,typeInfo,hi,h]
 ·cases h
structure k9 where
 P:Program
 R:Rr
 RU:List Nat
 hid:List Nat
 wr:Bool
def k9.oO (c:k9)(d:Option Nat):Bool:=match d with
 | some d=>qj c.hid d
 | none=>false
def EN (P:Program)(f:FuncId)(args:Array Value)(σ:Hp)(Φ:Value→Hp→Prop):Prop:=
 ∀w (F:Nat→Prop),Sat σ w→(∀b,F b→b<w.heap.size∧σ b=none)→∃v w' σ',(callFunc f args).run P w=.ok (.value v) w'∧Φ v σ'∧Fin σ' F w w'
theorem EN.y {P:Program}{f:FuncId}{args:Array Value}{σ:Hp}{v:Value}{Φ:Value→Hp→Prop}(hy:YN P f args σ v)(h:Φ v σ):EN P f args σ Φ:=fun w F hs hF=>
 ⟨v,w,σ,hy w hs,h,hs,fun b hb=>⟨(hF b hb).2,rfl⟩,.same rfl rfl rfl,rfl,AiV _⟩
theorem EN.mono {P:Program}{f:FuncId}{args:Array Value}{σ:Hp}{Φ Ψ:Value→Hp→Prop}(h:EN P f args σ Φ)(hh:∀v σ',Φ v σ'→Ψ v σ'):EN P f args σ Ψ:=fun w F hs hF=>
 let ⟨v,w',σ',h1,h2,h3⟩:=h w F hs hF
 ⟨v,w',σ',h1,hh _ _ h2,h3⟩
theorem AP.en {g:Gl}{ops:Array Oper}{i:Nat}{d:Option Nat}{ty:TypeId}{gd:Option (Nat×Bool)}{e:Env}{bx:Bx}{σ:Hp}{K:Env→Bx→Hp→Prop}{x:Operand}{xs:Array Operand}{ts:Array TypeId}{f:FuncId}{args:Array Value}
  (hs:sig ops i=some (d,.call { callee:=.value x,args:=xs,argTypes:=ts },ty,gd)) (hw:AY ops e gd=true) (hd:J1 d g.n=true) (hx:AD e x=.func (.func f) #[] #[]) (M6:xs.toList.map (AD e)=args.toList)
  (h:EN g.P f args σ fun v σ'=>K (put e d v) bx σ'):AP g ops i e bx σ K:=by
 intro w0 F a w st;obtain⟨o,ho,rfl,A6,DJ,rfl⟩:=DD hs;refine Dk ho (by rw[st.wanted];exact hw) ?_;obtain⟨v,w',σ',h1,h2,h3⟩:=h w _ st.sat st.lt;rw[st.eval];have M6:xs.map (AD e)=args:=by rw[←Aip];simpa using M6
 have Bz:(execOp (AD e) o).run g.P w=.ok (.value v) w':=by
  simp only[execOp,A6,resolve,hx,M6,Deferred.ofValue,invoke,bind,Sem.bind,pure,Array.empty_append,Array.append_empty];exact h1
 rw[E6 Bz (fun d=>by simp)];exact⟨_,_,_,(st.fin h3).put _ _ (J1.lt hd),h2⟩
def u6 (c:k9)(dst:Option Nat)(x:Operand)(xs:List Operand)(ty:TypeId)(s:S)(kp:KP)(K:S→Prop):Prop:=match s.op x,s.WL xs with
 | some (.v (.a (.fn f a b))),some vs=>match qj c.RU f with
  | true=>Spec c.P f (a.toList++(D8 s.vl vs++b.toList)).toArray s.σ (BB c.R fun v σ1=>Je (aF c.P ty) dst (s.hp σ1) s.σ v kp K)
  | false=>match Nat.beq (a.size+b.size) 0 with
   | true=>EN c.P f (D8 s.vl vs).toArray s.σ (fun v σ1=>Je (aF c.P ty) dst (s.hp σ1) s.σ v kp K)
   | false=>False
 | some (.v (.a (.raw u))),some vs=>match qj c.hid 100000 with
  | true=>∃l:Nat,u=.func (.yield l) #[] #[]∧LL c.P l (D8 s.vl vs).toArray s.σ (BB c.R fun v σ1=>Je (aF c.P ty) dst (s.hp σ1) s.σ v kp K)
  | false=>∃(f:Nat) (fst cap:Array Value),u=.func (.func f) fst cap∧Enters c.P f∧Spec c.P f (fst++(D8 s.vl vs).toArray++cap) s.σ (BB c.R fun v σ1=>Je (aF c.P ty) dst (s.hp σ1) s.σ v kp K)
 | _,_=>False
def biV (c:k9)(dst:Option Nat)(b:Builtin)(xs:List Operand)(ts:Array TypeId)(ty:TypeId)(s:S)(kp:KP)(K:S→Prop):Prop:=match s.WL xs with
 | none=>False
 | some vs=>match b,xs with
  | .append,[_,_]=>AK c.P (Builtin.append_ ts ty (D8 s.vl vs).toArray) s.σ (fun v σ1=>Je (aF c.P ty) dst (s.hp σ1) s.σ v kp K)
  | .copy,[_,_]=>AK c.P (Builtin.copy_ ts ty (D8 s.vl vs).toArray) s.σ (fun v σ1=>Je (aF c.P ty) dst (s.hp σ1) s.σ v kp K)
  | .delete,[_,_]=>AK c.P (Builtin.delete_ ts ty (D8 s.vl vs).toArray) s.σ (fun v σ1=>Je (aF c.P ty) dst (s.hp σ1) s.σ v kp K)
  | .clear,[_]=>AK c.P (Builtin.clear_ ts ty (D8 s.vl vs).toArray) s.σ (fun v σ1=>Je (aF c.P ty) dst (s.hp σ1) s.σ v kp K)
  | .real,[_]=>AK c.P (Builtin.real_ ts ty (D8 s.vl vs).toArray) s.σ (fun v σ1=>Je (aF c.P ty) dst (s.hp σ1) s.σ v kp K)
  | .imag,[_]=>AK c.P (Builtin.imag_ ts ty (D8 s.vl vs).toArray) s.σ (fun v σ1=>Je (aF c.P ty) dst (s.hp σ1) s.σ v kp K)
  | .complex,[_,_]=>AK c.P (Builtin.complex_ ts ty (D8 s.vl vs).toArray) s.σ (fun v σ1=>Je (aF c.P ty) dst (s.hp σ1) s.σ v kp K)
  | .unsafeString,[_,_]=>AK c.P (Builtin.unsafeString_ ts ty (D8 s.vl vs).toArray) s.σ (fun v σ1=>Je (aF c.P ty) dst (s.hp σ1) s.σ v kp K)
  | .min,[_,_]=>AK c.P (Builtin.min_ ts ty (D8 s.vl vs).toArray) s.σ (fun v σ1=>Je (aF c.P ty) dst (s.hp σ1) s.σ v kp K)
  | .max,[_,_]=>AK c.P (Builtin.max_ ts ty (D8 s.vl vs).toArray) s.σ (fun v σ1=>Je (aF c.P ty) dst (s.hp σ1) s.σ v kp K)
  | _,_=>False
def flB:BinOp→Bool
 | .add=>true
 | .sub=>true
 | .mul=>true
 | .quo=>true
 | _=>false
def AHl (P:Program)(T:TypeId):Bool:=match P.underlying T with
 | some (.float _)=>true
 | _=>false
def qn (c:k9)(dst:Option Nat)(op:Op)(ty:TypeId)(s:S)(kp:KP)(K:S→Prop):Prop:=match op with
 | .call cl=>match cl.callee with
  | .value x=>u6 c dst x cl.args.toList ty s kp K
  | .builtin b=>biV c dst b cl.args.toList cl.argTypes ty s kp K
  | _=>False
 | .binOp b T x y _=>match flB b,s.op x,s.op y with
  | true,some u,some v=>AK c.P (binOp b T (u.den s.vl) (v.den s.vl)) s.σ (fun v σ1=>Je (aF c.P ty) dst (s.hp σ1) s.σ v kp K)
  | _,_,_=>False
 | .box T x=>match s.op x with
  | some v=>match v.flat with
   | some cs=>ABh (c.oO dst) dst T cs s K
   | none=>False
  | none=>False
 | .alloc T=>match u5 c.P T with
  | some z=>ABh (c.oO dst) dst T (UD z.cells.toList) s K
  | none=>False
 | .buildSlice T m ps=>match c.P.underlying T,s.parts ps.toList with
  | some (.slice E),some vs=>match Program.ML c.P E m (Qq s.vl vs) with
   | some cs=>∀b:Nat,s.σ b=none→K ((s.hp (Hp.set s.σ b (.cells cs E (0,0)))).put dst (.at (.sl (.at b 0) m m)))
   | none=>False
  | _,_=>False
 | .store T x y=>match dst,uq (s.op x),s.op y with
  | none,some (.at b o),some v=>AK c.P (Instr.storeAt T (.pointer (some ⟨b,o,none⟩)) (v.den s.vl)) s.σ (fun _ σ1=>kp s.σ σ1 (K (s.hp σ1)))
  | _,_,_=>False
 | .convert T T' x=>match s.op x with
  | some v=>AK c.P (convert T T' (v.den s.vl)) s.σ (fun v σ1=>Je (aF c.P ty) dst (s.hp σ1) s.σ v kp K)
  | none=>False
 | .makeMap T none=>AK c.P (Instr.makeMap T none) s.σ (fun v σ1=>Je uy dst (s.hp σ1) s.σ v kp K)
 | .lookup T x y two=>match c.P.underlying T,s.op x,s.op y with
  | some (.map _ t),some u,some v=>AK c.P (Instr.lookup T (u.den s.vl) (v.den s.vl) two) s.σ (fun v σ1=>Je (Vd c.P t two) dst (s.hp σ1) s.σ v kp K)
  | _,_,_=>False
 | .range T x=>match s.op x with
  | some v=>AK c.P (Instr.range T (v.den s.vl)) s.σ (fun v σ1=>Je uz dst (s.hp σ1) s.σ v kp K)
  | none=>False
 | .makeSlice T x y=>match s.op x,s.op y with
  | some u,some v=>AK c.P (Instr.makeSlice T (u.den s.vl) (v.den s.vl)) s.σ (fun v σ1=>Je (aF c.P ty) dst (s.hp σ1) s.σ v kp K)
  | _,_=>False
 | _=>False
section
variable {g:Gl}{ops:Array Oper}{i:Nat}{J:Env}{dst:Option Nat}{op:Op}{ty:TypeId}{gd:Option (Nat×Bool)}{s:S}{kp:KP}{kq:Hp→Hp→Prop}{K:S→Prop}{c:k9}
theorem fY {x:Operand}{xs:Array Operand}{ts:Array TypeId}(hP:c.P=g.P)(hR:c.R=g.R)(hE:AH g.P c.RU)(Sk:∀σ0 σ1 F,kp σ0 σ1 F→F∧kq σ0 σ1)
  (hs:sig ops i=some (dst,.call { callee:=.value x,args:=xs,argTypes:=ts },ty,gd)) (hw:AY ops (s.e J) gd=true) (hd:J1 dst g.n=true) (h:u6 c dst x xs.toList ty s kp K):AP g ops i (s.e J) s.b s.σ (St' J s kq K):=by
 unfold u6 at h;rw[hP,hR]at h;split at h
 ·rename_i f a b vs hx ZN;split at h
  ·rename_i hm;refine AP.call hs hw hd (fun o ho _ w=>S5 (hE f (fX hm)) (fst:=a) (cap:=b) (vs:=(D8 s.vl vs).toArray) (by rw[ev hx];rfl) (by simpa using FX ZN) ?_ o ho w) (h.mono fun e σ1 hr=>?_)
   ·rw[←Aip];simp
   ·cases e with
    | returned v=>exact Av NW Sk hr J
    | panicked ch=>exact hr
    | outgrown=>exact hr
  ·split at h
   ·rename_i hz;have hz:=Ai7 hz;exact AP.en hs hw hd (by rw[ev hx,show a=#[] from AkB (by omega),show b=#[] from AkB (by omega)];rfl) (by simpa using FX ZN) (h.mono fun v σ1 hr=>Av NW Sk hr J)
   ·cases h
 ·rename_i u vs hx ZN;split at h
  ·obtain⟨l,hu,h⟩:=h;refine AP.yield hs hw hd (u:=u) (vs:=(D8 s.vl vs).toArray) (by rw[ev hx];rfl) (by simpa using FX ZN) hu (h.mono fun e σ1 hr=>?_);cases e with
   | returned v=>exact Av NW Sk hr J
   | panicked ch=>exact hr
   | outgrown=>exact hr
  ·obtain⟨f,fst,cap,hu,Ut,h⟩:=h;refine AP.ALr hs hw hd (u:=u) (vs:=(D8 s.vl vs).toArray) (by rw[ev hx];rfl) (by simpa using FX ZN) hu Ut (h.mono fun e σ1 hr=>?_);cases e with
   | returned v=>exact Av NW Sk hr J
   | panicked ch=>exact hr
   | outgrown=>exact hr
 ·cases h
theorem fZ {T:TypeId}{cs:List DN}{hid:Bool}(TA:∀σ0 σ1,Ext σ0 σ1→kq σ0 σ1)(h:ABh hid dst T cs s K):
  (hid=true→∀b,St' J s kq K (put (s.e J) dst (.pointer (some ⟨b,0,none⟩))) ((b,.cells (Bp s.vl cs).toArray T (0,0))::s.b) s.σ)∧
  (hid=false→∀b,s.σ b=none→St' J s kq K (put (s.e J) dst (.pointer (some ⟨b,0,none⟩))) s.b (s.σ.set b (.cells (Bp s.vl cs).toArray T (0,0)))):=by
 unfold ABh at h
 constructor
 ·rintro rfl b
  simp only at h;cases hs:s.ok&&oks s.vl cs with
  | false=>rw[hs]at h;cases h
  | true=>
   rw[hs]at h;simp only[AiS]at hs;have h:=h b;have hle:=Vl.ABe s.vl b;have UF:=S.WJ hs.1 hle;have hb:(S.boxed s dst b T cs).b=(b,Obj.cells (Bp s.vl cs).toArray T (0,0))::s.b:=by
    unfold S.boxed;rw[S.LN];simp only[S.b,HC];have hbv:HC (s.vl.ABc b) s.bx=HC s.vl s.bx:=UF.b;rw[Vc hle hs.2,hbv];show(nth 0 (s.vl.δ++[b]) s.vl.δ.length,_)::_=_
    rw[PI]
   refine⟨_,?_,hb.symm,?_,TA _ _ (Ext.refl _),fun _ h=>AiX _ h,h⟩
   ·unfold S.boxed;rw[S.LM];have:=UF.e J;show put (s.e J) dst _=put ((s.w (s.vl.ABc b)).e J) dst (.pointer (some ⟨nth 0 (s.vl.δ++[b]) s.vl.δ.length,0,none⟩))
    rw[this,PI]
   ·unfold S.boxed;rw[S.Hw]
 ·rintro rfl b hb
  have h:=h b hb;refine⟨_,?_,?_,?_,TA _ _ (.set hb),fun _ h=>h,h⟩
  ·rw[S.LM];rfl
  ·rw[S.LN];rfl
  ·rw[S.Hw];rfl
section
variable {e:Env}{x y:Operand}{u v:Value}{ts:Array TypeId}{ty:TypeId}
theorem UG (hx:AD e x=u)(o:Oper)(ho:o.op=.call { callee:=.builtin .real,args:=#[x],argTypes:=ts })(ht:o.type=ty):execOp (AD e) o=(do pure (.value (←Builtin.real_ ts ty #[u]))):=by
 subst ht;simp[execOp,ho,resolve,invoke,builtin,hx]
theorem UH (hx:AD e x=u)(o:Oper)(ho:o.op=.call { callee:=.builtin .imag,args:=#[x],argTypes:=ts })(ht:o.type=ty):execOp (AD e) o=(do pure (.value (←Builtin.imag_ ts ty #[u]))):=by
 subst ht;simp[execOp,ho,resolve,invoke,builtin,hx]
theorem NY (hx:AD e x=u)(hy:AD e y=v)(o:Oper)(ho:o.op=.call { callee:=.builtin .complex,args:=#[x,y],argTypes:=ts })(ht:o.type=ty):execOp (AD e) o=(do pure (.value (←Builtin.complex_ ts ty #[u,v]))):=by
 subst ht;simp[execOp,ho,resolve,invoke,builtin,hx,hy]
theorem lA (hx:AD e x=u)(hy:AD e y=v)(o:Oper)(ho:o.op=.call { callee:=.builtin .min,args:=#[x,y],argTypes:=ts })(ht:o.type=ty):execOp (AD e) o=(do pure (.value (←Builtin.min_ ts ty #[u,v]))):=by
 subst ht;simp[execOp,ho,resolve,invoke,builtin,hx,hy]
theorem lB (hx:AD e x=u)(hy:AD e y=v)(o:Oper)(ho:o.op=.call { callee:=.builtin .max,args:=#[x,y],argTypes:=ts })(ht:o.type=ty):execOp (AD e) o=(do pure (.value (←Builtin.max_ ts ty #[u,v]))):=by
 subst ht;simp[execOp,ho,resolve,invoke,builtin,hx,hy]
theorem Pm (hx:AD e x=u)(hy:AD e y=v)(o:Oper)(ho:o.op=.call { callee:=.builtin .unsafeString,args:=#[x,y],argTypes:=ts })(ht:o.type=ty):execOp (AD e) o=(do pure (.value (←Builtin.unsafeString_ ts ty #[u,v]))):=by
 subst ht;simp[execOp,ho,resolve,invoke,builtin,hx,hy]
end
theorem qo {b:Builtin}{xs:Array Operand}{ts:Array TypeId}(hP:c.P=g.P)(Sk:∀σ0 σ1 F,kp σ0 σ1 F→F∧kq σ0 σ1)
  (hs:sig ops i=some (dst,.call { callee:=.builtin b,args:=xs,argTypes:=ts },ty,gd)) (hw:AY ops (s.e J) gd=true) (hd:J1 dst g.n=true) (h:biV c dst b xs.toList ts ty s kp K):AP g ops i (s.e J) s.b s.σ (St' J s kq K):=by
 unfold biV at h;rw[hP]at h;split at h
 ·cases h
 ·rename_i vs ZN;have two:∀{x y:Operand},xs.toList=[x,y]→xs=#[x,y]∧D8 s.vl vs=[AD (s.e J) x,AD (s.e J) y]:=fun hx=>by
   refine⟨by rw[←Aip];simpa using hx,?_⟩;rw[←FX (J:=J) ZN,hx];rfl
  have one:∀{x:Operand},xs.toList=[x]→xs=#[x]∧D8 s.vl vs=[AD (s.e J) x]:=fun hx=>by
   refine⟨by rw[←Aip];simpa using hx,?_⟩;rw[←FX (J:=J) ZN,hx];rfl
  split at h
  ·rename_i x y hx;obtain⟨rfl,e⟩:=two hx;rw[e]at h;exact AP.WA hs hw hd _ (fun o ho ht=>IH rfl rfl o ho ht) (h.mono fun v σ1 hr=>Av NW Sk hr J)
  ·rename_i x y hx;obtain⟨rfl,e⟩:=two hx;rw[e]at h;exact AP.WA hs hw hd _ (fun o ho ht=>fI rfl rfl o ho ht) (h.mono fun v σ1 hr=>Av NW Sk hr J)
  ·rename_i x y hx;obtain⟨rfl,e⟩:=two hx;rw[e]at h;exact AP.WA hs hw hd _ (fun o ho ht=>ZK rfl rfl o ho ht) (h.mono fun v σ1 hr=>Av NW Sk hr J)
  ·rename_i x hx;obtain⟨rfl,e⟩:=one hx;rw[e]at h;exact AP.WA hs hw hd _ (fun o ho ht=>bZ rfl o ho ht) (h.mono fun v σ1 hr=>Av NW Sk hr J)
  ·rename_i x hx;obtain⟨rfl,e⟩:=one hx;rw[e]at h;exact AP.WA hs hw hd _ (fun o ho ht=>UG rfl o ho ht) (h.mono fun v σ1 hr=>Av NW Sk hr J)
  ·rename_i x hx;obtain⟨rfl,e⟩:=one hx;rw[e]at h;exact AP.WA hs hw hd _ (fun o ho ht=>UH rfl o ho ht) (h.mono fun v σ1 hr=>Av NW Sk hr J)
  ·rename_i x y hx;obtain⟨rfl,e⟩:=two hx;rw[e]at h;exact AP.WA hs hw hd _ (fun o ho ht=>NY rfl rfl o ho ht) (h.mono fun v σ1 hr=>Av NW Sk hr J)
  ·rename_i x y hx;obtain⟨rfl,e⟩:=two hx;rw[e]at h;exact AP.WA hs hw hd _ (fun o ho ht=>Pm rfl rfl o ho ht) (h.mono fun v σ1 hr=>Av NW Sk hr J)
  ·rename_i x y hx;obtain⟨rfl,e⟩:=two hx;rw[e]at h;exact AP.WA hs hw hd _ (fun o ho ht=>lA rfl rfl o ho ht) (h.mono fun v σ1 hr=>Av NW Sk hr J)
  ·rename_i x y hx;obtain⟨rfl,e⟩:=two hx;rw[e]at h;exact AP.WA hs hw hd _ (fun o ho ht=>lB rfl rfl o ho ht) (h.mono fun v σ1 hr=>Av NW Sk hr J)
  ·cases h
theorem ABi {e:Env}{b:BinOp}{T T':TypeId}{x y:Operand}{u v:Value}(hb:flB b=true)(hx:AD e x=u)(hy:AD e y=v)(o:Oper)(ho:o.op=.binOp b T x y T'):execOp (AD e) o=(do pure (.value (←binOp b T u v))):=by
 cases b<;>first|(cases hb;done)|(simp[execOp,ho,hx,hy,eqGuard])
theorem WT (hP:c.P=g.P)(hR:c.R=g.R)(hE:AH g.P c.RU)(Sk:∀σ0 σ1 F,kp σ0 σ1 F→F∧kq σ0 σ1)(TA:∀σ0 σ1,Ext σ0 σ1→kq σ0 σ1)
  (hs:sig ops i=some (dst,op,ty,gd)) (hw:AY ops (s.e J) gd=true) (hd:J1 dst g.n=true) (h:qn c dst op ty s kp K):AP g ops i (s.e J) s.b s.σ (St' J s kq K):=by
 unfold qn at h;split at h
 ·rename_i cl;obtain⟨ce,xs,ts⟩:=cl;split at h
  ·rename_i x hx;simp only at hx h;subst hx;exact fY hP hR hE Sk hs hw hd h
  ·rename_i b hx;simp only at hx h;subst hx;exact qo hP Sk hs hw hd h
  ·cases h
 ·rename_i b T x y T';split at h
  ·rename_i u v hb hu hv;rw[hP]at h;exact AP.WA hs hw hd _ (fun o ho ht=>ABi hb (ev hu) (ev hv) o ho) (h.mono fun v σ1 hr=>Av NW Sk hr J)
  ·cases h
 ·rename_i T x;split at h
  ·rename_i v hv;split at h
   ·rename_i cs hc;obtain⟨h1,h2⟩:=fZ (J:=J) TA h;have hx:(AD (s.e J) x).cells=(Bp s.vl cs).toArray:=by rw[ev hv,fU hc]
    cases hh:c.oO dst with
    | true=>exact AP.box hs hw hd hx (h1 hh)
    | false=>exact AP.AHA hs hw hd hx (h2 hh)
   ·cases h
  ·cases h
 ·rename_i T;split at h
  ·rename_i z hz;obtain⟨h1,h2⟩:=fZ (J:=J) TA h;have hx:z.cells=(Bp s.vl (UD z.cells.toList)).toArray:=by rw[LO]
   rw[hP]at hz;cases hh:c.oO dst with
   | true=>exact AP.alloc hs hw hd (aK hz) hx (h1 hh)
   | false=>exact AP.S4 hs hw hd (aK hz) hx (h2 hh)
  ·cases h
 ·rename_i T m ps;rw[hP]at h;split at h
  ·rename_i E vs hT ZN;split at h
   ·rename_i cs hc;refine AP.ML hT hs hw hd (Qr ZN) hc fun b hb=>?_;refine⟨_,?_,?_,?_,TA _ _ (.set hb),fun _ h=>h,h b hb⟩
    ·rw[S.LM];rfl
    ·rw[S.LN];rfl
    ·rw[S.Hw];rfl
   ·cases h
  ·cases h
 ·rename_i T x y;split at h
  ·rename_i b o v hx hy;obtain⟨u,e1,e2⟩:=HE hx;rw[hP]at h;refine AP.store hs hw (p:=.pointer (some ⟨b,o,none⟩)) (by rw[ev e1,e2];rfl) (ev hy) (h.mono fun _ σ1 hr=>?_);obtain⟨h1,h2⟩:=Sk _ _ _ hr;exact⟨s.hp σ1,rfl,rfl,rfl,h2,fun _ h=>h,h1⟩
  ·cases h
 ·rename_i T T' x;split at h
  ·rename_i v hv;rw[hP]at h;exact AP.WA hs hw hd _ (fun o ho ht=>by simp only[execOp,ho];rw[ev hv]) (h.mono fun v σ1 hr=>Av NW Sk hr J)
  ·cases h
 ·rename_i T;rw[hP]at h;exact AP.WA hs hw hd _ (fun o ho ht=>by simp only[execOp,ho];rfl) (h.mono fun v σ1 hr=>Av qk Sk hr J)
 ·rename_i T x y two;rw[hP]at h;split at h
  ·rename_i a t u v hT hu hv;exact AP.WA hs hw hd _ (fun o ho ht=>by simp only[execOp,ho];rw[ev hu,ev hv]) (h.mono fun v σ1 hr=>Av k8 Sk hr J)
  ·cases h
 ·rename_i T x;split at h
  ·rename_i v hv;rw[hP]at h;exact AP.WA hs hw hd _ (fun o ho ht=>by simp only[execOp,ho];rw[ev hv]) (h.mono fun v σ1 hr=>Av ql Sk hr J)
  ·cases h
 ·rename_i T x y;split at h
  ·rename_i u v hu hv;rw[hP]at h;exact AP.WA hs hw hd _ (fun o ho ht=>by simp only[execOp,ho];rw[ev hu,ev hv]) (h.mono fun v σ1 hr=>Av NW Sk hr J)
  ·cases h
 ·cases h
end
end Tw
end
