/-
  Part 1 of the proof that the law QuerierOrderUptoCardSaid of the given program answers true for every input of the given statement; the input reads behind the call as it did. (The texts: packed from 19 texts. Names are shortened by the packing program, for the bound on size.)
-/
import Derived.OrdersHeld
import Derived.StillTail
import Derived.Laws.Entries
import Derived.OrdersIn
import Derived.RangeFuncRecord
import Derived.KernelRfl
import Derived.Laws.Slices
import Derived.Laws.Small
import Derived.Laws.Cells
import Derived.Laws.Strings
import Derived.Laws.Tables
import Derived.Laws.Strings2
import Derived.Laws.Pointers
import Derived.Laws.Append
import Derived.Laws.AppendOwn
import Derived.Lib.Overlaps
import Derived.RangeFuncIn
import Derived.ProofKit
import Derived.SizedLaws
import Derived.Deep.Slices
import Derived.Scope
import Derived.Maps.RangeRun
import Derived.MapKept
import Derived.Test.YtdlkodiemlmmiaaGreatDoorProg
import Derived.ChangeKeysEq
set_option linter.all false
namespace Go.Value
abbrev I(x:Int):Value:=.int .i64 x
abbrev U(x:Int):Value:=.int .u64 x
abbrev N:Value:=.slice none 0 0
end Go.Value
namespace Go.Ending
abbrev T(a:Array Value):Ending:=.returned (.tuple a)
abbrev B(a:Bool):Ending:=.returned (.bool a)
end Go.Ending
abbrev Ajj:=@if_neg
abbrev Ajk:=@List.length_cons
abbrev Ajl:=@if_pos
abbrev Ajm:=@List.mem_cons_of_mem
abbrev Ajn:=@List.getElem?_eq_some_iff
abbrev Ajo:=@List.mem_cons
abbrev Ajp:=@List.mem_singleton
abbrev Ajq:=@List.take_of_length_le
abbrev Ajr:=@List.length_append
abbrev Ajs:=@List.getElem?_eq_getElem
abbrev Ajt:=@Nat.le_refl
abbrev Aju:=@List.mem_of_getElem?
abbrev Ajv:=@Option.some.injEq
abbrev Ajw:=@congrArg
abbrev Ajx:=@of_decide_eq_true
abbrev Ajy:=@Nat.zero_le
abbrev Ajz:=@Bool.and_eq_true
abbrev Aj0:=@decide_eq_true
abbrev Aj1:=@decide_eq_false
abbrev Aj2:=@Array.getElem?_eq_some_iff
abbrev Aj3:=@decide_eq_true_eq
abbrev Aj4:=@Ne.symm
abbrev Aj5:=@List.mem_cons_self
abbrev Aj6:=@List.length_drop
abbrev Aj7:=@List.not_mem_nil
abbrev Aj8:=@List.eq_nil_of_length_eq_zero
abbrev Aj9:=@Int.toNat_natCast
abbrev AkA:=@List.length_take
abbrev AkB:=@Array.getElem?_push
abbrev AkC:=@List.append_assoc
abbrev AkD:=@Array.toList_inj
abbrev AkE:=@List.getElem?_take
abbrev AkF:=@List.drop_eq_nil_of_le
abbrev AkG:=@List.length_filter_le
abbrev AkH:=@List.mem_append
abbrev AkI:=@List.map_append
abbrev AkJ:=@List.getElem?_append_left
abbrev AkK:=@Decidable.not_not
abbrev AkL:=@List.getElem?_drop
abbrev AkM:=@of_decide_eq_false
abbrev AkN:=@List.pairwise_cons
abbrev AkO:=@List.getElem?_cons_zero
abbrev AkP:=@Array.length_toList
abbrev AkQ:=@Array.getElem?_toList
abbrev AkR:=@List.map_cons
abbrev AkS:=@List.length_singleton
abbrev AkT:=@List.mem_map
abbrev AkU:=@List.getElem?_cons_succ
abbrev AkV:=@List.length_eq_zero_iff
abbrev AkW:=@List.mem_iff_getElem?
abbrev AkX:=@List.length_filterMap_le
abbrev AkY:=@decide_eq_false_iff_not
abbrev AkZ:=@Nat.mul_le_mul_right
abbrev Aka:=@List.length_nil
abbrev Akb:=@List.length_map
abbrev Akc:=@or_false
abbrev Akd:=@Nat.le_of_ble_eq_true
abbrev Ake:=@Nat.le_trans
abbrev Akf:=@List.getElem?_append_right
abbrev Akg:=@Nat.eq_of_beq_eq_true
abbrev Akh:=@Prod.mk.injEq
abbrev Aki:=@Option.map_some
abbrev Akj:=@Option.some.inj
abbrev Akk:=@List.all_eq_true
abbrev Akl:=@List.cons_append
abbrev Akm:=@List.pairwise_iff_getElem
abbrev Akn:=@Nat.zero_add
abbrev Ako:=@List.nodup_cons
abbrev Akp:=@List.nil_append
abbrev Akq:=@List.append_nil
abbrev Akr:=@decide_eq_decide
abbrev Aks:=@List.take_append_drop
abbrev Akt:=@List.getElem?_map
abbrev Aku:=@Bool.false_and
abbrev Akv:=@List.ext_getElem?
abbrev Akw:=@Nat.add_mul
abbrev Akx:=@Bool.and_false
abbrev Aky:=@List.mem_append_left
abbrev Akz:=@Bool.or_eq_false_iff
abbrev Ak0:=@List.filter_append
abbrev Ak1:=@Bool.true_and
abbrev Ak2:=@List.getElem?_eq_none
abbrev Ak3:=@List.filter_cons_of_pos
abbrev Ak4:=@List.filter_cons_of_neg
abbrev Ak5:=@List.getElem?_append
abbrev Ak6:=@Option.getD_some
abbrev Ak7:=@Nat.add_zero
abbrev Ak8:=@Bool.false_or
abbrev Ak9:=@List.nodup_nil
abbrev AlA:=@ByteArray.size_extract
abbrev AlB:=@List.foldl_append
abbrev AlC:=@List.mem_filter
abbrev AlD:=@Array.getElem?_eq_getElem
abbrev AlE:=@if_false
abbrev AlF:=@Bool.false_eq_true
abbrev AlG:=@if_true
abbrev AlH:=@Int.lt_trichotomy
abbrev AlI:=@List.mem_filterMap
abbrev AlJ:=@Array.getElem?_modify
abbrev AlK:=@List.mem_range
abbrev AlL:=@List.dropWhile_suffix
abbrev AlM:=@List.getLast?_eq_getElem?
abbrev AlN:=@cond_false
abbrev AlO:=@List.map_nil
abbrev AlP:=@List.length_tail
abbrev AlQ:=@Nat.mul_one
abbrev AlR:=@Array.getD_eq_getD_getElem?
abbrev AlS:=@cond_true
abbrev AlT:=@Nat.zero_mul
abbrev AlU:=@Int.natCast_nonneg
abbrev AlV:=@List.map_singleton
abbrev AlW:=@Array.getElem?_append
abbrev AlX:=@List.mem_append_right
abbrev AlY:=@UInt8.lt_iff_toNat_lt
abbrev AlZ:=@List.takeWhile_prefix
abbrev Ala:=@List.flatMap_cons
abbrev Alb:=@List.nodup_append
abbrev Alc:=@Nat.lt_or_ge
abbrev Ald:=@Nat.sub_self
abbrev Ale:=@Nat.succ_mul
abbrev Alf:=@List.filter_eq_self
abbrev Alg:=@Array.getElem?_setIfInBounds_ne
abbrev Alh:=@Bool.or_eq_true
abbrev Ali:=@List.cons.injEq
abbrev Alj:=@List.foldl_cons
abbrev Alk:=@Array.eq_empty_of_size_eq_zero
abbrev All:=@List.getElem?_set_self
abbrev Alm:=@List.getElem_cons_drop
abbrev Aln:=@List.drop_of_length_le
abbrev Alo:=@List.head?_eq_getElem?
abbrev Alp:=@List.find?_cons_of_neg
abbrev Alq:=@List.getElem?_set
abbrev Alr:=@List.drop_zero
abbrev Als:=@List.getElem?_toArray
abbrev Alu:=@List.mem_of_mem_take
abbrev Alv:=@List.countP_cons
abbrev Alw:=@not_or
abbrev Alx:=@List.mem_map_of_mem
abbrev Aly:=@List.drop_eq_getElem_cons
abbrev Alz:=@Nat.min_eq_left
abbrev Al0:=@List.sum_append
abbrev Al1:=@Array.setIfInBounds_comm
abbrev Al2:=@List.set_cons_succ
abbrev Al3:=@UInt8.toNat_ofNat'
abbrev Al4:=@Nat.mod_lt
abbrev Al5:=@Nat.le_mul_of_pos_right
abbrev Al6:=@Nat.add_sub_cancel_left
abbrev Al7:=@not_false_eq_true
abbrev Al8:=@Array.getElem?_eq_none
abbrev Al9:=@List.filter_eq_nil_iff
abbrev AmA:=@List.Sublist.length_le
abbrev AmB:=@ByteArray.data_extract
abbrev AmC:=@Int.le_refl
abbrev AmD:=@List.all_cons
abbrev AmE:=@ByteArray.ext
abbrev AmF:=@Option.bind_some
abbrev AmG:=@Nat.le_add_right
abbrev AmH:=@List.getElem_mem
abbrev AmI:=@Nat.div_lt_iff_lt_mul
abbrev AmJ:=@List.getElem?_zipWith
abbrev AmK:=@List.concat_eq_append
abbrev AmL:=@beq_iff_eq
abbrev AmM:=@List.mem_iff_getElem
abbrev AmN:=@List.length_zip
abbrev AmO:=@Array.toList_extract
abbrev AmP:=@Nat.pow_le_pow_right
abbrev AmQ:=@getElem!_pos
abbrev AmR:=@List.length_finRange
abbrev AmS:=@List.getElem?_set_ne
abbrev AmT:=@List.mem_of_mem_drop
abbrev AmU:=@List.length_set
abbrev AmV:=@Bool.or_true
abbrev AmW:=@List.getLast?_append
abbrev AmX:=@List.filter_nil
abbrev AmY:=@List.drop_append_of_le_length
abbrev AmZ:=@List.take_append_of_le_length
abbrev Ama:=@Array.toList_append
abbrev Amb:=@beq_eq_false_iff_ne
abbrev Amc:=@List.length_pos_iff
abbrev Amd:=@Array.empty_append
abbrev Ame:=@Array.extract_size
abbrev Amf:=@Nat.eq_zero_or_pos
abbrev Amg:=@List.find?_eq_none
abbrev Amh:=@Nat.add_sub_cancel
abbrev Ami:=@Int.tmod_eq_emod_of_nonneg
abbrev Amj:=@List.getD_eq_getElem?_getD
abbrev Amk:=@List.take_add_one
abbrev Aml:=@Array.size_append
abbrev Amm:=@List.size_toArray
abbrev Amn:=@Nat.lt_trichotomy
abbrev Amo:=@List.mem_or_eq_of_mem_set
abbrev Amp:=@List.getElem?_eq_none_iff
abbrev Amq:=@List.extract_eq_take_drop
abbrev Amr:=@List.getElem?_zip_eq_some
abbrev Ams:=@Decidable.byContradiction
abbrev Amt:=@Nat.le_of_eq
abbrev Amu:=@and_true
abbrev Amv:=@Bool.true_or
abbrev Amw:=@List.head?_cons
abbrev Amx:=@UInt8.toNat_inj
abbrev Amy:=@Array.getElem?_extract
abbrev Amz:=@List.find?_cons_of_pos
abbrev Am0:=@List.set_getElem_self
abbrev Am1:=@List.mapM_cons
abbrev Am2:=@List.take_take
abbrev Am3:=@List.take_left
abbrev Am4:=@List.drop_drop
abbrev Am5:=@List.Perm.refl
abbrev Am6:=@List.set_append_right
abbrev Am7:=@List.eq_nil_or_concat
abbrev Am8:=@Array.ext'
abbrev AnB:=@Nat.add_assoc
abbrev AnC:=@List.drop_one
abbrev AnD:=@List.map_take
abbrev AnE:=@List.any_cons
abbrev AnF:=@List.sum_cons
abbrev AnG:=@List.map_drop
abbrev AnI:=@Nat.beq_refl
abbrev AnJ:=@Nat.le_of_lt
abbrev AnK:=@Nat.pow_succ
abbrev AnL:=@Int.le_of_lt
abbrev AnN:=@Nat.min_self
abbrev AnO:=@List.sum_nil
section
namespace Tw
open Go
abbrev Hp:=Nat->Option Obj
abbrev Rr:=Ending->Hp->Prop
abbrev Env:=Nat->Value
abbrev Bx:=List (Nat×Obj)
theorem nC {a b:Nat}(h:a≠b):Nat.beq a b=false:=by
 cases hb:Nat.beq a b
 .rfl
 .exact absurd (Akg hb) h
def Sat (Z22:Hp)(w:World):Prop:=∀b o,Z22 b=some o->w.heap[b]?=some o
def LC (bx:Bx)(w:World):Prop:=∀p∈bx,w.heap[p.1]?=some p.2
def Hp.set (Z22:Hp)(b:Nat)(o:Obj):Hp:=λi=>if i=b then some o else Z22 i
def upd (e:Env)(t:Nat)(v:Value):Env:=λi=>bif Nat.beq i t then v else e i
def put (e:Env)(d:Option Nat)(v:Value):Env:=match d with | some d=>upd e d v | none=>e
def AD (e:Env):Operand->Value
 | .tmp t=>e t
 | .const v=>v
 | .global g=>.pointer (some ⟨g,0,none⟩)
 | .func f=>.func (.func f) #[] #[]
class GO where
 on:Prop
instance AW7:GO:=⟨False⟩
variable [GO]
def Bl (w G:World):Prop:=G.os=w.os/\G.tape=w.tape/\(GO.on->∃n:Nat,G.drawn=w.drawn+n)
theorem Bl.same {w G:World}(h1:G.os=w.os)(h2:G.tape=w.tape)(h3:G.drawn=w.drawn):Bl w G:=⟨h1,h2,λ_=>⟨0,h3⟩⟩
theorem Bl.trans {w w' G:World}(h:Bl w w')(g:Bl w' G):Bl w G:=
 ⟨g.1.trans h.1,g.2.1.trans h.2.1,λhc=>let ⟨n,h3⟩:=h.2.2 hc;let ⟨m,g3⟩:=g.2.2 hc;⟨n+m,by omega⟩⟩
theorem Bl.drew {w G:World}(h:Bl w G):Bl w { G with drawn:=G.drawn+1 }:=h.trans ⟨rfl,rfl,λ_=>⟨1,rfl⟩⟩
structure Fin (Z22:Hp)(F:Nat->Prop)(w w':World):Prop where
 sat:Sat Z22 w'
 BM:∀b,F b->Z22 b=none/\w'.heap[b]?=w.heap[b]?
 os:Bl w w'
 out:w'.output=w.output
 grow:w.heap.size<=w'.heap.size
def Spec (P:Program)(f:FuncId)(args:Array Value)(Z22:Hp)(R:Rr):Prop:=
 ∀(w:World) (F:Nat->Prop),Sat Z22 w->(∀b,F b->b<w.heap.size/\Z22 b=none)->
  Calls P f args w (λe G=>∃Z',R e Z'/\Fin Z' F w G)
theorem Spec.mono {P:Program}{f:FuncId}{args:Array Value}{Z22:Hp}{R G:Rr}(h:Spec P f args Z22 R)
  (hr:∀e Z',R e Z'->G e Z'):Spec P f args Z22 G:=λw F hs hF=>
 (h w F hs hF).mono λ_ _ ⟨Z',h1,h2⟩=>⟨Z',hr _ _ h1,h2⟩
structure St (n:Nat)(ds:List Deferred)(w0:World)(F:Nat->Prop)(e:Env)(bx:Bx)(Z22:Hp)(a:Act)(w:World):Prop where
 size:a.tmps.size=n
 env:∀t,a.tmps.getD t undef=e t
 defers:a.defers=ds
 sat:Sat Z22 w
 box:LC bx w
 free:∀p∈bx,Z22 p.1=none/\¬F p.1
 nodup:(bx.map (·.1)).Nodup
 BM:∀b,F b->b<w0.heap.size/\Z22 b=none/\w.heap[b]?=w0.heap[b]?
 os:Bl w0 w
 out:w.output=w0.output
 grow:w0.heap.size<=w.heap.size
theorem St.eval {n ds w0 F e bx Z22 a w}(h:St n ds w0 F e bx Z22 a w):a.eval=AD e:=by
 funext x
 cases x with
 | tmp t=>exact h.env t
 | _=>rfl
theorem St.put {n ds w0 F e bx Z22 a w}(h:St n ds w0 F e bx Z22 a w)(d:Option Nat)(v:Value)(hd:∀t,d=some t->t<n):
  St n ds w0 F (put e d v) bx Z22 (a.put d v) w:=by
 cases d with
 | none=>exact h
 | some d=>
  have hd:=hd d rfl;refine { h with size:=by simp[Act.put,h.size],env:=λt=>?_,defers:=h.defers };simp only[Act.put,Tw.put,upd];by_cases G:t=d
  .subst G;have:t<a.tmps.size:=by rw[h.size];exact hd
   simp[this]
  .have h1:=h.env t;have hb:Nat.beq t d=false:=nC G;simp only[hb,AlN];rw[<-h1];simp[Alg (Aj4 G)]
theorem St.drew {n ds w0 F e bx Z22 a w}(h:St n ds w0 F e bx Z22 a w):St n ds w0 F e bx Z22 a { w with drawn:=w.drawn+1 }:=
 { h with sat:=h.sat,box:=h.box,BM:=h.BM,os:=h.os.drew,out:=h.out,grow:=h.grow }
structure Gl where
 P:Program
 f:FuncId
 n:Nat
 R:Rr
 IQ:Option Nat
 ds:List Deferred
 pan:(IQ=none/\ds=[])\/∀ch Z22,¬R (.panicked ch) Z22
abbrev Gl.fn (P:Program)(f:FuncId)(n:Nat)(R:Rr):Gl:=⟨P,f,n,R,none,[],.inl ⟨rfl,rfl⟩⟩
def wd (r:Option Nat):Fence:={ Fence.wide with round:=r }
theorem ADu {r:Option Nat}{n:Nat}:(wd r).room n:=λ_ h=>by simp[wd,Fence.wide]at h
theorem Dh {P:Program}{r:Option Nat}{ρ:Operand->Value}{o:Oper}{w w':World}{nx:Next}(h:(execOp ρ o).run P w=.ok nx w')(hn:∀d,nx≠.defer d):(o.semAt r ρ).run P w=.ok nx w':=by
 by_cases hd:∃c,o.op=.defer c
 .obtain⟨c,G⟩:=hd;simp only[execOp,G,Sem.run_bind]at h;cases hr:(resolve ρ c o.type).run P w with
  | ok d w2=>
   rw[hr]at h;simp only[Result.andThen_ok,Sem.run_pure,Result.ok.injEq]at h;exact absurd h.1.symm (hn d)
  | halt x w2=>rw[hr]at h;simp[Result.andThen]at h
 .rw[Oper.semAt_eq r ρ o (λc G=>hd ⟨c,G⟩)];exact h
def Rt (P:Program)(f:FuncId)(IQ:Option Nat)(cs:List Frame)(m:Machine)(R:Ending->World->Prop):Prop:=
 match IQ with
 | none=>∃e G fr,R e G/\Comes P m (lone fr cs G) e/\fr.fn=f/\fr.leaving P G e
 | some _=>∀c cs',cs=c::cs'->∃v G,R (.returned v) G/\Steps P m (lone (c.finish v) cs' G)
theorem Rt.of_steps {P f IQ cs m m' R}(G:Steps P m m')(h:Rt P f IQ cs m' R):Rt P f IQ cs m R:=by
 cases IQ with
 | none=>exact let ⟨e,w',fr,r,c,x⟩:=h;⟨e,w',fr,r,.of_steps G c,x⟩
 | some l=>exact λc cs' hc=>let ⟨v,w',r,x⟩:=h c cs' hc;⟨v,w',r,G.trans x⟩
def J0 (P:Program)(f:FuncId)(IQ:Option Nat)(k:List Item)(a:Act)(w:World)(R:Ending->World->Prop):Prop:=
 ∀(b:Frame) (cs:List Frame),b.fn=f->b.kind=.normal->b.roundOf=IQ->(∃fn,P.funcs[f]?=some fn)->Rt P f IQ cs (lone (b.atR a k) cs w) R
theorem J0.step {P f IQ k a w R k' a' w'}(hs:∀(b:Frame) cs,b.roundOf=IQ->step P (lone (b.atR a k) cs w)=.next (lone (b.atR a' k') cs w'))
 (h:J0 P f IQ k' a' w' R):J0 P f IQ k a w R:=λb cs hf hk G Vu=>.of_steps (.one (hs b cs G)) (h b cs hf hk G Vu)
def ADv (g:Gl)(w0:World)(F:Nat->Prop):Ending->World->Prop:=λen G=>∃Z',g.R en Z'/\Fin Z' F w0 G
def At (g:Gl)(k:List Item)(e:Env)(bx:Bx)(Z22:Hp):Prop:=
 ∀G F a w,St g.n g.ds G F e bx Z22 a w->J0 g.P g.f g.IQ k a w (ADv g G F)
section steps
variable {g:Gl}{k:List Item}{e:Env}{bx:Bx}{Z22:Hp}
theorem At.skip (h:At g k e bx Z22):At g (.code .skip::k) e bx Z22:=λG F a w st=>.step (λ_ _ _=>stepR_skip) (h G F a w st)
theorem At.label {l}(h:At g k e bx Z22):At g (.code (.label l)::k) e bx Z22:=λG F a w st=>.step (λ_ _ _=>stepR_label) (h G F a w st)
theorem At.inBlock {i}(h:At g k e bx Z22):At g (.inBlock i::k) e bx Z22:=λG F a w st=>.step (λ_ _ _=>stepR_inBlock) (h G F a w st)
theorem At.seq {c x y}(G:c=Code.seq x y)(h:At g (.code x::.code y::k) e bx Z22):At g (.code c::k) e bx Z22:=
 G▸λw0 F a w st=>.step (λ_ _ _=>stepR_seq) (h w0 F a w st)
theorem At.block {c i x}(G:c=Code.block i x)(h:At g (.code x::.inBlock i::k) e bx Z22):At g (.code c::k) e bx Z22:=
 G▸λw0 F a w st=>.step (λ_ _ _=>stepR_block) (h w0 F a w st)
theorem At.loop {c x}(G:c=Code.loop x)(h:At g (.code x::.inLoop x::k) e bx Z22):At g (.code c::k) e bx Z22:=
 G▸λw0 F a w st=>.step (λ_ _ _=>stepR_loop) (h w0 F a w st)
theorem At.inLoop {x}(h:At g (.code x::.inLoop x::k) e bx Z22):At g (.inLoop x::k) e bx Z22:=
 λG F a w st=>.step (λ_ _ _=>stepR_inLoop) (h G F a w st)
theorem At.exit {c i k'}(G:c=Code.exit i)(hk:exitTo i k=some k')(h:At g k' e bx Z22):At g (.code c::k) e bx Z22:=
 G▸λw0 F a w st=>.step (λ_ _ _=>stepR_exit hk) (h w0 F a w st)
theorem At.goto {c i k'}(G:c=Code.goto i)(hk:gotoIn i k=some k')(h:At g k' e bx Z22):At g (.code c::k) e bx Z22:=
 G▸λw0 F a w st=>.step (λ_ _ _=>stepR_goto hk) (h w0 F a w st)
theorem At.AGr {c x y z}(G:c=Code.cond x y z)(hx:AD e x=.bool true)(h:At g (.code y::k) e bx Z22):At g (.code c::k) e bx Z22:=
 G▸λw0 F a w st=>.step (λ_ _ _=>stepR_cond (t:=true) (by rw[st.eval];exact hx)) (h w0 F a w st)
theorem At.AGs {c x y z}(G:c=Code.cond x y z)(hx:AD e x=.bool false)(h:At g (.code z::k) e bx Z22):At g (.code c::k) e bx Z22:=
 G▸λw0 F a w st=>.step (λ_ _ _=>stepR_cond (t:=false) (by rw[st.eval];exact hx)) (h w0 F a w st)
def left (ds:List Deferred)(Z22:Hp):Hp:=ds.foldl (λZ22 d=>match d.target with | .collected D=>Z22.set D (.deferred none) | _=>Z22) Z22
def Marks:List Deferred->Hp->Prop
 | [],_=>True
 | d::ds,Z22=>∃D,d={ target:=.collected D,args:=#[] }/\Z22 D=some (.deferred (some []))/\Marks ds (Z22.set D (.deferred none))
theorem Fin.put {Z22:Hp}{F:Nat->Prop}{w0 w:World}{l:Nat}{o o':Obj}(h:Fin Z22 F w0 w)(hl:Z22 l=some o):Fin (Z22.set l o') F w0 (w.putObj l o'):=by
 have Ax:l<w.heap.size:=(Aj2.1 (h.sat l o hl)).1;refine⟨λk u hk=>?_,λk hk=>?_,h.os,h.out,by simpa using h.grow⟩
 .by_cases G:k=l
  .subst G;simp only[Hp.set,AlG]at hk;cases hk;exact World.putObj_heap_same Ax
  .simp only[Hp.set,G,AlE]at hk;rw[World.putObj_heap_other G];exact h.sat k u hk
 .have hp:=h.BM k hk;have G:k≠l:=λe=>by rw[e,hl]at hp;cases hp.1
  exact⟨by simp only[Hp.set,G,AlE];exact hp.1,by rw[World.putObj_heap_other G];exact hp.2⟩
theorem St.toFin {n ds w0 F e bx Z22 a w}(st:St n ds w0 F e bx Z22 a w):Fin Z22 F w0 w:=⟨st.sat,λb hb=>⟨(st.BM b hb).2.1,(st.BM b hb).2.2⟩,st.os,st.out,st.grow⟩
theorem TD {P:Program}:∀(ds:List Deferred) {Z22:Hp} {F:Nat->Prop} {w0 w:World} {fr:Frame} {cs:List Frame},Marks ds Z22->Fin Z22 F w0 w->LC bx w->(∀p∈bx,Z22 p.1=none)->fr.mode=.returning->fr.defers=ds->
  ∃w',Fin (left ds Z22) F w0 w'/\LC bx w'/\Steps P (lone fr cs w) (lone { fr with defers:=[] } cs w')
 | [],Z22,F,w0,w,fr,cs,_,hf,hb,_,_,hd=>⟨w,hf,hb,by rw[show({ fr with defers:=[] }:Frame)=fr by cases fr;simp at hd;simp[hd]];exact .refl ..⟩
 | d::ds,Z22,F,w0,w,fr,cs,⟨D,hD,G,hm⟩,hf,hb,hn,hmo,hd=>by
  subst hD;have h1:=step_collected (P:=P) (fr:=fr) (cs:=cs) (w:=w) (r:=D) (by rw[hmo];simp) hd rfl (run_takeDeferred (hf.sat D _ G));have Av:∀p∈bx,p.1≠D:=λp hp e=>by have:=hn p hp;rw[e,G]at this;cases this
  obtain⟨w',uR,LD,hs⟩:=TD ds (fr:={ fr with defers:=[]++ds }) (cs:=cs) hm (hf.put G) (λp hp=>by rw[World.putObj_heap_other (Av p hp)];exact hb p hp) (λp hp=>by simp only[Hp.set,Av p hp,AlE];exact hn p hp) hmo rfl;exact⟨w',uR,LD,(Steps.one h1).trans hs⟩
theorem At.done {fn:Func}{v:Value}(hf:g.P.funcs[g.f]?=some fn)
  (hr:∀(a:Act) w,(∀t,a.tmps.getD t undef=e t)->Sat (left g.ds Z22) w->LC bx w->(results fn a.tmps).run g.P w=.ok v w)
  (h:g.R (.returned v) (left g.ds Z22)) (TE:g.IQ=none:=by rfl) (hm:Marks g.ds Z22:=by trivial):At g [] e bx Z22:=λw0 F a w st b cs gw uS rJ Vu=>by
 have G:b.roundOf=none:=rJ.trans TE;obtain⟨w',Vw,LD,hs⟩:=TD (P:=g.P) (cs:=cs) (fr:={ b.atR a [] with mode:=.returning }) g.ds hm st.toFin st.box (λp hp=>(st.free p hp).1) rfl st.defers;unfold Rt;rw[TE];exact⟨.returned v,w',_,⟨_,h,Vw⟩,(Steps.one (stepR_end G)).trans hs,gw,rfl,rfl,uS,fn,by simpa[Frame.atR,gw] using hf,hr a w' st.env Vw.sat LD⟩
theorem At.ret {c:Code}{fn:Func}{v:Value}(hc:c=Code.ret)(hf:g.P.funcs[g.f]?=some fn)
  (hr:∀(a:Act) w,(∀t,a.tmps.getD t undef=e t)->Sat (left g.ds Z22) w->LC bx w->(results fn a.tmps).run g.P w=.ok v w)
  (h:g.R (.returned v) (left g.ds Z22)) (TE:g.IQ=none:=by rfl) (hm:Marks g.ds Z22:=by trivial):At g (.code c::k) e bx Z22:=hc▸λw0 F a w st b cs gw uS rJ Vu=>by
 have G:b.roundOf=none:=rJ.trans TE;obtain⟨w',Vw,LD,hs⟩:=TD (P:=g.P) (cs:=cs) (fr:={ b.atR a (.code .ret::k) with mode:=.returning }) g.ds hm st.toFin st.box (λp hp=>(st.free p hp).1) rfl st.defers;unfold Rt;rw[TE];exact⟨.returned v,w',_,⟨_,h,Vw⟩,(Steps.one (stepR_ret G)).trans hs,gw,rfl,rfl,uS,fn,by simpa[Frame.atR,gw] using hf,hr a w' st.env Vw.sat LD⟩
def lp (r:Loop)(s:LoopState)(p:Option Code):Loop:={ r with state:=s,pending:=p }
theorem At.beginRound {l:Nat}{r:Loop}(TE:g.IQ=some l)(G:Z22 l=some (.loop (lp r .ready none)))(h:At g k e bx (Z22.set l (.loop (lp r .busy none)))):At g (.beginRound::k) e bx Z22:=λw0 F a w st=>
 J0.step (λb cs hb=>stepR_beginRound (hb.trans TE) (run_beginRound (st.sat _ _ G) rfl)) (h w0 F a _ (by
  have hf:=st.toFin.put (o':=.loop (lp r .busy none)) G;have Av:∀p∈bx,p.1≠l:=λp hp e=>by have:=(st.free p hp).1;rw[e,G]at this;cases this
  exact { st with sat:=hf.sat,box:=λp hp=>by rw[World.putObj_heap_other (Av p hp)];exact st.box p hp,free:=λp hp=>⟨by simp only[Hp.set,Av p hp,AlE];exact(st.free p hp).1,(st.free p hp).2⟩,BM:=λb hb=>⟨(st.BM b hb).1,(hf.BM b hb).1,(hf.BM b hb).2⟩,os:=hf.os,out:=hf.out,grow:=hf.grow }))
theorem At.Ru {l:Nat}{r:Loop}(TE:g.IQ=some l)(G:Z22 l=some (.loop (lp r .busy none)))(h:g.R (.returned (.bool true)) (Z22.set l (.loop (lp r .ready none)))):At g [] e bx Z22:=λw0 F a w st b cs gw uS rJ Vu=>by
 unfold Rt;rw[TE]
 rintro c cs' rfl
 exact⟨_,_,⟨_,h,st.toFin.put G⟩,.one (stepR_round_end (rJ.trans TE) uS (run_endRound (r:=lp r .busy none) none (st.sat _ _ G)))⟩
theorem At.sub {Hi:Bx}(G:Hi.Sublist bx)(h:At g k e Hi Z22):At g k e bx Z22:=λw0 F a w st=>
 h w0 F a w { st with box:=λp hp=>st.box p (G.subset hp),free:=λp hp=>st.free p (G.subset hp),nodup:=(G.map _).nodup st.nodup }
def Mf (e:Env):List (Nat×Value)->Env
 | []=>e
 | (t,v)::l=>upd (Mf e l) t v
theorem rK {e:Env}:∀{l:List (Nat×Value)},(∀p∈l,e p.1=p.2)->Mf e l=e
 | [],_=>rfl
 | (t,v)::l,h=>by
  have G:Mf e l=e:=rK λp hp=>h p (Ajm _ hp)
  funext i
  simp only[Mf,G,upd];by_cases hi:i=t
  .subst hi;rw[AnI];exact(h (i,v) (Aj5 ..)).symm
  .rw[nC hi];rfl
def Live (e:Env):List (Nat×Value)->Prop
 | []=>True
 | (t,v)::l=>e t=v/\Live e l
theorem Live.mem {e:Env}:∀{l:List (Nat×Value)},Live e l->∀p∈l,e p.1=p.2
 | (_,_)::_,h,p,hp=>by
  rcases Ajo.1 hp with rfl|hp
  .exact h.1
  .exact h.2.mem p hp
theorem At.live {l:List (Nat×Value)}(G:Live e l)(h:At g k (Mf e l) bx Z22):At g k e bx Z22:=by
 rwa[rK G.mem]at h
end steps
theorem Spec.Vx {P:Program}{f:FuncId}{fn:Func}{c:Code}{args:Array Value}{Z22:Hp}{R:Rr}
  (hf:P.funcs[f]?=some fn) (hb:fn.body=some c) (hn:args.size<=fn.ntmps)
  (h:∀e:Env,(∀t,e t=args.getD t undef)->At (Gl.fn P f fn.ntmps R) [.code c] e [] Z22):Spec P f args Z22 R:=by
 intro w F hs hF cs
 let b:Frame:={ (default:Frame) with fn:=f,kind:=.normal,roundOf:=none }
 have nE:Frame.enter P f args .normal =
   b.atR { tmps:=args++Array.replicate (fn.ntmps-args.size) undef,defers:=[] } [.code c]:=by
  simp[Frame.enter,Frame.atR,hf,hb,b]
 rw[nE];have st:St fn.ntmps [] w F (λt=>args.getD t undef) [] Z22 { tmps:=args++Array.replicate (fn.ntmps-args.size) undef,defers:=[] } w:=by
  refine⟨by simp;omega,λt=>?_,rfl,hs,(λp hp=>by cases hp),(λp hp=>by cases hp),Ak9,λb hb=>⟨(hF b hb).1,(hF b hb).2,rfl⟩,.same rfl rfl rfl,rfl,Ajt _⟩;rcases Alc t args.size with G|G
  .simp[AlW,G]
  .simp only[AlR,AlW,Nat.not_lt.2 G,AlE,Array.getElem?_replicate,Al8 G];split<;>rfl
 obtain⟨e,w',fr,r,cc,Vu,hl⟩:=h _ (λ_=>rfl) w F _ w st b cs rfl rfl rfl ⟨fn,hf⟩;exact⟨e,w',fr,r,cc,Vu,hl⟩
def Ac (ops:Array Oper)(e:Env)(gd:Option (Nat×Bool)):Bool:=
 match gd with
 | none=>true
 | some (j,G)=>(match (ops[j]?).bind (·.dst) with
  | some d=>(match e d with | .bool b=>some b | _=>none)
  | none=>none)==some G
theorem St.wanted {n ds w0 F e bx Z22 a w}(h:St n ds w0 F e bx Z22 a w)(ops:Array Oper)(o:Oper):
  Region.wanted o (yielded ops a.tmps)=Ac ops e o.guard:=by
 unfold Region.wanted Ac;cases o.guard with
 | none=>rfl
 | some p=>
  obtain⟨j,G⟩:=p;simp only[yielded];cases(ops[j]?).bind (·.dst) with
  | none=>rfl
  | some d=>
   have hd:=h.env d;simp only[AmF,<-hd,AlR];cases a.tmps[d]? with
   | none=>rfl
   | some v=>cases v<;>rfl
def Qx (g:Gl)(w0:World)(F:Nat->Prop):Exit->Act->World->Prop
 | .panic G,a,w=>(g.IQ=none/\a.defers=[])/\ADv g w0 F (.panicked G) w
 | _,_,_=>False
def AW (g:Gl)(ops:Array Oper)(i:Nat)(e:Env)(bx:Bx)(Z22:Hp)(K:Env->Bx->Hp->Prop):Prop:=
 ∀G F a w,St g.n g.ds G F e bx Z22 a w->wpOpIn (wd g.IQ) 0 g.P ops (Qx g G F) i (λa' w'=>∃e' Hi Z',St g.n g.ds G F e' Hi Z' a' w'/\K e' Hi Z') a w
def Seq (g:Gl)(ops:Array Oper):List Nat->Env->Bx->Hp->(Env->Bx->Hp->Prop)->Prop
 | [],e,bx,Z22,K=>K e bx Z22
 | i::is,e,bx,Z22,K=>AW g ops i e bx Z22 λe' G Z'=>Seq g ops is e' G Z' K
def Yd (P:Program)(e:Env)(bx:Bx)(Z22:Hp)(op:Op)(ty:TypeId)(v:Value):Prop:=
 ∀o:Oper,o.op=op->o.type=ty->∀w,Sat Z22 w->LC bx w->(execOp (AD e) o).run P w=.ok (.value v) w
abbrev KB:=Option (List (Nat×List Nat))
def KM (q:KB)(own:Option (Nat×List (List Nat)))(Z22:Hp):Hp:=
 match q,own with
 | none,_=>Z22
 | some _,none=>λ_=>none
 | some _,some x=>λb=>if b=x.1 then Z22 b else none
def My:KB->Option (Nat×List (List Nat))->KB
 | none,_=>none
 | some L,none=>some L
 | some L,some x=>some ((x.1,x.2.filterMap List.head?)::L)
def HB:KB->Nat->KB
 | none,_=>none
 | some L,j=>some (L.filter λx=>!x.2.contains j)
def KO (ops:Array Oper)(t u:Nat):Bool:=
 match ops[t]? with
 | some o=>o.after.any λe=>Region.binds .any e&&e.on==u
 | none=>false
def Vy (ops:Array Oper)(i:Nat):List Nat->Bool
 | []=>false
 | [t]=>KO ops t i
 | t::u::r=>KO ops t u&&Vy ops i (u::r)
def KB.ok (q:KB)(i:Nat):Bool:=
 match q with
 | none=>true
 | some L=>L.all λx=>!x.2.contains i
def Rv (ops:Array Oper)(i:Nat):Option (Nat×List (List Nat))->Bool
 | none=>true
 | some x=>x.2.all (Vy ops i)
def Sq (q:KB)(Z22:Hp)(bx:Bx)(G:Array Bool)(w:World):Prop:=
 LC bx w/\match q with
  | none=>Sat Z22 w
  | some L=>∀x∈L,(∃t∈x.2,G.getD t false=true)\/∀o,Z22 x.1=some o->w.heap[x.1]?=some o
def Iq (q:KB)(bx:Bx)(Z22:Hp)(G:Bx)(Z':Hp):Prop:=
 (∀p∈bx,p∈G)/\match q with
  | none=>∀b o,Z22 b=some o->Z' b=some o
  | some L=>∀x∈L,∀o,Z22 x.1=some o->Z' x.1=some o
theorem Iq.refl (q:KB)(bx:Bx)(Z22:Hp):Iq q bx Z22 bx Z22:=⟨λ_ h=>h,by cases q<;>simp⟩
theorem Sq.of {q:KB}{Z22:Hp}{bx:Bx}{G:Array Bool}{w:World}(h:Sat Z22 w)(hb:LC bx w):Sq q Z22 bx G w:=⟨hb,by
 cases q with
 | none=>exact h
 | some L=>exact λx _=>.inr λo ho=>h _ _ ho⟩
theorem du {G:Array Bool}{i t:Nat}(h:t≠i):(G.setIfInBounds i true).getD t false=G.getD t false:=getD_set_ne false (Aj4 h)
theorem Sq.set {q:KB}{Z22:Hp}{bx:Bx}{i:Nat}(Aa:q.ok i=true)(G:Array Bool)(w:World):Sq q Z22 bx (G.setIfInBounds i true) w↔Sq q Z22 bx G w:=by
 unfold Sq;cases q with
 | none=>exact Iff.rfl
 | some L=>
  refine and_congr Iff.rfl (forall_congr' λx=>forall_congr' λhx=>or_congr ?_ Iff.rfl);have yW:i ∉ x.2:=by
   have:=Akk.1 Aa x hx;simpa using this
  refine exists_congr λt=>and_congr_right λht=>?_;rw[du (λh=>yW (by subst h;exact ht))]
theorem UC {ops:Array Oper}{n i:Nat}{G:Array Bool}(inv:HeadInv .any ops n G):∀(p:List Nat) (t:Nat),Vy ops i p=true->p.head?=some t->G.getD t false=true->G.getD i false=true
 | [],_,h,_,_=>by cases h
 | [t'],t,h,ht,hl=>by
  simp only[Amw,Ajv]at ht;subst ht;simp only[Vy,KO]at h;split at h
  .rename_i o ho;obtain⟨e,he,hb⟩:=Array.any_eq_true'.1 h;simp only[Ajz,AmL]at hb;exact hb.2▸inv.closed _ o ho hl e he hb.1
  .cases h
 | t'::u::r,t,h,ht,hl=>by
  simp only[Amw,Ajv]at ht;subst ht;simp only[Vy,Ajz]at h;refine UC inv (u::r) u h.2 rfl ?_;have h:=h.1;simp only[KO]at h;split at h
  .rename_i o ho;obtain⟨e,he,hb⟩:=Array.any_eq_true'.1 h;simp only[Ajz,AmL]at hb;exact hb.2▸inv.closed _ o ho hl e he hb.1
  .cases h
theorem Sq.own {ops:Array Oper}{n i:Nat}{G:Array Bool}{q:KB}{own:Option (Nat×List (List Nat))}{Z22:Hp}{bx:Bx}{w:World}(inv:HeadInv .any ops n G)(TF:G.getD i true=false)(Aa:Rv ops i own=true)
  (h:Sq (My q own) Z22 bx G w):Sat (KM q own Z22) w/\LC bx w:=by
 refine⟨?_,h.1⟩;cases q with
 | none=>exact h.2
 | some L=>
  cases own with
  | none=>intro b o hb;cases hb
  | some x=>
   intro b o hb;simp only[KM]at hb;split at hb
   .rename_i hbx;subst hbx;rcases h.2 (x.1,x.2.filterMap List.head?) (Aj5 ..) with ⟨t,ht,hl⟩|h2
    .obtain⟨p,hp,hpt⟩:=AlI.1 ht;have:=UC inv p t (Akk.1 Aa p hp) hpt hl;rw[getD_both TF]at this;cases this
    .exact h2 o hb
   .cases hb
theorem Sq.less {q:KB}{own:Option (Nat×List (List Nat))}{Z22:Hp}{bx:Bx}{G:Array Bool}{w:World}(h:Sq (My q own) Z22 bx G w):Sq q Z22 bx G w:=by
 refine⟨h.1,?_⟩;cases q with
 | none=>exact h.2
 | some L=>
  cases own with
  | none=>exact h.2
  | some x=>exact λy hy=>h.2 y (Ajm _ hy)
theorem Sq.dw {q:KB}{Z22 Z':Hp}{bx Hi:Bx}{i:Nat}{G:Array Bool}{w:World}(hi:G.getD i false=true)(hk:Iq (HB q i) bx Z22 Hi Z')(h:Sq (HB q i) Z' Hi G w):Sq q Z22 bx G w:=by
 refine⟨λp hp=>h.1 p (hk.1 p hp),?_⟩;cases q with
 | none=>exact λb o hb=>h.2 b o (hk.2 b o hb)
 | some L=>
  intro x hx;by_cases hc:i∈x.2
  .exact .inl ⟨i,hc,hi⟩
  .have hm:x∈L.filter λx=>!x.2.contains i:=AlC.2 ⟨hx,by simpa using hc⟩;rcases h.2 x hm with h2|h2
   .exact .inl h2
   .exact .inr λo ho=>h2 o (hk.2 x hm o ho)
def Head (g:Gl)(ops:Array Oper):KB->List (Nat×Bool)->Env->Bx->Hp->(Env->Bx->Hp->Prop)->Prop
 | _,[],e,bx,Z22,K=>K e bx Z22
 | q,(i,true)::r,e,bx,Z22,K=>∃own o v,((My q own).ok i&&Rv ops i own)=true/\ops[i]?=some o/\((Ac ops e o.guard=true/\Yd g.P e bx (KM q own Z22) o.op o.type v)\/(Ac ops e o.guard=false/\v=undef))/\
  (∀t,o.dst=some t->t<g.n)/\Head g ops (My q own) r (put e o.dst v) bx Z22 K
 | q,(i,false)::r,e,bx,Z22,K=>AW g ops i e bx Z22 λe' G Z'=>Iq (HB q i) bx Z22 G Z'/\Head g ops (HB q i) r e' G Z' K
def TG (ops:Array Oper)(n:Nat):List (Nat×Bool)->Array Bool->Bool
 | [],G=>Region.seqB .any ops (ops.size-n) n G
 | (i,true)::r,G=>decide (i<n)&&(Region.ready .any ops G).contains i&&Region.free .any ops G i&&TG ops n r (G.setIfInBounds i true)
 | (i,false)::r,G=>decide (i<n)&&(Region.ready .any ops G==[i])&&TG ops n r (G.setIfInBounds i true)
def yX (ops:Array Oper)(n:Nat)(plan:List (Nat×Bool))(G:List Nat):Bool:=
 Region.noSelect ops&&decide (plan.length=n)&&(decide (n=ops.size)||(decide (n<ops.size)&&Region.sinkB .any ops n&&Region.chainB .any ops n)) &&
  decide (G=List.range' n (ops.size-n))&&TG ops n plan (Array.replicate ops.size false)
section head
variable {P:Program}{ro:Option Nat}{ops:Array Oper}{Q:Exit->Act->World->Prop}{md:Region.Mode}
theorem Ct {i:Nat}{o:Oper}{K:Act->World->Prop}{a:Act}{w:World}(G:ops[i]?=some o)(hw:Region.wanted o (yielded ops a.tmps)=true)(h:o.uponIn (wd ro) 0 P a K Q ((o.semAt ro a.eval).run P w)):
  wpOpIn (wd ro) 0 P ops Q i K a w:=by
 unfold wpOpIn;simp only[G,hw,AlG];exact⟨λ_ _=>trivial,h⟩
theorem nF {i:Nat}{o:Oper}{K:Act->World->Prop}{a:Act}{w:World}(G:ops[i]?=some o)(hw:Region.wanted o (yielded ops a.tmps)=false)(h:K (a.put o.dst undef) w):wpOpIn (wd ro) 0 P ops Q i K a w:=by
 unfold wpOpIn;simp only[G,hw,AlF,AlE];exact⟨λ_ _=>trivial,h⟩
theorem rL {S:World->Prop}{i:Nat}{o:Oper}{v:Value}{a:Act}(hi:ops[i]?=some o)(hy:YieldsIf P ops S o v a)
  {K:Act->World->Prop} {w:World} (hS:S w) (h:K (a.put o.dst v) w):wpOpIn (wd ro) 0 P ops Q i K a w:=by
 rcases hy with ⟨G,hv⟩|⟨G,rfl⟩
 .refine Ct hi G ?_;rw[Dh (hv w hS) (λd=>by simp)];exact h
 .exact nF hi G h
theorem uT {o:Oper}(hs:∀cs b,o.op≠.select cs b)(a:Act)(dst:Option Tmp)(u:Value)(h:∀d,dst=some d->d ∉ o.looksAt ops):o.semAt ro (a.put dst u).eval=o.semAt ro a.eval:=by
 have he:=execOp_put o hs a dst u h;by_cases hd:∃c,o.op=.defer c
 .obtain⟨c,G⟩:=hd;have hr:resolve (a.put dst u).eval c o.type=resolve a.eval c o.type:=resolve_congr (ρ:=(a.put dst u).eval) (ρ':=a.eval) c o.type (λx hx=>Act.eval_put λd hd hxd=>h d hd (by
   subst hxd;exact Aky _ (AlI.2 ⟨.tmp d,by rw[G];simpa[Op.operands] using hx,rfl⟩)))
  unfold Oper.semAt;cases ro with
  | none=>exact he
  | some l=>simp only[G,hr]
 .rw[Oper.semAt_eq ro _ o (λc G=>hd ⟨c,G⟩),Oper.semAt_eq ro _ o (λc G=>hd ⟨c,G⟩)];exact he
theorem uU {S:World->Prop}{j:Nat}{oi oj:Oper}{v:Value}(hj:ops[j]?=some oj)(hap:oi.apart ops oj=true)
  (hsi:∀cs b,oi.op≠.select cs b) (hsj:∀cs b,oj.op≠.select cs b)
  (hQ:∀c a w,Q (.panic c) (a.put oi.dst v) w->Q (.panic c) a w) {K:Act->World->Prop} {a:Act} {w:World}
  (hy:YieldsIf P ops S oi v a) (h:wpOpIn (wd ro) 0 P ops Q j K (a.put oi.dst v) w) :
  wpOpIn (wd ro) 0 P ops Q j (λa' w'=>YieldsIf P ops S oi v a'/\K (a'.put oi.dst v) w') a w:=by
 obtain⟨h1,h2,h3⟩:=Oper.apart_spec hap;have G:∀(a:Act),YieldsIf P ops S oi v a->∀u,YieldsIf P ops S oi v (a.put oj.dst u):=λa hy u=>
  hy.of_same (execOp_put oi hsi a oj.dst u h3) (wanted_put oi a oj.dst u h3)
 have AOP:∀d,YieldsIf P ops S oi v { a with defers:=d::a.defers }:=λd=>hy.of_same rfl rfl;unfold wpOpIn at h;simp only[hj]at h;rw[wanted_put oj a oi.dst v h1]at h;by_cases hw:Region.wanted oj (yielded ops a.tmps)=true
 .simp only[hw,AlG]at h;refine Ct hj hw ?_;have h:=h.2
  change oj.uponIn (wd ro) 0 P (a.put oi.dst v) K Q ((oj.semAt ro (a.put oi.dst v).eval).run P w)at h
  rw[uT hsj a oi.dst v h1]at h;generalize (oj.semAt ro a.eval).run P w=r at *;cases r with
  | ok n w'=>
   cases n<;>simp only[Oper.uponIn]at h ⊢
   case value u=>exact⟨G a hy u,by rw[<-Act.put_comm a v u h2];exact h⟩
   case skip=>exact⟨G a hy _,by rw[<-Act.put_comm a v undef h2];exact h⟩
   case defer d=>
    refine⟨G _ (AOP d) _,?_⟩;rw[<-Act.put_comm _ v undef h2,<-Act.put_defers];exact h
   case enter f args=>
    refine⟨h.1,CallsIn.mono h.2 λe w'' he=>?_⟩;cases e with
    | returned u=>exact⟨G a hy u,by rw[<-Act.put_comm a v u h2];exact he⟩
    | panicked c=>exact hQ _ _ _ he
    | outgrown=>exact he
   case row row args=>exact⟨h.1,RowsIn.mono h.2 λu w'' he=>⟨G a hy u,by rw[<-Act.put_comm a v u h2];exact he⟩⟩
   case round l f tmps assign body=>
    refine⟨h.1,RoundIn.mono h.2 λe w'' he=>?_⟩;cases e with
    | returned u=>exact⟨G a hy u,by rw[<-Act.put_comm a v u h2];exact he⟩
    | panicked c=>exact hQ _ _ _ he
    | outgrown=>exact he
  | halt x w'=>
   cases x<;>simp only[Oper.uponIn]at h ⊢
   case panic u=>exact hQ _ _ _ h
 .have hw:Region.wanted oj (yielded ops a.tmps)=false:=by simpa using hw
  simp only[hw,AlF,AlE]at h;exact nF hj hw ⟨G a hy _,by rw[<-Act.put_comm a v undef h2];exact h.2⟩
def IS (P:Program)(ro:Option Nat)(md:Region.Mode)(ops:Array Oper)(Q:Exit->Act->World->Prop)(S:Array Bool->World->Prop)(n:Nat)(L:Array Bool->Act->World->Prop):Nat->Array Bool->Act->World->Prop
 | 0,G,a,w=>L G a w
 | f+1,G,a,w=>Region.ready md ops G≠[]/\
  ∀i∈Region.ready md ops G,i<n/\wpOpIn (wd ro) 0 P ops Q i (λa' w'=>S (G.setIfInBounds i true) w'/\IS P ro md ops Q S n L f (G.setIfInBounds i true) a' w') a w
theorem GV {n g:Nat}{S:Array Bool->World->Prop}{L:Array Bool->Act->World->Prop}(hL:∀G a w,L G a w->wpAnyIn (wd ro) 0 P md ops Q g G a w):
  ∀(f:Nat) (G:Array Bool) (a:Act) (w:World),IS P ro md ops Q S n L f G a w->wpAnyIn (wd ro) 0 P md ops Q (f+g) G a w
 | 0,G,a,w,h=>by rw[Akn];exact hL _ _ _ h
 | f+1,G,a,w,h=>by
  rw[show f+1+g=(f+g)+1 by omega];exact⟨λh0=>absurd h0 h.1,λi hi=>wpOpIn_mono (λa' w' h'=>GV hL f _ a' w' h'.2) (h.2 i hi).2⟩
theorem GX {n:Nat}{S S':Array Bool->World->Prop}{G:Array Bool->Prop}{L:Array Bool->Act->World->Prop}(hG:∀listed j,G listed->G (listed.setIfInBounds j true))(hS:∀listed w,G listed->S' listed w->S listed w):
  ∀(f:Nat) (listed:Array Bool) (a:Act) (w:World),G listed->IS P ro md ops Q S' n L f listed a w->IS P ro md ops Q S n L f listed a w
 | 0,_,_,_,_,h=>h
 | f+1,_,_,_,hg,h=>⟨h.1,λi hi=>⟨(h.2 i hi).1,wpOpIn_mono (λa' w' h'=>⟨hS _ _ (hG _ _ hg) h'.1,GX hG hS f _ a' w' (hG _ _ hg) h'.2⟩) (h.2 i hi).2⟩⟩
theorem Vz {n:Nat}{f:FuncId}{args:Array Value}{w:World}{R:Ending->World->Prop}(h:Calls P f args w R):CallsIn (wd ro) n P f args w R:=
 ⟨trivial,λcs _=>let ⟨e,w',fr,r,s,x⟩:=h cs;⟨e,w',fr,r,comesIn_wide.2 s,x⟩⟩
theorem Ql {n i:Nat}{oi:Oper}{v:Value}{S:Array Bool->World->Prop}{Sy:World->Prop}{L:Array Bool->Act->World->Prop}(hi:ops[i]?=some oi)(Mz:∀(j:Nat) (o:Oper) cs b,ops[j]?=some o->o.op≠.select cs b)
  (hQ:∀c a w,Q (.panic c) (a.put oi.dst v) w->Q (.panic c) a w)
  (Hj:∀G,HeadInv md ops n G->∀i,i<n->G.getD i true=false->∀t,n<=t->t ∉ Region.ready md ops G)
  (hSi:∀G w,S (G.setIfInBounds i true) w↔S G w) (hSy:∀G w,HeadInv md ops n G->G.getD i true=false->S G w->Sy w)
  (UD:i<n) (AOQ:∀G a w,L G a w->∀j∈Region.ready md ops G,n<=j) :
  ∀(f:Nat) (G:Array Bool) (a:Act) (w:World),HeadInv md ops n G->
   (∀j oj,ops[j]?=some oj->j≠i->G.getD j true=false->(∀e∈oj.after,Region.binds md e=true->e.on≠i)->oi.apart ops oj=true)->
   i∈Region.ready md ops G->YieldsIf P ops Sy oi v a->S G w->
   IS P ro md ops Q S n L f (G.setIfInBounds i true) (a.put oi.dst v) w->IS P ro md ops Q S n L (f+1) G a w:=by
 intro f
 induction f with
 | zero=>
  intro G a w inv _ hr hy hS H;have TF:=(mem_ready.1 hr).1;refine⟨λh=>(by rw[h]at hr;cases hr),λj hj=>?_⟩;have hjn:j<n:=by
   rcases Alc j n with h|h
   .exact h
   .exact absurd hj (Hj _ inv i UD TF j h)
  refine⟨hjn,?_⟩;by_cases hji:j=i
  .subst hji;exact rL hi hy (hSy _ _ inv TF hS) ⟨(hSi _ _).2 hS,H⟩
  .have:=AOQ _ _ _ H j (ready_mono hj hji);omega
 | succ f ih=>
  intro G a w inv AGu hr hy hS H;have TF:=(mem_ready.1 hr).1;refine⟨λh=>(by rw[h]at hr;cases hr),λj hj=>?_⟩;have hjn:j<n:=by
   rcases Alc j n with h|h
   .exact h
   .exact absurd hj (Hj _ inv i UD TF j h)
  refine⟨hjn,?_⟩;by_cases hji:j=i
  .subst hji;exact rL hi hy (hSy _ _ inv TF hS) ⟨(hSi _ _).2 hS,H⟩
  .have h1:=(H.2 j (ready_mono hj hji)).2;obtain⟨AOR,oj,hoj,Mg⟩:=mem_ready.1 hj;have AXB:∀e∈oj.after,Region.binds md e=true->e.on≠i:=λe he hb heq=>by
    have h1:=Mg e he hb;rw[heq,getD_both TF]at h1;cases h1
   have h2:=uU hoj (AGu j oj hoj hji AOR AXB) (λcs b=>Mz i oi cs b hi) (λcs b=>Mz j oj cs b hoj) hQ hy h1;have AJC:∀k ok,ops[k]?=some ok->k≠i->(G.setIfInBounds j true).getD k true=false->
     (∀e∈ok.after,Region.binds md e=true->e.on≠i)->oi.apart ops ok=true:=λk ok hk hki TF Ab=>by
    refine AGu k ok hk hki ?_ Ab;by_cases hjk:j=k
    .subst hjk;exact AOR
    .rw[getD_set_ne true hjk]at TF;exact TF
   refine wpOpIn_mono (λa' w' h3=>⟨(hSi _ _).1 (by rw[Al1 _ _ hji];exact h3.2.1),ih (G.setIfInBounds j true) a' w' (inv.set hj hjn) AJC (ready_mono hr (Aj4 hji)) h3.1 ((hSi _ _).1 (by rw[Al1 _ _ hji];exact h3.2.1)) ?_⟩) h2;rw[Al1 _ _ hji];exact h3.2.2
theorem Hf:∀(g k:Nat) (G:Array Bool) (a:Act) (w:World),
  Region.seqB md ops g k G=true->wpOpsIn (wd ro) 0 P ops Q (List.range' k g) a w->wpAnyIn (wd ro) 0 P md ops Q g G a w
 | 0,_,_,_,_,hB,h=>⟨by simpa[Region.seqB] using hB,h⟩
 | g+1,k,G,a,w,hB,h=>by
  simp only[Region.seqB,Ajz,Aj3]at hB;refine⟨λh1=>(by rw[hB.1]at h1;cases h1),λi hi=>?_⟩;rw[hB.1]at hi;have hik:i=k:=by simpa using hi
  subst hik;rw[List.range'_succ,wpOpsIn_cons]at h;exact wpOpIn_mono (λa' w' h'=>Hf g (i+1) _ a' w' hB.2 h') h
end head
section regions
variable {g:Gl}{ops:Array Oper}
def Qn (g:Gl)(G:World)(F:Nat->Prop)(K:Env->Bx->Hp->Prop):Exit->Act->World->Prop
 | .normal,a,w=>∃e bx Z22,St g.n g.ds G F e bx Z22 a w/\K e bx Z22
 | .panic ch,a,w=>(g.IQ=none/\a.defers=[])/\ADv g G F (.panicked ch) w
 | _,_,_=>False
theorem nG {P:Program}{ro:Option Nat}{Q Q':Exit->Act->World->Prop}(hp:∀c a w,Q (.panic c) a w->Q' (.panic c) a w)(ho:∀a w,Q .outgrown a w->Q' .outgrown a w)
  {i:Nat} {K:Act->World->Prop} {a:Act} {w:World} (h:wpOpIn (wd ro) 0 P ops Q i K a w):wpOpIn (wd ro) 0 P ops Q' i K a w:=by
 unfold wpOpIn at *;split
 .rename_i hn;simpa only[hn] using h
 .rename_i o hn;simp only[hn]at h;split
  .rename_i hw;simp only[hw,AlG]at h;unfold Oper.wpIn at *;refine⟨h.1,?_⟩;have h:=h.2;generalize (o.semAt (wd ro).round a.eval).run P w=r at *;cases r with
   | ok x w'=>
    cases x<;>simp only[Oper.uponIn]at h ⊢<;>try exact h
    .refine⟨h.1,CallsIn.mono h.2 λen w2 G=>?_⟩;cases en with
     | returned v=>exact G
     | panicked c=>exact hp _ _ _ G
     | outgrown=>obtain⟨a1,w1,h1⟩:=G;exact⟨a1,w1,ho _ _ h1⟩
    .refine⟨h.1,RoundIn.mono h.2 λen w2 G=>?_⟩;cases en with
     | returned v=>exact G
     | panicked c=>exact hp _ _ _ G
     | outgrown=>obtain⟨a1,w1,h1⟩:=G;exact⟨a1,w1,ho _ _ h1⟩
   | halt x w'=>
    cases x<;>simp only[Oper.uponIn]at h ⊢;exact hp _ _ _ h
  .rename_i hw;simp only[hw]at h;exact h
theorem Pp {K:Env->Bx->Hp->Prop}{w0 F}:∀(is:List Nat) (e:Env) (bx:Bx) (Z22:Hp) (a:Act) (w:World),St g.n g.ds w0 F e bx Z22 a w->
  Seq g ops is e bx Z22 K->wpOpsIn (wd g.IQ) 0 g.P ops (Qn g w0 F K) is a w
 | [],e,bx,Z22,a,w,st,h=>⟨e,bx,Z22,st,h⟩
 | i::is,e,bx,Z22,a,w,st,h=>by
  rw[wpOpsIn_cons];refine wpOpIn_mono ?_ (nG (Q:=Qx g w0 F) (λc a w h=>h) (λa w h=>h.elim) (h w0 F a w st))
  rintro a' w' ⟨e',Hi,Z',G,h'⟩
  exact Pp is e' Hi Z' a' w' G h'
theorem RA {K:Env->Bx->Hp->Prop}{w0 F}{n:Nat}{tl:List Nat}(Mz:Region.noSelect ops=true)
  (Hj:∀listed,HeadInv .any ops n listed->∀i,i<n->listed.getD i true=false->∀t,n<=t->t ∉ Region.ready .any ops listed)
  (gy:tl=List.range' n (ops.size-n)) :
  ∀(plan:List (Nat×Bool)) (q:KB) (listed:Array Bool) (e:Env) (bx:Bx) (Z22:Hp) (a:Act) (w:World),HeadInv .any ops n listed->TG ops n plan listed=true->
   St g.n g.ds w0 F e bx Z22 a w->Head g ops q plan e bx Z22 (λe bx Z22=>Seq g ops tl e bx Z22 K)->
   IS g.P g.IQ .any ops (Qn g w0 F K) (Sq q Z22 bx) n (λlisted a w=>Region.seqB .any ops (ops.size-n) n listed=true/\wpOpsIn (wd g.IQ) 0 g.P ops (Qn g w0 F K) tl a w) plan.length listed a w
 | [],_,listed,e,bx,Z22,a,w,_,Aa,st,h=>⟨Aa,Pp _ _ _ _ _ _ st h⟩
 | (i,true)::r,q,listed,e,bx,Z22,a,w,inv,Aa,st,h=>by
  obtain⟨own,o,v,hqq,ho,hy,hd,h⟩:=h;simp only[Ajz]at hqq;simp only[TG,Ajz,Aj3]at Aa;obtain⟨⟨⟨UD,hr⟩,hf⟩,Aa⟩:=Aa;have hZ:i∈Region.ready .any ops listed:=by simpa using hr
  refine GX (S':=Sq (My q own) Z22 bx) (G:=λ_=>True) (λ_ _ _=>trivial) (λ_ _ _ h=>h.less) _ _ _ _ trivial ?_;refine Ql (Sy:=λw=>Sat (KM q own Z22) w/\LC bx w) ho (Region.noSelect_spec Mz) ?_ Hj (Sq.set hqq.1) (λlisted w inv TF h=>Sq.own inv TF hqq.2 h) UD ?_ _ listed a w inv (Region.free_spec ho hf) hZ ?_ (Sq.of st.sat st.box)
   (RA Mz Hj gy r _ _ _ _ _ _ _ (inv.set hZ UD) Aa (st.put o.dst v hd) h)
  .rintro c a w ⟨⟨h0,h1⟩,h2⟩
   exact⟨⟨h0,by cases M6:o.dst<;>simpa[Act.put,M6] using h1⟩,h2⟩
  .intro listed a w hL;exact seqB_ready hL.1
  .rcases hy with ⟨hw,hy⟩|⟨hw,rfl⟩
   .exact .inl ⟨by rw[st.wanted];exact hw,λw hS=>by rw[st.eval];exact hy o rfl rfl w hS.1 hS.2⟩
   .exact .inr ⟨by rw[st.wanted];exact hw,rfl⟩
 | (i,false)::r,q,listed,e,bx,Z22,a,w,inv,Aa,st,h=>by
  simp only[TG,Ajz,Aj3,AmL]at Aa;obtain⟨⟨UD,hr⟩,Aa⟩:=Aa;refine⟨by rw[hr];simp,λj hj=>?_⟩;rw[hr]at hj;obtain rfl:j=i:=by simpa using hj
  refine⟨UD,wpOpIn_mono ?_ (nG (Q:=Qx g w0 F) (λc a w h=>h) (λa w h=>h.elim) (h w0 F a w st))⟩
  rintro a' w' ⟨e',Hi,Z',HC,hk,h'⟩
  have hl:(listed.setIfInBounds j true).getD j false=true:=by
   have Ax:j<listed.size:=by rw[inv.size];obtain⟨_,o,ho,_⟩:=mem_ready.1 (show j∈Region.ready .any ops listed by rw[hr];simp);exact(Aj2.1 ho).1
   simp[Ax]
  exact⟨Sq.dw hl hk (Sq.of HC.sat HC.box),GX (S':=Sq (HB q j) Z' Hi) (G:=λl=>l.getD j false=true) (λ_ _ h=>getD_set_true h) (λ_ _ hg h=>Sq.dw hg hk h) _ _ _ _ hl
   (RA Mz Hj gy r _ _ _ _ _ _ _ (inv.set (by rw[hr];simp) UD) Aa HC h')⟩
end regions
theorem J0.of_wp {g:Gl}{c:Code}{k:List Item}{a:Act}{w:World}{w0 F}{K:Env->Bx->Hp->Prop}
  (h:c.wpIn (wd g.IQ) 0 g.P (Qn g w0 F K) a w) (hk:∀e bx Z22,K e bx Z22->At g k e bx Z22):J0 g.P g.f g.IQ (.code c::k) a w (ADv g w0 F):=by
 intro b cs hf iP rJ Vu;obtain⟨e,a',w',G,iQ⟩:=h b k cs rJ trivial ADu;cases e with
 | normal=>
  obtain⟨e,bx,Z22,st,hK⟩:=G;exact .of_steps iQ.steps (hk _ _ _ hK w0 F a' w' st b cs hf iP rJ Vu)
 | panic ch=>
  obtain⟨⟨TE,hd⟩,G⟩:=G;obtain⟨todo,hs⟩:=iQ;obtain⟨fn,Vu⟩:=Vu;unfold Rt;rw[TE];exact⟨.panicked ch,w',_,G,hs.steps,hf,rfl,hd,fn,by simpa[Frame.atR,hf] using Vu⟩
 | _=>exact G.elim
section yY
variable {g:Gl}{k:List Item}{e:Env}{bx:Bx}{Z22:Hp}
theorem At.region {c:Code}{id:Nat}{ops:Array Oper}{l:List Nat}(G:c=.region id ops false)(hl:List.range ops.size=l)
  (h:Seq g ops l e bx Z22 (λe bx Z22=>At g k e bx Z22)):At g (.code c::k) e bx Z22:=λ_ _ a w st=>
 G▸J0.of_wp (K:=λe bx Z22=>At g k e bx Z22) (wpIn_region (hl▸Pp l e bx Z22 a w st h)) (λ_ _ _ h=>h)
theorem At.draw {c:Code}{id:Nat}{ops:Array Oper}{n:Nat}{q:KB}{plan:List (Nat×Bool)}{tl:List Nat}(hm:g.P.follows .mixedOrders=true)(hc:c=.region id ops true)
  (hp:yX ops n plan tl=true)
  (h:Head g ops q plan e bx Z22 (λe bx Z22=>Seq g ops tl e bx Z22 (λe bx Z22=>At g k e bx Z22))):At g (.code c::k) e bx Z22:=λw0 F a w st=>by
 subst hc;simp only[yX,Ajz,Alh,Aj3]at hp;obtain⟨⟨⟨⟨Mz,hlen⟩,hn⟩,gy⟩,Aa⟩:=hp;have Mh:n<=ops.size:=by rcases hn with h|h<;>omega
 have Hj:∀G,HeadInv .any ops n G->∀i,i<n->G.getD i true=false->∀t,n<=t->t ∉ Region.ready .any ops G:=by
  intro G inv i hi TF t ht;rcases hn with h|⟨⟨h1,h2⟩,h3⟩
  .intro hr;obtain⟨_,o,ho,_⟩:=mem_ready.1 hr;have:=(Aj2.1 ho).1;omega
  .exact tail_waits h2 h3 h1 inv _ i rfl hi TF t ht
 have yZ:HeadInv .any ops n (Array.replicate ops.size false):=
  ⟨by simp,λj oj _ hl=>(by rw[getD_replicate_false]at hl;cases hl),λt _ ht=>getD_in (by simpa using ht) (getD_replicate_false _ _)⟩
 refine J0.of_wp (K:=λe bx Z22=>At g k e bx Z22) (wpIn_region_any hm ?_) (λ_ _ _ h=>h);have H:=RA (K:=λe bx Z22=>At g k e bx Z22) (tl:=tl) Mz Hj gy plan q (Array.replicate ops.size false) e bx Z22 a { w with drawn:=w.drawn+1 } yZ Aa st.drew h;have:=GV (g:=ops.size-n) (λG a w hL=>Hf _ _ G a w hL.1 (gy▸hL.2)) _ _ _ _ H;rw[hlen,show n+(ops.size-n)=ops.size by omega]at this;exact this
end yY
end Tw
end
section
namespace Tw
open Go
variable [GO]
def Hp.ld (Z22:Hp)(a:Addr):Option Value:=
 match Z22 a.block with
 | some (.cells c _ _)=>if a.spot.isSome then none else c[a.off]?
 | _=>none
theorem Sat.ld {Z22:Hp}{w:World}(h:Sat Z22 w){a:Addr}{v:Value}(G:Z22.ld a=some v):w.cell? a=some v:=by
 unfold Hp.ld at G;unfold World.cell?;cases hb:Z22 a.block with
 | none=>simp[hb]at G
 | some o=>rw[h _ _ hb];rw[hb]at G;exact G
def A2 (Z22:Hp)(b:Nat):Nat->List Value->Prop
 | _,[]=>True
 | o,v::l=>Z22.ld ⟨b,o,none⟩=some v/\A2 Z22 b (o+1) l
theorem A2.get {Z22:Hp}{b:Nat}:∀{l:List Value} {o j:Nat} {v:Value},A2 Z22 b o l->l[j]?=some v->Z22.ld ⟨b,o+j,none⟩=some v
 | x::l,o,0,v,h,G=>by simp at G;subst G;exact h.1
 | x::l,o,j+1,v,h,G=>by
  have:=A2.get (l:=l) (o:=o+1) (j:=j) h.2 (by simpa using G);rwa[show o+(j+1)=o+1+j by omega]
theorem Cv (b o n:Nat):(⟨b,o,none⟩:Addr).add n=⟨b,o+n,none⟩:=by cases n<;>simp[Addr.add]
section nH
variable {P:Program}{e:Env}{bx:Bx}{Z22:Hp}{ty T T':TypeId}{x y z:Operand}{k:IntKind}{a b:Int}
theorem Yd.of {op:Op}{v:Value}(m:Sem Value)(h:∀o:Oper,o.op=op->o.type=ty->execOp (AD e) o=(do pure (.value (<-m))))
  (hm:∀w,Sat Z22 w->LC bx w->m.run P w=.ok v w):Yd P e bx Z22 op ty v:=λoo G ht w hs hb=>by
 rw[h oo G ht];simp[hm w hs hb]
theorem Yd.pu {op:Op}{v:Value}(h:∀o:Oper,o.op=op->execOp (AD e) o=pure (.value v)):Yd P e bx Z22 op ty v:=λoo G _ w _ _=>by
 rw[h oo G];simp
theorem Y.move {v:Value}(hx:AD e x=v):Yd P e bx Z22 (.move x) ty v:=.pu λo G=>by simp[execOp,G,hx]
theorem Y.assign {v:Value}(hx:AD e x=v):Yd P e bx Z22 (.assign x) ty v:=.pu λo G=>by simp[execOp,G,hx]
theorem Y.AGv {v:Value}(G:AD e z=.bool true)(hx:AD e x=v):Yd P e bx Z22 (.pick z x y) ty v:=
 .pu λo ho=>by simp[execOp,ho,G,hx,asBool]
theorem Y.AGw {v:Value}(G:AD e z=.bool false)(hx:AD e y=v):Yd P e bx Z22 (.pick z x y) ty v:=
 .pu λo ho=>by simp[execOp,ho,G,hx,asBool]
theorem Y.lss (hx:AD e x=.int k a)(hy:AD e y=.int k b):Yd P e bx Z22 (.binOp .lss T x y T') ty (.bool (decide (a<b))):=
 λoo G _ w _ _=>by simp[execOp,G,hx,hy,eqGuard_lss,binOp_lss]
theorem Y.leq (hx:AD e x=.int k a)(hy:AD e y=.int k b):Yd P e bx Z22 (.binOp .leq T x y T') ty (.bool (decide (a<=b))):=
 λoo G _ w _ _=>by simp[execOp,G,hx,hy,eqGuard_leq,binOp_leq]
theorem Y.gtr (hx:AD e x=.int k a)(hy:AD e y=.int k b):Yd P e bx Z22 (.binOp .gtr T x y T') ty (.bool (decide (b<a))):=
 λoo G _ w _ _=>by simp[execOp,G,hx,hy,eqGuard_gtr,binOp_gtr]
theorem Y.geq (hx:AD e x=.int k a)(hy:AD e y=.int k b):Yd P e bx Z22 (.binOp .geq T x y T') ty (.bool (decide (b<=a))):=
 λoo G _ w _ _=>by simp[execOp,G,hx,hy,eqGuard_geq,binOp_geq]
theorem Y.eql (hx:AD e x=.int k a)(hy:AD e y=.int k b):Yd P e bx Z22 (.binOp .eql T x y T') ty (.bool (decide (a=b))):=
 λoo G _ w _ _=>by simp[execOp,G,hx,hy,eqGuard_at_int,binOp_eql];rfl
theorem Y.neq (hx:AD e x=.int k a)(hy:AD e y=.int k b):Yd P e bx Z22 (.binOp .neq T x y T') ty (.bool (decide (a≠b))):=
 λoo G _ w _ _=>by simp[execOp,G,hx,hy,eqGuard_at_int,binOp_neq];rfl
theorem Y.add (hx:AD e x=.int k a)(hy:AD e y=.int k b):Yd P e bx Z22 (.binOp .add T x y T') ty (.int k (k.wrap (a+b))):=
 λoo G _ w _ _=>by simp[execOp,G,hx,hy,eqGuard_add,binOp_add,Op.intArith]
theorem Y.sub (hx:AD e x=.int k a)(hy:AD e y=.int k b):Yd P e bx Z22 (.binOp .sub T x y T') ty (.int k (k.wrap (a-b))):=
 λoo G _ w _ _=>by simp[execOp,G,hx,hy,eqGuard_sub,binOp_sub,Op.intArith]
theorem Y.mul (hx:AD e x=.int k a)(hy:AD e y=.int k b):Yd P e bx Z22 (.binOp .mul T x y T') ty (.int k (k.wrap (a*b))):=
 λoo G _ w _ _=>by simp[execOp,G,hx,hy,eqGuard_mul,binOp_mul,Op.intArith]
def AL (n:Int):Prop:=-9223372036854775808<=n/\n<=9223372036854775807
theorem AL.wrap {n:Int}(h:AL n):IntKind.i64.wrap n=n:=by
 obtain⟨G,h2⟩:=h;simp[IntKind.wrap,IntKind.bits,IntKind.signed];split<;>omega
theorem Y.AXE (h:AL (a+b))(G:AD e x=.int .i64 a)(hy:AD e y=.int .i64 b):Yd P e bx Z22 (.binOp .add T x y T') ty (.int .i64 (a+b)):=by
 have:=Y.add (P:=P) (bx:=bx) (Z22:=Z22) (ty:=ty) (T:=T) (T':=T') G hy;rwa[h.wrap]at this
theorem Y.uV (h:AL (a-b))(G:AD e x=.int .i64 a)(hy:AD e y=.int .i64 b):Yd P e bx Z22 (.binOp .sub T x y T') ty (.int .i64 (a-b)):=by
 have:=Y.sub (P:=P) (bx:=bx) (Z22:=Z22) (ty:=ty) (T:=T) (T':=T') G hy;rwa[h.wrap]at this
theorem Y.bits {op:BinOp}(G:op=.and\/op=.or\/op=.xor\/op=.andNot)(hx:AD e x=.int k a)(hy:AD e y=.int k b):
  Yd P e bx Z22 (.binOp op T x y T') ty (.int k (Go.bits op k a b)):=
 λoo ho _ w _ _=>by
  rcases G with rfl|rfl|rfl|rfl <;>
   simp[execOp,ho,hx,hy,eqGuard_at_int,binOp_and,binOp_or,binOp_xor,binOp_andNot,intBits_and,intBits_or,intBits_xor,intBits_andNot]
theorem Y.shl {k':IntKind}(G:0<=b)(h1:b<=k.bits)(hx:AD e x=.int k a)(hy:AD e y=.int k' b):
  Yd P e bx Z22 (.binOp .shl T x y T') ty (.int k (k.wrap (a*2^b.toNat))):=
 λoo ho _ w _ _=>by simp[execOp,ho,hx,hy,eqGuard_shl,binOp_shl,shift_shl k k' a b G h1]
theorem Y.shr {k':IntKind}(G:0<=b)(h1:b<=k.bits)(hx:AD e x=.int k a)(hy:AD e y=.int k' b):
  Yd P e bx Z22 (.binOp .shr T x y T') ty (.int k (a/2^b.toNat)):=
 λoo ho _ w _ _=>by simp[execOp,ho,hx,hy,eqGuard_shr,binOp_shr,shift_shr k k' a b G h1]
theorem Y.quo (h:b≠0)(hx:AD e x=.int k a)(hy:AD e y=.int k b):Yd P e bx Z22 (.binOp .quo T x y T') ty (.int k (k.wrap (a.tdiv b))):=
 λoo G _ w _ _=>by simp[execOp,G,hx,hy,eqGuard_quo,binOp_quo,Op.intDiv,h]
theorem Y.rem (h:b≠0)(hx:AD e x=.int k a)(hy:AD e y=.int k b):Yd P e bx Z22 (.binOp .rem T x y T') ty (.int k (a.tmod b)):=
 λoo G _ w _ _=>by simp[execOp,G,hx,hy,eqGuard_rem,binOp_rem,Op.intDiv,h]
theorem Y.not {p:Bool}(hx:AD e x=.bool p):Yd P e bx Z22 (.unOp .not T x) ty (.bool (!p)):=
 λoo G _ w _ _=>by simp[execOp,G,hx,Op.unary]
theorem Y.neg (hx:AD e x=.int k a):Yd P e bx Z22 (.unOp .neg T x) ty (.int k (k.wrap (0-a))):=
 λoo G _ w _ _=>by simp[execOp,G,hx,Op.unary,Op.intArith]
theorem Y.conv {k':IntKind}(hs:(P.underlying T).isSome=true)(hd:P.underlying T'=some (.int k'))(hx:AD e x=.int k a):
  Yd P e bx Z22 (.convert T T' x) ty (.int k' (k'.wrap a)):=
 λoo ho _ w _ _=>by
  have G:P.intKind T'=k':=by simp[Program.intKind,hd]
  have:=run_convert_int w T T' k a hs (by rw[G];exact hd);rw[G]at this;simp[execOp,ho,hx,this]
theorem Y.AJE {p:Option Addr}{n c:Nat}{E:TypeId}(G:P.underlying T=some (.slice E))(hx:AD e x=.slice p n c){ts:Array TypeId}(iA:ts=#[T]):
  Yd P e bx Z22 (.call { callee:=.builtin .len,args:=#[x],argTypes:=ts }) ty (.int .i64 n):=λoo ho ht w _ _=>by
 subst iA;simp[execOp,ho,resolve,invoke,builtin,hx,Builtin.len_,run_underlying G,goInt]
theorem Y.AXF {p:Option Addr}{n c:Nat}{E:TypeId}(G:P.underlying T=some (.slice E))(hx:AD e x=.slice p n c){ts:Array TypeId}(iA:ts=#[T]):
  Yd P e bx Z22 (.call { callee:=.builtin .cap,args:=#[x],argTypes:=ts }) ty (.int .i64 c):=λoo ho ht w _ _=>by
 subst iA;simp[execOp,ho,resolve,invoke,builtin,hx,Builtin.cap_,run_underlying G,goInt]
theorem Y.AJF {s:ByteArray}(G:P.underlying T=some .string)(hx:AD e x=.string s){ts:Array TypeId}(iA:ts=#[T]):
  Yd P e bx Z22 (.call { callee:=.builtin .len,args:=#[x],argTypes:=ts }) ty (.int .i64 s.size):=λoo ho ht w _ _=>by
 subst iA;simp[execOp,ho,resolve,invoke,builtin,hx,Builtin.len_,run_underlying G,goInt]
theorem Y.min2 {k':IntKind}{ts:Array TypeId}(hx:AD e x=.int k a)(hy:AD e y=.int k' b):
  Yd P e bx Z22 (.call { callee:=.builtin .min,args:=#[x,y],argTypes:=ts }) ty (.int k (if b<a then b else a)):=λoo G ht w _ _=>by
 simp[execOp,G,resolve,invoke,builtin,hx,hy,run_min_int2]
theorem Y.max2 {k':IntKind}{ts:Array TypeId}(hx:AD e x=.int k a)(hy:AD e y=.int k' b):
  Yd P e bx Z22 (.call { callee:=.builtin .max,args:=#[x,y],argTypes:=ts }) ty (.int k (if b > a then b else a)):=λoo G ht w _ _=>by
 simp[execOp,G,resolve,invoke,builtin,hx,hy,run_max_int2]
theorem Y.fieldAddr {b o f off:Nat}{G:Array Field}{fd:Field}{a':Addr}(hT:P.underlying T=some (.struct G))(hf:G[f]?=some fd)(hs:∀w,((Go.sizeOf fd.type).run P w)=.ok (off+1) w)
  (hx:AD e x=.pointer (some ⟨b,o,none⟩)) (ha:a'=⟨b,o+fd.offset,none⟩):Yd P e bx Z22 (.fieldAddr T x f) ty (.pointer (some a')):=
 λoo ho _ w _ _=>by
  subst ha;simp[execOp,ho,hx,Instr.fieldAt,run_underlying hT,hf,Instr.sureAddr,fieldPlace,hs];exact Cv b o fd.offset
theorem Y.extract {vs:Array Value}{i:Nat}{v:Value}(hx:AD e x=.tuple vs)(hv:vs[i]?=some v):Yd P e bx Z22 (.extract x i) ty v:=
 λoo G _ w _ _=>by simp[execOp,G,hx,Instr.extract,hv]
theorem Y.AJG {cs:Array Value}{f:Nat}{G:Array Field}{fd:Field}{v:Value}(hT:P.underlying T=some (.struct G))(hf:G[f]?=some fd)(ha:∀w,(isAgg fd.type).run P w=.ok false w)
  (hx:AD e x=.agg cs) (hv:cs[fd.offset]?=some v):Yd P e bx Z22 (.field T x f) ty v:=
 λoo ho _ w _ _=>by simp[execOp,ho,hx,Instr.field,run_underlying hT,hf,asAgg,part,ha,hv]
theorem Y.AJH {cs cs':Array Value}{f n:Nat}{G:Array Field}{fd:Field}(hT:P.underlying T=some (.struct G))(hf:G[f]?=some fd)(ha:∀w,(isAgg fd.type).run P w=.ok true w)
  (hs:∀w,((Go.sizeOf fd.type).run P w)=.ok n w) (hx:AD e x=.agg cs) (hv:cs.extract fd.offset (fd.offset+n)=cs'):Yd P e bx Z22 (.field T x f) ty (.agg cs'):=
 λoo ho _ w _ _=>by simp[execOp,ho,hx,Instr.field,run_underlying hT,hf,asAgg,part,ha,hs,hv]
theorem Y.idx {b o n c sz:Nat}{E:TypeId}{i:Int}{a':Addr}(G:P.underlying T=some (.slice E))(hs:∀w,((Go.sizeOf E).run P w)=.ok sz w)
  (hx:AD e x=.slice (some ⟨b,o,none⟩) n c) (hy:AD e y=.int k i) (hi:0<=i/\i<n) (ha:a'=⟨b,o+i.toNat*sz,none⟩):Yd P e bx Z22 (.indexAddr T x y) ty (.pointer (some a')):=
 λoo ho _ w _ _=>by
  subst ha;simp[execOp,ho,hx,hy,Instr.indexAt,run_underlying G,asIntOf,hi,hs,Cv]
theorem Y.AXG {b o n sz:Nat}{E:TypeId}{i:Int}{a':Addr}(G:P.underlying T=some (.array n E))(hs:∀w,((Go.sizeOf E).run P w)=.ok sz w)
  (hx:AD e x=.pointer (some ⟨b,o,none⟩)) (hy:AD e y=.int k i) (hi:0<=i/\i<n) (ha:a'=⟨b,o+i.toNat*sz,none⟩):Yd P e bx Z22 (.indexAddr T x y) ty (.pointer (some a')):=
 λoo ho _ w _ _=>by
  subst ha;simp[execOp,ho,hx,hy,Instr.indexAt,run_underlying G,asIntOf,hi,hs,Cv,Instr.sureAddr]
theorem Y.AJI {s:ByteArray}{cs:Array Value}{n:Nat}{E:TypeId}{i:Int}(hT:P.underlying T=some (.array n E))(hE:∀w,(isAgg E).run P w=.ok false w)(hs:∀w,((Go.sizeOf E).run P w)=.ok 1 w)(hx:AD e x=.agg cs)(hy:AD e y=.int k i)(G:0<=i/\i<n)(hv:cs[i.toNat]?=some (.string s)):
  Yd P e bx Z22 (.index T x y) ty (.string s):=
 λoo ho _ w _ _=>by simp[execOp,ho,hx,hy,Instr.index,run_underlying hT,asIntOf,G,hs,part,hE,hv]
theorem Y.AJJ {s:ByteArray}{i:Int}{v:UInt8}(hT:P.underlying T=some .string)(hx:AD e x=.string s)(hy:AD e y=.int k i)(h0:0<=i)(hv:s.data[i.toNat]?=some v):
  Yd P e bx Z22 (.index T x y) ty (.int .u8 v.toNat):=
 λoo ho _ w _ _=>by
  have G:s[i.toNat]?=some v:=by rw[<-hv];rfl
  simp[execOp,ho,hx,hy,Instr.index,run_underlying hT,asIntOf,h0,G]
theorem Y.ld {a:Addr}{v:Value}(G:∀w,(isAgg T).run P w=.ok false w)(hx:AD e x=.pointer (some a))(h:Z22.ld a=some v):Yd P e bx Z22 (.load T x) ty v:=
 λoo ho _ w hs _=>by
  simp[execOp,ho,hx,Instr.loadAt,Instr.sureAddr,loadVar,G,load,Sem.run,hs.ld h]
theorem LC.cell {w:World}{b:Nat}{c:Array Value}{t:TypeId}{fr:Nat×Nat}(G:LC bx w)(hb:(b,Obj.cells c t fr)∈bx)(o:Nat):w.cell? ⟨b,o,none⟩=c[o]?:=by
 simp[World.cell?,G _ hb]
theorem Y.ldb {b o:Nat}{c:Array Value}{t:TypeId}{fr:Nat×Nat}{v:Value}(G:∀w,(isAgg T).run P w=.ok false w)(hx:AD e x=.pointer (some ⟨b,o,none⟩))(hb:(b,Obj.cells c t fr)∈bx)(h:c[o]?=some v):
  Yd P e bx Z22 (.load T x) ty v:=
 λoo ho _ w _ hs=>by
  simp[execOp,ho,hx,Instr.loadAt,Instr.sureAddr,loadVar,G,load,Sem.run,hs.cell hb,h]
theorem Y.lda {b o n:Nat}{vs:List Value}(hA:∀w,(isAgg T).run P w=.ok true w)(hs:∀w,((Go.sizeOf T).run P w)=.ok n w)(hn:vs.length=n)(hx:AD e x=.pointer (some ⟨b,o,none⟩))(h:A2 Z22 b o vs):
  Yd P e bx Z22 (.load T x) ty (.agg vs.toArray):=
 λoo ho _ w G _=>by
  subst hn;have:=run_loadCells_list (P:=P) (w:=w) ⟨b,o,none⟩ vs (λj v hj=>by rw[show(⟨b,o,none⟩:Addr).add j=⟨b,o+j,none⟩ from Cv _ _ _];exact G.ld (h.get hj));simp[execOp,ho,hx,Instr.loadAt,Instr.sureAddr,loadVar,hA,hs,this]
theorem Y.AXI {b o n:Nat}{c:Array Value}{t:TypeId}{fr:Nat×Nat}{vs:List Value}(hA:∀w,(isAgg T).run P w=.ok true w)(hs:∀w,((Go.sizeOf T).run P w)=.ok n w)(hn:vs.length=n)(hx:AD e x=.pointer (some ⟨b,o,none⟩))
  (hb:(b,Obj.cells c t fr)∈bx) (h:(c.toList.drop o).take n=vs):Yd P e bx Z22 (.load T x) ty (.agg vs.toArray):=
 λoo ho _ w _ V0=>by
  subst hn;have:=run_loadCells_list (P:=P) (w:=w) ⟨b,o,none⟩ vs (λj v G=>by
   rw[show(⟨b,o,none⟩:Addr).add j=⟨b,o+j,none⟩ from Cv _ _ _,V0.cell hb];rw[<-h]at G;have Ax:j<vs.length:=by
    have:=(Ajn.1 G).1;simp at this;omega
   simpa[AkE,Ax] using G)
  simp[execOp,ho,hx,Instr.loadAt,Instr.sureAddr,loadVar,hA,hs,this]
theorem Y.nilCheck {a:Addr}(hx:AD e x=.pointer (some a)):Yd P e bx Z22 (.nilCheck x) ty (.pointer (some a)):=
 .pu λo G=>by simp[execOp,G,hx]
theorem Y.uW {f:FuncId}{xs ys:Array Value}(hx:AD e x=.func (.func f) xs ys):Yd P e bx Z22 (.nilCheck x) ty (.func (.func f) xs ys):=
 .pu λo G=>by simp[execOp,G,hx]
theorem Y.makeFunc {fn:Fn}{xs ys:Array Operand}{vs us:Array Value}(G:xs.toList.map (AD e)=vs.toList)(hy:ys.toList.map (AD e)=us.toList):Yd P e bx Z22 (.makeFunc fn xs ys) ty (.func fn vs us):=
 λoo ho _ w _ _=>by
 have G:xs.map (AD e)=vs:=by rw[<-AkD];simpa using G
 have hy:ys.map (AD e)=us:=by rw[<-AkD];simpa using hy
 simp[execOp,ho,G,hy,Instr.makeFunc]
end nH
end Tw
end
section
namespace Tw
open Go
variable [GO]
def sig (ops:Array Oper)(i:Nat):Option (Option Nat×Op×TypeId×Option (Nat×Bool)):=(ops[i]?).map λo=>(o.dst,o.op,o.type,o.guard)
theorem Bg {ops:Array Oper}{i:Nat}{d:Option Nat}{op:Op}{ty:TypeId}{gd:Option (Nat×Bool)}(h:sig ops i=some (d,op,ty,gd)):
  ∃o,ops[i]?=some o/\o.dst=d/\o.op=op/\o.type=ty/\o.guard=gd:=by
 unfold sig at h;cases G:ops[i]? with
 | none=>simp[G]at h
 | some o=>
  simp only[G,Aki,Ajv,Akh]at h;exact⟨o,rfl,h.1,h.2.1,h.2.2.1,h.2.2.2⟩
def HD (d:Option Nat)(n:Nat):Bool:=match d with | some d=>Nat.blt d n | none=>true
theorem HD.lt {d:Option Nat}{n:Nat}(h:HD d n=true):∀t,d=some t->t<n:=λt G=>by
 subst G;exact Akd h
section ya
variable {g:Gl}{ops:Array Oper}{q:KB}{L:List (Nat×List Nat)}{i:Nat}{is:List Nat}{r:List (Nat×Bool)}{e:Env}{bx:Bx}{Z22:Hp}{K:Env->Bx->Hp->Prop}{d:Option Nat}{op:Op}{ty:TypeId}{gd:Option (Nat×Bool)}{v:Value}
theorem AW.y (hs:sig ops i=some (d,op,ty,gd))(hw:Ac ops e gd=true)(hd:HD d g.n=true)(hy:Yd g.P e bx Z22 op ty v)(h:K (put e d v) bx Z22):AW g ops i e bx Z22 K:=by
 intro w0 F a w st;obtain⟨o,ho,rfl,G,Di,rfl⟩:=Bg hs;refine Ct ho (by rw[st.wanted];exact hw) ?_;rw[st.eval,Dh (hy o G Di w st.sat st.box) (λd=>by simp)];exact⟨_,_,_,st.put _ _ (HD.lt hd),h⟩
theorem AW.no (hs:sig ops i=some (d,op,ty,gd))(hw:Ac ops e gd=false)(hd:HD d g.n=true)(h:K (put e d undef) bx Z22):AW g ops i e bx Z22 K:=by
 intro w0 F a w st;obtain⟨o,G,rfl,B6,Di,rfl⟩:=Bg hs;refine nF G (by rw[st.wanted];exact hw) ?_;exact⟨_,_,_,st.put _ _ (HD.lt hd),h⟩
theorem Seq.y (G:sig ops i=some (d,op,ty,none))(hd:HD d g.n=true)(hy:Yd g.P e bx Z22 op ty v)(h:Seq g ops is (put e d v) bx Z22 K):Seq g ops (i::is) e bx Z22 K:=
 AW.y G rfl hd hy h
theorem Seq.yg (G:sig ops i=some (d,op,ty,gd))(hw:Ac ops e gd=true)(hd:HD d g.n=true)(hy:Yd g.P e bx Z22 op ty v)(h:Seq g ops is (put e d v) bx Z22 K):Seq g ops (i::is) e bx Z22 K:=
 AW.y G hw hd hy h
theorem Seq.no (G:sig ops i=some (d,op,ty,gd))(hw:Ac ops e gd=false)(hd:HD d g.n=true)(h:Seq g ops is (put e d undef) bx Z22 K):Seq g ops (i::is) e bx Z22 K:=
 AW.no G hw hd h
theorem Seq.o (h:AW g ops i e bx Z22 λe' G Z'=>Seq g ops is e' G Z' K):Seq g ops (i::is) e bx Z22 K:=h
theorem Seq.done (h:K e bx Z22):Seq g ops [] e bx Z22 K:=h
theorem Eg {q:KB}:My q none=q:=by cases q<;>rfl
theorem ok_none {q:KB}{i:Nat}{ops:Array Oper}(h:q.ok i=true):((My q none).ok i&&Rv ops i none)=true:=by rw[Eg,h];rfl
theorem Head.y (hs:sig ops i=some (d,op,ty,none))(hd:HD d g.n=true)(hy:Yd g.P e bx (KM q none Z22) op ty v)(h:Head g ops q r (put e d v) bx Z22 K)(G:q.ok i=true:=by rfl):Head g ops q ((i,true)::r) e bx Z22 K:=by
 obtain⟨o,ho,rfl,rfl,rfl,hg⟩:=Bg hs;exact⟨none,o,v,ok_none G,ho,.inl ⟨by rw[hg];rfl,hy⟩,(HD.lt hd),by rw[Eg];exact h⟩
theorem Head.yg (hs:sig ops i=some (d,op,ty,gd))(hw:Ac ops e gd=true)(hd:HD d g.n=true)(hy:Yd g.P e bx (KM q none Z22) op ty v)(h:Head g ops q r (put e d v) bx Z22 K)(G:q.ok i=true:=by rfl):Head g ops q ((i,true)::r) e bx Z22 K:=by
 obtain⟨o,ho,rfl,rfl,rfl,rfl⟩:=Bg hs;exact⟨none,o,v,ok_none G,ho,.inl ⟨hw,hy⟩,(HD.lt hd),by rw[Eg];exact h⟩
theorem Head.yl (b:Nat)(G:List (List Nat)){D:List Nat}(hD:G.filterMap List.head?=D)(Aa:((My (some L) (some (b,G))).ok i&&Rv ops i (some (b,G)))=true)(hs:sig ops i=some (d,op,ty,none))(hd:HD d g.n=true)(hy:Yd g.P e bx (KM (some L) (some (b,G)) Z22) op ty v)
  (h:Head g ops (some ((b,D)::L)) r (put e d v) bx Z22 K):Head g ops (some L) ((i,true)::r) e bx Z22 K:=by
 subst hD;obtain⟨o,ho,rfl,rfl,rfl,hg⟩:=Bg hs;exact⟨some (b,G),o,v,Aa,ho,.inl ⟨by rw[hg];rfl,hy⟩,(HD.lt hd),h⟩
theorem Head.ygl (b:Nat)(G:List (List Nat)){D:List Nat}(hD:G.filterMap List.head?=D)(Aa:((My (some L) (some (b,G))).ok i&&Rv ops i (some (b,G)))=true)(hs:sig ops i=some (d,op,ty,gd))(hw:Ac ops e gd=true)(hd:HD d g.n=true)(hy:Yd g.P e bx (KM (some L) (some (b,G)) Z22) op ty v)
  (h:Head g ops (some ((b,D)::L)) r (put e d v) bx Z22 K):Head g ops (some L) ((i,true)::r) e bx Z22 K:=by
 subst hD;obtain⟨o,ho,rfl,rfl,rfl,rfl⟩:=Bg hs;exact⟨some (b,G),o,v,Aa,ho,.inl ⟨hw,hy⟩,(HD.lt hd),h⟩
theorem Head.no (hs:sig ops i=some (d,op,ty,gd))(hw:Ac ops e gd=false)(hd:HD d g.n=true)(h:Head g ops q r (put e d undef) bx Z22 K)(G:q.ok i=true:=by rfl):Head g ops q ((i,true)::r) e bx Z22 K:=by
 obtain⟨o,ho,rfl,rfl,rfl,rfl⟩:=Bg hs;exact⟨none,o,undef,ok_none G,ho,.inr ⟨hw,rfl⟩,(HD.lt hd),by rw[Eg];exact h⟩
theorem Head.o {q':KB}(hq:HB q i=q')(h:AW g ops i e bx Z22 λe' G Z'=>Iq q' bx Z22 G Z'/\Head g ops q' r e' G Z' K):Head g ops q ((i,false)::r) e bx Z22 K:=by
 subst hq;exact h
theorem Head.done (h:K e bx Z22):Head g ops q [] e bx Z22 K:=h
theorem St.grown {n ds w0 F e bx Z22 a w}(st:St n ds w0 F e bx Z22 a w)(o:Obj):St n ds w0 F e ((w.heap.size,o)::bx) Z22 a { w with heap:=w.heap.push o }:=by
 have Ax:∀b o',w.heap[b]?=some o'->b<w.heap.size:=λb o' h=>(Aj2.1 h).1;have G:∀b o',w.heap[b]?=some o'->({ w with heap:=w.heap.push o }:World).heap[b]?=some o':=λb o' h=>by
  have:=Ax _ _ h;show(w.heap.push o)[b]?=some o'
  rw[AkB,Ajj (Nat.ne_of_lt this)];exact h
 refine { st with sat:=λb o' hb=>G _ _ (st.sat b o' hb),box:=λp hp=>?_,free:=λp hp=>?_,nodup:=?_,BM:=λb hb=>?_,os:=st.os,out:=st.out,grow:=by have:=st.grow;simp;omega }
 .rcases Ajo.1 hp with rfl|hp
  .simp
  .exact G _ _ (st.box p hp)
 .rcases Ajo.1 hp with rfl|hp
  .refine⟨?_,λhF=>?_⟩
   .cases hs:Z22 w.heap.size with
    | none=>rfl
    | some o'=>exact absurd (Ax _ _ (st.sat _ _ hs)) (Nat.lt_irrefl _)
   .have h1:=(st.BM _ hF).1;have h2:=st.grow;simp at h1;omega
  .exact st.free p hp
 .refine Ako.2 ⟨λhm=>?_,st.nodup⟩;obtain⟨p,hp,he⟩:=AkT.1 hm;have:=Ax _ _ (st.box p hp);simp at he;omega
 .obtain⟨h1,h2,h3⟩:=st.BM b hb;refine⟨h1,h2,?_⟩;have:b≠w.heap.size:=by have:=st.grow;omega
  show(w.heap.push o)[b]?=_
  rw[AkB,Ajj this];exact h3
theorem AW.box {T:TypeId}{x:Operand}{cs:Array Value}(hs:sig ops i=some (d,.box T x,ty,gd))(hw:Ac ops e gd=true)(hd:HD d g.n=true)(hx:(AD e x).cells=cs)
  (h:∀b,K (put e d (.pointer (some ⟨b,0,none⟩))) ((b,.cells cs T (0,0))::bx) Z22):AW g ops i e bx Z22 K:=by
 intro w0 F a w st;obtain⟨o,ho,rfl,G,Di,hg⟩:=Bg hs;refine Ct ho (by rw[st.wanted,hg];exact hw) ?_;rw[st.eval];have:(execOp (AD e) o).run g.P w=.ok (.value (.pointer (some ⟨w.heap.size,0,none⟩))) { w with heap:=w.heap.push (.cells cs T (0,0)) }:=by
  simp[execOp,G,Instr.box,newVar,newRow,newObj,Sem.run,hx]
 rw[Dh this (λd=>by simp)];exact⟨_,_,_,(st.grown _).put _ _ (HD.lt hd),h _⟩
theorem AW.alloc {T:TypeId}{z:Value}{cs:Array Value}(hs:sig ops i=some (d,.alloc T,ty,gd))(hw:Ac ops e gd=true)(hd:HD d g.n=true)(hz:∀w,(zeroValue T).run g.P w=.ok z w)(hc:z.cells=cs)
  (h:∀b,K (put e d (.pointer (some ⟨b,0,none⟩))) ((b,.cells cs T (0,0))::bx) Z22):AW g ops i e bx Z22 K:=by
 intro w0 F a w st;obtain⟨o,ho,rfl,G,Di,hg⟩:=Bg hs;refine Ct ho (by rw[st.wanted,hg];exact hw) ?_;rw[st.eval];have:(execOp (AD e) o).run g.P w=.ok (.value (.pointer (some ⟨w.heap.size,0,none⟩))) { w with heap:=w.heap.push (.cells cs T (0,0)) }:=by
  simp[execOp,G,Instr.alloc,newVar,newRow,newObj,Sem.run,hz,hc]
 rw[Dh this (λd=>by simp)];exact⟨_,_,_,(st.grown _).put _ _ (HD.lt hd),h _⟩
theorem Hp.AA (Z22:Hp)(b:Nat)(o:Obj):Z22.set b o b=some o:=by simp[Hp.set]
theorem Hp.AB {Z22:Hp}{b c:Nat}{o:Obj}(h:c≠b):Z22.set b o c=Z22 c:=by simp[Hp.set,h]
theorem St.open {n ds w0 F e bx Z22 a w b o}(st:St n ds w0 F e ((b,o)::bx) Z22 a w):St n ds w0 F e bx (Z22.set b o) a w:=by
 have hb:=st.box (b,o) (Aj5 ..);have hf:=st.free (b,o) (Aj5 ..);have hn:=Ako.1 (show((b::bx.map (·.1))).Nodup from st.nodup);refine { st with sat:=λc o' G=>?_,box:=λp hp=>st.box p (Ajm _ hp),free:=λp hp=>?_,nodup:=hn.2,BM:=λc G=>?_ }
 .by_cases h:c=b
  .subst h;rw[Hp.AA]at G;cases G;exact hb
  .rw[Hp.AB h]at G;exact st.sat c o' G
 .have h1:=st.free p (Ajm _ hp);have:p.1≠b:=λh=>hn.1 (AkT.2 ⟨p,hp,h⟩);exact⟨by rw[Hp.AB this];exact h1.1,h1.2⟩
 .obtain⟨h1,h2,h3⟩:=st.BM c G;have:c≠b:=λh=>hf.2 (h▸G);exact⟨h1,by rw[Hp.AB this];exact h2,h3⟩
theorem AW.AXK {T:TypeId}{x:Operand}{cs:Array Value}(hs:sig ops i=some (d,.box T x,ty,gd))(hw:Ac ops e gd=true)(hd:HD d g.n=true)(hx:(AD e x).cells=cs)
  (h:∀b,Z22 b=none->K (put e d (.pointer (some ⟨b,0,none⟩))) bx (Z22.set b (.cells cs T (0,0)))):AW g ops i e bx Z22 K:=by
 intro w0 F a w st;refine wpOpIn_mono ?_ (AW.box (K:=λe' Hi Z'=>Z'=Z22/\∃b,e'=put e d (.pointer (some ⟨b,0,none⟩))/\Hi=(b,.cells cs T (0,0))::bx) hs hw hd hx (λb=>⟨rfl,b,rfl,rfl⟩) w0 F a w st)
 rintro a' w' ⟨_,_,_,G,rfl,b,rfl,rfl⟩
 exact⟨_,_,_,G.open,h b (G.free _ (Aj5 ..)).1⟩
theorem AW.dz {T:TypeId}{z:Value}{cs:Array Value}(hs:sig ops i=some (d,.alloc T,ty,gd))(hw:Ac ops e gd=true)(hd:HD d g.n=true)(hz:∀w,(zeroValue T).run g.P w=.ok z w)(hc:z.cells=cs)
  (h:∀b,Z22 b=none->K (put e d (.pointer (some ⟨b,0,none⟩))) bx (Z22.set b (.cells cs T (0,0)))):AW g ops i e bx Z22 K:=by
 intro w0 F a w st;refine wpOpIn_mono ?_ (AW.alloc (K:=λe' Hi Z'=>Z'=Z22/\∃b,e'=put e d (.pointer (some ⟨b,0,none⟩))/\Hi=(b,.cells cs T (0,0))::bx) hs hw hd hz hc (λb=>⟨rfl,b,rfl,rfl⟩) w0 F a w st)
 rintro a' w' ⟨_,_,_,G,rfl,b,rfl,rfl⟩
 exact⟨_,_,_,G.open,h b (G.free _ (Aj5 ..)).1⟩
def AI (P:Program){α:Type}(m:Sem α)(Z22:Hp)(Φ:α->Hp->Prop):Prop:=
 ∀w (F:Nat->Prop),Sat Z22 w->(∀b,F b->b<w.heap.size/\Z22 b=none)->∃v G Z',m.run P w=.ok v G/\Φ v Z'/\Fin Z' F w G
theorem AI.mono {P:Program}{α:Type}{m:Sem α}{Φ G:α->Hp->Prop}(h:AI P m Z22 Φ)(hh:∀v Z',Φ v Z'->G v Z'):AI P m Z22 G:=λw F hs hF=>
 let ⟨v,w',Z',h1,h2,h3⟩:=h w F hs hF
 ⟨v,w',Z',h1,hh _ _ h2,h3⟩
theorem St.lt {n ds w0 F e bx Z22 a w}(st:St n ds w0 F e bx Z22 a w):∀b,(F b\/b∈bx.map (·.1))->b<w.heap.size/\Z22 b=none:=by
 rintro b (h|h)
 .have G:=st.BM b h;have h2:=st.grow;exact⟨by omega,G.2.1⟩
 .obtain⟨p,hp,rfl⟩:=AkT.1 h;exact⟨(Aj2.1 (st.box p hp)).1,(st.free p hp).1⟩
theorem St.fin {n ds w0 F e bx Z22 a w Z' w'}(st:St n ds w0 F e bx Z22 a w)(h:Fin Z' (λb=>F b\/b∈bx.map (·.1)) w w'):St n ds w0 F e bx Z' a w':=by
 refine { st with sat:=h.sat,box:=λp hp=>?_,free:=λp hp=>⟨(h.BM p.1 (.inr (AkT.2 ⟨p,hp,rfl⟩))).1,(st.free p hp).2⟩,BM:=λb hb=>?_,os:=st.os.trans h.os,out:=h.out.trans st.out,grow:=Ake st.grow h.grow }
 .rw[(h.BM p.1 (.inr (AkT.2 ⟨p,hp,rfl⟩))).2];exact st.box p hp
 .obtain⟨G,_,h3⟩:=st.BM b hb;exact⟨G,(h.BM b (.inl hb)).1,(h.BM b (.inl hb)).2.trans h3⟩
theorem AW.aR (hs:sig ops i=some (d,op,ty,gd))(hw:Ac ops e gd=true)(hd:HD d g.n=true)(m:Sem Value)(hm:∀o:Oper,o.op=op->o.type=ty->execOp (AD e) o=(do pure (.value (<-m))))
  (h:AI g.P m Z22 λv Z'=>K (put e d v) bx Z'):AW g ops i e bx Z22 K:=by
 intro w0 F a w st;obtain⟨o,ho,rfl,G,Di,rfl⟩:=Bg hs;refine Ct ho (by rw[st.wanted];exact hw) ?_;obtain⟨v,w',Z',h1,h2,h3⟩:=h w _ st.sat st.lt;rw[st.eval];have CG:=hm o G Di;rw[Dh (by rw[CG];simp only[Sem.run_bind,h1,Result.andThen_ok];rfl) (λd=>by simp)];exact⟨_,_,_,(st.fin h3).put _ _ (HD.lt hd),h2⟩
theorem AW.AJK (hs:sig ops i=some (d,op,ty,gd))(hw:Ac ops e gd=true)(hd:HD d g.n=true)(m:Sem Unit)(hm:∀o:Oper,o.op=op->o.type=ty->execOp (AD e) o=(do m;pure .skip))
  (h:AI g.P m Z22 λ_ Z'=>K (put e d undef) bx Z'):AW g ops i e bx Z22 K:=by
 intro w0 F a w st;obtain⟨o,ho,rfl,G,Di,rfl⟩:=Bg hs;refine Ct ho (by rw[st.wanted];exact hw) ?_;obtain⟨v,w',Z',h1,h2,h3⟩:=h w _ st.sat st.lt;rw[st.eval];have CG:=hm o G Di;rw[Dh (by rw[CG];simp only[Sem.run_bind,h1,Result.andThen_ok];rfl) (λd=>by simp)];exact⟨_,_,_,(st.fin h3).put _ _ (HD.lt hd),h2⟩
def AY (R:Rr)(Φ:Value->Hp->Prop):Rr
 | .returned v,Z22=>Φ v Z22
 | .panicked G,Z22=>R (.panicked G) Z22
 | .outgrown,_=>False
theorem AW.call {f:FuncId}{args:Array Value}(hs:sig ops i=some (d,op,ty,gd))(hw:Ac ops e gd=true)(hd:HD d g.n=true)
  (hm:∀o:Oper,o.op=op->o.type=ty->∀w,(execOp (AD e) o).run g.P w=.ok (.enter f args) w)
  (h:Spec g.P f args Z22 (AY g.R λv Z'=>K (put e d v) bx Z')):AW g ops i e bx Z22 K:=by
 intro w0 F a w st;obtain⟨o,ho,rfl,B6,Di,rfl⟩:=Bg hs;refine Ct ho (by rw[st.wanted];exact hw) ?_;rw[st.eval,Dh (hm o B6 Di w) (λd=>by simp)];refine⟨λhh=>(by cases hh),Vz (Calls.mono (h w _ st.sat st.lt) λen w'=>?_)⟩
 rintro⟨Z',G,hf⟩
 have HC:=st.fin hf;cases en with
 | returned v=>exact⟨_,_,_,HC.put _ _ (HD.lt hd),G⟩
 | panicked ch=>
  rcases g.pan with ⟨h1,h2⟩|Ab
  .exact⟨⟨h1,HC.defers.trans h2⟩,Z',G,HC.toFin⟩
  .exact absurd G (Ab ch Z')
 | outgrown=>exact G.elim
theorem TH {P:Program}{ρ:Operand->Value}{x:Operand}{xs:Array Operand}{ts:Array TypeId}{f:FuncId}{fst cap vs args:Array Value}
  (hf:∀args w,(callFunc f args).run P w=.ok (.enter f args) w) (hx:ρ x=.func (.func f) fst cap) (G:xs.toList.map ρ=vs.toList) (ha:fst++vs++cap=args)
  (o:Oper) (ho:o.op=.call { callee:=.value x,args:=xs,argTypes:=ts }) (w:World) :
  (execOp ρ o).run P w=.ok (.enter f args) w:=by
 subst ha;have G:xs.map ρ=vs:=by rw[<-AkD];simpa using G
 simp only[execOp,ho,resolve,hx,G,Deferred.ofValue,invoke,bind,Sem.bind,pure];exact hf _ w
end ya
end Tw
end
section
namespace Tw
open Go
variable [GO]
def LF (c:Array Value)(o:Nat):List Value->Array Value
 | []=>c
 | v::vs=>LF (c.setIfInBounds o v) (o+1) vs
theorem KR:∀(vs:List Value) (c:Array Value) (o:Nat),(LF c o vs).size=c.size
 | [],_,_=>rfl
 | v::vs,c,o=>by simp[LF,KR vs]
theorem VW:∀(vs:List Value) (c:Array Value) (o j:Nat),o+vs.length<=c.size->
  (LF c o vs)[j]?=if o<=j/\j<o+vs.length then vs[j-o]? else c[j]?
 | [],c,o,j,_=>by rw[Ajj (by simp only[Aka];omega)];rfl
 | v::vs,c,o,j,h=>by
  simp only[Ajk]at h;rw[LF,VW vs _ _ j (by simp;omega)];by_cases G:o+1<=j/\j<o+1+vs.length
  .rw[Ajl G,Ajl (by simp;omega),show j-o=(j-(o+1))+1 by omega,AkU]
  .rw[Ajj G];by_cases h2:j=o
   .subst h2;rw[Ajl (by simp),Ald];simp[show j<c.size by omega]
   .rw[Ajj (by simp;omega),Alg (Aj4 h2)]
section
variable {P:Program}
theorem GY (b o:Nat)(t:TypeId):∀(vs:List Value) (i:Nat) (c:Array Value) (w:World),w.heap[b]?=some (.cells c t (0,0))->o+i+vs.length<=c.size->(∀v∈vs,v.oneCell'=true)->
  (storeCells ⟨b,o,none⟩ vs i).run P w=.ok () (w.setRow b (LF c (o+i) vs))
 | [],i,c,w,G,hl,_=>by
  have Ax:b<w.heap.size:=(Aj2.1 G).1;have hv:w.heap[b]=.cells c t (0,0):=(Aj2.1 G).2;simp only[storeCells,LF];show Result.ok () w=_
  congr 1
  unfold World.setRow;cases w with
  | mk heap tape drawn os output=>
   congr 1
   apply Array.ext
   .simp
   .intro k h1 h2;simp only[Array.getElem_modify];split
    .rename_i hk;subst hk;simp at hv;simp[hv]
    .rfl
 | v::vs,i,c,w,G,hl,h1=>by
  simp only[Ajk]at hl;have bN:w.cell? ⟨b,o+i,none⟩=some c[o+i]:=by
   simp[World.cell?,G]
  have hfr:w.frozen? ⟨b,o+i,none⟩=false:=by simp[World.frozen?,G]
  have AXL:(⟨b,o,none⟩:Addr).add i=⟨b,o+i,none⟩:=Cv b o i;have AXM:=setCell_eq_setRow w b (o+i) c t (0,0) v G;have FJ:=setRow_heap w b c (c.setIfInBounds (o+i) v) t (0,0) G;have ih:=GY b o t vs (i+1) (c.setIfInBounds (o+i) v) (w.setRow b (c.setIfInBounds (o+i) v)) FJ (by simp;omega) (λu hu=>h1 u (Ajm _ hu));rw[setRow_setRow]at ih;have CA:=run_store P w ⟨b,o+i,none⟩ v .plain (h1 v (Aj5 ..));simp only[storeCells,AXL,Sem.run_bind,CA,bN,hfr,AlF,AlE,Result.andThen_ok,AXM,ih,LF];rw[AnB]
theorem UE (b o:Nat)(t ty:TypeId)(v:Value)(c:Array Value)(w:World){n:Nat}(hs:∀w,(Go.sizeOf ty).run P w=.ok n w)(hn:v.cells.size=n)(hg:w.heap[b]?=some (.cells c t (0,0)))
  (hl:o+n<=c.size) (G:∀u∈v.cells.toList,u.oneCell'=true) :
  (Instr.storeAt ty (.pointer (some ⟨b,o,none⟩)) v).run P w=.ok () (w.setRow b (LF c o v.cells.toList)):=by
 have:=GY (P:=P) b o t v.cells.toList 0 c w hg (by simp;omega) G;simp[Instr.storeAt,Instr.sureAddr,storeVar,hs,hn,this]
end
theorem St.wrote {n ds w0 F e bx Z22 a w j b c c' t}(st:St n ds w0 F e bx Z22 a w)(hj:bx[j]?=some (b,Obj.cells c t (0,0))):
  St n ds w0 F e (bx.set j (b,.cells c' t (0,0))) Z22 a (w.setRow b c'):=by
 have hm:(b,Obj.cells c t (0,0))∈bx:=Aju hj;have hb:=st.box _ hm;have hf:=st.free _ hm;have yb:(bx.set j (b,Obj.cells c' t (0,0))).map (·.1)=bx.map (·.1):=by
  rw[List.map_set];have:(bx.map (·.1))[j]?=some b:=by simp[hj]
  obtain⟨Ax,heq⟩:=Ajn.1 this;rw[<-heq,Am0]
 have nJ:∀k,k≠b->(w.setRow b c').heap[k]?=w.heap[k]?:=λk hk=>setRow_other w b k c' hk;refine { st with sat:=λk o hk=>?_,box:=λp hp=>?_,free:=λp hp=>?_,nodup:=by rw[yb];exact st.nodup,BM:=λk hk=>?_,os:=st.os,out:=st.out,grow:=by simpa using st.grow }
 .have:k≠b:=λh=>by rw[h,hf.1]at hk;cases hk
  rw[nJ k this];exact st.sat k o hk
 .by_cases h:p.1=b
  ·
   obtain⟨i,hi⟩:=AkW.1 hp;have eA:i=j:=by
    have G:((bx.set j (b,Obj.cells c' t (0,0))).map (·.1))[i]?=some b:=by simp only[Akt,hi,Aki,h]
    rw[yb]at G;have h2:(bx.map (·.1))[j]?=some b:=by simp[hj]
    have RB:=(Ajn.1 G).1;exact(List.getElem?_inj RB st.nodup).1 (G.trans h2.symm)
   subst eA;have Ax:i<bx.length:=(Ajn.1 hj).1;rw[All Ax]at hi;cases hi;exact setRow_heap w b c c' t (0,0) hb
  .rw[nJ _ h];rcases Amo hp with G|G
   .exact st.box p G
   .exact absurd (by rw[G]) h
 .rcases Amo hp with G|G
  .exact st.free p G
  .rw[G];exact hf
 .obtain⟨G,h2,h3⟩:=st.BM k hk;have:k≠b:=λh=>hf.2 (h▸hk);exact⟨G,h2,by rw[nJ k this];exact h3⟩
section ya
variable {g:Gl}{ops:Array Oper}{i:Nat}{e:Env}{bx:Bx}{Z22:Hp}{K:Env->Bx->Hp->Prop}{d:Option Nat}{op:Op}{ty T:TypeId}{gd:Option (Nat×Bool)}
theorem AW.AJL {x y:Operand}{j b o n:Nat}{c c':Array Value}{t:TypeId}{v:Value}(hs:sig ops i=some (none,.store T x y,ty,gd))(hw:Ac ops e gd=true)(hz:∀w,(Go.sizeOf T).run g.P w=.ok n w)
  (hx:AD e x=.pointer (some ⟨b,o,none⟩)) (hy:AD e y=v) (hj:bx[j]?=some (b,Obj.cells c t (0,0))) (hn:v.cells.size=n) (hl:Nat.ble (o+n) c.size=true) (h1:(v.cells.toList.all λu=>u.oneCell')=true)
  (hc:LF c o v.cells.toList=c') (h:K e (bx.set j (b,.cells c' t (0,0))) Z22):AW g ops i e bx Z22 K:=by
 intro w0 F a w st;obtain⟨o',ho,hd,B6,Di,hg⟩:=Bg hs;refine Ct ho (by rw[st.wanted,hg];exact hw) ?_;rw[st.eval];subst hc;have hb:=st.box _ (Aju hj);have:=UE (P:=g.P) b o t T v c w hz hn hb (Akd hl) (λu hu=>Akk.1 h1 u hu);have:(execOp (AD e) o').run g.P w=.ok .skip (w.setRow b (LF c o v.cells.toList)):=by
  simp[execOp,B6,hx,hy,this]
 rw[Dh this (λd=>by simp)];have G:a.put o'.dst undef=a:=by rw[hd];rfl
 simp only[Oper.uponIn_skip,G];exact⟨_,_,_,st.wrote hj,h⟩
theorem AI.store {P:Program}{b o n:Nat}{c:Array Value}{t:TypeId}{v:Value}{Φ:Unit->Hp->Prop}(hz:∀w,(Go.sizeOf T).run P w=.ok n w)(hb:Z22 b=some (.cells c t (0,0)))(hn:v.cells.size=n)(hl:o+n<=c.size)(h1:∀u∈v.cells.toList,u.oneCell'=true)
  (h:Φ () (Z22.set b (.cells (LF c o v.cells.toList) t (0,0)))):AI P (Instr.storeAt T (.pointer (some ⟨b,o,none⟩)) v) Z22 Φ:=λw F hs hF=>by
 refine⟨(),_,_,UE b o t T v c w hz hn (hs _ _ hb) hl h1,h,?_,?_,.same rfl rfl rfl,rfl,by simp⟩
 .intro k o' G;by_cases h:k=b
  .subst h;rw[Hp.AA]at G;cases G;exact setRow_heap w k c _ t (0,0) (hs _ _ hb)
  .rw[Hp.AB h]at G;rw[setRow_other _ _ _ _ h];exact hs k o' G
 .intro k G;have:k≠b:=λh=>by have:=(hF k G).2;rw[h,hb]at this;cases this
  exact⟨by rw[Hp.AB this];exact(hF k G).2,setRow_other _ _ _ _ this⟩
theorem AW.store {x y:Operand}{p v:Value}(hs:sig ops i=some (none,.store T x y,ty,gd))(hw:Ac ops e gd=true)(hx:AD e x=p)(hy:AD e y=v)
  (h:AI g.P (Instr.storeAt T p v) Z22 λ_ Z'=>K e bx Z'):AW g ops i e bx Z22 K:=
 AW.AJK hs hw rfl (Instr.storeAt T p v) (λo G _=>by simp[execOp,G,hx,hy]) h
end ya
section nH
variable {P:Program}{e:Env}{bx:Bx}{Z22:Hp}{ty T:TypeId}
theorem Y.build {ps:Array (Nat×Operand)}{vs:List (Nat×Value)}{cs:Array Value}(hv:ps.toList.map (λp=>(p.1,AD e p.2))=vs)(G:P.built T vs=some cs):Yd P e bx Z22 (.build T ps) ty (.agg cs):=λoo ho _ w _ _=>by
 have hh:(ps.map λ(i,x)=>(i,AD e x)).toList=vs:=by rw[<-hv];simp
 have:=run_build (P:=P) w T (ps.map λ(i,x)=>(i,AD e x)) cs (by rw[hh];exact G);simp only[execOp,ho,Sem.run_bind,this,Result.andThen_ok];rfl
end nH
def Jb (P:Program)(e:Env)(bx:Bx)(Z22:Hp):List ResultVar->List Value->Prop
 | [],vs=>vs=[]
 | .tmp t::r,vs=>∃us,vs=e t::us/\Jb P e bx Z22 r us
 | .cell p T::r,vs=>∃v us,vs=v::us/\(∃a,e p=.pointer (some a)/\∀w,Sat Z22 w->LC bx w->(loadVar T a).run P w=.ok v w)/\Jb P e bx Z22 r us
def V1:List Value->Value
 | [v]=>v
 | vs=>.tuple vs.toArray
def uX (tmps:Array Value):ResultVar->Sem Value
 | .tmp t=>pure (tmps.getD t undef)
 | .cell a t=>do loadVar t (<-asAddr (tmps.getD a undef))
theorem Jb.run {P:Program}{e:Env}{bx:Bx}{Z22:Hp}{tmps:Array Value}{w:World}(G:∀t,tmps.getD t undef=e t)(hs:Sat Z22 w)(hb:LC bx w):∀(rs:List ResultVar) (vs:List Value),Jb P e bx Z22 rs vs->
  (rs.mapM (uX tmps)).run P w=Result.ok vs w
 | [],vs,h=>by simp only[Jb]at h;subst h;simp
 | .tmp t::r,vs,h=>by
  obtain⟨us,rfl,h⟩:=h;have h1:(uX tmps (.tmp t)).run P w=.ok (e t) w:=by simp only[uX,Sem.run_pure,G]
  simp only[Am1,Sem.run_bind,Sem.run_pure,Result.andThen_ok,Jb.run G hs hb r us h,h1]
 | .cell p T::r,vs,h=>by
  obtain⟨v,us,rfl,⟨a,ha,hl⟩,h⟩:=h;have h2:(uX tmps (.cell p T)).run P w=.ok v w:=by
   have h1:tmps.getD p undef=.pointer (some a):=(G p).trans ha;simp only[uX,Sem.run_bind,Sem.run_pure,Result.andThen_ok,h1,asAddr,hl w hs hb]
  simp only[Am1,Sem.run_bind,Sem.run_pure,Result.andThen_ok,Jb.run G hs hb r us h,h2]
theorem Jb.results {P:Program}{e:Env}{bx:Bx}{Z22:Hp}{fn:Func}{rs:List ResultVar}{vs:List Value}(hr:fn.results=rs.toArray)(h:Jb P e bx Z22 rs vs)(a:Act)(w:World)
  (he:∀t,a.tmps.getD t undef=e t) (hs:Sat Z22 w) (hb:LC bx w):(results fn a.tmps).run P w=.ok (V1 vs) w:=by
 have G:=Jb.run he hs hb _ _ h;have h2:Go.results fn a.tmps=(do let vs <-fn.results.mapM (uX a.tmps);pure (if h:vs.size=1 then vs[0] else .tuple vs)):=rfl;rw[h2,hr];simp only[List.mapM_toArray,Sem.run_bind,Sem.run_map,G,Result.andThen_ok];cases vs with
 | nil=>rfl
 | cons v vs=>cases vs<;>rfl
theorem ADx {P:Program}{bx:Bx}{Z22:Hp}{T:TypeId}{b o:Nat}{c:Array Value}{t:TypeId}{fr:Nat×Nat}{v:Value}(G:∀w,(isAgg T).run P w=.ok false w)(hb:(b,Obj.cells c t fr)∈bx)(h:c[o]?=some v):
  ∀w,Sat Z22 w->LC bx w->(loadVar T ⟨b,o,none⟩).run P w=.ok v w:=λw _ hs=>by
 simp[loadVar,G,load,Sem.run,hs.cell hb,h]
theorem yc {P:Program}{bx:Bx}{Z22:Hp}{T:TypeId}{b n:Nat}{c:Array Value}{t:TypeId}{fr:Nat×Nat}(hA:∀w,(isAgg T).run P w=.ok true w)(hs:∀w,((Go.sizeOf T).run P w)=.ok n w)(hn:c.size=n)(hb:(b,Obj.cells c t fr)∈bx):
  ∀w,Sat Z22 w->LC bx w->(loadVar T ⟨b,0,none⟩).run P w=.ok (.agg c) w:=λw _ G=>by
 subst hn;have:=run_loadCells_list (P:=P) (w:=w) ⟨b,0,none⟩ c.toList (λj v hj=>by
  rw[show(⟨b,0,none⟩:Addr).add j=⟨b,0+j,none⟩ from Cv _ _ _,G.cell hb];simpa using hj)
 simp at this;simp[loadVar,hA,hs,this]
section ends
variable {g:Gl}{k:List Item}{e:Env}{bx:Bx}{Z22:Hp}
theorem At.eB {c:Code}{fn:Func}{rs:List ResultVar}{vs:List Value}(hc:c=Code.ret)(hf:g.P.funcs[g.f]?=some fn)(hr:fn.results=rs.toArray)(h:Jb g.P e bx (left g.ds Z22) rs vs)(hR:g.R (.returned (V1 vs)) (left g.ds Z22))
  (G:g.IQ=none:=by rfl) (hm:Marks g.ds Z22:=by trivial):At g (.code c::k) e bx Z22:=
 At.ret hc hf (λa w he hs hb=>h.results hr a w he hs hb) hR G hm
theorem At.iR {fn:Func}{rs:List ResultVar}{vs:List Value}(hf:g.P.funcs[g.f]?=some fn)(hr:fn.results=rs.toArray)(h:Jb g.P e bx (left g.ds Z22) rs vs)(hR:g.R (.returned (V1 vs)) (left g.ds Z22))
  (G:g.IQ=none:=by rfl) (hm:Marks g.ds Z22:=by trivial):At g [] e bx Z22:=
 At.done hf (λa w he hs hb=>h.results hr a w he hs hb) hR G hm
end ends
end Tw
end
section
namespace Tw
open Go
variable [GO]
def cl:Code->Code
 | .seq a _=>a | .cond _ a _=>a | .block _ a=>a | .loop a=>a | .scope a=>a | .rangeFunc _ _ a _=>a | c=>c
def cr:Code->Code
 | .seq _ b=>b | .cond _ _ b=>b | .rangeFunc _ _ _ b=>b | c=>c
def cO:Code->Array Oper
 | .region _ ops _=>ops | _=>#[]
def Jc (P:Program)(t:TypeId)(f:Nat):Field:=
 match P.underlying t with
 | some (.struct G)=>G.getD f default
 | _=>default
theorem nt {b:Bool}(h:(!b)=true):b=false:=by simpa using h
theorem nf {b:Bool}(h:(!b)=false):b=true:=by simpa using h
def Ext (Z22 Z':Hp):Prop:=∀b o,Z22 b=some o->Z' b=some o
theorem Ext.refl (Z22:Hp):Ext Z22 Z22:=λ_ _ h=>h
theorem Ext.trans {Z22 Z' G:Hp}(h:Ext Z22 Z')(h':Ext Z' G):Ext Z22 G:=λb o hb=>h' b o (h b o hb)
theorem Ext.set {Z22:Hp}{b:Nat}{o:Obj}(h:Z22 b=none):Ext Z22 (Z22.set b o):=λc o' G=>by
 have:c≠b:=λe=>by rw[e,h]at G;cases G
 rw[Hp.AB this];exact G
theorem Ext.ld {Z22 Z':Hp}(h:Ext Z22 Z'){a:Addr}{v:Value}(G:Z22.ld a=some v):Z'.ld a=some v:=by
 unfold Hp.ld at *;cases hb:Z22 a.block with
 | none=>simp[hb]at G
 | some o=>rw[h _ _ hb];rw[hb]at G;exact G
theorem At.ofL {g:Gl}{k:List Item}{e:Env}{bx:Bx}{Z22:Hp}{l:List (Nat×Value)}(G:Live e l)(h:∀J,At g k (Mf J l) bx Z22):At g k e bx Z22:=At.live G (h e)
def Kp (L:List Nat)(Z22 Z':Hp):Prop:=∀b∈L,∀o,Z22 b=some o->Z' b=some o
theorem Kp.TI {L:List Nat}{Z22 Z':Hp}(h:Ext Z22 Z'):Kp L Z22 Z':=λb _ o hb=>h b o hb
theorem Kp.nil {Z22 Z':Hp}:Kp [] Z22 Z':=λb hb=>by cases hb
theorem AOT {L:List (Nat×List Nat)}{Z22 Z':Hp}(h:Kp (L.map Prod.fst) Z22 Z'):∀x∈L,∀o,Z22 x.1=some o->Z' x.1=some o:=λx hx o G=>h x.1 (AkT.2 ⟨x,hx,rfl⟩) o G
theorem RC {b o:Nat}{s:Option Nat}{L:List (Nat×List Nat)}{G:List (List Nat)}{Z22:Hp}{v:Value}(h:Z22.ld ⟨b,o,s⟩=some v):(KM (some L) (some (b,G)) Z22).ld ⟨b,o,s⟩=some v:=by
 unfold Hp.ld at *;simpa[KM] using h
theorem Spec.cont {P:Program}{f:FuncId}{args:Array Value}{Z22:Hp}{R:Rr}{Φ Ψ:Value->Hp->Prop}(h:Spec P f args Z22 (AY R Φ))(hh:∀v Z',Φ v Z'->Ψ v Z'):
  Spec P f args Z22 (AY R Ψ):=h.mono λe Z' G=>by
 cases e with
 | returned v=>exact hh v Z' G
 | panicked ch=>exact G
 | outgrown=>exact G
def YF (P:Program)(m:Sem Value)(Z22:Hp)(v:Value):Prop:=∀w,Sat Z22 w->m.run P w=.ok v w
theorem Yd.any {P:Program}{e:Env}{bx:Bx}{Z22:Hp}{op:Op}{ty:TypeId}{v:Value}{m:Sem Value}(hm:∀o:Oper,o.op=op->o.type=ty->execOp (AD e) o=(do pure (Next.value (<-m))))(hy:YF P m Z22 v):Yd P e bx Z22 op ty v:=
 Yd.of m hm (λw G _=>hy w G)
def Ee (p:Option Addr)(l c s:Nat):Option Addr:=if c=l then p else p.map (·.add (l*s))
section
variable {P:Program}{e:Env}{bx:Bx}{Z22:Hp}{ty T E:TypeId}{x y z:Operand}{k k':IntKind}{l h:Int}{p:Option Addr}{n c s:Nat}
theorem Jd (G:P.underlying T=some (.slice E)):P.elem T=E:=by simp[Program.elem,G]
theorem Y.sla (G:P.underlying T=some (.slice E))(hs:∀w,((Go.sizeOf E).run P w)=.ok s w)(hx:AD e x=.slice p n c)(_:True):Yd P e bx Z22 (.slice T x none none none) ty (.slice p n c):=λoo ho _ w _ _=>by
 have nK:P.underlying T=some (.slice (P.elem T)):=by rw[Jd G];exact G
 have h1:=run_sliceAt_slice (P:=P) (w:=w) T (.slice p n c) none none none nK;have h2:=run_slice_all (P:=P) (w:=w) T p n c nK;simp[execOp,ho,hx,h1,h2,hs,Jd G,sliced];cases p<;>simp[Addr.add]
theorem Y.slh (G:P.underlying T=some (.slice E))(hs:∀w,((Go.sizeOf E).run P w)=.ok s w)(hx:AD e x=.slice p n c)(hz:AD e z=.int k h)(hh:0<=h/\h<=c):Yd P e bx Z22 (.slice T x none (some z) none) ty (.slice p h.toNat c):=λoo ho _ w _ _=>by
 have nK:P.underlying T=some (.slice (P.elem T)):=by rw[Jd G];exact G
 have h1:=run_sliceAt_slice (P:=P) (w:=w) T (.slice p n c) none (some (.int k h)) none nK;have h2:=run_slice_h (P:=P) (w:=w) T p n c nK k h hh.1 hh.2;simp[execOp,ho,hx,hz,h1,h2,hs,Jd G,sliced];cases p<;>simp[Addr.add]
theorem Y.sll (G:P.underlying T=some (.slice E))(hs:∀w,((Go.sizeOf E).run P w)=.ok s w)(hx:AD e x=.slice p n c)(hy:AD e y=.int k l)(hh:0<=l/\l<=n):Yd P e bx Z22 (.slice T x (some y) none none) ty (.slice (Ee p l.toNat c s) (n-l.toNat) (c-l.toNat)):=λoo ho _ w _ _=>by
 have nK:P.underlying T=some (.slice (P.elem T)):=by rw[Jd G];exact G
 have h1:=run_sliceAt_slice (P:=P) (w:=w) T (.slice p n c) (some (.int k l)) none none nK;have h2:=run_slice_l (P:=P) (w:=w) T p n c nK k l hh.1 hh.2;simp[execOp,ho,hx,hy,h1,h2,hs,Jd G,sliced,Ee]
theorem Y.AOU (G:P.underlying T=some (.slice E))(hs:∀w,((Go.sizeOf E).run P w)=.ok s w)(hx:AD e x=.slice p n c)(hy:AD e y=.int k l)(hz:AD e z=.int k' h)(hh:0<=l/\l<=h/\h<=c):
  Yd P e bx Z22 (.slice T x (some y) (some z) none) ty (.slice (Ee p l.toNat c s) (h.toNat-l.toNat) (c-l.toNat)):=λoo ho _ w _ _=>by
 have nK:P.underlying T=some (.slice (P.elem T)):=by rw[Jd G];exact G
 have h1:=run_sliceAt_slice (P:=P) (w:=w) T (.slice p n c) (some (.int k l)) (some (.int k' h)) none nK;have h2:=run_slice_lh (P:=P) (w:=w) T p n c nK k k' l h hh.1 hh.2.1 hh.2.2;simp[execOp,ho,hx,hy,hz,h1,h2,hs,Jd G,sliced,Ee]
theorem iS (p:Option Addr)(c s:Nat):Ee p 0 c s=p:=by unfold Ee;cases p<;>simp[Addr.add]
theorem Y.AOV (G:P.underlying T=some (.slice E))(hs:∀w,((Go.sizeOf E).run P w)=.ok s w)(hx:AD e x=.slice p n c)(hy:AD e y=.int k 0)(hz:AD e z=.int k' h)(hh:(0:Int)<=0/\0<=h/\h<=c):
  Yd P e bx Z22 (.slice T x (some y) (some z) none) ty (.slice p h.toNat c):=by
 have:=Y.AOU (P:=P) (bx:=bx) (Z22:=Z22) (ty:=ty) G hs hx hy hz hh;simpa[iS] using this
theorem Y.AXP (G:P.underlying T=some (.slice E))(hs:∀w,((Go.sizeOf E).run P w)=.ok s w)(hx:AD e x=.slice p n c)(hy:AD e y=.int k 0)(hh:(0:Int)<=0/\(0:Int)<=n):
  Yd P e bx Z22 (.slice T x (some y) none none) ty (.slice p n c):=by
 have:=Y.sll (P:=P) (bx:=bx) (Z22:=Z22) (ty:=ty) G hs hx hy hh;simpa[iS] using this
theorem Y.AXQ {a b:Bool}(G:P.underlying T=some .bool)(hx:AD e x=.bool a)(hy:AD e y=.bool b){T':TypeId}:Yd P e bx Z22 (.binOp .eql T x y T') ty (.bool (a==b)):=λoo ho _ w _ _=>by
 simp[execOp,ho,hx,hy,eqGuard_at_bool,run_eql_bool w T a b G]
theorem Y.AXR {a b:Bool}(G:P.underlying T=some .bool)(hx:AD e x=.bool a)(hy:AD e y=.bool b){T':TypeId}:Yd P e bx Z22 (.binOp .neq T x y T') ty (.bool (!(a==b))):=λoo ho _ w _ _=>by
 simp[execOp,ho,hx,hy,eqGuard_at_bool,run_neq_bool w T a b G]
theorem Y.AXS {a b:ByteArray}(hT:P.underlying T=some .string)(hx:AD e x=.string a)(hy:AD e y=.string b){T':TypeId}:Yd P e bx Z22 (.binOp .eql T x y T') ty (.bool (a.toList==b.toList)):=λoo ho _ w _ _=>by
 have _:=hT;have G:(binOp .eql T (.string a) (.string b)).run P w=.ok (.bool (a.toList==b.toList)) w:=by simp[binOp,Op.stringOp]
 simp[execOp,ho,hx,hy,eqGuard_at_string,G]
theorem Y.AXT {a b:ByteArray}(hT:P.underlying T=some .string)(hx:AD e x=.string a)(hy:AD e y=.string b){T':TypeId}:Yd P e bx Z22 (.binOp .neq T x y T') ty (.bool (!(a.toList==b.toList))):=λoo ho _ w _ _=>by
 have _:=hT;have G:(binOp .neq T (.string a) (.string b)).run P w=.ok (.bool (!(a.toList==b.toList))) w:=by simp[binOp,Op.stringOp]
 simp[execOp,ho,hx,hy,eqGuard_at_string,G]
theorem Y.yd {q:Option Addr}{E:TypeId}(G:P.underlying T=some (.pointer E))(hx:AD e x=.pointer q)(hy:AD e y=.pointer none){T':TypeId}:Yd P e bx Z22 (.binOp .eql T x y T') ty (.bool q.isNone):=λoo ho _ w _ _=>by
 have nK:P.underlying T=some (.pointer (P.pointee T)):=by rw[show P.pointee T=E by simp[Program.pointee,G]];exact G
 have h1:=run_eql_pointer_nil w T q nK;simp[execOp,ho,hx,hy,eqGuard_at_pointer,h1]
theorem Y.ye {q:Option Addr}{E:TypeId}(G:P.underlying T=some (.pointer E))(hx:AD e x=.pointer q)(hy:AD e y=.pointer none){T':TypeId}:Yd P e bx Z22 (.binOp .neq T x y T') ty (.bool q.isSome):=λoo ho _ w _ _=>by
 have nK:P.underlying T=some (.pointer (P.pointee T)):=by rw[show P.pointee T=E by simp[Program.pointee,G]];exact G
 have h1:=run_neq_pointer_nil w T q nK;simp[execOp,ho,hx,hy,eqGuard_at_pointer,h1]
section
variable {u v:Value}{ts:Array TypeId}
theorem J1 (hx:AD e x=u)(hy:AD e y=v)(o:Oper)(G:o.op=.call { callee:=.builtin .append,args:=#[x,y],argTypes:=ts })(ht:o.type=ty):execOp (AD e) o=(do pure (.value (<-Builtin.append_ ts ty #[u,v]))):=by
 subst ht;simp[execOp,G,resolve,invoke,builtin,hx,hy]
theorem iT (hx:AD e x=u)(hy:AD e y=v)(o:Oper)(G:o.op=.call { callee:=.builtin .copy,args:=#[x,y],argTypes:=ts })(ht:o.type=ty):execOp (AD e) o=(do pure (.value (<-Builtin.copy_ ts ty #[u,v]))):=by
 subst ht;simp[execOp,G,resolve,invoke,builtin,hx,hy]
theorem aS (hx:AD e x=u)(hy:AD e y=v)(o:Oper)(G:o.op=.call { callee:=.builtin .delete,args:=#[x,y],argTypes:=ts })(ht:o.type=ty):execOp (AD e) o=(do pure (.value (<-Builtin.delete_ ts ty #[u,v]))):=by
 subst ht;simp[execOp,G,resolve,invoke,builtin,hx,hy]
theorem eC (hx:AD e x=u)(o:Oper)(G:o.op=.call { callee:=.builtin .clear,args:=#[x],argTypes:=ts })(ht:o.type=ty):execOp (AD e) o=(do pure (.value (<-Builtin.clear_ ts ty #[u]))):=by
 subst ht;simp[execOp,G,resolve,invoke,builtin,hx]
end
def Program.M8 (P:Program)(E:TypeId)(m:Nat)(vs:List (Nat×Value)):Option (Array Value):=
 match P.info? E with
 | some i=>match i.zero with
  | some z=>if m*i.size > 2^24 then none else Instr.fill (λj=>some (j*i.size,i.size)) ((Array.range (m*i.size)).map (z.cells[·%z.cells.size]!)) vs
  | none=>none
 | none=>none
theorem V2 {m:Nat}{vs:List (Nat×Value)}{cs:Array Value}(hT:P.underlying T=some (.slice E))(G:Program.M8 P E m vs=some cs)(ps:Array (Nat×Value))(hp:ps.toList=vs)(w:World):
  (Instr.buildSlice T m ps).run P w=.ok (.slice (some ⟨w.heap.size,0,none⟩) m m) { w with heap:=w.heap.push (.cells cs E (0,0)) }:=by
 unfold Program.M8 at G;cases hi:P.info? E with
 | none=>simp[hi]at G
 | some i=>
  cases hz:i.zero with
  | none=>simp[hi,hz]at G
  | some z=>
   simp only[hi,hz]at G;by_cases hm:m*i.size > 2^24
   .simp[hm]at G
   .simp only[hm,AlE]at G;subst hp;by_cases h0:m*i.size=0
    .rw[h0]at G;have:(Array.range 0).map (λx=>z.cells[x%z.cells.size]!)=#[]:=by simp
     rw[this]at G;have h2:Array.map (λ_=>(default:Value)) (Array.range 0)=#[]:=by simp
     simp[Instr.buildSlice,run_underlying hT,Go.sizeOf,typeInfo,hi,h0,h2,G,newRow,newObj,Sem.run]
    .simp[Instr.buildSlice,run_underlying hT,Go.sizeOf,typeInfo,zeroValue,hi,hz,hm,h0,G,newRow,newObj,Sem.run]
end
theorem AW.M8 {g:Gl}{ops:Array Oper}{i:Nat}{e:Env}{bx:Bx}{Z22:Hp}{K:Env->Bx->Hp->Prop}{d:Option Nat}{ty T E:TypeId}{m:Nat}{ps:Array (Nat×Operand)}{vs:List (Nat×Value)}{cs:Array Value}(hT:g.P.underlying T=some (.slice E))
  {gd:Option (Nat×Bool)} (hs:sig ops i=some (d,.buildSlice T m ps,ty,gd)) (hw:Ac ops e gd=true) (hd:HD d g.n=true) (hv:ps.toList.map (λp=>(p.1,AD e p.2))=vs) (hc:Program.M8 g.P E m vs=some cs)
  (h:∀b,Z22 b=none->K (put e d (.slice (some ⟨b,0,none⟩) m m)) bx (Z22.set b (.cells cs E (0,0)))):AW g ops i e bx Z22 K:=by
 intro w0 F a w st;obtain⟨o,ho,rfl,B6,Di,hg⟩:=Bg hs;refine Ct ho (by rw[st.wanted,hg];exact hw) ?_;rw[st.eval];have hh:(ps.map λ(i,x)=>(i,AD e x)).toList=vs:=by rw[<-hv];simp
 have:=V2 hT hc (ps.map λ(i,x)=>(i,AD e x)) hh w;have:(execOp (AD e) o).run g.P w=.ok (.value (.slice (some ⟨w.heap.size,0,none⟩) m m)) { w with heap:=w.heap.push (.cells cs E (0,0)) }:=by
  simp only[execOp,B6,Sem.run_bind,this,Result.andThen_ok];rfl
 rw[Dh this (λd=>by simp)];have G:=st.grown (.cells cs E (0,0));exact⟨_,_,_,G.open.put _ _ (HD.lt hd),h _ (G.free _ (Aj5 ..)).1⟩
def Enters (P:Program)(f:FuncId):Prop:=∀args w,(callFunc f args).run P w=.ok (.enter f args) w
theorem AW.AOW {g:Gl}{ops:Array Oper}{i:Nat}{e:Env}{bx:Bx}{Z22:Hp}{K:Env->Bx->Hp->Prop}{d:Option Nat}{ty:TypeId}{gd:Option (Nat×Bool)}{x:Operand}{xs:Array Operand}{ts:Array TypeId}
  {f:FuncId} {fst cap vs:Array Value} {u:Value} (hs:sig ops i=some (d,.call { callee:=.value x,args:=xs,argTypes:=ts },ty,gd)) (hw:Ac ops e gd=true) (hd:HD d g.n=true)
  (hx:AD e x=u) (G:xs.toList.map (AD e)=vs.toList) (hu:u=.func (.func f) fst cap) (KQ:Enters g.P f)
  (h:Spec g.P f (fst++vs++cap) Z22 (AY g.R λv Z'=>K (put e d v) bx Z')):AW g ops i e bx Z22 K:=
 AW.call hs hw hd (λo ho _ w=>TH KQ (hx.trans hu) G rfl o ho w) h
def YN (P:Program)(f:FuncId)(args:Array Value)(Z22:Hp)(v:Value):Prop:=∀w,Sat Z22 w->(callFunc f args).run P w=.ok (.value v) w
end Tw
end
section
namespace Tw
open Go
variable [GO]
theorem AI.pu {P:Program}{α:Type}{m:Sem α}{Z22:Hp}{Φ:α->Hp->Prop}{v:α}(hm:∀w,Sat Z22 w->m.run P w=.ok v w)(h:Φ v Z22):AI P m Z22 Φ:=λw _ G hF=>
 ⟨v,w,Z22,hm w G,h,G,λb hb=>⟨(hF b hb).2,rfl⟩,.same rfl rfl rfl,rfl,Ajt _⟩
def Hp.del (Z22:Hp)(p:Option Addr):Hp:=λk=>match p with
 | some a=>if k=a.block then none else Z22 k
 | none=>Z22 k
def Hp.new (Z22 Z':Hp):Hp:=λk=>match Z22 k with
 | none=>Z' k
 | some _=>none
theorem Ext.del {Z22 Z':Hp}(h:Ext Z22 Z')(p:Option Addr):Ext (Z22.del p) (Z'.del p):=λk o G=>by
 cases p with
 | none=>exact h k o G
 | some a=>simp only[Hp.del]at G ⊢;split at G<;>simp_all [h k o]
theorem Ext.LG (Z22:Hp)(p:Option Addr):Ext (Z22.del p) Z22:=λk o G=>by
 cases p with
 | none=>exact G
 | some a=>simp only[Hp.del]at G;split at G<;>simp_all
theorem Ext.CY (Z22 Z':Hp):Ext (Z22.new Z') Z':=λk o G=>by
 simp only[Hp.new]at G;split at G<;>simp_all
theorem Ext.ADz {Z22 Z':Hp}{p:Option Addr}(hp:∀a,p=some a->Z22 a.block≠none):Ext (Z22.new Z') (Z'.del p):=λk o G=>by
 cases p with
 | none=>exact Ext.CY Z22 Z' k o G
 | some a=>
  have h1:=hp a rfl;have h2:=Ext.CY Z22 Z' k o G;simp only[Hp.del];split
  .rename_i h;subst h;simp only[Hp.new]at G;split at G<;>simp_all
  .exact h2
theorem Ext.Ir {Z22 G Z2:Hp}(h:Ext G Z2):Ext (Z22.new G) (Z22.new Z2):=λk o hk=>by
 simp only[Hp.new]at hk ⊢;split at hk<;>simp_all [h k o]
theorem Ext.Cq {Z22 Z1 Z2:Hp}(h:Ext Z22 Z1):Ext (Z1.new Z2) (Z22.new Z2):=λk o G=>by
 simp only[Hp.new]at G ⊢;split at G
 .rename_i hn;cases hs:Z22 k with
  | none=>exact G
  | some o'=>rw[h k o' hs]at hn;cases hn
 .cases G
def Fo (s:Nat)(Z22:Hp)(p:Option Addr)(n:Nat)(cs:List Value):Prop:=
 cs.length=n*s/\n<=4611686018427387904/\(n=0\/∃b o,p=some ⟨b,o,none⟩/\A2 Z22 b o cs)
theorem A2.mono {Z22 Z':Hp}(h:Ext Z22 Z'){b:Nat}:∀{l:List Value} {o:Nat},A2 Z22 b o l->A2 Z' b o l
 | [],_,_=>trivial
 | _::_,_,G=>⟨h.ld G.1,A2.mono h G.2⟩
theorem Fo.mono {s:Nat}{Z22 Z':Hp}(h:Ext Z22 Z'){p:Option Addr}{n:Nat}{cs:List Value}(G:Fo s Z22 p n cs):Fo s Z' p n cs:=
 ⟨G.1,G.2.1,G.2.2.imp id λ⟨b,o,hp,hl⟩=>⟨b,o,hp,hl.mono h⟩⟩
theorem A2.of {Z22:Hp}{b:Nat}:∀{l:List Value} {o:Nat},(∀j v,l[j]?=some v->Z22.ld ⟨b,o+j,none⟩=some v)->A2 Z22 b o l
 | [],_,_=>trivial
 | v::l,o,h=>⟨by simpa using h 0 v rfl,A2.of λj u G=>by have:=h (j+1) u (by simpa using G);rwa[show o+(j+1)=o+1+j by omega]at this⟩
theorem A2.part {Z22:Hp}{b o i m:Nat}{l:List Value}(h:A2 Z22 b o l):A2 Z22 b (o+i) ((l.drop i).take m):=A2.of λj v G=>by
 have S7:l[i+j]?=some v:=by
  rw[AkE]at G;split at G
  .simpa using G
  .cases G
 have:=h.get S7;rwa[show o+i+j=o+(i+j) by omega]
def Ch {α:Type}(s:Nat)(E:Hp->List Value->α->Prop)(Z22:Hp)(cs:List Value)(xs:List α):Prop:=
 cs.length=xs.length*s/\∀i x,xs[i]?=some x->E Z22 ((cs.drop (i*s)).take s) x
def Ae {α:Type}(s:Nat)(E:Hp->List Value->α->Prop)(Z22:Hp)(p:Option Addr)(n:Nat)(xs:List α):Prop:=
 xs.length=n/\∃cs,Fo s Z22 p n cs/\Ch s E Z22 cs xs
def Hk {α:Type}(E:Hp->List Value->α->Prop):Prop:=∀Z22 Z' vs x,Ext Z22 Z'->E Z22 vs x->E Z' vs x
theorem Ch.mono {α:Type}{s:Nat}{E:Hp->List Value->α->Prop}(hE:Hk E){Z22 Z':Hp}(h:Ext Z22 Z'){cs:List Value}{xs:List α}(G:Ch s E Z22 cs xs):Ch s E Z' cs xs:=
 ⟨G.1,λi x hx=>hE _ _ _ _ h (G.2 i x hx)⟩
theorem Ae.mono {α:Type}{s:Nat}{E:Hp->List Value->α->Prop}(G:Hk E){Z22 Z':Hp}(h:Ext Z22 Z'){p:Option Addr}{n:Nat}{xs:List α}(hr:Ae s E Z22 p n xs):Ae s E Z' p n xs:=
 let ⟨h1,cs,h2,h3⟩:=hr;⟨h1,cs,h2.mono h,h3.mono G h⟩
theorem Ae.nil {α:Type}{s:Nat}{E:Hp->List Value->α->Prop}{Z22:Hp}{p:Option Addr}:Ae s E Z22 p 0 []:=⟨rfl,[],⟨by simp,by omega,.inl rfl⟩,by simp[Ch]⟩
theorem Ae.idx {α:Type}{s:Nat}{E:Hp->List Value->α->Prop}{Z22:Hp}{p:Option Addr}{n i:Nat}{xs:List α}{x:α}(hr:Ae s E Z22 p n xs)(hx:xs[i]?=some x):
  ∃b o vs,p=some ⟨b,o,none⟩/\E Z22 vs x/\A2 Z22 b (o+i*s) vs:=by
 obtain⟨h1,cs,⟨hl,_,G⟩,h3⟩:=hr;have hi:i<n:=by rw[<-h1];exact(Ajn.1 hx).1
 rcases G with G|⟨b,o,hp,Dy⟩
 .omega
 .exact⟨b,o,_,hp,h3.2 i x hx,Dy.part⟩
theorem Ae.big {α:Type}{s:Nat}{E:Hp->List Value->α->Prop}{Z22:Hp}{p:Option Addr}{n:Nat}{xs:List α}(G:Ae s E Z22 p n xs):n<=4611686018427387904:=by
 obtain⟨_,cs,⟨_,h,_⟩,_⟩:=G;exact h
theorem Ae.ex {α:Type}{s:Nat}{E:Hp->List Value->α->Prop}{Z22:Hp}{p:Option Addr}{n k:Nat}{xs:List α}(hr:Ae s E Z22 p n xs)(G:k<n):∃y,xs[k]?=some y:=
 ⟨_,Ajs (by rw[hr.1];exact G)⟩
theorem AO {k n:Nat}(h:k<n)(G:n<=4611686018427387904):AL ((k:Int)+1):=by unfold AL;omega
theorem AU {α:Type}{xs:List α}{k:Nat}{y:α}(G:xs[k]?=some y):xs.take (k+1)=xs.take k++[y]:=by
 rw[Amk,G];rfl
theorem aT {α:Type}{xs:List α}{k:Nat}{x y:α}(G:xs[k]?=some y):x∈xs.take (k+1)↔x∈xs.take k\/x=y:=by
 rw[AU G,AkH,Ajp]
def FK (k:IntKind)(_:Hp)(vs:List Value)(x:Int):Prop:=vs=[.int k x]
theorem FK.mono (k:IntKind):Hk (FK k):=λ_ _ _ _ _ h=>h
abbrev DB (k:IntKind):= Ae 1 (FK k)
theorem DB.mono {k:IntKind}{Z22 Z':Hp}(h:Ext Z22 Z'){p:Option Addr}{n:Nat}{xs:List Int}(G:DB k Z22 p n xs):DB k Z' p n xs:=Ae.mono (FK.mono k) h G
theorem DB.at {k:IntKind}{Z22:Hp}{p:Option Addr}{n:Nat}{xs:List Int}(hr:DB k Z22 p n xs){i:Nat}{x:Int}(hx:xs[i]?=some x):
  ∃b o,p=some ⟨b,o,none⟩/\Z22.ld ⟨b,o+i*1,none⟩=some (.int k x):=by
 obtain⟨b,o,vs,hp,rfl,G⟩:=Ae.idx hr hx;exact⟨b,o,hp,G.1⟩
theorem nL {k:IntKind}{Z22:Hp}{cs:List Value}{xs:List Int}:Ch 1 (FK k) Z22 cs xs↔cs=xs.map (.int k):=by
 constructor
 .rintro⟨h1,h2⟩
  refine Akv λi=>?_;rw[Akt];cases G:xs[i]? with
  | none=>
   have:=Amp.1 G;simp only[Option.map_none];exact Amp.2 (by omega)
  | some x=>
   have:=h2 i x G;simp only[FK,AlQ]at this;have h3:((cs.drop i).take 1)[0]?=some (.int k x):=by rw[this];rfl
   rw[AkE]at h3;simpa using h3
 .rintro rfl
  refine⟨by simp,λi x G=>?_⟩;have Ax:=(Ajn.1 G).1;have hg:=(Ajn.1 G).2;simp only[FK,AlQ];rw[Aly (by simpa using Ax)];simp[hg]
def BL (s:Nat)(Z22:Hp)(p:Option Addr)(n c:Nat)(cs:List Value):Prop:=
 cs.length=n*s/\n<=4611686018427387904/\((p=none/\n=0/\c=0)\/∃b o arr T,p=some ⟨b,o,none⟩/\Z22 b=some (.cells arr T (0,0))/\n<=c/\o+c*s<=arr.size/\(arr.toList.drop o).take (n*s)=cs)
theorem BL.nil {s:Nat}{Z22:Hp}:BL s Z22 none 0 0 []:=⟨by simp,by omega,.inl ⟨rfl,rfl,rfl⟩⟩
theorem BL.rd {s:Nat}{Z22:Hp}{p:Option Addr}{n c:Nat}{cs:List Value}(h:BL s Z22 p n c cs):Fo s Z22 p n cs:=by
 obtain⟨h1,h0,h2⟩:=h;refine⟨h1,h0,?_⟩;rcases h2 with ⟨_,hn,_⟩|⟨b,o,arr,T,hp,hb,rM,KD,RD⟩
 .exact .inl hn
 .refine .inr ⟨b,o,hp,A2.of λj v G=>?_⟩;rw[<-RD,AkE]at G;split at G
  .simp only[Hp.ld,hb];simpa using G
  .cases G
theorem BL.mono {s:Nat}{Z22 Z':Hp}(h:Ext Z22 Z'){p:Option Addr}{n c:Nat}{cs:List Value}(G:BL s Z22 p n c cs):BL s Z' p n c cs:=
 ⟨G.1,G.2.1,G.2.2.imp id λ⟨b,o,arr,T,hp,hb,r⟩=>⟨b,o,arr,T,hp,h _ _ hb,r⟩⟩
theorem BL.block {s:Nat}{Z22:Hp}{p:Option Addr}{n c:Nat}{cs:List Value}(ho:BL s Z22 p n c cs):∀a,p=some a->Z22 a.block≠none:=by
 intro a G;rcases ho.2.2 with ⟨hp,_⟩|⟨b,o,arr,T,hp,hb,_⟩
 .rw[hp]at G;cases G
 .rw[hp]at G;cases G;rw[hb];simp
theorem BL.take {s:Nat}{Z22:Hp}{p:Option Addr}{n c m:Nat}{cs:List Value}(ho:BL s Z22 p n c cs)(hm:m<=n):BL s Z22 p m c (cs.take (m*s)):=by
 obtain⟨h1,h0,h2⟩:=ho;have G:m*s<=n*s:=AkZ s hm;refine⟨by rw[AkA,h1];omega,by omega,?_⟩;rcases h2 with ⟨hp,hn,hc⟩|⟨b,o,arr,T,hp,hb,rM,KD,RD⟩
 .exact .inl ⟨hp,by omega,hc⟩
 .exact .inr ⟨b,o,arr,T,hp,hb,by omega,KD,by rw[<-RD,Am2,Alz G]⟩
class KE (P:Program)(T:TypeId)(E:outParam TypeId)(s bs:outParam Nat):Prop where
 U1:P.underlying T=some (.slice E)
 info:∃i z,P.info? E=some i/\i.zero=some z/\i.size=s/\i.bytes=bs/\z.cells.size=s
 pos:0<s
 AXU:0<bs
def FL (cs:List Value):Prop:=∀u∈cs,u.oneCell'=true
theorem FL.Pr {k:IntKind}{xs:List Int}:FL (xs.map (.int k)):=λu G=>by
 obtain⟨x,_,rfl⟩:=AkT.1 G;rfl
section append
variable {P:Program}{T E ty:TypeId}{s bs:Nat}{Z22:Hp}{p q:Option Addr}{n c m d:Nat}{cs ys:List Value}{Φ:Value->Hp->Prop}
theorem bO {w:World}(hs:Sat Z22 w){b o:Nat}(h:A2 Z22 b o ys):∀j v,ys[j]?=some v->w.cell? ((⟨b,o,none⟩:Addr).add j)=some v:=λj v G=>by
 rw[Cv];exact hs.ld (h.get G)
theorem Ps (w:World)(hs:Sat Z22 w)(G:Fo s Z22 q m ys):(Builtin.firstCells s m (.slice q m d)).run P w=.ok ys.toArray w:=by
 rcases G.2.2 with hm|⟨b,o,rfl,hl⟩
 .subst hm;have:ys=[]:=Aj8 (by simpa using G.1);subst this;cases q<;>simp[Builtin.firstCells,loadCells,loadCellsFrom]
 .exact run_firstCells_some (P:=P) w s m ⟨b,o,none⟩ m d ys G.1 (bO hs hl)
theorem Hl {w:World}(G:Sat Z22 w):Z22 w.heap.size=none:=by
 cases h:Z22 w.heap.size with
 | none=>rfl
 | some o=>exact absurd (Aj2.1 (G _ _ h)).1 (Nat.lt_irrefl _)
theorem Fin.alloc {F:Nat->Prop}{w:World}{o:Obj}(hs:Sat Z22 w)(hF:∀b,F b->b<w.heap.size/\Z22 b=none)(w':World)(hw:w'.heap=w.heap.push o)(h1:Bl w w')(h2:w'.output=w.output):Fin (Z22.set w.heap.size o) F w w':=by
 refine⟨λk u G=>?_,λb hb=>?_,h1,h2,by rw[hw];simp⟩
 .rw[hw];by_cases h:k=w.heap.size
  .subst h;rw[Hp.AA]at G;cases G;simp
  .rw[Hp.AB h]at G;have:=hs k u G;have Ax:=(Aj2.1 this).1;rw[AkB,Ajj h];exact this
 .have:=(hF b hb).1;refine⟨by rw[Hp.AB (by omega)];exact(hF b hb).2,?_⟩;rw[hw,AkB,Ajj (by omega)]
theorem Hp.Rx {b:Nat}{o:Obj}{a:Nat}{sp:Option Nat}(h:Z22 b=none):(Z22.set b o).del (some ⟨b,a,sp⟩)=Z22:=by
 funext k
 simp only[Hp.del,Hp.set];by_cases G:k=b
 .subst G;simp[h]
 .simp[G]
theorem Hp.LH {b:Nat}{o:Obj}{a:Nat}{G:Option Nat}:(Z22.set b o).del (some ⟨b,a,G⟩)=Z22.del (some ⟨b,a,G⟩):=by
 funext k
 simp only[Hp.del,Hp.set];by_cases hk:k=b<;>simp[hk]
theorem yf [h:KE P T E s bs](CV:BL s Z22 p n c cs)(hy:Fo s Z22 q m ys)(h1:FL ys)(hb:(n+m)*bs<=140737488355328)
  (hΦ:∀p' c' Z',BL s Z' p' (n+m) c' (cs++ys)->Ext (Z22.del p) (Z'.del p')->((p'=p/\c'=c/\n+m<=c)\/(c<n+m/\Ext Z22 Z'/\∀a,p'=some a->Z22 a.block=none))->Φ (.slice p' (n+m) c') Z') :
  AI P (Builtin.append_ #[T,T] ty #[.slice p n c,.slice q m d]) Z22 Φ:=by
 obtain⟨ht,⟨i,z,hi,hz,rfl,rfl,hzs⟩,Is,yh⟩:=h;have h62:n+m<=140737488355328:=Ake (Al5 _ yh) hb;intro w F hs hF;have hf:=Ps (P:=P) (d:=d) w hs hy;have uR:=λw' (hw:Sat Z22 w')=>Ps (P:=P) (d:=d) w' hw hy;have EM:=λw' (hw:Sat Z22 w')=>Ps (P:=P) (d:=c) w' hw CV.rd;have G:(cs++ys).length=(n+m)*i.size:=by rw[Ajr,CV.1,hy.1,Akw]
 by_cases Je:n+m<=c
 ·
  rcases CV.2.2 with ⟨hp,hn,hc⟩|⟨b,o,arr,T',rfl,hblk,rM,KD,RD⟩
  .subst hp hn hc;have hm:m=0:=by omega
   subst hm;have hys:ys=[]:=Aj8 (by simpa using hy.1);have RD:cs=[]:=Aj8 (by simpa using CV.1);subst hys RD;refine⟨.slice none 0 0,w,Z22,?_,hΦ none 0 Z22 BL.nil (Ext.refl _) (.inl ⟨rfl,rfl,Je⟩),hs,λb hb=>⟨(hF b hb).2,rfl⟩,.same rfl rfl rfl,rfl,Ajt _⟩;simp[Builtin.append_,run_underlying ht,Go.sizeOf,typeInfo,hi,Builtin.lenOf,hf]
  .have hw:=hs _ _ hblk;have AJM:o+n*i.size+0+ys.length<=arr.size:=by
    rw[hy.1];have:(n+m)*i.size<=c*i.size:=AkZ _ Je;rw[Akw]at this;omega
   have CA:=GY (P:=P) b (o+n*i.size) T' ys 0 arr w hw AJM h1;simp only[Ak7]at CA;refine⟨.slice (some ⟨b,o,none⟩) (n+m) c,w.setRow b (LF arr (o+n*i.size) ys),Z22.set b (.cells (LF arr (o+n*i.size) ys) T' (0,0)),?_,hΦ _ _ _ ⟨G,by omega,.inr ⟨b,o,_,T',rfl,Hp.AA _ _ _,Je,by rw[KR];exact KD,?_⟩⟩ (by rw[Hp.LH];exact Ext.refl _) (.inl ⟨rfl,rfl,Je⟩),?_⟩
   .simp[Builtin.append_,run_underlying ht,Go.sizeOf,typeInfo,hi,Builtin.lenOf,Je,hf,Cv,CA]
   .refine Akv λj=>?_;rw[AkE];simp only[AkL,AkQ];rw[VW _ _ _ _ (by omega),Ak5];have e1:cs.length=n*i.size:=CV.1;have e2:ys.length=m*i.size:=hy.1;have e3:(n+m)*i.size=n*i.size+m*i.size:=Akw ..;by_cases hj1:j<cs.length
    .rw[Ajl (by omega),Ajj (by omega),Ajl hj1,<-RD,AkE,Ajl (by omega)];simp
    .rw[Ajj hj1];by_cases hj2:j<(n+m)*i.size
     .rw[Ajl hj2,Ajl (by omega),show o+j-(o+n*i.size)=j-cs.length by omega]
     .rw[Ajj hj2,Ak2 (by omega)]
   .refine⟨λk u hk=>?_,λk hk=>?_,.same rfl rfl rfl,rfl,by simp⟩
    .by_cases FM:k=b
     .subst FM;rw[Hp.AA]at hk;cases hk;exact setRow_heap w k arr _ T' (0,0) hw
     .rw[Hp.AB FM]at hk;rw[setRow_other _ _ _ _ FM];exact hs k u hk
    .have FM:k≠b:=λh=>by have:=(hF k hk).2;rw[h,hblk]at this;cases this
     exact⟨by rw[Hp.AB FM];exact(hF k hk).2,setRow_other _ _ _ _ FM⟩
 ·
  have AOZ:Builtin.nextslicecap (n+m) c*i.bytes<=281474976710656:=growslice_fits (by omega) hb;have hgc:=grownCap_ge w (n+m) c E;have Ms:Sat Z22 w.drew:=hs;have CG:(Builtin.append_ #[T,T] ty #[.slice p n c,.slice q m d]).run P w =
    .ok (.slice (some ⟨w.heap.size,0,none⟩) (n+m) (grownCap w (n+m) c E))
     (w.drew.alloc (.cells (cs.toArray++ys.toArray++Builtin.zeroCells z.cells (grownCap w (n+m) c E-(n+m))) E)):=by
   have AJN:¬(9223372036854775807<((n:Int)+(m:Int))):=by omega
   have AJO:¬(281474976710656<Builtin.nextslicecap (n+m) c*i.bytes):=by omega
   simp[Builtin.append_,run_underlying ht,Go.sizeOf,typeInfo,zeroValue,hi,hz,Builtin.lenOf,Je,AJN,AJO,Question.forced,uR _ Ms,EM _ Ms,newRow,grownCap]
   congr 2
   apply Am8
   simp[AkC]
  refine⟨_,_,Z22.set w.heap.size _,CG,hΦ _ _ _ ⟨G,by omega,.inr ⟨w.heap.size,0,_,E,rfl,Hp.AA _ _ _,hgc,?_,?_⟩⟩ ?_ (.inr ⟨by omega,Ext.set (Hl hs),λa ha=>by cases ha;exact Hl hs⟩),Fin.alloc hs hF _ rfl ⟨rfl,rfl,λ_=>⟨1,rfl⟩⟩ rfl⟩
  .simp only[Aml,Amm,size_zeroCells,hzs,CV.1,hy.1,<-Akw];have:n+m+(grownCap w (n+m) c E-(n+m))=grownCap w (n+m) c E:=by omega
   rw[this];omega
  .simp only[Ama,Alr];rw[<-G];exact Am3
  .rw[Hp.Rx (Hl hs)];exact Ext.LG Z22 p
theorem ED [h:KE P T E s bs](CV:BL s Z22 p n c cs)(hy:Fo s Z22 q m ys)(h1:FL ys)(hb:(n+m)*bs<=140737488355328)
  (hΦ:∀G c' Z',BL s Z' G (n+m) c' (cs++ys)->Ext (Z22.del p) (Z'.del G)->Φ (.slice G (n+m) c') Z') :
  AI P (Builtin.append_ #[T,T] ty #[.slice p n c,.slice q m d]) Z22 Φ:=
 yf CV hy h1 hb λG c' Z' h1 h2 _=>hΦ G c' Z' h1 h2
end append
end Tw
end
section
namespace Tw
open Go
variable [GO]
theorem Fo.of_map {k:IntKind}{Z22:Hp}{p:Option Addr}{n:Nat}{xs:List Int}(hr:DB k Z22 p n xs):Fo 1 Z22 p n (xs.map (.int k)):=by
 obtain⟨_,cs,G,h2⟩:=hr;rwa[nL.1 h2]at G
theorem DB.eD {k:IntKind}{Z22:Hp}{p:Option Addr}{n:Nat}{xs:List Int}(h:Fo 1 Z22 p n (xs.map (.int k))):DB k Z22 p n xs:=
 ⟨by have:=h.1;simpa using this,_,h,nL.2 rfl⟩
abbrev DS (k:IntKind)(Z22:Hp)(p:Option Addr)(n c:Nat)(xs:List Int):Prop:=BL 1 Z22 p n c (xs.map (.int k))
theorem DS.rd {k:IntKind}{Z22:Hp}{p:Option Addr}{n c:Nat}{xs:List Int}(h:DS k Z22 p n c xs):DB k Z22 p n xs:=.eD (BL.rd h)
theorem BL.empty {s b T:Nat}{Z22:Hp}:BL s (Z22.set b (.cells #[] T (0,0))) (some ⟨b,0,none⟩) 0 0 []:=
 ⟨by simp,by omega,.inr ⟨b,0,#[],T,rfl,Hp.AA _ _ _,Ajt _,by simp,by simp⟩⟩
theorem BL.TJ {s:Nat}{Z22 Z':Hp}{p:Option Addr}{n c:Nat}{cs:List Value}(h:BL s Z' p n c cs)(hp:∀a,p=some a->Z22 a.block=none):BL s (Z22.new Z') p n c cs:=by
 refine⟨h.1,h.2.1,h.2.2.imp id ?_⟩
 rintro⟨b,o,arr,T,G,hb,r⟩
 refine⟨b,o,arr,T,G,?_,r⟩;simp only[Hp.new];rw[hp _ G];exact hb
theorem HL {Z22 G Z':Hp}{p p':Option Addr}(h:∀a,p=some a->Z22 a.block=none)(hx:Ext (G.del p) (Z'.del p'))(hσ:Ext Z22 G):∀a,p'=some a->Z22 a.block=none:=by
 intro a ha;cases hb:Z22 a.block with
 | none=>rfl
 | some o=>
  have h1:=hσ _ _ hb;have h2:(G.del p) a.block=some o:=by
   cases p with
   | none=>exact h1
   | some u=>
    simp only[Hp.del];split
    .rename_i he;have:=h u rfl;rw[<-he,hb]at this;cases this
    .exact h1
  have h3:=hx _ _ h2;rw[ha]at h3;simp[Hp.del]at h3
theorem LJ {Z22 Z1 Z':Hp}{p p':Option Addr}(h:∀a,p=some a->Z22 a.block=none)(hx:Ext (Z1.del p) (Z'.del p'))(G:Ext Z22 Z1):Ext Z22 Z':=by
 intro b o hb;have h2:(Z1.del p) b=some o:=by
  cases p with
  | none=>exact G _ _ hb
  | some u=>
   simp only[Hp.del];split
   .rename_i he;have:=h u rfl;rw[<-he,hb]at this;cases this
   .exact G _ _ hb
 exact Ext.LG _ _ _ _ (hx _ _ h2)
theorem Af {Z22 Z':Hp}{k:Nat}{o:Obj}:Z22.new Z' k=some o↔Z22 k=none/\Z' k=some o:=by
 simp only[Hp.new];cases Z22 k<;>simp
theorem Aq {Z22:Hp}{p:Option Addr}{k:Nat}{o:Obj}:Z22.del p k=some o↔(∀a,p=some a->k≠a.block)/\Z22 k=some o:=by
 cases p with
 | none=>simp[Hp.del]
 | some a=>
  simp only[Hp.del];split
  .rename_i h;simp[h]
  .rename_i h;simp[h]
theorem BL.yi {s:Nat}{Z22 Z':Hp}{p:Option Addr}{n c:Nat}{cs:List Value}(h:BL s (Z22.new Z') p n c cs):∀a,p=some a->Z22 a.block=none:=by
 intro a G;have:=h.block a G;cases hb:(Z22.new Z') a.block with
 | none=>exact absurd hb this
 | some o=>exact(Af.1 hb).1
section append
variable {P:Program}{T Et ty:TypeId}{s bs:Nat}{Z0 Z22:Hp}{p q:Option Addr}{n c m d:Nat}{cs ys:List Value}{Φ:Value->Hp->Prop}
theorem AD1 [KE P T Et s bs](h0:Ext Z0 Z22)(CV:BL s (Z0.new Z22) p n c cs)(hy:Fo s Z22 q m ys)(h1:FL ys)(hb:(n+m)*bs<=140737488355328)
  (hΦ:∀p' c' Z',BL s (Z0.new Z') p' (n+m) c' (cs++ys)->Ext Z0 Z'->Ext ((Z0.new Z22).del p) ((Z0.new Z').del p')->Φ (.slice p' (n+m) c') Z') :
  AI P (Builtin.append_ #[T,T] ty #[.slice p n c,.slice q m d]) Z22 Φ:=by
 have G:=CV.yi;refine ED (CV.mono (Ext.CY Z0 Z22)) hy h1 hb λp' c' Z' ho hx=>?_;refine hΦ p' c' Z' (ho.TJ (HL G hx h0)) (LJ G hx h0) λk o hk=>?_;obtain⟨h2,h3⟩:=Aq.1 hk;obtain⟨h4,h5⟩:=Af.1 h3;obtain⟨h6,h7⟩:=Aq.1 (hx k o (Aq.2 ⟨h2,h5⟩));exact Aq.2 ⟨h6,Af.2 ⟨h4,h7⟩⟩
theorem Pu [KE P T Et s bs](h0:Ext Z0 Z22)(CV:BL s (Z0.new Z22) p n c cs)(hl:ys.length=m*s)(h1:FL ys)(hb:(n+m)*bs<=140737488355328)
  (hΦ:∀G c' Z',BL s (Z0.new Z') G (n+m) c' (cs++ys)->Ext Z0 Z'->Ext ((Z0.new Z22).del p) ((Z0.new Z').del G)->Φ (.slice G (n+m) c') Z')
  {b:Nat} (hn:Z22 b=none):AI P (Builtin.append_ #[T,T] ty #[.slice p n c,.slice (some ⟨b,0,none⟩) m m]) (Z22.set b (.cells ys.toArray Et (0,0))) Φ:=by
 have hx:Ext Z22 (Z22.set b (.cells ys.toArray Et (0,0))):=.set hn;have hm:m<=140737488355328:=by
  have hbp:=(inferInstance:KE P T Et s bs).AXU;have:n+m<=(n+m)*bs:=Al5 _ hbp;omega
 refine AD1 (h0.trans hx) (CV.mono (Ext.Ir hx)) ⟨hl,by omega,.inr ⟨b,0,rfl,A2.of λj v hj=>?_⟩⟩ h1 hb λG c' Z' ho he hd=>hΦ G c' Z' ho he (λk o hk=>hd k o ((Ext.Ir hx).del p k o hk));simp[Hp.ld,Hp.AA,hj]
end append
def IT {α:Type}(s:Nat)(E:Hp->List Value->α->Prop)(Z22:Hp)(p:Option Addr)(n c:Nat)(xs:List α):Prop:=
 xs.length=n/\∃cs,BL s Z22 p n c cs/\Ch s E (Z22.del p) cs xs
theorem IT.nil {α:Type}{s:Nat}{E:Hp->List Value->α->Prop}{Z22:Hp}:IT s E Z22 none 0 0 []:=⟨rfl,[],.nil,by simp[Ch]⟩
theorem IT.mono {α:Type}{s:Nat}{E:Hp->List Value->α->Prop}(G:Hk E){Z22 Z':Hp}(h:Ext Z22 Z'){p:Option Addr}{n c:Nat}{xs:List α}(ho:IT s E Z22 p n c xs):IT s E Z' p n c xs:=
 let ⟨h1,cs,h2,h3⟩:=ho;⟨h1,cs,h2.mono h,h3.mono G (h.del p)⟩
theorem IT.rd {α:Type}{s:Nat}{E:Hp->List Value->α->Prop}(G:Hk E){Z22:Hp}{p:Option Addr}{n c:Nat}{xs:List α}(ho:IT s E Z22 p n c xs):Ae s E Z22 p n xs:=
 let ⟨h1,cs,h2,h3⟩:=ho;⟨h1,cs,h2.rd,h3.mono G (Ext.LG Z22 p)⟩
theorem IT.block {α:Type}{s:Nat}{E:Hp->List Value->α->Prop}{Z22:Hp}{p:Option Addr}{n c:Nat}{xs:List α}(G:IT s E Z22 p n c xs):∀a,p=some a->Z22 a.block≠none:=
 let ⟨_,_,h2,_⟩:=G;h2.block
theorem Ch.snoc {α:Type}{s:Nat}{E:Hp->List Value->α->Prop}{Z22:Hp}{cs vs:List Value}{xs:List α}{x:α}(h:Ch s E Z22 cs xs)(hl:vs.length=s)(hx:E Z22 vs x):Ch s E Z22 (cs++vs) (xs++[x]):=by
 refine⟨by simp[h.1,hl,Akw],λi y G=>?_⟩;rw[Ak5]at G;split at G
 .rename_i hi;have hle:i*s+s<=cs.length:=by rw[h.1,<-Ale];exact AkZ s hi
  rw[AmY (by omega),AmZ (by simp;omega)];exact h.2 i y G
 .rename_i hi;have:i=xs.length:=by
   have:=(Ajn.1 G).1;simp at this;omega
  subst this;simp at G;subst G;rw[<-h.1,List.drop_left,<-hl,List.take_length];exact hx
theorem IT.FN {α:Type}{P:Program}{T Et ty:TypeId}{s bs:Nat}{E:Hp->List Value->α->Prop}(hE:Hk E)[KE P T Et s bs]{Z0 Z22:Hp}{p:Option Addr}{n c:Nat}{xs:List α}{vs:List Value}{x:α}{Φ:Value->Hp->Prop}
  (h0:Ext Z0 Z22) (CV:IT s E (Z0.new Z22) p n c xs) (hl:vs.length=s) (h1:FL vs) (hx:E ((Z0.new Z22).del p) vs x) (hb:(n+1)*bs<=140737488355328)
  (hΦ:∀p' c' Z',IT s E (Z0.new Z') p' (n+1) c' (xs++[x])->Ext Z0 Z'->Φ (.slice p' (n+1) c') Z') {b:Nat} (hn:Z22 b=none) :
  AI P (Builtin.append_ #[T,T] ty #[.slice p n c,.slice (some ⟨b,0,none⟩) 1 1]) (Z22.set b (.cells vs.toArray Et (0,0))) Φ:=by
 obtain⟨G,cs,ho,hc⟩:=CV;refine Pu h0 ho (by rw[hl,Nat.one_mul]) h1 hb (λp' c' Z' EM he hd=>hΦ p' c' Z' ⟨by simp[G],_,EM,(hc.snoc hl hx).mono hE hd⟩ he) hn
end Tw
end
section
namespace Tw
open Go
variable [GO]
def Drop (R:Rr):Rr:=λe Z'=>∃Z22,Ext Z22 Z'/\R e Z22
theorem Drop.mk {R:Rr}{e:Ending}{Z22 Z':Hp}(h:Ext Z22 Z')(G:R e Z22):Drop R e Z':=⟨Z22,h,G⟩
theorem A7 {Z22 Z':Hp}(h:Ext Z22 Z'){b:Nat}(hb:Z' b=none):Z22 b=none:=by
 cases G:Z22 b with
 | none=>rfl
 | some o=>rw[h _ _ G]at hb;cases hb
theorem Spec.drop {P:Program}{f:FuncId}{args:Array Value}{Z22:Hp}{R:Rr}(h:Spec P f args Z22 (Drop R)):Spec P f args Z22 R:=λw F hs hF=>
 (h w F hs hF).mono λ_ _ ⟨_,⟨ADy,hx,hr⟩,G⟩=>⟨ADy,hr,{ G with sat:=λb o hb=>G.sat b o (hx b o hb),BM:=λb hb=>⟨A7 hx (G.BM b hb).1,(G.BM b hb).2⟩ }⟩
section
variable {P:Program}{T Et ty:TypeId}{bs:Nat}{Z0 Z22:Hp}{p:Option Addr}{n c:Nat}{xs:List Int}{x:Int}{k:IntKind}{Φ:Value->Hp->Prop}
theorem DS.FN [KE P T Et 1 bs](h0:Ext Z0 Z22)(CV:DS k (Z0.new Z22) p n c xs)(hb:(n+1)*bs<=140737488355328)
  (hΦ:∀G c' Z',DS k (Z0.new Z') G (n+1) c' (xs++[x])->Ext Z0 Z'->Ext ((Z0.new Z22).del p) ((Z0.new Z').del G)->Φ (.slice G (n+1) c') Z')
  {b:Nat} (hn:Z22 b=none):AI P (Builtin.append_ #[T,T] ty #[.slice p n c,.slice (some ⟨b,0,none⟩) 1 1]) (Z22.set b (.cells #[.int k x] Et (0,0))) Φ:=
 Pu (ys:=[.int k x]) h0 CV rfl (FL.Pr (xs:=[x])) hb (λG c' Z' ho he hd=>hΦ G c' Z' (by simpa[DS,AkI] using ho) he hd) hn
theorem DS.nil:DS k Z22 none 0 0 []:=BL.nil
end
end Tw
end
section
namespace Tw
open Go
variable [GO]
def over (L:List Value)(j:Nat)(zs:List Value):List Value:=L.take j++zs++L.drop (j+zs.length)
section
variable {P:Program}{T T2 E ty:TypeId}{s bs:Nat}{Z22:Hp}{p q:Option Addr}{n c m d d' j k:Nat}{L cs ys:List Value}{Φ:Value->Hp->Prop}
end
end Tw
end
section
namespace Tw
open Go
variable [GO]
theorem Hp.set_set {Z22:Hp}{b:Nat}{o o':Obj}:(Z22.set b o).set b o'=Z22.set b o':=by
 funext k;simp only[Hp.set];split<;>rfl
theorem bP {O2:Hp}{b:Nat}{o:Obj}(hb:O2 b=none){w:World}{F:Nat->Prop}(hs:Sat (O2.set b o) w)(hF:∀k,F k->k<w.heap.size/\(O2.set b o) k=none):
  Sat O2 w/\∀k,(F k\/k=b)->k<w.heap.size/\O2 k=none:=by
 have hx:Ext O2 (O2.set b o):=.set hb;refine⟨λk u G=>hs k u (hx k u G),λk G=>?_⟩;rcases G with G|rfl
 .exact⟨(hF k G).1,A7 hx (hF k G).2⟩
 .exact⟨(Aj2.1 (hs k o (Hp.AA _ _ _))).1,hb⟩
theorem Spec.AR {P:Program}{f:FuncId}{args:Array Value}{O2:Hp}{b:Nat}{o:Obj}{R:Rr}(hb:O2 b=none)
  (h:Spec P f args O2 (λe G=>G b=none->R e (G.set b o))):Spec P f args (O2.set b o) R:=λw F hs hF=>by
 obtain⟨h1,h2⟩:=bP hb hs hF;refine(h w (λk=>F k\/k=b) h1 h2).mono ?_
 rintro e w' ⟨G,hr,hf⟩
 have hbp:=hf.BM b (.inr rfl);refine⟨G.set b o,hr hbp.1,λk u hk=>?_,λk hk=>?_,hf.os,hf.out,hf.grow⟩
 .by_cases h:k=b
  .subst h;rw[hbp.2];rw[Hp.AA]at hk;cases hk;exact hs k _ (Hp.AA _ _ _)
  .rw[Hp.AB h]at hk;exact hf.sat k u hk
 .have FM:k≠b:=λh=>by have:=(hF k hk).2;rw[h,Hp.AA]at this;cases this
  exact⟨by rw[Hp.AB FM];exact(hf.BM k (.inl hk)).1,(hf.BM k (.inl hk)).2⟩
theorem AI.AR {P:Program}{α:Type}{m:Sem α}{O2:Hp}{b:Nat}{o:Obj}{Φ:α->Hp->Prop}(hb:O2 b=none)
  (h:AI P m O2 (λv G=>G b=none->Φ v (G.set b o))):AI P m (O2.set b o) Φ:=λw F hs hF=>by
 obtain⟨h1,h2⟩:=bP hb hs hF;obtain⟨v,w',G,CG,hr,hf⟩:=h w (λk=>F k\/k=b) h1 h2;have hbp:=hf.BM b (.inr rfl);refine⟨v,w',G.set b o,CG,hr hbp.1,λk u hk=>?_,λk hk=>?_,hf.os,hf.out,hf.grow⟩
 .by_cases h:k=b
  .subst h;rw[hbp.2];rw[Hp.AA]at hk;cases hk;exact hs k _ (Hp.AA _ _ _)
  .rw[Hp.AB h]at hk;exact hf.sat k u hk
 .have FM:k≠b:=λh=>by have:=(hF k hk).2;rw[h,Hp.AA]at this;cases this
  exact⟨by rw[Hp.AB FM];exact(hf.BM k (.inl hk)).1,(hf.BM k (.inl hk)).2⟩
section rows
variable {α:Type}{s:Nat}{E:Hp->List Value->α->Prop}{Z22:Hp}{cs ds:List Value}{xs ys:List α}
theorem Ch.take (h:Ch s E Z22 cs xs)(i:Nat):Ch s E Z22 (cs.take (i*s)) (xs.take i):=by
 refine⟨?_,λk x G=>?_⟩
 .rw[AkA,AkA,h.1,Nat.min_def,Nat.min_def];by_cases hi:i<=xs.length
  .rw[Ajl hi,Ajl (AkZ s hi)]
  .rw[Ajj hi];split
   .exact Nat.le_antisymm (by assumption) (AkZ s (by omega))
   .rfl
 .rw[AkE]at G;split at G
  .rename_i hk;have hle:k*s+s<=i*s:=by rw[<-Ale];exact AkZ s hk
   rw[List.drop_take,Am2,Alz (by omega)];exact h.2 k x G
  .cases G
theorem Ch.drop (h:Ch s E Z22 cs xs)(i:Nat):Ch s E Z22 (cs.drop (i*s)) (xs.drop i):=by
 refine⟨by rw[Aj6,Aj6,h.1,Nat.sub_mul],λk x G=>?_⟩;rw[AkL]at G;rw[Am4,<-Akw];exact h.2 _ x G
theorem Ch.append (h:Ch s E Z22 cs xs)(g:Ch s E Z22 ds ys):Ch s E Z22 (cs++ds) (xs++ys):=by
 refine⟨by rw[Ajr,Ajr,h.1,g.1,Akw],λk x hx=>?_⟩;rw[Ak5]at hx;split at hx
 .rename_i hk;have G:k*s+s<=cs.length:=by rw[h.1,<-Ale];exact AkZ s hk
  rw[AmY (by omega),AmZ (by simp;omega)];exact h.2 k x hx
 .rename_i hk;have G:cs.length<=k*s:=by rw[h.1];exact AkZ s (by omega)
  have:=g.2 (k-xs.length) x hx;rw[Nat.sub_mul,<-h.1]at this;rw[List.drop_append];have e:List.drop (k*s) cs=[]:=AkF G;rw[e,Akp];exact this
theorem Ch.uY (hE:∀Z22 vs x,E Z22 vs x->FL vs)(h:Ch s E Z22 cs xs)(hs:0<s):FL cs:=λu hu=>by
 obtain⟨t,ht,rfl⟩:=AmM.1 hu;have Ax:t/s<xs.length:=by rw[AmI hs,<-h.1];exact ht
 have:=h.2 (t/s) _ (Ajs Ax);refine hE _ _ _ this _ ?_;have hm:=Al4 t hs;have G:=Nat.div_add_mod t s;rw[Nat.mul_comm]at G;refine AkW.2 ⟨t%s,?_⟩;rw[AkE,Ajl hm,AkL,G];exact Ajs ht
end rows
section
variable {P:Program}{T E ty:TypeId}{s bs:Nat}{Z22:Hp}{p q:Option Addr}{n c m d:Nat}{L ys:List Value}{Φ:Value->Hp->Prop}
end
end Tw
end
section
namespace Tw
open Go
variable [GO]
def Jf (P:Program)(l:Nat)(args:Array Value)(Z22:Hp)(R:Rr):Prop:=
 ∀(w:World) (F:Nat->Prop),Sat Z22 w->(∀b,F b->b<w.heap.size/\Z22 b=none)->
  ∃fn tmps assign body,(Instr.yield l args).run P w=.ok (.round l fn tmps assign body) w/\RoundIn Fence.wide 0 P l fn tmps assign body w (λe G=>∃Z',R e Z'/\Fin Z' F w G)
theorem Jf.mono {P:Program}{l:Nat}{args:Array Value}{Z22:Hp}{R G:Rr}(h:Jf P l args Z22 R)(hr:∀e Z',R e Z'->G e Z'):Jf P l args Z22 G:=λw F hs hF=>
 let ⟨fn,tmps,assign,body,h1,h2⟩:=h w F hs hF
 ⟨fn,tmps,assign,body,h1,h2.mono λ_ _ ⟨Z',h3,h4⟩=>⟨Z',hr _ _ h3,h4⟩⟩
section
variable {g:Gl}{ops:Array Oper}{i:Nat}{e:Env}{bx:Bx}{Z22:Hp}{K:Env->Bx->Hp->Prop}{d:Option Nat}{ty:TypeId}{gd:Option (Nat×Bool)}
theorem AW.yield {x:Operand}{xs:Array Operand}{ts:Array TypeId}{l:Nat}{vs:Array Value}{u:Value}(hs:sig ops i=some (d,.call { callee:=.value x,args:=xs,argTypes:=ts },ty,gd))(hw:Ac ops e gd=true)(hd:HD d g.n=true)
  (hx:AD e x=u) (IL:xs.toList.map (AD e)=vs.toList) (hu:u=.func (.yield l) #[] #[])
  (h:Jf g.P l vs Z22 (AY g.R λv Z'=>K (put e d v) bx Z')):AW g ops i e bx Z22 K:=by
 intro w0 F a w st;obtain⟨o,ho,rfl,B6,Di,rfl⟩:=Bg hs;refine Ct ho (by rw[st.wanted];exact hw) ?_;obtain⟨fn,tmps,assign,body,hy,AJQ⟩:=h w _ st.sat st.lt;have AJR:xs.map (AD e)=vs:=by rw[<-AkD];simpa using IL
 have CG:(execOp (AD e) o).run g.P w=.ok (.round l fn tmps assign body) w:=by
  simp only[execOp,B6,resolve,hx.trans hu,AJR,Deferred.ofValue,invoke,bind,Sem.bind,pure,Amd];exact hy
 rw[st.eval,Dh CG (λd=>by simp)];refine⟨λhh=>(by cases hh),RoundIn.mono (show RoundIn (wd g.IQ) (0-1) g.P l fn tmps assign body w _ from⟨trivial,AJQ.2⟩) λen w'=>?_⟩
 rintro⟨Z',G,hf⟩
 have HC:=st.fin hf;cases en with
 | returned v=>exact⟨_,_,_,HC.put _ _ (HD.lt hd),G⟩
 | panicked ch=>
  rcases g.pan with ⟨h1,h2⟩|Ab
  .exact⟨⟨h1,HC.defers.trans h2⟩,Z',G,HC.toFin⟩
  .exact absurd G (Ab ch Z')
 | outgrown=>exact G.elim
end
def NP (R:Rr):Rr:=λe Z22=>match e with | .returned v=>R (.returned v) Z22 | _=>False
abbrev Gl.round (P:Program)(f:FuncId)(n:Nat)(l:Nat)(R:Rr):Gl:=⟨P,f,n,NP R,some l,[],.inr λ_ _ h=>h⟩
abbrev Gl.behind (P:Program)(f:FuncId)(n:Nat)(D:Nat)(R:Rr):Gl:=⟨P,f,n,NP R,none,[{ target:=.collected D,args:=#[] }],.inr λ_ _ h=>h⟩
theorem yj {D:Nat}{Z22:Hp}(h:Z22 D=some (.deferred (some []))):Marks [{ target:=.collected D,args:=#[] }] Z22:=⟨D,rfl,h,trivial⟩
theorem Jf.Vx {P:Program}{l n p:Nat}{r:Loop}{Z22:Hp}{R:Rr}{v:Value}{fn:Func}{e:Env}{s:LoopState}{c:Option Code}(hσ:Z22 l=some (.loop (lp r s c)))(hp:r.params=#[p])(hn:r.tmps.size=n)(hpn:p<n)(he:∀t,r.tmps.getD t undef=e t)(Vu:P.funcs[r.fn]?=some fn)
  (h:At (Gl.round P r.fn n l R) [.code r.assign,.beginRound,.code r.body] (upd e p v) [] Z22):Jf P l #[v] Z22 R:=by
 intro w F hs hF;refine⟨r.fn,_,r.assign,r.body,run_yield (r:=lp r s c) (hs _ _ hσ) (by simp[lp,hp]),trivial,λc0 cs _=>?_⟩;have ht:(r.params.zip #[v]).foldl (λt (p,v)=>t.setIfInBounds p v) r.tmps=r.tmps.setIfInBounds p v:=by
  simp[hp]
 have st:St n [] w F (upd e p v) [] Z22 { tmps:=r.tmps.setIfInBounds p v,defers:=[] } w:=by
  refine⟨by simp[hn],λt=>?_,rfl,hs,(λp hp=>by cases hp),(λp hp=>by cases hp),Ak9,λb hb=>⟨(hF b hb).1,(hF b hb).2,rfl⟩,.same rfl rfl rfl,rfl,Ajt _⟩;simp only[upd];by_cases G:t=p
  .subst G;simp[hn,hpn]
  .rw[nC G,<-he t];simp[Alg (Aj4 G)]
 let b:Frame:={ (default:Frame) with fn:=r.fn,kind:=.normal,roundOf:=some l }
 have xq:Frame.round l r.fn (r.tmps.setIfInBounds p v) r.assign r.body .normal=b.atR { tmps:=r.tmps.setIfInBounds p v,defers:=[] } [.code r.assign,.beginRound,.code r.body]:=by
  simp[Frame.round,Frame.atR,b]
 obtain⟨v',w',⟨Z',hr,Vw⟩,CA⟩:=h w F _ w st b (c0::cs) rfl rfl rfl ⟨fn,Vu⟩ c0 cs rfl;refine⟨.returned v',w',⟨Z',hr,Vw⟩,?_⟩;have CA:=(stepsIn_wide (P:=P)).2 CA;rw[<-xq,<-ht]at CA;exact CA
section
variable {g:Gl}{k:List Item}{e:Env}{bx:Bx}{Z22:Hp}
theorem Hp.yk {Z22:Hp}{b c:Nat}{o:Obj}(h:c≠b)(G:Z22 c=none):(Z22.set b o) c=none:=by rw[Hp.AB h];exact G
theorem St.alloc {n ds w0 F e bx Z22 a w}(st:St n ds w0 F e bx Z22 a w)(o:Obj):Z22 w.heap.size=none/\St n ds w0 F e bx (Z22.set w.heap.size o) a (w.alloc o):=by
 have h:=st.grown o;exact⟨(h.free _ (Aj5 ..)).1,h.open⟩
theorem At.ym {c:Code}{gop:Operand}{ps:Array Tmp}{assign body:Code}{gf:Nat}{fst lb:Array Value}(hc:c=.rangeFunc gop ps assign body)(hr:g.IQ=none)(hds:g.ds=[])
  (hg:AD e gop=.func (.func gf) fst lb) (KQ:Enters g.P gf)
  (h:∀(D l:Nat) (r:Loop),D≠l->Z22 D=none->Z22 l=none->r.fn=g.f->r.params=ps->r.assign=assign->r.body=body->r.tmps.size=g.n->(∀t,r.tmps.getD t undef=e t)->
   Spec g.P gf (fst++#[.func (.yield l) #[] #[]]++lb) ((Z22.set D (.deferred (some []))).set l (.loop (lp r .ready none)))
    (λen Z'=>∃v s p,en=.returned v/\Z' l=some (.loop (lp r s p))/\s≠.busy/\
     At (Gl.behind g.P g.f g.n D g.R) ((p.map Item.code).toList++k) e bx (Z'.set l (.loop (lp r .exhausted p))))):At g (.code c::k) e bx Z22:=by
 subst hc;intro w0 F a w st b cs gw uS rJ Vu;have hbn:b.roundOf=none:=rJ.trans hr;obtain⟨hD,st1⟩:=st.alloc (.deferred (some []))
 let r:Loop:={ state:=.ready,pending:=none,fn:=b.fn,tmps:=a.tmps,params:=ps,assign,body,defers:=w.heap.size }
 obtain⟨hl,st2⟩:=st1.alloc (.loop r);have KD:(w.alloc (.deferred (some []))).heap.size=w.heap.size+1:=World.size_alloc ..;rw[KD]at hl st2;have nE:=run_enterLoop_outer (P:=g.P) (w:=w) b.fn a.tmps ps assign body;have AXY:(resolve a.eval (rangeCall gop (w.heap.size+1)) 0).run g.P ((w.alloc (.deferred (some []))).alloc (.loop r))=.ok { target:=.fn (.func gf) lb,args:=fst++#[.func (.yield (w.heap.size+1)) #[] #[]] } ((w.alloc (.deferred (some []))).alloc (.loop r)):=by
  rw[st.eval];simp only[resolve,hg];simp[AD,Deferred.ofValue]
 have hinv:(invoke (.fn (.func gf) lb) (fst++#[.func (.yield (w.heap.size+1)) #[] #[]])).run g.P ((w.alloc (.deferred (some []))).alloc (.loop r))=.ok (.enter gf (fst++#[.func (.yield (w.heap.size+1)) #[] #[]]++lb)) ((w.alloc (.deferred (some []))).alloc (.loop r)):=by
  exact KQ _ _
 have MH:=stepR_rangeFunc (P:=g.P) (b:=b) (a:=a) (k:=k) (cs:=cs) (w:=w) (by rw[hbn];exact nE) AXY hinv;have yn:Z22 (w.heap.size+1)=none:=by rw[Hp.AB (by omega)]at hl;exact hl
 have AOa:=h w.heap.size (w.heap.size+1) r (by omega) hD yn gw rfl rfl rfl st.size st.env;obtain⟨en,w3,fr,⟨Z',⟨v,s,p,he,AJS,hsb,hat⟩,Vw⟩,AJU,AfQ,AJV⟩:=AOa _ _ st2.sat st2.lt (b.atR { a with defers:=[{ target:=.collected w.heap.size,args:=#[] }]++a.defers } (.inRangeFunc (w.heap.size+1)::k)::cs);subst he;have G:=st2.fin Vw;have iU:=run_endLoop (P:=g.P) (G.sat _ _ AJS) (by simpa[lp] using hsb);have Pv:=G.toFin.put (o':=.loop (lp r .exhausted p)) AJS;have Av:∀q∈bx,q.1≠w.heap.size+1:=λq hq e=>by have:=(G.free q hq).1;rw[e,AJS]at this;cases this
 have st4:St g.n [{ target:=.collected w.heap.size,args:=#[] }] w0 F e bx (Z'.set (w.heap.size+1) (.loop (lp r .exhausted p))) { a with defers:=[{ target:=.collected w.heap.size,args:=#[] }]++a.defers } (w3.putObj (w.heap.size+1) (.loop (lp r .exhausted p))):=
  { size:=st.size,env:=st.env,defers:=by rw[show a.defers=[] from st.defers.trans hds];rfl,sat:=Pv.sat,box:=λq hq=>by rw[World.putObj_heap_other (Av q hq)];exact G.box q hq,free:=λq hq=>⟨Hp.yk (Av q hq) (G.free q hq).1,(G.free q hq).2⟩,nodup:=st.nodup,BM:=λb hb=>⟨(st.BM b hb).1,(Pv.BM b hb).1,(Pv.BM b hb).2⟩,os:=Pv.os,out:=Pv.out,grow:=Pv.grow }
 have AJW:=hat w0 F _ _ st4 b cs gw uS hbn Vu;have AGz:=step_leave_returned (P:=g.P) (c:=b.atR { a with defers:=[{ target:=.collected w.heap.size,args:=#[] }]++a.defers } (.inRangeFunc (w.heap.size+1)::k)) (cs:=cs) AJV;rw[finish_atR_inRangeFunc]at AGz;have AJX:=(Steps.one MH).trans (Steps.trans AJU ((Steps.one AGz).trans (.one (stepR_endRangeFunc (k:=k) iU))));obtain⟨e',w',fr',⟨Z2,hR,hf2⟩,aK,hx⟩:=AJW;unfold Rt;rw[hr];refine⟨e',w',fr',⟨Z2,?_,hf2⟩,.of_steps AJX aK,hx⟩;cases e' with
 | returned v=>exact hR
 | _=>exact hR.elim
theorem At.range {c:Code}{gop:Operand}{ps:Array Tmp}{assign body:Code}{gf:Nat}{lb:Array Value}(hc:c=.rangeFunc gop ps assign body)(hr:g.IQ=none)(G:g.ds=[])
 (hg:AD e gop=.func (.func gf) #[] lb) (KQ:Enters g.P gf)
 (h:∀(D l:Nat) (r:Loop),D≠l->Z22 D=none->Z22 l=none->r.fn=g.f->r.params=ps->r.assign=assign->r.body=body->r.tmps.size=g.n->(∀t,r.tmps.getD t undef=e t)->
  Spec g.P gf (#[.func (.yield l) #[] #[]]++lb) ((Z22.set D (.deferred (some []))).set l (.loop (lp r .ready none)))
   (λen Z'=>∃v s p,en=.returned v/\Z' l=some (.loop (lp r s p))/\s≠.busy/\
    At (Gl.behind g.P g.f g.n D g.R) ((p.map Item.code).toList++k) e bx (Z'.set l (.loop (lp r .exhausted p))))):At g (.code c::k) e bx Z22:=At.ym (fst:=#[]) hc hr G hg KQ (by simpa only[Amd] using h)
end
end Tw
end
section
namespace Tw
open Go Go.RowKit Go.ChangeShapes Go.WideShapes Go.Deep
def full (w:World):Hp:=λb=>w.heap[b]?
theorem yo (w:World):Sat (full w) w:=λ_ _ h=>h
theorem VX {w:World}{a:Addr}{v:Value}(h:w.cell? a=some v):(full w).ld a=some v:=h
theorem yp {w G:World}{Z':Hp}(hx:Ext (full w) Z')(hs:Sat Z' G)(ho:Bl w G)(AXa:G.output=w.output)(hg:w.heap.size<=G.heap.size):Below w.heap.size w G:=
 ⟨ho.1,ho.2.1,AXa,hg,λk hk=>by
  have h1:w.heap[k]?=some w.heap[k]:=AlD hk;rw[h1];exact hs _ _ (hx _ _ h1)⟩
def Lawful (P:Program)(f:FuncId)(args:Array Value)(w:World):Prop:=Spec P f args (full w) (λe Z'=>e=.returned (.bool true)/\Ext (full w) Z')
theorem Lawful.calls {P:Program}{f:FuncId}{args:Array Value}{w:World}(h:Lawful P f args w):Calls P f args w λe w'=>e=.returned (.bool true)/\Below w.heap.size w w':=
 (h w (λ_=>False) (yo w) (λ_ h=>h.elim)).mono λe w' ⟨Z',⟨he,hx⟩,G⟩=>⟨he,yp hx G.sat G.os G.out G.grow⟩
section
variable {H:Type}{enc:TypeId×Value->H}{P:Program}
theorem Qm (hl:laidOutB P=true){W W':World}(hb:Below W.heap.size W W'):∀{ts:List TypeId} {vs:List Value} {ds:List (DataW H)} {ps:List MemPlace},(ts.all λt=>P.readableRec t&&Nat.blt t P.types.size)=true->(∀x∈ps,x.block<W.heap.size)->
  DataW.TrodAll enc P W 0 (λ_=>true) true ts vs ds ps->DataW.TrodAll enc P W' 0 (λb=>decide (b<W.heap.size)) true ts vs ds ps
 | [],[],[],ps,_,_,h=>h
 | t::ts,v::vs,d::ds,ps,G,Ax,⟨p,q,h1,h2,e⟩=>by
  simp only[AmD,Ajz]at G;subst e;exact⟨p,q,Below.trod hl G.1.1 (Akd G.1.2) h1 hb (λx hx=>Ax x (Aky _ hx)),Qm hl hb G.2 (λx hx=>Ax x (AlX _ hx)) h2,rfl⟩
 | [],_::_,_,_,_,_,h=>h.elim
 | [],[],_::_,_,_,_,h=>h.elim
 | _::_,[],_,_,_,_,h=>h.elim
 | _::_,_::_,[],_,_,_,h=>h.elim
theorem yq {f:Func}{s:ChangeSpec}{W W':World}{args:Array Value}{ds gs:List (DataW H)}{G:List MemPlace}{tb:TypeId}(hl:laidOutB P=true)(hr:(f.params.toList.all λt=>P.readableRec t&&Nat.blt t P.types.size)=true)
  (hrt:f.resultTypes=#[tb]) (htb:P.underlying tb=some .bool) (hv:s.vars=[]) (Vu:(s.fn H (ds++gs)).results=[.lit (.bool true)]/\(s.fn H (ds++gs)).args=ds/\(s.fn H (ds++gs)).vars=[])
  (hW:DataW.Whole enc P f.params.toList s.vars false W args.toList ds gs G) (hb:Below W.heap.size W W'):s.post enc P f false true false false W args (.bool true) W':=by
 have Ax:∀p∈G,p.block<W.heap.size:=λp hp=>hW.lt p hp;have hW':=hW;obtain⟨p,q,hA,hV,rfl,hfz,_⟩:=hW';refine⟨ds,gs,p++q,[],p,[],hW,?_,?_,?_,World.keptBut_mono (λx hx=>⟨hx,?_⟩) (hb.frame (·∈p++q)),λh=>by cases h⟩
 .rw[Vu.1,hrt];exact trodAll_mk1 (shut_bool htb true)
 .rw[Vu.2.1];exact Qm hl hb hr (λx hx=>Ax x (Aky _ hx)) hA
 .rw[Vu.2.2,hv];rfl
 .rw[hv]at hV;have:q=[]:=by
   cases gs with
   | nil=>exact hV
   | cons _ _=>exact hV.elim
  subst this;exact .inr (.inl (by simpa using hx))
theorem A2.snoc {Z22:Hp}{b:Nat}:∀{l m:List Value} {o:Nat},A2 Z22 b o l->A2 Z22 b (o+l.length) m->A2 Z22 b o (l++m)
 | [],m,o,_,h=>by simpa using h
 | v::l,m,o,h,G=>⟨h.1,A2.snoc h.2 (by simpa[AnB,Nat.add_comm 1] using G)⟩
theorem bQ {w:World}{a:Addr}{v:Value}(h:w.cell? a=some v):a.spot=none:=by
 unfold World.cell? at h;split at h
 .split at h
  .cases h
  .rename_i G;simpa using G
 .cases h
end
end Tw
end
section
namespace Tw
open Go
variable [GO]
def qv (P:Program)(ops:Array Oper)(i:Nat)(e:Env):Option (Option Nat×Value):=
 match ops[i]? with
 | none=>none
 | some o=>match Ac ops e o.guard with
  | false=>none
  | true=>match o.op with
   | .move x=>some (o.dst,AD e x)
   | .assign x=>some (o.dst,AD e x)
   | .pick z x y=>(match AD e z with
    | .bool true=>some (o.dst,AD e x)
    | .bool false=>some (o.dst,AD e y)
    | _=>none)
   | .extract x j=>(match AD e x with
    | .tuple vs=>(match vs[j]? with | some v=>some (o.dst,v) | none=>none)
    | _=>none)
   | .unOp u _ x=>(match u,AD e x with
    | .not,.bool b=>some (o.dst,.bool (!b))
    | _,_=>none)
   | .binOp b _ x y _=>(match AD e x,AD e y with
    | .int k a,.int k' c=>(match decide (k=k') with
     | false=>none
     | true=>(match b with
      | .lss=>some (o.dst,.bool (decide (a<c)))
      | .leq=>some (o.dst,.bool (decide (a<=c)))
      | .gtr=>some (o.dst,.bool (decide (c<a)))
      | .geq=>some (o.dst,.bool (decide (c<=a)))
      | .eql=>some (o.dst,.bool (decide (a=c)))
      | .neq=>some (o.dst,.bool (decide (a≠c)))
      | _=>none))
    | _,_=>none)
   | _=>none
theorem AG0 {P:Program}{ops:Array Oper}{i:Nat}{e:Env}{bx:Bx}{d:Option Nat}{v:Value}(h:qv P ops i e=some (d,v)):
  ∃o,ops[i]?=some o/\Ac ops e o.guard=true/\o.dst=d/\∀Z22,Yd P e bx Z22 o.op o.type v:=by
 unfold qv at h;cases ho:ops[i]? with
 | none=>simp[ho]at h
 | some o=>
  simp only[ho]at h;cases hw:Ac ops e o.guard with
  | false=>simp[hw]at h
  | true=>
   simp only[hw]at h;refine⟨o,rfl,hw,?_⟩;cases Mr:o.op<;>simp only[Mr]at h<;>try (cases h;done)
   case move x=>cases h;exact⟨rfl,λZ22=>Y.move rfl⟩
   case assign x=>cases h;exact⟨rfl,λZ22=>Y.assign rfl⟩
   case pick z x y=>
    split at h
    .rename_i hz;cases h;exact⟨rfl,λZ22=>Y.AGv hz rfl⟩
    .rename_i hz;cases h;exact⟨rfl,λZ22=>Y.AGw hz rfl⟩
    .cases h
   case extract x j=>
    split at h
    .rename_i vs G;split at h
     .rename_i u hu;cases h;exact⟨rfl,λZ22=>Y.extract G hu⟩
     .cases h
    .cases h
   case unOp u T x=>
    split at h
    .rename_i b G;cases h;exact⟨rfl,λZ22=>Y.not G⟩
    .cases h
   case binOp b T x y T'=>
    split at h
    .rename_i k a k' c G hy;split at h
     .cases h
     .rename_i hk;have hk:=Ajx hk;subst hk;cases b<;>simp only at h<;>cases h
      .exact⟨rfl,λZ22=>Y.eql G hy⟩
      .exact⟨rfl,λZ22=>Y.neq G hy⟩
      .exact⟨rfl,λZ22=>Y.lss G hy⟩
      .exact⟨rfl,λZ22=>Y.leq G hy⟩
      .exact⟨rfl,λZ22=>Y.gtr G hy⟩
      .exact⟨rfl,λZ22=>Y.geq G hy⟩
    .cases h
def nv (ops:Array Oper)(i:Nat)(e:Env):Option (Option Nat):=
 match ops[i]? with
 | none=>none
 | some o=>match Ac ops e o.guard with
  | true=>none
  | false=>some o.dst
theorem AOc {ops:Array Oper}{i:Nat}{e:Env}{d:Option Nat}(h:nv ops i e=some d):∃o,ops[i]?=some o/\Ac ops e o.guard=false/\o.dst=d:=by
 unfold nv at h;cases ho:ops[i]? with
 | none=>simp[ho]at h
 | some o=>
  simp only[ho]at h;cases G:Ac ops e o.guard with
  | true=>simp[G]at h
  | false=>simp only[G]at h;cases h;exact⟨o,rfl,G,rfl⟩
theorem EC {ops:Array Oper}{i:Nat}{o:Oper}(h:ops[i]?=some o):sig ops i=some (o.dst,o.op,o.type,o.guard):=by simp[sig,h]
section
variable {g:Gl}{ops:Array Oper}{q:KB}{i:Nat}{is:List Nat}{r:List (Nat×Bool)}{e:Env}{bx:Bx}{Z22:Hp}{K:Env->Bx->Hp->Prop}{k:List Item}{c:Code}
theorem Seq.u (d:Nat)(v:Value)(h:Seq g ops is (put e (some d) v) bx Z22 K)(hq:qv g.P ops i e=some (some d,v):=by kernel_rfl)(hd:Nat.blt d g.n=true:=by rfl):Seq g ops (i::is) e bx Z22 K:=by
 obtain⟨o,ho,hw,M6,hy⟩:=AG0 (bx:=bx) hq;have G:=EC ho;rw[M6]at G;exact Seq.yg G hw hd (hy Z22) h
def AOd (e:Env):List (Nat×Value)->Env
 | []=>e
 | (d,v)::l=>AOd (put e (some d) v) l
def Qs (P:Program)(ops:Array Oper):List Nat->List (Nat×Value)->Env->List (Option (Option Nat×Value))
 | _,[],_=>[]
 | i::is,(d,v)::l,e=>qv P ops i e::Qs P ops is l (put e (some d) v)
 | [],_::_,_=>[none]
theorem Seq.us (l:List (Nat×Value))(h:Seq g ops (is.drop l.length) (AOd e l) bx Z22 K)(G:Qs g.P ops is l e=l.map (λp=>some (some p.1,p.2)):=by kernel_rfl)(hd:(l.all λp=>Nat.blt p.1 g.n)=true:=by rfl):Seq g ops is e bx Z22 K:=by
 induction l generalizing is e with
 | nil=>exact h
 | cons p l ih=>
  obtain⟨d,v⟩:=p;cases is with
  | nil=>simp[Qs]at G
  | cons i is=>
   simp only[Qs,AkR,Ali]at G;simp only[AmD,Ajz]at hd;exact Seq.u d v (ih h G.2 hd.2) G.1 hd.1
theorem Head.u (d:Nat)(v:Value)(h:Head g ops q r (put e (some d) v) bx Z22 K)(hq:qv g.P ops i e=some (some d,v):=by kernel_rfl)(hd:Nat.blt d g.n=true:=by rfl)(Aa:q.ok i=true:=by rfl):Head g ops q ((i,true)::r) e bx Z22 K:=by
 obtain⟨o,ho,hw,M6,hy⟩:=AG0 (bx:=bx) hq;have G:=EC ho;rw[M6]at G;exact Head.yg G hw hd (hy _) h Aa
theorem Seq.n (d:Nat)(h:Seq g ops is (put e (some d) undef) bx Z22 K)(hn:nv ops i e=some (some d):=by kernel_rfl)(hd:Nat.blt d g.n=true:=by rfl):Seq g ops (i::is) e bx Z22 K:=by
 obtain⟨o,ho,hw,M6⟩:=AOc hn;have G:=EC ho;rw[M6]at G;exact Seq.no G hw hd h
theorem Head.n (d:Nat)(h:Head g ops q r (put e (some d) undef) bx Z22 K)(hn:nv ops i e=some (some d):=by kernel_rfl)(hd:Nat.blt d g.n=true:=by rfl)(Aa:q.ok i=true:=by rfl):Head g ops q ((i,true)::r) e bx Z22 K:=by
 obtain⟨o,ho,hw,M6⟩:=AOc hn;have G:=EC ho;rw[M6]at G;exact Head.no G hw hd h Aa
theorem Seq.z (d:Nat)(op:Op)(ty:TypeId)(v:Value)(hy:Yd g.P e bx Z22 op ty v)(h:Seq g ops is (put e (some d) v) bx Z22 K)(G:sig ops i=some (some d,op,ty,none):=by kernel_rfl)(hd:Nat.blt d g.n=true:=by rfl):Seq g ops (i::is) e bx Z22 K:=Seq.y G hd hy h
theorem Head.z (d:Nat)(op:Op)(ty:TypeId)(v:Value)(hy:Yd g.P e bx (KM q none Z22) op ty v)(h:Head g ops q r (put e (some d) v) bx Z22 K)(hs:sig ops i=some (some d,op,ty,none):=by kernel_rfl)(hd:Nat.blt d g.n=true:=by rfl)(G:q.ok i=true:=by rfl):Head g ops q ((i,true)::r) e bx Z22 K:=Head.y hs hd hy h G
theorem Head.zg (d:Nat)(op:Op)(ty:TypeId)(gd:Nat×Bool)(v:Value)(hy:Yd g.P e bx (KM q none Z22) op ty v)(h:Head g ops q r (put e (some d) v) bx Z22 K)(hs:sig ops i=some (some d,op,ty,some gd):=by kernel_rfl)(hw:Ac ops e (some gd)=true:=by rfl)(hd:Nat.blt d g.n=true:=by rfl)(G:q.ok i=true:=by rfl):Head g ops q ((i,true)::r) e bx Z22 K:=Head.yg hs hw hd hy h G
theorem eE:∀{l:List (Nat×Value)},l.map (λp=>e p.1)=l.map (·.2)->Live e l
 | [],_=>trivial
 | (t,v)::l,h=>by
  simp only[AkR,Ali]at h;exact⟨h.1,eE h.2⟩
theorem At.L (l:List (Nat×Value))(h:∀J,At g k (Mf J l) bx Z22)(G:l.map (λp=>e p.1)=l.map (·.2):=by kernel_rfl):At g k e bx Z22:=At.ofL (eE G) h
theorem At.v (l:List (Nat×Value))(h:At g k (Mf e l) bx Z22)(G:l.map (λp=>e p.1)=l.map (·.2):=by kernel_rfl):At g k e bx Z22:=At.live (eE G) h
theorem At.rg (id:Nat)(l:List Nat)(h:Seq g (cO c) l e bx Z22 (λe bx Z22=>At g k e bx Z22))(G:c=.region id (cO c) false:=by kernel_rfl)(hl:List.range (cO c).size=l:=by kernel_rfl):At g (.code c::k) e bx Z22:=At.region G hl h
theorem At.s (x y:Code)(h:At g (.code x::.code y::k) e bx Z22)(G:c=.seq x y:=by kernel_rfl):At g (.code c::k) e bx Z22:=At.seq G h
theorem At.cT (t:Nat)(y z:Code)(h:At g (.code y::k) e bx Z22)(G:c=.cond (.tmp t) y z:=by kernel_rfl)(hx:AD e (.tmp t)=.bool true:=by rfl):At g (.code c::k) e bx Z22:=At.AGr G hx h
theorem At.cF (t:Nat)(y z:Code)(h:At g (.code z::k) e bx Z22)(G:c=.cond (.tmp t) y z:=by kernel_rfl)(hx:AD e (.tmp t)=.bool false:=by rfl):At g (.code c::k) e bx Z22:=At.AGs G hx h
theorem At.x (i:Nat)(k':List Item)(h:At g k' e bx Z22)(G:c=.exit i:=by kernel_rfl)(hk:exitTo i k=some k':=by kernel_rfl):At g (.code c::k) e bx Z22:=At.exit G hk h
theorem At.b (i:Nat)(x:Code)(h:At g (.code x::.inBlock i::k) e bx Z22)(G:c=.block i x:=by kernel_rfl):At g (.code c::k) e bx Z22:=At.block G h
theorem At.rt {fn:Func}(rs:List ResultVar)(vs:List Value)(hf:g.P.funcs[g.f]?=some fn)(h:Jb g.P e bx (left g.ds Z22) rs vs)(hR:g.R (.returned (V1 vs)) (left g.ds Z22))
 (hc:c=Code.ret:=by kernel_rfl) (hr:fn.results=rs.toArray:=by kernel_rfl) (G:g.IQ=none:=by rfl) (hm:Marks g.ds Z22:=by trivial):At g (.code c::k) e bx Z22:=At.eB hc hf hr h hR G hm
def cv (ops:Array Oper)(i:Nat)(e:Env):Option (Option Nat×FuncId×Array Value):=
 match ops[i]? with
 | none=>none
 | some o=>match Ac ops e o.guard with
  | false=>none
  | true=>match o.op with
   | .call c=>(match c.callee with
    | .value x=>(match AD e x with
     | .func fn fst cap=>(match fn with
      | .func f=>some (o.dst,f,(fst.toList++(c.args.toList.map (AD e)++cap.toList)).toArray)
      | _=>none)
     | _=>none)
    | _=>none)
   | _=>none
theorem AW.cl {f:FuncId}{args:Array Value}(d:Option Nat)(AOe:∀args w,(callFunc f args).run g.P w=.ok (.enter f args) w)(h:Spec g.P f args Z22 (AY g.R λv Z'=>K (put e d v) bx Z'))
  (G:cv ops i e=some (d,f,args):=by kernel_rfl) (hd:HD d g.n=true:=by rfl):AW g ops i e bx Z22 K:=by
 unfold cv at G;cases ho:ops[i]? with
 | none=>simp[ho]at G
 | some o=>
  simp only[ho]at G;cases hw:Ac ops e o.guard with
  | false=>simp[hw]at G
  | true=>
   simp only[hw]at G;cases Mr:o.op<;>simp only[Mr]at G<;>try cases G
   rename_i c;split at G
   .rename_i x AOf;split at G
    .rename_i fn fst cap hx;split at G
     .rename_i f';simp only[Ajv,Akh]at G;obtain⟨rfl,rfl,ha⟩:=G;refine AW.call (EC ho) hw hd (λo' EM _ w=>?_) h;obtain⟨callee,xs,ts⟩:=c;simp only at AOf;subst AOf;refine TH (x:=x) (xs:=xs) (ts:=ts) (fst:=fst) (cap:=cap) (vs:=(xs.toList.map (AD e)).toArray) AOe hx (by simp) ?_ o' (by rw[EM,Mr]) w;rw[<-ha,<-AkD];simp
     .cases G
    .cases G
   .cases G
end
end Tw
end
section
namespace Tw
open Go
variable [GO]
section
variable {g:Gl}{ops:Array Oper}{i:Nat}{e:Env}{bx:Bx}{Z22:Hp}{K:Env->Bx->Hp->Prop}{k:List Item}{c x:Code}{d:Option Nat}{gd:Option (Nat×Bool)}{ty:TypeId}
theorem iV {P:Program}{b:Frame}{a:Act}{k:List Item}{cs:List Frame}{w:World}{c:Code}:step P (lone (b.atR a (.code (.scope c)::k)) cs w)=.next (lone (b.atR a (.code c::.inScope c::k)) cs w):=rfl
theorem aU {P:Program}{b:Frame}{a:Act}{k:List Item}{cs:List Frame}{w:World}{c:Code}:step P (lone (b.atR a (.inScope c::k)) cs w)=.next (lone (b.atR a k) cs w):=rfl
theorem At.scope (G:c=Code.scope x)(h:At g (.code x::.inScope x::k) e bx Z22):At g (.code c::k) e bx Z22:=
 G▸λw0 F a w st=>.step (λ_ _ _=>iV) (h w0 F a w st)
theorem At.inScope (h:At g k e bx Z22):At g (.inScope x::k) e bx Z22:=λG F a w st=>.step (λ_ _ _=>aU) (h G F a w st)
theorem AW.panic {x:Operand}{T:TypeId}{v:Value}(hs:sig ops i=some (d,.panic x,ty,gd))(hw:Ac ops e gd=true)(hx:AD e x=.iface T v)(h1:g.IQ=none)(h2:g.ds=[])
  (h:g.R (.panicked [{ v:=.iface T v,recovered:=false }]) Z22):AW g ops i e bx Z22 K:=by
 intro w0 F a w st;obtain⟨o,ho,rfl,G,Di,rfl⟩:=Bg hs;refine Ct ho (by rw[st.wanted];exact hw) ?_;rw[st.eval];have CG:(o.semAt g.IQ (AD e)).run g.P w=.halt (.panic (.iface T v)) w:=by
  rw[h1,Oper.semAt_eq none (AD e) o (λc hc=>by rw[G]at hc;cases hc)];simp[execOp,G,hx,Instr.panic,goPanic,Sem.run]
 rw[CG];exact⟨⟨h1,st.defers.trans h2⟩,Z22,h,st.toFin⟩
theorem nM {x:Operand}{u:Value}{ts:Array TypeId}(hx:AD e x=u)(o:Oper)(G:o.op=.call { callee:=.builtin .len,args:=#[x],argTypes:=ts })(ht:o.type=ty):execOp (AD e) o=(do pure (.value (<-Builtin.len_ ts ty #[u]))):=by
 subst ht;simp[execOp,G,resolve,invoke,builtin,hx]
def isIf:TypeDesc->Bool
 | .interface _=>true
 | _=>false
theorem Y.iface {P:Program}{T:TypeId}{G:TypeDesc}{x:Operand}{v:Value}(hT:P.underlying T=some G)(hd:isIf G=false)(hx:AD e x=v):Yd P e bx Z22 (.makeInterface T x) ty (.iface T v):=λoo ho _ w _ _=>by
 cases G<;>simp[isIf]at hd<;>simp[execOp,ho,hx,Instr.makeInterface,run_underlying hT]
theorem Y.AJY {P:Program}{T T':TypeId}{x y:Operand}{a b:ByteArray}(hT:P.underlying T=some .string)(hx:AD e x=.string a)(hy:AD e y=.string b)(hs:a.size+b.size<=9223372036854775807):Yd P e bx Z22 (.binOp .add T x y T') ty (.string (a++b)):=λoo ho _ w _ _=>by
 have G:(a.size:Int)+(b.size:Int)<=9223372036854775807:=by omega
 simp[execOp,ho,hx,hy,eqGuard_add,binOp,Op.stringOp,G]
end
end Tw
end
section
set_option maxRecDepth 100000
noncomputable section
namespace TwW
open Go Tw Go.Proofs.Tryz
variable [GO]{R:Rr}{Z22:Hp}
noncomputable abbrev prog:Program:=Go.Proofs.Tryz.prog
theorem mixed:Go.Proofs.Tryz.prog.follows .mixedOrders=true:=by kernel_rfl
instance:KE Go.Proofs.Tryz.prog 22 98 2 48:=⟨Go.Proofs.Tryz.underlying22,⟨Go.Proofs.Tryz.t98,_,by kernel_rfl,rfl,rfl,rfl,rfl⟩,by decide,by decide⟩
instance:KE Go.Proofs.Tryz.prog 28 55 3 40:=⟨Go.Proofs.Tryz.underlying28,⟨Go.Proofs.Tryz.t55,_,by kernel_rfl,rfl,rfl,rfl,rfl⟩,by decide,by decide⟩
instance:KE Go.Proofs.Tryz.prog 32 127 10 120:=⟨Go.Proofs.Tryz.underlying32,⟨Go.Proofs.Tryz.t127,_,by kernel_rfl,rfl,rfl,rfl,rfl⟩,by decide,by decide⟩
instance:KE Go.Proofs.Tryz.prog 41 91 9 88:=⟨Go.Proofs.Tryz.underlying41,⟨Go.Proofs.Tryz.t91,_,by kernel_rfl,rfl,rfl,rfl,rfl⟩,by decide,by decide⟩
instance:KE Go.Proofs.Tryz.prog 50 3 1 8:=⟨Go.Proofs.Tryz.underlying50,⟨Go.Proofs.Tryz.t3,_,by kernel_rfl,rfl,rfl,rfl,rfl⟩,by decide,by decide⟩
instance:KE Go.Proofs.Tryz.prog 53 52 1 4:=⟨Go.Proofs.Tryz.underlying53,⟨Go.Proofs.Tryz.t52,_,by kernel_rfl,rfl,rfl,rfl,rfl⟩,by decide,by decide⟩
instance:KE Go.Proofs.Tryz.prog 56 4 1 1:=⟨Go.Proofs.Tryz.underlying56,⟨Go.Proofs.Tryz.t4,_,by kernel_rfl,rfl,rfl,rfl,rfl⟩,by decide,by decide⟩
instance:KE Go.Proofs.Tryz.prog 60 27 1 8:=⟨Go.Proofs.Tryz.underlying60,⟨Go.Proofs.Tryz.t27,_,by kernel_rfl,rfl,rfl,rfl,rfl⟩,by decide,by decide⟩
instance:KE Go.Proofs.Tryz.prog 73 83 4 40:=⟨Go.Proofs.Tryz.underlying73,⟨Go.Proofs.Tryz.t83,_,by kernel_rfl,rfl,rfl,rfl,rfl⟩,by decide,by decide⟩
instance:KE Go.Proofs.Tryz.prog 92 22 1 24:=⟨Go.Proofs.Tryz.underlying92,⟨Go.Proofs.Tryz.t22,_,by kernel_rfl,rfl,rfl,rfl,rfl⟩,by decide,by decide⟩
instance:KE Go.Proofs.Tryz.prog 95 144 2 32:=⟨Go.Proofs.Tryz.underlying95,⟨Go.Proofs.Tryz.t144,_,by kernel_rfl,rfl,rfl,rfl,rfl⟩,by decide,by decide⟩
instance:KE Go.Proofs.Tryz.prog 96 111 2 16:=⟨Go.Proofs.Tryz.underlying96,⟨Go.Proofs.Tryz.t111,_,by kernel_rfl,rfl,rfl,rfl,rfl⟩,by decide,by decide⟩
instance:KE Go.Proofs.Tryz.prog 105 109 2 32:=⟨Go.Proofs.Tryz.underlying105,⟨Go.Proofs.Tryz.t109,_,by kernel_rfl,rfl,rfl,rfl,rfl⟩,by decide,by decide⟩
instance:KE Go.Proofs.Tryz.prog 112 172 3 40:=⟨Go.Proofs.Tryz.underlying112,⟨Go.Proofs.Tryz.t172,_,by kernel_rfl,rfl,rfl,rfl,rfl⟩,by decide,by decide⟩
instance:KE Go.Proofs.Tryz.prog 119 89 7 72:=⟨Go.Proofs.Tryz.underlying119,⟨Go.Proofs.Tryz.t89,_,by kernel_rfl,rfl,rfl,rfl,rfl⟩,by decide,by decide⟩
instance:KE Go.Proofs.Tryz.prog 122 130 1 8:=⟨Go.Proofs.Tryz.underlying122,⟨Go.Proofs.Tryz.t130,_,by kernel_rfl,rfl,rfl,rfl,rfl⟩,by decide,by decide⟩
instance:KE Go.Proofs.Tryz.prog 125 9 1 16:=⟨Go.Proofs.Tryz.underlying125,⟨Go.Proofs.Tryz.t9,_,by kernel_rfl,rfl,rfl,rfl,rfl⟩,by decide,by decide⟩
instance:KE Go.Proofs.Tryz.prog 134 5 1 1:=⟨Go.Proofs.Tryz.underlying134,⟨Go.Proofs.Tryz.t5,_,by kernel_rfl,rfl,rfl,rfl,rfl⟩,by decide,by decide⟩
instance:KE Go.Proofs.Tryz.prog 146 150 1 8:=⟨Go.Proofs.Tryz.underlying146,⟨Go.Proofs.Tryz.t150,_,by kernel_rfl,rfl,rfl,rfl,rfl⟩,by decide,by decide⟩
instance:KE Go.Proofs.Tryz.prog 162 234 2 48:=⟨Go.Proofs.Tryz.underlying162,⟨Go.Proofs.Tryz.t234,_,by kernel_rfl,rfl,rfl,rfl,rfl⟩,by decide,by decide⟩
instance:KE Go.Proofs.Tryz.prog 204 207 1 8:=⟨Go.Proofs.Tryz.underlying204,⟨Go.Proofs.Tryz.t207,_,by kernel_rfl,rfl,rfl,rfl,rfl⟩,by decide,by decide⟩
instance:KE Go.Proofs.Tryz.prog 206 164 4 64:=⟨Go.Proofs.Tryz.underlying206,⟨Go.Proofs.Tryz.t164,_,by kernel_rfl,rfl,rfl,rfl,rfl⟩,by decide,by decide⟩
instance:KE Go.Proofs.Tryz.prog 237 240 1 8:=⟨Go.Proofs.Tryz.underlying237,⟨Go.Proofs.Tryz.t240,_,by kernel_rfl,rfl,rfl,rfl,rfl⟩,by decide,by decide⟩
instance:KE Go.Proofs.Tryz.prog 243 245 1 8:=⟨Go.Proofs.Tryz.underlying243,⟨Go.Proofs.Tryz.t245,_,by kernel_rfl,rfl,rfl,rfl,rfl⟩,by decide,by decide⟩
instance:KE Go.Proofs.Tryz.prog 266 268 1 8:=⟨Go.Proofs.Tryz.underlying266,⟨Go.Proofs.Tryz.t268,_,by kernel_rfl,rfl,rfl,rfl,rfl⟩,by decide,by decide⟩
instance:KE Go.Proofs.Tryz.prog 269 304 1 24:=⟨Go.Proofs.Tryz.underlying269,⟨Go.Proofs.Tryz.t304,_,by kernel_rfl,rfl,rfl,rfl,rfl⟩,by decide,by decide⟩
instance:KE Go.Proofs.Tryz.prog 339 319 1 16:=⟨Go.Proofs.Tryz.underlying339,⟨Go.Proofs.Tryz.t319,_,by kernel_rfl,rfl,rfl,rfl,rfl⟩,by decide,by decide⟩
instance:KE Go.Proofs.Tryz.prog 374 329 1 4:=⟨Go.Proofs.Tryz.underlying374,⟨Go.Proofs.Tryz.t329,_,by kernel_rfl,rfl,rfl,rfl,rfl⟩,by decide,by decide⟩
instance:KE Go.Proofs.Tryz.prog 386 258 1 8:=⟨Go.Proofs.Tryz.underlying386,⟨Go.Proofs.Tryz.t258,_,by kernel_rfl,rfl,rfl,rfl,rfl⟩,by decide,by decide⟩
instance:KE Go.Proofs.Tryz.prog 408 407 2 24:=⟨Go.Proofs.Tryz.underlying408,⟨Go.Proofs.Tryz.t407,_,by kernel_rfl,rfl,rfl,rfl,rfl⟩,by decide,by decide⟩
end TwW
end
end
section
namespace Tw
open Go
variable [GO]
inductive Ord where
 | done
 | yes (i:Nat) (r:Ord)
 | alt (i:Nat) (r s:Ord)
 | no
def Ba (g:Gl)(ops:Array Oper):Ord->KB->Env->Bx->Hp->(Env->Bx->Hp->Prop)->Prop
 | .done,_,e,bx,Z22,K=>K e bx Z22
 | .yes i r,q,e,bx,Z22,K=>∃own o v,((My q own).ok i&&Rv ops i own)=true/\ops[i]?=some o/\((Ac ops e o.guard=true/\Yd g.P e bx (KM q own Z22) o.op o.type v)\/(Ac ops e o.guard=false/\v=undef))/\
  (∀t,o.dst=some t->t<g.n)/\Ba g ops r (My q own) (put e o.dst v) bx Z22 K
 | .alt i r s,q,e,bx,Z22,K=>(AW g ops i e bx Z22 λe' G Z'=>Iq (HB q i) bx Z22 G Z'/\Ba g ops r (HB q i) e' G Z' K)/\Ba g ops s q e bx Z22 K
 | .no,_,_,_,_,_=>True
def Ry (ops:Array Oper)(n:Nat):Ord->Nat->Array Bool->List Nat->Bool
 | .done,f,G,seen=>decide (f=0)&&seen.isEmpty&&Region.seqB .any ops (ops.size-n) n G
 | .yes i r,f,G,seen=>seen.isEmpty&&decide (0<f)&&decide (i<n)&&(Region.ready .any ops G).contains i&&Region.free .any ops G i&&Ry ops n r (f-1) (G.setIfInBounds i true) []
 | .alt i r s,f,G,seen=>decide (0<f)&&decide (i<n)&&(Region.ready .any ops G).contains i&&Ry ops n r (f-1) (G.setIfInBounds i true) []&&Ry ops n s f G (i::seen)
 | .no,f,G,seen=>decide (0<f)&&!(Region.ready .any ops G).isEmpty&&(Region.ready .any ops G).all seen.contains
def R0 (ops:Array Oper)(n:Nat)(plan:Ord)(G:List Nat):Bool:=
 Region.noSelect ops&&(decide (n=ops.size)||(decide (n<ops.size)&&Region.sinkB .any ops n&&Region.chainB .any ops n)) &&
  decide (G=List.range' n (ops.size-n))&&Ry ops n plan n (Array.replicate ops.size false) []
section regions
variable {g:Gl}{ops:Array Oper}
theorem Hm {K:Env->Bx->Hp->Prop}{w0 F}{n:Nat}{tl:List Nat}(Mz:Region.noSelect ops=true)
  (Hj:∀listed,HeadInv .any ops n listed->∀i,i<n->listed.getD i true=false->∀t,n<=t->t ∉ Region.ready .any ops listed)
  (gy:tl=List.range' n (ops.size-n)) :
  ∀(plan:Ord) (f:Nat) (seen:List Nat) (q:KB) (listed:Array Bool) (e:Env) (bx:Bx) (Z22:Hp) (a:Act) (w:World),HeadInv .any ops n listed->Ry ops n plan f listed seen=true->
   St g.n g.ds w0 F e bx Z22 a w->Ba g ops plan q e bx Z22 (λe bx Z22=>Seq g ops tl e bx Z22 K)->
   (∀j∈seen,j∈Region.ready .any ops listed->j<n/\wpOpIn (wd g.IQ) 0 g.P ops (Qn g w0 F K) j (λa' w'=>Sq q Z22 bx (listed.setIfInBounds j true) w'/\
    IS g.P g.IQ .any ops (Qn g w0 F K) (Sq q Z22 bx) n (λlisted a w=>Region.seqB .any ops (ops.size-n) n listed=true/\wpOpsIn (wd g.IQ) 0 g.P ops (Qn g w0 F K) tl a w) (f-1) (listed.setIfInBounds j true) a' w') a w)->
   IS g.P g.IQ .any ops (Qn g w0 F K) (Sq q Z22 bx) n (λlisted a w=>Region.seqB .any ops (ops.size-n) n listed=true/\wpOpsIn (wd g.IQ) 0 g.P ops (Qn g w0 F K) tl a w) f listed a w
 | .done,f,seen,_,listed,e,bx,Z22,a,w,_,Aa,st,h,_=>by
  simp only[Ry,Ajz,Aj3]at Aa;obtain⟨⟨rfl,_⟩,Aa⟩:=Aa;exact⟨Aa,Pp _ _ _ _ _ _ st h⟩
 | .yes i r,f,seen,q,listed,e,bx,Z22,a,w,inv,Aa,st,h,_=>by
  obtain⟨own,o,v,hqq,ho,hy,hd,h⟩:=h;simp only[Ajz]at hqq;simp only[Ry,Ajz,Aj3]at Aa;obtain⟨⟨⟨⟨⟨_,hf0⟩,UD⟩,hr⟩,hf⟩,Aa⟩:=Aa;obtain⟨f,rfl⟩:∃f',f=f'+1:=⟨f-1,by omega⟩;have hZ:i∈Region.ready .any ops listed:=by simpa using hr
  refine GX (S':=Sq (My q own) Z22 bx) (G:=λ_=>True) (λ_ _ _=>trivial) (λ_ _ _ h=>h.less) _ _ _ _ trivial ?_;refine Ql (Sy:=λw=>Sat (KM q own Z22) w/\LC bx w) ho (Region.noSelect_spec Mz) ?_ Hj (Sq.set hqq.1) (λlisted w inv TF h=>Sq.own inv TF hqq.2 h) UD ?_ _ listed a w inv (Region.free_spec ho hf) hZ ?_ (Sq.of st.sat st.box)
   (Hm Mz Hj gy r f [] _ _ _ _ _ _ _ (inv.set hZ UD) Aa (st.put o.dst v hd) h (λj hj=>by cases hj))
  .rintro c a w ⟨⟨h0,h1⟩,h2⟩
   exact⟨⟨h0,by cases M6:o.dst<;>simpa[Act.put,M6] using h1⟩,h2⟩
  .intro listed a w hL;exact seqB_ready hL.1
  .rcases hy with ⟨hw,hy⟩|⟨hw,rfl⟩
   .exact .inl ⟨by rw[st.wanted];exact hw,λw hS=>by rw[st.eval];exact hy o rfl rfl w hS.1 hS.2⟩
   .exact .inr ⟨by rw[st.wanted];exact hw,rfl⟩
 | .alt i r s,f,seen,q,listed,e,bx,Z22,a,w,inv,Aa,st,h,yr=>by
  obtain⟨h,hs⟩:=h;simp only[Ry,Ajz,Aj3]at Aa;obtain⟨⟨⟨⟨hf0,UD⟩,hr⟩,Aa⟩,AXc⟩:=Aa;have hZ:i∈Region.ready .any ops listed:=by simpa using hr
  refine Hm Mz Hj gy s f (i::seen) q listed e bx Z22 a w inv AXc st hs (λj hj hjr=>?_);rcases Ajo.1 hj with rfl|hj
  .refine⟨UD,wpOpIn_mono ?_ (nG (Q:=Qx g w0 F) (λc a w h=>h) (λa w h=>h.elim) (h w0 F a w st))⟩
   rintro a' w' ⟨e',Hi,Z',HC,hk,h'⟩
   have hl:(listed.setIfInBounds j true).getD j false=true:=by
    have Ax:j<listed.size:=by rw[inv.size];obtain⟨_,o,ho,_⟩:=mem_ready.1 hZ;exact(Aj2.1 ho).1
    simp[Ax]
   exact⟨Sq.dw hl hk (Sq.of HC.sat HC.box),GX (S':=Sq (HB q j) Z' Hi) (G:=λl=>l.getD j false=true) (λ_ _ h=>getD_set_true h) (λ_ _ hg h=>Sq.dw hg hk h) _ _ _ _ hl
    (Hm Mz Hj gy r (f-1) [] _ _ _ _ _ _ _ (inv.set hZ UD) Aa HC h' (λj hj=>by cases hj))⟩
  .exact yr j hj hjr
 | .no,f,seen,q,listed,e,bx,Z22,a,w,inv,Aa,st,h,yr=>by
  simp only[Ry,Ajz,Aj3]at Aa;obtain⟨⟨hf0,Av⟩,Mg⟩:=Aa;obtain⟨f,rfl⟩:∃f',f=f'+1:=⟨f-1,by omega⟩;exact⟨λh0=>(by rw[h0]at Av;cases Av),λj hj=>yr j (by simpa using Akk.1 Mg j hj) hj⟩
theorem At.AOg {k:List Item}{e:Env}{bx:Bx}{Z22:Hp}{c:Code}{id:Nat}{n:Nat}{q:KB}{plan:Ord}{tl:List Nat}(hm:g.P.follows .mixedOrders=true)(hc:c=.region id ops true)
  (hp:R0 ops n plan tl=true)
  (h:Ba g ops plan q e bx Z22 (λe bx Z22=>Seq g ops tl e bx Z22 (λe bx Z22=>At g k e bx Z22))):At g (.code c::k) e bx Z22:=λw0 F a w st=>by
 subst hc;simp only[R0,Ajz,Alh,Aj3]at hp;obtain⟨⟨⟨Mz,hn⟩,gy⟩,Aa⟩:=hp;have Mh:n<=ops.size:=by rcases hn with h|h<;>omega
 have Hj:∀G,HeadInv .any ops n G->∀i,i<n->G.getD i true=false->∀t,n<=t->t ∉ Region.ready .any ops G:=by
  intro G inv i hi TF t ht;rcases hn with h|⟨⟨h1,h2⟩,h3⟩
  .intro hr;obtain⟨_,o,ho,_⟩:=mem_ready.1 hr;have:=(Aj2.1 ho).1;omega
  .exact tail_waits h2 h3 h1 inv _ i rfl hi TF t ht
 have yZ:HeadInv .any ops n (Array.replicate ops.size false):=
  ⟨by simp,λj oj _ hl=>(by rw[getD_replicate_false]at hl;cases hl),λt _ ht=>getD_in (by simpa using ht) (getD_replicate_false _ _)⟩
 refine J0.of_wp (K:=λe bx Z22=>At g k e bx Z22) (wpIn_region_any hm ?_) (λ_ _ _ h=>h);have H:=Hm (K:=λe bx Z22=>At g k e bx Z22) (tl:=tl) Mz Hj gy plan n [] q (Array.replicate ops.size false) e bx Z22 a { w with drawn:=w.drawn+1 } yZ Aa st.drew h (λj hj=>by cases hj);have:=GV (g:=ops.size-n) (λG a w hL=>Hf _ _ G a w hL.1 (gy▸hL.2)) _ _ _ _ H;rw[show n+(ops.size-n)=ops.size by omega]at this;exact this
end regions
end Tw
namespace Tw
open Go
section
variable {g:Gl}{ops:Array Oper}{i:Nat}{r s:Ord}{q:KB}{e:Env}{bx:Bx}{Z22:Hp}{K:Env->Bx->Hp->Prop}{d:Option Nat}{op:Op}{ty:TypeId}{gd:Option (Nat×Bool)}{v:Value}{L:List (Nat×List Nat)}
theorem Ba.y (hs:sig ops i=some (d,op,ty,none))(hd:HD d g.n=true)(hy:Yd g.P e bx (KM q none Z22) op ty v)(h:Ba g ops r q (put e d v) bx Z22 K)(G:q.ok i=true:=by rfl):Ba g ops (.yes i r) q e bx Z22 K:=by
 obtain⟨o,ho,rfl,rfl,rfl,hg⟩:=Bg hs;exact⟨none,o,v,ok_none G,ho,.inl ⟨by rw[hg];rfl,hy⟩,(HD.lt hd),by rw[Eg];exact h⟩
theorem Ba.yl (b:Nat)(G:List (List Nat)){D:List Nat}(hD:G.filterMap List.head?=D)(Aa:((My (some L) (some (b,G))).ok i&&Rv ops i (some (b,G)))=true)(hs:sig ops i=some (d,op,ty,none))(hd:HD d g.n=true)(hy:Yd g.P e bx (KM (some L) (some (b,G)) Z22) op ty v)
  (h:Ba g ops r (some ((b,D)::L)) (put e d v) bx Z22 K):Ba g ops (.yes i r) (some L) e bx Z22 K:=by
 subst hD;obtain⟨o,ho,rfl,rfl,rfl,hg⟩:=Bg hs;exact⟨some (b,G),o,v,Aa,ho,.inl ⟨by rw[hg];rfl,hy⟩,(HD.lt hd),h⟩
theorem Ba.o {q':KB}(hq:HB q i=q')(h:AW g ops i e bx Z22 λe' G Z'=>Iq q' bx Z22 G Z'/\Ba g ops r q' e' G Z' K):Ba g ops (.alt i r .no) q e bx Z22 K:=by
 subst hq;exact⟨h,trivial⟩
theorem Ba.done (h:K e bx Z22):Ba g ops .done q e bx Z22 K:=h
theorem Ba.z (d:Nat)(op:Op)(ty:TypeId)(v:Value)(hy:Yd g.P e bx (KM q none Z22) op ty v)(h:Ba g ops r q (put e (some d) v) bx Z22 K)(hs:sig ops i=some (some d,op,ty,none):=by kernel_rfl)(hd:Nat.blt d g.n=true:=by rfl)(G:q.ok i=true:=by rfl):Ba g ops (.yes i r) q e bx Z22 K:=Ba.y hs hd hy h G
end
end Tw
end
section
namespace Tw
open Go
variable [GO]
def nth {α:Type}(d:α):List α->Nat->α
 | [],_=>d
 | x::_,0=>x
 | _::l,n+1=>nth d l n
theorem Pw {α:Type}{d:α}:∀{l m:List α} {i:Nat},i<l.length->nth d (l++m) i=nth d l i
 | x::l,m,0,_=>rfl
 | x::l,m,i+1,h=>by simp only[Akl,nth];exact Pw (by simpa using h)
theorem Px {α:Type}{d x:α}:∀{l:List α},nth d (l++[x]) l.length=x
 | []=>rfl
 | _::l=>Px (l:=l)
inductive BK where
 | prop (P:Prop) (i:Decidable P)
 | var (b:Bool)
def BK.val:BK->Bool
 | .prop P i=>@decide P i
 | .var b=>b
def BK.yes:BK->Prop
 | .prop P _=>P
 | .var b=>b=true
def BK.no:BK->Prop
 | .prop P _=>¬P
 | .var b=>b=false
theorem BK.yt {k:BK}(h:k.val=true):k.yes:=by
 cases k with
 | prop P i=>exact @Ajx P i h
 | var b=>exact h
theorem BK.AG1 {k:BK}(h:k.val=false):k.no:=by
 cases k with
 | prop P i=>exact @AkM P i h
 | var b=>exact h
structure Vl where
 ρ:List (Option Addr)
 β:List BK
 δ:List Nat
inductive PV where
 | lit (p:Option Addr)
 | var (i:Nat)
 | at (b o:Nat)
 | bx (i o:Nat)
def PV.den (v:Vl):PV->Option Addr
 | .lit p=>p
 | .var i=>nth none v.ρ i
 | .at b o=>some ⟨b,o,none⟩
 | .bx i o=>some ⟨nth 0 v.δ i,o,none⟩
def PV.ok (v:Vl):PV->Bool
 | .var i=>Nat.blt i v.ρ.length
 | .bx i _=>Nat.blt i v.δ.length
 | _=>true
inductive Ck where
 | int (k:IntKind) (x:Int)
 | num (k:IntKind) (x:Int)
 | bl (b:Bool)
 | bs (i:Nat) (neg:Bool)
 | str (s:ByteArray)
 | sl (p:PV) (n c:Nat)
 | pt (p:PV)
 | fn (f:Nat) (fst cap:Array Value)
 | mp (m:Option Nat)
 | un
 | raw (v:Value)
def Ck.den (v:Vl):Ck->Value
 | .int k x=>.int k x
 | .num k x=>.int k x
 | .bl b=>.bool b
 | .bs i false=>.bool (nth (.var false) v.β i).val
 | .bs i true=>.bool (!(nth (.var false) v.β i).val)
 | .str s=>.string s
 | .sl p n c=>.slice (p.den v) n c
 | .pt p=>.pointer (p.den v)
 | .fn f a b=>.func (.func f) a b
 | .mp m=>.map m
 | .un=>undef
 | .raw x=>x
def Ck.ok (v:Vl):Ck->Bool
 | .bs i _=>Nat.blt i v.β.length
 | .sl p _ _=>p.ok v
 | .pt p=>p.ok v
 | _=>true
inductive Ih where
 | a (x:Ck)
 | agg (l:List Ck)
def Bj (v:Vl):List Ck->List Value
 | []=>[]
 | x::l=>x.den v::Bj v l
def oks (v:Vl):List Ck->Bool
 | []=>true
 | x::l=>x.ok v&&oks v l
def Ih.den (v:Vl):Ih->Value
 | .a x=>x.den v
 | .agg l=>.agg (Bj v l).toArray
def Ih.ok (v:Vl):Ih->Bool
 | .a x=>x.ok v
 | .agg l=>oks v l
inductive SV where
 | v (x:Ih)
 | bR (l:List Ih)
def Jg (v:Vl):List Ih->List Value
 | []=>[]
 | x::l=>x.den v::Jg v l
def AD3 (v:Vl):List Ih->Bool
 | []=>true
 | x::l=>x.ok v&&AD3 v l
def SV.den (v:Vl):SV->Value
 | .v x=>x.den v
 | .bR l=>.tuple (Jg v l).toArray
def SV.ok (v:Vl):SV->Bool
 | .v x=>x.ok v
 | .bR l=>AD3 v l
abbrev SV.at (x:Ck):SV:=.v (.a x)
structure Vl.le (v w:Vl):Prop where
 ρ:∀i,i<v.ρ.length->nth none w.ρ i=nth none v.ρ i
 β:∀i,i<v.β.length->nth (.var false) w.β i=nth (.var false) v.β i
 δ:∀i,i<v.δ.length->nth 0 w.δ i=nth 0 v.δ i
theorem Vl.le.refl (v:Vl):v.le v:=⟨λ_ _=>rfl,λ_ _=>rfl,λ_ _=>rfl⟩
theorem PV.J2 {v w:Vl}(h:v.le w){p:PV}(hp:p.ok v=true):p.den w=p.den v:=by
 cases p with
 | var i=>exact h.ρ i (Akd hp)
 | bx i o=>simp only[PV.den];rw[h.δ i (Akd hp)]
 | _=>rfl
theorem Ck.J2 {v w:Vl}(h:v.le w){x:Ck}(hp:x.ok v=true):x.den w=x.den v:=by
 cases x with
 | bs i n=>cases n<;>simp only[Ck.den]<;>rw[h.β i (Akd hp)]
 | sl p n c=>simp only[Ck.den];rw[PV.J2 h hp]
 | pt p=>simp only[Ck.den];rw[PV.J2 h hp]
 | _=>rfl
theorem VY {v w:Vl}(h:v.le w):∀{l:List Ck},oks v l=true->Bj w l=Bj v l
 | [],_=>rfl
 | x::l,hp=>by
  simp only[oks,Ajz]at hp;simp only[Bj];rw[Ck.J2 h hp.1,VY h hp.2]
theorem Ih.J2 {v w:Vl}(h:v.le w){x:Ih}(hp:x.ok v=true):x.den w=x.den v:=by
 cases x with
 | a x=>exact Ck.J2 h hp
 | agg l=>simp only[Ih.den];rw[VY h hp]
theorem iW {v w:Vl}(h:v.le w):∀{l:List Ih},AD3 v l=true->Jg w l=Jg v l
 | [],_=>rfl
 | x::l,hp=>by
  simp only[AD3,Ajz]at hp;simp only[Jg];rw[Ih.J2 h hp.1,iW h hp.2]
theorem SV.J2 {v w:Vl}(h:v.le w){x:SV}(hp:x.ok v=true):x.den w=x.den v:=by
 cases x with
 | v x=>exact Ih.J2 h hp
 | bR l=>simp only[SV.den];rw[iW h hp]
def PV.sub (i b o:Nat):PV->PV
 | .var j=>bif Nat.beq j i then .at b o else .var j
 | p=>p
inductive Iu where
 | ptr (i b o:Nat)
 | bool (i:Nat) (t:Bool)
def PV.tell:Iu->PV->PV
 | .ptr i b o,p=>p.sub i b o
 | .bool ..,p=>p
def Ck.tell (t:Iu):Ck->Ck
 | .bs j n=>match t with
  | .bool i b=>bif Nat.beq j i then .bl (bif n then !b else b) else .bs j n
  | _=>.bs j n
 | .sl p n c=>.sl (p.tell t) n c
 | .pt p=>.pt (p.tell t)
 | x=>x
def Iu.holds (v:Vl):Iu->Prop
 | .ptr i b o=>nth none v.ρ i=some ⟨b,o,none⟩
 | .bool i t=>(nth (.var false) v.β i).val=t
theorem PV.FO {v:Vl}{t:Iu}(h:t.holds v){p:PV}:(p.tell t).den v=p.den v:=by
 cases t with
 | bool i t=>rfl
 | ptr i b o=>
  cases p with
  | var j=>
   simp only[PV.tell,PV.sub];cases G:Nat.beq j i with
   | true=>have:=Akg G;subst this;exact h.symm
   | false=>rfl
  | _=>rfl
theorem Ck.FO {v:Vl}{t:Iu}(h:t.holds v){x:Ck}:(x.tell t).den v=x.den v:=by
 cases x with
 | bs j n=>
  cases t with
  | ptr i b o=>rfl
  | bool i b=>
   simp only[Ck.tell];cases G:Nat.beq j i with
   | true=>
    have:=Akg G;subst this;simp only[Iu.holds]at h;cases n<;>simp only[Ck.den,AlS,AlN,h]
   | false=>rfl
 | sl p n c=>simp only[Ck.tell,Ck.den];rw[PV.FO h]
 | pt p=>simp only[Ck.tell,Ck.den];rw[PV.FO h]
 | _=>rfl
def tells (t:Iu):List Ck->List Ck
 | []=>[]
 | x::l=>x.tell t::tells t l
theorem TL {v:Vl}{t:Iu}(h:t.holds v):∀{l:List Ck},Bj v (tells t l)=Bj v l
 | []=>rfl
 | x::l=>by simp only[tells,Bj];rw[Ck.FO h,TL h]
def Ih.tell (t:Iu):Ih->Ih
 | .a x=>.a (x.tell t)
 | .agg l=>.agg (tells t l)
theorem Ih.FO {v:Vl}{t:Iu}(h:t.holds v){x:Ih}:(x.tell t).den v=x.den v:=by
 cases x with
 | a x=>exact Ck.FO h
 | agg l=>simp only[Ih.tell,Ih.den];rw[TL h]
def eG (t:Iu):List Ih->List Ih
 | []=>[]
 | x::l=>x.tell t::eG t l
theorem V3 {v:Vl}{t:Iu}(h:t.holds v):∀{l:List Ih},Jg v (eG t l)=Jg v l
 | []=>rfl
 | x::l=>by simp only[eG,Jg];rw[Ih.FO h,V3 h]
def SV.tell (t:Iu):SV->SV
 | .v x=>.v (x.tell t)
 | .bR l=>.bR (eG t l)
theorem SV.FO {v:Vl}{t:Iu}(h:t.holds v){x:SV}:(x.tell t).den v=x.den v:=by
 cases x with
 | v x=>exact Ih.FO h
 | bR l=>simp only[SV.tell,SV.den];rw[V3 h]
abbrev HN:=Nat×TypeId×List Ck
structure S where
 env:List (Nat×SV)
 bx:List HN
 vl:Vl
 Z22:Hp
def JQ (v:Vl):List (Nat×SV)->List (Nat×Value)
 | []=>[]
 | (t,x)::l=>(t,x.den v)::JQ v l
def okE (v:Vl):List (Nat×SV)->Bool
 | []=>true
 | (_,x)::l=>x.ok v&&okE v l
def rN (t:Iu):List (Nat×SV)->List (Nat×SV)
 | []=>[]
 | (s,x)::l=>(s,x.tell t)::rN t l
def GZ (v:Vl):List HN->Bx
 | []=>[]
 | (i,t,cs)::l=>(nth 0 v.δ i,.cells (Bj v cs).toArray t (0,0))::GZ v l
def okB (v:Vl):List HN->Bool
 | []=>true
 | (i,_,cs)::l=>Nat.blt i v.δ.length&&oks v cs&&okB v l
def rO (t:Iu):List HN->List HN
 | []=>[]
 | (i,T,cs)::l=>(i,T,tells t cs)::rO t l
def S.e (J:Env)(s:S):Env:=Mf J (JQ s.vl s.env)
def S.b (s:S):Bx:=GZ s.vl s.bx
def S.ok (s:S):Bool:=okE s.vl s.env&&okB s.vl s.bx
def S.tell (s:S)(t:Iu):S:=⟨rN t s.env,rO t s.bx,s.vl,s.Z22⟩
def S.w (s:S)(v:Vl):S:=⟨s.env,s.bx,v,s.Z22⟩
def S.put (s:S)(d:Option Nat)(x:SV):S:=match d with
 | some d=>⟨(d,x)::s.env,s.bx,s.vl,s.Z22⟩
 | none=>s
def S.hp (s:S)(Z22:Hp):S:=⟨s.env,s.bx,s.vl,Z22⟩
theorem rP {v w:Vl}(h:v.le w):∀{l:List (Nat×SV)},okE v l=true->JQ w l=JQ v l
 | [],_=>rfl
 | (t,x)::l,hp=>by
  simp only[okE,Ajz]at hp;simp only[JQ];rw[SV.J2 h hp.1,rP h hp.2]
theorem rQ {v w:Vl}(h:v.le w):∀{l:List HN},okB v l=true->GZ w l=GZ v l
 | [],_=>rfl
 | (i,t,cs)::l,hp=>by
  simp only[okB,Ajz]at hp;simp only[GZ];rw[VY h hp.1.2,rQ h hp.2,h.δ i (Akd hp.1.1)]
theorem bS {v:Vl}{t:Iu}(h:t.holds v):∀{l:List (Nat×SV)},JQ v (rN t l)=JQ v l
 | []=>rfl
 | (s,x)::l=>by simp only[rN,JQ];rw[SV.FO h,bS h]
theorem bT {v:Vl}{t:Iu}(h:t.holds v):∀{l:List HN},GZ v (rO t l)=GZ v l
 | []=>rfl
 | (i,T,cs)::l=>by simp only[rO,GZ];rw[TL h,bT h]
theorem S.e_w {J:Env}{s:S}{v:Vl}(G:s.ok=true)(h:s.vl.le v):(s.w v).e J=s.e J:=by
 simp only[S.ok,Ajz]at G;simp only[S.e,S.w,rP h G.1]
theorem S.b_w {s:S}{v:Vl}(G:s.ok=true)(h:s.vl.le v):(s.w v).b=s.b:=by
 simp only[S.ok,Ajz]at G;simp only[S.b,S.w,rQ h G.2]
theorem S.AJa {J:Env}{s:S}{t:Iu}(h:t.holds s.vl):(s.tell t).e J=s.e J:=by
 simp only[S.e,S.tell,bS h]
theorem S.AJb {s:S}{t:Iu}(h:t.holds s.vl):(s.tell t).b=s.b:=by
 simp only[S.b,S.tell,bT h]
theorem S.KS {J:Env}{s:S}{d:Option Nat}{x:SV}:(s.put d x).e J=Tw.put (s.e J) d (x.den s.vl):=by
 cases d<;>rfl
theorem S.KT {s:S}{d:Option Nat}{x:SV}:(s.put d x).b=s.b:=by cases d<;>rfl
theorem S.HO {s:S}{d:Option Nat}{x:SV}:(s.put d x).Z22=s.Z22:=by cases d<;>rfl
def eH:List (Nat×SV)->Nat->Option SV
 | [],_=>none
 | (t,x)::l,i=>bif Nat.beq i t then some x else eH l i
theorem F5 {v:Vl}{J:Env}:∀{l:List (Nat×SV)} {i:Nat} {x:SV},eH l i=some x->Mf J (JQ v l) i=x.den v
 | (t,y)::l,i,x,h=>by
  simp only[eH]at h;simp only[JQ,Mf,upd];cases hi:Nat.beq i t with
  | true=>rw[hi]at h;simp only[AlS]at h ⊢;cases h;rfl
  | false=>rw[hi]at h;simp only[AlN]at h ⊢;exact F5 h
def AJc:Value->Ck
 | .int k x=>.num k x
 | .bool b=>.bl b
 | .string s=>.str s
 | .slice p n c=>.sl (.lit p) n c
 | .pointer p=>.pt (.lit p)
 | .map m=>.mp m
 | v=>.raw v
theorem iX {vl:Vl}(v:Value):(AJc v).den vl=v:=by cases v<;>rfl
def UF:List Value->List Ck
 | []=>[]
 | x::l=>AJc x::UF l
theorem KU {vl:Vl}:∀l:List Value,Bj vl (UF l)=l
 | []=>rfl
 | x::l=>by simp only[UF,Bj];rw[iX,KU]
def yu:Value->Ih
 | .agg cs=>.agg (UF cs.toList)
 | v=>.a (AJc v)
theorem iY {vl:Vl}(v:Value):(yu v).den vl=v:=by
 cases v
 case agg cs=>simp only[yu,Ih.den,KU]
 all_goals (simp only[yu,Ih.den];exact iX _)
def rR:List Value->List Ih
 | []=>[]
 | x::l=>yu x::rR l
theorem bU {vl:Vl}:∀l:List Value,Jg vl (rR l)=l
 | []=>rfl
 | x::l=>by simp only[rR,Jg];rw[iY,bU]
def svV:Value->SV
 | .tuple vs=>.bR (rR vs.toList)
 | v=>.v (yu v)
theorem AD4 {vl:Vl}(v:Value):(svV v).den vl=v:=by
 cases v
 case tuple cs=>simp only[svV,SV.den,bU]
 all_goals (simp only[svV,SV.den];exact iY _)
def S.op (s:S):Operand->Option SV
 | .tmp t=>eH s.env t
 | .const v=>some (svV v)
 | .func f=>some (.at (.fn f #[] #[]))
 | .global g=>some (.at (.pt (.at g 0)))
theorem S.AD5 {J:Env}{s:S}{x:Operand}{v:SV}(h:s.op x=some v):AD (s.e J) x=v.den s.vl:=by
 cases x with
 | tmp t=>exact F5 h
 | const c=>simp only[S.op,Ajv]at h;subst h;exact(AD4 c).symm
 | func f=>simp only[S.op,Ajv]at h;subst h;rfl
 | global g=>simp only[S.op,Ajv]at h;subst h;rfl
def Vl.yw (v:Vl)(p:Option Addr):Vl:=⟨v.ρ++[p],v.β,v.δ⟩
def Vl.nN (v:Vl)(k:BK):Vl:=⟨v.ρ,v.β++[k],v.δ⟩
def Vl.AD6 (v:Vl)(b:Nat):Vl:=⟨v.ρ,v.β,v.δ++[b]⟩
theorem Vl.AD7 (v:Vl)(p:Option Addr):v.le (v.yw p):=⟨λ_ h=>Pw h,λ_ _=>rfl,λ_ _=>rfl⟩
theorem Vl.rS (v:Vl)(k:BK):v.le (v.nN k):=⟨λ_ _=>rfl,λ_ h=>Pw h,λ_ _=>rfl⟩
theorem Vl.AD8 (v:Vl)(b:Nat):v.le (v.AD6 b):=⟨λ_ _=>rfl,λ_ _=>rfl,λ_ h=>Pw h⟩
theorem Vl.le.trans {u v w:Vl}(h:u.le v)(g:v.le w)(G:u.ρ.length<=v.ρ.length/\u.β.length<=v.β.length/\u.δ.length<=v.δ.length):u.le w:=
 ⟨λi hi=>(g.ρ i (by omega)).trans (h.ρ i hi),λi hi=>(g.β i (by omega)).trans (h.β i hi),λi hi=>(g.δ i (by omega)).trans (h.δ i hi)⟩
end Tw
end
section
namespace Tw
open Go
variable [GO]
structure S.KV (s s':S):Prop where
 e:∀J,s'.e J=s.e J
 b:s'.b=s.b
 Z22:s'.Z22=s.Z22
theorem S.KV.refl (s:S):s.KV s:=⟨λ_=>rfl,rfl,rfl⟩
theorem S.KV.trans {s s' G:S}(h:s.KV s')(g:s'.KV G):s.KV G:=⟨λJ=>(g.e J).trans (h.e J),g.b.trans h.b,g.Z22.trans h.Z22⟩
theorem S.V4 {s:S}{v:Vl}(G:s.ok=true)(h:s.vl.le v):s.KV (s.w v):=⟨λJ=>S.e_w G h,S.b_w G h,rfl⟩
theorem S.KW {s:S}{t:Iu}(h:t.holds s.vl):s.KV (s.tell t):=⟨λJ=>S.AJa h,S.AJb h,rfl⟩
def S.boo (s:S)(k:BK)(neg:Bool)(K:SV->S->Prop):Prop:=
 match s.ok with
 | true=>K (.at (.bs s.vl.β.length neg)) (s.w (s.vl.nN k))
 | false=>False
theorem S.uZ {s:S}{k:BK}{neg:Bool}{K:SV->S->Prop}(h:s.boo k neg K):∃v s',s.KV s'/\v.den s'.vl=.bool (bif neg then !k.val else k.val)/\K v s':=by
 unfold S.boo at h;cases G:s.ok with
 | false=>rw[G]at h;cases h
 | true=>
  rw[G]at h;refine⟨_,_,S.V4 G (Vl.rS _ _),?_,h⟩;cases neg<;>simp only[SV.den,Ih.den,Ck.den,S.w,Vl.nN,Px,AlS,AlN]
def S.onB (s:S)(i:Nat)(neg:Bool)(K:Bool->S->Prop):Prop:=
 match neg with
 | false=>((nth (.var false) s.vl.β i).yes->K true (s.tell (.bool i true)))/\((nth (.var false) s.vl.β i).no->K false (s.tell (.bool i false)))
 | true=>((nth (.var false) s.vl.β i).no->K true (s.tell (.bool i false)))/\((nth (.var false) s.vl.β i).yes->K false (s.tell (.bool i true)))
theorem S.ua {s:S}{i:Nat}{neg:Bool}{K:Bool->S->Prop}(h:s.onB i neg K):∃t G,s.KV G/\G.vl=s.vl/\(Ck.bs i neg).den s.vl=.bool t/\K t G:=by
 cases hb:(nth (.var false) s.vl.β i).val with
 | true=>
  cases neg with
  | false=>exact⟨true,_,S.KW (t:=.bool i true) hb,rfl,by simp only[Ck.den,hb],h.1 (BK.yt hb)⟩
  | true=>exact⟨false,_,S.KW (t:=.bool i true) hb,rfl,by simp only[Ck.den,hb];rfl,h.2 (BK.yt hb)⟩
 | false=>
  cases neg with
  | false=>exact⟨false,_,S.KW (t:=.bool i false) hb,rfl,by simp only[Ck.den,hb],h.2 (BK.AG1 hb)⟩
  | true=>exact⟨true,_,S.KW (t:=.bool i false) hb,rfl,by simp only[Ck.den,hb];rfl,h.1 (BK.AG1 hb)⟩
def S.onV (s:S)(v:Option SV)(K:Bool->S->Prop):Prop:=
 match v with
 | some (.v (.a (.bl b)))=>K b s
 | some (.v (.a (.bs i n)))=>s.onB i n K
 | _=>False
theorem S.HP {s:S}{v:Option SV}{K:Bool->S->Prop}(h:s.onV v K):∃t G x,s.KV G/\G.vl=s.vl/\v=some x/\x.den s.vl=.bool t/\K t G:=by
 unfold S.onV at h;split at h
 .exact⟨_,s,_,.refl s,rfl,rfl,rfl,h⟩
 .obtain⟨t,G,h1,h2,h3,h4⟩:=S.ua h;exact⟨t,G,_,h1,h2,rfl,h3,h4⟩
 .cases h
def S.onP (s:S)(p:PV)(K:PV->S->Prop):Prop:=
 match p with
 | .at b o=>K (.at b o) s
 | .bx i o=>K (.bx i o) s
 | .var i=>∃(b o:Nat),nth none s.vl.ρ i=some ⟨b,o,none⟩/\K (.at b o) (s.tell (.ptr i b o))
 | .lit _=>False
def PV.V5 (v:Vl):PV->Nat
 | .at b _=>b
 | .bx i _=>nth 0 v.δ i
 | _=>0
def PV.off:PV->Nat
 | .at _ o=>o
 | .bx _ o=>o
 | _=>0
def PV.mv:PV->Nat->PV
 | .at b _,o=>.at b o
 | .bx i _,o=>.bx i o
 | p,_=>p
def PV.isA:PV->Bool
 | .at ..=>true
 | .bx ..=>true
 | _=>false
theorem PV.LK {v:Vl}{p:PV}(h:p.isA=true):p.den v=some ⟨p.V5 v,p.off,none⟩:=by cases p<;>first|rfl|cases h
theorem PV.nO {v:Vl}{p:PV}{o:Nat}(h:p.isA=true):(p.mv o).den v=some ⟨p.V5 v,o,none⟩:=by cases p<;>first|rfl|cases h
theorem S.bV {s:S}{p:PV}{K:PV->S->Prop}(h:s.onP p K):∃q G,s.KV G/\G.vl=s.vl/\q.isA=true/\q.den s.vl=p.den s.vl/\K q G:=by
 unfold S.onP at h;split at h
 .exact⟨_,s,.refl s,rfl,rfl,rfl,h⟩
 .exact⟨_,s,.refl s,rfl,rfl,rfl,h⟩
 .obtain⟨b,o,h1,h2⟩:=h;exact⟨.at b o,_,S.KW (t:=.ptr _ b o) h1,rfl,rfl,h1.symm,h2⟩
 .cases h
def iZ (P:Program)(t:TypeId):Option Nat:=(P.info? t).map (·.size)
theorem DY {P:Program}{t:TypeId}{n:Nat}(h:iZ P t=some n):∀w,(Go.sizeOf t).run P w=.ok n w:=λw=>by
 unfold iZ at h;cases hi:P.info? t with
 | none=>rw[hi]at h;cases h
 | some i=>rw[hi]at h;simp only[Aki,Ajv]at h;subst h;simp[Go.sizeOf,typeInfo,hi]
def ia (P:Program)(t:TypeId):Option Bool:=match P.underlying t with
 | some (.struct _)=>some true
 | some (.array _ _)=>some true
 | some _=>some false
 | none=>none
theorem Ga {P:Program}{t:TypeId}{b:Bool}(h:ia P t=some b):∀w,(isAgg t).run P w=.ok b w:=λw=>by
 unfold ia at h;cases hi:P.underlying t with
 | none=>rw[hi]at h;cases h
 | some d=>
  rw[hi]at h;cases d<;>simp only[Ajv]at h<;>subst h<;>simp[isAgg,run_underlying hi]
def iB:Option SV->Option (IntKind×Int)
 | some (.v (.a (.int k x)))=>some (k,x)
 | some (.v (.a (.num k x)))=>some (k,x)
 | _=>none
theorem Cw {v:Option SV}{k:IntKind}{x:Int}(h:iB v=some (k,x)):∃u,v=some u/\∀vl,u.den vl=.int k x:=by
 unfold iB at h;split at h
 .cases h;exact⟨_,rfl,λ_=>rfl⟩
 .cases h;exact⟨_,rfl,λ_=>rfl⟩
 .cases h
def YP (P:Program)(op:Op)(ty:TypeId)(s:S)(K:SV->S->Prop):Prop:=∃v G,s.KV G/\(∀J Z22,Yd P (s.e J) s.b Z22 op ty (v.den G.vl))/\K v G
def TM (wr:Bool)(k:IntKind)(z:Int)(s:S)(K:SV->S->Prop):Prop:=
 match wr,k with
 | false,.i64=>AL z/\K (.at (.int .i64 z)) s
 | _,_=>∀x,x=k.wrap z->K (.at (.int k x)) s
theorem eI {wr:Bool}{k:IntKind}{z:Int}{s:S}{K:SV->S->Prop}(h:TM wr k z s K):∃x,x=k.wrap z/\K (.at (.int k x)) s:=by
 unfold TM at h;split at h
 .exact⟨z,h.1.wrap.symm,h.2⟩
 .exact⟨_,rfl,h _ rfl⟩
def AJe (wr:Bool)(b:BinOp)(k:IntKind)(a:Int)(k':IntKind)(c:Int)(s:S)(K:SV->S->Prop):Prop:=
 match b with
 | .shl=>((0:Int)<=c/\c<=((IntKind.bits k:Nat):Int))/\∀x,x=k.wrap (a*2^c.toNat)->K (.at (.int k x)) s
 | .shr=>((0:Int)<=c/\c<=((IntKind.bits k:Nat):Int))/\∀x,x=a/2^c.toNat->K (.at (.int k x)) s
 | b=>match decide (k=k') with
  | false=>False
  | true=>match b with
   | .lss=>s.boo (.prop (a<c) inferInstance) false K
   | .leq=>s.boo (.prop (a<=c) inferInstance) false K
   | .gtr=>s.boo (.prop (c<a) inferInstance) false K
   | .geq=>s.boo (.prop (c<=a) inferInstance) false K
   | .eql=>s.boo (.prop (a=c) inferInstance) false K
   | .neq=>s.boo (.prop (a≠c) inferInstance) false K
   | .add=>TM wr k (a+c) s K
   | .sub=>TM wr k (a-c) s K
   | .mul=>TM wr k (a*c) s K
   | .and=>∀x,x=Go.bits .and k a c->K (.at (.int k x)) s
   | .or=>∀x,x=Go.bits .or k a c->K (.at (.int k x)) s
   | .xor=>∀x,x=Go.bits .xor k a c->K (.at (.int k x)) s
   | .andNot=>∀x,x=Go.bits .andNot k a c->K (.at (.int k x)) s
   | .quo=>c≠(0:Int)/\∀x,x=k.wrap (a.tdiv c)->K (.at (.int k x)) s
   | .rem=>c≠(0:Int)/\∀x,x=a.tmod c->K (.at (.int k x)) s
   | _=>False
section
variable {P:Program}{s:S}{K:SV->S->Prop}{T T' ty:TypeId}{x y z:Operand}
theorem J6 {op:Op}{k:BK}{neg:Bool}(h:s.boo k neg K)(hy:∀J Z22,Yd P (s.e J) s.b Z22 op ty (.bool (bif neg then !k.val else k.val))):YP P op ty s K:=by
 obtain⟨v,s',G,h2,h3⟩:=S.uZ h;exact⟨v,s',G,λJ Z22=>by rw[h2];exact hy J Z22,h3⟩
theorem J7 {op:Op}{k:IntKind}{z:Int}(h:∀x,x=z->K (.at (.int k x)) s)(G:∀J Z22,Yd P (s.e J) s.b Z22 op ty (.int k z)):YP P op ty s K:=
 ⟨.at (.int k z),s,.refl s,G,h _ rfl⟩
theorem CZ {op:Op}{v:SV}(h:K v s)(G:∀J Z22,Yd P (s.e J) s.b Z22 op ty (v.den s.vl)):YP P op ty s K:=⟨v,s,.refl s,G,h⟩
theorem nP {wr:Bool}{b:BinOp}{k k':IntKind}{a c:Int}(h:AJe wr b k a k' c s K)(hx:∀J,AD (s.e J) x=.int k a)(G:∀J,AD (s.e J) y=.int k' c):YP P (.binOp b T x y T') ty s K:=by
 have ar:∀{z:Int} {op:Op},TM wr k z s K->(∀J Z22,Yd P (s.e J) s.b Z22 op ty (.int k (k.wrap z)))->YP P op ty s K:=λh G=>by
  obtain⟨x,rfl,h⟩:=eI h;exact CZ h G
 unfold AJe at h;split at h
 .exact J7 h.2 λJ Z22=>Y.shl h.1.1 h.1.2 (hx J) (G J)
 .exact J7 h.2 λJ Z22=>Y.shr h.1.1 h.1.2 (hx J) (G J)
 .split at h
  .cases h
  .rename_i hk;have hk:=Ajx hk;subst hk;split at h
   .exact J6 h λJ Z22=>Y.lss (hx J) (G J)
   .exact J6 h λJ Z22=>Y.leq (hx J) (G J)
   .exact J6 h λJ Z22=>Y.gtr (hx J) (G J)
   .exact J6 h λJ Z22=>Y.geq (hx J) (G J)
   .exact J6 h λJ Z22=>Y.eql (hx J) (G J)
   .exact J6 h λJ Z22=>Y.neq (hx J) (G J)
   .exact ar h λJ Z22=>Y.add (hx J) (G J)
   .exact ar h λJ Z22=>Y.sub (hx J) (G J)
   .exact ar h λJ Z22=>Y.mul (hx J) (G J)
   .exact J7 h λJ Z22=>Y.bits (by simp) (hx J) (G J)
   .exact J7 h λJ Z22=>Y.bits (by simp) (hx J) (G J)
   .exact J7 h λJ Z22=>Y.bits (by simp) (hx J) (G J)
   .exact J7 h λJ Z22=>Y.bits (by simp) (hx J) (G J)
   .exact J7 h.2 λJ Z22=>Y.quo h.1 (hx J) (G J)
   .exact J7 h.2 λJ Z22=>Y.rem h.1 (hx J) (G J)
   .cases h
def asS:Option SV->Option ByteArray
 | some (.v (.a (.str u)))=>some u
 | _=>none
def yx:Option SV->Option PV
 | some (.v (.a (.pt p)))=>some p
 | _=>none
theorem ib {v:Option SV}{u:ByteArray}(h:asS v=some u):∃w,v=some w/\∀vl,w.den vl=.string u:=by
 unfold asS at h;split at h
 .cases h;exact⟨_,rfl,λ_=>rfl⟩
 .cases h
theorem Gb {v:Option SV}{p:PV}(h:yx v=some p):∃w,v=some w/\∀vl,w.den vl=.pointer (p.den vl):=by
 unfold yx at h;split at h
 .cases h;exact⟨_,rfl,λ_=>rfl⟩
 .cases h
def AOh (b:BinOp)(u w:ByteArray)(s:S)(K:SV->S->Prop):Prop:=
 match b with
 | .eql=>s.boo (.var (ByteArray.toList u==ByteArray.toList w)) false K
 | .neq=>s.boo (.var (ByteArray.toList u==ByteArray.toList w)) true K
 | .add=>(ByteArray.size u+ByteArray.size w<=9223372036854775807)/\K (.at (.str (u++w))) s
 | _=>False
def isNil:PV->Bool
 | .lit none=>true
 | _=>false
def AOi (b:BinOp)(p q:PV)(s:S)(K:SV->S->Prop):Prop:=
 match isNil q with
 | false=>False
 | true=>match b with
  | .eql=>match p.isA with
   | true=>K (.at (.bl false)) s
   | false=>s.boo (.var (Option.isNone (p.den s.vl))) false K
  | .neq=>match p.isA with
   | true=>K (.at (.bl true)) s
   | false=>s.boo (.var (Option.isSome (p.den s.vl))) false K
  | _=>False
def AOj (b:BinOp)(x y:Operand)(s:S)(K:SV->S->Prop):Prop:=
 match b with
 | .eql=>s.onV (s.op x) λt s=>s.onV (s.op y) λu s=>K (.at (.bl (t==u))) s
 | .neq=>s.onV (s.op x) λt s=>s.onV (s.op y) λu s=>K (.at (.bl (!(t==u)))) s
 | _=>False
def AJf (P:Program)(wr:Bool)(b:BinOp)(T:TypeId)(x y:Operand)(s:S)(K:SV->S->Prop):Prop:=
 match iB (s.op x),iB (s.op y) with
 | some (k,a),some (k',c)=>AJe wr b k a k' c s K
 | _,_=>match P.underlying T with
  | some .string=>match asS (s.op x),asS (s.op y) with
   | some u,some w=>AOh b u w s K
   | _,_=>False
  | some (.pointer _)=>match yx (s.op x),yx (s.op y) with
   | some p,some q=>AOi b p q s K
   | _,_=>False
  | some .bool=>AOj b x y s K
  | _=>False
theorem ev {J:Env}{v:SV}(h:s.op x=some v):AD (s.e J) x=v.den s.vl:=S.AD5 h
theorem nQ {wr:Bool}{b:BinOp}(h:AJf P wr b T x y s K):YP P (.binOp b T x y T') ty s K:=by
 unfold AJf at h;split at h
 .rename_i k a k' c G h2;obtain⟨u,e1,e2⟩:=Cw G;obtain⟨w,e3,e4⟩:=Cw h2;exact nP h (λJ=>by rw[ev e1,e2]) (λJ=>by rw[ev e3,e4])
 .split at h
  .rename_i hT;split at h
   .rename_i u w G h2;obtain⟨_,e1,e2⟩:=ib G;obtain⟨_,e3,e4⟩:=ib h2;unfold AOh at h;split at h
    .exact J6 h λJ Z22=>Y.AXS hT (by rw[ev e1,e2]) (by rw[ev e3,e4])
    .exact J6 h λJ Z22=>Y.AXT hT (by rw[ev e1,e2]) (by rw[ev e3,e4])
    .exact CZ h.2 λJ Z22=>Y.AJY hT (by rw[ev e1,e2]) (by rw[ev e3,e4]) h.1
    .cases h
   .cases h
  .rename_i hT;split at h
   .rename_i p q G h2;obtain⟨_,e1,e2⟩:=Gb G;obtain⟨_,e3,e4⟩:=Gb h2;unfold AOi at h;split at h
    .cases h
    .rename_i hq;have hqn:q.den s.vl=none:=by
      unfold isNil at hq;split at hq
      .rfl
      .cases hq
     have e5:∀J,AD (s.e J) y=.pointer none:=λJ=>by rw[ev e3,e4,hqn]
     split at h
     .split at h
      .rename_i hp;exact CZ h λJ Z22=>by
        have:=Y.yd (P:=P) (e:=s.e J) (bx:=s.b) (Z22:=Z22) (ty:=ty) (T':=T') hT (x:=x) (y:=y) (q:=p.den s.vl) (by rw[ev e1,e2]) (e5 J);rw[PV.LK hp]at this;exact this
      .exact J6 h λJ Z22=>Y.yd hT (by rw[ev e1,e2]) (e5 J)
     .split at h
      .rename_i hp;exact CZ h λJ Z22=>by
        have:=Y.ye (P:=P) (e:=s.e J) (bx:=s.b) (Z22:=Z22) (ty:=ty) (T':=T') hT (x:=x) (y:=y) (q:=p.den s.vl) (by rw[ev e1,e2]) (e5 J);rw[PV.LK hp]at this;exact this
      .exact J6 h λJ Z22=>Y.ye hT (by rw[ev e1,e2]) (e5 J)
     .cases h
   .cases h
  .rename_i hT;unfold AOj at h;split at h
   .obtain⟨t,s1,v1,G,h2,h3,h4,h⟩:=S.HP h;obtain⟨u,s2,v2,g1,g2,g3,g4,h⟩:=S.HP h;exact⟨_,s2,G.trans g1,λJ Z22=>Y.AXQ hT (by rw[ev h3,h4]) (by rw[<-G.e J,ev g3,g4]),h⟩
   .obtain⟨t,s1,v1,G,h2,h3,h4,h⟩:=S.HP h;obtain⟨u,s2,v2,g1,g2,g3,g4,h⟩:=S.HP h;exact⟨_,s2,G.trans g1,λJ Z22=>Y.AXR hT (by rw[ev h3,h4]) (by rw[<-G.e J,ev g3,g4]),h⟩
   .cases h
  .cases h
end
def S.val (s:S)(x:Operand)(K:SV->S->Prop):Prop:=match s.op x with
 | some v=>K v s
 | none=>False
def AG2 (x y z:Operand)(s:S)(K:SV->S->Prop):Prop:=s.onV (s.op z) λt s=>match t with
 | true=>s.val x K
 | false=>s.val y K
def AJg (x:Operand)(s:S)(K:SV->S->Prop):Prop:=match s.op x with
 | some (.v (.a (.bl true)))=>K (.at (.bl false)) s
 | some (.v (.a (.bl false)))=>K (.at (.bl true)) s
 | some (.v (.a (.bs i n)))=>K (.at (.bs i (!n))) s
 | _=>False
def AJh (x:Operand)(s:S)(K:SV->S->Prop):Prop:=match iB (s.op x) with
 | some (k,a)=>∀x,x=k.wrap (0-a)->K (.at (.int k x)) s
 | none=>False
def yz (P:Program)(T T':TypeId)(x:Operand)(s:S)(K:SV->S->Prop):Prop:=match (P.underlying T).isSome,P.underlying T' with
 | true,some (.int k')=>match s.op x with
  | some (.v (.a (.num k a)))=>K (.at (.num k' (k'.wrap a))) s
  | some (.v (.a (.int k a)))=>∀x,x=k'.wrap a->K (.at (.int k' x)) s
  | _=>False
 | _,_=>False
def AJi (P:Program)(T:TypeId)(x:Operand)(f:Nat)(s:S)(K:SV->S->Prop):Prop:=match P.underlying T with
 | some (.struct G)=>match G[f]? with
  | some fd=>match iZ P fd.type,yx (s.op x) with
   | some (_+1),some p=>match p.isA with
    | true=>K (.at (.pt (p.mv (p.off+fd.offset)))) s
    | false=>False
   | _,_=>False
  | none=>False
 | _=>False
def Fp {α:Type}:List α->Nat->Option α
 | [],_=>none
 | x::_,0=>some x
 | _::l,n+1=>Fp l n
def AJj (x:Operand)(i:Nat)(s:S)(K:SV->S->Prop):Prop:=match s.op x with
 | some (.bR l)=>match Fp l i with
  | some u=>K (.v u) s
  | none=>False
 | _=>False
def nR (P:Program)(T:TypeId)(x:Operand)(f:Nat)(s:S)(K:SV->S->Prop):Prop:=match P.underlying T,s.op x with
 | some (.struct G),some (.v (.agg l))=>match G[f]? with
  | some fd=>match ia P fd.type with
   | some false=>match Fp l fd.offset with
    | some u=>K (.at u) s
    | none=>False
   | some true=>match iZ P fd.type with
    | some n=>K (.v (.agg ((l.drop fd.offset).take n))) s
    | none=>False
   | none=>False
  | none=>False
 | _,_=>False
def isNum:Option SV->Bool
 | some (.v (.a (.num _ _)))=>true
 | _=>false
def AJk (P:Program)(T:TypeId)(x y:Operand)(s:S)(K:SV->S->Prop):Prop:=match iB (s.op y) with
 | none=>False
 | some (_,i)=>match P.underlying T with
  | some (.slice E)=>match iZ P E,s.op x with
   | some z,some (.v (.a (.sl p n c)))=>s.onP p λq s=>((0:Int)<=i/\i<((n:Nat):Int))/\K (.at (.pt (q.mv (q.off+i.toNat*z)))) s
   | _,_=>False
  | some (.array n E)=>match iZ P E,yx (s.op x) with
   | some z,some p=>match p.isA with
    | false=>False
    | true=>match isNum (s.op y) with
     | true=>match decide (0<=i/\i<(n:Int)) with
      | true=>K (.at (.pt (p.mv (p.off+i.toNat*z)))) s
      | false=>False
     | false=>((0:Int)<=i/\i<((n:Nat):Int))/\K (.at (.pt (p.mv (p.off+i.toNat*z)))) s
   | _,_=>False
  | _=>False
def ic:List Ck->Option (List ByteArray)
 | []=>some []
 | .str w::l=>match ic l with
  | some r=>some (w::r)
  | none=>none
 | _::_=>none
def zA (P:Program)(T:TypeId)(x y:Operand)(s:S)(K:SV->S->Prop):Prop:=match P.underlying T,s.op x,iB (s.op y) with
 | some .string,some (.v (.a (.str w))),some (_,i)=>∃u:UInt8,(0:Int)<=i/\(ByteArray.data w)[Int.toNat i]?=some u/\K (.at (.int .u8 ((UInt8.toNat u:Nat):Int))) s
 | some (.array n E),some (.v (.agg l)),some (_,i)=>match ia P E,iZ P E,ic l with
  | some false,some 1,some r=>((0:Int)<=i/\i<((n:Nat):Int))/\∃u:ByteArray,r[Int.toNat i]?=some u/\K (.at (.str u)) s
  | _,_,_=>False
 | _,_,_=>False
def AJl (x:Operand)(s:S)(K:SV->S->Prop):Prop:=match s.op x with
 | some (.v (.a (.fn f a b)))=>K (.at (.fn f a b)) s
 | some (.v (.a (.pt p)))=>s.onP p λq s=>K (.at (.pt q)) s
 | _=>False
def S.eJ (s:S):List Operand->Option (List SV)
 | []=>some []
 | x::l=>match s.op x,s.eJ l with
  | some v,some r=>some (v::r)
  | _,_=>none
def DK (vl:Vl):List SV->List Value
 | []=>[]
 | x::l=>x.den vl::DK vl l
def AJm (fn:Fn)(xs ys:Array Operand)(s:S)(K:SV->S->Prop):Prop:=match fn with
 | .func f=>match s.eJ xs.toList,s.eJ ys.toList with
  | some a,some b=>K (.at (.fn f (DK s.vl a).toArray (DK s.vl b).toArray)) s
  | _,_=>False
 | _=>False
def nS (P:Program)(T:TypeId)(x:Operand)(s:S)(K:SV->S->Prop):Prop:=match P.underlying T with
 | some d=>match isIf d with
  | false=>match s.op x with
   | some v=>K (.at (.raw (.iface T (v.den s.vl)))) s
   | none=>False
  | true=>False
 | none=>False
def AJn (P:Program)(x:Operand)(ts:Array TypeId)(s:S)(K:SV->S->Prop):Prop:=match ts.toList,s.op x with
 | [T],some (.v (.a (.sl _ n _)))=>match P.underlying T with
  | some (.slice _)=>K (.at (.int .i64 ((n:Nat):Int))) s
  | _=>False
 | [T],some (.v (.a (.str w)))=>match P.underlying T with
  | some .string=>K (.at (.int .i64 ((ByteArray.size w:Nat):Int))) s
  | _=>False
 | _,_=>False
def AJo (P:Program)(x:Operand)(ts:Array TypeId)(s:S)(K:SV->S->Prop):Prop:=match ts.toList,s.op x with
 | [T],some (.v (.a (.sl _ _ c)))=>match P.underlying T with
  | some (.slice _)=>K (.at (.int .i64 ((c:Nat):Int))) s
  | _=>False
 | _,_=>False
section
variable {P:Program}{s:S}{K:SV->S->Prop}{T T' ty:TypeId}{x y z:Operand}
theorem bW {op:Op}(h:s.val x K)(G:∀v J Z22,AD (s.e J) x=v->Yd P (s.e J) s.b Z22 op ty v):YP P op ty s K:=by
 unfold S.val at h;split at h
 .rename_i v hv;exact CZ h λJ Z22=>G _ J Z22 (ev hv)
 .cases h
theorem ig (h:AG2 x y z s K):YP P (.pick z x y) ty s K:=by
 obtain⟨t,s1,v1,G,h2,h3,h4,h⟩:=S.HP h;have hz:∀J,AD (s.e J) z=.bool t:=λJ=>by rw[ev h3,h4]
 cases t with
 | true=>
  simp only[S.val]at h;split at h
  .rename_i v hv;exact⟨v,s1,G,λJ Z22=>Y.AGv (hz J) (by rw[<-G.e J];exact ev hv),h⟩
  .cases h
 | false=>
  simp only[S.val]at h;split at h
  .rename_i v hv;exact⟨v,s1,G,λJ Z22=>Y.AGw (hz J) (by rw[<-G.e J];exact ev hv),h⟩
  .cases h
theorem nT (h:AJg x s K):YP P (.unOp .not T x) ty s K:=by
 unfold AJg at h;split at h
 .rename_i hv;exact CZ h λJ Z22=>Y.not (p:=true) (by rw[ev hv];rfl)
 .rename_i hv;exact CZ h λJ Z22=>Y.not (p:=false) (by rw[ev hv];rfl)
 .rename_i i n hv;refine CZ h λJ Z22=>?_;cases n with
  | false=>exact Y.not (by rw[ev hv];rfl)
  | true=>
   have:=Y.not (P:=P) (e:=s.e J) (bx:=s.b) (Z22:=Z22) (ty:=ty) (T:=T) (x:=x) (p:=!(nth (.var false) s.vl.β i).val) (by rw[ev hv];rfl);rw[Bool.not_not]at this;exact this
 .cases h
theorem nU (h:AJh x s K):YP P (.unOp .neg T x) ty s K:=by
 unfold AJh at h;split at h
 .rename_i k a hv;obtain⟨u,G,e2⟩:=Cw hv;exact J7 h λJ Z22=>Y.neg (by rw[ev G,e2])
 .cases h
theorem ij (h:yz P T T' x s K):YP P (.convert T T' x) ty s K:=by
 unfold yz at h;split at h
 .rename_i G h2;split at h
  .rename_i hv;exact CZ h λJ Z22=>Y.conv G h2 (by rw[ev hv];rfl)
  .rename_i hv;exact J7 h λJ Z22=>Y.conv G h2 (by rw[ev hv];rfl)
  .cases h
 .cases h
theorem nW {f:Nat}(h:AJi P T x f s K):YP P (.fieldAddr T x f) ty s K:=by
 unfold AJi at h;split at h
 .rename_i fs hT;split at h
  .rename_i fd hf;split at h
   .rename_i n p hz hp;split at h
    .rename_i G;obtain⟨u,e1,e2⟩:=Gb hp;refine CZ h λJ Z22=>?_;have:=Y.fieldAddr (P:=P) (e:=s.e J) (bx:=s.b) (Z22:=Z22) (ty:=ty) (x:=x) (a':=⟨p.V5 s.vl,p.off+fd.offset,none⟩) hT hf (DY hz) (by rw[ev e1,e2,PV.LK G]) rfl;simpa only[SV.den,Ih.den,Ck.den,PV.nO G] using this
    .cases h
   .cases h
  .cases h
 .cases h
theorem TN {vl:Vl}:∀{l:List Ck} {i:Nat} {u:Ck},Fp l i=some u->(Bj vl l)[i]?=some (u.den vl)
 | x::l,0,u,h=>by simp only[Fp,Ajv]at h;subst h;rfl
 | x::l,i+1,u,h=>by simp only[Fp]at h;simp only[Bj,AkU];exact TN h
theorem V6 {vl:Vl}:∀{l:List Ih} {i:Nat} {u:Ih},Fp l i=some u->(Jg vl l)[i]?=some (u.den vl)
 | x::l,0,u,h=>by simp only[Fp,Ajv]at h;subst h;rfl
 | x::l,i+1,u,h=>by simp only[Fp]at h;simp only[Jg,AkU];exact V6 h
theorem V7 (vl:Vl):∀l:List Ck,Bj vl l=l.map (Ck.den vl)
 | []=>rfl
 | x::l=>by simp only[Bj,AkR];rw[V7 vl l]
theorem nX {i:Nat}(h:AJj x i s K):YP P (.extract x i) ty s K:=by
 unfold AJj at h;split at h
 .rename_i l hv;split at h
  .rename_i u G;exact CZ h λJ Z22=>Y.extract (by rw[ev hv];rfl) (by simpa[SV.den] using V6 G)
  .cases h
 .cases h
theorem eL {f:Nat}(h:nR P T x f s K):YP P (.field T x f) ty s K:=by
 unfold nR at h;split at h
 .rename_i fs l hT hv;split at h
  .rename_i fd hf;split at h
   .rename_i G;split at h
    .rename_i u hu;exact CZ h λJ Z22=>Y.AJG hT hf (Ga G) (by rw[ev hv];rfl) (by simpa[SV.den,Ih.den] using TN hu)
    .cases h
   .rename_i G;split at h
    .rename_i n hn;refine CZ h λJ Z22=>?_;have:=Y.AJH (P:=P) (e:=s.e J) (bx:=s.b) (Z22:=Z22) (ty:=ty) (x:=x) hT hf (Ga G) (DY hn) (cs:=(Bj s.vl l).toArray) (by rw[ev hv];rfl) (cs':=(Bj s.vl ((l.drop fd.offset).take n)).toArray) (by simp[V7,Amq]);exact this
    .cases h
   .cases h
  .cases h
 .cases h
theorem nY (h:AJk P T x y s K):YP P (.indexAddr T x y) ty s K:=by
 unfold AJk at h;split at h
 .cases h
 .rename_i k i hi;obtain⟨u,e1,e2⟩:=Cw hi;have hy:∀J,AD (s.e J) y=.int k i:=λJ=>by rw[ev e1,e2]
  split at h
  .rename_i E G;split at h
   .rename_i z p n c hz hv;obtain⟨q,s',h1,h2,h3,h4,h5,h⟩:=S.bV h;refine⟨_,s',h1,λJ Z22=>?_,h⟩;have:=Y.idx (P:=P) (e:=s.e J) (bx:=s.b) (Z22:=Z22) (ty:=ty) (x:=x) (y:=y) (a':=⟨q.V5 s.vl,q.off+i.toNat*z,none⟩) G (DY hz) (b:=q.V5 s.vl) (o:=q.off) (n:=n) (c:=c) (by
     rw[ev hv];show Value.slice (p.den s.vl) n c=_;rw[<-h4,PV.LK h3]) (hy J) h5 rfl
    simpa only[SV.den,Ih.den,Ck.den,h2,PV.nO h3] using this
   .cases h
  .rename_i n E G;split at h
   .rename_i z p hz hp;obtain⟨u2,e3,e4⟩:=Gb hp;split at h
    .cases h
    .rename_i hA;have go:(0<=i/\i<(n:Int))->K (.at (.pt (p.mv (p.off+i.toNat*z)))) s->YP P (.indexAddr T x y) ty s K:=λhr hk=>by
      refine CZ hk λJ Z22=>?_;have:=Y.AXG (P:=P) (e:=s.e J) (bx:=s.b) (Z22:=Z22) (ty:=ty) (x:=x) (y:=y) (a':=⟨p.V5 s.vl,p.off+i.toNat*z,none⟩) G (DY hz) (b:=p.V5 s.vl) (o:=p.off) (by rw[ev e3,e4,PV.LK hA]) (hy J) hr rfl;simpa only[SV.den,Ih.den,Ck.den,PV.nO hA] using this
     split at h
     .split at h
      .rename_i hd;exact go (Ajx hd) h
      .cases h
     .exact go h.1 h.2
   .cases h
  .cases h
theorem bX {vl:Vl}:∀{l:List Ck} {r:List ByteArray},ic l=some r->Bj vl l=r.map .string
 | [],r,h=>by simp only[ic,Ajv]at h;subst h;rfl
 | x::l,r,h=>by
  cases x<;>simp only[ic]at h<;>try (cases h;done)
  split at h
  .rename_i r' G;cases h;simp only[Bj,AkR,bX G];rfl
  .cases h
theorem il (h:zA P T x y s K):YP P (.index T x y) ty s K:=by
 unfold zA at h;split at h
 .rename_i w k i hT hx hy;obtain⟨u2,G,e4⟩:=Cw hy;obtain⟨u,h0,h1,h⟩:=h;exact CZ h λJ Z22=>Y.AJJ hT (by rw[ev hx];rfl) (by rw[ev G,e4]) h0 h1
 .rename_i n E l k i hT hx hy;obtain⟨u2,G,e4⟩:=Cw hy;split at h
  .rename_i r ha hz hr;obtain⟨h0,u,h1,h⟩:=h;refine CZ h λJ Z22=>Y.AJI hT (Ga ha) (DY hz) (cs:=(Bj s.vl l).toArray) (by rw[ev hx];rfl) (by rw[ev G,e4]) h0 ?_;rw[bX hr];simp[h1]
  .cases h
 .cases h
theorem nZ (h:AJl x s K):YP P (.nilCheck x) ty s K:=by
 unfold AJl at h;split at h
 .rename_i hv;exact CZ h λJ Z22=>Y.uW (by rw[ev hv];rfl)
 .rename_i p hv;obtain⟨q,s',h1,h2,G,h4,h⟩:=S.bV h;refine⟨_,s',h1,λJ Z22=>?_,h⟩;have:=Y.nilCheck (P:=P) (e:=s.e J) (bx:=s.b) (Z22:=Z22) (ty:=ty) (x:=x) (a:=⟨q.V5 s.vl,q.off,none⟩) (by
   rw[ev hv];show Value.pointer (p.den s.vl)=_;rw[<-h4,PV.LK G])
  simpa only[SV.den,Ih.den,Ck.den,h2,PV.LK G] using this
 .cases h
theorem Dz:∀{l:List Operand} {r:List SV} {J:Env},s.eJ l=some r->l.map (AD (s.e J))=DK s.vl r
 | [],r,J,h=>by simp only[S.eJ,Ajv]at h;subst h;rfl
 | x::l,r,J,h=>by
  simp only[S.eJ]at h;split at h
  .rename_i v r' G h2;cases h;simp only[AkR,DK];rw[ev G,Dz h2]
  .cases h
theorem ng {fn:Fn}{xs ys:Array Operand}(h:AJm fn xs ys s K):YP P (.makeFunc fn xs ys) ty s K:=by
 unfold AJm at h;split at h
 .split at h
  .rename_i a b G h2;exact CZ h λJ Z22=>Y.makeFunc (by simpa using Dz G) (by simpa using Dz h2)
  .cases h
 .cases h
theorem eP (h:nS P T x s K):YP P (.makeInterface T x) ty s K:=by
 unfold nS at h;split at h
 .rename_i d G;split at h
  .rename_i hd;split at h
   .rename_i v hv;exact CZ h λJ Z22=>Y.iface G hd (ev hv)
   .cases h
  .cases h
 .cases h
theorem nh {ts:Array TypeId}(h:AJn P x ts s K):YP P (.call { callee:=.builtin .len,args:=#[x],argTypes:=ts }) ty s K:=by
 unfold AJn at h;split at h
 .rename_i T p n c G hv;have iA:ts=#[T]:=by rw[<-AkD];simpa using G
  split at h
  .rename_i hT;exact CZ h λJ Z22=>Y.AJE hT (by rw[ev hv];rfl) iA
  .cases h
 .rename_i T w G hv;have iA:ts=#[T]:=by rw[<-AkD];simpa using G
  split at h
  .rename_i hT;exact CZ h λJ Z22=>Y.AJF hT (by rw[ev hv];rfl) iA
  .cases h
 .cases h
theorem nj {ts:Array TypeId}(h:AJo P x ts s K):YP P (.call { callee:=.builtin .cap,args:=#[x],argTypes:=ts }) ty s K:=by
 unfold AJo at h;split at h
 .rename_i T p n c G hv;have iA:ts=#[T]:=by rw[<-AkD];simpa using G
  split at h
  .rename_i hT;exact CZ h λJ Z22=>Y.AXF hT (by rw[ev hv];rfl) iA
  .cases h
 .cases h
end
def isZero:Option SV->Bool
 | some (.v (.a (.num _ 0)))=>true
 | _=>false
def nk (P:Program)(T:TypeId)(x:Operand)(lo hi:Option Operand)(s:S)(K:SV->S->Prop):Prop:=match P.underlying T,s.op x with
 | some (.slice E),some (.v (.a (.sl p n c)))=>match iZ P E with
  | none=>False
  | some z=>match lo,hi with
   | none,none=>True/\K (.at (.sl p n c)) s
   | none,some h=>match iB (s.op h) with
    | some (_,h)=>((0:Int)<=h/\h<=((c:Nat):Int))/\K (.at (.sl p (Int.toNat h) c)) s
    | none=>False
   | some l,none=>match isZero (s.op l) with
    | true=>((0:Int)<=0/\(0:Int)<=((n:Nat):Int))/\K (.at (.sl p n c)) s
    | false=>match iB (s.op l) with
     | some (_,l)=>((0:Int)<=l/\l<=((n:Nat):Int))/\K (.at (.sl (.lit (Ee (p.den s.vl) (Int.toNat l) c z)) (n-Int.toNat l) (c-Int.toNat l))) s
     | none=>False
   | some l,some h=>match iB (s.op h) with
    | none=>False
    | some (_,h)=>match isZero (s.op l) with
     | true=>((0:Int)<=0/\(0:Int)<=h/\h<=((c:Nat):Int))/\K (.at (.sl p (Int.toNat h) c)) s
     | false=>match iB (s.op l) with
      | some (_,l)=>((0:Int)<=l/\l<=h/\h<=((c:Nat):Int))/\K (.at (.sl (.lit (Ee (p.den s.vl) (Int.toNat l) c z)) (Int.toNat h-Int.toNat l) (c-Int.toNat l))) s
      | none=>False
 | _,_=>False
def AEA {α:Type}:List α->Nat->α->List α
 | [],_,_=>[]
 | _::l,0,y=>y::l
 | x::l,n+1,y=>x::AEA l n y
def nr:List Ck->Nat->List Ck->List Ck
 | c,_,[]=>c
 | c,o,x::l=>nr (AEA c o x) (o+1) l
def Ck.one:Ck->Bool
 | .raw v=>v.oneCell'
 | _=>true
def SV.flat:SV->Option (List Ck)
 | .v (.a x)=>match x.one with
  | true=>some [x]
  | false=>none
 | .v (.agg l)=>some l
 | .bR _=>none
def bY (G:Nat->Option (Nat×Nat)):List Ck->List (Nat×SV)->Option (List Ck)
 | c,[]=>some c
 | c,(i,v)::r=>match G i,v.flat with
  | some (off,z),some l=>match decide (l.length≠z)||decide (off+l.length > c.length) with
   | true=>none
   | false=>bY G (nr c off l) r
  | _,_=>none
def S.parts (s:S):List (Nat×Operand)->Option (List (Nat×SV))
 | []=>some []
 | (i,x)::l=>match s.op x,s.parts l with
  | some v,some r=>some ((i,v)::r)
  | _,_=>none
def RE (vl:Vl):List (Nat×SV)->List (Nat×Value)
 | []=>[]
 | (i,x)::l=>(i,x.den vl)::RE vl l
def R3 (P:Program):List Field->Option (List (Nat×Nat))
 | []=>some []
 | f::l=>match iZ P f.type,R3 P l with
  | some z,some r=>some ((f.offset,z)::r)
  | _,_=>none
def nu (P:Program)(T:TypeId)(ps:List (Nat×SV)):Option (List Ck):=
 match P.info? T,P.underlying T with
 | some G,some (.array _ e)=>match G.zero,iZ P e with
  | some z,some ie=>bY (λi=>some (i*ie,ie)) (UF z.cells.toList) ps
  | _,_=>none
 | some G,some (.struct fs)=>match G.zero,R3 P fs.toList with
  | some z,some pl=>bY (λi=>Fp pl i) (UF z.cells.toList) ps
  | _,_=>none
 | _,_=>none
def nz (P:Program)(T:TypeId)(ps:Array (Nat×Operand))(s:S)(K:SV->S->Prop):Prop:=match s.parts ps.toList with
 | none=>False
 | some vs=>match nu P T vs with
  | some l=>K (.v (.agg l)) s
  | none=>False
section
variable {P:Program}{s:S}{K:SV->S->Prop}{T T' ty:TypeId}{x y z:Operand}
theorem UG {J:Env}(h:isZero (s.op x)=true):∃k,AD (s.e J) x=.int k 0:=by
 cases hv:s.op x with
 | none=>rw[hv]at h;cases h
 | some v=>
  rw[hv]at h;unfold isZero at h;split at h
  .rename_i k G;cases G;exact⟨k,by rw[ev hv];rfl⟩
  .cases h
theorem eQ {lo hi:Option Operand}(h:nk P T x lo hi s K):YP P (.slice T x lo hi none) ty s K:=by
 unfold nk at h;split at h
 .rename_i E p n c hT hv;have hx:∀J,AD (s.e J) x=.slice (p.den s.vl) n c:=λJ=>by rw[ev hv];rfl
  split at h
  .cases h
  .rename_i z hz;split at h
   .exact CZ h.2 λJ Z22=>Y.sla hT (DY hz) (hx J) trivial
   .split at h
    .rename_i h1;obtain⟨u,e1,e2⟩:=Cw h1;exact CZ h.2 λJ Z22=>Y.slh hT (DY hz) (hx J) (by rw[ev e1,e2]) h.1
    .cases h
   .split at h
    .rename_i G;exact CZ h.2 λJ Z22=>Y.AXP hT (DY hz) (hx J) (UG G).choose_spec h.1
    .split at h
     .rename_i h1;obtain⟨u,e1,e2⟩:=Cw h1;exact CZ h.2 λJ Z22=>Y.sll hT (DY hz) (hx J) (by rw[ev e1,e2]) h.1
     .cases h
   .split at h
    .cases h
    .rename_i h2;obtain⟨u,e1,e2⟩:=Cw h2;split at h
     .rename_i G;exact CZ h.2 λJ Z22=>Y.AOV hT (DY hz) (hx J) (UG G).choose_spec (by rw[ev e1,e2]) h.1
     .split at h
      .rename_i h1;obtain⟨u2,e3,e4⟩:=Cw h1;exact CZ h.2 λJ Z22=>Y.AOU hT (DY hz) (hx J) (by rw[ev e3,e4]) (by rw[ev e1,e2]) h.1
      .cases h
 .cases h
theorem bZ {vl:Vl}{a:Ck}:∀{l:List Ck} {i:Nat},Bj vl (AEA l i a)=(Bj vl l).set i (a.den vl)
 | [],_=>rfl
 | x::l,0=>rfl
 | x::l,i+1=>by simp only[AEA,Bj,Al2];rw[bZ]
theorem V8 {vl:Vl}:∀{l c:List Ck} {o:Nat},(Bj vl (nr c o l)).toArray=LF (Bj vl c).toArray o (Bj vl l)
 | [],_,_=>rfl
 | x::l,c,o=>by
  simp only[nr,Bj,LF];rw[V8,bZ];simp
theorem bg:∀(l:List Value) (c:Array Value) (off k:Nat),(l.zipIdx k).foldl (λcs (x:Value×Nat)=>cs.setIfInBounds (off+x.2) x.1) c=LF c (off+k) l
 | [],c,off,k=>rfl
 | x::l,c,off,k=>by
  simp only[List.zipIdx_cons,Alj,LF];rw[bg l _ off (k+1)];rfl
theorem EO {vl:Vl}:∀l:List Ck,(Bj vl l).length=l.length
 | []=>rfl
 | x::l=>by simp only[Bj,Ajk];rw[EO]
theorem iq {vl:Vl}{v:SV}{l:List Ck}(h:v.flat=some l):(v.den vl).cells=(Bj vl l).toArray:=by
 unfold SV.flat at h;split at h
 .rename_i x;split at h
  .rename_i G;cases h;simp only[SV.den,Ih.den,Bj];cases x<;>try rfl
   case bs i n=>cases n<;>rfl
   case raw v=>cases v<;>first|rfl|cases G
  .cases h
 .cases h;rfl
 .cases h
theorem TO {vl:Vl}{G:Nat->Option (Nat×Nat)}:∀{ps:List (Nat×SV)} {c out:List Ck},bY G c ps=some out->Instr.fill G (Bj vl c).toArray (RE vl ps)=some (Bj vl out).toArray
 | [],c,out,h=>by simp only[bY,Ajv]at h;subst h;rfl
 | (i,v)::r,c,out,h=>by
  simp only[bY]at h;split at h
  .rename_i off z l h1 h2;split at h
   .cases h
   .rename_i hd;simp only[Akz,AkY]at hd;have hc:=iq (vl:=vl) h2;have:=TO (vl:=vl) h;simp only[RE,Instr.fill,h1,hc];have hs:((Bj vl l).toArray.size≠z||off+(Bj vl l).toArray.size > (Bj vl c).toArray.size)=false:=by
     simp[EO];omega
    rw[Ajj (by simpa using hs)];rw[<-this]
    congr 1
    rw[V8];have h9:=bg (Bj vl l) (Bj vl c).toArray off 0;rw[Ak7]at h9;rw[<-h9];simp
  .cases h
theorem RF {J:Env}:∀{l:List (Nat×Operand)} {r:List (Nat×SV)},s.parts l=some r->l.map (λp=>(p.1,AD (s.e J) p.2))=RE s.vl r
 | [],r,h=>by simp only[S.parts,Ajv]at h;subst h;rfl
 | (i,x)::l,r,h=>by
  simp only[S.parts]at h;split at h
  .rename_i v r' G h2;cases h;simp only[AkR,RE];rw[ev G,RF h2]
  .cases h
theorem R4:∀{l:List Field} {r:List (Nat×Nat)},R3 P l=some r->l.mapM (λf=>(P.info? f.type).map λi=>(f.offset,i.size))=some r
 | [],r,h=>by simp only[R3,Ajv]at h;subst h;rfl
 | f::l,r,h=>by
  simp only[R3]at h;split at h
  .rename_i z r' G h2;cases h;unfold iZ at G;cases hi:P.info? f.type with
   | none=>rw[hi]at G;cases G
   | some i=>
    rw[hi]at G;simp only[Aki,Ajv]at G;subst G;simp[Am1,hi,R4 h2]
  .cases h
theorem rU {α:Type}:∀(l:List α) (i:Nat),Fp l i=l[i]?
 | [],_=>by simp[Fp]
 | x::l,0=>rfl
 | x::l,i+1=>by simp only[Fp,AkU];exact rU l i
theorem oC {vl:Vl}{ps:List (Nat×SV)}{l:List Ck}(h:nu P T ps=some l):P.built T (RE vl ps)=some (Bj vl l).toArray:=by
 unfold nu at h;unfold Program.built;split at h
 .rename_i it n e h1 h2;rw[h1,h2];split at h
  .rename_i z ie h3 G;unfold iZ at G;cases hi:P.info? e with
   | none=>rw[hi]at G;cases G
   | some i=>
    rw[hi]at G;simp only[Aki,Ajv]at G;subst G;have:=TO (vl:=vl) h;rw[KU]at this;simpa[h3,hi] using this
  .cases h
 .rename_i it fs h1 h2;rw[h1,h2];split at h
  .rename_i z pl h3 G;have:=TO (vl:=vl) h;rw[KU]at this;have h5:=R4 G;simp only[h3,h5];simpa[rU] using this
  .cases h
 .cases h
theorem eR {ps:Array (Nat×Operand)}(h:nz P T ps s K):YP P (.build T ps) ty s K:=by
 unfold nz at h;split at h
 .cases h
 .rename_i vs hv;split at h
  .rename_i l G;exact CZ h λJ Z22=>Y.build (RF hv) (oC G)
  .cases h
end
end Tw
end
section
namespace Tw
open Go
variable [GO]
structure Vl.Le (v w:Vl):Prop where
 le:v.le w
 ln:v.ρ.length<=w.ρ.length/\v.β.length<=w.β.length/\v.δ.length<=w.δ.length
theorem Vl.Le.refl (v:Vl):v.Le v:=⟨.refl v,Ajt _,Ajt _,Ajt _⟩
theorem Vl.Le.trans {u v w:Vl}(h:u.Le v)(g:v.Le w):u.Le w:=⟨h.le.trans g.le h.ln,by have:=h.ln;have:=g.ln;omega⟩
theorem Vl.rV (v:Vl)(p:Option Addr):v.Le (v.yw p):=⟨v.AD7 p,by simp[Vl.yw]⟩
theorem Vl.rW (v:Vl)(k:BK):v.Le (v.nN k):=⟨v.rS k,by simp[Vl.nN]⟩
def exA (P:Program)(t:TypeId)(vl:Vl)(k:Ck->Vl->Prop):Prop:=match P.underlying t with
 | some (.int G)=>∃x:Int,k (.int G x) vl
 | some .bool=>∃b:Bool,k (.bs vl.β.length false) (vl.nN (.var b))
 | some (.slice _)=>∃p:Option Addr,∃n:Nat,∃c:Nat,k (.sl (.var vl.ρ.length) n c) (vl.yw p)
 | some .string=>∃w:ByteArray,k (.str w) vl
 | some (.pointer _)=>∃q:Option Addr,k (.pt (.var vl.ρ.length)) (vl.yw q)
 | some (.map _ _)=>∃m:Option Nat,k (.mp m) vl
 | _=>∃v:Value,k (.raw v) vl
def AJq (P:Program):List TypeId->Vl->(List Ck->Vl->Prop)->Prop
 | [],vl,k=>k [] vl
 | t::l,vl,k=>exA P t vl λa vl=>AJq P l vl λr vl=>k (a::r) vl
def zB (P:Program):Nat->TypeId->List TypeId
 | 0,t=>[t]
 | f+1,t=>match P.underlying t with
  | some (.struct G)=>(G.toList.map λfd=>zB P f fd.type).flatten
  | some (.array n e)=>(List.replicate n (zB P f e)).flatten
  | _=>[t]
def small (P:Program)(t:TypeId):Bool:=match ia P t,iZ P t with
 | some true,some n=>Nat.ble n 24
 | _,_=>false
def ex1 (P:Program)(t:TypeId)(vl:Vl)(k:Ih->Vl->Prop):Prop:=match small P t with
 | true=>AJq P (zB P 40 t) vl λl vl=>k (.agg l) vl
 | false=>exA P t vl λa vl=>k (.a a) vl
def AJr (P:Program):List TypeId->Vl->(List Ih->Vl->Prop)->Prop
 | [],vl,k=>k [] vl
 | t::l,vl,k=>ex1 P t vl λa vl=>AJr P l vl λr vl=>k (a::r) vl
def exV (P:Program)(t:TypeId)(vl:Vl)(k:SV->Vl->Prop):Prop:=match P.underlying t with
 | some (.tuple ts)=>AJr P ts.toList vl λl vl=>k (.bR l) vl
 | some (.float d)=>∃x:Nat,k (.v (.a (.raw (.float d x)))) vl
 | some (.complex d)=>∃x:Nat,∃y:Nat,k (.v (.a (.raw (.complex d x y)))) vl
 | _=>ex1 P t vl λa vl=>k (.v a) vl
def aL (P:Program)(t:TypeId)(vl:Vl)(k:SV->Vl->Prop):Prop:=match P.underlying t with
 | some (.func _ _ _)=>∃f:Fn,∃a:Array Value,∃c:Array Value,k (.v (.a (.raw (.func f a c)))) vl
 | _=>exV P t vl k
section
variable {P:Program}
theorem bh {t:TypeId}{vl:Vl}{k:Ck->Vl->Prop}(h:exA P t vl k):∃a w,vl.Le w/\k a w:=by
 unfold exA at h;split at h
 .obtain⟨x,h⟩:=h;exact⟨_,_,.refl _,h⟩
 .obtain⟨x,h⟩:=h;exact⟨_,_,Vl.rW _ _,h⟩
 .obtain⟨p,n,c,h⟩:=h;exact⟨_,_,Vl.rV _ _,h⟩
 .obtain⟨x,h⟩:=h;exact⟨_,_,.refl _,h⟩
 .obtain⟨x,h⟩:=h;exact⟨_,_,Vl.rV _ _,h⟩
 .obtain⟨x,h⟩:=h;exact⟨_,_,.refl _,h⟩
 .obtain⟨x,h⟩:=h;exact⟨_,_,.refl _,h⟩
theorem V9:∀{l:List TypeId} {vl:Vl} {k:List Ck->Vl->Prop},AJq P l vl k->∃a w,vl.Le w/\k a w
 | [],vl,k,h=>⟨_,_,.refl _,h⟩
 | t::l,vl,k,h=>by
  obtain⟨a,w,G,h⟩:=bh h;obtain⟨r,w2,h2,h⟩:=V9 h;exact⟨_,_,G.trans h2,h⟩
theorem F6 {t:TypeId}{vl:Vl}{k:Ih->Vl->Prop}(h:ex1 P t vl k):∃a w,vl.Le w/\k a w:=by
 unfold ex1 at h;split at h
 .obtain⟨a,w,G,h⟩:=V9 h;exact⟨_,_,G,h⟩
 .obtain⟨a,w,G,h⟩:=bh h;exact⟨_,_,G,h⟩
theorem WA:∀{l:List TypeId} {vl:Vl} {k:List Ih->Vl->Prop},AJr P l vl k->∃a w,vl.Le w/\k a w
 | [],vl,k,h=>⟨_,_,.refl _,h⟩
 | t::l,vl,k,h=>by
  obtain⟨a,w,G,h⟩:=F6 h;obtain⟨r,w2,h2,h⟩:=WA h;exact⟨_,_,G.trans h2,h⟩
theorem bj {t:TypeId}{vl:Vl}{k:SV->Vl->Prop}(h:exV P t vl k):∃a w,vl.Le w/\k a w:=by
 unfold exV at h;split at h
 .obtain⟨a,w,G,h⟩:=WA h;exact⟨_,_,G,h⟩
 .obtain⟨x,h⟩:=h;exact⟨_,_,.refl _,h⟩
 .obtain⟨x,y,h⟩:=h;exact⟨_,_,.refl _,h⟩
 .obtain⟨a,w,G,h⟩:=F6 h;exact⟨_,_,G,h⟩
theorem ub {t:TypeId}{vl:Vl}{k:SV->Vl->Prop}(h:aL P t vl k):∃a w,vl.Le w/\k a w:=by
 unfold aL at h;split at h
 .obtain⟨f,a,c,h⟩:=h;exact⟨_,_,.refl _,h⟩
 .exact bj h
end
def S.ex (s:S)(P:Program)(t:TypeId)(K:SV->S->Prop):Prop:=match s.ok with
 | true=>exV P t s.vl λv vl=>K v (s.w vl)
 | false=>False
theorem S.WB {s:S}{P:Program}{t:TypeId}{K:SV->S->Prop}(h:s.ex P t K):∃v s',s.KV s'/\K v s':=by
 unfold S.ex at h;cases G:s.ok with
 | false=>rw[G]at h;cases h
 | true=>
  rw[G]at h;obtain⟨v,w,h1,h⟩:=bj h;exact⟨v,_,S.V4 G h1.le,h⟩
def eqV (x:SV)(vl:Vl)(v:Value)(F:Prop):Prop:=match x with
 | .v (.a (.raw u))=>u=v/\F
 | x=>v=x.den vl/\F
theorem uc {x:SV}{vl:Vl}{v:Value}{F:Prop}(h:eqV x vl v F):v=x.den vl/\F:=by
 unfold eqV at h;split at h
 .exact⟨h.1.symm,h.2⟩
 .exact h
def iu:List HN->Nat->Option (TypeId×List Ck)
 | [],_=>none
 | (i,t,cs)::l,j=>bif Nat.beq i j then some (t,cs) else iu l j
theorem NA {vl:Vl}:∀{l:List HN} {j:Nat} {t:TypeId} {cs:List Ck},iu l j=some (t,cs)->(nth 0 vl.δ j,Obj.cells (Bj vl cs).toArray t (0,0))∈GZ vl l
 | (i,u,ds)::l,j,t,cs,h=>by
  simp only[iu]at h;cases hi:Nat.beq i j with
  | true=>
   rw[hi]at h;simp only[AlS,Ajv,Akh]at h;obtain⟨rfl,rfl⟩:=h;have:=Akg hi;subst this;exact Aj5 ..
  | false=>
   rw[hi]at h;simp only[AlN]at h;exact Ajm _ (NA h)
def ldV (P:Program)(T:TypeId)(x:Operand)(s:S)(K:Option Nat->SV->S->Prop):Prop:=match yx (s.op x) with
 | some (.bx i o)=>match iu s.bx i,ia P T with
  | some (_,cs),some true=>match iZ P T with
   | some n=>match decide (((cs.drop o).take n).length=n) with
    | true=>K none (.v (.agg ((cs.drop o).take n))) s
    | false=>False
   | none=>False
  | some (_,cs),some false=>match Fp cs o with
   | some u=>K none (.at u) s
   | none=>False
  | _,_=>False
 | some (.at b o)=>match ia P T,iZ P T with
  | some true,some n=>s.ex P T λv s=>match v with
   | .v (.agg l)=>match decide (l.length=n) with
    | true=>A2 s.Z22 b o (Bj s.vl l)/\K (some b) v s
    | false=>False
   | _=>False
  | some false,some _=>s.ex P T λv s=>Hp.ld s.Z22 ⟨b,o,none⟩=some (v.den s.vl)/\K (some b) v s
  | _,_=>False
 | _=>False
theorem Hp.zC {Z22:Hp}{b o:Nat}{v:Value}(h:Hp.ld Z22 ⟨b,o,none⟩=some v):Hp.ld (λx=>if x=b then Z22 x else none) ⟨b,o,none⟩=some v:=by
 unfold Hp.ld at *;simpa using h
theorem A2.lim {Z22:Hp}{b:Nat}:∀{l:List Value} {o:Nat},A2 Z22 b o l->A2 (λx=>if x=b then Z22 x else none) b o l
 | [],_,_=>trivial
 | v::l,o,h=>⟨Hp.zC h.1,A2.lim h.2⟩
theorem bn {P:Program}{T ty:TypeId}{x:Operand}{s:S}{K:Option Nat->SV->S->Prop}(h:ldV P T x s K):
  ∃m v G,s.KV G/\K m v G/\∀J,match m with
   | none=>∀Z22,Yd P (s.e J) s.b Z22 (.load T x) ty (v.den G.vl)
   | some b=>Yd P (s.e J) s.b (λx=>if x=b then s.Z22 x else none) (.load T x) ty (v.den G.vl):=by
 unfold ldV at h;split at h
 .rename_i i o hp;obtain⟨u,e1,e2⟩:=Gb hp;have hx:∀J,AD (s.e J) x=.pointer (some ⟨nth 0 s.vl.δ i,o,none⟩):=λJ=>by rw[ev e1,e2];rfl
  split at h
  .rename_i t cs hb ha;split at h
   .rename_i n hn;split at h
    .rename_i hd;have hd:=Ajx hd;refine⟨none,_,s,.refl s,h,λJ Z22=>?_⟩;have:=Y.AXI (P:=P) (e:=s.e J) (bx:=s.b) (Z22:=Z22) (ty:=ty) (vs:=Bj s.vl ((cs.drop o).take n)) (Ga ha) (DY hn) (by rw[EO];exact hd) (hx J) (NA hb) (by simp[V7]);exact this
    .cases h
   .cases h
  .rename_i t cs hb ha;split at h
   .rename_i u hu;exact⟨none,_,s,.refl s,h,λJ Z22=>Y.ldb (Ga ha) (hx J) (NA hb) (by simpa[SV.den,Ih.den] using TN hu)⟩
   .cases h
  .cases h
 .rename_i b o hp;obtain⟨u,e1,e2⟩:=Gb hp;have hx:∀J,AD (s.e J) x=.pointer (some ⟨b,o,none⟩):=λJ=>by rw[ev e1,e2];rfl
  split at h
  .rename_i n ha hn;obtain⟨v,G,h1,h⟩:=S.WB h;split at h
   .rename_i l;split at h
    .rename_i hd;have hd:=Ajx hd;refine⟨some b,_,G,h1,h.2,λJ=>?_⟩;have hl:=h.1;rw[h1.Z22]at hl;exact Y.lda (Ga ha) (DY hn) (by rw[EO];exact hd) (hx J) hl.lim
    .cases h
   .cases h
  .rename_i n ha hn;obtain⟨v,G,h1,h⟩:=S.WB h;have hl:=h.1;rw[h1.Z22]at hl;exact⟨some b,_,G,h1,h.2,λJ=>Y.ld (Ga ha) (hx J) (Hp.zC hl)⟩
  .cases h
 .cases h
def yv (P:Program)(wr:Bool)(op:Op)(s:S)(K:SV->S->Prop):Prop:=match op with
 | .move x=>s.val x K
 | .assign x=>s.val x K
 | .pick z x y=>AG2 x y z s K
 | .binOp b T x y _=>AJf P wr b T x y s K
 | .unOp u _ x=>match u with
  | .not=>AJg x s K
  | .neg=>AJh x s K
  | _=>False
 | .convert T T' x=>yz P T T' x s K
 | .fieldAddr T x f=>AJi P T x f s K
 | .field T x f=>nR P T x f s K
 | .extract x i=>AJj x i s K
 | .indexAddr T x y=>AJk P T x y s K
 | .index T x y=>zA P T x y s K
 | .nilCheck x=>AJl x s K
 | .makeFunc fn xs ys=>AJm fn xs ys s K
 | .build T ps=>nz P T ps s K
 | .makeInterface T x=>nS P T x s K
 | .slice T x lo hi G=>match G with
  | none=>nk P T x lo hi s K
  | some _=>False
 | .call c=>match c.callee,c.args.toList with
  | .builtin .len,[x]=>AJn P x c.argTypes s K
  | .builtin .cap,[x]=>AJo P x c.argTypes s K
  | .builtin .min,[x,y]=>match iB (s.op x),iB (s.op y) with
   | some (k,a),some (_,b)=>K (.at (.int k (if(b:Int)<a then b else a))) s
   | _,_=>False
  | .builtin .max,[x,y]=>match iB (s.op x),iB (s.op y) with
   | some (k,a),some (_,b)=>K (.at (.int k (if(a:Int)<b then b else a))) s
   | _,_=>False
  | _,_=>False
 | _=>False
theorem iw {P:Program}{wr:Bool}{op:Op}{ty:TypeId}{s:S}{K:SV->S->Prop}(h:yv P wr op s K):YP P op ty s K:=by
 unfold yv at h;split at h
 .exact bW h λv J Z22 hv=>Y.move hv
 .exact bW h λv J Z22 hv=>Y.assign hv
 .exact ig h
 .exact nQ h
 .split at h
  .exact nT h
  .exact nU h
  .cases h
 .exact ij h
 .exact nW h
 .exact eL h
 .exact nX h
 .exact nY h
 .exact il h
 .exact nZ h
 .exact ng h
 .exact eR h
 .exact eP h
 .split at h
  .exact eQ h
  .cases h
 .rename_i c;obtain⟨ce,Aji,ts⟩:=c;split at h
  .rename_i x G h2;simp only at G h2 h;have:Aji=#[x]:=by rw[<-AkD];simpa using h2
   subst this G;exact nh h
  .rename_i x G h2;simp only at G h2 h;have:Aji=#[x]:=by rw[<-AkD];simpa using h2
   subst this G;exact nj h
  .rename_i x y G h2;simp only at G h2 h;have:Aji=#[x,y]:=by rw[<-AkD];simpa using h2
   subst this G;split at h
   .rename_i k a k' b hx hy;obtain⟨u,e1,e2⟩:=Cw hx;obtain⟨v,e3,e4⟩:=Cw hy;exact CZ h λJ Z22=>Y.min2 (by rw[ev e1,e2]) (by rw[ev e3,e4])
   .cases h
  .rename_i x y G h2;simp only at G h2 h;have:Aji=#[x,y]:=by rw[<-AkD];simpa using h2
   subst this G;split at h
   .rename_i k a k' b hx hy;obtain⟨u,e1,e2⟩:=Cw hx;obtain⟨v,e3,e4⟩:=Cw hy;exact CZ h λJ Z22=>Y.max2 (by rw[ev e1,e2]) (by rw[ev e3,e4])
   .cases h
  .cases h
 .cases h
end Tw
end
