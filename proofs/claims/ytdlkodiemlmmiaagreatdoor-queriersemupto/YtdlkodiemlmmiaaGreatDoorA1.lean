/-
  Part 1 of the proof that the law QuerierSemUptoCardSaid of the given program answers true for every input of the given statement; the input reads behind the call as it did. (The texts: packed from 19 texts. Names are shortened by the packing program, for the bound on size.)
-/
import Derived.OrdersHeld
import Derived.StillTail
import Derived.Laws.Entries
import Derived.OrdersIn
import Derived.RangeFuncRecord
import Derived.KernelRfl
import Derived.Laws.Slices
import Derived.Laws.Small
import Derived.Laws.Cells
import Derived.Laws.Strings
import Derived.Laws.Tables
import Derived.Laws.Strings2
import Derived.Laws.Pointers
import Derived.Laws.Append
import Derived.Laws.AppendOwn
import Derived.Lib.Overlaps
import Derived.RangeFuncIn
import Derived.ProofKit
import Derived.SizedLaws
import Derived.Deep.Slices
import Derived.Scope
import Derived.Maps.RangeRun
import Derived.MapKept
import Derived.Test.YtdlkodiemlmmiaaGreatDoorProg
import Derived.ChangeKeysEq
set_option linter.all false
namespace Go.Value
abbrev I(x:Int):Value:=.int .i64 x
abbrev U(x:Int):Value:=.int .u64 x
abbrev N:Value:=.slice none 0 0
end Go.Value
namespace Go.Ending
abbrev T(a:Array Value):Ending:=.returned (.tuple a)
abbrev B(a:Bool):Ending:=.returned (.bool a)
end Go.Ending
abbrev Aiw:=@if_neg
abbrev Aix:=@List.length_cons
abbrev Aiy:=@if_pos
abbrev Aiz:=@List.mem_cons_of_mem
abbrev Ai0:=@List.getElem?_eq_some_iff
abbrev Ai1:=@List.mem_cons
abbrev Ai2:=@List.mem_singleton
abbrev Ai3:=@List.getElem?_eq_getElem
abbrev Ai4:=@List.take_of_length_le
abbrev Ai5:=@List.length_append
abbrev Ai6:=@List.mem_of_getElem?
abbrev Ai7:=@Nat.le_refl
abbrev Ai8:=@congrArg
abbrev Ai9:=@Option.some.injEq
abbrev AjA:=@of_decide_eq_true
abbrev AjB:=@Nat.zero_le
abbrev AjC:=@decide_eq_true
abbrev AjD:=@Bool.and_eq_true
abbrev AjE:=@decide_eq_false
abbrev AjF:=@Array.getElem?_eq_some_iff
abbrev AjG:=@List.mem_cons_self
abbrev AjH:=@decide_eq_true_eq
abbrev AjI:=@Ne.symm
abbrev AjJ:=@List.length_take
abbrev AjK:=@List.not_mem_nil
abbrev AjL:=@List.eq_nil_of_length_eq_zero
abbrev AjM:=@Int.toNat_natCast
abbrev AjN:=@List.length_drop
abbrev AjO:=@Array.getElem?_push
abbrev AjP:=@List.map_append
abbrev AjQ:=@List.getElem?_take
abbrev AjR:=@List.map_cons
abbrev AjS:=@Array.toList_inj
abbrev AjT:=@List.append_assoc
abbrev AjU:=@List.mem_append
abbrev AjV:=@List.getElem?_append_left
abbrev AjW:=@List.drop_eq_nil_of_le
abbrev AjX:=@of_decide_eq_false
abbrev AjY:=@List.pairwise_cons
abbrev AjZ:=@Decidable.not_not
abbrev Aja:=@List.getElem?_drop
abbrev Ajb:=@List.length_filter_le
abbrev Ajc:=@List.length_singleton
abbrev Ajd:=@Array.length_toList
abbrev Aje:=@Array.getElem?_toList
abbrev Ajf:=@List.mem_map
abbrev Ajg:=@List.mem_iff_getElem?
abbrev Ajh:=@List.length_filterMap_le
abbrev Aji:=@decide_eq_false_iff_not
abbrev Ajj:=@List.getElem?_cons_zero
abbrev Ajk:=@Nat.mul_le_mul_right
abbrev Ajl:=@or_false
abbrev Ajm:=@List.getElem?_append_right
abbrev Ajn:=@List.length_map
abbrev Ajo:=@Nat.le_of_ble_eq_true
abbrev Ajp:=@List.cons_append
abbrev Ajq:=@List.getElem?_cons_succ
abbrev Ajr:=@Nat.eq_of_beq_eq_true
abbrev Ajs:=@Prod.mk.injEq
abbrev Ajt:=@List.all_eq_true
abbrev Aju:=@Option.map_some
abbrev Ajv:=@Option.some.inj
abbrev Ajw:=@List.length_nil
abbrev Ajx:=@List.pairwise_iff_getElem
abbrev Ajy:=@List.filter_append
abbrev Ajz:=@Nat.zero_add
abbrev Aj0:=@List.nodup_cons
abbrev Aj1:=@List.append_nil
abbrev Aj2:=@decide_eq_decide
abbrev Aj3:=@Nat.le_trans
abbrev Aj4:=@List.take_append_drop
abbrev Aj5:=@List.filter_cons_of_pos
abbrev Aj6:=@List.filter_cons_of_neg
abbrev Aj7:=@List.getElem?_map
abbrev Aj8:=@Bool.false_and
abbrev Aj9:=@List.nil_append
abbrev AkA:=@List.ext_getElem?
abbrev AkB:=@Nat.add_mul
abbrev AkC:=@Bool.and_false
abbrev AkD:=@Bool.or_eq_false_iff
abbrev AkE:=@Bool.true_and
abbrev AkF:=@List.getElem?_eq_none
abbrev AkG:=@Nat.mul_one
abbrev AkH:=@List.length_eq_zero_iff
abbrev AkI:=@List.mem_append_left
abbrev AkJ:=@List.getElem?_append
abbrev AkK:=@Nat.add_zero
abbrev AkL:=@Bool.false_or
abbrev AkM:=@ByteArray.size_extract
abbrev AkN:=@Array.getElem?_eq_getElem
abbrev AkO:=@if_false
abbrev AkP:=@Bool.false_eq_true
abbrev AkQ:=@if_true
abbrev AkR:=@List.nodup_nil
abbrev AkS:=@List.mem_range
abbrev AkT:=@Int.lt_trichotomy
abbrev AkU:=@List.mem_filter
abbrev AkV:=@List.mem_filterMap
abbrev AkW:=@Array.getElem?_modify
abbrev AkX:=@List.dropWhile_suffix
abbrev AkY:=@List.getLast?_eq_getElem?
abbrev AkZ:=@cond_false
abbrev Aka:=@List.sum_append
abbrev Akb:=@List.map_nil
abbrev Akc:=@List.filter_nil
abbrev Akd:=@List.foldl_append
abbrev Ake:=@List.getElem?_set
abbrev Akf:=@List.sum_cons
abbrev Akg:=@List.length_tail
abbrev Akh:=@Array.getD_eq_getD_getElem?
abbrev Aki:=@Nat.sub_self
abbrev Akj:=@Nat.succ_mul
abbrev Akk:=@cond_true
abbrev Akl:=@Nat.zero_mul
abbrev Akm:=@Int.natCast_nonneg
abbrev Akn:=@List.map_singleton
abbrev Ako:=@Array.getElem?_append
abbrev Akp:=@UInt8.lt_iff_toNat_lt
abbrev Akq:=@List.takeWhile_prefix
abbrev Akr:=@List.flatMap_cons
abbrev Aks:=@List.nodup_append
abbrev Akt:=@List.pairwise_append
abbrev Aku:=@Nat.lt_or_ge
abbrev Akv:=@List.filter_eq_self
abbrev Akw:=@Array.getElem?_setIfInBounds_ne
abbrev Akx:=@Bool.or_eq_true
abbrev Aky:=@List.cons.injEq
abbrev Akz:=@List.foldl_cons
abbrev Ak0:=@Array.eq_empty_of_size_eq_zero
abbrev Ak1:=@List.getElem?_set_self
abbrev Ak2:=@List.getElem_cons_drop
abbrev Ak3:=@List.drop_of_length_le
abbrev Ak4:=@List.mem_append_right
abbrev Ak5:=@List.getElem?_toArray
abbrev Ak6:=@Option.getD_some
abbrev Ak7:=@List.mem_of_mem_take
abbrev Ak8:=@List.countP_cons
abbrev Ak9:=@not_or
abbrev AlA:=@List.mem_map_of_mem
abbrev AlB:=@List.drop_eq_getElem_cons
abbrev AlC:=@Nat.min_eq_left
abbrev AlD:=@Decidable.byContradiction
abbrev AlE:=@List.length_set
abbrev AlF:=@Array.setIfInBounds_comm
abbrev AlG:=@List.set_cons_succ
abbrev AlH:=@UInt8.toNat_ofNat'
abbrev AlI:=@List.drop_zero
abbrev AlJ:=@Nat.mod_lt
abbrev AlK:=@Nat.le_mul_of_pos_right
abbrev AlL:=@Nat.add_sub_cancel_left
abbrev AlM:=@Array.getElem?_eq_none
abbrev AlN:=@List.head?_eq_getElem?
abbrev AlO:=@List.Sublist.length_le
abbrev AlP:=@ByteArray.data_extract
abbrev AlQ:=@List.all_cons
abbrev AlR:=@ByteArray.ext
abbrev AlS:=@Option.bind_some
abbrev AlT:=@Nat.le_add_right
abbrev AlU:=@List.getElem_mem
abbrev AlV:=@Nat.div_lt_iff_lt_mul
abbrev AlW:=@List.getElem?_zipWith
abbrev AlX:=@beq_iff_eq
abbrev AlY:=@List.mem_iff_getElem
abbrev AlZ:=@List.length_zip
abbrev Ala:=@Array.toList_extract
abbrev Alb:=@Nat.pow_le_pow_right
abbrev Alc:=@getElem!_pos
abbrev Ald:=@List.length_finRange
abbrev Ale:=@List.getElem?_set_ne
abbrev Alf:=@List.mem_of_mem_drop
abbrev Alg:=@Bool.or_true
abbrev Alh:=@List.drop_append_of_le_length
abbrev Ali:=@List.take_append_of_le_length
abbrev Alj:=@Array.toList_append
abbrev Alk:=@beq_eq_false_iff_ne
abbrev All:=@List.length_pos_iff
abbrev Alm:=@Int.le_refl
abbrev Aln:=@Array.empty_append
abbrev Alo:=@Array.extract_size
abbrev Alp:=@Nat.eq_zero_or_pos
abbrev Alq:=@List.find?_eq_none
abbrev Alr:=@Nat.add_sub_cancel
abbrev Als:=@Int.tmod_eq_emod_of_nonneg
abbrev Alu:=@List.getD_eq_getElem?_getD
abbrev Alv:=@List.take_add_one
abbrev Alw:=@Array.size_append
abbrev Alx:=@List.size_toArray
abbrev Aly:=@Nat.lt_trichotomy
abbrev Alz:=@List.pairwise_map
abbrev Al0:=@not_false_eq_true
abbrev Al1:=@List.mem_or_eq_of_mem_set
abbrev Al2:=@List.getElem?_eq_none_iff
abbrev Al3:=@List.extract_eq_take_drop
abbrev Al4:=@List.getElem?_zip_eq_some
abbrev Al5:=@List.map_set
abbrev Al6:=@Nat.le_of_eq
abbrev Al7:=@List.sum_nil
abbrev Al8:=@Bool.true_or
abbrev Al9:=@List.head?_cons
abbrev AmA:=@UInt8.toNat_inj
abbrev AmB:=@List.filter_eq_nil_iff
abbrev AmC:=@Array.getElem?_extract
abbrev AmD:=@List.set_getElem_self
abbrev AmE:=@List.mapM_cons
abbrev AmF:=@List.take_take
abbrev AmG:=@List.take_left
abbrev AmH:=@List.drop_drop
abbrev AmI:=@List.Perm.refl
abbrev AmJ:=@List.set_append_right
abbrev AmK:=@List.eq_nil_or_concat
abbrev AmL:=@List.concat_eq_append
abbrev AmM:=@Array.ext'
abbrev AmO:=@and_true
abbrev AmQ:=@Nat.add_assoc
abbrev AmR:=@List.drop_one
abbrev AmS:=@List.map_take
abbrev AmT:=@List.any_cons
abbrev AmU:=@List.map_drop
abbrev AmW:=@Nat.beq_refl
abbrev AmX:=@Nat.le_of_lt
abbrev AmY:=@Nat.pow_succ
abbrev AmZ:=@Int.le_of_lt
abbrev Amb:=@Nat.min_self
section
namespace Tw
open Go
abbrev Hp:=Nat->Option Obj
abbrev Rr:=Ending->Hp->Prop
abbrev Env:=Nat->Value
abbrev Bx:=List (Nat×Obj)
theorem mV {a b:Nat}(h:a≠b):Nat.beq a b=false:=by
 cases hb:Nat.beq a b
 .rfl
 .exact absurd (Ajr hb) h
def Sat (Z2:Hp)(w:World):Prop:=∀b o,Z2 b=some o->w.heap[b]?=some o
def Ko (bx:Bx)(w:World):Prop:=∀p∈bx,w.heap[p.1]?=some p.2
def Hp.set (Z2:Hp)(b:Nat)(o:Obj):Hp:=λi=>if i=b then some o else Z2 i
def upd (e:Env)(t:Nat)(v:Value):Env:=λi=>bif Nat.beq i t then v else e i
def put (e:Env)(d:Option Nat)(v:Value):Env:=match d with | some d=>upd e d v | none=>e
def AD (e:Env):Operand->Value
 | .tmp t=>e t
 | .const v=>v
 | .global g=>.pointer (some ⟨g,0,none⟩)
 | .func f=>.func (.func f) #[] #[]
class GF where
 on:Prop
instance AWU:GF:=⟨False⟩
variable [GF]
def Bj (w G:World):Prop:=G.os=w.os/\G.tape=w.tape/\(GF.on->∃n:Nat,G.drawn=w.drawn+n)
theorem Bj.same {w G:World}(h1:G.os=w.os)(h2:G.tape=w.tape)(h3:G.drawn=w.drawn):Bj w G:=⟨h1,h2,λ_=>⟨0,h3⟩⟩
theorem Bj.trans {w w' G:World}(h:Bj w w')(g:Bj w' G):Bj w G:=
 ⟨g.1.trans h.1,g.2.1.trans h.2.1,λhc=>let ⟨n,h3⟩:=h.2.2 hc;let ⟨m,g3⟩:=g.2.2 hc;⟨n+m,by omega⟩⟩
theorem Bj.drew {w G:World}(h:Bj w G):Bj w { G with drawn:=G.drawn+1 }:=h.trans ⟨rfl,rfl,λ_=>⟨1,rfl⟩⟩
structure Fin (Z2:Hp)(F:Nat->Prop)(w w':World):Prop where
 sat:Sat Z2 w'
 BI:∀b,F b->Z2 b=none/\w'.heap[b]?=w.heap[b]?
 os:Bj w w'
 out:w'.output=w.output
 grow:w.heap.size<=w'.heap.size
def Spec (P:Program)(f:FuncId)(args:Array Value)(Z2:Hp)(R:Rr):Prop:=
 ∀(w:World) (F:Nat->Prop),Sat Z2 w->(∀b,F b->b<w.heap.size/\Z2 b=none)->
  Calls P f args w (λe G=>∃Z',R e Z'/\Fin Z' F w G)
theorem Spec.mono {P:Program}{f:FuncId}{args:Array Value}{Z2:Hp}{R G:Rr}(h:Spec P f args Z2 R)
  (hr:∀e Z',R e Z'->G e Z'):Spec P f args Z2 G:=λw F hs hF=>
 (h w F hs hF).mono λ_ _ ⟨Z',h1,h2⟩=>⟨Z',hr _ _ h1,h2⟩
structure St (n:Nat)(ds:List Deferred)(w0:World)(F:Nat->Prop)(e:Env)(bx:Bx)(Z2:Hp)(a:Act)(w:World):Prop where
 size:a.tmps.size=n
 env:∀t,a.tmps.getD t undef=e t
 defers:a.defers=ds
 sat:Sat Z2 w
 box:Ko bx w
 free:∀p∈bx,Z2 p.1=none/\¬F p.1
 nodup:(bx.map (·.1)).Nodup
 BI:∀b,F b->b<w0.heap.size/\Z2 b=none/\w.heap[b]?=w0.heap[b]?
 os:Bj w0 w
 out:w.output=w0.output
 grow:w0.heap.size<=w.heap.size
theorem St.eval {n ds w0 F e bx Z2 a w}(h:St n ds w0 F e bx Z2 a w):a.eval=AD e:=by
 funext x
 cases x with
 | tmp t=>exact h.env t
 | _=>rfl
theorem St.put {n ds w0 F e bx Z2 a w}(h:St n ds w0 F e bx Z2 a w)(d:Option Nat)(v:Value)(hd:∀t,d=some t->t<n):
  St n ds w0 F (put e d v) bx Z2 (a.put d v) w:=by
 cases d with
 | none=>exact h
 | some d=>
  have hd:=hd d rfl;refine { h with size:=by simp[Act.put,h.size],env:=λt=>?_,defers:=h.defers };simp only[Act.put,Tw.put,upd];by_cases G:t=d
  .subst G;have:t<a.tmps.size:=by rw[h.size];exact hd
   simp[this]
  .have h1:=h.env t;have hb:Nat.beq t d=false:=mV G;simp only[hb,AkZ];rw[<-h1];simp[Akw (AjI G)]
theorem St.drew {n ds w0 F e bx Z2 a w}(h:St n ds w0 F e bx Z2 a w):St n ds w0 F e bx Z2 a { w with drawn:=w.drawn+1 }:=
 { h with sat:=h.sat,box:=h.box,BI:=h.BI,os:=h.os.drew,out:=h.out,grow:=h.grow }
structure Gl where
 P:Program
 f:FuncId
 n:Nat
 R:Rr
 IG:Option Nat
 ds:List Deferred
 pan:(IG=none/\ds=[])\/∀ch Z2,¬R (.panicked ch) Z2
abbrev Gl.fn (P:Program)(f:FuncId)(n:Nat)(R:Rr):Gl:=⟨P,f,n,R,none,[],.inl ⟨rfl,rfl⟩⟩
def wd (r:Option Nat):Fence:={ Fence.wide with round:=r }
theorem ADd {r:Option Nat}{n:Nat}:(wd r).room n:=λ_ h=>by simp[wd,Fence.wide]at h
theorem Dg {P:Program}{r:Option Nat}{ρ:Operand->Value}{o:Oper}{w w':World}{nx:Next}(h:(execOp ρ o).run P w=.ok nx w')(hn:∀d,nx≠.defer d):(o.semAt r ρ).run P w=.ok nx w':=by
 by_cases hd:∃c,o.op=.defer c
 .obtain⟨c,G⟩:=hd;simp only[execOp,G,Sem.run_bind]at h;cases hr:(resolve ρ c o.type).run P w with
  | ok d w2=>
   rw[hr]at h;simp only[Result.andThen_ok,Sem.run_pure,Result.ok.injEq]at h;exact absurd h.1.symm (hn d)
  | halt x w2=>rw[hr]at h;simp[Result.andThen]at h
 .rw[Oper.semAt_eq r ρ o (λc G=>hd ⟨c,G⟩)];exact h
def Rj (P:Program)(f:FuncId)(IG:Option Nat)(cs:List Frame)(m:Machine)(R:Ending->World->Prop):Prop:=
 match IG with
 | none=>∃e G fr,R e G/\Comes P m (lone fr cs G) e/\fr.fn=f/\fr.leaving P G e
 | some _=>∀c cs',cs=c::cs'->∃v G,R (.returned v) G/\Steps P m (lone (c.finish v) cs' G)
theorem Rj.of_steps {P f IG cs m m' R}(G:Steps P m m')(h:Rj P f IG cs m' R):Rj P f IG cs m R:=by
 cases IG with
 | none=>exact let ⟨e,w',fr,r,c,x⟩:=h;⟨e,w',fr,r,.of_steps G c,x⟩
 | some l=>exact λc cs' hc=>let ⟨v,w',r,x⟩:=h c cs' hc;⟨v,w',r,G.trans x⟩
def Jp (P:Program)(f:FuncId)(IG:Option Nat)(k:List Item)(a:Act)(w:World)(R:Ending->World->Prop):Prop:=
 ∀(b:Frame) (cs:List Frame),b.fn=f->b.kind=.normal->b.roundOf=IG->(∃fn,P.funcs[f]?=some fn)->Rj P f IG cs (lone (b.atR a k) cs w) R
theorem Jp.step {P f IG k a w R k' a' w'}(hs:∀(b:Frame) cs,b.roundOf=IG->step P (lone (b.atR a k) cs w)=.next (lone (b.atR a' k') cs w'))
 (h:Jp P f IG k' a' w' R):Jp P f IG k a w R:=λb cs hf hk G Vj=>.of_steps (.one (hs b cs G)) (h b cs hf hk G Vj)
def ADe (g:Gl)(w0:World)(F:Nat->Prop):Ending->World->Prop:=λen G=>∃Z',g.R en Z'/\Fin Z' F w0 G
def At (g:Gl)(k:List Item)(e:Env)(bx:Bx)(Z2:Hp):Prop:=
 ∀G F a w,St g.n g.ds G F e bx Z2 a w->Jp g.P g.f g.IG k a w (ADe g G F)
section steps
variable {g:Gl}{k:List Item}{e:Env}{bx:Bx}{Z2:Hp}
theorem At.skip (h:At g k e bx Z2):At g (.code .skip::k) e bx Z2:=λG F a w st=>.step (λ_ _ _=>stepR_skip) (h G F a w st)
theorem At.label {l}(h:At g k e bx Z2):At g (.code (.label l)::k) e bx Z2:=λG F a w st=>.step (λ_ _ _=>stepR_label) (h G F a w st)
theorem At.inBlock {i}(h:At g k e bx Z2):At g (.inBlock i::k) e bx Z2:=λG F a w st=>.step (λ_ _ _=>stepR_inBlock) (h G F a w st)
theorem At.seq {c x y}(G:c=Code.seq x y)(h:At g (.code x::.code y::k) e bx Z2):At g (.code c::k) e bx Z2:=
 G▸λw0 F a w st=>.step (λ_ _ _=>stepR_seq) (h w0 F a w st)
theorem At.block {c i x}(G:c=Code.block i x)(h:At g (.code x::.inBlock i::k) e bx Z2):At g (.code c::k) e bx Z2:=
 G▸λw0 F a w st=>.step (λ_ _ _=>stepR_block) (h w0 F a w st)
theorem At.loop {c x}(G:c=Code.loop x)(h:At g (.code x::.inLoop x::k) e bx Z2):At g (.code c::k) e bx Z2:=
 G▸λw0 F a w st=>.step (λ_ _ _=>stepR_loop) (h w0 F a w st)
theorem At.inLoop {x}(h:At g (.code x::.inLoop x::k) e bx Z2):At g (.inLoop x::k) e bx Z2:=
 λG F a w st=>.step (λ_ _ _=>stepR_inLoop) (h G F a w st)
theorem At.exit {c i k'}(G:c=Code.exit i)(hk:exitTo i k=some k')(h:At g k' e bx Z2):At g (.code c::k) e bx Z2:=
 G▸λw0 F a w st=>.step (λ_ _ _=>stepR_exit hk) (h w0 F a w st)
theorem At.goto {c i k'}(G:c=Code.goto i)(hk:gotoIn i k=some k')(h:At g k' e bx Z2):At g (.code c::k) e bx Z2:=
 G▸λw0 F a w st=>.step (λ_ _ _=>stepR_goto hk) (h w0 F a w st)
theorem At.AGa {c x y z}(G:c=Code.cond x y z)(hx:AD e x=.bool true)(h:At g (.code y::k) e bx Z2):At g (.code c::k) e bx Z2:=
 G▸λw0 F a w st=>.step (λ_ _ _=>stepR_cond (t:=true) (by rw[st.eval];exact hx)) (h w0 F a w st)
theorem At.AGb {c x y z}(G:c=Code.cond x y z)(hx:AD e x=.bool false)(h:At g (.code z::k) e bx Z2):At g (.code c::k) e bx Z2:=
 G▸λw0 F a w st=>.step (λ_ _ _=>stepR_cond (t:=false) (by rw[st.eval];exact hx)) (h w0 F a w st)
def left (ds:List Deferred)(Z2:Hp):Hp:=ds.foldl (λZ2 d=>match d.target with | .collected D=>Z2.set D (.deferred none) | _=>Z2) Z2
def Marks:List Deferred->Hp->Prop
 | [],_=>True
 | d::ds,Z2=>∃D,d={ target:=.collected D,args:=#[] }/\Z2 D=some (.deferred (some []))/\Marks ds (Z2.set D (.deferred none))
theorem Fin.put {Z2:Hp}{F:Nat->Prop}{w0 w:World}{l:Nat}{o o':Obj}(h:Fin Z2 F w0 w)(hl:Z2 l=some o):Fin (Z2.set l o') F w0 (w.putObj l o'):=by
 have Ax:l<w.heap.size:=(AjF.1 (h.sat l o hl)).1;refine⟨λk u hk=>?_,λk hk=>?_,h.os,h.out,by simpa using h.grow⟩
 .by_cases G:k=l
  .subst G;simp only[Hp.set,AkQ]at hk;cases hk;exact World.putObj_heap_same Ax
  .simp only[Hp.set,G,AkO]at hk;rw[World.putObj_heap_other G];exact h.sat k u hk
 .have hp:=h.BI k hk;have G:k≠l:=λe=>by rw[e,hl]at hp;cases hp.1
  exact⟨by simp only[Hp.set,G,AkO];exact hp.1,by rw[World.putObj_heap_other G];exact hp.2⟩
theorem St.toFin {n ds w0 F e bx Z2 a w}(st:St n ds w0 F e bx Z2 a w):Fin Z2 F w0 w:=⟨st.sat,λb hb=>⟨(st.BI b hb).2.1,(st.BI b hb).2.2⟩,st.os,st.out,st.grow⟩
theorem S3 {P:Program}:∀(ds:List Deferred) {Z2:Hp} {F:Nat->Prop} {w0 w:World} {fr:Frame} {cs:List Frame},Marks ds Z2->Fin Z2 F w0 w->Ko bx w->(∀p∈bx,Z2 p.1=none)->fr.mode=.returning->fr.defers=ds->
  ∃w',Fin (left ds Z2) F w0 w'/\Ko bx w'/\Steps P (lone fr cs w) (lone { fr with defers:=[] } cs w')
 | [],Z2,F,w0,w,fr,cs,_,hf,hb,_,_,hd=>⟨w,hf,hb,by rw[show({ fr with defers:=[] }:Frame)=fr by cases fr;simp at hd;simp[hd]];exact .refl ..⟩
 | d::ds,Z2,F,w0,w,fr,cs,⟨D,hD,G,hm⟩,hf,hb,hn,hmo,hd=>by
  subst hD;have h1:=step_collected (P:=P) (fr:=fr) (cs:=cs) (w:=w) (r:=D) (by rw[hmo];simp) hd rfl (run_takeDeferred (hf.sat D _ G));have Ad:∀p∈bx,p.1≠D:=λp hp e=>by have:=hn p hp;rw[e,G]at this;cases this
  obtain⟨w',th,Kq,hs⟩:=S3 ds (fr:={ fr with defers:=[]++ds }) (cs:=cs) hm (hf.put G) (λp hp=>by rw[World.putObj_heap_other (Ad p hp)];exact hb p hp) (λp hp=>by simp only[Hp.set,Ad p hp,AkO];exact hn p hp) hmo rfl;exact⟨w',th,Kq,(Steps.one h1).trans hs⟩
theorem At.done {fn:Func}{v:Value}(hf:g.P.funcs[g.f]?=some fn)
  (hr:∀(a:Act) w,(∀t,a.tmps.getD t undef=e t)->Sat (left g.ds Z2) w->Ko bx w->(results fn a.tmps).run g.P w=.ok v w)
  (h:g.R (.returned v) (left g.ds Z2)) (S4:g.IG=none:=by rfl) (hm:Marks g.ds Z2:=by trivial):At g [] e bx Z2:=λw0 F a w st b cs mW tn qc Vj=>by
 have G:b.roundOf=none:=qc.trans S4;obtain⟨w',Vk,Kq,hs⟩:=S3 (P:=g.P) (cs:=cs) (fr:={ b.atR a [] with mode:=.returning }) g.ds hm st.toFin st.box (λp hp=>(st.free p hp).1) rfl st.defers;unfold Rj;rw[S4];exact⟨.returned v,w',_,⟨_,h,Vk⟩,(Steps.one (stepR_end G)).trans hs,mW,rfl,rfl,tn,fn,by simpa[Frame.atR,mW] using hf,hr a w' st.env Vk.sat Kq⟩
theorem At.ret {c:Code}{fn:Func}{v:Value}(hc:c=Code.ret)(hf:g.P.funcs[g.f]?=some fn)
  (hr:∀(a:Act) w,(∀t,a.tmps.getD t undef=e t)->Sat (left g.ds Z2) w->Ko bx w->(results fn a.tmps).run g.P w=.ok v w)
  (h:g.R (.returned v) (left g.ds Z2)) (S4:g.IG=none:=by rfl) (hm:Marks g.ds Z2:=by trivial):At g (.code c::k) e bx Z2:=hc▸λw0 F a w st b cs mW tn qc Vj=>by
 have G:b.roundOf=none:=qc.trans S4;obtain⟨w',Vk,Kq,hs⟩:=S3 (P:=g.P) (cs:=cs) (fr:={ b.atR a (.code .ret::k) with mode:=.returning }) g.ds hm st.toFin st.box (λp hp=>(st.free p hp).1) rfl st.defers;unfold Rj;rw[S4];exact⟨.returned v,w',_,⟨_,h,Vk⟩,(Steps.one (stepR_ret G)).trans hs,mW,rfl,rfl,tn,fn,by simpa[Frame.atR,mW] using hf,hr a w' st.env Vk.sat Kq⟩
def lp (r:Loop)(s:LoopState)(p:Option Code):Loop:={ r with state:=s,pending:=p }
theorem At.beginRound {l:Nat}{r:Loop}(S4:g.IG=some l)(G:Z2 l=some (.loop (lp r .ready none)))(h:At g k e bx (Z2.set l (.loop (lp r .busy none)))):At g (.beginRound::k) e bx Z2:=λw0 F a w st=>
 Jp.step (λb cs hb=>stepR_beginRound (hb.trans S4) (run_beginRound (st.sat _ _ G) rfl)) (h w0 F a _ (by
  have hf:=st.toFin.put (o':=.loop (lp r .busy none)) G;have Ad:∀p∈bx,p.1≠l:=λp hp e=>by have:=(st.free p hp).1;rw[e,G]at this;cases this
  exact { st with sat:=hf.sat,box:=λp hp=>by rw[World.putObj_heap_other (Ad p hp)];exact st.box p hp,free:=λp hp=>⟨by simp only[Hp.set,Ad p hp,AkO];exact(st.free p hp).1,(st.free p hp).2⟩,BI:=λb hb=>⟨(st.BI b hb).1,(hf.BI b hb).1,(hf.BI b hb).2⟩,os:=hf.os,out:=hf.out,grow:=hf.grow }))
theorem At.Rk {l:Nat}{r:Loop}(S4:g.IG=some l)(G:Z2 l=some (.loop (lp r .busy none)))(h:g.R (.returned (.bool true)) (Z2.set l (.loop (lp r .ready none)))):At g [] e bx Z2:=λw0 F a w st b cs mW tn qc Vj=>by
 unfold Rj;rw[S4]
 rintro c cs' rfl
 exact⟨_,_,⟨_,h,st.toFin.put G⟩,.one (stepR_round_end (qc.trans S4) tn (run_endRound (r:=lp r .busy none) none (st.sat _ _ G)))⟩
theorem At.sub {HY:Bx}(G:HY.Sublist bx)(h:At g k e HY Z2):At g k e bx Z2:=λw0 F a w st=>
 h w0 F a w { st with box:=λp hp=>st.box p (G.subset hp),free:=λp hp=>st.free p (G.subset hp),nodup:=(G.map _).nodup st.nodup }
def MP (e:Env):List (Nat×Value)->Env
 | []=>e
 | (t,v)::l=>upd (MP e l) t v
theorem qd {e:Env}:∀{l:List (Nat×Value)},(∀p∈l,e p.1=p.2)->MP e l=e
 | [],_=>rfl
 | (t,v)::l,h=>by
  have G:MP e l=e:=qd λp hp=>h p (Aiz _ hp)
  funext i
  simp only[MP,G,upd];by_cases hi:i=t
  .subst hi;rw[AmW];exact(h (i,v) (AjG ..)).symm
  .rw[mV hi];rfl
def Live (e:Env):List (Nat×Value)->Prop
 | []=>True
 | (t,v)::l=>e t=v/\Live e l
theorem Live.mem {e:Env}:∀{l:List (Nat×Value)},Live e l->∀p∈l,e p.1=p.2
 | (_,_)::_,h,p,hp=>by
  rcases Ai1.1 hp with rfl|hp
  .exact h.1
  .exact h.2.mem p hp
theorem At.live {l:List (Nat×Value)}(G:Live e l)(h:At g k (MP e l) bx Z2):At g k e bx Z2:=by
 rwa[qd G.mem]at h
end steps
theorem Spec.Vm {P:Program}{f:FuncId}{fn:Func}{c:Code}{args:Array Value}{Z2:Hp}{R:Rr}
  (hf:P.funcs[f]?=some fn) (hb:fn.body=some c) (hn:args.size<=fn.ntmps)
  (h:∀e:Env,(∀t,e t=args.getD t undef)->At (Gl.fn P f fn.ntmps R) [.code c] e [] Z2):Spec P f args Z2 R:=by
 intro w F hs hF cs
 let b:Frame:={ (default:Frame) with fn:=f,kind:=.normal,roundOf:=none }
 have mX:Frame.enter P f args .normal =
   b.atR { tmps:=args++Array.replicate (fn.ntmps-args.size) undef,defers:=[] } [.code c]:=by
  simp[Frame.enter,Frame.atR,hf,hb,b]
 rw[mX];have st:St fn.ntmps [] w F (λt=>args.getD t undef) [] Z2 { tmps:=args++Array.replicate (fn.ntmps-args.size) undef,defers:=[] } w:=by
  refine⟨by simp;omega,λt=>?_,rfl,hs,(λp hp=>by cases hp),(λp hp=>by cases hp),AkR,λb hb=>⟨(hF b hb).1,(hF b hb).2,rfl⟩,.same rfl rfl rfl,rfl,Ai7 _⟩;rcases Aku t args.size with G|G
  .simp[Ako,G]
  .simp only[Akh,Ako,Nat.not_lt.2 G,AkO,Array.getElem?_replicate,AlM G];split<;>rfl
 obtain⟨e,w',fr,r,cc,Vj,hl⟩:=h _ (λ_=>rfl) w F _ w st b cs rfl rfl rfl ⟨fn,hf⟩;exact⟨e,w',fr,r,cc,Vj,hl⟩
def Ac (ops:Array Oper)(e:Env)(gd:Option (Nat×Bool)):Bool:=
 match gd with
 | none=>true
 | some (j,G)=>(match (ops[j]?).bind (·.dst) with
  | some d=>(match e d with | .bool b=>some b | _=>none)
  | none=>none)==some G
theorem St.wanted {n ds w0 F e bx Z2 a w}(h:St n ds w0 F e bx Z2 a w)(ops:Array Oper)(o:Oper):
  Region.wanted o (yielded ops a.tmps)=Ac ops e o.guard:=by
 unfold Region.wanted Ac;cases o.guard with
 | none=>rfl
 | some p=>
  obtain⟨j,G⟩:=p;simp only[yielded];cases(ops[j]?).bind (·.dst) with
  | none=>rfl
  | some d=>
   have hd:=h.env d;simp only[AlS,<-hd,Akh];cases a.tmps[d]? with
   | none=>rfl
   | some v=>cases v<;>rfl
def Qx (g:Gl)(w0:World)(F:Nat->Prop):Exit->Act->World->Prop
 | .panic G,a,w=>(g.IG=none/\a.defers=[])/\ADe g w0 F (.panicked G) w
 | _,_,_=>False
def AV (g:Gl)(ops:Array Oper)(i:Nat)(e:Env)(bx:Bx)(Z2:Hp)(K:Env->Bx->Hp->Prop):Prop:=
 ∀G F a w,St g.n g.ds G F e bx Z2 a w->wpOpIn (wd g.IG) 0 g.P ops (Qx g G F) i (λa' w'=>∃e' HY Z',St g.n g.ds G F e' HY Z' a' w'/\K e' HY Z') a w
def Seq (g:Gl)(ops:Array Oper):List Nat->Env->Bx->Hp->(Env->Bx->Hp->Prop)->Prop
 | [],e,bx,Z2,K=>K e bx Z2
 | i::is,e,bx,Z2,K=>AV g ops i e bx Z2 λe' G Z'=>Seq g ops is e' G Z' K
def Yd (P:Program)(e:Env)(bx:Bx)(Z2:Hp)(op:Op)(ty:TypeId)(v:Value):Prop:=
 ∀o:Oper,o.op=op->o.type=ty->∀w,Sat Z2 w->Ko bx w->(execOp (AD e) o).run P w=.ok (.value v) w
abbrev J0:=Option (List (Nat×List Nat))
def KE (q:J0)(own:Option (Nat×List (List Nat)))(Z2:Hp):Hp:=
 match q,own with
 | none,_=>Z2
 | some _,none=>λ_=>none
 | some _,some x=>λb=>if b=x.1 then Z2 b else none
def Mg:J0->Option (Nat×List (List Nat))->J0
 | none,_=>none
 | some L,none=>some L
 | some L,some x=>some ((x.1,x.2.filterMap List.head?)::L)
def G3:J0->Nat->J0
 | none,_=>none
 | some L,j=>some (L.filter λx=>!x.2.contains j)
def KF (ops:Array Oper)(t u:Nat):Bool:=
 match ops[t]? with
 | some o=>o.after.any λe=>Region.binds .any e&&e.on==u
 | none=>false
def Vn (ops:Array Oper)(i:Nat):List Nat->Bool
 | []=>false
 | [t]=>KF ops t i
 | t::u::r=>KF ops t u&&Vn ops i (u::r)
def J0.ok (q:J0)(i:Nat):Bool:=
 match q with
 | none=>true
 | some L=>L.all λx=>!x.2.contains i
def Rl (ops:Array Oper)(i:Nat):Option (Nat×List (List Nat))->Bool
 | none=>true
 | some x=>x.2.all (Vn ops i)
def Sq (q:J0)(Z2:Hp)(bx:Bx)(G:Array Bool)(w:World):Prop:=
 Ko bx w/\match q with
  | none=>Sat Z2 w
  | some L=>∀x∈L,(∃t∈x.2,G.getD t false=true)\/∀o,Z2 x.1=some o->w.heap[x.1]?=some o
def Ic (q:J0)(bx:Bx)(Z2:Hp)(G:Bx)(Z':Hp):Prop:=
 (∀p∈bx,p∈G)/\match q with
  | none=>∀b o,Z2 b=some o->Z' b=some o
  | some L=>∀x∈L,∀o,Z2 x.1=some o->Z' x.1=some o
theorem Ic.refl (q:J0)(bx:Bx)(Z2:Hp):Ic q bx Z2 bx Z2:=⟨λ_ h=>h,by cases q<;>simp⟩
theorem Sq.of {q:J0}{Z2:Hp}{bx:Bx}{G:Array Bool}{w:World}(h:Sat Z2 w)(hb:Ko bx w):Sq q Z2 bx G w:=⟨hb,by
 cases q with
 | none=>exact h
 | some L=>exact λx _=>.inr λo ho=>h _ _ ho⟩
theorem di {G:Array Bool}{i t:Nat}(h:t≠i):(G.setIfInBounds i true).getD t false=G.getD t false:=getD_set_ne false (AjI h)
theorem Sq.set {q:J0}{Z2:Hp}{bx:Bx}{i:Nat}(AW:q.ok i=true)(G:Array Bool)(w:World):Sq q Z2 bx (G.setIfInBounds i true) w↔Sq q Z2 bx G w:=by
 unfold Sq;cases q with
 | none=>exact Iff.rfl
 | some L=>
  refine and_congr Iff.rfl (forall_congr' λx=>forall_congr' λhx=>or_congr ?_ Iff.rfl);have hni:i ∉ x.2:=by
   have:=Ajt.1 AW x hx;simpa using this
  refine exists_congr λt=>and_congr_right λht=>?_;rw[di (λh=>hni (by subst h;exact ht))]
theorem Ty {ops:Array Oper}{n i:Nat}{G:Array Bool}(inv:HeadInv .any ops n G):∀(p:List Nat) (t:Nat),Vn ops i p=true->p.head?=some t->G.getD t false=true->G.getD i false=true
 | [],_,h,_,_=>by cases h
 | [t'],t,h,ht,hl=>by
  simp only[Al9,Ai9]at ht;subst ht;simp only[Vn,KF]at h;split at h
  .rename_i o ho;obtain⟨e,he,hb⟩:=Array.any_eq_true'.1 h;simp only[AjD,AlX]at hb;exact hb.2▸inv.closed _ o ho hl e he hb.1
  .cases h
 | t'::u::r,t,h,ht,hl=>by
  simp only[Al9,Ai9]at ht;subst ht;simp only[Vn,AjD]at h;refine Ty inv (u::r) u h.2 rfl ?_;have h:=h.1;simp only[KF]at h;split at h
  .rename_i o ho;obtain⟨e,he,hb⟩:=Array.any_eq_true'.1 h;simp only[AjD,AlX]at hb;exact hb.2▸inv.closed _ o ho hl e he hb.1
  .cases h
theorem Sq.own {ops:Array Oper}{n i:Nat}{G:Array Bool}{q:J0}{own:Option (Nat×List (List Nat))}{Z2:Hp}{bx:Bx}{w:World}(inv:HeadInv .any ops n G)(Sv:G.getD i true=false)(AW:Rl ops i own=true)
  (h:Sq (Mg q own) Z2 bx G w):Sat (KE q own Z2) w/\Ko bx w:=by
 refine⟨?_,h.1⟩;cases q with
 | none=>exact h.2
 | some L=>
  cases own with
  | none=>intro b o hb;cases hb
  | some x=>
   intro b o hb;simp only[KE]at hb;split at hb
   .rename_i hbx;subst hbx;rcases h.2 (x.1,x.2.filterMap List.head?) (AjG ..) with ⟨t,ht,hl⟩|h2
    .obtain⟨p,hp,hpt⟩:=AkV.1 ht;have:=Ty inv p t (Ajt.1 AW p hp) hpt hl;rw[getD_both Sv]at this;cases this
    .exact h2 o hb
   .cases hb
theorem Sq.less {q:J0}{own:Option (Nat×List (List Nat))}{Z2:Hp}{bx:Bx}{G:Array Bool}{w:World}(h:Sq (Mg q own) Z2 bx G w):Sq q Z2 bx G w:=by
 refine⟨h.1,?_⟩;cases q with
 | none=>exact h.2
 | some L=>
  cases own with
  | none=>exact h.2
  | some x=>exact λy hy=>h.2 y (Aiz _ hy)
theorem Sq.dj {q:J0}{Z2 Z':Hp}{bx HY:Bx}{i:Nat}{G:Array Bool}{w:World}(hi:G.getD i false=true)(hk:Ic (G3 q i) bx Z2 HY Z')(h:Sq (G3 q i) Z' HY G w):Sq q Z2 bx G w:=by
 refine⟨λp hp=>h.1 p (hk.1 p hp),?_⟩;cases q with
 | none=>exact λb o hb=>h.2 b o (hk.2 b o hb)
 | some L=>
  intro x hx;by_cases hc:i∈x.2
  .exact .inl ⟨i,hc,hi⟩
  .have hm:x∈L.filter λx=>!x.2.contains i:=AkU.2 ⟨hx,by simpa using hc⟩;rcases h.2 x hm with h2|h2
   .exact .inl h2
   .exact .inr λo ho=>h2 o (hk.2 x hm o ho)
def Head (g:Gl)(ops:Array Oper):J0->List (Nat×Bool)->Env->Bx->Hp->(Env->Bx->Hp->Prop)->Prop
 | _,[],e,bx,Z2,K=>K e bx Z2
 | q,(i,true)::r,e,bx,Z2,K=>∃own o v,((Mg q own).ok i&&Rl ops i own)=true/\ops[i]?=some o/\((Ac ops e o.guard=true/\Yd g.P e bx (KE q own Z2) o.op o.type v)\/(Ac ops e o.guard=false/\v=undef))/\
  (∀t,o.dst=some t->t<g.n)/\Head g ops (Mg q own) r (put e o.dst v) bx Z2 K
 | q,(i,false)::r,e,bx,Z2,K=>AV g ops i e bx Z2 λe' G Z'=>Ic (G3 q i) bx Z2 G Z'/\Head g ops (G3 q i) r e' G Z' K
def S5 (ops:Array Oper)(n:Nat):List (Nat×Bool)->Array Bool->Bool
 | [],G=>Region.seqB .any ops (ops.size-n) n G
 | (i,true)::r,G=>decide (i<n)&&(Region.ready .any ops G).contains i&&Region.free .any ops G i&&S5 ops n r (G.setIfInBounds i true)
 | (i,false)::r,G=>decide (i<n)&&(Region.ready .any ops G==[i])&&S5 ops n r (G.setIfInBounds i true)
def xZ (ops:Array Oper)(n:Nat)(plan:List (Nat×Bool))(G:List Nat):Bool:=
 Region.noSelect ops&&decide (plan.length=n)&&(decide (n=ops.size)||(decide (n<ops.size)&&Region.sinkB .any ops n&&Region.chainB .any ops n)) &&
  decide (G=List.range' n (ops.size-n))&&S5 ops n plan (Array.replicate ops.size false)
section head
variable {P:Program}{ro:Option Nat}{ops:Array Oper}{Q:Exit->Act->World->Prop}{md:Region.Mode}
theorem Ck {i:Nat}{o:Oper}{K:Act->World->Prop}{a:Act}{w:World}(G:ops[i]?=some o)(hw:Region.wanted o (yielded ops a.tmps)=true)(h:o.uponIn (wd ro) 0 P a K Q ((o.semAt ro a.eval).run P w)):
  wpOpIn (wd ro) 0 P ops Q i K a w:=by
 unfold wpOpIn;simp only[G,hw,AkQ];exact⟨λ_ _=>trivial,h⟩
theorem mY {i:Nat}{o:Oper}{K:Act->World->Prop}{a:Act}{w:World}(G:ops[i]?=some o)(hw:Region.wanted o (yielded ops a.tmps)=false)(h:K (a.put o.dst undef) w):wpOpIn (wd ro) 0 P ops Q i K a w:=by
 unfold wpOpIn;simp only[G,hw,AkP,AkO];exact⟨λ_ _=>trivial,h⟩
theorem qe {S:World->Prop}{i:Nat}{o:Oper}{v:Value}{a:Act}(hi:ops[i]?=some o)(hy:YieldsIf P ops S o v a)
  {K:Act->World->Prop} {w:World} (hS:S w) (h:K (a.put o.dst v) w):wpOpIn (wd ro) 0 P ops Q i K a w:=by
 rcases hy with ⟨G,hv⟩|⟨G,rfl⟩
 .refine Ck hi G ?_;rw[Dg (hv w hS) (λd=>by simp)];exact h
 .exact mY hi G h
theorem tq {o:Oper}(hs:∀cs b,o.op≠.select cs b)(a:Act)(dst:Option Tmp)(u:Value)(h:∀d,dst=some d->d ∉ o.looksAt ops):o.semAt ro (a.put dst u).eval=o.semAt ro a.eval:=by
 have he:=execOp_put o hs a dst u h;by_cases hd:∃c,o.op=.defer c
 .obtain⟨c,G⟩:=hd;have hr:resolve (a.put dst u).eval c o.type=resolve a.eval c o.type:=resolve_congr (ρ:=(a.put dst u).eval) (ρ':=a.eval) c o.type (λx hx=>Act.eval_put λd hd hxd=>h d hd (by
   subst hxd;exact AkI _ (AkV.2 ⟨.tmp d,by rw[G];simpa[Op.operands] using hx,rfl⟩)))
  unfold Oper.semAt;cases ro with
  | none=>exact he
  | some l=>simp only[G,hr]
 .rw[Oper.semAt_eq ro _ o (λc G=>hd ⟨c,G⟩),Oper.semAt_eq ro _ o (λc G=>hd ⟨c,G⟩)];exact he
theorem tu {S:World->Prop}{j:Nat}{oi oj:Oper}{v:Value}(hj:ops[j]?=some oj)(hap:oi.apart ops oj=true)
  (hsi:∀cs b,oi.op≠.select cs b) (hsj:∀cs b,oj.op≠.select cs b)
  (hQ:∀c a w,Q (.panic c) (a.put oi.dst v) w->Q (.panic c) a w) {K:Act->World->Prop} {a:Act} {w:World}
  (hy:YieldsIf P ops S oi v a) (h:wpOpIn (wd ro) 0 P ops Q j K (a.put oi.dst v) w) :
  wpOpIn (wd ro) 0 P ops Q j (λa' w'=>YieldsIf P ops S oi v a'/\K (a'.put oi.dst v) w') a w:=by
 obtain⟨h1,h2,h3⟩:=Oper.apart_spec hap;have G:∀(a:Act),YieldsIf P ops S oi v a->∀u,YieldsIf P ops S oi v (a.put oj.dst u):=λa hy u=>
  hy.of_same (execOp_put oi hsi a oj.dst u h3) (wanted_put oi a oj.dst u h3)
 have ANz:∀d,YieldsIf P ops S oi v { a with defers:=d::a.defers }:=λd=>hy.of_same rfl rfl;unfold wpOpIn at h;simp only[hj]at h;rw[wanted_put oj a oi.dst v h1]at h;by_cases hw:Region.wanted oj (yielded ops a.tmps)=true
 .simp only[hw,AkQ]at h;refine Ck hj hw ?_;have h:=h.2
  change oj.uponIn (wd ro) 0 P (a.put oi.dst v) K Q ((oj.semAt ro (a.put oi.dst v).eval).run P w)at h
  rw[tq hsj a oi.dst v h1]at h;generalize (oj.semAt ro a.eval).run P w=r at *;cases r with
  | ok n w'=>
   cases n<;>simp only[Oper.uponIn]at h ⊢
   case value u=>exact⟨G a hy u,by rw[<-Act.put_comm a v u h2];exact h⟩
   case skip=>exact⟨G a hy _,by rw[<-Act.put_comm a v undef h2];exact h⟩
   case defer d=>
    refine⟨G _ (ANz d) _,?_⟩;rw[<-Act.put_comm _ v undef h2,<-Act.put_defers];exact h
   case enter f args=>
    refine⟨h.1,CallsIn.mono h.2 λe w'' he=>?_⟩;cases e with
    | returned u=>exact⟨G a hy u,by rw[<-Act.put_comm a v u h2];exact he⟩
    | panicked c=>exact hQ _ _ _ he
    | outgrown=>exact he
   case row row args=>exact⟨h.1,RowsIn.mono h.2 λu w'' he=>⟨G a hy u,by rw[<-Act.put_comm a v u h2];exact he⟩⟩
   case round l f tmps assign body=>
    refine⟨h.1,RoundIn.mono h.2 λe w'' he=>?_⟩;cases e with
    | returned u=>exact⟨G a hy u,by rw[<-Act.put_comm a v u h2];exact he⟩
    | panicked c=>exact hQ _ _ _ he
    | outgrown=>exact he
  | halt x w'=>
   cases x<;>simp only[Oper.uponIn]at h ⊢
   case panic u=>exact hQ _ _ _ h
 .have hw:Region.wanted oj (yielded ops a.tmps)=false:=by simpa using hw
  simp only[hw,AkP,AkO]at h;exact mY hj hw ⟨G a hy _,by rw[<-Act.put_comm a v undef h2];exact h.2⟩
def IH (P:Program)(ro:Option Nat)(md:Region.Mode)(ops:Array Oper)(Q:Exit->Act->World->Prop)(S:Array Bool->World->Prop)(n:Nat)(L:Array Bool->Act->World->Prop):Nat->Array Bool->Act->World->Prop
 | 0,G,a,w=>L G a w
 | f+1,G,a,w=>Region.ready md ops G≠[]/\
  ∀i∈Region.ready md ops G,i<n/\wpOpIn (wd ro) 0 P ops Q i (λa' w'=>S (G.setIfInBounds i true) w'/\IH P ro md ops Q S n L f (G.setIfInBounds i true) a' w') a w
theorem GI {n g:Nat}{S:Array Bool->World->Prop}{L:Array Bool->Act->World->Prop}(hL:∀G a w,L G a w->wpAnyIn (wd ro) 0 P md ops Q g G a w):
  ∀(f:Nat) (G:Array Bool) (a:Act) (w:World),IH P ro md ops Q S n L f G a w->wpAnyIn (wd ro) 0 P md ops Q (f+g) G a w
 | 0,G,a,w,h=>by rw[Ajz];exact hL _ _ _ h
 | f+1,G,a,w,h=>by
  rw[show f+1+g=(f+g)+1 by omega];exact⟨λh0=>absurd h0 h.1,λi hi=>wpOpIn_mono (λa' w' h'=>GI hL f _ a' w' h'.2) (h.2 i hi).2⟩
theorem GJ {n:Nat}{S S':Array Bool->World->Prop}{G:Array Bool->Prop}{L:Array Bool->Act->World->Prop}(hG:∀listed j,G listed->G (listed.setIfInBounds j true))(hS:∀listed w,G listed->S' listed w->S listed w):
  ∀(f:Nat) (listed:Array Bool) (a:Act) (w:World),G listed->IH P ro md ops Q S' n L f listed a w->IH P ro md ops Q S n L f listed a w
 | 0,_,_,_,_,h=>h
 | f+1,_,_,_,hg,h=>⟨h.1,λi hi=>⟨(h.2 i hi).1,wpOpIn_mono (λa' w' h'=>⟨hS _ _ (hG _ _ hg) h'.1,GJ hG hS f _ a' w' (hG _ _ hg) h'.2⟩) (h.2 i hi).2⟩⟩
theorem Vo {n:Nat}{f:FuncId}{args:Array Value}{w:World}{R:Ending->World->Prop}(h:Calls P f args w R):CallsIn (wd ro) n P f args w R:=
 ⟨trivial,λcs _=>let ⟨e,w',fr,r,s,x⟩:=h cs;⟨e,w',fr,r,comesIn_wide.2 s,x⟩⟩
theorem Qa {n i:Nat}{oi:Oper}{v:Value}{S:Array Bool->World->Prop}{Sy:World->Prop}{L:Array Bool->Act->World->Prop}(hi:ops[i]?=some oi)(Mh:∀(j:Nat) (o:Oper) cs b,ops[j]?=some o->o.op≠.select cs b)
  (hQ:∀c a w,Q (.panic c) (a.put oi.dst v) w->Q (.panic c) a w)
  (HZ:∀G,HeadInv md ops n G->∀i,i<n->G.getD i true=false->∀t,n<=t->t ∉ Region.ready md ops G)
  (hSi:∀G w,S (G.setIfInBounds i true) w↔S G w) (hSy:∀G w,HeadInv md ops n G->G.getD i true=false->S G w->Sy w)
  (Tz:i<n) (AN0:∀G a w,L G a w->∀j∈Region.ready md ops G,n<=j) :
  ∀(f:Nat) (G:Array Bool) (a:Act) (w:World),HeadInv md ops n G->
   (∀j oj,ops[j]?=some oj->j≠i->G.getD j true=false->(∀e∈oj.after,Region.binds md e=true->e.on≠i)->oi.apart ops oj=true)->
   i∈Region.ready md ops G->YieldsIf P ops Sy oi v a->S G w->
   IH P ro md ops Q S n L f (G.setIfInBounds i true) (a.put oi.dst v) w->IH P ro md ops Q S n L (f+1) G a w:=by
 intro f
 induction f with
 | zero=>
  intro G a w inv _ hr hy hS H;have Sv:=(mem_ready.1 hr).1;refine⟨λh=>(by rw[h]at hr;cases hr),λj hj=>?_⟩;have hjn:j<n:=by
   rcases Aku j n with h|h
   .exact h
   .exact absurd hj (HZ _ inv i Tz Sv j h)
  refine⟨hjn,?_⟩;by_cases hji:j=i
  .subst hji;exact qe hi hy (hSy _ _ inv Sv hS) ⟨(hSi _ _).2 hS,H⟩
  .have:=AN0 _ _ _ H j (ready_mono hj hji);omega
 | succ f ih=>
  intro G a w inv AGe hr hy hS H;have Sv:=(mem_ready.1 hr).1;refine⟨λh=>(by rw[h]at hr;cases hr),λj hj=>?_⟩;have hjn:j<n:=by
   rcases Aku j n with h|h
   .exact h
   .exact absurd hj (HZ _ inv i Tz Sv j h)
  refine⟨hjn,?_⟩;by_cases hji:j=i
  .subst hji;exact qe hi hy (hSy _ _ inv Sv hS) ⟨(hSi _ _).2 hS,H⟩
  .have h1:=(H.2 j (ready_mono hj hji)).2;obtain⟨AN1,oj,hoj,Kr⟩:=mem_ready.1 hj;have AWY:∀e∈oj.after,Region.binds md e=true->e.on≠i:=λe he hb heq=>by
    have h1:=Kr e he hb;rw[heq,getD_both Sv]at h1;cases h1
   have h2:=tu hoj (AGe j oj hoj hji AN1 AWY) (λcs b=>Mh i oi cs b hi) (λcs b=>Mh j oj cs b hoj) hQ hy h1;have AIh:∀k ok,ops[k]?=some ok->k≠i->(G.setIfInBounds j true).getD k true=false->
     (∀e∈ok.after,Region.binds md e=true->e.on≠i)->oi.apart ops ok=true:=λk ok hk hki Sv AZ=>by
    refine AGe k ok hk hki ?_ AZ;by_cases hjk:j=k
    .subst hjk;exact AN1
    .rw[getD_set_ne true hjk]at Sv;exact Sv
   refine wpOpIn_mono (λa' w' h3=>⟨(hSi _ _).1 (by rw[AlF _ _ hji];exact h3.2.1),ih (G.setIfInBounds j true) a' w' (inv.set hj hjn) AIh (ready_mono hr (AjI hji)) h3.1 ((hSi _ _).1 (by rw[AlF _ _ hji];exact h3.2.1)) ?_⟩) h2;rw[AlF _ _ hji];exact h3.2.2
theorem HV:∀(g k:Nat) (G:Array Bool) (a:Act) (w:World),
  Region.seqB md ops g k G=true->wpOpsIn (wd ro) 0 P ops Q (List.range' k g) a w->wpAnyIn (wd ro) 0 P md ops Q g G a w
 | 0,_,_,_,_,hB,h=>⟨by simpa[Region.seqB] using hB,h⟩
 | g+1,k,G,a,w,hB,h=>by
  simp only[Region.seqB,AjD,AjH]at hB;refine⟨λh1=>(by rw[hB.1]at h1;cases h1),λi hi=>?_⟩;rw[hB.1]at hi;have hik:i=k:=by simpa using hi
  subst hik;rw[List.range'_succ,wpOpsIn_cons]at h;exact wpOpIn_mono (λa' w' h'=>HV g (i+1) _ a' w' hB.2 h') h
end head
section regions
variable {g:Gl}{ops:Array Oper}
def Qn (g:Gl)(G:World)(F:Nat->Prop)(K:Env->Bx->Hp->Prop):Exit->Act->World->Prop
 | .normal,a,w=>∃e bx Z2,St g.n g.ds G F e bx Z2 a w/\K e bx Z2
 | .panic ch,a,w=>(g.IG=none/\a.defers=[])/\ADe g G F (.panicked ch) w
 | _,_,_=>False
theorem mZ {P:Program}{ro:Option Nat}{Q Q':Exit->Act->World->Prop}(hp:∀c a w,Q (.panic c) a w->Q' (.panic c) a w)(ho:∀a w,Q .outgrown a w->Q' .outgrown a w)
  {i:Nat} {K:Act->World->Prop} {a:Act} {w:World} (h:wpOpIn (wd ro) 0 P ops Q i K a w):wpOpIn (wd ro) 0 P ops Q' i K a w:=by
 unfold wpOpIn at *;split
 .rename_i hn;simpa only[hn] using h
 .rename_i o hn;simp only[hn]at h;split
  .rename_i hw;simp only[hw,AkQ]at h;unfold Oper.wpIn at *;refine⟨h.1,?_⟩;have h:=h.2;generalize (o.semAt (wd ro).round a.eval).run P w=r at *;cases r with
   | ok x w'=>
    cases x<;>simp only[Oper.uponIn]at h ⊢<;>try exact h
    .refine⟨h.1,CallsIn.mono h.2 λen w2 G=>?_⟩;cases en with
     | returned v=>exact G
     | panicked c=>exact hp _ _ _ G
     | outgrown=>obtain⟨a1,w1,h1⟩:=G;exact⟨a1,w1,ho _ _ h1⟩
    .refine⟨h.1,RoundIn.mono h.2 λen w2 G=>?_⟩;cases en with
     | returned v=>exact G
     | panicked c=>exact hp _ _ _ G
     | outgrown=>obtain⟨a1,w1,h1⟩:=G;exact⟨a1,w1,ho _ _ h1⟩
   | halt x w'=>
    cases x<;>simp only[Oper.uponIn]at h ⊢;exact hp _ _ _ h
  .rename_i hw;simp only[hw]at h;exact h
theorem PZ {K:Env->Bx->Hp->Prop}{w0 F}:∀(is:List Nat) (e:Env) (bx:Bx) (Z2:Hp) (a:Act) (w:World),St g.n g.ds w0 F e bx Z2 a w->
  Seq g ops is e bx Z2 K->wpOpsIn (wd g.IG) 0 g.P ops (Qn g w0 F K) is a w
 | [],e,bx,Z2,a,w,st,h=>⟨e,bx,Z2,st,h⟩
 | i::is,e,bx,Z2,a,w,st,h=>by
  rw[wpOpsIn_cons];refine wpOpIn_mono ?_ (mZ (Q:=Qx g w0 F) (λc a w h=>h) (λa w h=>h.elim) (h w0 F a w st))
  rintro a' w' ⟨e',HY,Z',G,h'⟩
  exact PZ is e' HY Z' a' w' G h'
theorem Q0 {K:Env->Bx->Hp->Prop}{w0 F}{n:Nat}{tl:List Nat}(Mh:Region.noSelect ops=true)
  (HZ:∀listed,HeadInv .any ops n listed->∀i,i<n->listed.getD i true=false->∀t,n<=t->t ∉ Region.ready .any ops listed)
  (gX:tl=List.range' n (ops.size-n)) :
  ∀(plan:List (Nat×Bool)) (q:J0) (listed:Array Bool) (e:Env) (bx:Bx) (Z2:Hp) (a:Act) (w:World),HeadInv .any ops n listed->S5 ops n plan listed=true->
   St g.n g.ds w0 F e bx Z2 a w->Head g ops q plan e bx Z2 (λe bx Z2=>Seq g ops tl e bx Z2 K)->
   IH g.P g.IG .any ops (Qn g w0 F K) (Sq q Z2 bx) n (λlisted a w=>Region.seqB .any ops (ops.size-n) n listed=true/\wpOpsIn (wd g.IG) 0 g.P ops (Qn g w0 F K) tl a w) plan.length listed a w
 | [],_,listed,e,bx,Z2,a,w,_,AW,st,h=>⟨AW,PZ _ _ _ _ _ _ st h⟩
 | (i,true)::r,q,listed,e,bx,Z2,a,w,inv,AW,st,h=>by
  obtain⟨own,o,v,hqq,ho,hy,hd,h⟩:=h;simp only[AjD]at hqq;simp only[S5,AjD,AjH]at AW;obtain⟨⟨⟨Tz,hr⟩,hf⟩,AW⟩:=AW;have gY:i∈Region.ready .any ops listed:=by simpa using hr
  refine GJ (S':=Sq (Mg q own) Z2 bx) (G:=λ_=>True) (λ_ _ _=>trivial) (λ_ _ _ h=>h.less) _ _ _ _ trivial ?_;refine Qa (Sy:=λw=>Sat (KE q own Z2) w/\Ko bx w) ho (Region.noSelect_spec Mh) ?_ HZ (Sq.set hqq.1) (λlisted w inv Sv h=>Sq.own inv Sv hqq.2 h) Tz ?_ _ listed a w inv (Region.free_spec ho hf) gY ?_ (Sq.of st.sat st.box)
   (Q0 Mh HZ gX r _ _ _ _ _ _ _ (inv.set gY Tz) AW (st.put o.dst v hd) h)
  .rintro c a w ⟨⟨h0,h1⟩,h2⟩
   exact⟨⟨h0,by cases Mj:o.dst<;>simpa[Act.put,Mj] using h1⟩,h2⟩
  .intro listed a w hL;exact seqB_ready hL.1
  .rcases hy with ⟨hw,hy⟩|⟨hw,rfl⟩
   .exact .inl ⟨by rw[st.wanted];exact hw,λw hS=>by rw[st.eval];exact hy o rfl rfl w hS.1 hS.2⟩
   .exact .inr ⟨by rw[st.wanted];exact hw,rfl⟩
 | (i,false)::r,q,listed,e,bx,Z2,a,w,inv,AW,st,h=>by
  simp only[S5,AjD,AjH,AlX]at AW;obtain⟨⟨Tz,hr⟩,AW⟩:=AW;refine⟨by rw[hr];simp,λj hj=>?_⟩;rw[hr]at hj;obtain rfl:j=i:=by simpa using hj
  refine⟨Tz,wpOpIn_mono ?_ (mZ (Q:=Qx g w0 F) (λc a w h=>h) (λa w h=>h.elim) (h w0 F a w st))⟩
  rintro a' w' ⟨e',HY,Z',G4,hk,h'⟩
  have hl:(listed.setIfInBounds j true).getD j false=true:=by
   have Ax:j<listed.size:=by rw[inv.size];obtain⟨_,o,ho,_⟩:=mem_ready.1 (show j∈Region.ready .any ops listed by rw[hr];simp);exact(AjF.1 ho).1
   simp[Ax]
  exact⟨Sq.dj hl hk (Sq.of G4.sat G4.box),GJ (S':=Sq (G3 q j) Z' HY) (G:=λl=>l.getD j false=true) (λ_ _ h=>getD_set_true h) (λ_ _ hg h=>Sq.dj hg hk h) _ _ _ _ hl
   (Q0 Mh HZ gX r _ _ _ _ _ _ _ (inv.set (by rw[hr];simp) Tz) AW G4 h')⟩
end regions
theorem Jp.of_wp {g:Gl}{c:Code}{k:List Item}{a:Act}{w:World}{w0 F}{K:Env->Bx->Hp->Prop}
  (h:c.wpIn (wd g.IG) 0 g.P (Qn g w0 F K) a w) (hk:∀e bx Z2,K e bx Z2->At g k e bx Z2):Jp g.P g.f g.IG (.code c::k) a w (ADe g w0 F):=by
 intro b cs hf ma qc Vj;obtain⟨e,a',w',G,iB⟩:=h b k cs qc trivial ADd;cases e with
 | normal=>
  obtain⟨e,bx,Z2,st,hK⟩:=G;exact .of_steps iB.steps (hk _ _ _ hK w0 F a' w' st b cs hf ma qc Vj)
 | panic ch=>
  obtain⟨⟨S4,hd⟩,G⟩:=G;obtain⟨todo,hs⟩:=iB;obtain⟨fn,Vj⟩:=Vj;unfold Rj;rw[S4];exact⟨.panicked ch,w',_,G,hs.steps,hf,rfl,hd,fn,by simpa[Frame.atR,hf] using Vj⟩
 | _=>exact G.elim
section xd
variable {g:Gl}{k:List Item}{e:Env}{bx:Bx}{Z2:Hp}
theorem At.region {c:Code}{id:Nat}{ops:Array Oper}{l:List Nat}(G:c=.region id ops false)(hl:List.range ops.size=l)
  (h:Seq g ops l e bx Z2 (λe bx Z2=>At g k e bx Z2)):At g (.code c::k) e bx Z2:=λ_ _ a w st=>
 G▸Jp.of_wp (K:=λe bx Z2=>At g k e bx Z2) (wpIn_region (hl▸PZ l e bx Z2 a w st h)) (λ_ _ _ h=>h)
theorem At.draw {c:Code}{id:Nat}{ops:Array Oper}{n:Nat}{q:J0}{plan:List (Nat×Bool)}{tl:List Nat}(hm:g.P.follows .mixedOrders=true)(hc:c=.region id ops true)
  (hp:xZ ops n plan tl=true)
  (h:Head g ops q plan e bx Z2 (λe bx Z2=>Seq g ops tl e bx Z2 (λe bx Z2=>At g k e bx Z2))):At g (.code c::k) e bx Z2:=λw0 F a w st=>by
 subst hc;simp only[xZ,AjD,Akx,AjH]at hp;obtain⟨⟨⟨⟨Mh,hlen⟩,hn⟩,gX⟩,AW⟩:=hp;have MQ:n<=ops.size:=by rcases hn with h|h<;>omega
 have HZ:∀G,HeadInv .any ops n G->∀i,i<n->G.getD i true=false->∀t,n<=t->t ∉ Region.ready .any ops G:=by
  intro G inv i hi Sv t ht;rcases hn with h|⟨⟨h1,h2⟩,h3⟩
  .intro hr;obtain⟨_,o,ho,_⟩:=mem_ready.1 hr;have:=(AjF.1 ho).1;omega
  .exact tail_waits h2 h3 h1 inv _ i rfl hi Sv t ht
 have xe:HeadInv .any ops n (Array.replicate ops.size false):=
  ⟨by simp,λj oj _ hl=>(by rw[getD_replicate_false]at hl;cases hl),λt _ ht=>getD_in (by simpa using ht) (getD_replicate_false _ _)⟩
 refine Jp.of_wp (K:=λe bx Z2=>At g k e bx Z2) (wpIn_region_any hm ?_) (λ_ _ _ h=>h);have H:=Q0 (K:=λe bx Z2=>At g k e bx Z2) (tl:=tl) Mh HZ gX plan q (Array.replicate ops.size false) e bx Z2 a { w with drawn:=w.drawn+1 } xe AW st.drew h;have:=GI (g:=ops.size-n) (λG a w hL=>HV _ _ G a w hL.1 (gX▸hL.2)) _ _ _ _ H;rw[hlen,show n+(ops.size-n)=ops.size by omega]at this;exact this
end xd
end Tw
end
section
namespace Tw
open Go
variable [GF]
def Hp.ld (Z2:Hp)(a:Addr):Option Value:=
 match Z2 a.block with
 | some (.cells c _ _)=>if a.spot.isSome then none else c[a.off]?
 | _=>none
theorem Sat.ld {Z2:Hp}{w:World}(h:Sat Z2 w){a:Addr}{v:Value}(G:Z2.ld a=some v):w.cell? a=some v:=by
 unfold Hp.ld at G;unfold World.cell?;cases hb:Z2 a.block with
 | none=>simp[hb]at G
 | some o=>rw[h _ _ hb];rw[hb]at G;exact G
def Az (Z2:Hp)(b:Nat):Nat->List Value->Prop
 | _,[]=>True
 | o,v::l=>Z2.ld ⟨b,o,none⟩=some v/\Az Z2 b (o+1) l
theorem Az.get {Z2:Hp}{b:Nat}:∀{l:List Value} {o j:Nat} {v:Value},Az Z2 b o l->l[j]?=some v->Z2.ld ⟨b,o+j,none⟩=some v
 | x::l,o,0,v,h,G=>by simp at G;subst G;exact h.1
 | x::l,o,j+1,v,h,G=>by
  have:=Az.get (l:=l) (o:=o+1) (j:=j) h.2 (by simpa using G);rwa[show o+(j+1)=o+1+j by omega]
theorem Cm (b o n:Nat):(⟨b,o,none⟩:Addr).add n=⟨b,o+n,none⟩:=by cases n<;>simp[Addr.add]
section mc
variable {P:Program}{e:Env}{bx:Bx}{Z2:Hp}{ty T T':TypeId}{x y z:Operand}{k:IntKind}{a b:Int}
theorem Yd.of {op:Op}{v:Value}(m:Sem Value)(h:∀o:Oper,o.op=op->o.type=ty->execOp (AD e) o=(do pure (.value (<-m))))
  (hm:∀w,Sat Z2 w->Ko bx w->m.run P w=.ok v w):Yd P e bx Z2 op ty v:=λoo G ht w hs hb=>by
 rw[h oo G ht];simp[hm w hs hb]
theorem Yd.pu {op:Op}{v:Value}(h:∀o:Oper,o.op=op->execOp (AD e) o=pure (.value v)):Yd P e bx Z2 op ty v:=λoo G _ w _ _=>by
 rw[h oo G];simp
theorem Y.move {v:Value}(hx:AD e x=v):Yd P e bx Z2 (.move x) ty v:=.pu λo G=>by simp[execOp,G,hx]
theorem Y.assign {v:Value}(hx:AD e x=v):Yd P e bx Z2 (.assign x) ty v:=.pu λo G=>by simp[execOp,G,hx]
theorem Y.AGf {v:Value}(G:AD e z=.bool true)(hx:AD e x=v):Yd P e bx Z2 (.pick z x y) ty v:=
 .pu λo ho=>by simp[execOp,ho,G,hx,asBool]
theorem Y.AGg {v:Value}(G:AD e z=.bool false)(hx:AD e y=v):Yd P e bx Z2 (.pick z x y) ty v:=
 .pu λo ho=>by simp[execOp,ho,G,hx,asBool]
theorem Y.lss (hx:AD e x=.int k a)(hy:AD e y=.int k b):Yd P e bx Z2 (.binOp .lss T x y T') ty (.bool (decide (a<b))):=
 λoo G _ w _ _=>by simp[execOp,G,hx,hy,eqGuard_lss,binOp_lss]
theorem Y.leq (hx:AD e x=.int k a)(hy:AD e y=.int k b):Yd P e bx Z2 (.binOp .leq T x y T') ty (.bool (decide (a<=b))):=
 λoo G _ w _ _=>by simp[execOp,G,hx,hy,eqGuard_leq,binOp_leq]
theorem Y.gtr (hx:AD e x=.int k a)(hy:AD e y=.int k b):Yd P e bx Z2 (.binOp .gtr T x y T') ty (.bool (decide (b<a))):=
 λoo G _ w _ _=>by simp[execOp,G,hx,hy,eqGuard_gtr,binOp_gtr]
theorem Y.geq (hx:AD e x=.int k a)(hy:AD e y=.int k b):Yd P e bx Z2 (.binOp .geq T x y T') ty (.bool (decide (b<=a))):=
 λoo G _ w _ _=>by simp[execOp,G,hx,hy,eqGuard_geq,binOp_geq]
theorem Y.eql (hx:AD e x=.int k a)(hy:AD e y=.int k b):Yd P e bx Z2 (.binOp .eql T x y T') ty (.bool (decide (a=b))):=
 λoo G _ w _ _=>by simp[execOp,G,hx,hy,eqGuard_at_int,binOp_eql];rfl
theorem Y.neq (hx:AD e x=.int k a)(hy:AD e y=.int k b):Yd P e bx Z2 (.binOp .neq T x y T') ty (.bool (decide (a≠b))):=
 λoo G _ w _ _=>by simp[execOp,G,hx,hy,eqGuard_at_int,binOp_neq];rfl
theorem Y.add (hx:AD e x=.int k a)(hy:AD e y=.int k b):Yd P e bx Z2 (.binOp .add T x y T') ty (.int k (k.wrap (a+b))):=
 λoo G _ w _ _=>by simp[execOp,G,hx,hy,eqGuard_add,binOp_add,Op.intArith]
theorem Y.sub (hx:AD e x=.int k a)(hy:AD e y=.int k b):Yd P e bx Z2 (.binOp .sub T x y T') ty (.int k (k.wrap (a-b))):=
 λoo G _ w _ _=>by simp[execOp,G,hx,hy,eqGuard_sub,binOp_sub,Op.intArith]
theorem Y.mul (hx:AD e x=.int k a)(hy:AD e y=.int k b):Yd P e bx Z2 (.binOp .mul T x y T') ty (.int k (k.wrap (a*b))):=
 λoo G _ w _ _=>by simp[execOp,G,hx,hy,eqGuard_mul,binOp_mul,Op.intArith]
def AL (n:Int):Prop:=-9223372036854775808<=n/\n<=9223372036854775807
theorem AL.wrap {n:Int}(h:AL n):IntKind.i64.wrap n=n:=by
 obtain⟨G,h2⟩:=h;simp[IntKind.wrap,IntKind.bits,IntKind.signed];split<;>omega
theorem Y.AWa (h:AL (a+b))(G:AD e x=.int .i64 a)(hy:AD e y=.int .i64 b):Yd P e bx Z2 (.binOp .add T x y T') ty (.int .i64 (a+b)):=by
 have:=Y.add (P:=P) (bx:=bx) (Z2:=Z2) (ty:=ty) (T:=T) (T':=T') G hy;rwa[h.wrap]at this
theorem Y.tw (h:AL (a-b))(G:AD e x=.int .i64 a)(hy:AD e y=.int .i64 b):Yd P e bx Z2 (.binOp .sub T x y T') ty (.int .i64 (a-b)):=by
 have:=Y.sub (P:=P) (bx:=bx) (Z2:=Z2) (ty:=ty) (T:=T) (T':=T') G hy;rwa[h.wrap]at this
theorem Y.bits {op:BinOp}(G:op=.and\/op=.or\/op=.xor\/op=.andNot)(hx:AD e x=.int k a)(hy:AD e y=.int k b):
  Yd P e bx Z2 (.binOp op T x y T') ty (.int k (Go.bits op k a b)):=
 λoo ho _ w _ _=>by
  rcases G with rfl|rfl|rfl|rfl <;>
   simp[execOp,ho,hx,hy,eqGuard_at_int,binOp_and,binOp_or,binOp_xor,binOp_andNot,intBits_and,intBits_or,intBits_xor,intBits_andNot]
theorem Y.shl {k':IntKind}(G:0<=b)(h1:b<=k.bits)(hx:AD e x=.int k a)(hy:AD e y=.int k' b):
  Yd P e bx Z2 (.binOp .shl T x y T') ty (.int k (k.wrap (a*2^b.toNat))):=
 λoo ho _ w _ _=>by simp[execOp,ho,hx,hy,eqGuard_shl,binOp_shl,shift_shl k k' a b G h1]
theorem Y.shr {k':IntKind}(G:0<=b)(h1:b<=k.bits)(hx:AD e x=.int k a)(hy:AD e y=.int k' b):
  Yd P e bx Z2 (.binOp .shr T x y T') ty (.int k (a/2^b.toNat)):=
 λoo ho _ w _ _=>by simp[execOp,ho,hx,hy,eqGuard_shr,binOp_shr,shift_shr k k' a b G h1]
theorem Y.quo (h:b≠0)(hx:AD e x=.int k a)(hy:AD e y=.int k b):Yd P e bx Z2 (.binOp .quo T x y T') ty (.int k (k.wrap (a.tdiv b))):=
 λoo G _ w _ _=>by simp[execOp,G,hx,hy,eqGuard_quo,binOp_quo,Op.intDiv,h]
theorem Y.rem (h:b≠0)(hx:AD e x=.int k a)(hy:AD e y=.int k b):Yd P e bx Z2 (.binOp .rem T x y T') ty (.int k (a.tmod b)):=
 λoo G _ w _ _=>by simp[execOp,G,hx,hy,eqGuard_rem,binOp_rem,Op.intDiv,h]
theorem Y.not {p:Bool}(hx:AD e x=.bool p):Yd P e bx Z2 (.unOp .not T x) ty (.bool (!p)):=
 λoo G _ w _ _=>by simp[execOp,G,hx,Op.unary]
theorem Y.neg (hx:AD e x=.int k a):Yd P e bx Z2 (.unOp .neg T x) ty (.int k (k.wrap (0-a))):=
 λoo G _ w _ _=>by simp[execOp,G,hx,Op.unary,Op.intArith]
theorem Y.conv {k':IntKind}(hs:(P.underlying T).isSome=true)(hd:P.underlying T'=some (.int k'))(hx:AD e x=.int k a):
  Yd P e bx Z2 (.convert T T' x) ty (.int k' (k'.wrap a)):=
 λoo ho _ w _ _=>by
  have G:P.intKind T'=k':=by simp[Program.intKind,hd]
  have:=run_convert_int w T T' k a hs (by rw[G];exact hd);rw[G]at this;simp[execOp,ho,hx,this]
theorem Y.xf {p:Option Addr}{n c:Nat}{E:TypeId}(hT:P.underlying T=some (.slice E))(hx:AD e x=.slice p n c){ts:Array TypeId}(G:ts=#[T]):
  Yd P e bx Z2 (.call { callee:=.builtin .len,args:=#[x],argTypes:=ts }) ty (.int .i64 n):=λoo ho ht w _ _=>by
 subst G;simp[execOp,ho,resolve,invoke,builtin,hx,Builtin.len_,run_underlying hT,goInt]
theorem Y.AWb {p:Option Addr}{n c:Nat}{E:TypeId}(hT:P.underlying T=some (.slice E))(hx:AD e x=.slice p n c){ts:Array TypeId}(G:ts=#[T]):
  Yd P e bx Z2 (.call { callee:=.builtin .cap,args:=#[x],argTypes:=ts }) ty (.int .i64 c):=λoo ho ht w _ _=>by
 subst G;simp[execOp,ho,resolve,invoke,builtin,hx,Builtin.cap_,run_underlying hT,goInt]
theorem Y.AIj {s:ByteArray}(hT:P.underlying T=some .string)(hx:AD e x=.string s){ts:Array TypeId}(G:ts=#[T]):
  Yd P e bx Z2 (.call { callee:=.builtin .len,args:=#[x],argTypes:=ts }) ty (.int .i64 s.size):=λoo ho ht w _ _=>by
 subst G;simp[execOp,ho,resolve,invoke,builtin,hx,Builtin.len_,run_underlying hT,goInt]
theorem Y.min2 {k':IntKind}{ts:Array TypeId}(hx:AD e x=.int k a)(hy:AD e y=.int k' b):
  Yd P e bx Z2 (.call { callee:=.builtin .min,args:=#[x,y],argTypes:=ts }) ty (.int k (if b<a then b else a)):=λoo G ht w _ _=>by
 simp[execOp,G,resolve,invoke,builtin,hx,hy,run_min_int2]
theorem Y.max2 {k':IntKind}{ts:Array TypeId}(hx:AD e x=.int k a)(hy:AD e y=.int k' b):
  Yd P e bx Z2 (.call { callee:=.builtin .max,args:=#[x,y],argTypes:=ts }) ty (.int k (if b > a then b else a)):=λoo G ht w _ _=>by
 simp[execOp,G,resolve,invoke,builtin,hx,hy,run_max_int2]
theorem Y.fieldAddr {b o f off:Nat}{G:Array Field}{fd:Field}{a':Addr}(hT:P.underlying T=some (.struct G))(hf:G[f]?=some fd)(hs:∀w,((Go.sizeOf fd.type).run P w)=.ok (off+1) w)
  (hx:AD e x=.pointer (some ⟨b,o,none⟩)) (ha:a'=⟨b,o+fd.offset,none⟩):Yd P e bx Z2 (.fieldAddr T x f) ty (.pointer (some a')):=
 λoo ho _ w _ _=>by
  subst ha;simp[execOp,ho,hx,Instr.fieldAt,run_underlying hT,hf,Instr.sureAddr,fieldPlace,hs];exact Cm b o fd.offset
theorem Y.extract {vs:Array Value}{i:Nat}{v:Value}(hx:AD e x=.tuple vs)(hv:vs[i]?=some v):Yd P e bx Z2 (.extract x i) ty v:=
 λoo G _ w _ _=>by simp[execOp,G,hx,Instr.extract,hv]
theorem Y.AIk {cs:Array Value}{f:Nat}{G:Array Field}{fd:Field}{v:Value}(hT:P.underlying T=some (.struct G))(hf:G[f]?=some fd)(ha:∀w,(isAgg fd.type).run P w=.ok false w)
  (hx:AD e x=.agg cs) (hv:cs[fd.offset]?=some v):Yd P e bx Z2 (.field T x f) ty v:=
 λoo ho _ w _ _=>by simp[execOp,ho,hx,Instr.field,run_underlying hT,hf,asAgg,part,ha,hv]
theorem Y.AIl {cs cs':Array Value}{f n:Nat}{G:Array Field}{fd:Field}(hT:P.underlying T=some (.struct G))(hf:G[f]?=some fd)(ha:∀w,(isAgg fd.type).run P w=.ok true w)
  (hs:∀w,((Go.sizeOf fd.type).run P w)=.ok n w) (hx:AD e x=.agg cs) (hv:cs.extract fd.offset (fd.offset+n)=cs'):Yd P e bx Z2 (.field T x f) ty (.agg cs'):=
 λoo ho _ w _ _=>by simp[execOp,ho,hx,Instr.field,run_underlying hT,hf,asAgg,part,ha,hs,hv]
theorem Y.idx {b o n c sz:Nat}{E:TypeId}{i:Int}{a':Addr}(G:P.underlying T=some (.slice E))(hs:∀w,((Go.sizeOf E).run P w)=.ok sz w)
  (hx:AD e x=.slice (some ⟨b,o,none⟩) n c) (hy:AD e y=.int k i) (hi:0<=i/\i<n) (ha:a'=⟨b,o+i.toNat*sz,none⟩):Yd P e bx Z2 (.indexAddr T x y) ty (.pointer (some a')):=
 λoo ho _ w _ _=>by
  subst ha;simp[execOp,ho,hx,hy,Instr.indexAt,run_underlying G,asIntOf,hi,hs,Cm]
theorem Y.AWc {b o n sz:Nat}{E:TypeId}{i:Int}{a':Addr}(G:P.underlying T=some (.array n E))(hs:∀w,((Go.sizeOf E).run P w)=.ok sz w)
  (hx:AD e x=.pointer (some ⟨b,o,none⟩)) (hy:AD e y=.int k i) (hi:0<=i/\i<n) (ha:a'=⟨b,o+i.toNat*sz,none⟩):Yd P e bx Z2 (.indexAddr T x y) ty (.pointer (some a')):=
 λoo ho _ w _ _=>by
  subst ha;simp[execOp,ho,hx,hy,Instr.indexAt,run_underlying G,asIntOf,hi,hs,Cm,Instr.sureAddr]
theorem Y.AIm {s:ByteArray}{cs:Array Value}{n:Nat}{E:TypeId}{i:Int}(hT:P.underlying T=some (.array n E))(hE:∀w,(isAgg E).run P w=.ok false w)(hs:∀w,((Go.sizeOf E).run P w)=.ok 1 w)(hx:AD e x=.agg cs)(hy:AD e y=.int k i)(G:0<=i/\i<n)(hv:cs[i.toNat]?=some (.string s)):
  Yd P e bx Z2 (.index T x y) ty (.string s):=
 λoo ho _ w _ _=>by simp[execOp,ho,hx,hy,Instr.index,run_underlying hT,asIntOf,G,hs,part,hE,hv]
theorem Y.AIn {s:ByteArray}{i:Int}{v:UInt8}(hT:P.underlying T=some .string)(hx:AD e x=.string s)(hy:AD e y=.int k i)(h0:0<=i)(hv:s.data[i.toNat]?=some v):
  Yd P e bx Z2 (.index T x y) ty (.int .u8 v.toNat):=
 λoo ho _ w _ _=>by
  have G:s[i.toNat]?=some v:=by rw[<-hv];rfl
  simp[execOp,ho,hx,hy,Instr.index,run_underlying hT,asIntOf,h0,G]
theorem Y.ld {a:Addr}{v:Value}(G:∀w,(isAgg T).run P w=.ok false w)(hx:AD e x=.pointer (some a))(h:Z2.ld a=some v):Yd P e bx Z2 (.load T x) ty v:=
 λoo ho _ w hs _=>by
  simp[execOp,ho,hx,Instr.loadAt,Instr.sureAddr,loadVar,G,load,Sem.run,hs.ld h]
theorem Ko.cell {w:World}{b:Nat}{c:Array Value}{t:TypeId}{fr:Nat×Nat}(G:Ko bx w)(hb:(b,Obj.cells c t fr)∈bx)(o:Nat):w.cell? ⟨b,o,none⟩=c[o]?:=by
 simp[World.cell?,G _ hb]
theorem Y.ldb {b o:Nat}{c:Array Value}{t:TypeId}{fr:Nat×Nat}{v:Value}(G:∀w,(isAgg T).run P w=.ok false w)(hx:AD e x=.pointer (some ⟨b,o,none⟩))(hb:(b,Obj.cells c t fr)∈bx)(h:c[o]?=some v):
  Yd P e bx Z2 (.load T x) ty v:=
 λoo ho _ w _ hs=>by
  simp[execOp,ho,hx,Instr.loadAt,Instr.sureAddr,loadVar,G,load,Sem.run,hs.cell hb,h]
theorem Y.lda {b o n:Nat}{vs:List Value}(hA:∀w,(isAgg T).run P w=.ok true w)(hs:∀w,((Go.sizeOf T).run P w)=.ok n w)(hn:vs.length=n)(hx:AD e x=.pointer (some ⟨b,o,none⟩))(h:Az Z2 b o vs):
  Yd P e bx Z2 (.load T x) ty (.agg vs.toArray):=
 λoo ho _ w G _=>by
  subst hn;have:=run_loadCells_list (P:=P) (w:=w) ⟨b,o,none⟩ vs (λj v hj=>by rw[show(⟨b,o,none⟩:Addr).add j=⟨b,o+j,none⟩ from Cm _ _ _];exact G.ld (h.get hj));simp[execOp,ho,hx,Instr.loadAt,Instr.sureAddr,loadVar,hA,hs,this]
theorem Y.AWf {b o n:Nat}{c:Array Value}{t:TypeId}{fr:Nat×Nat}{vs:List Value}(hA:∀w,(isAgg T).run P w=.ok true w)(hs:∀w,((Go.sizeOf T).run P w)=.ok n w)(hn:vs.length=n)(hx:AD e x=.pointer (some ⟨b,o,none⟩))
  (hb:(b,Obj.cells c t fr)∈bx) (h:(c.toList.drop o).take n=vs):Yd P e bx Z2 (.load T x) ty (.agg vs.toArray):=
 λoo ho _ w _ Vp=>by
  subst hn;have:=run_loadCells_list (P:=P) (w:=w) ⟨b,o,none⟩ vs (λj v G=>by
   rw[show(⟨b,o,none⟩:Addr).add j=⟨b,o+j,none⟩ from Cm _ _ _,Vp.cell hb];rw[<-h]at G;have Ax:j<vs.length:=by
    have:=(Ai0.1 G).1;simp at this;omega
   simpa[AjQ,Ax] using G)
  simp[execOp,ho,hx,Instr.loadAt,Instr.sureAddr,loadVar,hA,hs,this]
theorem Y.nilCheck {a:Addr}(hx:AD e x=.pointer (some a)):Yd P e bx Z2 (.nilCheck x) ty (.pointer (some a)):=
 .pu λo G=>by simp[execOp,G,hx]
theorem Y.tz {f:FuncId}{xs ys:Array Value}(hx:AD e x=.func (.func f) xs ys):Yd P e bx Z2 (.nilCheck x) ty (.func (.func f) xs ys):=
 .pu λo G=>by simp[execOp,G,hx]
theorem Y.makeFunc {fn:Fn}{xs ys:Array Operand}{vs us:Array Value}(G:xs.toList.map (AD e)=vs.toList)(hy:ys.toList.map (AD e)=us.toList):Yd P e bx Z2 (.makeFunc fn xs ys) ty (.func fn vs us):=
 λoo ho _ w _ _=>by
 have G:xs.map (AD e)=vs:=by rw[<-AjS];simpa using G
 have hy:ys.map (AD e)=us:=by rw[<-AjS];simpa using hy
 simp[execOp,ho,G,hy,Instr.makeFunc]
end mc
end Tw
end
section
namespace Tw
open Go
variable [GF]
def sig (ops:Array Oper)(i:Nat):Option (Option Nat×Op×TypeId×Option (Nat×Bool)):=(ops[i]?).map λo=>(o.dst,o.op,o.type,o.guard)
theorem Bc {ops:Array Oper}{i:Nat}{d:Option Nat}{op:Op}{ty:TypeId}{gd:Option (Nat×Bool)}(h:sig ops i=some (d,op,ty,gd)):
  ∃o,ops[i]?=some o/\o.dst=d/\o.op=op/\o.type=ty/\o.guard=gd:=by
 unfold sig at h;cases G:ops[i]? with
 | none=>simp[G]at h
 | some o=>
  simp only[G,Aju,Ai9,Ajs]at h;exact⟨o,rfl,h.1,h.2.1,h.2.2.1,h.2.2.2⟩
def G5 (d:Option Nat)(n:Nat):Bool:=match d with | some d=>Nat.blt d n | none=>true
theorem G5.lt {d:Option Nat}{n:Nat}(h:G5 d n=true):∀t,d=some t->t<n:=λt G=>by
 subst G;exact Ajo h
section xg
variable {g:Gl}{ops:Array Oper}{q:J0}{L:List (Nat×List Nat)}{i:Nat}{is:List Nat}{r:List (Nat×Bool)}{e:Env}{bx:Bx}{Z2:Hp}{K:Env->Bx->Hp->Prop}{d:Option Nat}{op:Op}{ty:TypeId}{gd:Option (Nat×Bool)}{v:Value}
theorem AV.y (hs:sig ops i=some (d,op,ty,gd))(hw:Ac ops e gd=true)(hd:G5 d g.n=true)(hy:Yd g.P e bx Z2 op ty v)(h:K (put e d v) bx Z2):AV g ops i e bx Z2 K:=by
 intro w0 F a w st;obtain⟨o,ho,rfl,G,Dh,rfl⟩:=Bc hs;refine Ck ho (by rw[st.wanted];exact hw) ?_;rw[st.eval,Dg (hy o G Dh w st.sat st.box) (λd=>by simp)];exact⟨_,_,_,st.put _ _ (G5.lt hd),h⟩
theorem AV.no (hs:sig ops i=some (d,op,ty,gd))(hw:Ac ops e gd=false)(hd:G5 d g.n=true)(h:K (put e d undef) bx Z2):AV g ops i e bx Z2 K:=by
 intro w0 F a w st;obtain⟨o,G,rfl,Bq,Dh,rfl⟩:=Bc hs;refine mY G (by rw[st.wanted];exact hw) ?_;exact⟨_,_,_,st.put _ _ (G5.lt hd),h⟩
theorem Seq.y (G:sig ops i=some (d,op,ty,none))(hd:G5 d g.n=true)(hy:Yd g.P e bx Z2 op ty v)(h:Seq g ops is (put e d v) bx Z2 K):Seq g ops (i::is) e bx Z2 K:=
 AV.y G rfl hd hy h
theorem Seq.yg (G:sig ops i=some (d,op,ty,gd))(hw:Ac ops e gd=true)(hd:G5 d g.n=true)(hy:Yd g.P e bx Z2 op ty v)(h:Seq g ops is (put e d v) bx Z2 K):Seq g ops (i::is) e bx Z2 K:=
 AV.y G hw hd hy h
theorem Seq.no (G:sig ops i=some (d,op,ty,gd))(hw:Ac ops e gd=false)(hd:G5 d g.n=true)(h:Seq g ops is (put e d undef) bx Z2 K):Seq g ops (i::is) e bx Z2 K:=
 AV.no G hw hd h
theorem Seq.o (h:AV g ops i e bx Z2 λe' G Z'=>Seq g ops is e' G Z' K):Seq g ops (i::is) e bx Z2 K:=h
theorem Seq.done (h:K e bx Z2):Seq g ops [] e bx Z2 K:=h
theorem EY {q:J0}:Mg q none=q:=by cases q<;>rfl
theorem ok_none {q:J0}{i:Nat}{ops:Array Oper}(h:q.ok i=true):((Mg q none).ok i&&Rl ops i none)=true:=by rw[EY,h];rfl
theorem Head.y (hs:sig ops i=some (d,op,ty,none))(hd:G5 d g.n=true)(hy:Yd g.P e bx (KE q none Z2) op ty v)(h:Head g ops q r (put e d v) bx Z2 K)(G:q.ok i=true:=by rfl):Head g ops q ((i,true)::r) e bx Z2 K:=by
 obtain⟨o,ho,rfl,rfl,rfl,hg⟩:=Bc hs;exact⟨none,o,v,ok_none G,ho,.inl ⟨by rw[hg];rfl,hy⟩,(G5.lt hd),by rw[EY];exact h⟩
theorem Head.yg (hs:sig ops i=some (d,op,ty,gd))(hw:Ac ops e gd=true)(hd:G5 d g.n=true)(hy:Yd g.P e bx (KE q none Z2) op ty v)(h:Head g ops q r (put e d v) bx Z2 K)(G:q.ok i=true:=by rfl):Head g ops q ((i,true)::r) e bx Z2 K:=by
 obtain⟨o,ho,rfl,rfl,rfl,rfl⟩:=Bc hs;exact⟨none,o,v,ok_none G,ho,.inl ⟨hw,hy⟩,(G5.lt hd),by rw[EY];exact h⟩
theorem Head.yl (b:Nat)(G:List (List Nat)){D:List Nat}(hD:G.filterMap List.head?=D)(AW:((Mg (some L) (some (b,G))).ok i&&Rl ops i (some (b,G)))=true)(hs:sig ops i=some (d,op,ty,none))(hd:G5 d g.n=true)(hy:Yd g.P e bx (KE (some L) (some (b,G)) Z2) op ty v)
  (h:Head g ops (some ((b,D)::L)) r (put e d v) bx Z2 K):Head g ops (some L) ((i,true)::r) e bx Z2 K:=by
 subst hD;obtain⟨o,ho,rfl,rfl,rfl,hg⟩:=Bc hs;exact⟨some (b,G),o,v,AW,ho,.inl ⟨by rw[hg];rfl,hy⟩,(G5.lt hd),h⟩
theorem Head.ygl (b:Nat)(G:List (List Nat)){D:List Nat}(hD:G.filterMap List.head?=D)(AW:((Mg (some L) (some (b,G))).ok i&&Rl ops i (some (b,G)))=true)(hs:sig ops i=some (d,op,ty,gd))(hw:Ac ops e gd=true)(hd:G5 d g.n=true)(hy:Yd g.P e bx (KE (some L) (some (b,G)) Z2) op ty v)
  (h:Head g ops (some ((b,D)::L)) r (put e d v) bx Z2 K):Head g ops (some L) ((i,true)::r) e bx Z2 K:=by
 subst hD;obtain⟨o,ho,rfl,rfl,rfl,rfl⟩:=Bc hs;exact⟨some (b,G),o,v,AW,ho,.inl ⟨hw,hy⟩,(G5.lt hd),h⟩
theorem Head.no (hs:sig ops i=some (d,op,ty,gd))(hw:Ac ops e gd=false)(hd:G5 d g.n=true)(h:Head g ops q r (put e d undef) bx Z2 K)(G:q.ok i=true:=by rfl):Head g ops q ((i,true)::r) e bx Z2 K:=by
 obtain⟨o,ho,rfl,rfl,rfl,rfl⟩:=Bc hs;exact⟨none,o,undef,ok_none G,ho,.inr ⟨hw,rfl⟩,(G5.lt hd),by rw[EY];exact h⟩
theorem Head.o {q':J0}(hq:G3 q i=q')(h:AV g ops i e bx Z2 λe' G Z'=>Ic q' bx Z2 G Z'/\Head g ops q' r e' G Z' K):Head g ops q ((i,false)::r) e bx Z2 K:=by
 subst hq;exact h
theorem Head.done (h:K e bx Z2):Head g ops q [] e bx Z2 K:=h
theorem St.grown {n ds w0 F e bx Z2 a w}(st:St n ds w0 F e bx Z2 a w)(o:Obj):St n ds w0 F e ((w.heap.size,o)::bx) Z2 a { w with heap:=w.heap.push o }:=by
 have Ax:∀b o',w.heap[b]?=some o'->b<w.heap.size:=λb o' h=>(AjF.1 h).1;have G:∀b o',w.heap[b]?=some o'->({ w with heap:=w.heap.push o }:World).heap[b]?=some o':=λb o' h=>by
  have:=Ax _ _ h;show(w.heap.push o)[b]?=some o'
  rw[AjO,Aiw (Nat.ne_of_lt this)];exact h
 refine { st with sat:=λb o' hb=>G _ _ (st.sat b o' hb),box:=λp hp=>?_,free:=λp hp=>?_,nodup:=?_,BI:=λb hb=>?_,os:=st.os,out:=st.out,grow:=by have:=st.grow;simp;omega }
 .rcases Ai1.1 hp with rfl|hp
  .simp
  .exact G _ _ (st.box p hp)
 .rcases Ai1.1 hp with rfl|hp
  .refine⟨?_,λhF=>?_⟩
   .cases hs:Z2 w.heap.size with
    | none=>rfl
    | some o'=>exact absurd (Ax _ _ (st.sat _ _ hs)) (Nat.lt_irrefl _)
   .have h1:=(st.BI _ hF).1;have h2:=st.grow;simp at h1;omega
  .exact st.free p hp
 .refine Aj0.2 ⟨λhm=>?_,st.nodup⟩;obtain⟨p,hp,he⟩:=Ajf.1 hm;have:=Ax _ _ (st.box p hp);simp at he;omega
 .obtain⟨h1,h2,h3⟩:=st.BI b hb;refine⟨h1,h2,?_⟩;have:b≠w.heap.size:=by have:=st.grow;omega
  show(w.heap.push o)[b]?=_
  rw[AjO,Aiw this];exact h3
theorem AV.box {T:TypeId}{x:Operand}{cs:Array Value}(hs:sig ops i=some (d,.box T x,ty,gd))(hw:Ac ops e gd=true)(hd:G5 d g.n=true)(hx:(AD e x).cells=cs)
  (h:∀b,K (put e d (.pointer (some ⟨b,0,none⟩))) ((b,.cells cs T (0,0))::bx) Z2):AV g ops i e bx Z2 K:=by
 intro w0 F a w st;obtain⟨o,ho,rfl,G,Dh,hg⟩:=Bc hs;refine Ck ho (by rw[st.wanted,hg];exact hw) ?_;rw[st.eval];have:(execOp (AD e) o).run g.P w=.ok (.value (.pointer (some ⟨w.heap.size,0,none⟩))) { w with heap:=w.heap.push (.cells cs T (0,0)) }:=by
  simp[execOp,G,Instr.box,newVar,newRow,newObj,Sem.run,hx]
 rw[Dg this (λd=>by simp)];exact⟨_,_,_,(st.grown _).put _ _ (G5.lt hd),h _⟩
theorem AV.alloc {T:TypeId}{z:Value}{cs:Array Value}(hs:sig ops i=some (d,.alloc T,ty,gd))(hw:Ac ops e gd=true)(hd:G5 d g.n=true)(hz:∀w,(zeroValue T).run g.P w=.ok z w)(hc:z.cells=cs)
  (h:∀b,K (put e d (.pointer (some ⟨b,0,none⟩))) ((b,.cells cs T (0,0))::bx) Z2):AV g ops i e bx Z2 K:=by
 intro w0 F a w st;obtain⟨o,ho,rfl,G,Dh,hg⟩:=Bc hs;refine Ck ho (by rw[st.wanted,hg];exact hw) ?_;rw[st.eval];have:(execOp (AD e) o).run g.P w=.ok (.value (.pointer (some ⟨w.heap.size,0,none⟩))) { w with heap:=w.heap.push (.cells cs T (0,0)) }:=by
  simp[execOp,G,Instr.alloc,newVar,newRow,newObj,Sem.run,hz,hc]
 rw[Dg this (λd=>by simp)];exact⟨_,_,_,(st.grown _).put _ _ (G5.lt hd),h _⟩
theorem Hp.AA (Z2:Hp)(b:Nat)(o:Obj):Z2.set b o b=some o:=by simp[Hp.set]
theorem Hp.AB {Z2:Hp}{b c:Nat}{o:Obj}(h:c≠b):Z2.set b o c=Z2 c:=by simp[Hp.set,h]
theorem St.open {n ds w0 F e bx Z2 a w b o}(st:St n ds w0 F e ((b,o)::bx) Z2 a w):St n ds w0 F e bx (Z2.set b o) a w:=by
 have hb:=st.box (b,o) (AjG ..);have hf:=st.free (b,o) (AjG ..);have hn:=Aj0.1 (show((b::bx.map (·.1))).Nodup from st.nodup);refine { st with sat:=λc o' G=>?_,box:=λp hp=>st.box p (Aiz _ hp),free:=λp hp=>?_,nodup:=hn.2,BI:=λc G=>?_ }
 .by_cases h:c=b
  .subst h;rw[Hp.AA]at G;cases G;exact hb
  .rw[Hp.AB h]at G;exact st.sat c o' G
 .have h1:=st.free p (Aiz _ hp);have:p.1≠b:=λh=>hn.1 (Ajf.2 ⟨p,hp,h⟩);exact⟨by rw[Hp.AB this];exact h1.1,h1.2⟩
 .obtain⟨h1,h2,h3⟩:=st.BI c G;have:c≠b:=λh=>hf.2 (h▸G);exact⟨h1,by rw[Hp.AB this];exact h2,h3⟩
theorem AV.AWh {T:TypeId}{x:Operand}{cs:Array Value}(hs:sig ops i=some (d,.box T x,ty,gd))(hw:Ac ops e gd=true)(hd:G5 d g.n=true)(hx:(AD e x).cells=cs)
  (h:∀b,Z2 b=none->K (put e d (.pointer (some ⟨b,0,none⟩))) bx (Z2.set b (.cells cs T (0,0)))):AV g ops i e bx Z2 K:=by
 intro w0 F a w st;refine wpOpIn_mono ?_ (AV.box (K:=λe' HY Z'=>Z'=Z2/\∃b,e'=put e d (.pointer (some ⟨b,0,none⟩))/\HY=(b,.cells cs T (0,0))::bx) hs hw hd hx (λb=>⟨rfl,b,rfl,rfl⟩) w0 F a w st)
 rintro a' w' ⟨_,_,_,G,rfl,b,rfl,rfl⟩
 exact⟨_,_,_,G.open,h b (G.free _ (AjG ..)).1⟩
theorem AV.dn {T:TypeId}{z:Value}{cs:Array Value}(hs:sig ops i=some (d,.alloc T,ty,gd))(hw:Ac ops e gd=true)(hd:G5 d g.n=true)(hz:∀w,(zeroValue T).run g.P w=.ok z w)(hc:z.cells=cs)
  (h:∀b,Z2 b=none->K (put e d (.pointer (some ⟨b,0,none⟩))) bx (Z2.set b (.cells cs T (0,0)))):AV g ops i e bx Z2 K:=by
 intro w0 F a w st;refine wpOpIn_mono ?_ (AV.alloc (K:=λe' HY Z'=>Z'=Z2/\∃b,e'=put e d (.pointer (some ⟨b,0,none⟩))/\HY=(b,.cells cs T (0,0))::bx) hs hw hd hz hc (λb=>⟨rfl,b,rfl,rfl⟩) w0 F a w st)
 rintro a' w' ⟨_,_,_,G,rfl,b,rfl,rfl⟩
 exact⟨_,_,_,G.open,h b (G.free _ (AjG ..)).1⟩
def AI (P:Program){α:Type}(m:Sem α)(Z2:Hp)(Φ:α->Hp->Prop):Prop:=
 ∀w (F:Nat->Prop),Sat Z2 w->(∀b,F b->b<w.heap.size/\Z2 b=none)->∃v G Z',m.run P w=.ok v G/\Φ v Z'/\Fin Z' F w G
theorem AI.mono {P:Program}{α:Type}{m:Sem α}{Φ G:α->Hp->Prop}(h:AI P m Z2 Φ)(hh:∀v Z',Φ v Z'->G v Z'):AI P m Z2 G:=λw F hs hF=>
 let ⟨v,w',Z',h1,h2,h3⟩:=h w F hs hF
 ⟨v,w',Z',h1,hh _ _ h2,h3⟩
theorem St.lt {n ds w0 F e bx Z2 a w}(st:St n ds w0 F e bx Z2 a w):∀b,(F b\/b∈bx.map (·.1))->b<w.heap.size/\Z2 b=none:=by
 rintro b (h|h)
 .have G:=st.BI b h;have h2:=st.grow;exact⟨by omega,G.2.1⟩
 .obtain⟨p,hp,rfl⟩:=Ajf.1 h;exact⟨(AjF.1 (st.box p hp)).1,(st.free p hp).1⟩
theorem St.fin {n ds w0 F e bx Z2 a w Z' w'}(st:St n ds w0 F e bx Z2 a w)(h:Fin Z' (λb=>F b\/b∈bx.map (·.1)) w w'):St n ds w0 F e bx Z' a w':=by
 refine { st with sat:=h.sat,box:=λp hp=>?_,free:=λp hp=>⟨(h.BI p.1 (.inr (Ajf.2 ⟨p,hp,rfl⟩))).1,(st.free p hp).2⟩,BI:=λb hb=>?_,os:=st.os.trans h.os,out:=h.out.trans st.out,grow:=Aj3 st.grow h.grow }
 .rw[(h.BI p.1 (.inr (Ajf.2 ⟨p,hp,rfl⟩))).2];exact st.box p hp
 .obtain⟨G,_,h3⟩:=st.BI b hb;exact⟨G,(h.BI b (.inl hb)).1,(h.BI b (.inl hb)).2.trans h3⟩
theorem AV.aL (hs:sig ops i=some (d,op,ty,gd))(hw:Ac ops e gd=true)(hd:G5 d g.n=true)(m:Sem Value)(hm:∀o:Oper,o.op=op->o.type=ty->execOp (AD e) o=(do pure (.value (<-m))))
  (h:AI g.P m Z2 λv Z'=>K (put e d v) bx Z'):AV g ops i e bx Z2 K:=by
 intro w0 F a w st;obtain⟨o,ho,rfl,G,Dh,rfl⟩:=Bc hs;refine Ck ho (by rw[st.wanted];exact hw) ?_;obtain⟨v,w',Z',h1,h2,h3⟩:=h w _ st.sat st.lt;rw[st.eval];have CD:=hm o G Dh;rw[Dg (by rw[CD];simp only[Sem.run_bind,h1,Result.andThen_ok];rfl) (λd=>by simp)];exact⟨_,_,_,(st.fin h3).put _ _ (G5.lt hd),h2⟩
theorem AV.AIo (hs:sig ops i=some (d,op,ty,gd))(hw:Ac ops e gd=true)(hd:G5 d g.n=true)(m:Sem Unit)(hm:∀o:Oper,o.op=op->o.type=ty->execOp (AD e) o=(do m;pure .skip))
  (h:AI g.P m Z2 λ_ Z'=>K (put e d undef) bx Z'):AV g ops i e bx Z2 K:=by
 intro w0 F a w st;obtain⟨o,ho,rfl,G,Dh,rfl⟩:=Bc hs;refine Ck ho (by rw[st.wanted];exact hw) ?_;obtain⟨v,w',Z',h1,h2,h3⟩:=h w _ st.sat st.lt;rw[st.eval];have CD:=hm o G Dh;rw[Dg (by rw[CD];simp only[Sem.run_bind,h1,Result.andThen_ok];rfl) (λd=>by simp)];exact⟨_,_,_,(st.fin h3).put _ _ (G5.lt hd),h2⟩
def Ab (R:Rr)(Φ:Value->Hp->Prop):Rr
 | .returned v,Z2=>Φ v Z2
 | .panicked G,Z2=>R (.panicked G) Z2
 | .outgrown,_=>False
theorem AV.call {f:FuncId}{args:Array Value}(hs:sig ops i=some (d,op,ty,gd))(hw:Ac ops e gd=true)(hd:G5 d g.n=true)
  (hm:∀o:Oper,o.op=op->o.type=ty->∀w,(execOp (AD e) o).run g.P w=.ok (.enter f args) w)
  (h:Spec g.P f args Z2 (Ab g.R λv Z'=>K (put e d v) bx Z')):AV g ops i e bx Z2 K:=by
 intro w0 F a w st;obtain⟨o,ho,rfl,Bq,Dh,rfl⟩:=Bc hs;refine Ck ho (by rw[st.wanted];exact hw) ?_;rw[st.eval,Dg (hm o Bq Dh w) (λd=>by simp)];refine⟨λhh=>(by cases hh),Vo (Calls.mono (h w _ st.sat st.lt) λen w'=>?_)⟩
 rintro⟨Z',G,hf⟩
 have G4:=st.fin hf;cases en with
 | returned v=>exact⟨_,_,_,G4.put _ _ (G5.lt hd),G⟩
 | panicked ch=>
  rcases g.pan with ⟨h1,h2⟩|AZ
  .exact⟨⟨h1,G4.defers.trans h2⟩,Z',G,G4.toFin⟩
  .exact absurd G (AZ ch Z')
 | outgrown=>exact G.elim
theorem S6 {P:Program}{ρ:Operand->Value}{x:Operand}{xs:Array Operand}{ts:Array TypeId}{f:FuncId}{fst cap vs args:Array Value}
  (hf:∀args w,(callFunc f args).run P w=.ok (.enter f args) w) (hx:ρ x=.func (.func f) fst cap) (G:xs.toList.map ρ=vs.toList) (ha:fst++vs++cap=args)
  (o:Oper) (ho:o.op=.call { callee:=.value x,args:=xs,argTypes:=ts }) (w:World) :
  (execOp ρ o).run P w=.ok (.enter f args) w:=by
 subst ha;have G:xs.map ρ=vs:=by rw[<-AjS];simpa using G
 simp only[execOp,ho,resolve,hx,G,Deferred.ofValue,invoke,bind,Sem.bind,pure];exact hf _ w
end xg
end Tw
end
section
namespace Tw
open Go
variable [GF]
def Ks (c:Array Value)(o:Nat):List Value->Array Value
 | []=>c
 | v::vs=>Ks (c.setIfInBounds o v) (o+1) vs
theorem KH:∀(vs:List Value) (c:Array Value) (o:Nat),(Ks c o vs).size=c.size
 | [],_,_=>rfl
 | v::vs,c,o=>by simp[Ks,KH vs]
theorem VP:∀(vs:List Value) (c:Array Value) (o j:Nat),o+vs.length<=c.size->
  (Ks c o vs)[j]?=if o<=j/\j<o+vs.length then vs[j-o]? else c[j]?
 | [],c,o,j,_=>by rw[Aiw (by simp only[Ajw];omega)];rfl
 | v::vs,c,o,j,h=>by
  simp only[Aix]at h;rw[Ks,VP vs _ _ j (by simp;omega)];by_cases G:o+1<=j/\j<o+1+vs.length
  .rw[Aiy G,Aiy (by simp;omega),show j-o=(j-(o+1))+1 by omega,Ajq]
  .rw[Aiw G];by_cases h2:j=o
   .subst h2;rw[Aiy (by simp),Aki];simp[show j<c.size by omega]
   .rw[Aiw (by simp;omega),Akw (AjI h2)]
section
variable {P:Program}
theorem GK (b o:Nat)(t:TypeId):∀(vs:List Value) (i:Nat) (c:Array Value) (w:World),w.heap[b]?=some (.cells c t (0,0))->o+i+vs.length<=c.size->(∀v∈vs,v.oneCell'=true)->
  (storeCells ⟨b,o,none⟩ vs i).run P w=.ok () (w.setRow b (Ks c (o+i) vs))
 | [],i,c,w,G,hl,_=>by
  have Ax:b<w.heap.size:=(AjF.1 G).1;have hv:w.heap[b]=.cells c t (0,0):=(AjF.1 G).2;simp only[storeCells,Ks];show Result.ok () w=_
  congr 1
  unfold World.setRow;cases w with
  | mk heap tape drawn os output=>
   congr 1
   apply Array.ext
   .simp
   .intro k h1 h2;simp only[Array.getElem_modify];split
    .rename_i hk;subst hk;simp at hv;simp[hv]
    .rfl
 | v::vs,i,c,w,G,hl,h1=>by
  simp only[Aix]at hl;have bK:w.cell? ⟨b,o+i,none⟩=some c[o+i]:=by
   simp[World.cell?,G]
  have hfr:w.frozen? ⟨b,o+i,none⟩=false:=by simp[World.frozen?,G]
  have AWi:(⟨b,o,none⟩:Addr).add i=⟨b,o+i,none⟩:=Cm b o i;have AWj:=setCell_eq_setRow w b (o+i) c t (0,0) v G;have FA:=setRow_heap w b c (c.setIfInBounds (o+i) v) t (0,0) G;have ih:=GK b o t vs (i+1) (c.setIfInBounds (o+i) v) (w.setRow b (c.setIfInBounds (o+i) v)) FA (by simp;omega) (λu hu=>h1 u (Aiz _ hu));rw[setRow_setRow]at ih;have B9:=run_store P w ⟨b,o+i,none⟩ v .plain (h1 v (AjG ..));simp only[storeCells,AWi,Sem.run_bind,B9,bK,hfr,AkP,AkO,Result.andThen_ok,AWj,ih,Ks];rw[AmQ]
theorem T0 (b o:Nat)(t ty:TypeId)(v:Value)(c:Array Value)(w:World){n:Nat}(hs:∀w,(Go.sizeOf ty).run P w=.ok n w)(hn:v.cells.size=n)(hg:w.heap[b]?=some (.cells c t (0,0)))
  (hl:o+n<=c.size) (G:∀u∈v.cells.toList,u.oneCell'=true) :
  (Instr.storeAt ty (.pointer (some ⟨b,o,none⟩)) v).run P w=.ok () (w.setRow b (Ks c o v.cells.toList)):=by
 have:=GK (P:=P) b o t v.cells.toList 0 c w hg (by simp;omega) G;simp[Instr.storeAt,Instr.sureAddr,storeVar,hs,hn,this]
end
theorem St.wrote {n ds w0 F e bx Z2 a w j b c c' t}(st:St n ds w0 F e bx Z2 a w)(hj:bx[j]?=some (b,Obj.cells c t (0,0))):
  St n ds w0 F e (bx.set j (b,.cells c' t (0,0))) Z2 a (w.setRow b c'):=by
 have hm:(b,Obj.cells c t (0,0))∈bx:=Ai6 hj;have hb:=st.box _ hm;have hf:=st.free _ hm;have xh:(bx.set j (b,Obj.cells c' t (0,0))).map (·.1)=bx.map (·.1):=by
  rw[Al5];have:(bx.map (·.1))[j]?=some b:=by simp[hj]
  obtain⟨Ax,heq⟩:=Ai0.1 this;rw[<-heq,AmD]
 have me:∀k,k≠b->(w.setRow b c').heap[k]?=w.heap[k]?:=λk hk=>setRow_other w b k c' hk;refine { st with sat:=λk o hk=>?_,box:=λp hp=>?_,free:=λp hp=>?_,nodup:=by rw[xh];exact st.nodup,BI:=λk hk=>?_,os:=st.os,out:=st.out,grow:=by simpa using st.grow }
 .have:k≠b:=λh=>by rw[h,hf.1]at hk;cases hk
  rw[me k this];exact st.sat k o hk
 .by_cases h:p.1=b
  ·
   obtain⟨i,hi⟩:=Ajg.1 hp;have Vq:i=j:=by
    have G:((bx.set j (b,Obj.cells c' t (0,0))).map (·.1))[i]?=some b:=by simp only[Aj7,hi,Aju,h]
    rw[xh]at G;have h2:(bx.map (·.1))[j]?=some b:=by simp[hj]
    have Sx:=(Ai0.1 G).1;exact(List.getElem?_inj Sx st.nodup).1 (G.trans h2.symm)
   subst Vq;have Ax:i<bx.length:=(Ai0.1 hj).1;rw[Ak1 Ax]at hi;cases hi;exact setRow_heap w b c c' t (0,0) hb
  .rw[me _ h];rcases Al1 hp with G|G
   .exact st.box p G
   .exact absurd (by rw[G]) h
 .rcases Al1 hp with G|G
  .exact st.free p G
  .rw[G];exact hf
 .obtain⟨G,h2,h3⟩:=st.BI k hk;have:k≠b:=λh=>hf.2 (h▸hk);exact⟨G,h2,by rw[me k this];exact h3⟩
section xg
variable {g:Gl}{ops:Array Oper}{i:Nat}{e:Env}{bx:Bx}{Z2:Hp}{K:Env->Bx->Hp->Prop}{d:Option Nat}{op:Op}{ty T:TypeId}{gd:Option (Nat×Bool)}
theorem AV.AIp {x y:Operand}{j b o n:Nat}{c c':Array Value}{t:TypeId}{v:Value}(hs:sig ops i=some (none,.store T x y,ty,gd))(hw:Ac ops e gd=true)(hz:∀w,(Go.sizeOf T).run g.P w=.ok n w)
  (hx:AD e x=.pointer (some ⟨b,o,none⟩)) (hy:AD e y=v) (hj:bx[j]?=some (b,Obj.cells c t (0,0))) (hn:v.cells.size=n) (hl:Nat.ble (o+n) c.size=true) (h1:(v.cells.toList.all λu=>u.oneCell')=true)
  (hc:Ks c o v.cells.toList=c') (h:K e (bx.set j (b,.cells c' t (0,0))) Z2):AV g ops i e bx Z2 K:=by
 intro w0 F a w st;obtain⟨o',ho,hd,Bq,Dh,hg⟩:=Bc hs;refine Ck ho (by rw[st.wanted,hg];exact hw) ?_;rw[st.eval];subst hc;have hb:=st.box _ (Ai6 hj);have:=T0 (P:=g.P) b o t T v c w hz hn hb (Ajo hl) (λu hu=>Ajt.1 h1 u hu);have:(execOp (AD e) o').run g.P w=.ok .skip (w.setRow b (Ks c o v.cells.toList)):=by
  simp[execOp,Bq,hx,hy,this]
 rw[Dg this (λd=>by simp)];have G:a.put o'.dst undef=a:=by rw[hd];rfl
 simp only[Oper.uponIn_skip,G];exact⟨_,_,_,st.wrote hj,h⟩
theorem AI.store {P:Program}{b o n:Nat}{c:Array Value}{t:TypeId}{v:Value}{Φ:Unit->Hp->Prop}(hz:∀w,(Go.sizeOf T).run P w=.ok n w)(hb:Z2 b=some (.cells c t (0,0)))(hn:v.cells.size=n)(hl:o+n<=c.size)(h1:∀u∈v.cells.toList,u.oneCell'=true)
  (h:Φ () (Z2.set b (.cells (Ks c o v.cells.toList) t (0,0)))):AI P (Instr.storeAt T (.pointer (some ⟨b,o,none⟩)) v) Z2 Φ:=λw F hs hF=>by
 refine⟨(),_,_,T0 b o t T v c w hz hn (hs _ _ hb) hl h1,h,?_,?_,.same rfl rfl rfl,rfl,by simp⟩
 .intro k o' G;by_cases h:k=b
  .subst h;rw[Hp.AA]at G;cases G;exact setRow_heap w k c _ t (0,0) (hs _ _ hb)
  .rw[Hp.AB h]at G;rw[setRow_other _ _ _ _ h];exact hs k o' G
 .intro k G;have:k≠b:=λh=>by have:=(hF k G).2;rw[h,hb]at this;cases this
  exact⟨by rw[Hp.AB this];exact(hF k G).2,setRow_other _ _ _ _ this⟩
theorem AV.store {x y:Operand}{p v:Value}(hs:sig ops i=some (none,.store T x y,ty,gd))(hw:Ac ops e gd=true)(hx:AD e x=p)(hy:AD e y=v)
  (h:AI g.P (Instr.storeAt T p v) Z2 λ_ Z'=>K e bx Z'):AV g ops i e bx Z2 K:=
 AV.AIo hs hw rfl (Instr.storeAt T p v) (λo G _=>by simp[execOp,G,hx,hy]) h
end xg
section mc
variable {P:Program}{e:Env}{bx:Bx}{Z2:Hp}{ty T:TypeId}
theorem Y.build {ps:Array (Nat×Operand)}{vs:List (Nat×Value)}{cs:Array Value}(hv:ps.toList.map (λp=>(p.1,AD e p.2))=vs)(G:P.built T vs=some cs):Yd P e bx Z2 (.build T ps) ty (.agg cs):=λoo ho _ w _ _=>by
 have hh:(ps.map λ(i,x)=>(i,AD e x)).toList=vs:=by rw[<-hv];simp
 have:=run_build (P:=P) w T (ps.map λ(i,x)=>(i,AD e x)) cs (by rw[hh];exact G);simp only[execOp,ho,Sem.run_bind,this,Result.andThen_ok];rfl
end mc
def JU (P:Program)(e:Env)(bx:Bx)(Z2:Hp):List ResultVar->List Value->Prop
 | [],vs=>vs=[]
 | .tmp t::r,vs=>∃us,vs=e t::us/\JU P e bx Z2 r us
 | .cell p T::r,vs=>∃v us,vs=v::us/\(∃a,e p=.pointer (some a)/\∀w,Sat Z2 w->Ko bx w->(loadVar T a).run P w=.ok v w)/\JU P e bx Z2 r us
def Vr:List Value->Value
 | [v]=>v
 | vs=>.tuple vs.toArray
def uA (tmps:Array Value):ResultVar->Sem Value
 | .tmp t=>pure (tmps.getD t undef)
 | .cell a t=>do loadVar t (<-asAddr (tmps.getD a undef))
theorem JU.run {P:Program}{e:Env}{bx:Bx}{Z2:Hp}{tmps:Array Value}{w:World}(G:∀t,tmps.getD t undef=e t)(hs:Sat Z2 w)(hb:Ko bx w):∀(rs:List ResultVar) (vs:List Value),JU P e bx Z2 rs vs->
  (rs.mapM (uA tmps)).run P w=Result.ok vs w
 | [],vs,h=>by simp only[JU]at h;subst h;simp
 | .tmp t::r,vs,h=>by
  obtain⟨us,rfl,h⟩:=h;have h1:(uA tmps (.tmp t)).run P w=.ok (e t) w:=by simp only[uA,Sem.run_pure,G]
  simp only[AmE,Sem.run_bind,Sem.run_pure,Result.andThen_ok,JU.run G hs hb r us h,h1]
 | .cell p T::r,vs,h=>by
  obtain⟨v,us,rfl,⟨a,ha,hl⟩,h⟩:=h;have h2:(uA tmps (.cell p T)).run P w=.ok v w:=by
   have h1:tmps.getD p undef=.pointer (some a):=(G p).trans ha;simp only[uA,Sem.run_bind,Sem.run_pure,Result.andThen_ok,h1,asAddr,hl w hs hb]
  simp only[AmE,Sem.run_bind,Sem.run_pure,Result.andThen_ok,JU.run G hs hb r us h,h2]
theorem JU.results {P:Program}{e:Env}{bx:Bx}{Z2:Hp}{fn:Func}{rs:List ResultVar}{vs:List Value}(hr:fn.results=rs.toArray)(h:JU P e bx Z2 rs vs)(a:Act)(w:World)
  (he:∀t,a.tmps.getD t undef=e t) (hs:Sat Z2 w) (hb:Ko bx w):(results fn a.tmps).run P w=.ok (Vr vs) w:=by
 have G:=JU.run he hs hb _ _ h;have h2:Go.results fn a.tmps=(do let vs <-fn.results.mapM (uA a.tmps);pure (if h:vs.size=1 then vs[0] else .tuple vs)):=rfl;rw[h2,hr];simp only[List.mapM_toArray,Sem.run_bind,Sem.run_map,G,Result.andThen_ok];cases vs with
 | nil=>rfl
 | cons v vs=>cases vs<;>rfl
theorem ADg {P:Program}{bx:Bx}{Z2:Hp}{T:TypeId}{b o:Nat}{c:Array Value}{t:TypeId}{fr:Nat×Nat}{v:Value}(G:∀w,(isAgg T).run P w=.ok false w)(hb:(b,Obj.cells c t fr)∈bx)(h:c[o]?=some v):
  ∀w,Sat Z2 w->Ko bx w->(loadVar T ⟨b,o,none⟩).run P w=.ok v w:=λw _ hs=>by
 simp[loadVar,G,load,Sem.run,hs.cell hb,h]
theorem xi {P:Program}{bx:Bx}{Z2:Hp}{T:TypeId}{b n:Nat}{c:Array Value}{t:TypeId}{fr:Nat×Nat}(hA:∀w,(isAgg T).run P w=.ok true w)(hs:∀w,((Go.sizeOf T).run P w)=.ok n w)(hn:c.size=n)(hb:(b,Obj.cells c t fr)∈bx):
  ∀w,Sat Z2 w->Ko bx w->(loadVar T ⟨b,0,none⟩).run P w=.ok (.agg c) w:=λw _ G=>by
 subst hn;have:=run_loadCells_list (P:=P) (w:=w) ⟨b,0,none⟩ c.toList (λj v hj=>by
  rw[show(⟨b,0,none⟩:Addr).add j=⟨b,0+j,none⟩ from Cm _ _ _,G.cell hb];simpa using hj)
 simp at this;simp[loadVar,hA,hs,this]
section ends
variable {g:Gl}{k:List Item}{e:Env}{bx:Bx}{Z2:Hp}
theorem At.dq {c:Code}{fn:Func}{rs:List ResultVar}{vs:List Value}(hc:c=Code.ret)(hf:g.P.funcs[g.f]?=some fn)(hr:fn.results=rs.toArray)(h:JU g.P e bx (left g.ds Z2) rs vs)(hR:g.R (.returned (Vr vs)) (left g.ds Z2))
  (G:g.IG=none:=by rfl) (hm:Marks g.ds Z2:=by trivial):At g (.code c::k) e bx Z2:=
 At.ret hc hf (λa w he hs hb=>h.results hr a w he hs hb) hR G hm
theorem At.iC {fn:Func}{rs:List ResultVar}{vs:List Value}(hf:g.P.funcs[g.f]?=some fn)(hr:fn.results=rs.toArray)(h:JU g.P e bx (left g.ds Z2) rs vs)(hR:g.R (.returned (Vr vs)) (left g.ds Z2))
  (G:g.IG=none:=by rfl) (hm:Marks g.ds Z2:=by trivial):At g [] e bx Z2:=
 At.done hf (λa w he hs hb=>h.results hr a w he hs hb) hR G hm
end ends
end Tw
end
section
namespace Tw
open Go
variable [GF]
def cl:Code->Code
 | .seq a _=>a | .cond _ a _=>a | .block _ a=>a | .loop a=>a | .scope a=>a | .rangeFunc _ _ a _=>a | c=>c
def cr:Code->Code
 | .seq _ b=>b | .cond _ _ b=>b | .rangeFunc _ _ _ b=>b | c=>c
def cO:Code->Array Oper
 | .region _ ops _=>ops | _=>#[]
def JV (P:Program)(t:TypeId)(f:Nat):Field:=
 match P.underlying t with
 | some (.struct G)=>G.getD f default
 | _=>default
theorem nt {b:Bool}(h:(!b)=true):b=false:=by simpa using h
theorem nf {b:Bool}(h:(!b)=false):b=true:=by simpa using h
def Ext (Z2 Z':Hp):Prop:=∀b o,Z2 b=some o->Z' b=some o
theorem Ext.refl (Z2:Hp):Ext Z2 Z2:=λ_ _ h=>h
theorem Ext.trans {Z2 Z' G:Hp}(h:Ext Z2 Z')(h':Ext Z' G):Ext Z2 G:=λb o hb=>h' b o (h b o hb)
theorem Ext.set {Z2:Hp}{b:Nat}{o:Obj}(h:Z2 b=none):Ext Z2 (Z2.set b o):=λc o' G=>by
 have:c≠b:=λe=>by rw[e,h]at G;cases G
 rw[Hp.AB this];exact G
theorem Ext.ld {Z2 Z':Hp}(h:Ext Z2 Z'){a:Addr}{v:Value}(G:Z2.ld a=some v):Z'.ld a=some v:=by
 unfold Hp.ld at *;cases hb:Z2 a.block with
 | none=>simp[hb]at G
 | some o=>rw[h _ _ hb];rw[hb]at G;exact G
theorem At.ofL {g:Gl}{k:List Item}{e:Env}{bx:Bx}{Z2:Hp}{l:List (Nat×Value)}(G:Live e l)(h:∀J,At g k (MP J l) bx Z2):At g k e bx Z2:=At.live G (h e)
def Kp (L:List Nat)(Z2 Z':Hp):Prop:=∀b∈L,∀o,Z2 b=some o->Z' b=some o
theorem Kp.S7 {L:List Nat}{Z2 Z':Hp}(h:Ext Z2 Z'):Kp L Z2 Z':=λb _ o hb=>h b o hb
theorem Kp.nil {Z2 Z':Hp}:Kp [] Z2 Z':=λb hb=>by cases hb
theorem AN2 {L:List (Nat×List Nat)}{Z2 Z':Hp}(h:Kp (L.map Prod.fst) Z2 Z'):∀x∈L,∀o,Z2 x.1=some o->Z' x.1=some o:=λx hx o G=>h x.1 (Ajf.2 ⟨x,hx,rfl⟩) o G
theorem Q2 {b o:Nat}{s:Option Nat}{L:List (Nat×List Nat)}{G:List (List Nat)}{Z2:Hp}{v:Value}(h:Z2.ld ⟨b,o,s⟩=some v):(KE (some L) (some (b,G)) Z2).ld ⟨b,o,s⟩=some v:=by
 unfold Hp.ld at *;simpa[KE] using h
theorem Spec.cont {P:Program}{f:FuncId}{args:Array Value}{Z2:Hp}{R:Rr}{Φ Ψ:Value->Hp->Prop}(h:Spec P f args Z2 (Ab R Φ))(hh:∀v Z',Φ v Z'->Ψ v Z'):
  Spec P f args Z2 (Ab R Ψ):=h.mono λe Z' G=>by
 cases e with
 | returned v=>exact hh v Z' G
 | panicked ch=>exact G
 | outgrown=>exact G
def YF (P:Program)(m:Sem Value)(Z2:Hp)(v:Value):Prop:=∀w,Sat Z2 w->m.run P w=.ok v w
theorem Yd.any {P:Program}{e:Env}{bx:Bx}{Z2:Hp}{op:Op}{ty:TypeId}{v:Value}{m:Sem Value}(hm:∀o:Oper,o.op=op->o.type=ty->execOp (AD e) o=(do pure (Next.value (<-m))))(hy:YF P m Z2 v):Yd P e bx Z2 op ty v:=
 Yd.of m hm (λw G _=>hy w G)
def E4 (p:Option Addr)(l c s:Nat):Option Addr:=if c=l then p else p.map (·.add (l*s))
section
variable {P:Program}{e:Env}{bx:Bx}{Z2:Hp}{ty T E:TypeId}{x y z:Operand}{k k':IntKind}{l h:Int}{p:Option Addr}{n c s:Nat}
theorem JW (G:P.underlying T=some (.slice E)):P.elem T=E:=by simp[Program.elem,G]
theorem Y.sla (G:P.underlying T=some (.slice E))(hs:∀w,((Go.sizeOf E).run P w)=.ok s w)(hx:AD e x=.slice p n c)(_:True):Yd P e bx Z2 (.slice T x none none none) ty (.slice p n c):=λoo ho _ w _ _=>by
 have mg:P.underlying T=some (.slice (P.elem T)):=by rw[JW G];exact G
 have h1:=run_sliceAt_slice (P:=P) (w:=w) T (.slice p n c) none none none mg;have h2:=run_slice_all (P:=P) (w:=w) T p n c mg;simp[execOp,ho,hx,h1,h2,hs,JW G,sliced];cases p<;>simp[Addr.add]
theorem Y.slh (G:P.underlying T=some (.slice E))(hs:∀w,((Go.sizeOf E).run P w)=.ok s w)(hx:AD e x=.slice p n c)(hz:AD e z=.int k h)(hh:0<=h/\h<=c):Yd P e bx Z2 (.slice T x none (some z) none) ty (.slice p h.toNat c):=λoo ho _ w _ _=>by
 have mg:P.underlying T=some (.slice (P.elem T)):=by rw[JW G];exact G
 have h1:=run_sliceAt_slice (P:=P) (w:=w) T (.slice p n c) none (some (.int k h)) none mg;have h2:=run_slice_h (P:=P) (w:=w) T p n c mg k h hh.1 hh.2;simp[execOp,ho,hx,hz,h1,h2,hs,JW G,sliced];cases p<;>simp[Addr.add]
theorem Y.sll (G:P.underlying T=some (.slice E))(hs:∀w,((Go.sizeOf E).run P w)=.ok s w)(hx:AD e x=.slice p n c)(hy:AD e y=.int k l)(hh:0<=l/\l<=n):Yd P e bx Z2 (.slice T x (some y) none none) ty (.slice (E4 p l.toNat c s) (n-l.toNat) (c-l.toNat)):=λoo ho _ w _ _=>by
 have mg:P.underlying T=some (.slice (P.elem T)):=by rw[JW G];exact G
 have h1:=run_sliceAt_slice (P:=P) (w:=w) T (.slice p n c) (some (.int k l)) none none mg;have h2:=run_slice_l (P:=P) (w:=w) T p n c mg k l hh.1 hh.2;simp[execOp,ho,hx,hy,h1,h2,hs,JW G,sliced,E4]
theorem Y.AN3 (G:P.underlying T=some (.slice E))(hs:∀w,((Go.sizeOf E).run P w)=.ok s w)(hx:AD e x=.slice p n c)(hy:AD e y=.int k l)(hz:AD e z=.int k' h)(hh:0<=l/\l<=h/\h<=c):
  Yd P e bx Z2 (.slice T x (some y) (some z) none) ty (.slice (E4 p l.toNat c s) (h.toNat-l.toNat) (c-l.toNat)):=λoo ho _ w _ _=>by
 have mg:P.underlying T=some (.slice (P.elem T)):=by rw[JW G];exact G
 have h1:=run_sliceAt_slice (P:=P) (w:=w) T (.slice p n c) (some (.int k l)) (some (.int k' h)) none mg;have h2:=run_slice_lh (P:=P) (w:=w) T p n c mg k k' l h hh.1 hh.2.1 hh.2.2;simp[execOp,ho,hx,hy,hz,h1,h2,hs,JW G,sliced,E4]
theorem iD (p:Option Addr)(c s:Nat):E4 p 0 c s=p:=by unfold E4;cases p<;>simp[Addr.add]
theorem Y.AN4 (G:P.underlying T=some (.slice E))(hs:∀w,((Go.sizeOf E).run P w)=.ok s w)(hx:AD e x=.slice p n c)(hy:AD e y=.int k 0)(hz:AD e z=.int k' h)(hh:(0:Int)<=0/\0<=h/\h<=c):
  Yd P e bx Z2 (.slice T x (some y) (some z) none) ty (.slice p h.toNat c):=by
 have:=Y.AN3 (P:=P) (bx:=bx) (Z2:=Z2) (ty:=ty) G hs hx hy hz hh;simpa[iD] using this
theorem Y.AWm (G:P.underlying T=some (.slice E))(hs:∀w,((Go.sizeOf E).run P w)=.ok s w)(hx:AD e x=.slice p n c)(hy:AD e y=.int k 0)(hh:(0:Int)<=0/\(0:Int)<=n):
  Yd P e bx Z2 (.slice T x (some y) none none) ty (.slice p n c):=by
 have:=Y.sll (P:=P) (bx:=bx) (Z2:=Z2) (ty:=ty) G hs hx hy hh;simpa[iD] using this
theorem Y.AWn {a b:Bool}(G:P.underlying T=some .bool)(hx:AD e x=.bool a)(hy:AD e y=.bool b){T':TypeId}:Yd P e bx Z2 (.binOp .eql T x y T') ty (.bool (a==b)):=λoo ho _ w _ _=>by
 simp[execOp,ho,hx,hy,eqGuard_at_bool,run_eql_bool w T a b G]
theorem Y.AWo {a b:Bool}(G:P.underlying T=some .bool)(hx:AD e x=.bool a)(hy:AD e y=.bool b){T':TypeId}:Yd P e bx Z2 (.binOp .neq T x y T') ty (.bool (!(a==b))):=λoo ho _ w _ _=>by
 simp[execOp,ho,hx,hy,eqGuard_at_bool,run_neq_bool w T a b G]
theorem Y.AWp {a b:ByteArray}(hT:P.underlying T=some .string)(hx:AD e x=.string a)(hy:AD e y=.string b){T':TypeId}:Yd P e bx Z2 (.binOp .eql T x y T') ty (.bool (a.toList==b.toList)):=λoo ho _ w _ _=>by
 have _:=hT;have G:(binOp .eql T (.string a) (.string b)).run P w=.ok (.bool (a.toList==b.toList)) w:=by simp[binOp,Op.stringOp]
 simp[execOp,ho,hx,hy,eqGuard_at_string,G]
theorem Y.AWq {a b:ByteArray}(hT:P.underlying T=some .string)(hx:AD e x=.string a)(hy:AD e y=.string b){T':TypeId}:Yd P e bx Z2 (.binOp .neq T x y T') ty (.bool (!(a.toList==b.toList))):=λoo ho _ w _ _=>by
 have _:=hT;have G:(binOp .neq T (.string a) (.string b)).run P w=.ok (.bool (!(a.toList==b.toList))) w:=by simp[binOp,Op.stringOp]
 simp[execOp,ho,hx,hy,eqGuard_at_string,G]
theorem Y.xj {q:Option Addr}{E:TypeId}(G:P.underlying T=some (.pointer E))(hx:AD e x=.pointer q)(hy:AD e y=.pointer none){T':TypeId}:Yd P e bx Z2 (.binOp .eql T x y T') ty (.bool q.isNone):=λoo ho _ w _ _=>by
 have mg:P.underlying T=some (.pointer (P.pointee T)):=by rw[show P.pointee T=E by simp[Program.pointee,G]];exact G
 have h1:=run_eql_pointer_nil w T q mg;simp[execOp,ho,hx,hy,eqGuard_at_pointer,h1]
theorem Y.xk {q:Option Addr}{E:TypeId}(G:P.underlying T=some (.pointer E))(hx:AD e x=.pointer q)(hy:AD e y=.pointer none){T':TypeId}:Yd P e bx Z2 (.binOp .neq T x y T') ty (.bool q.isSome):=λoo ho _ w _ _=>by
 have mg:P.underlying T=some (.pointer (P.pointee T)):=by rw[show P.pointee T=E by simp[Program.pointee,G]];exact G
 have h1:=run_neq_pointer_nil w T q mg;simp[execOp,ho,hx,hy,eqGuard_at_pointer,h1]
section
variable {u v:Value}{ts:Array TypeId}
theorem Jq (hx:AD e x=u)(hy:AD e y=v)(o:Oper)(G:o.op=.call { callee:=.builtin .append,args:=#[x,y],argTypes:=ts })(ht:o.type=ty):execOp (AD e) o=(do pure (.value (<-Builtin.append_ ts ty #[u,v]))):=by
 subst ht;simp[execOp,G,resolve,invoke,builtin,hx,hy]
theorem iE (hx:AD e x=u)(hy:AD e y=v)(o:Oper)(G:o.op=.call { callee:=.builtin .copy,args:=#[x,y],argTypes:=ts })(ht:o.type=ty):execOp (AD e) o=(do pure (.value (<-Builtin.copy_ ts ty #[u,v]))):=by
 subst ht;simp[execOp,G,resolve,invoke,builtin,hx,hy]
theorem aM (hx:AD e x=u)(hy:AD e y=v)(o:Oper)(G:o.op=.call { callee:=.builtin .delete,args:=#[x,y],argTypes:=ts })(ht:o.type=ty):execOp (AD e) o=(do pure (.value (<-Builtin.delete_ ts ty #[u,v]))):=by
 subst ht;simp[execOp,G,resolve,invoke,builtin,hx,hy]
theorem dt (hx:AD e x=u)(o:Oper)(G:o.op=.call { callee:=.builtin .clear,args:=#[x],argTypes:=ts })(ht:o.type=ty):execOp (AD e) o=(do pure (.value (<-Builtin.clear_ ts ty #[u]))):=by
 subst ht;simp[execOp,G,resolve,invoke,builtin,hx]
end
def Program.Mk (P:Program)(E:TypeId)(m:Nat)(vs:List (Nat×Value)):Option (Array Value):=
 match P.info? E with
 | some i=>match i.zero with
  | some z=>if m*i.size > 2^24 then none else Instr.fill (λj=>some (j*i.size,i.size)) ((Array.range (m*i.size)).map (z.cells[·%z.cells.size]!)) vs
  | none=>none
 | none=>none
theorem Vs {m:Nat}{vs:List (Nat×Value)}{cs:Array Value}(hT:P.underlying T=some (.slice E))(G:Program.Mk P E m vs=some cs)(ps:Array (Nat×Value))(hp:ps.toList=vs)(w:World):
  (Instr.buildSlice T m ps).run P w=.ok (.slice (some ⟨w.heap.size,0,none⟩) m m) { w with heap:=w.heap.push (.cells cs E (0,0)) }:=by
 unfold Program.Mk at G;cases hi:P.info? E with
 | none=>simp[hi]at G
 | some i=>
  cases hz:i.zero with
  | none=>simp[hi,hz]at G
  | some z=>
   simp only[hi,hz]at G;by_cases hm:m*i.size > 2^24
   .simp[hm]at G
   .simp only[hm,AkO]at G;subst hp;by_cases h0:m*i.size=0
    .rw[h0]at G;have:(Array.range 0).map (λx=>z.cells[x%z.cells.size]!)=#[]:=by simp
     rw[this]at G;have h2:Array.map (λ_=>(default:Value)) (Array.range 0)=#[]:=by simp
     simp[Instr.buildSlice,run_underlying hT,Go.sizeOf,typeInfo,hi,h0,h2,G,newRow,newObj,Sem.run]
    .simp[Instr.buildSlice,run_underlying hT,Go.sizeOf,typeInfo,zeroValue,hi,hz,hm,h0,G,newRow,newObj,Sem.run]
end
theorem AV.Mk {g:Gl}{ops:Array Oper}{i:Nat}{e:Env}{bx:Bx}{Z2:Hp}{K:Env->Bx->Hp->Prop}{d:Option Nat}{ty T E:TypeId}{m:Nat}{ps:Array (Nat×Operand)}{vs:List (Nat×Value)}{cs:Array Value}(hT:g.P.underlying T=some (.slice E))
  {gd:Option (Nat×Bool)} (hs:sig ops i=some (d,.buildSlice T m ps,ty,gd)) (hw:Ac ops e gd=true) (hd:G5 d g.n=true) (hv:ps.toList.map (λp=>(p.1,AD e p.2))=vs) (hc:Program.Mk g.P E m vs=some cs)
  (h:∀b,Z2 b=none->K (put e d (.slice (some ⟨b,0,none⟩) m m)) bx (Z2.set b (.cells cs E (0,0)))):AV g ops i e bx Z2 K:=by
 intro w0 F a w st;obtain⟨o,ho,rfl,Bq,Dh,hg⟩:=Bc hs;refine Ck ho (by rw[st.wanted,hg];exact hw) ?_;rw[st.eval];have hh:(ps.map λ(i,x)=>(i,AD e x)).toList=vs:=by rw[<-hv];simp
 have:=Vs hT hc (ps.map λ(i,x)=>(i,AD e x)) hh w;have:(execOp (AD e) o).run g.P w=.ok (.value (.slice (some ⟨w.heap.size,0,none⟩) m m)) { w with heap:=w.heap.push (.cells cs E (0,0)) }:=by
  simp only[execOp,Bq,Sem.run_bind,this,Result.andThen_ok];rfl
 rw[Dg this (λd=>by simp)];have G:=st.grown (.cells cs E (0,0));exact⟨_,_,_,G.open.put _ _ (G5.lt hd),h _ (G.free _ (AjG ..)).1⟩
def Enters (P:Program)(f:FuncId):Prop:=∀args w,(callFunc f args).run P w=.ok (.enter f args) w
theorem AV.AN5 {g:Gl}{ops:Array Oper}{i:Nat}{e:Env}{bx:Bx}{Z2:Hp}{K:Env->Bx->Hp->Prop}{d:Option Nat}{ty:TypeId}{gd:Option (Nat×Bool)}{x:Operand}{xs:Array Operand}{ts:Array TypeId}
  {f:FuncId} {fst cap vs:Array Value} {u:Value} (hs:sig ops i=some (d,.call { callee:=.value x,args:=xs,argTypes:=ts },ty,gd)) (hw:Ac ops e gd=true) (hd:G5 d g.n=true)
  (hx:AD e x=u) (G:xs.toList.map (AD e)=vs.toList) (hu:u=.func (.func f) fst cap) (KG:Enters g.P f)
  (h:Spec g.P f (fst++vs++cap) Z2 (Ab g.R λv Z'=>K (put e d v) bx Z')):AV g ops i e bx Z2 K:=
 AV.call hs hw hd (λo ho _ w=>S6 KG (hx.trans hu) G rfl o ho w) h
def YN (P:Program)(f:FuncId)(args:Array Value)(Z2:Hp)(v:Value):Prop:=∀w,Sat Z2 w->(callFunc f args).run P w=.ok (.value v) w
end Tw
end
section
namespace Tw
open Go
variable [GF]
theorem AI.pu {P:Program}{α:Type}{m:Sem α}{Z2:Hp}{Φ:α->Hp->Prop}{v:α}(hm:∀w,Sat Z2 w->m.run P w=.ok v w)(h:Φ v Z2):AI P m Z2 Φ:=λw _ G hF=>
 ⟨v,w,Z2,hm w G,h,G,λb hb=>⟨(hF b hb).2,rfl⟩,.same rfl rfl rfl,rfl,Ai7 _⟩
def Hp.del (Z2:Hp)(p:Option Addr):Hp:=λk=>match p with
 | some a=>if k=a.block then none else Z2 k
 | none=>Z2 k
def Hp.new (Z2 Z':Hp):Hp:=λk=>match Z2 k with
 | none=>Z' k
 | some _=>none
theorem Ext.del {Z2 Z':Hp}(h:Ext Z2 Z')(p:Option Addr):Ext (Z2.del p) (Z'.del p):=λk o G=>by
 cases p with
 | none=>exact h k o G
 | some a=>simp only[Hp.del]at G ⊢;split at G<;>simp_all [h k o]
theorem Ext.Kt (Z2:Hp)(p:Option Addr):Ext (Z2.del p) Z2:=λk o G=>by
 cases p with
 | none=>exact G
 | some a=>simp only[Hp.del]at G;split at G<;>simp_all
theorem Ext.CX (Z2 Z':Hp):Ext (Z2.new Z') Z':=λk o G=>by
 simp only[Hp.new]at G;split at G<;>simp_all
theorem Ext.ADi {Z2 Z':Hp}{p:Option Addr}(hp:∀a,p=some a->Z2 a.block≠none):Ext (Z2.new Z') (Z'.del p):=λk o G=>by
 cases p with
 | none=>exact Ext.CX Z2 Z' k o G
 | some a=>
  have h1:=hp a rfl;have h2:=Ext.CX Z2 Z' k o G;simp only[Hp.del];split
  .rename_i h;subst h;simp only[Hp.new]at G;split at G<;>simp_all
  .exact h2
theorem Ext.Ha {Z2 Z1 G:Hp}(h:Ext Z1 G):Ext (Z2.new Z1) (Z2.new G):=λk o hk=>by
 simp only[Hp.new]at hk ⊢;split at hk<;>simp_all [h k o]
theorem Ext.Ci {Z2 Z1 G:Hp}(h:Ext Z2 Z1):Ext (Z1.new G) (Z2.new G):=λk o hk=>by
 simp only[Hp.new]at hk ⊢;split at hk
 .rename_i hn;cases hs:Z2 k with
  | none=>exact hk
  | some o'=>rw[h k o' hs]at hn;cases hn
 .cases hk
def Fj (s:Nat)(Z2:Hp)(p:Option Addr)(n:Nat)(cs:List Value):Prop:=
 cs.length=n*s/\n<=4611686018427387904/\(n=0\/∃b o,p=some ⟨b,o,none⟩/\Az Z2 b o cs)
theorem Az.mono {Z2 Z':Hp}(h:Ext Z2 Z'){b:Nat}:∀{l:List Value} {o:Nat},Az Z2 b o l->Az Z' b o l
 | [],_,_=>trivial
 | _::_,_,G=>⟨h.ld G.1,Az.mono h G.2⟩
theorem Fj.mono {s:Nat}{Z2 Z':Hp}(h:Ext Z2 Z'){p:Option Addr}{n:Nat}{cs:List Value}(G:Fj s Z2 p n cs):Fj s Z' p n cs:=
 ⟨G.1,G.2.1,G.2.2.imp id λ⟨b,o,hp,hl⟩=>⟨b,o,hp,hl.mono h⟩⟩
theorem Az.of {Z2:Hp}{b:Nat}:∀{l:List Value} {o:Nat},(∀j v,l[j]?=some v->Z2.ld ⟨b,o+j,none⟩=some v)->Az Z2 b o l
 | [],_,_=>trivial
 | v::l,o,h=>⟨by simpa using h 0 v rfl,Az.of λj u G=>by have:=h (j+1) u (by simpa using G);rwa[show o+(j+1)=o+1+j by omega]at this⟩
theorem Az.part {Z2:Hp}{b o i m:Nat}{l:List Value}(h:Az Z2 b o l):Az Z2 b (o+i) ((l.drop i).take m):=Az.of λj v G=>by
 have Sz:l[i+j]?=some v:=by
  rw[AjQ]at G;split at G
  .simpa using G
  .cases G
 have:=h.get Sz;rwa[show o+i+j=o+(i+j) by omega]
def Ch {α:Type}(s:Nat)(E:Hp->List Value->α->Prop)(Z2:Hp)(cs:List Value)(xs:List α):Prop:=
 cs.length=xs.length*s/\∀i x,xs[i]?=some x->E Z2 ((cs.drop (i*s)).take s) x
def Af {α:Type}(s:Nat)(E:Hp->List Value->α->Prop)(Z2:Hp)(p:Option Addr)(n:Nat)(xs:List α):Prop:=
 xs.length=n/\∃cs,Fj s Z2 p n cs/\Ch s E Z2 cs xs
def HA {α:Type}(E:Hp->List Value->α->Prop):Prop:=∀Z2 Z' vs x,Ext Z2 Z'->E Z2 vs x->E Z' vs x
theorem Ch.mono {α:Type}{s:Nat}{E:Hp->List Value->α->Prop}(hE:HA E){Z2 Z':Hp}(h:Ext Z2 Z'){cs:List Value}{xs:List α}(G:Ch s E Z2 cs xs):Ch s E Z' cs xs:=
 ⟨G.1,λi x hx=>hE _ _ _ _ h (G.2 i x hx)⟩
theorem Af.mono {α:Type}{s:Nat}{E:Hp->List Value->α->Prop}(G:HA E){Z2 Z':Hp}(h:Ext Z2 Z'){p:Option Addr}{n:Nat}{xs:List α}(hr:Af s E Z2 p n xs):Af s E Z' p n xs:=
 let ⟨h1,cs,h2,h3⟩:=hr;⟨h1,cs,h2.mono h,h3.mono G h⟩
theorem Af.nil {α:Type}{s:Nat}{E:Hp->List Value->α->Prop}{Z2:Hp}{p:Option Addr}:Af s E Z2 p 0 []:=⟨rfl,[],⟨by simp,by omega,.inl rfl⟩,by simp[Ch]⟩
theorem Af.idx {α:Type}{s:Nat}{E:Hp->List Value->α->Prop}{Z2:Hp}{p:Option Addr}{n i:Nat}{xs:List α}{x:α}(hr:Af s E Z2 p n xs)(hx:xs[i]?=some x):
  ∃b o vs,p=some ⟨b,o,none⟩/\E Z2 vs x/\Az Z2 b (o+i*s) vs:=by
 obtain⟨h1,cs,⟨hl,_,G⟩,h3⟩:=hr;have hi:i<n:=by rw[<-h1];exact(Ai0.1 hx).1
 rcases G with G|⟨b,o,hp,DD⟩
 .omega
 .exact⟨b,o,_,hp,h3.2 i x hx,DD.part⟩
theorem Af.big {α:Type}{s:Nat}{E:Hp->List Value->α->Prop}{Z2:Hp}{p:Option Addr}{n:Nat}{xs:List α}(G:Af s E Z2 p n xs):n<=4611686018427387904:=by
 obtain⟨_,cs,⟨_,h,_⟩,_⟩:=G;exact h
theorem Af.ex {α:Type}{s:Nat}{E:Hp->List Value->α->Prop}{Z2:Hp}{p:Option Addr}{n k:Nat}{xs:List α}(hr:Af s E Z2 p n xs)(G:k<n):∃y,xs[k]?=some y:=
 ⟨_,Ai3 (by rw[hr.1];exact G)⟩
theorem AO {k n:Nat}(h:k<n)(G:n<=4611686018427387904):AL ((k:Int)+1):=by unfold AL;omega
theorem AR {α:Type}{xs:List α}{k:Nat}{y:α}(G:xs[k]?=some y):xs.take (k+1)=xs.take k++[y]:=by
 rw[Alv,G];rfl
theorem aN {α:Type}{xs:List α}{k:Nat}{x y:α}(G:xs[k]?=some y):x∈xs.take (k+1)↔x∈xs.take k\/x=y:=by
 rw[AR G,AjU,Ai2]
def F6 (k:IntKind)(_:Hp)(vs:List Value)(x:Int):Prop:=vs=[.int k x]
theorem F6.mono (k:IntKind):HA (F6 k):=λ_ _ _ _ _ h=>h
abbrev Dc (k:IntKind):= Af 1 (F6 k)
theorem Dc.mono {k:IntKind}{Z2 Z':Hp}(h:Ext Z2 Z'){p:Option Addr}{n:Nat}{xs:List Int}(G:Dc k Z2 p n xs):Dc k Z' p n xs:=Af.mono (F6.mono k) h G
theorem Dc.at {k:IntKind}{Z2:Hp}{p:Option Addr}{n:Nat}{xs:List Int}(hr:Dc k Z2 p n xs){i:Nat}{x:Int}(hx:xs[i]?=some x):
  ∃b o,p=some ⟨b,o,none⟩/\Z2.ld ⟨b,o+i*1,none⟩=some (.int k x):=by
 obtain⟨b,o,vs,hp,rfl,G⟩:=Af.idx hr hx;exact⟨b,o,hp,G.1⟩
theorem mh {k:IntKind}{Z2:Hp}{cs:List Value}{xs:List Int}:Ch 1 (F6 k) Z2 cs xs↔cs=xs.map (.int k):=by
 constructor
 .rintro⟨h1,h2⟩
  refine AkA λi=>?_;rw[Aj7];cases G:xs[i]? with
  | none=>
   have:=Al2.1 G;simp only[Option.map_none];exact Al2.2 (by omega)
  | some x=>
   have:=h2 i x G;simp only[F6,AkG]at this;have h3:((cs.drop i).take 1)[0]?=some (.int k x):=by rw[this];rfl
   rw[AjQ]at h3;simpa using h3
 .rintro rfl
  refine⟨by simp,λi x G=>?_⟩;have Ax:=(Ai0.1 G).1;have hg:=(Ai0.1 G).2;simp only[F6,AkG];rw[AlB (by simpa using Ax)];simp[hg]
def BH (s:Nat)(Z2:Hp)(p:Option Addr)(n c:Nat)(cs:List Value):Prop:=
 cs.length=n*s/\n<=4611686018427387904/\((p=none/\n=0/\c=0)\/∃b o arr T,p=some ⟨b,o,none⟩/\Z2 b=some (.cells arr T (0,0))/\n<=c/\o+c*s<=arr.size/\(arr.toList.drop o).take (n*s)=cs)
theorem BH.nil {s:Nat}{Z2:Hp}:BH s Z2 none 0 0 []:=⟨by simp,by omega,.inl ⟨rfl,rfl,rfl⟩⟩
theorem BH.rd {s:Nat}{Z2:Hp}{p:Option Addr}{n c:Nat}{cs:List Value}(h:BH s Z2 p n c cs):Fj s Z2 p n cs:=by
 obtain⟨h1,h0,h2⟩:=h;refine⟨h1,h0,?_⟩;rcases h2 with ⟨_,hn,_⟩|⟨b,o,arr,T,hp,hb,qf,J1,Rc⟩
 .exact .inl hn
 .refine .inr ⟨b,o,hp,Az.of λj v G=>?_⟩;rw[<-Rc,AjQ]at G;split at G
  .simp only[Hp.ld,hb];simpa using G
  .cases G
theorem BH.mono {s:Nat}{Z2 Z':Hp}(h:Ext Z2 Z'){p:Option Addr}{n c:Nat}{cs:List Value}(G:BH s Z2 p n c cs):BH s Z' p n c cs:=
 ⟨G.1,G.2.1,G.2.2.imp id λ⟨b,o,arr,T,hp,hb,r⟩=>⟨b,o,arr,T,hp,h _ _ hb,r⟩⟩
theorem BH.block {s:Nat}{Z2:Hp}{p:Option Addr}{n c:Nat}{cs:List Value}(ho:BH s Z2 p n c cs):∀a,p=some a->Z2 a.block≠none:=by
 intro a G;rcases ho.2.2 with ⟨hp,_⟩|⟨b,o,arr,T,hp,hb,_⟩
 .rw[hp]at G;cases G
 .rw[hp]at G;cases G;rw[hb];simp
theorem BH.take {s:Nat}{Z2:Hp}{p:Option Addr}{n c m:Nat}{cs:List Value}(ho:BH s Z2 p n c cs)(hm:m<=n):BH s Z2 p m c (cs.take (m*s)):=by
 obtain⟨h1,h0,h2⟩:=ho;have G:m*s<=n*s:=Ajk s hm;refine⟨by rw[AjJ,h1];omega,by omega,?_⟩;rcases h2 with ⟨hp,hn,hc⟩|⟨b,o,arr,T,hp,hb,qf,J1,Rc⟩
 .exact .inl ⟨hp,by omega,hc⟩
 .exact .inr ⟨b,o,arr,T,hp,hb,by omega,J1,by rw[<-Rc,AmF,AlC G]⟩
class J2 (P:Program)(T:TypeId)(E:outParam TypeId)(s bs:outParam Nat):Prop where
 Us:P.underlying T=some (.slice E)
 info:∃i z,P.info? E=some i/\i.zero=some z/\i.size=s/\i.bytes=bs/\z.cells.size=s
 pos:0<s
 AWr:0<bs
def FZ (cs:List Value):Prop:=∀u∈cs,u.oneCell'=true
theorem FZ.Rm {k:IntKind}{xs:List Int}:FZ (xs.map (.int k)):=λu G=>by
 obtain⟨x,_,rfl⟩:=Ajf.1 G;rfl
section append
variable {P:Program}{T E ty:TypeId}{s bs:Nat}{Z2:Hp}{p q:Option Addr}{n c m d:Nat}{cs ys:List Value}{Φ:Value->Hp->Prop}
theorem bL {w:World}(hs:Sat Z2 w){b o:Nat}(h:Az Z2 b o ys):∀j v,ys[j]?=some v->w.cell? ((⟨b,o,none⟩:Addr).add j)=some v:=λj v G=>by
 rw[Cm];exact hs.ld (h.get G)
theorem Pa (w:World)(hs:Sat Z2 w)(G:Fj s Z2 q m ys):(Builtin.firstCells s m (.slice q m d)).run P w=.ok ys.toArray w:=by
 rcases G.2.2 with hm|⟨b,o,rfl,hl⟩
 .subst hm;have:ys=[]:=AjL (by simpa using G.1);subst this;cases q<;>simp[Builtin.firstCells,loadCells,loadCellsFrom]
 .exact run_firstCells_some (P:=P) w s m ⟨b,o,none⟩ m d ys G.1 (bL hs hl)
theorem Hb {w:World}(G:Sat Z2 w):Z2 w.heap.size=none:=by
 cases h:Z2 w.heap.size with
 | none=>rfl
 | some o=>exact absurd (AjF.1 (G _ _ h)).1 (Nat.lt_irrefl _)
theorem Fin.alloc {F:Nat->Prop}{w:World}{o:Obj}(hs:Sat Z2 w)(hF:∀b,F b->b<w.heap.size/\Z2 b=none)(w':World)(hw:w'.heap=w.heap.push o)(h1:Bj w w')(h2:w'.output=w.output):Fin (Z2.set w.heap.size o) F w w':=by
 refine⟨λk u G=>?_,λb hb=>?_,h1,h2,by rw[hw];simp⟩
 .rw[hw];by_cases h:k=w.heap.size
  .subst h;rw[Hp.AA]at G;cases G;simp
  .rw[Hp.AB h]at G;have:=hs k u G;have Ax:=(AjF.1 this).1;rw[AjO,Aiw h];exact this
 .have:=(hF b hb).1;refine⟨by rw[Hp.AB (by omega)];exact(hF b hb).2,?_⟩;rw[hw,AjO,Aiw (by omega)]
theorem Hp.Ro {b:Nat}{o:Obj}{a:Nat}{sp:Option Nat}(h:Z2 b=none):(Z2.set b o).del (some ⟨b,a,sp⟩)=Z2:=by
 funext k
 simp only[Hp.del,Hp.set];by_cases G:k=b
 .subst G;simp[h]
 .simp[G]
theorem Hp.Ku {b:Nat}{o:Obj}{a:Nat}{G:Option Nat}:(Z2.set b o).del (some ⟨b,a,G⟩)=Z2.del (some ⟨b,a,G⟩):=by
 funext k
 simp only[Hp.del,Hp.set];by_cases hk:k=b<;>simp[hk]
theorem xl [h:J2 P T E s bs](CR:BH s Z2 p n c cs)(hy:Fj s Z2 q m ys)(h1:FZ ys)(hb:(n+m)*bs<=140737488355328)
  (hΦ:∀p' c' Z',BH s Z' p' (n+m) c' (cs++ys)->Ext (Z2.del p) (Z'.del p')->((p'=p/\c'=c/\n+m<=c)\/(c<n+m/\Ext Z2 Z'/\∀a,p'=some a->Z2 a.block=none))->Φ (.slice p' (n+m) c') Z') :
  AI P (Builtin.append_ #[T,T] ty #[.slice p n c,.slice q m d]) Z2 Φ:=by
 obtain⟨ht,⟨i,z,hi,hz,rfl,rfl,hzs⟩,Hu,xm⟩:=h;have h62:n+m<=140737488355328:=Aj3 (AlK _ xm) hb;intro w F hs hF;have hf:=Pa (P:=P) (d:=d) w hs hy;have th:=λw' (hw:Sat Z2 w')=>Pa (P:=P) (d:=d) w' hw hy;have Di:=λw' (hw:Sat Z2 w')=>Pa (P:=P) (d:=c) w' hw CR.rd;have G:(cs++ys).length=(n+m)*i.size:=by rw[Ai5,CR.1,hy.1,AkB]
 by_cases JX:n+m<=c
 ·
  rcases CR.2.2 with ⟨hp,hn,hc⟩|⟨b,o,arr,T',rfl,hblk,qf,J1,Rc⟩
  .subst hp hn hc;have hm:m=0:=by omega
   subst hm;have hys:ys=[]:=AjL (by simpa using hy.1);have Rc:cs=[]:=AjL (by simpa using CR.1);subst hys Rc;refine⟨.slice none 0 0,w,Z2,?_,hΦ none 0 Z2 BH.nil (Ext.refl _) (.inl ⟨rfl,rfl,JX⟩),hs,λb hb=>⟨(hF b hb).2,rfl⟩,.same rfl rfl rfl,rfl,Ai7 _⟩;simp[Builtin.append_,run_underlying ht,Go.sizeOf,typeInfo,hi,Builtin.lenOf,hf]
  .have hw:=hs _ _ hblk;have AIq:o+n*i.size+0+ys.length<=arr.size:=by
    rw[hy.1];have:(n+m)*i.size<=c*i.size:=Ajk _ JX;rw[AkB]at this;omega
   have B9:=GK (P:=P) b (o+n*i.size) T' ys 0 arr w hw AIq h1;simp only[AkK]at B9;refine⟨.slice (some ⟨b,o,none⟩) (n+m) c,w.setRow b (Ks arr (o+n*i.size) ys),Z2.set b (.cells (Ks arr (o+n*i.size) ys) T' (0,0)),?_,hΦ _ _ _ ⟨G,by omega,.inr ⟨b,o,_,T',rfl,Hp.AA _ _ _,JX,by rw[KH];exact J1,?_⟩⟩ (by rw[Hp.Ku];exact Ext.refl _) (.inl ⟨rfl,rfl,JX⟩),?_⟩
   .simp[Builtin.append_,run_underlying ht,Go.sizeOf,typeInfo,hi,Builtin.lenOf,JX,hf,Cm,B9]
   .refine AkA λj=>?_;rw[AjQ];simp only[Aja,Aje];rw[VP _ _ _ _ (by omega),AkJ];have e1:cs.length=n*i.size:=CR.1;have e2:ys.length=m*i.size:=hy.1;have e3:(n+m)*i.size=n*i.size+m*i.size:=AkB ..;by_cases hj1:j<cs.length
    .rw[Aiy (by omega),Aiw (by omega),Aiy hj1,<-Rc,AjQ,Aiy (by omega)];simp
    .rw[Aiw hj1];by_cases hj2:j<(n+m)*i.size
     .rw[Aiy hj2,Aiy (by omega),show o+j-(o+n*i.size)=j-cs.length by omega]
     .rw[Aiw hj2,AkF (by omega)]
   .refine⟨λk u hk=>?_,λk hk=>?_,.same rfl rfl rfl,rfl,by simp⟩
    .by_cases FB:k=b
     .subst FB;rw[Hp.AA]at hk;cases hk;exact setRow_heap w k arr _ T' (0,0) hw
     .rw[Hp.AB FB]at hk;rw[setRow_other _ _ _ _ FB];exact hs k u hk
    .have FB:k≠b:=λh=>by have:=(hF k hk).2;rw[h,hblk]at this;cases this
     exact⟨by rw[Hp.AB FB];exact(hF k hk).2,setRow_other _ _ _ _ FB⟩
 ·
  have AN8:Builtin.nextslicecap (n+m) c*i.bytes<=281474976710656:=growslice_fits (by omega) hb;have hgc:=grownCap_ge w (n+m) c E;have Pb:Sat Z2 w.drew:=hs;have CD:(Builtin.append_ #[T,T] ty #[.slice p n c,.slice q m d]).run P w =
    .ok (.slice (some ⟨w.heap.size,0,none⟩) (n+m) (grownCap w (n+m) c E))
     (w.drew.alloc (.cells (cs.toArray++ys.toArray++Builtin.zeroCells z.cells (grownCap w (n+m) c E-(n+m))) E)):=by
   have AIr:¬(9223372036854775807<((n:Int)+(m:Int))):=by omega
   have AIs:¬(281474976710656<Builtin.nextslicecap (n+m) c*i.bytes):=by omega
   simp[Builtin.append_,run_underlying ht,Go.sizeOf,typeInfo,zeroValue,hi,hz,Builtin.lenOf,JX,AIr,AIs,Question.forced,th _ Pb,Di _ Pb,newRow,grownCap]
   congr 2
   apply AmM
   simp[AjT]
  refine⟨_,_,Z2.set w.heap.size _,CD,hΦ _ _ _ ⟨G,by omega,.inr ⟨w.heap.size,0,_,E,rfl,Hp.AA _ _ _,hgc,?_,?_⟩⟩ ?_ (.inr ⟨by omega,Ext.set (Hb hs),λa ha=>by cases ha;exact Hb hs⟩),Fin.alloc hs hF _ rfl ⟨rfl,rfl,λ_=>⟨1,rfl⟩⟩ rfl⟩
  .simp only[Alw,Alx,size_zeroCells,hzs,CR.1,hy.1,<-AkB];have:n+m+(grownCap w (n+m) c E-(n+m))=grownCap w (n+m) c E:=by omega
   rw[this];omega
  .simp only[Alj,AlI];rw[<-G];exact AmG
  .rw[Hp.Ro (Hb hs)];exact Ext.Kt Z2 p
theorem D9 [h:J2 P T E s bs](CR:BH s Z2 p n c cs)(hy:Fj s Z2 q m ys)(h1:FZ ys)(hb:(n+m)*bs<=140737488355328)
  (hΦ:∀G c' Z',BH s Z' G (n+m) c' (cs++ys)->Ext (Z2.del p) (Z'.del G)->Φ (.slice G (n+m) c') Z') :
  AI P (Builtin.append_ #[T,T] ty #[.slice p n c,.slice q m d]) Z2 Φ:=
 xl CR hy h1 hb λG c' Z' h1 h2 _=>hΦ G c' Z' h1 h2
end append
end Tw
end
section
namespace Tw
open Go
variable [GF]
theorem Fj.of_map {k:IntKind}{Z2:Hp}{p:Option Addr}{n:Nat}{xs:List Int}(hr:Dc k Z2 p n xs):Fj 1 Z2 p n (xs.map (.int k)):=by
 obtain⟨_,cs,G,h2⟩:=hr;rwa[mh.1 h2]at G
theorem Dc.du {k:IntKind}{Z2:Hp}{p:Option Addr}{n:Nat}{xs:List Int}(h:Fj 1 Z2 p n (xs.map (.int k))):Dc k Z2 p n xs:=
 ⟨by have:=h.1;simpa using this,_,h,mh.2 rfl⟩
abbrev DS (k:IntKind)(Z2:Hp)(p:Option Addr)(n c:Nat)(xs:List Int):Prop:=BH 1 Z2 p n c (xs.map (.int k))
theorem DS.rd {k:IntKind}{Z2:Hp}{p:Option Addr}{n c:Nat}{xs:List Int}(h:DS k Z2 p n c xs):Dc k Z2 p n xs:=.du (BH.rd h)
theorem BH.empty {s b T:Nat}{Z2:Hp}:BH s (Z2.set b (.cells #[] T (0,0))) (some ⟨b,0,none⟩) 0 0 []:=
 ⟨by simp,by omega,.inr ⟨b,0,#[],T,rfl,Hp.AA _ _ _,Ai7 _,by simp,by simp⟩⟩
theorem BH.S8 {s:Nat}{Z2 Z':Hp}{p:Option Addr}{n c:Nat}{cs:List Value}(h:BH s Z' p n c cs)(hp:∀a,p=some a->Z2 a.block=none):BH s (Z2.new Z') p n c cs:=by
 refine⟨h.1,h.2.1,h.2.2.imp id ?_⟩
 rintro⟨b,o,arr,T,G,hb,r⟩
 refine⟨b,o,arr,T,G,?_,r⟩;simp only[Hp.new];rw[hp _ G];exact hb
theorem HB {Z2 G Z':Hp}{p p':Option Addr}(h:∀a,p=some a->Z2 a.block=none)(hx:Ext (G.del p) (Z'.del p'))(hσ:Ext Z2 G):∀a,p'=some a->Z2 a.block=none:=by
 intro a ha;cases hb:Z2 a.block with
 | none=>rfl
 | some o=>
  have h1:=hσ _ _ hb;have h2:(G.del p) a.block=some o:=by
   cases p with
   | none=>exact h1
   | some u=>
    simp only[Hp.del];split
    .rename_i he;have:=h u rfl;rw[<-he,hb]at this;cases this
    .exact h1
  have h3:=hx _ _ h2;rw[ha]at h3;simp[Hp.del]at h3
theorem Kv {Z2 Z1 Z':Hp}{p p':Option Addr}(h:∀a,p=some a->Z2 a.block=none)(hx:Ext (Z1.del p) (Z'.del p'))(G:Ext Z2 Z1):Ext Z2 Z':=by
 intro b o hb;have h2:(Z1.del p) b=some o:=by
  cases p with
  | none=>exact G _ _ hb
  | some u=>
   simp only[Hp.del];split
   .rename_i he;have:=h u rfl;rw[<-he,hb]at this;cases this
   .exact G _ _ hb
 exact Ext.Kt _ _ _ _ (hx _ _ h2)
theorem Ae {Z2 Z':Hp}{k:Nat}{o:Obj}:Z2.new Z' k=some o↔Z2 k=none/\Z' k=some o:=by
 simp only[Hp.new];cases Z2 k<;>simp
theorem Aq {Z2:Hp}{p:Option Addr}{k:Nat}{o:Obj}:Z2.del p k=some o↔(∀a,p=some a->k≠a.block)/\Z2 k=some o:=by
 cases p with
 | none=>simp[Hp.del]
 | some a=>
  simp only[Hp.del];split
  .rename_i h;simp[h]
  .rename_i h;simp[h]
theorem BH.xo {s:Nat}{Z2 Z':Hp}{p:Option Addr}{n c:Nat}{cs:List Value}(h:BH s (Z2.new Z') p n c cs):∀a,p=some a->Z2 a.block=none:=by
 intro a G;have:=h.block a G;cases hb:(Z2.new Z') a.block with
 | none=>exact absurd hb this
 | some o=>exact(Ae.1 hb).1
section append
variable {P:Program}{T Et ty:TypeId}{s bs:Nat}{Z0 Z2:Hp}{p q:Option Addr}{n c m d:Nat}{cs ys:List Value}{Φ:Value->Hp->Prop}
theorem ADk [J2 P T Et s bs](h0:Ext Z0 Z2)(CR:BH s (Z0.new Z2) p n c cs)(hy:Fj s Z2 q m ys)(h1:FZ ys)(hb:(n+m)*bs<=140737488355328)
  (hΦ:∀p' c' Z',BH s (Z0.new Z') p' (n+m) c' (cs++ys)->Ext Z0 Z'->Ext ((Z0.new Z2).del p) ((Z0.new Z').del p')->Φ (.slice p' (n+m) c') Z') :
  AI P (Builtin.append_ #[T,T] ty #[.slice p n c,.slice q m d]) Z2 Φ:=by
 have G:=CR.xo;refine D9 (CR.mono (Ext.CX Z0 Z2)) hy h1 hb λp' c' Z' ho hx=>?_;refine hΦ p' c' Z' (ho.S8 (HB G hx h0)) (Kv G hx h0) λk o hk=>?_;obtain⟨h2,h3⟩:=Aq.1 hk;obtain⟨h4,h5⟩:=Ae.1 h3;obtain⟨h6,h7⟩:=Aq.1 (hx k o (Aq.2 ⟨h2,h5⟩));exact Aq.2 ⟨h6,Ae.2 ⟨h4,h7⟩⟩
theorem Pc [J2 P T Et s bs](h0:Ext Z0 Z2)(CR:BH s (Z0.new Z2) p n c cs)(hl:ys.length=m*s)(h1:FZ ys)(hb:(n+m)*bs<=140737488355328)
  (hΦ:∀G c' Z',BH s (Z0.new Z') G (n+m) c' (cs++ys)->Ext Z0 Z'->Ext ((Z0.new Z2).del p) ((Z0.new Z').del G)->Φ (.slice G (n+m) c') Z')
  {b:Nat} (hn:Z2 b=none):AI P (Builtin.append_ #[T,T] ty #[.slice p n c,.slice (some ⟨b,0,none⟩) m m]) (Z2.set b (.cells ys.toArray Et (0,0))) Φ:=by
 have hx:Ext Z2 (Z2.set b (.cells ys.toArray Et (0,0))):=.set hn;have hm:m<=140737488355328:=by
  have hbp:=(inferInstance:J2 P T Et s bs).AWr;have:n+m<=(n+m)*bs:=AlK _ hbp;omega
 refine ADk (h0.trans hx) (CR.mono (Ext.Ha hx)) ⟨hl,by omega,.inr ⟨b,0,rfl,Az.of λj v hj=>?_⟩⟩ h1 hb λG c' Z' ho he hd=>hΦ G c' Z' ho he (λk o hk=>hd k o ((Ext.Ha hx).del p k o hk));simp[Hp.ld,Hp.AA,hj]
end append
def II {α:Type}(s:Nat)(E:Hp->List Value->α->Prop)(Z2:Hp)(p:Option Addr)(n c:Nat)(xs:List α):Prop:=
 xs.length=n/\∃cs,BH s Z2 p n c cs/\Ch s E (Z2.del p) cs xs
theorem II.nil {α:Type}{s:Nat}{E:Hp->List Value->α->Prop}{Z2:Hp}:II s E Z2 none 0 0 []:=⟨rfl,[],.nil,by simp[Ch]⟩
theorem II.mono {α:Type}{s:Nat}{E:Hp->List Value->α->Prop}(G:HA E){Z2 Z':Hp}(h:Ext Z2 Z'){p:Option Addr}{n c:Nat}{xs:List α}(ho:II s E Z2 p n c xs):II s E Z' p n c xs:=
 let ⟨h1,cs,h2,h3⟩:=ho;⟨h1,cs,h2.mono h,h3.mono G (h.del p)⟩
theorem II.rd {α:Type}{s:Nat}{E:Hp->List Value->α->Prop}(G:HA E){Z2:Hp}{p:Option Addr}{n c:Nat}{xs:List α}(ho:II s E Z2 p n c xs):Af s E Z2 p n xs:=
 let ⟨h1,cs,h2,h3⟩:=ho;⟨h1,cs,h2.rd,h3.mono G (Ext.Kt Z2 p)⟩
theorem II.block {α:Type}{s:Nat}{E:Hp->List Value->α->Prop}{Z2:Hp}{p:Option Addr}{n c:Nat}{xs:List α}(G:II s E Z2 p n c xs):∀a,p=some a->Z2 a.block≠none:=
 let ⟨_,_,h2,_⟩:=G;h2.block
theorem Ch.snoc {α:Type}{s:Nat}{E:Hp->List Value->α->Prop}{Z2:Hp}{cs vs:List Value}{xs:List α}{x:α}(h:Ch s E Z2 cs xs)(hl:vs.length=s)(hx:E Z2 vs x):Ch s E Z2 (cs++vs) (xs++[x]):=by
 refine⟨by simp[h.1,hl,AkB],λi y G=>?_⟩;rw[AkJ]at G;split at G
 .rename_i hi;have hle:i*s+s<=cs.length:=by rw[h.1,<-Akj];exact Ajk s hi
  rw[Alh (by omega),Ali (by simp;omega)];exact h.2 i y G
 .rename_i hi;have:i=xs.length:=by
   have:=(Ai0.1 G).1;simp at this;omega
  subst this;simp at G;subst G;rw[<-h.1,List.drop_left,<-hl,List.take_length];exact hx
theorem II.Ey {α:Type}{P:Program}{T Et ty:TypeId}{s bs:Nat}{E:Hp->List Value->α->Prop}(hE:HA E)[J2 P T Et s bs]{Z0 Z2:Hp}{p:Option Addr}{n c:Nat}{xs:List α}{vs:List Value}{x:α}{Φ:Value->Hp->Prop}
  (h0:Ext Z0 Z2) (CR:II s E (Z0.new Z2) p n c xs) (hl:vs.length=s) (h1:FZ vs) (hx:E ((Z0.new Z2).del p) vs x) (hb:(n+1)*bs<=140737488355328)
  (hΦ:∀p' c' Z',II s E (Z0.new Z') p' (n+1) c' (xs++[x])->Ext Z0 Z'->Φ (.slice p' (n+1) c') Z') {b:Nat} (hn:Z2 b=none) :
  AI P (Builtin.append_ #[T,T] ty #[.slice p n c,.slice (some ⟨b,0,none⟩) 1 1]) (Z2.set b (.cells vs.toArray Et (0,0))) Φ:=by
 obtain⟨G,cs,ho,hc⟩:=CR;refine Pc h0 ho (by rw[hl,Nat.one_mul]) h1 hb (λp' c' Z' Di he hd=>hΦ p' c' Z' ⟨by simp[G],_,Di,(hc.snoc hl hx).mono hE hd⟩ he) hn
end Tw
end
section
namespace Tw
open Go
variable [GF]
def Drop (R:Rr):Rr:=λe Z'=>∃Z2,Ext Z2 Z'/\R e Z2
theorem Drop.mk {R:Rr}{e:Ending}{Z2 Z':Hp}(h:Ext Z2 Z')(G:R e Z2):Drop R e Z':=⟨Z2,h,G⟩
theorem A4 {Z2 Z':Hp}(h:Ext Z2 Z'){b:Nat}(hb:Z' b=none):Z2 b=none:=by
 cases G:Z2 b with
 | none=>rfl
 | some o=>rw[h _ _ G]at hb;cases hb
theorem Spec.drop {P:Program}{f:FuncId}{args:Array Value}{Z2:Hp}{R:Rr}(h:Spec P f args Z2 (Drop R)):Spec P f args Z2 R:=λw F hs hF=>
 (h w F hs hF).mono λ_ _ ⟨_,⟨ADh,hx,hr⟩,G⟩=>⟨ADh,hr,{ G with sat:=λb o hb=>G.sat b o (hx b o hb),BI:=λb hb=>⟨A4 hx (G.BI b hb).1,(G.BI b hb).2⟩ }⟩
section
variable {P:Program}{T Et ty:TypeId}{bs:Nat}{Z0 Z2:Hp}{p:Option Addr}{n c:Nat}{xs:List Int}{x:Int}{k:IntKind}{Φ:Value->Hp->Prop}
theorem DS.Ey [J2 P T Et 1 bs](h0:Ext Z0 Z2)(CR:DS k (Z0.new Z2) p n c xs)(hb:(n+1)*bs<=140737488355328)
  (hΦ:∀G c' Z',DS k (Z0.new Z') G (n+1) c' (xs++[x])->Ext Z0 Z'->Ext ((Z0.new Z2).del p) ((Z0.new Z').del G)->Φ (.slice G (n+1) c') Z')
  {b:Nat} (hn:Z2 b=none):AI P (Builtin.append_ #[T,T] ty #[.slice p n c,.slice (some ⟨b,0,none⟩) 1 1]) (Z2.set b (.cells #[.int k x] Et (0,0))) Φ:=
 Pc (ys:=[.int k x]) h0 CR rfl (FZ.Rm (xs:=[x])) hb (λG c' Z' ho he hd=>hΦ G c' Z' (by simpa[DS,AjP] using ho) he hd) hn
theorem DS.nil:DS k Z2 none 0 0 []:=BH.nil
end
end Tw
end
section
namespace Tw
open Go
variable [GF]
def over (L:List Value)(j:Nat)(zs:List Value):List Value:=L.take j++zs++L.drop (j+zs.length)
section
variable {P:Program}{T T2 E ty:TypeId}{s bs:Nat}{Z2:Hp}{p q:Option Addr}{n c m d d' j k:Nat}{L cs ys:List Value}{Φ:Value->Hp->Prop}
end
end Tw
end
section
namespace Tw
open Go
variable [GF]
theorem Hp.set_set {Z2:Hp}{b:Nat}{o o':Obj}:(Z2.set b o).set b o'=Z2.set b o':=by
 funext k;simp only[Hp.set];split<;>rfl
theorem bM {O22:Hp}{b:Nat}{o:Obj}(hb:O22 b=none){w:World}{F:Nat->Prop}(hs:Sat (O22.set b o) w)(hF:∀k,F k->k<w.heap.size/\(O22.set b o) k=none):
  Sat O22 w/\∀k,(F k\/k=b)->k<w.heap.size/\O22 k=none:=by
 have hx:Ext O22 (O22.set b o):=.set hb;refine⟨λk u G=>hs k u (hx k u G),λk G=>?_⟩;rcases G with G|rfl
 .exact⟨(hF k G).1,A4 hx (hF k G).2⟩
 .exact⟨(AjF.1 (hs k o (Hp.AA _ _ _))).1,hb⟩
theorem Spec.AQ {P:Program}{f:FuncId}{args:Array Value}{O22:Hp}{b:Nat}{o:Obj}{R:Rr}(hb:O22 b=none)
  (h:Spec P f args O22 (λe G=>G b=none->R e (G.set b o))):Spec P f args (O22.set b o) R:=λw F hs hF=>by
 obtain⟨h1,h2⟩:=bM hb hs hF;refine(h w (λk=>F k\/k=b) h1 h2).mono ?_
 rintro e w' ⟨G,hr,hf⟩
 have hbp:=hf.BI b (.inr rfl);refine⟨G.set b o,hr hbp.1,λk u hk=>?_,λk hk=>?_,hf.os,hf.out,hf.grow⟩
 .by_cases h:k=b
  .subst h;rw[hbp.2];rw[Hp.AA]at hk;cases hk;exact hs k _ (Hp.AA _ _ _)
  .rw[Hp.AB h]at hk;exact hf.sat k u hk
 .have FB:k≠b:=λh=>by have:=(hF k hk).2;rw[h,Hp.AA]at this;cases this
  exact⟨by rw[Hp.AB FB];exact(hf.BI k (.inl hk)).1,(hf.BI k (.inl hk)).2⟩
theorem AI.AQ {P:Program}{α:Type}{m:Sem α}{O22:Hp}{b:Nat}{o:Obj}{Φ:α->Hp->Prop}(hb:O22 b=none)
  (h:AI P m O22 (λv G=>G b=none->Φ v (G.set b o))):AI P m (O22.set b o) Φ:=λw F hs hF=>by
 obtain⟨h1,h2⟩:=bM hb hs hF;obtain⟨v,w',G,CD,hr,hf⟩:=h w (λk=>F k\/k=b) h1 h2;have hbp:=hf.BI b (.inr rfl);refine⟨v,w',G.set b o,CD,hr hbp.1,λk u hk=>?_,λk hk=>?_,hf.os,hf.out,hf.grow⟩
 .by_cases h:k=b
  .subst h;rw[hbp.2];rw[Hp.AA]at hk;cases hk;exact hs k _ (Hp.AA _ _ _)
  .rw[Hp.AB h]at hk;exact hf.sat k u hk
 .have FB:k≠b:=λh=>by have:=(hF k hk).2;rw[h,Hp.AA]at this;cases this
  exact⟨by rw[Hp.AB FB];exact(hf.BI k (.inl hk)).1,(hf.BI k (.inl hk)).2⟩
section rows
variable {α:Type}{s:Nat}{E:Hp->List Value->α->Prop}{Z2:Hp}{cs ds:List Value}{xs ys:List α}
theorem Ch.take (h:Ch s E Z2 cs xs)(i:Nat):Ch s E Z2 (cs.take (i*s)) (xs.take i):=by
 refine⟨?_,λk x G=>?_⟩
 .rw[AjJ,AjJ,h.1,Nat.min_def,Nat.min_def];by_cases hi:i<=xs.length
  .rw[Aiy hi,Aiy (Ajk s hi)]
  .rw[Aiw hi];split
   .exact Nat.le_antisymm (by assumption) (Ajk s (by omega))
   .rfl
 .rw[AjQ]at G;split at G
  .rename_i hk;have hle:k*s+s<=i*s:=by rw[<-Akj];exact Ajk s hk
   rw[List.drop_take,AmF,AlC (by omega)];exact h.2 k x G
  .cases G
theorem Ch.drop (h:Ch s E Z2 cs xs)(i:Nat):Ch s E Z2 (cs.drop (i*s)) (xs.drop i):=by
 refine⟨by rw[AjN,AjN,h.1,Nat.sub_mul],λk x G=>?_⟩;rw[Aja]at G;rw[AmH,<-AkB];exact h.2 _ x G
theorem Ch.append (h:Ch s E Z2 cs xs)(g:Ch s E Z2 ds ys):Ch s E Z2 (cs++ds) (xs++ys):=by
 refine⟨by rw[Ai5,Ai5,h.1,g.1,AkB],λk x hx=>?_⟩;rw[AkJ]at hx;split at hx
 .rename_i hk;have G:k*s+s<=cs.length:=by rw[h.1,<-Akj];exact Ajk s hk
  rw[Alh (by omega),Ali (by simp;omega)];exact h.2 k x hx
 .rename_i hk;have G:cs.length<=k*s:=by rw[h.1];exact Ajk s (by omega)
  have:=g.2 (k-xs.length) x hx;rw[Nat.sub_mul,<-h.1]at this;rw[List.drop_append];have e:List.drop (k*s) cs=[]:=AjW G;rw[e,Aj9];exact this
theorem Ch.uB (hE:∀Z2 vs x,E Z2 vs x->FZ vs)(h:Ch s E Z2 cs xs)(hs:0<s):FZ cs:=λu hu=>by
 obtain⟨t,ht,rfl⟩:=AlY.1 hu;have Ax:t/s<xs.length:=by rw[AlV hs,<-h.1];exact ht
 have:=h.2 (t/s) _ (Ai3 Ax);refine hE _ _ _ this _ ?_;have hm:=AlJ t hs;have G:=Nat.div_add_mod t s;rw[Nat.mul_comm]at G;refine Ajg.2 ⟨t%s,?_⟩;rw[AjQ,Aiy hm,Aja,G];exact Ai3 ht
end rows
section
variable {P:Program}{T E ty:TypeId}{s bs:Nat}{Z2:Hp}{p q:Option Addr}{n c m d:Nat}{L ys:List Value}{Φ:Value->Hp->Prop}
end
end Tw
end
section
namespace Tw
open Go
variable [GF]
def JY (P:Program)(l:Nat)(args:Array Value)(Z2:Hp)(R:Rr):Prop:=
 ∀(w:World) (F:Nat->Prop),Sat Z2 w->(∀b,F b->b<w.heap.size/\Z2 b=none)->
  ∃fn tmps assign body,(Instr.yield l args).run P w=.ok (.round l fn tmps assign body) w/\RoundIn Fence.wide 0 P l fn tmps assign body w (λe G=>∃Z',R e Z'/\Fin Z' F w G)
theorem JY.mono {P:Program}{l:Nat}{args:Array Value}{Z2:Hp}{R G:Rr}(h:JY P l args Z2 R)(hr:∀e Z',R e Z'->G e Z'):JY P l args Z2 G:=λw F hs hF=>
 let ⟨fn,tmps,assign,body,h1,h2⟩:=h w F hs hF
 ⟨fn,tmps,assign,body,h1,h2.mono λ_ _ ⟨Z',h3,h4⟩=>⟨Z',hr _ _ h3,h4⟩⟩
section
variable {g:Gl}{ops:Array Oper}{i:Nat}{e:Env}{bx:Bx}{Z2:Hp}{K:Env->Bx->Hp->Prop}{d:Option Nat}{ty:TypeId}{gd:Option (Nat×Bool)}
theorem AV.yield {x:Operand}{xs:Array Operand}{ts:Array TypeId}{l:Nat}{vs:Array Value}{u:Value}(hs:sig ops i=some (d,.call { callee:=.value x,args:=xs,argTypes:=ts },ty,gd))(hw:Ac ops e gd=true)(hd:G5 d g.n=true)
  (hx:AD e x=u) (IB:xs.toList.map (AD e)=vs.toList) (hu:u=.func (.yield l) #[] #[])
  (h:JY g.P l vs Z2 (Ab g.R λv Z'=>K (put e d v) bx Z')):AV g ops i e bx Z2 K:=by
 intro w0 F a w st;obtain⟨o,ho,rfl,Bq,Dh,rfl⟩:=Bc hs;refine Ck ho (by rw[st.wanted];exact hw) ?_;obtain⟨fn,tmps,assign,body,hy,AIu⟩:=h w _ st.sat st.lt;have AIv:xs.map (AD e)=vs:=by rw[<-AjS];simpa using IB
 have CD:(execOp (AD e) o).run g.P w=.ok (.round l fn tmps assign body) w:=by
  simp only[execOp,Bq,resolve,hx.trans hu,AIv,Deferred.ofValue,invoke,bind,Sem.bind,pure,Aln];exact hy
 rw[st.eval,Dg CD (λd=>by simp)];refine⟨λhh=>(by cases hh),RoundIn.mono (show RoundIn (wd g.IG) (0-1) g.P l fn tmps assign body w _ from⟨trivial,AIu.2⟩) λen w'=>?_⟩
 rintro⟨Z',G,hf⟩
 have G4:=st.fin hf;cases en with
 | returned v=>exact⟨_,_,_,G4.put _ _ (G5.lt hd),G⟩
 | panicked ch=>
  rcases g.pan with ⟨h1,h2⟩|AZ
  .exact⟨⟨h1,G4.defers.trans h2⟩,Z',G,G4.toFin⟩
  .exact absurd G (AZ ch Z')
 | outgrown=>exact G.elim
end
def NP (R:Rr):Rr:=λe Z2=>match e with | .returned v=>R (.returned v) Z2 | _=>False
abbrev Gl.round (P:Program)(f:FuncId)(n:Nat)(l:Nat)(R:Rr):Gl:=⟨P,f,n,NP R,some l,[],.inr λ_ _ h=>h⟩
abbrev Gl.behind (P:Program)(f:FuncId)(n:Nat)(D:Nat)(R:Rr):Gl:=⟨P,f,n,NP R,none,[{ target:=.collected D,args:=#[] }],.inr λ_ _ h=>h⟩
theorem xp {D:Nat}{Z2:Hp}(h:Z2 D=some (.deferred (some []))):Marks [{ target:=.collected D,args:=#[] }] Z2:=⟨D,rfl,h,trivial⟩
theorem JY.Vm {P:Program}{l n p:Nat}{r:Loop}{Z2:Hp}{R:Rr}{v:Value}{fn:Func}{e:Env}{s:LoopState}{c:Option Code}(hσ:Z2 l=some (.loop (lp r s c)))(hp:r.params=#[p])(hn:r.tmps.size=n)(hpn:p<n)(he:∀t,r.tmps.getD t undef=e t)(Vj:P.funcs[r.fn]?=some fn)
  (h:At (Gl.round P r.fn n l R) [.code r.assign,.beginRound,.code r.body] (upd e p v) [] Z2):JY P l #[v] Z2 R:=by
 intro w F hs hF;refine⟨r.fn,_,r.assign,r.body,run_yield (r:=lp r s c) (hs _ _ hσ) (by simp[lp,hp]),trivial,λc0 cs _=>?_⟩;have ht:(r.params.zip #[v]).foldl (λt (p,v)=>t.setIfInBounds p v) r.tmps=r.tmps.setIfInBounds p v:=by
  simp[hp]
 have st:St n [] w F (upd e p v) [] Z2 { tmps:=r.tmps.setIfInBounds p v,defers:=[] } w:=by
  refine⟨by simp[hn],λt=>?_,rfl,hs,(λp hp=>by cases hp),(λp hp=>by cases hp),AkR,λb hb=>⟨(hF b hb).1,(hF b hb).2,rfl⟩,.same rfl rfl rfl,rfl,Ai7 _⟩;simp only[upd];by_cases G:t=p
  .subst G;simp[hn,hpn]
  .rw[mV G,<-he t];simp[Akw (AjI G)]
 let b:Frame:={ (default:Frame) with fn:=r.fn,kind:=.normal,roundOf:=some l }
 have xE:Frame.round l r.fn (r.tmps.setIfInBounds p v) r.assign r.body .normal=b.atR { tmps:=r.tmps.setIfInBounds p v,defers:=[] } [.code r.assign,.beginRound,.code r.body]:=by
  simp[Frame.round,Frame.atR,b]
 obtain⟨v',w',⟨Z',hr,Vk⟩,B9⟩:=h w F _ w st b (c0::cs) rfl rfl rfl ⟨fn,Vj⟩ c0 cs rfl;refine⟨.returned v',w',⟨Z',hr,Vk⟩,?_⟩;have B9:=(stepsIn_wide (P:=P)).2 B9;rw[<-xE,<-ht]at B9;exact B9
section
variable {g:Gl}{k:List Item}{e:Env}{bx:Bx}{Z2:Hp}
theorem Hp.xq {Z2:Hp}{b c:Nat}{o:Obj}(h:c≠b)(G:Z2 c=none):(Z2.set b o) c=none:=by rw[Hp.AB h];exact G
theorem St.alloc {n ds w0 F e bx Z2 a w}(st:St n ds w0 F e bx Z2 a w)(o:Obj):Z2 w.heap.size=none/\St n ds w0 F e bx (Z2.set w.heap.size o) a (w.alloc o):=by
 have h:=st.grown o;exact⟨(h.free _ (AjG ..)).1,h.open⟩
theorem At.xr {c:Code}{gop:Operand}{ps:Array Tmp}{assign body:Code}{gf:Nat}{fst lb:Array Value}(hc:c=.rangeFunc gop ps assign body)(hr:g.IG=none)(hds:g.ds=[])
  (hg:AD e gop=.func (.func gf) fst lb) (KG:Enters g.P gf)
  (h:∀(D l:Nat) (r:Loop),D≠l->Z2 D=none->Z2 l=none->r.fn=g.f->r.params=ps->r.assign=assign->r.body=body->r.tmps.size=g.n->(∀t,r.tmps.getD t undef=e t)->
   Spec g.P gf (fst++#[.func (.yield l) #[] #[]]++lb) ((Z2.set D (.deferred (some []))).set l (.loop (lp r .ready none)))
    (λen Z'=>∃v s p,en=.returned v/\Z' l=some (.loop (lp r s p))/\s≠.busy/\
     At (Gl.behind g.P g.f g.n D g.R) ((p.map Item.code).toList++k) e bx (Z'.set l (.loop (lp r .exhausted p))))):At g (.code c::k) e bx Z2:=by
 subst hc;intro w0 F a w st b cs mW tn qc Vj;have hbn:b.roundOf=none:=qc.trans hr;obtain⟨hD,st1⟩:=st.alloc (.deferred (some []))
 let r:Loop:={ state:=.ready,pending:=none,fn:=b.fn,tmps:=a.tmps,params:=ps,assign,body,defers:=w.heap.size }
 obtain⟨hl,st2⟩:=st1.alloc (.loop r);have J1:(w.alloc (.deferred (some []))).heap.size=w.heap.size+1:=World.size_alloc ..;rw[J1]at hl st2;have mX:=run_enterLoop_outer (P:=g.P) (w:=w) b.fn a.tmps ps assign body;have AWv:(resolve a.eval (rangeCall gop (w.heap.size+1)) 0).run g.P ((w.alloc (.deferred (some []))).alloc (.loop r))=.ok { target:=.fn (.func gf) lb,args:=fst++#[.func (.yield (w.heap.size+1)) #[] #[]] } ((w.alloc (.deferred (some []))).alloc (.loop r)):=by
  rw[st.eval];simp only[resolve,hg];simp[AD,Deferred.ofValue]
 have hinv:(invoke (.fn (.func gf) lb) (fst++#[.func (.yield (w.heap.size+1)) #[] #[]])).run g.P ((w.alloc (.deferred (some []))).alloc (.loop r))=.ok (.enter gf (fst++#[.func (.yield (w.heap.size+1)) #[] #[]]++lb)) ((w.alloc (.deferred (some []))).alloc (.loop r)):=by
  exact KG _ _
 have L4:=stepR_rangeFunc (P:=g.P) (b:=b) (a:=a) (k:=k) (cs:=cs) (w:=w) (by rw[hbn];exact mX) AWv hinv;have xu:Z2 (w.heap.size+1)=none:=by rw[Hp.AB (by omega)]at hl;exact hl
 have AN9:=h w.heap.size (w.heap.size+1) r (by omega) hD xu mW rfl rfl rfl st.size st.env;obtain⟨en,w3,fr,⟨Z',⟨v,s,p,he,AIw,hsb,hat⟩,Vk⟩,AIx,Aea,AIy⟩:=AN9 _ _ st2.sat st2.lt (b.atR { a with defers:=[{ target:=.collected w.heap.size,args:=#[] }]++a.defers } (.inRangeFunc (w.heap.size+1)::k)::cs);subst he;have G:=st2.fin Vk;have mj:=run_endLoop (P:=g.P) (G.sat _ _ AIw) (by simpa[lp] using hsb);have Pd:=G.toFin.put (o':=.loop (lp r .exhausted p)) AIw;have Ad:∀q∈bx,q.1≠w.heap.size+1:=λq hq e=>by have:=(G.free q hq).1;rw[e,AIw]at this;cases this
 have st4:St g.n [{ target:=.collected w.heap.size,args:=#[] }] w0 F e bx (Z'.set (w.heap.size+1) (.loop (lp r .exhausted p))) { a with defers:=[{ target:=.collected w.heap.size,args:=#[] }]++a.defers } (w3.putObj (w.heap.size+1) (.loop (lp r .exhausted p))):=
  { size:=st.size,env:=st.env,defers:=by rw[show a.defers=[] from st.defers.trans hds];rfl,sat:=Pd.sat,box:=λq hq=>by rw[World.putObj_heap_other (Ad q hq)];exact G.box q hq,free:=λq hq=>⟨Hp.xq (Ad q hq) (G.free q hq).1,(G.free q hq).2⟩,nodup:=st.nodup,BI:=λb hb=>⟨(st.BI b hb).1,(Pd.BI b hb).1,(Pd.BI b hb).2⟩,os:=Pd.os,out:=Pd.out,grow:=Pd.grow }
 have AIz:=hat w0 F _ _ st4 b cs mW tn hbn Vj;have AGk:=step_leave_returned (P:=g.P) (c:=b.atR { a with defers:=[{ target:=.collected w.heap.size,args:=#[] }]++a.defers } (.inRangeFunc (w.heap.size+1)::k)) (cs:=cs) AIy;rw[finish_atR_inRangeFunc]at AGk;have AI0:=(Steps.one L4).trans (Steps.trans AIx ((Steps.one AGk).trans (.one (stepR_endRangeFunc (k:=k) mj))));obtain⟨e',w',fr',⟨Z22,hR,hf2⟩,bN,hx⟩:=AIz;unfold Rj;rw[hr];refine⟨e',w',fr',⟨Z22,?_,hf2⟩,.of_steps AI0 bN,hx⟩;cases e' with
 | returned v=>exact hR
 | _=>exact hR.elim
theorem At.range {c:Code}{gop:Operand}{ps:Array Tmp}{assign body:Code}{gf:Nat}{lb:Array Value}(hc:c=.rangeFunc gop ps assign body)(hr:g.IG=none)(G:g.ds=[])
 (hg:AD e gop=.func (.func gf) #[] lb) (KG:Enters g.P gf)
 (h:∀(D l:Nat) (r:Loop),D≠l->Z2 D=none->Z2 l=none->r.fn=g.f->r.params=ps->r.assign=assign->r.body=body->r.tmps.size=g.n->(∀t,r.tmps.getD t undef=e t)->
  Spec g.P gf (#[.func (.yield l) #[] #[]]++lb) ((Z2.set D (.deferred (some []))).set l (.loop (lp r .ready none)))
   (λen Z'=>∃v s p,en=.returned v/\Z' l=some (.loop (lp r s p))/\s≠.busy/\
    At (Gl.behind g.P g.f g.n D g.R) ((p.map Item.code).toList++k) e bx (Z'.set l (.loop (lp r .exhausted p))))):At g (.code c::k) e bx Z2:=At.xr (fst:=#[]) hc hr G hg KG (by simpa only[Aln] using h)
end
end Tw
end
section
namespace Tw
open Go Go.RowKit Go.ChangeShapes Go.WideShapes Go.Deep
def full (w:World):Hp:=λb=>w.heap[b]?
theorem xv (w:World):Sat (full w) w:=λ_ _ h=>h
theorem VQ {w:World}{a:Addr}{v:Value}(h:w.cell? a=some v):(full w).ld a=some v:=h
theorem xw {w G:World}{Z':Hp}(hx:Ext (full w) Z')(hs:Sat Z' G)(ho:Bj w G)(AWx:G.output=w.output)(hg:w.heap.size<=G.heap.size):Below w.heap.size w G:=
 ⟨ho.1,ho.2.1,AWx,hg,λk hk=>by
  have h1:w.heap[k]?=some w.heap[k]:=AkN hk;rw[h1];exact hs _ _ (hx _ _ h1)⟩
def Lawful (P:Program)(f:FuncId)(args:Array Value)(w:World):Prop:=Spec P f args (full w) (λe Z'=>e=.returned (.bool true)/\Ext (full w) Z')
theorem Lawful.calls {P:Program}{f:FuncId}{args:Array Value}{w:World}(h:Lawful P f args w):Calls P f args w λe w'=>e=.returned (.bool true)/\Below w.heap.size w w':=
 (h w (λ_=>False) (xv w) (λ_ h=>h.elim)).mono λe w' ⟨Z',⟨he,hx⟩,G⟩=>⟨he,xw hx G.sat G.os G.out G.grow⟩
section
variable {H:Type}{enc:TypeId×Value->H}{P:Program}
theorem Qb (hl:laidOutB P=true){W W':World}(hb:Below W.heap.size W W'):∀{ts:List TypeId} {vs:List Value} {ds:List (DataW H)} {ps:List MemPlace},(ts.all λt=>P.readableRec t&&Nat.blt t P.types.size)=true->(∀x∈ps,x.block<W.heap.size)->
  DataW.TrodAll enc P W 0 (λ_=>true) true ts vs ds ps->DataW.TrodAll enc P W' 0 (λb=>decide (b<W.heap.size)) true ts vs ds ps
 | [],[],[],ps,_,_,h=>h
 | t::ts,v::vs,d::ds,ps,G,Ax,⟨p,q,h1,h2,e⟩=>by
  simp only[AlQ,AjD]at G;subst e;exact⟨p,q,Below.trod hl G.1.1 (Ajo G.1.2) h1 hb (λx hx=>Ax x (AkI _ hx)),Qb hl hb G.2 (λx hx=>Ax x (Ak4 _ hx)) h2,rfl⟩
 | [],_::_,_,_,_,_,h=>h.elim
 | [],[],_::_,_,_,_,h=>h.elim
 | _::_,[],_,_,_,_,h=>h.elim
 | _::_,_::_,[],_,_,_,h=>h.elim
theorem xy {f:Func}{s:ChangeSpec}{W W':World}{args:Array Value}{ds gs:List (DataW H)}{G:List MemPlace}{tb:TypeId}(hl:laidOutB P=true)(hr:(f.params.toList.all λt=>P.readableRec t&&Nat.blt t P.types.size)=true)
  (hrt:f.resultTypes=#[tb]) (htb:P.underlying tb=some .bool) (hv:s.vars=[]) (Vj:(s.fn H (ds++gs)).results=[.lit (.bool true)]/\(s.fn H (ds++gs)).args=ds/\(s.fn H (ds++gs)).vars=[])
  (hW:DataW.Whole enc P f.params.toList s.vars false W args.toList ds gs G) (hb:Below W.heap.size W W'):s.post enc P f false true false false W args (.bool true) W':=by
 have Ax:∀p∈G,p.block<W.heap.size:=λp hp=>hW.lt p hp;have hW':=hW;obtain⟨p,q,hA,hV,rfl,hfz,_⟩:=hW';refine⟨ds,gs,p++q,[],p,[],hW,?_,?_,?_,World.keptBut_mono (λx hx=>⟨hx,?_⟩) (hb.frame (·∈p++q)),λh=>by cases h⟩
 .rw[Vj.1,hrt];exact trodAll_mk1 (shut_bool htb true)
 .rw[Vj.2.1];exact Qb hl hb hr (λx hx=>Ax x (AkI _ hx)) hA
 .rw[Vj.2.2,hv];rfl
 .rw[hv]at hV;have:q=[]:=by
   cases gs with
   | nil=>exact hV
   | cons _ _=>exact hV.elim
  subst this;exact .inr (.inl (by simpa using hx))
theorem Az.snoc {Z2:Hp}{b:Nat}:∀{l m:List Value} {o:Nat},Az Z2 b o l->Az Z2 b (o+l.length) m->Az Z2 b o (l++m)
 | [],m,o,_,h=>by simpa using h
 | v::l,m,o,h,G=>⟨h.1,Az.snoc h.2 (by simpa[AmQ,Nat.add_comm 1] using G)⟩
theorem bO {w:World}{a:Addr}{v:Value}(h:w.cell? a=some v):a.spot=none:=by
 unfold World.cell? at h;split at h
 .split at h
  .cases h
  .rename_i G;simpa using G
 .cases h
end
end Tw
end
section
namespace Tw
open Go
variable [GF]
def qv (P:Program)(ops:Array Oper)(i:Nat)(e:Env):Option (Option Nat×Value):=
 match ops[i]? with
 | none=>none
 | some o=>match Ac ops e o.guard with
  | false=>none
  | true=>match o.op with
   | .move x=>some (o.dst,AD e x)
   | .assign x=>some (o.dst,AD e x)
   | .pick z x y=>(match AD e z with
    | .bool true=>some (o.dst,AD e x)
    | .bool false=>some (o.dst,AD e y)
    | _=>none)
   | .extract x j=>(match AD e x with
    | .tuple vs=>(match vs[j]? with | some v=>some (o.dst,v) | none=>none)
    | _=>none)
   | .unOp u _ x=>(match u,AD e x with
    | .not,.bool b=>some (o.dst,.bool (!b))
    | _,_=>none)
   | .binOp b _ x y _=>(match AD e x,AD e y with
    | .int k a,.int k' c=>(match decide (k=k') with
     | false=>none
     | true=>(match b with
      | .lss=>some (o.dst,.bool (decide (a<c)))
      | .leq=>some (o.dst,.bool (decide (a<=c)))
      | .gtr=>some (o.dst,.bool (decide (c<a)))
      | .geq=>some (o.dst,.bool (decide (c<=a)))
      | .eql=>some (o.dst,.bool (decide (a=c)))
      | .neq=>some (o.dst,.bool (decide (a≠c)))
      | _=>none))
    | _,_=>none)
   | _=>none
theorem AGl {P:Program}{ops:Array Oper}{i:Nat}{e:Env}{bx:Bx}{d:Option Nat}{v:Value}(h:qv P ops i e=some (d,v)):
  ∃o,ops[i]?=some o/\Ac ops e o.guard=true/\o.dst=d/\∀Z2,Yd P e bx Z2 o.op o.type v:=by
 unfold qv at h;cases ho:ops[i]? with
 | none=>simp[ho]at h
 | some o=>
  simp only[ho]at h;cases hw:Ac ops e o.guard with
  | false=>simp[hw]at h
  | true=>
   simp only[hw]at h;refine⟨o,rfl,hw,?_⟩;cases Ht:o.op<;>simp only[Ht]at h<;>try (cases h;done)
   case move x=>cases h;exact⟨rfl,λZ2=>Y.move rfl⟩
   case assign x=>cases h;exact⟨rfl,λZ2=>Y.assign rfl⟩
   case pick z x y=>
    split at h
    .rename_i hz;cases h;exact⟨rfl,λZ2=>Y.AGf hz rfl⟩
    .rename_i hz;cases h;exact⟨rfl,λZ2=>Y.AGg hz rfl⟩
    .cases h
   case extract x j=>
    split at h
    .rename_i vs G;split at h
     .rename_i u hu;cases h;exact⟨rfl,λZ2=>Y.extract G hu⟩
     .cases h
    .cases h
   case unOp u T x=>
    split at h
    .rename_i b G;cases h;exact⟨rfl,λZ2=>Y.not G⟩
    .cases h
   case binOp b T x y T'=>
    split at h
    .rename_i k a k' c G hy;split at h
     .cases h
     .rename_i hk;have hk:=AjA hk;subst hk;cases b<;>simp only at h<;>cases h
      .exact⟨rfl,λZ2=>Y.eql G hy⟩
      .exact⟨rfl,λZ2=>Y.neq G hy⟩
      .exact⟨rfl,λZ2=>Y.lss G hy⟩
      .exact⟨rfl,λZ2=>Y.leq G hy⟩
      .exact⟨rfl,λZ2=>Y.gtr G hy⟩
      .exact⟨rfl,λZ2=>Y.geq G hy⟩
    .cases h
def nv (ops:Array Oper)(i:Nat)(e:Env):Option (Option Nat):=
 match ops[i]? with
 | none=>none
 | some o=>match Ac ops e o.guard with
  | true=>none
  | false=>some o.dst
theorem AOB {ops:Array Oper}{i:Nat}{e:Env}{d:Option Nat}(h:nv ops i e=some d):∃o,ops[i]?=some o/\Ac ops e o.guard=false/\o.dst=d:=by
 unfold nv at h;cases ho:ops[i]? with
 | none=>simp[ho]at h
 | some o=>
  simp only[ho]at h;cases G:Ac ops e o.guard with
  | true=>simp[G]at h
  | false=>simp only[G]at h;cases h;exact⟨o,rfl,G,rfl⟩
theorem D8 {ops:Array Oper}{i:Nat}{o:Oper}(h:ops[i]?=some o):sig ops i=some (o.dst,o.op,o.type,o.guard):=by simp[sig,h]
section
variable {g:Gl}{ops:Array Oper}{q:J0}{i:Nat}{is:List Nat}{r:List (Nat×Bool)}{e:Env}{bx:Bx}{Z2:Hp}{K:Env->Bx->Hp->Prop}{k:List Item}{c:Code}
theorem Seq.u (d:Nat)(v:Value)(h:Seq g ops is (put e (some d) v) bx Z2 K)(hq:qv g.P ops i e=some (some d,v):=by kernel_rfl)(hd:Nat.blt d g.n=true:=by rfl):Seq g ops (i::is) e bx Z2 K:=by
 obtain⟨o,ho,hw,Mj,hy⟩:=AGl (bx:=bx) hq;have G:=D8 ho;rw[Mj]at G;exact Seq.yg G hw hd (hy Z2) h
def AOC (e:Env):List (Nat×Value)->Env
 | []=>e
 | (d,v)::l=>AOC (put e (some d) v) l
def Qs (P:Program)(ops:Array Oper):List Nat->List (Nat×Value)->Env->List (Option (Option Nat×Value))
 | _,[],_=>[]
 | i::is,(d,v)::l,e=>qv P ops i e::Qs P ops is l (put e (some d) v)
 | [],_::_,_=>[none]
theorem Seq.us (l:List (Nat×Value))(h:Seq g ops (is.drop l.length) (AOC e l) bx Z2 K)(G:Qs g.P ops is l e=l.map (λp=>some (some p.1,p.2)):=by kernel_rfl)(hd:(l.all λp=>Nat.blt p.1 g.n)=true:=by rfl):Seq g ops is e bx Z2 K:=by
 induction l generalizing is e with
 | nil=>exact h
 | cons p l ih=>
  obtain⟨d,v⟩:=p;cases is with
  | nil=>simp[Qs]at G
  | cons i is=>
   simp only[Qs,AjR,Aky]at G;simp only[AlQ,AjD]at hd;exact Seq.u d v (ih h G.2 hd.2) G.1 hd.1
theorem Head.u (d:Nat)(v:Value)(h:Head g ops q r (put e (some d) v) bx Z2 K)(hq:qv g.P ops i e=some (some d,v):=by kernel_rfl)(hd:Nat.blt d g.n=true:=by rfl)(AW:q.ok i=true:=by rfl):Head g ops q ((i,true)::r) e bx Z2 K:=by
 obtain⟨o,ho,hw,Mj,hy⟩:=AGl (bx:=bx) hq;have G:=D8 ho;rw[Mj]at G;exact Head.yg G hw hd (hy _) h AW
theorem Seq.n (d:Nat)(h:Seq g ops is (put e (some d) undef) bx Z2 K)(hn:nv ops i e=some (some d):=by kernel_rfl)(hd:Nat.blt d g.n=true:=by rfl):Seq g ops (i::is) e bx Z2 K:=by
 obtain⟨o,ho,hw,Mj⟩:=AOB hn;have G:=D8 ho;rw[Mj]at G;exact Seq.no G hw hd h
theorem Head.n (d:Nat)(h:Head g ops q r (put e (some d) undef) bx Z2 K)(hn:nv ops i e=some (some d):=by kernel_rfl)(hd:Nat.blt d g.n=true:=by rfl)(AW:q.ok i=true:=by rfl):Head g ops q ((i,true)::r) e bx Z2 K:=by
 obtain⟨o,ho,hw,Mj⟩:=AOB hn;have G:=D8 ho;rw[Mj]at G;exact Head.no G hw hd h AW
theorem Seq.z (d:Nat)(op:Op)(ty:TypeId)(v:Value)(hy:Yd g.P e bx Z2 op ty v)(h:Seq g ops is (put e (some d) v) bx Z2 K)(G:sig ops i=some (some d,op,ty,none):=by kernel_rfl)(hd:Nat.blt d g.n=true:=by rfl):Seq g ops (i::is) e bx Z2 K:=Seq.y G hd hy h
theorem Head.z (d:Nat)(op:Op)(ty:TypeId)(v:Value)(hy:Yd g.P e bx (KE q none Z2) op ty v)(h:Head g ops q r (put e (some d) v) bx Z2 K)(hs:sig ops i=some (some d,op,ty,none):=by kernel_rfl)(hd:Nat.blt d g.n=true:=by rfl)(G:q.ok i=true:=by rfl):Head g ops q ((i,true)::r) e bx Z2 K:=Head.y hs hd hy h G
theorem Head.zg (d:Nat)(op:Op)(ty:TypeId)(gd:Nat×Bool)(v:Value)(hy:Yd g.P e bx (KE q none Z2) op ty v)(h:Head g ops q r (put e (some d) v) bx Z2 K)(hs:sig ops i=some (some d,op,ty,some gd):=by kernel_rfl)(hw:Ac ops e (some gd)=true:=by rfl)(hd:Nat.blt d g.n=true:=by rfl)(G:q.ok i=true:=by rfl):Head g ops q ((i,true)::r) e bx Z2 K:=Head.yg hs hw hd hy h G
theorem dw:∀{l:List (Nat×Value)},l.map (λp=>e p.1)=l.map (·.2)->Live e l
 | [],_=>trivial
 | (t,v)::l,h=>by
  simp only[AjR,Aky]at h;exact⟨h.1,dw h.2⟩
theorem At.L (l:List (Nat×Value))(h:∀J,At g k (MP J l) bx Z2)(G:l.map (λp=>e p.1)=l.map (·.2):=by kernel_rfl):At g k e bx Z2:=At.ofL (dw G) h
theorem At.v (l:List (Nat×Value))(h:At g k (MP e l) bx Z2)(G:l.map (λp=>e p.1)=l.map (·.2):=by kernel_rfl):At g k e bx Z2:=At.live (dw G) h
theorem At.rg (id:Nat)(l:List Nat)(h:Seq g (cO c) l e bx Z2 (λe bx Z2=>At g k e bx Z2))(G:c=.region id (cO c) false:=by kernel_rfl)(hl:List.range (cO c).size=l:=by kernel_rfl):At g (.code c::k) e bx Z2:=At.region G hl h
theorem At.s (x y:Code)(h:At g (.code x::.code y::k) e bx Z2)(G:c=.seq x y:=by kernel_rfl):At g (.code c::k) e bx Z2:=At.seq G h
theorem At.cT (t:Nat)(y z:Code)(h:At g (.code y::k) e bx Z2)(G:c=.cond (.tmp t) y z:=by kernel_rfl)(hx:AD e (.tmp t)=.bool true:=by rfl):At g (.code c::k) e bx Z2:=At.AGa G hx h
theorem At.cF (t:Nat)(y z:Code)(h:At g (.code z::k) e bx Z2)(G:c=.cond (.tmp t) y z:=by kernel_rfl)(hx:AD e (.tmp t)=.bool false:=by rfl):At g (.code c::k) e bx Z2:=At.AGb G hx h
theorem At.x (i:Nat)(k':List Item)(h:At g k' e bx Z2)(G:c=.exit i:=by kernel_rfl)(hk:exitTo i k=some k':=by kernel_rfl):At g (.code c::k) e bx Z2:=At.exit G hk h
theorem At.b (i:Nat)(x:Code)(h:At g (.code x::.inBlock i::k) e bx Z2)(G:c=.block i x:=by kernel_rfl):At g (.code c::k) e bx Z2:=At.block G h
theorem At.rt {fn:Func}(rs:List ResultVar)(vs:List Value)(hf:g.P.funcs[g.f]?=some fn)(h:JU g.P e bx (left g.ds Z2) rs vs)(hR:g.R (.returned (Vr vs)) (left g.ds Z2))
 (hc:c=Code.ret:=by kernel_rfl) (hr:fn.results=rs.toArray:=by kernel_rfl) (G:g.IG=none:=by rfl) (hm:Marks g.ds Z2:=by trivial):At g (.code c::k) e bx Z2:=At.dq hc hf hr h hR G hm
def cv (ops:Array Oper)(i:Nat)(e:Env):Option (Option Nat×FuncId×Array Value):=
 match ops[i]? with
 | none=>none
 | some o=>match Ac ops e o.guard with
  | false=>none
  | true=>match o.op with
   | .call c=>(match c.callee with
    | .value x=>(match AD e x with
     | .func fn fst cap=>(match fn with
      | .func f=>some (o.dst,f,(fst.toList++(c.args.toList.map (AD e)++cap.toList)).toArray)
      | _=>none)
     | _=>none)
    | _=>none)
   | _=>none
theorem AV.cl {f:FuncId}{args:Array Value}(d:Option Nat)(AOD:∀args w,(callFunc f args).run g.P w=.ok (.enter f args) w)(h:Spec g.P f args Z2 (Ab g.R λv Z'=>K (put e d v) bx Z'))
  (G:cv ops i e=some (d,f,args):=by kernel_rfl) (hd:G5 d g.n=true:=by rfl):AV g ops i e bx Z2 K:=by
 unfold cv at G;cases ho:ops[i]? with
 | none=>simp[ho]at G
 | some o=>
  simp only[ho]at G;cases hw:Ac ops e o.guard with
  | false=>simp[hw]at G
  | true=>
   simp only[hw]at G;cases Ht:o.op<;>simp only[Ht]at G<;>try cases G
   rename_i c;split at G
   .rename_i x AOE;split at G
    .rename_i fn fst cap hx;split at G
     .rename_i f';simp only[Ai9,Ajs]at G;obtain⟨rfl,rfl,ha⟩:=G;refine AV.call (D8 ho) hw hd (λo' Di _ w=>?_) h;obtain⟨callee,xs,ts⟩:=c;simp only at AOE;subst AOE;refine S6 (x:=x) (xs:=xs) (ts:=ts) (fst:=fst) (cap:=cap) (vs:=(xs.toList.map (AD e)).toArray) AOD hx (by simp) ?_ o' (by rw[Di,Ht]) w;rw[<-ha,<-AjS];simp
     .cases G
    .cases G
   .cases G
end
end Tw
end
section
namespace Tw
open Go
variable [GF]
section
variable {g:Gl}{ops:Array Oper}{i:Nat}{e:Env}{bx:Bx}{Z2:Hp}{K:Env->Bx->Hp->Prop}{k:List Item}{c x:Code}{d:Option Nat}{gd:Option (Nat×Bool)}{ty:TypeId}
theorem iF {P:Program}{b:Frame}{a:Act}{k:List Item}{cs:List Frame}{w:World}{c:Code}:step P (lone (b.atR a (.code (.scope c)::k)) cs w)=.next (lone (b.atR a (.code c::.inScope c::k)) cs w):=rfl
theorem aO {P:Program}{b:Frame}{a:Act}{k:List Item}{cs:List Frame}{w:World}{c:Code}:step P (lone (b.atR a (.inScope c::k)) cs w)=.next (lone (b.atR a k) cs w):=rfl
theorem At.scope (G:c=Code.scope x)(h:At g (.code x::.inScope x::k) e bx Z2):At g (.code c::k) e bx Z2:=
 G▸λw0 F a w st=>.step (λ_ _ _=>iF) (h w0 F a w st)
theorem At.inScope (h:At g k e bx Z2):At g (.inScope x::k) e bx Z2:=λG F a w st=>.step (λ_ _ _=>aO) (h G F a w st)
theorem AV.panic {x:Operand}{T:TypeId}{v:Value}(hs:sig ops i=some (d,.panic x,ty,gd))(hw:Ac ops e gd=true)(hx:AD e x=.iface T v)(h1:g.IG=none)(h2:g.ds=[])
  (h:g.R (.panicked [{ v:=.iface T v,recovered:=false }]) Z2):AV g ops i e bx Z2 K:=by
 intro w0 F a w st;obtain⟨o,ho,rfl,G,Dh,rfl⟩:=Bc hs;refine Ck ho (by rw[st.wanted];exact hw) ?_;rw[st.eval];have CD:(o.semAt g.IG (AD e)).run g.P w=.halt (.panic (.iface T v)) w:=by
  rw[h1,Oper.semAt_eq none (AD e) o (λc hc=>by rw[G]at hc;cases hc)];simp[execOp,G,hx,Instr.panic,goPanic,Sem.run]
 rw[CD];exact⟨⟨h1,st.defers.trans h2⟩,Z2,h,st.toFin⟩
theorem ml {x:Operand}{u:Value}{ts:Array TypeId}(hx:AD e x=u)(o:Oper)(G:o.op=.call { callee:=.builtin .len,args:=#[x],argTypes:=ts })(ht:o.type=ty):execOp (AD e) o=(do pure (.value (<-Builtin.len_ ts ty #[u]))):=by
 subst ht;simp[execOp,G,resolve,invoke,builtin,hx]
def isIf:TypeDesc->Bool
 | .interface _=>true
 | _=>false
theorem Y.iface {P:Program}{T:TypeId}{G:TypeDesc}{x:Operand}{v:Value}(hT:P.underlying T=some G)(hd:isIf G=false)(hx:AD e x=v):Yd P e bx Z2 (.makeInterface T x) ty (.iface T v):=λoo ho _ w _ _=>by
 cases G<;>simp[isIf]at hd<;>simp[execOp,ho,hx,Instr.makeInterface,run_underlying hT]
theorem Y.AI1 {P:Program}{T T':TypeId}{x y:Operand}{a b:ByteArray}(hT:P.underlying T=some .string)(hx:AD e x=.string a)(hy:AD e y=.string b)(hs:a.size+b.size<=9223372036854775807):Yd P e bx Z2 (.binOp .add T x y T') ty (.string (a++b)):=λoo ho _ w _ _=>by
 have G:(a.size:Int)+(b.size:Int)<=9223372036854775807:=by omega
 simp[execOp,ho,hx,hy,eqGuard_add,binOp,Op.stringOp,G]
end
end Tw
end
section
set_option maxRecDepth 100000
noncomputable section
namespace TwW
open Go Tw Go.Proofs.Tryz
variable [GF]{R:Rr}{Z2:Hp}
noncomputable abbrev prog:Program:=Go.Proofs.Tryz.prog
theorem mixed:Go.Proofs.Tryz.prog.follows .mixedOrders=true:=by kernel_rfl
instance:J2 Go.Proofs.Tryz.prog 22 98 2 48:=⟨Go.Proofs.Tryz.underlying22,⟨Go.Proofs.Tryz.t98,_,by kernel_rfl,rfl,rfl,rfl,rfl⟩,by decide,by decide⟩
instance:J2 Go.Proofs.Tryz.prog 28 55 3 40:=⟨Go.Proofs.Tryz.underlying28,⟨Go.Proofs.Tryz.t55,_,by kernel_rfl,rfl,rfl,rfl,rfl⟩,by decide,by decide⟩
instance:J2 Go.Proofs.Tryz.prog 32 127 10 120:=⟨Go.Proofs.Tryz.underlying32,⟨Go.Proofs.Tryz.t127,_,by kernel_rfl,rfl,rfl,rfl,rfl⟩,by decide,by decide⟩
instance:J2 Go.Proofs.Tryz.prog 41 91 9 88:=⟨Go.Proofs.Tryz.underlying41,⟨Go.Proofs.Tryz.t91,_,by kernel_rfl,rfl,rfl,rfl,rfl⟩,by decide,by decide⟩
instance:J2 Go.Proofs.Tryz.prog 50 3 1 8:=⟨Go.Proofs.Tryz.underlying50,⟨Go.Proofs.Tryz.t3,_,by kernel_rfl,rfl,rfl,rfl,rfl⟩,by decide,by decide⟩
instance:J2 Go.Proofs.Tryz.prog 53 52 1 4:=⟨Go.Proofs.Tryz.underlying53,⟨Go.Proofs.Tryz.t52,_,by kernel_rfl,rfl,rfl,rfl,rfl⟩,by decide,by decide⟩
instance:J2 Go.Proofs.Tryz.prog 56 4 1 1:=⟨Go.Proofs.Tryz.underlying56,⟨Go.Proofs.Tryz.t4,_,by kernel_rfl,rfl,rfl,rfl,rfl⟩,by decide,by decide⟩
instance:J2 Go.Proofs.Tryz.prog 60 27 1 8:=⟨Go.Proofs.Tryz.underlying60,⟨Go.Proofs.Tryz.t27,_,by kernel_rfl,rfl,rfl,rfl,rfl⟩,by decide,by decide⟩
instance:J2 Go.Proofs.Tryz.prog 73 83 4 40:=⟨Go.Proofs.Tryz.underlying73,⟨Go.Proofs.Tryz.t83,_,by kernel_rfl,rfl,rfl,rfl,rfl⟩,by decide,by decide⟩
instance:J2 Go.Proofs.Tryz.prog 92 22 1 24:=⟨Go.Proofs.Tryz.underlying92,⟨Go.Proofs.Tryz.t22,_,by kernel_rfl,rfl,rfl,rfl,rfl⟩,by decide,by decide⟩
instance:J2 Go.Proofs.Tryz.prog 95 144 2 32:=⟨Go.Proofs.Tryz.underlying95,⟨Go.Proofs.Tryz.t144,_,by kernel_rfl,rfl,rfl,rfl,rfl⟩,by decide,by decide⟩
instance:J2 Go.Proofs.Tryz.prog 96 111 2 16:=⟨Go.Proofs.Tryz.underlying96,⟨Go.Proofs.Tryz.t111,_,by kernel_rfl,rfl,rfl,rfl,rfl⟩,by decide,by decide⟩
instance:J2 Go.Proofs.Tryz.prog 105 109 2 32:=⟨Go.Proofs.Tryz.underlying105,⟨Go.Proofs.Tryz.t109,_,by kernel_rfl,rfl,rfl,rfl,rfl⟩,by decide,by decide⟩
instance:J2 Go.Proofs.Tryz.prog 112 172 3 40:=⟨Go.Proofs.Tryz.underlying112,⟨Go.Proofs.Tryz.t172,_,by kernel_rfl,rfl,rfl,rfl,rfl⟩,by decide,by decide⟩
instance:J2 Go.Proofs.Tryz.prog 119 89 7 72:=⟨Go.Proofs.Tryz.underlying119,⟨Go.Proofs.Tryz.t89,_,by kernel_rfl,rfl,rfl,rfl,rfl⟩,by decide,by decide⟩
instance:J2 Go.Proofs.Tryz.prog 122 130 1 8:=⟨Go.Proofs.Tryz.underlying122,⟨Go.Proofs.Tryz.t130,_,by kernel_rfl,rfl,rfl,rfl,rfl⟩,by decide,by decide⟩
instance:J2 Go.Proofs.Tryz.prog 125 9 1 16:=⟨Go.Proofs.Tryz.underlying125,⟨Go.Proofs.Tryz.t9,_,by kernel_rfl,rfl,rfl,rfl,rfl⟩,by decide,by decide⟩
instance:J2 Go.Proofs.Tryz.prog 134 5 1 1:=⟨Go.Proofs.Tryz.underlying134,⟨Go.Proofs.Tryz.t5,_,by kernel_rfl,rfl,rfl,rfl,rfl⟩,by decide,by decide⟩
instance:J2 Go.Proofs.Tryz.prog 146 150 1 8:=⟨Go.Proofs.Tryz.underlying146,⟨Go.Proofs.Tryz.t150,_,by kernel_rfl,rfl,rfl,rfl,rfl⟩,by decide,by decide⟩
instance:J2 Go.Proofs.Tryz.prog 162 234 2 48:=⟨Go.Proofs.Tryz.underlying162,⟨Go.Proofs.Tryz.t234,_,by kernel_rfl,rfl,rfl,rfl,rfl⟩,by decide,by decide⟩
instance:J2 Go.Proofs.Tryz.prog 204 207 1 8:=⟨Go.Proofs.Tryz.underlying204,⟨Go.Proofs.Tryz.t207,_,by kernel_rfl,rfl,rfl,rfl,rfl⟩,by decide,by decide⟩
instance:J2 Go.Proofs.Tryz.prog 206 164 4 64:=⟨Go.Proofs.Tryz.underlying206,⟨Go.Proofs.Tryz.t164,_,by kernel_rfl,rfl,rfl,rfl,rfl⟩,by decide,by decide⟩
instance:J2 Go.Proofs.Tryz.prog 237 240 1 8:=⟨Go.Proofs.Tryz.underlying237,⟨Go.Proofs.Tryz.t240,_,by kernel_rfl,rfl,rfl,rfl,rfl⟩,by decide,by decide⟩
instance:J2 Go.Proofs.Tryz.prog 243 245 1 8:=⟨Go.Proofs.Tryz.underlying243,⟨Go.Proofs.Tryz.t245,_,by kernel_rfl,rfl,rfl,rfl,rfl⟩,by decide,by decide⟩
instance:J2 Go.Proofs.Tryz.prog 266 268 1 8:=⟨Go.Proofs.Tryz.underlying266,⟨Go.Proofs.Tryz.t268,_,by kernel_rfl,rfl,rfl,rfl,rfl⟩,by decide,by decide⟩
instance:J2 Go.Proofs.Tryz.prog 269 304 1 24:=⟨Go.Proofs.Tryz.underlying269,⟨Go.Proofs.Tryz.t304,_,by kernel_rfl,rfl,rfl,rfl,rfl⟩,by decide,by decide⟩
instance:J2 Go.Proofs.Tryz.prog 339 319 1 16:=⟨Go.Proofs.Tryz.underlying339,⟨Go.Proofs.Tryz.t319,_,by kernel_rfl,rfl,rfl,rfl,rfl⟩,by decide,by decide⟩
instance:J2 Go.Proofs.Tryz.prog 374 329 1 4:=⟨Go.Proofs.Tryz.underlying374,⟨Go.Proofs.Tryz.t329,_,by kernel_rfl,rfl,rfl,rfl,rfl⟩,by decide,by decide⟩
instance:J2 Go.Proofs.Tryz.prog 386 258 1 8:=⟨Go.Proofs.Tryz.underlying386,⟨Go.Proofs.Tryz.t258,_,by kernel_rfl,rfl,rfl,rfl,rfl⟩,by decide,by decide⟩
instance:J2 Go.Proofs.Tryz.prog 408 407 2 24:=⟨Go.Proofs.Tryz.underlying408,⟨Go.Proofs.Tryz.t407,_,by kernel_rfl,rfl,rfl,rfl,rfl⟩,by decide,by decide⟩
end TwW
end
end
section
namespace Tw
open Go
variable [GF]
inductive Ord where
 | done
 | yes (i:Nat) (r:Ord)
 | alt (i:Nat) (r s:Ord)
 | no
def BV (g:Gl)(ops:Array Oper):Ord->J0->Env->Bx->Hp->(Env->Bx->Hp->Prop)->Prop
 | .done,_,e,bx,Z2,K=>K e bx Z2
 | .yes i r,q,e,bx,Z2,K=>∃own o v,((Mg q own).ok i&&Rl ops i own)=true/\ops[i]?=some o/\((Ac ops e o.guard=true/\Yd g.P e bx (KE q own Z2) o.op o.type v)\/(Ac ops e o.guard=false/\v=undef))/\
  (∀t,o.dst=some t->t<g.n)/\BV g ops r (Mg q own) (put e o.dst v) bx Z2 K
 | .alt i r s,q,e,bx,Z2,K=>(AV g ops i e bx Z2 λe' G Z'=>Ic (G3 q i) bx Z2 G Z'/\BV g ops r (G3 q i) e' G Z' K)/\BV g ops s q e bx Z2 K
 | .no,_,_,_,_,_=>True
def Rp (ops:Array Oper)(n:Nat):Ord->Nat->Array Bool->List Nat->Bool
 | .done,f,G,seen=>decide (f=0)&&seen.isEmpty&&Region.seqB .any ops (ops.size-n) n G
 | .yes i r,f,G,seen=>seen.isEmpty&&decide (0<f)&&decide (i<n)&&(Region.ready .any ops G).contains i&&Region.free .any ops G i&&Rp ops n r (f-1) (G.setIfInBounds i true) []
 | .alt i r s,f,G,seen=>decide (0<f)&&decide (i<n)&&(Region.ready .any ops G).contains i&&Rp ops n r (f-1) (G.setIfInBounds i true) []&&Rp ops n s f G (i::seen)
 | .no,f,G,seen=>decide (0<f)&&!(Region.ready .any ops G).isEmpty&&(Region.ready .any ops G).all seen.contains
def Rq (ops:Array Oper)(n:Nat)(plan:Ord)(G:List Nat):Bool:=
 Region.noSelect ops&&(decide (n=ops.size)||(decide (n<ops.size)&&Region.sinkB .any ops n&&Region.chainB .any ops n)) &&
  decide (G=List.range' n (ops.size-n))&&Rp ops n plan n (Array.replicate ops.size false) []
section regions
variable {g:Gl}{ops:Array Oper}
theorem Hc {K:Env->Bx->Hp->Prop}{w0 F}{n:Nat}{tl:List Nat}(Mh:Region.noSelect ops=true)
  (HZ:∀listed,HeadInv .any ops n listed->∀i,i<n->listed.getD i true=false->∀t,n<=t->t ∉ Region.ready .any ops listed)
  (gX:tl=List.range' n (ops.size-n)) :
  ∀(plan:Ord) (f:Nat) (seen:List Nat) (q:J0) (listed:Array Bool) (e:Env) (bx:Bx) (Z2:Hp) (a:Act) (w:World),HeadInv .any ops n listed->Rp ops n plan f listed seen=true->
   St g.n g.ds w0 F e bx Z2 a w->BV g ops plan q e bx Z2 (λe bx Z2=>Seq g ops tl e bx Z2 K)->
   (∀j∈seen,j∈Region.ready .any ops listed->j<n/\wpOpIn (wd g.IG) 0 g.P ops (Qn g w0 F K) j (λa' w'=>Sq q Z2 bx (listed.setIfInBounds j true) w'/\
    IH g.P g.IG .any ops (Qn g w0 F K) (Sq q Z2 bx) n (λlisted a w=>Region.seqB .any ops (ops.size-n) n listed=true/\wpOpsIn (wd g.IG) 0 g.P ops (Qn g w0 F K) tl a w) (f-1) (listed.setIfInBounds j true) a' w') a w)->
   IH g.P g.IG .any ops (Qn g w0 F K) (Sq q Z2 bx) n (λlisted a w=>Region.seqB .any ops (ops.size-n) n listed=true/\wpOpsIn (wd g.IG) 0 g.P ops (Qn g w0 F K) tl a w) f listed a w
 | .done,f,seen,_,listed,e,bx,Z2,a,w,_,AW,st,h,_=>by
  simp only[Rp,AjD,AjH]at AW;obtain⟨⟨rfl,_⟩,AW⟩:=AW;exact⟨AW,PZ _ _ _ _ _ _ st h⟩
 | .yes i r,f,seen,q,listed,e,bx,Z2,a,w,inv,AW,st,h,_=>by
  obtain⟨own,o,v,hqq,ho,hy,hd,h⟩:=h;simp only[AjD]at hqq;simp only[Rp,AjD,AjH]at AW;obtain⟨⟨⟨⟨⟨_,hf0⟩,Tz⟩,hr⟩,hf⟩,AW⟩:=AW;obtain⟨f,rfl⟩:∃f',f=f'+1:=⟨f-1,by omega⟩;have gY:i∈Region.ready .any ops listed:=by simpa using hr
  refine GJ (S':=Sq (Mg q own) Z2 bx) (G:=λ_=>True) (λ_ _ _=>trivial) (λ_ _ _ h=>h.less) _ _ _ _ trivial ?_;refine Qa (Sy:=λw=>Sat (KE q own Z2) w/\Ko bx w) ho (Region.noSelect_spec Mh) ?_ HZ (Sq.set hqq.1) (λlisted w inv Sv h=>Sq.own inv Sv hqq.2 h) Tz ?_ _ listed a w inv (Region.free_spec ho hf) gY ?_ (Sq.of st.sat st.box)
   (Hc Mh HZ gX r f [] _ _ _ _ _ _ _ (inv.set gY Tz) AW (st.put o.dst v hd) h (λj hj=>by cases hj))
  .rintro c a w ⟨⟨h0,h1⟩,h2⟩
   exact⟨⟨h0,by cases Mj:o.dst<;>simpa[Act.put,Mj] using h1⟩,h2⟩
  .intro listed a w hL;exact seqB_ready hL.1
  .rcases hy with ⟨hw,hy⟩|⟨hw,rfl⟩
   .exact .inl ⟨by rw[st.wanted];exact hw,λw hS=>by rw[st.eval];exact hy o rfl rfl w hS.1 hS.2⟩
   .exact .inr ⟨by rw[st.wanted];exact hw,rfl⟩
 | .alt i r s,f,seen,q,listed,e,bx,Z2,a,w,inv,AW,st,h,yA=>by
  obtain⟨h,hs⟩:=h;simp only[Rp,AjD,AjH]at AW;obtain⟨⟨⟨⟨hf0,Tz⟩,hr⟩,AW⟩,AWz⟩:=AW;have gY:i∈Region.ready .any ops listed:=by simpa using hr
  refine Hc Mh HZ gX s f (i::seen) q listed e bx Z2 a w inv AWz st hs (λj hj hjr=>?_);rcases Ai1.1 hj with rfl|hj
  .refine⟨Tz,wpOpIn_mono ?_ (mZ (Q:=Qx g w0 F) (λc a w h=>h) (λa w h=>h.elim) (h w0 F a w st))⟩
   rintro a' w' ⟨e',HY,Z',G4,hk,h'⟩
   have hl:(listed.setIfInBounds j true).getD j false=true:=by
    have Ax:j<listed.size:=by rw[inv.size];obtain⟨_,o,ho,_⟩:=mem_ready.1 gY;exact(AjF.1 ho).1
    simp[Ax]
   exact⟨Sq.dj hl hk (Sq.of G4.sat G4.box),GJ (S':=Sq (G3 q j) Z' HY) (G:=λl=>l.getD j false=true) (λ_ _ h=>getD_set_true h) (λ_ _ hg h=>Sq.dj hg hk h) _ _ _ _ hl
    (Hc Mh HZ gX r (f-1) [] _ _ _ _ _ _ _ (inv.set gY Tz) AW G4 h' (λj hj=>by cases hj))⟩
  .exact yA j hj hjr
 | .no,f,seen,q,listed,e,bx,Z2,a,w,inv,AW,st,h,yA=>by
  simp only[Rp,AjD,AjH]at AW;obtain⟨⟨hf0,Ad⟩,Kr⟩:=AW;obtain⟨f,rfl⟩:∃f',f=f'+1:=⟨f-1,by omega⟩;exact⟨λh0=>(by rw[h0]at Ad;cases Ad),λj hj=>yA j (by simpa using Ajt.1 Kr j hj) hj⟩
theorem At.AOF {k:List Item}{e:Env}{bx:Bx}{Z2:Hp}{c:Code}{id:Nat}{n:Nat}{q:J0}{plan:Ord}{tl:List Nat}(hm:g.P.follows .mixedOrders=true)(hc:c=.region id ops true)
  (hp:Rq ops n plan tl=true)
  (h:BV g ops plan q e bx Z2 (λe bx Z2=>Seq g ops tl e bx Z2 (λe bx Z2=>At g k e bx Z2))):At g (.code c::k) e bx Z2:=λw0 F a w st=>by
 subst hc;simp only[Rq,AjD,Akx,AjH]at hp;obtain⟨⟨⟨Mh,hn⟩,gX⟩,AW⟩:=hp;have MQ:n<=ops.size:=by rcases hn with h|h<;>omega
 have HZ:∀G,HeadInv .any ops n G->∀i,i<n->G.getD i true=false->∀t,n<=t->t ∉ Region.ready .any ops G:=by
  intro G inv i hi Sv t ht;rcases hn with h|⟨⟨h1,h2⟩,h3⟩
  .intro hr;obtain⟨_,o,ho,_⟩:=mem_ready.1 hr;have:=(AjF.1 ho).1;omega
  .exact tail_waits h2 h3 h1 inv _ i rfl hi Sv t ht
 have xe:HeadInv .any ops n (Array.replicate ops.size false):=
  ⟨by simp,λj oj _ hl=>(by rw[getD_replicate_false]at hl;cases hl),λt _ ht=>getD_in (by simpa using ht) (getD_replicate_false _ _)⟩
 refine Jp.of_wp (K:=λe bx Z2=>At g k e bx Z2) (wpIn_region_any hm ?_) (λ_ _ _ h=>h);have H:=Hc (K:=λe bx Z2=>At g k e bx Z2) (tl:=tl) Mh HZ gX plan n [] q (Array.replicate ops.size false) e bx Z2 a { w with drawn:=w.drawn+1 } xe AW st.drew h (λj hj=>by cases hj);have:=GI (g:=ops.size-n) (λG a w hL=>HV _ _ G a w hL.1 (gX▸hL.2)) _ _ _ _ H;rw[show n+(ops.size-n)=ops.size by omega]at this;exact this
end regions
end Tw
namespace Tw
open Go
section
variable {g:Gl}{ops:Array Oper}{i:Nat}{r s:Ord}{q:J0}{e:Env}{bx:Bx}{Z2:Hp}{K:Env->Bx->Hp->Prop}{d:Option Nat}{op:Op}{ty:TypeId}{gd:Option (Nat×Bool)}{v:Value}{L:List (Nat×List Nat)}
theorem BV.y (hs:sig ops i=some (d,op,ty,none))(hd:G5 d g.n=true)(hy:Yd g.P e bx (KE q none Z2) op ty v)(h:BV g ops r q (put e d v) bx Z2 K)(G:q.ok i=true:=by rfl):BV g ops (.yes i r) q e bx Z2 K:=by
 obtain⟨o,ho,rfl,rfl,rfl,hg⟩:=Bc hs;exact⟨none,o,v,ok_none G,ho,.inl ⟨by rw[hg];rfl,hy⟩,(G5.lt hd),by rw[EY];exact h⟩
theorem BV.yl (b:Nat)(G:List (List Nat)){D:List Nat}(hD:G.filterMap List.head?=D)(AW:((Mg (some L) (some (b,G))).ok i&&Rl ops i (some (b,G)))=true)(hs:sig ops i=some (d,op,ty,none))(hd:G5 d g.n=true)(hy:Yd g.P e bx (KE (some L) (some (b,G)) Z2) op ty v)
  (h:BV g ops r (some ((b,D)::L)) (put e d v) bx Z2 K):BV g ops (.yes i r) (some L) e bx Z2 K:=by
 subst hD;obtain⟨o,ho,rfl,rfl,rfl,hg⟩:=Bc hs;exact⟨some (b,G),o,v,AW,ho,.inl ⟨by rw[hg];rfl,hy⟩,(G5.lt hd),h⟩
theorem BV.o {q':J0}(hq:G3 q i=q')(h:AV g ops i e bx Z2 λe' G Z'=>Ic q' bx Z2 G Z'/\BV g ops r q' e' G Z' K):BV g ops (.alt i r .no) q e bx Z2 K:=by
 subst hq;exact⟨h,trivial⟩
theorem BV.done (h:K e bx Z2):BV g ops .done q e bx Z2 K:=h
theorem BV.z (d:Nat)(op:Op)(ty:TypeId)(v:Value)(hy:Yd g.P e bx (KE q none Z2) op ty v)(h:BV g ops r q (put e (some d) v) bx Z2 K)(hs:sig ops i=some (some d,op,ty,none):=by kernel_rfl)(hd:Nat.blt d g.n=true:=by rfl)(G:q.ok i=true:=by rfl):BV g ops (.yes i r) q e bx Z2 K:=BV.y hs hd hy h G
end
end Tw
end
section
namespace Tw
open Go
variable [GF]
def nth {α:Type}(d:α):List α->Nat->α
 | [],_=>d
 | x::_,0=>x
 | _::l,n+1=>nth d l n
theorem Pe {α:Type}{d:α}:∀{l m:List α} {i:Nat},i<l.length->nth d (l++m) i=nth d l i
 | x::l,m,0,_=>rfl
 | x::l,m,i+1,h=>by simp only[Ajp,nth];exact Pe (by simpa using h)
theorem Pf {α:Type}{d x:α}:∀{l:List α},nth d (l++[x]) l.length=x
 | []=>rfl
 | _::l=>Pf (l:=l)
inductive BK where
 | prop (P:Prop) (i:Decidable P)
 | var (b:Bool)
def BK.val:BK->Bool
 | .prop P i=>@decide P i
 | .var b=>b
def BK.yes:BK->Prop
 | .prop P _=>P
 | .var b=>b=true
def BK.no:BK->Prop
 | .prop P _=>¬P
 | .var b=>b=false
theorem BK.yB {k:BK}(h:k.val=true):k.yes:=by
 cases k with
 | prop P i=>exact @AjA P i h
 | var b=>exact h
theorem BK.AGm {k:BK}(h:k.val=false):k.no:=by
 cases k with
 | prop P i=>exact @AjX P i h
 | var b=>exact h
structure Vl where
 ρ:List (Option Addr)
 β:List BK
 δ:List Nat
inductive PV where
 | lit (p:Option Addr)
 | var (i:Nat)
 | at (b o:Nat)
 | bx (i o:Nat)
def PV.den (v:Vl):PV->Option Addr
 | .lit p=>p
 | .var i=>nth none v.ρ i
 | .at b o=>some ⟨b,o,none⟩
 | .bx i o=>some ⟨nth 0 v.δ i,o,none⟩
def PV.ok (v:Vl):PV->Bool
 | .var i=>Nat.blt i v.ρ.length
 | .bx i _=>Nat.blt i v.δ.length
 | _=>true
inductive Cf where
 | int (k:IntKind) (x:Int)
 | num (k:IntKind) (x:Int)
 | bl (b:Bool)
 | bs (i:Nat) (neg:Bool)
 | str (s:ByteArray)
 | sl (p:PV) (n c:Nat)
 | pt (p:PV)
 | fn (f:Nat) (fst cap:Array Value)
 | mp (m:Option Nat)
 | un
 | raw (v:Value)
def Cf.den (v:Vl):Cf->Value
 | .int k x=>.int k x
 | .num k x=>.int k x
 | .bl b=>.bool b
 | .bs i false=>.bool (nth (.var false) v.β i).val
 | .bs i true=>.bool (!(nth (.var false) v.β i).val)
 | .str s=>.string s
 | .sl p n c=>.slice (p.den v) n c
 | .pt p=>.pointer (p.den v)
 | .fn f a b=>.func (.func f) a b
 | .mp m=>.map m
 | .un=>undef
 | .raw x=>x
def Cf.ok (v:Vl):Cf->Bool
 | .bs i _=>Nat.blt i v.β.length
 | .sl p _ _=>p.ok v
 | .pt p=>p.ok v
 | _=>true
inductive IV where
 | a (x:Cf)
 | agg (l:List Cf)
def Bg (v:Vl):List Cf->List Value
 | []=>[]
 | x::l=>x.den v::Bg v l
def oks (v:Vl):List Cf->Bool
 | []=>true
 | x::l=>x.ok v&&oks v l
def IV.den (v:Vl):IV->Value
 | .a x=>x.den v
 | .agg l=>.agg (Bg v l).toArray
def IV.ok (v:Vl):IV->Bool
 | .a x=>x.ok v
 | .agg l=>oks v l
inductive SV where
 | v (x:IV)
 | bP (l:List IV)
def JZ (v:Vl):List IV->List Value
 | []=>[]
 | x::l=>x.den v::JZ v l
def ADm (v:Vl):List IV->Bool
 | []=>true
 | x::l=>x.ok v&&ADm v l
def SV.den (v:Vl):SV->Value
 | .v x=>x.den v
 | .bP l=>.tuple (JZ v l).toArray
def SV.ok (v:Vl):SV->Bool
 | .v x=>x.ok v
 | .bP l=>ADm v l
abbrev SV.at (x:Cf):SV:=.v (.a x)
structure Vl.le (v w:Vl):Prop where
 ρ:∀i,i<v.ρ.length->nth none w.ρ i=nth none v.ρ i
 β:∀i,i<v.β.length->nth (.var false) w.β i=nth (.var false) v.β i
 δ:∀i,i<v.δ.length->nth 0 w.δ i=nth 0 v.δ i
theorem Vl.le.refl (v:Vl):v.le v:=⟨λ_ _=>rfl,λ_ _=>rfl,λ_ _=>rfl⟩
theorem PV.Jr {v w:Vl}(h:v.le w){p:PV}(hp:p.ok v=true):p.den w=p.den v:=by
 cases p with
 | var i=>exact h.ρ i (Ajo hp)
 | bx i o=>simp only[PV.den];rw[h.δ i (Ajo hp)]
 | _=>rfl
theorem Cf.Jr {v w:Vl}(h:v.le w){x:Cf}(hp:x.ok v=true):x.den w=x.den v:=by
 cases x with
 | bs i n=>cases n<;>simp only[Cf.den]<;>rw[h.β i (Ajo hp)]
 | sl p n c=>simp only[Cf.den];rw[PV.Jr h hp]
 | pt p=>simp only[Cf.den];rw[PV.Jr h hp]
 | _=>rfl
theorem VR {v w:Vl}(h:v.le w):∀{l:List Cf},oks v l=true->Bg w l=Bg v l
 | [],_=>rfl
 | x::l,hp=>by
  simp only[oks,AjD]at hp;simp only[Bg];rw[Cf.Jr h hp.1,VR h hp.2]
theorem IV.Jr {v w:Vl}(h:v.le w){x:IV}(hp:x.ok v=true):x.den w=x.den v:=by
 cases x with
 | a x=>exact Cf.Jr h hp
 | agg l=>simp only[IV.den];rw[VR h hp]
theorem iG {v w:Vl}(h:v.le w):∀{l:List IV},ADm v l=true->JZ w l=JZ v l
 | [],_=>rfl
 | x::l,hp=>by
  simp only[ADm,AjD]at hp;simp only[JZ];rw[IV.Jr h hp.1,iG h hp.2]
theorem SV.Jr {v w:Vl}(h:v.le w){x:SV}(hp:x.ok v=true):x.den w=x.den v:=by
 cases x with
 | v x=>exact IV.Jr h hp
 | bP l=>simp only[SV.den];rw[iG h hp]
def PV.sub (i b o:Nat):PV->PV
 | .var j=>bif Nat.beq j i then .at b o else .var j
 | p=>p
inductive Ie where
 | ptr (i b o:Nat)
 | bool (i:Nat) (t:Bool)
def PV.tell:Ie->PV->PV
 | .ptr i b o,p=>p.sub i b o
 | .bool ..,p=>p
def Cf.tell (t:Ie):Cf->Cf
 | .bs j n=>match t with
  | .bool i b=>bif Nat.beq j i then .bl (bif n then !b else b) else .bs j n
  | _=>.bs j n
 | .sl p n c=>.sl (p.tell t) n c
 | .pt p=>.pt (p.tell t)
 | x=>x
def Ie.holds (v:Vl):Ie->Prop
 | .ptr i b o=>nth none v.ρ i=some ⟨b,o,none⟩
 | .bool i t=>(nth (.var false) v.β i).val=t
theorem PV.FC {v:Vl}{t:Ie}(h:t.holds v){p:PV}:(p.tell t).den v=p.den v:=by
 cases t with
 | bool i t=>rfl
 | ptr i b o=>
  cases p with
  | var j=>
   simp only[PV.tell,PV.sub];cases G:Nat.beq j i with
   | true=>have:=Ajr G;subst this;exact h.symm
   | false=>rfl
  | _=>rfl
theorem Cf.FC {v:Vl}{t:Ie}(h:t.holds v){x:Cf}:(x.tell t).den v=x.den v:=by
 cases x with
 | bs j n=>
  cases t with
  | ptr i b o=>rfl
  | bool i b=>
   simp only[Cf.tell];cases G:Nat.beq j i with
   | true=>
    have:=Ajr G;subst this;simp only[Ie.holds]at h;cases n<;>simp only[Cf.den,Akk,AkZ,h]
   | false=>rfl
 | sl p n c=>simp only[Cf.tell,Cf.den];rw[PV.FC h]
 | pt p=>simp only[Cf.tell,Cf.den];rw[PV.FC h]
 | _=>rfl
def tells (t:Ie):List Cf->List Cf
 | []=>[]
 | x::l=>x.tell t::tells t l
theorem S9 {v:Vl}{t:Ie}(h:t.holds v):∀{l:List Cf},Bg v (tells t l)=Bg v l
 | []=>rfl
 | x::l=>by simp only[tells,Bg];rw[Cf.FC h,S9 h]
def IV.tell (t:Ie):IV->IV
 | .a x=>.a (x.tell t)
 | .agg l=>.agg (tells t l)
theorem IV.FC {v:Vl}{t:Ie}(h:t.holds v){x:IV}:(x.tell t).den v=x.den v:=by
 cases x with
 | a x=>exact Cf.FC h
 | agg l=>simp only[IV.tell,IV.den];rw[S9 h]
def dz (t:Ie):List IV->List IV
 | []=>[]
 | x::l=>x.tell t::dz t l
theorem Vt {v:Vl}{t:Ie}(h:t.holds v):∀{l:List IV},JZ v (dz t l)=JZ v l
 | []=>rfl
 | x::l=>by simp only[dz,JZ];rw[IV.FC h,Vt h]
def SV.tell (t:Ie):SV->SV
 | .v x=>.v (x.tell t)
 | .bP l=>.bP (dz t l)
theorem SV.FC {v:Vl}{t:Ie}(h:t.holds v){x:SV}:(x.tell t).den v=x.den v:=by
 cases x with
 | v x=>exact IV.FC h
 | bP l=>simp only[SV.tell,SV.den];rw[Vt h]
abbrev HC:=Nat×TypeId×List Cf
structure S where
 env:List (Nat×SV)
 bx:List HC
 vl:Vl
 Z2:Hp
def JF (v:Vl):List (Nat×SV)->List (Nat×Value)
 | []=>[]
 | (t,x)::l=>(t,x.den v)::JF v l
def okE (v:Vl):List (Nat×SV)->Bool
 | []=>true
 | (_,x)::l=>x.ok v&&okE v l
def qg (t:Ie):List (Nat×SV)->List (Nat×SV)
 | []=>[]
 | (s,x)::l=>(s,x.tell t)::qg t l
def GL (v:Vl):List HC->Bx
 | []=>[]
 | (i,t,cs)::l=>(nth 0 v.δ i,.cells (Bg v cs).toArray t (0,0))::GL v l
def okB (v:Vl):List HC->Bool
 | []=>true
 | (i,_,cs)::l=>Nat.blt i v.δ.length&&oks v cs&&okB v l
def qh (t:Ie):List HC->List HC
 | []=>[]
 | (i,T,cs)::l=>(i,T,tells t cs)::qh t l
def S.e (J:Env)(s:S):Env:=MP J (JF s.vl s.env)
def S.b (s:S):Bx:=GL s.vl s.bx
def S.ok (s:S):Bool:=okE s.vl s.env&&okB s.vl s.bx
def S.tell (s:S)(t:Ie):S:=⟨qg t s.env,qh t s.bx,s.vl,s.Z2⟩
def S.w (s:S)(v:Vl):S:=⟨s.env,s.bx,v,s.Z2⟩
def S.put (s:S)(d:Option Nat)(x:SV):S:=match d with
 | some d=>⟨(d,x)::s.env,s.bx,s.vl,s.Z2⟩
 | none=>s
def S.hp (s:S)(Z2:Hp):S:=⟨s.env,s.bx,s.vl,Z2⟩
theorem qi {v w:Vl}(h:v.le w):∀{l:List (Nat×SV)},okE v l=true->JF w l=JF v l
 | [],_=>rfl
 | (t,x)::l,hp=>by
  simp only[okE,AjD]at hp;simp only[JF];rw[SV.Jr h hp.1,qi h hp.2]
theorem qj {v w:Vl}(h:v.le w):∀{l:List HC},okB v l=true->GL w l=GL v l
 | [],_=>rfl
 | (i,t,cs)::l,hp=>by
  simp only[okB,AjD]at hp;simp only[GL];rw[VR h hp.1.2,qj h hp.2,h.δ i (Ajo hp.1.1)]
theorem bQ {v:Vl}{t:Ie}(h:t.holds v):∀{l:List (Nat×SV)},JF v (qg t l)=JF v l
 | []=>rfl
 | (s,x)::l=>by simp only[qg,JF];rw[SV.FC h,bQ h]
theorem bR {v:Vl}{t:Ie}(h:t.holds v):∀{l:List HC},GL v (qh t l)=GL v l
 | []=>rfl
 | (i,T,cs)::l=>by simp only[qh,GL];rw[S9 h,bR h]
theorem S.e_w {J:Env}{s:S}{v:Vl}(G:s.ok=true)(h:s.vl.le v):(s.w v).e J=s.e J:=by
 simp only[S.ok,AjD]at G;simp only[S.e,S.w,qi h G.1]
theorem S.b_w {s:S}{v:Vl}(G:s.ok=true)(h:s.vl.le v):(s.w v).b=s.b:=by
 simp only[S.ok,AjD]at G;simp only[S.b,S.w,qj h G.2]
theorem S.AI3 {J:Env}{s:S}{t:Ie}(h:t.holds s.vl):(s.tell t).e J=s.e J:=by
 simp only[S.e,S.tell,bQ h]
theorem S.AI4 {s:S}{t:Ie}(h:t.holds s.vl):(s.tell t).b=s.b:=by
 simp only[S.b,S.tell,bR h]
theorem S.KI {J:Env}{s:S}{d:Option Nat}{x:SV}:(s.put d x).e J=Tw.put (s.e J) d (x.den s.vl):=by
 cases d<;>rfl
theorem S.KJ {s:S}{d:Option Nat}{x:SV}:(s.put d x).b=s.b:=by cases d<;>rfl
theorem S.HD {s:S}{d:Option Nat}{x:SV}:(s.put d x).Z2=s.Z2:=by cases d<;>rfl
def eA:List (Nat×SV)->Nat->Option SV
 | [],_=>none
 | (t,x)::l,i=>bif Nat.beq i t then some x else eA l i
theorem Fk {v:Vl}{J:Env}:∀{l:List (Nat×SV)} {i:Nat} {x:SV},eA l i=some x->MP J (JF v l) i=x.den v
 | (t,y)::l,i,x,h=>by
  simp only[eA]at h;simp only[JF,MP,upd];cases hi:Nat.beq i t with
  | true=>rw[hi]at h;simp only[Akk]at h ⊢;cases h;rfl
  | false=>rw[hi]at h;simp only[AkZ]at h ⊢;exact Fk h
def AI5:Value->Cf
 | .int k x=>.num k x
 | .bool b=>.bl b
 | .string s=>.str s
 | .slice p n c=>.sl (.lit p) n c
 | .pointer p=>.pt (.lit p)
 | .map m=>.mp m
 | v=>.raw v
theorem iH {vl:Vl}(v:Value):(AI5 v).den vl=v:=by cases v<;>rfl
def T1:List Value->List Cf
 | []=>[]
 | x::l=>AI5 x::T1 l
theorem KK {vl:Vl}:∀l:List Value,Bg vl (T1 l)=l
 | []=>rfl
 | x::l=>by simp only[T1,Bg];rw[iH,KK]
def yC:Value->IV
 | .agg cs=>.agg (T1 cs.toList)
 | v=>.a (AI5 v)
theorem iI {vl:Vl}(v:Value):(yC v).den vl=v:=by
 cases v
 case agg cs=>simp only[yC,IV.den,KK]
 all_goals (simp only[yC,IV.den];exact iH _)
def qk:List Value->List IV
 | []=>[]
 | x::l=>yC x::qk l
theorem bS {vl:Vl}:∀l:List Value,JZ vl (qk l)=l
 | []=>rfl
 | x::l=>by simp only[qk,JZ];rw[iI,bS]
def svV:Value->SV
 | .tuple vs=>.bP (qk vs.toList)
 | v=>.v (yC v)
theorem ADn {vl:Vl}(v:Value):(svV v).den vl=v:=by
 cases v
 case tuple cs=>simp only[svV,SV.den,bS]
 all_goals (simp only[svV,SV.den];exact iI _)
def S.op (s:S):Operand->Option SV
 | .tmp t=>eA s.env t
 | .const v=>some (svV v)
 | .func f=>some (.at (.fn f #[] #[]))
 | .global g=>some (.at (.pt (.at g 0)))
theorem S.ADo {J:Env}{s:S}{x:Operand}{v:SV}(h:s.op x=some v):AD (s.e J) x=v.den s.vl:=by
 cases x with
 | tmp t=>exact Fk h
 | const c=>simp only[S.op,Ai9]at h;subst h;exact(ADn c).symm
 | func f=>simp only[S.op,Ai9]at h;subst h;rfl
 | global g=>simp only[S.op,Ai9]at h;subst h;rfl
def Vl.yD (v:Vl)(p:Option Addr):Vl:=⟨v.ρ++[p],v.β,v.δ⟩
def Vl.mo (v:Vl)(k:BK):Vl:=⟨v.ρ,v.β++[k],v.δ⟩
def Vl.ADp (v:Vl)(b:Nat):Vl:=⟨v.ρ,v.β,v.δ++[b]⟩
theorem Vl.ADq (v:Vl)(p:Option Addr):v.le (v.yD p):=⟨λ_ h=>Pe h,λ_ _=>rfl,λ_ _=>rfl⟩
theorem Vl.ql (v:Vl)(k:BK):v.le (v.mo k):=⟨λ_ _=>rfl,λ_ h=>Pe h,λ_ _=>rfl⟩
theorem Vl.ADr (v:Vl)(b:Nat):v.le (v.ADp b):=⟨λ_ _=>rfl,λ_ _=>rfl,λ_ h=>Pe h⟩
theorem Vl.le.trans {u v w:Vl}(h:u.le v)(g:v.le w)(G:u.ρ.length<=v.ρ.length/\u.β.length<=v.β.length/\u.δ.length<=v.δ.length):u.le w:=
 ⟨λi hi=>(g.ρ i (by omega)).trans (h.ρ i hi),λi hi=>(g.β i (by omega)).trans (h.β i hi),λi hi=>(g.δ i (by omega)).trans (h.δ i hi)⟩
end Tw
end
section
namespace Tw
open Go
variable [GF]
structure S.KL (s s':S):Prop where
 e:∀J,s'.e J=s.e J
 b:s'.b=s.b
 Z2:s'.Z2=s.Z2
theorem S.KL.refl (s:S):s.KL s:=⟨λ_=>rfl,rfl,rfl⟩
theorem S.KL.trans {s s' G:S}(h:s.KL s')(g:s'.KL G):s.KL G:=⟨λJ=>(g.e J).trans (h.e J),g.b.trans h.b,g.Z2.trans h.Z2⟩
theorem S.Vu {s:S}{v:Vl}(G:s.ok=true)(h:s.vl.le v):s.KL (s.w v):=⟨λJ=>S.e_w G h,S.b_w G h,rfl⟩
theorem S.KM {s:S}{t:Ie}(h:t.holds s.vl):s.KL (s.tell t):=⟨λJ=>S.AI3 h,S.AI4 h,rfl⟩
def S.boo (s:S)(k:BK)(neg:Bool)(K:SV->S->Prop):Prop:=
 match s.ok with
 | true=>K (.at (.bs s.vl.β.length neg)) (s.w (s.vl.mo k))
 | false=>False
theorem S.uC {s:S}{k:BK}{neg:Bool}{K:SV->S->Prop}(h:s.boo k neg K):∃v s',s.KL s'/\v.den s'.vl=.bool (bif neg then !k.val else k.val)/\K v s':=by
 unfold S.boo at h;cases G:s.ok with
 | false=>rw[G]at h;cases h
 | true=>
  rw[G]at h;refine⟨_,_,S.Vu G (Vl.ql _ _),?_,h⟩;cases neg<;>simp only[SV.den,IV.den,Cf.den,S.w,Vl.mo,Pf,Akk,AkZ]
def S.onB (s:S)(i:Nat)(neg:Bool)(K:Bool->S->Prop):Prop:=
 match neg with
 | false=>((nth (.var false) s.vl.β i).yes->K true (s.tell (.bool i true)))/\((nth (.var false) s.vl.β i).no->K false (s.tell (.bool i false)))
 | true=>((nth (.var false) s.vl.β i).no->K true (s.tell (.bool i false)))/\((nth (.var false) s.vl.β i).yes->K false (s.tell (.bool i true)))
theorem S.uD {s:S}{i:Nat}{neg:Bool}{K:Bool->S->Prop}(h:s.onB i neg K):∃t G,s.KL G/\G.vl=s.vl/\(Cf.bs i neg).den s.vl=.bool t/\K t G:=by
 cases hb:(nth (.var false) s.vl.β i).val with
 | true=>
  cases neg with
  | false=>exact⟨true,_,S.KM (t:=.bool i true) hb,rfl,by simp only[Cf.den,hb],h.1 (BK.yB hb)⟩
  | true=>exact⟨false,_,S.KM (t:=.bool i true) hb,rfl,by simp only[Cf.den,hb];rfl,h.2 (BK.yB hb)⟩
 | false=>
  cases neg with
  | false=>exact⟨false,_,S.KM (t:=.bool i false) hb,rfl,by simp only[Cf.den,hb],h.2 (BK.AGm hb)⟩
  | true=>exact⟨true,_,S.KM (t:=.bool i false) hb,rfl,by simp only[Cf.den,hb];rfl,h.1 (BK.AGm hb)⟩
def S.onV (s:S)(v:Option SV)(K:Bool->S->Prop):Prop:=
 match v with
 | some (.v (.a (.bl b)))=>K b s
 | some (.v (.a (.bs i n)))=>s.onB i n K
 | _=>False
theorem S.HE {s:S}{v:Option SV}{K:Bool->S->Prop}(h:s.onV v K):∃t G x,s.KL G/\G.vl=s.vl/\v=some x/\x.den s.vl=.bool t/\K t G:=by
 unfold S.onV at h;split at h
 .exact⟨_,s,_,.refl s,rfl,rfl,rfl,h⟩
 .obtain⟨t,G,h1,h2,h3,h4⟩:=S.uD h;exact⟨t,G,_,h1,h2,rfl,h3,h4⟩
 .cases h
def S.onP (s:S)(p:PV)(K:PV->S->Prop):Prop:=
 match p with
 | .at b o=>K (.at b o) s
 | .bx i o=>K (.bx i o) s
 | .var i=>∃(b o:Nat),nth none s.vl.ρ i=some ⟨b,o,none⟩/\K (.at b o) (s.tell (.ptr i b o))
 | .lit _=>False
def PV.Vw (v:Vl):PV->Nat
 | .at b _=>b
 | .bx i _=>nth 0 v.δ i
 | _=>0
def PV.off:PV->Nat
 | .at _ o=>o
 | .bx _ o=>o
 | _=>0
def PV.mv:PV->Nat->PV
 | .at b _,o=>.at b o
 | .bx i _,o=>.bx i o
 | p,_=>p
def PV.isA:PV->Bool
 | .at ..=>true
 | .bx ..=>true
 | _=>false
theorem PV.Kw {v:Vl}{p:PV}(h:p.isA=true):p.den v=some ⟨p.Vw v,p.off,none⟩:=by cases p<;>first|rfl|cases h
theorem PV.mq {v:Vl}{p:PV}{o:Nat}(h:p.isA=true):(p.mv o).den v=some ⟨p.Vw v,o,none⟩:=by cases p<;>first|rfl|cases h
theorem S.bT {s:S}{p:PV}{K:PV->S->Prop}(h:s.onP p K):∃q G,s.KL G/\G.vl=s.vl/\q.isA=true/\q.den s.vl=p.den s.vl/\K q G:=by
 unfold S.onP at h;split at h
 .exact⟨_,s,.refl s,rfl,rfl,rfl,h⟩
 .exact⟨_,s,.refl s,rfl,rfl,rfl,h⟩
 .obtain⟨b,o,h1,h2⟩:=h;exact⟨.at b o,_,S.KM (t:=.ptr _ b o) h1,rfl,rfl,h1.symm,h2⟩
 .cases h
def iJ (P:Program)(t:TypeId):Option Nat:=(P.info? t).map (·.size)
theorem DT {P:Program}{t:TypeId}{n:Nat}(h:iJ P t=some n):∀w,(Go.sizeOf t).run P w=.ok n w:=λw=>by
 unfold iJ at h;cases hi:P.info? t with
 | none=>rw[hi]at h;cases h
 | some i=>rw[hi]at h;simp only[Aju,Ai9]at h;subst h;simp[Go.sizeOf,typeInfo,hi]
def iL (P:Program)(t:TypeId):Option Bool:=match P.underlying t with
 | some (.struct _)=>some true
 | some (.array _ _)=>some true
 | some _=>some false
 | none=>none
theorem GM {P:Program}{t:TypeId}{b:Bool}(h:iL P t=some b):∀w,(isAgg t).run P w=.ok b w:=λw=>by
 unfold iL at h;cases hi:P.underlying t with
 | none=>rw[hi]at h;cases h
 | some d=>
  rw[hi]at h;cases d<;>simp only[Ai9]at h<;>subst h<;>simp[isAgg,run_underlying hi]
def ga:Option SV->Option (IntKind×Int)
 | some (.v (.a (.int k x)))=>some (k,x)
 | some (.v (.a (.num k x)))=>some (k,x)
 | _=>none
theorem Cn {v:Option SV}{k:IntKind}{x:Int}(h:ga v=some (k,x)):∃u,v=some u/\∀vl,u.den vl=.int k x:=by
 unfold ga at h;split at h
 .cases h;exact⟨_,rfl,λ_=>rfl⟩
 .cases h;exact⟨_,rfl,λ_=>rfl⟩
 .cases h
def YP (P:Program)(op:Op)(ty:TypeId)(s:S)(K:SV->S->Prop):Prop:=∃v G,s.KL G/\(∀J Z2,Yd P (s.e J) s.b Z2 op ty (v.den G.vl))/\K v G
def TA (wr:Bool)(k:IntKind)(z:Int)(s:S)(K:SV->S->Prop):Prop:=
 match wr,k with
 | false,.i64=>AL z/\K (.at (.int .i64 z)) s
 | _,_=>∀x,x=k.wrap z->K (.at (.int k x)) s
theorem eB {wr:Bool}{k:IntKind}{z:Int}{s:S}{K:SV->S->Prop}(h:TA wr k z s K):∃x,x=k.wrap z/\K (.at (.int k x)) s:=by
 unfold TA at h;split at h
 .exact⟨z,h.1.wrap.symm,h.2⟩
 .exact⟨_,rfl,h _ rfl⟩
def AI7 (wr:Bool)(b:BinOp)(k:IntKind)(a:Int)(k':IntKind)(c:Int)(s:S)(K:SV->S->Prop):Prop:=
 match b with
 | .shl=>((0:Int)<=c/\c<=((IntKind.bits k:Nat):Int))/\∀x,x=k.wrap (a*2^c.toNat)->K (.at (.int k x)) s
 | .shr=>((0:Int)<=c/\c<=((IntKind.bits k:Nat):Int))/\∀x,x=a/2^c.toNat->K (.at (.int k x)) s
 | b=>match decide (k=k') with
  | false=>False
  | true=>match b with
   | .lss=>s.boo (.prop (a<c) inferInstance) false K
   | .leq=>s.boo (.prop (a<=c) inferInstance) false K
   | .gtr=>s.boo (.prop (c<a) inferInstance) false K
   | .geq=>s.boo (.prop (c<=a) inferInstance) false K
   | .eql=>s.boo (.prop (a=c) inferInstance) false K
   | .neq=>s.boo (.prop (a≠c) inferInstance) false K
   | .add=>TA wr k (a+c) s K
   | .sub=>TA wr k (a-c) s K
   | .mul=>TA wr k (a*c) s K
   | .and=>∀x,x=Go.bits .and k a c->K (.at (.int k x)) s
   | .or=>∀x,x=Go.bits .or k a c->K (.at (.int k x)) s
   | .xor=>∀x,x=Go.bits .xor k a c->K (.at (.int k x)) s
   | .andNot=>∀x,x=Go.bits .andNot k a c->K (.at (.int k x)) s
   | .quo=>c≠(0:Int)/\∀x,x=k.wrap (a.tdiv c)->K (.at (.int k x)) s
   | .rem=>c≠(0:Int)/\∀x,x=a.tmod c->K (.at (.int k x)) s
   | _=>False
section
variable {P:Program}{s:S}{K:SV->S->Prop}{T T' ty:TypeId}{x y z:Operand}
theorem Js {op:Op}{k:BK}{neg:Bool}(h:s.boo k neg K)(hy:∀J Z2,Yd P (s.e J) s.b Z2 op ty (.bool (bif neg then !k.val else k.val))):YP P op ty s K:=by
 obtain⟨v,s',G,h2,h3⟩:=S.uC h;exact⟨v,s',G,λJ Z2=>by rw[h2];exact hy J Z2,h3⟩
theorem Jt {op:Op}{k:IntKind}{z:Int}(h:∀x,x=z->K (.at (.int k x)) s)(G:∀J Z2,Yd P (s.e J) s.b Z2 op ty (.int k z)):YP P op ty s K:=
 ⟨.at (.int k z),s,.refl s,G,h _ rfl⟩
theorem CY {op:Op}{v:SV}(h:K v s)(G:∀J Z2,Yd P (s.e J) s.b Z2 op ty (v.den s.vl)):YP P op ty s K:=⟨v,s,.refl s,G,h⟩
theorem mr {wr:Bool}{b:BinOp}{k k':IntKind}{a c:Int}(h:AI7 wr b k a k' c s K)(hx:∀J,AD (s.e J) x=.int k a)(G:∀J,AD (s.e J) y=.int k' c):YP P (.binOp b T x y T') ty s K:=by
 have ar:∀{z:Int} {op:Op},TA wr k z s K->(∀J Z2,Yd P (s.e J) s.b Z2 op ty (.int k (k.wrap z)))->YP P op ty s K:=λh G=>by
  obtain⟨x,rfl,h⟩:=eB h;exact CY h G
 unfold AI7 at h;split at h
 .exact Jt h.2 λJ Z2=>Y.shl h.1.1 h.1.2 (hx J) (G J)
 .exact Jt h.2 λJ Z2=>Y.shr h.1.1 h.1.2 (hx J) (G J)
 .split at h
  .cases h
  .rename_i hk;have hk:=AjA hk;subst hk;split at h
   .exact Js h λJ Z2=>Y.lss (hx J) (G J)
   .exact Js h λJ Z2=>Y.leq (hx J) (G J)
   .exact Js h λJ Z2=>Y.gtr (hx J) (G J)
   .exact Js h λJ Z2=>Y.geq (hx J) (G J)
   .exact Js h λJ Z2=>Y.eql (hx J) (G J)
   .exact Js h λJ Z2=>Y.neq (hx J) (G J)
   .exact ar h λJ Z2=>Y.add (hx J) (G J)
   .exact ar h λJ Z2=>Y.sub (hx J) (G J)
   .exact ar h λJ Z2=>Y.mul (hx J) (G J)
   .exact Jt h λJ Z2=>Y.bits (by simp) (hx J) (G J)
   .exact Jt h λJ Z2=>Y.bits (by simp) (hx J) (G J)
   .exact Jt h λJ Z2=>Y.bits (by simp) (hx J) (G J)
   .exact Jt h λJ Z2=>Y.bits (by simp) (hx J) (G J)
   .exact Jt h.2 λJ Z2=>Y.quo h.1 (hx J) (G J)
   .exact Jt h.2 λJ Z2=>Y.rem h.1 (hx J) (G J)
   .cases h
def asS:Option SV->Option ByteArray
 | some (.v (.a (.str u)))=>some u
 | _=>none
def yE:Option SV->Option PV
 | some (.v (.a (.pt p)))=>some p
 | _=>none
theorem iM {v:Option SV}{u:ByteArray}(h:asS v=some u):∃w,v=some w/\∀vl,w.den vl=.string u:=by
 unfold asS at h;split at h
 .cases h;exact⟨_,rfl,λ_=>rfl⟩
 .cases h
theorem GN {v:Option SV}{p:PV}(h:yE v=some p):∃w,v=some w/\∀vl,w.den vl=.pointer (p.den vl):=by
 unfold yE at h;split at h
 .cases h;exact⟨_,rfl,λ_=>rfl⟩
 .cases h
def AOG (b:BinOp)(u w:ByteArray)(s:S)(K:SV->S->Prop):Prop:=
 match b with
 | .eql=>s.boo (.var (ByteArray.toList u==ByteArray.toList w)) false K
 | .neq=>s.boo (.var (ByteArray.toList u==ByteArray.toList w)) true K
 | .add=>(ByteArray.size u+ByteArray.size w<=9223372036854775807)/\K (.at (.str (u++w))) s
 | _=>False
def isNil:PV->Bool
 | .lit none=>true
 | _=>false
def AOH (b:BinOp)(p q:PV)(s:S)(K:SV->S->Prop):Prop:=
 match isNil q with
 | false=>False
 | true=>match b with
  | .eql=>match p.isA with
   | true=>K (.at (.bl false)) s
   | false=>s.boo (.var (Option.isNone (p.den s.vl))) false K
  | .neq=>match p.isA with
   | true=>K (.at (.bl true)) s
   | false=>s.boo (.var (Option.isSome (p.den s.vl))) false K
  | _=>False
def AOI (b:BinOp)(x y:Operand)(s:S)(K:SV->S->Prop):Prop:=
 match b with
 | .eql=>s.onV (s.op x) λt s=>s.onV (s.op y) λu s=>K (.at (.bl (t==u))) s
 | .neq=>s.onV (s.op x) λt s=>s.onV (s.op y) λu s=>K (.at (.bl (!(t==u)))) s
 | _=>False
def AI8 (P:Program)(wr:Bool)(b:BinOp)(T:TypeId)(x y:Operand)(s:S)(K:SV->S->Prop):Prop:=
 match ga (s.op x),ga (s.op y) with
 | some (k,a),some (k',c)=>AI7 wr b k a k' c s K
 | _,_=>match P.underlying T with
  | some .string=>match asS (s.op x),asS (s.op y) with
   | some u,some w=>AOG b u w s K
   | _,_=>False
  | some (.pointer _)=>match yE (s.op x),yE (s.op y) with
   | some p,some q=>AOH b p q s K
   | _,_=>False
  | some .bool=>AOI b x y s K
  | _=>False
theorem ev {J:Env}{v:SV}(h:s.op x=some v):AD (s.e J) x=v.den s.vl:=S.ADo h
theorem mu {wr:Bool}{b:BinOp}(h:AI8 P wr b T x y s K):YP P (.binOp b T x y T') ty s K:=by
 unfold AI8 at h;split at h
 .rename_i k a k' c G h2;obtain⟨u,e1,e2⟩:=Cn G;obtain⟨w,e3,e4⟩:=Cn h2;exact mr h (λJ=>by rw[ev e1,e2]) (λJ=>by rw[ev e3,e4])
 .split at h
  .rename_i hT;split at h
   .rename_i u w G h2;obtain⟨_,e1,e2⟩:=iM G;obtain⟨_,e3,e4⟩:=iM h2;unfold AOG at h;split at h
    .exact Js h λJ Z2=>Y.AWp hT (by rw[ev e1,e2]) (by rw[ev e3,e4])
    .exact Js h λJ Z2=>Y.AWq hT (by rw[ev e1,e2]) (by rw[ev e3,e4])
    .exact CY h.2 λJ Z2=>Y.AI1 hT (by rw[ev e1,e2]) (by rw[ev e3,e4]) h.1
    .cases h
   .cases h
  .rename_i hT;split at h
   .rename_i p q G h2;obtain⟨_,e1,e2⟩:=GN G;obtain⟨_,e3,e4⟩:=GN h2;unfold AOH at h;split at h
    .cases h
    .rename_i hq;have hqn:q.den s.vl=none:=by
      unfold isNil at hq;split at hq
      .rfl
      .cases hq
     have e5:∀J,AD (s.e J) y=.pointer none:=λJ=>by rw[ev e3,e4,hqn]
     split at h
     .split at h
      .rename_i hp;exact CY h λJ Z2=>by
        have:=Y.xj (P:=P) (e:=s.e J) (bx:=s.b) (Z2:=Z2) (ty:=ty) (T':=T') hT (x:=x) (y:=y) (q:=p.den s.vl) (by rw[ev e1,e2]) (e5 J);rw[PV.Kw hp]at this;exact this
      .exact Js h λJ Z2=>Y.xj hT (by rw[ev e1,e2]) (e5 J)
     .split at h
      .rename_i hp;exact CY h λJ Z2=>by
        have:=Y.xk (P:=P) (e:=s.e J) (bx:=s.b) (Z2:=Z2) (ty:=ty) (T':=T') hT (x:=x) (y:=y) (q:=p.den s.vl) (by rw[ev e1,e2]) (e5 J);rw[PV.Kw hp]at this;exact this
      .exact Js h λJ Z2=>Y.xk hT (by rw[ev e1,e2]) (e5 J)
     .cases h
   .cases h
  .rename_i hT;unfold AOI at h;split at h
   .obtain⟨t,s1,v1,G,h2,h3,h4,h⟩:=S.HE h;obtain⟨u,s2,v2,g1,g2,g3,g4,h⟩:=S.HE h;exact⟨_,s2,G.trans g1,λJ Z2=>Y.AWn hT (by rw[ev h3,h4]) (by rw[<-G.e J,ev g3,g4]),h⟩
   .obtain⟨t,s1,v1,G,h2,h3,h4,h⟩:=S.HE h;obtain⟨u,s2,v2,g1,g2,g3,g4,h⟩:=S.HE h;exact⟨_,s2,G.trans g1,λJ Z2=>Y.AWo hT (by rw[ev h3,h4]) (by rw[<-G.e J,ev g3,g4]),h⟩
   .cases h
  .cases h
end
def S.val (s:S)(x:Operand)(K:SV->S->Prop):Prop:=match s.op x with
 | some v=>K v s
 | none=>False
def AGn (x y z:Operand)(s:S)(K:SV->S->Prop):Prop:=s.onV (s.op z) λt s=>match t with
 | true=>s.val x K
 | false=>s.val y K
def AI9 (x:Operand)(s:S)(K:SV->S->Prop):Prop:=match s.op x with
 | some (.v (.a (.bl true)))=>K (.at (.bl false)) s
 | some (.v (.a (.bl false)))=>K (.at (.bl true)) s
 | some (.v (.a (.bs i n)))=>K (.at (.bs i (!n))) s
 | _=>False
def AJA (x:Operand)(s:S)(K:SV->S->Prop):Prop:=match ga (s.op x) with
 | some (k,a)=>∀x,x=k.wrap (0-a)->K (.at (.int k x)) s
 | none=>False
def yF (P:Program)(T T':TypeId)(x:Operand)(s:S)(K:SV->S->Prop):Prop:=match (P.underlying T).isSome,P.underlying T' with
 | true,some (.int k')=>match s.op x with
  | some (.v (.a (.num k a)))=>K (.at (.num k' (k'.wrap a))) s
  | some (.v (.a (.int k a)))=>∀x,x=k'.wrap a->K (.at (.int k' x)) s
  | _=>False
 | _,_=>False
def AJB (P:Program)(T:TypeId)(x:Operand)(f:Nat)(s:S)(K:SV->S->Prop):Prop:=match P.underlying T with
 | some (.struct G)=>match G[f]? with
  | some fd=>match iJ P fd.type,yE (s.op x) with
   | some (_+1),some p=>match p.isA with
    | true=>K (.at (.pt (p.mv (p.off+fd.offset)))) s
    | false=>False
   | _,_=>False
  | none=>False
 | _=>False
def Fa {α:Type}:List α->Nat->Option α
 | [],_=>none
 | x::_,0=>some x
 | _::l,n+1=>Fa l n
def AJC (x:Operand)(i:Nat)(s:S)(K:SV->S->Prop):Prop:=match s.op x with
 | some (.bP l)=>match Fa l i with
  | some u=>K (.v u) s
  | none=>False
 | _=>False
def mw (P:Program)(T:TypeId)(x:Operand)(f:Nat)(s:S)(K:SV->S->Prop):Prop:=match P.underlying T,s.op x with
 | some (.struct G),some (.v (.agg l))=>match G[f]? with
  | some fd=>match iL P fd.type with
   | some false=>match Fa l fd.offset with
    | some u=>K (.at u) s
    | none=>False
   | some true=>match iJ P fd.type with
    | some n=>K (.v (.agg ((l.drop fd.offset).take n))) s
    | none=>False
   | none=>False
  | none=>False
 | _,_=>False
def isNum:Option SV->Bool
 | some (.v (.a (.num _ _)))=>true
 | _=>false
def AJD (P:Program)(T:TypeId)(x y:Operand)(s:S)(K:SV->S->Prop):Prop:=match ga (s.op y) with
 | none=>False
 | some (_,i)=>match P.underlying T with
  | some (.slice E)=>match iJ P E,s.op x with
   | some z,some (.v (.a (.sl p n c)))=>s.onP p λq s=>((0:Int)<=i/\i<((n:Nat):Int))/\K (.at (.pt (q.mv (q.off+i.toNat*z)))) s
   | _,_=>False
  | some (.array n E)=>match iJ P E,yE (s.op x) with
   | some z,some p=>match p.isA with
    | false=>False
    | true=>match isNum (s.op y) with
     | true=>match decide (0<=i/\i<(n:Int)) with
      | true=>K (.at (.pt (p.mv (p.off+i.toNat*z)))) s
      | false=>False
     | false=>((0:Int)<=i/\i<((n:Nat):Int))/\K (.at (.pt (p.mv (p.off+i.toNat*z)))) s
   | _,_=>False
  | _=>False
def iN:List Cf->Option (List ByteArray)
 | []=>some []
 | .str w::l=>match iN l with
  | some r=>some (w::r)
  | none=>none
 | _::_=>none
def yG (P:Program)(T:TypeId)(x y:Operand)(s:S)(K:SV->S->Prop):Prop:=match P.underlying T,s.op x,ga (s.op y) with
 | some .string,some (.v (.a (.str w))),some (_,i)=>∃u:UInt8,(0:Int)<=i/\(ByteArray.data w)[Int.toNat i]?=some u/\K (.at (.int .u8 ((UInt8.toNat u:Nat):Int))) s
 | some (.array n E),some (.v (.agg l)),some (_,i)=>match iL P E,iJ P E,iN l with
  | some false,some 1,some r=>((0:Int)<=i/\i<((n:Nat):Int))/\∃u:ByteArray,r[Int.toNat i]?=some u/\K (.at (.str u)) s
  | _,_,_=>False
 | _,_,_=>False
def AJE (x:Operand)(s:S)(K:SV->S->Prop):Prop:=match s.op x with
 | some (.v (.a (.fn f a b)))=>K (.at (.fn f a b)) s
 | some (.v (.a (.pt p)))=>s.onP p λq s=>K (.at (.pt q)) s
 | _=>False
def S.eC (s:S):List Operand->Option (List SV)
 | []=>some []
 | x::l=>match s.op x,s.eC l with
  | some v,some r=>some (v::r)
  | _,_=>none
def DI (vl:Vl):List SV->List Value
 | []=>[]
 | x::l=>x.den vl::DI vl l
def AJF (fn:Fn)(xs ys:Array Operand)(s:S)(K:SV->S->Prop):Prop:=match fn with
 | .func f=>match s.eC xs.toList,s.eC ys.toList with
  | some a,some b=>K (.at (.fn f (DI s.vl a).toArray (DI s.vl b).toArray)) s
  | _,_=>False
 | _=>False
def mz (P:Program)(T:TypeId)(x:Operand)(s:S)(K:SV->S->Prop):Prop:=match P.underlying T with
 | some d=>match isIf d with
  | false=>match s.op x with
   | some v=>K (.at (.raw (.iface T (v.den s.vl)))) s
   | none=>False
  | true=>False
 | none=>False
def AJG (P:Program)(x:Operand)(ts:Array TypeId)(s:S)(K:SV->S->Prop):Prop:=match ts.toList,s.op x with
 | [T],some (.v (.a (.sl _ n _)))=>match P.underlying T with
  | some (.slice _)=>K (.at (.int .i64 ((n:Nat):Int))) s
  | _=>False
 | [T],some (.v (.a (.str w)))=>match P.underlying T with
  | some .string=>K (.at (.int .i64 ((ByteArray.size w:Nat):Int))) s
  | _=>False
 | _,_=>False
def AJH (P:Program)(x:Operand)(ts:Array TypeId)(s:S)(K:SV->S->Prop):Prop:=match ts.toList,s.op x with
 | [T],some (.v (.a (.sl _ _ c)))=>match P.underlying T with
  | some (.slice _)=>K (.at (.int .i64 ((c:Nat):Int))) s
  | _=>False
 | _,_=>False
section
variable {P:Program}{s:S}{K:SV->S->Prop}{T T' ty:TypeId}{x y z:Operand}
theorem bU {op:Op}(h:s.val x K)(G:∀v J Z2,AD (s.e J) x=v->Yd P (s.e J) s.b Z2 op ty v):YP P op ty s K:=by
 unfold S.val at h;split at h
 .rename_i v hv;exact CY h λJ Z2=>G _ J Z2 (ev hv)
 .cases h
theorem iO (h:AGn x y z s K):YP P (.pick z x y) ty s K:=by
 obtain⟨t,s1,v1,G,h2,h3,h4,h⟩:=S.HE h;have hz:∀J,AD (s.e J) z=.bool t:=λJ=>by rw[ev h3,h4]
 cases t with
 | true=>
  simp only[S.val]at h;split at h
  .rename_i v hv;exact⟨v,s1,G,λJ Z2=>Y.AGf (hz J) (by rw[<-G.e J];exact ev hv),h⟩
  .cases h
 | false=>
  simp only[S.val]at h;split at h
  .rename_i v hv;exact⟨v,s1,G,λJ Z2=>Y.AGg (hz J) (by rw[<-G.e J];exact ev hv),h⟩
  .cases h
theorem nC (h:AI9 x s K):YP P (.unOp .not T x) ty s K:=by
 unfold AI9 at h;split at h
 .rename_i hv;exact CY h λJ Z2=>Y.not (p:=true) (by rw[ev hv];rfl)
 .rename_i hv;exact CY h λJ Z2=>Y.not (p:=false) (by rw[ev hv];rfl)
 .rename_i i n hv;refine CY h λJ Z2=>?_;cases n with
  | false=>exact Y.not (by rw[ev hv];rfl)
  | true=>
   have:=Y.not (P:=P) (e:=s.e J) (bx:=s.b) (Z2:=Z2) (ty:=ty) (T:=T) (x:=x) (p:=!(nth (.var false) s.vl.β i).val) (by rw[ev hv];rfl);rw[Bool.not_not]at this;exact this
 .cases h
theorem nE (h:AJA x s K):YP P (.unOp .neg T x) ty s K:=by
 unfold AJA at h;split at h
 .rename_i k a hv;obtain⟨u,G,e2⟩:=Cn hv;exact Jt h λJ Z2=>Y.neg (by rw[ev G,e2])
 .cases h
theorem iP (h:yF P T T' x s K):YP P (.convert T T' x) ty s K:=by
 unfold yF at h;split at h
 .rename_i G h2;split at h
  .rename_i hv;exact CY h λJ Z2=>Y.conv G h2 (by rw[ev hv];rfl)
  .rename_i hv;exact Jt h λJ Z2=>Y.conv G h2 (by rw[ev hv];rfl)
  .cases h
 .cases h
theorem nF {f:Nat}(h:AJB P T x f s K):YP P (.fieldAddr T x f) ty s K:=by
 unfold AJB at h;split at h
 .rename_i fs hT;split at h
  .rename_i fd hf;split at h
   .rename_i n p hz hp;split at h
    .rename_i G;obtain⟨u,e1,e2⟩:=GN hp;refine CY h λJ Z2=>?_;have:=Y.fieldAddr (P:=P) (e:=s.e J) (bx:=s.b) (Z2:=Z2) (ty:=ty) (x:=x) (a':=⟨p.Vw s.vl,p.off+fd.offset,none⟩) hT hf (DT hz) (by rw[ev e1,e2,PV.Kw G]) rfl;simpa only[SV.den,IV.den,Cf.den,PV.mq G] using this
    .cases h
   .cases h
  .cases h
 .cases h
theorem TB {vl:Vl}:∀{l:List Cf} {i:Nat} {u:Cf},Fa l i=some u->(Bg vl l)[i]?=some (u.den vl)
 | x::l,0,u,h=>by simp only[Fa,Ai9]at h;subst h;rfl
 | x::l,i+1,u,h=>by simp only[Fa]at h;simp only[Bg,Ajq];exact TB h
theorem Vx {vl:Vl}:∀{l:List IV} {i:Nat} {u:IV},Fa l i=some u->(JZ vl l)[i]?=some (u.den vl)
 | x::l,0,u,h=>by simp only[Fa,Ai9]at h;subst h;rfl
 | x::l,i+1,u,h=>by simp only[Fa]at h;simp only[JZ,Ajq];exact Vx h
theorem Vy (vl:Vl):∀l:List Cf,Bg vl l=l.map (Cf.den vl)
 | []=>rfl
 | x::l=>by simp only[Bg,AjR];rw[Vy vl l]
theorem nG {i:Nat}(h:AJC x i s K):YP P (.extract x i) ty s K:=by
 unfold AJC at h;split at h
 .rename_i l hv;split at h
  .rename_i u G;exact CY h λJ Z2=>Y.extract (by rw[ev hv];rfl) (by simpa[SV.den] using Vx G)
  .cases h
 .cases h
theorem eD {f:Nat}(h:mw P T x f s K):YP P (.field T x f) ty s K:=by
 unfold mw at h;split at h
 .rename_i fs l hT hv;split at h
  .rename_i fd hf;split at h
   .rename_i G;split at h
    .rename_i u hu;exact CY h λJ Z2=>Y.AIk hT hf (GM G) (by rw[ev hv];rfl) (by simpa[SV.den,IV.den] using TB hu)
    .cases h
   .rename_i G;split at h
    .rename_i n hn;refine CY h λJ Z2=>?_;have:=Y.AIl (P:=P) (e:=s.e J) (bx:=s.b) (Z2:=Z2) (ty:=ty) (x:=x) hT hf (GM G) (DT hn) (cs:=(Bg s.vl l).toArray) (by rw[ev hv];rfl) (cs':=(Bg s.vl ((l.drop fd.offset).take n)).toArray) (by simp[Vy,Al3]);exact this
    .cases h
   .cases h
  .cases h
 .cases h
theorem nH (h:AJD P T x y s K):YP P (.indexAddr T x y) ty s K:=by
 unfold AJD at h;split at h
 .cases h
 .rename_i k i hi;obtain⟨u,e1,e2⟩:=Cn hi;have hy:∀J,AD (s.e J) y=.int k i:=λJ=>by rw[ev e1,e2]
  split at h
  .rename_i E G;split at h
   .rename_i z p n c hz hv;obtain⟨q,s',h1,h2,h3,h4,h5,h⟩:=S.bT h;refine⟨_,s',h1,λJ Z2=>?_,h⟩;have:=Y.idx (P:=P) (e:=s.e J) (bx:=s.b) (Z2:=Z2) (ty:=ty) (x:=x) (y:=y) (a':=⟨q.Vw s.vl,q.off+i.toNat*z,none⟩) G (DT hz) (b:=q.Vw s.vl) (o:=q.off) (n:=n) (c:=c) (by
     rw[ev hv];show Value.slice (p.den s.vl) n c=_;rw[<-h4,PV.Kw h3]) (hy J) h5 rfl
    simpa only[SV.den,IV.den,Cf.den,h2,PV.mq h3] using this
   .cases h
  .rename_i n E G;split at h
   .rename_i z p hz hp;obtain⟨u2,e3,e4⟩:=GN hp;split at h
    .cases h
    .rename_i hA;have go:(0<=i/\i<(n:Int))->K (.at (.pt (p.mv (p.off+i.toNat*z)))) s->YP P (.indexAddr T x y) ty s K:=λhr hk=>by
      refine CY hk λJ Z2=>?_;have:=Y.AWc (P:=P) (e:=s.e J) (bx:=s.b) (Z2:=Z2) (ty:=ty) (x:=x) (y:=y) (a':=⟨p.Vw s.vl,p.off+i.toNat*z,none⟩) G (DT hz) (b:=p.Vw s.vl) (o:=p.off) (by rw[ev e3,e4,PV.Kw hA]) (hy J) hr rfl;simpa only[SV.den,IV.den,Cf.den,PV.mq hA] using this
     split at h
     .split at h
      .rename_i hd;exact go (AjA hd) h
      .cases h
     .exact go h.1 h.2
   .cases h
  .cases h
theorem bV {vl:Vl}:∀{l:List Cf} {r:List ByteArray},iN l=some r->Bg vl l=r.map .string
 | [],r,h=>by simp only[iN,Ai9]at h;subst h;rfl
 | x::l,r,h=>by
  cases x<;>simp only[iN]at h<;>try (cases h;done)
  split at h
  .rename_i r' G;cases h;simp only[Bg,AjR,bV G];rfl
  .cases h
theorem iQ (h:yG P T x y s K):YP P (.index T x y) ty s K:=by
 unfold yG at h;split at h
 .rename_i w k i hT hx hy;obtain⟨u2,G,e4⟩:=Cn hy;obtain⟨u,h0,h1,h⟩:=h;exact CY h λJ Z2=>Y.AIn hT (by rw[ev hx];rfl) (by rw[ev G,e4]) h0 h1
 .rename_i n E l k i hT hx hy;obtain⟨u2,G,e4⟩:=Cn hy;split at h
  .rename_i r ha hz hr;obtain⟨h0,u,h1,h⟩:=h;refine CY h λJ Z2=>Y.AIm hT (GM ha) (DT hz) (cs:=(Bg s.vl l).toArray) (by rw[ev hx];rfl) (by rw[ev G,e4]) h0 ?_;rw[bV hr];simp[h1]
  .cases h
 .cases h
theorem nJ (h:AJE x s K):YP P (.nilCheck x) ty s K:=by
 unfold AJE at h;split at h
 .rename_i hv;exact CY h λJ Z2=>Y.tz (by rw[ev hv];rfl)
 .rename_i p hv;obtain⟨q,s',h1,h2,G,h4,h⟩:=S.bT h;refine⟨_,s',h1,λJ Z2=>?_,h⟩;have:=Y.nilCheck (P:=P) (e:=s.e J) (bx:=s.b) (Z2:=Z2) (ty:=ty) (x:=x) (a:=⟨q.Vw s.vl,q.off,none⟩) (by
   rw[ev hv];show Value.pointer (p.den s.vl)=_;rw[<-h4,PV.Kw G])
  simpa only[SV.den,IV.den,Cf.den,h2,PV.Kw G] using this
 .cases h
theorem Dz:∀{l:List Operand} {r:List SV} {J:Env},s.eC l=some r->l.map (AD (s.e J))=DI s.vl r
 | [],r,J,h=>by simp only[S.eC,Ai9]at h;subst h;rfl
 | x::l,r,J,h=>by
  simp only[S.eC]at h;split at h
  .rename_i v r' G h2;cases h;simp only[AjR,DI];rw[ev G,Dz h2]
  .cases h
theorem nK {fn:Fn}{xs ys:Array Operand}(h:AJF fn xs ys s K):YP P (.makeFunc fn xs ys) ty s K:=by
 unfold AJF at h;split at h
 .split at h
  .rename_i a b G h2;exact CY h λJ Z2=>Y.makeFunc (by simpa using Dz G) (by simpa using Dz h2)
  .cases h
 .cases h
theorem eE (h:mz P T x s K):YP P (.makeInterface T x) ty s K:=by
 unfold mz at h;split at h
 .rename_i d G;split at h
  .rename_i hd;split at h
   .rename_i v hv;exact CY h λJ Z2=>Y.iface G hd (ev hv)
   .cases h
  .cases h
 .cases h
theorem nL {ts:Array TypeId}(h:AJG P x ts s K):YP P (.call { callee:=.builtin .len,args:=#[x],argTypes:=ts }) ty s K:=by
 unfold AJG at h;split at h
 .rename_i T p n c h1 hv;have G:ts=#[T]:=by rw[<-AjS];simpa using h1
  split at h
  .rename_i hT;exact CY h λJ Z2=>Y.xf hT (by rw[ev hv];rfl) G
  .cases h
 .rename_i T w h1 hv;have G:ts=#[T]:=by rw[<-AjS];simpa using h1
  split at h
  .rename_i hT;exact CY h λJ Z2=>Y.AIj hT (by rw[ev hv];rfl) G
  .cases h
 .cases h
theorem nM {ts:Array TypeId}(h:AJH P x ts s K):YP P (.call { callee:=.builtin .cap,args:=#[x],argTypes:=ts }) ty s K:=by
 unfold AJH at h;split at h
 .rename_i T p n c h1 hv;have G:ts=#[T]:=by rw[<-AjS];simpa using h1
  split at h
  .rename_i hT;exact CY h λJ Z2=>Y.AWb hT (by rw[ev hv];rfl) G
  .cases h
 .cases h
end
def isZero:Option SV->Bool
 | some (.v (.a (.num _ 0)))=>true
 | _=>false
def nN (P:Program)(T:TypeId)(x:Operand)(lo hi:Option Operand)(s:S)(K:SV->S->Prop):Prop:=match P.underlying T,s.op x with
 | some (.slice E),some (.v (.a (.sl p n c)))=>match iJ P E with
  | none=>False
  | some z=>match lo,hi with
   | none,none=>True/\K (.at (.sl p n c)) s
   | none,some h=>match ga (s.op h) with
    | some (_,h)=>((0:Int)<=h/\h<=((c:Nat):Int))/\K (.at (.sl p (Int.toNat h) c)) s
    | none=>False
   | some l,none=>match isZero (s.op l) with
    | true=>((0:Int)<=0/\(0:Int)<=((n:Nat):Int))/\K (.at (.sl p n c)) s
    | false=>match ga (s.op l) with
     | some (_,l)=>((0:Int)<=l/\l<=((n:Nat):Int))/\K (.at (.sl (.lit (E4 (p.den s.vl) (Int.toNat l) c z)) (n-Int.toNat l) (c-Int.toNat l))) s
     | none=>False
   | some l,some h=>match ga (s.op h) with
    | none=>False
    | some (_,h)=>match isZero (s.op l) with
     | true=>((0:Int)<=0/\(0:Int)<=h/\h<=((c:Nat):Int))/\K (.at (.sl p (Int.toNat h) c)) s
     | false=>match ga (s.op l) with
      | some (_,l)=>((0:Int)<=l/\l<=h/\h<=((c:Nat):Int))/\K (.at (.sl (.lit (E4 (p.den s.vl) (Int.toNat l) c z)) (Int.toNat h-Int.toNat l) (c-Int.toNat l))) s
      | none=>False
 | _,_=>False
def ADt {α:Type}:List α->Nat->α->List α
 | [],_,_=>[]
 | _::l,0,y=>y::l
 | x::l,n+1,y=>x::ADt l n y
def nO:List Cf->Nat->List Cf->List Cf
 | c,_,[]=>c
 | c,o,x::l=>nO (ADt c o x) (o+1) l
def Cf.one:Cf->Bool
 | .raw v=>v.oneCell'
 | _=>true
def SV.flat:SV->Option (List Cf)
 | .v (.a x)=>match x.one with
  | true=>some [x]
  | false=>none
 | .v (.agg l)=>some l
 | .bP _=>none
def bW (G:Nat->Option (Nat×Nat)):List Cf->List (Nat×SV)->Option (List Cf)
 | c,[]=>some c
 | c,(i,v)::r=>match G i,v.flat with
  | some (off,z),some l=>match decide (l.length≠z)||decide (off+l.length > c.length) with
   | true=>none
   | false=>bW G (nO c off l) r
  | _,_=>none
def S.parts (s:S):List (Nat×Operand)->Option (List (Nat×SV))
 | []=>some []
 | (i,x)::l=>match s.op x,s.parts l with
  | some v,some r=>some ((i,v)::r)
  | _,_=>none
def Q3 (vl:Vl):List (Nat×SV)->List (Nat×Value)
 | []=>[]
 | (i,x)::l=>(i,x.den vl)::Q3 vl l
def Rt (P:Program):List Field->Option (List (Nat×Nat))
 | []=>some []
 | f::l=>match iJ P f.type,Rt P l with
  | some z,some r=>some ((f.offset,z)::r)
  | _,_=>none
def nP (P:Program)(T:TypeId)(ps:List (Nat×SV)):Option (List Cf):=
 match P.info? T,P.underlying T with
 | some G,some (.array _ e)=>match G.zero,iJ P e with
  | some z,some ie=>bW (λi=>some (i*ie,ie)) (T1 z.cells.toList) ps
  | _,_=>none
 | some G,some (.struct fs)=>match G.zero,Rt P fs.toList with
  | some z,some pl=>bW (λi=>Fa pl i) (T1 z.cells.toList) ps
  | _,_=>none
 | _,_=>none
def nQ (P:Program)(T:TypeId)(ps:Array (Nat×Operand))(s:S)(K:SV->S->Prop):Prop:=match s.parts ps.toList with
 | none=>False
 | some vs=>match nP P T vs with
  | some l=>K (.v (.agg l)) s
  | none=>False
section
variable {P:Program}{s:S}{K:SV->S->Prop}{T T' ty:TypeId}{x y z:Operand}
theorem T3 {J:Env}(h:isZero (s.op x)=true):∃k,AD (s.e J) x=.int k 0:=by
 cases hv:s.op x with
 | none=>rw[hv]at h;cases h
 | some v=>
  rw[hv]at h;unfold isZero at h;split at h
  .rename_i k G;cases G;exact⟨k,by rw[ev hv];rfl⟩
  .cases h
theorem eF {lo hi:Option Operand}(h:nN P T x lo hi s K):YP P (.slice T x lo hi none) ty s K:=by
 unfold nN at h;split at h
 .rename_i E p n c hT hv;have hx:∀J,AD (s.e J) x=.slice (p.den s.vl) n c:=λJ=>by rw[ev hv];rfl
  split at h
  .cases h
  .rename_i z hz;split at h
   .exact CY h.2 λJ Z2=>Y.sla hT (DT hz) (hx J) trivial
   .split at h
    .rename_i h1;obtain⟨u,e1,e2⟩:=Cn h1;exact CY h.2 λJ Z2=>Y.slh hT (DT hz) (hx J) (by rw[ev e1,e2]) h.1
    .cases h
   .split at h
    .rename_i G;exact CY h.2 λJ Z2=>Y.AWm hT (DT hz) (hx J) (T3 G).choose_spec h.1
    .split at h
     .rename_i h1;obtain⟨u,e1,e2⟩:=Cn h1;exact CY h.2 λJ Z2=>Y.sll hT (DT hz) (hx J) (by rw[ev e1,e2]) h.1
     .cases h
   .split at h
    .cases h
    .rename_i h2;obtain⟨u,e1,e2⟩:=Cn h2;split at h
     .rename_i G;exact CY h.2 λJ Z2=>Y.AN4 hT (DT hz) (hx J) (T3 G).choose_spec (by rw[ev e1,e2]) h.1
     .split at h
      .rename_i h1;obtain⟨u2,e3,e4⟩:=Cn h1;exact CY h.2 λJ Z2=>Y.AN3 hT (DT hz) (hx J) (by rw[ev e3,e4]) (by rw[ev e1,e2]) h.1
      .cases h
 .cases h
theorem bX {vl:Vl}{a:Cf}:∀{l:List Cf} {i:Nat},Bg vl (ADt l i a)=(Bg vl l).set i (a.den vl)
 | [],_=>rfl
 | x::l,0=>rfl
 | x::l,i+1=>by simp only[ADt,Bg,AlG];rw[bX]
theorem Vz {vl:Vl}:∀{l c:List Cf} {o:Nat},(Bg vl (nO c o l)).toArray=Ks (Bg vl c).toArray o (Bg vl l)
 | [],_,_=>rfl
 | x::l,c,o=>by
  simp only[nO,Bg,Ks];rw[Vz,bX];simp
theorem bY:∀(l:List Value) (c:Array Value) (off k:Nat),(l.zipIdx k).foldl (λcs (x:Value×Nat)=>cs.setIfInBounds (off+x.2) x.1) c=Ks c (off+k) l
 | [],c,off,k=>rfl
 | x::l,c,off,k=>by
  simp only[List.zipIdx_cons,Akz,Ks];rw[bY l _ off (k+1)];rfl
theorem EJ {vl:Vl}:∀l:List Cf,(Bg vl l).length=l.length
 | []=>rfl
 | x::l=>by simp only[Bg,Aix];rw[EJ]
theorem iR {vl:Vl}{v:SV}{l:List Cf}(h:v.flat=some l):(v.den vl).cells=(Bg vl l).toArray:=by
 unfold SV.flat at h;split at h
 .rename_i x;split at h
  .rename_i G;cases h;simp only[SV.den,IV.den,Bg];cases x<;>try rfl
   case bs i n=>cases n<;>rfl
   case raw v=>cases v<;>first|rfl|cases G
  .cases h
 .cases h;rfl
 .cases h
theorem TC {vl:Vl}{G:Nat->Option (Nat×Nat)}:∀{ps:List (Nat×SV)} {c out:List Cf},bW G c ps=some out->Instr.fill G (Bg vl c).toArray (Q3 vl ps)=some (Bg vl out).toArray
 | [],c,out,h=>by simp only[bW,Ai9]at h;subst h;rfl
 | (i,v)::r,c,out,h=>by
  simp only[bW]at h;split at h
  .rename_i off z l h1 h2;split at h
   .cases h
   .rename_i hd;simp only[AkD,Aji]at hd;have hc:=iR (vl:=vl) h2;have:=TC (vl:=vl) h;simp only[Q3,Instr.fill,h1,hc];have hs:((Bg vl l).toArray.size≠z||off+(Bg vl l).toArray.size > (Bg vl c).toArray.size)=false:=by
     simp[EJ];omega
    rw[Aiw (by simpa using hs)];rw[<-this]
    congr 1
    rw[Vz];have h9:=bY (Bg vl l) (Bg vl c).toArray off 0;rw[AkK]at h9;rw[<-h9];simp
  .cases h
theorem Q4 {J:Env}:∀{l:List (Nat×Operand)} {r:List (Nat×SV)},s.parts l=some r->l.map (λp=>(p.1,AD (s.e J) p.2))=Q3 s.vl r
 | [],r,h=>by simp only[S.parts,Ai9]at h;subst h;rfl
 | (i,x)::l,r,h=>by
  simp only[S.parts]at h;split at h
  .rename_i v r' G h2;cases h;simp only[AjR,Q3];rw[ev G,Q4 h2]
  .cases h
theorem Ru:∀{l:List Field} {r:List (Nat×Nat)},Rt P l=some r->l.mapM (λf=>(P.info? f.type).map λi=>(f.offset,i.size))=some r
 | [],r,h=>by simp only[Rt,Ai9]at h;subst h;rfl
 | f::l,r,h=>by
  simp only[Rt]at h;split at h
  .rename_i z r' G h2;cases h;unfold iJ at G;cases hi:P.info? f.type with
   | none=>rw[hi]at G;cases G
   | some i=>
    rw[hi]at G;simp only[Aju,Ai9]at G;subst G;simp[AmE,hi,Ru h2]
  .cases h
theorem qm {α:Type}:∀(l:List α) (i:Nat),Fa l i=l[i]?
 | [],_=>by simp[Fa]
 | x::l,0=>rfl
 | x::l,i+1=>by simp only[Fa,Ajq];exact qm l i
theorem nR {vl:Vl}{ps:List (Nat×SV)}{l:List Cf}(h:nP P T ps=some l):P.built T (Q3 vl ps)=some (Bg vl l).toArray:=by
 unfold nP at h;unfold Program.built;split at h
 .rename_i it n e h1 h2;rw[h1,h2];split at h
  .rename_i z ie h3 G;unfold iJ at G;cases hi:P.info? e with
   | none=>rw[hi]at G;cases G
   | some i=>
    rw[hi]at G;simp only[Aju,Ai9]at G;subst G;have:=TC (vl:=vl) h;rw[KK]at this;simpa[h3,hi] using this
  .cases h
 .rename_i it fs h1 h2;rw[h1,h2];split at h
  .rename_i z pl h3 G;have:=TC (vl:=vl) h;rw[KK]at this;have h5:=Ru G;simp only[h3,h5];simpa[qm] using this
  .cases h
 .cases h
theorem eG {ps:Array (Nat×Operand)}(h:nQ P T ps s K):YP P (.build T ps) ty s K:=by
 unfold nQ at h;split at h
 .cases h
 .rename_i vs hv;split at h
  .rename_i l G;exact CY h λJ Z2=>Y.build (Q4 hv) (nR G)
  .cases h
end
end Tw
end
section
namespace Tw
open Go
variable [GF]
structure Vl.Le (v w:Vl):Prop where
 le:v.le w
 ln:v.ρ.length<=w.ρ.length/\v.β.length<=w.β.length/\v.δ.length<=w.δ.length
theorem Vl.Le.refl (v:Vl):v.Le v:=⟨.refl v,Ai7 _,Ai7 _,Ai7 _⟩
theorem Vl.Le.trans {u v w:Vl}(h:u.Le v)(g:v.Le w):u.Le w:=⟨h.le.trans g.le h.ln,by have:=h.ln;have:=g.ln;omega⟩
theorem Vl.qo (v:Vl)(p:Option Addr):v.Le (v.yD p):=⟨v.ADq p,by simp[Vl.yD]⟩
theorem Vl.qp (v:Vl)(k:BK):v.Le (v.mo k):=⟨v.ql k,by simp[Vl.mo]⟩
def exA (P:Program)(t:TypeId)(vl:Vl)(k:Cf->Vl->Prop):Prop:=match P.underlying t with
 | some (.int G)=>∃x:Int,k (.int G x) vl
 | some .bool=>∃b:Bool,k (.bs vl.β.length false) (vl.mo (.var b))
 | some (.slice _)=>∃p:Option Addr,∃n:Nat,∃c:Nat,k (.sl (.var vl.ρ.length) n c) (vl.yD p)
 | some .string=>∃w:ByteArray,k (.str w) vl
 | some (.pointer _)=>∃q:Option Addr,k (.pt (.var vl.ρ.length)) (vl.yD q)
 | some (.map _ _)=>∃m:Option Nat,k (.mp m) vl
 | _=>∃v:Value,k (.raw v) vl
def AJJ (P:Program):List TypeId->Vl->(List Cf->Vl->Prop)->Prop
 | [],vl,k=>k [] vl
 | t::l,vl,k=>exA P t vl λa vl=>AJJ P l vl λr vl=>k (a::r) vl
def yH (P:Program):Nat->TypeId->List TypeId
 | 0,t=>[t]
 | f+1,t=>match P.underlying t with
  | some (.struct G)=>(G.toList.map λfd=>yH P f fd.type).flatten
  | some (.array n e)=>(List.replicate n (yH P f e)).flatten
  | _=>[t]
def small (P:Program)(t:TypeId):Bool:=match iL P t,iJ P t with
 | some true,some n=>Nat.ble n 24
 | _,_=>false
def ex1 (P:Program)(t:TypeId)(vl:Vl)(k:IV->Vl->Prop):Prop:=match small P t with
 | true=>AJJ P (yH P 40 t) vl λl vl=>k (.agg l) vl
 | false=>exA P t vl λa vl=>k (.a a) vl
def AJK (P:Program):List TypeId->Vl->(List IV->Vl->Prop)->Prop
 | [],vl,k=>k [] vl
 | t::l,vl,k=>ex1 P t vl λa vl=>AJK P l vl λr vl=>k (a::r) vl
def exV (P:Program)(t:TypeId)(vl:Vl)(k:SV->Vl->Prop):Prop:=match P.underlying t with
 | some (.tuple ts)=>AJK P ts.toList vl λl vl=>k (.bP l) vl
 | some (.float d)=>∃x:Nat,k (.v (.a (.raw (.float d x)))) vl
 | some (.complex d)=>∃x:Nat,∃y:Nat,k (.v (.a (.raw (.complex d x y)))) vl
 | _=>ex1 P t vl λa vl=>k (.v a) vl
def aA (P:Program)(t:TypeId)(vl:Vl)(k:SV->Vl->Prop):Prop:=match P.underlying t with
 | some (.func _ _ _)=>∃f:Fn,∃a:Array Value,∃c:Array Value,k (.v (.a (.raw (.func f a c)))) vl
 | _=>exV P t vl k
section
variable {P:Program}
theorem bZ {t:TypeId}{vl:Vl}{k:Cf->Vl->Prop}(h:exA P t vl k):∃a w,vl.Le w/\k a w:=by
 unfold exA at h;split at h
 .obtain⟨x,h⟩:=h;exact⟨_,_,.refl _,h⟩
 .obtain⟨x,h⟩:=h;exact⟨_,_,Vl.qp _ _,h⟩
 .obtain⟨p,n,c,h⟩:=h;exact⟨_,_,Vl.qo _ _,h⟩
 .obtain⟨x,h⟩:=h;exact⟨_,_,.refl _,h⟩
 .obtain⟨x,h⟩:=h;exact⟨_,_,Vl.qo _ _,h⟩
 .obtain⟨x,h⟩:=h;exact⟨_,_,.refl _,h⟩
 .obtain⟨x,h⟩:=h;exact⟨_,_,.refl _,h⟩
theorem V0:∀{l:List TypeId} {vl:Vl} {k:List Cf->Vl->Prop},AJJ P l vl k->∃a w,vl.Le w/\k a w
 | [],vl,k,h=>⟨_,_,.refl _,h⟩
 | t::l,vl,k,h=>by
  obtain⟨a,w,G,h⟩:=bZ h;obtain⟨r,w2,h2,h⟩:=V0 h;exact⟨_,_,G.trans h2,h⟩
theorem Fm {t:TypeId}{vl:Vl}{k:IV->Vl->Prop}(h:ex1 P t vl k):∃a w,vl.Le w/\k a w:=by
 unfold ex1 at h;split at h
 .obtain⟨a,w,G,h⟩:=V0 h;exact⟨_,_,G,h⟩
 .obtain⟨a,w,G,h⟩:=bZ h;exact⟨_,_,G,h⟩
theorem V1:∀{l:List TypeId} {vl:Vl} {k:List IV->Vl->Prop},AJK P l vl k->∃a w,vl.Le w/\k a w
 | [],vl,k,h=>⟨_,_,.refl _,h⟩
 | t::l,vl,k,h=>by
  obtain⟨a,w,G,h⟩:=Fm h;obtain⟨r,w2,h2,h⟩:=V1 h;exact⟨_,_,G.trans h2,h⟩
theorem bg {t:TypeId}{vl:Vl}{k:SV->Vl->Prop}(h:exV P t vl k):∃a w,vl.Le w/\k a w:=by
 unfold exV at h;split at h
 .obtain⟨a,w,G,h⟩:=V1 h;exact⟨_,_,G,h⟩
 .obtain⟨x,h⟩:=h;exact⟨_,_,.refl _,h⟩
 .obtain⟨x,y,h⟩:=h;exact⟨_,_,.refl _,h⟩
 .obtain⟨a,w,G,h⟩:=Fm h;exact⟨_,_,G,h⟩
theorem uE {t:TypeId}{vl:Vl}{k:SV->Vl->Prop}(h:aA P t vl k):∃a w,vl.Le w/\k a w:=by
 unfold aA at h;split at h
 .obtain⟨f,a,c,h⟩:=h;exact⟨_,_,.refl _,h⟩
 .exact bg h
end
def S.ex (s:S)(P:Program)(t:TypeId)(K:SV->S->Prop):Prop:=match s.ok with
 | true=>exV P t s.vl λv vl=>K v (s.w vl)
 | false=>False
theorem S.V2 {s:S}{P:Program}{t:TypeId}{K:SV->S->Prop}(h:s.ex P t K):∃v s',s.KL s'/\K v s':=by
 unfold S.ex at h;cases G:s.ok with
 | false=>rw[G]at h;cases h
 | true=>
  rw[G]at h;obtain⟨v,w,h1,h⟩:=bg h;exact⟨v,_,S.Vu G h1.le,h⟩
def eqV (x:SV)(vl:Vl)(v:Value)(F:Prop):Prop:=match x with
 | .v (.a (.raw u))=>u=v/\F
 | x=>v=x.den vl/\F
theorem uF {x:SV}{vl:Vl}{v:Value}{F:Prop}(h:eqV x vl v F):v=x.den vl/\F:=by
 unfold eqV at h;split at h
 .exact⟨h.1.symm,h.2⟩
 .exact h
def iS:List HC->Nat->Option (TypeId×List Cf)
 | [],_=>none
 | (i,t,cs)::l,j=>bif Nat.beq i j then some (t,cs) else iS l j
theorem Ml {vl:Vl}:∀{l:List HC} {j:Nat} {t:TypeId} {cs:List Cf},iS l j=some (t,cs)->(nth 0 vl.δ j,Obj.cells (Bg vl cs).toArray t (0,0))∈GL vl l
 | (i,u,ds)::l,j,t,cs,h=>by
  simp only[iS]at h;cases hi:Nat.beq i j with
  | true=>
   rw[hi]at h;simp only[Akk,Ai9,Ajs]at h;obtain⟨rfl,rfl⟩:=h;have:=Ajr hi;subst this;exact AjG ..
  | false=>
   rw[hi]at h;simp only[AkZ]at h;exact Aiz _ (Ml h)
def ldV (P:Program)(T:TypeId)(x:Operand)(s:S)(K:Option Nat->SV->S->Prop):Prop:=match yE (s.op x) with
 | some (.bx i o)=>match iS s.bx i,iL P T with
  | some (_,cs),some true=>match iJ P T with
   | some n=>match decide (((cs.drop o).take n).length=n) with
    | true=>K none (.v (.agg ((cs.drop o).take n))) s
    | false=>False
   | none=>False
  | some (_,cs),some false=>match Fa cs o with
   | some u=>K none (.at u) s
   | none=>False
  | _,_=>False
 | some (.at b o)=>match iL P T,iJ P T with
  | some true,some n=>s.ex P T λv s=>match v with
   | .v (.agg l)=>match decide (l.length=n) with
    | true=>Az s.Z2 b o (Bg s.vl l)/\K (some b) v s
    | false=>False
   | _=>False
  | some false,some _=>s.ex P T λv s=>Hp.ld s.Z2 ⟨b,o,none⟩=some (v.den s.vl)/\K (some b) v s
  | _,_=>False
 | _=>False
theorem Hp.yI {Z2:Hp}{b o:Nat}{v:Value}(h:Hp.ld Z2 ⟨b,o,none⟩=some v):Hp.ld (λx=>if x=b then Z2 x else none) ⟨b,o,none⟩=some v:=by
 unfold Hp.ld at *;simpa using h
theorem Az.lim {Z2:Hp}{b:Nat}:∀{l:List Value} {o:Nat},Az Z2 b o l->Az (λx=>if x=b then Z2 x else none) b o l
 | [],_,_=>trivial
 | v::l,o,h=>⟨Hp.yI h.1,Az.lim h.2⟩
theorem bh {P:Program}{T ty:TypeId}{x:Operand}{s:S}{K:Option Nat->SV->S->Prop}(h:ldV P T x s K):
  ∃m v G,s.KL G/\K m v G/\∀J,match m with
   | none=>∀Z2,Yd P (s.e J) s.b Z2 (.load T x) ty (v.den G.vl)
   | some b=>Yd P (s.e J) s.b (λx=>if x=b then s.Z2 x else none) (.load T x) ty (v.den G.vl):=by
 unfold ldV at h;split at h
 .rename_i i o hp;obtain⟨u,e1,e2⟩:=GN hp;have hx:∀J,AD (s.e J) x=.pointer (some ⟨nth 0 s.vl.δ i,o,none⟩):=λJ=>by rw[ev e1,e2];rfl
  split at h
  .rename_i t cs hb ha;split at h
   .rename_i n hn;split at h
    .rename_i hd;have hd:=AjA hd;refine⟨none,_,s,.refl s,h,λJ Z2=>?_⟩;have:=Y.AWf (P:=P) (e:=s.e J) (bx:=s.b) (Z2:=Z2) (ty:=ty) (vs:=Bg s.vl ((cs.drop o).take n)) (GM ha) (DT hn) (by rw[EJ];exact hd) (hx J) (Ml hb) (by simp[Vy]);exact this
    .cases h
   .cases h
  .rename_i t cs hb ha;split at h
   .rename_i u hu;exact⟨none,_,s,.refl s,h,λJ Z2=>Y.ldb (GM ha) (hx J) (Ml hb) (by simpa[SV.den,IV.den] using TB hu)⟩
   .cases h
  .cases h
 .rename_i b o hp;obtain⟨u,e1,e2⟩:=GN hp;have hx:∀J,AD (s.e J) x=.pointer (some ⟨b,o,none⟩):=λJ=>by rw[ev e1,e2];rfl
  split at h
  .rename_i n ha hn;obtain⟨v,G,h1,h⟩:=S.V2 h;split at h
   .rename_i l;split at h
    .rename_i hd;have hd:=AjA hd;refine⟨some b,_,G,h1,h.2,λJ=>?_⟩;have hl:=h.1;rw[h1.Z2]at hl;exact Y.lda (GM ha) (DT hn) (by rw[EJ];exact hd) (hx J) hl.lim
    .cases h
   .cases h
  .rename_i n ha hn;obtain⟨v,G,h1,h⟩:=S.V2 h;have hl:=h.1;rw[h1.Z2]at hl;exact⟨some b,_,G,h1,h.2,λJ=>Y.ld (GM ha) (hx J) (Hp.yI hl)⟩
  .cases h
 .cases h
def yv (P:Program)(wr:Bool)(op:Op)(s:S)(K:SV->S->Prop):Prop:=match op with
 | .move x=>s.val x K
 | .assign x=>s.val x K
 | .pick z x y=>AGn x y z s K
 | .binOp b T x y _=>AI8 P wr b T x y s K
 | .unOp u _ x=>match u with
  | .not=>AI9 x s K
  | .neg=>AJA x s K
  | _=>False
 | .convert T T' x=>yF P T T' x s K
 | .fieldAddr T x f=>AJB P T x f s K
 | .field T x f=>mw P T x f s K
 | .extract x i=>AJC x i s K
 | .indexAddr T x y=>AJD P T x y s K
 | .index T x y=>yG P T x y s K
 | .nilCheck x=>AJE x s K
 | .makeFunc fn xs ys=>AJF fn xs ys s K
 | .build T ps=>nQ P T ps s K
 | .makeInterface T x=>mz P T x s K
 | .slice T x lo hi G=>match G with
  | none=>nN P T x lo hi s K
  | some _=>False
 | .call c=>match c.callee,c.args.toList with
  | .builtin .len,[x]=>AJG P x c.argTypes s K
  | .builtin .cap,[x]=>AJH P x c.argTypes s K
  | .builtin .min,[x,y]=>match ga (s.op x),ga (s.op y) with
   | some (k,a),some (_,b)=>K (.at (.int k (if(b:Int)<a then b else a))) s
   | _,_=>False
  | .builtin .max,[x,y]=>match ga (s.op x),ga (s.op y) with
   | some (k,a),some (_,b)=>K (.at (.int k (if(a:Int)<b then b else a))) s
   | _,_=>False
  | _,_=>False
 | _=>False
theorem iT {P:Program}{wr:Bool}{op:Op}{ty:TypeId}{s:S}{K:SV->S->Prop}(h:yv P wr op s K):YP P op ty s K:=by
 unfold yv at h;split at h
 .exact bU h λv J Z2 hv=>Y.move hv
 .exact bU h λv J Z2 hv=>Y.assign hv
 .exact iO h
 .exact mu h
 .split at h
  .exact nC h
  .exact nE h
  .cases h
 .exact iP h
 .exact nF h
 .exact eD h
 .exact nG h
 .exact nH h
 .exact iQ h
 .exact nJ h
 .exact nK h
 .exact eG h
 .exact eE h
 .split at h
  .exact eF h
  .cases h
 .rename_i c;obtain⟨ce,Aiv,ts⟩:=c;split at h
  .rename_i x G h2;simp only at G h2 h;have:Aiv=#[x]:=by rw[<-AjS];simpa using h2
   subst this G;exact nL h
  .rename_i x G h2;simp only at G h2 h;have:Aiv=#[x]:=by rw[<-AjS];simpa using h2
   subst this G;exact nM h
  .rename_i x y G h2;simp only at G h2 h;have:Aiv=#[x,y]:=by rw[<-AjS];simpa using h2
   subst this G;split at h
   .rename_i k a k' b hx hy;obtain⟨u,e1,e2⟩:=Cn hx;obtain⟨v,e3,e4⟩:=Cn hy;exact CY h λJ Z2=>Y.min2 (by rw[ev e1,e2]) (by rw[ev e3,e4])
   .cases h
  .rename_i x y G h2;simp only at G h2 h;have:Aiv=#[x,y]:=by rw[<-AjS];simpa using h2
   subst this G;split at h
   .rename_i k a k' b hx hy;obtain⟨u,e1,e2⟩:=Cn hx;obtain⟨v,e3,e4⟩:=Cn hy;exact CY h λJ Z2=>Y.max2 (by rw[ev e1,e2]) (by rw[ev e3,e4])
   .cases h
  .cases h
 .cases h
end Tw
end
