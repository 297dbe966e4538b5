/-
  Part 1 of the proof that the law EvalRangesUptoCardSaid of the given program answers true for every input of the given statement; the input reads behind the call as it did. (The texts: packed from 20 texts. Names are shortened by the packing program, for the bound on size.)
-/
import Derived.OrdersHeld
import Derived.StillTail
import Derived.Laws.Entries
import Derived.OrdersIn
import Derived.RangeFuncRecord
import Derived.KernelRfl
import Derived.Laws.Slices
import Derived.Laws.Small
import Derived.Laws.Cells
import Derived.Laws.Strings
import Derived.Laws.Tables
import Derived.Laws.Strings2
import Derived.Laws.Pointers
import Derived.Laws.Append
import Derived.Laws.AppendOwn
import Derived.Lib.Overlaps
import Derived.RangeFuncIn
import Derived.ProofKit
import Derived.SizedLaws
import Derived.Deep.Slices
import Derived.Scope
import Derived.Maps.RangeRun
import Derived.MapKept
import Derived.Test.YtamakbhlhpaiiaaGreatDoorProg
import Derived.ChangeKeysEq
set_option linter.all false
namespace Go.Value
abbrev I(x:Int):Value:=.int .i64 x
abbrev U(x:Int):Value:=.int .u64 x
abbrev N:Value:=.slice none 0 0
end Go.Value
namespace Go.Ending
abbrev T(a:Array Value):Ending:=.returned (.tuple a)
abbrev B(a:Bool):Ending:=.returned (.bool a)
end Go.Ending
abbrev Amb:=@if_neg
abbrev Amc:=@if_pos
abbrev Amd:=@List.getElem?_eq_some_iff
abbrev Ame:=@List.mem_of_getElem?
abbrev Amf:=@List.getElem?_eq_getElem
abbrev Amg:=@of_decide_eq_true
abbrev Amh:=@Nat.zero_le
abbrev Ami:=@Option.some.injEq
abbrev Amj:=@List.take_of_length_le
abbrev Amk:=@List.mem_cons_of_mem
abbrev Aml:=@List.mem_cons
abbrev Amm:=@List.drop_eq_nil_of_le
abbrev Amn:=@Bool.and_eq_true
abbrev Amo:=@List.mem_singleton
abbrev Amp:=@List.length_take
abbrev Amq:=@decide_eq_true_eq
abbrev Amr:=@Nat.le_refl
abbrev Ams:=@decide_eq_false
abbrev Amt:=@decide_eq_true
abbrev Amu:=@List.mem_cons_self
abbrev Amv:=@List.length_append
abbrev Amw:=@List.length_map
abbrev Amx:=@List.length_drop
abbrev Amy:=@Decidable.not_not
abbrev Amz:=@congrArg
abbrev Am0:=@List.length_filterMap_le
abbrev Am1:=@Option.some.inj
abbrev Am2:=@decide_eq_false_iff_not
abbrev Am3:=@List.getElem?_drop
abbrev Am4:=@of_decide_eq_false
abbrev Am5:=@List.getElem?_take
abbrev Am6:=@List.mem_append
abbrev Am7:=@List.map_append
abbrev Am8:=@List.getElem?_map
abbrev Am9:=@Array.getElem?_eq_some_iff
abbrev AnA:=@List.mem_map
abbrev AnB:=@Array.toList_inj
abbrev AnC:=@List.mem_iff_getElem?
abbrev AnD:=@List.getElem?_cons_zero
abbrev AnE:=@Int.toNat_natCast
abbrev AnF:=@List.not_mem_nil
abbrev AnG:=@List.pairwise_iff_getElem
abbrev AnH:=@List.pairwise_cons
abbrev AnI:=@List.length_filter_le
abbrev AnJ:=@List.all_eq_true
abbrev AnK:=@Option.map_some
abbrev AnL:=@Nat.le_trans
abbrev AnM:=@Nat.mul_le_mul_right
abbrev AnN:=@List.length_cons
abbrev AnO:=@List.append_assoc
abbrev AnP:=@List.getElem?_set_self
abbrev AnQ:=@List.cons_append
abbrev AnR:=@List.getElem?_set_ne
abbrev AnS:=@List.eq_nil_of_length_eq_zero
abbrev AnT:=@List.map_cons
abbrev AnU:=@List.mem_filterMap
abbrev AnV:=@List.getElem?_cons_succ
abbrev AnW:=@List.length_singleton
abbrev AnX:=@ByteArray.size_extract
abbrev AnY:=@List.nodup_cons
abbrev AnZ:=@List.getElem?_append_left
abbrev Ana:=@List.getElem?_zip_eq_some
abbrev Anb:=@Nat.eq_of_beq_eq_true
abbrev Anc:=@List.take_append_drop
abbrev Ane:=@decide_eq_decide
abbrev Anf:=@Array.length_toList
abbrev Ang:=@List.getElem?_append_right
abbrev Anh:=@Int.natCast_nonneg
abbrev Ani:=@List.ext_getElem?
abbrev Anj:=@Nat.le_of_ble_eq_true
abbrev Ank:=@Nat.add_zero
abbrev Anl:=@List.mem_filter
abbrev Anm:=@List.nil_append
abbrev Ann:=@Ne.symm
abbrev Ano:=@Array.getElem?_toList
abbrev Anp:=@or_false
abbrev Anq:=@Nat.zero_add
abbrev Anr:=@List.getElem?_append
abbrev Ant:=@Nat.add_mul
abbrev Anu:=@List.drop_drop
abbrev Anv:=@Bool.false_and
abbrev Anw:=@Bool.true_and
abbrev Anx:=@List.length_zip
abbrev Anz:=@Nat.zero_mul
abbrev An0:=@List.mem_of_mem_drop
abbrev An1:=@List.map_singleton
abbrev An2:=@Bool.eq_false_iff
abbrev An3:=@UInt8.lt_iff_toNat_lt
abbrev An4:=@Bool.and_eq_false_iff
abbrev An5:=@Nat.mul_one
abbrev An6:=@List.length_eq_zero_iff
abbrev An7:=@List.mem_of_mem_take
abbrev An8:=@ByteArray.data_extract
abbrev An9:=@List.getElem?_set
abbrev AoA:=@beq_iff_eq
abbrev AoB:=@List.getElem?_eq_none_iff
abbrev AoC:=@List.foldl_cons
abbrev AoD:=@List.append_nil
abbrev AoE:=@List.getLast?_eq_getElem?
abbrev AoF:=@List.length_set
abbrev AoG:=@List.filter_append
abbrev AoH:=@if_false
abbrev AoI:=@List.flatMap_cons
abbrev AoJ:=@Bool.or_eq_true
abbrev AoK:=@Nat.min_eq_left
abbrev AoL:=@List.cons.injEq
abbrev AoM:=@UInt8.toNat_inj
abbrev AoN:=@beq_eq_false_iff_ne
abbrev AoO:=@List.drop_of_length_le
abbrev AoP:=@List.length_tail
abbrev AoQ:=@List.getElem?_eq_none
abbrev AoR:=@Bool.and_false
abbrev AoS:=@Nat.mul_le_mul
abbrev AoT:=@Nat.add_sub_cancel
abbrev AoU:=@List.length_replicate
abbrev AoV:=@List.mem_append_left
abbrev AoW:=@Nat.sub_self
abbrev AoX:=@List.foldl_append
abbrev AoY:=@List.pairwise_map
abbrev AoZ:=@Prod.mk.injEq
abbrev Aoa:=@List.take_append_of_le_length
abbrev Aob:=@List.getElem?_replicate
abbrev Aoc:=@Nat.le_add_right
abbrev Aod:=@List.getElem_mem
abbrev Aoe:=@List.mem_range
abbrev Aof:=@Bool.false_eq_true
abbrev Aog:=@Nat.succ_mul
abbrev Aoh:=@List.sum_append
abbrev Aoi:=@List.isPrefixOf_iff_prefix
abbrev Aoj:=@List.mem_or_eq_of_mem_set
abbrev Aok:=@Nat.mod_lt
abbrev Aol:=@Array.getElem?_eq_getElem
abbrev Aom:=@List.mem_of_getLast?
abbrev Aon:=@Decidable.byContradiction
abbrev Aoo:=@List.drop_take
abbrev Aop:=@List.take_zero
abbrev Aoq:=@List.filter_cons
abbrev Aor:=@Nat.min_self
abbrev Aos:=@Array.getElem?_setIfInBounds_ne
abbrev Aot:=@List.prefix_iff_eq_take
abbrev Aou:=@if_true
abbrev Aov:=@List.head?_cons
abbrev Aow:=@Array.eq_empty_of_size_eq_zero
abbrev Aox:=@Nat.shiftLeft_zero
abbrev Aoy:=@List.head?_eq_getElem?
abbrev Aoz:=@List.Sublist.length_le
abbrev Ao0:=@Array.getElem?_extract
abbrev Ao1:=@Nat.pow_pos
abbrev Ao2:=@Nat.pow_add
abbrev Ao3:=@Nat.lt_trichotomy
abbrev Ao4:=@List.nodup_append
abbrev Ao5:=@Nat.lt_or_ge
abbrev Ao6:=@Array.getElem?_append
abbrev Ao7:=@List.drop_zero
abbrev Ao8:=@List.takeWhile_prefix
abbrev Ao9:=@List.set_append_right
abbrev ApA:=@Array.getD_eq_getD_getElem?
abbrev ApB:=@cond_true
abbrev ApC:=@Option.bind_some
abbrev ApD:=@Array.toList_extract
abbrev ApE:=@List.length_finRange
abbrev ApF:=@Int.tmod_eq_emod_of_nonneg
abbrev ApG:=@List.map_drop
abbrev ApH:=@Nat.mul_assoc
abbrev ApI:=@Int.le_refl
abbrev ApJ:=@Array.getElem?_push
abbrev ApK:=@Nat.pos_iff_ne_zero
abbrev ApL:=@List.drop_eq_getElem_cons
abbrev ApM:=@Bool.eq_iff_iff
abbrev ApN:=@Array.setIfInBounds_comm
abbrev ApO:=@List.set_cons_succ
abbrev ApP:=@Nat.eq_zero_or_pos
abbrev ApQ:=@Nat.lt_of_lt_of_le
abbrev ApR:=@BitVec.toNat_ofInt
abbrev ApS:=@cond_false
abbrev ApT:=@List.nodup_nil
abbrev ApU:=@List.Perm.refl
abbrev ApV:=@Nat.le_mul_of_pos_right
abbrev ApW:=@List.pairwise_singleton
abbrev ApX:=@List.take_sublist
abbrev ApY:=@Array.getElem?_eq_none
abbrev ApZ:=@Nat.one_mul
abbrev Apa:=@List.getElem_cons_drop
abbrev Apb:=@List.filter_eq_nil_iff
abbrev Apc:=@Nat.add_assoc
abbrev Apd:=@List.all_cons
abbrev Ape:=@ByteArray.ext
abbrev Apf:=@List.map_take
abbrev Apg:=@List.take_length
abbrev Aph:=@Nat.min_le_right
abbrev Api:=@Nat.shiftLeft_eq
abbrev Apj:=@Nat.div_lt_iff_lt_mul
abbrev Apk:=@List.mem_append_right
abbrev Apl:=@Array.getElem?_modify
abbrev Apm:=@List.getElem?_toArray
abbrev Apn:=@List.getElem?_zipWith
abbrev Apo:=@List.length_nil
abbrev Apq:=@List.mem_iff_getElem
abbrev Apr:=@Nat.mul_comm
abbrev Aps:=@Nat.pow_succ
abbrev Apt:=@List.map_map
abbrev Apu:=@List.map_nil
abbrev Apv:=@List.pairwise_append
abbrev Apw:=@List.drop_append_of_le_length
abbrev Apx:=@Option.some_ne_none
abbrev Apy:=@List.getElem?_range
abbrev Apz:=@Iff.rfl
abbrev Ap0:=@List.take_left
abbrev Ap1:=@not_or
abbrev Ap2:=@Array.extract_size
abbrev Ap3:=@UInt8.toNat_ofNat'
abbrev Ap4:=@List.sum_singleton
abbrev Ap5:=@Nat.mul_lt_mul_of_pos_right
abbrev Ap6:=@List.getD_eq_getElem?_getD
abbrev Ap7:=@Array.toList_setIfInBounds
abbrev Ap8:=@Nat.one_shiftLeft
abbrev AqA:=@List.filter_congr
abbrev AqB:=@List.length_range
abbrev AqC:=@List.extract_eq_take_drop
abbrev AqD:=@List.getLast?_eq_none_iff
abbrev AqE:=@List.map_set
abbrev AqF:=@Option.getD_some
abbrev AqG:=@List.filterMap_cons_some
abbrev AqH:=@List.filterMap_cons_none
abbrev AqI:=@List.mem_flatMap
abbrev AqJ:=@List.getElem?_take_of_lt
abbrev AqK:=@List.filter_cons_of_pos
abbrev AqL:=@List.filter_cons_of_neg
abbrev AqM:=@Nat.mul_ne_zero
abbrev AqN:=@Int.natCast_add
abbrev AqO:=@Nat.log2_lt
abbrev AqP:=@List.set_getElem_self
abbrev AqQ:=@List.mapM_cons
abbrev AqR:=@List.take_take
abbrev AqS:=@Array.ext'
abbrev AqT:=@List.drop_one
abbrev AqU:=@List.sum_cons
abbrev Aqb:=@Nat.beq_refl
abbrev Aqd:=@Int.le_of_lt
abbrev Aqe:=@Nat.le_of_eq
abbrev Aqg:=@getElem!_pos
abbrev Aqh:=@List.sum_nil
abbrev Aqi:=@Nat.sub_zero
section
namespace Tw
open Go
abbrev Hp:=Nat->Option Obj
abbrev Rr:=Ending->Hp->Prop
abbrev Env:=Nat->Value
abbrev Bx:=List (Nat×Obj)
theorem oh {a b:Nat}(h:a≠b):Nat.beq a b=false:=by
 cases hb:Nat.beq a b
 .rfl
 .exact absurd (Anb hb) h
def Sat (Z:Hp)(w:World):Prop:=∀b o,Z b=some o->w.heap[b]?=some o
def Ll (bx:Bx)(w:World):Prop:=∀p∈bx,w.heap[p.1]?=some p.2
def Hp.set (Z:Hp)(b:Nat)(o:Obj):Hp:=λi=>if i=b then some o else Z i
def upd (e:Env)(t:Nat)(v:Value):Env:=λi=>bif Nat.beq i t then v else e i
def put (e:Env)(d:Option Nat)(v:Value):Env:=match d with | some d=>upd e d v | none=>e
def AD (e:Env):Operand->Value
 | .tmp t=>e t
 | .const v=>v
 | .global g=>.pointer (some ⟨g,0,none⟩)
 | .func f=>.func (.func f) #[] #[]
class HL where
 on:Prop
instance AZY:HL:=⟨False⟩
variable [HL]
def Gs (w A:World):Prop:=A.os=w.os/\A.tape=w.tape/\(HL.on->∃n:Nat,A.drawn=w.drawn+n)
theorem Gs.same {w A:World}(C:A.os=w.os)(G:A.tape=w.tape)(h3:A.drawn=w.drawn):Gs w A:=⟨C,G,λ_=>⟨0,h3⟩⟩
theorem Gs.trans {w G A:World}(h:Gs w G)(g:Gs G A):Gs w A:=
 ⟨g.1.trans h.1,g.2.1.trans h.2.1,λC=>let ⟨n,h3⟩:=h.2.2 C;let ⟨m,g3⟩:=g.2.2 C;⟨n+m,by omega⟩⟩
theorem Gs.drew {w A:World}(h:Gs w A):Gs w { A with drawn:=A.drawn+1 }:=h.trans ⟨rfl,rfl,λ_=>⟨1,rfl⟩⟩
structure Fin (Z:Hp)(F:Nat->Prop)(w w':World):Prop where
 sat:Sat Z w'
 EZ:∀b,F b->Z b=none/\w'.heap[b]?=w.heap[b]?
 os:Gs w w'
 out:w'.output=w.output
 grow:w.heap.size<=w'.heap.size
def Spec (P:Program)(f:FuncId)(args:Array Value)(Z:Hp)(R:Rr):Prop:=
 ∀(w:World) (F:Nat->Prop),Sat Z w->(∀b,F b->b<w.heap.size/\Z b=none)->
  Calls P f args w (λe A=>∃Z',R e Z'/\Fin Z' F w A)
theorem Spec.mono {P:Program}{f:FuncId}{args:Array Value}{Z:Hp}{R A:Rr}(h:Spec P f args Z R)
  (hr:∀e Z',R e Z'->A e Z'):Spec P f args Z A:=λw F hs hF=>
 (h w F hs hF).mono λ_ _ ⟨Z',C,G⟩=>⟨Z',hr _ _ C,G⟩
structure St (n:Nat)(ds:List Deferred)(w0:World)(F:Nat->Prop)(e:Env)(bx:Bx)(Z:Hp)(a:Act)(w:World):Prop where
 size:a.tmps.size=n
 env:∀t,a.tmps.getD t undef=e t
 defers:a.defers=ds
 sat:Sat Z w
 box:Ll bx w
 free:∀p∈bx,Z p.1=none/\¬F p.1
 nodup:(bx.map (·.1)).Nodup
 EZ:∀b,F b->b<w0.heap.size/\Z b=none/\w.heap[b]?=w0.heap[b]?
 os:Gs w0 w
 out:w.output=w0.output
 grow:w0.heap.size<=w.heap.size
theorem St.eval {n ds w0 F e bx Z a w}(h:St n ds w0 F e bx Z a w):a.eval=AD e:=by
 funext x
 cases x with
 | tmp t=>exact h.env t
 | _=>rfl
theorem St.put {n ds w0 F e bx Z a w}(h:St n ds w0 F e bx Z a w)(d:Option Nat)(v:Value)(A:∀t,d=some t->t<n):
  St n ds w0 F (put e d v) bx Z (a.put d v) w:=by
 cases d with
 | none=>exact h
 | some d=>
  have A:=A d rfl;refine { h with size:=by simp[Act.put,h.size],env:=λt=>?_,defers:=h.defers };simp only[Act.put,Tw.put,upd];by_cases C:t=d
  .subst C;have:t<a.tmps.size:=by rw[h.size];exact A
   simp[this]
  .have G:=h.env t;have hb:Nat.beq t d=false:=oh C;simp only[hb,ApS];rw[<-G];simp[Aos (Ann C)]
theorem St.drew {n ds w0 F e bx Z a w}(h:St n ds w0 F e bx Z a w):St n ds w0 F e bx Z a { w with drawn:=w.drawn+1 }:=
 { h with sat:=h.sat,box:=h.box,EZ:=h.EZ,os:=h.os.drew,out:=h.out,grow:=h.grow }
structure Gl where
 P:Program
 f:FuncId
 n:Nat
 R:Rr
 Jz:Option Nat
 ds:List Deferred
 pan:(Jz=none/\ds=[])\/∀ch Z,¬R (.panicked ch) Z
abbrev Gl.fn (P:Program)(f:FuncId)(n:Nat)(R:Rr):Gl:=⟨P,f,n,R,none,[],.inl ⟨rfl,rfl⟩⟩
def wd (r:Option Nat):Fence:={ Fence.wide with round:=r }
theorem AEq {r:Option Nat}{n:Nat}:(wd r).room n:=λ_ h=>by simp[wd,Fence.wide]at h
theorem FH {P:Program}{r:Option Nat}{ρ:Operand->Value}{o:Oper}{w w':World}{C:Next}(h:(execOp ρ o).run P w=.ok C w')(hn:∀d,C≠.defer d):(o.semAt r ρ).run P w=.ok C w':=by
 by_cases G:∃c,o.op=.defer c
 .obtain⟨c,A⟩:=G;simp only[execOp,A,Sem.run_bind]at h;cases hr:(resolve ρ c o.type).run P w with
  | ok d w2=>
   rw[hr]at h;simp only[Result.andThen_ok,Sem.run_pure,Result.ok.injEq]at h;exact absurd h.1.symm (hn d)
  | halt x w2=>rw[hr]at h;simp[Result.andThen]at h
 .rw[Oper.semAt_eq r ρ o (λc A=>G ⟨c,A⟩)];exact h
def Rk (P:Program)(f:FuncId)(Jz:Option Nat)(cs:List Frame)(m:Machine)(R:Ending->World->Prop):Prop:=
 match Jz with
 | none=>∃e A fr,R e A/\Comes P m (lone fr cs A) e/\fr.fn=f/\fr.leaving P A e
 | some _=>∀c cs',cs=c::cs'->∃v A,R (.returned v) A/\Steps P m (lone (c.finish v) cs' A)
theorem Rk.of_steps {P f Jz cs m m' R}(A:Steps P m m')(h:Rk P f Jz cs m' R):Rk P f Jz cs m R:=by
 cases Jz with
 | none=>exact let ⟨e,w',fr,r,c,x⟩:=h;⟨e,w',fr,r,.of_steps A c,x⟩
 | some l=>exact λc cs' C=>let ⟨v,w',r,x⟩:=h c cs' C;⟨v,w',r,A.trans x⟩
def Ky (P:Program)(f:FuncId)(Jz:Option Nat)(k:List Item)(a:Act)(w:World)(R:Ending->World->Prop):Prop:=
 ∀(b:Frame) (cs:List Frame),b.fn=f->b.kind=.normal->b.roundOf=Jz->(∃fn,P.funcs[f]?=some fn)->Rk P f Jz cs (lone (b.atR a k) cs w) R
theorem Ky.step {P f Jz k a w R k' a' w'}(hs:∀(b:Frame) cs,b.roundOf=Jz->step P (lone (b.atR a k) cs w)=.next (lone (b.atR a' k') cs w'))
 (h:Ky P f Jz k' a' w' R):Ky P f Jz k a w R:=λb cs G hk A C=>.of_steps (.one (hs b cs A)) (h b cs G hk A C)
def AEr (g:Gl)(w0:World)(F:Nat->Prop):Ending->World->Prop:=λen A=>∃Z',g.R en Z'/\Fin Z' F w0 A
def At (g:Gl)(k:List Item)(e:Env)(bx:Bx)(Z:Hp):Prop:=
 ∀w0 F a w,St g.n g.ds w0 F e bx Z a w->Ky g.P g.f g.Jz k a w (AEr g w0 F)
section steps
variable {g:Gl}{k:List Item}{e:Env}{bx:Bx}{Z:Hp}
theorem At.skip (h:At g k e bx Z):At g (.code .skip::k) e bx Z:=λw0 F a w st=>.step (λ_ _ _=>stepR_skip) (h w0 F a w st)
theorem At.label {l}(h:At g k e bx Z):At g (.code (.label l)::k) e bx Z:=λw0 F a w st=>.step (λ_ _ _=>stepR_label) (h w0 F a w st)
theorem At.inBlock {i}(h:At g k e bx Z):At g (.inBlock i::k) e bx Z:=λw0 F a w st=>.step (λ_ _ _=>stepR_inBlock) (h w0 F a w st)
theorem At.seq {c x y}(A:c=Code.seq x y)(h:At g (.code x::.code y::k) e bx Z):At g (.code c::k) e bx Z:=
 A▸λw0 F a w st=>.step (λ_ _ _=>stepR_seq) (h w0 F a w st)
theorem At.block {c i x}(A:c=Code.block i x)(h:At g (.code x::.inBlock i::k) e bx Z):At g (.code c::k) e bx Z:=
 A▸λw0 F a w st=>.step (λ_ _ _=>stepR_block) (h w0 F a w st)
theorem At.loop {c x}(A:c=Code.loop x)(h:At g (.code x::.inLoop x::k) e bx Z):At g (.code c::k) e bx Z:=
 A▸λw0 F a w st=>.step (λ_ _ _=>stepR_loop) (h w0 F a w st)
theorem At.inLoop {x}(h:At g (.code x::.inLoop x::k) e bx Z):At g (.inLoop x::k) e bx Z:=
 λw0 F a w st=>.step (λ_ _ _=>stepR_inLoop) (h w0 F a w st)
theorem At.exit {c i k'}(A:c=Code.exit i)(C:exitTo i k=some k')(h:At g k' e bx Z):At g (.code c::k) e bx Z:=
 A▸λw0 F a w st=>.step (λ_ _ _=>stepR_exit C) (h w0 F a w st)
theorem At.goto {c i k'}(A:c=Code.goto i)(C:gotoIn i k=some k')(h:At g k' e bx Z):At g (.code c::k) e bx Z:=
 A▸λw0 F a w st=>.step (λ_ _ _=>stepR_goto C) (h w0 F a w st)
theorem At.AHl {c x y z}(A:c=Code.cond x y z)(C:AD e x=.bool true)(h:At g (.code y::k) e bx Z):At g (.code c::k) e bx Z:=
 A▸λw0 F a w st=>.step (λ_ _ _=>stepR_cond (t:=true) (by rw[st.eval];exact C)) (h w0 F a w st)
theorem At.AHm {c x y z}(A:c=Code.cond x y z)(C:AD e x=.bool false)(h:At g (.code z::k) e bx Z):At g (.code c::k) e bx Z:=
 A▸λw0 F a w st=>.step (λ_ _ _=>stepR_cond (t:=false) (by rw[st.eval];exact C)) (h w0 F a w st)
def left (ds:List Deferred)(Z:Hp):Hp:=ds.foldl (λZ d=>match d.target with | .collected D=>Z.set D (.deferred none) | _=>Z) Z
def Marks:List Deferred->Hp->Prop
 | [],_=>True
 | d::ds,Z=>∃D,d={ target:=.collected D,args:=#[] }/\Z D=some (.deferred (some []))/\Marks ds (Z.set D (.deferred none))
theorem Fin.put {Z:Hp}{F:Nat->Prop}{w0 w:World}{l:Nat}{o o':Obj}(h:Fin Z F w0 w)(G:Z l=some o):Fin (Z.set l o') F w0 (w.putObj l o'):=by
 have Av:l<w.heap.size:=(Am9.1 (h.sat l o G)).1;refine⟨λk u C=>?_,λk C=>?_,h.os,h.out,by simpa using h.grow⟩
 .by_cases A:k=l
  .subst A;simp only[Hp.set,Aou]at C;cases C;exact World.putObj_heap_same Av
  .simp only[Hp.set,A,AoH]at C;rw[World.putObj_heap_other A];exact h.sat k u C
 .have hp:=h.EZ k C;have A:k≠l:=λe=>by rw[e,G]at hp;cases hp.1
  exact⟨by simp only[Hp.set,A,AoH];exact hp.1,by rw[World.putObj_heap_other A];exact hp.2⟩
theorem St.toFin {n ds w0 F e bx Z a w}(st:St n ds w0 F e bx Z a w):Fin Z F w0 w:=⟨st.sat,λb hb=>⟨(st.EZ b hb).2.1,(st.EZ b hb).2.2⟩,st.os,st.out,st.grow⟩
theorem Uj {P:Program}:∀(ds:List Deferred) {Z:Hp} {F:Nat->Prop} {w0 w:World} {fr:Frame} {cs:List Frame},Marks ds Z->Fin Z F w0 w->Ll bx w->(∀p∈bx,Z p.1=none)->fr.mode=.returning->fr.defers=ds->
  ∃C,Fin (left ds Z) F w0 C/\Ll bx C/\Steps P (lone fr cs w) (lone { fr with defers:=[] } cs C)
 | [],Z,F,w0,w,fr,cs,_,hf,hb,_,_,G=>⟨w,hf,hb,by rw[show({ fr with defers:=[] }:Frame)=fr by cases fr;simp at G;simp[G]];exact .refl ..⟩
 | d::ds,Z,F,w0,w,fr,cs,⟨D,hD,A,hm⟩,hf,hb,hn,dE,G=>by
  subst hD;have h1:=step_collected (P:=P) (fr:=fr) (cs:=cs) (w:=w) (r:=D) (by rw[dE];simp) G rfl (run_takeDeferred (hf.sat D _ A));have Ai:∀p∈bx,p.1≠D:=λp hp e=>by have:=hn p hp;rw[e,A]at this;cases this
  obtain⟨C,yI,Vo,hs⟩:=Uj ds (fr:={ fr with defers:=[]++ds }) (cs:=cs) hm (hf.put A) (λp hp=>by rw[World.putObj_heap_other (Ai p hp)];exact hb p hp) (λp hp=>by simp only[Hp.set,Ai p hp,AoH];exact hn p hp) dE rfl;exact⟨C,yI,Vo,(Steps.one h1).trans hs⟩
theorem At.done {fn:Func}{v:Value}(hf:g.P.funcs[g.f]?=some fn)
  (hr:∀(a:Act) w,(∀t,a.tmps.getD t undef=e t)->Sat (left g.ds Z) w->Ll bx w->(results fn a.tmps).run g.P w=.ok v w)
  (h:g.R (.returned v) (left g.ds Z)) (G:g.Jz=none:=by rfl) (hm:Marks g.ds Z:=by trivial):At g [] e bx Z:=λw0 F a w st b cs A j6 sU XE=>by
 have C:b.roundOf=none:=sU.trans G;obtain⟨w',Xi,Vo,hs⟩:=Uj (P:=g.P) (cs:=cs) (fr:={ b.atR a [] with mode:=.returning }) g.ds hm st.toFin st.box (λp hp=>(st.free p hp).1) rfl st.defers;unfold Rk;rw[G];exact⟨.returned v,w',_,⟨_,h,Xi⟩,(Steps.one (stepR_end C)).trans hs,A,rfl,rfl,j6,fn,by simpa[Frame.atR,A] using hf,hr a w' st.env Xi.sat Vo⟩
theorem At.ret {c:Code}{fn:Func}{v:Value}(hc:c=Code.ret)(hf:g.P.funcs[g.f]?=some fn)
  (hr:∀(a:Act) w,(∀t,a.tmps.getD t undef=e t)->Sat (left g.ds Z) w->Ll bx w->(results fn a.tmps).run g.P w=.ok v w)
  (h:g.R (.returned v) (left g.ds Z)) (G:g.Jz=none:=by rfl) (hm:Marks g.ds Z:=by trivial):At g (.code c::k) e bx Z:=hc▸λw0 F a w st b cs A j6 sU XE=>by
 have C:b.roundOf=none:=sU.trans G;obtain⟨w',Xi,Vo,hs⟩:=Uj (P:=g.P) (cs:=cs) (fr:={ b.atR a (.code .ret::k) with mode:=.returning }) g.ds hm st.toFin st.box (λp hp=>(st.free p hp).1) rfl st.defers;unfold Rk;rw[G];exact⟨.returned v,w',_,⟨_,h,Xi⟩,(Steps.one (stepR_ret C)).trans hs,A,rfl,rfl,j6,fn,by simpa[Frame.atR,A] using hf,hr a w' st.env Xi.sat Vo⟩
def lp (r:Loop)(s:LoopState)(p:Option Code):Loop:={ r with state:=s,pending:=p }
theorem At.beginRound {l:Nat}{r:Loop}(US:g.Jz=some l)(A:Z l=some (.loop (lp r .ready none)))(h:At g k e bx (Z.set l (.loop (lp r .busy none)))):At g (.beginRound::k) e bx Z:=λw0 F a w st=>
 Ky.step (λb cs hb=>stepR_beginRound (hb.trans US) (run_beginRound (st.sat _ _ A) rfl)) (h w0 F a _ (by
  have C:=st.toFin.put (o':=.loop (lp r .busy none)) A;have G:∀p∈bx,p.1≠l:=λp hp e=>by have:=(st.free p hp).1;rw[e,A]at this;cases this
  exact { st with sat:=C.sat,box:=λp hp=>by rw[World.putObj_heap_other (G p hp)];exact st.box p hp,free:=λp hp=>⟨by simp only[Hp.set,G p hp,AoH];exact(st.free p hp).1,(st.free p hp).2⟩,EZ:=λb hb=>⟨(st.EZ b hb).1,(C.EZ b hb).1,(C.EZ b hb).2⟩,os:=C.os,out:=C.out,grow:=C.grow }))
theorem At.yh {l:Nat}{r:Loop}(C:g.Jz=some l)(A:Z l=some (.loop (lp r .busy none)))(h:g.R (.returned (.bool true)) (Z.set l (.loop (lp r .ready none)))):At g [] e bx Z:=λw0 F a w st b cs G j6 sU XE=>by
 unfold Rk;rw[C]
 rintro c cs' rfl
 exact⟨_,_,⟨_,h,st.toFin.put A⟩,.one (stepR_round_end (sU.trans C) j6 (run_endRound (r:=lp r .busy none) none (st.sat _ _ A)))⟩
theorem At.yi {l:Nat}{r:Loop}{c:Code}(hc:c=.ret)(C:g.Jz=some l)(A:Z l=some (.loop (lp r .busy none)))(h:g.R (.returned (.bool false)) (Z.set l (.loop (lp r .done (some .ret))))):At g (.code c::k) e bx Z:=λw0 F a w st b cs G j6 sU XE=>by
 subst hc;unfold Rk;rw[C]
 rintro c cs' rfl
 exact⟨_,_,⟨_,h,st.toFin.put A⟩,.one (stepR_round_ret (sU.trans C) j6 (run_endRound (r:=lp r .busy none) (some .ret) (st.sat _ _ A)))⟩
theorem At.sub {C:Bx}(A:C.Sublist bx)(h:At g k e C Z):At g k e bx Z:=λw0 F a w st=>
 h w0 F a w { st with box:=λp hp=>st.box p (A.subset hp),free:=λp hp=>st.free p (A.subset hp),nodup:=(A.map _).nodup st.nodup }
def N4 (e:Env):List (Nat×Value)->Env
 | []=>e
 | (t,v)::l=>upd (N4 e l) t v
theorem sV {e:Env}:∀{l:List (Nat×Value)},(∀p∈l,e p.1=p.2)->N4 e l=e
 | [],_=>rfl
 | (t,v)::l,h=>by
  have A:N4 e l=e:=sV λp hp=>h p (Amk _ hp)
  funext i
  simp only[N4,A,upd];by_cases hi:i=t
  .subst hi;rw[Aqb];exact(h (i,v) (Amu ..)).symm
  .rw[oh hi];rfl
def Live (e:Env):List (Nat×Value)->Prop
 | []=>True
 | (t,v)::l=>e t=v/\Live e l
theorem Live.mem {e:Env}:∀{l:List (Nat×Value)},Live e l->∀p∈l,e p.1=p.2
 | (_,_)::_,h,p,hp=>by
  rcases Aml.1 hp with rfl|hp
  .exact h.1
  .exact h.2.mem p hp
theorem At.live {l:List (Nat×Value)}(A:Live e l)(h:At g k (N4 e l) bx Z):At g k e bx Z:=by
 rwa[sV A.mem]at h
end steps
theorem Spec.sW {P:Program}{f:FuncId}{fn:Func}{c:Code}{args:Array Value}{Z:Hp}{R:Rr}
  (C:P.funcs[f]?=some fn) (hb:fn.body=some c) (hn:args.size<=fn.ntmps)
  (h:∀e:Env,(∀t,e t=args.getD t undef)->At (Gl.fn P f fn.ntmps R) [.code c] e [] Z):Spec P f args Z R:=by
 intro w F hs hF cs
 let b:Frame:={ (default:Frame) with fn:=f,kind:=.normal,roundOf:=none }
 have ot:Frame.enter P f args .normal =
   b.atR { tmps:=args++Array.replicate (fn.ntmps-args.size) undef,defers:=[] } [.code c]:=by
  simp[Frame.enter,Frame.atR,C,hb,b]
 rw[ot];have st:St fn.ntmps [] w F (λt=>args.getD t undef) [] Z { tmps:=args++Array.replicate (fn.ntmps-args.size) undef,defers:=[] } w:=by
  refine⟨by simp;omega,λt=>?_,rfl,hs,(λp hp=>by cases hp),(λp hp=>by cases hp),ApT,λb hb=>⟨(hF b hb).1,(hF b hb).2,rfl⟩,.same rfl rfl rfl,rfl,Amr _⟩;rcases Ao5 t args.size with A|A
  .simp[Ao6,A]
  .simp only[ApA,Ao6,Nat.not_lt.2 A,AoH,Array.getElem?_replicate,ApY A];split<;>rfl
 obtain⟨e,w',fr,r,cc,G,hl⟩:=h _ (λ_=>rfl) w F _ w st b cs rfl rfl rfl ⟨fn,C⟩;exact⟨e,w',fr,r,cc,G,hl⟩
def Aa (ops:Array Oper)(e:Env)(gd:Option (Nat×Bool)):Bool:=
 match gd with
 | none=>true
 | some (j,A)=>(match (ops[j]?).bind (·.dst) with
  | some d=>(match e d with | .bool b=>some b | _=>none)
  | none=>none)==some A
theorem St.wanted {n ds w0 F e bx Z a w}(h:St n ds w0 F e bx Z a w)(ops:Array Oper)(o:Oper):
  Region.wanted o (yielded ops a.tmps)=Aa ops e o.guard:=by
 unfold Region.wanted Aa;cases o.guard with
 | none=>rfl
 | some p=>
  obtain⟨j,A⟩:=p;simp only[yielded];cases(ops[j]?).bind (·.dst) with
  | none=>rfl
  | some d=>
   have C:=h.env d;simp only[ApC,<-C,ApA];cases a.tmps[d]? with
   | none=>rfl
   | some v=>cases v<;>rfl
def Qx (g:Gl)(w0:World)(F:Nat->Prop):Exit->Act->World->Prop
 | .panic A,a,w=>(g.Jz=none/\a.defers=[])/\AEr g w0 F (.panicked A) w
 | _,_,_=>False
def AP (g:Gl)(ops:Array Oper)(i:Nat)(e:Env)(bx:Bx)(Z:Hp)(K:Env->Bx->Hp->Prop):Prop:=
 ∀w0 F a w,St g.n g.ds w0 F e bx Z a w->wpOpIn (wd g.Jz) 0 g.P ops (Qx g w0 F) i (λa' G=>∃C A Z',St g.n g.ds w0 F C A Z' a' G/\K C A Z') a w
def Seq (g:Gl)(ops:Array Oper):List Nat->Env->Bx->Hp->(Env->Bx->Hp->Prop)->Prop
 | [],e,bx,Z,K=>K e bx Z
 | i::is,e,bx,Z,K=>AP g ops i e bx Z λC A Z'=>Seq g ops is C A Z' K
def Yd (P:Program)(e:Env)(bx:Bx)(Z:Hp)(op:Op)(ty:TypeId)(v:Value):Prop:=
 ∀o:Oper,o.op=op->o.type=ty->∀w,Sat Z w->Ll bx w->(execOp (AD e) o).run P w=.ok (.value v) w
abbrev Mj:=Option (List (Nat×List Nat))
def Uk (q:Mj)(own:Option (Nat×List (List Nat)))(Z:Hp):Hp:=
 match q,own with
 | none,_=>Z
 | some _,none=>λ_=>none
 | some _,some x=>λb=>if b=x.1 then Z b else none
def SL:Mj->Option (Nat×List (List Nat))->Mj
 | none,_=>none
 | some L,none=>some L
 | some L,some x=>some ((x.1,x.2.filterMap List.head?)::L)
def Ir:Mj->Nat->Mj
 | none,_=>none
 | some L,j=>some (L.filter λx=>!x.2.contains j)
def Ln (ops:Array Oper)(t u:Nat):Bool:=
 match ops[t]? with
 | some o=>o.after.any λe=>Region.binds .any e&&e.on==u
 | none=>false
def Xj (ops:Array Oper)(i:Nat):List Nat->Bool
 | []=>false
 | [t]=>Ln ops t i
 | t::u::r=>Ln ops t u&&Xj ops i (u::r)
def Mj.ok (q:Mj)(i:Nat):Bool:=
 match q with
 | none=>true
 | some L=>L.all λx=>!x.2.contains i
def Xk (ops:Array Oper)(i:Nat):Option (Nat×List (List Nat))->Bool
 | none=>true
 | some x=>x.2.all (Xj ops i)
def Sq (q:Mj)(Z:Hp)(bx:Bx)(A:Array Bool)(w:World):Prop:=
 Ll bx w/\match q with
  | none=>Sat Z w
  | some L=>∀x∈L,(∃t∈x.2,A.getD t false=true)\/∀o,Z x.1=some o->w.heap[x.1]?=some o
def N5 (q:Mj)(bx:Bx)(Z:Hp)(A:Bx)(Z':Hp):Prop:=
 (∀p∈bx,p∈A)/\match q with
  | none=>∀b o,Z b=some o->Z' b=some o
  | some L=>∀x∈L,∀o,Z x.1=some o->Z' x.1=some o
theorem N5.refl (q:Mj)(bx:Bx)(Z:Hp):N5 q bx Z bx Z:=⟨λ_ h=>h,by cases q<;>simp⟩
theorem Sq.of {q:Mj}{Z:Hp}{bx:Bx}{A:Array Bool}{w:World}(h:Sat Z w)(hb:Ll bx w):Sq q Z bx A w:=⟨hb,by
 cases q with
 | none=>exact h
 | some L=>exact λx _=>.inr λo C=>h _ _ C⟩
theorem gM {A:Array Bool}{i t:Nat}(h:t≠i):(A.setIfInBounds i true).getD t false=A.getD t false:=getD_set_ne false (Ann h)
theorem Sq.set {q:Mj}{Z:Hp}{bx:Bx}{i:Nat}(G:q.ok i=true)(A:Array Bool)(w:World):Sq q Z bx (A.setIfInBounds i true) w↔Sq q Z bx A w:=by
 unfold Sq;cases q with
 | none=>exact Apz
 | some L=>
  refine and_congr Apz (forall_congr' λx=>forall_congr' λhx=>or_congr ?_ Apz);have C:i ∉ x.2:=by
   have:=AnJ.1 G x hx;simpa using this
  refine exists_congr λt=>and_congr_right λht=>?_;rw[gM (λh=>C (by subst h;exact ht))]
theorem Vp {ops:Array Oper}{n i:Nat}{A:Array Bool}(C:HeadInv .any ops n A):∀(p:List Nat) (t:Nat),Xj ops i p=true->p.head?=some t->A.getD t false=true->A.getD i false=true
 | [],_,h,_,_=>by cases h
 | [t'],t,h,G,hl=>by
  simp only[Aov,Ami]at G;subst G;simp only[Xj,Ln]at h;split at h
  .rename_i o ho;obtain⟨e,he,hb⟩:=Array.any_eq_true'.1 h;simp only[Amn,AoA]at hb;exact hb.2▸C.closed _ o ho hl e he hb.1
  .cases h
 | t'::u::r,t,h,G,hl=>by
  simp only[Aov,Ami]at G;subst G;simp only[Xj,Amn]at h;refine Vp C (u::r) u h.2 rfl ?_;have h:=h.1;simp only[Ln]at h;split at h
  .rename_i o ho;obtain⟨e,he,hb⟩:=Array.any_eq_true'.1 h;simp only[Amn,AoA]at hb;exact hb.2▸C.closed _ o ho hl e he hb.1
  .cases h
theorem Sq.own {ops:Array Oper}{n i:Nat}{A:Array Bool}{q:Mj}{own:Option (Nat×List (List Nat))}{Z:Hp}{bx:Bx}{w:World}(inv:HeadInv .any ops n A)(gN:A.getD i true=false)(DZ:Xk ops i own=true)
  (h:Sq (SL q own) Z bx A w):Sat (Uk q own Z) w/\Ll bx w:=by
 refine⟨?_,h.1⟩;cases q with
 | none=>exact h.2
 | some L=>
  cases own with
  | none=>intro b o hb;cases hb
  | some x=>
   intro b o hb;simp only[Uk]at hb;split at hb
   .rename_i C;subst C;rcases h.2 (x.1,x.2.filterMap List.head?) (Amu ..) with ⟨t,ht,hl⟩|h2
    .obtain⟨p,hp,G⟩:=AnU.1 ht;have:=Vp inv p t (AnJ.1 DZ p hp) G hl;rw[getD_both gN]at this;cases this
    .exact h2 o hb
   .cases hb
theorem Sq.less {q:Mj}{own:Option (Nat×List (List Nat))}{Z:Hp}{bx:Bx}{A:Array Bool}{w:World}(h:Sq (SL q own) Z bx A w):Sq q Z bx A w:=by
 refine⟨h.1,?_⟩;cases q with
 | none=>exact h.2
 | some L=>
  cases own with
  | none=>exact h.2
  | some x=>exact λy C=>h.2 y (Amk _ C)
theorem Sq.gO {q:Mj}{Z Z':Hp}{bx JS:Bx}{i:Nat}{A:Array Bool}{w:World}(hi:A.getD i false=true)(G:N5 (Ir q i) bx Z JS Z')(h:Sq (Ir q i) Z' JS A w):Sq q Z bx A w:=by
 refine⟨λp hp=>h.1 p (G.1 p hp),?_⟩;cases q with
 | none=>exact λb o hb=>h.2 b o (G.2 b o hb)
 | some L=>
  intro x hx;by_cases hc:i∈x.2
  .exact .inl ⟨i,hc,hi⟩
  .have hm:x∈L.filter λx=>!x.2.contains i:=Anl.2 ⟨hx,by simpa using hc⟩;rcases h.2 x hm with C|C
   .exact .inl C
   .exact .inr λo ho=>C o (G.2 x hm o ho)
def Head (g:Gl)(ops:Array Oper):Mj->List (Nat×Bool)->Env->Bx->Hp->(Env->Bx->Hp->Prop)->Prop
 | _,[],e,bx,Z,K=>K e bx Z
 | q,(i,true)::r,e,bx,Z,K=>∃own o v,((SL q own).ok i&&Xk ops i own)=true/\ops[i]?=some o/\((Aa ops e o.guard=true/\Yd g.P e bx (Uk q own Z) o.op o.type v)\/(Aa ops e o.guard=false/\v=undef))/\
  (∀t,o.dst=some t->t<g.n)/\Head g ops (SL q own) r (put e o.dst v) bx Z K
 | q,(i,false)::r,e,bx,Z,K=>AP g ops i e bx Z λC A Z'=>N5 (Ir q i) bx Z A Z'/\Head g ops (Ir q i) r C A Z' K
def Ul (ops:Array Oper)(n:Nat):List (Nat×Bool)->Array Bool->Bool
 | [],A=>Region.seqB .any ops (ops.size-n) n A
 | (i,true)::r,A=>decide (i<n)&&(Region.ready .any ops A).contains i&&Region.free .any ops A i&&Ul ops n r (A.setIfInBounds i true)
 | (i,false)::r,A=>decide (i<n)&&(Region.ready .any ops A==[i])&&Ul ops n r (A.setIfInBounds i true)
def yj (ops:Array Oper)(n:Nat)(plan:List (Nat×Bool))(A:List Nat):Bool:=
 Region.noSelect ops&&decide (plan.length=n)&&(decide (n=ops.size)||(decide (n<ops.size)&&Region.sinkB .any ops n&&Region.chainB .any ops n)) &&
  decide (A=List.range' n (ops.size-n))&&Ul ops n plan (Array.replicate ops.size false)
section head
variable {P:Program}{ro:Option Nat}{ops:Array Oper}{Q:Exit->Act->World->Prop}{md:Region.Mode}
theorem D7 {i:Nat}{o:Oper}{K:Act->World->Prop}{a:Act}{w:World}(A:ops[i]?=some o)(C:Region.wanted o (yielded ops a.tmps)=true)(h:o.uponIn (wd ro) 0 P a K Q ((o.semAt ro a.eval).run P w)):
  wpOpIn (wd ro) 0 P ops Q i K a w:=by
 unfold wpOpIn;simp only[A,C,Aou];exact⟨λ_ _=>trivial,h⟩
theorem ou {i:Nat}{o:Oper}{K:Act->World->Prop}{a:Act}{w:World}(A:ops[i]?=some o)(C:Region.wanted o (yielded ops a.tmps)=false)(h:K (a.put o.dst undef) w):wpOpIn (wd ro) 0 P ops Q i K a w:=by
 unfold wpOpIn;simp only[A,C,Aof,AoH];exact⟨λ_ _=>trivial,h⟩
theorem sY {S:World->Prop}{i:Nat}{o:Oper}{v:Value}{a:Act}(hi:ops[i]?=some o)(hy:YieldsIf P ops S o v a)
  {K:Act->World->Prop} {w:World} (C:S w) (h:K (a.put o.dst v) w):wpOpIn (wd ro) 0 P ops Q i K a w:=by
 rcases hy with ⟨A,G⟩|⟨A,rfl⟩
 .refine D7 hi A ?_;rw[FH (G w C) (λd=>by simp)];exact h
 .exact ou hi A h
theorem vJ {o:Oper}(hs:∀cs b,o.op≠.select cs b)(a:Act)(dst:Option Tmp)(u:Value)(h:∀d,dst=some d->d ∉ o.looksAt ops):o.semAt ro (a.put dst u).eval=o.semAt ro a.eval:=by
 have G:=execOp_put o hs a dst u h;by_cases C:∃c,o.op=.defer c
 .obtain⟨c,A⟩:=C;have hr:resolve (a.put dst u).eval c o.type=resolve a.eval c o.type:=resolve_congr (ρ:=(a.put dst u).eval) (ρ':=a.eval) c o.type (λx hx=>Act.eval_put λd C yk=>h d C (by
   subst yk;exact AoV _ (AnU.2 ⟨.tmp d,by rw[A];simpa[Op.operands] using hx,rfl⟩)))
  unfold Oper.semAt;cases ro with
  | none=>exact G
  | some l=>simp only[A,hr]
 .rw[Oper.semAt_eq ro _ o (λc A=>C ⟨c,A⟩),Oper.semAt_eq ro _ o (λc A=>C ⟨c,A⟩)];exact G
theorem vK {S:World->Prop}{j:Nat}{C G:Oper}{v:Value}(hj:ops[j]?=some G)(hap:C.apart ops G=true)
  (hsi:∀cs b,C.op≠.select cs b) (hsj:∀cs b,G.op≠.select cs b)
  (hQ:∀c a w,Q (.panic c) (a.put C.dst v) w->Q (.panic c) a w) {K:Act->World->Prop} {a:Act} {w:World}
  (hy:YieldsIf P ops S C v a) (h:wpOpIn (wd ro) 0 P ops Q j K (a.put C.dst v) w) :
  wpOpIn (wd ro) 0 P ops Q j (λa' w'=>YieldsIf P ops S C v a'/\K (a'.put C.dst v) w') a w:=by
 obtain⟨h1,h2,h3⟩:=Oper.apart_spec hap;have A:∀(a:Act),YieldsIf P ops S C v a->∀u,YieldsIf P ops S C v (a.put G.dst u):=λa hy u=>
  hy.of_same (execOp_put C hsi a G.dst u h3) (wanted_put C a G.dst u h3)
 have APl:∀d,YieldsIf P ops S C v { a with defers:=d::a.defers }:=λd=>hy.of_same rfl rfl;unfold wpOpIn at h;simp only[hj]at h;rw[wanted_put G a C.dst v h1]at h;by_cases hw:Region.wanted G (yielded ops a.tmps)=true
 .simp only[hw,Aou]at h;refine D7 hj hw ?_;have h:=h.2
  change G.uponIn (wd ro) 0 P (a.put C.dst v) K Q ((G.semAt ro (a.put C.dst v).eval).run P w)at h
  rw[vJ hsj a C.dst v h1]at h;generalize (G.semAt ro a.eval).run P w=r at *;cases r with
  | ok n w'=>
   cases n<;>simp only[Oper.uponIn]at h ⊢
   case value u=>exact⟨A a hy u,by rw[<-Act.put_comm a v u h2];exact h⟩
   case skip=>exact⟨A a hy _,by rw[<-Act.put_comm a v undef h2];exact h⟩
   case defer d=>
    refine⟨A _ (APl d) _,?_⟩;rw[<-Act.put_comm _ v undef h2,<-Act.put_defers];exact h
   case enter f args=>
    refine⟨h.1,CallsIn.mono h.2 λe w'' he=>?_⟩;cases e with
    | returned u=>exact⟨A a hy u,by rw[<-Act.put_comm a v u h2];exact he⟩
    | panicked c=>exact hQ _ _ _ he
    | outgrown=>exact he
   case row row args=>exact⟨h.1,RowsIn.mono h.2 λu w'' he=>⟨A a hy u,by rw[<-Act.put_comm a v u h2];exact he⟩⟩
   case round l f tmps assign body=>
    refine⟨h.1,RoundIn.mono h.2 λe w'' he=>?_⟩;cases e with
    | returned u=>exact⟨A a hy u,by rw[<-Act.put_comm a v u h2];exact he⟩
    | panicked c=>exact hQ _ _ _ he
    | outgrown=>exact he
  | halt x w'=>
   cases x<;>simp only[Oper.uponIn]at h ⊢
   case panic u=>exact hQ _ _ _ h
 .have hw:Region.wanted G (yielded ops a.tmps)=false:=by simpa using hw
  simp only[hw,Aof,AoH]at h;exact ou hj hw ⟨A a hy _,by rw[<-Act.put_comm a v undef h2];exact h.2⟩
def JY (P:Program)(ro:Option Nat)(md:Region.Mode)(ops:Array Oper)(Q:Exit->Act->World->Prop)(S:Array Bool->World->Prop)(n:Nat)(L:Array Bool->Act->World->Prop):Nat->Array Bool->Act->World->Prop
 | 0,A,a,w=>L A a w
 | f+1,A,a,w=>Region.ready md ops A≠[]/\
  ∀i∈Region.ready md ops A,i<n/\wpOpIn (wd ro) 0 P ops Q i (λa' C=>S (A.setIfInBounds i true) C/\JY P ro md ops Q S n L f (A.setIfInBounds i true) a' C) a w
theorem J0 {n g:Nat}{S:Array Bool->World->Prop}{L:Array Bool->Act->World->Prop}(C:∀A a w,L A a w->wpAnyIn (wd ro) 0 P md ops Q g A a w):
  ∀(f:Nat) (A:Array Bool) (a:Act) (w:World),JY P ro md ops Q S n L f A a w->wpAnyIn (wd ro) 0 P md ops Q (f+g) A a w
 | 0,A,a,w,h=>by rw[Anq];exact C _ _ _ h
 | f+1,A,a,w,h=>by
  rw[show f+1+g=(f+g)+1 by omega];exact⟨λh0=>absurd h0 h.1,λi hi=>wpOpIn_mono (λa' w' G=>J0 C f _ a' w' G.2) (h.2 i hi).2⟩
theorem HM {n:Nat}{S S':Array Bool->World->Prop}{G:Array Bool->Prop}{L:Array Bool->Act->World->Prop}(C:∀A j,G A->G (A.setIfInBounds j true))(hS:∀A w,G A->S' A w->S A w):
  ∀(f:Nat) (A:Array Bool) (a:Act) (w:World),G A->JY P ro md ops Q S' n L f A a w->JY P ro md ops Q S n L f A a w
 | 0,_,_,_,_,h=>h
 | f+1,_,_,_,hg,h=>⟨h.1,λi hi=>⟨(h.2 i hi).1,wpOpIn_mono (λa' w' h'=>⟨hS _ _ (C _ _ hg) h'.1,HM C hS f _ a' w' (C _ _ hg) h'.2⟩) (h.2 i hi).2⟩⟩
theorem ov {n:Nat}{f:FuncId}{args:Array Value}{w:World}{R:Ending->World->Prop}(h:Calls P f args w R):CallsIn (wd ro) n P f args w R:=
 ⟨trivial,λcs _=>let ⟨e,w',fr,r,s,x⟩:=h cs;⟨e,w',fr,r,comesIn_wide.2 s,x⟩⟩
theorem Rl {n i:Nat}{oi:Oper}{v:Value}{S:Array Bool->World->Prop}{Sy:World->Prop}{L:Array Bool->Act->World->Prop}(hi:ops[i]?=some oi)(SM:∀(j:Nat) (o:Oper) cs b,ops[j]?=some o->o.op≠.select cs b)
  (hQ:∀c a w,Q (.panic c) (a.put oi.dst v) w->Q (.panic c) a w)
  (J1:∀A,HeadInv md ops n A->∀i,i<n->A.getD i true=false->∀t,n<=t->t ∉ Region.ready md ops A)
  (hSi:∀A w,S (A.setIfInBounds i true) w↔S A w) (hSy:∀A w,HeadInv md ops n A->A.getD i true=false->S A w->Sy w)
  (Ba:i<n) (APm:∀A a w,L A a w->∀j∈Region.ready md ops A,n<=j) :
  ∀(f:Nat) (A:Array Bool) (a:Act) (w:World),HeadInv md ops n A->
   (∀j oj,ops[j]?=some oj->j≠i->A.getD j true=false->(∀e∈oj.after,Region.binds md e=true->e.on≠i)->oi.apart ops oj=true)->
   i∈Region.ready md ops A->YieldsIf P ops Sy oi v a->S A w->
   JY P ro md ops Q S n L f (A.setIfInBounds i true) (a.put oi.dst v) w->JY P ro md ops Q S n L (f+1) A a w:=by
 intro f
 induction f with
 | zero=>
  intro A a w C _ hr hy hS H;have gN:=(mem_ready.1 hr).1;refine⟨λh=>(by rw[h]at hr;cases hr),λj hj=>?_⟩;have sZ:j<n:=by
   rcases Ao5 j n with h|h
   .exact h
   .exact absurd hj (J1 _ C i Ba gN j h)
  refine⟨sZ,?_⟩;by_cases G:j=i
  .subst G;exact sY hi hy (hSy _ _ C gN hS) ⟨(hSi _ _).2 hS,H⟩
  .have:=APm _ _ _ H j (ready_mono hj G);omega
 | succ f ih=>
  intro A a w C AHo hr hy hS H;have gN:=(mem_ready.1 hr).1;refine⟨λh=>(by rw[h]at hr;cases hr),λj hj=>?_⟩;have sZ:j<n:=by
   rcases Ao5 j n with h|h
   .exact h
   .exact absurd hj (J1 _ C i Ba gN j h)
  refine⟨sZ,?_⟩;by_cases G:j=i
  .subst G;exact sY hi hy (hSy _ _ C gN hS) ⟨(hSi _ _).2 hS,H⟩
  .have h1:=(H.2 j (ready_mono hj G)).2;obtain⟨APn,oj,hoj,GQ⟩:=mem_ready.1 hj;have AZb:∀e∈oj.after,Region.binds md e=true->e.on≠i:=λe he hb heq=>by
    have h1:=GQ e he hb;rw[heq,getD_both gN]at h1;cases h1
   have h2:=vK hoj (AHo j oj hoj G APn AZb) (λcs b=>SM i oi cs b hi) (λcs b=>SM j oj cs b hoj) hQ hy h1;have AKc:∀k ok,ops[k]?=some ok->k≠i->(A.setIfInBounds j true).getD k true=false->
     (∀e∈ok.after,Region.binds md e=true->e.on≠i)->oi.apart ops ok=true:=λk ok hk hki gN CU=>by
    refine AHo k ok hk hki ?_ CU;by_cases jl:j=k
    .subst jl;exact APn
    .rw[getD_set_ne true jl]at gN;exact gN
   refine wpOpIn_mono (λa' w' h3=>⟨(hSi _ _).1 (by rw[ApN _ _ G];exact h3.2.1),ih (A.setIfInBounds j true) a' w' (C.set hj sZ) AKc (ready_mono hr (Ann G)) h3.1 ((hSi _ _).1 (by rw[ApN _ _ G];exact h3.2.1)) ?_⟩) h2;rw[ApN _ _ G];exact h3.2.2
theorem Kz:∀(g k:Nat) (A:Array Bool) (a:Act) (w:World),
  Region.seqB md ops g k A=true->wpOpsIn (wd ro) 0 P ops Q (List.range' k g) a w->wpAnyIn (wd ro) 0 P md ops Q g A a w
 | 0,_,_,_,_,C,h=>⟨by simpa[Region.seqB] using C,h⟩
 | g+1,k,A,a,w,C,h=>by
  simp only[Region.seqB,Amn,Amq]at C;refine⟨λh1=>(by rw[C.1]at h1;cases h1),λi hi=>?_⟩;rw[C.1]at hi;have G:i=k:=by simpa using hi
  subst G;rw[List.range'_succ,wpOpsIn_cons]at h;exact wpOpIn_mono (λa' w' h'=>Kz g (i+1) _ a' w' C.2 h') h
end head
section regions
variable {g:Gl}{ops:Array Oper}
def Qn (g:Gl)(w0:World)(F:Nat->Prop)(K:Env->Bx->Hp->Prop):Exit->Act->World->Prop
 | .normal,a,w=>∃e bx Z,St g.n g.ds w0 F e bx Z a w/\K e bx Z
 | .panic A,a,w=>(g.Jz=none/\a.defers=[])/\AEr g w0 F (.panicked A) w
 | _,_,_=>False
theorem ow {P:Program}{ro:Option Nat}{Q C:Exit->Act->World->Prop}(hp:∀c a w,Q (.panic c) a w->C (.panic c) a w)(ho:∀a w,Q .outgrown a w->C .outgrown a w)
  {i:Nat} {K:Act->World->Prop} {a:Act} {w:World} (h:wpOpIn (wd ro) 0 P ops Q i K a w):wpOpIn (wd ro) 0 P ops C i K a w:=by
 unfold wpOpIn at *;split
 .rename_i hn;simpa only[hn] using h
 .rename_i o hn;simp only[hn]at h;split
  .rename_i hw;simp only[hw,Aou]at h;unfold Oper.wpIn at *;refine⟨h.1,?_⟩;have h:=h.2;generalize (o.semAt (wd ro).round a.eval).run P w=r at *;cases r with
   | ok x w'=>
    cases x<;>simp only[Oper.uponIn]at h ⊢<;>try exact h
    .refine⟨h.1,CallsIn.mono h.2 λen w2 A=>?_⟩;cases en with
     | returned v=>exact A
     | panicked c=>exact hp _ _ _ A
     | outgrown=>obtain⟨G,w1,h1⟩:=A;exact⟨G,w1,ho _ _ h1⟩
    .refine⟨h.1,RoundIn.mono h.2 λen w2 A=>?_⟩;cases en with
     | returned v=>exact A
     | panicked c=>exact hp _ _ _ A
     | outgrown=>obtain⟨G,w1,h1⟩:=A;exact⟨G,w1,ho _ _ h1⟩
   | halt x w'=>
    cases x<;>simp only[Oper.uponIn]at h ⊢;exact hp _ _ _ h
  .rename_i hw;simp only[hw]at h;exact h
theorem Qr {K:Env->Bx->Hp->Prop}{w0 F}:∀(is:List Nat) (e:Env) (bx:Bx) (Z:Hp) (a:Act) (w:World),St g.n g.ds w0 F e bx Z a w->
  Seq g ops is e bx Z K->wpOpsIn (wd g.Jz) 0 g.P ops (Qn g w0 F K) is a w
 | [],e,bx,Z,a,w,st,h=>⟨e,bx,Z,st,h⟩
 | i::is,e,bx,Z,a,w,st,h=>by
  rw[wpOpsIn_cons];refine wpOpIn_mono ?_ (ow (Q:=Qx g w0 F) (λc a w h=>h) (λa w h=>h.elim) (h w0 F a w st))
  rintro a' w' ⟨G,A,Z',C,h'⟩
  exact Qr is G A Z' a' w' C h'
theorem SN {K:Env->Bx->Hp->Prop}{w0 F}{n:Nat}{tl:List Nat}(SM:Region.noSelect ops=true)
  (J1:∀A,HeadInv .any ops n A->∀i,i<n->A.getD i true=false->∀t,n<=t->t ∉ Region.ready .any ops A)
  (sa:tl=List.range' n (ops.size-n)) :
  ∀(plan:List (Nat×Bool)) (q:Mj) (A:Array Bool) (e:Env) (bx:Bx) (Z:Hp) (a:Act) (w:World),HeadInv .any ops n A->Ul ops n plan A=true->
   St g.n g.ds w0 F e bx Z a w->Head g ops q plan e bx Z (λe bx Z=>Seq g ops tl e bx Z K)->
   JY g.P g.Jz .any ops (Qn g w0 F K) (Sq q Z bx) n (λA a w=>Region.seqB .any ops (ops.size-n) n A=true/\wpOpsIn (wd g.Jz) 0 g.P ops (Qn g w0 F K) tl a w) plan.length A a w
 | [],_,A,e,bx,Z,a,w,_,DZ,st,h=>⟨DZ,Qr _ _ _ _ _ _ st h⟩
 | (i,true)::r,q,A,e,bx,Z,a,w,C,DZ,st,h=>by
  obtain⟨own,o,v,hqq,ho,hy,hd,h⟩:=h;simp only[Amn]at hqq;simp only[Ul,Amn,Amq]at DZ;obtain⟨⟨⟨Ba,hr⟩,hf⟩,DZ⟩:=DZ;have Um:i∈Region.ready .any ops A:=by simpa using hr
  refine HM (S':=Sq (SL q own) Z bx) (G:=λ_=>True) (λ_ _ _=>trivial) (λ_ _ _ h=>h.less) _ _ _ _ trivial ?_;refine Rl (Sy:=λw=>Sat (Uk q own Z) w/\Ll bx w) ho (Region.noSelect_spec SM) ?_ J1 (Sq.set hqq.1) (λA w C gN h=>Sq.own C gN hqq.2 h) Ba ?_ _ A a w C (Region.free_spec ho hf) Um ?_ (Sq.of st.sat st.box)
   (SN SM J1 sa r _ _ _ _ _ _ _ (C.set Um Ba) DZ (st.put o.dst v hd) h)
  .rintro c a w ⟨⟨h0,h1⟩,h2⟩
   exact⟨⟨h0,by cases SO:o.dst<;>simpa[Act.put,SO] using h1⟩,h2⟩
  .intro A a w hL;exact seqB_ready hL.1
  .rcases hy with ⟨hw,hy⟩|⟨hw,rfl⟩
   .exact .inl ⟨by rw[st.wanted];exact hw,λw hS=>by rw[st.eval];exact hy o rfl rfl w hS.1 hS.2⟩
   .exact .inr ⟨by rw[st.wanted];exact hw,rfl⟩
 | (i,false)::r,q,A,e,bx,Z,a,w,C,DZ,st,h=>by
  simp only[Ul,Amn,Amq,AoA]at DZ;obtain⟨⟨Ba,hr⟩,DZ⟩:=DZ;refine⟨by rw[hr];simp,λj hj=>?_⟩;rw[hr]at hj;obtain rfl:j=i:=by simpa using hj
  refine⟨Ba,wpOpIn_mono ?_ (ow (Q:=Qx g w0 F) (λc a w h=>h) (λa w h=>h.elim) (h w0 F a w st))⟩
  rintro a' w' ⟨e',JS,Z',S2,hk,h'⟩
  have hl:(A.setIfInBounds j true).getD j false=true:=by
   have Av:j<A.size:=by rw[C.size];obtain⟨_,o,ho,_⟩:=mem_ready.1 (show j∈Region.ready .any ops A by rw[hr];simp);exact(Am9.1 ho).1
   simp[Av]
  exact⟨Sq.gO hl hk (Sq.of S2.sat S2.box),HM (S':=Sq (Ir q j) Z' JS) (G:=λl=>l.getD j false=true) (λ_ _ h=>getD_set_true h) (λ_ _ hg h=>Sq.gO hg hk h) _ _ _ _ hl
   (SN SM J1 sa r _ _ _ _ _ _ _ (C.set (by rw[hr];simp) Ba) DZ S2 h')⟩
end regions
theorem Ky.of_wp {g:Gl}{c:Code}{k:List Item}{a:Act}{w:World}{w0 F}{K:Env->Bx->Hp->Prop}
  (h:c.wpIn (wd g.Jz) 0 g.P (Qn g w0 F K) a w) (hk:∀e bx Z,K e bx Z->At g k e bx Z):Ky g.P g.f g.Jz (.code c::k) a w (AEr g w0 F):=by
 intro b cs hf Rm sU G;obtain⟨e,a',w',C,A⟩:=h b k cs sU trivial AEq;cases e with
 | normal=>
  obtain⟨e,bx,Z,st,hK⟩:=C;exact .of_steps A.steps (hk _ _ _ hK w0 F a' w' st b cs hf Rm sU G)
 | panic ch=>
  obtain⟨⟨US,hd⟩,C⟩:=C;obtain⟨todo,hs⟩:=A;obtain⟨fn,G⟩:=G;unfold Rk;rw[US];exact⟨.panicked ch,w',_,C,hs.steps,hf,rfl,hd,fn,by simpa[Frame.atR,hf] using G⟩
 | _=>exact C.elim
section ym
variable {g:Gl}{k:List Item}{e:Env}{bx:Bx}{Z:Hp}
theorem At.region {c:Code}{id:Nat}{ops:Array Oper}{l:List Nat}(A:c=.region id ops false)(C:List.range ops.size=l)
  (h:Seq g ops l e bx Z (λe bx Z=>At g k e bx Z)):At g (.code c::k) e bx Z:=λ_ _ a w st=>
 A▸Ky.of_wp (K:=λe bx Z=>At g k e bx Z) (wpIn_region (C▸Qr l e bx Z a w st h)) (λ_ _ _ h=>h)
theorem At.draw {c:Code}{id:Nat}{ops:Array Oper}{n:Nat}{q:Mj}{plan:List (Nat×Bool)}{tl:List Nat}(hm:g.P.follows .mixedOrders=true)(hc:c=.region id ops true)
  (hp:yj ops n plan tl=true)
  (h:Head g ops q plan e bx Z (λe bx Z=>Seq g ops tl e bx Z (λe bx Z=>At g k e bx Z))):At g (.code c::k) e bx Z:=λw0 F a w st=>by
 subst hc;simp only[yj,Amn,AoJ,Amq]at hp;obtain⟨⟨⟨⟨SM,C⟩,hn⟩,sa⟩,DZ⟩:=hp;have hn':n<=ops.size:=by rcases hn with h|h<;>omega
 have J1:∀A,HeadInv .any ops n A->∀i,i<n->A.getD i true=false->∀t,n<=t->t ∉ Region.ready .any ops A:=by
  intro A inv i hi gN t ht;rcases hn with h|⟨⟨h1,h2⟩,h3⟩
  .intro hr;obtain⟨_,o,ho,_⟩:=mem_ready.1 hr;have:=(Am9.1 ho).1;omega
  .exact tail_waits h2 h3 h1 inv _ i rfl hi gN t ht
 have G:HeadInv .any ops n (Array.replicate ops.size false):=
  ⟨by simp,λj oj _ hl=>(by rw[getD_replicate_false]at hl;cases hl),λt _ ht=>getD_in (by simpa using ht) (getD_replicate_false _ _)⟩
 refine Ky.of_wp (K:=λe bx Z=>At g k e bx Z) (wpIn_region_any hm ?_) (λ_ _ _ h=>h);have H:=SN (K:=λe bx Z=>At g k e bx Z) (tl:=tl) SM J1 sa plan q (Array.replicate ops.size false) e bx Z a { w with drawn:=w.drawn+1 } G DZ st.drew h;have:=J0 (g:=ops.size-n) (λA a w hL=>Kz _ _ A a w hL.1 (sa▸hL.2)) _ _ _ _ H;rw[C,show n+(ops.size-n)=ops.size by omega]at this;exact this
end ym
end Tw
end
section
namespace Tw
open Go
variable [HL]
def Hp.ld (Z:Hp)(a:Addr):Option Value:=
 match Z a.block with
 | some (.cells c _ _)=>if a.spot.isSome then none else c[a.off]?
 | _=>none
theorem Sat.ld {Z:Hp}{w:World}(h:Sat Z w){a:Addr}{v:Value}(A:Z.ld a=some v):w.cell? a=some v:=by
 unfold Hp.ld at A;unfold World.cell?;cases hb:Z a.block with
 | none=>simp[hb]at A
 | some o=>rw[h _ _ hb];rw[hb]at A;exact A
def Af (Z:Hp)(b:Nat):Nat->List Value->Prop
 | _,[]=>True
 | o,v::l=>Z.ld ⟨b,o,none⟩=some v/\Af Z b (o+1) l
theorem Af.get {Z:Hp}{b:Nat}:∀{l:List Value} {o j:Nat} {v:Value},Af Z b o l->l[j]?=some v->Z.ld ⟨b,o+j,none⟩=some v
 | x::l,o,0,v,h,A=>by simp at A;subst A;exact h.1
 | x::l,o,j+1,v,h,A=>by
  have:=Af.get (l:=l) (o:=o+1) (j:=j) h.2 (by simpa using A);rwa[show o+(j+1)=o+1+j by omega]
theorem DU (b o n:Nat):(⟨b,o,none⟩:Addr).add n=⟨b,o+n,none⟩:=by cases n<;>simp[Addr.add]
section ox
variable {P:Program}{e:Env}{bx:Bx}{Z:Hp}{ty T T':TypeId}{x y z:Operand}{k:IntKind}{a b:Int}
theorem Yd.of {op:Op}{v:Value}(m:Sem Value)(h:∀o:Oper,o.op=op->o.type=ty->execOp (AD e) o=(do pure (.value (<-m))))
  (hm:∀w,Sat Z w->Ll bx w->m.run P w=.ok v w):Yd P e bx Z op ty v:=λoo A G w C hb=>by
 rw[h oo A G];simp[hm w C hb]
theorem Yd.pu {op:Op}{v:Value}(h:∀o:Oper,o.op=op->execOp (AD e) o=pure (.value v)):Yd P e bx Z op ty v:=λC A _ w _ _=>by
 rw[h C A];simp
theorem Y.move {v:Value}(C:AD e x=v):Yd P e bx Z (.move x) ty v:=.pu λo A=>by simp[execOp,A,C]
theorem Y.assign {v:Value}(C:AD e x=v):Yd P e bx Z (.assign x) ty v:=.pu λo A=>by simp[execOp,A,C]
theorem Y.AHp {v:Value}(A:AD e z=.bool true)(G:AD e x=v):Yd P e bx Z (.pick z x y) ty v:=
 .pu λo C=>by simp[execOp,C,A,G,asBool]
theorem Y.AHq {v:Value}(A:AD e z=.bool false)(G:AD e y=v):Yd P e bx Z (.pick z x y) ty v:=
 .pu λo C=>by simp[execOp,C,A,G,asBool]
theorem Y.lss (C:AD e x=.int k a)(G:AD e y=.int k b):Yd P e bx Z (.binOp .lss T x y T') ty (.bool (decide (a<b))):=
 λoo A _ w _ _=>by simp[execOp,A,C,G,eqGuard_lss,binOp_lss]
theorem Y.leq (C:AD e x=.int k a)(G:AD e y=.int k b):Yd P e bx Z (.binOp .leq T x y T') ty (.bool (decide (a<=b))):=
 λoo A _ w _ _=>by simp[execOp,A,C,G,eqGuard_leq,binOp_leq]
theorem Y.gtr (C:AD e x=.int k a)(G:AD e y=.int k b):Yd P e bx Z (.binOp .gtr T x y T') ty (.bool (decide (b<a))):=
 λoo A _ w _ _=>by simp[execOp,A,C,G,eqGuard_gtr,binOp_gtr]
theorem Y.geq (C:AD e x=.int k a)(G:AD e y=.int k b):Yd P e bx Z (.binOp .geq T x y T') ty (.bool (decide (b<=a))):=
 λoo A _ w _ _=>by simp[execOp,A,C,G,eqGuard_geq,binOp_geq]
theorem Y.eql (C:AD e x=.int k a)(G:AD e y=.int k b):Yd P e bx Z (.binOp .eql T x y T') ty (.bool (decide (a=b))):=
 λoo A _ w _ _=>by simp[execOp,A,C,G,eqGuard_at_int,binOp_eql];rfl
theorem Y.neq (C:AD e x=.int k a)(G:AD e y=.int k b):Yd P e bx Z (.binOp .neq T x y T') ty (.bool (decide (a≠b))):=
 λoo A _ w _ _=>by simp[execOp,A,C,G,eqGuard_at_int,binOp_neq];rfl
theorem Y.add (C:AD e x=.int k a)(G:AD e y=.int k b):Yd P e bx Z (.binOp .add T x y T') ty (.int k (k.wrap (a+b))):=
 λoo A _ w _ _=>by simp[execOp,A,C,G,eqGuard_add,binOp_add,Op.intArith]
theorem Y.sub (C:AD e x=.int k a)(G:AD e y=.int k b):Yd P e bx Z (.binOp .sub T x y T') ty (.int k (k.wrap (a-b))):=
 λoo A _ w _ _=>by simp[execOp,A,C,G,eqGuard_sub,binOp_sub,Op.intArith]
theorem Y.mul (C:AD e x=.int k a)(G:AD e y=.int k b):Yd P e bx Z (.binOp .mul T x y T') ty (.int k (k.wrap (a*b))):=
 λoo A _ w _ _=>by simp[execOp,A,C,G,eqGuard_mul,binOp_mul,Op.intArith]
def AF (n:Int):Prop:=-9223372036854775808<=n/\n<=9223372036854775807
theorem AF.wrap {n:Int}(h:AF n):IntKind.i64.wrap n=n:=by
 obtain⟨A,C⟩:=h;simp[IntKind.wrap,IntKind.bits,IntKind.signed];split<;>omega
theorem Y.AZe (h:AF (a+b))(A:AD e x=.int .i64 a)(C:AD e y=.int .i64 b):Yd P e bx Z (.binOp .add T x y T') ty (.int .i64 (a+b)):=by
 have:=Y.add (P:=P) (bx:=bx) (Z:=Z) (ty:=ty) (T:=T) (T':=T') A C;rwa[h.wrap]at this
theorem Y.AZf (h:AF (a-b))(A:AD e x=.int .i64 a)(C:AD e y=.int .i64 b):Yd P e bx Z (.binOp .sub T x y T') ty (.int .i64 (a-b)):=by
 have:=Y.sub (P:=P) (bx:=bx) (Z:=Z) (ty:=ty) (T:=T) (T':=T') A C;rwa[h.wrap]at this
theorem Y.bits {op:BinOp}(A:op=.and\/op=.or\/op=.xor\/op=.andNot)(G:AD e x=.int k a)(hy:AD e y=.int k b):
  Yd P e bx Z (.binOp op T x y T') ty (.int k (Go.bits op k a b)):=
 λoo C _ w _ _=>by
  rcases A with rfl|rfl|rfl|rfl <;>
   simp[execOp,C,G,hy,eqGuard_at_int,binOp_and,binOp_or,binOp_xor,binOp_andNot,intBits_and,intBits_or,intBits_xor,intBits_andNot]
theorem Y.shl {k':IntKind}(A:0<=b)(C:b<=k.bits)(hx:AD e x=.int k a)(hy:AD e y=.int k' b):
  Yd P e bx Z (.binOp .shl T x y T') ty (.int k (k.wrap (a*2^b.toNat))):=
 λoo G _ w _ _=>by simp[execOp,G,hx,hy,eqGuard_shl,binOp_shl,shift_shl k k' a b A C]
theorem Y.shr {k':IntKind}(A:0<=b)(C:b<=k.bits)(hx:AD e x=.int k a)(hy:AD e y=.int k' b):
  Yd P e bx Z (.binOp .shr T x y T') ty (.int k (a/2^b.toNat)):=
 λoo G _ w _ _=>by simp[execOp,G,hx,hy,eqGuard_shr,binOp_shr,shift_shr k k' a b A C]
theorem Y.quo (h:b≠0)(C:AD e x=.int k a)(G:AD e y=.int k b):Yd P e bx Z (.binOp .quo T x y T') ty (.int k (k.wrap (a.tdiv b))):=
 λoo A _ w _ _=>by simp[execOp,A,C,G,eqGuard_quo,binOp_quo,Op.intDiv,h]
theorem Y.rem (h:b≠0)(C:AD e x=.int k a)(G:AD e y=.int k b):Yd P e bx Z (.binOp .rem T x y T') ty (.int k (a.tmod b)):=
 λoo A _ w _ _=>by simp[execOp,A,C,G,eqGuard_rem,binOp_rem,Op.intDiv,h]
theorem Y.not {p:Bool}(C:AD e x=.bool p):Yd P e bx Z (.unOp .not T x) ty (.bool (!p)):=
 λG A _ w _ _=>by simp[execOp,A,C,Op.unary]
theorem Y.neg (C:AD e x=.int k a):Yd P e bx Z (.unOp .neg T x) ty (.int k (k.wrap (0-a))):=
 λG A _ w _ _=>by simp[execOp,A,C,Op.unary,Op.intArith]
theorem Y.conv {k':IntKind}(hs:(P.underlying T).isSome=true)(A:P.underlying T'=some (.int k'))(hx:AD e x=.int k a):
  Yd P e bx Z (.convert T T' x) ty (.int k' (k'.wrap a)):=
 λoo G _ w _ _=>by
  have C:P.intKind T'=k':=by simp[Program.intKind,A]
  have:=run_convert_int w T T' k a hs (by rw[C];exact A);rw[C]at this;simp[execOp,G,hx,this]
theorem Y.AKe {p:Option Addr}{n c:Nat}{E:TypeId}(C:P.underlying T=some (.slice E))(hx:AD e x=.slice p n c){ts:Array TypeId}(A:ts=#[T]):
  Yd P e bx Z (.call { callee:=.builtin .len,args:=#[x],argTypes:=ts }) ty (.int .i64 n):=λoo G ht w _ _=>by
 subst A;simp[execOp,G,resolve,invoke,builtin,hx,Builtin.len_,run_underlying C,goInt]
theorem Y.AZg {p:Option Addr}{n c:Nat}{E:TypeId}(C:P.underlying T=some (.slice E))(hx:AD e x=.slice p n c){ts:Array TypeId}(A:ts=#[T]):
  Yd P e bx Z (.call { callee:=.builtin .cap,args:=#[x],argTypes:=ts }) ty (.int .i64 c):=λoo G ht w _ _=>by
 subst A;simp[execOp,G,resolve,invoke,builtin,hx,Builtin.cap_,run_underlying C,goInt]
theorem Y.AKf {s:ByteArray}(C:P.underlying T=some .string)(hx:AD e x=.string s){ts:Array TypeId}(A:ts=#[T]):
  Yd P e bx Z (.call { callee:=.builtin .len,args:=#[x],argTypes:=ts }) ty (.int .i64 s.size):=λoo G ht w _ _=>by
 subst A;simp[execOp,G,resolve,invoke,builtin,hx,Builtin.len_,run_underlying C,goInt]
theorem Y.min2 {k':IntKind}{ts:Array TypeId}(C:AD e x=.int k a)(G:AD e y=.int k' b):
  Yd P e bx Z (.call { callee:=.builtin .min,args:=#[x,y],argTypes:=ts }) ty (.int k (if b<a then b else a)):=λoo A ht w _ _=>by
 simp[execOp,A,resolve,invoke,builtin,C,G,run_min_int2]
theorem Y.max2 {k':IntKind}{ts:Array TypeId}(C:AD e x=.int k a)(G:AD e y=.int k' b):
  Yd P e bx Z (.call { callee:=.builtin .max,args:=#[x,y],argTypes:=ts }) ty (.int k (if b > a then b else a)):=λoo A ht w _ _=>by
 simp[execOp,A,resolve,invoke,builtin,C,G,run_max_int2]
theorem Y.fieldAddr {b o f off:Nat}{A:Array Field}{fd:Field}{a':Addr}(C:P.underlying T=some (.struct A))(hf:A[f]?=some fd)(hs:∀w,((Go.sizeOf fd.type).run P w)=.ok (off+1) w)
  (hx:AD e x=.pointer (some ⟨b,o,none⟩)) (G:a'=⟨b,o+fd.offset,none⟩):Yd P e bx Z (.fieldAddr T x f) ty (.pointer (some a')):=
 λoo ho _ w _ _=>by
  subst G;simp[execOp,ho,hx,Instr.fieldAt,run_underlying C,hf,Instr.sureAddr,fieldPlace,hs];exact DU b o fd.offset
theorem Y.extract {vs:Array Value}{i:Nat}{v:Value}(G:AD e x=.tuple vs)(C:vs[i]?=some v):Yd P e bx Z (.extract x i) ty v:=
 λoo A _ w _ _=>by simp[execOp,A,G,Instr.extract,C]
theorem Y.AKg {cs:Array Value}{f:Nat}{A:Array Field}{fd:Field}{v:Value}(C:P.underlying T=some (.struct A))(hf:A[f]?=some fd)(G:∀w,(isAgg fd.type).run P w=.ok false w)
  (hx:AD e x=.agg cs) (hv:cs[fd.offset]?=some v):Yd P e bx Z (.field T x f) ty v:=
 λoo ho _ w _ _=>by simp[execOp,ho,hx,Instr.field,run_underlying C,hf,asAgg,part,G,hv]
theorem Y.AKh {cs cs':Array Value}{f n:Nat}{A:Array Field}{fd:Field}(C:P.underlying T=some (.struct A))(hf:A[f]?=some fd)(G:∀w,(isAgg fd.type).run P w=.ok true w)
  (hs:∀w,((Go.sizeOf fd.type).run P w)=.ok n w) (hx:AD e x=.agg cs) (hv:cs.extract fd.offset (fd.offset+n)=cs'):Yd P e bx Z (.field T x f) ty (.agg cs'):=
 λoo ho _ w _ _=>by simp[execOp,ho,hx,Instr.field,run_underlying C,hf,asAgg,part,G,hs,hv]
theorem Y.idx {b o n c sz:Nat}{E:TypeId}{i:Int}{a':Addr}(A:P.underlying T=some (.slice E))(hs:∀w,((Go.sizeOf E).run P w)=.ok sz w)
  (hx:AD e x=.slice (some ⟨b,o,none⟩) n c) (hy:AD e y=.int k i) (hi:0<=i/\i<n) (C:a'=⟨b,o+i.toNat*sz,none⟩):Yd P e bx Z (.indexAddr T x y) ty (.pointer (some a')):=
 λoo G _ w _ _=>by
  subst C;simp[execOp,G,hx,hy,Instr.indexAt,run_underlying A,asIntOf,hi,hs,DU]
theorem Y.AZh {b o n sz:Nat}{E:TypeId}{i:Int}{a':Addr}(A:P.underlying T=some (.array n E))(hs:∀w,((Go.sizeOf E).run P w)=.ok sz w)
  (hx:AD e x=.pointer (some ⟨b,o,none⟩)) (hy:AD e y=.int k i) (hi:0<=i/\i<n) (C:a'=⟨b,o+i.toNat*sz,none⟩):Yd P e bx Z (.indexAddr T x y) ty (.pointer (some a')):=
 λoo G _ w _ _=>by
  subst C;simp[execOp,G,hx,hy,Instr.indexAt,run_underlying A,asIntOf,hi,hs,DU,Instr.sureAddr]
theorem Y.AKi {s:ByteArray}{cs:Array Value}{n:Nat}{E:TypeId}{i:Int}(G:P.underlying T=some (.array n E))(C:∀w,(isAgg E).run P w=.ok false w)(hs:∀w,((Go.sizeOf E).run P w)=.ok 1 w)(hx:AD e x=.agg cs)(hy:AD e y=.int k i)(A:0<=i/\i<n)(hv:cs[i.toNat]?=some (.string s)):
  Yd P e bx Z (.index T x y) ty (.string s):=
 λoo ho _ w _ _=>by simp[execOp,ho,hx,hy,Instr.index,run_underlying G,asIntOf,A,hs,part,C,hv]
theorem Y.AKj {s:ByteArray}{i:Int}{v:UInt8}(G:P.underlying T=some .string)(hx:AD e x=.string s)(hy:AD e y=.int k i)(C:0<=i)(hv:s.data[i.toNat]?=some v):
  Yd P e bx Z (.index T x y) ty (.int .u8 v.toNat):=
 λoo ho _ w _ _=>by
  have A:s[i.toNat]?=some v:=by rw[<-hv];rfl
  simp[execOp,ho,hx,hy,Instr.index,run_underlying G,asIntOf,C,A]
theorem Y.ld {a:Addr}{v:Value}(A:∀w,(isAgg T).run P w=.ok false w)(hx:AD e x=.pointer (some a))(h:Z.ld a=some v):Yd P e bx Z (.load T x) ty v:=
 λoo C _ w G _=>by
  simp[execOp,C,hx,Instr.loadAt,Instr.sureAddr,loadVar,A,load,Sem.run,G.ld h]
theorem Ll.cell {w:World}{b:Nat}{c:Array Value}{t:TypeId}{fr:Nat×Nat}(A:Ll bx w)(hb:(b,Obj.cells c t fr)∈bx)(o:Nat):w.cell? ⟨b,o,none⟩=c[o]?:=by
 simp[World.cell?,A _ hb]
theorem Y.ldb {b o:Nat}{c:Array Value}{t:TypeId}{fr:Nat×Nat}{v:Value}(A:∀w,(isAgg T).run P w=.ok false w)(hx:AD e x=.pointer (some ⟨b,o,none⟩))(hb:(b,Obj.cells c t fr)∈bx)(h:c[o]?=some v):
  Yd P e bx Z (.load T x) ty v:=
 λoo C _ w _ G=>by
  simp[execOp,C,hx,Instr.loadAt,Instr.sureAddr,loadVar,A,load,Sem.run,G.cell hb,h]
theorem Y.lda {b o n:Nat}{vs:List Value}(A:∀w,(isAgg T).run P w=.ok true w)(hs:∀w,((Go.sizeOf T).run P w)=.ok n w)(G:vs.length=n)(hx:AD e x=.pointer (some ⟨b,o,none⟩))(h:Af Z b o vs):
  Yd P e bx Z (.load T x) ty (.agg vs.toArray):=
 λoo ho _ w yn _=>by
  subst G;have:=run_loadCells_list (P:=P) (w:=w) ⟨b,o,none⟩ vs (λj v C=>by rw[show(⟨b,o,none⟩:Addr).add j=⟨b,o+j,none⟩ from DU _ _ _];exact yn.ld (h.get C));simp[execOp,ho,hx,Instr.loadAt,Instr.sureAddr,loadVar,A,hs,this]
theorem Y.AZi {b o n:Nat}{c:Array Value}{t:TypeId}{fr:Nat×Nat}{vs:List Value}(G:∀w,(isAgg T).run P w=.ok true w)(hs:∀w,((Go.sizeOf T).run P w)=.ok n w)(hn:vs.length=n)(hx:AD e x=.pointer (some ⟨b,o,none⟩))
  (hb:(b,Obj.cells c t fr)∈bx) (h:(c.toList.drop o).take n=vs):Yd P e bx Z (.load T x) ty (.agg vs.toArray):=
 λoo ho _ w _ yn=>by
  subst hn;have:=run_loadCells_list (P:=P) (w:=w) ⟨b,o,none⟩ vs (λj v A=>by
   rw[show(⟨b,o,none⟩:Addr).add j=⟨b,o+j,none⟩ from DU _ _ _,yn.cell hb];rw[<-h]at A;have C:j<vs.length:=by
    have:=(Amd.1 A).1;simp at this;omega
   simpa[Am5,C] using A)
  simp[execOp,ho,hx,Instr.loadAt,Instr.sureAddr,loadVar,G,hs,this]
theorem Y.nilCheck {a:Addr}(C:AD e x=.pointer (some a)):Yd P e bx Z (.nilCheck x) ty (.pointer (some a)):=
 .pu λo A=>by simp[execOp,A,C]
theorem Y.vL {f:FuncId}{xs ys:Array Value}(C:AD e x=.func (.func f) xs ys):Yd P e bx Z (.nilCheck x) ty (.func (.func f) xs ys):=
 .pu λo A=>by simp[execOp,A,C]
theorem Y.makeFunc {fn:Fn}{xs ys:Array Operand}{vs us:Array Value}(A:xs.toList.map (AD e)=vs.toList)(C:ys.toList.map (AD e)=us.toList):Yd P e bx Z (.makeFunc fn xs ys) ty (.func fn vs us):=
 λoo G _ w _ _=>by
 have A:xs.map (AD e)=vs:=by rw[<-AnB];simpa using A
 have C:ys.map (AD e)=us:=by rw[<-AnB];simpa using C
 simp[execOp,G,A,C,Instr.makeFunc]
end ox
end Tw
end
section
namespace Tw
open Go
variable [HL]
def sig (ops:Array Oper)(i:Nat):Option (Option Nat×Op×TypeId×Option (Nat×Bool)):=(ops[i]?).map λo=>(o.dst,o.op,o.type,o.guard)
theorem DM {ops:Array Oper}{i:Nat}{d:Option Nat}{op:Op}{ty:TypeId}{gd:Option (Nat×Bool)}(h:sig ops i=some (d,op,ty,gd)):
  ∃o,ops[i]?=some o/\o.dst=d/\o.op=op/\o.type=ty/\o.guard=gd:=by
 unfold sig at h;cases A:ops[i]? with
 | none=>simp[A]at h
 | some o=>
  simp only[A,AnK,Ami,AoZ]at h;exact⟨o,rfl,h.1,h.2.1,h.2.2.1,h.2.2.2⟩
def KO (d:Option Nat)(n:Nat):Bool:=match d with | some d=>Nat.blt d n | none=>true
theorem KO.lt {d:Option Nat}{n:Nat}(h:KO d n=true):∀t,d=some t->t<n:=λt A=>by
 subst A;exact Anj h
section yo
variable {g:Gl}{ops:Array Oper}{q:Mj}{L:List (Nat×List Nat)}{i:Nat}{is:List Nat}{r:List (Nat×Bool)}{e:Env}{bx:Bx}{Z:Hp}{K:Env->Bx->Hp->Prop}{d:Option Nat}{op:Op}{ty:TypeId}{gd:Option (Nat×Bool)}{v:Value}
theorem AP.y (hs:sig ops i=some (d,op,ty,gd))(hw:Aa ops e gd=true)(G:KO d g.n=true)(hy:Yd g.P e bx Z op ty v)(h:K (put e d v) bx Z):AP g ops i e bx Z K:=by
 intro w0 F a w st;obtain⟨o,ho,rfl,A,C,rfl⟩:=DM hs;refine D7 ho (by rw[st.wanted];exact hw) ?_;rw[st.eval,FH (hy o A C w st.sat st.box) (λd=>by simp)];exact⟨_,_,_,st.put _ _ (KO.lt G),h⟩
theorem AP.no (G:sig ops i=some (d,op,ty,gd))(hw:Aa ops e gd=false)(A:KO d g.n=true)(h:K (put e d undef) bx Z):AP g ops i e bx Z K:=by
 intro w0 F a w st;obtain⟨o,C,rfl,A7,Cm,rfl⟩:=DM G;refine ou C (by rw[st.wanted];exact hw) ?_;exact⟨_,_,_,st.put _ _ (KO.lt A),h⟩
theorem Seq.y (C:sig ops i=some (d,op,ty,none))(A:KO d g.n=true)(G:Yd g.P e bx Z op ty v)(h:Seq g ops is (put e d v) bx Z K):Seq g ops (i::is) e bx Z K:=
 AP.y C rfl A G h
theorem Seq.yg (C:sig ops i=some (d,op,ty,gd))(G:Aa ops e gd=true)(A:KO d g.n=true)(hy:Yd g.P e bx Z op ty v)(h:Seq g ops is (put e d v) bx Z K):Seq g ops (i::is) e bx Z K:=
 AP.y C G A hy h
theorem Seq.no (C:sig ops i=some (d,op,ty,gd))(G:Aa ops e gd=false)(A:KO d g.n=true)(h:Seq g ops is (put e d undef) bx Z K):Seq g ops (i::is) e bx Z K:=
 AP.no C G A h
theorem Seq.o (h:AP g ops i e bx Z λC A Z'=>Seq g ops is C A Z' K):Seq g ops (i::is) e bx Z K:=h
theorem Seq.done (h:K e bx Z):Seq g ops [] e bx Z K:=h
theorem H8 {q:Mj}:SL q none=q:=by cases q<;>rfl
theorem ok_none {q:Mj}{i:Nat}{ops:Array Oper}(h:q.ok i=true):((SL q none).ok i&&Xk ops i none)=true:=by rw[H8,h];rfl
theorem Head.y (hs:sig ops i=some (d,op,ty,none))(C:KO d g.n=true)(hy:Yd g.P e bx (Uk q none Z) op ty v)(h:Head g ops q r (put e d v) bx Z K)(A:q.ok i=true:=by rfl):Head g ops q ((i,true)::r) e bx Z K:=by
 obtain⟨o,ho,rfl,rfl,rfl,G⟩:=DM hs;exact⟨none,o,v,ok_none A,ho,.inl ⟨by rw[G];rfl,hy⟩,(KO.lt C),by rw[H8];exact h⟩
theorem Head.yg (hs:sig ops i=some (d,op,ty,gd))(hw:Aa ops e gd=true)(C:KO d g.n=true)(hy:Yd g.P e bx (Uk q none Z) op ty v)(h:Head g ops q r (put e d v) bx Z K)(A:q.ok i=true:=by rfl):Head g ops q ((i,true)::r) e bx Z K:=by
 obtain⟨o,G,rfl,rfl,rfl,rfl⟩:=DM hs;exact⟨none,o,v,ok_none A,G,.inl ⟨hw,hy⟩,(KO.lt C),by rw[H8];exact h⟩
theorem Head.yl (b:Nat)(A:List (List Nat)){D:List Nat}(G:A.filterMap List.head?=D)(C:((SL (some L) (some (b,A))).ok i&&Xk ops i (some (b,A)))=true)(hs:sig ops i=some (d,op,ty,none))(hd:KO d g.n=true)(hy:Yd g.P e bx (Uk (some L) (some (b,A)) Z) op ty v)
  (h:Head g ops (some ((b,D)::L)) r (put e d v) bx Z K):Head g ops (some L) ((i,true)::r) e bx Z K:=by
 subst G;obtain⟨o,ho,rfl,rfl,rfl,hg⟩:=DM hs;exact⟨some (b,A),o,v,C,ho,.inl ⟨by rw[hg];rfl,hy⟩,(KO.lt hd),h⟩
theorem Head.o {q':Mj}(G:Ir q i=q')(h:AP g ops i e bx Z λC A Z'=>N5 q' bx Z A Z'/\Head g ops q' r C A Z' K):Head g ops q ((i,false)::r) e bx Z K:=by
 subst G;exact h
theorem Head.done (h:K e bx Z):Head g ops q [] e bx Z K:=h
theorem St.grown {n ds w0 F e bx Z a w}(st:St n ds w0 F e bx Z a w)(o:Obj):St n ds w0 F e ((w.heap.size,o)::bx) Z a { w with heap:=w.heap.push o }:=by
 have C:∀b o',w.heap[b]?=some o'->b<w.heap.size:=λb o' h=>(Am9.1 h).1;have A:∀b o',w.heap[b]?=some o'->({ w with heap:=w.heap.push o }:World).heap[b]?=some o':=λb o' h=>by
  have:=C _ _ h;show(w.heap.push o)[b]?=some o'
  rw[ApJ,Amb (Nat.ne_of_lt this)];exact h
 refine { st with sat:=λb o' hb=>A _ _ (st.sat b o' hb),box:=λp hp=>?_,free:=λp hp=>?_,nodup:=?_,EZ:=λb hb=>?_,os:=st.os,out:=st.out,grow:=by have:=st.grow;simp;omega }
 .rcases Aml.1 hp with rfl|hp
  .simp
  .exact A _ _ (st.box p hp)
 .rcases Aml.1 hp with rfl|hp
  .refine⟨?_,λhF=>?_⟩
   .cases hs:Z w.heap.size with
    | none=>rfl
    | some o'=>exact absurd (C _ _ (st.sat _ _ hs)) (Nat.lt_irrefl _)
   .have G:=(st.EZ _ hF).1;have h2:=st.grow;simp at G;omega
  .exact st.free p hp
 .refine AnY.2 ⟨λhm=>?_,st.nodup⟩;obtain⟨p,hp,he⟩:=AnA.1 hm;have:=C _ _ (st.box p hp);simp at he;omega
 .obtain⟨G,h2,h3⟩:=st.EZ b hb;refine⟨G,h2,?_⟩;have:b≠w.heap.size:=by have:=st.grow;omega
  show(w.heap.push o)[b]?=_
  rw[ApJ,Amb this];exact h3
theorem AP.box {T:TypeId}{x:Operand}{cs:Array Value}(hs:sig ops i=some (d,.box T x,ty,gd))(hw:Aa ops e gd=true)(C:KO d g.n=true)(hx:(AD e x).cells=cs)
  (h:∀b,K (put e d (.pointer (some ⟨b,0,none⟩))) ((b,.cells cs T (0,0))::bx) Z):AP g ops i e bx Z K:=by
 intro w0 F a w st;obtain⟨o,ho,rfl,A,Cm,G⟩:=DM hs;refine D7 ho (by rw[st.wanted,G];exact hw) ?_;rw[st.eval];have:(execOp (AD e) o).run g.P w=.ok (.value (.pointer (some ⟨w.heap.size,0,none⟩))) { w with heap:=w.heap.push (.cells cs T (0,0)) }:=by
  simp[execOp,A,Instr.box,newVar,newRow,newObj,Sem.run,hx]
 rw[FH this (λd=>by simp)];exact⟨_,_,_,(st.grown _).put _ _ (KO.lt C),h _⟩
theorem AP.alloc {T:TypeId}{z:Value}{cs:Array Value}(hs:sig ops i=some (d,.alloc T,ty,gd))(hw:Aa ops e gd=true)(G:KO d g.n=true)(hz:∀w,(zeroValue T).run g.P w=.ok z w)(C:z.cells=cs)
  (h:∀b,K (put e d (.pointer (some ⟨b,0,none⟩))) ((b,.cells cs T (0,0))::bx) Z):AP g ops i e bx Z K:=by
 intro w0 F a w st;obtain⟨o,ho,rfl,A,Cm,hg⟩:=DM hs;refine D7 ho (by rw[st.wanted,hg];exact hw) ?_;rw[st.eval];have:(execOp (AD e) o).run g.P w=.ok (.value (.pointer (some ⟨w.heap.size,0,none⟩))) { w with heap:=w.heap.push (.cells cs T (0,0)) }:=by
  simp[execOp,A,Instr.alloc,newVar,newRow,newObj,Sem.run,hz,C]
 rw[FH this (λd=>by simp)];exact⟨_,_,_,(st.grown _).put _ _ (KO.lt G),h _⟩
theorem Hp.AA (Z:Hp)(b:Nat)(o:Obj):Z.set b o b=some o:=by simp[Hp.set]
theorem Hp.AN {Z:Hp}{b c:Nat}{o:Obj}(h:c≠b):Z.set b o c=Z c:=by simp[Hp.set,h]
theorem St.open {n ds w0 F e bx Z a w b o}(st:St n ds w0 F e ((b,o)::bx) Z a w):St n ds w0 F e bx (Z.set b o) a w:=by
 have hb:=st.box (b,o) (Amu ..);have hf:=st.free (b,o) (Amu ..);have G:=AnY.1 (show((b::bx.map (·.1))).Nodup from st.nodup);refine { st with sat:=λc o' A=>?_,box:=λp hp=>st.box p (Amk _ hp),free:=λp hp=>?_,nodup:=G.2,EZ:=λc A=>?_ }
 .by_cases h:c=b
  .subst h;rw[Hp.AA]at A;cases A;exact hb
  .rw[Hp.AN h]at A;exact st.sat c o' A
 .have C:=st.free p (Amk _ hp);have:p.1≠b:=λh=>G.1 (AnA.2 ⟨p,hp,h⟩);exact⟨by rw[Hp.AN this];exact C.1,C.2⟩
 .obtain⟨C,h2,h3⟩:=st.EZ c A;have:c≠b:=λh=>hf.2 (h▸A);exact⟨C,by rw[Hp.AN this];exact h2,h3⟩
theorem AP.AKk {T:TypeId}{x:Operand}{cs:Array Value}(hs:sig ops i=some (d,.box T x,ty,gd))(hw:Aa ops e gd=true)(hd:KO d g.n=true)(hx:(AD e x).cells=cs)
  (h:∀b,Z b=none->K (put e d (.pointer (some ⟨b,0,none⟩))) bx (Z.set b (.cells cs T (0,0)))):AP g ops i e bx Z K:=by
 intro w0 F a w st;refine wpOpIn_mono ?_ (AP.box (K:=λG C Z'=>Z'=Z/\∃b,G=put e d (.pointer (some ⟨b,0,none⟩))/\C=(b,.cells cs T (0,0))::bx) hs hw hd hx (λb=>⟨rfl,b,rfl,rfl⟩) w0 F a w st)
 rintro a' w' ⟨_,_,_,A,rfl,b,rfl,rfl⟩
 exact⟨_,_,_,A.open,h b (A.free _ (Amu ..)).1⟩
theorem AP.Un {T:TypeId}{z:Value}{cs:Array Value}(hs:sig ops i=some (d,.alloc T,ty,gd))(hw:Aa ops e gd=true)(hd:KO d g.n=true)(hz:∀w,(zeroValue T).run g.P w=.ok z w)(hc:z.cells=cs)
  (h:∀b,Z b=none->K (put e d (.pointer (some ⟨b,0,none⟩))) bx (Z.set b (.cells cs T (0,0)))):AP g ops i e bx Z K:=by
 intro w0 F a w st;refine wpOpIn_mono ?_ (AP.alloc (K:=λG C Z'=>Z'=Z/\∃b,G=put e d (.pointer (some ⟨b,0,none⟩))/\C=(b,.cells cs T (0,0))::bx) hs hw hd hz hc (λb=>⟨rfl,b,rfl,rfl⟩) w0 F a w st)
 rintro a' w' ⟨_,_,_,A,rfl,b,rfl,rfl⟩
 exact⟨_,_,_,A.open,h b (A.free _ (Amu ..)).1⟩
def AJ (P:Program){α:Type}(m:Sem α)(Z:Hp)(Φ:α->Hp->Prop):Prop:=
 ∀w (F:Nat->Prop),Sat Z w->(∀b,F b->b<w.heap.size/\Z b=none)->∃v A Z',m.run P w=.ok v A/\Φ v Z'/\Fin Z' F w A
theorem AJ.mono {P:Program}{α:Type}{m:Sem α}{Φ A:α->Hp->Prop}(h:AJ P m Z Φ)(C:∀v Z',Φ v Z'->A v Z'):AJ P m Z A:=λw F G hF=>
 let ⟨v,w',Z',h1,h2,h3⟩:=h w F G hF
 ⟨v,w',Z',h1,C _ _ h2,h3⟩
theorem St.lt {n ds w0 F e bx Z a w}(st:St n ds w0 F e bx Z a w):∀b,(F b\/b∈bx.map (·.1))->b<w.heap.size/\Z b=none:=by
 rintro b (h|h)
 .have A:=st.EZ b h;have C:=st.grow;exact⟨by omega,A.2.1⟩
 .obtain⟨p,hp,rfl⟩:=AnA.1 h;exact⟨(Am9.1 (st.box p hp)).1,(st.free p hp).1⟩
theorem St.fin {n ds w0 F e bx Z a w Z' w'}(st:St n ds w0 F e bx Z a w)(h:Fin Z' (λb=>F b\/b∈bx.map (·.1)) w w'):St n ds w0 F e bx Z' a w':=by
 refine { st with sat:=h.sat,box:=λp hp=>?_,free:=λp hp=>⟨(h.EZ p.1 (.inr (AnA.2 ⟨p,hp,rfl⟩))).1,(st.free p hp).2⟩,EZ:=λb hb=>?_,os:=st.os.trans h.os,out:=h.out.trans st.out,grow:=AnL st.grow h.grow }
 .rw[(h.EZ p.1 (.inr (AnA.2 ⟨p,hp,rfl⟩))).2];exact st.box p hp
 .obtain⟨A,_,C⟩:=st.EZ b hb;exact⟨A,(h.EZ b (.inl hb)).1,(h.EZ b (.inl hb)).2.trans C⟩
theorem AP.Xl (hs:sig ops i=some (d,op,ty,gd))(hw:Aa ops e gd=true)(hd:KO d g.n=true)(m:Sem Value)(hm:∀o:Oper,o.op=op->o.type=ty->execOp (AD e) o=(do pure (.value (<-m))))
  (h:AJ g.P m Z λv Z'=>K (put e d v) bx Z'):AP g ops i e bx Z K:=by
 intro w0 F a w st;obtain⟨o,ho,rfl,A,G,rfl⟩:=DM hs;refine D7 ho (by rw[st.wanted];exact hw) ?_;obtain⟨v,w',Z',h1,h2,h3⟩:=h w _ st.sat st.lt;rw[st.eval];have C:=hm o A G;rw[FH (by rw[C];simp only[Sem.run_bind,h1,Result.andThen_ok];rfl) (λd=>by simp)];exact⟨_,_,_,(st.fin h3).put _ _ (KO.lt hd),h2⟩
theorem AP.AEv (hs:sig ops i=some (d,op,ty,gd))(hw:Aa ops e gd=true)(hd:KO d g.n=true)(m:Sem Unit)(hm:∀o:Oper,o.op=op->o.type=ty->execOp (AD e) o=(do m;pure .skip))
  (h:AJ g.P m Z λ_ Z'=>K (put e d undef) bx Z'):AP g ops i e bx Z K:=by
 intro w0 F a w st;obtain⟨o,ho,rfl,A,G,rfl⟩:=DM hs;refine D7 ho (by rw[st.wanted];exact hw) ?_;obtain⟨v,w',Z',h1,h2,h3⟩:=h w _ st.sat st.lt;rw[st.eval];have C:=hm o A G;rw[FH (by rw[C];simp only[Sem.run_bind,h1,Result.andThen_ok];rfl) (λd=>by simp)];exact⟨_,_,_,(st.fin h3).put _ _ (KO.lt hd),h2⟩
def BV (R:Rr)(Φ:Value->Hp->Prop):Rr
 | .returned v,Z=>Φ v Z
 | .panicked A,Z=>R (.panicked A) Z
 | .outgrown,_=>False
theorem AP.call {f:FuncId}{args:Array Value}(hs:sig ops i=some (d,op,ty,gd))(hw:Aa ops e gd=true)(hd:KO d g.n=true)
  (hm:∀o:Oper,o.op=op->o.type=ty->∀w,(execOp (AD e) o).run g.P w=.ok (.enter f args) w)
  (h:Spec g.P f args Z (BV g.R λv Z'=>K (put e d v) bx Z')):AP g ops i e bx Z K:=by
 intro w0 F a w st;obtain⟨o,ho,rfl,G,Cm,rfl⟩:=DM hs;refine D7 ho (by rw[st.wanted];exact hw) ?_;rw[st.eval,FH (hm o G Cm w) (λd=>by simp)];refine⟨λhh=>(by cases hh),ov (Calls.mono (h w _ st.sat st.lt) λen w'=>?_)⟩
 rintro⟨Z',A,hf⟩
 have C:=st.fin hf;cases en with
 | returned v=>exact⟨_,_,_,C.put _ _ (KO.lt hd),A⟩
 | panicked ch=>
  rcases g.pan with ⟨h1,h2⟩|CU
  .exact⟨⟨h1,C.defers.trans h2⟩,Z',A,C.toFin⟩
  .exact absurd A (CU ch Z')
 | outgrown=>exact A.elim
theorem Uo {P:Program}{ρ:Operand->Value}{x:Operand}{xs:Array Operand}{ts:Array TypeId}{f:FuncId}{fst cap vs args:Array Value}
  (G:∀args w,(callFunc f args).run P w=.ok (.enter f args) w) (hx:ρ x=.func (.func f) fst cap) (A:xs.toList.map ρ=vs.toList) (C:fst++vs++cap=args)
  (o:Oper) (ho:o.op=.call { callee:=.value x,args:=xs,argTypes:=ts }) (w:World) :
  (execOp ρ o).run P w=.ok (.enter f args) w:=by
 subst C;have A:xs.map ρ=vs:=by rw[<-AnB];simpa using A
 simp only[execOp,ho,resolve,hx,A,Deferred.ofValue,invoke,bind,Sem.bind,pure];exact G _ w
end yo
end Tw
end
section
namespace Tw
open Go
variable [HL]
def SP (c:Array Value)(o:Nat):List Value->Array Value
 | []=>c
 | v::vs=>SP (c.setIfInBounds o v) (o+1) vs
theorem Is:∀(vs:List Value) (c:Array Value) (o:Nat),(SP c o vs).size=c.size
 | [],_,_=>rfl
 | v::vs,c,o=>by simp[SP,Is vs]
theorem XF:∀(vs:List Value) (c:Array Value) (o j:Nat),o+vs.length<=c.size->
  (SP c o vs)[j]?=if o<=j/\j<o+vs.length then vs[j-o]? else c[j]?
 | [],c,o,j,_=>by rw[Amb (by simp only[Apo];omega)];rfl
 | v::vs,c,o,j,h=>by
  simp only[AnN]at h;rw[SP,XF vs _ _ j (by simp;omega)];by_cases A:o+1<=j/\j<o+1+vs.length
  .rw[Amc A,Amc (by simp;omega),show j-o=(j-(o+1))+1 by omega,AnV]
  .rw[Amb A];by_cases C:j=o
   .subst C;rw[Amc (by simp),AoW];simp[show j<c.size by omega]
   .rw[Amb (by simp;omega),Aos (Ann C)]
section
variable {P:Program}
theorem HN (b o:Nat)(t:TypeId):∀(vs:List Value) (i:Nat) (c:Array Value) (w:World),w.heap[b]?=some (.cells c t (0,0))->o+i+vs.length<=c.size->(∀v∈vs,v.oneCell'=true)->
  (storeCells ⟨b,o,none⟩ vs i).run P w=.ok () (w.setRow b (SP c (o+i) vs))
 | [],i,c,w,A,hl,_=>by
  have Av:b<w.heap.size:=(Am9.1 A).1;have hv:w.heap[b]=.cells c t (0,0):=(Am9.1 A).2;simp only[storeCells,SP];show Result.ok () w=_
  congr 1
  unfold World.setRow;cases w with
  | mk heap tape drawn os C=>
   congr 1
   apply Array.ext
   .simp
   .intro k h1 h2;simp only[Array.getElem_modify];split
    .rename_i hk;subst hk;simp at hv;simp[hv]
    .rfl
 | v::vs,i,c,w,A,hl,h1=>by
  simp only[AnN]at hl;have eE:w.cell? ⟨b,o+i,none⟩=some c[o+i]:=by
   simp[World.cell?,A]
  have hfr:w.frozen? ⟨b,o+i,none⟩=false:=by simp[World.frozen?,A]
  have G:(⟨b,o,none⟩:Addr).add i=⟨b,o+i,none⟩:=DU b o i;have AZk:=setCell_eq_setRow w b (o+i) c t (0,0) v A;have S9:=setRow_heap w b c (c.setIfInBounds (o+i) v) t (0,0) A;have ih:=HN b o t vs (i+1) (c.setIfInBounds (o+i) v) (w.setRow b (c.setIfInBounds (o+i) v)) S9 (by simp;omega) (λu hu=>h1 u (Amk _ hu));rw[setRow_setRow]at ih;have HG:=run_store P w ⟨b,o+i,none⟩ v .plain (h1 v (Amu ..));simp only[storeCells,G,Sem.run_bind,HG,eE,hfr,Aof,AoH,Result.andThen_ok,AZk,ih,SP];rw[Apc]
theorem Vq (b o:Nat)(t ty:TypeId)(v:Value)(c:Array Value)(w:World){n:Nat}(hs:∀w,(Go.sizeOf ty).run P w=.ok n w)(G:v.cells.size=n)(C:w.heap[b]?=some (.cells c t (0,0)))
  (hl:o+n<=c.size) (A:∀u∈v.cells.toList,u.oneCell'=true) :
  (Instr.storeAt ty (.pointer (some ⟨b,o,none⟩)) v).run P w=.ok () (w.setRow b (SP c o v.cells.toList)):=by
 have:=HN (P:=P) b o t v.cells.toList 0 c w C (by simp;omega) A;simp[Instr.storeAt,Instr.sureAddr,storeVar,hs,G,this]
end
theorem St.wrote {n ds w0 F e bx Z a w j b c c' t}(st:St n ds w0 F e bx Z a w)(hj:bx[j]?=some (b,Obj.cells c t (0,0))):
  St n ds w0 F e (bx.set j (b,.cells c' t (0,0))) Z a (w.setRow b c'):=by
 have hm:(b,Obj.cells c t (0,0))∈bx:=Ame hj;have hb:=st.box _ hm;have hf:=st.free _ hm;have G:(bx.set j (b,Obj.cells c' t (0,0))).map (·.1)=bx.map (·.1):=by
  rw[AqE];have:(bx.map (·.1))[j]?=some b:=by simp[hj]
  obtain⟨Av,heq⟩:=Amd.1 this;rw[<-heq,AqP]
 have oy:∀k,k≠b->(w.setRow b c').heap[k]?=w.heap[k]?:=λk C=>setRow_other w b k c' C;refine { st with sat:=λk o C=>?_,box:=λp hp=>?_,free:=λp hp=>?_,nodup:=by rw[G];exact st.nodup,EZ:=λk C=>?_,os:=st.os,out:=st.out,grow:=by simpa using st.grow }
 .have:k≠b:=λh=>by rw[h,hf.1]at C;cases C
  rw[oy k this];exact st.sat k o C
 .by_cases h:p.1=b
  ·
   obtain⟨i,hi⟩:=AnC.1 hp;have JZ:i=j:=by
    have A:((bx.set j (b,Obj.cells c' t (0,0))).map (·.1))[i]?=some b:=by simp only[Am8,hi,AnK,h]
    rw[G]at A;have h2:(bx.map (·.1))[j]?=some b:=by simp[hj]
    have Rn:=(Amd.1 A).1;exact(List.getElem?_inj Rn st.nodup).1 (A.trans h2.symm)
   subst JZ;have Av:i<bx.length:=(Amd.1 hj).1;rw[AnP Av]at hi;cases hi;exact setRow_heap w b c c' t (0,0) hb
  .rw[oy _ h];rcases Aoj hp with A|A
   .exact st.box p A
   .exact absurd (by rw[A]) h
 .rcases Aoj hp with A|A
  .exact st.free p A
  .rw[A];exact hf
 .obtain⟨A,h2,h3⟩:=st.EZ k C;have:k≠b:=λh=>hf.2 (h▸C);exact⟨A,h2,by rw[oy k this];exact h3⟩
section yo
variable {g:Gl}{ops:Array Oper}{i:Nat}{e:Env}{bx:Bx}{Z:Hp}{K:Env->Bx->Hp->Prop}{d:Option Nat}{op:Op}{ty T:TypeId}{gd:Option (Nat×Bool)}
theorem AP.AKl {x y:Operand}{j b o n:Nat}{c c':Array Value}{t:TypeId}{v:Value}(hs:sig ops i=some (none,.store T x y,ty,gd))(hw:Aa ops e gd=true)(hz:∀w,(Go.sizeOf T).run g.P w=.ok n w)
  (hx:AD e x=.pointer (some ⟨b,o,none⟩)) (hy:AD e y=v) (C:bx[j]?=some (b,Obj.cells c t (0,0))) (hn:v.cells.size=n) (hl:Nat.ble (o+n) c.size=true) (h1:(v.cells.toList.all λu=>u.oneCell')=true)
  (hc:SP c o v.cells.toList=c') (h:K e (bx.set j (b,.cells c' t (0,0))) Z):AP g ops i e bx Z K:=by
 intro w0 F a w st;obtain⟨o',ho,hd,G,Cm,hg⟩:=DM hs;refine D7 ho (by rw[st.wanted,hg];exact hw) ?_;rw[st.eval];subst hc;have hb:=st.box _ (Ame C);have:=Vq (P:=g.P) b o t T v c w hz hn hb (Anj hl) (λu hu=>AnJ.1 h1 u hu);have:(execOp (AD e) o').run g.P w=.ok .skip (w.setRow b (SP c o v.cells.toList)):=by
  simp[execOp,G,hx,hy,this]
 rw[FH this (λd=>by simp)];have A:a.put o'.dst undef=a:=by rw[hd];rfl
 simp only[Oper.uponIn_skip,A];exact⟨_,_,_,st.wrote C,h⟩
theorem AJ.store {P:Program}{b o n:Nat}{c:Array Value}{t:TypeId}{v:Value}{Φ:Unit->Hp->Prop}(hz:∀w,(Go.sizeOf T).run P w=.ok n w)(hb:Z b=some (.cells c t (0,0)))(hn:v.cells.size=n)(hl:o+n<=c.size)(G:∀u∈v.cells.toList,u.oneCell'=true)
  (h:Φ () (Z.set b (.cells (SP c o v.cells.toList) t (0,0)))):AJ P (Instr.storeAt T (.pointer (some ⟨b,o,none⟩)) v) Z Φ:=λw F C hF=>by
 refine⟨(),_,_,Vq b o t T v c w hz hn (C _ _ hb) hl G,h,?_,?_,.same rfl rfl rfl,rfl,by simp⟩
 .intro k o' A;by_cases h:k=b
  .subst h;rw[Hp.AA]at A;cases A;exact setRow_heap w k c _ t (0,0) (C _ _ hb)
  .rw[Hp.AN h]at A;rw[setRow_other _ _ _ _ h];exact C k o' A
 .intro k A;have:k≠b:=λh=>by have:=(hF k A).2;rw[h,hb]at this;cases this
  exact⟨by rw[Hp.AN this];exact(hF k A).2,setRow_other _ _ _ _ this⟩
theorem AP.store {x y:Operand}{p v:Value}(C:sig ops i=some (none,.store T x y,ty,gd))(G:Aa ops e gd=true)(hx:AD e x=p)(hy:AD e y=v)
  (h:AJ g.P (Instr.storeAt T p v) Z λ_ Z'=>K e bx Z'):AP g ops i e bx Z K:=
 AP.AEv C G rfl (Instr.storeAt T p v) (λo A _=>by simp[execOp,A,hx,hy]) h
end yo
section ox
variable {P:Program}{e:Env}{bx:Bx}{Z:Hp}{ty T:TypeId}
theorem Y.build {ps:Array (Nat×Operand)}{vs:List (Nat×Value)}{cs:Array Value}(hv:ps.toList.map (λp=>(p.1,AD e p.2))=vs)(A:P.built T vs=some cs):Yd P e bx Z (.build T ps) ty (.agg cs):=λoo G _ w _ _=>by
 have C:(ps.map λ(i,x)=>(i,AD e x)).toList=vs:=by rw[<-hv];simp
 have:=run_build (P:=P) w T (ps.map λ(i,x)=>(i,AD e x)) cs (by rw[C];exact A);simp only[execOp,G,Sem.run_bind,this,Result.andThen_ok];rfl
end ox
def Kb (P:Program)(e:Env)(bx:Bx)(Z:Hp):List ResultVar->List Value->Prop
 | [],vs=>vs=[]
 | .tmp t::r,vs=>∃us,vs=e t::us/\Kb P e bx Z r us
 | .cell p T::r,vs=>∃v us,vs=v::us/\(∃a,e p=.pointer (some a)/\∀w,Sat Z w->Ll bx w->(loadVar T a).run P w=.ok v w)/\Kb P e bx Z r us
def Xm:List Value->Value
 | [v]=>v
 | vs=>.tuple vs.toArray
def vM (tmps:Array Value):ResultVar->Sem Value
 | .tmp t=>pure (tmps.getD t undef)
 | .cell a t=>do loadVar t (<-asAddr (tmps.getD a undef))
theorem Kb.run {P:Program}{e:Env}{bx:Bx}{Z:Hp}{tmps:Array Value}{w:World}(A:∀t,tmps.getD t undef=e t)(G:Sat Z w)(hb:Ll bx w):∀(rs:List ResultVar) (vs:List Value),Kb P e bx Z rs vs->
  (rs.mapM (vM tmps)).run P w=Result.ok vs w
 | [],vs,h=>by simp only[Kb]at h;subst h;simp
 | .tmp t::r,vs,h=>by
  obtain⟨us,rfl,h⟩:=h;have C:(vM tmps (.tmp t)).run P w=.ok (e t) w:=by simp only[vM,Sem.run_pure,A]
  simp only[AqQ,Sem.run_bind,Sem.run_pure,Result.andThen_ok,Kb.run A G hb r us h,C]
 | .cell p T::r,vs,h=>by
  obtain⟨v,us,rfl,⟨a,ha,hl⟩,h⟩:=h;have h2:(vM tmps (.cell p T)).run P w=.ok v w:=by
   have C:tmps.getD p undef=.pointer (some a):=(A p).trans ha;simp only[vM,Sem.run_bind,Sem.run_pure,Result.andThen_ok,C,asAddr,hl w G hb]
  simp only[AqQ,Sem.run_bind,Sem.run_pure,Result.andThen_ok,Kb.run A G hb r us h,h2]
theorem Kb.results {P:Program}{e:Env}{bx:Bx}{Z:Hp}{fn:Func}{rs:List ResultVar}{vs:List Value}(hr:fn.results=rs.toArray)(h:Kb P e bx Z rs vs)(a:Act)(w:World)
  (G:∀t,a.tmps.getD t undef=e t) (hs:Sat Z w) (hb:Ll bx w):(results fn a.tmps).run P w=.ok (Xm vs) w:=by
 have A:=Kb.run G hs hb _ _ h;have C:Go.results fn a.tmps=(do let vs <-fn.results.mapM (vM a.tmps);pure (if h:vs.size=1 then vs[0] else .tuple vs)):=rfl;rw[C,hr];simp only[List.mapM_toArray,Sem.run_bind,Sem.run_map,A,Result.andThen_ok];cases vs with
 | nil=>rfl
 | cons v vs=>cases vs<;>rfl
theorem AEx {P:Program}{bx:Bx}{Z:Hp}{T:TypeId}{b o:Nat}{c:Array Value}{t:TypeId}{fr:Nat×Nat}{v:Value}(A:∀w,(isAgg T).run P w=.ok false w)(hb:(b,Obj.cells c t fr)∈bx)(h:c[o]?=some v):
  ∀w,Sat Z w->Ll bx w->(loadVar T ⟨b,o,none⟩).run P w=.ok v w:=λw _ C=>by
 simp[loadVar,A,load,Sem.run,C.cell hb,h]
theorem yp {P:Program}{bx:Bx}{Z:Hp}{T:TypeId}{b n:Nat}{c:Array Value}{t:TypeId}{fr:Nat×Nat}(A:∀w,(isAgg T).run P w=.ok true w)(hs:∀w,((Go.sizeOf T).run P w)=.ok n w)(G:c.size=n)(hb:(b,Obj.cells c t fr)∈bx):
  ∀w,Sat Z w->Ll bx w->(loadVar T ⟨b,0,none⟩).run P w=.ok (.agg c) w:=λw _ yn=>by
 subst G;have:=run_loadCells_list (P:=P) (w:=w) ⟨b,0,none⟩ c.toList (λj v C=>by
  rw[show(⟨b,0,none⟩:Addr).add j=⟨b,0+j,none⟩ from DU _ _ _,yn.cell hb];simpa using C)
 simp at this;simp[loadVar,A,hs,this]
theorem D5 {P:Program}{bx:Bx}{Z:Hp}{T:TypeId}{a:Addr}{v:Value}(A:∀w,(isAgg T).run P w=.ok false w)(h:Z.ld a=some v):∀w,Sat Z w->Ll bx w->(loadVar T a).run P w=.ok v w:=λw C _=>by
 simp[loadVar,A,load,Sem.run,C.ld h]
section ends
variable {g:Gl}{k:List Item}{e:Env}{bx:Bx}{Z:Hp}
theorem At.gQ {c:Code}{fn:Func}{rs:List ResultVar}{vs:List Value}(G:c=Code.ret)(hf:g.P.funcs[g.f]?=some fn)(hr:fn.results=rs.toArray)(h:Kb g.P e bx (left g.ds Z) rs vs)(C:g.R (.returned (Xm vs)) (left g.ds Z))
  (A:g.Jz=none:=by rfl) (hm:Marks g.ds Z:=by trivial):At g (.code c::k) e bx Z:=
 At.ret G hf (λa w he hs hb=>h.results hr a w he hs hb) C A hm
theorem At.APp {fn:Func}{rs:List ResultVar}{vs:List Value}(hf:g.P.funcs[g.f]?=some fn)(hr:fn.results=rs.toArray)(h:Kb g.P e bx (left g.ds Z) rs vs)(C:g.R (.returned (Xm vs)) (left g.ds Z))
  (A:g.Jz=none:=by rfl) (hm:Marks g.ds Z:=by trivial):At g [] e bx Z:=
 At.done hf (λa w G hs hb=>h.results hr a w G hs hb) C A hm
end ends
end Tw
end
section
namespace Tw
open Go
variable [HL]
def cl:Code->Code
 | .seq a _=>a | .cond _ a _=>a | .block _ a=>a | .loop a=>a | .scope a=>a | .rangeFunc _ _ a _=>a | c=>c
def cr:Code->Code
 | .seq _ b=>b | .cond _ _ b=>b | .rangeFunc _ _ _ b=>b | c=>c
def cO:Code->Array Oper
 | .region _ ops _=>ops | _=>#[]
def Qt (P:Program)(t:TypeId)(f:Nat):Field:=
 match P.underlying t with
 | some (.struct A)=>A.getD f default
 | _=>default
theorem nt {b:Bool}(h:(!b)=true):b=false:=by simpa using h
theorem nf {b:Bool}(h:(!b)=false):b=true:=by simpa using h
def Ext (Z Z':Hp):Prop:=∀b o,Z b=some o->Z' b=some o
theorem Ext.refl (Z:Hp):Ext Z Z:=λ_ _ h=>h
theorem Ext.trans {Z Z' A:Hp}(h:Ext Z Z')(C:Ext Z' A):Ext Z A:=λb o hb=>C b o (h b o hb)
theorem Ext.set {Z:Hp}{b:Nat}{o:Obj}(h:Z b=none):Ext Z (Z.set b o):=λc o' A=>by
 have:c≠b:=λe=>by rw[e,h]at A;cases A
 rw[Hp.AN this];exact A
theorem Ext.ld {Z Z':Hp}(h:Ext Z Z'){a:Addr}{v:Value}(A:Z.ld a=some v):Z'.ld a=some v:=by
 unfold Hp.ld at *;cases hb:Z a.block with
 | none=>simp[hb]at A
 | some o=>rw[h _ _ hb];rw[hb]at A;exact A
theorem At.ofL {g:Gl}{k:List Item}{e:Env}{bx:Bx}{Z:Hp}{l:List (Nat×Value)}(A:Live e l)(h:∀J,At g k (N4 J l) bx Z):At g k e bx Z:=At.live A (h e)
def Kp (L:List Nat)(Z Z':Hp):Prop:=∀b∈L,∀o,Z b=some o->Z' b=some o
theorem Kp.H9 {L:List Nat}{Z Z':Hp}(h:Ext Z Z'):Kp L Z Z':=λb _ o hb=>h b o hb
theorem Kp.nil {Z Z':Hp}:Kp [] Z Z':=λb hb=>by cases hb
theorem j7 {L:List (Nat×List Nat)}{Z Z':Hp}(h:Kp (L.map Prod.fst) Z Z'):∀x∈L,∀o,Z x.1=some o->Z' x.1=some o:=λx C o A=>h x.1 (AnA.2 ⟨x,C,rfl⟩) o A
theorem LA {b o:Nat}{s:Option Nat}{L:List (Nat×List Nat)}{A:List (List Nat)}{Z:Hp}{v:Value}(h:Z.ld ⟨b,o,s⟩=some v):(Uk (some L) (some (b,A)) Z).ld ⟨b,o,s⟩=some v:=by
 unfold Hp.ld at *;simpa[Uk] using h
theorem Spec.cont {P:Program}{f:FuncId}{args:Array Value}{Z:Hp}{R:Rr}{Φ C:Value->Hp->Prop}(h:Spec P f args Z (BV R Φ))(G:∀v Z',Φ v Z'->C v Z'):
  Spec P f args Z (BV R C):=h.mono λe Z' A=>by
 cases e with
 | returned v=>exact G v Z' A
 | panicked ch=>exact A
 | outgrown=>exact A
def YF (P:Program)(m:Sem Value)(Z:Hp)(v:Value):Prop:=∀w,Sat Z w->m.run P w=.ok v w
theorem Yd.any {P:Program}{e:Env}{bx:Bx}{Z:Hp}{op:Op}{ty:TypeId}{v:Value}{m:Sem Value}(hm:∀o:Oper,o.op=op->o.type=ty->execOp (AD e) o=(do pure (Next.value (<-m))))(C:YF P m Z v):Yd P e bx Z op ty v:=
 Yd.of m hm (λw A _=>C w A)
def Mp (p:Option Addr)(l c s:Nat):Option Addr:=if c=l then p else p.map (·.add (l*s))
section
variable {P:Program}{e:Env}{bx:Bx}{Z:Hp}{ty T E:TypeId}{x y z:Operand}{k k':IntKind}{l h:Int}{p:Option Addr}{n c s:Nat}
theorem Kc (A:P.underlying T=some (.slice E)):P.elem T=E:=by simp[Program.elem,A]
theorem Y.sla (A:P.underlying T=some (.slice E))(hs:∀w,((Go.sizeOf E).run P w)=.ok s w)(hx:AD e x=.slice p n c)(_:True):Yd P e bx Z (.slice T x none none none) ty (.slice p n c):=λoo ho _ w _ _=>by
 have C:P.underlying T=some (.slice (P.elem T)):=by rw[Kc A];exact A
 have G:=run_sliceAt_slice (P:=P) (w:=w) T (.slice p n c) none none none C;have h2:=run_slice_all (P:=P) (w:=w) T p n c C;simp[execOp,ho,hx,G,h2,hs,Kc A,sliced];cases p<;>simp[Addr.add]
theorem Y.slh (A:P.underlying T=some (.slice E))(hs:∀w,((Go.sizeOf E).run P w)=.ok s w)(hx:AD e x=.slice p n c)(hz:AD e z=.int k h)(C:0<=h/\h<=c):Yd P e bx Z (.slice T x none (some z) none) ty (.slice p h.toNat c):=λoo ho _ w _ _=>by
 have G:P.underlying T=some (.slice (P.elem T)):=by rw[Kc A];exact A
 have h1:=run_sliceAt_slice (P:=P) (w:=w) T (.slice p n c) none (some (.int k h)) none G;have h2:=run_slice_h (P:=P) (w:=w) T p n c G k h C.1 C.2;simp[execOp,ho,hx,hz,h1,h2,hs,Kc A,sliced];cases p<;>simp[Addr.add]
theorem Y.sll (A:P.underlying T=some (.slice E))(hs:∀w,((Go.sizeOf E).run P w)=.ok s w)(hx:AD e x=.slice p n c)(hy:AD e y=.int k l)(C:0<=l/\l<=n):Yd P e bx Z (.slice T x (some y) none none) ty (.slice (Mp p l.toNat c s) (n-l.toNat) (c-l.toNat)):=λoo ho _ w _ _=>by
 have G:P.underlying T=some (.slice (P.elem T)):=by rw[Kc A];exact A
 have h1:=run_sliceAt_slice (P:=P) (w:=w) T (.slice p n c) (some (.int k l)) none none G;have h2:=run_slice_l (P:=P) (w:=w) T p n c G k l C.1 C.2;simp[execOp,ho,hx,hy,h1,h2,hs,Kc A,sliced,Mp]
theorem Y.APr (A:P.underlying T=some (.slice E))(hs:∀w,((Go.sizeOf E).run P w)=.ok s w)(hx:AD e x=.slice p n c)(hy:AD e y=.int k l)(hz:AD e z=.int k' h)(C:0<=l/\l<=h/\h<=c):
  Yd P e bx Z (.slice T x (some y) (some z) none) ty (.slice (Mp p l.toNat c s) (h.toNat-l.toNat) (c-l.toNat)):=λoo ho _ w _ _=>by
 have G:P.underlying T=some (.slice (P.elem T)):=by rw[Kc A];exact A
 have h1:=run_sliceAt_slice (P:=P) (w:=w) T (.slice p n c) (some (.int k l)) (some (.int k' h)) none G;have h2:=run_slice_lh (P:=P) (w:=w) T p n c G k k' l h C.1 C.2.1 C.2.2;simp[execOp,ho,hx,hy,hz,h1,h2,hs,Kc A,sliced,Mp]
theorem j8 (p:Option Addr)(c s:Nat):Mp p 0 c s=p:=by unfold Mp;cases p<;>simp[Addr.add]
theorem Y.APs (A:P.underlying T=some (.slice E))(G:∀w,((Go.sizeOf E).run P w)=.ok s w)(hx:AD e x=.slice p n c)(hy:AD e y=.int k 0)(hz:AD e z=.int k' h)(C:(0:Int)<=0/\0<=h/\h<=c):
  Yd P e bx Z (.slice T x (some y) (some z) none) ty (.slice p h.toNat c):=by
 have:=Y.APr (P:=P) (bx:=bx) (Z:=Z) (ty:=ty) A G hx hy hz C;simpa[j8] using this
theorem Y.AZn (A:P.underlying T=some (.slice E))(G:∀w,((Go.sizeOf E).run P w)=.ok s w)(hx:AD e x=.slice p n c)(hy:AD e y=.int k 0)(C:(0:Int)<=0/\(0:Int)<=n):
  Yd P e bx Z (.slice T x (some y) none none) ty (.slice p n c):=by
 have:=Y.sll (P:=P) (bx:=bx) (Z:=Z) (ty:=ty) A G hx hy C;simpa[j8] using this
theorem Y.AZo {a b:Bool}(A:P.underlying T=some .bool)(G:AD e x=.bool a)(hy:AD e y=.bool b){T':TypeId}:Yd P e bx Z (.binOp .eql T x y T') ty (.bool (a==b)):=λoo C _ w _ _=>by
 simp[execOp,C,G,hy,eqGuard_at_bool,run_eql_bool w T a b A]
theorem Y.AZp {a b:Bool}(A:P.underlying T=some .bool)(G:AD e x=.bool a)(hy:AD e y=.bool b){T':TypeId}:Yd P e bx Z (.binOp .neq T x y T') ty (.bool (!(a==b))):=λoo C _ w _ _=>by
 simp[execOp,C,G,hy,eqGuard_at_bool,run_neq_bool w T a b A]
theorem Y.AZq {a b:ByteArray}(C:P.underlying T=some .string)(hx:AD e x=.string a)(hy:AD e y=.string b){T':TypeId}:Yd P e bx Z (.binOp .eql T x y T') ty (.bool (a.toList==b.toList)):=λoo G _ w _ _=>by
 have _:=C;have A:(binOp .eql T (.string a) (.string b)).run P w=.ok (.bool (a.toList==b.toList)) w:=by simp[binOp,Op.stringOp]
 simp[execOp,G,hx,hy,eqGuard_at_string,A]
theorem Y.AZr {a b:ByteArray}(C:P.underlying T=some .string)(hx:AD e x=.string a)(hy:AD e y=.string b){T':TypeId}:Yd P e bx Z (.binOp .neq T x y T') ty (.bool (!(a.toList==b.toList))):=λoo G _ w _ _=>by
 have _:=C;have A:(binOp .neq T (.string a) (.string b)).run P w=.ok (.bool (!(a.toList==b.toList))) w:=by simp[binOp,Op.stringOp]
 simp[execOp,G,hx,hy,eqGuard_at_string,A]
theorem Y.yq {q:Option Addr}{E:TypeId}(A:P.underlying T=some (.pointer E))(hx:AD e x=.pointer q)(hy:AD e y=.pointer none){T':TypeId}:Yd P e bx Z (.binOp .eql T x y T') ty (.bool q.isNone):=λoo G _ w _ _=>by
 have oz:P.underlying T=some (.pointer (P.pointee T)):=by rw[show P.pointee T=E by simp[Program.pointee,A]];exact A
 have C:=run_eql_pointer_nil w T q oz;simp[execOp,G,hx,hy,eqGuard_at_pointer,C]
theorem Y.yr {q:Option Addr}{E:TypeId}(A:P.underlying T=some (.pointer E))(hx:AD e x=.pointer q)(hy:AD e y=.pointer none){T':TypeId}:Yd P e bx Z (.binOp .neq T x y T') ty (.bool q.isSome):=λoo G _ w _ _=>by
 have oz:P.underlying T=some (.pointer (P.pointee T)):=by rw[show P.pointee T=E by simp[Program.pointee,A]];exact A
 have C:=run_neq_pointer_nil w T q oz;simp[execOp,G,hx,hy,eqGuard_at_pointer,C]
section
variable {u v:Value}{ts:Array TypeId}
theorem Ie (G:AD e x=u)(hy:AD e y=v)(o:Oper)(A:o.op=.call { callee:=.builtin .append,args:=#[x,y],argTypes:=ts })(C:o.type=ty):execOp (AD e) o=(do pure (.value (<-Builtin.append_ ts ty #[u,v]))):=by
 subst C;simp[execOp,A,resolve,invoke,builtin,G,hy]
theorem j9 (G:AD e x=u)(hy:AD e y=v)(o:Oper)(A:o.op=.call { callee:=.builtin .copy,args:=#[x,y],argTypes:=ts })(C:o.type=ty):execOp (AD e) o=(do pure (.value (<-Builtin.copy_ ts ty #[u,v]))):=by
 subst C;simp[execOp,A,resolve,invoke,builtin,G,hy]
theorem dG (G:AD e x=u)(hy:AD e y=v)(o:Oper)(A:o.op=.call { callee:=.builtin .delete,args:=#[x,y],argTypes:=ts })(C:o.type=ty):execOp (AD e) o=(do pure (.value (<-Builtin.delete_ ts ty #[u,v]))):=by
 subst C;simp[execOp,A,resolve,invoke,builtin,G,hy]
theorem gR (G:AD e x=u)(o:Oper)(A:o.op=.call { callee:=.builtin .clear,args:=#[x],argTypes:=ts })(C:o.type=ty):execOp (AD e) o=(do pure (.value (<-Builtin.clear_ ts ty #[u]))):=by
 subst C;simp[execOp,A,resolve,invoke,builtin,G]
end
def Program.Mq (P:Program)(E:TypeId)(m:Nat)(vs:List (Nat×Value)):Option (Array Value):=
 match P.info? E with
 | some i=>match i.zero with
  | some z=>if m*i.size > 2^24 then none else Instr.fill (λj=>some (j*i.size,i.size)) ((Array.range (m*i.size)).map (z.cells[·%z.cells.size]!)) vs
  | none=>none
 | none=>none
theorem Xn {m:Nat}{vs:List (Nat×Value)}{cs:Array Value}(hT:P.underlying T=some (.slice E))(A:Program.Mq P E m vs=some cs)(ps:Array (Nat×Value))(hp:ps.toList=vs)(w:World):
  (Instr.buildSlice T m ps).run P w=.ok (.slice (some ⟨w.heap.size,0,none⟩) m m) { w with heap:=w.heap.push (.cells cs E (0,0)) }:=by
 unfold Program.Mq at A;cases hi:P.info? E with
 | none=>simp[hi]at A
 | some i=>
  cases G:i.zero with
  | none=>simp[hi,G]at A
  | some z=>
   simp only[hi,G]at A;by_cases hm:m*i.size > 2^24
   .simp[hm]at A
   .simp only[hm,AoH]at A;subst hp;by_cases C:m*i.size=0
    .rw[C]at A;have:(Array.range 0).map (λx=>z.cells[x%z.cells.size]!)=#[]:=by simp
     rw[this]at A;have h2:Array.map (λ_=>(default:Value)) (Array.range 0)=#[]:=by simp
     simp[Instr.buildSlice,run_underlying hT,Go.sizeOf,typeInfo,hi,C,h2,A,newRow,newObj,Sem.run]
    .simp[Instr.buildSlice,run_underlying hT,Go.sizeOf,typeInfo,zeroValue,hi,G,hm,C,A,newRow,newObj,Sem.run]
end
theorem AP.Mq {g:Gl}{ops:Array Oper}{i:Nat}{e:Env}{bx:Bx}{Z:Hp}{K:Env->Bx->Hp->Prop}{d:Option Nat}{ty T E:TypeId}{m:Nat}{ps:Array (Nat×Operand)}{vs:List (Nat×Value)}{cs:Array Value}(G:g.P.underlying T=some (.slice E))
  {gd:Option (Nat×Bool)} (hs:sig ops i=some (d,.buildSlice T m ps,ty,gd)) (hw:Aa ops e gd=true) (hd:KO d g.n=true) (hv:ps.toList.map (λp=>(p.1,AD e p.2))=vs) (hc:Program.Mq g.P E m vs=some cs)
  (h:∀b,Z b=none->K (put e d (.slice (some ⟨b,0,none⟩) m m)) bx (Z.set b (.cells cs E (0,0)))):AP g ops i e bx Z K:=by
 intro w0 F a w st;obtain⟨o,ho,rfl,C,Cm,hg⟩:=DM hs;refine D7 ho (by rw[st.wanted,hg];exact hw) ?_;rw[st.eval];have hh:(ps.map λ(i,x)=>(i,AD e x)).toList=vs:=by rw[<-hv];simp
 have:=Xn G hc (ps.map λ(i,x)=>(i,AD e x)) hh w;have:(execOp (AD e) o).run g.P w=.ok (.value (.slice (some ⟨w.heap.size,0,none⟩) m m)) { w with heap:=w.heap.push (.cells cs E (0,0)) }:=by
  simp only[execOp,C,Sem.run_bind,this,Result.andThen_ok];rfl
 rw[FH this (λd=>by simp)];have A:=st.grown (.cells cs E (0,0));exact⟨_,_,_,A.open.put _ _ (KO.lt hd),h _ (A.free _ (Amu ..)).1⟩
def Enters (P:Program)(f:FuncId):Prop:=∀args w,(callFunc f args).run P w=.ok (.enter f args) w
theorem AP.APt {g:Gl}{ops:Array Oper}{i:Nat}{e:Env}{bx:Bx}{Z:Hp}{K:Env->Bx->Hp->Prop}{d:Option Nat}{ty:TypeId}{gd:Option (Nat×Bool)}{x:Operand}{xs:Array Operand}{ts:Array TypeId}
  {f:FuncId} {fst cap vs:Array Value} {u:Value} (hs:sig ops i=some (d,.call { callee:=.value x,args:=xs,argTypes:=ts },ty,gd)) (hw:Aa ops e gd=true) (G:KO d g.n=true)
  (hx:AD e x=u) (A:xs.toList.map (AD e)=vs.toList) (hu:u=.func (.func f) fst cap) (C:Enters g.P f)
  (h:Spec g.P f (fst++vs++cap) Z (BV g.R λv Z'=>K (put e d v) bx Z')):AP g ops i e bx Z K:=
 AP.call hs hw G (λo ho _ w=>Uo C (hx.trans hu) A rfl o ho w) h
def YN (P:Program)(f:FuncId)(args:Array Value)(Z:Hp)(v:Value):Prop:=∀w,Sat Z w->(callFunc f args).run P w=.ok (.value v) w
end Tw
end
section
namespace Tw
open Go
variable [HL]
theorem AJ.pu {P:Program}{α:Type}{m:Sem α}{Z:Hp}{Φ:α->Hp->Prop}{v:α}(hm:∀w,Sat Z w->m.run P w=.ok v w)(h:Φ v Z):AJ P m Z Φ:=λw _ A hF=>
 ⟨v,w,Z,hm w A,h,A,λb hb=>⟨(hF b hb).2,rfl⟩,.same rfl rfl rfl,rfl,Amr _⟩
def Hp.del (Z:Hp)(p:Option Addr):Hp:=λk=>match p with
 | some a=>if k=a.block then none else Z k
 | none=>Z k
def Hp.new (Z Z':Hp):Hp:=λk=>match Z k with
 | none=>Z' k
 | some _=>none
theorem Ext.del {Z Z':Hp}(h:Ext Z Z')(p:Option Addr):Ext (Z.del p) (Z'.del p):=λk o A=>by
 cases p with
 | none=>exact h k o A
 | some a=>simp only[Hp.del]at A ⊢;split at A<;>simp_all [h k o]
theorem Ext.Mr (Z:Hp)(p:Option Addr):Ext (Z.del p) Z:=λk o A=>by
 cases p with
 | none=>exact A
 | some a=>simp only[Hp.del]at A;split at A<;>simp_all
theorem Ext.Cf (Z Z':Hp):Ext (Z.new Z') Z':=λk o A=>by
 simp only[Hp.new]at A;split at A<;>simp_all
theorem Ext.AEy {Z Z':Hp}{p:Option Addr}(hp:∀a,p=some a->Z a.block≠none):Ext (Z.new Z') (Z'.del p):=λk o A=>by
 cases p with
 | none=>exact Ext.Cf Z Z' k o A
 | some a=>
  have G:=hp a rfl;have C:=Ext.Cf Z Z' k o A;simp only[Hp.del];split
  .rename_i h;subst h;simp only[Hp.new]at A;split at A<;>simp_all
  .exact C
theorem Ext.HO {Z Z1 A:Hp}(h:Ext Z1 A):Ext (Z.new Z1) (Z.new A):=λk o C=>by
 simp only[Hp.new]at C ⊢;split at C<;>simp_all [h k o]
theorem Ext.Dc {Z Z1 C:Hp}(h:Ext Z Z1):Ext (Z1.new C) (Z.new C):=λk o A=>by
 simp only[Hp.new]at A ⊢;split at A
 .rename_i G;cases hs:Z k with
  | none=>exact A
  | some o'=>rw[h k o' hs]at G;cases G
 .cases A
def HP (s:Nat)(Z:Hp)(p:Option Addr)(n:Nat)(cs:List Value):Prop:=
 cs.length=n*s/\n<=4611686018427387904/\(n=0\/∃b o,p=some ⟨b,o,none⟩/\Af Z b o cs)
theorem Af.mono {Z Z':Hp}(h:Ext Z Z'){b:Nat}:∀{l:List Value} {o:Nat},Af Z b o l->Af Z' b o l
 | [],_,_=>trivial
 | _::_,_,A=>⟨h.ld A.1,Af.mono h A.2⟩
theorem HP.mono {s:Nat}{Z Z':Hp}(h:Ext Z Z'){p:Option Addr}{n:Nat}{cs:List Value}(A:HP s Z p n cs):HP s Z' p n cs:=
 ⟨A.1,A.2.1,A.2.2.imp id λ⟨b,o,hp,C⟩=>⟨b,o,hp,C.mono h⟩⟩
theorem Af.of {Z:Hp}{b:Nat}:∀{l:List Value} {o:Nat},(∀j v,l[j]?=some v->Z.ld ⟨b,o+j,none⟩=some v)->Af Z b o l
 | [],_,_=>trivial
 | v::l,o,h=>⟨by simpa using h 0 v rfl,Af.of λj u A=>by have:=h (j+1) u (by simpa using A);rwa[show o+(j+1)=o+1+j by omega]at this⟩
theorem Af.part {Z:Hp}{b o i m:Nat}{l:List Value}(h:Af Z b o l):Af Z b (o+i) ((l.drop i).take m):=Af.of λj v A=>by
 have C:l[i+j]?=some v:=by
  rw[Am5]at A;split at A
  .simpa using A
  .cases A
 have:=h.get C;rwa[show o+i+j=o+(i+j) by omega]
def Ch {α:Type}(s:Nat)(E:Hp->List Value->α->Prop)(Z:Hp)(cs:List Value)(xs:List α):Prop:=
 cs.length=xs.length*s/\∀i x,xs[i]?=some x->E Z ((cs.drop (i*s)).take s) x
def AT {α:Type}(s:Nat)(E:Hp->List Value->α->Prop)(Z:Hp)(p:Option Addr)(n:Nat)(xs:List α):Prop:=
 xs.length=n/\∃cs,HP s Z p n cs/\Ch s E Z cs xs
def Iu {α:Type}(E:Hp->List Value->α->Prop):Prop:=∀Z Z' vs x,Ext Z Z'->E Z vs x->E Z' vs x
theorem Ch.mono {α:Type}{s:Nat}{E:Hp->List Value->α->Prop}(C:Iu E){Z Z':Hp}(h:Ext Z Z'){cs:List Value}{xs:List α}(A:Ch s E Z cs xs):Ch s E Z' cs xs:=
 ⟨A.1,λi x G=>C _ _ _ _ h (A.2 i x G)⟩
theorem AT.mono {α:Type}{s:Nat}{E:Hp->List Value->α->Prop}(A:Iu E){Z Z':Hp}(h:Ext Z Z'){p:Option Addr}{n:Nat}{xs:List α}(C:AT s E Z p n xs):AT s E Z' p n xs:=
 let ⟨h1,cs,h2,h3⟩:=C;⟨h1,cs,h2.mono h,h3.mono A h⟩
theorem AT.nil {α:Type}{s:Nat}{E:Hp->List Value->α->Prop}{Z:Hp}{p:Option Addr}:AT s E Z p 0 []:=⟨rfl,[],⟨by simp,by omega,.inl rfl⟩,by simp[Ch]⟩
theorem AT.idx {α:Type}{s:Nat}{E:Hp->List Value->α->Prop}{Z:Hp}{p:Option Addr}{n i:Nat}{xs:List α}{x:α}(hr:AT s E Z p n xs)(C:xs[i]?=some x):
  ∃b o vs,p=some ⟨b,o,none⟩/\E Z vs x/\Af Z b (o+i*s) vs:=by
 obtain⟨h1,cs,⟨hl,_,A⟩,h3⟩:=hr;have hi:i<n:=by rw[<-h1];exact(Amd.1 C).1
 rcases A with A|⟨b,o,hp,G⟩
 .omega
 .exact⟨b,o,_,hp,h3.2 i x C,G.part⟩
theorem AT.big {α:Type}{s:Nat}{E:Hp->List Value->α->Prop}{Z:Hp}{p:Option Addr}{n:Nat}{xs:List α}(A:AT s E Z p n xs):n<=4611686018427387904:=by
 obtain⟨_,cs,⟨_,h,_⟩,_⟩:=A;exact h
theorem AT.ex {α:Type}{s:Nat}{E:Hp->List Value->α->Prop}{Z:Hp}{p:Option Addr}{n k:Nat}{xs:List α}(C:AT s E Z p n xs)(A:k<n):∃y,xs[k]?=some y:=
 ⟨_,Amf (by rw[C.1];exact A)⟩
theorem AI {k n:Nat}(h:k<n)(A:n<=4611686018427387904):AF ((k:Int)+1):=by unfold AF;omega
theorem AQ {α:Type}{xs:List α}{k:Nat}{y:α}(A:xs[k]?=some y):xs.take (k+1)=xs.take k++[y]:=by
 rw[List.take_add_one,A];rfl
theorem dH {α:Type}{xs:List α}{k:Nat}{x y:α}(A:xs[k]?=some y):x∈xs.take (k+1)↔x∈xs.take k\/x=y:=by
 rw[AQ A,Am6,Amo]
def Ms (k:IntKind)(_:Hp)(vs:List Value)(x:Int):Prop:=vs=[.int k x]
theorem Ms.mono (k:IntKind):Iu (Ms k):=λ_ _ _ _ _ h=>h
abbrev Eh (k:IntKind):= AT 1 (Ms k)
theorem Eh.mono {k:IntKind}{Z Z':Hp}(h:Ext Z Z'){p:Option Addr}{n:Nat}{xs:List Int}(A:Eh k Z p n xs):Eh k Z' p n xs:=AT.mono (Ms.mono k) h A
theorem Eh.at {k:IntKind}{Z:Hp}{p:Option Addr}{n:Nat}{xs:List Int}(C:Eh k Z p n xs){i:Nat}{x:Int}(G:xs[i]?=some x):
  ∃b o,p=some ⟨b,o,none⟩/\Z.ld ⟨b,o+i*1,none⟩=some (.int k x):=by
 obtain⟨b,o,vs,hp,rfl,A⟩:=AT.idx C G;exact⟨b,o,hp,A.1⟩
theorem o0 {k:IntKind}{Z:Hp}{cs:List Value}{xs:List Int}:Ch 1 (Ms k) Z cs xs↔cs=xs.map (.int k):=by
 constructor
 .rintro⟨h1,h2⟩
  refine Ani λi=>?_;rw[Am8];cases A:xs[i]? with
  | none=>
   have:=AoB.1 A;simp only[Option.map_none];exact AoB.2 (by omega)
  | some x=>
   have:=h2 i x A;simp only[Ms,An5]at this;have C:((cs.drop i).take 1)[0]?=some (.int k x):=by rw[this];rfl
   rw[Am5]at C;simpa using C
 .rintro rfl
  refine⟨by simp,λi x A=>?_⟩;have G:=(Amd.1 A).1;have hg:=(Amd.1 A).2;simp only[Ms,An5];rw[ApL (by simpa using G)];simp[hg]
def Aw (s:Nat)(Z:Hp)(p:Option Addr)(n c:Nat)(cs:List Value):Prop:=
 cs.length=n*s/\n<=4611686018427387904/\((p=none/\n=0/\c=0)\/∃b o A T,p=some ⟨b,o,none⟩/\Z b=some (.cells A T (0,0))/\n<=c/\o+c*s<=A.size/\(A.toList.drop o).take (n*s)=cs)
theorem Aw.nil {s:Nat}{Z:Hp}:Aw s Z none 0 0 []:=⟨by simp,by omega,.inl ⟨rfl,rfl,rfl⟩⟩
theorem Aw.rd {s:Nat}{Z:Hp}{p:Option Addr}{n c:Nat}{cs:List Value}(h:Aw s Z p n c cs):HP s Z p n cs:=by
 obtain⟨h1,h0,h2⟩:=h;refine⟨h1,h0,?_⟩;rcases h2 with ⟨_,hn,_⟩|⟨b,o,G,T,hp,hb,sb,J2,C⟩
 .exact .inl hn
 .refine .inr ⟨b,o,hp,Af.of λj v A=>?_⟩;rw[<-C,Am5]at A;split at A
  .simp only[Hp.ld,hb];simpa using A
  .cases A
theorem Aw.mono {s:Nat}{Z Z':Hp}(h:Ext Z Z'){p:Option Addr}{n c:Nat}{cs:List Value}(C:Aw s Z p n c cs):Aw s Z' p n c cs:=
 ⟨C.1,C.2.1,C.2.2.imp id λ⟨b,o,A,T,hp,hb,r⟩=>⟨b,o,A,T,hp,h _ _ hb,r⟩⟩
theorem Aw.block {s:Nat}{Z:Hp}{p:Option Addr}{n c:Nat}{cs:List Value}(G:Aw s Z p n c cs):∀a,p=some a->Z a.block≠none:=by
 intro a A;rcases G.2.2 with ⟨hp,_⟩|⟨b,o,C,T,hp,hb,_⟩
 .rw[hp]at A;cases A
 .rw[hp]at A;cases A;rw[hb];simp
theorem Aw.take {s:Nat}{Z:Hp}{p:Option Addr}{n c m:Nat}{cs:List Value}(ho:Aw s Z p n c cs)(hm:m<=n):Aw s Z p m c (cs.take (m*s)):=by
 obtain⟨h1,h0,h2⟩:=ho;have C:m*s<=n*s:=AnM s hm;refine⟨by rw[Amp,h1];omega,by omega,?_⟩;rcases h2 with ⟨hp,hn,hc⟩|⟨b,o,A,T,hp,hb,sb,G,LC⟩
 .exact .inl ⟨hp,by omega,hc⟩
 .exact .inr ⟨b,o,A,T,hp,hb,by omega,G,by rw[<-LC,AqR,AoK C]⟩
class KT (P:Program)(T:TypeId)(E:outParam TypeId)(s bs:outParam Nat):Prop where
 sd:P.underlying T=some (.slice E)
 info:∃i z,P.info? E=some i/\i.zero=some z/\i.size=s/\i.bytes=bs/\z.cells.size=s
 pos:0<s
 AZs:0<bs
def HH (cs:List Value):Prop:=∀u∈cs,u.oneCell'=true
theorem HH.XG {k:IntKind}{xs:List Int}:HH (xs.map (.int k)):=λu A=>by
 obtain⟨x,_,rfl⟩:=AnA.1 A;rfl
section append
variable {P:Program}{T E ty:TypeId}{s bs:Nat}{Z:Hp}{p q:Option Addr}{n c m d:Nat}{cs ys:List Value}{Φ:Value->Hp->Prop}
theorem eG {w:World}(C:Sat Z w){b o:Nat}(h:Af Z b o ys):∀j v,ys[j]?=some v->w.cell? ((⟨b,o,none⟩:Addr).add j)=some v:=λj v A=>by
 rw[DU];exact C.ld (h.get A)
theorem Qu (w:World)(G:Sat Z w)(A:HP s Z q m ys):(Builtin.firstCells s m (.slice q m d)).run P w=.ok ys.toArray w:=by
 rcases A.2.2 with hm|⟨b,o,rfl,C⟩
 .subst hm;have:ys=[]:=AnS (by simpa using A.1);subst this;cases q<;>simp[Builtin.firstCells,loadCells,loadCellsFrom]
 .exact run_firstCells_some (P:=P) w s m ⟨b,o,none⟩ m d ys A.1 (eG G C)
theorem Iw {w:World}(A:Sat Z w):Z w.heap.size=none:=by
 cases h:Z w.heap.size with
 | none=>rfl
 | some o=>exact absurd (Am9.1 (A _ _ h)).1 (Nat.lt_irrefl _)
theorem Fin.alloc {F:Nat->Prop}{w:World}{o:Obj}(hs:Sat Z w)(hF:∀b,F b->b<w.heap.size/\Z b=none)(C:World)(G:C.heap=w.heap.push o)(h1:Gs w C)(h2:C.output=w.output):Fin (Z.set w.heap.size o) F w C:=by
 refine⟨λk u A=>?_,λb hb=>?_,h1,h2,by rw[G];simp⟩
 .rw[G];by_cases h:k=w.heap.size
  .subst h;rw[Hp.AA]at A;cases A;simp
  .rw[Hp.AN h]at A;have:=hs k u A;have Av:=(Am9.1 this).1;rw[ApJ,Amb h];exact this
 .have:=(hF b hb).1;refine⟨by rw[Hp.AN (by omega)];exact(hF b hb).2,?_⟩;rw[G,ApJ,Amb (by omega)]
theorem Hp.Mu {b:Nat}{o:Obj}{a:Nat}{C:Option Nat}(h:Z b=none):(Z.set b o).del (some ⟨b,a,C⟩)=Z:=by
 funext k
 simp only[Hp.del,Hp.set];by_cases A:k=b
 .subst A;simp[h]
 .simp[A]
theorem Hp.Ja {b:Nat}{o:Obj}{a:Nat}{A:Option Nat}:(Z.set b o).del (some ⟨b,a,A⟩)=Z.del (some ⟨b,a,A⟩):=by
 funext k
 simp only[Hp.del,Hp.set];by_cases C:k=b<;>simp[C]
theorem Xo [h:KT P T E s bs](Cp:Aw s Z p n c cs)(hy:HP s Z q m ys)(h1:HH ys)(hb:(n+m)*bs<=140737488355328)
  (hΦ:∀p' c' Z',Aw s Z' p' (n+m) c' (cs++ys)->Ext (Z.del p) (Z'.del p')->((p'=p/\c'=c/\n+m<=c)\/(c<n+m/\Ext Z Z'/\∀a,p'=some a->Z a.block=none))->Φ (.slice p' (n+m) c') Z') :
  AJ P (Builtin.append_ #[T,T] ty #[.slice p n c,.slice q m d]) Z Φ:=by
 obtain⟨ht,⟨i,z,hi,hz,rfl,rfl,hzs⟩,Up,yt⟩:=h;have h62:n+m<=140737488355328:=AnL (ApV _ yt) hb;intro w F G hF;have hf:=Qu (P:=P) (d:=d) w G hy;have yI:=λw' (hw:Sat Z w')=>Qu (P:=P) (d:=d) w' hw hy;have Mk:=λw' (hw:Sat Z w')=>Qu (P:=P) (d:=c) w' hw Cp.rd;have C:(cs++ys).length=(n+m)*i.size:=by rw[Amv,Cp.1,hy.1,Ant]
 by_cases Kd:n+m<=c
 ·
  rcases Cp.2.2 with ⟨hp,hn,hc⟩|⟨b,o,A,T',rfl,hblk,sb,J2,LC⟩
  .subst hp hn hc;have hm:m=0:=by omega
   subst hm;have hys:ys=[]:=AnS (by simpa using hy.1);have LC:cs=[]:=AnS (by simpa using Cp.1);subst hys LC;refine⟨.slice none 0 0,w,Z,?_,hΦ none 0 Z Aw.nil (Ext.refl _) (.inl ⟨rfl,rfl,Kd⟩),G,λb hb=>⟨(hF b hb).2,rfl⟩,.same rfl rfl rfl,rfl,Amr _⟩;simp[Builtin.append_,run_underlying ht,Go.sizeOf,typeInfo,hi,Builtin.lenOf,hf]
  .have hw:=G _ _ hblk;have AKm:o+n*i.size+0+ys.length<=A.size:=by
    rw[hy.1];have:(n+m)*i.size<=c*i.size:=AnM _ Kd;rw[Ant]at this;omega
   have HG:=HN (P:=P) b (o+n*i.size) T' ys 0 A w hw AKm h1;simp only[Ank]at HG;refine⟨.slice (some ⟨b,o,none⟩) (n+m) c,w.setRow b (SP A (o+n*i.size) ys),Z.set b (.cells (SP A (o+n*i.size) ys) T' (0,0)),?_,hΦ _ _ _ ⟨C,by omega,.inr ⟨b,o,_,T',rfl,Hp.AA _ _ _,Kd,by rw[Is];exact J2,?_⟩⟩ (by rw[Hp.Ja];exact Ext.refl _) (.inl ⟨rfl,rfl,Kd⟩),?_⟩
   .simp[Builtin.append_,run_underlying ht,Go.sizeOf,typeInfo,hi,Builtin.lenOf,Kd,hf,DU,HG]
   .refine Ani λj=>?_;rw[Am5];simp only[Am3,Ano];rw[XF _ _ _ _ (by omega),Anr];have e1:cs.length=n*i.size:=Cp.1;have e2:ys.length=m*i.size:=hy.1;have e3:(n+m)*i.size=n*i.size+m*i.size:=Ant ..;by_cases eH:j<cs.length
    .rw[Amc (by omega),Amb (by omega),Amc eH,<-LC,Am5,Amc (by omega)];simp
    .rw[Amb eH];by_cases hj2:j<(n+m)*i.size
     .rw[Amc hj2,Amc (by omega),show o+j-(o+n*i.size)=j-cs.length by omega]
     .rw[Amb hj2,AoQ (by omega)]
   .refine⟨λk u hk=>?_,λk hk=>?_,.same rfl rfl rfl,rfl,by simp⟩
    .by_cases Jb:k=b
     .subst Jb;rw[Hp.AA]at hk;cases hk;exact setRow_heap w k A _ T' (0,0) hw
     .rw[Hp.AN Jb]at hk;rw[setRow_other _ _ _ _ Jb];exact G k u hk
    .have Jb:k≠b:=λh=>by have:=(hF k hk).2;rw[h,hblk]at this;cases this
     exact⟨by rw[Hp.AN Jb];exact(hF k hk).2,setRow_other _ _ _ _ Jb⟩
 ·
  have APv:Builtin.nextslicecap (n+m) c*i.bytes<=281474976710656:=growslice_fits (by omega) hb;have hgc:=grownCap_ge w (n+m) c E;have Uq:Sat Z w.drew:=G;have BP:(Builtin.append_ #[T,T] ty #[.slice p n c,.slice q m d]).run P w =
    .ok (.slice (some ⟨w.heap.size,0,none⟩) (n+m) (grownCap w (n+m) c E))
     (w.drew.alloc (.cells (cs.toArray++ys.toArray++Builtin.zeroCells z.cells (grownCap w (n+m) c E-(n+m))) E)):=by
   have AKo:¬(9223372036854775807<((n:Int)+(m:Int))):=by omega
   have AKp:¬(281474976710656<Builtin.nextslicecap (n+m) c*i.bytes):=by omega
   simp[Builtin.append_,run_underlying ht,Go.sizeOf,typeInfo,zeroValue,hi,hz,Builtin.lenOf,Kd,AKo,AKp,Question.forced,yI _ Uq,Mk _ Uq,newRow,grownCap]
   congr 2
   apply AqS
   simp[AnO]
  refine⟨_,_,Z.set w.heap.size _,BP,hΦ _ _ _ ⟨C,by omega,.inr ⟨w.heap.size,0,_,E,rfl,Hp.AA _ _ _,hgc,?_,?_⟩⟩ ?_ (.inr ⟨by omega,Ext.set (Iw G),λa ha=>by cases ha;exact Iw G⟩),Fin.alloc G hF _ rfl ⟨rfl,rfl,λ_=>⟨1,rfl⟩⟩ rfl⟩
  .simp only[Array.size_append,List.size_toArray,size_zeroCells,hzs,Cp.1,hy.1,<-Ant];have:n+m+(grownCap w (n+m) c E-(n+m))=grownCap w (n+m) c E:=by omega
   rw[this];omega
  .simp only[Array.toList_append,Ao7];rw[<-C];exact Ap0
  .rw[Hp.Mu (Iw G)];exact Ext.Mr Z p
theorem Ea [h:KT P T E s bs](Cp:Aw s Z p n c cs)(hy:HP s Z q m ys)(C:HH ys)(hb:(n+m)*bs<=140737488355328)
  (G:∀A c' Z',Aw s Z' A (n+m) c' (cs++ys)->Ext (Z.del p) (Z'.del A)->Φ (.slice A (n+m) c') Z') :
  AJ P (Builtin.append_ #[T,T] ty #[.slice p n c,.slice q m d]) Z Φ:=
 Xo Cp hy C hb λA c' Z' C h2 _=>G A c' Z' C h2
end append
end Tw
end
section
namespace Tw
open Go
variable [HL]
theorem HP.of_map {k:IntKind}{Z:Hp}{p:Option Addr}{n:Nat}{xs:List Int}(G:Eh k Z p n xs):HP 1 Z p n (xs.map (.int k)):=by
 obtain⟨_,cs,A,C⟩:=G;rwa[o0.1 C]at A
theorem Eh.yu {k:IntKind}{Z:Hp}{p:Option Addr}{n:Nat}{xs:List Int}(h:HP 1 Z p n (xs.map (.int k))):Eh k Z p n xs:=
 ⟨by have:=h.1;simpa using this,_,h,o0.2 rfl⟩
abbrev Eb (k:IntKind)(Z:Hp)(p:Option Addr)(n c:Nat)(xs:List Int):Prop:=Aw 1 Z p n c (xs.map (.int k))
theorem Eb.rd {k:IntKind}{Z:Hp}{p:Option Addr}{n c:Nat}{xs:List Int}(h:Eb k Z p n c xs):Eh k Z p n xs:=.yu (Aw.rd h)
theorem Aw.empty {s b T:Nat}{Z:Hp}:Aw s (Z.set b (.cells #[] T (0,0))) (some ⟨b,0,none⟩) 0 0 []:=
 ⟨by simp,by omega,.inr ⟨b,0,#[],T,rfl,Hp.AA _ _ _,Amr _,by simp,by simp⟩⟩
theorem Aw.Ur {s:Nat}{Z Z':Hp}{p:Option Addr}{n c:Nat}{cs:List Value}(h:Aw s Z' p n c cs)(hp:∀a,p=some a->Z a.block=none):Aw s (Z.new Z') p n c cs:=by
 refine⟨h.1,h.2.1,h.2.2.imp id ?_⟩
 rintro⟨b,o,C,T,A,hb,r⟩
 refine⟨b,o,C,T,A,?_,r⟩;simp only[Hp.new];rw[hp _ A];exact hb
theorem IA {Z Z1 Z':Hp}{p p':Option Addr}(h:∀a,p=some a->Z a.block=none)(hx:Ext (Z1.del p) (Z'.del p'))(A:Ext Z Z1):∀a,p'=some a->Z a.block=none:=by
 intro a ha;cases hb:Z a.block with
 | none=>rfl
 | some o=>
  have C:=A _ _ hb;have h2:(Z1.del p) a.block=some o:=by
   cases p with
   | none=>exact C
   | some u=>
    simp only[Hp.del];split
    .rename_i he;have:=h u rfl;rw[<-he,hb]at this;cases this
    .exact C
  have G:=hx _ _ h2;rw[ha]at G;simp[Hp.del]at G
theorem Mv {Z Z1 Z':Hp}{p p':Option Addr}(h:∀a,p=some a->Z a.block=none)(hx:Ext (Z1.del p) (Z'.del p'))(A:Ext Z Z1):Ext Z Z':=by
 intro b o hb;have C:(Z1.del p) b=some o:=by
  cases p with
  | none=>exact A _ _ hb
  | some u=>
   simp only[Hp.del];split
   .rename_i G;have:=h u rfl;rw[<-G,hb]at this;cases this
   .exact A _ _ hb
 exact Ext.Mr _ _ _ _ (hx _ _ C)
theorem AW {Z Z':Hp}{k:Nat}{o:Obj}:Z.new Z' k=some o↔Z k=none/\Z' k=some o:=by
 simp only[Hp.new];cases Z k<;>simp
theorem AU {Z:Hp}{p:Option Addr}{k:Nat}{o:Obj}:Z.del p k=some o↔(∀a,p=some a->k≠a.block)/\Z k=some o:=by
 cases p with
 | none=>simp[Hp.del]
 | some a=>
  simp only[Hp.del];split
  .rename_i h;simp[h]
  .rename_i h;simp[h]
theorem Aw.yw {s:Nat}{Z Z':Hp}{p:Option Addr}{n c:Nat}{cs:List Value}(h:Aw s (Z.new Z') p n c cs):∀a,p=some a->Z a.block=none:=by
 intro a A;have:=h.block a A;cases hb:(Z.new Z') a.block with
 | none=>exact absurd hb this
 | some o=>exact(AW.1 hb).1
section append
variable {P:Program}{T Et ty:TypeId}{s bs:Nat}{Z0 Z:Hp}{p q:Option Addr}{n c m d:Nat}{cs ys:List Value}{Φ:Value->Hp->Prop}
theorem AE1 [KT P T Et s bs](h0:Ext Z0 Z)(Cp:Aw s (Z0.new Z) p n c cs)(hy:HP s Z q m ys)(h1:HH ys)(hb:(n+m)*bs<=140737488355328)
  (hΦ:∀C c' Z',Aw s (Z0.new Z') C (n+m) c' (cs++ys)->Ext Z0 Z'->Ext ((Z0.new Z).del p) ((Z0.new Z').del C)->Φ (.slice C (n+m) c') Z') :
  AJ P (Builtin.append_ #[T,T] ty #[.slice p n c,.slice q m d]) Z Φ:=by
 have A:=Cp.yw;refine Ea (Cp.mono (Ext.Cf Z0 Z)) hy h1 hb λC c' Z' ho G=>?_;refine hΦ C c' Z' (ho.Ur (IA A G h0)) (Mv A G h0) λk o hk=>?_;obtain⟨h2,h3⟩:=AU.1 hk;obtain⟨h4,h5⟩:=AW.1 h3;obtain⟨h6,h7⟩:=AU.1 (G k o (AU.2 ⟨h2,h5⟩));exact AU.2 ⟨h6,AW.2 ⟨h4,h7⟩⟩
theorem se [KT P T Et s bs](h0:Ext Z0 Z)(Cp:Aw s (Z0.new Z) p n c cs)(hl:ys.length=m*s)(h1:HH ys)(hb:(n+m)*bs<=140737488355328)
  (hΦ:∀A c' Z',Aw s (Z0.new Z') A (n+m) c' (cs++ys)->Ext Z0 Z'->Ext ((Z0.new Z).del p) ((Z0.new Z').del A)->Φ (.slice A (n+m) c') Z')
  {b:Nat} (hn:Z b=none):AJ P (Builtin.append_ #[T,T] ty #[.slice p n c,.slice (some ⟨b,0,none⟩) m m]) (Z.set b (.cells ys.toArray Et (0,0))) Φ:=by
 have G:Ext Z (Z.set b (.cells ys.toArray Et (0,0))):=.set hn;have hm:m<=140737488355328:=by
  have C:=(inferInstance:KT P T Et s bs).AZs;have:n+m<=(n+m)*bs:=ApV _ C;omega
 refine AE1 (h0.trans G) (Cp.mono (Ext.HO G)) ⟨hl,by omega,.inr ⟨b,0,rfl,Af.of λj v hj=>?_⟩⟩ h1 hb λA c' Z' ho he hd=>hΦ A c' Z' ho he (λk o hk=>hd k o ((Ext.HO G).del p k o hk));simp[Hp.ld,Hp.AA,hj]
end append
def Hr {α:Type}(s:Nat)(E:Hp->List Value->α->Prop)(Z:Hp)(p:Option Addr)(n c:Nat)(xs:List α):Prop:=
 xs.length=n/\∃cs,Aw s Z p n c cs/\Ch s E (Z.del p) cs xs
theorem Hr.nil {α:Type}{s:Nat}{E:Hp->List Value->α->Prop}{Z:Hp}:Hr s E Z none 0 0 []:=⟨rfl,[],.nil,by simp[Ch]⟩
theorem Hr.mono {α:Type}{s:Nat}{E:Hp->List Value->α->Prop}(A:Iu E){Z Z':Hp}(h:Ext Z Z'){p:Option Addr}{n c:Nat}{xs:List α}(C:Hr s E Z p n c xs):Hr s E Z' p n c xs:=
 let ⟨h1,cs,h2,h3⟩:=C;⟨h1,cs,h2.mono h,h3.mono A (h.del p)⟩
theorem Hr.rd {α:Type}{s:Nat}{E:Hp->List Value->α->Prop}(A:Iu E){Z:Hp}{p:Option Addr}{n c:Nat}{xs:List α}(C:Hr s E Z p n c xs):AT s E Z p n xs:=
 let ⟨h1,cs,h2,h3⟩:=C;⟨h1,cs,h2.rd,h3.mono A (Ext.Mr Z p)⟩
theorem Hr.block {α:Type}{s:Nat}{E:Hp->List Value->α->Prop}{Z:Hp}{p:Option Addr}{n c:Nat}{xs:List α}(A:Hr s E Z p n c xs):∀a,p=some a->Z a.block≠none:=
 let ⟨_,_,h2,_⟩:=A;h2.block
theorem Ch.snoc {α:Type}{s:Nat}{E:Hp->List Value->α->Prop}{Z:Hp}{cs vs:List Value}{xs:List α}{x:α}(h:Ch s E Z cs xs)(C:vs.length=s)(hx:E Z vs x):Ch s E Z (cs++vs) (xs++[x]):=by
 refine⟨by simp[h.1,C,Ant],λi y A=>?_⟩;rw[Anr]at A;split at A
 .rename_i hi;have G:i*s+s<=cs.length:=by rw[h.1,<-Aog];exact AnM s hi
  rw[Apw (by omega),Aoa (by simp;omega)];exact h.2 i y A
 .rename_i hi;have:i=xs.length:=by
   have:=(Amd.1 A).1;simp at this;omega
  subst this;simp at A;subst A;rw[<-h.1,List.drop_left,<-C,Apg];exact hx
theorem Hr.HI {α:Type}{P:Program}{T Et ty:TypeId}{s bs:Nat}{E:Hp->List Value->α->Prop}(hE:Iu E)[KT P T Et s bs]{Z0 Z:Hp}{p:Option Addr}{n c:Nat}{xs:List α}{vs:List Value}{x:α}{Φ:Value->Hp->Prop}
  (h0:Ext Z0 Z) (Cp:Hr s E (Z0.new Z) p n c xs) (hl:vs.length=s) (h1:HH vs) (hx:E ((Z0.new Z).del p) vs x) (hb:(n+1)*bs<=140737488355328)
  (G:∀C c' Z',Hr s E (Z0.new Z') C (n+1) c' (xs++[x])->Ext Z0 Z'->Φ (.slice C (n+1) c') Z') {b:Nat} (hn:Z b=none) :
  AJ P (Builtin.append_ #[T,T] ty #[.slice p n c,.slice (some ⟨b,0,none⟩) 1 1]) (Z.set b (.cells vs.toArray Et (0,0))) Φ:=by
 obtain⟨A,cs,ho,hc⟩:=Cp;refine se h0 ho (by rw[hl,ApZ]) h1 hb (λC c' Z' Mk he hd=>G C c' Z' ⟨by simp[A],_,Mk,(hc.snoc hl hx).mono hE hd⟩ he) hn
end Tw
end
section
namespace Tw
open Go
variable [HL]
theorem A0 {Z Z':Hp}(h:Ext Z Z'){b:Nat}(hb:Z' b=none):Z b=none:=by
 cases A:Z b with
 | none=>rfl
 | some o=>rw[h _ _ A]at hb;cases hb
section
variable {P:Program}{T Et ty:TypeId}{bs:Nat}{Z0 Z:Hp}{p:Option Addr}{n c:Nat}{xs:List Int}{x:Int}{k:IntKind}{Φ:Value->Hp->Prop}
theorem Eb.HI [KT P T Et 1 bs](h0:Ext Z0 Z)(G:Eb k (Z0.new Z) p n c xs)(hb:(n+1)*bs<=140737488355328)
  (C:∀A c' Z',Eb k (Z0.new Z') A (n+1) c' (xs++[x])->Ext Z0 Z'->Ext ((Z0.new Z).del p) ((Z0.new Z').del A)->Φ (.slice A (n+1) c') Z')
  {b:Nat} (hn:Z b=none):AJ P (Builtin.append_ #[T,T] ty #[.slice p n c,.slice (some ⟨b,0,none⟩) 1 1]) (Z.set b (.cells #[.int k x] Et (0,0))) Φ:=
 se (ys:=[.int k x]) h0 G rfl (HH.XG (xs:=[x])) hb (λA c' Z' ho he hd=>C A c' Z' (by simpa[Eb,Am7] using ho) he hd) hn
theorem Eb.nil:Eb k Z none 0 0 []:=Aw.nil
end
end Tw
end
section
namespace Tw
open Go
variable [HL]
def over (L:List Value)(j:Nat)(zs:List Value):List Value:=L.take j++zs++L.drop (j+zs.length)
section
variable {P:Program}{T T2 E ty:TypeId}{s bs:Nat}{Z:Hp}{p q:Option Addr}{n c m d d' j k:Nat}{L cs ys:List Value}{Φ:Value->Hp->Prop}
end
end Tw
end
section
namespace Tw
open Go
variable [HL]
theorem Hp.set_set {Z:Hp}{b:Nat}{o o':Obj}:(Z.set b o).set b o'=Z.set b o':=by
 funext k;simp only[Hp.set];split<;>rfl
theorem eJ {O:Hp}{b:Nat}{o:Obj}(hb:O b=none){w:World}{F:Nat->Prop}(C:Sat (O.set b o) w)(hF:∀k,F k->k<w.heap.size/\(O.set b o) k=none):
  Sat O w/\∀k,(F k\/k=b)->k<w.heap.size/\O k=none:=by
 have G:Ext O (O.set b o):=.set hb;refine⟨λk u A=>C k u (G k u A),λk A=>?_⟩;rcases A with A|rfl
 .exact⟨(hF k A).1,A0 G (hF k A).2⟩
 .exact⟨(Am9.1 (C k o (Hp.AA _ _ _))).1,hb⟩
theorem Spec.HQ {P:Program}{f:FuncId}{args:Array Value}{O:Hp}{b:Nat}{o:Obj}{R:Rr}(hb:O b=none)
  (h:Spec P f args O (λe O'=>O' b=none->R e (O'.set b o))):Spec P f args (O.set b o) R:=λw F hs hF=>by
 obtain⟨h1,h2⟩:=eJ hb hs hF;refine(h w (λk=>F k\/k=b) h1 h2).mono ?_
 rintro e w' ⟨O',hr,C⟩
 have G:=C.EZ b (.inr rfl);refine⟨O'.set b o,hr G.1,λk u A=>?_,λk A=>?_,C.os,C.out,C.grow⟩
 .by_cases h:k=b
  .subst h;rw[G.2];rw[Hp.AA]at A;cases A;exact hs k _ (Hp.AA _ _ _)
  .rw[Hp.AN h]at A;exact C.sat k u A
 .have Jb:k≠b:=λh=>by have:=(hF k A).2;rw[h,Hp.AA]at this;cases this
  exact⟨by rw[Hp.AN Jb];exact(C.EZ k (.inl A)).1,(C.EZ k (.inl A)).2⟩
theorem AJ.HQ {P:Program}{α:Type}{m:Sem α}{O:Hp}{b:Nat}{o:Obj}{Φ:α->Hp->Prop}(hb:O b=none)
  (h:AJ P m O (λv O'=>O' b=none->Φ v (O'.set b o))):AJ P m (O.set b o) Φ:=λw F hs hF=>by
 obtain⟨h1,h2⟩:=eJ hb hs hF;obtain⟨v,w',O',BP,hr,C⟩:=h w (λk=>F k\/k=b) h1 h2;have G:=C.EZ b (.inr rfl);refine⟨v,w',O'.set b o,BP,hr G.1,λk u A=>?_,λk A=>?_,C.os,C.out,C.grow⟩
 .by_cases h:k=b
  .subst h;rw[G.2];rw[Hp.AA]at A;cases A;exact hs k _ (Hp.AA _ _ _)
  .rw[Hp.AN h]at A;exact C.sat k u A
 .have Jb:k≠b:=λh=>by have:=(hF k A).2;rw[h,Hp.AA]at this;cases this
  exact⟨by rw[Hp.AN Jb];exact(C.EZ k (.inl A)).1,(C.EZ k (.inl A)).2⟩
section rows
variable {α:Type}{s:Nat}{E:Hp->List Value->α->Prop}{Z:Hp}{cs ds:List Value}{xs ys:List α}
theorem Ch.take (h:Ch s E Z cs xs)(i:Nat):Ch s E Z (cs.take (i*s)) (xs.take i):=by
 refine⟨?_,λk x A=>?_⟩
 .rw[Amp,Amp,h.1,Nat.min_def,Nat.min_def];by_cases hi:i<=xs.length
  .rw[Amc hi,Amc (AnM s hi)]
  .rw[Amb hi];split
   .exact Nat.le_antisymm (by assumption) (AnM s (by omega))
   .rfl
 .rw[Am5]at A;split at A
  .rename_i C;have G:k*s+s<=i*s:=by rw[<-Aog];exact AnM s C
   rw[Aoo,AqR,AoK (by omega)];exact h.2 k x A
  .cases A
theorem Ch.drop (h:Ch s E Z cs xs)(i:Nat):Ch s E Z (cs.drop (i*s)) (xs.drop i):=by
 refine⟨by rw[Amx,Amx,h.1,Nat.sub_mul],λk x A=>?_⟩;rw[Am3]at A;rw[Anu,<-Ant];exact h.2 _ x A
theorem Ch.append (h:Ch s E Z cs xs)(g:Ch s E Z ds ys):Ch s E Z (cs++ds) (xs++ys):=by
 refine⟨by rw[Amv,Amv,h.1,g.1,Ant],λk x C=>?_⟩;rw[Anr]at C;split at C
 .rename_i G;have A:k*s+s<=cs.length:=by rw[h.1,<-Aog];exact AnM s G
  rw[Apw (by omega),Aoa (by simp;omega)];exact h.2 k x C
 .rename_i G;have A:cs.length<=k*s:=by rw[h.1];exact AnM s (by omega)
  have:=g.2 (k-xs.length) x C;rw[Nat.sub_mul,<-h.1]at this;rw[List.drop_append];have e:List.drop (k*s) cs=[]:=Amm A;rw[e,Anm];exact this
theorem Ch.one {vs:List Value}{x:α}(C:vs.length=s)(hx:E Z vs x):Ch s E Z vs [x]:=by
 refine⟨by simp[C],λk y A=>?_⟩;have G:k=0:=by
  have:=(Amd.1 A).1;simp at this;exact this
 subst G;simp at A;subst A;simp[<-C,hx]
theorem Ch.Us (hE:∀Z vs x,E Z vs x->HH vs)(h:Ch s E Z cs xs)(C:0<s):HH cs:=λu hu=>by
 obtain⟨t,G,rfl⟩:=Apq.1 hu;have Av:t/s<xs.length:=by rw[Apj C,<-h.1];exact G
 have:=h.2 (t/s) _ (Amf Av);refine hE _ _ _ this _ ?_;have hm:=Aok t C;have A:=Nat.div_add_mod t s;rw[Apr]at A;refine AnC.2 ⟨t%s,?_⟩;rw[Am5,Amc hm,Am3,A];exact Amf G
end rows
section
variable {P:Program}{T E ty:TypeId}{s bs:Nat}{Z:Hp}{p q:Option Addr}{n c m d:Nat}{L ys:List Value}{Φ:Value->Hp->Prop}
end
end Tw
end
section
namespace Tw
open Go
variable [HL]
def N6 (P:Program)(l:Nat)(args:Array Value)(Z:Hp)(R:Rr):Prop:=
 ∀(w:World) (F:Nat->Prop),Sat Z w->(∀b,F b->b<w.heap.size/\Z b=none)->
  ∃fn tmps assign body,(Instr.yield l args).run P w=.ok (.round l fn tmps assign body) w/\RoundIn Fence.wide 0 P l fn tmps assign body w (λe A=>∃Z',R e Z'/\Fin Z' F w A)
theorem N6.mono {P:Program}{l:Nat}{args:Array Value}{Z:Hp}{R A:Rr}(h:N6 P l args Z R)(hr:∀e Z',R e Z'->A e Z'):N6 P l args Z A:=λw F hs hF=>
 let ⟨fn,tmps,assign,body,h1,h2⟩:=h w F hs hF
 ⟨fn,tmps,assign,body,h1,h2.mono λ_ _ ⟨Z',C,G⟩=>⟨Z',hr _ _ C,G⟩⟩
section
variable {g:Gl}{ops:Array Oper}{i:Nat}{e:Env}{bx:Bx}{Z:Hp}{K:Env->Bx->Hp->Prop}{d:Option Nat}{ty:TypeId}{gd:Option (Nat×Bool)}
theorem AP.yield {x:Operand}{xs:Array Operand}{ts:Array TypeId}{l:Nat}{vs:Array Value}{u:Value}(hs:sig ops i=some (d,.call { callee:=.value x,args:=xs,argTypes:=ts },ty,gd))(hw:Aa ops e gd=true)(hd:KO d g.n=true)
  (hx:AD e x=u) (Ni:xs.toList.map (AD e)=vs.toList) (hu:u=.func (.yield l) #[] #[])
  (h:N6 g.P l vs Z (BV g.R λv Z'=>K (put e d v) bx Z')):AP g ops i e bx Z K:=by
 intro w0 F a w st;obtain⟨o,ho,rfl,A7,Cm,rfl⟩:=DM hs;refine D7 ho (by rw[st.wanted];exact hw) ?_;obtain⟨fn,tmps,assign,body,hy,C⟩:=h w _ st.sat st.lt;have G:xs.map (AD e)=vs:=by rw[<-AnB];simpa using Ni
 have BP:(execOp (AD e) o).run g.P w=.ok (.round l fn tmps assign body) w:=by
  simp only[execOp,A7,resolve,hx.trans hu,G,Deferred.ofValue,invoke,bind,Sem.bind,pure,Array.empty_append];exact hy
 rw[st.eval,FH BP (λd=>by simp)];refine⟨λhh=>(by cases hh),RoundIn.mono (show RoundIn (wd g.Jz) (0-1) g.P l fn tmps assign body w _ from⟨trivial,C.2⟩) λen w'=>?_⟩
 rintro⟨Z',A,hf⟩
 have S2:=st.fin hf;cases en with
 | returned v=>exact⟨_,_,_,S2.put _ _ (KO.lt hd),A⟩
 | panicked ch=>
  rcases g.pan with ⟨h1,h2⟩|CU
  .exact⟨⟨h1,S2.defers.trans h2⟩,Z',A,S2.toFin⟩
  .exact absurd A (CU ch Z')
 | outgrown=>exact A.elim
end
def NP (R:Rr):Rr:=λe Z=>match e with | .returned v=>R (.returned v) Z | _=>False
abbrev Gl.round (P:Program)(f:FuncId)(n:Nat)(l:Nat)(R:Rr):Gl:=⟨P,f,n,NP R,some l,[],.inr λ_ _ h=>h⟩
abbrev Gl.behind (P:Program)(f:FuncId)(n:Nat)(D:Nat)(R:Rr):Gl:=⟨P,f,n,NP R,none,[{ target:=.collected D,args:=#[] }],.inr λ_ _ h=>h⟩
theorem yx {D:Nat}{Z:Hp}(h:Z D=some (.deferred (some []))):Marks [{ target:=.collected D,args:=#[] }] Z:=⟨D,rfl,h,trivial⟩
theorem N6.sW {P:Program}{l n p:Nat}{r:Loop}{Z:Hp}{R:Rr}{v:Value}{fn:Func}{e:Env}{s:LoopState}{c:Option Code}(hσ:Z l=some (.loop (lp r s c)))(hp:r.params=#[p])(hn:r.tmps.size=n)(hpn:p<n)(he:∀t,r.tmps.getD t undef=e t)(XE:P.funcs[r.fn]?=some fn)
  (h:At (Gl.round P r.fn n l R) [.code r.assign,.beginRound,.code r.body] (upd e p v) [] Z):N6 P l #[v] Z R:=by
 intro w F hs hF;refine⟨r.fn,_,r.assign,r.body,run_yield (r:=lp r s c) (hs _ _ hσ) (by simp[lp,hp]),trivial,λc0 cs _=>?_⟩;have ht:(r.params.zip #[v]).foldl (λt (p,v)=>t.setIfInBounds p v) r.tmps=r.tmps.setIfInBounds p v:=by
  simp[hp]
 have st:St n [] w F (upd e p v) [] Z { tmps:=r.tmps.setIfInBounds p v,defers:=[] } w:=by
  refine⟨by simp[hn],λt=>?_,rfl,hs,(λp hp=>by cases hp),(λp hp=>by cases hp),ApT,λb hb=>⟨(hF b hb).1,(hF b hb).2,rfl⟩,.same rfl rfl rfl,rfl,Amr _⟩;simp only[upd];by_cases A:t=p
  .subst A;simp[hn,hpn]
  .rw[oh A,<-he t];simp[Aos (Ann A)]
 let b:Frame:={ (default:Frame) with fn:=r.fn,kind:=.normal,roundOf:=some l }
 have G:Frame.round l r.fn (r.tmps.setIfInBounds p v) r.assign r.body .normal=b.atR { tmps:=r.tmps.setIfInBounds p v,defers:=[] } [.code r.assign,.beginRound,.code r.body]:=by
  simp[Frame.round,Frame.atR,b]
 obtain⟨v',w',⟨Z',hr,Xi⟩,C⟩:=h w F _ w st b (c0::cs) rfl rfl rfl ⟨fn,XE⟩ c0 cs rfl;refine⟨.returned v',w',⟨Z',hr,Xi⟩,?_⟩;have C:=(stepsIn_wide (P:=P)).2 C;rw[<-G,<-ht]at C;exact C
section
variable {g:Gl}{k:List Item}{e:Env}{bx:Bx}{Z:Hp}
theorem Hp.yy {Z:Hp}{b c:Nat}{o:Obj}(h:c≠b)(A:Z c=none):(Z.set b o) c=none:=by rw[Hp.AN h];exact A
theorem St.alloc {n ds w0 F e bx Z a w}(st:St n ds w0 F e bx Z a w)(o:Obj):Z w.heap.size=none/\St n ds w0 F e bx (Z.set w.heap.size o) a (w.alloc o):=by
 have h:=st.grown o;exact⟨(h.free _ (Amu ..)).1,h.open⟩
theorem At.range {c:Code}{gop:Operand}{ps:Array Tmp}{assign body:Code}{gf:Nat}{lb:Array Value}(hc:c=.rangeFunc gop ps assign body)(hr:g.Jz=none)(hds:g.ds=[])
  (hg:AD e gop=.func (.func gf) #[] lb) (Wg:Enters g.P gf)
  (h:∀(D l:Nat) (r:Loop),D≠l->Z D=none->Z l=none->r.fn=g.f->r.params=ps->r.assign=assign->r.body=body->r.tmps.size=g.n->(∀t,r.tmps.getD t undef=e t)->
   Spec g.P gf (#[.func (.yield l) #[] #[]]++lb) ((Z.set D (.deferred (some []))).set l (.loop (lp r .ready none)))
    (λen Z'=>∃v s p,en=.returned v/\Z' l=some (.loop (lp r s p))/\s≠.busy/\
     At (Gl.behind g.P g.f g.n D g.R) ((p.map Item.code).toList++k) e bx (Z'.set l (.loop (lp r .exhausted p))))):At g (.code c::k) e bx Z:=by
 subst hc;intro w0 F a w st b cs hbf j6 sU XE;have hbn:b.roundOf=none:=sU.trans hr;obtain⟨hD,st1⟩:=st.alloc (.deferred (some []))
 let r:Loop:={ state:=.ready,pending:=none,fn:=b.fn,tmps:=a.tmps,params:=ps,assign,body,defers:=w.heap.size }
 obtain⟨hl,G⟩:=st1.alloc (.loop r);have J2:(w.alloc (.deferred (some []))).heap.size=w.heap.size+1:=World.size_alloc ..;rw[J2]at hl G;have ot:=run_enterLoop_outer (P:=g.P) (w:=w) b.fn a.tmps ps assign body;have AZv:(resolve a.eval (rangeCall gop (w.heap.size+1)) 0).run g.P ((w.alloc (.deferred (some []))).alloc (.loop r))=.ok { target:=.fn (.func gf) lb,args:=#[.func (.yield (w.heap.size+1)) #[] #[]] } ((w.alloc (.deferred (some []))).alloc (.loop r)):=by
  rw[st.eval];simp only[resolve,hg];simp[AD,Deferred.ofValue]
 have hinv:(invoke (.fn (.func gf) lb) #[.func (.yield (w.heap.size+1)) #[] #[]]).run g.P ((w.alloc (.deferred (some []))).alloc (.loop r))=.ok (.enter gf (#[.func (.yield (w.heap.size+1)) #[] #[]]++lb)) ((w.alloc (.deferred (some []))).alloc (.loop r)):=by
  exact Wg _ _
 have E7:=stepR_rangeFunc (P:=g.P) (b:=b) (a:=a) (k:=k) (cs:=cs) (w:=w) (by rw[hbn];exact ot) AZv hinv;have AKt:Z (w.heap.size+1)=none:=by rw[Hp.AN (by omega)]at hl;exact hl
 have APx:=h w.heap.size (w.heap.size+1) r (by omega) hD AKt hbf rfl rfl rfl st.size st.env;obtain⟨en,w3,fr,⟨Z',⟨v,s,p,he,AKu,hsb,hat⟩,Xi⟩,AKv,Ahf,AKw⟩:=APx _ _ G.sat G.lt (b.atR { a with defers:=[{ target:=.collected w.heap.size,args:=#[] }]++a.defers } (.inRangeFunc (w.heap.size+1)::k)::cs);subst he;have C:=G.fin Xi;have yz:=run_endLoop (P:=g.P) (C.sat _ _ AKu) (by simpa[lp] using hsb);have A:=C.toFin.put (o':=.loop (lp r .exhausted p)) AKu;have Ai:∀q∈bx,q.1≠w.heap.size+1:=λq hq e=>by have:=(C.free q hq).1;rw[e,AKu]at this;cases this
 have st4:St g.n [{ target:=.collected w.heap.size,args:=#[] }] w0 F e bx (Z'.set (w.heap.size+1) (.loop (lp r .exhausted p))) { a with defers:=[{ target:=.collected w.heap.size,args:=#[] }]++a.defers } (w3.putObj (w.heap.size+1) (.loop (lp r .exhausted p))):=
  { size:=st.size,env:=st.env,defers:=by rw[show a.defers=[] from st.defers.trans hds];rfl,sat:=A.sat,box:=λq hq=>by rw[World.putObj_heap_other (Ai q hq)];exact C.box q hq,free:=λq hq=>⟨Hp.yy (Ai q hq) (C.free q hq).1,(C.free q hq).2⟩,nodup:=st.nodup,EZ:=λb hb=>⟨(st.EZ b hb).1,(A.EZ b hb).1,(A.EZ b hb).2⟩,os:=A.os,out:=A.out,grow:=A.grow }
 have AKy:=hat w0 F _ _ st4 b cs hbf j6 hbn XE;have AHu:=step_leave_returned (P:=g.P) (c:=b.atR { a with defers:=[{ target:=.collected w.heap.size,args:=#[] }]++a.defers } (.inRangeFunc (w.heap.size+1)::k)) (cs:=cs) AKw;rw[finish_atR_inRangeFunc]at AHu;have AKz:=(Steps.one E7).trans (Steps.trans AKv ((Steps.one AHu).trans (.one (stepR_endRangeFunc (k:=k) yz))));obtain⟨e',w',fr',⟨Z2,hR,hf2⟩,hc2,hx⟩:=AKy;unfold Rk;rw[hr];refine⟨e',w',fr',⟨Z2,?_,hf2⟩,.of_steps AKz hc2,hx⟩;cases e' with
 | returned v=>exact hR
 | _=>exact hR.elim
end
end Tw
end
section
namespace Tw
open Go Go.RowKit Go.ChangeShapes Go.WideShapes Go.Deep
def full (w:World):Hp:=λb=>w.heap[b]?
theorem zA (w:World):Sat (full w) w:=λ_ _ h=>h
theorem XH {w:World}{a:Addr}{v:Value}(h:w.cell? a=some v):(full w).ld a=some v:=h
theorem zB {w A:World}{Z':Hp}(hx:Ext (full w) Z')(hs:Sat Z' A)(ho:Gs w A)(C:A.output=w.output)(hg:w.heap.size<=A.heap.size):Below w.heap.size w A:=
 ⟨ho.1,ho.2.1,C,hg,λk hk=>by
  have G:w.heap[k]?=some w.heap[k]:=Aol hk;rw[G];exact hs _ _ (hx _ _ G)⟩
def Lawful (P:Program)(f:FuncId)(args:Array Value)(w:World):Prop:=Spec P f args (full w) (λe Z'=>e=.returned (.bool true)/\Ext (full w) Z')
theorem Lawful.calls {P:Program}{f:FuncId}{args:Array Value}{w:World}(h:Lawful P f args w):Calls P f args w λe C=>e=.returned (.bool true)/\Below w.heap.size w C:=
 (h w (λ_=>False) (zA w) (λ_ h=>h.elim)).mono λe C ⟨Z',⟨G,hx⟩,A⟩=>⟨G,zB hx A.sat A.os A.out A.grow⟩
section
variable {H:Type}{enc:TypeId×Value->H}{P:Program}
theorem Ro (hl:laidOutB P=true){W W':World}(hb:Below W.heap.size W W'):∀{ts:List TypeId} {vs:List Value} {ds:List (DataW H)} {ps:List MemPlace},(ts.all λt=>P.readableRec t&&Nat.blt t P.types.size)=true->(∀x∈ps,x.block<W.heap.size)->
  DataW.TrodAll enc P W 0 (λ_=>true) true ts vs ds ps->DataW.TrodAll enc P W' 0 (λb=>decide (b<W.heap.size)) true ts vs ds ps
 | [],[],[],ps,_,_,h=>h
 | t::ts,v::vs,d::ds,ps,A,G,⟨p,q,h1,h2,e⟩=>by
  simp only[Apd,Amn]at A;subst e;exact⟨p,q,Below.trod hl A.1.1 (Anj A.1.2) h1 hb (λx C=>G x (AoV _ C)),Ro hl hb A.2 (λx C=>G x (Apk _ C)) h2,rfl⟩
 | [],_::_,_,_,_,_,h=>h.elim
 | [],[],_::_,_,_,_,h=>h.elim
 | _::_,[],_,_,_,_,h=>h.elim
 | _::_,_::_,[],_,_,_,h=>h.elim
theorem zC {f:Func}{s:ChangeSpec}{W W':World}{args:Array Value}{ds gs:List (DataW H)}{A:List MemPlace}{tb:TypeId}(hl:laidOutB P=true)(hr:(f.params.toList.all λt=>P.readableRec t&&Nat.blt t P.types.size)=true)
  (hrt:f.resultTypes=#[tb]) (zD:P.underlying tb=some .bool) (hv:s.vars=[]) (G:(s.fn H (ds++gs)).results=[.lit (.bool true)]/\(s.fn H (ds++gs)).args=ds/\(s.fn H (ds++gs)).vars=[])
  (hW:DataW.Whole enc P f.params.toList s.vars false W args.toList ds gs A) (hb:Below W.heap.size W W'):s.post enc P f false true false false W args (.bool true) W':=by
 have Av:∀p∈A,p.block<W.heap.size:=λp hp=>hW.lt p hp;have hW':=hW;obtain⟨p,q,hA,hV,rfl,hfz,_⟩:=hW';refine⟨ds,gs,p++q,[],p,[],hW,?_,?_,?_,World.keptBut_mono (λx C=>⟨C,?_⟩) (hb.frame (·∈p++q)),λh=>by cases h⟩
 .rw[G.1,hrt];exact trodAll_mk1 (shut_bool zD true)
 .rw[G.2.1];exact Ro hl hb hr (λx C=>Av x (AoV _ C)) hA
 .rw[G.2.2,hv];rfl
 .rw[hv]at hV;have:q=[]:=by
   cases gs with
   | nil=>exact hV
   | cons _ _=>exact hV.elim
  subst this;exact .inr (.inl (by simpa using C))
theorem Af.snoc {Z:Hp}{b:Nat}:∀{l m:List Value} {o:Nat},Af Z b o l->Af Z b (o+l.length) m->Af Z b o (l++m)
 | [],m,o,_,h=>by simpa using h
 | v::l,m,o,h,A=>⟨h.1,Af.snoc h.2 (by simpa[Apc,Nat.add_comm 1] using A)⟩
theorem eM {w:World}{a:Addr}{v:Value}(h:w.cell? a=some v):a.spot=none:=by
 unfold World.cell? at h;split at h
 .split at h
  .cases h
  .rename_i A;simpa using A
 .cases h
end
end Tw
end
section
namespace Tw
open Go
variable [HL]
def qv (P:Program)(ops:Array Oper)(i:Nat)(e:Env):Option (Option Nat×Value):=
 match ops[i]? with
 | none=>none
 | some o=>match Aa ops e o.guard with
  | false=>none
  | true=>match o.op with
   | .move x=>some (o.dst,AD e x)
   | .assign x=>some (o.dst,AD e x)
   | .pick z x y=>(match AD e z with
    | .bool true=>some (o.dst,AD e x)
    | .bool false=>some (o.dst,AD e y)
    | _=>none)
   | .extract x j=>(match AD e x with
    | .tuple vs=>(match vs[j]? with | some v=>some (o.dst,v) | none=>none)
    | _=>none)
   | .unOp u _ x=>(match u,AD e x with
    | .not,.bool b=>some (o.dst,.bool (!b))
    | _,_=>none)
   | .binOp b _ x y _=>(match AD e x,AD e y with
    | .int k a,.int k' c=>(match decide (k=k') with
     | false=>none
     | true=>(match b with
      | .lss=>some (o.dst,.bool (decide (a<c)))
      | .leq=>some (o.dst,.bool (decide (a<=c)))
      | .gtr=>some (o.dst,.bool (decide (c<a)))
      | .geq=>some (o.dst,.bool (decide (c<=a)))
      | .eql=>some (o.dst,.bool (decide (a=c)))
      | .neq=>some (o.dst,.bool (decide (a≠c)))
      | _=>none))
    | _,_=>none)
   | _=>none
theorem AHv {P:Program}{ops:Array Oper}{i:Nat}{e:Env}{bx:Bx}{d:Option Nat}{v:Value}(h:qv P ops i e=some (d,v)):
  ∃o,ops[i]?=some o/\Aa ops e o.guard=true/\o.dst=d/\∀Z,Yd P e bx Z o.op o.type v:=by
 unfold qv at h;cases ho:ops[i]? with
 | none=>simp[ho]at h
 | some o=>
  simp only[ho]at h;cases hw:Aa ops e o.guard with
  | false=>simp[hw]at h
  | true=>
   simp only[hw]at h;refine⟨o,rfl,hw,?_⟩;cases KS:o.op<;>simp only[KS]at h<;>try (cases h;done)
   case move x=>cases h;exact⟨rfl,λZ=>Y.move rfl⟩
   case assign x=>cases h;exact⟨rfl,λZ=>Y.assign rfl⟩
   case pick z x y=>
    split at h
    .rename_i hz;cases h;exact⟨rfl,λZ=>Y.AHp hz rfl⟩
    .rename_i hz;cases h;exact⟨rfl,λZ=>Y.AHq hz rfl⟩
    .cases h
   case extract x j=>
    split at h
    .rename_i vs A;split at h
     .rename_i u hu;cases h;exact⟨rfl,λZ=>Y.extract A hu⟩
     .cases h
    .cases h
   case unOp u T x=>
    split at h
    .rename_i b A;cases h;exact⟨rfl,λZ=>Y.not A⟩
    .cases h
   case binOp b T x y T'=>
    split at h
    .rename_i k a k' c A C;split at h
     .cases h
     .rename_i G;have G:=Amg G;subst G;cases b<;>simp only at h<;>cases h
      .exact⟨rfl,λZ=>Y.eql A C⟩
      .exact⟨rfl,λZ=>Y.neq A C⟩
      .exact⟨rfl,λZ=>Y.lss A C⟩
      .exact⟨rfl,λZ=>Y.leq A C⟩
      .exact⟨rfl,λZ=>Y.gtr A C⟩
      .exact⟨rfl,λZ=>Y.geq A C⟩
    .cases h
def nv (ops:Array Oper)(i:Nat)(e:Env):Option (Option Nat):=
 match ops[i]? with
 | none=>none
 | some o=>match Aa ops e o.guard with
  | true=>none
  | false=>some o.dst
theorem AZ0 {ops:Array Oper}{i:Nat}{e:Env}{d:Option Nat}(h:nv ops i e=some d):∃o,ops[i]?=some o/\Aa ops e o.guard=false/\o.dst=d:=by
 unfold nv at h;cases C:ops[i]? with
 | none=>simp[C]at h
 | some o=>
  simp only[C]at h;cases A:Aa ops e o.guard with
  | true=>simp[A]at h
  | false=>simp only[A]at h;cases h;exact⟨o,rfl,A,rfl⟩
theorem FI {ops:Array Oper}{i:Nat}{o:Oper}(h:ops[i]?=some o):sig ops i=some (o.dst,o.op,o.type,o.guard):=by simp[sig,h]
section
variable {g:Gl}{ops:Array Oper}{q:Mj}{i:Nat}{is:List Nat}{r:List (Nat×Bool)}{e:Env}{bx:Bx}{Z:Hp}{K:Env->Bx->Hp->Prop}{k:List Item}{c:Code}
theorem Seq.u (d:Nat)(v:Value)(h:Seq g ops is (put e (some d) v) bx Z K)(hq:qv g.P ops i e=some (some d,v):=by kernel_rfl)(G:Nat.blt d g.n=true:=by rfl):Seq g ops (i::is) e bx Z K:=by
 obtain⟨o,ho,hw,C,hy⟩:=AHv (bx:=bx) hq;have A:=FI ho;rw[C]at A;exact Seq.yg A hw G (hy Z) h
def APy (e:Env):List (Nat×Value)->Env
 | []=>e
 | (d,v)::l=>APy (put e (some d) v) l
def Qs (P:Program)(ops:Array Oper):List Nat->List (Nat×Value)->Env->List (Option (Option Nat×Value))
 | _,[],_=>[]
 | i::is,(d,v)::l,e=>qv P ops i e::Qs P ops is l (put e (some d) v)
 | [],_::_,_=>[none]
theorem Seq.us (l:List (Nat×Value))(h:Seq g ops (is.drop l.length) (APy e l) bx Z K)(A:Qs g.P ops is l e=l.map (λp=>some (some p.1,p.2)):=by kernel_rfl)(C:(l.all λp=>Nat.blt p.1 g.n)=true:=by rfl):Seq g ops is e bx Z K:=by
 induction l generalizing is e with
 | nil=>exact h
 | cons p l G=>
  obtain⟨d,v⟩:=p;cases is with
  | nil=>simp[Qs]at A
  | cons i is=>
   simp only[Qs,AnT,AoL]at A;simp only[Apd,Amn]at C;exact Seq.u d v (G h A.2 C.2) A.1 C.1
theorem Head.u (d:Nat)(v:Value)(h:Head g ops q r (put e (some d) v) bx Z K)(hq:qv g.P ops i e=some (some d,v):=by kernel_rfl)(hd:Nat.blt d g.n=true:=by rfl)(C:q.ok i=true:=by rfl):Head g ops q ((i,true)::r) e bx Z K:=by
 obtain⟨o,ho,hw,G,hy⟩:=AHv (bx:=bx) hq;have A:=FI ho;rw[G]at A;exact Head.yg A hw hd (hy _) h C
theorem Seq.n (d:Nat)(h:Seq g ops is (put e (some d) undef) bx Z K)(hn:nv ops i e=some (some d):=by kernel_rfl)(G:Nat.blt d g.n=true:=by rfl):Seq g ops (i::is) e bx Z K:=by
 obtain⟨o,ho,hw,C⟩:=AZ0 hn;have A:=FI ho;rw[C]at A;exact Seq.no A hw G h
theorem Seq.z (d:Nat)(op:Op)(ty:TypeId)(v:Value)(G:Yd g.P e bx Z op ty v)(h:Seq g ops is (put e (some d) v) bx Z K)(C:sig ops i=some (some d,op,ty,none):=by kernel_rfl)(A:Nat.blt d g.n=true:=by rfl):Seq g ops (i::is) e bx Z K:=Seq.y C A G h
theorem Head.z (d:Nat)(op:Op)(ty:TypeId)(v:Value)(hy:Yd g.P e bx (Uk q none Z) op ty v)(h:Head g ops q r (put e (some d) v) bx Z K)(G:sig ops i=some (some d,op,ty,none):=by kernel_rfl)(C:Nat.blt d g.n=true:=by rfl)(A:q.ok i=true:=by rfl):Head g ops q ((i,true)::r) e bx Z K:=Head.y G C hy h A
theorem gS:∀{l:List (Nat×Value)},l.map (λp=>e p.1)=l.map (·.2)->Live e l
 | [],_=>trivial
 | (t,v)::l,h=>by
  simp only[AnT,AoL]at h;exact⟨h.1,gS h.2⟩
theorem At.L (l:List (Nat×Value))(h:∀J,At g k (N4 J l) bx Z)(A:l.map (λp=>e p.1)=l.map (·.2):=by kernel_rfl):At g k e bx Z:=At.ofL (gS A) h
theorem At.v (l:List (Nat×Value))(h:At g k (N4 e l) bx Z)(A:l.map (λp=>e p.1)=l.map (·.2):=by kernel_rfl):At g k e bx Z:=At.live (gS A) h
theorem At.rg (id:Nat)(l:List Nat)(h:Seq g (cO c) l e bx Z (λe bx Z=>At g k e bx Z))(A:c=.region id (cO c) false:=by kernel_rfl)(C:List.range (cO c).size=l:=by kernel_rfl):At g (.code c::k) e bx Z:=At.region A C h
theorem At.s (x y:Code)(h:At g (.code x::.code y::k) e bx Z)(A:c=.seq x y:=by kernel_rfl):At g (.code c::k) e bx Z:=At.seq A h
theorem At.cT (t:Nat)(y z:Code)(h:At g (.code y::k) e bx Z)(A:c=.cond (.tmp t) y z:=by kernel_rfl)(C:AD e (.tmp t)=.bool true:=by rfl):At g (.code c::k) e bx Z:=At.AHl A C h
theorem At.cF (t:Nat)(y z:Code)(h:At g (.code z::k) e bx Z)(A:c=.cond (.tmp t) y z:=by kernel_rfl)(C:AD e (.tmp t)=.bool false:=by rfl):At g (.code c::k) e bx Z:=At.AHm A C h
theorem At.x (i:Nat)(k':List Item)(h:At g k' e bx Z)(A:c=.exit i:=by kernel_rfl)(C:exitTo i k=some k':=by kernel_rfl):At g (.code c::k) e bx Z:=At.exit A C h
theorem At.b (i:Nat)(x:Code)(h:At g (.code x::.inBlock i::k) e bx Z)(A:c=.block i x:=by kernel_rfl):At g (.code c::k) e bx Z:=At.block A h
theorem At.rt {fn:Func}(rs:List ResultVar)(vs:List Value)(hf:g.P.funcs[g.f]?=some fn)(h:Kb g.P e bx (left g.ds Z) rs vs)(C:g.R (.returned (Xm vs)) (left g.ds Z))
 (G:c=Code.ret:=by kernel_rfl) (hr:fn.results=rs.toArray:=by kernel_rfl) (A:g.Jz=none:=by rfl) (hm:Marks g.ds Z:=by trivial):At g (.code c::k) e bx Z:=At.gQ G hf hr h C A hm
def cv (ops:Array Oper)(i:Nat)(e:Env):Option (Option Nat×FuncId×Array Value):=
 match ops[i]? with
 | none=>none
 | some o=>match Aa ops e o.guard with
  | false=>none
  | true=>match o.op with
   | .call c=>(match c.callee with
    | .value x=>(match AD e x with
     | .func fn fst cap=>(match fn with
      | .func f=>some (o.dst,f,(fst.toList++(c.args.toList.map (AD e)++cap.toList)).toArray)
      | _=>none)
     | _=>none)
    | _=>none)
   | _=>none
theorem AP.cl {f:FuncId}{args:Array Value}(d:Option Nat)(zF:∀args w,(callFunc f args).run g.P w=.ok (.enter f args) w)(h:Spec g.P f args Z (BV g.R λv Z'=>K (put e d v) bx Z'))
  (A:cv ops i e=some (d,f,args):=by kernel_rfl) (hd:KO d g.n=true:=by rfl):AP g ops i e bx Z K:=by
 unfold cv at A;cases ho:ops[i]? with
 | none=>simp[ho]at A
 | some o=>
  simp only[ho]at A;cases hw:Aa ops e o.guard with
  | false=>simp[hw]at A
  | true=>
   simp only[hw]at A;cases KS:o.op<;>simp only[KS]at A<;>try cases A
   rename_i c;split at A
   .rename_i x C;split at A
    .rename_i fn fst cap hx;split at A
     .rename_i f';simp only[Ami,AoZ]at A;obtain⟨rfl,rfl,ha⟩:=A;refine AP.call (FI ho) hw hd (λo' Mk _ w=>?_) h;obtain⟨G,xs,ts⟩:=c;simp only at C;subst C;refine Uo (x:=x) (xs:=xs) (ts:=ts) (fst:=fst) (cap:=cap) (vs:=(xs.toList.map (AD e)).toArray) zF hx (by simp) ?_ o' (by rw[Mk,KS]) w;rw[<-ha,<-AnB];simp
     .cases A
    .cases A
   .cases A
end
end Tw
end
section
namespace Tw
open Go
variable [HL]
section
variable {g:Gl}{ops:Array Oper}{i:Nat}{e:Env}{bx:Bx}{Z:Hp}{K:Env->Bx->Hp->Prop}{k:List Item}{c x:Code}{d:Option Nat}{gd:Option (Nat×Bool)}{ty:TypeId}
theorem kA {P:Program}{b:Frame}{a:Act}{k:List Item}{cs:List Frame}{w:World}{c:Code}:step P (lone (b.atR a (.code (.scope c)::k)) cs w)=.next (lone (b.atR a (.code c::.inScope c::k)) cs w):=rfl
theorem dI {P:Program}{b:Frame}{a:Act}{k:List Item}{cs:List Frame}{w:World}{c:Code}:step P (lone (b.atR a (.inScope c::k)) cs w)=.next (lone (b.atR a k) cs w):=rfl
theorem At.scope (A:c=Code.scope x)(h:At g (.code x::.inScope x::k) e bx Z):At g (.code c::k) e bx Z:=
 A▸λw0 F a w st=>.step (λ_ _ _=>kA) (h w0 F a w st)
theorem At.inScope (h:At g k e bx Z):At g (.inScope x::k) e bx Z:=λw0 F a w st=>.step (λ_ _ _=>dI) (h w0 F a w st)
theorem AP.panic {x:Operand}{T:TypeId}{v:Value}(hs:sig ops i=some (d,.panic x,ty,gd))(hw:Aa ops e gd=true)(hx:AD e x=.iface T v)(C:g.Jz=none)(h2:g.ds=[])
  (h:g.R (.panicked [{ v:=.iface T v,recovered:=false }]) Z):AP g ops i e bx Z K:=by
 intro w0 F a w st;obtain⟨o,ho,rfl,A,Cm,rfl⟩:=DM hs;refine D7 ho (by rw[st.wanted];exact hw) ?_;rw[st.eval];have BP:(o.semAt g.Jz (AD e)).run g.P w=.halt (.panic (.iface T v)) w:=by
  rw[C,Oper.semAt_eq none (AD e) o (λc G=>by rw[A]at G;cases G)];simp[execOp,A,hx,Instr.panic,goPanic,Sem.run]
 rw[BP];exact⟨⟨C,st.defers.trans h2⟩,Z,h,st.toFin⟩
theorem o6 {x:Operand}{u:Value}{ts:Array TypeId}(G:AD e x=u)(o:Oper)(A:o.op=.call { callee:=.builtin .len,args:=#[x],argTypes:=ts })(C:o.type=ty):execOp (AD e) o=(do pure (.value (<-Builtin.len_ ts ty #[u]))):=by
 subst C;simp[execOp,A,resolve,invoke,builtin,G]
def isIf:TypeDesc->Bool
 | .interface _=>true
 | _=>false
theorem Y.iface {P:Program}{T:TypeId}{A:TypeDesc}{x:Operand}{v:Value}(C:P.underlying T=some A)(G:isIf A=false)(hx:AD e x=v):Yd P e bx Z (.makeInterface T x) ty (.iface T v):=λoo ho _ w _ _=>by
 cases A<;>simp[isIf]at G<;>simp[execOp,ho,hx,Instr.makeInterface,run_underlying C]
theorem Y.LD {P:Program}{T T':TypeId}{x y:Operand}{a b:ByteArray}(hT:P.underlying T=some .string)(G:AD e x=.string a)(hy:AD e y=.string b)(hs:a.size+b.size<=9223372036854775807):Yd P e bx Z (.binOp .add T x y T') ty (.string (a++b)):=λoo C _ w _ _=>by
 have A:(a.size:Int)+(b.size:Int)<=9223372036854775807:=by omega
 simp[execOp,C,G,hy,eqGuard_add,binOp,Op.stringOp,A]
end
end Tw
end
section
set_option maxRecDepth 100000
noncomputable section
namespace TwW
open Go Tw Go.Proofs.Tryz
variable [HL]{R:Rr}{Z:Hp}
noncomputable abbrev prog:Program:=Go.Proofs.Tryz.prog
theorem mixed:Go.Proofs.Tryz.prog.follows .mixedOrders=true:=by kernel_rfl
instance:KT Go.Proofs.Tryz.prog 22 44 10 120:=⟨Go.Proofs.Tryz.underlying22,⟨Go.Proofs.Tryz.t44,_,by kernel_rfl,rfl,rfl,rfl,rfl⟩,by decide,by decide⟩
instance:KT Go.Proofs.Tryz.prog 23 51 2 48:=⟨Go.Proofs.Tryz.underlying23,⟨Go.Proofs.Tryz.t51,_,by kernel_rfl,rfl,rfl,rfl,rfl⟩,by decide,by decide⟩
instance:KT Go.Proofs.Tryz.prog 41 75 3 40:=⟨Go.Proofs.Tryz.underlying41,⟨Go.Proofs.Tryz.t75,_,by kernel_rfl,rfl,rfl,rfl,rfl⟩,by decide,by decide⟩
instance:KT Go.Proofs.Tryz.prog 42 9 1 16:=⟨Go.Proofs.Tryz.underlying42,⟨Go.Proofs.Tryz.t9,_,by kernel_rfl,rfl,rfl,rfl,rfl⟩,by decide,by decide⟩
instance:KT Go.Proofs.Tryz.prog 47 71 2 32:=⟨Go.Proofs.Tryz.underlying47,⟨Go.Proofs.Tryz.t71,_,by kernel_rfl,rfl,rfl,rfl,rfl⟩,by decide,by decide⟩
instance:KT Go.Proofs.Tryz.prog 49 61 2 16:=⟨Go.Proofs.Tryz.underlying49,⟨Go.Proofs.Tryz.t61,_,by kernel_rfl,rfl,rfl,rfl,rfl⟩,by decide,by decide⟩
instance:KT Go.Proofs.Tryz.prog 54 59 2 32:=⟨Go.Proofs.Tryz.underlying54,⟨Go.Proofs.Tryz.t59,_,by kernel_rfl,rfl,rfl,rfl,rfl⟩,by decide,by decide⟩
instance:KT Go.Proofs.Tryz.prog 77 23 1 24:=⟨Go.Proofs.Tryz.underlying77,⟨Go.Proofs.Tryz.t23,_,by kernel_rfl,rfl,rfl,rfl,rfl⟩,by decide,by decide⟩
instance:KT Go.Proofs.Tryz.prog 87 94 2 32:=⟨Go.Proofs.Tryz.underlying87,⟨Go.Proofs.Tryz.t94,_,by kernel_rfl,rfl,rfl,rfl,rfl⟩,by decide,by decide⟩
instance:KT Go.Proofs.Tryz.prog 88 165 2 48:=⟨Go.Proofs.Tryz.underlying88,⟨Go.Proofs.Tryz.t165,_,by kernel_rfl,rfl,rfl,rfl,rfl⟩,by decide,by decide⟩
instance:KT Go.Proofs.Tryz.prog 95 200 2 48:=⟨Go.Proofs.Tryz.underlying95,⟨Go.Proofs.Tryz.t200,_,by kernel_rfl,rfl,rfl,rfl,rfl⟩,by decide,by decide⟩
instance:KT Go.Proofs.Tryz.prog 104 109 1 8:=⟨Go.Proofs.Tryz.underlying104,⟨Go.Proofs.Tryz.t109,_,by kernel_rfl,rfl,rfl,rfl,rfl⟩,by decide,by decide⟩
instance:KT Go.Proofs.Tryz.prog 110 3 1 8:=⟨Go.Proofs.Tryz.underlying110,⟨Go.Proofs.Tryz.t3,_,by kernel_rfl,rfl,rfl,rfl,rfl⟩,by decide,by decide⟩
instance:KT Go.Proofs.Tryz.prog 117 5 1 1:=⟨Go.Proofs.Tryz.underlying117,⟨Go.Proofs.Tryz.t5,_,by kernel_rfl,rfl,rfl,rfl,rfl⟩,by decide,by decide⟩
instance:KT Go.Proofs.Tryz.prog 127 90 5 72:=⟨Go.Proofs.Tryz.underlying127,⟨Go.Proofs.Tryz.t90,_,by kernel_rfl,rfl,rfl,rfl,rfl⟩,by decide,by decide⟩
instance:KT Go.Proofs.Tryz.prog 138 141 1 8:=⟨Go.Proofs.Tryz.underlying138,⟨Go.Proofs.Tryz.t141,_,by kernel_rfl,rfl,rfl,rfl,rfl⟩,by decide,by decide⟩
instance:KT Go.Proofs.Tryz.prog 140 97 4 64:=⟨Go.Proofs.Tryz.underlying140,⟨Go.Proofs.Tryz.t97,_,by kernel_rfl,rfl,rfl,rfl,rfl⟩,by decide,by decide⟩
instance:KT Go.Proofs.Tryz.prog 163 57 1 8:=⟨Go.Proofs.Tryz.underlying163,⟨Go.Proofs.Tryz.t57,_,by kernel_rfl,rfl,rfl,rfl,rfl⟩,by decide,by decide⟩
instance:KT Go.Proofs.Tryz.prog 202 205 1 8:=⟨Go.Proofs.Tryz.underlying202,⟨Go.Proofs.Tryz.t205,_,by kernel_rfl,rfl,rfl,rfl,rfl⟩,by decide,by decide⟩
instance:KT Go.Proofs.Tryz.prog 208 210 1 8:=⟨Go.Proofs.Tryz.underlying208,⟨Go.Proofs.Tryz.t210,_,by kernel_rfl,rfl,rfl,rfl,rfl⟩,by decide,by decide⟩
instance:KT Go.Proofs.Tryz.prog 230 232 1 8:=⟨Go.Proofs.Tryz.underlying230,⟨Go.Proofs.Tryz.t232,_,by kernel_rfl,rfl,rfl,rfl,rfl⟩,by decide,by decide⟩
instance:KT Go.Proofs.Tryz.prog 233 260 1 24:=⟨Go.Proofs.Tryz.underlying233,⟨Go.Proofs.Tryz.t260,_,by kernel_rfl,rfl,rfl,rfl,rfl⟩,by decide,by decide⟩
instance:KT Go.Proofs.Tryz.prog 251 4 1 1:=⟨Go.Proofs.Tryz.underlying251,⟨Go.Proofs.Tryz.t4,_,by kernel_rfl,rfl,rfl,rfl,rfl⟩,by decide,by decide⟩
instance:KT Go.Proofs.Tryz.prog 265 73 1 8:=⟨Go.Proofs.Tryz.underlying265,⟨Go.Proofs.Tryz.t73,_,by kernel_rfl,rfl,rfl,rfl,rfl⟩,by decide,by decide⟩
instance:KT Go.Proofs.Tryz.prog 290 273 1 16:=⟨Go.Proofs.Tryz.underlying290,⟨Go.Proofs.Tryz.t273,_,by kernel_rfl,rfl,rfl,rfl,rfl⟩,by decide,by decide⟩
instance:KT Go.Proofs.Tryz.prog 326 280 1 4:=⟨Go.Proofs.Tryz.underlying326,⟨Go.Proofs.Tryz.t280,_,by kernel_rfl,rfl,rfl,rfl,rfl⟩,by decide,by decide⟩
instance:KT Go.Proofs.Tryz.prog 359 358 2 24:=⟨Go.Proofs.Tryz.underlying359,⟨Go.Proofs.Tryz.t358,_,by kernel_rfl,rfl,rfl,rfl,rfl⟩,by decide,by decide⟩
end TwW
end
end
section
namespace Tw
open Go
variable [HL]
inductive Ord where
 | done
 | yes (i:Nat) (r:Ord)
 | alt (i:Nat) (r s:Ord)
 | no
def N7 (g:Gl)(ops:Array Oper):Ord->Mj->Env->Bx->Hp->(Env->Bx->Hp->Prop)->Prop
 | .done,_,e,bx,Z,K=>K e bx Z
 | .yes i r,q,e,bx,Z,K=>∃own o v,((SL q own).ok i&&Xk ops i own)=true/\ops[i]?=some o/\((Aa ops e o.guard=true/\Yd g.P e bx (Uk q own Z) o.op o.type v)\/(Aa ops e o.guard=false/\v=undef))/\
  (∀t,o.dst=some t->t<g.n)/\N7 g ops r (SL q own) (put e o.dst v) bx Z K
 | .alt i r s,q,e,bx,Z,K=>(AP g ops i e bx Z λC A Z'=>N5 (Ir q i) bx Z A Z'/\N7 g ops r (Ir q i) C A Z' K)/\N7 g ops s q e bx Z K
 | .no,_,_,_,_,_=>True
def TA (ops:Array Oper)(n:Nat):Ord->Nat->Array Bool->List Nat->Bool
 | .done,f,A,seen=>decide (f=0)&&seen.isEmpty&&Region.seqB .any ops (ops.size-n) n A
 | .yes i r,f,A,seen=>seen.isEmpty&&decide (0<f)&&decide (i<n)&&(Region.ready .any ops A).contains i&&Region.free .any ops A i&&TA ops n r (f-1) (A.setIfInBounds i true) []
 | .alt i r s,f,A,seen=>decide (0<f)&&decide (i<n)&&(Region.ready .any ops A).contains i&&TA ops n r (f-1) (A.setIfInBounds i true) []&&TA ops n s f A (i::seen)
 | .no,f,A,seen=>decide (0<f)&&!(Region.ready .any ops A).isEmpty&&(Region.ready .any ops A).all seen.contains
def gT (ops:Array Oper)(n:Nat)(plan:Ord)(A:List Nat):Bool:=
 Region.noSelect ops&&(decide (n=ops.size)||(decide (n<ops.size)&&Region.sinkB .any ops n&&Region.chainB .any ops n)) &&
  decide (A=List.range' n (ops.size-n))&&TA ops n plan n (Array.replicate ops.size false) []
section regions
variable {g:Gl}{ops:Array Oper}
theorem Ke {K:Env->Bx->Hp->Prop}{w0 F}{n:Nat}{tl:List Nat}(SM:Region.noSelect ops=true)
  (J1:∀A,HeadInv .any ops n A->∀i,i<n->A.getD i true=false->∀t,n<=t->t ∉ Region.ready .any ops A)
  (sa:tl=List.range' n (ops.size-n)) :
  ∀(plan:Ord) (f:Nat) (seen:List Nat) (q:Mj) (A:Array Bool) (e:Env) (bx:Bx) (Z:Hp) (a:Act) (w:World),HeadInv .any ops n A->TA ops n plan f A seen=true->
   St g.n g.ds w0 F e bx Z a w->N7 g ops plan q e bx Z (λe bx Z=>Seq g ops tl e bx Z K)->
   (∀j∈seen,j∈Region.ready .any ops A->j<n/\wpOpIn (wd g.Jz) 0 g.P ops (Qn g w0 F K) j (λa' w'=>Sq q Z bx (A.setIfInBounds j true) w'/\
    JY g.P g.Jz .any ops (Qn g w0 F K) (Sq q Z bx) n (λA a w=>Region.seqB .any ops (ops.size-n) n A=true/\wpOpsIn (wd g.Jz) 0 g.P ops (Qn g w0 F K) tl a w) (f-1) (A.setIfInBounds j true) a' w') a w)->
   JY g.P g.Jz .any ops (Qn g w0 F K) (Sq q Z bx) n (λA a w=>Region.seqB .any ops (ops.size-n) n A=true/\wpOpsIn (wd g.Jz) 0 g.P ops (Qn g w0 F K) tl a w) f A a w
 | .done,f,seen,_,A,e,bx,Z,a,w,_,DZ,st,h,_=>by
  simp only[TA,Amn,Amq]at DZ;obtain⟨⟨rfl,_⟩,DZ⟩:=DZ;exact⟨DZ,Qr _ _ _ _ _ _ st h⟩
 | .yes i r,f,seen,q,A,e,bx,Z,a,w,C,DZ,st,h,_=>by
  obtain⟨own,o,v,hqq,ho,hy,hd,h⟩:=h;simp only[Amn]at hqq;simp only[TA,Amn,Amq]at DZ;obtain⟨⟨⟨⟨⟨_,hf0⟩,Ba⟩,hr⟩,hf⟩,DZ⟩:=DZ;obtain⟨f,rfl⟩:∃f',f=f'+1:=⟨f-1,by omega⟩;have Um:i∈Region.ready .any ops A:=by simpa using hr
  refine HM (S':=Sq (SL q own) Z bx) (G:=λ_=>True) (λ_ _ _=>trivial) (λ_ _ _ h=>h.less) _ _ _ _ trivial ?_;refine Rl (Sy:=λw=>Sat (Uk q own Z) w/\Ll bx w) ho (Region.noSelect_spec SM) ?_ J1 (Sq.set hqq.1) (λA w C gN h=>Sq.own C gN hqq.2 h) Ba ?_ _ A a w C (Region.free_spec ho hf) Um ?_ (Sq.of st.sat st.box)
   (Ke SM J1 sa r f [] _ _ _ _ _ _ _ (C.set Um Ba) DZ (st.put o.dst v hd) h (λj hj=>by cases hj))
  .rintro c a w ⟨⟨h0,h1⟩,h2⟩
   exact⟨⟨h0,by cases SO:o.dst<;>simpa[Act.put,SO] using h1⟩,h2⟩
  .intro A a w hL;exact seqB_ready hL.1
  .rcases hy with ⟨hw,hy⟩|⟨hw,rfl⟩
   .exact .inl ⟨by rw[st.wanted];exact hw,λw hS=>by rw[st.eval];exact hy o rfl rfl w hS.1 hS.2⟩
   .exact .inr ⟨by rw[st.wanted];exact hw,rfl⟩
 | .alt i r s,f,seen,q,A,e,bx,Z,a,w,C,DZ,st,h,zG=>by
  obtain⟨h,hs⟩:=h;simp only[TA,Amn,Amq]at DZ;obtain⟨⟨⟨⟨hf0,Ba⟩,hr⟩,DZ⟩,AK1⟩:=DZ;have Um:i∈Region.ready .any ops A:=by simpa using hr
  refine Ke SM J1 sa s f (i::seen) q A e bx Z a w C AK1 st hs (λj hj hjr=>?_);rcases Aml.1 hj with rfl|hj
  .refine⟨Ba,wpOpIn_mono ?_ (ow (Q:=Qx g w0 F) (λc a w h=>h) (λa w h=>h.elim) (h w0 F a w st))⟩
   rintro a' w' ⟨e',JS,Z',S2,hk,h'⟩
   have hl:(A.setIfInBounds j true).getD j false=true:=by
    have Av:j<A.size:=by rw[C.size];obtain⟨_,o,ho,_⟩:=mem_ready.1 Um;exact(Am9.1 ho).1
    simp[Av]
   exact⟨Sq.gO hl hk (Sq.of S2.sat S2.box),HM (S':=Sq (Ir q j) Z' JS) (G:=λl=>l.getD j false=true) (λ_ _ h=>getD_set_true h) (λ_ _ hg h=>Sq.gO hg hk h) _ _ _ _ hl
    (Ke SM J1 sa r (f-1) [] _ _ _ _ _ _ _ (C.set Um Ba) DZ S2 h' (λj hj=>by cases hj))⟩
  .exact zG j hj hjr
 | .no,f,seen,q,A,e,bx,Z,a,w,C,DZ,st,h,zG=>by
  simp only[TA,Amn,Amq]at DZ;obtain⟨⟨hf0,Ai⟩,GQ⟩:=DZ;obtain⟨f,rfl⟩:∃f',f=f'+1:=⟨f-1,by omega⟩;exact⟨λh0=>(by rw[h0]at Ai;cases Ai),λj hj=>zG j (by simpa using AnJ.1 GQ j hj) hj⟩
theorem At.AP0 {k:List Item}{e:Env}{bx:Bx}{Z:Hp}{c:Code}{id:Nat}{n:Nat}{q:Mj}{plan:Ord}{tl:List Nat}(hm:g.P.follows .mixedOrders=true)(hc:c=.region id ops true)
  (hp:gT ops n plan tl=true)
  (h:N7 g ops plan q e bx Z (λe bx Z=>Seq g ops tl e bx Z (λe bx Z=>At g k e bx Z))):At g (.code c::k) e bx Z:=λw0 F a w st=>by
 subst hc;simp only[gT,Amn,AoJ,Amq]at hp;obtain⟨⟨⟨SM,hn⟩,sa⟩,DZ⟩:=hp;have hn':n<=ops.size:=by rcases hn with h|h<;>omega
 have J1:∀A,HeadInv .any ops n A->∀i,i<n->A.getD i true=false->∀t,n<=t->t ∉ Region.ready .any ops A:=by
  intro A inv i hi gN t G;rcases hn with h|⟨⟨h1,h2⟩,h3⟩
  .intro hr;obtain⟨_,o,ho,_⟩:=mem_ready.1 hr;have:=(Am9.1 ho).1;omega
  .exact tail_waits h2 h3 h1 inv _ i rfl hi gN t G
 have C:HeadInv .any ops n (Array.replicate ops.size false):=
  ⟨by simp,λj oj _ hl=>(by rw[getD_replicate_false]at hl;cases hl),λt _ G=>getD_in (by simpa using G) (getD_replicate_false _ _)⟩
 refine Ky.of_wp (K:=λe bx Z=>At g k e bx Z) (wpIn_region_any hm ?_) (λ_ _ _ h=>h);have H:=Ke (K:=λe bx Z=>At g k e bx Z) (tl:=tl) SM J1 sa plan n [] q (Array.replicate ops.size false) e bx Z a { w with drawn:=w.drawn+1 } C DZ st.drew h (λj hj=>by cases hj);have:=J0 (g:=ops.size-n) (λA a w hL=>Kz _ _ A a w hL.1 (sa▸hL.2)) _ _ _ _ H;rw[show n+(ops.size-n)=ops.size by omega]at this;exact this
end regions
end Tw
namespace Tw
open Go
section
variable {g:Gl}{ops:Array Oper}{i:Nat}{r s:Ord}{q:Mj}{e:Env}{bx:Bx}{Z:Hp}{K:Env->Bx->Hp->Prop}{d:Option Nat}{op:Op}{ty:TypeId}{gd:Option (Nat×Bool)}{v:Value}{L:List (Nat×List Nat)}
end
end Tw
end
section
namespace Tw
open Go
variable [HL]
def nth {α:Type}(d:α):List α->Nat->α
 | [],_=>d
 | x::_,0=>x
 | _::l,n+1=>nth d l n
theorem Qv {α:Type}{d:α}:∀{l m:List α} {i:Nat},i<l.length->nth d (l++m) i=nth d l i
 | x::l,m,0,_=>rfl
 | x::l,m,i+1,h=>by simp only[AnQ,nth];exact Qv (by simpa using h)
theorem Qw {α:Type}{d x:α}:∀{l:List α},nth d (l++[x]) l.length=x
 | []=>rfl
 | _::l=>Qw (l:=l)
inductive BK where
 | prop (P:Prop) (i:Decidable P)
 | var (b:Bool)
def BK.val:BK->Bool
 | .prop P i=>@decide P i
 | .var b=>b
def BK.yes:BK->Prop
 | .prop P _=>P
 | .var b=>b=true
def BK.no:BK->Prop
 | .prop P _=>¬P
 | .var b=>b=false
theorem BK.zH {k:BK}(h:k.val=true):k.yes:=by
 cases k with
 | prop P i=>exact @Amg P i h
 | var b=>exact h
theorem BK.AHw {k:BK}(h:k.val=false):k.no:=by
 cases k with
 | prop P i=>exact @Am4 P i h
 | var b=>exact h
structure Vl where
 ρ:List (Option Addr)
 β:List BK
 δ:List Nat
inductive PV where
 | lit (p:Option Addr)
 | var (i:Nat)
 | at (b o:Nat)
 | bx (i o:Nat)
def PV.den (v:Vl):PV->Option Addr
 | .lit p=>p
 | .var i=>nth none v.ρ i
 | .at b o=>some ⟨b,o,none⟩
 | .bx i o=>some ⟨nth 0 v.δ i,o,none⟩
def PV.ok (v:Vl):PV->Bool
 | .var i=>Nat.blt i v.ρ.length
 | .bx i _=>Nat.blt i v.δ.length
 | _=>true
inductive Da where
 | int (k:IntKind) (x:Int)
 | num (k:IntKind) (x:Int)
 | bl (b:Bool)
 | bs (i:Nat) (neg:Bool)
 | str (s:ByteArray)
 | sl (p:PV) (n c:Nat)
 | pt (p:PV)
 | fn (f:Nat) (fst cap:Array Value)
 | mp (m:Option Nat)
 | un
 | raw (v:Value)
def Da.den (v:Vl):Da->Value
 | .int k x=>.int k x
 | .num k x=>.int k x
 | .bl b=>.bool b
 | .bs i false=>.bool (nth (.var false) v.β i).val
 | .bs i true=>.bool (!(nth (.var false) v.β i).val)
 | .str s=>.string s
 | .sl p n c=>.slice (p.den v) n c
 | .pt p=>.pointer (p.den v)
 | .fn f a b=>.func (.func f) a b
 | .mp m=>.map m
 | .un=>undef
 | .raw x=>x
def Da.ok (v:Vl):Da->Bool
 | .bs i _=>Nat.blt i v.β.length
 | .sl p _ _=>p.ok v
 | .pt p=>p.ok v
 | _=>true
inductive Jo where
 | a (x:Da)
 | agg (l:List Da)
def Bt (v:Vl):List Da->List Value
 | []=>[]
 | x::l=>x.den v::Bt v l
def oks (v:Vl):List Da->Bool
 | []=>true
 | x::l=>x.ok v&&oks v l
def Jo.den (v:Vl):Jo->Value
 | .a x=>x.den v
 | .agg l=>.agg (Bt v l).toArray
def Jo.ok (v:Vl):Jo->Bool
 | .a x=>x.ok v
 | .agg l=>oks v l
inductive SV where
 | v (x:Jo)
 | eO (l:List Jo)
def Kf (v:Vl):List Jo->List Value
 | []=>[]
 | x::l=>x.den v::Kf v l
def vN (v:Vl):List Jo->Bool
 | []=>true
 | x::l=>x.ok v&&vN v l
def SV.den (v:Vl):SV->Value
 | .v x=>x.den v
 | .eO l=>.tuple (Kf v l).toArray
def SV.ok (v:Vl):SV->Bool
 | .v x=>x.ok v
 | .eO l=>vN v l
abbrev SV.at (x:Da):SV:=.v (.a x)
structure Vl.le (v w:Vl):Prop where
 ρ:∀i,i<v.ρ.length->nth none w.ρ i=nth none v.ρ i
 β:∀i,i<v.β.length->nth (.var false) w.β i=nth (.var false) v.β i
 δ:∀i,i<v.δ.length->nth 0 w.δ i=nth 0 v.δ i
theorem Vl.le.refl (v:Vl):v.le v:=⟨λ_ _=>rfl,λ_ _=>rfl,λ_ _=>rfl⟩
theorem PV.LF {v w:Vl}(h:v.le w){p:PV}(hp:p.ok v=true):p.den w=p.den v:=by
 cases p with
 | var i=>exact h.ρ i (Anj hp)
 | bx i o=>simp only[PV.den];rw[h.δ i (Anj hp)]
 | _=>rfl
theorem Da.LF {v w:Vl}(h:v.le w){x:Da}(hp:x.ok v=true):x.den w=x.den v:=by
 cases x with
 | bs i n=>cases n<;>simp only[Da.den]<;>rw[h.β i (Anj hp)]
 | sl p n c=>simp only[Da.den];rw[PV.LF h hp]
 | pt p=>simp only[Da.den];rw[PV.LF h hp]
 | _=>rfl
theorem XI {v w:Vl}(h:v.le w):∀{l:List Da},oks v l=true->Bt w l=Bt v l
 | [],_=>rfl
 | x::l,hp=>by
  simp only[oks,Amn]at hp;simp only[Bt];rw[Da.LF h hp.1,XI h hp.2]
theorem Jo.LF {v w:Vl}(h:v.le w){x:Jo}(hp:x.ok v=true):x.den w=x.den v:=by
 cases x with
 | a x=>exact Da.LF h hp
 | agg l=>simp only[Jo.den];rw[XI h hp]
theorem kB {v w:Vl}(h:v.le w):∀{l:List Jo},vN v l=true->Kf w l=Kf v l
 | [],_=>rfl
 | x::l,hp=>by
  simp only[vN,Amn]at hp;simp only[Kf];rw[Jo.LF h hp.1,kB h hp.2]
theorem SV.LF {v w:Vl}(h:v.le w){x:SV}(hp:x.ok v=true):x.den w=x.den v:=by
 cases x with
 | v x=>exact Jo.LF h hp
 | eO l=>simp only[SV.den];rw[kB h hp]
def PV.sub (i b o:Nat):PV->PV
 | .var j=>bif Nat.beq j i then .at b o else .var j
 | p=>p
inductive J3 where
 | ptr (i b o:Nat)
 | bool (i:Nat) (t:Bool)
def PV.tell:J3->PV->PV
 | .ptr i b o,p=>p.sub i b o
 | .bool ..,p=>p
def Da.tell (t:J3):Da->Da
 | .bs j n=>match t with
  | .bool i b=>bif Nat.beq j i then .bl (bif n then !b else b) else .bs j n
  | _=>.bs j n
 | .sl p n c=>.sl (p.tell t) n c
 | .pt p=>.pt (p.tell t)
 | x=>x
def J3.holds (v:Vl):J3->Prop
 | .ptr i b o=>nth none v.ρ i=some ⟨b,o,none⟩
 | .bool i t=>(nth (.var false) v.β i).val=t
theorem PV.GU {v:Vl}{t:J3}(h:t.holds v){p:PV}:(p.tell t).den v=p.den v:=by
 cases t with
 | bool i t=>rfl
 | ptr i b o=>
  cases p with
  | var j=>
   simp only[PV.tell,PV.sub];cases A:Nat.beq j i with
   | true=>have:=Anb A;subst this;exact h.symm
   | false=>rfl
  | _=>rfl
theorem Da.GU {v:Vl}{t:J3}(h:t.holds v){x:Da}:(x.tell t).den v=x.den v:=by
 cases x with
 | bs j n=>
  cases t with
  | ptr i b o=>rfl
  | bool i b=>
   simp only[Da.tell];cases A:Nat.beq j i with
   | true=>
    have:=Anb A;subst this;simp only[J3.holds]at h;cases n<;>simp only[Da.den,ApB,ApS,h]
   | false=>rfl
 | sl p n c=>simp only[Da.tell,Da.den];rw[PV.GU h]
 | pt p=>simp only[Da.tell,Da.den];rw[PV.GU h]
 | _=>rfl
def tells (t:J3):List Da->List Da
 | []=>[]
 | x::l=>x.tell t::tells t l
theorem Ut {v:Vl}{t:J3}(h:t.holds v):∀{l:List Da},Bt v (tells t l)=Bt v l
 | []=>rfl
 | x::l=>by simp only[tells,Bt];rw[Da.GU h,Ut h]
def Jo.tell (t:J3):Jo->Jo
 | .a x=>.a (x.tell t)
 | .agg l=>.agg (tells t l)
theorem Jo.GU {v:Vl}{t:J3}(h:t.holds v){x:Jo}:(x.tell t).den v=x.den v:=by
 cases x with
 | a x=>exact Da.GU h
 | agg l=>simp only[Jo.tell,Jo.den];rw[Ut h]
def gU (t:J3):List Jo->List Jo
 | []=>[]
 | x::l=>x.tell t::gU t l
theorem Xp {v:Vl}{t:J3}(h:t.holds v):∀{l:List Jo},Kf v (gU t l)=Kf v l
 | []=>rfl
 | x::l=>by simp only[gU,Kf];rw[Jo.GU h,Xp h]
def SV.tell (t:J3):SV->SV
 | .v x=>.v (x.tell t)
 | .eO l=>.eO (gU t l)
theorem SV.GU {v:Vl}{t:J3}(h:t.holds v){x:SV}:(x.tell t).den v=x.den v:=by
 cases x with
 | v x=>exact Jo.GU h
 | eO l=>simp only[SV.tell,SV.den];rw[Xp h]
abbrev IB:=Nat×TypeId×List Da
structure S where
 env:List (Nat×SV)
 bx:List IB
 vl:Vl
 Z:Hp
def KU (v:Vl):List (Nat×SV)->List (Nat×Value)
 | []=>[]
 | (t,x)::l=>(t,x.den v)::KU v l
def okE (v:Vl):List (Nat×SV)->Bool
 | []=>true
 | (_,x)::l=>x.ok v&&okE v l
def sf (t:J3):List (Nat×SV)->List (Nat×SV)
 | []=>[]
 | (s,x)::l=>(s,x.tell t)::sf t l
def HR (v:Vl):List IB->Bx
 | []=>[]
 | (i,t,cs)::l=>(nth 0 v.δ i,.cells (Bt v cs).toArray t (0,0))::HR v l
def okB (v:Vl):List IB->Bool
 | []=>true
 | (i,_,cs)::l=>Nat.blt i v.δ.length&&oks v cs&&okB v l
def sg (t:J3):List IB->List IB
 | []=>[]
 | (i,T,cs)::l=>(i,T,tells t cs)::sg t l
def S.e (J:Env)(s:S):Env:=N4 J (KU s.vl s.env)
def S.b (s:S):Bx:=HR s.vl s.bx
def S.ok (s:S):Bool:=okE s.vl s.env&&okB s.vl s.bx
def S.tell (s:S)(t:J3):S:=⟨sf t s.env,sg t s.bx,s.vl,s.Z⟩
def S.w (s:S)(v:Vl):S:=⟨s.env,s.bx,v,s.Z⟩
def S.put (s:S)(d:Option Nat)(x:SV):S:=match d with
 | some d=>⟨(d,x)::s.env,s.bx,s.vl,s.Z⟩
 | none=>s
def S.hp (s:S)(Z:Hp):S:=⟨s.env,s.bx,s.vl,Z⟩
theorem si {v w:Vl}(h:v.le w):∀{l:List (Nat×SV)},okE v l=true->KU w l=KU v l
 | [],_=>rfl
 | (t,x)::l,hp=>by
  simp only[okE,Amn]at hp;simp only[KU];rw[SV.LF h hp.1,si h hp.2]
theorem sj {v w:Vl}(h:v.le w):∀{l:List IB},okB v l=true->HR w l=HR v l
 | [],_=>rfl
 | (i,t,cs)::l,hp=>by
  simp only[okB,Amn]at hp;simp only[HR];rw[XI h hp.1.2,sj h hp.2,h.δ i (Anj hp.1.1)]
theorem eP {v:Vl}{t:J3}(h:t.holds v):∀{l:List (Nat×SV)},KU v (sf t l)=KU v l
 | []=>rfl
 | (s,x)::l=>by simp only[sf,KU];rw[SV.GU h,eP h]
theorem eQ {v:Vl}{t:J3}(h:t.holds v):∀{l:List IB},HR v (sg t l)=HR v l
 | []=>rfl
 | (i,T,cs)::l=>by simp only[sg,HR];rw[Ut h,eQ h]
theorem S.e_w {J:Env}{s:S}{v:Vl}(A:s.ok=true)(h:s.vl.le v):(s.w v).e J=s.e J:=by
 simp only[S.ok,Amn]at A;simp only[S.e,S.w,si h A.1]
theorem S.b_w {s:S}{v:Vl}(A:s.ok=true)(h:s.vl.le v):(s.w v).b=s.b:=by
 simp only[S.ok,Amn]at A;simp only[S.b,S.w,sj h A.2]
theorem S.AK3 {J:Env}{s:S}{t:J3}(h:t.holds s.vl):(s.tell t).e J=s.e J:=by
 simp only[S.e,S.tell,eP h]
theorem S.AK4 {s:S}{t:J3}(h:t.holds s.vl):(s.tell t).b=s.b:=by
 simp only[S.b,S.tell,eQ h]
theorem S.Lp {J:Env}{s:S}{d:Option Nat}{x:SV}:(s.put d x).e J=Tw.put (s.e J) d (x.den s.vl):=by
 cases d<;>rfl
theorem S.Lq {s:S}{d:Option Nat}{x:SV}:(s.put d x).b=s.b:=by cases d<;>rfl
theorem S.IC {s:S}{d:Option Nat}{x:SV}:(s.put d x).Z=s.Z:=by cases d<;>rfl
def gV:List (Nat×SV)->Nat->Option SV
 | [],_=>none
 | (t,x)::l,i=>bif Nat.beq i t then some x else gV l i
theorem Gx {v:Vl}{J:Env}:∀{l:List (Nat×SV)} {i:Nat} {x:SV},gV l i=some x->N4 J (KU v l) i=x.den v
 | (t,y)::l,i,x,h=>by
  simp only[gV]at h;simp only[KU,N4,upd];cases hi:Nat.beq i t with
  | true=>rw[hi]at h;simp only[ApB]at h ⊢;cases h;rfl
  | false=>rw[hi]at h;simp only[ApS]at h ⊢;exact Gx h
def AK5:Value->Da
 | .int k x=>.num k x
 | .bool b=>.bl b
 | .string s=>.str s
 | .slice p n c=>.sl (.lit p) n c
 | .pointer p=>.pt (.lit p)
 | .map m=>.mp m
 | v=>.raw v
theorem kC {vl:Vl}(v:Value):(AK5 v).den vl=v:=by cases v<;>rfl
def Vr:List Value->List Da
 | []=>[]
 | x::l=>AK5 x::Vr l
theorem Lr {vl:Vl}:∀l:List Value,Bt vl (Vr l)=l
 | []=>rfl
 | x::l=>by simp only[Vr,Bt];rw[kC,Lr]
def zI:Value->Jo
 | .agg cs=>.agg (Vr cs.toList)
 | v=>.a (AK5 v)
theorem kD {vl:Vl}(v:Value):(zI v).den vl=v:=by
 cases v
 case agg cs=>simp only[zI,Jo.den,Lr]
 all_goals (simp only[zI,Jo.den];exact kC _)
def sk:List Value->List Jo
 | []=>[]
 | x::l=>zI x::sk l
theorem eU {vl:Vl}:∀l:List Value,Kf vl (sk l)=l
 | []=>rfl
 | x::l=>by simp only[sk,Kf];rw[kD,eU]
def svV:Value->SV
 | .tuple vs=>.eO (sk vs.toList)
 | v=>.v (zI v)
theorem AE4 {vl:Vl}(v:Value):(svV v).den vl=v:=by
 cases v
 case tuple cs=>simp only[svV,SV.den,eU]
 all_goals (simp only[svV,SV.den];exact kD _)
def S.op (s:S):Operand->Option SV
 | .tmp t=>gV s.env t
 | .const v=>some (svV v)
 | .func f=>some (.at (.fn f #[] #[]))
 | .global g=>some (.at (.pt (.at g 0)))
theorem S.AE5 {J:Env}{s:S}{x:Operand}{v:SV}(h:s.op x=some v):AD (s.e J) x=v.den s.vl:=by
 cases x with
 | tmp t=>exact Gx h
 | const c=>simp only[S.op,Ami]at h;subst h;exact(AE4 c).symm
 | func f=>simp only[S.op,Ami]at h;subst h;rfl
 | global g=>simp only[S.op,Ami]at h;subst h;rfl
def Vl.zJ (v:Vl)(p:Option Addr):Vl:=⟨v.ρ++[p],v.β,v.δ⟩
def Vl.pA (v:Vl)(k:BK):Vl:=⟨v.ρ,v.β++[k],v.δ⟩
def Vl.AE6 (v:Vl)(b:Nat):Vl:=⟨v.ρ,v.β,v.δ++[b]⟩
theorem Vl.AE7 (v:Vl)(p:Option Addr):v.le (v.zJ p):=⟨λ_ h=>Qv h,λ_ _=>rfl,λ_ _=>rfl⟩
theorem Vl.sn (v:Vl)(k:BK):v.le (v.pA k):=⟨λ_ _=>rfl,λ_ h=>Qv h,λ_ _=>rfl⟩
theorem Vl.AE8 (v:Vl)(b:Nat):v.le (v.AE6 b):=⟨λ_ _=>rfl,λ_ _=>rfl,λ_ h=>Qv h⟩
theorem Vl.le.trans {u v w:Vl}(h:u.le v)(g:v.le w)(A:u.ρ.length<=v.ρ.length/\u.β.length<=v.β.length/\u.δ.length<=v.δ.length):u.le w:=
 ⟨λi hi=>(g.ρ i (by omega)).trans (h.ρ i hi),λi hi=>(g.β i (by omega)).trans (h.β i hi),λi hi=>(g.δ i (by omega)).trans (h.δ i hi)⟩
end Tw
end
section
namespace Tw
open Go
variable [HL]
structure S.Ls (s s':S):Prop where
 e:∀J,s'.e J=s.e J
 b:s'.b=s.b
 Z:s'.Z=s.Z
theorem S.Ls.refl (s:S):s.Ls s:=⟨λ_=>rfl,rfl,rfl⟩
theorem S.Ls.trans {s C A:S}(h:s.Ls C)(g:C.Ls A):s.Ls A:=⟨λJ=>(g.e J).trans (h.e J),g.b.trans h.b,g.Z.trans h.Z⟩
theorem S.Xq {s:S}{v:Vl}(A:s.ok=true)(h:s.vl.le v):s.Ls (s.w v):=⟨λJ=>S.e_w A h,S.b_w A h,rfl⟩
theorem S.Lt {s:S}{t:J3}(h:t.holds s.vl):s.Ls (s.tell t):=⟨λJ=>S.AK3 h,S.AK4 h,rfl⟩
def S.boo (s:S)(k:BK)(neg:Bool)(K:SV->S->Prop):Prop:=
 match s.ok with
 | true=>K (.at (.bs s.vl.β.length neg)) (s.w (s.vl.pA k))
 | false=>False
theorem S.vO {s:S}{k:BK}{neg:Bool}{K:SV->S->Prop}(h:s.boo k neg K):∃v C,s.Ls C/\v.den C.vl=.bool (bif neg then !k.val else k.val)/\K v C:=by
 unfold S.boo at h;cases A:s.ok with
 | false=>rw[A]at h;cases h
 | true=>
  rw[A]at h;refine⟨_,_,S.Xq A (Vl.sn _ _),?_,h⟩;cases neg<;>simp only[SV.den,Jo.den,Da.den,S.w,Vl.pA,Qw,ApB,ApS]
def S.onB (s:S)(i:Nat)(neg:Bool)(K:Bool->S->Prop):Prop:=
 match neg with
 | false=>((nth (.var false) s.vl.β i).yes->K true (s.tell (.bool i true)))/\((nth (.var false) s.vl.β i).no->K false (s.tell (.bool i false)))
 | true=>((nth (.var false) s.vl.β i).no->K true (s.tell (.bool i false)))/\((nth (.var false) s.vl.β i).yes->K false (s.tell (.bool i true)))
theorem S.vP {s:S}{i:Nat}{neg:Bool}{K:Bool->S->Prop}(h:s.onB i neg K):∃t A,s.Ls A/\A.vl=s.vl/\(Da.bs i neg).den s.vl=.bool t/\K t A:=by
 cases hb:(nth (.var false) s.vl.β i).val with
 | true=>
  cases neg with
  | false=>exact⟨true,_,S.Lt (t:=.bool i true) hb,rfl,by simp only[Da.den,hb],h.1 (BK.zH hb)⟩
  | true=>exact⟨false,_,S.Lt (t:=.bool i true) hb,rfl,by simp only[Da.den,hb];rfl,h.2 (BK.zH hb)⟩
 | false=>
  cases neg with
  | false=>exact⟨false,_,S.Lt (t:=.bool i false) hb,rfl,by simp only[Da.den,hb],h.2 (BK.AHw hb)⟩
  | true=>exact⟨true,_,S.Lt (t:=.bool i false) hb,rfl,by simp only[Da.den,hb];rfl,h.1 (BK.AHw hb)⟩
def S.onV (s:S)(v:Option SV)(K:Bool->S->Prop):Prop:=
 match v with
 | some (.v (.a (.bl b)))=>K b s
 | some (.v (.a (.bs i n)))=>s.onB i n K
 | _=>False
theorem S.ID {s:S}{v:Option SV}{K:Bool->S->Prop}(h:s.onV v K):∃t A x,s.Ls A/\A.vl=s.vl/\v=some x/\x.den s.vl=.bool t/\K t A:=by
 unfold S.onV at h;split at h
 .exact⟨_,s,_,.refl s,rfl,rfl,rfl,h⟩
 .obtain⟨t,A,C,G,h3,h4⟩:=S.vP h;exact⟨t,A,_,C,G,rfl,h3,h4⟩
 .cases h
def S.onP (s:S)(p:PV)(K:PV->S->Prop):Prop:=
 match p with
 | .at b o=>K (.at b o) s
 | .bx i o=>K (.bx i o) s
 | .var i=>∃(b o:Nat),nth none s.vl.ρ i=some ⟨b,o,none⟩/\K (.at b o) (s.tell (.ptr i b o))
 | .lit _=>False
def PV.Xr (v:Vl):PV->Nat
 | .at b _=>b
 | .bx i _=>nth 0 v.δ i
 | _=>0
def PV.off:PV->Nat
 | .at _ o=>o
 | .bx _ o=>o
 | _=>0
def PV.mv:PV->Nat->PV
 | .at b _,o=>.at b o
 | .bx i _,o=>.bx i o
 | p,_=>p
def PV.isA:PV->Bool
 | .at ..=>true
 | .bx ..=>true
 | _=>false
theorem PV.Mw {v:Vl}{p:PV}(h:p.isA=true):p.den v=some ⟨p.Xr v,p.off,none⟩:=by cases p<;>first|rfl|cases h
theorem PV.pB {v:Vl}{p:PV}{o:Nat}(h:p.isA=true):(p.mv o).den v=some ⟨p.Xr v,o,none⟩:=by cases p<;>first|rfl|cases h
theorem S.eV {s:S}{p:PV}{K:PV->S->Prop}(h:s.onP p K):∃q A,s.Ls A/\A.vl=s.vl/\q.isA=true/\q.den s.vl=p.den s.vl/\K q A:=by
 unfold S.onP at h;split at h
 .exact⟨_,s,.refl s,rfl,rfl,rfl,h⟩
 .exact⟨_,s,.refl s,rfl,rfl,rfl,h⟩
 .obtain⟨b,o,C,G⟩:=h;exact⟨.at b o,_,S.Lt (t:=.ptr _ b o) C,rfl,rfl,C.symm,G⟩
 .cases h
def kE (P:Program)(t:TypeId):Option Nat:=(P.info? t).map (·.size)
theorem Ec {P:Program}{t:TypeId}{n:Nat}(h:kE P t=some n):∀w,(Go.sizeOf t).run P w=.ok n w:=λw=>by
 unfold kE at h;cases hi:P.info? t with
 | none=>rw[hi]at h;cases h
 | some i=>rw[hi]at h;simp only[AnK,Ami]at h;subst h;simp[Go.sizeOf,typeInfo,hi]
def kF (P:Program)(t:TypeId):Option Bool:=match P.underlying t with
 | some (.struct _)=>some true
 | some (.array _ _)=>some true
 | some _=>some false
 | none=>none
theorem HS {P:Program}{t:TypeId}{b:Bool}(h:kF P t=some b):∀w,(isAgg t).run P w=.ok b w:=λw=>by
 unfold kF at h;cases hi:P.underlying t with
 | none=>rw[hi]at h;cases h
 | some d=>
  rw[hi]at h;cases d<;>simp only[Ami]at h<;>subst h<;>simp[isAgg,run_underlying hi]
def jm:Option SV->Option (IntKind×Int)
 | some (.v (.a (.int k x)))=>some (k,x)
 | some (.v (.a (.num k x)))=>some (k,x)
 | _=>none
theorem Dh {v:Option SV}{k:IntKind}{x:Int}(h:jm v=some (k,x)):∃u,v=some u/\∀vl,u.den vl=.int k x:=by
 unfold jm at h;split at h
 .cases h;exact⟨_,rfl,λ_=>rfl⟩
 .cases h;exact⟨_,rfl,λ_=>rfl⟩
 .cases h
def YP (P:Program)(op:Op)(ty:TypeId)(s:S)(K:SV->S->Prop):Prop:=∃v A,s.Ls A/\(∀J Z,Yd P (s.e J) s.b Z op ty (v.den A.vl))/\K v A
def Uu (wr:Bool)(k:IntKind)(z:Int)(s:S)(K:SV->S->Prop):Prop:=
 match wr,k with
 | false,.i64=>AF z/\K (.at (.int .i64 z)) s
 | _,_=>∀x,x=k.wrap z->K (.at (.int k x)) s
theorem gW {wr:Bool}{k:IntKind}{z:Int}{s:S}{K:SV->S->Prop}(h:Uu wr k z s K):∃x,x=k.wrap z/\K (.at (.int k x)) s:=by
 unfold Uu at h;split at h
 .exact⟨z,h.1.wrap.symm,h.2⟩
 .exact⟨_,rfl,h _ rfl⟩
def AK7 (wr:Bool)(b:BinOp)(k:IntKind)(a:Int)(k':IntKind)(c:Int)(s:S)(K:SV->S->Prop):Prop:=
 match b with
 | .shl=>((0:Int)<=c/\c<=((IntKind.bits k:Nat):Int))/\∀x,x=k.wrap (a*2^c.toNat)->K (.at (.int k x)) s
 | .shr=>((0:Int)<=c/\c<=((IntKind.bits k:Nat):Int))/\∀x,x=a/2^c.toNat->K (.at (.int k x)) s
 | b=>match decide (k=k') with
  | false=>False
  | true=>match b with
   | .lss=>s.boo (.prop (a<c) inferInstance) false K
   | .leq=>s.boo (.prop (a<=c) inferInstance) false K
   | .gtr=>s.boo (.prop (c<a) inferInstance) false K
   | .geq=>s.boo (.prop (c<=a) inferInstance) false K
   | .eql=>s.boo (.prop (a=c) inferInstance) false K
   | .neq=>s.boo (.prop (a≠c) inferInstance) false K
   | .add=>Uu wr k (a+c) s K
   | .sub=>Uu wr k (a-c) s K
   | .mul=>Uu wr k (a*c) s K
   | .and=>∀x,x=Go.bits .and k a c->K (.at (.int k x)) s
   | .or=>∀x,x=Go.bits .or k a c->K (.at (.int k x)) s
   | .xor=>∀x,x=Go.bits .xor k a c->K (.at (.int k x)) s
   | .andNot=>∀x,x=Go.bits .andNot k a c->K (.at (.int k x)) s
   | .quo=>c≠(0:Int)/\∀x,x=k.wrap (a.tdiv c)->K (.at (.int k x)) s
   | .rem=>c≠(0:Int)/\∀x,x=a.tmod c->K (.at (.int k x)) s
   | _=>False
section
variable {P:Program}{s:S}{K:SV->S->Prop}{T T' ty:TypeId}{x y z:Operand}
theorem LG {op:Op}{k:BK}{neg:Bool}(h:s.boo k neg K)(hy:∀J Z,Yd P (s.e J) s.b Z op ty (.bool (bif neg then !k.val else k.val))):YP P op ty s K:=by
 obtain⟨v,s',A,C,G⟩:=S.vO h;exact⟨v,s',A,λJ Z=>by rw[C];exact hy J Z,G⟩
theorem LH {op:Op}{k:IntKind}{z:Int}(h:∀x,x=z->K (.at (.int k x)) s)(A:∀J Z,Yd P (s.e J) s.b Z op ty (.int k z)):YP P op ty s K:=
 ⟨.at (.int k z),s,.refl s,A,h _ rfl⟩
theorem DN {op:Op}{v:SV}(h:K v s)(A:∀J Z,Yd P (s.e J) s.b Z op ty (v.den s.vl)):YP P op ty s K:=⟨v,s,.refl s,A,h⟩
theorem pC {wr:Bool}{b:BinOp}{k k':IntKind}{a c:Int}(h:AK7 wr b k a k' c s K)(C:∀J,AD (s.e J) x=.int k a)(A:∀J,AD (s.e J) y=.int k' c):YP P (.binOp b T x y T') ty s K:=by
 have G:∀{z:Int} {op:Op},Uu wr k z s K->(∀J Z,Yd P (s.e J) s.b Z op ty (.int k (k.wrap z)))->YP P op ty s K:=λh A=>by
  obtain⟨x,rfl,h⟩:=gW h;exact DN h A
 unfold AK7 at h;split at h
 .exact LH h.2 λJ Z=>Y.shl h.1.1 h.1.2 (C J) (A J)
 .exact LH h.2 λJ Z=>Y.shr h.1.1 h.1.2 (C J) (A J)
 .split at h
  .cases h
  .rename_i hk;have hk:=Amg hk;subst hk;split at h
   .exact LG h λJ Z=>Y.lss (C J) (A J)
   .exact LG h λJ Z=>Y.leq (C J) (A J)
   .exact LG h λJ Z=>Y.gtr (C J) (A J)
   .exact LG h λJ Z=>Y.geq (C J) (A J)
   .exact LG h λJ Z=>Y.eql (C J) (A J)
   .exact LG h λJ Z=>Y.neq (C J) (A J)
   .exact G h λJ Z=>Y.add (C J) (A J)
   .exact G h λJ Z=>Y.sub (C J) (A J)
   .exact G h λJ Z=>Y.mul (C J) (A J)
   .exact LH h λJ Z=>Y.bits (by simp) (C J) (A J)
   .exact LH h λJ Z=>Y.bits (by simp) (C J) (A J)
   .exact LH h λJ Z=>Y.bits (by simp) (C J) (A J)
   .exact LH h λJ Z=>Y.bits (by simp) (C J) (A J)
   .exact LH h.2 λJ Z=>Y.quo h.1 (C J) (A J)
   .exact LH h.2 λJ Z=>Y.rem h.1 (C J) (A J)
   .cases h
def asS:Option SV->Option ByteArray
 | some (.v (.a (.str u)))=>some u
 | _=>none
def zK:Option SV->Option PV
 | some (.v (.a (.pt p)))=>some p
 | _=>none
theorem kG {v:Option SV}{u:ByteArray}(h:asS v=some u):∃w,v=some w/\∀vl,w.den vl=.string u:=by
 unfold asS at h;split at h
 .cases h;exact⟨_,rfl,λ_=>rfl⟩
 .cases h
theorem HT {v:Option SV}{p:PV}(h:zK v=some p):∃w,v=some w/\∀vl,w.den vl=.pointer (p.den vl):=by
 unfold zK at h;split at h
 .cases h;exact⟨_,rfl,λ_=>rfl⟩
 .cases h
def AP1 (b:BinOp)(u w:ByteArray)(s:S)(K:SV->S->Prop):Prop:=
 match b with
 | .eql=>s.boo (.var (ByteArray.toList u==ByteArray.toList w)) false K
 | .neq=>s.boo (.var (ByteArray.toList u==ByteArray.toList w)) true K
 | .add=>(ByteArray.size u+ByteArray.size w<=9223372036854775807)/\K (.at (.str (u++w))) s
 | _=>False
def isNil:PV->Bool
 | .lit none=>true
 | _=>false
def AP2 (b:BinOp)(p q:PV)(s:S)(K:SV->S->Prop):Prop:=
 match isNil q with
 | false=>False
 | true=>match b with
  | .eql=>match p.isA with
   | true=>K (.at (.bl false)) s
   | false=>s.boo (.var (Option.isNone (p.den s.vl))) false K
  | .neq=>match p.isA with
   | true=>K (.at (.bl true)) s
   | false=>s.boo (.var (Option.isSome (p.den s.vl))) false K
  | _=>False
def AP3 (b:BinOp)(x y:Operand)(s:S)(K:SV->S->Prop):Prop:=
 match b with
 | .eql=>s.onV (s.op x) λt s=>s.onV (s.op y) λu s=>K (.at (.bl (t==u))) s
 | .neq=>s.onV (s.op x) λt s=>s.onV (s.op y) λu s=>K (.at (.bl (!(t==u)))) s
 | _=>False
def AK8 (P:Program)(wr:Bool)(b:BinOp)(T:TypeId)(x y:Operand)(s:S)(K:SV->S->Prop):Prop:=
 match jm (s.op x),jm (s.op y) with
 | some (k,a),some (k',c)=>AK7 wr b k a k' c s K
 | _,_=>match P.underlying T with
  | some .string=>match asS (s.op x),asS (s.op y) with
   | some u,some w=>AP1 b u w s K
   | _,_=>False
  | some (.pointer _)=>match zK (s.op x),zK (s.op y) with
   | some p,some q=>AP2 b p q s K
   | _,_=>False
  | some .bool=>AP3 b x y s K
  | _=>False
theorem ev {J:Env}{v:SV}(h:s.op x=some v):AD (s.e J) x=v.den s.vl:=S.AE5 h
theorem pD {wr:Bool}{b:BinOp}(h:AK8 P wr b T x y s K):YP P (.binOp b T x y T') ty s K:=by
 unfold AK8 at h;split at h
 .rename_i k a k' c A h2;obtain⟨u,G,e2⟩:=Dh A;obtain⟨w,e3,e4⟩:=Dh h2;exact pC h (λJ=>by rw[ev G,e2]) (λJ=>by rw[ev e3,e4])
 .split at h
  .rename_i C;split at h
   .rename_i u w A h2;obtain⟨_,G,e2⟩:=kG A;obtain⟨_,e3,e4⟩:=kG h2;unfold AP1 at h;split at h
    .exact LG h λJ Z=>Y.AZq C (by rw[ev G,e2]) (by rw[ev e3,e4])
    .exact LG h λJ Z=>Y.AZr C (by rw[ev G,e2]) (by rw[ev e3,e4])
    .exact DN h.2 λJ Z=>Y.LD C (by rw[ev G,e2]) (by rw[ev e3,e4]) h.1
    .cases h
   .cases h
  .rename_i C;split at h
   .rename_i p q A h2;obtain⟨_,G,e2⟩:=HT A;obtain⟨_,e3,e4⟩:=HT h2;unfold AP2 at h;split at h
    .cases h
    .rename_i hq;have hqn:q.den s.vl=none:=by
      unfold isNil at hq;split at hq
      .rfl
      .cases hq
     have e5:∀J,AD (s.e J) y=.pointer none:=λJ=>by rw[ev e3,e4,hqn]
     split at h
     .split at h
      .rename_i hp;exact DN h λJ Z=>by
        have:=Y.yq (P:=P) (e:=s.e J) (bx:=s.b) (Z:=Z) (ty:=ty) (T':=T') C (x:=x) (y:=y) (q:=p.den s.vl) (by rw[ev G,e2]) (e5 J);rw[PV.Mw hp]at this;exact this
      .exact LG h λJ Z=>Y.yq C (by rw[ev G,e2]) (e5 J)
     .split at h
      .rename_i hp;exact DN h λJ Z=>by
        have:=Y.yr (P:=P) (e:=s.e J) (bx:=s.b) (Z:=Z) (ty:=ty) (T':=T') C (x:=x) (y:=y) (q:=p.den s.vl) (by rw[ev G,e2]) (e5 J);rw[PV.Mw hp]at this;exact this
      .exact LG h λJ Z=>Y.yr C (by rw[ev G,e2]) (e5 J)
     .cases h
   .cases h
  .rename_i C;unfold AP3 at h;split at h
   .obtain⟨t,s1,v1,A,h2,h3,h4,h⟩:=S.ID h;obtain⟨u,s2,v2,g1,g2,g3,g4,h⟩:=S.ID h;exact⟨_,s2,A.trans g1,λJ Z=>Y.AZo C (by rw[ev h3,h4]) (by rw[<-A.e J,ev g3,g4]),h⟩
   .obtain⟨t,s1,v1,A,h2,h3,h4,h⟩:=S.ID h;obtain⟨u,s2,v2,g1,g2,g3,g4,h⟩:=S.ID h;exact⟨_,s2,A.trans g1,λJ Z=>Y.AZp C (by rw[ev h3,h4]) (by rw[<-A.e J,ev g3,g4]),h⟩
   .cases h
  .cases h
end
def S.val (s:S)(x:Operand)(K:SV->S->Prop):Prop:=match s.op x with
 | some v=>K v s
 | none=>False
def AHx (x y z:Operand)(s:S)(K:SV->S->Prop):Prop:=s.onV (s.op z) λt s=>match t with
 | true=>s.val x K
 | false=>s.val y K
def AK9 (x:Operand)(s:S)(K:SV->S->Prop):Prop:=match s.op x with
 | some (.v (.a (.bl true)))=>K (.at (.bl false)) s
 | some (.v (.a (.bl false)))=>K (.at (.bl true)) s
 | some (.v (.a (.bs i n)))=>K (.at (.bs i (!n))) s
 | _=>False
def ALA (x:Operand)(s:S)(K:SV->S->Prop):Prop:=match jm (s.op x) with
 | some (k,a)=>∀x,x=k.wrap (0-a)->K (.at (.int k x)) s
 | none=>False
def zL (P:Program)(T T':TypeId)(x:Operand)(s:S)(K:SV->S->Prop):Prop:=match (P.underlying T).isSome,P.underlying T' with
 | true,some (.int k')=>match s.op x with
  | some (.v (.a (.num k a)))=>K (.at (.num k' (k'.wrap a))) s
  | some (.v (.a (.int k a)))=>∀x,x=k'.wrap a->K (.at (.int k' x)) s
  | _=>False
 | _,_=>False
def ALB (P:Program)(T:TypeId)(x:Operand)(f:Nat)(s:S)(K:SV->S->Prop):Prop:=match P.underlying T with
 | some (.struct A)=>match A[f]? with
  | some fd=>match kE P fd.type,zK (s.op x) with
   | some (_+1),some p=>match p.isA with
    | true=>K (.at (.pt (p.mv (p.off+fd.offset)))) s
    | false=>False
   | _,_=>False
  | none=>False
 | _=>False
def D3 {α:Type}:List α->Nat->Option α
 | [],_=>none
 | x::_,0=>some x
 | _::l,n+1=>D3 l n
def ALC (x:Operand)(i:Nat)(s:S)(K:SV->S->Prop):Prop:=match s.op x with
 | some (.eO l)=>match D3 l i with
  | some u=>K (.v u) s
  | none=>False
 | _=>False
def pE (P:Program)(T:TypeId)(x:Operand)(f:Nat)(s:S)(K:SV->S->Prop):Prop:=match P.underlying T,s.op x with
 | some (.struct A),some (.v (.agg l))=>match A[f]? with
  | some fd=>match kF P fd.type with
   | some false=>match D3 l fd.offset with
    | some u=>K (.at u) s
    | none=>False
   | some true=>match kE P fd.type with
    | some n=>K (.v (.agg ((l.drop fd.offset).take n))) s
    | none=>False
   | none=>False
  | none=>False
 | _,_=>False
def isNum:Option SV->Bool
 | some (.v (.a (.num _ _)))=>true
 | _=>false
def ALD (P:Program)(T:TypeId)(x y:Operand)(s:S)(K:SV->S->Prop):Prop:=match jm (s.op y) with
 | none=>False
 | some (_,i)=>match P.underlying T with
  | some (.slice E)=>match kE P E,s.op x with
   | some z,some (.v (.a (.sl p n c)))=>s.onP p λq s=>((0:Int)<=i/\i<((n:Nat):Int))/\K (.at (.pt (q.mv (q.off+i.toNat*z)))) s
   | _,_=>False
  | some (.array n E)=>match kE P E,zK (s.op x) with
   | some z,some p=>match p.isA with
    | false=>False
    | true=>match isNum (s.op y) with
     | true=>match decide (0<=i/\i<(n:Int)) with
      | true=>K (.at (.pt (p.mv (p.off+i.toNat*z)))) s
      | false=>False
     | false=>((0:Int)<=i/\i<((n:Nat):Int))/\K (.at (.pt (p.mv (p.off+i.toNat*z)))) s
   | _,_=>False
  | _=>False
def kH:List Da->Option (List ByteArray)
 | []=>some []
 | .str w::l=>match kH l with
  | some r=>some (w::r)
  | none=>none
 | _::_=>none
def zM (P:Program)(T:TypeId)(x y:Operand)(s:S)(K:SV->S->Prop):Prop:=match P.underlying T,s.op x,jm (s.op y) with
 | some .string,some (.v (.a (.str w))),some (_,i)=>∃u:UInt8,(0:Int)<=i/\(ByteArray.data w)[Int.toNat i]?=some u/\K (.at (.int .u8 ((UInt8.toNat u:Nat):Int))) s
 | some (.array n E),some (.v (.agg l)),some (_,i)=>match kF P E,kE P E,kH l with
  | some false,some 1,some r=>((0:Int)<=i/\i<((n:Nat):Int))/\∃u:ByteArray,r[Int.toNat i]?=some u/\K (.at (.str u)) s
  | _,_,_=>False
 | _,_,_=>False
def ALE (x:Operand)(s:S)(K:SV->S->Prop):Prop:=match s.op x with
 | some (.v (.a (.fn f a b)))=>K (.at (.fn f a b)) s
 | some (.v (.a (.pt p)))=>s.onP p λq s=>K (.at (.pt q)) s
 | _=>False
def S.Xs (s:S):List Operand->Option (List SV)
 | []=>some []
 | x::l=>match s.op x,s.Xs l with
  | some v,some r=>some (v::r)
  | _,_=>none
def ER (vl:Vl):List SV->List Value
 | []=>[]
 | x::l=>x.den vl::ER vl l
def ALF (fn:Fn)(xs ys:Array Operand)(s:S)(K:SV->S->Prop):Prop:=match fn with
 | .func f=>match s.Xs xs.toList,s.Xs ys.toList with
  | some a,some b=>K (.at (.fn f (ER s.vl a).toArray (ER s.vl b).toArray)) s
  | _,_=>False
 | _=>False
def pF (P:Program)(T:TypeId)(x:Operand)(s:S)(K:SV->S->Prop):Prop:=match P.underlying T with
 | some d=>match isIf d with
  | false=>match s.op x with
   | some v=>K (.at (.raw (.iface T (v.den s.vl)))) s
   | none=>False
  | true=>False
 | none=>False
def ALG (P:Program)(x:Operand)(ts:Array TypeId)(s:S)(K:SV->S->Prop):Prop:=match ts.toList,s.op x with
 | [T],some (.v (.a (.sl _ n _)))=>match P.underlying T with
  | some (.slice _)=>K (.at (.int .i64 ((n:Nat):Int))) s
  | _=>False
 | [T],some (.v (.a (.str w)))=>match P.underlying T with
  | some .string=>K (.at (.int .i64 ((ByteArray.size w:Nat):Int))) s
  | _=>False
 | _,_=>False
def ALH (P:Program)(x:Operand)(ts:Array TypeId)(s:S)(K:SV->S->Prop):Prop:=match ts.toList,s.op x with
 | [T],some (.v (.a (.sl _ _ c)))=>match P.underlying T with
  | some (.slice _)=>K (.at (.int .i64 ((c:Nat):Int))) s
  | _=>False
 | _,_=>False
section
variable {P:Program}{s:S}{K:SV->S->Prop}{T T' ty:TypeId}{x y z:Operand}
theorem eW {op:Op}(h:s.val x K)(C:∀v J Z,AD (s.e J) x=v->Yd P (s.e J) s.b Z op ty v):YP P op ty s K:=by
 unfold S.val at h;split at h
 .rename_i v A;exact DN h λJ Z=>C _ J Z (ev A)
 .cases h
theorem kI (h:AHx x y z s K):YP P (.pick z x y) ty s K:=by
 obtain⟨t,s1,v1,A,h2,h3,h4,h⟩:=S.ID h;have G:∀J,AD (s.e J) z=.bool t:=λJ=>by rw[ev h3,h4]
 cases t with
 | true=>
  simp only[S.val]at h;split at h
  .rename_i v C;exact⟨v,s1,A,λJ Z=>Y.AHp (G J) (by rw[<-A.e J];exact ev C),h⟩
  .cases h
 | false=>
  simp only[S.val]at h;split at h
  .rename_i v C;exact⟨v,s1,A,λJ Z=>Y.AHq (G J) (by rw[<-A.e J];exact ev C),h⟩
  .cases h
theorem pG (h:AK9 x s K):YP P (.unOp .not T x) ty s K:=by
 unfold AK9 at h;split at h
 .rename_i A;exact DN h λJ Z=>Y.not (p:=true) (by rw[ev A];rfl)
 .rename_i A;exact DN h λJ Z=>Y.not (p:=false) (by rw[ev A];rfl)
 .rename_i i n A;refine DN h λJ Z=>?_;cases n with
  | false=>exact Y.not (by rw[ev A];rfl)
  | true=>
   have:=Y.not (P:=P) (e:=s.e J) (bx:=s.b) (Z:=Z) (ty:=ty) (T:=T) (x:=x) (p:=!(nth (.var false) s.vl.β i).val) (by rw[ev A];rfl);rw[Bool.not_not]at this;exact this
 .cases h
theorem pH (h:ALA x s K):YP P (.unOp .neg T x) ty s K:=by
 unfold ALA at h;split at h
 .rename_i k a G;obtain⟨u,A,C⟩:=Dh G;exact LH h λJ Z=>Y.neg (by rw[ev A,C])
 .cases h
theorem kJ (h:zL P T T' x s K):YP P (.convert T T' x) ty s K:=by
 unfold zL at h;split at h
 .rename_i C G;split at h
  .rename_i A;exact DN h λJ Z=>Y.conv C G (by rw[ev A];rfl)
  .rename_i A;exact LH h λJ Z=>Y.conv C G (by rw[ev A];rfl)
  .cases h
 .cases h
theorem pI {f:Nat}(h:ALB P T x f s K):YP P (.fieldAddr T x f) ty s K:=by
 unfold ALB at h;split at h
 .rename_i fs hT;split at h
  .rename_i fd hf;split at h
   .rename_i n p hz hp;split at h
    .rename_i A;obtain⟨u,C,G⟩:=HT hp;refine DN h λJ Z=>?_;have:=Y.fieldAddr (P:=P) (e:=s.e J) (bx:=s.b) (Z:=Z) (ty:=ty) (x:=x) (a':=⟨p.Xr s.vl,p.off+fd.offset,none⟩) hT hf (Ec hz) (by rw[ev C,G,PV.Mw A]) rfl;simpa only[SV.den,Jo.den,Da.den,PV.pB A] using this
    .cases h
   .cases h
  .cases h
 .cases h
theorem Uv {vl:Vl}:∀{l:List Da} {i:Nat} {u:Da},D3 l i=some u->(Bt vl l)[i]?=some (u.den vl)
 | x::l,0,u,h=>by simp only[D3,Ami]at h;subst h;rfl
 | x::l,i+1,u,h=>by simp only[D3]at h;simp only[Bt,AnV];exact Uv h
theorem Xt {vl:Vl}:∀{l:List Jo} {i:Nat} {u:Jo},D3 l i=some u->(Kf vl l)[i]?=some (u.den vl)
 | x::l,0,u,h=>by simp only[D3,Ami]at h;subst h;rfl
 | x::l,i+1,u,h=>by simp only[D3]at h;simp only[Kf,AnV];exact Xt h
theorem Xu (vl:Vl):∀l:List Da,Bt vl l=l.map (Da.den vl)
 | []=>rfl
 | x::l=>by simp only[Bt,AnT];rw[Xu vl l]
theorem pJ {i:Nat}(h:ALC x i s K):YP P (.extract x i) ty s K:=by
 unfold ALC at h;split at h
 .rename_i l C;split at h
  .rename_i u A;exact DN h λJ Z=>Y.extract (by rw[ev C];rfl) (by simpa[SV.den] using Xt A)
  .cases h
 .cases h
theorem gX {f:Nat}(h:pE P T x f s K):YP P (.field T x f) ty s K:=by
 unfold pE at h;split at h
 .rename_i fs l C hv;split at h
  .rename_i fd G;split at h
   .rename_i A;split at h
    .rename_i u hu;exact DN h λJ Z=>Y.AKg C G (HS A) (by rw[ev hv];rfl) (by simpa[SV.den,Jo.den] using Uv hu)
    .cases h
   .rename_i A;split at h
    .rename_i n hn;refine DN h λJ Z=>?_;have:=Y.AKh (P:=P) (e:=s.e J) (bx:=s.b) (Z:=Z) (ty:=ty) (x:=x) C G (HS A) (Ec hn) (cs:=(Bt s.vl l).toArray) (by rw[ev hv];rfl) (cs':=(Bt s.vl ((l.drop fd.offset).take n)).toArray) (by simp[Xu,AqC]);exact this
    .cases h
   .cases h
  .cases h
 .cases h
theorem pK (h:ALD P T x y s K):YP P (.indexAddr T x y) ty s K:=by
 unfold ALD at h;split at h
 .cases h
 .rename_i k i hi;obtain⟨u,e1,e2⟩:=Dh hi;have hy:∀J,AD (s.e J) y=.int k i:=λJ=>by rw[ev e1,e2]
  split at h
  .rename_i E A;split at h
   .rename_i z p n c C hv;obtain⟨q,s',h1,h2,G,h4,h5,h⟩:=S.eV h;refine⟨_,s',h1,λJ Z=>?_,h⟩;have:=Y.idx (P:=P) (e:=s.e J) (bx:=s.b) (Z:=Z) (ty:=ty) (x:=x) (y:=y) (a':=⟨q.Xr s.vl,q.off+i.toNat*z,none⟩) A (Ec C) (b:=q.Xr s.vl) (o:=q.off) (n:=n) (c:=c) (by
     rw[ev hv];show Value.slice (p.den s.vl) n c=_;rw[<-h4,PV.Mw G]) (hy J) h5 rfl
    simpa only[SV.den,Jo.den,Da.den,h2,PV.pB G] using this
   .cases h
  .rename_i n E A;split at h
   .rename_i z p C hp;obtain⟨u2,e3,e4⟩:=HT hp;split at h
    .cases h
    .rename_i hA;have go:(0<=i/\i<(n:Int))->K (.at (.pt (p.mv (p.off+i.toNat*z)))) s->YP P (.indexAddr T x y) ty s K:=λhr hk=>by
      refine DN hk λJ Z=>?_;have:=Y.AZh (P:=P) (e:=s.e J) (bx:=s.b) (Z:=Z) (ty:=ty) (x:=x) (y:=y) (a':=⟨p.Xr s.vl,p.off+i.toNat*z,none⟩) A (Ec C) (b:=p.Xr s.vl) (o:=p.off) (by rw[ev e3,e4,PV.Mw hA]) (hy J) hr rfl;simpa only[SV.den,Jo.den,Da.den,PV.pB hA] using this
     split at h
     .split at h
      .rename_i hd;exact go (Amg hd) h
      .cases h
     .exact go h.1 h.2
   .cases h
  .cases h
theorem eX {vl:Vl}:∀{l:List Da} {r:List ByteArray},kH l=some r->Bt vl l=r.map .string
 | [],r,h=>by simp only[kH,Ami]at h;subst h;rfl
 | x::l,r,h=>by
  cases x<;>simp only[kH]at h<;>try (cases h;done)
  split at h
  .rename_i r' A;cases h;simp only[Bt,AnT,eX A];rfl
  .cases h
theorem kK (h:zM P T x y s K):YP P (.index T x y) ty s K:=by
 unfold zM at h;split at h
 .rename_i w k i hT hx hy;obtain⟨u2,A,C⟩:=Dh hy;obtain⟨u,G,h1,h⟩:=h;exact DN h λJ Z=>Y.AKj hT (by rw[ev hx];rfl) (by rw[ev A,C]) G h1
 .rename_i n E l k i hT hx hy;obtain⟨u2,A,C⟩:=Dh hy;split at h
  .rename_i r ha hz hr;obtain⟨G,u,h1,h⟩:=h;refine DN h λJ Z=>Y.AKi hT (HS ha) (Ec hz) (cs:=(Bt s.vl l).toArray) (by rw[ev hx];rfl) (by rw[ev A,C]) G ?_;rw[eX hr];simp[h1]
  .cases h
 .cases h
theorem pL (h:ALE x s K):YP P (.nilCheck x) ty s K:=by
 unfold ALE at h;split at h
 .rename_i A;exact DN h λJ Z=>Y.vL (by rw[ev A];rfl)
 .rename_i p A;obtain⟨q,s',G,h2,C,h4,h⟩:=S.eV h;refine⟨_,s',G,λJ Z=>?_,h⟩;have:=Y.nilCheck (P:=P) (e:=s.e J) (bx:=s.b) (Z:=Z) (ty:=ty) (x:=x) (a:=⟨q.Xr s.vl,q.off,none⟩) (by
   rw[ev A];show Value.pointer (p.den s.vl)=_;rw[<-h4,PV.Mw C])
  simpa only[SV.den,Jo.den,Da.den,h2,PV.Mw C] using this
 .cases h
theorem Fk:∀{l:List Operand} {r:List SV} {J:Env},s.Xs l=some r->l.map (AD (s.e J))=ER s.vl r
 | [],r,J,h=>by simp only[S.Xs,Ami]at h;subst h;rfl
 | x::l,r,J,h=>by
  simp only[S.Xs]at h;split at h
  .rename_i v r' A C;cases h;simp only[AnT,ER];rw[ev A,Fk C]
  .cases h
theorem pM {fn:Fn}{xs ys:Array Operand}(h:ALF fn xs ys s K):YP P (.makeFunc fn xs ys) ty s K:=by
 unfold ALF at h;split at h
 .split at h
  .rename_i a b A C;exact DN h λJ Z=>Y.makeFunc (by simpa using Fk A) (by simpa using Fk C)
  .cases h
 .cases h
theorem gY (h:pF P T x s K):YP P (.makeInterface T x) ty s K:=by
 unfold pF at h;split at h
 .rename_i d A;split at h
  .rename_i C;split at h
   .rename_i v G;exact DN h λJ Z=>Y.iface A C (ev G)
   .cases h
  .cases h
 .cases h
theorem pN {ts:Array TypeId}(h:ALG P x ts s K):YP P (.call { callee:=.builtin .len,args:=#[x],argTypes:=ts }) ty s K:=by
 unfold ALG at h;split at h
 .rename_i T p n c C hv;have A:ts=#[T]:=by rw[<-AnB];simpa using C
  split at h
  .rename_i G;exact DN h λJ Z=>Y.AKe G (by rw[ev hv];rfl) A
  .cases h
 .rename_i T w C hv;have A:ts=#[T]:=by rw[<-AnB];simpa using C
  split at h
  .rename_i G;exact DN h λJ Z=>Y.AKf G (by rw[ev hv];rfl) A
  .cases h
 .cases h
theorem pO {ts:Array TypeId}(h:ALH P x ts s K):YP P (.call { callee:=.builtin .cap,args:=#[x],argTypes:=ts }) ty s K:=by
 unfold ALH at h;split at h
 .rename_i T p n c C hv;have A:ts=#[T]:=by rw[<-AnB];simpa using C
  split at h
  .rename_i G;exact DN h λJ Z=>Y.AZg G (by rw[ev hv];rfl) A
  .cases h
 .cases h
end
def isZero:Option SV->Bool
 | some (.v (.a (.num _ 0)))=>true
 | _=>false
def pP (P:Program)(T:TypeId)(x:Operand)(lo hi:Option Operand)(s:S)(K:SV->S->Prop):Prop:=match P.underlying T,s.op x with
 | some (.slice E),some (.v (.a (.sl p n c)))=>match kE P E with
  | none=>False
  | some z=>match lo,hi with
   | none,none=>True/\K (.at (.sl p n c)) s
   | none,some h=>match jm (s.op h) with
    | some (_,h)=>((0:Int)<=h/\h<=((c:Nat):Int))/\K (.at (.sl p (Int.toNat h) c)) s
    | none=>False
   | some l,none=>match isZero (s.op l) with
    | true=>((0:Int)<=0/\(0:Int)<=((n:Nat):Int))/\K (.at (.sl p n c)) s
    | false=>match jm (s.op l) with
     | some (_,l)=>((0:Int)<=l/\l<=((n:Nat):Int))/\K (.at (.sl (.lit (Mp (p.den s.vl) (Int.toNat l) c z)) (n-Int.toNat l) (c-Int.toNat l))) s
     | none=>False
   | some l,some h=>match jm (s.op h) with
    | none=>False
    | some (_,h)=>match isZero (s.op l) with
     | true=>((0:Int)<=0/\(0:Int)<=h/\h<=((c:Nat):Int))/\K (.at (.sl p (Int.toNat h) c)) s
     | false=>match jm (s.op l) with
      | some (_,l)=>((0:Int)<=l/\l<=h/\h<=((c:Nat):Int))/\K (.at (.sl (.lit (Mp (p.den s.vl) (Int.toNat l) c z)) (Int.toNat h-Int.toNat l) (c-Int.toNat l))) s
      | none=>False
 | _,_=>False
def AFA {α:Type}:List α->Nat->α->List α
 | [],_,_=>[]
 | _::l,0,y=>y::l
 | x::l,n+1,y=>x::AFA l n y
def pQ:List Da->Nat->List Da->List Da
 | c,_,[]=>c
 | c,o,x::l=>pQ (AFA c o x) (o+1) l
def Da.one:Da->Bool
 | .raw v=>v.oneCell'
 | _=>true
def SV.flat:SV->Option (List Da)
 | .v (.a x)=>match x.one with
  | true=>some [x]
  | false=>none
 | .v (.agg l)=>some l
 | .eO _=>none
def eY (A:Nat->Option (Nat×Nat)):List Da->List (Nat×SV)->Option (List Da)
 | c,[]=>some c
 | c,(i,v)::r=>match A i,v.flat with
  | some (off,z),some l=>match decide (l.length≠z)||decide (off+l.length > c.length) with
   | true=>none
   | false=>eY A (pQ c off l) r
  | _,_=>none
def S.parts (s:S):List (Nat×Operand)->Option (List (Nat×SV))
 | []=>some []
 | (i,x)::l=>match s.op x,s.parts l with
  | some v,some r=>some ((i,v)::r)
  | _,_=>none
def SQ (vl:Vl):List (Nat×SV)->List (Nat×Value)
 | []=>[]
 | (i,x)::l=>(i,x.den vl)::SQ vl l
def TB (P:Program):List Field->Option (List (Nat×Nat))
 | []=>some []
 | f::l=>match kE P f.type,TB P l with
  | some z,some r=>some ((f.offset,z)::r)
  | _,_=>none
def pR (P:Program)(T:TypeId)(ps:List (Nat×SV)):Option (List Da):=
 match P.info? T,P.underlying T with
 | some A,some (.array _ e)=>match A.zero,kE P e with
  | some z,some C=>eY (λi=>some (i*C,C)) (Vr z.cells.toList) ps
  | _,_=>none
 | some A,some (.struct G)=>match A.zero,TB P G.toList with
  | some z,some pl=>eY (λi=>D3 pl i) (Vr z.cells.toList) ps
  | _,_=>none
 | _,_=>none
def pS (P:Program)(T:TypeId)(ps:Array (Nat×Operand))(s:S)(K:SV->S->Prop):Prop:=match s.parts ps.toList with
 | none=>False
 | some vs=>match pR P T vs with
  | some l=>K (.v (.agg l)) s
  | none=>False
section
variable {P:Program}{s:S}{K:SV->S->Prop}{T T' ty:TypeId}{x y z:Operand}
theorem Vs {J:Env}(h:isZero (s.op x)=true):∃k,AD (s.e J) x=.int k 0:=by
 cases A:s.op x with
 | none=>rw[A]at h;cases h
 | some v=>
  rw[A]at h;unfold isZero at h;split at h
  .rename_i k C;cases C;exact⟨k,by rw[ev A];rfl⟩
  .cases h
theorem gZ {lo hi:Option Operand}(h:pP P T x lo hi s K):YP P (.slice T x lo hi none) ty s K:=by
 unfold pP at h;split at h
 .rename_i E p n c hT hv;have hx:∀J,AD (s.e J) x=.slice (p.den s.vl) n c:=λJ=>by rw[ev hv];rfl
  split at h
  .cases h
  .rename_i z hz;split at h
   .exact DN h.2 λJ Z=>Y.sla hT (Ec hz) (hx J) trivial
   .split at h
    .rename_i h1;obtain⟨u,C,G⟩:=Dh h1;exact DN h.2 λJ Z=>Y.slh hT (Ec hz) (hx J) (by rw[ev C,G]) h.1
    .cases h
   .split at h
    .rename_i A;exact DN h.2 λJ Z=>Y.AZn hT (Ec hz) (hx J) (Vs A).choose_spec h.1
    .split at h
     .rename_i h1;obtain⟨u,C,G⟩:=Dh h1;exact DN h.2 λJ Z=>Y.sll hT (Ec hz) (hx J) (by rw[ev C,G]) h.1
     .cases h
   .split at h
    .cases h
    .rename_i h2;obtain⟨u,C,G⟩:=Dh h2;split at h
     .rename_i A;exact DN h.2 λJ Z=>Y.APs hT (Ec hz) (hx J) (Vs A).choose_spec (by rw[ev C,G]) h.1
     .split at h
      .rename_i h1;obtain⟨u2,e3,e4⟩:=Dh h1;exact DN h.2 λJ Z=>Y.APr hT (Ec hz) (hx J) (by rw[ev e3,e4]) (by rw[ev C,G]) h.1
      .cases h
 .cases h
theorem eZ {vl:Vl}{a:Da}:∀{l:List Da} {i:Nat},Bt vl (AFA l i a)=(Bt vl l).set i (a.den vl)
 | [],_=>rfl
 | x::l,0=>rfl
 | x::l,i+1=>by simp only[AFA,Bt,ApO];rw[eZ]
theorem Xv {vl:Vl}:∀{l c:List Da} {o:Nat},(Bt vl (pQ c o l)).toArray=SP (Bt vl c).toArray o (Bt vl l)
 | [],_,_=>rfl
 | x::l,c,o=>by
  simp only[pQ,Bt,SP];rw[Xv,eZ];simp
theorem eb:∀(l:List Value) (c:Array Value) (off k:Nat),(l.zipIdx k).foldl (λcs (x:Value×Nat)=>cs.setIfInBounds (off+x.2) x.1) c=SP c (off+k) l
 | [],c,off,k=>rfl
 | x::l,c,off,k=>by
  simp only[List.zipIdx_cons,AoC,SP];rw[eb l _ off (k+1)];rfl
theorem FJ {vl:Vl}:∀l:List Da,(Bt vl l).length=l.length
 | []=>rfl
 | x::l=>by simp only[Bt,AnN];rw[FJ]
theorem kL {vl:Vl}{v:SV}{l:List Da}(h:v.flat=some l):(v.den vl).cells=(Bt vl l).toArray:=by
 unfold SV.flat at h;split at h
 .rename_i x;split at h
  .rename_i A;cases h;simp only[SV.den,Jo.den,Bt];cases x<;>try rfl
   case bs i n=>cases n<;>rfl
   case raw v=>cases v<;>first|rfl|cases A
  .cases h
 .cases h;rfl
 .cases h
theorem Uw {vl:Vl}{A:Nat->Option (Nat×Nat)}:∀{ps:List (Nat×SV)} {c out:List Da},eY A c ps=some out->Instr.fill A (Bt vl c).toArray (SQ vl ps)=some (Bt vl out).toArray
 | [],c,out,h=>by simp only[eY,Ami]at h;subst h;rfl
 | (i,v)::r,c,out,h=>by
  simp only[eY]at h;split at h
  .rename_i off z l G h2;split at h
   .cases h
   .rename_i hd;simp only[Bool.or_eq_false_iff,Am2]at hd;have hc:=kL (vl:=vl) h2;have:=Uw (vl:=vl) h;simp only[SQ,Instr.fill,G,hc];have hs:((Bt vl l).toArray.size≠z||off+(Bt vl l).toArray.size > (Bt vl c).toArray.size)=false:=by
     simp[FJ];omega
    rw[Amb (by simpa using hs)];rw[<-this]
    congr 1
    rw[Xv];have C:=eb (Bt vl l) (Bt vl c).toArray off 0;rw[Ank]at C;rw[<-C];simp
  .cases h
theorem SR {J:Env}:∀{l:List (Nat×Operand)} {r:List (Nat×SV)},s.parts l=some r->l.map (λp=>(p.1,AD (s.e J) p.2))=SQ s.vl r
 | [],r,h=>by simp only[S.parts,Ami]at h;subst h;rfl
 | (i,x)::l,r,h=>by
  simp only[S.parts]at h;split at h
  .rename_i v r' A C;cases h;simp only[AnT,SQ];rw[ev A,SR C]
  .cases h
theorem TC:∀{l:List Field} {r:List (Nat×Nat)},TB P l=some r->l.mapM (λf=>(P.info? f.type).map λi=>(f.offset,i.size))=some r
 | [],r,h=>by simp only[TB,Ami]at h;subst h;rfl
 | f::l,r,h=>by
  simp only[TB]at h;split at h
  .rename_i z r' A C;cases h;unfold kE at A;cases hi:P.info? f.type with
   | none=>rw[hi]at A;cases A
   | some i=>
    rw[hi]at A;simp only[AnK,Ami]at A;subst A;simp[AqQ,hi,TC C]
  .cases h
theorem so {α:Type}:∀(l:List α) (i:Nat),D3 l i=l[i]?
 | [],_=>by simp[D3]
 | x::l,0=>rfl
 | x::l,i+1=>by simp only[D3,AnV];exact so l i
theorem pT {vl:Vl}{ps:List (Nat×SV)}{l:List Da}(h:pR P T ps=some l):P.built T (SQ vl ps)=some (Bt vl l).toArray:=by
 unfold pR at h;unfold Program.built;split at h
 .rename_i it n e C G;rw[C,G];split at h
  .rename_i z ie h3 A;unfold kE at A;cases hi:P.info? e with
   | none=>rw[hi]at A;cases A
   | some i=>
    rw[hi]at A;simp only[AnK,Ami]at A;subst A;have:=Uw (vl:=vl) h;rw[Lr]at this;simpa[h3,hi] using this
  .cases h
 .rename_i it fs C G;rw[C,G];split at h
  .rename_i z pl h3 A;have:=Uw (vl:=vl) h;rw[Lr]at this;have h5:=TC A;simp only[h3,h5];simpa[so] using this
  .cases h
 .cases h
theorem ga {ps:Array (Nat×Operand)}(h:pS P T ps s K):YP P (.build T ps) ty s K:=by
 unfold pS at h;split at h
 .cases h
 .rename_i vs C;split at h
  .rename_i l A;exact DN h λJ Z=>Y.build (SR C) (pT A)
  .cases h
end
end Tw
end
section
namespace Tw
open Go
variable [HL]
structure Vl.Le (v w:Vl):Prop where
 le:v.le w
 ln:v.ρ.length<=w.ρ.length/\v.β.length<=w.β.length/\v.δ.length<=w.δ.length
theorem Vl.Le.refl (v:Vl):v.Le v:=⟨.refl v,Amr _,Amr _,Amr _⟩
theorem Vl.Le.trans {u v w:Vl}(h:u.Le v)(g:v.Le w):u.Le w:=⟨h.le.trans g.le h.ln,by have:=h.ln;have:=g.ln;omega⟩
theorem Vl.sq (v:Vl)(p:Option Addr):v.Le (v.zJ p):=⟨v.AE7 p,by simp[Vl.zJ]⟩
theorem Vl.su (v:Vl)(k:BK):v.Le (v.pA k):=⟨v.sn k,by simp[Vl.pA]⟩
def exA (P:Program)(t:TypeId)(vl:Vl)(k:Da->Vl->Prop):Prop:=match P.underlying t with
 | some (.int A)=>∃x:Int,k (.int A x) vl
 | some .bool=>∃b:Bool,k (.bs vl.β.length false) (vl.pA (.var b))
 | some (.slice _)=>∃p:Option Addr,∃n:Nat,∃c:Nat,k (.sl (.var vl.ρ.length) n c) (vl.zJ p)
 | some .string=>∃w:ByteArray,k (.str w) vl
 | some (.pointer _)=>∃q:Option Addr,k (.pt (.var vl.ρ.length)) (vl.zJ q)
 | some (.map _ _)=>∃m:Option Nat,k (.mp m) vl
 | _=>∃v:Value,k (.raw v) vl
def ALI (P:Program):List TypeId->Vl->(List Da->Vl->Prop)->Prop
 | [],vl,k=>k [] vl
 | t::l,vl,k=>exA P t vl λa vl=>ALI P l vl λr vl=>k (a::r) vl
def zN (P:Program):Nat->TypeId->List TypeId
 | 0,t=>[t]
 | f+1,t=>match P.underlying t with
  | some (.struct A)=>(A.toList.map λfd=>zN P f fd.type).flatten
  | some (.array n e)=>(List.replicate n (zN P f e)).flatten
  | _=>[t]
def small (P:Program)(t:TypeId):Bool:=match kF P t,kE P t with
 | some true,some n=>Nat.ble n 24
 | _,_=>false
def ex1 (P:Program)(t:TypeId)(vl:Vl)(k:Jo->Vl->Prop):Prop:=match small P t with
 | true=>ALI P (zN P 40 t) vl λl vl=>k (.agg l) vl
 | false=>exA P t vl λa vl=>k (.a a) vl
def ALJ (P:Program):List TypeId->Vl->(List Jo->Vl->Prop)->Prop
 | [],vl,k=>k [] vl
 | t::l,vl,k=>ex1 P t vl λa vl=>ALJ P l vl λr vl=>k (a::r) vl
def exV (P:Program)(t:TypeId)(vl:Vl)(k:SV->Vl->Prop):Prop:=match P.underlying t with
 | some (.tuple ts)=>ALJ P ts.toList vl λl vl=>k (.eO l) vl
 | some (.float d)=>∃x:Nat,k (.v (.a (.raw (.float d x)))) vl
 | some (.complex d)=>∃x:Nat,∃y:Nat,k (.v (.a (.raw (.complex d x y)))) vl
 | _=>ex1 P t vl λa vl=>k (.v a) vl
def ec (P:Program)(t:TypeId)(vl:Vl)(k:SV->Vl->Prop):Prop:=match P.underlying t with
 | some (.func _ _ _)=>∃f:Fn,∃a:Array Value,∃c:Array Value,k (.v (.a (.raw (.func f a c)))) vl
 | _=>exV P t vl k
section
variable {P:Program}
theorem eh {t:TypeId}{vl:Vl}{k:Da->Vl->Prop}(h:exA P t vl k):∃a w,vl.Le w/\k a w:=by
 unfold exA at h;split at h
 .obtain⟨x,h⟩:=h;exact⟨_,_,.refl _,h⟩
 .obtain⟨x,h⟩:=h;exact⟨_,_,Vl.su _ _,h⟩
 .obtain⟨p,n,c,h⟩:=h;exact⟨_,_,Vl.sq _ _,h⟩
 .obtain⟨x,h⟩:=h;exact⟨_,_,.refl _,h⟩
 .obtain⟨x,h⟩:=h;exact⟨_,_,Vl.sq _ _,h⟩
 .obtain⟨x,h⟩:=h;exact⟨_,_,.refl _,h⟩
 .obtain⟨x,h⟩:=h;exact⟨_,_,.refl _,h⟩
theorem Xw:∀{l:List TypeId} {vl:Vl} {k:List Da->Vl->Prop},ALI P l vl k->∃a w,vl.Le w/\k a w
 | [],vl,k,h=>⟨_,_,.refl _,h⟩
 | t::l,vl,k,h=>by
  obtain⟨a,w,A,h⟩:=eh h;obtain⟨r,G,C,h⟩:=Xw h;exact⟨_,_,A.trans C,h⟩
theorem Gy {t:TypeId}{vl:Vl}{k:Jo->Vl->Prop}(h:ex1 P t vl k):∃a w,vl.Le w/\k a w:=by
 unfold ex1 at h;split at h
 .obtain⟨a,w,A,h⟩:=Xw h;exact⟨_,_,A,h⟩
 .obtain⟨a,w,A,h⟩:=eh h;exact⟨_,_,A,h⟩
theorem Xx:∀{l:List TypeId} {vl:Vl} {k:List Jo->Vl->Prop},ALJ P l vl k->∃a w,vl.Le w/\k a w
 | [],vl,k,h=>⟨_,_,.refl _,h⟩
 | t::l,vl,k,h=>by
  obtain⟨a,w,A,h⟩:=Gy h;obtain⟨r,G,C,h⟩:=Xx h;exact⟨_,_,A.trans C,h⟩
theorem eo {t:TypeId}{vl:Vl}{k:SV->Vl->Prop}(h:exV P t vl k):∃a w,vl.Le w/\k a w:=by
 unfold exV at h;split at h
 .obtain⟨a,w,A,h⟩:=Xx h;exact⟨_,_,A,h⟩
 .obtain⟨x,h⟩:=h;exact⟨_,_,.refl _,h⟩
 .obtain⟨x,y,h⟩:=h;exact⟨_,_,.refl _,h⟩
 .obtain⟨a,w,A,h⟩:=Gy h;exact⟨_,_,A,h⟩
theorem vQ {t:TypeId}{vl:Vl}{k:SV->Vl->Prop}(h:ec P t vl k):∃a w,vl.Le w/\k a w:=by
 unfold ec at h;split at h
 .obtain⟨f,a,c,h⟩:=h;exact⟨_,_,.refl _,h⟩
 .exact eo h
end
def S.ex (s:S)(P:Program)(t:TypeId)(K:SV->S->Prop):Prop:=match s.ok with
 | true=>exV P t s.vl λv vl=>K v (s.w vl)
 | false=>False
theorem S.Xy {s:S}{P:Program}{t:TypeId}{K:SV->S->Prop}(h:s.ex P t K):∃v C,s.Ls C/\K v C:=by
 unfold S.ex at h;cases A:s.ok with
 | false=>rw[A]at h;cases h
 | true=>
  rw[A]at h;obtain⟨v,w,G,h⟩:=eo h;exact⟨v,_,S.Xq A G.le,h⟩
def eqV (x:SV)(vl:Vl)(v:Value)(F:Prop):Prop:=match x with
 | .v (.a (.raw u))=>u=v/\F
 | x=>v=x.den vl/\F
theorem vR {x:SV}{vl:Vl}{v:Value}{F:Prop}(h:eqV x vl v F):v=x.den vl/\F:=by
 unfold eqV at h;split at h
 .exact⟨h.1.symm,h.2⟩
 .exact h
def kM:List IB->Nat->Option (TypeId×List Da)
 | [],_=>none
 | (i,t,cs)::l,j=>bif Nat.beq i j then some (t,cs) else kM l j
theorem N8 {vl:Vl}:∀{l:List IB} {j:Nat} {t:TypeId} {cs:List Da},kM l j=some (t,cs)->(nth 0 vl.δ j,Obj.cells (Bt vl cs).toArray t (0,0))∈HR vl l
 | (i,u,ds)::l,j,t,cs,h=>by
  simp only[kM]at h;cases hi:Nat.beq i j with
  | true=>
   rw[hi]at h;simp only[ApB,Ami,AoZ]at h;obtain⟨rfl,rfl⟩:=h;have:=Anb hi;subst this;exact Amu ..
  | false=>
   rw[hi]at h;simp only[ApS]at h;exact Amk _ (N8 h)
def ldV (P:Program)(T:TypeId)(x:Operand)(s:S)(K:Option Nat->SV->S->Prop):Prop:=match zK (s.op x) with
 | some (.bx i o)=>match kM s.bx i,kF P T with
  | some (_,cs),some true=>match kE P T with
   | some n=>match decide (((cs.drop o).take n).length=n) with
    | true=>K none (.v (.agg ((cs.drop o).take n))) s
    | false=>False
   | none=>False
  | some (_,cs),some false=>match D3 cs o with
   | some u=>K none (.at u) s
   | none=>False
  | _,_=>False
 | some (.at b o)=>match kF P T,kE P T with
  | some true,some n=>s.ex P T λv s=>match v with
   | .v (.agg l)=>match decide (l.length=n) with
    | true=>Af s.Z b o (Bt s.vl l)/\K (some b) v s
    | false=>False
   | _=>False
  | some false,some _=>s.ex P T λv s=>Hp.ld s.Z ⟨b,o,none⟩=some (v.den s.vl)/\K (some b) v s
  | _,_=>False
 | _=>False
theorem Hp.zO {Z:Hp}{b o:Nat}{v:Value}(h:Hp.ld Z ⟨b,o,none⟩=some v):Hp.ld (λx=>if x=b then Z x else none) ⟨b,o,none⟩=some v:=by
 unfold Hp.ld at *;simpa using h
theorem Af.lim {Z:Hp}{b:Nat}:∀{l:List Value} {o:Nat},Af Z b o l->Af (λx=>if x=b then Z x else none) b o l
 | [],_,_=>trivial
 | v::l,o,h=>⟨Hp.zO h.1,Af.lim h.2⟩
theorem et {P:Program}{T ty:TypeId}{x:Operand}{s:S}{K:Option Nat->SV->S->Prop}(h:ldV P T x s K):
  ∃m v A,s.Ls A/\K m v A/\∀J,match m with
   | none=>∀Z,Yd P (s.e J) s.b Z (.load T x) ty (v.den A.vl)
   | some b=>Yd P (s.e J) s.b (λx=>if x=b then s.Z x else none) (.load T x) ty (v.den A.vl):=by
 unfold ldV at h;split at h
 .rename_i i o hp;obtain⟨u,e1,e2⟩:=HT hp;have hx:∀J,AD (s.e J) x=.pointer (some ⟨nth 0 s.vl.δ i,o,none⟩):=λJ=>by rw[ev e1,e2];rfl
  split at h
  .rename_i t cs hb C;split at h
   .rename_i n hn;split at h
    .rename_i G;have G:=Amg G;refine⟨none,_,s,.refl s,h,λJ Z=>?_⟩;have:=Y.AZi (P:=P) (e:=s.e J) (bx:=s.b) (Z:=Z) (ty:=ty) (vs:=Bt s.vl ((cs.drop o).take n)) (HS C) (Ec hn) (by rw[FJ];exact G) (hx J) (N8 hb) (by simp[Xu]);exact this
    .cases h
   .cases h
  .rename_i t cs hb C;split at h
   .rename_i u hu;exact⟨none,_,s,.refl s,h,λJ Z=>Y.ldb (HS C) (hx J) (N8 hb) (by simpa[SV.den,Jo.den] using Uv hu)⟩
   .cases h
  .cases h
 .rename_i b o hp;obtain⟨u,e1,e2⟩:=HT hp;have hx:∀J,AD (s.e J) x=.pointer (some ⟨b,o,none⟩):=λJ=>by rw[ev e1,e2];rfl
  split at h
  .rename_i n C hn;obtain⟨v,A,h1,h⟩:=S.Xy h;split at h
   .rename_i l;split at h
    .rename_i G;have G:=Amg G;refine⟨some b,_,A,h1,h.2,λJ=>?_⟩;have hl:=h.1;rw[h1.Z]at hl;exact Y.lda (HS C) (Ec hn) (by rw[FJ];exact G) (hx J) hl.lim
    .cases h
   .cases h
  .rename_i n C hn;obtain⟨v,A,h1,h⟩:=S.Xy h;have hl:=h.1;rw[h1.Z]at hl;exact⟨some b,_,A,h1,h.2,λJ=>Y.ld (HS C) (hx J) (Hp.zO hl)⟩
  .cases h
 .cases h
def yv (P:Program)(wr:Bool)(op:Op)(s:S)(K:SV->S->Prop):Prop:=match op with
 | .move x=>s.val x K
 | .assign x=>s.val x K
 | .pick z x y=>AHx x y z s K
 | .binOp b T x y _=>AK8 P wr b T x y s K
 | .unOp u _ x=>match u with
  | .not=>AK9 x s K
  | .neg=>ALA x s K
  | _=>False
 | .convert T T' x=>zL P T T' x s K
 | .fieldAddr T x f=>ALB P T x f s K
 | .field T x f=>pE P T x f s K
 | .extract x i=>ALC x i s K
 | .indexAddr T x y=>ALD P T x y s K
 | .index T x y=>zM P T x y s K
 | .nilCheck x=>ALE x s K
 | .makeFunc fn xs ys=>ALF fn xs ys s K
 | .build T ps=>pS P T ps s K
 | .makeInterface T x=>pF P T x s K
 | .slice T x lo hi A=>match A with
  | none=>pP P T x lo hi s K
  | some _=>False
 | .call c=>match c.callee,c.args.toList with
  | .builtin .len,[x]=>ALG P x c.argTypes s K
  | .builtin .cap,[x]=>ALH P x c.argTypes s K
  | .builtin .min,[x,y]=>match jm (s.op x),jm (s.op y) with
   | some (k,a),some (_,b)=>K (.at (.int k (if(b:Int)<a then b else a))) s
   | _,_=>False
  | .builtin .max,[x,y]=>match jm (s.op x),jm (s.op y) with
   | some (k,a),some (_,b)=>K (.at (.int k (if(a:Int)<b then b else a))) s
   | _,_=>False
  | _,_=>False
 | _=>False
theorem kN {P:Program}{wr:Bool}{op:Op}{ty:TypeId}{s:S}{K:SV->S->Prop}(h:yv P wr op s K):YP P op ty s K:=by
 unfold yv at h;split at h
 .exact eW h λv J Z hv=>Y.move hv
 .exact eW h λv J Z hv=>Y.assign hv
 .exact kI h
 .exact pD h
 .split at h
  .exact pG h
  .exact pH h
  .cases h
 .exact kJ h
 .exact pI h
 .exact gX h
 .exact pJ h
 .exact pK h
 .exact kK h
 .exact pL h
 .exact pM h
 .exact ga h
 .exact gY h
 .split at h
  .exact gZ h
  .cases h
 .rename_i c;obtain⟨ce,G,ts⟩:=c;split at h
  .rename_i x A C;simp only at A C h;have:G=#[x]:=by rw[<-AnB];simpa using C
   subst this A;exact pN h
  .rename_i x A C;simp only at A C h;have:G=#[x]:=by rw[<-AnB];simpa using C
   subst this A;exact pO h
  .rename_i x y A C;simp only at A C h;have:G=#[x,y]:=by rw[<-AnB];simpa using C
   subst this A;split at h
   .rename_i k a k' b hx hy;obtain⟨u,e1,e2⟩:=Dh hx;obtain⟨v,e3,e4⟩:=Dh hy;exact DN h λJ Z=>Y.min2 (by rw[ev e1,e2]) (by rw[ev e3,e4])
   .cases h
  .rename_i x y A C;simp only at A C h;have:G=#[x,y]:=by rw[<-AnB];simpa using C
   subst this A;split at h
   .rename_i k a k' b hx hy;obtain⟨u,e1,e2⟩:=Dh hx;obtain⟨v,e3,e4⟩:=Dh hy;exact DN h λJ Z=>Y.max2 (by rw[ev e1,e2]) (by rw[ev e3,e4])
   .cases h
  .cases h
 .cases h
end Tw
end
section
namespace Tw
open Go
variable [HL]
def vS:List Nat->Nat->Bool
 | [],_=>false
 | x::l,n=>Nat.beq x n||vS l n
theorem kO:∀{l:List Nat} {n:Nat},vS l n=true->n∈l
 | x::l,n,h=>by
  simp only[vS,AoJ]at h;rcases h with h|h
  .exact(Anb h)▸Amu ..
  .exact Amk _ (kO h)
def AH (P:Program)(l:List Nat):Prop:=∀f∈l,Enters P f
theorem AH.nil {P:Program}:AH P []:=λf h=>by cases h
theorem AH.cons {P:Program}{f:Nat}{l:List Nat}(h:Enters P f)(C:AH P l):AH P (f::l):=λx A=>by
 rcases Aml.1 A with rfl|A
 .exact h
 .exact C x A
abbrev KP:=Hp->Hp->Prop->Prop
def J4 (A:Vl->(SV->Vl->Prop)->Prop)(dst:Option Nat)(s:S)(Z0:Hp)(v:Value)(kp:KP)(K:S->Prop):Prop:=match dst with
 | none=>kp Z0 s.Z (K s)
 | some d=>match s.ok with
  | true=>A s.vl λx vl=>eqV x vl v (kp Z0 s.Z (K ((s.w vl).put (some d) x)))
  | false=>False
def eu (A:Vl->(SV->Vl->Prop)->Prop):Prop:=∀vl k,A vl k->∃a w,vl.Le w/\k a w
theorem N9 {P:Program}{t:TypeId}:eu (ec P t):=λ_ _ h=>vQ h
def zP:Vl->(SV->Vl->Prop)->Prop:=λvl k=>∃m:Nat,k (.at (.mp (some m))) vl
theorem vT:eu zP:=λvl k ⟨m,h⟩=>⟨_,_,.refl _,h⟩
def zQ:Vl->(SV->Vl->Prop)->Prop:=λvl k=>∃v:Value,k (.at (.raw v)) vl
theorem vU:eu zQ:=λvl k ⟨m,h⟩=>⟨_,_,.refl _,h⟩
def XJ (P:Program)(t:TypeId)(two:Bool):Vl->(SV->Vl->Prop)->Prop:=λvl k=>match two with
 | false=>ex1 P t vl λa vl=>k (.v a) vl
 | true=>ex1 P t vl λa vl=>∃b:Bool,k (.eO [a,.a (.bs vl.β.length false)]) (vl.pA (.var b))
theorem pU {P:Program}{t:TypeId}{two:Bool}:eu (XJ P t two):=λvl k h=>by
 cases two with
 | false=>unfold XJ at h;obtain⟨a,w,A,h⟩:=Gy h;exact⟨_,_,A,h⟩
 | true=>unfold XJ at h;obtain⟨a,w,A,b,h⟩:=Gy h;exact⟨_,_,A.trans (Vl.su _ _),h⟩
def zR (P:Program)(t u:TypeId):Vl->(SV->Vl->Prop)->Prop:=λvl k=>ex1 P t vl λa vl=>ex1 P u vl λb vl=>k (.eO [a,b]) vl
theorem vV {P:Program}{t u:TypeId}:eu (zR P t u):=λvl k h=>by
 obtain⟨a,w,A,h⟩:=Gy h;obtain⟨b,G,C,h⟩:=Gy h;exact⟨_,_,A.trans C,h⟩
def St' (J:Env)(s:S)(kq:Hp->Hp->Prop)(K:S->Prop):Env->Bx->Hp->Prop:=λG C Z'=>∃A,G=A.e J/\C=A.b/\Z'=A.Z/\kq s.Z Z'/\(∀p∈s.b,p∈C)/\K A
theorem Ax {A:Vl->(SV->Vl->Prop)->Prop}(hg:eu A){dst:Option Nat}{s:S}{Z1:Hp}{v:Value}{kp:KP}{kq:Hp->Hp->Prop}{K:S->Prop}(UT:∀Z0 Z1 F,kp Z0 Z1 F->F/\kq Z0 Z1)
  (h:J4 A dst (s.hp Z1) s.Z v kp K) (J:Env):St' J s kq K (put (s.e J) dst v) s.b Z1:=by
 cases dst with
 | none=>
  obtain⟨C,G⟩:=UT _ _ _ h;exact⟨s.hp Z1,rfl,rfl,rfl,G,λ_ h=>h,C⟩
 | some d=>
  simp only[J4]at h;cases hs:(s.hp Z1).ok with
  | false=>rw[hs]at h;cases h
  | true=>
   rw[hs]at h;obtain⟨x,w,hle,h⟩:=hg _ _ h;obtain⟨hv,h⟩:=vR h;obtain⟨C,G⟩:=UT _ _ _ h;have Vt:=S.Xq hs hle.le;refine⟨_,?_,?_,?_,G,λ_ h=>h,C⟩
   .rw[S.Lp,Vt.e J,hv];rfl
   .rw[S.Lq,Vt.b];rfl
   .rw[S.IC];rfl
def S.boxed (s:S)(d:Option Nat)(b:Nat)(T:TypeId)(cs:List Da):S:=
 S.put ⟨s.env,(s.vl.δ.length,T,cs)::s.bx,s.vl.AE6 b,s.Z⟩ d (.at (.pt (.bx s.vl.δ.length 0)))
def AFB (hid:Bool)(d:Option Nat)(T:TypeId)(cs:List Da)(s:S)(K:S->Prop):Prop:=match hid with
 | true=>match s.ok&&oks s.vl cs with
  | true=>∀b:Nat,K (s.boxed d b T cs)
  | false=>False
 | false=>∀b:Nat,s.Z b=none->K ((s.hp (Hp.set s.Z b (.cells (Bt s.vl cs).toArray T (0,0)))).put d (.at (.pt (.at b 0))))
def zS (P:Program)(T:TypeId):Option Value:=match P.info? T with
 | some A=>A.zero
 | none=>none
theorem ey {P:Program}{T:TypeId}{z:Value}(h:zS P T=some z):∀w,(zeroValue T).run P w=.ok z w:=λw=>by
 unfold zS at h;split at h
 .rename_i A hi;simp[zeroValue,typeInfo,hi,h]
 .cases h
structure pV where
 P:Program
 R:Rr
 TD:List Nat
 hid:List Nat
 wr:Bool
def pV.sv (c:pV)(d:Option Nat):Bool:=match d with
 | some d=>vS c.hid d
 | none=>false
def EN (P:Program)(f:FuncId)(args:Array Value)(Z:Hp)(Φ:Value->Hp->Prop):Prop:=
 ∀w (F:Nat->Prop),Sat Z w->(∀b,F b->b<w.heap.size/\Z b=none)->∃v A Z',(callFunc f args).run P w=.ok (.value v) A/\Φ v Z'/\Fin Z' F w A
theorem EN.y {P:Program}{f:FuncId}{args:Array Value}{Z:Hp}{v:Value}{Φ:Value->Hp->Prop}(C:YN P f args Z v)(h:Φ v Z):EN P f args Z Φ:=λw F A hF=>
 ⟨v,w,Z,C w A,h,A,λb hb=>⟨(hF b hb).2,rfl⟩,.same rfl rfl rfl,rfl,Amr _⟩
theorem EN.mono {P:Program}{f:FuncId}{args:Array Value}{Z:Hp}{Φ A:Value->Hp->Prop}(h:EN P f args Z Φ)(C:∀v Z',Φ v Z'->A v Z'):EN P f args Z A:=λw F G hF=>
 let ⟨v,w',Z',h1,h2,h3⟩:=h w F G hF
 ⟨v,w',Z',h1,C _ _ h2,h3⟩
theorem AP.en {g:Gl}{ops:Array Oper}{i:Nat}{d:Option Nat}{ty:TypeId}{gd:Option (Nat×Bool)}{e:Env}{bx:Bx}{Z:Hp}{K:Env->Bx->Hp->Prop}{x:Operand}{xs:Array Operand}{ts:Array TypeId}{f:FuncId}{args:Array Value}
  (hs:sig ops i=some (d,.call { callee:=.value x,args:=xs,argTypes:=ts },ty,gd)) (hw:Aa ops e gd=true) (hd:KO d g.n=true) (hx:AD e x=.func (.func f) #[] #[]) (A:xs.toList.map (AD e)=args.toList)
  (h:EN g.P f args Z λv Z'=>K (put e d v) bx Z'):AP g ops i e bx Z K:=by
 intro w0 F a w st;obtain⟨o,ho,rfl,C,Cm,rfl⟩:=DM hs;refine D7 ho (by rw[st.wanted];exact hw) ?_;obtain⟨v,w',Z',h1,h2,h3⟩:=h w _ st.sat st.lt;rw[st.eval];have A:xs.map (AD e)=args:=by rw[<-AnB];simpa using A
 have G:(execOp (AD e) o).run g.P w=.ok (.value v) w':=by
  simp only[execOp,C,resolve,hx,A,Deferred.ofValue,invoke,bind,Sem.bind,pure,Array.empty_append,Array.append_empty];exact h1
 rw[FH G (λd=>by simp)];exact⟨_,_,_,(st.fin h3).put _ _ (KO.lt hd),h2⟩
def zT (c:pV)(dst:Option Nat)(x:Operand)(xs:List Operand)(ty:TypeId)(s:S)(kp:KP)(K:S->Prop):Prop:=match s.op x,s.Xs xs with
 | some (.v (.a (.fn f a b))),some vs=>match vS c.TD f with
  | true=>Spec c.P f (a.toList++(ER s.vl vs++b.toList)).toArray s.Z (BV c.R λv Z1=>J4 (ec c.P ty) dst (s.hp Z1) s.Z v kp K)
  | false=>match Nat.beq (a.size+b.size) 0 with
   | true=>EN c.P f (ER s.vl vs).toArray s.Z (λv Z1=>J4 (ec c.P ty) dst (s.hp Z1) s.Z v kp K)
   | false=>False
 | some (.v (.a (.raw u))),some vs=>match vS c.hid 100000 with
  | true=>∃l:Nat,u=.func (.yield l) #[] #[]/\N6 c.P l (ER s.vl vs).toArray s.Z (BV c.R λv Z1=>J4 (ec c.P ty) dst (s.hp Z1) s.Z v kp K)
  | false=>∃(f:Nat) (fst cap:Array Value),u=.func (.func f) fst cap/\Enters c.P f/\Spec c.P f (fst++(ER s.vl vs).toArray++cap) s.Z (BV c.R λv Z1=>J4 (ec c.P ty) dst (s.hp Z1) s.Z v kp K)
 | _,_=>False
def biV (c:pV)(dst:Option Nat)(b:Builtin)(xs:List Operand)(ts:Array TypeId)(ty:TypeId)(s:S)(kp:KP)(K:S->Prop):Prop:=match s.Xs xs with
 | none=>False
 | some vs=>match b,xs with
  | .append,[_,_]=>AJ c.P (Builtin.append_ ts ty (ER s.vl vs).toArray) s.Z (λv Z1=>J4 (ec c.P ty) dst (s.hp Z1) s.Z v kp K)
  | .copy,[_,_]=>AJ c.P (Builtin.copy_ ts ty (ER s.vl vs).toArray) s.Z (λv Z1=>J4 (ec c.P ty) dst (s.hp Z1) s.Z v kp K)
  | .delete,[_,_]=>AJ c.P (Builtin.delete_ ts ty (ER s.vl vs).toArray) s.Z (λv Z1=>J4 (ec c.P ty) dst (s.hp Z1) s.Z v kp K)
  | .clear,[_]=>AJ c.P (Builtin.clear_ ts ty (ER s.vl vs).toArray) s.Z (λv Z1=>J4 (ec c.P ty) dst (s.hp Z1) s.Z v kp K)
  | .real,[_]=>AJ c.P (Builtin.real_ ts ty (ER s.vl vs).toArray) s.Z (λv Z1=>J4 (ec c.P ty) dst (s.hp Z1) s.Z v kp K)
  | .imag,[_]=>AJ c.P (Builtin.imag_ ts ty (ER s.vl vs).toArray) s.Z (λv Z1=>J4 (ec c.P ty) dst (s.hp Z1) s.Z v kp K)
  | .complex,[_,_]=>AJ c.P (Builtin.complex_ ts ty (ER s.vl vs).toArray) s.Z (λv Z1=>J4 (ec c.P ty) dst (s.hp Z1) s.Z v kp K)
  | .unsafeString,[_,_]=>AJ c.P (Builtin.unsafeString_ ts ty (ER s.vl vs).toArray) s.Z (λv Z1=>J4 (ec c.P ty) dst (s.hp Z1) s.Z v kp K)
  | .min,[_,_]=>AJ c.P (Builtin.min_ ts ty (ER s.vl vs).toArray) s.Z (λv Z1=>J4 (ec c.P ty) dst (s.hp Z1) s.Z v kp K)
  | .max,[_,_]=>AJ c.P (Builtin.max_ ts ty (ER s.vl vs).toArray) s.Z (λv Z1=>J4 (ec c.P ty) dst (s.hp Z1) s.Z v kp K)
  | _,_=>False
def flB:BinOp->Bool
 | .add=>true
 | .sub=>true
 | .mul=>true
 | .quo=>true
 | _=>false
def ALL (P:Program)(T:TypeId):Bool:=match P.underlying T with
 | some (.float _)=>true
 | _=>false
def vW (c:pV)(dst:Option Nat)(op:Op)(ty:TypeId)(s:S)(kp:KP)(K:S->Prop):Prop:=match op with
 | .call cl=>match cl.callee with
  | .value x=>zT c dst x cl.args.toList ty s kp K
  | .builtin b=>biV c dst b cl.args.toList cl.argTypes ty s kp K
  | _=>False
 | .binOp b T x y _=>match flB b,s.op x,s.op y with
  | true,some u,some v=>AJ c.P (binOp b T (u.den s.vl) (v.den s.vl)) s.Z (λv Z1=>J4 (ec c.P ty) dst (s.hp Z1) s.Z v kp K)
  | _,_,_=>False
 | .box T x=>match s.op x with
  | some v=>match v.flat with
   | some cs=>AFB (c.sv dst) dst T cs s K
   | none=>False
  | none=>False
 | .alloc T=>match zS c.P T with
  | some z=>AFB (c.sv dst) dst T (Vr z.cells.toList) s K
  | none=>False
 | .buildSlice T m ps=>match c.P.underlying T,s.parts ps.toList with
  | some (.slice E),some vs=>match Program.Mq c.P E m (SQ s.vl vs) with
   | some cs=>∀b:Nat,s.Z b=none->K ((s.hp (Hp.set s.Z b (.cells cs E (0,0)))).put dst (.at (.sl (.at b 0) m m)))
   | none=>False
  | _,_=>False
 | .store T x y=>match dst,zK (s.op x),s.op y with
  | none,some (.at b o),some v=>AJ c.P (Instr.storeAt T (.pointer (some ⟨b,o,none⟩)) (v.den s.vl)) s.Z (λ_ Z1=>kp s.Z Z1 (K (s.hp Z1)))
  | _,_,_=>False
 | .convert T T' x=>match s.op x with
  | some v=>AJ c.P (convert T T' (v.den s.vl)) s.Z (λv Z1=>J4 (ec c.P ty) dst (s.hp Z1) s.Z v kp K)
  | none=>False
 | .makeMap T none=>AJ c.P (Instr.makeMap T none) s.Z (λv Z1=>J4 zP dst (s.hp Z1) s.Z v kp K)
 | .lookup T x y two=>match c.P.underlying T,s.op x,s.op y with
  | some (.map _ t),some u,some v=>AJ c.P (Instr.lookup T (u.den s.vl) (v.den s.vl) two) s.Z (λv Z1=>J4 (XJ c.P t two) dst (s.hp Z1) s.Z v kp K)
  | _,_,_=>False
 | .range T x=>match s.op x with
  | some v=>AJ c.P (Instr.range T (v.den s.vl)) s.Z (λv Z1=>J4 zQ dst (s.hp Z1) s.Z v kp K)
  | none=>False
 | .makeSlice T x y=>match s.op x,s.op y with
  | some u,some v=>AJ c.P (Instr.makeSlice T (u.den s.vl) (v.den s.vl)) s.Z (λv Z1=>J4 (ec c.P ty) dst (s.hp Z1) s.Z v kp K)
  | _,_=>False
 | _=>False
section
variable {g:Gl}{ops:Array Oper}{i:Nat}{J:Env}{dst:Option Nat}{op:Op}{ty:TypeId}{gd:Option (Nat×Bool)}{s:S}{kp:KP}{kq:Hp->Hp->Prop}{K:S->Prop}{c:pV}
theorem kP {x:Operand}{xs:Array Operand}{ts:Array TypeId}(hP:c.P=g.P)(hR:c.R=g.R)(hE:AH g.P c.TD)(UT:∀Z0 Z1 F,kp Z0 Z1 F->F/\kq Z0 Z1)
  (hs:sig ops i=some (dst,.call { callee:=.value x,args:=xs,argTypes:=ts },ty,gd)) (hw:Aa ops (s.e J) gd=true) (hd:KO dst g.n=true) (h:zT c dst x xs.toList ty s kp K):AP g ops i (s.e J) s.b s.Z (St' J s kq K):=by
 unfold zT at h;rw[hP,hR]at h;split at h
 .rename_i f a b vs G C;split at h
  .rename_i hm;refine AP.call hs hw hd (λo ho _ w=>Uo (hE f (kO hm)) (fst:=a) (cap:=b) (vs:=(ER s.vl vs).toArray) (by rw[ev G];rfl) (by simpa using Fk C) ?_ o ho w) (h.mono λe Z1 A=>?_)
   .rw[<-AnB];simp
   .cases e with
    | returned v=>exact Ax N9 UT A J
    | panicked ch=>exact A
    | outgrown=>exact A
  .split at h
   .rename_i hz;have hz:=Anb hz;exact AP.en hs hw hd (by rw[ev G,show a=#[] from Aow (by omega),show b=#[] from Aow (by omega)];rfl) (by simpa using Fk C) (h.mono λv Z1 A=>Ax N9 UT A J)
   .cases h
 .rename_i u vs G C;split at h
  .obtain⟨l,hu,h⟩:=h;refine AP.yield hs hw hd (u:=u) (vs:=(ER s.vl vs).toArray) (by rw[ev G];rfl) (by simpa using Fk C) hu (h.mono λe Z1 A=>?_);cases e with
   | returned v=>exact Ax N9 UT A J
   | panicked ch=>exact A
   | outgrown=>exact A
  .obtain⟨f,fst,cap,hu,Wg,h⟩:=h;refine AP.APt hs hw hd (u:=u) (vs:=(ER s.vl vs).toArray) (by rw[ev G];rfl) (by simpa using Fk C) hu Wg (h.mono λe Z1 A=>?_);cases e with
   | returned v=>exact Ax N9 UT A J
   | panicked ch=>exact A
   | outgrown=>exact A
 .cases h
theorem kQ {T:TypeId}{cs:List Da}{hid:Bool}(Ux:∀Z0 Z1,Ext Z0 Z1->kq Z0 Z1)(h:AFB hid dst T cs s K):
  (hid=true->∀b,St' J s kq K (put (s.e J) dst (.pointer (some ⟨b,0,none⟩))) ((b,.cells (Bt s.vl cs).toArray T (0,0))::s.b) s.Z)/\
  (hid=false->∀b,s.Z b=none->St' J s kq K (put (s.e J) dst (.pointer (some ⟨b,0,none⟩))) s.b (s.Z.set b (.cells (Bt s.vl cs).toArray T (0,0)))):=by
 unfold AFB at h
 constructor
 .rintro rfl b
  simp only at h;cases C:s.ok&&oks s.vl cs with
  | false=>rw[C]at h;cases h
  | true=>
   rw[C]at h;simp only[Amn]at C;have h:=h b;have A:=Vl.AE8 s.vl b;have Vt:=S.Xq C.1 A;have hb:(S.boxed s dst b T cs).b=(b,Obj.cells (Bt s.vl cs).toArray T (0,0))::s.b:=by
    unfold S.boxed;rw[S.Lq];simp only[S.b,HR];have G:HR (s.vl.AE6 b) s.bx=HR s.vl s.bx:=Vt.b;rw[XI A C.2,G];show(nth 0 (s.vl.δ++[b]) s.vl.δ.length,_)::_=_
    rw[Qw]
   refine⟨_,?_,hb.symm,?_,Ux _ _ (Ext.refl _),λ_ h=>Amk _ h,h⟩
   .unfold S.boxed;rw[S.Lp];have:=Vt.e J;show put (s.e J) dst _=put ((s.w (s.vl.AE6 b)).e J) dst (.pointer (some ⟨nth 0 (s.vl.δ++[b]) s.vl.δ.length,0,none⟩))
    rw[this,Qw]
   .unfold S.boxed;rw[S.IC]
 .rintro rfl b hb
  have h:=h b hb;refine⟨_,?_,?_,?_,Ux _ _ (.set hb),λ_ h=>h,h⟩
  .rw[S.Lp];rfl
  .rw[S.Lq];rfl
  .rw[S.IC];rfl
section
variable {e:Env}{x y:Operand}{u v:Value}{ts:Array TypeId}{ty:TypeId}
theorem Vu (G:AD e x=u)(o:Oper)(A:o.op=.call { callee:=.builtin .real,args:=#[x],argTypes:=ts })(C:o.type=ty):execOp (AD e) o=(do pure (.value (<-Builtin.real_ ts ty #[u]))):=by
 subst C;simp[execOp,A,resolve,invoke,builtin,G]
theorem Vw (G:AD e x=u)(o:Oper)(A:o.op=.call { callee:=.builtin .imag,args:=#[x],argTypes:=ts })(C:o.type=ty):execOp (AD e) o=(do pure (.value (<-Builtin.imag_ ts ty #[u]))):=by
 subst C;simp[execOp,A,resolve,invoke,builtin,G]
theorem PA (G:AD e x=u)(hy:AD e y=v)(o:Oper)(A:o.op=.call { callee:=.builtin .complex,args:=#[x,y],argTypes:=ts })(C:o.type=ty):execOp (AD e) o=(do pure (.value (<-Builtin.complex_ ts ty #[u,v]))):=by
 subst C;simp[execOp,A,resolve,invoke,builtin,G,hy]
theorem pW (G:AD e x=u)(hy:AD e y=v)(o:Oper)(A:o.op=.call { callee:=.builtin .min,args:=#[x,y],argTypes:=ts })(C:o.type=ty):execOp (AD e) o=(do pure (.value (<-Builtin.min_ ts ty #[u,v]))):=by
 subst C;simp[execOp,A,resolve,invoke,builtin,G,hy]
theorem pX (G:AD e x=u)(hy:AD e y=v)(o:Oper)(A:o.op=.call { callee:=.builtin .max,args:=#[x,y],argTypes:=ts })(C:o.type=ty):execOp (AD e) o=(do pure (.value (<-Builtin.max_ ts ty #[u,v]))):=by
 subst C;simp[execOp,A,resolve,invoke,builtin,G,hy]
theorem RQ (G:AD e x=u)(hy:AD e y=v)(o:Oper)(A:o.op=.call { callee:=.builtin .unsafeString,args:=#[x,y],argTypes:=ts })(C:o.type=ty):execOp (AD e) o=(do pure (.value (<-Builtin.unsafeString_ ts ty #[u,v]))):=by
 subst C;simp[execOp,A,resolve,invoke,builtin,G,hy]
end
theorem vX {b:Builtin}{xs:Array Operand}{ts:Array TypeId}(hP:c.P=g.P)(UT:∀Z0 Z1 F,kp Z0 Z1 F->F/\kq Z0 Z1)
  (hs:sig ops i=some (dst,.call { callee:=.builtin b,args:=xs,argTypes:=ts },ty,gd)) (hw:Aa ops (s.e J) gd=true) (hd:KO dst g.n=true) (h:biV c dst b xs.toList ts ty s kp K):AP g ops i (s.e J) s.b s.Z (St' J s kq K):=by
 unfold biV at h;rw[hP]at h;split at h
 .cases h
 .rename_i vs dJ;have two:∀{x y:Operand},xs.toList=[x,y]->xs=#[x,y]/\ER s.vl vs=[AD (s.e J) x,AD (s.e J) y]:=λA=>by
   refine⟨by rw[<-AnB];simpa using A,?_⟩;rw[<-Fk (J:=J) dJ,A];rfl
  have one:∀{x:Operand},xs.toList=[x]->xs=#[x]/\ER s.vl vs=[AD (s.e J) x]:=λA=>by
   refine⟨by rw[<-AnB];simpa using A,?_⟩;rw[<-Fk (J:=J) dJ,A];rfl
  split at h
  .rename_i x y A;obtain⟨rfl,e⟩:=two A;rw[e]at h;exact AP.Xl hs hw hd _ (λo C ht=>Ie rfl rfl o C ht) (h.mono λv Z1 G=>Ax N9 UT G J)
  .rename_i x y A;obtain⟨rfl,e⟩:=two A;rw[e]at h;exact AP.Xl hs hw hd _ (λo C ht=>j9 rfl rfl o C ht) (h.mono λv Z1 G=>Ax N9 UT G J)
  .rename_i x y A;obtain⟨rfl,e⟩:=two A;rw[e]at h;exact AP.Xl hs hw hd _ (λo C ht=>dG rfl rfl o C ht) (h.mono λv Z1 G=>Ax N9 UT G J)
  .rename_i x A;obtain⟨rfl,e⟩:=one A;rw[e]at h;exact AP.Xl hs hw hd _ (λo C ht=>gR rfl o C ht) (h.mono λv Z1 G=>Ax N9 UT G J)
  .rename_i x A;obtain⟨rfl,e⟩:=one A;rw[e]at h;exact AP.Xl hs hw hd _ (λo C ht=>Vu rfl o C ht) (h.mono λv Z1 G=>Ax N9 UT G J)
  .rename_i x A;obtain⟨rfl,e⟩:=one A;rw[e]at h;exact AP.Xl hs hw hd _ (λo C ht=>Vw rfl o C ht) (h.mono λv Z1 G=>Ax N9 UT G J)
  .rename_i x y A;obtain⟨rfl,e⟩:=two A;rw[e]at h;exact AP.Xl hs hw hd _ (λo C ht=>PA rfl rfl o C ht) (h.mono λv Z1 G=>Ax N9 UT G J)
  .rename_i x y A;obtain⟨rfl,e⟩:=two A;rw[e]at h;exact AP.Xl hs hw hd _ (λo C ht=>RQ rfl rfl o C ht) (h.mono λv Z1 G=>Ax N9 UT G J)
  .rename_i x y A;obtain⟨rfl,e⟩:=two A;rw[e]at h;exact AP.Xl hs hw hd _ (λo C ht=>pW rfl rfl o C ht) (h.mono λv Z1 G=>Ax N9 UT G J)
  .rename_i x y A;obtain⟨rfl,e⟩:=two A;rw[e]at h;exact AP.Xl hs hw hd _ (λo C ht=>pX rfl rfl o C ht) (h.mono λv Z1 G=>Ax N9 UT G J)
  .cases h
theorem AFC {e:Env}{b:BinOp}{T T':TypeId}{x y:Operand}{u v:Value}(hb:flB b=true)(C:AD e x=u)(G:AD e y=v)(o:Oper)(A:o.op=.binOp b T x y T'):execOp (AD e) o=(do pure (.value (<-binOp b T u v))):=by
 cases b<;>first|(cases hb;done)|(simp[execOp,A,C,G,eqGuard])
theorem Xz (hP:c.P=g.P)(hR:c.R=g.R)(hE:AH g.P c.TD)(UT:∀Z0 Z1 F,kp Z0 Z1 F->F/\kq Z0 Z1)(Ux:∀Z0 Z1,Ext Z0 Z1->kq Z0 Z1)
  (A:sig ops i=some (dst,op,ty,gd)) (C:Aa ops (s.e J) gd=true) (G:KO dst g.n=true) (h:vW c dst op ty s kp K):AP g ops i (s.e J) s.b s.Z (St' J s kq K):=by
 unfold vW at h;split at h
 .rename_i cl;obtain⟨ce,xs,ts⟩:=cl;split at h
  .rename_i x hx;simp only at hx h;subst hx;exact kP hP hR hE UT A C G h
  .rename_i b hx;simp only at hx h;subst hx;exact vX hP UT A C G h
  .cases h
 .rename_i b T x y T';split at h
  .rename_i u v hb hu hv;rw[hP]at h;exact AP.Xl A C G _ (λo ho ht=>AFC hb (ev hu) (ev hv) o ho) (h.mono λv Z1 hr=>Ax N9 UT hr J)
  .cases h
 .rename_i T x;split at h
  .rename_i v hv;split at h
   .rename_i cs hc;obtain⟨h1,h2⟩:=kQ (J:=J) Ux h;have hx:(AD (s.e J) x).cells=(Bt s.vl cs).toArray:=by rw[ev hv,kL hc]
    cases hh:c.sv dst with
    | true=>exact AP.box A C G hx (h1 hh)
    | false=>exact AP.AKk A C G hx (h2 hh)
   .cases h
  .cases h
 .rename_i T;split at h
  .rename_i z hz;obtain⟨h1,h2⟩:=kQ (J:=J) Ux h;have hx:z.cells=(Bt s.vl (Vr z.cells.toList)).toArray:=by rw[Lr]
   rw[hP]at hz;cases hh:c.sv dst with
   | true=>exact AP.alloc A C G (ey hz) hx (h1 hh)
   | false=>exact AP.Un A C G (ey hz) hx (h2 hh)
  .cases h
 .rename_i T m ps;rw[hP]at h;split at h
  .rename_i E vs hT dJ;split at h
   .rename_i cs hc;refine AP.Mq hT A C G (SR dJ) hc λb hb=>?_;refine⟨_,?_,?_,?_,Ux _ _ (.set hb),λ_ h=>h,h b hb⟩
    .rw[S.Lp];rfl
    .rw[S.Lq];rfl
    .rw[S.IC];rfl
   .cases h
  .cases h
 .rename_i T x y;split at h
  .rename_i b o v hx hy;obtain⟨u,e1,e2⟩:=HT hx;rw[hP]at h;refine AP.store A C (p:=.pointer (some ⟨b,o,none⟩)) (by rw[ev e1,e2];rfl) (ev hy) (h.mono λ_ Z1 hr=>?_);obtain⟨h1,h2⟩:=UT _ _ _ hr;exact⟨s.hp Z1,rfl,rfl,rfl,h2,λ_ h=>h,h1⟩
  .cases h
 .rename_i T T' x;split at h
  .rename_i v hv;rw[hP]at h;exact AP.Xl A C G _ (λo ho ht=>by simp only[execOp,ho];rw[ev hv]) (h.mono λv Z1 hr=>Ax N9 UT hr J)
  .cases h
 .rename_i T;rw[hP]at h;exact AP.Xl A C G _ (λo ho ht=>by simp only[execOp,ho];rfl) (h.mono λv Z1 hr=>Ax vT UT hr J)
 .rename_i T x y two;rw[hP]at h;split at h
  .rename_i a t u v hT hu hv;exact AP.Xl A C G _ (λo ho ht=>by simp only[execOp,ho];rw[ev hu,ev hv]) (h.mono λv Z1 hr=>Ax pU UT hr J)
  .cases h
 .rename_i T x;split at h
  .rename_i v hv;rw[hP]at h;exact AP.Xl A C G _ (λo ho ht=>by simp only[execOp,ho];rw[ev hv]) (h.mono λv Z1 hr=>Ax vU UT hr J)
  .cases h
 .rename_i T x y;split at h
  .rename_i u v hu hv;rw[hP]at h;exact AP.Xl A C G _ (λo ho ht=>by simp only[execOp,ho];rw[ev hu,ev hv]) (h.mono λv Z1 hr=>Ax N9 UT hr J)
  .cases h
 .cases h
end
end Tw
end
