/-
  Part 1 of the proof that the law IngesterFencedUptoCardSaid of the given program answers true for every input of the given statement; the input reads behind the call as it did. (The texts: packed from 18 texts. Names are shortened by the packing program, for the bound on size.)
-/
import Derived.OrdersHeld
import Derived.StillTail
import Derived.Laws.Entries
import Derived.OrdersIn
import Derived.RangeFuncRecord
import Derived.KernelRfl
import Derived.Laws.Slices
import Derived.Laws.Small
import Derived.Laws.Cells
import Derived.Laws.Strings
import Derived.Laws.Tables
import Derived.Laws.Strings2
import Derived.Laws.Pointers
import Derived.Laws.Append
import Derived.Laws.AppendOwn
import Derived.Lib.Overlaps
import Derived.RangeFuncIn
import Derived.Scope
import Derived.Maps.RangeRun
import Derived.MapKept
import Derived.ChangeKeysEq
set_option linter.all false
namespace Go.Value
abbrev I(x:Int):Value:=.int .i64 x
abbrev U(x:Int):Value:=.int .u64 x
abbrev N:Value:=.slice none 0 0
end Go.Value
namespace Go.Ending
abbrev T(a:Array Value):Ending:=.returned (.tuple a)
abbrev B(a:Bool):Ending:=.returned (.bool a)
end Go.Ending
abbrev Aet:=@List.length_append
abbrev Aeu:=@if_neg
abbrev Aev:=@List.mem_singleton
abbrev Aew:=@List.append_assoc
abbrev Aex:=@if_pos
abbrev Aey:=@List.mem_cons_of_mem
abbrev Aez:=@List.length_cons
abbrev Ae0:=@List.getElem?_eq_some_iff
abbrev Ae1:=@Nat.le_refl
abbrev Ae2:=@List.mem_of_getElem?
abbrev Ae3:=@List.getElem?_eq_getElem
abbrev Ae4:=@congrArg
abbrev Ae5:=@List.mem_cons
abbrev Ae6:=@List.eq_nil_of_length_eq_zero
abbrev Ae7:=@List.take_of_length_le
abbrev Ae8:=@List.getElem?_append_left
abbrev Ae9:=@List.mem_append
abbrev AfA:=@Array.getElem?_eq_some_iff
abbrev AfB:=@List.mem_cons_self
abbrev AfC:=@List.mem_map
abbrev AfD:=@List.length_singleton
abbrev AfE:=@List.length_take
abbrev AfF:=@List.map_append
abbrev AfG:=@List.append_nil
abbrev AfH:=@Bool.and_eq_true
abbrev AfI:=@Nat.zero_le
abbrev AfJ:=@List.getElem?_append_right
abbrev AfK:=@Nat.mul_le_mul_right
abbrev AfL:=@Option.some.injEq
abbrev AfM:=@Array.toList_inj
abbrev AfN:=@List.map_cons
abbrev AfO:=@List.length_map
abbrev AfP:=@List.getElem?_take
abbrev AfQ:=@decide_eq_true_eq
abbrev AfR:=@Int.toNat_natCast
abbrev AfS:=@of_decide_eq_true
abbrev AfT:=@Ne.symm
abbrev AfU:=@Nat.le_trans
abbrev AfV:=@List.length_drop
abbrev AfW:=@Nat.zero_add
abbrev AfX:=@List.getElem?_drop
abbrev AfY:=@Nat.mod_eq_of_lt
abbrev AfZ:=@List.getElem?_map
abbrev Afa:=@Nat.mul_one
abbrev Afb:=@List.pairwise_cons
abbrev Afc:=@Array.getElem?_toList
abbrev Afd:=@List.getElem?_cons_succ
abbrev Afe:=@List.nodup_cons
abbrev Aff:=@of_decide_eq_false
abbrev Afg:=@List.map_map
abbrev Afh:=@Nat.le_of_ble_eq_true
abbrev Afi:=@List.take_append_drop
abbrev Afj:=@List.not_mem_nil
abbrev Afk:=@List.mem_append_left
abbrev Afl:=@List.pairwise_append
abbrev Afm:=@Nat.eq_of_beq_eq_true
abbrev Afn:=@Nat.add_mul
abbrev Afo:=@List.ext_getElem?
abbrev Afp:=@Nat.lt_or_ge
abbrev Afq:=@List.getElem?_eq_none
abbrev Afr:=@List.drop_left
abbrev Afs:=@List.mem_append_right
abbrev Aft:=@List.drop_eq_nil_of_le
abbrev Afu:=@List.all_eq_true
abbrev Afv:=@Option.map_some
abbrev Afw:=@List.length_nil
abbrev Afx:=@List.drop_drop
abbrev Afy:=@List.flatMap_cons
abbrev Afz:=@decide_eq_true
abbrev Af0:=@List.getElem?_cons_zero
abbrev Af1:=@Array.getElem?_push
abbrev Af2:=@List.length_set
abbrev Af3:=@List.cons_append
abbrev Af4:=@Nat.eq_zero_or_pos
abbrev Af5:=@Array.getElem?_modify
abbrev Af6:=@List.take_zero
abbrev Af7:=@ByteArray.size_append
abbrev Af8:=@List.map_congr_left
abbrev Af9:=@List.flatMap_append
abbrev AgA:=@decide_eq_false_iff_not
abbrev AgB:=@Nat.sub_self
abbrev AgC:=@List.nodup_append
abbrev AgD:=@List.pairwise_map
abbrev AgE:=@List.take_append_of_le_length
abbrev AgF:=@List.mem_of_mem_take
abbrev AgG:=@List.nil_append
abbrev AgH:=@Option.isSome_iff_exists
abbrev AgI:=@List.filter_cons_of_neg
abbrev AgJ:=@Nat.add_assoc
abbrev AgK:=@Nat.mul_comm
abbrev AgL:=@List.filter_append
abbrev AgM:=@List.filter_eq_self
abbrev AgN:=@List.getElem?_set
abbrev AgO:=@if_false
abbrev AgP:=@Nat.pow_succ
abbrev AgQ:=@List.getElem?_toArray
abbrev AgR:=@List.length_filter_le
abbrev AgS:=@Nat.min_eq_left
abbrev AgT:=@List.foldl_cons
abbrev AgU:=@List.filter_nil
abbrev AgV:=@Bool.false_eq_true
abbrev AgW:=@Nat.lt_of_le_of_lt
abbrev AgX:=@List.filter_cons_of_pos
abbrev AgY:=@Nat.add_zero
abbrev AgZ:=@Nat.zero_mul
abbrev Aga:=@decide_eq_false
abbrev Agb:=@List.all_append
abbrev Agc:=@Nat.div_lt_iff_lt_mul
abbrev Agd:=@or_false
abbrev Age:=@List.mem_flatMap
abbrev Agf:=@List.take_take
abbrev Agg:=@Nat.pow_le_pow_right
abbrev Agh:=@List.size_toArray
abbrev Agi:=@List.foldl_append
abbrev Agj:=@Decidable.not_not
abbrev Agk:=@List.mem_filter
abbrev Agl:=@Array.toList_append
abbrev Agm:=@List.eraseIdx_append_of_length_le
abbrev Agn:=@Array.getElem?_append
abbrev Ago:=@List.drop_zero
abbrev Agp:=@UInt8.lt_iff_toNat_lt
abbrev Agq:=@List.eq_nil_or_concat
abbrev Agr:=@List.drop_eq_getElem_cons
abbrev Ags:=@List.getElem?_append
abbrev Agt:=@List.cons.injEq
abbrev Agu:=@Array.eq_empty_of_size_eq_zero
abbrev Agv:=@Int.lt_trichotomy
abbrev Agw:=@List.all_cons
abbrev Agx:=@ByteArray.ext
abbrev Agy:=@List.drop_append_of_le_length
abbrev Agz:=@Nat.le_mul_of_pos_right
abbrev Ag0:=@List.length_eq_zero_iff
abbrev Ag1:=@beq_eq_false_iff_ne
abbrev Ag2:=@List.take_length
abbrev Ag3:=@List.map_eq_append_iff
abbrev Ag4:=@Array.empty_append
abbrev Ag5:=@List.append_of_mem
abbrev Ag6:=@Bool.or_eq_true
abbrev Ag7:=@List.mem_iff_getElem?
abbrev Ag8:=@ByteArray.data_append
abbrev Ag9:=@List.getElem?_eq_none_iff
abbrev AhA:=@Nat.mod_lt
abbrev AhB:=@List.map_eq_cons_iff
abbrev AhC:=@List.mem_of_find?_eq_some
abbrev AhD:=@List.take_left
abbrev AhE:=@Nat.succ_mul
abbrev AhF:=@List.map_nil
abbrev AhG:=@List.length_pos_iff
abbrev AhH:=@List.take_succ_cons
abbrev AhI:=@Array.getElem?_setIfInBounds_ne
abbrev AhJ:=@List.sum_cons
abbrev AhK:=@List.find?_eq_none
abbrev AhL:=@List.getElem_cons_drop
abbrev AhM:=@List.sublist_cons_self
abbrev AhN:=@List.flatMap_singleton
abbrev AhO:=@Array.getD_eq_getD_getElem?
abbrev AhP:=@Nat.two_pow_add_eq_or_of_lt
abbrev AhQ:=@Option.getD_some
abbrev AhR:=@List.perm_middle
abbrev AhS:=@Nat.mul_assoc
abbrev AhT:=@List.append_cancel_left_eq
abbrev AhU:=@List.getElem_of_mem
abbrev AhV:=@Array.setIfInBounds_comm
abbrev AhW:=@List.Sublist.append_left
abbrev AhX:=@cond_false
abbrev AhY:=@if_true
abbrev AhZ:=@List.nodup_nil
abbrev Aha:=@Array.size_append
abbrev Ahb:=@Array.getElem?_eq_none
abbrev Ahc:=@List.getElem?_set_self
abbrev Ahd:=@List.set_eq_take_append_cons_drop
abbrev Ahe:=@List.drop_of_length_le
abbrev Ahf:=@Nat.pow_add
abbrev Ahg:=@Option.map_eq_some_iff
abbrev Ahh:=@Prod.mk.injEq
abbrev Ahi:=@Bool.and_true
abbrev Ahj:=@Option.bind_some
abbrev Ahk:=@List.Perm.append_left
abbrev Ahl:=@List.replicate_append_replicate
abbrev Ahm:=@List.map_set
abbrev Ahn:=@Bool.or_eq_false_iff
abbrev Aho:=@Nat.div_le_self
abbrev Ahp:=@List.getLast?_append
abbrev Ahq:=@List.find?_cons
abbrev Ahr:=@Nat.not_lt_zero
abbrev Ahs:=@List.length_finRange
abbrev Aht:=@List.getElem?_of_mem
abbrev Ahu:=@List.sum_append
abbrev Ahv:=@List.map_eq_nil_iff
abbrev Ahw:=@Array.length_toList
abbrev Ahx:=@List.drop_take
abbrev Ahy:=@List.prefix_append_right_inj
abbrev Ahz:=@Nat.mod_one
abbrev Ah0:=@List.map_id
abbrev Ah1:=@Prod.mk.inj
abbrev Ah2:=@cond_true
abbrev Ah3:=@List.set_cons_succ
abbrev Ah4:=@Array.append_empty
abbrev Ah5:=@List.map_singleton
abbrev Ah6:=@Array.extract_size
abbrev Ah7:=@List.prefix_append
abbrev Ah8:=@Nat.lt_irrefl
abbrev Ah9:=@List.map_take
abbrev AiA:=@List.perm_append_singleton
abbrev AiB:=@List.take_set
abbrev AiC:=@Int.tdiv_eq_ediv_of_nonneg
abbrev AiD:=@List.takeWhile_cons_of_pos
abbrev AiE:=@List.takeWhile_cons_of_neg
abbrev AiF:=@List.all_eq_false
abbrev AiG:=@Array.size_modify
abbrev AiH:=@List.Sublist.refl
abbrev AiI:=@List.mem_or_eq_of_mem_set
abbrev AiJ:=@Array.ext'
abbrev AiK:=@Array.getElem?_eq_getElem
abbrev AiL:=@Decidable.byContradiction
abbrev AiM:=@List.getLast?_eq_getElem?
abbrev AiN:=@getElem!_pos
abbrev AiO:=@List.getElem_mem
abbrev AiP:=@Nat.div_eq_of_lt
abbrev AiQ:=@List.filter_cons
abbrev AiR:=@Nat.mul_succ
abbrev AiS:=@List.eq_of_mem_replicate
abbrev AiT:=@Bool.true_or
abbrev AiU:=@List.set_eq_of_length_le
abbrev AiV:=@List.prefix_refl
abbrev AiW:=@Nat.add_sub_cancel_left
abbrev AiX:=@Int.natCast_pow
abbrev AiY:=@Nat.two_pow_pos
abbrev AiZ:=@List.find?_some
abbrev Aia:=@Nat.one_mul
abbrev Aib:=@Nat.sub_mul
abbrev Aic:=@Nat.mod_mul
abbrev Aid:=@List.mapM_cons
abbrev Aie:=@Array.getElem?_mapIdx
abbrev Aif:=@Nat.mul_le_mul
abbrev Aig:=@List.cons_le_cons_iff
abbrev Aih:=@Bool.and_eq_false_iff
abbrev Aii:=@List.perm_append_comm
abbrev Aij:=@List.concat_eq_append
abbrev Aik:=@List.mem_range
abbrev Aim:=@Nat.beq_refl
abbrev Ain:=@Nat.le_of_lt
section
namespace Tw
open Go
abbrev Hp:=Nat->Option Obj
abbrev Rr:=Ending->Hp->Prop
abbrev Env:=Nat->Value
abbrev Bx:=List (Nat×Obj)
theorem gh {a b:Nat}(h:a≠b):Nat.beq a b=false:=by
 cases hb:Nat.beq a b
 .rfl
 .exact absurd (Afm hb) h
def Sat (Z22:Hp)(w:World):Prop:=∀b o,Z22 b=some o->w.heap[b]?=some o
def KM (bx:Bx)(w:World):Prop:=∀p∈bx,w.heap[p.1]?=some p.2
def Hp.set (Z22:Hp)(b:Nat)(o:Obj):Hp:=λi=>if i=b then some o else Z22 i
def xT (e:Env)(t:Nat)(v:Value):Env:=λi=>bif Nat.beq i t then v else e i
def put (e:Env)(d:Option Nat)(v:Value):Env:=match d with | some d=>xT e d v | none=>e
def AE (e:Env):Operand->Value
 | .tmp t=>e t
 | .const v=>v
 | .global g=>.pointer (some ⟨g,0,none⟩)
 | .func f=>.func (.func f) #[] #[]
class I9 where
 on:Prop
instance APJ:I9:=⟨False⟩
variable [I9]
def Gi (w A:World):Prop:=A.os=w.os/\A.tape=w.tape/\(I9.on->∃n:Nat,A.drawn=w.drawn+n)
theorem Gi.same {w A:World}(G:A.os=w.os)(h2:A.tape=w.tape)(h3:A.drawn=w.drawn):Gi w A:=⟨G,h2,λ_=>⟨0,h3⟩⟩
theorem Gi.trans {w G yS:World}(h:Gi w G)(g:Gi G yS):Gi w yS:=
 ⟨g.1.trans h.1,g.2.1.trans h.2.1,λA=>let ⟨n,h3⟩:=h.2.2 A;let ⟨m,g3⟩:=g.2.2 A;⟨n+m,by omega⟩⟩
theorem Gi.drew {w A:World}(h:Gi w A):Gi w { A with drawn:=A.drawn+1 }:=h.trans ⟨rfl,rfl,λ_=>⟨1,rfl⟩⟩
structure Fin (Z22:Hp)(F:Nat->Prop)(w w':World):Prop where
 sat:Sat Z22 w'
 Cc:∀b,F b->Z22 b=none/\w'.heap[b]?=w.heap[b]?
 os:Gi w w'
 out:w'.output=w.output
 grow:w.heap.size<=w'.heap.size
def Spec (P:Program)(f:FuncId)(args:Array Value)(Z22:Hp)(R:Rr):Prop:=
 ∀(w:World) (F:Nat->Prop),Sat Z22 w->(∀b,F b->b<w.heap.size/\Z22 b=none)->
  Calls P f args w (λe A=>∃Z'2,R e Z'2/\Fin Z'2 F w A)
theorem Spec.mono {P:Program}{f:FuncId}{args:Array Value}{Z22:Hp}{R A:Rr}(h:Spec P f args Z22 R)
  (hr:∀e Z'2,R e Z'2->A e Z'2):Spec P f args Z22 A:=λw F hs hF=>
 (h w F hs hF).mono λ_ _ ⟨Z'2,G,h2⟩=>⟨Z'2,hr _ _ G,h2⟩
structure St (n:Nat)(ds:List Deferred)(w0:World)(F:Nat->Prop)(e:Env)(bx:Bx)(Z22:Hp)(a:Act)(w:World):Prop where
 size:a.tmps.size=n
 env:∀t,a.tmps.getD t undef=e t
 defers:a.defers=ds
 sat:Sat Z22 w
 box:KM bx w
 free:∀p∈bx,Z22 p.1=none/\¬F p.1
 nodup:(bx.map (·.1)).Nodup
 Cc:∀b,F b->b<w0.heap.size/\Z22 b=none/\w.heap[b]?=w0.heap[b]?
 os:Gi w0 w
 out:w.output=w0.output
 grow:w0.heap.size<=w.heap.size
theorem St.eval {n ds w0 F e bx Z22 a w}(h:St n ds w0 F e bx Z22 a w):a.eval=AE e:=by
 funext x
 cases x with
 | tmp t=>exact h.env t
 | _=>rfl
theorem St.put {n ds w0 F e bx Z22 a w}(h:St n ds w0 F e bx Z22 a w)(d:Option Nat)(v:Value)(hd:∀t,d=some t->t<n):
  St n ds w0 F (put e d v) bx Z22 (a.put d v) w:=by
 cases d with
 | none=>exact h
 | some d=>
  have hd:=hd d rfl;refine { h with size:=by simp[Act.put,h.size],env:=λt=>?_,defers:=h.defers };simp only[Act.put,Tw.put,xT];by_cases A:t=d
  .subst A;have:t<a.tmps.size:=by rw[h.size];exact hd
   simp[this]
  .have G:=h.env t;have hb:Nat.beq t d=false:=gh A;simp only[hb,AhX];rw[<-G];simp[AhI (AfT A)]
theorem St.drew {n ds w0 F e bx Z22 a w}(h:St n ds w0 F e bx Z22 a w):St n ds w0 F e bx Z22 a { w with drawn:=w.drawn+1 }:=
 { h with sat:=h.sat,box:=h.box,Cc:=h.Cc,os:=h.os.drew,out:=h.out,grow:=h.grow }
structure Gl where
 P:Program
 f:FuncId
 n:Nat
 R:Rr
 Hy:Option Nat
 ds:List Deferred
 gi:(Hy=none/\ds=[])\/∀ch Z22,¬R (.panicked ch) Z22
abbrev Gl.fn (P:Program)(f:FuncId)(n:Nat)(R:Rr):Gl:=⟨P,f,n,R,none,[],.inl ⟨rfl,rfl⟩⟩
def wd (r:Option Nat):Fence:={ Fence.wide with round:=r }
theorem yT {r:Option Nat}{n:Nat}:(wd r).room n:=λ_ h=>by simp[wd,Fence.wide]at h
theorem Dx {P:Program}{r:Option Nat}{ρ:Operand->Value}{o:Oper}{w w':World}{G:Next}(h:(execOp ρ o).run P w=.ok G w')(hn:∀d,G≠.defer d):(o.semAt r ρ).run P w=.ok G w':=by
 by_cases hd:∃c,o.op=.defer c
 .obtain⟨c,A⟩:=hd;simp only[execOp,A,Sem.run_bind]at h;cases hr:(resolve ρ c o.type).run P w with
  | ok d w2=>
   rw[hr]at h;simp only[Result.andThen_ok,Sem.run_pure,Result.ok.injEq]at h;exact absurd h.1.symm (hn d)
  | halt x w2=>rw[hr]at h;simp[Result.andThen]at h
 .rw[Oper.semAt_eq r ρ o (λc A=>hd ⟨c,A⟩)];exact h
def P7 (P:Program)(f:FuncId)(Hy:Option Nat)(cs:List Frame)(m:Machine)(R:Ending->World->Prop):Prop:=
 match Hy with
 | none=>∃e A fr,R e A/\Comes P m (lone fr cs A) e/\fr.fn=f/\fr.leaving P A e
 | some _=>∀c cs',cs=c::cs'->∃v A,R (.returned v) A/\Steps P m (lone (c.finish v) cs' A)
theorem P7.of_steps {P f Hy cs m m' R}(A:Steps P m m')(h:P7 P f Hy cs m' R):P7 P f Hy cs m R:=by
 cases Hy with
 | none=>exact let ⟨e,w',fr,r,c,x⟩:=h;⟨e,w',fr,r,.of_steps A c,x⟩
 | some l=>exact λc cs' G=>let ⟨v,w',r,x⟩:=h c cs' G;⟨v,w',r,A.trans x⟩
def JA (P:Program)(f:FuncId)(Hy:Option Nat)(k:List Item)(a:Act)(w:World)(R:Ending->World->Prop):Prop:=
 ∀(b:Frame) (cs:List Frame),b.fn=f->b.kind=.normal->b.roundOf=Hy->(∃fn,P.funcs[f]?=some fn)->P7 P f Hy cs (lone (b.atR a k) cs w) R
theorem JA.step {P f Hy k a w R k' a' w'}(hs:∀(b:Frame) cs,b.roundOf=Hy->step P (lone (b.atR a k) cs w)=.next (lone (b.atR a' k') cs w'))
 (h:JA P f Hy k' a' w' R):JA P f Hy k a w R:=λb cs hf hk A G=>.of_steps (.one (hs b cs A)) (h b cs hf hk A G)
def yU (g:Gl)(G:World)(F:Nat->Prop):Ending->World->Prop:=λen A=>∃Z'2,g.R en Z'2/\Fin Z'2 F G A
def At (g:Gl)(k:List Item)(e:Env)(bx:Bx)(Z22:Hp):Prop:=
 ∀A F a w,St g.n g.ds A F e bx Z22 a w->JA g.P g.f g.Hy k a w (yU g A F)
section steps
variable {g:Gl}{k:List Item}{e:Env}{bx:Bx}{Z22:Hp}
theorem At.skip (h:At g k e bx Z22):At g (.code .skip::k) e bx Z22:=λA F a w st=>.step (λ_ _ _=>stepR_skip) (h A F a w st)
theorem At.label {l}(h:At g k e bx Z22):At g (.code (.label l)::k) e bx Z22:=λA F a w st=>.step (λ_ _ _=>stepR_label) (h A F a w st)
theorem At.inBlock {i}(h:At g k e bx Z22):At g (.inBlock i::k) e bx Z22:=λA F a w st=>.step (λ_ _ _=>stepR_inBlock) (h A F a w st)
theorem At.seq {c x y}(A:c=Code.seq x y)(h:At g (.code x::.code y::k) e bx Z22):At g (.code c::k) e bx Z22:=
 A▸λG F a w st=>.step (λ_ _ _=>stepR_seq) (h G F a w st)
theorem At.block {c i x}(A:c=Code.block i x)(h:At g (.code x::.inBlock i::k) e bx Z22):At g (.code c::k) e bx Z22:=
 A▸λG F a w st=>.step (λ_ _ _=>stepR_block) (h G F a w st)
theorem At.loop {c x}(A:c=Code.loop x)(h:At g (.code x::.inLoop x::k) e bx Z22):At g (.code c::k) e bx Z22:=
 A▸λG F a w st=>.step (λ_ _ _=>stepR_loop) (h G F a w st)
theorem At.inLoop {x}(h:At g (.code x::.inLoop x::k) e bx Z22):At g (.inLoop x::k) e bx Z22:=
 λA F a w st=>.step (λ_ _ _=>stepR_inLoop) (h A F a w st)
theorem At.exit {c i k'}(A:c=Code.exit i)(G:exitTo i k=some k')(h:At g k' e bx Z22):At g (.code c::k) e bx Z22:=
 A▸λw0 F a w st=>.step (λ_ _ _=>stepR_exit G) (h w0 F a w st)
theorem At.goto {c i k'}(A:c=Code.goto i)(G:gotoIn i k=some k')(h:At g k' e bx Z22):At g (.code c::k) e bx Z22:=
 A▸λw0 F a w st=>.step (λ_ _ _=>stepR_goto G) (h w0 F a w st)
theorem At.ABZ {c x y z}(A:c=Code.cond x y z)(G:AE e x=.bool true)(h:At g (.code y::k) e bx Z22):At g (.code c::k) e bx Z22:=
 A▸λw0 F a w st=>.step (λ_ _ _=>stepR_cond (t:=true) (by rw[st.eval];exact G)) (h w0 F a w st)
theorem At.ABa {c x y z}(A:c=Code.cond x y z)(G:AE e x=.bool false)(h:At g (.code z::k) e bx Z22):At g (.code c::k) e bx Z22:=
 A▸λw0 F a w st=>.step (λ_ _ _=>stepR_cond (t:=false) (by rw[st.eval];exact G)) (h w0 F a w st)
def left (ds:List Deferred)(Z22:Hp):Hp:=ds.foldl (λZ22 d=>match d.target with | .collected D=>Z22.set D (.deferred none) | _=>Z22) Z22
def Marks:List Deferred->Hp->Prop
 | [],_=>True
 | d::ds,Z22=>∃D,d={ target:=.collected D,args:=#[] }/\Z22 D=some (.deferred (some []))/\Marks ds (Z22.set D (.deferred none))
theorem Fin.put {Z22:Hp}{F:Nat->Prop}{w0 w:World}{l:Nat}{o o':Obj}(h:Fin Z22 F w0 w)(hl:Z22 l=some o):Fin (Z22.set l o') F w0 (w.putObj l o'):=by
 have Aq:l<w.heap.size:=(AfA.1 (h.sat l o hl)).1;refine⟨λk u A=>?_,λk A=>?_,h.os,h.out,by simpa using h.grow⟩
 .by_cases G:k=l
  .subst G;simp only[Hp.set,AhY]at A;cases A;exact World.putObj_heap_same Aq
  .simp only[Hp.set,G,AgO]at A;rw[World.putObj_heap_other G];exact h.sat k u A
 .have hp:=h.Cc k A;have G:k≠l:=λe=>by rw[e,hl]at hp;cases hp.1
  exact⟨by simp only[Hp.set,G,AgO];exact hp.1,by rw[World.putObj_heap_other G];exact hp.2⟩
theorem St.toFin {n ds w0 F e bx Z22 a w}(st:St n ds w0 F e bx Z22 a w):Fin Z22 F w0 w:=⟨st.sat,λb hb=>⟨(st.Cc b hb).2.1,(st.Cc b hb).2.2⟩,st.os,st.out,st.grow⟩
theorem RL {P:Program}:∀(ds:List Deferred) {Z22:Hp} {F:Nat->Prop} {w0 w:World} {fr:Frame} {cs:List Frame},Marks ds Z22->Fin Z22 F w0 w->KM bx w->(∀p∈bx,Z22 p.1=none)->fr.mode=.returning->fr.defers=ds->
  ∃w',Fin (left ds Z22) F w0 w'/\KM bx w'/\Steps P (lone fr cs w) (lone { fr with defers:=[] } cs w')
 | [],Z22,F,w0,w,fr,cs,_,hf,hb,_,_,hd=>⟨w,hf,hb,by rw[show({ fr with defers:=[] }:Frame)=fr by cases fr;simp at hd;simp[hd]];exact .refl ..⟩
 | d::ds,Z22,F,w0,w,fr,cs,⟨D,hD,A,hm⟩,hf,hb,hn,G,hd=>by
  subst hD;have h1:=step_collected (P:=P) (fr:=fr) (cs:=cs) (w:=w) (r:=D) (by rw[G];simp) hd rfl (run_takeDeferred (hf.sat D _ A));have AR:∀p∈bx,p.1≠D:=λp hp e=>by have:=hn p hp;rw[e,A]at this;cases this
  obtain⟨w',RM,Ll,hs⟩:=RL ds (fr:={ fr with defers:=[]++ds }) (cs:=cs) hm (hf.put A) (λp hp=>by rw[World.putObj_heap_other (AR p hp)];exact hb p hp) (λp hp=>by simp only[Hp.set,AR p hp,AgO];exact hn p hp) G rfl;exact⟨w',RM,Ll,(Steps.one h1).trans hs⟩
theorem At.done {fn:Func}{v:Value}(hf:g.P.funcs[g.f]?=some fn)
  (hr:∀(a:Act) w,(∀t,a.tmps.getD t undef=e t)->Sat (left g.ds Z22) w->KM bx w->(results fn a.tmps).run g.P w=.ok v w)
  (h:g.R (.returned v) (left g.ds Z22)) (Wm:g.Hy=none:=by rfl) (hm:Marks g.ds Z22:=by trivial):At g [] e bx Z22:=λw0 F a w st b cs yV Wn YE Tz=>by
 have A:b.roundOf=none:=YE.trans Wm;obtain⟨w',G,Ll,hs⟩:=RL (P:=g.P) (cs:=cs) (fr:={ b.atR a [] with mode:=.returning }) g.ds hm st.toFin st.box (λp hp=>(st.free p hp).1) rfl st.defers;unfold P7;rw[Wm];exact⟨.returned v,w',_,⟨_,h,G⟩,(Steps.one (stepR_end A)).trans hs,yV,rfl,rfl,Wn,fn,by simpa[Frame.atR,yV] using hf,hr a w' st.env G.sat Ll⟩
theorem At.ret {c:Code}{fn:Func}{v:Value}(hc:c=Code.ret)(hf:g.P.funcs[g.f]?=some fn)
  (hr:∀(a:Act) w,(∀t,a.tmps.getD t undef=e t)->Sat (left g.ds Z22) w->KM bx w->(results fn a.tmps).run g.P w=.ok v w)
  (h:g.R (.returned v) (left g.ds Z22)) (Wm:g.Hy=none:=by rfl) (hm:Marks g.ds Z22:=by trivial):At g (.code c::k) e bx Z22:=hc▸λw0 F a w st b cs yV Wn YE Tz=>by
 have A:b.roundOf=none:=YE.trans Wm;obtain⟨w',G,Ll,hs⟩:=RL (P:=g.P) (cs:=cs) (fr:={ b.atR a (.code .ret::k) with mode:=.returning }) g.ds hm st.toFin st.box (λp hp=>(st.free p hp).1) rfl st.defers;unfold P7;rw[Wm];exact⟨.returned v,w',_,⟨_,h,G⟩,(Steps.one (stepR_ret A)).trans hs,yV,rfl,rfl,Wn,fn,by simpa[Frame.atR,yV] using hf,hr a w' st.env G.sat Ll⟩
def lp (r:Loop)(s:LoopState)(p:Option Code):Loop:={ r with state:=s,pending:=p }
theorem At.beginRound {l:Nat}{r:Loop}(Wm:g.Hy=some l)(A:Z22 l=some (.loop (lp r .ready none)))(h:At g k e bx (Z22.set l (.loop (lp r .busy none)))):At g (.beginRound::k) e bx Z22:=λw0 F a w st=>
 JA.step (λb cs hb=>stepR_beginRound (hb.trans Wm) (run_beginRound (st.sat _ _ A) rfl)) (h w0 F a _ (by
  have G:=st.toFin.put (o':=.loop (lp r .busy none)) A;have AR:∀p∈bx,p.1≠l:=λp hp e=>by have:=(st.free p hp).1;rw[e,A]at this;cases this
  exact { st with sat:=G.sat,box:=λp hp=>by rw[World.putObj_heap_other (AR p hp)];exact st.box p hp,free:=λp hp=>⟨by simp only[Hp.set,AR p hp,AgO];exact(st.free p hp).1,(st.free p hp).2⟩,Cc:=λb hb=>⟨(st.Cc b hb).1,(G.Cc b hb).1,(G.Cc b hb).2⟩,os:=G.os,out:=G.out,grow:=G.grow }))
theorem At.T7 {l:Nat}{r:Loop}(G:g.Hy=some l)(A:Z22 l=some (.loop (lp r .busy none)))(h:g.R (.returned (.bool true)) (Z22.set l (.loop (lp r .ready none)))):At g [] e bx Z22:=λw0 F a w st b cs yV Wn YE Tz=>by
 unfold P7;rw[G]
 rintro c cs' rfl
 exact⟨_,_,⟨_,h,st.toFin.put A⟩,.one (stepR_round_end (YE.trans G) Wn (run_endRound (r:=lp r .busy none) none (st.sat _ _ A)))⟩
theorem At.sub {G:Bx}(A:G.Sublist bx)(h:At g k e G Z22):At g k e bx Z22:=λw0 F a w st=>
 h w0 F a w { st with box:=λp hp=>st.box p (A.subset hp),free:=λp hp=>st.free p (A.subset hp),nodup:=(A.map _).nodup st.nodup }
def Lm (e:Env):List (Nat×Value)->Env
 | []=>e
 | (t,v)::l=>xT (Lm e l) t v
theorem kW {e:Env}:∀{l:List (Nat×Value)},(∀p∈l,e p.1=p.2)->Lm e l=e
 | [],_=>rfl
 | (t,v)::l,h=>by
  have A:Lm e l=e:=kW λp hp=>h p (Aey _ hp)
  funext i
  simp only[Lm,A,xT];by_cases hi:i=t
  .subst hi;rw[Aim];exact(h (i,v) (AfB ..)).symm
  .rw[gh hi];rfl
def Live (e:Env):List (Nat×Value)->Prop
 | []=>True
 | (t,v)::l=>e t=v/\Live e l
theorem Live.mem {e:Env}:∀{l:List (Nat×Value)},Live e l->∀p∈l,e p.1=p.2
 | (_,_)::_,h,p,hp=>by
  rcases Ae5.1 hp with rfl|hp
  .exact h.1
  .exact h.2.mem p hp
theorem At.live {l:List (Nat×Value)}(A:Live e l)(h:At g k (Lm e l) bx Z22):At g k e bx Z22:=by
 rwa[kW A.mem]at h
end steps
theorem Spec.bX {P:Program}{f:FuncId}{fn:Func}{c:Code}{args:Array Value}{Z22:Hp}{R:Rr}
  (hf:P.funcs[f]?=some fn) (hb:fn.body=some c) (hn:args.size<=fn.ntmps)
  (h:∀e:Env,(∀t,e t=args.getD t undef)->At (Gl.fn P f fn.ntmps R) [.code c] e [] Z22):Spec P f args Z22 R:=by
 intro w F hs G cs
 let b:Frame:={ (default:Frame) with fn:=f,kind:=.normal,roundOf:=none }
 have gj:Frame.enter P f args .normal =
   b.atR { tmps:=args++Array.replicate (fn.ntmps-args.size) undef,defers:=[] } [.code c]:=by
  simp[Frame.enter,Frame.atR,hf,hb,b]
 rw[gj];have st:St fn.ntmps [] w F (λt=>args.getD t undef) [] Z22 { tmps:=args++Array.replicate (fn.ntmps-args.size) undef,defers:=[] } w:=by
  refine⟨by simp;omega,λt=>?_,rfl,hs,(λp hp=>by cases hp),(λp hp=>by cases hp),AhZ,λb hb=>⟨(G b hb).1,(G b hb).2,rfl⟩,.same rfl rfl rfl,rfl,Ae1 _⟩;rcases Afp t args.size with A|A
  .simp[Agn,A]
  .simp only[AhO,Agn,Nat.not_lt.2 A,AgO,Array.getElem?_replicate,Ahb A];split<;>rfl
 obtain⟨e,w',fr,r,cc,Tz,hl⟩:=h _ (λ_=>rfl) w F _ w st b cs rfl rfl rfl ⟨fn,hf⟩;exact⟨e,w',fr,r,cc,Tz,hl⟩
def AX (ops:Array Oper)(e:Env)(gd:Option (Nat×Bool)):Bool:=
 match gd with
 | none=>true
 | some (j,A)=>(match (ops[j]?).bind (·.dst) with
  | some d=>(match e d with | .bool b=>some b | _=>none)
  | none=>none)==some A
theorem St.wanted {n ds w0 F e bx Z22 a w}(h:St n ds w0 F e bx Z22 a w)(ops:Array Oper)(o:Oper):
  Region.wanted o (yielded ops a.tmps)=AX ops e o.guard:=by
 unfold Region.wanted AX;cases o.guard with
 | none=>rfl
 | some p=>
  obtain⟨j,A⟩:=p;simp only[yielded];cases(ops[j]?).bind (·.dst) with
  | none=>rfl
  | some d=>
   have hd:=h.env d;simp only[Ahj,<-hd,AhO];cases a.tmps[d]? with
   | none=>rfl
   | some v=>cases v<;>rfl
def Qx (g:Gl)(G:World)(F:Nat->Prop):Exit->Act->World->Prop
 | .panic A,a,w=>(g.Hy=none/\a.defers=[])/\yU g G F (.panicked A) w
 | _,_,_=>False
def AV (g:Gl)(ops:Array Oper)(i:Nat)(e:Env)(bx:Bx)(Z22:Hp)(K:Env->Bx->Hp->Prop):Prop:=
 ∀A F a w,St g.n g.ds A F e bx Z22 a w->wpOpIn (wd g.Hy) 0 g.P ops (Qx g A F) i (λa' w'=>∃e' G Z'2,St g.n g.ds A F e' G Z'2 a' w'/\K e' G Z'2) a w
def Seq (g:Gl)(ops:Array Oper):List Nat->Env->Bx->Hp->(Env->Bx->Hp->Prop)->Prop
 | [],e,bx,Z22,K=>K e bx Z22
 | i::is,e,bx,Z22,K=>AV g ops i e bx Z22 λG A Z'2=>Seq g ops is G A Z'2 K
def Yd (P:Program)(e:Env)(bx:Bx)(Z22:Hp)(op:Op)(ty:TypeId)(v:Value):Prop:=
 ∀o:Oper,o.op=op->o.type=ty->∀w,Sat Z22 w->KM bx w->(execOp (AE e) o).run P w=.ok (.value v) w
abbrev KH:=Option (List (Nat×List Nat))
def PG (q:KH)(own:Option (Nat×List (List Nat)))(Z22:Hp):Hp:=
 match q,own with
 | none,_=>Z22
 | some _,none=>λ_=>none
 | some _,some x=>λb=>if b=x.1 then Z22 b else none
def M8:KH->Option (Nat×List (List Nat))->KH
 | none,_=>none
 | some L,none=>some L
 | some L,some x=>some ((x.1,x.2.filterMap List.head?)::L)
def G5:KH->Nat->KH
 | none,_=>none
 | some L,j=>some (L.filter λx=>!x.2.contains j)
def JY (ops:Array Oper)(t u:Nat):Bool:=
 match ops[t]? with
 | some o=>o.after.any λe=>Region.binds .any e&&e.on==u
 | none=>false
def T9 (ops:Array Oper)(i:Nat):List Nat->Bool
 | []=>false
 | [t]=>JY ops t i
 | t::u::r=>JY ops t u&&T9 ops i (u::r)
def KH.ok (q:KH)(i:Nat):Bool:=
 match q with
 | none=>true
 | some L=>L.all λx=>!x.2.contains i
def SD (ops:Array Oper)(i:Nat):Option (Nat×List (List Nat))->Bool
 | none=>true
 | some x=>x.2.all (T9 ops i)
def Sq (q:KH)(Z22:Hp)(bx:Bx)(A:Array Bool)(w:World):Prop:=
 KM bx w/\match q with
  | none=>Sat Z22 w
  | some L=>∀x∈L,(∃t∈x.2,A.getD t false=true)\/∀o,Z22 x.1=some o->w.heap[x.1]?=some o
def Ks (q:KH)(bx:Bx)(Z22:Hp)(A:Bx)(Z'2:Hp):Prop:=
 (∀p∈bx,p∈A)/\match q with
  | none=>∀b o,Z22 b=some o->Z'2 b=some o
  | some L=>∀x∈L,∀o,Z22 x.1=some o->Z'2 x.1=some o
theorem Ks.refl (q:KH)(bx:Bx)(Z22:Hp):Ks q bx Z22 bx Z22:=⟨λ_ h=>h,by cases q<;>simp⟩
theorem Sq.of {q:KH}{Z22:Hp}{bx:Bx}{A:Array Bool}{w:World}(h:Sat Z22 w)(hb:KM bx w):Sq q Z22 bx A w:=⟨hb,by
 cases q with
 | none=>exact h
 | some L=>exact λx _=>.inr λo G=>h _ _ G⟩
theorem YG {A:Array Bool}{i t:Nat}(h:t≠i):(A.setIfInBounds i true).getD t false=A.getD t false:=getD_set_ne false (AfT h)
theorem Sq.set {q:KH}{Z22:Hp}{bx:Bx}{i:Nat}(A4:q.ok i=true)(A:Array Bool)(w:World):Sq q Z22 bx (A.setIfInBounds i true) w↔Sq q Z22 bx A w:=by
 unfold Sq;cases q with
 | none=>exact Iff.rfl
 | some L=>
  refine and_congr Iff.rfl (forall_congr' λx=>forall_congr' λhx=>or_congr ?_ Iff.rfl);have G:i ∉ x.2:=by
   have:=Afu.1 A4 x hx;simpa using this
  refine exists_congr λt=>and_congr_right λht=>?_;rw[YG (λh=>G (by subst h;exact ht))]
theorem SE {ops:Array Oper}{n i:Nat}{A:Array Bool}(inv:HeadInv .any ops n A):∀(p:List Nat) (t:Nat),T9 ops i p=true->p.head?=some t->A.getD t false=true->A.getD i false=true
 | [],_,h,_,_=>by cases h
 | [t'],t,h,G,hl=>by
  simp only[List.head?_cons,AfL]at G;subst G;simp only[T9,JY]at h;split at h
  .rename_i o ho;obtain⟨e,he,hb⟩:=Array.any_eq_true'.1 h;simp only[AfH,beq_iff_eq]at hb;exact hb.2▸inv.closed _ o ho hl e he hb.1
  .cases h
 | t'::u::r,t,h,G,hl=>by
  simp only[List.head?_cons,AfL]at G;subst G;simp only[T9,AfH]at h;refine SE inv (u::r) u h.2 rfl ?_;have h:=h.1;simp only[JY]at h;split at h
  .rename_i o ho;obtain⟨e,he,hb⟩:=Array.any_eq_true'.1 h;simp only[AfH,beq_iff_eq]at hb;exact hb.2▸inv.closed _ o ho hl e he hb.1
  .cases h
theorem Sq.own {ops:Array Oper}{n i:Nat}{A:Array Bool}{q:KH}{own:Option (Nat×List (List Nat))}{Z22:Hp}{bx:Bx}{w:World}(inv:HeadInv .any ops n A)(TY:A.getD i true=false)(A4:SD ops i own=true)
  (h:Sq (M8 q own) Z22 bx A w):Sat (PG q own Z22) w/\KM bx w:=by
 refine⟨?_,h.1⟩;cases q with
 | none=>exact h.2
 | some L=>
  cases own with
  | none=>intro b o hb;cases hb
  | some x=>
   intro b o hb;simp only[PG]at hb;split at hb
   .rename_i G;subst G;rcases h.2 (x.1,x.2.filterMap List.head?) (AfB ..) with ⟨t,ht,hl⟩|h2
    .obtain⟨p,hp,hpt⟩:=List.mem_filterMap.1 ht;have:=SE inv p t (Afu.1 A4 p hp) hpt hl;rw[getD_both TY]at this;cases this
    .exact h2 o hb
   .cases hb
theorem Sq.less {q:KH}{own:Option (Nat×List (List Nat))}{Z22:Hp}{bx:Bx}{A:Array Bool}{w:World}(h:Sq (M8 q own) Z22 bx A w):Sq q Z22 bx A w:=by
 refine⟨h.1,?_⟩;cases q with
 | none=>exact h.2
 | some L=>
  cases own with
  | none=>exact h.2
  | some x=>exact λy G=>h.2 y (Aey _ G)
theorem Sq.YH {q:KH}{Z22 Z'2:Hp}{bx HX:Bx}{i:Nat}{A:Array Bool}{w:World}(hi:A.getD i false=true)(hk:Ks (G5 q i) bx Z22 HX Z'2)(h:Sq (G5 q i) Z'2 HX A w):Sq q Z22 bx A w:=by
 refine⟨λp hp=>h.1 p (hk.1 p hp),?_⟩;cases q with
 | none=>exact λb o hb=>h.2 b o (hk.2 b o hb)
 | some L=>
  intro x hx;by_cases hc:i∈x.2
  .exact .inl ⟨i,hc,hi⟩
  .have hm:x∈L.filter λx=>!x.2.contains i:=Agk.2 ⟨hx,by simpa using hc⟩;rcases h.2 x hm with G|G
   .exact .inl G
   .exact .inr λo ho=>G o (hk.2 x hm o ho)
def Head (g:Gl)(ops:Array Oper):KH->List (Nat×Bool)->Env->Bx->Hp->(Env->Bx->Hp->Prop)->Prop
 | _,[],e,bx,Z22,K=>K e bx Z22
 | q,(i,true)::r,e,bx,Z22,K=>∃own o v,((M8 q own).ok i&&SD ops i own)=true/\ops[i]?=some o/\((AX ops e o.guard=true/\Yd g.P e bx (PG q own Z22) o.op o.type v)\/(AX ops e o.guard=false/\v=undef))/\
  (∀t,o.dst=some t->t<g.n)/\Head g ops (M8 q own) r (put e o.dst v) bx Z22 K
 | q,(i,false)::r,e,bx,Z22,K=>AV g ops i e bx Z22 λG A Z'2=>Ks (G5 q i) bx Z22 A Z'2/\Head g ops (G5 q i) r G A Z'2 K
def RN (ops:Array Oper)(n:Nat):List (Nat×Bool)->Array Bool->Bool
 | [],A=>Region.seqB .any ops (ops.size-n) n A
 | (i,true)::r,A=>decide (i<n)&&(Region.ready .any ops A).contains i&&Region.free .any ops A i&&RN ops n r (A.setIfInBounds i true)
 | (i,false)::r,A=>decide (i<n)&&(Region.ready .any ops A==[i])&&RN ops n r (A.setIfInBounds i true)
def rD (ops:Array Oper)(n:Nat)(plan:List (Nat×Bool))(tail:List Nat):Bool:=
 Region.noSelect ops&&decide (plan.length=n)&&(decide (n=ops.size)||(decide (n<ops.size)&&Region.sinkB .any ops n&&Region.chainB .any ops n)) &&
  decide (tail=List.range' n (ops.size-n))&&RN ops n plan (Array.replicate ops.size false)
section head
variable {P:Program}{ro:Option Nat}{ops:Array Oper}{Q:Exit->Act->World->Prop}{md:Region.Mode}
theorem Cv {i:Nat}{o:Oper}{K:Act->World->Prop}{a:Act}{w:World}(A:ops[i]?=some o)(G:Region.wanted o (yielded ops a.tmps)=true)(h:o.uponIn (wd ro) 0 P a K Q ((o.semAt ro a.eval).run P w)):
  wpOpIn (wd ro) 0 P ops Q i K a w:=by
 unfold wpOpIn;simp only[A,G,AhY];exact⟨λ_ _=>trivial,h⟩
theorem gk {i:Nat}{o:Oper}{K:Act->World->Prop}{a:Act}{w:World}(A:ops[i]?=some o)(G:Region.wanted o (yielded ops a.tmps)=false)(h:K (a.put o.dst undef) w):wpOpIn (wd ro) 0 P ops Q i K a w:=by
 unfold wpOpIn;simp only[A,G,AgV,AgO];exact⟨λ_ _=>trivial,h⟩
theorem kY {S:World->Prop}{i:Nat}{o:Oper}{v:Value}{a:Act}(hi:ops[i]?=some o)(hy:YieldsIf P ops S o v a)
  {K:Act->World->Prop} {w:World} (G:S w) (h:K (a.put o.dst v) w):wpOpIn (wd ro) 0 P ops Q i K a w:=by
 rcases hy with ⟨A,hv⟩|⟨A,rfl⟩
 .refine Cv hi A ?_;rw[Dx (hv w G) (λd=>by simp)];exact h
 .exact gk hi A h
theorem nP {o:Oper}(hs:∀cs b,o.op≠.select cs b)(a:Act)(dst:Option Tmp)(u:Value)(h:∀d,dst=some d->d ∉ o.looksAt ops):o.semAt ro (a.put dst u).eval=o.semAt ro a.eval:=by
 have he:=execOp_put o hs a dst u h;by_cases hd:∃c,o.op=.defer c
 .obtain⟨c,A⟩:=hd;have hr:resolve (a.put dst u).eval c o.type=resolve a.eval c o.type:=resolve_congr (ρ:=(a.put dst u).eval) (ρ':=a.eval) c o.type (λx hx=>Act.eval_put λd hd G=>h d hd (by
   subst G;exact Afk _ (List.mem_filterMap.2 ⟨.tmp d,by rw[A];simpa[Op.operands] using hx,rfl⟩)))
  unfold Oper.semAt;cases ro with
  | none=>exact he
  | some l=>simp only[A,hr]
 .rw[Oper.semAt_eq ro _ o (λc A=>hd ⟨c,A⟩),Oper.semAt_eq ro _ o (λc A=>hd ⟨c,A⟩)];exact he
theorem nQ {S:World->Prop}{j:Nat}{A G:Oper}{v:Value}(hj:ops[j]?=some G)(hap:A.apart ops G=true)
  (hsi:∀cs b,A.op≠.select cs b) (hsj:∀cs b,G.op≠.select cs b)
  (hQ:∀c a w,Q (.panic c) (a.put A.dst v) w->Q (.panic c) a w) {K:Act->World->Prop} {a:Act} {w:World}
  (hy:YieldsIf P ops S A v a) (h:wpOpIn (wd ro) 0 P ops Q j K (a.put A.dst v) w) :
  wpOpIn (wd ro) 0 P ops Q j (λa' w'=>YieldsIf P ops S A v a'/\K (a'.put A.dst v) w') a w:=by
 obtain⟨h1,h2,h3⟩:=Oper.apart_spec hap;have keep:∀(a:Act),YieldsIf P ops S A v a->∀u,YieldsIf P ops S A v (a.put G.dst u):=λa hy u=>
  hy.of_same (execOp_put A hsi a G.dst u h3) (wanted_put A a G.dst u h3)
 have AH3:∀d,YieldsIf P ops S A v { a with defers:=d::a.defers }:=λd=>hy.of_same rfl rfl;unfold wpOpIn at h;simp only[hj]at h;rw[wanted_put G a A.dst v h1]at h;by_cases hw:Region.wanted G (yielded ops a.tmps)=true
 .simp only[hw,AhY]at h;refine Cv hj hw ?_;have h:=h.2
  change G.uponIn (wd ro) 0 P (a.put A.dst v) K Q ((G.semAt ro (a.put A.dst v).eval).run P w)at h
  rw[nP hsj a A.dst v h1]at h;generalize (G.semAt ro a.eval).run P w=r at *;cases r with
  | ok n w'=>
   cases n<;>simp only[Oper.uponIn]at h ⊢
   case value u=>exact⟨keep a hy u,by rw[<-Act.put_comm a v u h2];exact h⟩
   case skip=>exact⟨keep a hy _,by rw[<-Act.put_comm a v undef h2];exact h⟩
   case defer d=>
    refine⟨keep _ (AH3 d) _,?_⟩;rw[<-Act.put_comm _ v undef h2,<-Act.put_defers];exact h
   case enter f args=>
    refine⟨h.1,CallsIn.mono h.2 λe yS he=>?_⟩;cases e with
    | returned u=>exact⟨keep a hy u,by rw[<-Act.put_comm a v u h2];exact he⟩
    | panicked c=>exact hQ _ _ _ he
    | outgrown=>exact he
   case row row args=>exact⟨h.1,RowsIn.mono h.2 λu yS he=>⟨keep a hy u,by rw[<-Act.put_comm a v u h2];exact he⟩⟩
   case round l f tmps assign body=>
    refine⟨h.1,RoundIn.mono h.2 λe yS he=>?_⟩;cases e with
    | returned u=>exact⟨keep a hy u,by rw[<-Act.put_comm a v u h2];exact he⟩
    | panicked c=>exact hQ _ _ _ he
    | outgrown=>exact he
  | halt x w'=>
   cases x<;>simp only[Oper.uponIn]at h ⊢
   case panic u=>exact hQ _ _ _ h
 .have hw:Region.wanted G (yielded ops a.tmps)=false:=by simpa using hw
  simp only[hw,AgV,AgO]at h;exact gk hj hw ⟨keep a hy _,by rw[<-Act.put_comm a v undef h2];exact h.2⟩
def Hg (P:Program)(ro:Option Nat)(md:Region.Mode)(ops:Array Oper)(Q:Exit->Act->World->Prop)(S:Array Bool->World->Prop)(n:Nat)(L:Array Bool->Act->World->Prop):Nat->Array Bool->Act->World->Prop
 | 0,A,a,w=>L A a w
 | f+1,A,a,w=>Region.ready md ops A≠[]/\
  ∀i∈Region.ready md ops A,i<n/\wpOpIn (wd ro) 0 P ops Q i (λa' G=>S (A.setIfInBounds i true) G/\Hg P ro md ops Q S n L f (A.setIfInBounds i true) a' G) a w
theorem Hz {n g:Nat}{S:Array Bool->World->Prop}{L:Array Bool->Act->World->Prop}(G:∀A a w,L A a w->wpAnyIn (wd ro) 0 P md ops Q g A a w):
  ∀(f:Nat) (A:Array Bool) (a:Act) (w:World),Hg P ro md ops Q S n L f A a w->wpAnyIn (wd ro) 0 P md ops Q (f+g) A a w
 | 0,A,a,w,h=>by rw[AfW];exact G _ _ _ h
 | f+1,A,a,w,h=>by
  rw[show f+1+g=(f+g)+1 by omega];exact⟨λh0=>absurd h0 h.1,λi hi=>wpOpIn_mono (λa' w' h'=>Hz G f _ a' w' h'.2) (h.2 i hi).2⟩
theorem Fz {n:Nat}{S S':Array Bool->World->Prop}{G:Array Bool->Prop}{L:Array Bool->Act->World->Prop}(hG:∀A j,G A->G (A.setIfInBounds j true))(hS:∀A w,G A->S' A w->S A w):
  ∀(f:Nat) (A:Array Bool) (a:Act) (w:World),G A->Hg P ro md ops Q S' n L f A a w->Hg P ro md ops Q S n L f A a w
 | 0,_,_,_,_,h=>h
 | f+1,_,_,_,hg,h=>⟨h.1,λi hi=>⟨(h.2 i hi).1,wpOpIn_mono (λa' w' h'=>⟨hS _ _ (hG _ _ hg) h'.1,Fz hG hS f _ a' w' (hG _ _ hg) h'.2⟩) (h.2 i hi).2⟩⟩
theorem UA {n:Nat}{f:FuncId}{args:Array Value}{w:World}{R:Ending->World->Prop}(h:Calls P f args w R):CallsIn (wd ro) n P f args w R:=
 ⟨trivial,λcs _=>let ⟨e,w',fr,r,s,x⟩:=h cs;⟨e,w',fr,r,comesIn_wide.2 s,x⟩⟩
theorem NU {n i:Nat}{oi:Oper}{v:Value}{S:Array Bool->World->Prop}{Sy:World->Prop}{L:Array Bool->Act->World->Prop}(hi:ops[i]?=some oi)(PH:∀(j:Nat) (o:Oper) cs b,ops[j]?=some o->o.op≠.select cs b)
  (hQ:∀c a w,Q (.panic c) (a.put oi.dst v) w->Q (.panic c) a w)
  (H0:∀A,HeadInv md ops n A->∀i,i<n->A.getD i true=false->∀t,n<=t->t ∉ Region.ready md ops A)
  (hSi:∀A w,S (A.setIfInBounds i true) w↔S A w) (hSy:∀A w,HeadInv md ops n A->A.getD i true=false->S A w->Sy w)
  (Fy:i<n) (kZ:∀A a w,L A a w->∀j∈Region.ready md ops A,n<=j) :
  ∀(f:Nat) (A:Array Bool) (a:Act) (w:World),HeadInv md ops n A->
   (∀j oj,ops[j]?=some oj->j≠i->A.getD j true=false->(∀e∈oj.after,Region.binds md e=true->e.on≠i)->oi.apart ops oj=true)->
   i∈Region.ready md ops A->YieldsIf P ops Sy oi v a->S A w->
   Hg P ro md ops Q S n L f (A.setIfInBounds i true) (a.put oi.dst v) w->Hg P ro md ops Q S n L (f+1) A a w:=by
 intro f
 induction f with
 | zero=>
  intro A a w inv _ hr hy hS H;have TY:=(mem_ready.1 hr).1;refine⟨λh=>(by rw[h]at hr;cases hr),λj hj=>?_⟩;have xU:j<n:=by
   rcases Afp j n with h|h
   .exact h
   .exact absurd hj (H0 _ inv i Fy TY j h)
  refine⟨xU,?_⟩;by_cases G:j=i
  .subst G;exact kY hi hy (hSy _ _ inv TY hS) ⟨(hSi _ _).2 hS,H⟩
  .have:=kZ _ _ _ H j (ready_mono hj G);omega
 | succ f ih=>
  intro A a w inv ka hr hy hS H;have TY:=(mem_ready.1 hr).1;refine⟨λh=>(by rw[h]at hr;cases hr),λj hj=>?_⟩;have xU:j<n:=by
   rcases Afp j n with h|h
   .exact h
   .exact absurd hj (H0 _ inv i Fy TY j h)
  refine⟨xU,?_⟩;by_cases G:j=i
  .subst G;exact kY hi hy (hSy _ _ inv TY hS) ⟨(hSi _ _).2 hS,H⟩
  .have h1:=(H.2 j (ready_mono hj G)).2;obtain⟨AH4,oj,hoj,G6⟩:=mem_ready.1 hj;have rE:∀e∈oj.after,Region.binds md e=true->e.on≠i:=λe he hb heq=>by
    have h1:=G6 e he hb;rw[heq,getD_both TY]at h1;cases h1
   have h2:=nQ hoj (ka j oj hoj G AH4 rE) (λcs b=>PH i oi cs b hi) (λcs b=>PH j oj cs b hoj) hQ hy h1;have ADc:∀k ok,ops[k]?=some ok->k≠i->(A.setIfInBounds j true).getD k true=false->
     (∀e∈ok.after,Region.binds md e=true->e.on≠i)->oi.apart ops ok=true:=λk ok hk hki TY A9=>by
    refine ka k ok hk hki ?_ A9;by_cases xV:j=k
    .subst xV;exact AH4
    .rw[getD_set_ne true xV]at TY;exact TY
   refine wpOpIn_mono (λa' w' h3=>⟨(hSi _ _).1 (by rw[AhV _ _ G];exact h3.2.1),ih (A.setIfInBounds j true) a' w' (inv.set hj xU) ADc (ready_mono hr (AfT G)) h3.1 ((hSi _ _).1 (by rw[AhV _ _ G];exact h3.2.1)) ?_⟩) h2;rw[AhV _ _ G];exact h3.2.2
theorem JB:∀(g k:Nat) (A:Array Bool) (a:Act) (w:World),
  Region.seqB md ops g k A=true->wpOpsIn (wd ro) 0 P ops Q (List.range' k g) a w->wpAnyIn (wd ro) 0 P md ops Q g A a w
 | 0,_,_,_,_,G,h=>⟨by simpa[Region.seqB] using G,h⟩
 | g+1,k,A,a,w,G,h=>by
  simp only[Region.seqB,AfH,AfQ]at G;refine⟨λh1=>(by rw[G.1]at h1;cases h1),λi hi=>?_⟩;rw[G.1]at hi;have hik:i=k:=by simpa using hi
  subst hik;rw[List.range'_succ,wpOpsIn_cons]at h;exact wpOpIn_mono (λa' w' h'=>JB g (i+1) _ a' w' G.2 h') h
end head
section regions
variable {g:Gl}{ops:Array Oper}
def Qn (g:Gl)(A:World)(F:Nat->Prop)(K:Env->Bx->Hp->Prop):Exit->Act->World->Prop
 | .normal,a,w=>∃e bx Z22,St g.n g.ds A F e bx Z22 a w/\K e bx Z22
 | .panic G,a,w=>(g.Hy=none/\a.defers=[])/\yU g A F (.panicked G) w
 | _,_,_=>False
theorem gn {P:Program}{ro:Option Nat}{Q G:Exit->Act->World->Prop}(hp:∀c a w,Q (.panic c) a w->G (.panic c) a w)(ho:∀a w,Q .outgrown a w->G .outgrown a w)
  {i:Nat} {K:Act->World->Prop} {a:Act} {w:World} (h:wpOpIn (wd ro) 0 P ops Q i K a w):wpOpIn (wd ro) 0 P ops G i K a w:=by
 unfold wpOpIn at *;split
 .rename_i hn;simpa only[hn] using h
 .rename_i o hn;simp only[hn]at h;split
  .rename_i hw;simp only[hw,AhY]at h;unfold Oper.wpIn at *;refine⟨h.1,?_⟩;have h:=h.2;generalize (o.semAt (wd ro).round a.eval).run P w=r at *;cases r with
   | ok x w'=>
    cases x<;>simp only[Oper.uponIn]at h ⊢<;>try exact h
    .refine⟨h.1,CallsIn.mono h.2 λen w2 A=>?_⟩;cases en with
     | returned v=>exact A
     | panicked c=>exact hp _ _ _ A
     | outgrown=>obtain⟨a1,w1,h1⟩:=A;exact⟨a1,w1,ho _ _ h1⟩
    .refine⟨h.1,RoundIn.mono h.2 λen w2 A=>?_⟩;cases en with
     | returned v=>exact A
     | panicked c=>exact hp _ _ _ A
     | outgrown=>obtain⟨a1,w1,h1⟩:=A;exact⟨a1,w1,ho _ _ h1⟩
   | halt x w'=>
    cases x<;>simp only[Oper.uponIn]at h ⊢;exact hp _ _ _ h
  .rename_i hw;simp only[hw]at h;exact h
theorem MW {K:Env->Bx->Hp->Prop}{w0 F}:∀(is:List Nat) (e:Env) (bx:Bx) (Z22:Hp) (a:Act) (w:World),St g.n g.ds w0 F e bx Z22 a w->
  Seq g ops is e bx Z22 K->wpOpsIn (wd g.Hy) 0 g.P ops (Qn g w0 F K) is a w
 | [],e,bx,Z22,a,w,st,h=>⟨e,bx,Z22,st,h⟩
 | i::is,e,bx,Z22,a,w,st,h=>by
  rw[wpOpsIn_cons];refine wpOpIn_mono ?_ (gn (Q:=Qx g w0 F) (λc a w h=>h) (λa w h=>h.elim) (h w0 F a w st))
  rintro a' w' ⟨e',A,Z'2,G,h'⟩
  exact MW is e' A Z'2 a' w' G h'
theorem PI {K:Env->Bx->Hp->Prop}{w0 F}{n:Nat}{tl:List Nat}(PH:Region.noSelect ops=true)
  (H0:∀A,HeadInv .any ops n A->∀i,i<n->A.getD i true=false->∀t,n<=t->t ∉ Region.ready .any ops A)
  (Wo:tl=List.range' n (ops.size-n)) :
  ∀(plan:List (Nat×Bool)) (q:KH) (A:Array Bool) (e:Env) (bx:Bx) (Z22:Hp) (a:Act) (w:World),HeadInv .any ops n A->RN ops n plan A=true->
   St g.n g.ds w0 F e bx Z22 a w->Head g ops q plan e bx Z22 (λe bx Z22=>Seq g ops tl e bx Z22 K)->
   Hg g.P g.Hy .any ops (Qn g w0 F K) (Sq q Z22 bx) n (λA a w=>Region.seqB .any ops (ops.size-n) n A=true/\wpOpsIn (wd g.Hy) 0 g.P ops (Qn g w0 F K) tl a w) plan.length A a w
 | [],_,A,e,bx,Z22,a,w,_,A4,st,h=>⟨A4,MW _ _ _ _ _ _ st h⟩
 | (i,true)::r,q,A,e,bx,Z22,a,w,inv,A4,st,h=>by
  obtain⟨own,o,v,yW,ho,hy,hd,h⟩:=h;simp only[AfH]at yW;simp only[RN,AfH,AfQ]at A4;obtain⟨⟨⟨Fy,hr⟩,hf⟩,A4⟩:=A4;have YI:i∈Region.ready .any ops A:=by simpa using hr
  refine Fz (S':=Sq (M8 q own) Z22 bx) (G:=λ_=>True) (λ_ _ _=>trivial) (λ_ _ _ h=>h.less) _ _ _ _ trivial ?_;refine NU (Sy:=λw=>Sat (PG q own Z22) w/\KM bx w) ho (Region.noSelect_spec PH) ?_ H0 (Sq.set yW.1) (λA w inv TY h=>Sq.own inv TY yW.2 h) Fy ?_ _ A a w inv (Region.free_spec ho hf) YI ?_ (Sq.of st.sat st.box)
   (PI PH H0 Wo r _ _ _ _ _ _ _ (inv.set YI Fy) A4 (st.put o.dst v hd) h)
  .rintro c a w ⟨⟨h0,h1⟩,h2⟩
   exact⟨⟨h0,by cases Ln:o.dst<;>simpa[Act.put,Ln] using h1⟩,h2⟩
  .intro A a w hL;exact seqB_ready hL.1
  .rcases hy with ⟨hw,hy⟩|⟨hw,rfl⟩
   .exact .inl ⟨by rw[st.wanted];exact hw,λw hS=>by rw[st.eval];exact hy o rfl rfl w hS.1 hS.2⟩
   .exact .inr ⟨by rw[st.wanted];exact hw,rfl⟩
 | (i,false)::r,q,A,e,bx,Z22,a,w,inv,A4,st,h=>by
  simp only[RN,AfH,AfQ,beq_iff_eq]at A4;obtain⟨⟨Fy,hr⟩,A4⟩:=A4;refine⟨by rw[hr];simp,λj hj=>?_⟩;rw[hr]at hj;obtain rfl:j=i:=by simpa using hj
  refine⟨Fy,wpOpIn_mono ?_ (gn (Q:=Qx g w0 F) (λc a w h=>h) (λa w h=>h.elim) (h w0 F a w st))⟩
  rintro a' w' ⟨e',HX,Z'2,MX,hk,h'⟩
  have hl:(A.setIfInBounds j true).getD j false=true:=by
   have Aq:j<A.size:=by rw[inv.size];obtain⟨_,o,ho,_⟩:=mem_ready.1 (show j∈Region.ready .any ops A by rw[hr];simp);exact(AfA.1 ho).1
   simp[Aq]
  exact⟨Sq.YH hl hk (Sq.of MX.sat MX.box),Fz (S':=Sq (G5 q j) Z'2 HX) (G:=λl=>l.getD j false=true) (λ_ _ h=>getD_set_true h) (λ_ _ hg h=>Sq.YH hg hk h) _ _ _ _ hl
   (PI PH H0 Wo r _ _ _ _ _ _ _ (inv.set (by rw[hr];simp) Fy) A4 MX h')⟩
end regions
theorem JA.of_wp {g:Gl}{c:Code}{k:List Item}{a:Act}{w:World}{w0 F}{K:Env->Bx->Hp->Prop}
  (h:c.wpIn (wd g.Hy) 0 g.P (Qn g w0 F K) a w) (hk:∀e bx Z22,K e bx Z22->At g k e bx Z22):JA g.P g.f g.Hy (.code c::k) a w (yU g w0 F):=by
 intro b cs hf nR YE G;obtain⟨e,a',w',A,nS⟩:=h b k cs YE trivial yT;cases e with
 | normal=>
  obtain⟨e,bx,Z22,st,hK⟩:=A;exact .of_steps nS.steps (hk _ _ _ hK w0 F a' w' st b cs hf nR YE G)
 | panic ch=>
  obtain⟨⟨Wm,hd⟩,A⟩:=A;obtain⟨todo,hs⟩:=nS;obtain⟨fn,G⟩:=G;unfold P7;rw[Wm];exact⟨.panicked ch,w',_,A,hs.steps,hf,rfl,hd,fn,by simpa[Frame.atR,hf] using G⟩
 | _=>exact A.elim
section rF
variable {g:Gl}{k:List Item}{e:Env}{bx:Bx}{Z22:Hp}
theorem At.region {c:Code}{id:Nat}{ops:Array Oper}{l:List Nat}(A:c=.region id ops false)(G:List.range ops.size=l)
  (h:Seq g ops l e bx Z22 (λe bx Z22=>At g k e bx Z22)):At g (.code c::k) e bx Z22:=λ_ _ a w st=>
 A▸JA.of_wp (K:=λe bx Z22=>At g k e bx Z22) (wpIn_region (G▸MW l e bx Z22 a w st h)) (λ_ _ _ h=>h)
theorem At.draw {c:Code}{id:Nat}{ops:Array Oper}{n:Nat}{q:KH}{plan:List (Nat×Bool)}{tl:List Nat}(hm:g.P.follows .mixedOrders=true)(hc:c=.region id ops true)
  (hp:rD ops n plan tl=true)
  (h:Head g ops q plan e bx Z22 (λe bx Z22=>Seq g ops tl e bx Z22 (λe bx Z22=>At g k e bx Z22))):At g (.code c::k) e bx Z22:=λw0 F a w st=>by
 subst hc;simp only[rD,AfH,Ag6,AfQ]at hp;obtain⟨⟨⟨⟨PH,G⟩,hn⟩,Wo⟩,A4⟩:=hp;have rG:n<=ops.size:=by rcases hn with h|h<;>omega
 have H0:∀A,HeadInv .any ops n A->∀i,i<n->A.getD i true=false->∀t,n<=t->t ∉ Region.ready .any ops A:=by
  intro A inv i hi TY t ht;rcases hn with h|⟨⟨h1,h2⟩,h3⟩
  .intro hr;obtain⟨_,o,ho,_⟩:=mem_ready.1 hr;have:=(AfA.1 ho).1;omega
  .exact tail_waits h2 h3 h1 inv _ i rfl hi TY t ht
 have ADd:HeadInv .any ops n (Array.replicate ops.size false):=
  ⟨by simp,λj oj _ hl=>(by rw[getD_replicate_false]at hl;cases hl),λt _ ht=>getD_in (by simpa using ht) (getD_replicate_false _ _)⟩
 refine JA.of_wp (K:=λe bx Z22=>At g k e bx Z22) (wpIn_region_any hm ?_) (λ_ _ _ h=>h);have H:=PI (K:=λe bx Z22=>At g k e bx Z22) (tl:=tl) PH H0 Wo plan q (Array.replicate ops.size false) e bx Z22 a { w with drawn:=w.drawn+1 } ADd A4 st.drew h;have:=Hz (g:=ops.size-n) (λA a w hL=>JB _ _ A a w hL.1 (Wo▸hL.2)) _ _ _ _ H;rw[G,show n+(ops.size-n)=ops.size by omega]at this;exact this
end rF
end Tw
end
section
namespace Tw
open Go
variable [I9]
def Hp.ld (Z22:Hp)(a:Addr):Option Value:=
 match Z22 a.block with
 | some (.cells c _ _)=>if a.spot.isSome then none else c[a.off]?
 | _=>none
theorem Sat.ld {Z22:Hp}{w:World}(h:Sat Z22 w){a:Addr}{v:Value}(A:Z22.ld a=some v):w.cell? a=some v:=by
 unfold Hp.ld at A;unfold World.cell?;cases hb:Z22 a.block with
 | none=>simp[hb]at A
 | some o=>rw[h _ _ hb];rw[hb]at A;exact A
def Bm (Z22:Hp)(b:Nat):Nat->List Value->Prop
 | _,[]=>True
 | o,v::l=>Z22.ld ⟨b,o,none⟩=some v/\Bm Z22 b (o+1) l
theorem Bm.get {Z22:Hp}{b:Nat}:∀{l:List Value} {o j:Nat} {v:Value},Bm Z22 b o l->l[j]?=some v->Z22.ld ⟨b,o+j,none⟩=some v
 | x::l,o,0,v,h,A=>by simp at A;subst A;exact h.1
 | x::l,o,j+1,v,h,A=>by
  have:=Bm.get (l:=l) (o:=o+1) (j:=j) h.2 (by simpa using A);rwa[show o+(j+1)=o+1+j by omega]
theorem Cm (b o n:Nat):(⟨b,o,none⟩:Addr).add n=⟨b,o+n,none⟩:=by cases n<;>simp[Addr.add]
section gp
variable {P:Program}{e:Env}{bx:Bx}{Z22:Hp}{ty T T':TypeId}{x y z:Operand}{k:IntKind}{a b:Int}
theorem Yd.of {op:Op}{v:Value}(m:Sem Value)(h:∀o:Oper,o.op=op->o.type=ty->execOp (AE e) o=(do pure (.value (<-m))))
  (A:∀w,Sat Z22 w->KM bx w->m.run P w=.ok v w):Yd P e bx Z22 op ty v:=λoo G ht w hs hb=>by
 rw[h oo G ht];simp[A w hs hb]
theorem Yd.pu {op:Op}{v:Value}(h:∀o:Oper,o.op=op->execOp (AE e) o=pure (.value v)):Yd P e bx Z22 op ty v:=λG A _ w _ _=>by
 rw[h G A];simp
theorem Y.move {v:Value}(G:AE e x=v):Yd P e bx Z22 (.move x) ty v:=.pu λo A=>by simp[execOp,A,G]
theorem Y.assign {v:Value}(G:AE e x=v):Yd P e bx Z22 (.assign x) ty v:=.pu λo A=>by simp[execOp,A,G]
theorem Y.ABb {v:Value}(A:AE e z=.bool true)(hx:AE e x=v):Yd P e bx Z22 (.pick z x y) ty v:=
 .pu λo G=>by simp[execOp,G,A,hx,asBool]
theorem Y.ABc {v:Value}(A:AE e z=.bool false)(hx:AE e y=v):Yd P e bx Z22 (.pick z x y) ty v:=
 .pu λo G=>by simp[execOp,G,A,hx,asBool]
theorem Y.lss (G:AE e x=.int k a)(hy:AE e y=.int k b):Yd P e bx Z22 (.binOp .lss T x y T') ty (.bool (decide (a<b))):=
 λoo A _ w _ _=>by simp[execOp,A,G,hy,eqGuard_lss,binOp_lss]
theorem Y.leq (G:AE e x=.int k a)(hy:AE e y=.int k b):Yd P e bx Z22 (.binOp .leq T x y T') ty (.bool (decide (a<=b))):=
 λoo A _ w _ _=>by simp[execOp,A,G,hy,eqGuard_leq,binOp_leq]
theorem Y.gtr (G:AE e x=.int k a)(hy:AE e y=.int k b):Yd P e bx Z22 (.binOp .gtr T x y T') ty (.bool (decide (b<a))):=
 λoo A _ w _ _=>by simp[execOp,A,G,hy,eqGuard_gtr,binOp_gtr]
theorem Y.geq (G:AE e x=.int k a)(hy:AE e y=.int k b):Yd P e bx Z22 (.binOp .geq T x y T') ty (.bool (decide (b<=a))):=
 λoo A _ w _ _=>by simp[execOp,A,G,hy,eqGuard_geq,binOp_geq]
theorem Y.eql (G:AE e x=.int k a)(hy:AE e y=.int k b):Yd P e bx Z22 (.binOp .eql T x y T') ty (.bool (decide (a=b))):=
 λoo A _ w _ _=>by simp[execOp,A,G,hy,eqGuard_at_int,binOp_eql];rfl
theorem Y.neq (G:AE e x=.int k a)(hy:AE e y=.int k b):Yd P e bx Z22 (.binOp .neq T x y T') ty (.bool (decide (a≠b))):=
 λoo A _ w _ _=>by simp[execOp,A,G,hy,eqGuard_at_int,binOp_neq];rfl
theorem Y.add (G:AE e x=.int k a)(hy:AE e y=.int k b):Yd P e bx Z22 (.binOp .add T x y T') ty (.int k (k.wrap (a+b))):=
 λoo A _ w _ _=>by simp[execOp,A,G,hy,eqGuard_add,binOp_add,Op.intArith]
theorem Y.sub (G:AE e x=.int k a)(hy:AE e y=.int k b):Yd P e bx Z22 (.binOp .sub T x y T') ty (.int k (k.wrap (a-b))):=
 λoo A _ w _ _=>by simp[execOp,A,G,hy,eqGuard_sub,binOp_sub,Op.intArith]
theorem Y.mul (G:AE e x=.int k a)(hy:AE e y=.int k b):Yd P e bx Z22 (.binOp .mul T x y T') ty (.int k (k.wrap (a*b))):=
 λoo A _ w _ _=>by simp[execOp,A,G,hy,eqGuard_mul,binOp_mul,Op.intArith]
def AK (n:Int):Prop:=-9223372036854775808<=n/\n<=9223372036854775807
theorem AK.wrap {n:Int}(h:AK n):IntKind.i64.wrap n=n:=by
 obtain⟨A,G⟩:=h;simp[IntKind.wrap,IntKind.bits,IntKind.signed];split<;>omega
theorem Y.APN (h:AK (a+b))(A:AE e x=.int .i64 a)(G:AE e y=.int .i64 b):Yd P e bx Z22 (.binOp .add T x y T') ty (.int .i64 (a+b)):=by
 have:=Y.add (P:=P) (bx:=bx) (Z22:=Z22) (ty:=ty) (T:=T) (T':=T') A G;rwa[h.wrap]at this
theorem Y.rH (h:AK (a-b))(A:AE e x=.int .i64 a)(G:AE e y=.int .i64 b):Yd P e bx Z22 (.binOp .sub T x y T') ty (.int .i64 (a-b)):=by
 have:=Y.sub (P:=P) (bx:=bx) (Z22:=Z22) (ty:=ty) (T:=T) (T':=T') A G;rwa[h.wrap]at this
theorem Y.bits {op:BinOp}(A:op=.and\/op=.or\/op=.xor\/op=.andNot)(hx:AE e x=.int k a)(hy:AE e y=.int k b):
  Yd P e bx Z22 (.binOp op T x y T') ty (.int k (Go.bits op k a b)):=
 λoo G _ w _ _=>by
  rcases A with rfl|rfl|rfl|rfl <;>
   simp[execOp,G,hx,hy,eqGuard_at_int,binOp_and,binOp_or,binOp_xor,binOp_andNot,intBits_and,intBits_or,intBits_xor,intBits_andNot]
theorem Y.shl {k':IntKind}(A:0<=b)(G:b<=k.bits)(hx:AE e x=.int k a)(hy:AE e y=.int k' b):
  Yd P e bx Z22 (.binOp .shl T x y T') ty (.int k (k.wrap (a*2^b.toNat))):=
 λoo ho _ w _ _=>by simp[execOp,ho,hx,hy,eqGuard_shl,binOp_shl,shift_shl k k' a b A G]
theorem Y.shr {k':IntKind}(A:0<=b)(G:b<=k.bits)(hx:AE e x=.int k a)(hy:AE e y=.int k' b):
  Yd P e bx Z22 (.binOp .shr T x y T') ty (.int k (a/2^b.toNat)):=
 λoo ho _ w _ _=>by simp[execOp,ho,hx,hy,eqGuard_shr,binOp_shr,shift_shr k k' a b A G]
theorem Y.quo (h:b≠0)(G:AE e x=.int k a)(hy:AE e y=.int k b):Yd P e bx Z22 (.binOp .quo T x y T') ty (.int k (k.wrap (a.tdiv b))):=
 λoo A _ w _ _=>by simp[execOp,A,G,hy,eqGuard_quo,binOp_quo,Op.intDiv,h]
theorem Y.rem (h:b≠0)(G:AE e x=.int k a)(hy:AE e y=.int k b):Yd P e bx Z22 (.binOp .rem T x y T') ty (.int k (a.tmod b)):=
 λoo A _ w _ _=>by simp[execOp,A,G,hy,eqGuard_rem,binOp_rem,Op.intDiv,h]
theorem Y.not {p:Bool}(G:AE e x=.bool p):Yd P e bx Z22 (.unOp .not T x) ty (.bool (!p)):=
 λoo A _ w _ _=>by simp[execOp,A,G,Op.unary]
theorem Y.neg (G:AE e x=.int k a):Yd P e bx Z22 (.unOp .neg T x) ty (.int k (k.wrap (0-a))):=
 λoo A _ w _ _=>by simp[execOp,A,G,Op.unary,Op.intArith]
theorem Y.conv {k':IntKind}(hs:(P.underlying T).isSome=true)(hd:P.underlying T'=some (.int k'))(hx:AE e x=.int k a):
  Yd P e bx Z22 (.convert T T' x) ty (.int k' (k'.wrap a)):=
 λoo G _ w _ _=>by
  have A:P.intKind T'=k':=by simp[Program.intKind,hd]
  have:=run_convert_int w T T' k a hs (by rw[A];exact hd);rw[A]at this;simp[execOp,G,hx,this]
theorem Y.ADe {p:Option Addr}{n c:Nat}{E:TypeId}(G:P.underlying T=some (.slice E))(hx:AE e x=.slice p n c){ts:Array TypeId}(A:ts=#[T]):
  Yd P e bx Z22 (.call { callee:=.builtin .len,args:=#[x],argTypes:=ts }) ty (.int .i64 n):=λoo ho ht w _ _=>by
 subst A;simp[execOp,ho,resolve,invoke,builtin,hx,Builtin.len_,run_underlying G,goInt]
theorem Y.APO {p:Option Addr}{n c:Nat}{E:TypeId}(G:P.underlying T=some (.slice E))(hx:AE e x=.slice p n c){ts:Array TypeId}(A:ts=#[T]):
  Yd P e bx Z22 (.call { callee:=.builtin .cap,args:=#[x],argTypes:=ts }) ty (.int .i64 c):=λoo ho ht w _ _=>by
 subst A;simp[execOp,ho,resolve,invoke,builtin,hx,Builtin.cap_,run_underlying G,goInt]
theorem Y.ADf {s:ByteArray}(G:P.underlying T=some .string)(hx:AE e x=.string s){ts:Array TypeId}(A:ts=#[T]):
  Yd P e bx Z22 (.call { callee:=.builtin .len,args:=#[x],argTypes:=ts }) ty (.int .i64 s.size):=λoo ho ht w _ _=>by
 subst A;simp[execOp,ho,resolve,invoke,builtin,hx,Builtin.len_,run_underlying G,goInt]
theorem Y.min2 {k':IntKind}{ts:Array TypeId}(G:AE e x=.int k a)(hy:AE e y=.int k' b):
  Yd P e bx Z22 (.call { callee:=.builtin .min,args:=#[x,y],argTypes:=ts }) ty (.int k (if b<a then b else a)):=λoo A ht w _ _=>by
 simp[execOp,A,resolve,invoke,builtin,G,hy,run_min_int2]
theorem Y.max2 {k':IntKind}{ts:Array TypeId}(G:AE e x=.int k a)(hy:AE e y=.int k' b):
  Yd P e bx Z22 (.call { callee:=.builtin .max,args:=#[x,y],argTypes:=ts }) ty (.int k (if b > a then b else a)):=λoo A ht w _ _=>by
 simp[execOp,A,resolve,invoke,builtin,G,hy,run_max_int2]
theorem Y.fieldAddr {b o f off:Nat}{fs:Array Field}{fd:Field}{a':Addr}(A:P.underlying T=some (.struct fs))(hf:fs[f]?=some fd)(hs:∀w,((Go.sizeOf fd.type).run P w)=.ok (off+1) w)
  (hx:AE e x=.pointer (some ⟨b,o,none⟩)) (G:a'=⟨b,o+fd.offset,none⟩):Yd P e bx Z22 (.fieldAddr T x f) ty (.pointer (some a')):=
 λoo ho _ w _ _=>by
  subst G;simp[execOp,ho,hx,Instr.fieldAt,run_underlying A,hf,Instr.sureAddr,fieldPlace,hs];exact Cm b o fd.offset
theorem Y.extract {vs:Array Value}{i:Nat}{v:Value}(G:AE e x=.tuple vs)(hv:vs[i]?=some v):Yd P e bx Z22 (.extract x i) ty v:=
 λoo A _ w _ _=>by simp[execOp,A,G,Instr.extract,hv]
theorem Y.ADg {cs:Array Value}{f:Nat}{fs:Array Field}{fd:Field}{v:Value}(A:P.underlying T=some (.struct fs))(hf:fs[f]?=some fd)(G:∀w,(isAgg fd.type).run P w=.ok false w)
  (hx:AE e x=.agg cs) (hv:cs[fd.offset]?=some v):Yd P e bx Z22 (.field T x f) ty v:=
 λoo ho _ w _ _=>by simp[execOp,ho,hx,Instr.field,run_underlying A,hf,asAgg,part,G,hv]
theorem Y.ADh {cs cs':Array Value}{f n:Nat}{fs:Array Field}{fd:Field}(A:P.underlying T=some (.struct fs))(hf:fs[f]?=some fd)(G:∀w,(isAgg fd.type).run P w=.ok true w)
  (hs:∀w,((Go.sizeOf fd.type).run P w)=.ok n w) (hx:AE e x=.agg cs) (hv:cs.extract fd.offset (fd.offset+n)=cs'):Yd P e bx Z22 (.field T x f) ty (.agg cs'):=
 λoo ho _ w _ _=>by simp[execOp,ho,hx,Instr.field,run_underlying A,hf,asAgg,part,G,hs,hv]
theorem Y.idx {b o n c sz:Nat}{E:TypeId}{i:Int}{a':Addr}(A:P.underlying T=some (.slice E))(hs:∀w,((Go.sizeOf E).run P w)=.ok sz w)
  (hx:AE e x=.slice (some ⟨b,o,none⟩) n c) (hy:AE e y=.int k i) (hi:0<=i/\i<n) (G:a'=⟨b,o+i.toNat*sz,none⟩):Yd P e bx Z22 (.indexAddr T x y) ty (.pointer (some a')):=
 λoo ho _ w _ _=>by
  subst G;simp[execOp,ho,hx,hy,Instr.indexAt,run_underlying A,asIntOf,hi,hs,Cm]
theorem Y.APP {b o n sz:Nat}{E:TypeId}{i:Int}{a':Addr}(A:P.underlying T=some (.array n E))(hs:∀w,((Go.sizeOf E).run P w)=.ok sz w)
  (hx:AE e x=.pointer (some ⟨b,o,none⟩)) (hy:AE e y=.int k i) (hi:0<=i/\i<n) (G:a'=⟨b,o+i.toNat*sz,none⟩):Yd P e bx Z22 (.indexAddr T x y) ty (.pointer (some a')):=
 λoo ho _ w _ _=>by
  subst G;simp[execOp,ho,hx,hy,Instr.indexAt,run_underlying A,asIntOf,hi,hs,Cm,Instr.sureAddr]
theorem Y.ADi {s:ByteArray}{cs:Array Value}{n:Nat}{E:TypeId}{i:Int}(hT:P.underlying T=some (.array n E))(G:∀w,(isAgg E).run P w=.ok false w)(hs:∀w,((Go.sizeOf E).run P w)=.ok 1 w)(hx:AE e x=.agg cs)(hy:AE e y=.int k i)(A:0<=i/\i<n)(hv:cs[i.toNat]?=some (.string s)):
  Yd P e bx Z22 (.index T x y) ty (.string s):=
 λoo ho _ w _ _=>by simp[execOp,ho,hx,hy,Instr.index,run_underlying hT,asIntOf,A,hs,part,G,hv]
theorem Y.ADj {s:ByteArray}{i:Int}{v:UInt8}(hT:P.underlying T=some .string)(hx:AE e x=.string s)(hy:AE e y=.int k i)(G:0<=i)(hv:s.data[i.toNat]?=some v):
  Yd P e bx Z22 (.index T x y) ty (.int .u8 v.toNat):=
 λoo ho _ w _ _=>by
  have A:s[i.toNat]?=some v:=by rw[<-hv];rfl
  simp[execOp,ho,hx,hy,Instr.index,run_underlying hT,asIntOf,G,A]
theorem Y.ld {a:Addr}{v:Value}(A:∀w,(isAgg T).run P w=.ok false w)(hx:AE e x=.pointer (some a))(h:Z22.ld a=some v):Yd P e bx Z22 (.load T x) ty v:=
 λoo G _ w hs _=>by
  simp[execOp,G,hx,Instr.loadAt,Instr.sureAddr,loadVar,A,load,Sem.run,hs.ld h]
theorem KM.cell {w:World}{b:Nat}{c:Array Value}{t:TypeId}{fr:Nat×Nat}(A:KM bx w)(hb:(b,Obj.cells c t fr)∈bx)(o:Nat):w.cell? ⟨b,o,none⟩=c[o]?:=by
 simp[World.cell?,A _ hb]
theorem Y.ldb {b o:Nat}{c:Array Value}{t:TypeId}{fr:Nat×Nat}{v:Value}(A:∀w,(isAgg T).run P w=.ok false w)(hx:AE e x=.pointer (some ⟨b,o,none⟩))(hb:(b,Obj.cells c t fr)∈bx)(h:c[o]?=some v):
  Yd P e bx Z22 (.load T x) ty v:=
 λoo G _ w _ hs=>by
  simp[execOp,G,hx,Instr.loadAt,Instr.sureAddr,loadVar,A,load,Sem.run,hs.cell hb,h]
theorem Y.lda {b o n:Nat}{vs:List Value}(G:∀w,(isAgg T).run P w=.ok true w)(hs:∀w,((Go.sizeOf T).run P w)=.ok n w)(hn:vs.length=n)(hx:AE e x=.pointer (some ⟨b,o,none⟩))(h:Bm Z22 b o vs):
  Yd P e bx Z22 (.load T x) ty (.agg vs.toArray):=
 λoo ho _ w A _=>by
  subst hn;have:=run_loadCells_list (P:=P) (w:=w) ⟨b,o,none⟩ vs (λj v hj=>by rw[show(⟨b,o,none⟩:Addr).add j=⟨b,o+j,none⟩ from Cm _ _ _];exact A.ld (h.get hj));simp[execOp,ho,hx,Instr.loadAt,Instr.sureAddr,loadVar,G,hs,this]
theorem Y.APR {b o n:Nat}{c:Array Value}{t:TypeId}{fr:Nat×Nat}{vs:List Value}(hA:∀w,(isAgg T).run P w=.ok true w)(hs:∀w,((Go.sizeOf T).run P w)=.ok n w)(hn:vs.length=n)(hx:AE e x=.pointer (some ⟨b,o,none⟩))
  (hb:(b,Obj.cells c t fr)∈bx) (h:(c.toList.drop o).take n=vs):Yd P e bx Z22 (.load T x) ty (.agg vs.toArray):=
 λoo ho _ w _ UB=>by
  subst hn;have:=run_loadCells_list (P:=P) (w:=w) ⟨b,o,none⟩ vs (λj v A=>by
   rw[show(⟨b,o,none⟩:Addr).add j=⟨b,o+j,none⟩ from Cm _ _ _,UB.cell hb];rw[<-h]at A;have G:j<vs.length:=by
    have:=(Ae0.1 A).1;simp at this;omega
   simpa[AfP,G] using A)
  simp[execOp,ho,hx,Instr.loadAt,Instr.sureAddr,loadVar,hA,hs,this]
theorem Y.nilCheck {a:Addr}(G:AE e x=.pointer (some a)):Yd P e bx Z22 (.nilCheck x) ty (.pointer (some a)):=
 .pu λo A=>by simp[execOp,A,G]
theorem Y.nT {f:FuncId}{xs ys:Array Value}(G:AE e x=.func (.func f) xs ys):Yd P e bx Z22 (.nilCheck x) ty (.func (.func f) xs ys):=
 .pu λo A=>by simp[execOp,A,G]
theorem Y.makeFunc {fn:Fn}{xs ys:Array Operand}{vs us:Array Value}(A:xs.toList.map (AE e)=vs.toList)(G:ys.toList.map (AE e)=us.toList):Yd P e bx Z22 (.makeFunc fn xs ys) ty (.func fn vs us):=
 λoo ho _ w _ _=>by
 have A:xs.map (AE e)=vs:=by rw[<-AfM];simpa using A
 have G:ys.map (AE e)=us:=by rw[<-AfM];simpa using G
 simp[execOp,ho,A,G,Instr.makeFunc]
end gp
end Tw
end
section
namespace Tw
open Go
variable [I9]
def sig (ops:Array Oper)(i:Nat):Option (Option Nat×Op×TypeId×Option (Nat×Bool)):=(ops[i]?).map λo=>(o.dst,o.op,o.type,o.guard)
theorem Bt {ops:Array Oper}{i:Nat}{d:Option Nat}{op:Op}{ty:TypeId}{gd:Option (Nat×Bool)}(h:sig ops i=some (d,op,ty,gd)):
  ∃o,ops[i]?=some o/\o.dst=d/\o.op=op/\o.type=ty/\o.guard=gd:=by
 unfold sig at h;cases A:ops[i]? with
 | none=>simp[A]at h
 | some o=>
  simp only[A,Afv,AfL,Ahh]at h;exact⟨o,rfl,h.1,h.2.1,h.2.2.1,h.2.2.2⟩
def HJ (d:Option Nat)(n:Nat):Bool:=match d with | some d=>Nat.blt d n | none=>true
theorem HJ.lt {d:Option Nat}{n:Nat}(h:HJ d n=true):∀t,d=some t->t<n:=λt A=>by
 subst A;exact Afh h
section rI
variable {g:Gl}{ops:Array Oper}{q:KH}{L:List (Nat×List Nat)}{i:Nat}{is:List Nat}{r:List (Nat×Bool)}{e:Env}{bx:Bx}{Z22:Hp}{K:Env->Bx->Hp->Prop}{d:Option Nat}{op:Op}{ty:TypeId}{gd:Option (Nat×Bool)}{v:Value}
theorem AV.y (hs:sig ops i=some (d,op,ty,gd))(hw:AX ops e gd=true)(hd:HJ d g.n=true)(hy:Yd g.P e bx Z22 op ty v)(h:K (put e d v) bx Z22):AV g ops i e bx Z22 K:=by
 intro w0 F a w st;obtain⟨o,ho,rfl,A,G,rfl⟩:=Bt hs;refine Cv ho (by rw[st.wanted];exact hw) ?_;rw[st.eval,Dx (hy o A G w st.sat st.box) (λd=>by simp)];exact⟨_,_,_,st.put _ _ (HJ.lt hd),h⟩
theorem AV.no (G:sig ops i=some (d,op,ty,gd))(hw:AX ops e gd=false)(hd:HJ d g.n=true)(h:K (put e d undef) bx Z22):AV g ops i e bx Z22 K:=by
 intro w0 F a w st;obtain⟨o,A,rfl,By,DG,rfl⟩:=Bt G;refine gk A (by rw[st.wanted];exact hw) ?_;exact⟨_,_,_,st.put _ _ (HJ.lt hd),h⟩
theorem Seq.y (A:sig ops i=some (d,op,ty,none))(hd:HJ d g.n=true)(G:Yd g.P e bx Z22 op ty v)(h:Seq g ops is (put e d v) bx Z22 K):Seq g ops (i::is) e bx Z22 K:=
 AV.y A rfl hd G h
theorem Seq.yg (A:sig ops i=some (d,op,ty,gd))(G:AX ops e gd=true)(hd:HJ d g.n=true)(hy:Yd g.P e bx Z22 op ty v)(h:Seq g ops is (put e d v) bx Z22 K):Seq g ops (i::is) e bx Z22 K:=
 AV.y A G hd hy h
theorem Seq.no (A:sig ops i=some (d,op,ty,gd))(G:AX ops e gd=false)(hd:HJ d g.n=true)(h:Seq g ops is (put e d undef) bx Z22 K):Seq g ops (i::is) e bx Z22 K:=
 AV.no A G hd h
theorem Seq.o (h:AV g ops i e bx Z22 λG A Z'2=>Seq g ops is G A Z'2 K):Seq g ops (i::is) e bx Z22 K:=h
theorem Seq.done (h:K e bx Z22):Seq g ops [] e bx Z22 K:=h
theorem Fa {q:KH}:M8 q none=q:=by cases q<;>rfl
theorem ok_none {q:KH}{i:Nat}{ops:Array Oper}(h:q.ok i=true):((M8 q none).ok i&&SD ops i none)=true:=by rw[Fa,h];rfl
theorem Head.y (hs:sig ops i=some (d,op,ty,none))(hd:HJ d g.n=true)(hy:Yd g.P e bx (PG q none Z22) op ty v)(h:Head g ops q r (put e d v) bx Z22 K)(A:q.ok i=true:=by rfl):Head g ops q ((i,true)::r) e bx Z22 K:=by
 obtain⟨o,ho,rfl,rfl,rfl,G⟩:=Bt hs;exact⟨none,o,v,ok_none A,ho,.inl ⟨by rw[G];rfl,hy⟩,(HJ.lt hd),by rw[Fa];exact h⟩
theorem Head.yg (hs:sig ops i=some (d,op,ty,gd))(hw:AX ops e gd=true)(hd:HJ d g.n=true)(hy:Yd g.P e bx (PG q none Z22) op ty v)(h:Head g ops q r (put e d v) bx Z22 K)(A:q.ok i=true:=by rfl):Head g ops q ((i,true)::r) e bx Z22 K:=by
 obtain⟨o,G,rfl,rfl,rfl,rfl⟩:=Bt hs;exact⟨none,o,v,ok_none A,G,.inl ⟨hw,hy⟩,(HJ.lt hd),by rw[Fa];exact h⟩
theorem Head.yl (b:Nat)(A:List (List Nat)){D:List Nat}(hD:A.filterMap List.head?=D)(G:((M8 (some L) (some (b,A))).ok i&&SD ops i (some (b,A)))=true)(hs:sig ops i=some (d,op,ty,none))(hd:HJ d g.n=true)(hy:Yd g.P e bx (PG (some L) (some (b,A)) Z22) op ty v)
  (h:Head g ops (some ((b,D)::L)) r (put e d v) bx Z22 K):Head g ops (some L) ((i,true)::r) e bx Z22 K:=by
 subst hD;obtain⟨o,ho,rfl,rfl,rfl,hg⟩:=Bt hs;exact⟨some (b,A),o,v,G,ho,.inl ⟨by rw[hg];rfl,hy⟩,(HJ.lt hd),h⟩
theorem Head.ygl (b:Nat)(A:List (List Nat)){D:List Nat}(hD:A.filterMap List.head?=D)(G:((M8 (some L) (some (b,A))).ok i&&SD ops i (some (b,A)))=true)(hs:sig ops i=some (d,op,ty,gd))(hw:AX ops e gd=true)(hd:HJ d g.n=true)(hy:Yd g.P e bx (PG (some L) (some (b,A)) Z22) op ty v)
  (h:Head g ops (some ((b,D)::L)) r (put e d v) bx Z22 K):Head g ops (some L) ((i,true)::r) e bx Z22 K:=by
 subst hD;obtain⟨o,ho,rfl,rfl,rfl,rfl⟩:=Bt hs;exact⟨some (b,A),o,v,G,ho,.inl ⟨hw,hy⟩,(HJ.lt hd),h⟩
theorem Head.no (hs:sig ops i=some (d,op,ty,gd))(hw:AX ops e gd=false)(hd:HJ d g.n=true)(h:Head g ops q r (put e d undef) bx Z22 K)(A:q.ok i=true:=by rfl):Head g ops q ((i,true)::r) e bx Z22 K:=by
 obtain⟨o,G,rfl,rfl,rfl,rfl⟩:=Bt hs;exact⟨none,o,undef,ok_none A,G,.inr ⟨hw,rfl⟩,(HJ.lt hd),by rw[Fa];exact h⟩
theorem Head.o {q':KH}(hq:G5 q i=q')(h:AV g ops i e bx Z22 λG A Z'2=>Ks q' bx Z22 A Z'2/\Head g ops q' r G A Z'2 K):Head g ops q ((i,false)::r) e bx Z22 K:=by
 subst hq;exact h
theorem Head.done (h:K e bx Z22):Head g ops q [] e bx Z22 K:=h
theorem St.grown {n ds w0 F e bx Z22 a w}(st:St n ds w0 F e bx Z22 a w)(o:Obj):St n ds w0 F e ((w.heap.size,o)::bx) Z22 a { w with heap:=w.heap.push o }:=by
 have G:∀b o',w.heap[b]?=some o'->b<w.heap.size:=λb o' h=>(AfA.1 h).1;have A:∀b o',w.heap[b]?=some o'->({ w with heap:=w.heap.push o }:World).heap[b]?=some o':=λb o' h=>by
  have:=G _ _ h;show(w.heap.push o)[b]?=some o'
  rw[Af1,Aeu (Nat.ne_of_lt this)];exact h
 refine { st with sat:=λb o' hb=>A _ _ (st.sat b o' hb),box:=λp hp=>?_,free:=λp hp=>?_,nodup:=?_,Cc:=λb hb=>?_,os:=st.os,out:=st.out,grow:=by have:=st.grow;simp;omega }
 .rcases Ae5.1 hp with rfl|hp
  .simp
  .exact A _ _ (st.box p hp)
 .rcases Ae5.1 hp with rfl|hp
  .refine⟨?_,λhF=>?_⟩
   .cases hs:Z22 w.heap.size with
    | none=>rfl
    | some o'=>exact absurd (G _ _ (st.sat _ _ hs)) (Ah8 _)
   .have h1:=(st.Cc _ hF).1;have h2:=st.grow;simp at h1;omega
  .exact st.free p hp
 .refine Afe.2 ⟨λhm=>?_,st.nodup⟩;obtain⟨p,hp,he⟩:=AfC.1 hm;have:=G _ _ (st.box p hp);simp at he;omega
 .obtain⟨h1,h2,h3⟩:=st.Cc b hb;refine⟨h1,h2,?_⟩;have:b≠w.heap.size:=by have:=st.grow;omega
  show(w.heap.push o)[b]?=_
  rw[Af1,Aeu this];exact h3
theorem AV.box {T:TypeId}{x:Operand}{cs:Array Value}(hs:sig ops i=some (d,.box T x,ty,gd))(hw:AX ops e gd=true)(hd:HJ d g.n=true)(hx:(AE e x).cells=cs)
  (h:∀b,K (put e d (.pointer (some ⟨b,0,none⟩))) ((b,.cells cs T (0,0))::bx) Z22):AV g ops i e bx Z22 K:=by
 intro w0 F a w st;obtain⟨o,ho,rfl,A,DG,G⟩:=Bt hs;refine Cv ho (by rw[st.wanted,G];exact hw) ?_;rw[st.eval];have:(execOp (AE e) o).run g.P w=.ok (.value (.pointer (some ⟨w.heap.size,0,none⟩))) { w with heap:=w.heap.push (.cells cs T (0,0)) }:=by
  simp[execOp,A,Instr.box,newVar,newRow,newObj,Sem.run,hx]
 rw[Dx this (λd=>by simp)];exact⟨_,_,_,(st.grown _).put _ _ (HJ.lt hd),h _⟩
theorem AV.alloc {T:TypeId}{z:Value}{cs:Array Value}(hs:sig ops i=some (d,.alloc T,ty,gd))(hw:AX ops e gd=true)(hd:HJ d g.n=true)(hz:∀w,(zeroValue T).run g.P w=.ok z w)(G:z.cells=cs)
  (h:∀b,K (put e d (.pointer (some ⟨b,0,none⟩))) ((b,.cells cs T (0,0))::bx) Z22):AV g ops i e bx Z22 K:=by
 intro w0 F a w st;obtain⟨o,ho,rfl,A,DG,hg⟩:=Bt hs;refine Cv ho (by rw[st.wanted,hg];exact hw) ?_;rw[st.eval];have:(execOp (AE e) o).run g.P w=.ok (.value (.pointer (some ⟨w.heap.size,0,none⟩))) { w with heap:=w.heap.push (.cells cs T (0,0)) }:=by
  simp[execOp,A,Instr.alloc,newVar,newRow,newObj,Sem.run,hz,G]
 rw[Dx this (λd=>by simp)];exact⟨_,_,_,(st.grown _).put _ _ (HJ.lt hd),h _⟩
theorem Hp.AA (Z22:Hp)(b:Nat)(o:Obj):Z22.set b o b=some o:=by simp[Hp.set]
theorem Hp.AB {Z22:Hp}{b c:Nat}{o:Obj}(h:c≠b):Z22.set b o c=Z22 c:=by simp[Hp.set,h]
theorem St.open {n ds w0 F e bx Z22 a w b o}(st:St n ds w0 F e ((b,o)::bx) Z22 a w):St n ds w0 F e bx (Z22.set b o) a w:=by
 have hb:=st.box (b,o) (AfB ..);have hf:=st.free (b,o) (AfB ..);have hn:=Afe.1 (show((b::bx.map (·.1))).Nodup from st.nodup);refine { st with sat:=λc o' A=>?_,box:=λp hp=>st.box p (Aey _ hp),free:=λp hp=>?_,nodup:=hn.2,Cc:=λc A=>?_ }
 .by_cases h:c=b
  .subst h;rw[Hp.AA]at A;cases A;exact hb
  .rw[Hp.AB h]at A;exact st.sat c o' A
 .have G:=st.free p (Aey _ hp);have:p.1≠b:=λh=>hn.1 (AfC.2 ⟨p,hp,h⟩);exact⟨by rw[Hp.AB this];exact G.1,G.2⟩
 .obtain⟨G,h2,h3⟩:=st.Cc c A;have:c≠b:=λh=>hf.2 (h▸A);exact⟨G,by rw[Hp.AB this];exact h2,h3⟩
theorem AV.APT {T:TypeId}{x:Operand}{cs:Array Value}(hs:sig ops i=some (d,.box T x,ty,gd))(hw:AX ops e gd=true)(hd:HJ d g.n=true)(hx:(AE e x).cells=cs)
  (h:∀b,Z22 b=none->K (put e d (.pointer (some ⟨b,0,none⟩))) bx (Z22.set b (.cells cs T (0,0)))):AV g ops i e bx Z22 K:=by
 intro w0 F a w st;refine wpOpIn_mono ?_ (AV.box (K:=λe' G Z'2=>Z'2=Z22/\∃b,e'=put e d (.pointer (some ⟨b,0,none⟩))/\G=(b,.cells cs T (0,0))::bx) hs hw hd hx (λb=>⟨rfl,b,rfl,rfl⟩) w0 F a w st)
 rintro a' w' ⟨_,_,_,A,rfl,b,rfl,rfl⟩
 exact⟨_,_,_,A.open,h b (A.free _ (AfB ..)).1⟩
theorem AV.gq {T:TypeId}{z:Value}{cs:Array Value}(hs:sig ops i=some (d,.alloc T,ty,gd))(hw:AX ops e gd=true)(hd:HJ d g.n=true)(hz:∀w,(zeroValue T).run g.P w=.ok z w)(hc:z.cells=cs)
  (h:∀b,Z22 b=none->K (put e d (.pointer (some ⟨b,0,none⟩))) bx (Z22.set b (.cells cs T (0,0)))):AV g ops i e bx Z22 K:=by
 intro w0 F a w st;refine wpOpIn_mono ?_ (AV.alloc (K:=λe' G Z'2=>Z'2=Z22/\∃b,e'=put e d (.pointer (some ⟨b,0,none⟩))/\G=(b,.cells cs T (0,0))::bx) hs hw hd hz hc (λb=>⟨rfl,b,rfl,rfl⟩) w0 F a w st)
 rintro a' w' ⟨_,_,_,A,rfl,b,rfl,rfl⟩
 exact⟨_,_,_,A.open,h b (A.free _ (AfB ..)).1⟩
def AH (P:Program){α:Type}(m:Sem α)(Z22:Hp)(Φ:α->Hp->Prop):Prop:=
 ∀w (F:Nat->Prop),Sat Z22 w->(∀b,F b->b<w.heap.size/\Z22 b=none)->∃v A Z'2,m.run P w=.ok v A/\Φ v Z'2/\Fin Z'2 F w A
theorem AH.mono {P:Program}{α:Type}{m:Sem α}{Φ Ψ:α->Hp->Prop}(h:AH P m Z22 Φ)(G:∀v Z'2,Φ v Z'2->Ψ v Z'2):AH P m Z22 Ψ:=λw F hs A=>
 let ⟨v,w',Z'2,h1,h2,h3⟩:=h w F hs A
 ⟨v,w',Z'2,h1,G _ _ h2,h3⟩
theorem St.lt {n ds w0 F e bx Z22 a w}(st:St n ds w0 F e bx Z22 a w):∀b,(F b\/b∈bx.map (·.1))->b<w.heap.size/\Z22 b=none:=by
 rintro b (h|h)
 .have A:=st.Cc b h;have G:=st.grow;exact⟨by omega,A.2.1⟩
 .obtain⟨p,hp,rfl⟩:=AfC.1 h;exact⟨(AfA.1 (st.box p hp)).1,(st.free p hp).1⟩
theorem St.fin {n ds w0 F e bx Z22 a w Z'2 w'}(st:St n ds w0 F e bx Z22 a w)(h:Fin Z'2 (λb=>F b\/b∈bx.map (·.1)) w w'):St n ds w0 F e bx Z'2 a w':=by
 refine { st with sat:=h.sat,box:=λp hp=>?_,free:=λp hp=>⟨(h.Cc p.1 (.inr (AfC.2 ⟨p,hp,rfl⟩))).1,(st.free p hp).2⟩,Cc:=λb hb=>?_,os:=st.os.trans h.os,out:=h.out.trans st.out,grow:=AfU st.grow h.grow }
 .rw[(h.Cc p.1 (.inr (AfC.2 ⟨p,hp,rfl⟩))).2];exact st.box p hp
 .obtain⟨A,_,G⟩:=st.Cc b hb;exact⟨A,(h.Cc b (.inl hb)).1,(h.Cc b (.inl hb)).2.trans G⟩
theorem AV.PJ (hs:sig ops i=some (d,op,ty,gd))(hw:AX ops e gd=true)(hd:HJ d g.n=true)(m:Sem Value)(hm:∀o:Oper,o.op=op->o.type=ty->execOp (AE e) o=(do pure (.value (<-m))))
  (h:AH g.P m Z22 λv Z'2=>K (put e d v) bx Z'2):AV g ops i e bx Z22 K:=by
 intro w0 F a w st;obtain⟨o,ho,rfl,A,DG,rfl⟩:=Bt hs;refine Cv ho (by rw[st.wanted];exact hw) ?_;obtain⟨v,w',Z'2,h1,h2,h3⟩:=h w _ st.sat st.lt;rw[st.eval];have G:=hm o A DG;rw[Dx (by rw[G];simp only[Sem.run_bind,h1,Result.andThen_ok];rfl) (λd=>by simp)];exact⟨_,_,_,(st.fin h3).put _ _ (HJ.lt hd),h2⟩
theorem AV.ADk (hs:sig ops i=some (d,op,ty,gd))(hw:AX ops e gd=true)(hd:HJ d g.n=true)(m:Sem Unit)(hm:∀o:Oper,o.op=op->o.type=ty->execOp (AE e) o=(do m;pure .skip))
  (h:AH g.P m Z22 λ_ Z'2=>K (put e d undef) bx Z'2):AV g ops i e bx Z22 K:=by
 intro w0 F a w st;obtain⟨o,ho,rfl,A,DG,rfl⟩:=Bt hs;refine Cv ho (by rw[st.wanted];exact hw) ?_;obtain⟨v,w',Z'2,h1,h2,h3⟩:=h w _ st.sat st.lt;rw[st.eval];have G:=hm o A DG;rw[Dx (by rw[G];simp only[Sem.run_bind,h1,Result.andThen_ok];rfl) (λd=>by simp)];exact⟨_,_,_,(st.fin h3).put _ _ (HJ.lt hd),h2⟩
def BI (R:Rr)(Φ:Value->Hp->Prop):Rr
 | .returned v,Z22=>Φ v Z22
 | .panicked A,Z22=>R (.panicked A) Z22
 | .outgrown,_=>False
theorem AV.call {f:FuncId}{args:Array Value}(hs:sig ops i=some (d,op,ty,gd))(hw:AX ops e gd=true)(hd:HJ d g.n=true)
  (hm:∀o:Oper,o.op=op->o.type=ty->∀w,(execOp (AE e) o).run g.P w=.ok (.enter f args) w)
  (h:Spec g.P f args Z22 (BI g.R λv Z'2=>K (put e d v) bx Z'2)):AV g ops i e bx Z22 K:=by
 intro w0 F a w st;obtain⟨o,ho,rfl,By,DG,rfl⟩:=Bt hs;refine Cv ho (by rw[st.wanted];exact hw) ?_;rw[st.eval,Dx (hm o By DG w) (λd=>by simp)];refine⟨λhh=>(by cases hh),UA (Calls.mono (h w _ st.sat st.lt) λen w'=>?_)⟩
 rintro⟨Z'2,A,hf⟩
 have G:=st.fin hf;cases en with
 | returned v=>exact⟨_,_,_,G.put _ _ (HJ.lt hd),A⟩
 | panicked ch=>
  rcases g.gi with ⟨h1,h2⟩|A9
  .exact⟨⟨h1,G.defers.trans h2⟩,Z'2,A,G.toFin⟩
  .exact absurd A (A9 ch Z'2)
 | outgrown=>exact A.elim
theorem RO {P:Program}{ρ:Operand->Value}{x:Operand}{xs:Array Operand}{ts:Array TypeId}{f:FuncId}{fst cap vs args:Array Value}
  (hf:∀args w,(callFunc f args).run P w=.ok (.enter f args) w) (hx:ρ x=.func (.func f) fst cap) (A:xs.toList.map ρ=vs.toList) (G:fst++vs++cap=args)
  (o:Oper) (ho:o.op=.call { callee:=.value x,args:=xs,argTypes:=ts }) (w:World) :
  (execOp ρ o).run P w=.ok (.enter f args) w:=by
 subst G;have A:xs.map ρ=vs:=by rw[<-AfM];simpa using A
 simp only[execOp,ho,resolve,hx,A,Deferred.ofValue,invoke,bind,Sem.bind,pure];exact hf _ w
end rI
end Tw
end
section
namespace Tw
open Go
variable [I9]
def F0 (c:Array Value)(o:Nat):List Value->Array Value
 | []=>c
 | v::vs=>F0 (c.setIfInBounds o v) (o+1) vs
theorem G7:∀(vs:List Value) (c:Array Value) (o:Nat),(F0 c o vs).size=c.size
 | [],_,_=>rfl
 | v::vs,c,o=>by simp[F0,G7 vs]
theorem TZ:∀(vs:List Value) (c:Array Value) (o j:Nat),o+vs.length<=c.size->
  (F0 c o vs)[j]?=if o<=j/\j<o+vs.length then vs[j-o]? else c[j]?
 | [],c,o,j,_=>by rw[Aeu (by simp only[Afw];omega)];rfl
 | v::vs,c,o,j,h=>by
  simp only[Aez]at h;rw[F0,TZ vs _ _ j (by simp;omega)];by_cases A:o+1<=j/\j<o+1+vs.length
  .rw[Aex A,Aex (by simp;omega),show j-o=(j-(o+1))+1 by omega,Afd]
  .rw[Aeu A];by_cases G:j=o
   .subst G;rw[Aex (by simp),AgB];simp[show j<c.size by omega]
   .rw[Aeu (by simp;omega),AhI (AfT G)]
section
variable {P:Program}
theorem EX (b o:Nat)(t:TypeId):∀(vs:List Value) (i:Nat) (c:Array Value) (w:World),w.heap[b]?=some (.cells c t (0,0))->o+i+vs.length<=c.size->(∀v∈vs,v.oneCell'=true)->
  (storeCells ⟨b,o,none⟩ vs i).run P w=.ok () (w.setRow b (F0 c (o+i) vs))
 | [],i,c,w,A,hl,_=>by
  have Aq:b<w.heap.size:=(AfA.1 A).1;have hv:w.heap[b]=.cells c t (0,0):=(AfA.1 A).2;simp only[storeCells,F0];show Result.ok () w=_
  congr 1
  unfold World.setRow;cases w with
  | mk heap tape drawn os G=>
   congr 1
   apply Array.ext
   .simp
   .intro k h1 h2;simp only[Array.getElem_modify];split
    .rename_i hk;subst hk;simp at hv;simp[hv]
    .rfl
 | v::vs,i,c,w,A,hl,h1=>by
  simp only[Aez]at hl;have Dy:w.cell? ⟨b,o+i,none⟩=some c[o+i]:=by
   simp[World.cell?,A]
  have RP:w.frozen? ⟨b,o+i,none⟩=false:=by simp[World.frozen?,A]
  have APU:(⟨b,o,none⟩:Addr).add i=⟨b,o+i,none⟩:=Cm b o i;have YJ:=setCell_eq_setRow w b (o+i) c t (0,0) v A;have DH:=setRow_heap w b c (c.setIfInBounds (o+i) v) t (0,0) A;have ih:=EX b o t vs (i+1) (c.setIfInBounds (o+i) v) (w.setRow b (c.setIfInBounds (o+i) v)) DH (by simp;omega) (λu hu=>h1 u (Aey _ hu));rw[setRow_setRow]at ih;have Ei:=run_store P w ⟨b,o+i,none⟩ v .plain (h1 v (AfB ..));simp only[storeCells,APU,Sem.run_bind,Ei,Dy,RP,AgV,AgO,Result.andThen_ok,YJ,ih,F0];rw[AgJ]
theorem SF (b o:Nat)(t ty:TypeId)(v:Value)(c:Array Value)(w:World){n:Nat}(hs:∀w,(Go.sizeOf ty).run P w=.ok n w)(hn:v.cells.size=n)(G:w.heap[b]?=some (.cells c t (0,0)))
  (hl:o+n<=c.size) (A:∀u∈v.cells.toList,u.oneCell'=true) :
  (Instr.storeAt ty (.pointer (some ⟨b,o,none⟩)) v).run P w=.ok () (w.setRow b (F0 c o v.cells.toList)):=by
 have:=EX (P:=P) b o t v.cells.toList 0 c w G (by simp;omega) A;simp[Instr.storeAt,Instr.sureAddr,storeVar,hs,hn,this]
end
theorem St.wrote {n ds w0 F e bx Z22 a w j b c c' t}(st:St n ds w0 F e bx Z22 a w)(hj:bx[j]?=some (b,Obj.cells c t (0,0))):
  St n ds w0 F e (bx.set j (b,.cells c' t (0,0))) Z22 a (w.setRow b c'):=by
 have hm:(b,Obj.cells c t (0,0))∈bx:=Ae2 hj;have hb:=st.box _ hm;have hf:=st.free _ hm;have yX:(bx.set j (b,Obj.cells c' t (0,0))).map (·.1)=bx.map (·.1):=by
  rw[Ahm];have:(bx.map (·.1))[j]?=some b:=by simp[hj]
  obtain⟨Aq,heq⟩:=Ae0.1 this;rw[<-heq,List.set_getElem_self]
 have gu:∀k,k≠b->(w.setRow b c').heap[k]?=w.heap[k]?:=λk G=>setRow_other w b k c' G;refine { st with sat:=λk o G=>?_,box:=λp hp=>?_,free:=λp hp=>?_,nodup:=by rw[yX];exact st.nodup,Cc:=λk G=>?_,os:=st.os,out:=st.out,grow:=by simpa using st.grow }
 .have:k≠b:=λh=>by rw[h,hf.1]at G;cases G
  rw[gu k this];exact st.sat k o G
 .by_cases h:p.1=b
  ·
   obtain⟨i,hi⟩:=Ag7.1 hp;have ke:i=j:=by
    have A:((bx.set j (b,Obj.cells c' t (0,0))).map (·.1))[i]?=some b:=by simp only[AfZ,hi,Afv,h]
    rw[yX]at A;have h2:(bx.map (·.1))[j]?=some b:=by simp[hj]
    have fz:=(Ae0.1 A).1;exact(List.getElem?_inj fz st.nodup).1 (A.trans h2.symm)
   subst ke;have Aq:i<bx.length:=(Ae0.1 hj).1;rw[Ahc Aq]at hi;cases hi;exact setRow_heap w b c c' t (0,0) hb
  .rw[gu _ h];rcases AiI hp with A|A
   .exact st.box p A
   .exact absurd (by rw[A]) h
 .rcases AiI hp with A|A
  .exact st.free p A
  .rw[A];exact hf
 .obtain⟨A,h2,h3⟩:=st.Cc k G;have:k≠b:=λh=>hf.2 (h▸G);exact⟨A,h2,by rw[gu k this];exact h3⟩
section rI
variable {g:Gl}{ops:Array Oper}{i:Nat}{e:Env}{bx:Bx}{Z22:Hp}{K:Env->Bx->Hp->Prop}{d:Option Nat}{op:Op}{ty T:TypeId}{gd:Option (Nat×Bool)}
theorem AV.ADl {x y:Operand}{j b o n:Nat}{c c':Array Value}{t:TypeId}{v:Value}(hs:sig ops i=some (none,.store T x y,ty,gd))(hw:AX ops e gd=true)(hz:∀w,(Go.sizeOf T).run g.P w=.ok n w)
  (hx:AE e x=.pointer (some ⟨b,o,none⟩)) (hy:AE e y=v) (G:bx[j]?=some (b,Obj.cells c t (0,0))) (hn:v.cells.size=n) (hl:Nat.ble (o+n) c.size=true) (h1:(v.cells.toList.all λu=>u.oneCell')=true)
  (hc:F0 c o v.cells.toList=c') (h:K e (bx.set j (b,.cells c' t (0,0))) Z22):AV g ops i e bx Z22 K:=by
 intro w0 F a w st;obtain⟨o',ho,hd,By,DG,hg⟩:=Bt hs;refine Cv ho (by rw[st.wanted,hg];exact hw) ?_;rw[st.eval];subst hc;have hb:=st.box _ (Ae2 G);have:=SF (P:=g.P) b o t T v c w hz hn hb (Afh hl) (λu hu=>Afu.1 h1 u hu);have:(execOp (AE e) o').run g.P w=.ok .skip (w.setRow b (F0 c o v.cells.toList)):=by
  simp[execOp,By,hx,hy,this]
 rw[Dx this (λd=>by simp)];have A:a.put o'.dst undef=a:=by rw[hd];rfl
 simp only[Oper.uponIn_skip,A];exact⟨_,_,_,st.wrote G,h⟩
theorem AH.store {P:Program}{b o n:Nat}{c:Array Value}{t:TypeId}{v:Value}{Φ:Unit->Hp->Prop}(hz:∀w,(Go.sizeOf T).run P w=.ok n w)(hb:Z22 b=some (.cells c t (0,0)))(hn:v.cells.size=n)(hl:o+n<=c.size)(h1:∀u∈v.cells.toList,u.oneCell'=true)
  (h:Φ () (Z22.set b (.cells (F0 c o v.cells.toList) t (0,0)))):AH P (Instr.storeAt T (.pointer (some ⟨b,o,none⟩)) v) Z22 Φ:=λw F G hF=>by
 refine⟨(),_,_,SF b o t T v c w hz hn (G _ _ hb) hl h1,h,?_,?_,.same rfl rfl rfl,rfl,by simp⟩
 .intro k o' A;by_cases h:k=b
  .subst h;rw[Hp.AA]at A;cases A;exact setRow_heap w k c _ t (0,0) (G _ _ hb)
  .rw[Hp.AB h]at A;rw[setRow_other _ _ _ _ h];exact G k o' A
 .intro k A;have:k≠b:=λh=>by have:=(hF k A).2;rw[h,hb]at this;cases this
  exact⟨by rw[Hp.AB this];exact(hF k A).2,setRow_other _ _ _ _ this⟩
theorem AV.store {x y:Operand}{p v:Value}(G:sig ops i=some (none,.store T x y,ty,gd))(hw:AX ops e gd=true)(hx:AE e x=p)(hy:AE e y=v)
  (h:AH g.P (Instr.storeAt T p v) Z22 λ_ Z'2=>K e bx Z'2):AV g ops i e bx Z22 K:=
 AV.ADk G hw rfl (Instr.storeAt T p v) (λo A _=>by simp[execOp,A,hx,hy]) h
end rI
section gp
variable {P:Program}{e:Env}{bx:Bx}{Z22:Hp}{ty T:TypeId}
theorem Y.build {ps:Array (Nat×Operand)}{vs:List (Nat×Value)}{cs:Array Value}(hv:ps.toList.map (λp=>(p.1,AE e p.2))=vs)(A:P.built T vs=some cs):Yd P e bx Z22 (.build T ps) ty (.agg cs):=λoo ho _ w _ _=>by
 have G:(ps.map λ(i,x)=>(i,AE e x)).toList=vs:=by rw[<-hv];simp
 have:=run_build (P:=P) w T (ps.map λ(i,x)=>(i,AE e x)) cs (by rw[G];exact A);simp only[execOp,ho,Sem.run_bind,this,Result.andThen_ok];rfl
end gp
def Ij (P:Program)(e:Env)(bx:Bx)(Z22:Hp):List ResultVar->List Value->Prop
 | [],vs=>vs=[]
 | .tmp t::r,vs=>∃us,vs=e t::us/\Ij P e bx Z22 r us
 | .cell p T::r,vs=>∃v us,vs=v::us/\(∃a,e p=.pointer (some a)/\∀w,Sat Z22 w->KM bx w->(loadVar T a).run P w=.ok v w)/\Ij P e bx Z22 r us
def UC:List Value->Value
 | [v]=>v
 | vs=>.tuple vs.toArray
def nU (tmps:Array Value):ResultVar->Sem Value
 | .tmp t=>pure (tmps.getD t undef)
 | .cell a t=>do loadVar t (<-asAddr (tmps.getD a undef))
theorem Ij.run {P:Program}{e:Env}{bx:Bx}{Z22:Hp}{tmps:Array Value}{w:World}(A:∀t,tmps.getD t undef=e t)(hs:Sat Z22 w)(hb:KM bx w):∀(rs:List ResultVar) (vs:List Value),Ij P e bx Z22 rs vs->
  (rs.mapM (nU tmps)).run P w=Result.ok vs w
 | [],vs,h=>by simp only[Ij]at h;subst h;simp
 | .tmp t::r,vs,h=>by
  obtain⟨us,rfl,h⟩:=h;have G:(nU tmps (.tmp t)).run P w=.ok (e t) w:=by simp only[nU,Sem.run_pure,A]
  simp only[Aid,Sem.run_bind,Sem.run_pure,Result.andThen_ok,Ij.run A hs hb r us h,G]
 | .cell p T::r,vs,h=>by
  obtain⟨v,us,rfl,⟨a,ha,hl⟩,h⟩:=h;have h2:(nU tmps (.cell p T)).run P w=.ok v w:=by
   have G:tmps.getD p undef=.pointer (some a):=(A p).trans ha;simp only[nU,Sem.run_bind,Sem.run_pure,Result.andThen_ok,G,asAddr,hl w hs hb]
  simp only[Aid,Sem.run_bind,Sem.run_pure,Result.andThen_ok,Ij.run A hs hb r us h,h2]
theorem Ij.results {P:Program}{e:Env}{bx:Bx}{Z22:Hp}{fn:Func}{rs:List ResultVar}{vs:List Value}(hr:fn.results=rs.toArray)(h:Ij P e bx Z22 rs vs)(a:Act)(w:World)
  (he:∀t,a.tmps.getD t undef=e t) (hs:Sat Z22 w) (hb:KM bx w):(results fn a.tmps).run P w=.ok (UC vs) w:=by
 have A:=Ij.run he hs hb _ _ h;have G:Go.results fn a.tmps=(do let vs <-fn.results.mapM (nU a.tmps);pure (if h:vs.size=1 then vs[0] else .tuple vs)):=rfl;rw[G,hr];simp only[List.mapM_toArray,Sem.run_bind,Sem.run_map,A,Result.andThen_ok];cases vs with
 | nil=>rfl
 | cons v vs=>cases vs<;>rfl
theorem yY {P:Program}{bx:Bx}{Z22:Hp}{T:TypeId}{b o:Nat}{c:Array Value}{t:TypeId}{fr:Nat×Nat}{v:Value}(A:∀w,(isAgg T).run P w=.ok false w)(hb:(b,Obj.cells c t fr)∈bx)(h:c[o]?=some v):
  ∀w,Sat Z22 w->KM bx w->(loadVar T ⟨b,o,none⟩).run P w=.ok v w:=λw _ G=>by
 simp[loadVar,A,load,Sem.run,G.cell hb,h]
theorem rJ {P:Program}{bx:Bx}{Z22:Hp}{T:TypeId}{b n:Nat}{c:Array Value}{t:TypeId}{fr:Nat×Nat}(G:∀w,(isAgg T).run P w=.ok true w)(hs:∀w,((Go.sizeOf T).run P w)=.ok n w)(hn:c.size=n)(hb:(b,Obj.cells c t fr)∈bx):
  ∀w,Sat Z22 w->KM bx w->(loadVar T ⟨b,0,none⟩).run P w=.ok (.agg c) w:=λw _ A=>by
 subst hn;have:=run_loadCells_list (P:=P) (w:=w) ⟨b,0,none⟩ c.toList (λj v hj=>by
  rw[show(⟨b,0,none⟩:Addr).add j=⟨b,0+j,none⟩ from Cm _ _ _,A.cell hb];simpa using hj)
 simp at this;simp[loadVar,G,hs,this]
section ends
variable {g:Gl}{k:List Item}{e:Env}{bx:Bx}{Z22:Hp}
theorem At.bY {c:Code}{fn:Func}{rs:List ResultVar}{vs:List Value}(hc:c=Code.ret)(hf:g.P.funcs[g.f]?=some fn)(hr:fn.results=rs.toArray)(h:Ij g.P e bx (left g.ds Z22) rs vs)(G:g.R (.returned (UC vs)) (left g.ds Z22))
  (A:g.Hy=none:=by rfl) (hm:Marks g.ds Z22:=by trivial):At g (.code c::k) e bx Z22:=
 At.ret hc hf (λa w he hs hb=>h.results hr a w he hs hb) G A hm
theorem At.bZ {fn:Func}{rs:List ResultVar}{vs:List Value}(hf:g.P.funcs[g.f]?=some fn)(hr:fn.results=rs.toArray)(h:Ij g.P e bx (left g.ds Z22) rs vs)(G:g.R (.returned (UC vs)) (left g.ds Z22))
  (A:g.Hy=none:=by rfl) (hm:Marks g.ds Z22:=by trivial):At g [] e bx Z22:=
 At.done hf (λa w he hs hb=>h.results hr a w he hs hb) G A hm
end ends
end Tw
end
section
namespace Tw
open Go
variable [I9]
def cl:Code->Code
 | .seq a _=>a | .cond _ a _=>a | .block _ a=>a | .loop a=>a | .scope a=>a | .rangeFunc _ _ a _=>a | c=>c
def cr:Code->Code
 | .seq _ b=>b | .cond _ _ b=>b | .rangeFunc _ _ _ b=>b | c=>c
def cO:Code->Array Oper
 | .region _ ops _=>ops | _=>#[]
def P8 (P:Program)(t:TypeId)(f:Nat):Field:=
 match P.underlying t with
 | some (.struct fs)=>fs.getD f default
 | _=>default
theorem nt {b:Bool}(h:(!b)=true):b=false:=by simpa using h
theorem nf {b:Bool}(h:(!b)=false):b=true:=by simpa using h
def Ext (Z22 Z'2:Hp):Prop:=∀b o,Z22 b=some o->Z'2 b=some o
theorem Ext.refl (Z22:Hp):Ext Z22 Z22:=λ_ _ h=>h
theorem Ext.trans {Z22 Z'2 A:Hp}(h:Ext Z22 Z'2)(G:Ext Z'2 A):Ext Z22 A:=λb o hb=>G b o (h b o hb)
theorem Ext.set {Z22:Hp}{b:Nat}{o:Obj}(h:Z22 b=none):Ext Z22 (Z22.set b o):=λc o' A=>by
 have:c≠b:=λe=>by rw[e,h]at A;cases A
 rw[Hp.AB this];exact A
theorem Ext.ld {Z22 Z'2:Hp}(h:Ext Z22 Z'2){a:Addr}{v:Value}(A:Z22.ld a=some v):Z'2.ld a=some v:=by
 unfold Hp.ld at *;cases hb:Z22 a.block with
 | none=>simp[hb]at A
 | some o=>rw[h _ _ hb];rw[hb]at A;exact A
theorem At.ofL {g:Gl}{k:List Item}{e:Env}{bx:Bx}{Z22:Hp}{l:List (Nat×Value)}(A:Live e l)(h:∀J,At g k (Lm J l) bx Z22):At g k e bx Z22:=At.live A (h e)
def Kp (L:List Nat)(Z22 Z'2:Hp):Prop:=∀b∈L,∀o,Z22 b=some o->Z'2 b=some o
theorem Kp.CV {L:List Nat}{Z22 Z'2:Hp}(h:Ext Z22 Z'2):Kp L Z22 Z'2:=λb _ o hb=>h b o hb
theorem Kp.nil {Z22 Z'2:Hp}:Kp [] Z22 Z'2:=λb hb=>by cases hb
theorem AH6 {L:List (Nat×List Nat)}{Z22 Z'2:Hp}(h:Kp (L.map Prod.fst) Z22 Z'2):∀x∈L,∀o,Z22 x.1=some o->Z'2 x.1=some o:=λx G o A=>h x.1 (AfC.2 ⟨x,G,rfl⟩) o A
theorem PK {b o:Nat}{s:Option Nat}{L:List (Nat×List Nat)}{A:List (List Nat)}{Z22:Hp}{v:Value}(h:Z22.ld ⟨b,o,s⟩=some v):(PG (some L) (some (b,A)) Z22).ld ⟨b,o,s⟩=some v:=by
 unfold Hp.ld at *;simpa[PG] using h
theorem Spec.cont {P:Program}{f:FuncId}{args:Array Value}{Z22:Hp}{R:Rr}{Φ Ψ:Value->Hp->Prop}(h:Spec P f args Z22 (BI R Φ))(G:∀v Z'2,Φ v Z'2->Ψ v Z'2):
  Spec P f args Z22 (BI R Ψ):=h.mono λe Z'2 A=>by
 cases e with
 | returned v=>exact G v Z'2 A
 | panicked ch=>exact A
 | outgrown=>exact A
def YF (P:Program)(m:Sem Value)(Z22:Hp)(v:Value):Prop:=∀w,Sat Z22 w->m.run P w=.ok v w
theorem Yd.any {P:Program}{e:Env}{bx:Bx}{Z22:Hp}{op:Op}{ty:TypeId}{v:Value}{m:Sem Value}(A:∀o:Oper,o.op=op->o.type=ty->execOp (AE e) o=(do pure (Next.value (<-m))))(hy:YF P m Z22 v):Yd P e bx Z22 op ty v:=
 Yd.of m A (λw G _=>hy w G)
def ET (p:Option Addr)(l c s:Nat):Option Addr:=if c=l then p else p.map (·.add (l*s))
section
variable {P:Program}{e:Env}{bx:Bx}{Z22:Hp}{ty T E:TypeId}{x y z:Operand}{k k':IntKind}{l h:Int}{p:Option Addr}{n c s:Nat}
theorem Ik (A:P.underlying T=some (.slice E)):P.elem T=E:=by simp[Program.elem,A]
theorem Y.sla (A:P.underlying T=some (.slice E))(hs:∀w,((Go.sizeOf E).run P w)=.ok s w)(hx:AE e x=.slice p n c)(_:True):Yd P e bx Z22 (.slice T x none none none) ty (.slice p n c):=λoo ho _ w _ _=>by
 have G:P.underlying T=some (.slice (P.elem T)):=by rw[Ik A];exact A
 have h1:=run_sliceAt_slice (P:=P) (w:=w) T (.slice p n c) none none none G;have h2:=run_slice_all (P:=P) (w:=w) T p n c G;simp[execOp,ho,hx,h1,h2,hs,Ik A,sliced];cases p<;>simp[Addr.add]
theorem Y.slh (A:P.underlying T=some (.slice E))(hs:∀w,((Go.sizeOf E).run P w)=.ok s w)(hx:AE e x=.slice p n c)(hz:AE e z=.int k h)(hh:0<=h/\h<=c):Yd P e bx Z22 (.slice T x none (some z) none) ty (.slice p h.toNat c):=λoo ho _ w _ _=>by
 have G:P.underlying T=some (.slice (P.elem T)):=by rw[Ik A];exact A
 have h1:=run_sliceAt_slice (P:=P) (w:=w) T (.slice p n c) none (some (.int k h)) none G;have h2:=run_slice_h (P:=P) (w:=w) T p n c G k h hh.1 hh.2;simp[execOp,ho,hx,hz,h1,h2,hs,Ik A,sliced];cases p<;>simp[Addr.add]
theorem Y.sll (A:P.underlying T=some (.slice E))(hs:∀w,((Go.sizeOf E).run P w)=.ok s w)(hx:AE e x=.slice p n c)(hy:AE e y=.int k l)(hh:0<=l/\l<=n):Yd P e bx Z22 (.slice T x (some y) none none) ty (.slice (ET p l.toNat c s) (n-l.toNat) (c-l.toNat)):=λoo ho _ w _ _=>by
 have G:P.underlying T=some (.slice (P.elem T)):=by rw[Ik A];exact A
 have h1:=run_sliceAt_slice (P:=P) (w:=w) T (.slice p n c) (some (.int k l)) none none G;have h2:=run_slice_l (P:=P) (w:=w) T p n c G k l hh.1 hh.2;simp[execOp,ho,hx,hy,h1,h2,hs,Ik A,sliced,ET]
theorem Y.AH7 (A:P.underlying T=some (.slice E))(hs:∀w,((Go.sizeOf E).run P w)=.ok s w)(hx:AE e x=.slice p n c)(hy:AE e y=.int k l)(hz:AE e z=.int k' h)(G:0<=l/\l<=h/\h<=c):
  Yd P e bx Z22 (.slice T x (some y) (some z) none) ty (.slice (ET p l.toNat c s) (h.toNat-l.toNat) (c-l.toNat)):=λoo ho _ w _ _=>by
 have gA:P.underlying T=some (.slice (P.elem T)):=by rw[Ik A];exact A
 have h1:=run_sliceAt_slice (P:=P) (w:=w) T (.slice p n c) (some (.int k l)) (some (.int k' h)) none gA;have h2:=run_slice_lh (P:=P) (w:=w) T p n c gA k k' l h G.1 G.2.1 G.2.2;simp[execOp,ho,hx,hy,hz,h1,h2,hs,Ik A,sliced,ET]
theorem bc (p:Option Addr)(c s:Nat):ET p 0 c s=p:=by unfold ET;cases p<;>simp[Addr.add]
theorem Y.AH8 (A:P.underlying T=some (.slice E))(hs:∀w,((Go.sizeOf E).run P w)=.ok s w)(hx:AE e x=.slice p n c)(hy:AE e y=.int k 0)(hz:AE e z=.int k' h)(G:(0:Int)<=0/\0<=h/\h<=c):
  Yd P e bx Z22 (.slice T x (some y) (some z) none) ty (.slice p h.toNat c):=by
 have:=Y.AH7 (P:=P) (bx:=bx) (Z22:=Z22) (ty:=ty) A hs hx hy hz G;simpa[bc] using this
theorem Y.APY (A:P.underlying T=some (.slice E))(hs:∀w,((Go.sizeOf E).run P w)=.ok s w)(hx:AE e x=.slice p n c)(hy:AE e y=.int k 0)(G:(0:Int)<=0/\(0:Int)<=n):
  Yd P e bx Z22 (.slice T x (some y) none none) ty (.slice p n c):=by
 have:=Y.sll (P:=P) (bx:=bx) (Z22:=Z22) (ty:=ty) A hs hx hy G;simpa[bc] using this
theorem Y.APZ {a b:Bool}(A:P.underlying T=some .bool)(hx:AE e x=.bool a)(hy:AE e y=.bool b){T':TypeId}:Yd P e bx Z22 (.binOp .eql T x y T') ty (.bool (a==b)):=λoo G _ w _ _=>by
 simp[execOp,G,hx,hy,eqGuard_at_bool,run_eql_bool w T a b A]
theorem Y.APa {a b:Bool}(A:P.underlying T=some .bool)(hx:AE e x=.bool a)(hy:AE e y=.bool b){T':TypeId}:Yd P e bx Z22 (.binOp .neq T x y T') ty (.bool (!(a==b))):=λoo G _ w _ _=>by
 simp[execOp,G,hx,hy,eqGuard_at_bool,run_neq_bool w T a b A]
theorem Y.APb {a b:ByteArray}(G:P.underlying T=some .string)(hx:AE e x=.string a)(hy:AE e y=.string b){T':TypeId}:Yd P e bx Z22 (.binOp .eql T x y T') ty (.bool (a.toList==b.toList)):=λoo ho _ w _ _=>by
 have _:=G;have A:(binOp .eql T (.string a) (.string b)).run P w=.ok (.bool (a.toList==b.toList)) w:=by simp[binOp,Op.stringOp]
 simp[execOp,ho,hx,hy,eqGuard_at_string,A]
theorem Y.APc {a b:ByteArray}(G:P.underlying T=some .string)(hx:AE e x=.string a)(hy:AE e y=.string b){T':TypeId}:Yd P e bx Z22 (.binOp .neq T x y T') ty (.bool (!(a.toList==b.toList))):=λoo ho _ w _ _=>by
 have _:=G;have A:(binOp .neq T (.string a) (.string b)).run P w=.ok (.bool (!(a.toList==b.toList))) w:=by simp[binOp,Op.stringOp]
 simp[execOp,ho,hx,hy,eqGuard_at_string,A]
theorem Y.rL {q:Option Addr}{E:TypeId}(A:P.underlying T=some (.pointer E))(hx:AE e x=.pointer q)(hy:AE e y=.pointer none){T':TypeId}:Yd P e bx Z22 (.binOp .eql T x y T') ty (.bool q.isNone):=λoo ho _ w _ _=>by
 have G:P.underlying T=some (.pointer (P.pointee T)):=by rw[show P.pointee T=E by simp[Program.pointee,A]];exact A
 have h1:=run_eql_pointer_nil w T q G;simp[execOp,ho,hx,hy,eqGuard_at_pointer,h1]
theorem Y.rM {q:Option Addr}{E:TypeId}(A:P.underlying T=some (.pointer E))(hx:AE e x=.pointer q)(hy:AE e y=.pointer none){T':TypeId}:Yd P e bx Z22 (.binOp .neq T x y T') ty (.bool q.isSome):=λoo ho _ w _ _=>by
 have G:P.underlying T=some (.pointer (P.pointee T)):=by rw[show P.pointee T=E by simp[Program.pointee,A]];exact A
 have h1:=run_neq_pointer_nil w T q G;simp[execOp,ho,hx,hy,eqGuard_at_pointer,h1]
section
variable {u v:Value}{ts:Array TypeId}
theorem JC (hx:AE e x=u)(hy:AE e y=v)(o:Oper)(A:o.op=.call { callee:=.builtin .append,args:=#[x,y],argTypes:=ts })(G:o.type=ty):execOp (AE e) o=(do pure (.value (<-Builtin.append_ ts ty #[u,v]))):=by
 subst G;simp[execOp,A,resolve,invoke,builtin,hx,hy]
theorem bg (hx:AE e x=u)(hy:AE e y=v)(o:Oper)(A:o.op=.call { callee:=.builtin .copy,args:=#[x,y],argTypes:=ts })(G:o.type=ty):execOp (AE e) o=(do pure (.value (<-Builtin.copy_ ts ty #[u,v]))):=by
 subst G;simp[execOp,A,resolve,invoke,builtin,hx,hy]
theorem WG (hx:AE e x=u)(hy:AE e y=v)(o:Oper)(A:o.op=.call { callee:=.builtin .delete,args:=#[x,y],argTypes:=ts })(G:o.type=ty):execOp (AE e) o=(do pure (.value (<-Builtin.delete_ ts ty #[u,v]))):=by
 subst G;simp[execOp,A,resolve,invoke,builtin,hx,hy]
theorem YK (hx:AE e x=u)(o:Oper)(A:o.op=.call { callee:=.builtin .clear,args:=#[x],argTypes:=ts })(G:o.type=ty):execOp (AE e) o=(do pure (.value (<-Builtin.clear_ ts ty #[u]))):=by
 subst G;simp[execOp,A,resolve,invoke,builtin,hx]
end
def Program.Lp (P:Program)(E:TypeId)(m:Nat)(vs:List (Nat×Value)):Option (Array Value):=
 match P.info? E with
 | some i=>match i.zero with
  | some z=>if m*i.size > 2^24 then none else Instr.fill (λj=>some (j*i.size,i.size)) ((Array.range (m*i.size)).map (z.cells[·%z.cells.size]!)) vs
  | none=>none
 | none=>none
theorem UD {m:Nat}{vs:List (Nat×Value)}{cs:Array Value}(hT:P.underlying T=some (.slice E))(A:Program.Lp P E m vs=some cs)(ps:Array (Nat×Value))(hp:ps.toList=vs)(w:World):
  (Instr.buildSlice T m ps).run P w=.ok (.slice (some ⟨w.heap.size,0,none⟩) m m) { w with heap:=w.heap.push (.cells cs E (0,0)) }:=by
 unfold Program.Lp at A;cases hi:P.info? E with
 | none=>simp[hi]at A
 | some i=>
  cases hz:i.zero with
  | none=>simp[hi,hz]at A
  | some z=>
   simp only[hi,hz]at A;by_cases hm:m*i.size > 2^24
   .simp[hm]at A
   .simp only[hm,AgO]at A;subst hp;by_cases G:m*i.size=0
    .rw[G]at A;have:(Array.range 0).map (λx=>z.cells[x%z.cells.size]!)=#[]:=by simp
     rw[this]at A;have h2:Array.map (λ_=>(default:Value)) (Array.range 0)=#[]:=by simp
     simp[Instr.buildSlice,run_underlying hT,Go.sizeOf,typeInfo,hi,G,h2,A,newRow,newObj,Sem.run]
    .simp[Instr.buildSlice,run_underlying hT,Go.sizeOf,typeInfo,zeroValue,hi,hz,hm,G,A,newRow,newObj,Sem.run]
end
theorem AV.Lp {g:Gl}{ops:Array Oper}{i:Nat}{e:Env}{bx:Bx}{Z22:Hp}{K:Env->Bx->Hp->Prop}{d:Option Nat}{ty T E:TypeId}{m:Nat}{ps:Array (Nat×Operand)}{vs:List (Nat×Value)}{cs:Array Value}(hT:g.P.underlying T=some (.slice E))
  {gd:Option (Nat×Bool)} (hs:sig ops i=some (d,.buildSlice T m ps,ty,gd)) (hw:AX ops e gd=true) (hd:HJ d g.n=true) (hv:ps.toList.map (λp=>(p.1,AE e p.2))=vs) (hc:Program.Lp g.P E m vs=some cs)
  (h:∀b,Z22 b=none->K (put e d (.slice (some ⟨b,0,none⟩) m m)) bx (Z22.set b (.cells cs E (0,0)))):AV g ops i e bx Z22 K:=by
 intro w0 F a w st;obtain⟨o,ho,rfl,G,DG,hg⟩:=Bt hs;refine Cv ho (by rw[st.wanted,hg];exact hw) ?_;rw[st.eval];have hh:(ps.map λ(i,x)=>(i,AE e x)).toList=vs:=by rw[<-hv];simp
 have:=UD hT hc (ps.map λ(i,x)=>(i,AE e x)) hh w;have:(execOp (AE e) o).run g.P w=.ok (.value (.slice (some ⟨w.heap.size,0,none⟩) m m)) { w with heap:=w.heap.push (.cells cs E (0,0)) }:=by
  simp only[execOp,G,Sem.run_bind,this,Result.andThen_ok];rfl
 rw[Dx this (λd=>by simp)];have A:=st.grown (.cells cs E (0,0));exact⟨_,_,_,A.open.put _ _ (HJ.lt hd),h _ (A.free _ (AfB ..)).1⟩
def Enters (P:Program)(f:FuncId):Prop:=∀args w,(callFunc f args).run P w=.ok (.enter f args) w
theorem AV.AH9 {g:Gl}{ops:Array Oper}{i:Nat}{e:Env}{bx:Bx}{Z22:Hp}{K:Env->Bx->Hp->Prop}{d:Option Nat}{ty:TypeId}{gd:Option (Nat×Bool)}{x:Operand}{xs:Array Operand}{ts:Array TypeId}
  {f:FuncId} {fst cap vs:Array Value} {u:Value} (hs:sig ops i=some (d,.call { callee:=.value x,args:=xs,argTypes:=ts },ty,gd)) (hw:AX ops e gd=true) (hd:HJ d g.n=true)
  (hx:AE e x=u) (G:xs.toList.map (AE e)=vs.toList) (hu:u=.func (.func f) fst cap) (A:Enters g.P f)
  (h:Spec g.P f (fst++vs++cap) Z22 (BI g.R λv Z'2=>K (put e d v) bx Z'2)):AV g ops i e bx Z22 K:=
 AV.call hs hw hd (λo ho _ w=>RO A (hx.trans hu) G rfl o ho w) h
def YN (P:Program)(f:FuncId)(args:Array Value)(Z22:Hp)(v:Value):Prop:=∀w,Sat Z22 w->(callFunc f args).run P w=.ok (.value v) w
end Tw
end
section
namespace Tw
open Go
variable [I9]
theorem AH.pu {P:Program}{α:Type}{m:Sem α}{Z22:Hp}{Φ:α->Hp->Prop}{v:α}(hm:∀w,Sat Z22 w->m.run P w=.ok v w)(h:Φ v Z22):AH P m Z22 Φ:=λw _ A G=>
 ⟨v,w,Z22,hm w A,h,A,λb hb=>⟨(G b hb).2,rfl⟩,.same rfl rfl rfl,rfl,Ae1 _⟩
def Hp.del (Z22:Hp)(p:Option Addr):Hp:=λk=>match p with
 | some a=>if k=a.block then none else Z22 k
 | none=>Z22 k
def Hp.new (Z22 Z'2:Hp):Hp:=λk=>match Z22 k with
 | none=>Z'2 k
 | some _=>none
theorem Ext.del {Z22 Z'2:Hp}(h:Ext Z22 Z'2)(p:Option Addr):Ext (Z22.del p) (Z'2.del p):=λk o A=>by
 cases p with
 | none=>exact h k o A
 | some a=>simp only[Hp.del]at A ⊢;split at A<;>simp_all [h k o]
theorem Ext.B5 (Z22:Hp)(p:Option Addr):Ext (Z22.del p) Z22:=λk o A=>by
 cases p with
 | none=>exact A
 | some a=>simp only[Hp.del]at A;split at A<;>simp_all
theorem Ext.Cp (Z22 Z'2:Hp):Ext (Z22.new Z'2) Z'2:=λk o A=>by
 simp only[Hp.new]at A;split at A<;>simp_all
theorem Ext.kf {Z22 Z'2:Hp}{p:Option Addr}(hp:∀a,p=some a->Z22 a.block≠none):Ext (Z22.new Z'2) (Z'2.del p):=λk o A=>by
 cases p with
 | none=>exact Ext.Cp Z22 Z'2 k o A
 | some a=>
  have h1:=hp a rfl;have G:=Ext.Cp Z22 Z'2 k o A;simp only[Hp.del];split
  .rename_i h;subst h;simp only[Hp.new]at A;split at A<;>simp_all
  .exact G
theorem Ext.E7 {Z22 A Z222:Hp}(h:Ext A Z222):Ext (Z22.new A) (Z22.new Z222):=λk o G=>by
 simp only[Hp.new]at G ⊢;split at G<;>simp_all [h k o]
theorem Ext.Hq {Z22 A Z222:Hp}(h:Ext Z22 A):Ext (A.new Z222) (Z22.new Z222):=λk o G=>by
 simp only[Hp.new]at G ⊢;split at G
 .rename_i hn;cases hs:Z22 k with
  | none=>exact G
  | some o'=>rw[h k o' hs]at hn;cases hn
 .cases G
def Kt (s:Nat)(Z22:Hp)(p:Option Addr)(n:Nat)(cs:List Value):Prop:=
 cs.length=n*s/\n<=4611686018427387904/\(n=0\/∃b o,p=some ⟨b,o,none⟩/\Bm Z22 b o cs)
theorem Bm.mono {Z22 Z'2:Hp}(h:Ext Z22 Z'2){b:Nat}:∀{l:List Value} {o:Nat},Bm Z22 b o l->Bm Z'2 b o l
 | [],_,_=>trivial
 | _::_,_,A=>⟨h.ld A.1,Bm.mono h A.2⟩
theorem Kt.mono {s:Nat}{Z22 Z'2:Hp}(h:Ext Z22 Z'2){p:Option Addr}{n:Nat}{cs:List Value}(A:Kt s Z22 p n cs):Kt s Z'2 p n cs:=
 ⟨A.1,A.2.1,A.2.2.imp id λ⟨b,o,hp,G⟩=>⟨b,o,hp,G.mono h⟩⟩
theorem Bm.of {Z22:Hp}{b:Nat}:∀{l:List Value} {o:Nat},(∀j v,l[j]?=some v->Z22.ld ⟨b,o+j,none⟩=some v)->Bm Z22 b o l
 | [],_,_=>trivial
 | v::l,o,h=>⟨by simpa using h 0 v rfl,Bm.of λj u A=>by have:=h (j+1) u (by simpa using A);rwa[show o+(j+1)=o+1+j by omega]at this⟩
theorem Bm.part {Z22:Hp}{b o i m:Nat}{l:List Value}(h:Bm Z22 b o l):Bm Z22 b (o+i) ((l.drop i).take m):=Bm.of λj v A=>by
 have G:l[i+j]?=some v:=by
  rw[AfP]at A;split at A
  .simpa using A
  .cases A
 have:=h.get G;rwa[show o+i+j=o+(i+j) by omega]
def Ch {α:Type}(s:Nat)(E:Hp->List Value->α->Prop)(Z22:Hp)(cs:List Value)(xs:List α):Prop:=
 cs.length=xs.length*s/\∀i x,xs[i]?=some x->E Z22 ((cs.drop (i*s)).take s) x
def BB {α:Type}(s:Nat)(E:Hp->List Value->α->Prop)(Z22:Hp)(p:Option Addr)(n:Nat)(xs:List α):Prop:=
 xs.length=n/\∃cs,Kt s Z22 p n cs/\Ch s E Z22 cs xs
def Lq {α:Type}(E:Hp->List Value->α->Prop):Prop:=∀Z22 Z'2 vs x,Ext Z22 Z'2->E Z22 vs x->E Z'2 vs x
theorem Ch.mono {α:Type}{s:Nat}{E:Hp->List Value->α->Prop}(G:Lq E){Z22 Z'2:Hp}(h:Ext Z22 Z'2){cs:List Value}{xs:List α}(A:Ch s E Z22 cs xs):Ch s E Z'2 cs xs:=
 ⟨A.1,λi x hx=>G _ _ _ _ h (A.2 i x hx)⟩
theorem BB.mono {α:Type}{s:Nat}{E:Hp->List Value->α->Prop}(A:Lq E){Z22 Z'2:Hp}(h:Ext Z22 Z'2){p:Option Addr}{n:Nat}{xs:List α}(G:BB s E Z22 p n xs):BB s E Z'2 p n xs:=
 let ⟨h1,cs,h2,h3⟩:=G;⟨h1,cs,h2.mono h,h3.mono A h⟩
theorem BB.nil {α:Type}{s:Nat}{E:Hp->List Value->α->Prop}{Z22:Hp}{p:Option Addr}:BB s E Z22 p 0 []:=⟨rfl,[],⟨by simp,by omega,.inl rfl⟩,by simp[Ch]⟩
theorem BB.idx {α:Type}{s:Nat}{E:Hp->List Value->α->Prop}{Z22:Hp}{p:Option Addr}{n i:Nat}{xs:List α}{x:α}(hr:BB s E Z22 p n xs)(G:xs[i]?=some x):
  ∃b o vs,p=some ⟨b,o,none⟩/\E Z22 vs x/\Bm Z22 b (o+i*s) vs:=by
 obtain⟨h1,cs,⟨hl,_,A⟩,h3⟩:=hr;have hi:i<n:=by rw[<-h1];exact(Ae0.1 G).1
 rcases A with A|⟨b,o,hp,Dt⟩
 .omega
 .exact⟨b,o,_,hp,h3.2 i x G,Dt.part⟩
theorem BB.big {α:Type}{s:Nat}{E:Hp->List Value->α->Prop}{Z22:Hp}{p:Option Addr}{n:Nat}{xs:List α}(A:BB s E Z22 p n xs):n<=4611686018427387904:=by
 obtain⟨_,cs,⟨_,h,_⟩,_⟩:=A;exact h
theorem BB.ex {α:Type}{s:Nat}{E:Hp->List Value->α->Prop}{Z22:Hp}{p:Option Addr}{n k:Nat}{xs:List α}(G:BB s E Z22 p n xs)(A:k<n):∃y,xs[k]?=some y:=
 ⟨_,Ae3 (by rw[G.1];exact A)⟩
theorem E8 {k n:Nat}(h:k<n)(A:n<=4611686018427387904):AK ((k:Int)+1):=by unfold AK;omega
theorem AL {α:Type}{xs:List α}{k:Nat}{y:α}(A:xs[k]?=some y):xs.take (k+1)=xs.take k++[y]:=by
 rw[List.take_add_one,A];rfl
def gv (k:IntKind)(_:Hp)(vs:List Value)(x:Int):Prop:=vs=[.int k x]
theorem gv.mono (k:IntKind):Lq (gv k):=λ_ _ _ _ _ h=>h
abbrev Be (k:IntKind):= BB 1 (gv k)
theorem Be.mono {k:IntKind}{Z22 Z'2:Hp}(h:Ext Z22 Z'2){p:Option Addr}{n:Nat}{xs:List Int}(A:Be k Z22 p n xs):Be k Z'2 p n xs:=BB.mono (gv.mono k) h A
theorem Be.at {k:IntKind}{Z22:Hp}{p:Option Addr}{n:Nat}{xs:List Int}(G:Be k Z22 p n xs){i:Nat}{x:Int}(hx:xs[i]?=some x):
  ∃b o,p=some ⟨b,o,none⟩/\Z22.ld ⟨b,o+i*1,none⟩=some (.int k x):=by
 obtain⟨b,o,vs,hp,rfl,A⟩:=BB.idx G hx;exact⟨b,o,hp,A.1⟩
theorem gw {k:IntKind}{Z22:Hp}{cs:List Value}{xs:List Int}:Ch 1 (gv k) Z22 cs xs↔cs=xs.map (.int k):=by
 constructor
 .rintro⟨h1,h2⟩
  refine Afo λi=>?_;rw[AfZ];cases A:xs[i]? with
  | none=>
   have:=Ag9.1 A;simp only[Option.map_none];exact Ag9.2 (by omega)
  | some x=>
   have:=h2 i x A;simp only[gv,Afa]at this;have G:((cs.drop i).take 1)[0]?=some (.int k x):=by rw[this];rfl
   rw[AfP]at G;simpa using G
 .rintro rfl
  refine⟨by simp,λi x A=>?_⟩;have Aq:=(Ae0.1 A).1;have hg:=(Ae0.1 A).2;simp only[gv,Afa];rw[Agr (by simpa using Aq)];simp[hg]
def Own (s:Nat)(Z22:Hp)(p:Option Addr)(n c:Nat)(cs:List Value):Prop:=
 cs.length=n*s/\n<=4611686018427387904/\((p=none/\n=0/\c=0)\/∃b o arr T,p=some ⟨b,o,none⟩/\Z22 b=some (.cells arr T (0,0))/\n<=c/\o+c*s<=arr.size/\(arr.toList.drop o).take (n*s)=cs)
theorem Own.nil {s:Nat}{Z22:Hp}:Own s Z22 none 0 0 []:=⟨by simp,by omega,.inl ⟨rfl,rfl,rfl⟩⟩
theorem Own.rd {s:Nat}{Z22:Hp}{p:Option Addr}{n c:Nat}{cs:List Value}(h:Own s Z22 p n c cs):Kt s Z22 p n cs:=by
 obtain⟨h1,h0,h2⟩:=h;refine⟨h1,h0,?_⟩;rcases h2 with ⟨_,hn,_⟩|⟨b,o,arr,T,hp,hb,Wp,Dz,G⟩
 .exact .inl hn
 .refine .inr ⟨b,o,hp,Bm.of λj v A=>?_⟩;rw[<-G,AfP]at A;split at A
  .simp only[Hp.ld,hb];simpa using A
  .cases A
theorem Own.mono {s:Nat}{Z22 Z'2:Hp}(h:Ext Z22 Z'2){p:Option Addr}{n c:Nat}{cs:List Value}(A:Own s Z22 p n c cs):Own s Z'2 p n c cs:=
 ⟨A.1,A.2.1,A.2.2.imp id λ⟨b,o,arr,T,hp,hb,r⟩=>⟨b,o,arr,T,hp,h _ _ hb,r⟩⟩
theorem Own.block {s:Nat}{Z22:Hp}{p:Option Addr}{n c:Nat}{cs:List Value}(G:Own s Z22 p n c cs):∀a,p=some a->Z22 a.block≠none:=by
 intro a A;rcases G.2.2 with ⟨hp,_⟩|⟨b,o,arr,T,hp,hb,_⟩
 .rw[hp]at A;cases A
 .rw[hp]at A;cases A;rw[hb];simp
theorem Own.take {s:Nat}{Z22:Hp}{p:Option Addr}{n c m:Nat}{cs:List Value}(ho:Own s Z22 p n c cs)(hm:m<=n):Own s Z22 p m c (cs.take (m*s)):=by
 obtain⟨h1,h0,h2⟩:=ho;have A:m*s<=n*s:=AfK s hm;refine⟨by rw[AfE,h1];omega,by omega,?_⟩;rcases h2 with ⟨hp,hn,hc⟩|⟨b,o,arr,T,hp,hb,Wp,G,KI⟩
 .exact .inl ⟨hp,by omega,hc⟩
 .exact .inr ⟨b,o,arr,T,hp,hb,by omega,G,by rw[<-KI,Agf,AgS A]⟩
class MZ (P:Program)(T:TypeId)(E:outParam TypeId)(s bs:outParam Nat):Prop where
 P9:P.underlying T=some (.slice E)
 info:∃i z,P.info? E=some i/\i.zero=some z/\i.size=s/\i.bytes=bs/\z.cells.size=s
 pos:0<s
 APd:0<bs
def Ej (cs:List Value):Prop:=∀u∈cs,u.oneCell'=true
theorem Ej.Gz {k:IntKind}{xs:List Int}:Ej (xs.map (.int k)):=λu A=>by
 obtain⟨x,_,rfl⟩:=AfC.1 A;rfl
section append
variable {P:Program}{T E ty:TypeId}{s bs:Nat}{Z22:Hp}{p q:Option Addr}{n c m d:Nat}{cs ys:List Value}{Φ:Value->Hp->Prop}
theorem Wq {w:World}(G:Sat Z22 w){b o:Nat}(h:Bm Z22 b o ys):∀j v,ys[j]?=some v->w.cell? ((⟨b,o,none⟩:Addr).add j)=some v:=λj v A=>by
 rw[Cm];exact G.ld (h.get A)
theorem Hr (w:World)(hs:Sat Z22 w)(A:Kt s Z22 q m ys):(Builtin.firstCells s m (.slice q m d)).run P w=.ok ys.toArray w:=by
 rcases A.2.2 with hm|⟨b,o,rfl,G⟩
 .subst hm;have:ys=[]:=Ae6 (by simpa using A.1);subst this;cases q<;>simp[Builtin.firstCells,loadCells,loadCellsFrom]
 .exact run_firstCells_some (P:=P) w s m ⟨b,o,none⟩ m d ys A.1 (Wq hs G)
theorem DI {w:World}(A:Sat Z22 w):Z22 w.heap.size=none:=by
 cases h:Z22 w.heap.size with
 | none=>rfl
 | some o=>exact absurd (AfA.1 (A _ _ h)).1 (Ah8 _)
theorem Fin.alloc {F:Nat->Prop}{w:World}{o:Obj}(hs:Sat Z22 w)(hF:∀b,F b->b<w.heap.size/\Z22 b=none)(G:World)(hw:G.heap=w.heap.push o)(h1:Gi w G)(h2:G.output=w.output):Fin (Z22.set w.heap.size o) F w G:=by
 refine⟨λk u A=>?_,λb hb=>?_,h1,h2,by rw[hw];simp⟩
 .rw[hw];by_cases h:k=w.heap.size
  .subst h;rw[Hp.AA]at A;cases A;simp
  .rw[Hp.AB h]at A;have:=hs k u A;have Aq:=(AfA.1 this).1;rw[Af1,Aeu h];exact this
 .have:=(hF b hb).1;refine⟨by rw[Hp.AB (by omega)];exact(hF b hb).2,?_⟩;rw[hw,Af1,Aeu (by omega)]
theorem Hp.QA {b:Nat}{o:Obj}{a:Nat}{G:Option Nat}(h:Z22 b=none):(Z22.set b o).del (some ⟨b,a,G⟩)=Z22:=by
 funext k
 simp only[Hp.del,Hp.set];by_cases A:k=b
 .subst A;simp[h]
 .simp[A]
theorem Hp.Dd {b:Nat}{o:Obj}{a:Nat}{A:Option Nat}:(Z22.set b o).del (some ⟨b,a,A⟩)=Z22.del (some ⟨b,a,A⟩):=by
 funext k
 simp only[Hp.del,Hp.set];by_cases G:k=b<;>simp[G]
theorem QB [h:MZ P T E s bs](Bu:Own s Z22 p n c cs)(hy:Kt s Z22 q m ys)(h1:Ej ys)(hb:(n+m)*bs<=140737488355328)
  (hΦ:∀p' c' Z'2,Own s Z'2 p' (n+m) c' (cs++ys)->Ext (Z22.del p) (Z'2.del p')->((p'=p/\c'=c/\n+m<=c)\/(c<n+m/\Ext Z22 Z'2/\∀a,p'=some a->Z22 a.block=none))->Φ (.slice p' (n+m) c') Z'2) :
  AH P (Builtin.append_ #[T,T] ty #[.slice p n c,.slice q m d]) Z22 Φ:=by
 obtain⟨ht,⟨i,z,hi,hz,rfl,rfl,hzs⟩,Gb,Ws⟩:=h;have h62:n+m<=140737488355328:=AfU (Agz _ Ws) hb;intro w F G hF;have hf:=Hr (P:=P) (d:=d) w G hy;have RM:=λw' (hw:Sat Z22 w')=>Hr (P:=P) (d:=d) w' hw hy;have Cq:=λw' (hw:Sat Z22 w')=>Hr (P:=P) (d:=c) w' hw Bu.rd;have A:(cs++ys).length=(n+m)*i.size:=by rw[Aet,Bu.1,hy.1,Afn]
 by_cases E9:n+m<=c
 ·
  rcases Bu.2.2 with ⟨hp,hn,hc⟩|⟨b,o,arr,T',rfl,hblk,Wp,Dz,KI⟩
  .subst hp hn hc;have hm:m=0:=by omega
   subst hm;have JN:ys=[]:=Ae6 (by simpa using hy.1);have KI:cs=[]:=Ae6 (by simpa using Bu.1);subst JN KI;refine⟨.slice none 0 0,w,Z22,?_,hΦ none 0 Z22 Own.nil (Ext.refl _) (.inl ⟨rfl,rfl,E9⟩),G,λb hb=>⟨(hF b hb).2,rfl⟩,.same rfl rfl rfl,rfl,Ae1 _⟩;simp[Builtin.append_,run_underlying ht,Go.sizeOf,typeInfo,hi,Builtin.lenOf,hf]
  .have hw:=G _ _ hblk;have ADn:o+n*i.size+0+ys.length<=arr.size:=by
    rw[hy.1];have:(n+m)*i.size<=c*i.size:=AfK _ E9;rw[Afn]at this;omega
   have Ei:=EX (P:=P) b (o+n*i.size) T' ys 0 arr w hw ADn h1;simp only[AgY]at Ei;refine⟨.slice (some ⟨b,o,none⟩) (n+m) c,w.setRow b (F0 arr (o+n*i.size) ys),Z22.set b (.cells (F0 arr (o+n*i.size) ys) T' (0,0)),?_,hΦ _ _ _ ⟨A,by omega,.inr ⟨b,o,_,T',rfl,Hp.AA _ _ _,E9,by rw[G7];exact Dz,?_⟩⟩ (by rw[Hp.Dd];exact Ext.refl _) (.inl ⟨rfl,rfl,E9⟩),?_⟩
   .simp[Builtin.append_,run_underlying ht,Go.sizeOf,typeInfo,hi,Builtin.lenOf,E9,hf,Cm,Ei]
   .refine Afo λj=>?_;rw[AfP];simp only[AfX,Afc];rw[TZ _ _ _ _ (by omega),Ags];have e1:cs.length=n*i.size:=Bu.1;have e2:ys.length=m*i.size:=hy.1;have e3:(n+m)*i.size=n*i.size+m*i.size:=Afn ..;by_cases yZ:j<cs.length
    .rw[Aex (by omega),Aeu (by omega),Aex yZ,<-KI,AfP,Aex (by omega)];simp
    .rw[Aeu yZ];by_cases hj2:j<(n+m)*i.size
     .rw[Aex hj2,Aex (by omega),show o+j-(o+n*i.size)=j-cs.length by omega]
     .rw[Aeu hj2,Afq (by omega)]
   .refine⟨λk u hk=>?_,λk hk=>?_,.same rfl rfl rfl,rfl,by simp⟩
    .by_cases D1:k=b
     .subst D1;rw[Hp.AA]at hk;cases hk;exact setRow_heap w k arr _ T' (0,0) hw
     .rw[Hp.AB D1]at hk;rw[setRow_other _ _ _ _ D1];exact G k u hk
    .have D1:k≠b:=λh=>by have:=(hF k hk).2;rw[h,hblk]at this;cases this
     exact⟨by rw[Hp.AB D1];exact(hF k hk).2,setRow_other _ _ _ _ D1⟩
 ·
  have ABe:Builtin.nextslicecap (n+m) c*i.bytes<=281474976710656:=growslice_fits (by omega) hb;have hgc:=grownCap_ge w (n+m) c E;have PL:Sat Z22 w.drew:=G;have Cd:(Builtin.append_ #[T,T] ty #[.slice p n c,.slice q m d]).run P w =
    .ok (.slice (some ⟨w.heap.size,0,none⟩) (n+m) (grownCap w (n+m) c E))
     (w.drew.alloc (.cells (cs.toArray++ys.toArray++Builtin.zeroCells z.cells (grownCap w (n+m) c E-(n+m))) E)):=by
   have rN:¬(9223372036854775807<((n:Int)+(m:Int))):=by omega
   have rO:¬(281474976710656<Builtin.nextslicecap (n+m) c*i.bytes):=by omega
   simp[Builtin.append_,run_underlying ht,Go.sizeOf,typeInfo,zeroValue,hi,hz,Builtin.lenOf,E9,rN,rO,Question.forced,RM _ PL,Cq _ PL,newRow,grownCap]
   congr 2
   apply AiJ
   simp[Aew]
  refine⟨_,_,Z22.set w.heap.size _,Cd,hΦ _ _ _ ⟨A,by omega,.inr ⟨w.heap.size,0,_,E,rfl,Hp.AA _ _ _,hgc,?_,?_⟩⟩ ?_ (.inr ⟨by omega,Ext.set (DI G),λa ha=>by cases ha;exact DI G⟩),Fin.alloc G hF _ rfl ⟨rfl,rfl,λ_=>⟨1,rfl⟩⟩ rfl⟩
  .simp only[Aha,Agh,size_zeroCells,hzs,Bu.1,hy.1,<-Afn];have:n+m+(grownCap w (n+m) c E-(n+m))=grownCap w (n+m) c E:=by omega
   rw[this];omega
  .simp only[Agl,Ago];rw[<-A];exact AhD
  .rw[Hp.QA (DI G)];exact Ext.B5 Z22 p
theorem CF [h:MZ P T E s bs](Bu:Own s Z22 p n c cs)(hy:Kt s Z22 q m ys)(A:Ej ys)(hb:(n+m)*bs<=140737488355328)
  (G:∀p' c' Z'2,Own s Z'2 p' (n+m) c' (cs++ys)->Ext (Z22.del p) (Z'2.del p')->Φ (.slice p' (n+m) c') Z'2) :
  AH P (Builtin.append_ #[T,T] ty #[.slice p n c,.slice q m d]) Z22 Φ:=
 QB Bu hy A hb λp' c' Z'2 A h2 _=>G p' c' Z'2 A h2
end append
end Tw
end
section
namespace Tw
open Go
variable [I9]
theorem Kt.of_map {k:IntKind}{Z22:Hp}{p:Option Addr}{n:Nat}{xs:List Int}(hr:Be k Z22 p n xs):Kt 1 Z22 p n (xs.map (.int k)):=by
 obtain⟨_,cs,A,G⟩:=hr;rwa[gw.1 G]at A
theorem Be.KO {k:IntKind}{Z22:Hp}{p:Option Addr}{n:Nat}{xs:List Int}(h:Kt 1 Z22 p n (xs.map (.int k))):Be k Z22 p n xs:=
 ⟨by have:=h.1;simpa using this,_,h,gw.2 rfl⟩
abbrev A2 (k:IntKind)(Z22:Hp)(p:Option Addr)(n c:Nat)(xs:List Int):Prop:=Own 1 Z22 p n c (xs.map (.int k))
theorem A2.rd {k:IntKind}{Z22:Hp}{p:Option Addr}{n c:Nat}{xs:List Int}(h:A2 k Z22 p n c xs):Be k Z22 p n xs:=.KO (Own.rd h)
theorem Own.empty {s b T:Nat}{Z22:Hp}:Own s (Z22.set b (.cells #[] T (0,0))) (some ⟨b,0,none⟩) 0 0 []:=
 ⟨by simp,by omega,.inr ⟨b,0,#[],T,rfl,Hp.AA _ _ _,Ae1 _,by simp,by simp⟩⟩
theorem Own.HL {s:Nat}{Z22 Z'2:Hp}{p:Option Addr}{n c:Nat}{cs:List Value}(h:Own s Z'2 p n c cs)(hp:∀a,p=some a->Z22 a.block=none):Own s (Z22.new Z'2) p n c cs:=by
 refine⟨h.1,h.2.1,h.2.2.imp id ?_⟩
 rintro⟨b,o,arr,T,A,hb,r⟩
 refine⟨b,o,arr,T,A,?_,r⟩;simp only[Hp.new];rw[hp _ A];exact hb
theorem EC {Z22 A Z'2:Hp}{p p':Option Addr}(h:∀a,p=some a->Z22 a.block=none)(hx:Ext (A.del p) (Z'2.del p'))(G:Ext Z22 A):∀a,p'=some a->Z22 a.block=none:=by
 intro a ha;cases hb:Z22 a.block with
 | none=>rfl
 | some o=>
  have h1:=G _ _ hb;have h2:(A.del p) a.block=some o:=by
   cases p with
   | none=>exact h1
   | some u=>
    simp only[Hp.del];split
    .rename_i he;have:=h u rfl;rw[<-he,hb]at this;cases this
    .exact h1
  have h3:=hx _ _ h2;rw[ha]at h3;simp[Hp.del]at h3
theorem Ek {Z22 A Z'2:Hp}{p p':Option Addr}(h:∀a,p=some a->Z22 a.block=none)(hx:Ext (A.del p) (Z'2.del p'))(G:Ext Z22 A):Ext Z22 Z'2:=by
 intro b o hb;have h2:(A.del p) b=some o:=by
  cases p with
  | none=>exact G _ _ hb
  | some u=>
   simp only[Hp.del];split
   .rename_i he;have:=h u rfl;rw[<-he,hb]at this;cases this
   .exact G _ _ hb
 exact Ext.B5 _ _ _ _ (hx _ _ h2)
theorem AW {Z22 Z'2:Hp}{k:Nat}{o:Obj}:Z22.new Z'2 k=some o↔Z22 k=none/\Z'2 k=some o:=by
 simp only[Hp.new];cases Z22 k<;>simp
theorem AF {Z22:Hp}{p:Option Addr}{k:Nat}{o:Obj}:Z22.del p k=some o↔(∀a,p=some a->k≠a.block)/\Z22 k=some o:=by
 cases p with
 | none=>simp[Hp.del]
 | some a=>
  simp only[Hp.del];split
  .rename_i h;simp[h]
  .rename_i h;simp[h]
theorem Own.Lr {s:Nat}{Z22 Z'2:Hp}{p:Option Addr}{n c:Nat}{cs:List Value}(h:Own s (Z22.new Z'2) p n c cs):∀a,p=some a->Z22 a.block=none:=by
 intro a A;have:=h.block a A;cases hb:(Z22.new Z'2) a.block with
 | none=>exact absurd hb this
 | some o=>exact(AW.1 hb).1
theorem Ext.UE {Z0 A Z22:Hp}{p:Option Addr}(h0:Ext Z0 A)(hp:∀a,p=some a->A a.block≠none):Ext (A.new Z22) ((Z0.new Z22).del p):=λk o hk=>by
 obtain⟨G,h2⟩:=AW.1 hk;refine AF.2 ⟨λa ha he=>hp a ha (he▸G),AW.2 ⟨?_,h2⟩⟩;cases hs:Z0 k with
 | none=>rfl
 | some o'=>rw[h0 _ _ hs]at G;cases G
section append
variable {P:Program}{T Et ty:TypeId}{s bs:Nat}{Z0 Z22:Hp}{p q:Option Addr}{n c m d:Nat}{cs ys:List Value}{Φ:Value->Hp->Prop}
theorem YM [MZ P T Et s bs](h0:Ext Z0 Z22)(Bu:Own s (Z0.new Z22) p n c cs)(hy:Kt s Z22 q m ys)(h1:Ej ys)(hb:(n+m)*bs<=140737488355328)
  (hΦ:∀p' c' Z'2,Own s (Z0.new Z'2) p' (n+m) c' (cs++ys)->Ext Z0 Z'2->Ext ((Z0.new Z22).del p) ((Z0.new Z'2).del p')->Φ (.slice p' (n+m) c') Z'2) :
  AH P (Builtin.append_ #[T,T] ty #[.slice p n c,.slice q m d]) Z22 Φ:=by
 have A:=Bu.Lr;refine CF (Bu.mono (Ext.Cp Z0 Z22)) hy h1 hb λp' c' Z'2 ho G=>?_;refine hΦ p' c' Z'2 (ho.HL (EC A G h0)) (Ek A G h0) λk o hk=>?_;obtain⟨h2,h3⟩:=AF.1 hk;obtain⟨h4,h5⟩:=AW.1 h3;obtain⟨h6,h7⟩:=AF.1 (G k o (AF.2 ⟨h2,h5⟩));exact AF.2 ⟨h6,AW.2 ⟨h4,h7⟩⟩
theorem Ma [MZ P T Et s bs](h0:Ext Z0 Z22)(Bu:Own s (Z0.new Z22) p n c cs)(hl:ys.length=m*s)(h1:Ej ys)(hb:(n+m)*bs<=140737488355328)
  (hΦ:∀p' c' Z'2,Own s (Z0.new Z'2) p' (n+m) c' (cs++ys)->Ext Z0 Z'2->Ext ((Z0.new Z22).del p) ((Z0.new Z'2).del p')->Φ (.slice p' (n+m) c') Z'2)
  {b:Nat} (hn:Z22 b=none):AH P (Builtin.append_ #[T,T] ty #[.slice p n c,.slice (some ⟨b,0,none⟩) m m]) (Z22.set b (.cells ys.toArray Et (0,0))) Φ:=by
 have G:Ext Z22 (Z22.set b (.cells ys.toArray Et (0,0))):=.set hn;have hm:m<=140737488355328:=by
  have A:=(inferInstance:MZ P T Et s bs).APd;have:n+m<=(n+m)*bs:=Agz _ A;omega
 refine YM (h0.trans G) (Bu.mono (Ext.E7 G)) ⟨hl,by omega,.inr ⟨b,0,rfl,Bm.of λj v hj=>?_⟩⟩ h1 hb λp' c' Z'2 ho he hd=>hΦ p' c' Z'2 ho he (λk o hk=>hd k o ((Ext.E7 G).del p k o hk));simp[Hp.ld,Hp.AA,hj]
end append
def B6 {α:Type}(s:Nat)(E:Hp->List Value->α->Prop)(Z22:Hp)(p:Option Addr)(n c:Nat)(xs:List α):Prop:=
 xs.length=n/\∃cs,Own s Z22 p n c cs/\Ch s E (Z22.del p) cs xs
theorem B6.nil {α:Type}{s:Nat}{E:Hp->List Value->α->Prop}{Z22:Hp}:B6 s E Z22 none 0 0 []:=⟨rfl,[],.nil,by simp[Ch]⟩
theorem B6.mono {α:Type}{s:Nat}{E:Hp->List Value->α->Prop}(A:Lq E){Z22 Z'2:Hp}(h:Ext Z22 Z'2){p:Option Addr}{n c:Nat}{xs:List α}(G:B6 s E Z22 p n c xs):B6 s E Z'2 p n c xs:=
 let ⟨h1,cs,h2,h3⟩:=G;⟨h1,cs,h2.mono h,h3.mono A (h.del p)⟩
theorem B6.rd {α:Type}{s:Nat}{E:Hp->List Value->α->Prop}(A:Lq E){Z22:Hp}{p:Option Addr}{n c:Nat}{xs:List α}(G:B6 s E Z22 p n c xs):BB s E Z22 p n xs:=
 let ⟨h1,cs,h2,h3⟩:=G;⟨h1,cs,h2.rd,h3.mono A (Ext.B5 Z22 p)⟩
theorem B6.block {α:Type}{s:Nat}{E:Hp->List Value->α->Prop}{Z22:Hp}{p:Option Addr}{n c:Nat}{xs:List α}(A:B6 s E Z22 p n c xs):∀a,p=some a->Z22 a.block≠none:=
 let ⟨_,_,h2,_⟩:=A;h2.block
theorem Ch.snoc {α:Type}{s:Nat}{E:Hp->List Value->α->Prop}{Z22:Hp}{cs vs:List Value}{xs:List α}{x:α}(h:Ch s E Z22 cs xs)(G:vs.length=s)(hx:E Z22 vs x):Ch s E Z22 (cs++vs) (xs++[x]):=by
 refine⟨by simp[h.1,G,Afn],λi y A=>?_⟩;rw[Ags]at A;split at A
 .rename_i hi;have hle:i*s+s<=cs.length:=by rw[h.1,<-AhE];exact AfK s hi
  rw[Agy (by omega),AgE (by simp;omega)];exact h.2 i y A
 .rename_i hi;have:i=xs.length:=by
   have:=(Ae0.1 A).1;simp at this;omega
  subst this;simp at A;subst A;rw[<-h.1,Afr,<-G,Ag2];exact hx
theorem B6.G8 {α:Type}{P:Program}{T Et ty:TypeId}{s bs:Nat}{E:Hp->List Value->α->Prop}(hE:Lq E)[MZ P T Et s bs]{Z0 Z22:Hp}{p:Option Addr}{n c:Nat}{xs:List α}{vs:List Value}{x:α}{Φ:Value->Hp->Prop}
  (h0:Ext Z0 Z22) (Bu:B6 s E (Z0.new Z22) p n c xs) (hl:vs.length=s) (h1:Ej vs) (hx:E ((Z0.new Z22).del p) vs x) (hb:(n+1)*bs<=140737488355328)
  (G:∀p' c' Z'2,B6 s E (Z0.new Z'2) p' (n+1) c' (xs++[x])->Ext Z0 Z'2->Φ (.slice p' (n+1) c') Z'2) {b:Nat} (hn:Z22 b=none) :
  AH P (Builtin.append_ #[T,T] ty #[.slice p n c,.slice (some ⟨b,0,none⟩) 1 1]) (Z22.set b (.cells vs.toArray Et (0,0))) Φ:=by
 obtain⟨A,cs,ho,hc⟩:=Bu;refine Ma h0 ho (by rw[hl,Aia]) h1 hb (λp' c' Z'2 Cq he hd=>G p' c' Z'2 ⟨by simp[A],_,Cq,(hc.snoc hl hx).mono hE hd⟩ he) hn
end Tw
end
section
namespace Tw
open Go
variable [I9]
theorem AT {Z22 Z'2:Hp}(h:Ext Z22 Z'2){b:Nat}(hb:Z'2 b=none):Z22 b=none:=by
 cases A:Z22 b with
 | none=>rfl
 | some o=>rw[h _ _ A]at hb;cases hb
section
variable {P:Program}{T Et ty:TypeId}{bs:Nat}{Z0 Z22:Hp}{p:Option Addr}{n c:Nat}{xs:List Int}{x:Int}{k:IntKind}{Φ:Value->Hp->Prop}
theorem A2.G8 [MZ P T Et 1 bs](h0:Ext Z0 Z22)(G:A2 k (Z0.new Z22) p n c xs)(hb:(n+1)*bs<=140737488355328)
  (A:∀p' c' Z'2,A2 k (Z0.new Z'2) p' (n+1) c' (xs++[x])->Ext Z0 Z'2->Ext ((Z0.new Z22).del p) ((Z0.new Z'2).del p')->Φ (.slice p' (n+1) c') Z'2)
  {b:Nat} (hn:Z22 b=none):AH P (Builtin.append_ #[T,T] ty #[.slice p n c,.slice (some ⟨b,0,none⟩) 1 1]) (Z22.set b (.cells #[.int k x] Et (0,0))) Φ:=
 Ma (ys:=[.int k x]) h0 G rfl (Ej.Gz (xs:=[x])) hb (λp' c' Z'2 ho he hd=>A p' c' Z'2 (by simpa[A2,AfF] using ho) he hd) hn
end
end Tw
end
section
namespace Tw
open Go
variable [I9]
def bh (s:Nat)(Z22:Hp)(p:Option Addr)(c:Nat)(L:List Value):Prop:=
 L.length=c*s/\((p=none/\c=0)\/∃b o arr T,p=some ⟨b,o,none⟩/\Z22 b=some (.cells arr T (0,0))/\o+c*s<=arr.size/\(arr.toList.drop o).take (c*s)=L)
theorem Own.room {s:Nat}{Z22:Hp}{p:Option Addr}{n c:Nat}{cs:List Value}(h:Own s Z22 p n c cs):n<=c/\∃L,bh s Z22 p c L/\L.take (n*s)=cs:=by
 obtain⟨h1,h0,h2⟩:=h;rcases h2 with ⟨rfl,rfl,rfl⟩|⟨b,o,arr,T,hp,hb,A,G,KI⟩
 .have:cs=[]:=Ae6 (by simpa using h1);exact⟨Ae1 _,[],⟨by simp,.inl ⟨rfl,rfl⟩⟩,by simp[this]⟩
 .refine⟨A,_,⟨?_,.inr ⟨b,o,arr,T,hp,hb,G,rfl⟩⟩,?_⟩
  .rw[AfE,AfV];simp;omega
  .rw[Agf,AgS (AfK s A)];exact KI
theorem bh.own {s:Nat}{Z22:Hp}{p:Option Addr}{n c:Nat}{L:List Value}(h:bh s Z22 p c L)(G:n<=c)(hb:n<=4611686018427387904):Own s Z22 p n c (L.take (n*s)):=by
 obtain⟨h1,h2⟩:=h;have A:n*s<=c*s:=AfK s G;refine⟨by rw[AfE];omega,hb,?_⟩;rcases h2 with ⟨rfl,rfl⟩|⟨b,o,arr,T,hp,hb,Dz,KI⟩
 .exact .inl ⟨rfl,by omega,rfl⟩
 .exact .inr ⟨b,o,arr,T,hp,hb,G,Dz,by rw[<-KI,Agf,AgS A]⟩
theorem Kt.take {s:Nat}{Z22:Hp}{p:Option Addr}{n k:Nat}{cs:List Value}(h:Kt s Z22 p n cs)(G:k<=n):Kt s Z22 p k (cs.take (k*s)):=by
 obtain⟨h1,h0,A⟩:=h;have hle:k*s<=n*s:=AfK s G;refine⟨by rw[AfE];omega,by omega,?_⟩;rcases A with A|⟨b,o,hp,hl⟩
 .exact .inl (by omega)
 .exact .inr ⟨b,o,hp,by simpa using hl.part (i:=0) (m:=k*s)⟩
theorem bj {b o j:Nat}:(⟨b,o,none⟩:Addr).add j=⟨b,o+j,none⟩:=Cm b o j
def over (L:List Value)(j:Nat)(zs:List Value):List Value:=L.take j++zs++L.drop (j+zs.length)
theorem bk (L:List Value)(j:Nat):over L j []=L:=by simp[over]
theorem bm {L:List Value}{j:Nat}{zs:List Value}(h:j+zs.length<=L.length):(over L j zs).length=L.length:=by simp[over];omega
theorem UF {arr:Array Value}{o m j:Nat}{zs:List Value}(hj:j+zs.length<=m)(hm:o+m<=arr.size):
  ((F0 arr (o+j) zs).toList.drop o).take m=over ((arr.toList.drop o).take m) j zs:=by
 refine Afo λk=>?_;rw[AfP];unfold over;by_cases A:k<m
 .rw[Aex A,AfX,Afc,TZ _ _ _ _ (by omega)];by_cases G:k<j
  .rw[Aeu (by omega),Aew,Ae8 (by simp;omega),AfP,Aex G,AfP,Aex A,AfX,Afc]
  .have hl:(List.take j ((arr.toList.drop o).take m)).length=j:=by simp;omega
   rw[Aew,AfJ (by omega),hl];by_cases h2:k<j+zs.length
   .rw[Aex (by omega),Ae8 (by omega),show o+k-(o+j)=k-j by omega]
   .rw[Aeu (by omega),AfJ (by omega),AfX,show j+zs.length+(k-j-zs.length)=k by omega,AfP,Aex A,AfX,Afc]
 .rw[Aeu A,eq_comm,Afq];simp;omega
section
variable {P:Program}{T T2 E ty:TypeId}{s bs:Nat}{Z22:Hp}{p q:Option Addr}{n c m d d' j k:Nat}{L cs ys:List Value}{Φ:Value->Hp->Prop}
theorem Fin.setRow {F:Nat->Prop}{w:World}{b:Nat}{arr ya:Array Value}{T':TypeId}(hs:Sat Z22 w)(hF:∀b,F b->b<w.heap.size/\Z22 b=none)(A:Z22 b=some (.cells arr T' (0,0))):
  Fin (Z22.set b (.cells ya T' (0,0))) F w (w.setRow b ya):=by
 have hw:=hs _ _ A;refine⟨λk u G=>?_,λk G=>?_,.same rfl rfl rfl,rfl,by simp⟩
 .by_cases D1:k=b
  .subst D1;rw[Hp.AA]at G;cases G;exact setRow_heap w k arr _ T' (0,0) hw
  .rw[Hp.AB D1]at G;rw[setRow_other _ _ _ _ D1];exact hs k u G
 .have D1:k≠b:=λh=>by have:=(hF k G).2;rw[h,A]at this;cases this
  exact⟨by rw[Hp.AB D1];exact(hF k G).2,setRow_other _ _ _ _ D1⟩
theorem bh.write (hC:bh s Z22 p c L)(hj:j*s+ys.length<=c*s)(h1:Ej ys)(w:World)(G:Sat Z22 w)(F:Nat->Prop)(hF:∀b,F b->b<w.heap.size/\Z22 b=none):
  ∃w' Z'2,(match ET p j c s with | some a=>(storeCells a ys:Sem Unit) | none=>pure ()).run P w=.ok () w'/\Fin Z'2 F w w'/\bh s Z'2 p c (over L (j*s) ys)/\Ext (Z22.del p) (Z'2.del p):=by
 obtain⟨hl,h2⟩:=hC;rcases h2 with ⟨rfl,rfl⟩|⟨b,o,arr,T,rfl,A,Dz,KI⟩
 .have hy:ys=[]:=Ae6 (by omega);subst hy;refine⟨w,Z22,?_,⟨G,λb hb=>⟨(hF b hb).2,rfl⟩,.same rfl rfl rfl,rfl,Ae1 _⟩,by rw[bk];exact⟨hl,.inl ⟨rfl,rfl⟩⟩,Ext.refl _⟩;simp[ET]
 .by_cases hy:ys=[]
  .subst hy;refine⟨w,Z22,?_,⟨G,λb hb=>⟨(hF b hb).2,rfl⟩,.same rfl rfl rfl,rfl,Ae1 _⟩,by rw[bk];exact⟨hl,.inr ⟨b,o,arr,T,rfl,A,Dz,KI⟩⟩,Ext.refl _⟩;unfold ET;split<;>rfl
  .have Gb:0<ys.length:=AhG.2 hy;have hjc:c≠j:=λe=>by subst e;omega
   have hw:=G _ _ A;have Ei:=EX (P:=P) b (o+j*s) T ys 0 arr w hw (by omega) h1;simp only[AgY]at Ei;refine⟨w.setRow b (F0 arr (o+j*s) ys),Z22.set b (.cells (F0 arr (o+j*s) ys) T (0,0)),?_,Fin.setRow G hF A,⟨by rw[bm (by omega)];exact hl,.inr ⟨b,o,_,T,rfl,Hp.AA _ _ _,by rw[G7];exact Dz,?_⟩⟩,by rw[Hp.Dd];exact Ext.refl _⟩
   .simp only[ET,Aeu hjc,Afv,bj];exact Ei
   .rw[UF hj Dz,KI]
theorem Wt [h:MZ P T E s bs](hC:bh s Z22 p c L)(xU:j+n<=c)(hz1:∀z w,(zeroValue E).run P w=.ok z w->Ej z.cells.toList)
  (hΦ:∀Z'2 zs,zs.length=n*s->bh s Z'2 p c (over L (j*s) zs)->Ext (Z22.del p) (Z'2.del p)->Φ (.tuple #[]) Z'2) :
  AH P (Builtin.clear_ #[T] ty #[.slice (ET p j c s) n d']) Z22 Φ:=by
 obtain⟨ht,⟨i,z,hi,hz,rfl,rfl,hzs⟩,Gb,Ws⟩:=h;intro w F hs hF;have hzr:(zeroValue E).run P w=.ok z w:=by simp[zeroValue,typeInfo,hi,hz]
 have h1:Ej (Builtin.zeroCells z.cells n).toList:=by
  intro u hu;simp only[Builtin.zeroCells,Array.toList_map,AfC]at hu;obtain⟨k,hk,rfl⟩:=hu;have JO:k<n*z.cells.size:=by simpa using hk
  have hz0:0<z.cells.size:=by omega
  have Aq:k%z.cells.size<z.cells.size:=AhA _ hz0;rw[AiN z.cells _ Aq];exact hz1 z w hzr _ (by simp)
 have A:(Builtin.zeroCells z.cells n).toList.length=n*i.size:=by simp[size_zeroCells,hzs]
 obtain⟨w',Z'2,G,T0,hC',hx⟩:=hC.write (P:=P) (j:=j) (ys:=(Builtin.zeroCells z.cells n).toList) (by rw[A,<-Afn];exact AfK _ xU) h1 w hs F hF;refine⟨_,w',Z'2,?_,hΦ Z'2 _ A hC' hx,T0⟩;cases hsp:ET p j c i.size with
 | none=>
  rw[hsp]at G;obtain rfl:w=w':=by simpa using G
  simp[Builtin.clear_,run_underlying ht]
 | some a=>
  rw[hsp]at G;simp only at G;cases n with
  | zero=>
   have:(Builtin.zeroCells z.cells 0).toList=[]:=Ae6 (by simpa using A);rw[this]at G;have Ta:Result.ok () w=(Result.ok () w':Result Unit):=G;cases Ta;simp[Builtin.clear_,run_underlying ht]
  | succ n=>
   simp[Builtin.clear_,run_underlying ht,hzr,G]
theorem A2.ADp {ik:IntKind}{xs:List Int}{i:Nat}{v:Int}{Ψ:Hp->Prop}(ho:A2 ik Z22 p n c xs)(hi:i<n)(hz:∀w,(Go.sizeOf T).run P w=.ok 1 w)
  (h:∀Z'2,A2 ik Z'2 p n c (xs.set i v)->Ext (Z22.del p) (Z'2.del p)->Ψ Z'2) :
  ∃b o,p=some ⟨b,o,none⟩/\AH P (Instr.storeAt T (.pointer (some ⟨b,o+i*1,none⟩)) (.int ik v)) Z22 (λ_=>Ψ):=by
 obtain⟨h1,h0,h2⟩:=ho;rcases h2 with ⟨_,hn,_⟩|⟨b,o,arr,T',rfl,A,Wp,Dz,G⟩
 .omega
 .refine⟨b,o,rfl,AH.store hz A rfl (by omega) (by simp[Value.cells,Value.oneCell']) (h _ ⟨by simpa using h1,h0,.inr ⟨b,o,_,T',rfl,Hp.AA _ _ _,Wp,by rw[G7];exact Dz,?_⟩⟩ (by rw[Hp.Dd];exact Ext.refl _))⟩;show((F0 arr (o+i*1) [.int ik v]).toList.drop o).take (n*1)=_
  rw[Afa,Afa,UF (by simp;omega) (by omega)];rw[Afa]at G;rw[G];unfold over;rw[Ahm];rw[Ahd,Aex (by simp at h1 ⊢;omega)];simp
end
end Tw
end
section
namespace Tw
open Go
variable [I9]
theorem Hp.set_set {Z22:Hp}{b:Nat}{o o':Obj}:(Z22.set b o).set b o'=Z22.set b o':=by
 funext k;simp only[Hp.set];split<;>rfl
theorem Wu {O2:Hp}{b:Nat}{o:Obj}(hb:O2 b=none){w:World}{F:Nat->Prop}(hs:Sat (O2.set b o) w)(G:∀k,F k->k<w.heap.size/\(O2.set b o) k=none):
  Sat O2 w/\∀k,(F k\/k=b)->k<w.heap.size/\O2 k=none:=by
 have hx:Ext O2 (O2.set b o):=.set hb;refine⟨λk u A=>hs k u (hx k u A),λk A=>?_⟩;rcases A with A|rfl
 .exact⟨(G k A).1,AT hx (G k A).2⟩
 .exact⟨(AfA.1 (hs k o (Hp.AA _ _ _))).1,hb⟩
theorem Spec.UG {P:Program}{f:FuncId}{args:Array Value}{O2:Hp}{b:Nat}{o:Obj}{R:Rr}(hb:O2 b=none)
  (h:Spec P f args O2 (λe O'2=>O'2 b=none->R e (O'2.set b o))):Spec P f args (O2.set b o) R:=λw F hs hF=>by
 obtain⟨h1,h2⟩:=Wu hb hs hF;refine(h w (λk=>F k\/k=b) h1 h2).mono ?_
 rintro e w' ⟨O'2,hr,G⟩
 have hbp:=G.Cc b (.inr rfl);refine⟨O'2.set b o,hr hbp.1,λk u A=>?_,λk A=>?_,G.os,G.out,G.grow⟩
 .by_cases h:k=b
  .subst h;rw[hbp.2];rw[Hp.AA]at A;cases A;exact hs k _ (Hp.AA _ _ _)
  .rw[Hp.AB h]at A;exact G.sat k u A
 .have D1:k≠b:=λh=>by have:=(hF k A).2;rw[h,Hp.AA]at this;cases this
  exact⟨by rw[Hp.AB D1];exact(G.Cc k (.inl A)).1,(G.Cc k (.inl A)).2⟩
theorem AH.UG {P:Program}{α:Type}{m:Sem α}{O2:Hp}{b:Nat}{o:Obj}{Φ:α->Hp->Prop}(hb:O2 b=none)
  (h:AH P m O2 (λv O'2=>O'2 b=none->Φ v (O'2.set b o))):AH P m (O2.set b o) Φ:=λw F hs hF=>by
 obtain⟨h1,h2⟩:=Wu hb hs hF;obtain⟨v,w',O'2,Cd,hr,G⟩:=h w (λk=>F k\/k=b) h1 h2;have hbp:=G.Cc b (.inr rfl);refine⟨v,w',O'2.set b o,Cd,hr hbp.1,λk u A=>?_,λk A=>?_,G.os,G.out,G.grow⟩
 .by_cases h:k=b
  .subst h;rw[hbp.2];rw[Hp.AA]at A;cases A;exact hs k _ (Hp.AA _ _ _)
  .rw[Hp.AB h]at A;exact G.sat k u A
 .have D1:k≠b:=λh=>by have:=(hF k A).2;rw[h,Hp.AA]at this;cases this
  exact⟨by rw[Hp.AB D1];exact(G.Cc k (.inl A)).1,(G.Cc k (.inl A)).2⟩
section rows
variable {α:Type}{s:Nat}{E:Hp->List Value->α->Prop}{Z22:Hp}{cs ds:List Value}{xs ys:List α}
theorem Ch.take (h:Ch s E Z22 cs xs)(i:Nat):Ch s E Z22 (cs.take (i*s)) (xs.take i):=by
 refine⟨?_,λk x A=>?_⟩
 .rw[AfE,AfE,h.1,Nat.min_def,Nat.min_def];by_cases hi:i<=xs.length
  .rw[Aex hi,Aex (AfK s hi)]
  .rw[Aeu hi];split
   .exact Nat.le_antisymm (by assumption) (AfK s (by omega))
   .rfl
 .rw[AfP]at A;split at A
  .rename_i G;have hle:k*s+s<=i*s:=by rw[<-AhE];exact AfK s G
   rw[Ahx,Agf,AgS (by omega)];exact h.2 k x A
  .cases A
theorem Ch.drop (h:Ch s E Z22 cs xs)(i:Nat):Ch s E Z22 (cs.drop (i*s)) (xs.drop i):=by
 refine⟨by rw[AfV,AfV,h.1,Aib],λk x A=>?_⟩;rw[AfX]at A;rw[Afx,<-Afn];exact h.2 _ x A
theorem Ch.append (h:Ch s E Z22 cs xs)(g:Ch s E Z22 ds ys):Ch s E Z22 (cs++ds) (xs++ys):=by
 refine⟨by rw[Aet,Aet,h.1,g.1,Afn],λk x G=>?_⟩;rw[Ags]at G;split at G
 .rename_i hk;have A:k*s+s<=cs.length:=by rw[h.1,<-AhE];exact AfK s hk
  rw[Agy (by omega),AgE (by simp;omega)];exact h.2 k x G
 .rename_i hk;have A:cs.length<=k*s:=by rw[h.1];exact AfK s (by omega)
  have:=g.2 (k-xs.length) x G;rw[Aib,<-h.1]at this;rw[List.drop_append];have e:List.drop (k*s) cs=[]:=Aft A;rw[e,AgG];exact this
theorem Ch.bn (hE:∀Z22 vs x,E Z22 vs x->Ej vs)(h:Ch s E Z22 cs xs)(G:0<s):Ej cs:=λu hu=>by
 obtain⟨t,ht,rfl⟩:=List.mem_iff_getElem.1 hu;have Aq:t/s<xs.length:=by rw[Agc G,<-h.1];exact ht
 have:=h.2 (t/s) _ (Ae3 Aq);refine hE _ _ _ this _ ?_;have hm:=AhA t G;have A:=Nat.div_add_mod t s;rw[AgK]at A;refine Ag7.2 ⟨t%s,?_⟩;rw[AfP,Aex hm,AfX,A];exact Ae3 ht
end rows
section
variable {P:Program}{T E ty:TypeId}{s bs:Nat}{Z22:Hp}{p q:Option Addr}{n c m d:Nat}{L ys:List Value}{Φ:Value->Hp->Prop}
end
end Tw
end
section
namespace Tw
open Go
variable [I9]
def Ls (P:Program)(l:Nat)(args:Array Value)(Z22:Hp)(R:Rr):Prop:=
 ∀(w:World) (F:Nat->Prop),Sat Z22 w->(∀b,F b->b<w.heap.size/\Z22 b=none)->
  ∃fn tmps assign body,(Instr.yield l args).run P w=.ok (.round l fn tmps assign body) w/\RoundIn Fence.wide 0 P l fn tmps assign body w (λe A=>∃Z'2,R e Z'2/\Fin Z'2 F w A)
theorem Ls.mono {P:Program}{l:Nat}{args:Array Value}{Z22:Hp}{R A:Rr}(h:Ls P l args Z22 R)(hr:∀e Z'2,R e Z'2->A e Z'2):Ls P l args Z22 A:=λw F hs hF=>
 let ⟨fn,tmps,assign,body,h1,h2⟩:=h w F hs hF
 ⟨fn,tmps,assign,body,h1,h2.mono λ_ _ ⟨Z'2,G,h4⟩=>⟨Z'2,hr _ _ G,h4⟩⟩
section
variable {g:Gl}{ops:Array Oper}{i:Nat}{e:Env}{bx:Bx}{Z22:Hp}{K:Env->Bx->Hp->Prop}{d:Option Nat}{ty:TypeId}{gd:Option (Nat×Bool)}
theorem AV.yield {x:Operand}{xs:Array Operand}{ts:Array TypeId}{l:Nat}{vs:Array Value}{u:Value}(hs:sig ops i=some (d,.call { callee:=.value x,args:=xs,argTypes:=ts },ty,gd))(hw:AX ops e gd=true)(hd:HJ d g.n=true)
  (hx:AE e x=u) (HY:xs.toList.map (AE e)=vs.toList) (hu:u=.func (.yield l) #[] #[])
  (h:Ls g.P l vs Z22 (BI g.R λv Z'2=>K (put e d v) bx Z'2)):AV g ops i e bx Z22 K:=by
 intro w0 F a w st;obtain⟨o,ho,rfl,By,DG,rfl⟩:=Bt hs;refine Cv ho (by rw[st.wanted];exact hw) ?_;obtain⟨fn,tmps,assign,body,hy,G⟩:=h w _ st.sat st.lt;have ADr:xs.map (AE e)=vs:=by rw[<-AfM];simpa using HY
 have Cd:(execOp (AE e) o).run g.P w=.ok (.round l fn tmps assign body) w:=by
  simp only[execOp,By,resolve,hx.trans hu,ADr,Deferred.ofValue,invoke,bind,Sem.bind,pure,Ag4];exact hy
 rw[st.eval,Dx Cd (λd=>by simp)];refine⟨λhh=>(by cases hh),RoundIn.mono (show RoundIn (wd g.Hy) (0-1) g.P l fn tmps assign body w _ from⟨trivial,G.2⟩) λen w'=>?_⟩
 rintro⟨Z'2,A,hf⟩
 have MX:=st.fin hf;cases en with
 | returned v=>exact⟨_,_,_,MX.put _ _ (HJ.lt hd),A⟩
 | panicked ch=>
  rcases g.gi with ⟨h1,h2⟩|A9
  .exact⟨⟨h1,MX.defers.trans h2⟩,Z'2,A,MX.toFin⟩
  .exact absurd A (A9 ch Z'2)
 | outgrown=>exact A.elim
end
def NP (R:Rr):Rr:=λe Z22=>match e with | .returned v=>R (.returned v) Z22 | _=>False
abbrev Gl.round (P:Program)(f:FuncId)(n:Nat)(l:Nat)(R:Rr):Gl:=⟨P,f,n,NP R,some l,[],.inr λ_ _ h=>h⟩
abbrev Gl.behind (P:Program)(f:FuncId)(n:Nat)(D:Nat)(R:Rr):Gl:=⟨P,f,n,NP R,none,[{ target:=.collected D,args:=#[] }],.inr λ_ _ h=>h⟩
theorem ADs {D:Nat}{Z22:Hp}(h:Z22 D=some (.deferred (some []))):Marks [{ target:=.collected D,args:=#[] }] Z22:=⟨D,rfl,h,trivial⟩
theorem Ls.bX {P:Program}{l n p:Nat}{r:Loop}{Z22:Hp}{R:Rr}{v:Value}{fn:Func}{e:Env}{s:LoopState}{c:Option Code}(hσ:Z22 l=some (.loop (lp r s c)))(hp:r.params=#[p])(hn:r.tmps.size=n)(hpn:p<n)(he:∀t,r.tmps.getD t undef=e t)(Tz:P.funcs[r.fn]?=some fn)
  (h:At (Gl.round P r.fn n l R) [.code r.assign,.beginRound,.code r.body] (xT e p v) [] Z22):Ls P l #[v] Z22 R:=by
 intro w F hs hF;refine⟨r.fn,_,r.assign,r.body,run_yield (r:=lp r s c) (hs _ _ hσ) (by simp[lp,hp]),trivial,λc0 cs _=>?_⟩;have ht:(r.params.zip #[v]).foldl (λt (p,v)=>t.setIfInBounds p v) r.tmps=r.tmps.setIfInBounds p v:=by
  simp[hp]
 have st:St n [] w F (xT e p v) [] Z22 { tmps:=r.tmps.setIfInBounds p v,defers:=[] } w:=by
  refine⟨by simp[hn],λt=>?_,rfl,hs,(λp hp=>by cases hp),(λp hp=>by cases hp),AhZ,λb hb=>⟨(hF b hb).1,(hF b hb).2,rfl⟩,.same rfl rfl rfl,rfl,Ae1 _⟩;simp only[xT];by_cases A:t=p
  .subst A;simp[hn,hpn]
  .rw[gh A,<-he t];simp[AhI (AfT A)]
 let b:Frame:={ (default:Frame) with fn:=r.fn,kind:=.normal,roundOf:=some l }
 have hb0:Frame.round l r.fn (r.tmps.setIfInBounds p v) r.assign r.body .normal=b.atR { tmps:=r.tmps.setIfInBounds p v,defers:=[] } [.code r.assign,.beginRound,.code r.body]:=by
  simp[Frame.round,Frame.atR,b]
 obtain⟨v',w',⟨Z'2,hr,T0⟩,G⟩:=h w F _ w st b (c0::cs) rfl rfl rfl ⟨fn,Tz⟩ c0 cs rfl;refine⟨.returned v',w',⟨Z'2,hr,T0⟩,?_⟩;have G:=(stepsIn_wide (P:=P)).2 G;rw[<-hb0,<-ht]at G;exact G
section
variable {g:Gl}{k:List Item}{e:Env}{bx:Bx}{Z22:Hp}
theorem Hp.rP {Z22:Hp}{b c:Nat}{o:Obj}(h:c≠b)(A:Z22 c=none):(Z22.set b o) c=none:=by rw[Hp.AB h];exact A
theorem St.alloc {n ds w0 F e bx Z22 a w}(st:St n ds w0 F e bx Z22 a w)(o:Obj):Z22 w.heap.size=none/\St n ds w0 F e bx (Z22.set w.heap.size o) a (w.alloc o):=by
 have h:=st.grown o;exact⟨(h.free _ (AfB ..)).1,h.open⟩
theorem At.ADu {c:Code}{gop:Operand}{ps:Array Tmp}{assign body:Code}{gf:Nat}{fst lb:Array Value}(hc:c=.rangeFunc gop ps assign body)(hr:g.Hy=none)(NV:g.ds=[])
  (hg:AE e gop=.func (.func gf) fst lb) (Ga:Enters g.P gf)
  (h:∀(D l:Nat) (r:Loop),D≠l->Z22 D=none->Z22 l=none->r.fn=g.f->r.params=ps->r.assign=assign->r.body=body->r.tmps.size=g.n->(∀t,r.tmps.getD t undef=e t)->
   Spec g.P gf (fst++#[.func (.yield l) #[] #[]]++lb) ((Z22.set D (.deferred (some []))).set l (.loop (lp r .ready none)))
    (λen Z'2=>∃v s p,en=.returned v/\Z'2 l=some (.loop (lp r s p))/\s≠.busy/\
     At (Gl.behind g.P g.f g.n D g.R) ((p.map Item.code).toList++k) e bx (Z'2.set l (.loop (lp r .exhausted p))))):At g (.code c::k) e bx Z22:=by
 subst hc;intro w0 F a w st b cs yV Wn YE Tz;have hbn:b.roundOf=none:=YE.trans hr;obtain⟨hD,st1⟩:=st.alloc (.deferred (some []))
 let r:Loop:={ state:=.ready,pending:=none,fn:=b.fn,tmps:=a.tmps,params:=ps,assign,body,defers:=w.heap.size }
 obtain⟨hl,st2⟩:=st1.alloc (.loop r);have Dz:(w.alloc (.deferred (some []))).heap.size=w.heap.size+1:=World.size_alloc ..;rw[Dz]at hl st2;have gj:=run_enterLoop_outer (P:=g.P) (w:=w) b.fn a.tmps ps assign body;have APf:(resolve a.eval (rangeCall gop (w.heap.size+1)) 0).run g.P ((w.alloc (.deferred (some []))).alloc (.loop r))=.ok { target:=.fn (.func gf) lb,args:=fst++#[.func (.yield (w.heap.size+1)) #[] #[]] } ((w.alloc (.deferred (some []))).alloc (.loop r)):=by
  rw[st.eval];simp only[resolve,hg];simp[AE,Deferred.ofValue]
 have hinv:(invoke (.fn (.func gf) lb) (fst++#[.func (.yield (w.heap.size+1)) #[] #[]])).run g.P ((w.alloc (.deferred (some []))).alloc (.loop r))=.ok (.enter gf (fst++#[.func (.yield (w.heap.size+1)) #[] #[]]++lb)) ((w.alloc (.deferred (some []))).alloc (.loop r)):=by
  exact Ga _ _
 have HZ:=stepR_rangeFunc (P:=g.P) (b:=b) (a:=a) (k:=k) (cs:=cs) (w:=w) (by rw[hbn];exact gj) APf hinv;have ADv:Z22 (w.heap.size+1)=none:=by rw[Hp.AB (by omega)]at hl;exact hl
 have AID:=h w.heap.size (w.heap.size+1) r (by omega) hD ADv yV rfl rfl rfl st.size st.env;obtain⟨en,w3,fr,⟨Z'2,⟨v,s,p,he,nV,hsb,hat⟩,T0⟩,ADw,AYo,ADx⟩:=AID _ _ st2.sat st2.lt (b.atR { a with defers:=[{ target:=.collected w.heap.size,args:=#[] }]++a.defers } (.inRangeFunc (w.heap.size+1)::k)::cs);subst he;have G:=st2.fin T0;have gx:=run_endLoop (P:=g.P) (G.sat _ _ nV) (by simpa[lp] using hsb);have A:=G.toFin.put (o':=.loop (lp r .exhausted p)) nV;have AR:∀q∈bx,q.1≠w.heap.size+1:=λq hq e=>by have:=(G.free q hq).1;rw[e,nV]at this;cases this
 have st4:St g.n [{ target:=.collected w.heap.size,args:=#[] }] w0 F e bx (Z'2.set (w.heap.size+1) (.loop (lp r .exhausted p))) { a with defers:=[{ target:=.collected w.heap.size,args:=#[] }]++a.defers } (w3.putObj (w.heap.size+1) (.loop (lp r .exhausted p))):=
  { size:=st.size,env:=st.env,defers:=by rw[show a.defers=[] from st.defers.trans NV];rfl,sat:=A.sat,box:=λq hq=>by rw[World.putObj_heap_other (AR q hq)];exact G.box q hq,free:=λq hq=>⟨Hp.rP (AR q hq) (G.free q hq).1,(G.free q hq).2⟩,nodup:=st.nodup,Cc:=λb hb=>⟨(st.Cc b hb).1,(A.Cc b hb).1,(A.Cc b hb).2⟩,os:=A.os,out:=A.out,grow:=A.grow }
 have ADy:=hat w0 F _ _ st4 b cs yV Wn hbn Tz;have ABh:=step_leave_returned (P:=g.P) (c:=b.atR { a with defers:=[{ target:=.collected w.heap.size,args:=#[] }]++a.defers } (.inRangeFunc (w.heap.size+1)::k)) (cs:=cs) ADx;rw[finish_atR_inRangeFunc]at ABh;have ADz:=(Steps.one HZ).trans (Steps.trans ADw ((Steps.one ABh).trans (.one (stepR_endRangeFunc (k:=k) gx))));obtain⟨e',w',fr',⟨Z222,hR,qe⟩,PM,hx⟩:=ADy;unfold P7;rw[hr];refine⟨e',w',fr',⟨Z222,?_,qe⟩,.of_steps ADz PM,hx⟩;cases e' with
 | returned v=>exact hR
 | _=>exact hR.elim
theorem At.range {c:Code}{gop:Operand}{ps:Array Tmp}{assign body:Code}{gf:Nat}{lb:Array Value}(G:c=.rangeFunc gop ps assign body)(hr:g.Hy=none)(NV:g.ds=[])
 (hg:AE e gop=.func (.func gf) #[] lb) (A:Enters g.P gf)
 (h:∀(D l:Nat) (r:Loop),D≠l->Z22 D=none->Z22 l=none->r.fn=g.f->r.params=ps->r.assign=assign->r.body=body->r.tmps.size=g.n->(∀t,r.tmps.getD t undef=e t)->
  Spec g.P gf (#[.func (.yield l) #[] #[]]++lb) ((Z22.set D (.deferred (some []))).set l (.loop (lp r .ready none)))
   (λen Z'2=>∃v s p,en=.returned v/\Z'2 l=some (.loop (lp r s p))/\s≠.busy/\
    At (Gl.behind g.P g.f g.n D g.R) ((p.map Item.code).toList++k) e bx (Z'2.set l (.loop (lp r .exhausted p))))):At g (.code c::k) e bx Z22:=At.ADu (fst:=#[]) G hr NV hg A (by simpa only[Ag4] using h)
end
end Tw
end
section
namespace Tw
open Go
variable [I9]
def qv (P:Program)(ops:Array Oper)(i:Nat)(e:Env):Option (Option Nat×Value):=
 match ops[i]? with
 | none=>none
 | some o=>match AX ops e o.guard with
  | false=>none
  | true=>match o.op with
   | .move x=>some (o.dst,AE e x)
   | .assign x=>some (o.dst,AE e x)
   | .pick z x y=>(match AE e z with
    | .bool true=>some (o.dst,AE e x)
    | .bool false=>some (o.dst,AE e y)
    | _=>none)
   | .extract x j=>(match AE e x with
    | .tuple vs=>(match vs[j]? with | some v=>some (o.dst,v) | none=>none)
    | _=>none)
   | .unOp u _ x=>(match u,AE e x with
    | .not,.bool b=>some (o.dst,.bool (!b))
    | _,_=>none)
   | .binOp b _ x y _=>(match AE e x,AE e y with
    | .int k a,.int k' c=>(match decide (k=k') with
     | false=>none
     | true=>(match b with
      | .lss=>some (o.dst,.bool (decide (a<c)))
      | .leq=>some (o.dst,.bool (decide (a<=c)))
      | .gtr=>some (o.dst,.bool (decide (c<a)))
      | .geq=>some (o.dst,.bool (decide (c<=a)))
      | .eql=>some (o.dst,.bool (decide (a=c)))
      | .neq=>some (o.dst,.bool (decide (a≠c)))
      | _=>none))
    | _,_=>none)
   | _=>none
theorem ABi {P:Program}{ops:Array Oper}{i:Nat}{e:Env}{bx:Bx}{d:Option Nat}{v:Value}(h:qv P ops i e=some (d,v)):
  ∃o,ops[i]?=some o/\AX ops e o.guard=true/\o.dst=d/\∀Z22,Yd P e bx Z22 o.op o.type v:=by
 unfold qv at h;cases ho:ops[i]? with
 | none=>simp[ho]at h
 | some o=>
  simp only[ho]at h;cases hw:AX ops e o.guard with
  | false=>simp[hw]at h
  | true=>
   simp only[hw]at h;refine⟨o,rfl,hw,?_⟩;cases Ii:o.op<;>simp only[Ii]at h<;>try (cases h;done)
   case move x=>cases h;exact⟨rfl,λZ22=>Y.move rfl⟩
   case assign x=>cases h;exact⟨rfl,λZ22=>Y.assign rfl⟩
   case pick z x y=>
    split at h
    .rename_i hz;cases h;exact⟨rfl,λZ22=>Y.ABb hz rfl⟩
    .rename_i hz;cases h;exact⟨rfl,λZ22=>Y.ABc hz rfl⟩
    .cases h
   case extract x j=>
    split at h
    .rename_i vs A;split at h
     .rename_i u hu;cases h;exact⟨rfl,λZ22=>Y.extract A hu⟩
     .cases h
    .cases h
   case unOp u T x=>
    split at h
    .rename_i b A;cases h;exact⟨rfl,λZ22=>Y.not A⟩
    .cases h
   case binOp b T x y T'=>
    split at h
    .rename_i k a k' c A G;split at h
     .cases h
     .rename_i hk;have hk:=AfS hk;subst hk;cases b<;>simp only at h<;>cases h
      .exact⟨rfl,λZ22=>Y.eql A G⟩
      .exact⟨rfl,λZ22=>Y.neq A G⟩
      .exact⟨rfl,λZ22=>Y.lss A G⟩
      .exact⟨rfl,λZ22=>Y.leq A G⟩
      .exact⟨rfl,λZ22=>Y.gtr A G⟩
      .exact⟨rfl,λZ22=>Y.geq A G⟩
    .cases h
def nv (ops:Array Oper)(i:Nat)(e:Env):Option (Option Nat):=
 match ops[i]? with
 | none=>none
 | some o=>match AX ops e o.guard with
  | true=>none
  | false=>some o.dst
theorem AIE {ops:Array Oper}{i:Nat}{e:Env}{d:Option Nat}(h:nv ops i e=some d):∃o,ops[i]?=some o/\AX ops e o.guard=false/\o.dst=d:=by
 unfold nv at h;cases G:ops[i]? with
 | none=>simp[G]at h
 | some o=>
  simp only[G]at h;cases A:AX ops e o.guard with
  | true=>simp[A]at h
  | false=>simp only[A]at h;cases h;exact⟨o,rfl,A,rfl⟩
theorem EI {ops:Array Oper}{i:Nat}{o:Oper}(h:ops[i]?=some o):sig ops i=some (o.dst,o.op,o.type,o.guard):=by simp[sig,h]
section
variable {g:Gl}{ops:Array Oper}{q:KH}{i:Nat}{is:List Nat}{r:List (Nat×Bool)}{e:Env}{bx:Bx}{Z22:Hp}{K:Env->Bx->Hp->Prop}{k:List Item}{c:Code}
theorem Seq.u (d:Nat)(v:Value)(h:Seq g ops is (put e (some d) v) bx Z22 K)(hq:qv g.P ops i e=some (some d,v):=by kernel_rfl)(hd:Nat.blt d g.n=true:=by rfl):Seq g ops (i::is) e bx Z22 K:=by
 obtain⟨o,ho,hw,G,hy⟩:=ABi (bx:=bx) hq;have A:=EI ho;rw[G]at A;exact Seq.yg A hw hd (hy Z22) h
def AIF (e:Env):List (Nat×Value)->Env
 | []=>e
 | (d,v)::l=>AIF (put e (some d) v) l
def Qs (P:Program)(ops:Array Oper):List Nat->List (Nat×Value)->Env->List (Option (Option Nat×Value))
 | _,[],_=>[]
 | i::is,(d,v)::l,e=>qv P ops i e::Qs P ops is l (put e (some d) v)
 | [],_::_,_=>[none]
theorem Seq.us (l:List (Nat×Value))(h:Seq g ops (is.drop l.length) (AIF e l) bx Z22 K)(A:Qs g.P ops is l e=l.map (λp=>some (some p.1,p.2)):=by kernel_rfl)(hd:(l.all λp=>Nat.blt p.1 g.n)=true:=by rfl):Seq g ops is e bx Z22 K:=by
 induction l generalizing is e with
 | nil=>exact h
 | cons p l G=>
  obtain⟨d,v⟩:=p;cases is with
  | nil=>simp[Qs]at A
  | cons i is=>
   simp only[Qs,AfN,Agt]at A;simp only[Agw,AfH]at hd;exact Seq.u d v (G h A.2 hd.2) A.1 hd.1
theorem Head.u (d:Nat)(v:Value)(h:Head g ops q r (put e (some d) v) bx Z22 K)(hq:qv g.P ops i e=some (some d,v):=by kernel_rfl)(hd:Nat.blt d g.n=true:=by rfl)(G:q.ok i=true:=by rfl):Head g ops q ((i,true)::r) e bx Z22 K:=by
 obtain⟨o,ho,hw,Ln,hy⟩:=ABi (bx:=bx) hq;have A:=EI ho;rw[Ln]at A;exact Head.yg A hw hd (hy _) h G
theorem Seq.n (d:Nat)(h:Seq g ops is (put e (some d) undef) bx Z22 K)(hn:nv ops i e=some (some d):=by kernel_rfl)(hd:Nat.blt d g.n=true:=by rfl):Seq g ops (i::is) e bx Z22 K:=by
 obtain⟨o,ho,hw,G⟩:=AIE hn;have A:=EI ho;rw[G]at A;exact Seq.no A hw hd h
theorem Head.n (d:Nat)(h:Head g ops q r (put e (some d) undef) bx Z22 K)(hn:nv ops i e=some (some d):=by kernel_rfl)(hd:Nat.blt d g.n=true:=by rfl)(G:q.ok i=true:=by rfl):Head g ops q ((i,true)::r) e bx Z22 K:=by
 obtain⟨o,ho,hw,Ln⟩:=AIE hn;have A:=EI ho;rw[Ln]at A;exact Head.no A hw hd h G
theorem Seq.z (d:Nat)(op:Op)(ty:TypeId)(v:Value)(G:Yd g.P e bx Z22 op ty v)(h:Seq g ops is (put e (some d) v) bx Z22 K)(A:sig ops i=some (some d,op,ty,none):=by kernel_rfl)(hd:Nat.blt d g.n=true:=by rfl):Seq g ops (i::is) e bx Z22 K:=Seq.y A hd G h
theorem Head.z (d:Nat)(op:Op)(ty:TypeId)(v:Value)(hy:Yd g.P e bx (PG q none Z22) op ty v)(h:Head g ops q r (put e (some d) v) bx Z22 K)(G:sig ops i=some (some d,op,ty,none):=by kernel_rfl)(hd:Nat.blt d g.n=true:=by rfl)(A:q.ok i=true:=by rfl):Head g ops q ((i,true)::r) e bx Z22 K:=Head.y G hd hy h A
theorem Head.zg (d:Nat)(op:Op)(ty:TypeId)(gd:Nat×Bool)(v:Value)(hy:Yd g.P e bx (PG q none Z22) op ty v)(h:Head g ops q r (put e (some d) v) bx Z22 K)(G:sig ops i=some (some d,op,ty,some gd):=by kernel_rfl)(hw:AX ops e (some gd)=true:=by rfl)(hd:Nat.blt d g.n=true:=by rfl)(A:q.ok i=true:=by rfl):Head g ops q ((i,true)::r) e bx Z22 K:=Head.yg G hw hd hy h A
theorem YO:∀{l:List (Nat×Value)},l.map (λp=>e p.1)=l.map (·.2)->Live e l
 | [],_=>trivial
 | (t,v)::l,h=>by
  simp only[AfN,Agt]at h;exact⟨h.1,YO h.2⟩
theorem At.L (l:List (Nat×Value))(h:∀J,At g k (Lm J l) bx Z22)(A:l.map (λp=>e p.1)=l.map (·.2):=by kernel_rfl):At g k e bx Z22:=At.ofL (YO A) h
theorem At.v (l:List (Nat×Value))(h:At g k (Lm e l) bx Z22)(A:l.map (λp=>e p.1)=l.map (·.2):=by kernel_rfl):At g k e bx Z22:=At.live (YO A) h
theorem At.rg (id:Nat)(l:List Nat)(h:Seq g (cO c) l e bx Z22 (λe bx Z22=>At g k e bx Z22))(A:c=.region id (cO c) false:=by kernel_rfl)(G:List.range (cO c).size=l:=by kernel_rfl):At g (.code c::k) e bx Z22:=At.region A G h
theorem At.s (x y:Code)(h:At g (.code x::.code y::k) e bx Z22)(A:c=.seq x y:=by kernel_rfl):At g (.code c::k) e bx Z22:=At.seq A h
theorem At.cT (t:Nat)(y z:Code)(h:At g (.code y::k) e bx Z22)(A:c=.cond (.tmp t) y z:=by kernel_rfl)(G:AE e (.tmp t)=.bool true:=by rfl):At g (.code c::k) e bx Z22:=At.ABZ A G h
theorem At.cF (t:Nat)(y z:Code)(h:At g (.code z::k) e bx Z22)(A:c=.cond (.tmp t) y z:=by kernel_rfl)(G:AE e (.tmp t)=.bool false:=by rfl):At g (.code c::k) e bx Z22:=At.ABa A G h
theorem At.x (i:Nat)(k':List Item)(h:At g k' e bx Z22)(A:c=.exit i:=by kernel_rfl)(G:exitTo i k=some k':=by kernel_rfl):At g (.code c::k) e bx Z22:=At.exit A G h
theorem At.b (i:Nat)(x:Code)(h:At g (.code x::.inBlock i::k) e bx Z22)(A:c=.block i x:=by kernel_rfl):At g (.code c::k) e bx Z22:=At.block A h
theorem At.rt {fn:Func}(rs:List ResultVar)(vs:List Value)(hf:g.P.funcs[g.f]?=some fn)(h:Ij g.P e bx (left g.ds Z22) rs vs)(G:g.R (.returned (UC vs)) (left g.ds Z22))
 (hc:c=Code.ret:=by kernel_rfl) (hr:fn.results=rs.toArray:=by kernel_rfl) (A:g.Hy=none:=by rfl) (hm:Marks g.ds Z22:=by trivial):At g (.code c::k) e bx Z22:=At.bY hc hf hr h G A hm
def cv (ops:Array Oper)(i:Nat)(e:Env):Option (Option Nat×FuncId×Array Value):=
 match ops[i]? with
 | none=>none
 | some o=>match AX ops e o.guard with
  | false=>none
  | true=>match o.op with
   | .call c=>(match c.callee with
    | .value x=>(match AE e x with
     | .func fn fst cap=>(match fn with
      | .func f=>some (o.dst,f,(fst.toList++(c.args.toList.map (AE e)++cap.toList)).toArray)
      | _=>none)
     | _=>none)
    | _=>none)
   | _=>none
theorem AV.cl {f:FuncId}{args:Array Value}(d:Option Nat)(AIH:∀args w,(callFunc f args).run g.P w=.ok (.enter f args) w)(h:Spec g.P f args Z22 (BI g.R λv Z'2=>K (put e d v) bx Z'2))
  (A:cv ops i e=some (d,f,args):=by kernel_rfl) (hd:HJ d g.n=true:=by rfl):AV g ops i e bx Z22 K:=by
 unfold cv at A;cases ho:ops[i]? with
 | none=>simp[ho]at A
 | some o=>
  simp only[ho]at A;cases hw:AX ops e o.guard with
  | false=>simp[hw]at A
  | true=>
   simp only[hw]at A;cases Ii:o.op<;>simp only[Ii]at A<;>try cases A
   rename_i c;split at A
   .rename_i x G;split at A
    .rename_i fn fst cap hx;split at A
     .rename_i f';simp only[AfL,Ahh]at A;obtain⟨rfl,rfl,ha⟩:=A;refine AV.call (EI ho) hw hd (λo' Cq _ w=>?_) h;obtain⟨callee,xs,ts⟩:=c;simp only at G;subst G;refine RO (x:=x) (xs:=xs) (ts:=ts) (fst:=fst) (cap:=cap) (vs:=(xs.toList.map (AE e)).toArray) AIH hx (by simp) ?_ o' (by rw[Cq,Ii]) w;rw[<-ha,<-AfM];simp
     .cases A
    .cases A
   .cases A
end
end Tw
end
section
namespace Tw
open Go
variable [I9]
inductive Ord where
 | done
 | yes (i:Nat) (r:Ord)
 | alt (i:Nat) (r s:Ord)
 | no
def Lt (g:Gl)(ops:Array Oper):Ord->KH->Env->Bx->Hp->(Env->Bx->Hp->Prop)->Prop
 | .done,_,e,bx,Z22,K=>K e bx Z22
 | .yes i r,q,e,bx,Z22,K=>∃own o v,((M8 q own).ok i&&SD ops i own)=true/\ops[i]?=some o/\((AX ops e o.guard=true/\Yd g.P e bx (PG q own Z22) o.op o.type v)\/(AX ops e o.guard=false/\v=undef))/\
  (∀t,o.dst=some t->t<g.n)/\Lt g ops r (M8 q own) (put e o.dst v) bx Z22 K
 | .alt i r s,q,e,bx,Z22,K=>(AV g ops i e bx Z22 λG A Z'2=>Ks (G5 q i) bx Z22 A Z'2/\Lt g ops r (G5 q i) G A Z'2 K)/\Lt g ops s q e bx Z22 K
 | .no,_,_,_,_,_=>True
def QC (ops:Array Oper)(n:Nat):Ord->Nat->Array Bool->List Nat->Bool
 | .done,f,A,seen=>decide (f=0)&&seen.isEmpty&&Region.seqB .any ops (ops.size-n) n A
 | .yes i r,f,A,seen=>seen.isEmpty&&decide (0<f)&&decide (i<n)&&(Region.ready .any ops A).contains i&&Region.free .any ops A i&&QC ops n r (f-1) (A.setIfInBounds i true) []
 | .alt i r s,f,A,seen=>decide (0<f)&&decide (i<n)&&(Region.ready .any ops A).contains i&&QC ops n r (f-1) (A.setIfInBounds i true) []&&QC ops n s f A (i::seen)
 | .no,f,A,seen=>decide (0<f)&&!(Region.ready .any ops A).isEmpty&&(Region.ready .any ops A).all seen.contains
def YQ (ops:Array Oper)(n:Nat)(plan:Ord)(tail:List Nat):Bool:=
 Region.noSelect ops&&(decide (n=ops.size)||(decide (n<ops.size)&&Region.sinkB .any ops n&&Region.chainB .any ops n)) &&
  decide (tail=List.range' n (ops.size-n))&&QC ops n plan n (Array.replicate ops.size false) []
section regions
variable {g:Gl}{ops:Array Oper}
theorem Il {K:Env->Bx->Hp->Prop}{w0 F}{n:Nat}{tl:List Nat}(PH:Region.noSelect ops=true)
  (H0:∀A,HeadInv .any ops n A->∀i,i<n->A.getD i true=false->∀t,n<=t->t ∉ Region.ready .any ops A)
  (Wo:tl=List.range' n (ops.size-n)) :
  ∀(plan:Ord) (f:Nat) (seen:List Nat) (q:KH) (A:Array Bool) (e:Env) (bx:Bx) (Z22:Hp) (a:Act) (w:World),HeadInv .any ops n A->QC ops n plan f A seen=true->
   St g.n g.ds w0 F e bx Z22 a w->Lt g ops plan q e bx Z22 (λe bx Z22=>Seq g ops tl e bx Z22 K)->
   (∀j∈seen,j∈Region.ready .any ops A->j<n/\wpOpIn (wd g.Hy) 0 g.P ops (Qn g w0 F K) j (λa' w'=>Sq q Z22 bx (A.setIfInBounds j true) w'/\
    Hg g.P g.Hy .any ops (Qn g w0 F K) (Sq q Z22 bx) n (λA a w=>Region.seqB .any ops (ops.size-n) n A=true/\wpOpsIn (wd g.Hy) 0 g.P ops (Qn g w0 F K) tl a w) (f-1) (A.setIfInBounds j true) a' w') a w)->
   Hg g.P g.Hy .any ops (Qn g w0 F K) (Sq q Z22 bx) n (λA a w=>Region.seqB .any ops (ops.size-n) n A=true/\wpOpsIn (wd g.Hy) 0 g.P ops (Qn g w0 F K) tl a w) f A a w
 | .done,f,seen,_,A,e,bx,Z22,a,w,_,A4,st,h,_=>by
  simp only[QC,AfH,AfQ]at A4;obtain⟨⟨rfl,_⟩,A4⟩:=A4;exact⟨A4,MW _ _ _ _ _ _ st h⟩
 | .yes i r,f,seen,q,A,e,bx,Z22,a,w,inv,A4,st,h,_=>by
  obtain⟨own,o,v,yW,ho,hy,hd,h⟩:=h;simp only[AfH]at yW;simp only[QC,AfH,AfQ]at A4;obtain⟨⟨⟨⟨⟨_,hf0⟩,Fy⟩,hr⟩,hf⟩,A4⟩:=A4;obtain⟨f,rfl⟩:∃f',f=f'+1:=⟨f-1,by omega⟩;have YI:i∈Region.ready .any ops A:=by simpa using hr
  refine Fz (S':=Sq (M8 q own) Z22 bx) (G:=λ_=>True) (λ_ _ _=>trivial) (λ_ _ _ h=>h.less) _ _ _ _ trivial ?_;refine NU (Sy:=λw=>Sat (PG q own Z22) w/\KM bx w) ho (Region.noSelect_spec PH) ?_ H0 (Sq.set yW.1) (λA w inv TY h=>Sq.own inv TY yW.2 h) Fy ?_ _ A a w inv (Region.free_spec ho hf) YI ?_ (Sq.of st.sat st.box)
   (Il PH H0 Wo r f [] _ _ _ _ _ _ _ (inv.set YI Fy) A4 (st.put o.dst v hd) h (λj hj=>by cases hj))
  .rintro c a w ⟨⟨h0,h1⟩,h2⟩
   exact⟨⟨h0,by cases Ln:o.dst<;>simpa[Act.put,Ln] using h1⟩,h2⟩
  .intro A a w hL;exact seqB_ready hL.1
  .rcases hy with ⟨hw,hy⟩|⟨hw,rfl⟩
   .exact .inl ⟨by rw[st.wanted];exact hw,λw hS=>by rw[st.eval];exact hy o rfl rfl w hS.1 hS.2⟩
   .exact .inr ⟨by rw[st.wanted];exact hw,rfl⟩
 | .alt i r s,f,seen,q,A,e,bx,Z22,a,w,inv,A4,st,h,rQ=>by
  obtain⟨h,hs⟩:=h;simp only[QC,AfH,AfQ]at A4;obtain⟨⟨⟨⟨hf0,Fy⟩,hr⟩,A4⟩,APi⟩:=A4;have YI:i∈Region.ready .any ops A:=by simpa using hr
  refine Il PH H0 Wo s f (i::seen) q A e bx Z22 a w inv APi st hs (λj hj hjr=>?_);rcases Ae5.1 hj with rfl|hj
  .refine⟨Fy,wpOpIn_mono ?_ (gn (Q:=Qx g w0 F) (λc a w h=>h) (λa w h=>h.elim) (h w0 F a w st))⟩
   rintro a' w' ⟨e',HX,Z'2,MX,hk,h'⟩
   have hl:(A.setIfInBounds j true).getD j false=true:=by
    have Aq:j<A.size:=by rw[inv.size];obtain⟨_,o,ho,_⟩:=mem_ready.1 YI;exact(AfA.1 ho).1
    simp[Aq]
   exact⟨Sq.YH hl hk (Sq.of MX.sat MX.box),Fz (S':=Sq (G5 q j) Z'2 HX) (G:=λl=>l.getD j false=true) (λ_ _ h=>getD_set_true h) (λ_ _ hg h=>Sq.YH hg hk h) _ _ _ _ hl
    (Il PH H0 Wo r (f-1) [] _ _ _ _ _ _ _ (inv.set YI Fy) A4 MX h' (λj hj=>by cases hj))⟩
  .exact rQ j hj hjr
 | .no,f,seen,q,A,e,bx,Z22,a,w,inv,A4,st,h,rQ=>by
  simp only[QC,AfH,AfQ]at A4;obtain⟨⟨hf0,AR⟩,G6⟩:=A4;obtain⟨f,rfl⟩:∃f',f=f'+1:=⟨f-1,by omega⟩;exact⟨λh0=>(by rw[h0]at AR;cases AR),λj hj=>rQ j (by simpa using Afu.1 G6 j hj) hj⟩
theorem At.AIJ {k:List Item}{e:Env}{bx:Bx}{Z22:Hp}{c:Code}{id:Nat}{n:Nat}{q:KH}{plan:Ord}{tl:List Nat}(hm:g.P.follows .mixedOrders=true)(hc:c=.region id ops true)
  (hp:YQ ops n plan tl=true)
  (h:Lt g ops plan q e bx Z22 (λe bx Z22=>Seq g ops tl e bx Z22 (λe bx Z22=>At g k e bx Z22))):At g (.code c::k) e bx Z22:=λw0 F a w st=>by
 subst hc;simp only[YQ,AfH,Ag6,AfQ]at hp;obtain⟨⟨⟨PH,hn⟩,Wo⟩,A4⟩:=hp;have rG:n<=ops.size:=by rcases hn with h|h<;>omega
 have H0:∀A,HeadInv .any ops n A->∀i,i<n->A.getD i true=false->∀t,n<=t->t ∉ Region.ready .any ops A:=by
  intro A inv i hi TY t ht;rcases hn with h|⟨⟨h1,h2⟩,h3⟩
  .intro hr;obtain⟨_,o,ho,_⟩:=mem_ready.1 hr;have:=(AfA.1 ho).1;omega
  .exact tail_waits h2 h3 h1 inv _ i rfl hi TY t ht
 have G:HeadInv .any ops n (Array.replicate ops.size false):=
  ⟨by simp,λj oj _ hl=>(by rw[getD_replicate_false]at hl;cases hl),λt _ ht=>getD_in (by simpa using ht) (getD_replicate_false _ _)⟩
 refine JA.of_wp (K:=λe bx Z22=>At g k e bx Z22) (wpIn_region_any hm ?_) (λ_ _ _ h=>h);have H:=Il (K:=λe bx Z22=>At g k e bx Z22) (tl:=tl) PH H0 Wo plan n [] q (Array.replicate ops.size false) e bx Z22 a { w with drawn:=w.drawn+1 } G A4 st.drew h (λj hj=>by cases hj);have:=Hz (g:=ops.size-n) (λA a w hL=>JB _ _ A a w hL.1 (Wo▸hL.2)) _ _ _ _ H;rw[show n+(ops.size-n)=ops.size by omega]at this;exact this
end regions
end Tw
namespace Tw
open Go
section
variable {g:Gl}{ops:Array Oper}{i:Nat}{r s:Ord}{q:KH}{e:Env}{bx:Bx}{Z22:Hp}{K:Env->Bx->Hp->Prop}{d:Option Nat}{op:Op}{ty:TypeId}{gd:Option (Nat×Bool)}{v:Value}{L:List (Nat×List Nat)}
end
end Tw
end
section
namespace Tw
open Go
variable [I9]
section
variable {g:Gl}{ops:Array Oper}{i:Nat}{e:Env}{bx:Bx}{Z22:Hp}{K:Env->Bx->Hp->Prop}{k:List Item}{c x:Code}{d:Option Nat}{gd:Option (Nat×Bool)}{ty:TypeId}
theorem bp {P:Program}{b:Frame}{a:Act}{k:List Item}{cs:List Frame}{w:World}{c:Code}:step P (lone (b.atR a (.code (.scope c)::k)) cs w)=.next (lone (b.atR a (.code c::.inScope c::k)) cs w):=rfl
theorem WH {P:Program}{b:Frame}{a:Act}{k:List Item}{cs:List Frame}{w:World}{c:Code}:step P (lone (b.atR a (.inScope c::k)) cs w)=.next (lone (b.atR a k) cs w):=rfl
theorem At.scope (A:c=Code.scope x)(h:At g (.code x::.inScope x::k) e bx Z22):At g (.code c::k) e bx Z22:=
 A▸λG F a w st=>.step (λ_ _ _=>bp) (h G F a w st)
theorem At.inScope (h:At g k e bx Z22):At g (.inScope x::k) e bx Z22:=λA F a w st=>.step (λ_ _ _=>WH) (h A F a w st)
theorem AV.panic {x:Operand}{T:TypeId}{v:Value}(hs:sig ops i=some (d,.panic x,ty,gd))(hw:AX ops e gd=true)(hx:AE e x=.iface T v)(G:g.Hy=none)(h2:g.ds=[])
  (h:g.R (.panicked [{ v:=.iface T v,recovered:=false }]) Z22):AV g ops i e bx Z22 K:=by
 intro w0 F a w st;obtain⟨o,ho,rfl,A,DG,rfl⟩:=Bt hs;refine Cv ho (by rw[st.wanted];exact hw) ?_;rw[st.eval];have Cd:(o.semAt g.Hy (AE e)).run g.P w=.halt (.panic (.iface T v)) w:=by
  rw[G,Oper.semAt_eq none (AE e) o (λc hc=>by rw[A]at hc;cases hc)];simp[execOp,A,hx,Instr.panic,goPanic,Sem.run]
 rw[Cd];exact⟨⟨G,st.defers.trans h2⟩,Z22,h,st.toFin⟩
theorem gy {x:Operand}{u:Value}{ts:Array TypeId}(hx:AE e x=u)(o:Oper)(A:o.op=.call { callee:=.builtin .len,args:=#[x],argTypes:=ts })(G:o.type=ty):execOp (AE e) o=(do pure (.value (<-Builtin.len_ ts ty #[u]))):=by
 subst G;simp[execOp,A,resolve,invoke,builtin,hx]
def isIf:TypeDesc->Bool
 | .interface _=>true
 | _=>false
theorem Y.iface {P:Program}{T:TypeId}{A:TypeDesc}{x:Operand}{v:Value}(G:P.underlying T=some A)(hd:isIf A=false)(hx:AE e x=v):Yd P e bx Z22 (.makeInterface T x) ty (.iface T v):=λoo ho _ w _ _=>by
 cases A<;>simp[isIf]at hd<;>simp[execOp,ho,hx,Instr.makeInterface,run_underlying G]
theorem Y.APj {P:Program}{T T':TypeId}{x y:Operand}{a b:ByteArray}(hT:P.underlying T=some .string)(hx:AE e x=.string a)(hy:AE e y=.string b)(hs:a.size+b.size<=9223372036854775807):Yd P e bx Z22 (.binOp .add T x y T') ty (.string (a++b)):=λoo G _ w _ _=>by
 have A:(a.size:Int)+(b.size:Int)<=9223372036854775807:=by omega
 simp[execOp,G,hx,hy,eqGuard_add,binOp,Op.stringOp,A]
end
end Tw
end
section
namespace Tw
open Go
variable [I9]
def nth {α:Type}(d:α):List α->Nat->α
 | [],_=>d
 | x::_,0=>x
 | _::l,n+1=>nth d l n
theorem Mb {α:Type}{d:α}:∀{l m:List α} {i:Nat},i<l.length->nth d (l++m) i=nth d l i
 | x::l,m,0,_=>rfl
 | x::l,m,i+1,h=>by simp only[Af3,nth];exact Mb (by simpa using h)
theorem Mc {α:Type}{d x:α}:∀{l:List α},nth d (l++[x]) l.length=x
 | []=>rfl
 | _::l=>Mc (l:=l)
inductive BK where
 | prop (P:Prop) (i:Decidable P)
 | var (b:Bool)
def BK.val:BK->Bool
 | .prop P i=>@decide P i
 | .var b=>b
def BK.yes:BK->Prop
 | .prop P _=>P
 | .var b=>b=true
def BK.no:BK->Prop
 | .prop P _=>¬P
 | .var b=>b=false
theorem BK.rR {k:BK}(h:k.val=true):k.yes:=by
 cases k with
 | prop P i=>exact @AfS P i h
 | var b=>exact h
theorem BK.ABj {k:BK}(h:k.val=false):k.no:=by
 cases k with
 | prop P i=>exact @Aff P i h
 | var b=>exact h
structure Vl where
 ρ:List (Option Addr)
 β:List BK
 δ:List Nat
inductive PV where
 | lit (p:Option Addr)
 | var (i:Nat)
 | at (b o:Nat)
 | bx (i o:Nat)
def PV.den (v:Vl):PV->Option Addr
 | .lit p=>p
 | .var i=>nth none v.ρ i
 | .at b o=>some ⟨b,o,none⟩
 | .bx i o=>some ⟨nth 0 v.δ i,o,none⟩
def PV.ok (v:Vl):PV->Bool
 | .var i=>Nat.blt i v.ρ.length
 | .bx i _=>Nat.blt i v.δ.length
 | _=>true
inductive Cr where
 | int (k:IntKind) (x:Int)
 | num (k:IntKind) (x:Int)
 | bl (b:Bool)
 | bs (i:Nat) (neg:Bool)
 | str (s:ByteArray)
 | sl (p:PV) (n c:Nat)
 | pt (p:PV)
 | fn (f:Nat) (fst cap:Array Value)
 | mp (m:Option Nat)
 | un
 | raw (v:Value)
def Cr.den (v:Vl):Cr->Value
 | .int k x=>.int k x
 | .num k x=>.int k x
 | .bl b=>.bool b
 | .bs i false=>.bool (nth (.var false) v.β i).val
 | .bs i true=>.bool (!(nth (.var false) v.β i).val)
 | .str s=>.string s
 | .sl p n c=>.slice (p.den v) n c
 | .pt p=>.pointer (p.den v)
 | .fn f a b=>.func (.func f) a b
 | .mp m=>.map m
 | .un=>undef
 | .raw x=>x
def Cr.ok (v:Vl):Cr->Bool
 | .bs i _=>Nat.blt i v.β.length
 | .sl p _ _=>p.ok v
 | .pt p=>p.ok v
 | _=>true
inductive Ht where
 | a (x:Cr)
 | agg (l:List Cr)
def Bc (v:Vl):List Cr->List Value
 | []=>[]
 | x::l=>x.den v::Bc v l
def oks (v:Vl):List Cr->Bool
 | []=>true
 | x::l=>x.ok v&&oks v l
def Ht.den (v:Vl):Ht->Value
 | .a x=>x.den v
 | .agg l=>.agg (Bc v l).toArray
def Ht.ok (v:Vl):Ht->Bool
 | .a x=>x.ok v
 | .agg l=>oks v l
inductive SV where
 | v (x:Ht)
 | Wv (l:List Ht)
def Im (v:Vl):List Ht->List Value
 | []=>[]
 | x::l=>x.den v::Im v l
def yb (v:Vl):List Ht->Bool
 | []=>true
 | x::l=>x.ok v&&yb v l
def SV.den (v:Vl):SV->Value
 | .v x=>x.den v
 | .Wv l=>.tuple (Im v l).toArray
def SV.ok (v:Vl):SV->Bool
 | .v x=>x.ok v
 | .Wv l=>yb v l
abbrev SV.at (x:Cr):SV:=.v (.a x)
structure Vl.le (v w:Vl):Prop where
 ρ:∀i,i<v.ρ.length->nth none w.ρ i=nth none v.ρ i
 β:∀i,i<v.β.length->nth (.var false) w.β i=nth (.var false) v.β i
 δ:∀i,i<v.δ.length->nth 0 w.δ i=nth 0 v.δ i
theorem Vl.le.refl (v:Vl):v.le v:=⟨λ_ _=>rfl,λ_ _=>rfl,λ_ _=>rfl⟩
theorem PV.JD {v w:Vl}(h:v.le w){p:PV}(hp:p.ok v=true):p.den w=p.den v:=by
 cases p with
 | var i=>exact h.ρ i (Afh hp)
 | bx i o=>simp only[PV.den];rw[h.δ i (Afh hp)]
 | _=>rfl
theorem Cr.JD {v w:Vl}(h:v.le w){x:Cr}(hp:x.ok v=true):x.den w=x.den v:=by
 cases x with
 | bs i n=>cases n<;>simp only[Cr.den]<;>rw[h.β i (Afh hp)]
 | sl p n c=>simp only[Cr.den];rw[PV.JD h hp]
 | pt p=>simp only[Cr.den];rw[PV.JD h hp]
 | _=>rfl
theorem Tc {v w:Vl}(h:v.le w):∀{l:List Cr},oks v l=true->Bc w l=Bc v l
 | [],_=>rfl
 | x::l,hp=>by
  simp only[oks,AfH]at hp;simp only[Bc];rw[Cr.JD h hp.1,Tc h hp.2]
theorem Ht.JD {v w:Vl}(h:v.le w){x:Ht}(hp:x.ok v=true):x.den w=x.den v:=by
 cases x with
 | a x=>exact Cr.JD h hp
 | agg l=>simp only[Ht.den];rw[Tc h hp]
theorem bq {v w:Vl}(h:v.le w):∀{l:List Ht},yb v l=true->Im w l=Im v l
 | [],_=>rfl
 | x::l,hp=>by
  simp only[yb,AfH]at hp;simp only[Im];rw[Ht.JD h hp.1,bq h hp.2]
theorem SV.JD {v w:Vl}(h:v.le w){x:SV}(hp:x.ok v=true):x.den w=x.den v:=by
 cases x with
 | v x=>exact Ht.JD h hp
 | Wv l=>simp only[SV.den];rw[bq h hp]
def PV.sub (i b o:Nat):PV->PV
 | .var j=>bif Nat.beq j i then .at b o else .var j
 | p=>p
inductive H5 where
 | ptr (i b o:Nat)
 | bool (i:Nat) (t:Bool)
def PV.tell:H5->PV->PV
 | .ptr i b o,p=>p.sub i b o
 | .bool ..,p=>p
def Cr.tell (t:H5):Cr->Cr
 | .bs j n=>match t with
  | .bool i b=>bif Nat.beq j i then .bl (bif n then !b else b) else .bs j n
  | _=>.bs j n
 | .sl p n c=>.sl (p.tell t) n c
 | .pt p=>.pt (p.tell t)
 | x=>x
def H5.holds (v:Vl):H5->Prop
 | .ptr i b o=>nth none v.ρ i=some ⟨b,o,none⟩
 | .bool i t=>(nth (.var false) v.β i).val=t
theorem PV.FA {v:Vl}{t:H5}(h:t.holds v){p:PV}:(p.tell t).den v=p.den v:=by
 cases t with
 | bool i t=>rfl
 | ptr i b o=>
  cases p with
  | var j=>
   simp only[PV.tell,PV.sub];cases A:Nat.beq j i with
   | true=>have:=Afm A;subst this;exact h.symm
   | false=>rfl
  | _=>rfl
theorem Cr.FA {v:Vl}{t:H5}(h:t.holds v){x:Cr}:(x.tell t).den v=x.den v:=by
 cases x with
 | bs j n=>
  cases t with
  | ptr i b o=>rfl
  | bool i b=>
   simp only[Cr.tell];cases A:Nat.beq j i with
   | true=>
    have:=Afm A;subst this;simp only[H5.holds]at h;cases n<;>simp only[Cr.den,Ah2,AhX,h]
   | false=>rfl
 | sl p n c=>simp only[Cr.tell,Cr.den];rw[PV.FA h]
 | pt p=>simp only[Cr.tell,Cr.den];rw[PV.FA h]
 | _=>rfl
def tells (t:H5):List Cr->List Cr
 | []=>[]
 | x::l=>x.tell t::tells t l
theorem RQ {v:Vl}{t:H5}(h:t.holds v):∀{l:List Cr},Bc v (tells t l)=Bc v l
 | []=>rfl
 | x::l=>by simp only[tells,Bc];rw[Cr.FA h,RQ h]
def Ht.tell (t:H5):Ht->Ht
 | .a x=>.a (x.tell t)
 | .agg l=>.agg (tells t l)
theorem Ht.FA {v:Vl}{t:H5}(h:t.holds v){x:Ht}:(x.tell t).den v=x.den v:=by
 cases x with
 | a x=>exact Cr.FA h
 | agg l=>simp only[Ht.tell,Ht.den];rw[RQ h]
def YR (t:H5):List Ht->List Ht
 | []=>[]
 | x::l=>x.tell t::YR t l
theorem UH {v:Vl}{t:H5}(h:t.holds v):∀{l:List Ht},Im v (YR t l)=Im v l
 | []=>rfl
 | x::l=>by simp only[YR,Im];rw[Ht.FA h,UH h]
def SV.tell (t:H5):SV->SV
 | .v x=>.v (x.tell t)
 | .Wv l=>.Wv (YR t l)
theorem SV.FA {v:Vl}{t:H5}(h:t.holds v){x:SV}:(x.tell t).den v=x.den v:=by
 cases x with
 | v x=>exact Ht.FA h
 | Wv l=>simp only[SV.tell,SV.den];rw[UH h]
abbrev Gj:=Nat×TypeId×List Cr
structure S where
 env:List (Nat×SV)
 bx:List Gj
 vl:Vl
 Z22:Hp
def IX (v:Vl):List (Nat×SV)->List (Nat×Value)
 | []=>[]
 | (t,x)::l=>(t,x.den v)::IX v l
def okE (v:Vl):List (Nat×SV)->Bool
 | []=>true
 | (_,x)::l=>x.ok v&&okE v l
def kg (t:H5):List (Nat×SV)->List (Nat×SV)
 | []=>[]
 | (s,x)::l=>(s,x.tell t)::kg t l
def F1 (v:Vl):List Gj->Bx
 | []=>[]
 | (i,t,cs)::l=>(nth 0 v.δ i,.cells (Bc v cs).toArray t (0,0))::F1 v l
def okB (v:Vl):List Gj->Bool
 | []=>true
 | (i,_,cs)::l=>Nat.blt i v.δ.length&&oks v cs&&okB v l
def kh (t:H5):List Gj->List Gj
 | []=>[]
 | (i,T,cs)::l=>(i,T,tells t cs)::kh t l
def S.e (J:Env)(s:S):Env:=Lm J (IX s.vl s.env)
def S.b (s:S):Bx:=F1 s.vl s.bx
def S.ok (s:S):Bool:=okE s.vl s.env&&okB s.vl s.bx
def S.tell (s:S)(t:H5):S:=⟨kg t s.env,kh t s.bx,s.vl,s.Z22⟩
def S.w (s:S)(v:Vl):S:=⟨s.env,s.bx,v,s.Z22⟩
def S.put (s:S)(d:Option Nat)(x:SV):S:=match d with
 | some d=>⟨(d,x)::s.env,s.bx,s.vl,s.Z22⟩
 | none=>s
def S.hp (s:S)(Z22:Hp):S:=⟨s.env,s.bx,s.vl,Z22⟩
theorem ki {v w:Vl}(h:v.le w):∀{l:List (Nat×SV)},okE v l=true->IX w l=IX v l
 | [],_=>rfl
 | (t,x)::l,hp=>by
  simp only[okE,AfH]at hp;simp only[IX];rw[SV.JD h hp.1,ki h hp.2]
theorem kj {v w:Vl}(h:v.le w):∀{l:List Gj},okB v l=true->F1 w l=F1 v l
 | [],_=>rfl
 | (i,t,cs)::l,hp=>by
  simp only[okB,AfH]at hp;simp only[F1];rw[Tc h hp.1.2,kj h hp.2,h.δ i (Afh hp.1.1)]
theorem Ww {v:Vl}{t:H5}(h:t.holds v):∀{l:List (Nat×SV)},IX v (kg t l)=IX v l
 | []=>rfl
 | (s,x)::l=>by simp only[kg,IX];rw[SV.FA h,Ww h]
theorem Wx {v:Vl}{t:H5}(h:t.holds v):∀{l:List Gj},F1 v (kh t l)=F1 v l
 | []=>rfl
 | (i,T,cs)::l=>by simp only[kh,F1];rw[RQ h,Wx h]
theorem S.e_w {J:Env}{s:S}{v:Vl}(A:s.ok=true)(h:s.vl.le v):(s.w v).e J=s.e J:=by
 simp only[S.ok,AfH]at A;simp only[S.e,S.w,ki h A.1]
theorem S.b_w {s:S}{v:Vl}(A:s.ok=true)(h:s.vl.le v):(s.w v).b=s.b:=by
 simp only[S.ok,AfH]at A;simp only[S.b,S.w,kj h A.2]
theorem S.AD1 {J:Env}{s:S}{t:H5}(h:t.holds s.vl):(s.tell t).e J=s.e J:=by
 simp only[S.e,S.tell,Ww h]
theorem S.AD2 {s:S}{t:H5}(h:t.holds s.vl):(s.tell t).b=s.b:=by
 simp only[S.b,S.tell,Wx h]
theorem S.JZ {J:Env}{s:S}{d:Option Nat}{x:SV}:(s.put d x).e J=Tw.put (s.e J) d (x.den s.vl):=by
 cases d<;>rfl
theorem S.Ja {s:S}{d:Option Nat}{x:SV}:(s.put d x).b=s.b:=by cases d<;>rfl
theorem S.Gk {s:S}{d:Option Nat}{x:SV}:(s.put d x).Z22=s.Z22:=by cases d<;>rfl
def YS:List (Nat×SV)->Nat->Option SV
 | [],_=>none
 | (t,x)::l,i=>bif Nat.beq i t then some x else YS l i
theorem Fb {v:Vl}{J:Env}:∀{l:List (Nat×SV)} {i:Nat} {x:SV},YS l i=some x->Lm J (IX v l) i=x.den v
 | (t,y)::l,i,x,h=>by
  simp only[YS]at h;simp only[IX,Lm,xT];cases hi:Nat.beq i t with
  | true=>rw[hi]at h;simp only[Ah2]at h ⊢;cases h;rfl
  | false=>rw[hi]at h;simp only[AhX]at h ⊢;exact Fb h
def AD3:Value->Cr
 | .int k x=>.num k x
 | .bool b=>.bl b
 | .string s=>.str s
 | .slice p n c=>.sl (.lit p) n c
 | .pointer p=>.pt (.lit p)
 | .map m=>.mp m
 | v=>.raw v
theorem bu {vl:Vl}(v:Value):(AD3 v).den vl=v:=by cases v<;>rfl
def SG:List Value->List Cr
 | []=>[]
 | x::l=>AD3 x::SG l
theorem Jb {vl:Vl}:∀l:List Value,Bc vl (SG l)=l
 | []=>rfl
 | x::l=>by simp only[SG,Bc];rw[bu,Jb]
def rS:Value->Ht
 | .agg cs=>.agg (SG cs.toList)
 | v=>.a (AD3 v)
theorem bz {vl:Vl}(v:Value):(rS v).den vl=v:=by
 cases v
 case agg cs=>simp only[rS,Ht.den,Jb]
 all_goals (simp only[rS,Ht.den];exact bu _)
def ko:List Value->List Ht
 | []=>[]
 | x::l=>rS x::ko l
theorem Wy {vl:Vl}:∀l:List Value,Im vl (ko l)=l
 | []=>rfl
 | x::l=>by simp only[ko,Im];rw[bz,Wy]
def svV:Value->SV
 | .tuple vs=>.Wv (ko vs.toList)
 | v=>.v (rS v)
theorem yc {vl:Vl}(v:Value):(svV v).den vl=v:=by
 cases v
 case tuple cs=>simp only[svV,SV.den,Wy]
 all_goals (simp only[svV,SV.den];exact bz _)
def S.op (s:S):Operand->Option SV
 | .tmp t=>YS s.env t
 | .const v=>some (svV v)
 | .func f=>some (.at (.fn f #[] #[]))
 | .global g=>some (.at (.pt (.at g 0)))
theorem S.yd {J:Env}{s:S}{x:Operand}{v:SV}(h:s.op x=some v):AE (s.e J) x=v.den s.vl:=by
 cases x with
 | tmp t=>exact Fb h
 | const c=>simp only[S.op,AfL]at h;subst h;exact(yc c).symm
 | func f=>simp only[S.op,AfL]at h;subst h;rfl
 | global g=>simp only[S.op,AfL]at h;subst h;rfl
def Vl.rT (v:Vl)(p:Option Addr):Vl:=⟨v.ρ++[p],v.β,v.δ⟩
def Vl.iA (v:Vl)(k:BK):Vl:=⟨v.ρ,v.β++[k],v.δ⟩
def Vl.ye (v:Vl)(b:Nat):Vl:=⟨v.ρ,v.β,v.δ++[b]⟩
theorem Vl.yf (v:Vl)(p:Option Addr):v.le (v.rT p):=⟨λ_ h=>Mb h,λ_ _=>rfl,λ_ _=>rfl⟩
theorem Vl.kt (v:Vl)(k:BK):v.le (v.iA k):=⟨λ_ _=>rfl,λ_ h=>Mb h,λ_ _=>rfl⟩
theorem Vl.yh (v:Vl)(b:Nat):v.le (v.ye b):=⟨λ_ _=>rfl,λ_ _=>rfl,λ_ h=>Mb h⟩
theorem Vl.le.trans {u v w:Vl}(h:u.le v)(g:v.le w)(A:u.ρ.length<=v.ρ.length/\u.β.length<=v.β.length/\u.δ.length<=v.δ.length):u.le w:=
 ⟨λi hi=>(g.ρ i (by omega)).trans (h.ρ i hi),λi hi=>(g.β i (by omega)).trans (h.β i hi),λi hi=>(g.δ i (by omega)).trans (h.δ i hi)⟩
end Tw
end
section
namespace Tw
open Go
variable [I9]
structure S.Same (s s':S):Prop where
 e:∀J,s'.e J=s.e J
 b:s'.b=s.b
 Z22:s'.Z22=s.Z22
theorem S.Same.refl (s:S):s.Same s:=⟨λ_=>rfl,rfl,rfl⟩
theorem S.Same.trans {s G A:S}(h:s.Same G)(g:G.Same A):s.Same A:=⟨λJ=>(g.e J).trans (h.e J),g.b.trans h.b,g.Z22.trans h.Z22⟩
theorem S.UI {s:S}{v:Vl}(A:s.ok=true)(h:s.vl.le v):s.Same (s.w v):=⟨λJ=>S.e_w A h,S.b_w A h,rfl⟩
theorem S.Jc {s:S}{t:H5}(h:t.holds s.vl):s.Same (s.tell t):=⟨λJ=>S.AD1 h,S.AD2 h,rfl⟩
def S.boo (s:S)(k:BK)(neg:Bool)(K:SV->S->Prop):Prop:=
 match s.ok with
 | true=>K (.at (.bs s.vl.β.length neg)) (s.w (s.vl.iA k))
 | false=>False
theorem S.nW {s:S}{k:BK}{neg:Bool}{K:SV->S->Prop}(h:s.boo k neg K):∃v G,s.Same G/\v.den G.vl=.bool (bif neg then !k.val else k.val)/\K v G:=by
 unfold S.boo at h;cases A:s.ok with
 | false=>rw[A]at h;cases h
 | true=>
  rw[A]at h;refine⟨_,_,S.UI A (Vl.kt _ _),?_,h⟩;cases neg<;>simp only[SV.den,Ht.den,Cr.den,S.w,Vl.iA,Mc,Ah2,AhX]
def S.onB (s:S)(i:Nat)(neg:Bool)(K:Bool->S->Prop):Prop:=
 match neg with
 | false=>((nth (.var false) s.vl.β i).yes->K true (s.tell (.bool i true)))/\((nth (.var false) s.vl.β i).no->K false (s.tell (.bool i false)))
 | true=>((nth (.var false) s.vl.β i).no->K true (s.tell (.bool i false)))/\((nth (.var false) s.vl.β i).yes->K false (s.tell (.bool i true)))
theorem S.nX {s:S}{i:Nat}{neg:Bool}{K:Bool->S->Prop}(h:s.onB i neg K):∃t A,s.Same A/\A.vl=s.vl/\(Cr.bs i neg).den s.vl=.bool t/\K t A:=by
 cases hb:(nth (.var false) s.vl.β i).val with
 | true=>
  cases neg with
  | false=>exact⟨true,_,S.Jc (t:=.bool i true) hb,rfl,by simp only[Cr.den,hb],h.1 (BK.rR hb)⟩
  | true=>exact⟨false,_,S.Jc (t:=.bool i true) hb,rfl,by simp only[Cr.den,hb];rfl,h.2 (BK.rR hb)⟩
 | false=>
  cases neg with
  | false=>exact⟨false,_,S.Jc (t:=.bool i false) hb,rfl,by simp only[Cr.den,hb],h.2 (BK.ABj hb)⟩
  | true=>exact⟨true,_,S.Jc (t:=.bool i false) hb,rfl,by simp only[Cr.den,hb];rfl,h.1 (BK.ABj hb)⟩
def S.yi (s:S)(v:Option SV)(K:Bool->S->Prop):Prop:=
 match v with
 | some (.v (.a (.bl b)))=>K b s
 | some (.v (.a (.bs i n)))=>s.onB i n K
 | _=>False
theorem S.Gn {s:S}{v:Option SV}{K:Bool->S->Prop}(h:s.yi v K):∃t A x,s.Same A/\A.vl=s.vl/\v=some x/\x.den s.vl=.bool t/\K t A:=by
 unfold S.yi at h;split at h
 .exact⟨_,s,_,.refl s,rfl,rfl,rfl,h⟩
 .obtain⟨t,A,G,h2,h3,h4⟩:=S.nX h;exact⟨t,A,_,G,h2,rfl,h3,h4⟩
 .cases h
def S.onP (s:S)(p:PV)(K:PV->S->Prop):Prop:=
 match p with
 | .at b o=>K (.at b o) s
 | .bx i o=>K (.bx i o) s
 | .var i=>∃(b o:Nat),nth none s.vl.ρ i=some ⟨b,o,none⟩/\K (.at b o) (s.tell (.ptr i b o))
 | .lit _=>False
def PV.FB (v:Vl):PV->Nat
 | .at b _=>b
 | .bx i _=>nth 0 v.δ i
 | _=>0
def PV.off:PV->Nat
 | .at _ o=>o
 | .bx _ o=>o
 | _=>0
def PV.mv:PV->Nat->PV
 | .at b _,o=>.at b o
 | .bx i _,o=>.bx i o
 | p,_=>p
def PV.isA:PV->Bool
 | .at ..=>true
 | .bx ..=>true
 | _=>false
theorem PV.KQ {v:Vl}{p:PV}(h:p.isA=true):p.den v=some ⟨p.FB v,p.off,none⟩:=by cases p<;>first|rfl|cases h
theorem PV.iB {v:Vl}{p:PV}{o:Nat}(h:p.isA=true):(p.mv o).den v=some ⟨p.FB v,o,none⟩:=by cases p<;>first|rfl|cases h
theorem S.Wz {s:S}{p:PV}{K:PV->S->Prop}(h:s.onP p K):∃q A,s.Same A/\A.vl=s.vl/\q.isA=true/\q.den s.vl=p.den s.vl/\K q A:=by
 unfold S.onP at h;split at h
 .exact⟨_,s,.refl s,rfl,rfl,rfl,h⟩
 .exact⟨_,s,.refl s,rfl,rfl,rfl,h⟩
 .obtain⟨b,o,G,h2⟩:=h;exact⟨.at b o,_,S.Jc (t:=.ptr _ b o) G,rfl,rfl,G.symm,h2⟩
 .cases h
def cA (P:Program)(t:TypeId):Option Nat:=(P.info? t).map (·.size)
theorem De {P:Program}{t:TypeId}{n:Nat}(h:cA P t=some n):∀w,(Go.sizeOf t).run P w=.ok n w:=λw=>by
 unfold cA at h;cases hi:P.info? t with
 | none=>rw[hi]at h;cases h
 | some i=>rw[hi]at h;simp only[Afv,AfL]at h;subst h;simp[Go.sizeOf,typeInfo,hi]
def cB (P:Program)(t:TypeId):Option Bool:=match P.underlying t with
 | some (.struct _)=>some true
 | some (.array _ _)=>some true
 | some _=>some false
 | none=>none
theorem F3 {P:Program}{t:TypeId}{b:Bool}(h:cB P t=some b):∀w,(isAgg t).run P w=.ok b w:=λw=>by
 unfold cB at h;cases hi:P.underlying t with
 | none=>rw[hi]at h;cases h
 | some d=>
  rw[hi]at h;cases d<;>simp only[AfL]at h<;>subst h<;>simp[isAgg,run_underlying hi]
def ay:Option SV->Option (IntKind×Int)
 | some (.v (.a (.int k x)))=>some (k,x)
 | some (.v (.a (.num k x)))=>some (k,x)
 | _=>none
theorem Cw {v:Option SV}{k:IntKind}{x:Int}(h:ay v=some (k,x)):∃u,v=some u/\∀vl,u.den vl=.int k x:=by
 unfold ay at h;split at h
 .cases h;exact⟨_,rfl,λ_=>rfl⟩
 .cases h;exact⟨_,rfl,λ_=>rfl⟩
 .cases h
def YP (P:Program)(op:Op)(ty:TypeId)(s:S)(K:SV->S->Prop):Prop:=∃v A,s.Same A/\(∀J Z22,Yd P (s.e J) s.b Z22 op ty (v.den A.vl))/\K v A
def RR (wr:Bool)(k:IntKind)(z:Int)(s:S)(K:SV->S->Prop):Prop:=
 match wr,k with
 | false,.i64=>AK z/\K (.at (.int .i64 z)) s
 | _,_=>∀x,x=k.wrap z->K (.at (.int k x)) s
theorem YT {wr:Bool}{k:IntKind}{z:Int}{s:S}{K:SV->S->Prop}(h:RR wr k z s K):∃x,x=k.wrap z/\K (.at (.int k x)) s:=by
 unfold RR at h;split at h
 .exact⟨z,h.1.wrap.symm,h.2⟩
 .exact⟨_,rfl,h _ rfl⟩
def AD5 (wr:Bool)(b:BinOp)(k:IntKind)(a:Int)(k':IntKind)(c:Int)(s:S)(K:SV->S->Prop):Prop:=
 match b with
 | .shl=>((0:Int)<=c/\c<=((IntKind.bits k:Nat):Int))/\∀x,x=k.wrap (a*2^c.toNat)->K (.at (.int k x)) s
 | .shr=>((0:Int)<=c/\c<=((IntKind.bits k:Nat):Int))/\∀x,x=a/2^c.toNat->K (.at (.int k x)) s
 | b=>match decide (k=k') with
  | false=>False
  | true=>match b with
   | .lss=>s.boo (.prop (a<c) inferInstance) false K
   | .leq=>s.boo (.prop (a<=c) inferInstance) false K
   | .gtr=>s.boo (.prop (c<a) inferInstance) false K
   | .geq=>s.boo (.prop (c<=a) inferInstance) false K
   | .eql=>s.boo (.prop (a=c) inferInstance) false K
   | .neq=>s.boo (.prop (a≠c) inferInstance) false K
   | .add=>RR wr k (a+c) s K
   | .sub=>RR wr k (a-c) s K
   | .mul=>RR wr k (a*c) s K
   | .and=>∀x,x=Go.bits .and k a c->K (.at (.int k x)) s
   | .or=>∀x,x=Go.bits .or k a c->K (.at (.int k x)) s
   | .xor=>∀x,x=Go.bits .xor k a c->K (.at (.int k x)) s
   | .andNot=>∀x,x=Go.bits .andNot k a c->K (.at (.int k x)) s
   | .quo=>c≠(0:Int)/\∀x,x=k.wrap (a.tdiv c)->K (.at (.int k x)) s
   | .rem=>c≠(0:Int)/\∀x,x=a.tmod c->K (.at (.int k x)) s
   | _=>False
section
variable {P:Program}{s:S}{K:SV->S->Prop}{T T' ty:TypeId}{x y z:Operand}
theorem JE {op:Op}{k:BK}{neg:Bool}(h:s.boo k neg K)(hy:∀J Z22,Yd P (s.e J) s.b Z22 op ty (.bool (bif neg then !k.val else k.val))):YP P op ty s K:=by
 obtain⟨v,s',A,G,h3⟩:=S.nW h;exact⟨v,s',A,λJ Z22=>by rw[G];exact hy J Z22,h3⟩
theorem JF {op:Op}{k:IntKind}{z:Int}(h:∀x,x=z->K (.at (.int k x)) s)(A:∀J Z22,Yd P (s.e J) s.b Z22 op ty (.int k z)):YP P op ty s K:=
 ⟨.at (.int k z),s,.refl s,A,h _ rfl⟩
theorem Ce {op:Op}{v:SV}(h:K v s)(A:∀J Z22,Yd P (s.e J) s.b Z22 op ty (v.den s.vl)):YP P op ty s K:=⟨v,s,.refl s,A,h⟩
theorem iC {wr:Bool}{b:BinOp}{k k':IntKind}{a c:Int}(h:AD5 wr b k a k' c s K)(G:∀J,AE (s.e J) x=.int k a)(A:∀J,AE (s.e J) y=.int k' c):YP P (.binOp b T x y T') ty s K:=by
 have ar:∀{z:Int} {op:Op},RR wr k z s K->(∀J Z22,Yd P (s.e J) s.b Z22 op ty (.int k (k.wrap z)))->YP P op ty s K:=λh A=>by
  obtain⟨x,rfl,h⟩:=YT h;exact Ce h A
 unfold AD5 at h;split at h
 .exact JF h.2 λJ Z22=>Y.shl h.1.1 h.1.2 (G J) (A J)
 .exact JF h.2 λJ Z22=>Y.shr h.1.1 h.1.2 (G J) (A J)
 .split at h
  .cases h
  .rename_i hk;have hk:=AfS hk;subst hk;split at h
   .exact JE h λJ Z22=>Y.lss (G J) (A J)
   .exact JE h λJ Z22=>Y.leq (G J) (A J)
   .exact JE h λJ Z22=>Y.gtr (G J) (A J)
   .exact JE h λJ Z22=>Y.geq (G J) (A J)
   .exact JE h λJ Z22=>Y.eql (G J) (A J)
   .exact JE h λJ Z22=>Y.neq (G J) (A J)
   .exact ar h λJ Z22=>Y.add (G J) (A J)
   .exact ar h λJ Z22=>Y.sub (G J) (A J)
   .exact ar h λJ Z22=>Y.mul (G J) (A J)
   .exact JF h λJ Z22=>Y.bits (by simp) (G J) (A J)
   .exact JF h λJ Z22=>Y.bits (by simp) (G J) (A J)
   .exact JF h λJ Z22=>Y.bits (by simp) (G J) (A J)
   .exact JF h λJ Z22=>Y.bits (by simp) (G J) (A J)
   .exact JF h.2 λJ Z22=>Y.quo h.1 (G J) (A J)
   .exact JF h.2 λJ Z22=>Y.rem h.1 (G J) (A J)
   .cases h
def asS:Option SV->Option ByteArray
 | some (.v (.a (.str u)))=>some u
 | _=>none
def rU:Option SV->Option PV
 | some (.v (.a (.pt p)))=>some p
 | _=>none
theorem cC {v:Option SV}{u:ByteArray}(h:asS v=some u):∃w,v=some w/\∀vl,w.den vl=.string u:=by
 unfold asS at h;split at h
 .cases h;exact⟨_,rfl,λ_=>rfl⟩
 .cases h
theorem F4 {v:Option SV}{p:PV}(h:rU v=some p):∃w,v=some w/\∀vl,w.den vl=.pointer (p.den vl):=by
 unfold rU at h;split at h
 .cases h;exact⟨_,rfl,λ_=>rfl⟩
 .cases h
def AIK (b:BinOp)(u w:ByteArray)(s:S)(K:SV->S->Prop):Prop:=
 match b with
 | .eql=>s.boo (.var (ByteArray.toList u==ByteArray.toList w)) false K
 | .neq=>s.boo (.var (ByteArray.toList u==ByteArray.toList w)) true K
 | .add=>(ByteArray.size u+ByteArray.size w<=9223372036854775807)/\K (.at (.str (u++w))) s
 | _=>False
def isNil:PV->Bool
 | .lit none=>true
 | _=>false
def AIL (b:BinOp)(p q:PV)(s:S)(K:SV->S->Prop):Prop:=
 match isNil q with
 | false=>False
 | true=>match b with
  | .eql=>match p.isA with
   | true=>K (.at (.bl false)) s
   | false=>s.boo (.var (Option.isNone (p.den s.vl))) false K
  | .neq=>match p.isA with
   | true=>K (.at (.bl true)) s
   | false=>s.boo (.var (Option.isSome (p.den s.vl))) false K
  | _=>False
def AIM (b:BinOp)(x y:Operand)(s:S)(K:SV->S->Prop):Prop:=
 match b with
 | .eql=>s.yi (s.op x) λt s=>s.yi (s.op y) λu s=>K (.at (.bl (t==u))) s
 | .neq=>s.yi (s.op x) λt s=>s.yi (s.op y) λu s=>K (.at (.bl (!(t==u)))) s
 | _=>False
def AD6 (P:Program)(wr:Bool)(b:BinOp)(T:TypeId)(x y:Operand)(s:S)(K:SV->S->Prop):Prop:=
 match ay (s.op x),ay (s.op y) with
 | some (k,a),some (k',c)=>AD5 wr b k a k' c s K
 | _,_=>match P.underlying T with
  | some .string=>match asS (s.op x),asS (s.op y) with
   | some u,some w=>AIK b u w s K
   | _,_=>False
  | some (.pointer _)=>match rU (s.op x),rU (s.op y) with
   | some p,some q=>AIL b p q s K
   | _,_=>False
  | some .bool=>AIM b x y s K
  | _=>False
theorem ev {J:Env}{v:SV}(h:s.op x=some v):AE (s.e J) x=v.den s.vl:=S.yd h
theorem iD {wr:Bool}{b:BinOp}(h:AD6 P wr b T x y s K):YP P (.binOp b T x y T') ty s K:=by
 unfold AD6 at h;split at h
 .rename_i k a k' c A h2;obtain⟨u,e1,e2⟩:=Cw A;obtain⟨w,e3,e4⟩:=Cw h2;exact iC h (λJ=>by rw[ev e1,e2]) (λJ=>by rw[ev e3,e4])
 .split at h
  .rename_i G;split at h
   .rename_i u w A h2;obtain⟨_,e1,e2⟩:=cC A;obtain⟨_,e3,e4⟩:=cC h2;unfold AIK at h;split at h
    .exact JE h λJ Z22=>Y.APb G (by rw[ev e1,e2]) (by rw[ev e3,e4])
    .exact JE h λJ Z22=>Y.APc G (by rw[ev e1,e2]) (by rw[ev e3,e4])
    .exact Ce h.2 λJ Z22=>Y.APj G (by rw[ev e1,e2]) (by rw[ev e3,e4]) h.1
    .cases h
   .cases h
  .rename_i G;split at h
   .rename_i p q A h2;obtain⟨_,e1,e2⟩:=F4 A;obtain⟨_,e3,e4⟩:=F4 h2;unfold AIL at h;split at h
    .cases h
    .rename_i hq;have hqn:q.den s.vl=none:=by
      unfold isNil at hq;split at hq
      .rfl
      .cases hq
     have e5:∀J,AE (s.e J) y=.pointer none:=λJ=>by rw[ev e3,e4,hqn]
     split at h
     .split at h
      .rename_i hp;exact Ce h λJ Z22=>by
        have:=Y.rL (P:=P) (e:=s.e J) (bx:=s.b) (Z22:=Z22) (ty:=ty) (T':=T') G (x:=x) (y:=y) (q:=p.den s.vl) (by rw[ev e1,e2]) (e5 J);rw[PV.KQ hp]at this;exact this
      .exact JE h λJ Z22=>Y.rL G (by rw[ev e1,e2]) (e5 J)
     .split at h
      .rename_i hp;exact Ce h λJ Z22=>by
        have:=Y.rM (P:=P) (e:=s.e J) (bx:=s.b) (Z22:=Z22) (ty:=ty) (T':=T') G (x:=x) (y:=y) (q:=p.den s.vl) (by rw[ev e1,e2]) (e5 J);rw[PV.KQ hp]at this;exact this
      .exact JE h λJ Z22=>Y.rM G (by rw[ev e1,e2]) (e5 J)
     .cases h
   .cases h
  .rename_i G;unfold AIM at h;split at h
   .obtain⟨t,s1,v1,A,h2,h3,h4,h⟩:=S.Gn h;obtain⟨u,s2,v2,g1,g2,g3,g4,h⟩:=S.Gn h;exact⟨_,s2,A.trans g1,λJ Z22=>Y.APZ G (by rw[ev h3,h4]) (by rw[<-A.e J,ev g3,g4]),h⟩
   .obtain⟨t,s1,v1,A,h2,h3,h4,h⟩:=S.Gn h;obtain⟨u,s2,v2,g1,g2,g3,g4,h⟩:=S.Gn h;exact⟨_,s2,A.trans g1,λJ Z22=>Y.APa G (by rw[ev h3,h4]) (by rw[<-A.e J,ev g3,g4]),h⟩
   .cases h
  .cases h
end
def S.val (s:S)(x:Operand)(K:SV->S->Prop):Prop:=match s.op x with
 | some v=>K v s
 | none=>False
def ABk (x y z:Operand)(s:S)(K:SV->S->Prop):Prop:=s.yi (s.op z) λt s=>match t with
 | true=>s.val x K
 | false=>s.val y K
def AD7 (x:Operand)(s:S)(K:SV->S->Prop):Prop:=match s.op x with
 | some (.v (.a (.bl true)))=>K (.at (.bl false)) s
 | some (.v (.a (.bl false)))=>K (.at (.bl true)) s
 | some (.v (.a (.bs i n)))=>K (.at (.bs i (!n))) s
 | _=>False
def AD8 (x:Operand)(s:S)(K:SV->S->Prop):Prop:=match ay (s.op x) with
 | some (k,a)=>∀x,x=k.wrap (0-a)->K (.at (.int k x)) s
 | none=>False
def rV (P:Program)(T T':TypeId)(x:Operand)(s:S)(K:SV->S->Prop):Prop:=match (P.underlying T).isSome,P.underlying T' with
 | true,some (.int k')=>match s.op x with
  | some (.v (.a (.num k a)))=>K (.at (.num k' (k'.wrap a))) s
  | some (.v (.a (.int k a)))=>∀x,x=k'.wrap a->K (.at (.int k' x)) s
  | _=>False
 | _,_=>False
def AD9 (P:Program)(T:TypeId)(x:Operand)(f:Nat)(s:S)(K:SV->S->Prop):Prop:=match P.underlying T with
 | some (.struct fs)=>match fs[f]? with
  | some fd=>match cA P fd.type,rU (s.op x) with
   | some (_+1),some p=>match p.isA with
    | true=>K (.at (.pt (p.mv (p.off+fd.offset)))) s
    | false=>False
   | _,_=>False
  | none=>False
 | _=>False
def QD {α:Type}:List α->Nat->Option α
 | [],_=>none
 | x::_,0=>some x
 | _::l,n+1=>QD l n
def AEA (x:Operand)(i:Nat)(s:S)(K:SV->S->Prop):Prop:=match s.op x with
 | some (.Wv l)=>match QD l i with
  | some u=>K (.v u) s
  | none=>False
 | _=>False
def iE (P:Program)(T:TypeId)(x:Operand)(f:Nat)(s:S)(K:SV->S->Prop):Prop:=match P.underlying T,s.op x with
 | some (.struct fs),some (.v (.agg l))=>match fs[f]? with
  | some fd=>match cB P fd.type with
   | some false=>match QD l fd.offset with
    | some u=>K (.at u) s
    | none=>False
   | some true=>match cA P fd.type with
    | some n=>K (.v (.agg ((l.drop fd.offset).take n))) s
    | none=>False
   | none=>False
  | none=>False
 | _,_=>False
def isNum:Option SV->Bool
 | some (.v (.a (.num _ _)))=>true
 | _=>false
def AEB (P:Program)(T:TypeId)(x y:Operand)(s:S)(K:SV->S->Prop):Prop:=match ay (s.op y) with
 | none=>False
 | some (_,i)=>match P.underlying T with
  | some (.slice E)=>match cA P E,s.op x with
   | some z,some (.v (.a (.sl p n c)))=>s.onP p λq s=>((0:Int)<=i/\i<((n:Nat):Int))/\K (.at (.pt (q.mv (q.off+i.toNat*z)))) s
   | _,_=>False
  | some (.array n E)=>match cA P E,rU (s.op x) with
   | some z,some p=>match p.isA with
    | false=>False
    | true=>match isNum (s.op y) with
     | true=>match decide (0<=i/\i<(n:Int)) with
      | true=>K (.at (.pt (p.mv (p.off+i.toNat*z)))) s
      | false=>False
     | false=>((0:Int)<=i/\i<((n:Nat):Int))/\K (.at (.pt (p.mv (p.off+i.toNat*z)))) s
   | _,_=>False
  | _=>False
def cD:List Cr->Option (List ByteArray)
 | []=>some []
 | .str w::l=>match cD l with
  | some r=>some (w::r)
  | none=>none
 | _::_=>none
def rW (P:Program)(T:TypeId)(x y:Operand)(s:S)(K:SV->S->Prop):Prop:=match P.underlying T,s.op x,ay (s.op y) with
 | some .string,some (.v (.a (.str w))),some (_,i)=>∃u:UInt8,(0:Int)<=i/\(ByteArray.data w)[Int.toNat i]?=some u/\K (.at (.int .u8 ((UInt8.toNat u:Nat):Int))) s
 | some (.array n E),some (.v (.agg l)),some (_,i)=>match cB P E,cA P E,cD l with
  | some false,some 1,some r=>((0:Int)<=i/\i<((n:Nat):Int))/\∃u:ByteArray,r[Int.toNat i]?=some u/\K (.at (.str u)) s
  | _,_,_=>False
 | _,_,_=>False
def AEC (x:Operand)(s:S)(K:SV->S->Prop):Prop:=match s.op x with
 | some (.v (.a (.fn f a b)))=>K (.at (.fn f a b)) s
 | some (.v (.a (.pt p)))=>s.onP p λq s=>K (.at (.pt q)) s
 | _=>False
def S.Ag (s:S):List Operand->Option (List SV)
 | []=>some []
 | x::l=>match s.op x,s.Ag l with
  | some v,some r=>some (v::r)
  | _,_=>none
def DJ (vl:Vl):List SV->List Value
 | []=>[]
 | x::l=>x.den vl::DJ vl l
def AED (fn:Fn)(xs ys:Array Operand)(s:S)(K:SV->S->Prop):Prop:=match fn with
 | .func f=>match s.Ag xs.toList,s.Ag ys.toList with
  | some a,some b=>K (.at (.fn f (DJ s.vl a).toArray (DJ s.vl b).toArray)) s
  | _,_=>False
 | _=>False
def iF (P:Program)(T:TypeId)(x:Operand)(s:S)(K:SV->S->Prop):Prop:=match P.underlying T with
 | some d=>match isIf d with
  | false=>match s.op x with
   | some v=>K (.at (.raw (.iface T (v.den s.vl)))) s
   | none=>False
  | true=>False
 | none=>False
def AEE (P:Program)(x:Operand)(ts:Array TypeId)(s:S)(K:SV->S->Prop):Prop:=match ts.toList,s.op x with
 | [T],some (.v (.a (.sl _ n _)))=>match P.underlying T with
  | some (.slice _)=>K (.at (.int .i64 ((n:Nat):Int))) s
  | _=>False
 | [T],some (.v (.a (.str w)))=>match P.underlying T with
  | some .string=>K (.at (.int .i64 ((ByteArray.size w:Nat):Int))) s
  | _=>False
 | _,_=>False
def AEF (P:Program)(x:Operand)(ts:Array TypeId)(s:S)(K:SV->S->Prop):Prop:=match ts.toList,s.op x with
 | [T],some (.v (.a (.sl _ _ c)))=>match P.underlying T with
  | some (.slice _)=>K (.at (.int .i64 ((c:Nat):Int))) s
  | _=>False
 | _,_=>False
section
variable {P:Program}{s:S}{K:SV->S->Prop}{T T' ty:TypeId}{x y z:Operand}
theorem W8 {op:Op}(h:s.val x K)(A:∀v J Z22,AE (s.e J) x=v->Yd P (s.e J) s.b Z22 op ty v):YP P op ty s K:=by
 unfold S.val at h;split at h
 .rename_i v hv;exact Ce h λJ Z22=>A _ J Z22 (ev hv)
 .cases h
theorem cE (h:ABk x y z s K):YP P (.pick z x y) ty s K:=by
 obtain⟨t,s1,v1,A,h2,h3,h4,h⟩:=S.Gn h;have G:∀J,AE (s.e J) z=.bool t:=λJ=>by rw[ev h3,h4]
 cases t with
 | true=>
  simp only[S.val]at h;split at h
  .rename_i v hv;exact⟨v,s1,A,λJ Z22=>Y.ABb (G J) (by rw[<-A.e J];exact ev hv),h⟩
  .cases h
 | false=>
  simp only[S.val]at h;split at h
  .rename_i v hv;exact⟨v,s1,A,λJ Z22=>Y.ABc (G J) (by rw[<-A.e J];exact ev hv),h⟩
  .cases h
theorem iG (h:AD7 x s K):YP P (.unOp .not T x) ty s K:=by
 unfold AD7 at h;split at h
 .rename_i hv;exact Ce h λJ Z22=>Y.not (p:=true) (by rw[ev hv];rfl)
 .rename_i hv;exact Ce h λJ Z22=>Y.not (p:=false) (by rw[ev hv];rfl)
 .rename_i i n hv;refine Ce h λJ Z22=>?_;cases n with
  | false=>exact Y.not (by rw[ev hv];rfl)
  | true=>
   have:=Y.not (P:=P) (e:=s.e J) (bx:=s.b) (Z22:=Z22) (ty:=ty) (T:=T) (x:=x) (p:=!(nth (.var false) s.vl.β i).val) (by rw[ev hv];rfl);rw[Bool.not_not]at this;exact this
 .cases h
theorem iH (h:AD8 x s K):YP P (.unOp .neg T x) ty s K:=by
 unfold AD8 at h;split at h
 .rename_i k a hv;obtain⟨u,A,e2⟩:=Cw hv;exact JF h λJ Z22=>Y.neg (by rw[ev A,e2])
 .cases h
theorem cG (h:rV P T T' x s K):YP P (.convert T T' x) ty s K:=by
 unfold rV at h;split at h
 .rename_i A G;split at h
  .rename_i hv;exact Ce h λJ Z22=>Y.conv A G (by rw[ev hv];rfl)
  .rename_i hv;exact JF h λJ Z22=>Y.conv A G (by rw[ev hv];rfl)
  .cases h
 .cases h
theorem iI {f:Nat}(h:AD9 P T x f s K):YP P (.fieldAddr T x f) ty s K:=by
 unfold AD9 at h;split at h
 .rename_i fs hT;split at h
  .rename_i fd hf;split at h
   .rename_i n p hz hp;split at h
    .rename_i A;obtain⟨u,G,e2⟩:=F4 hp;refine Ce h λJ Z22=>?_;have:=Y.fieldAddr (P:=P) (e:=s.e J) (bx:=s.b) (Z22:=Z22) (ty:=ty) (x:=x) (a':=⟨p.FB s.vl,p.off+fd.offset,none⟩) hT hf (De hz) (by rw[ev G,e2,PV.KQ A]) rfl;simpa only[SV.den,Ht.den,Cr.den,PV.iB A] using this
    .cases h
   .cases h
  .cases h
 .cases h
theorem RS {vl:Vl}:∀{l:List Cr} {i:Nat} {u:Cr},QD l i=some u->(Bc vl l)[i]?=some (u.den vl)
 | x::l,0,u,h=>by simp only[QD,AfL]at h;subst h;rfl
 | x::l,i+1,u,h=>by simp only[QD]at h;simp only[Bc,Afd];exact RS h
theorem UJ {vl:Vl}:∀{l:List Ht} {i:Nat} {u:Ht},QD l i=some u->(Im vl l)[i]?=some (u.den vl)
 | x::l,0,u,h=>by simp only[QD,AfL]at h;subst h;rfl
 | x::l,i+1,u,h=>by simp only[QD]at h;simp only[Im,Afd];exact UJ h
theorem UK (vl:Vl):∀l:List Cr,Bc vl l=l.map (Cr.den vl)
 | []=>rfl
 | x::l=>by simp only[Bc,AfN];rw[UK vl l]
theorem iJ {i:Nat}(h:AEA x i s K):YP P (.extract x i) ty s K:=by
 unfold AEA at h;split at h
 .rename_i l hv;split at h
  .rename_i u A;exact Ce h λJ Z22=>Y.extract (by rw[ev hv];rfl) (by simpa[SV.den] using UJ A)
  .cases h
 .cases h
theorem YU {f:Nat}(h:iE P T x f s K):YP P (.field T x f) ty s K:=by
 unfold iE at h;split at h
 .rename_i fs l G hv;split at h
  .rename_i fd hf;split at h
   .rename_i A;split at h
    .rename_i u hu;exact Ce h λJ Z22=>Y.ADg G hf (F3 A) (by rw[ev hv];rfl) (by simpa[SV.den,Ht.den] using RS hu)
    .cases h
   .rename_i A;split at h
    .rename_i n hn;refine Ce h λJ Z22=>?_;have:=Y.ADh (P:=P) (e:=s.e J) (bx:=s.b) (Z22:=Z22) (ty:=ty) (x:=x) G hf (F3 A) (De hn) (cs:=(Bc s.vl l).toArray) (by rw[ev hv];rfl) (cs':=(Bc s.vl ((l.drop fd.offset).take n)).toArray) (by simp[UK,List.extract_eq_take_drop]);exact this
    .cases h
   .cases h
  .cases h
 .cases h
theorem iK (h:AEB P T x y s K):YP P (.indexAddr T x y) ty s K:=by
 unfold AEB at h;split at h
 .cases h
 .rename_i k i hi;obtain⟨u,e1,e2⟩:=Cw hi;have hy:∀J,AE (s.e J) y=.int k i:=λJ=>by rw[ev e1,e2]
  split at h
  .rename_i E A;split at h
   .rename_i z p n c G hv;obtain⟨q,s',h1,h2,h3,h4,h5,h⟩:=S.Wz h;refine⟨_,s',h1,λJ Z22=>?_,h⟩;have:=Y.idx (P:=P) (e:=s.e J) (bx:=s.b) (Z22:=Z22) (ty:=ty) (x:=x) (y:=y) (a':=⟨q.FB s.vl,q.off+i.toNat*z,none⟩) A (De G) (b:=q.FB s.vl) (o:=q.off) (n:=n) (c:=c) (by
     rw[ev hv];show Value.slice (p.den s.vl) n c=_;rw[<-h4,PV.KQ h3]) (hy J) h5 rfl
    simpa only[SV.den,Ht.den,Cr.den,h2,PV.iB h3] using this
   .cases h
  .rename_i n E A;split at h
   .rename_i z p G hp;obtain⟨u2,e3,e4⟩:=F4 hp;split at h
    .cases h
    .rename_i hA;have go:(0<=i/\i<(n:Int))->K (.at (.pt (p.mv (p.off+i.toNat*z)))) s->YP P (.indexAddr T x y) ty s K:=λhr hk=>by
      refine Ce hk λJ Z22=>?_;have:=Y.APP (P:=P) (e:=s.e J) (bx:=s.b) (Z22:=Z22) (ty:=ty) (x:=x) (y:=y) (a':=⟨p.FB s.vl,p.off+i.toNat*z,none⟩) A (De G) (b:=p.FB s.vl) (o:=p.off) (by rw[ev e3,e4,PV.KQ hA]) (hy J) hr rfl;simpa only[SV.den,Ht.den,Cr.den,PV.iB hA] using this
     split at h
     .split at h
      .rename_i hd;exact go (AfS hd) h
      .cases h
     .exact go h.1 h.2
   .cases h
  .cases h
theorem XA {vl:Vl}:∀{l:List Cr} {r:List ByteArray},cD l=some r->Bc vl l=r.map .string
 | [],r,h=>by simp only[cD,AfL]at h;subst h;rfl
 | x::l,r,h=>by
  cases x<;>simp only[cD]at h<;>try (cases h;done)
  split at h
  .rename_i r' A;cases h;simp only[Bc,AfN,XA A];rfl
  .cases h
theorem cH (h:rW P T x y s K):YP P (.index T x y) ty s K:=by
 unfold rW at h;split at h
 .rename_i w k i hT hx hy;obtain⟨u2,e3,e4⟩:=Cw hy;obtain⟨u,A,G,h⟩:=h;exact Ce h λJ Z22=>Y.ADj hT (by rw[ev hx];rfl) (by rw[ev e3,e4]) A G
 .rename_i n E l k i hT hx hy;obtain⟨u2,e3,e4⟩:=Cw hy;split at h
  .rename_i r ha hz hr;obtain⟨A,u,G,h⟩:=h;refine Ce h λJ Z22=>Y.ADi hT (F3 ha) (De hz) (cs:=(Bc s.vl l).toArray) (by rw[ev hx];rfl) (by rw[ev e3,e4]) A ?_;rw[XA hr];simp[G]
  .cases h
 .cases h
theorem iL (h:AEC x s K):YP P (.nilCheck x) ty s K:=by
 unfold AEC at h;split at h
 .rename_i hv;exact Ce h λJ Z22=>Y.nT (by rw[ev hv];rfl)
 .rename_i p hv;obtain⟨q,s',G,h2,A,h4,h⟩:=S.Wz h;refine⟨_,s',G,λJ Z22=>?_,h⟩;have:=Y.nilCheck (P:=P) (e:=s.e J) (bx:=s.b) (Z22:=Z22) (ty:=ty) (x:=x) (a:=⟨q.FB s.vl,q.off,none⟩) (by
   rw[ev hv];show Value.pointer (p.den s.vl)=_;rw[<-h4,PV.KQ A])
  simpa only[SV.den,Ht.den,Cr.den,h2,PV.KQ A] using this
 .cases h
theorem ED:∀{l:List Operand} {r:List SV} {J:Env},s.Ag l=some r->l.map (AE (s.e J))=DJ s.vl r
 | [],r,J,h=>by simp only[S.Ag,AfL]at h;subst h;rfl
 | x::l,r,J,h=>by
  simp only[S.Ag]at h;split at h
  .rename_i v r' A G;cases h;simp only[AfN,DJ];rw[ev A,ED G]
  .cases h
theorem iM {fn:Fn}{xs ys:Array Operand}(h:AED fn xs ys s K):YP P (.makeFunc fn xs ys) ty s K:=by
 unfold AED at h;split at h
 .split at h
  .rename_i a b A G;exact Ce h λJ Z22=>Y.makeFunc (by simpa using ED A) (by simpa using ED G)
  .cases h
 .cases h
theorem YV (h:iF P T x s K):YP P (.makeInterface T x) ty s K:=by
 unfold iF at h;split at h
 .rename_i d A;split at h
  .rename_i hd;split at h
   .rename_i v hv;exact Ce h λJ Z22=>Y.iface A hd (ev hv)
   .cases h
  .cases h
 .cases h
theorem iN {ts:Array TypeId}(h:AEE P x ts s K):YP P (.call { callee:=.builtin .len,args:=#[x],argTypes:=ts }) ty s K:=by
 unfold AEE at h;split at h
 .rename_i T p n c G hv;have A:ts=#[T]:=by rw[<-AfM];simpa using G
  split at h
  .rename_i hT;exact Ce h λJ Z22=>Y.ADe hT (by rw[ev hv];rfl) A
  .cases h
 .rename_i T w G hv;have A:ts=#[T]:=by rw[<-AfM];simpa using G
  split at h
  .rename_i hT;exact Ce h λJ Z22=>Y.ADf hT (by rw[ev hv];rfl) A
  .cases h
 .cases h
theorem iO {ts:Array TypeId}(h:AEF P x ts s K):YP P (.call { callee:=.builtin .cap,args:=#[x],argTypes:=ts }) ty s K:=by
 unfold AEF at h;split at h
 .rename_i T p n c G hv;have A:ts=#[T]:=by rw[<-AfM];simpa using G
  split at h
  .rename_i hT;exact Ce h λJ Z22=>Y.APO hT (by rw[ev hv];rfl) A
  .cases h
 .cases h
end
def isZero:Option SV->Bool
 | some (.v (.a (.num _ 0)))=>true
 | _=>false
def iP (P:Program)(T:TypeId)(x:Operand)(lo hi:Option Operand)(s:S)(K:SV->S->Prop):Prop:=match P.underlying T,s.op x with
 | some (.slice E),some (.v (.a (.sl p n c)))=>match cA P E with
  | none=>False
  | some z=>match lo,hi with
   | none,none=>True/\K (.at (.sl p n c)) s
   | none,some h=>match ay (s.op h) with
    | some (_,h)=>((0:Int)<=h/\h<=((c:Nat):Int))/\K (.at (.sl p (Int.toNat h) c)) s
    | none=>False
   | some l,none=>match isZero (s.op l) with
    | true=>((0:Int)<=0/\(0:Int)<=((n:Nat):Int))/\K (.at (.sl p n c)) s
    | false=>match ay (s.op l) with
     | some (_,l)=>((0:Int)<=l/\l<=((n:Nat):Int))/\K (.at (.sl (.lit (ET (p.den s.vl) (Int.toNat l) c z)) (n-Int.toNat l) (c-Int.toNat l))) s
     | none=>False
   | some l,some h=>match ay (s.op h) with
    | none=>False
    | some (_,h)=>match isZero (s.op l) with
     | true=>((0:Int)<=0/\(0:Int)<=h/\h<=((c:Nat):Int))/\K (.at (.sl p (Int.toNat h) c)) s
     | false=>match ay (s.op l) with
      | some (_,l)=>((0:Int)<=l/\l<=h/\h<=((c:Nat):Int))/\K (.at (.sl (.lit (ET (p.den s.vl) (Int.toNat l) c z)) (Int.toNat h-Int.toNat l) (c-Int.toNat l))) s
      | none=>False
 | _,_=>False
def yj {α:Type}:List α->Nat->α->List α
 | [],_,_=>[]
 | _::l,0,y=>y::l
 | x::l,n+1,y=>x::yj l n y
def iQ:List Cr->Nat->List Cr->List Cr
 | c,_,[]=>c
 | c,o,x::l=>iQ (yj c o x) (o+1) l
def Cr.one:Cr->Bool
 | .raw v=>v.oneCell'
 | _=>true
def SV.flat:SV->Option (List Cr)
 | .v (.a x)=>match x.one with
  | true=>some [x]
  | false=>none
 | .v (.agg l)=>some l
 | .Wv _=>none
def XB (A:Nat->Option (Nat×Nat)):List Cr->List (Nat×SV)->Option (List Cr)
 | c,[]=>some c
 | c,(i,v)::r=>match A i,v.flat with
  | some (off,z),some l=>match decide (l.length≠z)||decide (off+l.length > c.length) with
   | true=>none
   | false=>XB A (iQ c off l) r
  | _,_=>none
def S.parts (s:S):List (Nat×Operand)->Option (List (Nat×SV))
 | []=>some []
 | (i,x)::l=>match s.op x,s.parts l with
  | some v,some r=>some ((i,v)::r)
  | _,_=>none
def PN (vl:Vl):List (Nat×SV)->List (Nat×Value)
 | []=>[]
 | (i,x)::l=>(i,x.den vl)::PN vl l
def QE (P:Program):List Field->Option (List (Nat×Nat))
 | []=>some []
 | f::l=>match cA P f.type,QE P l with
  | some z,some r=>some ((f.offset,z)::r)
  | _,_=>none
def iR (P:Program)(T:TypeId)(ps:List (Nat×SV)):Option (List Cr):=
 match P.info? T,P.underlying T with
 | some A,some (.array _ e)=>match A.zero,cA P e with
  | some z,some G=>XB (λi=>some (i*G,G)) (SG z.cells.toList) ps
  | _,_=>none
 | some A,some (.struct fs)=>match A.zero,QE P fs.toList with
  | some z,some pl=>XB (λi=>QD pl i) (SG z.cells.toList) ps
  | _,_=>none
 | _,_=>none
def iS (P:Program)(T:TypeId)(ps:Array (Nat×Operand))(s:S)(K:SV->S->Prop):Prop:=match s.parts ps.toList with
 | none=>False
 | some vs=>match iR P T vs with
  | some l=>K (.v (.agg l)) s
  | none=>False
section
variable {P:Program}{s:S}{K:SV->S->Prop}{T T' ty:TypeId}{x y z:Operand}
theorem SH {J:Env}(h:isZero (s.op x)=true):∃k,AE (s.e J) x=.int k 0:=by
 cases hv:s.op x with
 | none=>rw[hv]at h;cases h
 | some v=>
  rw[hv]at h;unfold isZero at h;split at h
  .rename_i k A;cases A;exact⟨k,by rw[ev hv];rfl⟩
  .cases h
theorem YW {lo hi:Option Operand}(h:iP P T x lo hi s K):YP P (.slice T x lo hi none) ty s K:=by
 unfold iP at h;split at h
 .rename_i E p n c hT hv;have hx:∀J,AE (s.e J) x=.slice (p.den s.vl) n c:=λJ=>by rw[ev hv];rfl
  split at h
  .cases h
  .rename_i z hz;split at h
   .exact Ce h.2 λJ Z22=>Y.sla hT (De hz) (hx J) trivial
   .split at h
    .rename_i h1;obtain⟨u,G,e2⟩:=Cw h1;exact Ce h.2 λJ Z22=>Y.slh hT (De hz) (hx J) (by rw[ev G,e2]) h.1
    .cases h
   .split at h
    .rename_i A;exact Ce h.2 λJ Z22=>Y.APY hT (De hz) (hx J) (SH A).choose_spec h.1
    .split at h
     .rename_i h1;obtain⟨u,G,e2⟩:=Cw h1;exact Ce h.2 λJ Z22=>Y.sll hT (De hz) (hx J) (by rw[ev G,e2]) h.1
     .cases h
   .split at h
    .cases h
    .rename_i h2;obtain⟨u,G,e2⟩:=Cw h2;split at h
     .rename_i A;exact Ce h.2 λJ Z22=>Y.AH8 hT (De hz) (hx J) (SH A).choose_spec (by rw[ev G,e2]) h.1
     .split at h
      .rename_i h1;obtain⟨u2,e3,e4⟩:=Cw h1;exact Ce h.2 λJ Z22=>Y.AH7 hT (De hz) (hx J) (by rw[ev e3,e4]) (by rw[ev G,e2]) h.1
      .cases h
 .cases h
theorem XC {vl:Vl}{a:Cr}:∀{l:List Cr} {i:Nat},Bc vl (yj l i a)=(Bc vl l).set i (a.den vl)
 | [],_=>rfl
 | x::l,0=>rfl
 | x::l,i+1=>by simp only[yj,Bc,Ah3];rw[XC]
theorem UL {vl:Vl}:∀{l c:List Cr} {o:Nat},(Bc vl (iQ c o l)).toArray=F0 (Bc vl c).toArray o (Bc vl l)
 | [],_,_=>rfl
 | x::l,c,o=>by
  simp only[iQ,Bc,F0];rw[UL,XC];simp
theorem XD:∀(l:List Value) (c:Array Value) (off k:Nat),(l.zipIdx k).foldl (λcs (x:Value×Nat)=>cs.setIfInBounds (off+x.2) x.1) c=F0 c (off+k) l
 | [],c,off,k=>rfl
 | x::l,c,off,k=>by
  simp only[List.zipIdx_cons,AgT,F0];rw[XD l _ off (k+1)];rfl
theorem EY {vl:Vl}:∀l:List Cr,(Bc vl l).length=l.length
 | []=>rfl
 | x::l=>by simp only[Bc,Aez];rw[EY]
theorem cI {vl:Vl}{v:SV}{l:List Cr}(h:v.flat=some l):(v.den vl).cells=(Bc vl l).toArray:=by
 unfold SV.flat at h;split at h
 .rename_i x;split at h
  .rename_i A;cases h;simp only[SV.den,Ht.den,Bc];cases x<;>try rfl
   case bs i n=>cases n<;>rfl
   case raw v=>cases v<;>first|rfl|cases A
  .cases h
 .cases h;rfl
 .cases h
theorem RT {vl:Vl}{A:Nat->Option (Nat×Nat)}:∀{ps:List (Nat×SV)} {c out:List Cr},XB A c ps=some out->Instr.fill A (Bc vl c).toArray (PN vl ps)=some (Bc vl out).toArray
 | [],c,out,h=>by simp only[XB,AfL]at h;subst h;rfl
 | (i,v)::r,c,out,h=>by
  simp only[XB]at h;split at h
  .rename_i off z l h1 h2;split at h
   .cases h
   .rename_i hd;simp only[Ahn,AgA]at hd;have hc:=cI (vl:=vl) h2;have:=RT (vl:=vl) h;simp only[PN,Instr.fill,h1,hc];have hs:((Bc vl l).toArray.size≠z||off+(Bc vl l).toArray.size > (Bc vl c).toArray.size)=false:=by
     simp[EY];omega
    rw[Aeu (by simpa using hs)];rw[<-this]
    congr 1
    rw[UL];have G:=XD (Bc vl l) (Bc vl c).toArray off 0;rw[AgY]at G;rw[<-G];simp
  .cases h
theorem PO {J:Env}:∀{l:List (Nat×Operand)} {r:List (Nat×SV)},s.parts l=some r->l.map (λp=>(p.1,AE (s.e J) p.2))=PN s.vl r
 | [],r,h=>by simp only[S.parts,AfL]at h;subst h;rfl
 | (i,x)::l,r,h=>by
  simp only[S.parts]at h;split at h
  .rename_i v r' A G;cases h;simp only[AfN,PN];rw[ev A,PO G]
  .cases h
theorem QF:∀{l:List Field} {r:List (Nat×Nat)},QE P l=some r->l.mapM (λf=>(P.info? f.type).map λi=>(f.offset,i.size))=some r
 | [],r,h=>by simp only[QE,AfL]at h;subst h;rfl
 | f::l,r,h=>by
  simp only[QE]at h;split at h
  .rename_i z r' A G;cases h;unfold cA at A;cases hi:P.info? f.type with
   | none=>rw[hi]at A;cases A
   | some i=>
    rw[hi]at A;simp only[Afv,AfL]at A;subst A;simp[Aid,hi,QF G]
  .cases h
theorem ku {α:Type}:∀(l:List α) (i:Nat),QD l i=l[i]?
 | [],_=>by simp[QD]
 | x::l,0=>rfl
 | x::l,i+1=>by simp only[QD,Afd];exact ku l i
theorem iT {vl:Vl}{ps:List (Nat×SV)}{l:List Cr}(h:iR P T ps=some l):P.built T (PN vl ps)=some (Bc vl l).toArray:=by
 unfold iR at h;unfold Program.built;split at h
 .rename_i it n e G h2;rw[G,h2];split at h
  .rename_i z ie h3 A;unfold cA at A;cases hi:P.info? e with
   | none=>rw[hi]at A;cases A
   | some i=>
    rw[hi]at A;simp only[Afv,AfL]at A;subst A;have:=RT (vl:=vl) h;rw[Jb]at this;simpa[h3,hi] using this
  .cases h
 .rename_i it fs G h2;rw[G,h2];split at h
  .rename_i z pl h3 A;have:=RT (vl:=vl) h;rw[Jb]at this;have h5:=QF A;simp only[h3,h5];simpa[ku] using this
  .cases h
 .cases h
theorem YX {ps:Array (Nat×Operand)}(h:iS P T ps s K):YP P (.build T ps) ty s K:=by
 unfold iS at h;split at h
 .cases h
 .rename_i vs hv;split at h
  .rename_i l A;exact Ce h λJ Z22=>Y.build (PO hv) (iT A)
  .cases h
end
end Tw
end
section
namespace Tw
open Go
variable [I9]
structure Vl.Le (v w:Vl):Prop where
 le:v.le w
 ln:v.ρ.length<=w.ρ.length/\v.β.length<=w.β.length/\v.δ.length<=w.δ.length
theorem Vl.Le.refl (v:Vl):v.Le v:=⟨.refl v,Ae1 _,Ae1 _,Ae1 _⟩
theorem Vl.Le.trans {u v w:Vl}(h:u.Le v)(g:v.Le w):u.Le w:=⟨h.le.trans g.le h.ln,by have:=h.ln;have:=g.ln;omega⟩
theorem Vl.kv (v:Vl)(p:Option Addr):v.Le (v.rT p):=⟨v.yf p,by simp[Vl.rT]⟩
theorem Vl.kz (v:Vl)(k:BK):v.Le (v.iA k):=⟨v.kt k,by simp[Vl.iA]⟩
def exA (P:Program)(t:TypeId)(vl:Vl)(k:Cr->Vl->Prop):Prop:=match P.underlying t with
 | some (.int A)=>∃x:Int,k (.int A x) vl
 | some .bool=>∃b:Bool,k (.bs vl.β.length false) (vl.iA (.var b))
 | some (.slice _)=>∃p:Option Addr,∃n:Nat,∃c:Nat,k (.sl (.var vl.ρ.length) n c) (vl.rT p)
 | some .string=>∃w:ByteArray,k (.str w) vl
 | some (.pointer _)=>∃q:Option Addr,k (.pt (.var vl.ρ.length)) (vl.rT q)
 | some (.map _ _)=>∃m:Option Nat,k (.mp m) vl
 | _=>∃v:Value,k (.raw v) vl
def AEG (P:Program):List TypeId->Vl->(List Cr->Vl->Prop)->Prop
 | [],vl,k=>k [] vl
 | t::l,vl,k=>exA P t vl λa vl=>AEG P l vl λr vl=>k (a::r) vl
def rY (P:Program):Nat->TypeId->List TypeId
 | 0,t=>[t]
 | f+1,t=>match P.underlying t with
  | some (.struct fs)=>(fs.toList.map λfd=>rY P f fd.type).flatten
  | some (.array n e)=>(List.replicate n (rY P f e)).flatten
  | _=>[t]
def small (P:Program)(t:TypeId):Bool:=match cB P t,cA P t with
 | some true,some n=>Nat.ble n 24
 | _,_=>false
def xW (P:Program)(t:TypeId)(vl:Vl)(k:Ht->Vl->Prop):Prop:=match small P t with
 | true=>AEG P (rY P 40 t) vl λl vl=>k (.agg l) vl
 | false=>exA P t vl λa vl=>k (.a a) vl
def AEH (P:Program):List TypeId->Vl->(List Ht->Vl->Prop)->Prop
 | [],vl,k=>k [] vl
 | t::l,vl,k=>xW P t vl λa vl=>AEH P l vl λr vl=>k (a::r) vl
def exV (P:Program)(t:TypeId)(vl:Vl)(k:SV->Vl->Prop):Prop:=match P.underlying t with
 | some (.tuple ts)=>AEH P ts.toList vl λl vl=>k (.Wv l) vl
 | some (.float d)=>∃x:Nat,k (.v (.a (.raw (.float d x)))) vl
 | some (.complex d)=>∃x:Nat,∃y:Nat,k (.v (.a (.raw (.complex d x y)))) vl
 | _=>xW P t vl λa vl=>k (.v a) vl
def V7 (P:Program)(t:TypeId)(vl:Vl)(k:SV->Vl->Prop):Prop:=match P.underlying t with
 | some (.func _ _ _)=>∃f:Fn,∃a:Array Value,∃c:Array Value,k (.v (.a (.raw (.func f a c)))) vl
 | _=>exV P t vl k
section
variable {P:Program}
theorem XE {t:TypeId}{vl:Vl}{k:Cr->Vl->Prop}(h:exA P t vl k):∃a w,vl.Le w/\k a w:=by
 unfold exA at h;split at h
 .obtain⟨x,h⟩:=h;exact⟨_,_,.refl _,h⟩
 .obtain⟨x,h⟩:=h;exact⟨_,_,Vl.kz _ _,h⟩
 .obtain⟨p,n,c,h⟩:=h;exact⟨_,_,Vl.kv _ _,h⟩
 .obtain⟨x,h⟩:=h;exact⟨_,_,.refl _,h⟩
 .obtain⟨x,h⟩:=h;exact⟨_,_,Vl.kv _ _,h⟩
 .obtain⟨x,h⟩:=h;exact⟨_,_,.refl _,h⟩
 .obtain⟨x,h⟩:=h;exact⟨_,_,.refl _,h⟩
theorem UM:∀{l:List TypeId} {vl:Vl} {k:List Cr->Vl->Prop},AEG P l vl k->∃a w,vl.Le w/\k a w
 | [],vl,k,h=>⟨_,_,.refl _,h⟩
 | t::l,vl,k,h=>by
  obtain⟨a,w,A,h⟩:=XE h;obtain⟨r,w2,G,h⟩:=UM h;exact⟨_,_,A.trans G,h⟩
theorem Fc {t:TypeId}{vl:Vl}{k:Ht->Vl->Prop}(h:xW P t vl k):∃a w,vl.Le w/\k a w:=by
 unfold xW at h;split at h
 .obtain⟨a,w,A,h⟩:=UM h;exact⟨_,_,A,h⟩
 .obtain⟨a,w,A,h⟩:=XE h;exact⟨_,_,A,h⟩
theorem UN:∀{l:List TypeId} {vl:Vl} {k:List Ht->Vl->Prop},AEH P l vl k->∃a w,vl.Le w/\k a w
 | [],vl,k,h=>⟨_,_,.refl _,h⟩
 | t::l,vl,k,h=>by
  obtain⟨a,w,A,h⟩:=Fc h;obtain⟨r,w2,G,h⟩:=UN h;exact⟨_,_,A.trans G,h⟩
theorem XF {t:TypeId}{vl:Vl}{k:SV->Vl->Prop}(h:exV P t vl k):∃a w,vl.Le w/\k a w:=by
 unfold exV at h;split at h
 .obtain⟨a,w,A,h⟩:=UN h;exact⟨_,_,A,h⟩
 .obtain⟨x,h⟩:=h;exact⟨_,_,.refl _,h⟩
 .obtain⟨x,y,h⟩:=h;exact⟨_,_,.refl _,h⟩
 .obtain⟨a,w,A,h⟩:=Fc h;exact⟨_,_,A,h⟩
theorem nY {t:TypeId}{vl:Vl}{k:SV->Vl->Prop}(h:V7 P t vl k):∃a w,vl.Le w/\k a w:=by
 unfold V7 at h;split at h
 .obtain⟨f,a,c,h⟩:=h;exact⟨_,_,.refl _,h⟩
 .exact XF h
end
def S.ex (s:S)(P:Program)(t:TypeId)(K:SV->S->Prop):Prop:=match s.ok with
 | true=>exV P t s.vl λv vl=>K v (s.w vl)
 | false=>False
theorem S.UO {s:S}{P:Program}{t:TypeId}{K:SV->S->Prop}(h:s.ex P t K):∃v G,s.Same G/\K v G:=by
 unfold S.ex at h;cases A:s.ok with
 | false=>rw[A]at h;cases h
 | true=>
  rw[A]at h;obtain⟨v,w,h1,h⟩:=XF h;exact⟨v,_,S.UI A h1.le,h⟩
def eqV (x:SV)(vl:Vl)(v:Value)(F:Prop):Prop:=match x with
 | .v (.a (.raw u))=>u=v/\F
 | x=>v=x.den vl/\F
theorem nZ {x:SV}{vl:Vl}{v:Value}{F:Prop}(h:eqV x vl v F):v=x.den vl/\F:=by
 unfold eqV at h;split at h
 .exact⟨h.1.symm,h.2⟩
 .exact h
def cJ:List Gj->Nat->Option (TypeId×List Cr)
 | [],_=>none
 | (i,t,cs)::l,j=>bif Nat.beq i j then some (t,cs) else cJ l j
theorem Lu {vl:Vl}:∀{l:List Gj} {j:Nat} {t:TypeId} {cs:List Cr},cJ l j=some (t,cs)->(nth 0 vl.δ j,Obj.cells (Bc vl cs).toArray t (0,0))∈F1 vl l
 | (i,u,ds)::l,j,t,cs,h=>by
  simp only[cJ]at h;cases hi:Nat.beq i j with
  | true=>
   rw[hi]at h;simp only[Ah2,AfL,Ahh]at h;obtain⟨rfl,rfl⟩:=h;have:=Afm hi;subst this;exact AfB ..
  | false=>
   rw[hi]at h;simp only[AhX]at h;exact Aey _ (Lu h)
def ldV (P:Program)(T:TypeId)(x:Operand)(s:S)(K:Option Nat->SV->S->Prop):Prop:=match rU (s.op x) with
 | some (.bx i o)=>match cJ s.bx i,cB P T with
  | some (_,cs),some true=>match cA P T with
   | some n=>match decide (((cs.drop o).take n).length=n) with
    | true=>K none (.v (.agg ((cs.drop o).take n))) s
    | false=>False
   | none=>False
  | some (_,cs),some false=>match QD cs o with
   | some u=>K none (.at u) s
   | none=>False
  | _,_=>False
 | some (.at b o)=>match cB P T,cA P T with
  | some true,some n=>s.ex P T λv s=>match v with
   | .v (.agg l)=>match decide (l.length=n) with
    | true=>Bm s.Z22 b o (Bc s.vl l)/\K (some b) v s
    | false=>False
   | _=>False
  | some false,some _=>s.ex P T λv s=>Hp.ld s.Z22 ⟨b,o,none⟩=some (v.den s.vl)/\K (some b) v s
  | _,_=>False
 | _=>False
theorem Hp.rZ {Z22:Hp}{b o:Nat}{v:Value}(h:Hp.ld Z22 ⟨b,o,none⟩=some v):Hp.ld (λx=>if x=b then Z22 x else none) ⟨b,o,none⟩=some v:=by
 unfold Hp.ld at *;simpa using h
theorem Bm.lim {Z22:Hp}{b:Nat}:∀{l:List Value} {o:Nat},Bm Z22 b o l->Bm (λx=>if x=b then Z22 x else none) b o l
 | [],_,_=>trivial
 | v::l,o,h=>⟨Hp.rZ h.1,Bm.lim h.2⟩
theorem XG {P:Program}{T ty:TypeId}{x:Operand}{s:S}{K:Option Nat->SV->S->Prop}(h:ldV P T x s K):
  ∃m v A,s.Same A/\K m v A/\∀J,match m with
   | none=>∀Z22,Yd P (s.e J) s.b Z22 (.load T x) ty (v.den A.vl)
   | some b=>Yd P (s.e J) s.b (λx=>if x=b then s.Z22 x else none) (.load T x) ty (v.den A.vl):=by
 unfold ldV at h;split at h
 .rename_i i o hp;obtain⟨u,e1,e2⟩:=F4 hp;have hx:∀J,AE (s.e J) x=.pointer (some ⟨nth 0 s.vl.δ i,o,none⟩):=λJ=>by rw[ev e1,e2];rfl
  split at h
  .rename_i t cs hb G;split at h
   .rename_i n hn;split at h
    .rename_i hd;have hd:=AfS hd;refine⟨none,_,s,.refl s,h,λJ Z22=>?_⟩;have:=Y.APR (P:=P) (e:=s.e J) (bx:=s.b) (Z22:=Z22) (ty:=ty) (vs:=Bc s.vl ((cs.drop o).take n)) (F3 G) (De hn) (by rw[EY];exact hd) (hx J) (Lu hb) (by simp[UK]);exact this
    .cases h
   .cases h
  .rename_i t cs hb G;split at h
   .rename_i u hu;exact⟨none,_,s,.refl s,h,λJ Z22=>Y.ldb (F3 G) (hx J) (Lu hb) (by simpa[SV.den,Ht.den] using RS hu)⟩
   .cases h
  .cases h
 .rename_i b o hp;obtain⟨u,e1,e2⟩:=F4 hp;have hx:∀J,AE (s.e J) x=.pointer (some ⟨b,o,none⟩):=λJ=>by rw[ev e1,e2];rfl
  split at h
  .rename_i n G hn;obtain⟨v,A,h1,h⟩:=S.UO h;split at h
   .rename_i l;split at h
    .rename_i hd;have hd:=AfS hd;refine⟨some b,_,A,h1,h.2,λJ=>?_⟩;have hl:=h.1;rw[h1.Z22]at hl;exact Y.lda (F3 G) (De hn) (by rw[EY];exact hd) (hx J) hl.lim
    .cases h
   .cases h
  .rename_i n G hn;obtain⟨v,A,h1,h⟩:=S.UO h;have hl:=h.1;rw[h1.Z22]at hl;exact⟨some b,_,A,h1,h.2,λJ=>Y.ld (F3 G) (hx J) (Hp.rZ hl)⟩
  .cases h
 .cases h
def yv (P:Program)(wr:Bool)(op:Op)(s:S)(K:SV->S->Prop):Prop:=match op with
 | .move x=>s.val x K
 | .assign x=>s.val x K
 | .pick z x y=>ABk x y z s K
 | .binOp b T x y _=>AD6 P wr b T x y s K
 | .unOp u _ x=>match u with
  | .not=>AD7 x s K
  | .neg=>AD8 x s K
  | _=>False
 | .convert T T' x=>rV P T T' x s K
 | .fieldAddr T x f=>AD9 P T x f s K
 | .field T x f=>iE P T x f s K
 | .extract x i=>AEA x i s K
 | .indexAddr T x y=>AEB P T x y s K
 | .index T x y=>rW P T x y s K
 | .nilCheck x=>AEC x s K
 | .makeFunc fn xs ys=>AED fn xs ys s K
 | .build T ps=>iS P T ps s K
 | .makeInterface T x=>iF P T x s K
 | .slice T x lo hi A=>match A with
  | none=>iP P T x lo hi s K
  | some _=>False
 | .call c=>match c.callee,c.args.toList with
  | .builtin .len,[x]=>AEE P x c.argTypes s K
  | .builtin .cap,[x]=>AEF P x c.argTypes s K
  | .builtin .min,[x,y]=>match ay (s.op x),ay (s.op y) with
   | some (k,a),some (_,b)=>K (.at (.int k (if(b:Int)<a then b else a))) s
   | _,_=>False
  | .builtin .max,[x,y]=>match ay (s.op x),ay (s.op y) with
   | some (k,a),some (_,b)=>K (.at (.int k (if(a:Int)<b then b else a))) s
   | _,_=>False
  | _,_=>False
 | _=>False
theorem cK {P:Program}{wr:Bool}{op:Op}{ty:TypeId}{s:S}{K:SV->S->Prop}(h:yv P wr op s K):YP P op ty s K:=by
 unfold yv at h;split at h
 .exact W8 h λv J Z22 hv=>Y.move hv
 .exact W8 h λv J Z22 hv=>Y.assign hv
 .exact cE h
 .exact iD h
 .split at h
  .exact iG h
  .exact iH h
  .cases h
 .exact cG h
 .exact iI h
 .exact YU h
 .exact iJ h
 .exact iK h
 .exact cH h
 .exact iL h
 .exact iM h
 .exact YX h
 .exact YV h
 .split at h
  .exact YW h
  .cases h
 .rename_i c;obtain⟨ce,Aes,ts⟩:=c;split at h
  .rename_i x A G;simp only at A G h;have:Aes=#[x]:=by rw[<-AfM];simpa using G
   subst this A;exact iN h
  .rename_i x A G;simp only at A G h;have:Aes=#[x]:=by rw[<-AfM];simpa using G
   subst this A;exact iO h
  .rename_i x y A G;simp only at A G h;have:Aes=#[x,y]:=by rw[<-AfM];simpa using G
   subst this A;split at h
   .rename_i k a k' b hx hy;obtain⟨u,e1,e2⟩:=Cw hx;obtain⟨v,e3,e4⟩:=Cw hy;exact Ce h λJ Z22=>Y.min2 (by rw[ev e1,e2]) (by rw[ev e3,e4])
   .cases h
  .rename_i x y A G;simp only at A G h;have:Aes=#[x,y]:=by rw[<-AfM];simpa using G
   subst this A;split at h
   .rename_i k a k' b hx hy;obtain⟨u,e1,e2⟩:=Cw hx;obtain⟨v,e3,e4⟩:=Cw hy;exact Ce h λJ Z22=>Y.max2 (by rw[ev e1,e2]) (by rw[ev e3,e4])
   .cases h
  .cases h
 .cases h
end Tw
end
section
namespace Tw
open Go
variable [I9]
def nc:List Nat->Nat->Bool
 | [],_=>false
 | x::l,n=>Nat.beq x n||nc l n
theorem cL:∀{l:List Nat} {n:Nat},nc l n=true->n∈l
 | x::l,n,h=>by
  simp only[nc,Ag6]at h;rcases h with h|h
  .exact(Afm h)▸AfB ..
  .exact Aey _ (cL h)
def AN (P:Program)(l:List Nat):Prop:=∀f∈l,Enters P f
theorem AN.nil {P:Program}:AN P []:=λf h=>by cases h
theorem AN.cons {P:Program}{f:Nat}{l:List Nat}(h:Enters P f)(G:AN P l):AN P (f::l):=λx A=>by
 rcases Ae5.1 A with rfl|A
 .exact h
 .exact G x A
abbrev KP:=Hp->Hp->Prop->Prop
def HN (A:Vl->(SV->Vl->Prop)->Prop)(dst:Option Nat)(s:S)(Z0:Hp)(v:Value)(kp:KP)(K:S->Prop):Prop:=match dst with
 | none=>kp Z0 s.Z22 (K s)
 | some d=>match s.ok with
  | true=>A s.vl λx vl=>eqV x vl v (kp Z0 s.Z22 (K ((s.w vl).put (some d) x)))
  | false=>False
def XH (A:Vl->(SV->Vl->Prop)->Prop):Prop:=∀vl k,A vl k->∃a w,vl.Le w/\k a w
theorem KR {P:Program}{t:TypeId}:XH (V7 P t):=λ_ _ h=>nY h
def ra:Vl->(SV->Vl->Prop)->Prop:=λvl k=>∃m:Nat,k (.at (.mp (some m))) vl
theorem nh:XH ra:=λvl k ⟨m,h⟩=>⟨_,_,.refl _,h⟩
def rb:Vl->(SV->Vl->Prop)->Prop:=λvl k=>∃v:Value,k (.at (.raw v)) vl
theorem ni:XH rb:=λvl k ⟨m,h⟩=>⟨_,_,.refl _,h⟩
def Td (P:Program)(t:TypeId)(A:Bool):Vl->(SV->Vl->Prop)->Prop:=λvl k=>match A with
 | false=>xW P t vl λa vl=>k (.v a) vl
 | true=>xW P t vl λa vl=>∃b:Bool,k (.Wv [a,.a (.bs vl.β.length false)]) (vl.iA (.var b))
theorem iU {P:Program}{t:TypeId}{A:Bool}:XH (Td P t A):=λvl k h=>by
 cases A with
 | false=>unfold Td at h;obtain⟨a,w,G,h⟩:=Fc h;exact⟨_,_,G,h⟩
 | true=>unfold Td at h;obtain⟨a,w,G,b,h⟩:=Fc h;exact⟨_,_,G.trans (Vl.kz _ _),h⟩
def rf (P:Program)(t u:TypeId):Vl->(SV->Vl->Prop)->Prop:=λvl k=>xW P t vl λa vl=>xW P u vl λb vl=>k (.Wv [a,b]) vl
theorem nj {P:Program}{t u:TypeId}:XH (rf P t u):=λvl k h=>by
 obtain⟨a,w,A,h⟩:=Fc h;obtain⟨b,w2,G,h⟩:=Fc h;exact⟨_,_,A.trans G,h⟩
def St' (J:Env)(s:S)(kq:Hp->Hp->Prop)(K:S->Prop):Env->Bx->Hp->Prop:=λe' G Z'2=>∃A,e'=A.e J/\G=A.b/\Z'2=A.Z22/\kq s.Z22 Z'2/\(∀p∈s.b,p∈G)/\K A
theorem Ah {G:Vl->(SV->Vl->Prop)->Prop}(hg:XH G){dst:Option Nat}{s:S}{A:Hp}{v:Value}{kp:KP}{kq:Hp->Hp->Prop}{K:S->Prop}(Io:∀Z0 A F,kp Z0 A F->F/\kq Z0 A)
  (h:HN G dst (s.hp A) s.Z22 v kp K) (J:Env):St' J s kq K (put (s.e J) dst v) s.b A:=by
 cases dst with
 | none=>
  obtain⟨h1,h2⟩:=Io _ _ _ h;exact⟨s.hp A,rfl,rfl,rfl,h2,λ_ h=>h,h1⟩
 | some d=>
  simp only[HN]at h;cases hs:(s.hp A).ok with
  | false=>rw[hs]at h;cases h
  | true=>
   rw[hs]at h;obtain⟨x,w,hle,h⟩:=hg _ _ h;obtain⟨hv,h⟩:=nZ h;obtain⟨h1,h2⟩:=Io _ _ _ h;have Ku:=S.UI hs hle.le;refine⟨_,?_,?_,?_,h2,λ_ h=>h,h1⟩
   .rw[S.JZ,Ku.e J,hv];rfl
   .rw[S.Ja,Ku.b];rfl
   .rw[S.Gk];rfl
def S.boxed (s:S)(d:Option Nat)(b:Nat)(T:TypeId)(cs:List Cr):S:=
 S.put ⟨s.env,(s.vl.δ.length,T,cs)::s.bx,s.vl.ye b,s.Z22⟩ d (.at (.pt (.bx s.vl.δ.length 0)))
def yk (hid:Bool)(d:Option Nat)(T:TypeId)(cs:List Cr)(s:S)(K:S->Prop):Prop:=match hid with
 | true=>match s.ok&&oks s.vl cs with
  | true=>∀b:Nat,K (s.boxed d b T cs)
  | false=>False
 | false=>∀b:Nat,s.Z22 b=none->K ((s.hp (Hp.set s.Z22 b (.cells (Bc s.vl cs).toArray T (0,0)))).put d (.at (.pt (.at b 0))))
def rh (P:Program)(T:TypeId):Option Value:=match P.info? T with
 | some A=>A.zero
 | none=>none
theorem XI {P:Program}{T:TypeId}{z:Value}(h:rh P T=some z):∀w,(zeroValue T).run P w=.ok z w:=λw=>by
 unfold rh at h;split at h
 .rename_i A hi;simp[zeroValue,typeInfo,hi,h]
 .cases h
structure iV where
 P:Program
 R:Rr
 CP:List Nat
 hid:List Nat
 wr:Bool
def iV.k0 (c:iV)(d:Option Nat):Bool:=match d with
 | some d=>nc c.hid d
 | none=>false
def EN (P:Program)(f:FuncId)(args:Array Value)(Z22:Hp)(Φ:Value->Hp->Prop):Prop:=
 ∀w (F:Nat->Prop),Sat Z22 w->(∀b,F b->b<w.heap.size/\Z22 b=none)->∃v A Z'2,(callFunc f args).run P w=.ok (.value v) A/\Φ v Z'2/\Fin Z'2 F w A
theorem EN.y {P:Program}{f:FuncId}{args:Array Value}{Z22:Hp}{v:Value}{Φ:Value->Hp->Prop}(hy:YN P f args Z22 v)(h:Φ v Z22):EN P f args Z22 Φ:=λw F A G=>
 ⟨v,w,Z22,hy w A,h,A,λb hb=>⟨(G b hb).2,rfl⟩,.same rfl rfl rfl,rfl,Ae1 _⟩
theorem EN.mono {P:Program}{f:FuncId}{args:Array Value}{Z22:Hp}{Φ Ψ:Value->Hp->Prop}(h:EN P f args Z22 Φ)(G:∀v Z'2,Φ v Z'2->Ψ v Z'2):EN P f args Z22 Ψ:=λw F hs A=>
 let ⟨v,w',Z'2,h1,h2,h3⟩:=h w F hs A
 ⟨v,w',Z'2,h1,G _ _ h2,h3⟩
theorem AV.en {g:Gl}{ops:Array Oper}{i:Nat}{d:Option Nat}{ty:TypeId}{gd:Option (Nat×Bool)}{e:Env}{bx:Bx}{Z22:Hp}{K:Env->Bx->Hp->Prop}{x:Operand}{xs:Array Operand}{ts:Array TypeId}{f:FuncId}{args:Array Value}
  (hs:sig ops i=some (d,.call { callee:=.value x,args:=xs,argTypes:=ts },ty,gd)) (hw:AX ops e gd=true) (hd:HJ d g.n=true) (hx:AE e x=.func (.func f) #[] #[]) (A:xs.toList.map (AE e)=args.toList)
  (h:EN g.P f args Z22 λv Z'2=>K (put e d v) bx Z'2):AV g ops i e bx Z22 K:=by
 intro w0 F a w st;obtain⟨o,ho,rfl,G,DG,rfl⟩:=Bt hs;refine Cv ho (by rw[st.wanted];exact hw) ?_;obtain⟨v,w',Z'2,h1,h2,h3⟩:=h w _ st.sat st.lt;rw[st.eval];have A:xs.map (AE e)=args:=by rw[<-AfM];simpa using A
 have Cd:(execOp (AE e) o).run g.P w=.ok (.value v) w':=by
  simp only[execOp,G,resolve,hx,A,Deferred.ofValue,invoke,bind,Sem.bind,pure,Ag4,Ah4];exact h1
 rw[Dx Cd (λd=>by simp)];exact⟨_,_,_,(st.fin h3).put _ _ (HJ.lt hd),h2⟩
abbrev ri : String := "Len"
abbrev SI : String := "Less"
abbrev SJ : String := "Swap"
abbrev ABl : String := "Push"
abbrev AIN : String := "Pop"
def MC (P:Program)(u:Value)(name:String)(args:Array Value)(Z22:Hp)(R:Rr):Prop:=
 ∃(f:FuncId) (A:Array Value),(∀w,Sat Z22 w->(invoke (.fn (.method name) #[]) (#[u]++args)).run P w=.ok (.enter f A) w)/\Spec P f A Z22 R
theorem MC.cont {P:Program}{u:Value}{name:String}{args:Array Value}{Z22:Hp}{R:Rr}{Φ Ψ:Value->Hp->Prop}(h:MC P u name args Z22 (BI R Φ))(A:∀v Z'2,Φ v Z'2->Ψ v Z'2):MC P u name args Z22 (BI R Ψ):=
 let ⟨f,Aes,hm,h⟩:=h
 ⟨f,Aes,hm,h.cont A⟩
theorem AV.inv {g:Gl}{ops:Array Oper}{i:Nat}{d:Option Nat}{ty:TypeId}{gd:Option (Nat×Bool)}{e:Env}{bx:Bx}{Z22:Hp}{K:Env->Bx->Hp->Prop}{x:Operand}{xs:Array Operand}{ts:Array TypeId}{name:String}{u:Value}{vs:Array Value}
  (hs:sig ops i=some (d,.call { callee:=.invoke x name,args:=xs,argTypes:=ts },ty,gd)) (hw:AX ops e gd=true) (hd:HJ d g.n=true) (hx:AE e x=u) (HY:xs.toList.map (AE e)=vs.toList)
  (h:MC g.P u name vs Z22 (BI g.R λv Z'2=>K (put e d v) bx Z'2)):AV g ops i e bx Z22 K:=by
 obtain⟨f,G,hm,h⟩:=h;intro w0 F a w st;obtain⟨o,ho,rfl,By,DG,rfl⟩:=Bt hs;refine Cv ho (by rw[st.wanted];exact hw) ?_;have HY:xs.map (AE e)=vs:=by rw[<-AfM];simpa using HY
 have Cd:(execOp (AE e) o).run g.P w=.ok (.enter f G) w:=by
  simp only[execOp,By,resolve,hx,HY,bind,Sem.bind,pure];exact hm w st.sat
 rw[st.eval,Dx Cd (λd=>by simp)];refine⟨λhh=>(by cases hh),UA (Calls.mono (h w _ st.sat st.lt) λen w'=>?_)⟩
 rintro⟨Z'2,A,hf⟩
 have MX:=st.fin hf;cases en with
 | returned v=>exact⟨_,_,_,MX.put _ _ (HJ.lt hd),A⟩
 | panicked ch=>
  rcases g.gi with ⟨h1,h2⟩|A9
  .exact⟨⟨h1,MX.defers.trans h2⟩,Z'2,A,MX.toFin⟩
  .exact absurd A (A9 ch Z'2)
 | outgrown=>exact A.elim
def rj (c:iV)(dst:Option Nat)(x:Operand)(xs:List Operand)(ty:TypeId)(s:S)(kp:KP)(K:S->Prop):Prop:=match s.op x,s.Ag xs with
 | some (.v (.a (.fn f a b))),some vs=>match nc c.CP f with
  | true=>Spec c.P f (a.toList++(DJ s.vl vs++b.toList)).toArray s.Z22 (BI c.R λv A=>HN (V7 c.P ty) dst (s.hp A) s.Z22 v kp K)
  | false=>match Nat.beq (a.size+b.size) 0 with
   | true=>EN c.P f (DJ s.vl vs).toArray s.Z22 (λv A=>HN (V7 c.P ty) dst (s.hp A) s.Z22 v kp K)
   | false=>False
 | some (.v (.a (.raw u))),some vs=>match nc c.hid 100000 with
  | true=>∃l:Nat,u=.func (.yield l) #[] #[]/\Ls c.P l (DJ s.vl vs).toArray s.Z22 (BI c.R λv A=>HN (V7 c.P ty) dst (s.hp A) s.Z22 v kp K)
  | false=>∃(f:Nat) (fst cap:Array Value),u=.func (.func f) fst cap/\Enters c.P f/\Spec c.P f (fst++(DJ s.vl vs).toArray++cap) s.Z22 (BI c.R λv A=>HN (V7 c.P ty) dst (s.hp A) s.Z22 v kp K)
 | _,_=>False
def biV (c:iV)(dst:Option Nat)(b:Builtin)(xs:List Operand)(ts:Array TypeId)(ty:TypeId)(s:S)(kp:KP)(K:S->Prop):Prop:=match s.Ag xs with
 | none=>False
 | some vs=>match b,xs with
  | .append,[_,_]=>AH c.P (Builtin.append_ ts ty (DJ s.vl vs).toArray) s.Z22 (λv A=>HN (V7 c.P ty) dst (s.hp A) s.Z22 v kp K)
  | .copy,[_,_]=>AH c.P (Builtin.copy_ ts ty (DJ s.vl vs).toArray) s.Z22 (λv A=>HN (V7 c.P ty) dst (s.hp A) s.Z22 v kp K)
  | .delete,[_,_]=>AH c.P (Builtin.delete_ ts ty (DJ s.vl vs).toArray) s.Z22 (λv A=>HN (V7 c.P ty) dst (s.hp A) s.Z22 v kp K)
  | .clear,[_]=>AH c.P (Builtin.clear_ ts ty (DJ s.vl vs).toArray) s.Z22 (λv A=>HN (V7 c.P ty) dst (s.hp A) s.Z22 v kp K)
  | .real,[_]=>AH c.P (Builtin.real_ ts ty (DJ s.vl vs).toArray) s.Z22 (λv A=>HN (V7 c.P ty) dst (s.hp A) s.Z22 v kp K)
  | .imag,[_]=>AH c.P (Builtin.imag_ ts ty (DJ s.vl vs).toArray) s.Z22 (λv A=>HN (V7 c.P ty) dst (s.hp A) s.Z22 v kp K)
  | .complex,[_,_]=>AH c.P (Builtin.complex_ ts ty (DJ s.vl vs).toArray) s.Z22 (λv A=>HN (V7 c.P ty) dst (s.hp A) s.Z22 v kp K)
  | .unsafeString,[_,_]=>AH c.P (Builtin.unsafeString_ ts ty (DJ s.vl vs).toArray) s.Z22 (λv A=>HN (V7 c.P ty) dst (s.hp A) s.Z22 v kp K)
  | .min,[_,_]=>AH c.P (Builtin.min_ ts ty (DJ s.vl vs).toArray) s.Z22 (λv A=>HN (V7 c.P ty) dst (s.hp A) s.Z22 v kp K)
  | .max,[_,_]=>AH c.P (Builtin.max_ ts ty (DJ s.vl vs).toArray) s.Z22 (λv A=>HN (V7 c.P ty) dst (s.hp A) s.Z22 v kp K)
  | _,_=>False
def flB:BinOp->Bool
 | .add=>true
 | .sub=>true
 | .mul=>true
 | .quo=>true
 | _=>false
def AEJ (P:Program)(T:TypeId):Bool:=match P.underlying T with
 | some (.float _)=>true
 | _=>false
def nk (c:iV)(dst:Option Nat)(op:Op)(ty:TypeId)(s:S)(kp:KP)(K:S->Prop):Prop:=match op with
 | .call cl=>match cl.callee with
  | .value x=>rj c dst x cl.args.toList ty s kp K
  | .builtin b=>biV c dst b cl.args.toList cl.argTypes ty s kp K
  | .invoke x name=>match s.op x,s.Ag cl.args.toList with
   | some u,some vs=>MC c.P (u.den s.vl) name (DJ s.vl vs).toArray s.Z22 (BI c.R λv G=>HN (V7 c.P ty) dst (s.hp G) s.Z22 v kp K)
   | _,_=>False
 | .binOp b T x y _=>match flB b,s.op x,s.op y with
  | true,some u,some v=>AH c.P (binOp b T (u.den s.vl) (v.den s.vl)) s.Z22 (λv G=>HN (V7 c.P ty) dst (s.hp G) s.Z22 v kp K)
  | _,_,_=>False
 | .box T x=>match s.op x with
  | some v=>match v.flat with
   | some cs=>yk (c.k0 dst) dst T cs s K
   | none=>False
  | none=>False
 | .alloc T=>match rh c.P T with
  | some z=>yk (c.k0 dst) dst T (SG z.cells.toList) s K
  | none=>False
 | .buildSlice T m ps=>match c.P.underlying T,s.parts ps.toList with
  | some (.slice E),some vs=>match Program.Lp c.P E m (PN s.vl vs) with
   | some cs=>∀b:Nat,s.Z22 b=none->K ((s.hp (Hp.set s.Z22 b (.cells cs E (0,0)))).put dst (.at (.sl (.at b 0) m m)))
   | none=>False
  | _,_=>False
 | .store T x y=>match dst,rU (s.op x),s.op y with
  | none,some (.at b o),some v=>AH c.P (Instr.storeAt T (.pointer (some ⟨b,o,none⟩)) (v.den s.vl)) s.Z22 (λ_ G=>kp s.Z22 G (K (s.hp G)))
  | _,_,_=>False
 | .convert T T' x=>match s.op x with
  | some v=>AH c.P (convert T T' (v.den s.vl)) s.Z22 (λv G=>HN (V7 c.P ty) dst (s.hp G) s.Z22 v kp K)
  | none=>False
 | .makeMap T none=>AH c.P (Instr.makeMap T none) s.Z22 (λv G=>HN ra dst (s.hp G) s.Z22 v kp K)
 | .lookup T x y two=>match c.P.underlying T,s.op x,s.op y with
  | some (.map _ t),some u,some v=>AH c.P (Instr.lookup T (u.den s.vl) (v.den s.vl) two) s.Z22 (λv G=>HN (Td c.P t two) dst (s.hp G) s.Z22 v kp K)
  | _,_,_=>False
 | .range T x=>match s.op x with
  | some v=>AH c.P (Instr.range T (v.den s.vl)) s.Z22 (λv G=>HN rb dst (s.hp G) s.Z22 v kp K)
  | none=>False
 | .makeSlice T x y=>match s.op x,s.op y with
  | some u,some v=>AH c.P (Instr.makeSlice T (u.den s.vl) (v.den s.vl)) s.Z22 (λv G=>HN (V7 c.P ty) dst (s.hp G) s.Z22 v kp K)
  | _,_=>False
 | .typeAssert x T A two=>match s.op x with
  | some u=>AH c.P (Instr.typeAssert (u.den s.vl) T A two) s.Z22 (λv G=>HN (V7 c.P ty) dst (s.hp G) s.Z22 v kp K)
  | none=>False
 | _=>False
section
variable {g:Gl}{ops:Array Oper}{i:Nat}{J:Env}{dst:Option Nat}{op:Op}{ty:TypeId}{gd:Option (Nat×Bool)}{s:S}{kp:KP}{kq:Hp->Hp->Prop}{K:S->Prop}{c:iV}
theorem cM {x:Operand}{xs:Array Operand}{ts:Array TypeId}(hP:c.P=g.P)(hR:c.R=g.R)(hE:AN g.P c.CP)(Io:∀Z0 A F,kp Z0 A F->F/\kq Z0 A)
  (hs:sig ops i=some (dst,.call { callee:=.value x,args:=xs,argTypes:=ts },ty,gd)) (hw:AX ops (s.e J) gd=true) (hd:HJ dst g.n=true) (h:rj c dst x xs.toList ty s kp K):AV g ops i (s.e J) s.b s.Z22 (St' J s kq K):=by
 unfold rj at h;rw[hP,hR]at h;split at h
 .rename_i f a b vs hx az;split at h
  .rename_i hm;refine AV.call hs hw hd (λo ho _ w=>RO (hE f (cL hm)) (fst:=a) (cap:=b) (vs:=(DJ s.vl vs).toArray) (by rw[ev hx];rfl) (by simpa using ED az) ?_ o ho w) (h.mono λe A G=>?_)
   .rw[<-AfM];simp
   .cases e with
    | returned v=>exact Ah KR Io G J
    | panicked ch=>exact G
    | outgrown=>exact G
  .split at h
   .rename_i hz;have hz:=Afm hz;exact AV.en hs hw hd (by rw[ev hx,show a=#[] from Agu (by omega),show b=#[] from Agu (by omega)];rfl) (by simpa using ED az) (h.mono λv A G=>Ah KR Io G J)
   .cases h
 .rename_i u vs hx az;split at h
  .obtain⟨l,hu,h⟩:=h;refine AV.yield hs hw hd (u:=u) (vs:=(DJ s.vl vs).toArray) (by rw[ev hx];rfl) (by simpa using ED az) hu (h.mono λe A G=>?_);cases e with
   | returned v=>exact Ah KR Io G J
   | panicked ch=>exact G
   | outgrown=>exact G
  .obtain⟨f,fst,cap,hu,Ga,h⟩:=h;refine AV.AH9 hs hw hd (u:=u) (vs:=(DJ s.vl vs).toArray) (by rw[ev hx];rfl) (by simpa using ED az) hu Ga (h.mono λe A G=>?_);cases e with
   | returned v=>exact Ah KR Io G J
   | panicked ch=>exact G
   | outgrown=>exact G
 .cases h
theorem cN {T:TypeId}{cs:List Cr}{hid:Bool}(RU:∀Z0 A,Ext Z0 A->kq Z0 A)(h:yk hid dst T cs s K):
  (hid=true->∀b,St' J s kq K (put (s.e J) dst (.pointer (some ⟨b,0,none⟩))) ((b,.cells (Bc s.vl cs).toArray T (0,0))::s.b) s.Z22)/\
  (hid=false->∀b,s.Z22 b=none->St' J s kq K (put (s.e J) dst (.pointer (some ⟨b,0,none⟩))) s.b (s.Z22.set b (.cells (Bc s.vl cs).toArray T (0,0)))):=by
 unfold yk at h
 constructor
 .rintro rfl b
  simp only at h;cases hs:s.ok&&oks s.vl cs with
  | false=>rw[hs]at h;cases h
  | true=>
   rw[hs]at h;simp only[AfH]at hs;have h:=h b;have G:=Vl.yh s.vl b;have Ku:=S.UI hs.1 G;have hb:(S.boxed s dst b T cs).b=(b,Obj.cells (Bc s.vl cs).toArray T (0,0))::s.b:=by
    unfold S.boxed;rw[S.Ja];simp only[S.b,F1];have hbv:F1 (s.vl.ye b) s.bx=F1 s.vl s.bx:=Ku.b;rw[Tc G hs.2,hbv];show(nth 0 (s.vl.δ++[b]) s.vl.δ.length,_)::_=_
    rw[Mc]
   refine⟨_,?_,hb.symm,?_,RU _ _ (Ext.refl _),λ_ h=>Aey _ h,h⟩
   .unfold S.boxed;rw[S.JZ];have:=Ku.e J;show put (s.e J) dst _=put ((s.w (s.vl.ye b)).e J) dst (.pointer (some ⟨nth 0 (s.vl.δ++[b]) s.vl.δ.length,0,none⟩))
    rw[this,Mc]
   .unfold S.boxed;rw[S.Gk]
 .rintro rfl b hb
  have h:=h b hb;refine⟨_,?_,?_,?_,RU _ _ (.set hb),λ_ h=>h,h⟩
  .rw[S.JZ];rfl
  .rw[S.Ja];rfl
  .rw[S.Gk];rfl
section
variable {e:Env}{x y:Operand}{u v:Value}{ts:Array TypeId}{ty:TypeId}
theorem SK (hx:AE e x=u)(o:Oper)(A:o.op=.call { callee:=.builtin .real,args:=#[x],argTypes:=ts })(G:o.type=ty):execOp (AE e) o=(do pure (.value (<-Builtin.real_ ts ty #[u]))):=by
 subst G;simp[execOp,A,resolve,invoke,builtin,hx]
theorem SL (hx:AE e x=u)(o:Oper)(A:o.op=.call { callee:=.builtin .imag,args:=#[x],argTypes:=ts })(G:o.type=ty):execOp (AE e) o=(do pure (.value (<-Builtin.imag_ ts ty #[u]))):=by
 subst G;simp[execOp,A,resolve,invoke,builtin,hx]
theorem Lv (hx:AE e x=u)(hy:AE e y=v)(o:Oper)(A:o.op=.call { callee:=.builtin .complex,args:=#[x,y],argTypes:=ts })(G:o.type=ty):execOp (AE e) o=(do pure (.value (<-Builtin.complex_ ts ty #[u,v]))):=by
 subst G;simp[execOp,A,resolve,invoke,builtin,hx,hy]
theorem iW (hx:AE e x=u)(hy:AE e y=v)(o:Oper)(A:o.op=.call { callee:=.builtin .min,args:=#[x,y],argTypes:=ts })(G:o.type=ty):execOp (AE e) o=(do pure (.value (<-Builtin.min_ ts ty #[u,v]))):=by
 subst G;simp[execOp,A,resolve,invoke,builtin,hx,hy]
theorem iX (hx:AE e x=u)(hy:AE e y=v)(o:Oper)(A:o.op=.call { callee:=.builtin .max,args:=#[x,y],argTypes:=ts })(G:o.type=ty):execOp (AE e) o=(do pure (.value (<-Builtin.max_ ts ty #[u,v]))):=by
 subst G;simp[execOp,A,resolve,invoke,builtin,hx,hy]
theorem M9 (hx:AE e x=u)(hy:AE e y=v)(o:Oper)(A:o.op=.call { callee:=.builtin .unsafeString,args:=#[x,y],argTypes:=ts })(G:o.type=ty):execOp (AE e) o=(do pure (.value (<-Builtin.unsafeString_ ts ty #[u,v]))):=by
 subst G;simp[execOp,A,resolve,invoke,builtin,hx,hy]
end
theorem nq {b:Builtin}{xs:Array Operand}{ts:Array TypeId}(hP:c.P=g.P)(Io:∀Z0 A F,kp Z0 A F->F/\kq Z0 A)
  (hs:sig ops i=some (dst,.call { callee:=.builtin b,args:=xs,argTypes:=ts },ty,gd)) (hw:AX ops (s.e J) gd=true) (hd:HJ dst g.n=true) (h:biV c dst b xs.toList ts ty s kp K):AV g ops i (s.e J) s.b s.Z22 (St' J s kq K):=by
 unfold biV at h;rw[hP]at h;split at h
 .cases h
 .rename_i vs az;have two:∀{x y:Operand},xs.toList=[x,y]->xs=#[x,y]/\DJ s.vl vs=[AE (s.e J) x,AE (s.e J) y]:=λG=>by
   refine⟨by rw[<-AfM];simpa using G,?_⟩;rw[<-ED (J:=J) az,G];rfl
  have one:∀{x:Operand},xs.toList=[x]->xs=#[x]/\DJ s.vl vs=[AE (s.e J) x]:=λG=>by
   refine⟨by rw[<-AfM];simpa using G,?_⟩;rw[<-ED (J:=J) az,G];rfl
  split at h
  .rename_i x y G;obtain⟨rfl,e⟩:=two G;rw[e]at h;exact AV.PJ hs hw hd _ (λo ho ht=>JC rfl rfl o ho ht) (h.mono λv A hr=>Ah KR Io hr J)
  .rename_i x y G;obtain⟨rfl,e⟩:=two G;rw[e]at h;exact AV.PJ hs hw hd _ (λo ho ht=>bg rfl rfl o ho ht) (h.mono λv A hr=>Ah KR Io hr J)
  .rename_i x y G;obtain⟨rfl,e⟩:=two G;rw[e]at h;exact AV.PJ hs hw hd _ (λo ho ht=>WG rfl rfl o ho ht) (h.mono λv A hr=>Ah KR Io hr J)
  .rename_i x G;obtain⟨rfl,e⟩:=one G;rw[e]at h;exact AV.PJ hs hw hd _ (λo ho ht=>YK rfl o ho ht) (h.mono λv A hr=>Ah KR Io hr J)
  .rename_i x G;obtain⟨rfl,e⟩:=one G;rw[e]at h;exact AV.PJ hs hw hd _ (λo ho ht=>SK rfl o ho ht) (h.mono λv A hr=>Ah KR Io hr J)
  .rename_i x G;obtain⟨rfl,e⟩:=one G;rw[e]at h;exact AV.PJ hs hw hd _ (λo ho ht=>SL rfl o ho ht) (h.mono λv A hr=>Ah KR Io hr J)
  .rename_i x y G;obtain⟨rfl,e⟩:=two G;rw[e]at h;exact AV.PJ hs hw hd _ (λo ho ht=>Lv rfl rfl o ho ht) (h.mono λv A hr=>Ah KR Io hr J)
  .rename_i x y G;obtain⟨rfl,e⟩:=two G;rw[e]at h;exact AV.PJ hs hw hd _ (λo ho ht=>M9 rfl rfl o ho ht) (h.mono λv A hr=>Ah KR Io hr J)
  .rename_i x y G;obtain⟨rfl,e⟩:=two G;rw[e]at h;exact AV.PJ hs hw hd _ (λo ho ht=>iW rfl rfl o ho ht) (h.mono λv A hr=>Ah KR Io hr J)
  .rename_i x y G;obtain⟨rfl,e⟩:=two G;rw[e]at h;exact AV.PJ hs hw hd _ (λo ho ht=>iX rfl rfl o ho ht) (h.mono λv A hr=>Ah KR Io hr J)
  .cases h
theorem ym {e:Env}{b:BinOp}{T T':TypeId}{x y:Operand}{u v:Value}(hb:flB b=true)(G:AE e x=u)(hy:AE e y=v)(o:Oper)(A:o.op=.binOp b T x y T'):execOp (AE e) o=(do pure (.value (<-binOp b T u v))):=by
 cases b<;>first|(cases hb;done)|(simp[execOp,A,G,hy,eqGuard])
theorem UP (hP:c.P=g.P)(hR:c.R=g.R)(hE:AN g.P c.CP)(Io:∀Z0 G F,kp Z0 G F->F/\kq Z0 G)(RU:∀Z0 G,Ext Z0 G->kq Z0 G)
  (hs:sig ops i=some (dst,op,ty,gd)) (hw:AX ops (s.e J) gd=true) (hd:HJ dst g.n=true) (h:nk c dst op ty s kp K):AV g ops i (s.e J) s.b s.Z22 (St' J s kq K):=by
 unfold nk at h;split at h
 .rename_i cl;obtain⟨ce,xs,ts⟩:=cl;split at h
  .rename_i x hx;simp only at hx h;subst hx;exact cM hP hR hE Io hs hw hd h
  .rename_i b hx;simp only at hx h;subst hx;exact nq hP Io hs hw hd h
  .rename_i x name hx;simp only at hx h;subst hx;rw[hP,hR]at h;split at h
   .rename_i u vs hu az;obtain⟨f,Aes,hm,h⟩:=h;refine AV.inv hs hw hd (ev hu) (by simpa using ED az) ⟨f,Aes,hm,h.mono λe G hr=>?_⟩;cases e with
    | returned v=>exact Ah KR Io hr J
    | panicked ch=>exact hr
    | outgrown=>exact hr
   .cases h
 .rename_i b T x y T';split at h
  .rename_i u v hb hu hv;rw[hP]at h;exact AV.PJ hs hw hd _ (λo ho ht=>ym hb (ev hu) (ev hv) o ho) (h.mono λv G hr=>Ah KR Io hr J)
  .cases h
 .rename_i T x;split at h
  .rename_i v hv;split at h
   .rename_i cs hc;obtain⟨h1,h2⟩:=cN (J:=J) RU h;have hx:(AE (s.e J) x).cells=(Bc s.vl cs).toArray:=by rw[ev hv,cI hc]
    cases hh:c.k0 dst with
    | true=>exact AV.box hs hw hd hx (h1 hh)
    | false=>exact AV.APT hs hw hd hx (h2 hh)
   .cases h
  .cases h
 .rename_i T;split at h
  .rename_i z hz;obtain⟨h1,h2⟩:=cN (J:=J) RU h;have hx:z.cells=(Bc s.vl (SG z.cells.toList)).toArray:=by rw[Jb]
   rw[hP]at hz;cases hh:c.k0 dst with
   | true=>exact AV.alloc hs hw hd (XI hz) hx (h1 hh)
   | false=>exact AV.gq hs hw hd (XI hz) hx (h2 hh)
  .cases h
 .rename_i T m ps;rw[hP]at h;split at h
  .rename_i E vs hT az;split at h
   .rename_i cs hc;refine AV.Lp hT hs hw hd (PO az) hc λb hb=>?_;refine⟨_,?_,?_,?_,RU _ _ (.set hb),λ_ h=>h,h b hb⟩
    .rw[S.JZ];rfl
    .rw[S.Ja];rfl
    .rw[S.Gk];rfl
   .cases h
  .cases h
 .rename_i T x y;split at h
  .rename_i b o v hx hy;obtain⟨u,e1,e2⟩:=F4 hx;rw[hP]at h;refine AV.store hs hw (p:=.pointer (some ⟨b,o,none⟩)) (by rw[ev e1,e2];rfl) (ev hy) (h.mono λ_ G hr=>?_);obtain⟨h1,h2⟩:=Io _ _ _ hr;exact⟨s.hp G,rfl,rfl,rfl,h2,λ_ h=>h,h1⟩
  .cases h
 .rename_i T T' x;split at h
  .rename_i v hv;rw[hP]at h;exact AV.PJ hs hw hd _ (λo ho ht=>by simp only[execOp,ho];rw[ev hv]) (h.mono λv G hr=>Ah KR Io hr J)
  .cases h
 .rename_i T;rw[hP]at h;exact AV.PJ hs hw hd _ (λo ho ht=>by simp only[execOp,ho];rfl) (h.mono λv G hr=>Ah nh Io hr J)
 .rename_i T x y two;rw[hP]at h;split at h
  .rename_i a t u v hT hu hv;exact AV.PJ hs hw hd _ (λo ho ht=>by simp only[execOp,ho];rw[ev hu,ev hv]) (h.mono λv G hr=>Ah iU Io hr J)
  .cases h
 .rename_i T x;split at h
  .rename_i v hv;rw[hP]at h;exact AV.PJ hs hw hd _ (λo ho ht=>by simp only[execOp,ho];rw[ev hv]) (h.mono λv G hr=>Ah ni Io hr J)
  .cases h
 .rename_i T x y;split at h
  .rename_i u v hu hv;rw[hP]at h;exact AV.PJ hs hw hd _ (λo ho ht=>by simp only[execOp,ho];rw[ev hu,ev hv]) (h.mono λv G hr=>Ah KR Io hr J)
  .cases h
 .rename_i x T A two;split at h
  .rename_i u hu;rw[hP]at h;exact AV.PJ hs hw hd _ (λo ho ht=>by simp only[execOp,ho];rw[ev hu]) (h.mono λv G hr=>Ah KR Io hr J)
  .cases h
 .cases h
end
end Tw
end
