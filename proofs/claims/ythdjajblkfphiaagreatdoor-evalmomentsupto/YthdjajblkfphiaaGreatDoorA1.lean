/-
  Part 1 of the proof that the law EvalMomentsUptoCardSaid of the given program answers true for every input of the given statement; the input reads behind the call as it did. (The texts: packed from 20 texts. Names are shortened by the packing program, for the bound on size.)
-/
import Derived.OrdersHeld
import Derived.StillTail
import Derived.Laws.Entries
import Derived.OrdersIn
import Derived.RangeFuncRecord
import Derived.KernelRfl
import Derived.Laws.Slices
import Derived.Laws.Small
import Derived.Laws.Cells
import Derived.Laws.Strings
import Derived.Laws.Tables
import Derived.Laws.Strings2
import Derived.Laws.Pointers
import Derived.Laws.Append
import Derived.Laws.AppendOwn
import Derived.Lib.Overlaps
import Derived.RangeFuncIn
import Derived.ProofKit
import Derived.SizedLaws
import Derived.Deep.Slices
import Derived.Scope
import Derived.Maps.RangeRun
import Derived.MapKept
import Derived.Test.YthdjajblkfphiaaGreatDoorProg
import Derived.ChangeKeysEq
set_option linter.all false
namespace Go.Value
abbrev I(x:Int):Value:=.int .i64 x
abbrev U(x:Int):Value:=.int .u64 x
abbrev N:Value:=.slice none 0 0
end Go.Value
namespace Go.Ending
abbrev T(a:Array Value):Ending:=.returned (.tuple a)
abbrev B(a:Bool):Ending:=.returned (.bool a)
end Go.Ending
abbrev AWj:=@if_neg
abbrev AWk:=@List.getElem?_eq_some_iff
abbrev AWl:=@if_pos
abbrev AWm:=@List.getElem?_eq_getElem
abbrev AWn:=@List.mem_of_getElem?
abbrev AWo:=@List.mem_cons
abbrev AWp:=@Option.some.injEq
abbrev AWq:=@List.mem_cons_of_mem
abbrev AWr:=@of_decide_eq_true
abbrev AWs:=@List.mem_singleton
abbrev AWt:=@List.take_of_length_le
abbrev AWu:=@Nat.le_refl
abbrev AWv:=@Bool.and_eq_true
abbrev AWw:=@List.length_cons
abbrev AWx:=@Nat.zero_le
abbrev AWy:=@congrArg
abbrev AWz:=@List.length_append
abbrev AW0:=@List.length_take
abbrev AW1:=@List.mem_cons_self
abbrev AW2:=@of_decide_eq_false
abbrev AW3:=@Array.getElem?_eq_some_iff
abbrev AW4:=@List.getElem?_take
abbrev AW5:=@Array.toList_inj
abbrev AW6:=@decide_eq_true_eq
abbrev AW7:=@Decidable.not_not
abbrev AW8:=@List.mem_append
abbrev AW9:=@List.length_map
abbrev AXA:=@List.not_mem_nil
abbrev AXB:=@List.mem_map
abbrev AXC:=@decide_eq_false
abbrev AXD:=@Nat.le_trans
abbrev AXE:=@List.length_eq_zero_iff
abbrev AXF:=@Option.some.inj
abbrev AXG:=@List.map_append
abbrev AXH:=@List.drop_eq_nil_of_le
abbrev AXI:=@List.getElem?_cons_zero
abbrev AXJ:=@List.pairwise_cons
abbrev AXK:=@decide_eq_true
abbrev AXL:=@List.nodup_cons
abbrev AXM:=@List.getElem?_map
abbrev AXN:=@List.mem_iff_getElem?
abbrev AXO:=@List.length_filter_le
abbrev AXP:=@List.length_filterMap_le
abbrev AXQ:=@List.getElem?_drop
abbrev AXR:=@Nat.mul_le_mul_right
abbrev AXS:=@List.length_drop
abbrev AXT:=@Option.map_some
abbrev AXU:=@List.getElem?_cons_succ
abbrev AXV:=@List.getElem?_append_right
abbrev AXW:=@List.getElem?_append_left
abbrev AXX:=@List.pairwise_iff_getElem
abbrev AXY:=@Nat.eq_of_beq_eq_true
abbrev AXZ:=@Nat.le_of_ble_eq_true
abbrev AXa:=@List.map_cons
abbrev AXb:=@List.cons_append
abbrev AXc:=@List.length_singleton
abbrev AXd:=@List.getElem?_zip_eq_some
abbrev AXe:=@List.getElem?_set_self
abbrev AXf:=@List.append_assoc
abbrev AXg:=@List.mem_filterMap
abbrev AXh:=@Array.getElem?_toList
abbrev AXi:=@List.nil_append
abbrev AXj:=@List.all_eq_true
abbrev AXk:=@or_false
abbrev AXl:=@Nat.zero_add
abbrev AXm:=@List.ext_getElem?
abbrev AXn:=@Ne.symm
abbrev AXo:=@List.eq_nil_of_length_eq_zero
abbrev AXp:=@List.getElem?_set_ne
abbrev AXq:=@Array.length_toList
abbrev AXr:=@List.take_append_drop
abbrev AXs:=@Nat.add_mul
abbrev AXt:=@List.getElem?_append
abbrev AXu:=@List.map_singleton
abbrev AXv:=@UInt8.lt_iff_toNat_lt
abbrev AXw:=@List.length_nil
abbrev AXx:=@List.length_zip
abbrev AXy:=@decide_eq_false_iff_not
abbrev AXz:=@List.mem_append_left
abbrev AX0:=@decide_eq_decide
abbrev AX1:=@Nat.add_zero
abbrev AX2:=@ByteArray.size_extract
abbrev AX3:=@List.length_set
abbrev AX4:=@List.flatMap_cons
abbrev AX5:=@Nat.sub_self
abbrev AX6:=@List.getElem?_eq_none
abbrev AX7:=@Int.natCast_nonneg
abbrev AX8:=@List.getLast?_eq_getElem?
abbrev AX9:=@if_false
abbrev AYA:=@List.mem_filter
abbrev AYB:=@List.cons.injEq
abbrev AYC:=@List.append_nil
abbrev AYD:=@List.nodup_append
abbrev AYE:=@List.pairwise_map
abbrev AYF:=@List.getElem?_set
abbrev AYG:=@Prod.mk.injEq
abbrev AYH:=@List.nodup_nil
abbrev AYI:=@List.length_tail
abbrev AYJ:=@Nat.mul_one
abbrev AYK:=@List.filter_append
abbrev AYL:=@Nat.zero_mul
abbrev AYM:=@Array.getElem?_append
abbrev AYN:=@List.foldl_append
abbrev AYO:=@List.mem_or_eq_of_mem_set
abbrev AYP:=@List.getElem?_eq_none_iff
abbrev AYQ:=@Array.getElem?_eq_getElem
abbrev AYR:=@List.mem_of_mem_take
abbrev AYS:=@List.mem_of_mem_drop
abbrev AYT:=@Nat.mul_le_mul
abbrev AYU:=@Nat.succ_mul
abbrev AYV:=@List.getElem_mem
abbrev AYW:=@Nat.min_self
abbrev AYX:=@Array.getElem?_setIfInBounds_ne
abbrev AYY:=@if_true
abbrev AYZ:=@Bool.false_eq_true
abbrev AYa:=@Bool.or_eq_true
abbrev AYb:=@Array.eq_empty_of_size_eq_zero
abbrev AYc:=@List.drop_of_length_le
abbrev AYd:=@List.head?_eq_getElem?
abbrev AYe:=@Int.toNat_natCast
abbrev AYf:=@Nat.lt_or_ge
abbrev AYg:=@List.mem_append_right
abbrev AYh:=@List.set_append_right
abbrev AYi:=@Array.getD_eq_getD_getElem?
abbrev AYj:=@Option.bind_some
abbrev AYk:=@List.length_finRange
abbrev AYl:=@Int.tmod_eq_emod_of_nonneg
abbrev AYm:=@Array.getElem?_push
abbrev AYn:=@beq_eq_false_iff_ne
abbrev AYo:=@List.head?_cons
abbrev AYp:=@List.drop_eq_getElem_cons
abbrev AYq:=@List.foldl_cons
abbrev AYr:=@Decidable.byContradiction
abbrev AYs:=@List.sum_append
abbrev AYt:=@Array.setIfInBounds_comm
abbrev AYu:=@cond_true
abbrev AYv:=@List.set_cons_succ
abbrev AYw:=@cond_false
abbrev AYx:=@beq_iff_eq
abbrev AYy:=@Nat.mod_lt
abbrev AYz:=@List.Perm.refl
abbrev AY0:=@List.mem_range
abbrev AY1:=@Nat.le_mul_of_pos_right
abbrev AY2:=@List.pairwise_singleton
abbrev AY3:=@Nat.lt_trichotomy
abbrev AY4:=@Array.getElem?_eq_none
abbrev AY5:=@List.getElem_cons_drop
abbrev AY6:=@List.Sublist.length_le
abbrev AY7:=@List.map_drop
abbrev AY8:=@Nat.le_add_right
abbrev AY9:=@Nat.div_lt_iff_lt_mul
abbrev AZA:=@Array.getElem?_modify
abbrev AZB:=@List.getElem?_toArray
abbrev AZC:=@List.getElem?_zipWith
abbrev AZD:=@List.concat_eq_append
abbrev AZE:=@Nat.min_eq_left
abbrev AZF:=@List.mem_iff_getElem
abbrev AZG:=@List.map_map
abbrev AZH:=@List.mem_of_getLast?
abbrev AZI:=@List.map_nil
abbrev AZJ:=@List.getLast?_append
abbrev AZK:=@List.drop_append_of_le_length
abbrev AZL:=@List.take_append_of_le_length
abbrev AZM:=@Array.toList_append
abbrev AZN:=@List.drop_zero
abbrev AZO:=@Array.extract_size
abbrev AZP:=@Nat.eq_zero_or_pos
abbrev AZQ:=@UInt8.toNat_ofNat'
abbrev AZR:=@Nat.add_assoc
abbrev AZS:=@List.all_cons
abbrev AZT:=@ByteArray.ext
abbrev AZU:=@List.getD_eq_getElem?_getD
abbrev AZV:=@Bool.true_and
abbrev AZW:=@List.map_take
abbrev AZX:=@Array.size_append
abbrev AZY:=@List.size_toArray
abbrev AZZ:=@List.extract_eq_take_drop
abbrev AZa:=@Nat.le_of_eq
abbrev AZb:=@List.mem_flatMap
abbrev AZc:=@Nat.add_sub_cancel_left
abbrev AZd:=@UInt8.toNat_inj
abbrev AZe:=@Int.natCast_add
abbrev AZf:=@Nat.one_mul
abbrev AZg:=@List.filter_eq_nil_iff
abbrev AZh:=@ByteArray.data_extract
abbrev AZi:=@Array.getElem?_extract
abbrev AZj:=@List.set_getElem_self
abbrev AZk:=@List.mapM_cons
abbrev AZl:=@List.take_take
abbrev AZm:=@List.take_left
abbrev AZn:=@List.takeWhile_prefix
abbrev AZo:=@Bool.and_false
abbrev AZp:=@List.eq_nil_or_concat
abbrev AZq:=@Array.ext'
abbrev AZr:=@List.drop_one
abbrev AZs:=@List.sum_cons
abbrev AZt:=@Nat.beq_refl
abbrev AZu:=@List.map_set
abbrev AZx:=@Nat.pow_succ
abbrev AZy:=@Int.le_of_lt
abbrev AZ0:=@getElem!_pos
abbrev AZ1:=@List.sum_nil
section
namespace Tw
open Go
abbrev Hp:=Nat→Option Obj
abbrev Rr:=Ending→Hp→Prop
abbrev Env:=Nat→Value
abbrev Bx:=List (Nat×Obj)
theorem bZ {a b:Nat}(h:a≠b):Nat.beq a b=false:=by
 cases hb:Nat.beq a b
 ·rfl
 ·exact absurd (AXY hb) h
def Sat (σ:Hp)(w:World):Prop:=∀b o,σ b=some o→w.heap[b]?=some o
def Hc (bx:Bx)(w:World):Prop:=∀p∈bx,w.heap[p.1]?=some p.2
def Hp.set (σ:Hp)(b:Nat)(o:Obj):Hp:=fun i=>if i=b then some o else σ i
def sb (e:Env)(t:Nat)(v:Value):Env:=fun i=>bif Nat.beq i t then v else e i
def put (e:Env)(d:Option Nat)(v:Value):Env:=match d with | some d=>sb e d v | none=>e
def AB (e:Env):Operand→Value
 | .tmp t=>e t
 | .const v=>v
 | .global g=>.pointer (some ⟨g,0,none⟩)
 | .func f=>.func (.func f) #[] #[]
class Ei where
 on:Prop
instance AL4:Ei:=⟨False⟩
variable [Ei]
def Dj (w w':World):Prop:=w'.os=w.os∧w'.tape=w.tape∧(Ei.on→∃n:Nat,w'.drawn=w.drawn+n)
theorem Dj.same {w w':World}(h1:w'.os=w.os)(h2:w'.tape=w.tape)(h3:w'.drawn=w.drawn):Dj w w':=⟨h1,h2,fun _=>⟨0,h3⟩⟩
theorem Dj.trans {w w' w'':World}(h:Dj w w')(g:Dj w' w''):Dj w w'':=
 ⟨g.1.trans h.1,g.2.1.trans h.2.1,fun hc=>let ⟨n,h3⟩:=h.2.2 hc;let ⟨m,g3⟩:=g.2.2 hc;⟨n+m,by omega⟩⟩
theorem Dj.drew {w w':World}(h:Dj w w'):Dj w { w' with drawn:=w'.drawn+1 }:=h.trans ⟨rfl,rfl,fun _=>⟨1,rfl⟩⟩
structure Fin (σ:Hp)(F:Nat→Prop)(w w':World):Prop where
 sat:Sat σ w'
 CV:∀b,F b→σ b=none∧w'.heap[b]?=w.heap[b]?
 os:Dj w w'
 out:w'.output=w.output
 grow:w.heap.size≤w'.heap.size
def Spec (P:Program)(f:FuncId)(args:Array Value)(σ:Hp)(R:Rr):Prop:=
 ∀(w:World) (F:Nat→Prop),Sat σ w→(∀b,F b→b<w.heap.size∧σ b=none)→
  Calls P f args w (fun e w'=>∃σ',R e σ'∧Fin σ' F w w')
theorem Spec.mono {P:Program}{f:FuncId}{args:Array Value}{σ:Hp}{R R':Rr}(h:Spec P f args σ R)
  (hr:∀e σ',R e σ'→R' e σ'):Spec P f args σ R':=fun w F hs hF=>
 (h w F hs hF).mono fun _ _ ⟨σ',h1,h2⟩=>⟨σ',hr _ _ h1,h2⟩
structure St (n:Nat)(ds:List Deferred)(w0:World)(F:Nat→Prop)(e:Env)(bx:Bx)(σ:Hp)(a:Act)(w:World):Prop where
 size:a.tmps.size=n
 env:∀t,a.tmps.getD t undef=e t
 defers:a.defers=ds
 sat:Sat σ w
 box:Hc bx w
 free:∀p∈bx,σ p.1=none∧¬F p.1
 nodup:(bx.map (·.1)).Nodup
 CV:∀b,F b→b<w0.heap.size∧σ b=none∧w.heap[b]?=w0.heap[b]?
 os:Dj w0 w
 out:w.output=w0.output
 grow:w0.heap.size≤w.heap.size
theorem St.eval {n ds w0 F e bx σ a w}(h:St n ds w0 F e bx σ a w):a.eval=AB e:=by
 funext x
 cases x with
 | tmp t=>exact h.env t
 | _=>rfl
theorem St.put {n ds w0 F e bx σ a w}(h:St n ds w0 F e bx σ a w)(d:Option Nat)(v:Value)(hd:∀t,d=some t→t<n):
  St n ds w0 F (put e d v) bx σ (a.put d v) w:=by
 cases d with
 | none=>exact h
 | some d=>
  have hd:=hd d rfl;refine { h with size:=by simp[Act.put,h.size],env:=fun t=>?_,defers:=h.defers };simp only[Act.put,Tw.put,sb];by_cases ht:t=d
  ·subst ht;have:t<a.tmps.size:=by rw[h.size];exact hd
   simp[this]
  ·have h1:=h.env t;have hb:Nat.beq t d=false:=bZ ht;simp only[hb,AYw];rw[←h1];simp[AYX (AXn ht)]
theorem St.drew {n ds w0 F e bx σ a w}(h:St n ds w0 F e bx σ a w):St n ds w0 F e bx σ a { w with drawn:=w.drawn+1 }:=
 { h with sat:=h.sat,box:=h.box,CV:=h.CV,os:=h.os.drew,out:=h.out,grow:=h.grow }
structure Gl where
 P:Program
 f:FuncId
 n:Nat
 R:Rr
 GK:Option Nat
 ds:List Deferred
 pan:(GK=none∧ds=[])∨∀ch σ,¬R (.panicked ch) σ
abbrev Gl.fn (P:Program)(f:FuncId)(n:Nat)(R:Rr):Gl:=⟨P,f,n,R,none,[],.inl ⟨rfl,rfl⟩⟩
def wd (r:Option Nat):Fence:={ Fence.wide with round:=r }
theorem tP {r:Option Nat}{n:Nat}:(wd r).room n:=fun _ h=>by simp[wd,Fence.wide]at h
theorem Ce {P:Program}{r:Option Nat}{ρ:Operand→Value}{o:Oper}{w w':World}{nx:Next}(h:(execOp ρ o).run P w=.ok nx w')(hn:∀d,nx≠.defer d):(o.semAt r ρ).run P w=.ok nx w':=by
 by_cases hd:∃c,o.op=.defer c
 ·obtain⟨c,hc⟩:=hd;simp only[execOp,hc,Sem.run_bind]at h;cases hr:(resolve ρ c o.type).run P w with
  | ok d w2=>
   rw[hr]at h;simp only[Result.andThen_ok,Sem.run_pure,Result.ok.injEq]at h;exact absurd h.1.symm (hn d)
  | halt x w2=>rw[hr]at h;simp[Result.andThen]at h
 ·rw[Oper.semAt_eq r ρ o (fun c hc=>hd ⟨c,hc⟩)];exact h
def Lr (P:Program)(f:FuncId)(GK:Option Nat)(cs:List Frame)(m:Machine)(R:Ending→World→Prop):Prop:=
 match GK with
 | none=>∃e w' fr,R e w'∧Comes P m (lone fr cs w') e∧fr.fn=f∧fr.leaving P w' e
 | some _=>∀c cs',cs=c::cs'→∃v w',R (.returned v) w'∧Steps P m (lone (c.finish v) cs' w')
theorem Lr.of_steps {P f GK cs m m' R}(hs:Steps P m m')(h:Lr P f GK cs m' R):Lr P f GK cs m R:=by
 cases GK with
 | none=>exact let ⟨e,w',fr,r,c,x⟩:=h;⟨e,w',fr,r,.of_steps hs c,x⟩
 | some l=>exact fun c cs' hc=>let ⟨v,w',r,x⟩:=h c cs' hc;⟨v,w',r,hs.trans x⟩
def HG (P:Program)(f:FuncId)(GK:Option Nat)(k:List Item)(a:Act)(w:World)(R:Ending→World→Prop):Prop:=
 ∀(b:Frame) (cs:List Frame),b.fn=f→b.kind=.normal→b.roundOf=GK→(∃fn,P.funcs[f]?=some fn)→Lr P f GK cs (lone (b.atR a k) cs w) R
theorem HG.step {P f GK k a w R k' a' w'}(hs:∀(b:Frame) cs,b.roundOf=GK→step P (lone (b.atR a k) cs w)=.next (lone (b.atR a' k') cs w'))
 (h:HG P f GK k' a' w' R):HG P f GK k a w R:=fun b cs hf hk hr Q6=>.of_steps (.one (hs b cs hr)) (h b cs hf hk hr Q6)
def tQ (g:Gl)(w0:World)(F:Nat→Prop):Ending→World→Prop:=fun en w'=>∃σ',g.R en σ'∧Fin σ' F w0 w'
def At (g:Gl)(k:List Item)(e:Env)(bx:Bx)(σ:Hp):Prop:=
 ∀w0 F a w,St g.n g.ds w0 F e bx σ a w→HG g.P g.f g.GK k a w (tQ g w0 F)
section steps
variable {g:Gl}{k:List Item}{e:Env}{bx:Bx}{σ:Hp}
theorem At.skip (h:At g k e bx σ):At g (.code .skip::k) e bx σ:=fun w0 F a w st=>.step (fun _ _ _=>stepR_skip) (h w0 F a w st)
theorem At.label {l}(h:At g k e bx σ):At g (.code (.label l)::k) e bx σ:=fun w0 F a w st=>.step (fun _ _ _=>stepR_label) (h w0 F a w st)
theorem At.inBlock {i}(h:At g k e bx σ):At g (.inBlock i::k) e bx σ:=fun w0 F a w st=>.step (fun _ _ _=>stepR_inBlock) (h w0 F a w st)
theorem At.seq {c x y}(hc:c=Code.seq x y)(h:At g (.code x::.code y::k) e bx σ):At g (.code c::k) e bx σ:=
 hc▸fun w0 F a w st=>.step (fun _ _ _=>stepR_seq) (h w0 F a w st)
theorem At.block {c i x}(hc:c=Code.block i x)(h:At g (.code x::.inBlock i::k) e bx σ):At g (.code c::k) e bx σ:=
 hc▸fun w0 F a w st=>.step (fun _ _ _=>stepR_block) (h w0 F a w st)
theorem At.loop {c x}(hc:c=Code.loop x)(h:At g (.code x::.inLoop x::k) e bx σ):At g (.code c::k) e bx σ:=
 hc▸fun w0 F a w st=>.step (fun _ _ _=>stepR_loop) (h w0 F a w st)
theorem At.inLoop {x}(h:At g (.code x::.inLoop x::k) e bx σ):At g (.inLoop x::k) e bx σ:=
 fun w0 F a w st=>.step (fun _ _ _=>stepR_inLoop) (h w0 F a w st)
theorem At.exit {c i k'}(hc:c=Code.exit i)(hk:exitTo i k=some k')(h:At g k' e bx σ):At g (.code c::k) e bx σ:=
 hc▸fun w0 F a w st=>.step (fun _ _ _=>stepR_exit hk) (h w0 F a w st)
theorem At.goto {c i k'}(hc:c=Code.goto i)(hk:gotoIn i k=some k')(h:At g k' e bx σ):At g (.code c::k) e bx σ:=
 hc▸fun w0 F a w st=>.step (fun _ _ _=>stepR_goto hk) (h w0 F a w st)
theorem At.w7 {c x y z}(hc:c=Code.cond x y z)(hx:AB e x=.bool true)(h:At g (.code y::k) e bx σ):At g (.code c::k) e bx σ:=
 hc▸fun w0 F a w st=>.step (fun _ _ _=>stepR_cond (t:=true) (by rw[st.eval];exact hx)) (h w0 F a w st)
theorem At.w9 {c x y z}(hc:c=Code.cond x y z)(hx:AB e x=.bool false)(h:At g (.code z::k) e bx σ):At g (.code c::k) e bx σ:=
 hc▸fun w0 F a w st=>.step (fun _ _ _=>stepR_cond (t:=false) (by rw[st.eval];exact hx)) (h w0 F a w st)
def left (ds:List Deferred)(σ:Hp):Hp:=ds.foldl (fun σ d=>match d.target with | .collected D=>σ.set D (.deferred none) | _=>σ) σ
def Marks:List Deferred→Hp→Prop
 | [],_=>True
 | d::ds,σ=>∃D,d={ target:=.collected D,args:=#[] }∧σ D=some (.deferred (some []))∧Marks ds (σ.set D (.deferred none))
theorem Fin.put {σ:Hp}{F:Nat→Prop}{w0 w:World}{l:Nat}{o o':Obj}(h:Fin σ F w0 w)(hl:σ l=some o):Fin (σ.set l o') F w0 (w.putObj l o'):=by
 have Am:l<w.heap.size:=(AW3.1 (h.sat l o hl)).1;refine⟨fun k u hk=>?_,fun k hk=>?_,h.os,h.out,by simpa using h.grow⟩
 ·by_cases hkl:k=l
  ·subst hkl;simp only[Hp.set,AYY]at hk;cases hk;exact World.putObj_heap_same Am
  ·simp only[Hp.set,hkl,AX9]at hk;rw[World.putObj_heap_other hkl];exact h.sat k u hk
 ·have hp:=h.CV k hk;have hkl:k≠l:=fun e=>by rw[e,hl]at hp;cases hp.1
  exact⟨by simp only[Hp.set,hkl,AX9];exact hp.1,by rw[World.putObj_heap_other hkl];exact hp.2⟩
theorem St.toFin {n ds w0 F e bx σ a w}(st:St n ds w0 F e bx σ a w):Fin σ F w0 w:=⟨st.sat,fun b hb=>⟨(st.CV b hb).2.1,(st.CV b hb).2.2⟩,st.os,st.out,st.grow⟩
theorem PE {P:Program}:∀(ds:List Deferred) {σ:Hp} {F:Nat→Prop} {w0 w:World} {fr:Frame} {cs:List Frame},Marks ds σ→Fin σ F w0 w→Hc bx w→(∀p∈bx,σ p.1=none)→fr.mode=.returning→fr.defers=ds→
  ∃w',Fin (left ds σ) F w0 w'∧Hc bx w'∧Steps P (lone fr cs w) (lone { fr with defers:=[] } cs w')
 | [],σ,F,w0,w,fr,cs,_,hf,hb,_,_,hd=>⟨w,hf,hb,by rw[show({ fr with defers:=[] }:Frame)=fr by cases fr;simp at hd;simp[hd]];exact .refl ..⟩
 | d::ds,σ,F,w0,w,fr,cs,⟨D,hD,hσ,hm⟩,hf,hb,hn,fP,hd=>by
  subst hD;have h1:=step_collected (P:=P) (fr:=fr) (cs:=cs) (w:=w) (r:=D) (by rw[fP];simp) hd rfl (run_takeDeferred (hf.sat D _ hσ));have Ay:∀p∈bx,p.1≠D:=fun p hp e=>by have:=hn p hp;rw[e,hσ]at this;cases this
  obtain⟨w',hf',P6,hs⟩:=PE ds (fr:={ fr with defers:=[]++ds }) (cs:=cs) hm (hf.put hσ) (fun p hp=>by rw[World.putObj_heap_other (Ay p hp)];exact hb p hp) (fun p hp=>by simp only[Hp.set,Ay p hp,AX9];exact hn p hp) fP rfl;exact⟨w',hf',P6,(Steps.one h1).trans hs⟩
theorem At.done {fn:Func}{v:Value}(hf:g.P.funcs[g.f]?=some fn)
  (hr:∀(a:Act) w,(∀t,a.tmps.getD t undef=e t)→Sat (left g.ds σ) w→Hc bx w→(results fn a.tmps).run g.P w=.ok v w)
  (h:g.R (.returned v) (left g.ds σ)) (N7:g.GK=none:=by rfl) (hm:Marks g.ds σ:=by trivial):At g [] e bx σ:=fun w0 F a w st b cs sd bc bL Q6=>by
 have xA:b.roundOf=none:=bL.trans N7;obtain⟨w',WM,P6,hs⟩:=PE (P:=g.P) (cs:=cs) (fr:={ b.atR a [] with mode:=.returning }) g.ds hm st.toFin st.box (fun p hp=>(st.free p hp).1) rfl st.defers;unfold Lr;rw[N7];exact⟨.returned v,w',_,⟨_,h,WM⟩,(Steps.one (stepR_end xA)).trans hs,sd,rfl,rfl,bc,fn,by simpa[Frame.atR,sd] using hf,hr a w' st.env WM.sat P6⟩
theorem At.ret {c:Code}{fn:Func}{v:Value}(hc:c=Code.ret)(hf:g.P.funcs[g.f]?=some fn)
  (hr:∀(a:Act) w,(∀t,a.tmps.getD t undef=e t)→Sat (left g.ds σ) w→Hc bx w→(results fn a.tmps).run g.P w=.ok v w)
  (h:g.R (.returned v) (left g.ds σ)) (N7:g.GK=none:=by rfl) (hm:Marks g.ds σ:=by trivial):At g (.code c::k) e bx σ:=hc▸fun w0 F a w st b cs sd bc bL Q6=>by
 have xA:b.roundOf=none:=bL.trans N7;obtain⟨w',WM,P6,hs⟩:=PE (P:=g.P) (cs:=cs) (fr:={ b.atR a (.code .ret::k) with mode:=.returning }) g.ds hm st.toFin st.box (fun p hp=>(st.free p hp).1) rfl st.defers;unfold Lr;rw[N7];exact⟨.returned v,w',_,⟨_,h,WM⟩,(Steps.one (stepR_ret xA)).trans hs,sd,rfl,rfl,bc,fn,by simpa[Frame.atR,sd] using hf,hr a w' st.env WM.sat P6⟩
def lp (r:Loop)(s:LoopState)(p:Option Code):Loop:={ r with state:=s,pending:=p }
theorem At.beginRound {l:Nat}{r:Loop}(N7:g.GK=some l)(hσ:σ l=some (.loop (lp r .ready none)))(h:At g k e bx (σ.set l (.loop (lp r .busy none)))):At g (.beginRound::k) e bx σ:=fun w0 F a w st=>
 HG.step (fun b cs hb=>stepR_beginRound (hb.trans N7) (run_beginRound (st.sat _ _ hσ) rfl)) (h w0 F a _ (by
  have hf:=st.toFin.put (o':=.loop (lp r .busy none)) hσ;have Ay:∀p∈bx,p.1≠l:=fun p hp e=>by have:=(st.free p hp).1;rw[e,hσ]at this;cases this
  exact { st with sat:=hf.sat,box:=fun p hp=>by rw[World.putObj_heap_other (Ay p hp)];exact st.box p hp,free:=fun p hp=>⟨by simp only[Hp.set,Ay p hp,AX9];exact(st.free p hp).1,(st.free p hp).2⟩,CV:=fun b hb=>⟨(st.CV b hb).1,(hf.CV b hb).1,(hf.CV b hb).2⟩,os:=hf.os,out:=hf.out,grow:=hf.grow }))
theorem At.M1 {l:Nat}{r:Loop}(N7:g.GK=some l)(hσ:σ l=some (.loop (lp r .busy none)))(h:g.R (.returned (.bool true)) (σ.set l (.loop (lp r .ready none)))):At g [] e bx σ:=fun w0 F a w st b cs sd bc bL Q6=>by
 unfold Lr;rw[N7]
 rintro c cs' rfl
 exact⟨_,_,⟨_,h,st.toFin.put hσ⟩,.one (stepR_round_end (bL.trans N7) bc (run_endRound (r:=lp r .busy none) none (st.sat _ _ hσ)))⟩
theorem At.lY {l:Nat}{r:Loop}{c:Code}(hc:c=.ret)(N7:g.GK=some l)(hσ:σ l=some (.loop (lp r .busy none)))(h:g.R (.returned (.bool false)) (σ.set l (.loop (lp r .done (some .ret))))):At g (.code c::k) e bx σ:=fun w0 F a w st b cs sd bc bL Q6=>by
 subst hc;unfold Lr;rw[N7]
 rintro c cs' rfl
 exact⟨_,_,⟨_,h,st.toFin.put hσ⟩,.one (stepR_round_ret (bL.trans N7) bc (run_endRound (r:=lp r .busy none) (some .ret) (st.sat _ _ hσ)))⟩
theorem At.sub {Fq:Bx}(hs:Fq.Sublist bx)(h:At g k e Fq σ):At g k e bx σ:=fun w0 F a w st=>
 h w0 F a w { st with box:=fun p hp=>st.box p (hs.subset hp),free:=fun p hp=>st.free p (hs.subset hp),nodup:=(hs.map _).nodup st.nodup }
def Hd (e:Env):List (Nat×Value)→Env
 | []=>e
 | (t,v)::l=>sb (Hd e l) t v
theorem fQ {e:Env}:∀{l:List (Nat×Value)},(∀p∈l,e p.1=p.2)→Hd e l=e
 | [],_=>rfl
 | (t,v)::l,h=>by
  have h1:Hd e l=e:=fQ fun p hp=>h p (AWq _ hp)
  funext i
  simp only[Hd,h1,sb];by_cases hi:i=t
  ·subst hi;rw[AZt];exact(h (i,v) (AW1 ..)).symm
  ·rw[bZ hi];rfl
def Live (e:Env):List (Nat×Value)→Prop
 | []=>True
 | (t,v)::l=>e t=v∧Live e l
theorem Live.mem {e:Env}:∀{l:List (Nat×Value)},Live e l→∀p∈l,e p.1=p.2
 | (_,_)::_,h,p,hp=>by
  rcases AWo.1 hp with rfl|hp
  ·exact h.1
  ·exact h.2.mem p hp
theorem At.live {l:List (Nat×Value)}(hl:Live e l)(h:At g k (Hd e l) bx σ):At g k e bx σ:=by
 rwa[fQ hl.mem]at h
end steps
theorem Spec.RW {P:Program}{f:FuncId}{fn:Func}{c:Code}{args:Array Value}{σ:Hp}{R:Rr}
  (hf:P.funcs[f]?=some fn) (hb:fn.body=some c) (hn:args.size≤fn.ntmps)
  (h:∀e:Env,(∀t,e t=args.getD t undef)→At (Gl.fn P f fn.ntmps R) [.code c] e [] σ):Spec P f args σ R:=by
 intro w F hs hF cs
 let b:Frame:={ (default:Frame) with fn:=f,kind:=.normal,roundOf:=none }
 have bd:Frame.enter P f args .normal =
   b.atR { tmps:=args++Array.replicate (fn.ntmps-args.size) undef,defers:=[] } [.code c]:=by
  simp[Frame.enter,Frame.atR,hf,hb,b]
 rw[bd];have st:St fn.ntmps [] w F (fun t=>args.getD t undef) [] σ { tmps:=args++Array.replicate (fn.ntmps-args.size) undef,defers:=[] } w:=by
  refine⟨by simp;omega,fun t=>?_,rfl,hs,(fun p hp=>by cases hp),(fun p hp=>by cases hp),AYH,fun b hb=>⟨(hF b hb).1,(hF b hb).2,rfl⟩,.same rfl rfl rfl,rfl,AWu _⟩;rcases AYf t args.size with ht|ht
  ·simp[AYM,ht]
  ·simp only[AYi,AYM,Nat.not_lt.2 ht,AX9,Array.getElem?_replicate,AY4 ht];split<;>rfl
 obtain⟨e,w',fr,r,cc,Q6,hl⟩:=h _ (fun _=>rfl) w F _ w st b cs rfl rfl rfl ⟨fn,hf⟩;exact⟨e,w',fr,r,cc,Q6,hl⟩
def AP (ops:Array Oper)(e:Env)(gd:Option (Nat×Bool)):Bool:=
 match gd with
 | none=>true
 | some (j,want)=>(match (ops[j]?).bind (·.dst) with
  | some d=>(match e d with | .bool b=>some b | _=>none)
  | none=>none)==some want
theorem St.wanted {n ds w0 F e bx σ a w}(h:St n ds w0 F e bx σ a w)(ops:Array Oper)(o:Oper):
  Region.wanted o (yielded ops a.tmps)=AP ops e o.guard:=by
 unfold Region.wanted AP;cases o.guard with
 | none=>rfl
 | some p=>
  obtain⟨j,want⟩:=p;simp only[yielded];cases(ops[j]?).bind (·.dst) with
  | none=>rfl
  | some d=>
   have hd:=h.env d;simp only[AYj,←hd,AYi];cases a.tmps[d]? with
   | none=>rfl
   | some v=>cases v<;>rfl
def Qx (g:Gl)(w0:World)(F:Nat→Prop):Exit→Act→World→Prop
 | .panic ch,a,w=>(g.GK=none∧a.defers=[])∧tQ g w0 F (.panicked ch) w
 | _,_,_=>False
def AI (g:Gl)(ops:Array Oper)(i:Nat)(e:Env)(bx:Bx)(σ:Hp)(K:Env→Bx→Hp→Prop):Prop:=
 ∀w0 F a w,St g.n g.ds w0 F e bx σ a w→wpOpIn (wd g.GK) 0 g.P ops (Qx g w0 F) i (fun a' w'=>∃e' Fq σ',St g.n g.ds w0 F e' Fq σ' a' w'∧K e' Fq σ') a w
def Seq (g:Gl)(ops:Array Oper):List Nat→Env→Bx→Hp→(Env→Bx→Hp→Prop)→Prop
 | [],e,bx,σ,K=>K e bx σ
 | i::is,e,bx,σ,K=>AI g ops i e bx σ fun e' Fq σ'=>Seq g ops is e' Fq σ' K
def Yd (P:Program)(e:Env)(bx:Bx)(σ:Hp)(op:Op)(ty:TypeId)(v:Value):Prop:=
 ∀o:Oper,o.op=op→o.type=ty→∀w,Sat σ w→Hc bx w→(execOp (AB e) o).run P w=.ok (.value v) w
abbrev IG:=Option (List (Nat×List Nat))
def MR (q:IG)(own:Option (Nat×List (List Nat)))(σ:Hp):Hp:=
 match q,own with
 | none,_=>σ
 | some _,none=>fun _=>none
 | some _,some x=>fun b=>if b=x.1 then σ b else none
def LY:IG→Option (Nat×List (List Nat))→IG
 | none,_=>none
 | some L,none=>some L
 | some L,some x=>some ((x.1,x.2.filterMap List.head?)::L)
def FH:IG→Nat→IG
 | none,_=>none
 | some L,j=>some (L.filter fun x=>!x.2.contains j)
def He (ops:Array Oper)(t u:Nat):Bool:=
 match ops[t]? with
 | some o=>o.after.any fun e=>Region.binds .any e&&e.on==u
 | none=>false
def RX (ops:Array Oper)(i:Nat):List Nat→Bool
 | []=>false
 | [t]=>He ops t i
 | t::u::r=>He ops t u&&RX ops i (u::r)
def IG.ok (q:IG)(i:Nat):Bool:=
 match q with
 | none=>true
 | some L=>L.all fun x=>!x.2.contains i
def P7 (ops:Array Oper)(i:Nat):Option (Nat×List (List Nat))→Bool
 | none=>true
 | some x=>x.2.all (RX ops i)
def Sq (q:IG)(σ:Hp)(bx:Bx)(listed:Array Bool)(w:World):Prop:=
 Hc bx w∧match q with
  | none=>Sat σ w
  | some L=>∀x∈L,(∃t∈x.2,listed.getD t false=true)∨∀o,σ x.1=some o→w.heap[x.1]?=some o
def I1 (q:IG)(bx:Bx)(σ:Hp)(Fq:Bx)(σ':Hp):Prop:=
 (∀p∈bx,p∈Fq)∧match q with
  | none=>∀b o,σ b=some o→σ' b=some o
  | some L=>∀x∈L,∀o,σ x.1=some o→σ' x.1=some o
theorem I1.refl (q:IG)(bx:Bx)(σ:Hp):I1 q bx σ bx σ:=⟨fun _ h=>h,by cases q<;>simp⟩
theorem Sq.of {q:IG}{σ:Hp}{bx:Bx}{listed:Array Bool}{w:World}(h:Sat σ w)(hb:Hc bx w):Sq q σ bx listed w:=⟨hb,by
 cases q with
 | none=>exact h
 | some L=>exact fun x _=>.inr fun o ho=>h _ _ ho⟩
theorem WN {listed:Array Bool}{i t:Nat}(h:t≠i):(listed.setIfInBounds i true).getD t false=listed.getD t false:=getD_set_ne false (AXn h)
theorem Sq.set {q:IG}{σ:Hp}{bx:Bx}{i:Nat}(CH:q.ok i=true)(listed:Array Bool)(w:World):Sq q σ bx (listed.setIfInBounds i true) w↔Sq q σ bx listed w:=by
 unfold Sq;cases q with
 | none=>exact Iff.rfl
 | some L=>
  refine and_congr Iff.rfl (forall_congr' fun x=>forall_congr' fun hx=>or_congr ?_ Iff.rfl);have hni:i ∉ x.2:=by
   have:=AXj.1 CH x hx;simpa using this
  refine exists_congr fun t=>and_congr_right fun ht=>?_;rw[WN (fun h=>hni (by subst h;exact ht))]
theorem P8 {ops:Array Oper}{n i:Nat}{listed:Array Bool}(inv:HeadInv .any ops n listed):∀(p:List Nat) (t:Nat),RX ops i p=true→p.head?=some t→listed.getD t false=true→listed.getD i false=true
 | [],_,h,_,_=>by cases h
 | [t'],t,h,ht,hl=>by
  simp only[AYo,AWp]at ht;subst ht;simp only[RX,He]at h;split at h
  ·rename_i o ho;obtain⟨e,he,hb⟩:=Array.any_eq_true'.1 h;simp only[AWv,AYx]at hb;exact hb.2▸inv.closed _ o ho hl e he hb.1
  ·cases h
 | t'::u::r,t,h,ht,hl=>by
  simp only[AYo,AWp]at ht;subst ht;simp only[RX,AWv]at h;refine P8 inv (u::r) u h.2 rfl ?_;have h:=h.1;simp only[He]at h;split at h
  ·rename_i o ho;obtain⟨e,he,hb⟩:=Array.any_eq_true'.1 h;simp only[AWv,AYx]at hb;exact hb.2▸inv.closed _ o ho hl e he hb.1
  ·cases h
theorem Sq.own {ops:Array Oper}{n i:Nat}{listed:Array Bool}{q:IG}{own:Option (Nat×List (List Nat))}{σ:Hp}{bx:Bx}{w:World}(inv:HeadInv .any ops n listed)(Uc:listed.getD i true=false)(CH:P7 ops i own=true)
  (h:Sq (LY q own) σ bx listed w):Sat (MR q own σ) w∧Hc bx w:=by
 refine⟨?_,h.1⟩;cases q with
 | none=>exact h.2
 | some L=>
  cases own with
  | none=>intro b o hb;cases hb
  | some x=>
   intro b o hb;simp only[MR]at hb;split at hb
   ·rename_i hbx;subst hbx;rcases h.2 (x.1,x.2.filterMap List.head?) (AW1 ..) with ⟨t,ht,hl⟩|h2
    ·obtain⟨p,hp,hpt⟩:=AXg.1 ht;have:=P8 inv p t (AXj.1 CH p hp) hpt hl;rw[getD_both Uc]at this;cases this
    ·exact h2 o hb
   ·cases hb
theorem Sq.less {q:IG}{own:Option (Nat×List (List Nat))}{σ:Hp}{bx:Bx}{listed:Array Bool}{w:World}(h:Sq (LY q own) σ bx listed w):Sq q σ bx listed w:=by
 refine⟨h.1,?_⟩;cases q with
 | none=>exact h.2
 | some L=>
  cases own with
  | none=>exact h.2
  | some x=>exact fun y hy=>h.2 y (AWq _ hy)
theorem Sq.WO {q:IG}{σ σ':Hp}{bx Fq:Bx}{i:Nat}{listed:Array Bool}{w:World}(hi:listed.getD i false=true)(hk:I1 (FH q i) bx σ Fq σ')(h:Sq (FH q i) σ' Fq listed w):Sq q σ bx listed w:=by
 refine⟨fun p hp=>h.1 p (hk.1 p hp),?_⟩;cases q with
 | none=>exact fun b o hb=>h.2 b o (hk.2 b o hb)
 | some L=>
  intro x hx;by_cases hc:i∈x.2
  ·exact .inl ⟨i,hc,hi⟩
  ·have hm:x∈L.filter fun x=>!x.2.contains i:=AYA.2 ⟨hx,by simpa using hc⟩;rcases h.2 x hm with h2|h2
   ·exact .inl h2
   ·exact .inr fun o ho=>h2 o (hk.2 x hm o ho)
def Head (g:Gl)(ops:Array Oper):IG→List (Nat×Bool)→Env→Bx→Hp→(Env→Bx→Hp→Prop)→Prop
 | _,[],e,bx,σ,K=>K e bx σ
 | q,(i,true)::r,e,bx,σ,K=>∃own o v,((LY q own).ok i&&P7 ops i own)=true∧ops[i]?=some o∧((AP ops e o.guard=true∧Yd g.P e bx (MR q own σ) o.op o.type v)∨(AP ops e o.guard=false∧v=undef))∧
  (∀t,o.dst=some t→t<g.n)∧Head g ops (LY q own) r (put e o.dst v) bx σ K
 | q,(i,false)::r,e,bx,σ,K=>AI g ops i e bx σ fun e' Fq σ'=>I1 (FH q i) bx σ Fq σ'∧Head g ops (FH q i) r e' Fq σ' K
def PF (ops:Array Oper)(n:Nat):List (Nat×Bool)→Array Bool→Bool
 | [],listed=>Region.seqB .any ops (ops.size-n) n listed
 | (i,true)::r,listed=>decide (i<n)&&(Region.ready .any ops listed).contains i&&Region.free .any ops listed i&&PF ops n r (listed.setIfInBounds i true)
 | (i,false)::r,listed=>decide (i<n)&&(Region.ready .any ops listed==[i])&&PF ops n r (listed.setIfInBounds i true)
def lZ (ops:Array Oper)(n:Nat)(plan:List (Nat×Bool))(tail:List Nat):Bool:=
 Region.noSelect ops&&decide (plan.length=n)&&(decide (n=ops.size)||(decide (n<ops.size)&&Region.sinkB .any ops n&&Region.chainB .any ops n)) &&
  decide (tail=List.range' n (ops.size-n))&&PF ops n plan (Array.replicate ops.size false)
section head
variable {P:Program}{ro:Option Nat}{ops:Array Oper}{Q:Exit→Act→World→Prop}{md:Region.Mode}
theorem Bk {i:Nat}{o:Oper}{K:Act→World→Prop}{a:Act}{w:World}(ho:ops[i]?=some o)(hw:Region.wanted o (yielded ops a.tmps)=true)(h:o.uponIn (wd ro) 0 P a K Q ((o.semAt ro a.eval).run P w)):
  wpOpIn (wd ro) 0 P ops Q i K a w:=by
 unfold wpOpIn;simp only[ho,hw,AYY];exact⟨fun _ _=>trivial,h⟩
theorem bh {i:Nat}{o:Oper}{K:Act→World→Prop}{a:Act}{w:World}(ho:ops[i]?=some o)(hw:Region.wanted o (yielded ops a.tmps)=false)(h:K (a.put o.dst undef) w):wpOpIn (wd ro) 0 P ops Q i K a w:=by
 unfold wpOpIn;simp only[ho,hw,AYZ,AX9];exact⟨fun _ _=>trivial,h⟩
theorem fR {S:World→Prop}{i:Nat}{o:Oper}{v:Value}{a:Act}(hi:ops[i]?=some o)(hy:YieldsIf P ops S o v a)
  {K:Act→World→Prop} {w:World} (hS:S w) (h:K (a.put o.dst v) w):wpOpIn (wd ro) 0 P ops Q i K a w:=by
 rcases hy with ⟨hw,hv⟩|⟨hw,rfl⟩
 ·refine Bk hi hw ?_;rw[Ce (hv w hS) (fun d=>by simp)];exact h
 ·exact bh hi hw h
theorem ij {o:Oper}(hs:∀cs b,o.op≠.select cs b)(a:Act)(dst:Option Tmp)(u:Value)(h:∀d,dst=some d→d ∉ o.looksAt ops):o.semAt ro (a.put dst u).eval=o.semAt ro a.eval:=by
 have he:=execOp_put o hs a dst u h;by_cases hd:∃c,o.op=.defer c
 ·obtain⟨c,hc⟩:=hd;have hr:resolve (a.put dst u).eval c o.type=resolve a.eval c o.type:=resolve_congr (ρ:=(a.put dst u).eval) (ρ':=a.eval) c o.type (fun x hx=>Act.eval_put fun d hd hxd=>h d hd (by
   subst hxd;exact AXz _ (AXg.2 ⟨.tmp d,by rw[hc];simpa[Op.operands] using hx,rfl⟩)))
  unfold Oper.semAt;cases ro with
  | none=>exact he
  | some l=>simp only[hc,hr]
 ·rw[Oper.semAt_eq ro _ o (fun c hc=>hd ⟨c,hc⟩),Oper.semAt_eq ro _ o (fun c hc=>hd ⟨c,hc⟩)];exact he
theorem ik {S:World→Prop}{j:Nat}{oi oj:Oper}{v:Value}(hj:ops[j]?=some oj)(hap:oi.apart ops oj=true)
  (hsi:∀cs b,oi.op≠.select cs b) (hsj:∀cs b,oj.op≠.select cs b)
  (hQ:∀c a w,Q (.panic c) (a.put oi.dst v) w→Q (.panic c) a w) {K:Act→World→Prop} {a:Act} {w:World}
  (hy:YieldsIf P ops S oi v a) (h:wpOpIn (wd ro) 0 P ops Q j K (a.put oi.dst v) w) :
  wpOpIn (wd ro) 0 P ops Q j (fun a' w'=>YieldsIf P ops S oi v a'∧K (a'.put oi.dst v) w') a w:=by
 obtain⟨h1,h2,h3⟩:=Oper.apart_spec hap;have keep:∀(a:Act),YieldsIf P ops S oi v a→∀u,YieldsIf P ops S oi v (a.put oj.dst u):=fun a hy u=>
  hy.of_same (execOp_put oi hsi a oj.dst u h3) (wanted_put oi a oj.dst u h3)
 have AEM:∀d,YieldsIf P ops S oi v { a with defers:=d::a.defers }:=fun d=>hy.of_same rfl rfl;unfold wpOpIn at h;simp only[hj]at h;rw[wanted_put oj a oi.dst v h1]at h;by_cases hw:Region.wanted oj (yielded ops a.tmps)=true
 ·simp only[hw,AYY]at h;refine Bk hj hw ?_;have h:=h.2
  change oj.uponIn (wd ro) 0 P (a.put oi.dst v) K Q ((oj.semAt ro (a.put oi.dst v).eval).run P w)at h
  rw[ij hsj a oi.dst v h1]at h;generalize (oj.semAt ro a.eval).run P w=r at *;cases r with
  | ok n w'=>
   cases n<;>simp only[Oper.uponIn]at h ⊢
   case value u=>exact⟨keep a hy u,by rw[←Act.put_comm a v u h2];exact h⟩
   case skip=>exact⟨keep a hy _,by rw[←Act.put_comm a v undef h2];exact h⟩
   case defer d=>
    refine⟨keep _ (AEM d) _,?_⟩;rw[←Act.put_comm _ v undef h2,←Act.put_defers];exact h
   case enter f args=>
    refine⟨h.1,CallsIn.mono h.2 fun e w'' he=>?_⟩;cases e with
    | returned u=>exact⟨keep a hy u,by rw[←Act.put_comm a v u h2];exact he⟩
    | panicked c=>exact hQ _ _ _ he
    | outgrown=>exact he
   case row row args=>exact⟨h.1,RowsIn.mono h.2 fun u w'' he=>⟨keep a hy u,by rw[←Act.put_comm a v u h2];exact he⟩⟩
   case round l f tmps assign body=>
    refine⟨h.1,RoundIn.mono h.2 fun e w'' he=>?_⟩;cases e with
    | returned u=>exact⟨keep a hy u,by rw[←Act.put_comm a v u h2];exact he⟩
    | panicked c=>exact hQ _ _ _ he
    | outgrown=>exact he
  | halt x w'=>
   cases x<;>simp only[Oper.uponIn]at h ⊢
   case panic u=>exact hQ _ _ _ h
 ·have hw:Region.wanted oj (yielded ops a.tmps)=false:=by simpa using hw
  simp only[hw,AYZ,AX9]at h;exact bh hj hw ⟨keep a hy _,by rw[←Act.put_comm a v undef h2];exact h.2⟩
def Fv (P:Program)(ro:Option Nat)(md:Region.Mode)(ops:Array Oper)(Q:Exit→Act→World→Prop)(S:Array Bool→World→Prop)(n:Nat)(L:Array Bool→Act→World→Prop):Nat→Array Bool→Act→World→Prop
 | 0,listed,a,w=>L listed a w
 | f+1,listed,a,w=>Region.ready md ops listed≠[]∧
  ∀i∈Region.ready md ops listed,i<n∧wpOpIn (wd ro) 0 P ops Q i (fun a' w'=>S (listed.setIfInBounds i true) w'∧Fv P ro md ops Q S n L f (listed.setIfInBounds i true) a' w') a w
theorem GL {n g:Nat}{S:Array Bool→World→Prop}{L:Array Bool→Act→World→Prop}(hL:∀listed a w,L listed a w→wpAnyIn (wd ro) 0 P md ops Q g listed a w):
  ∀(f:Nat) (listed:Array Bool) (a:Act) (w:World),Fv P ro md ops Q S n L f listed a w→wpAnyIn (wd ro) 0 P md ops Q (f+g) listed a w
 | 0,listed,a,w,h=>by rw[AXl];exact hL _ _ _ h
 | f+1,listed,a,w,h=>by
  rw[show f+1+g=(f+g)+1 by omega];exact⟨fun h0=>absurd h0 h.1,fun i hi=>wpOpIn_mono (fun a' w' h'=>GL hL f _ a' w' h'.2) (h.2 i hi).2⟩
theorem EI {n:Nat}{S S':Array Bool→World→Prop}{G:Array Bool→Prop}{L:Array Bool→Act→World→Prop}(hG:∀listed j,G listed→G (listed.setIfInBounds j true))(hS:∀listed w,G listed→S' listed w→S listed w):
  ∀(f:Nat) (listed:Array Bool) (a:Act) (w:World),G listed→Fv P ro md ops Q S' n L f listed a w→Fv P ro md ops Q S n L f listed a w
 | 0,_,_,_,_,h=>h
 | f+1,_,_,_,hg,h=>⟨h.1,fun i hi=>⟨(h.2 i hi).1,wpOpIn_mono (fun a' w' h'=>⟨hS _ _ (hG _ _ hg) h'.1,EI hG hS f _ a' w' (hG _ _ hg) h'.2⟩) (h.2 i hi).2⟩⟩
theorem RY {n:Nat}{f:FuncId}{args:Array Value}{w:World}{R:Ending→World→Prop}(h:Calls P f args w R):CallsIn (wd ro) n P f args w R:=
 ⟨trivial,fun cs _=>let ⟨e,w',fr,r,s,x⟩:=h cs;⟨e,w',fr,r,comesIn_wide.2 s,x⟩⟩
theorem Ls {n i:Nat}{oi:Oper}{v:Value}{S:Array Bool→World→Prop}{Sy:World→Prop}{L:Array Bool→Act→World→Prop}(hi:ops[i]?=some oi)(MT:∀(j:Nat) (o:Oper) cs b,ops[j]?=some o→o.op≠.select cs b)
  (hQ:∀c a w,Q (.panic c) (a.put oi.dst v) w→Q (.panic c) a w)
  (GN:∀listed,HeadInv md ops n listed→∀i,i<n→listed.getD i true=false→∀t,n≤t→t ∉ Region.ready md ops listed)
  (hSi:∀listed w,S (listed.setIfInBounds i true) w↔S listed w) (hSy:∀listed w,HeadInv md ops n listed→listed.getD i true=false→S listed w→Sy w)
  (Q7:i<n) (AEN:∀listed a w,L listed a w→∀j∈Region.ready md ops listed,n≤j) :
  ∀(f:Nat) (listed:Array Bool) (a:Act) (w:World),HeadInv md ops n listed→
   (∀j oj,ops[j]?=some oj→j≠i→listed.getD j true=false→(∀e∈oj.after,Region.binds md e=true→e.on≠i)→oi.apart ops oj=true)→
   i∈Region.ready md ops listed→YieldsIf P ops Sy oi v a→S listed w→
   Fv P ro md ops Q S n L f (listed.setIfInBounds i true) (a.put oi.dst v) w→Fv P ro md ops Q S n L (f+1) listed a w:=by
 intro f
 induction f with
 | zero=>
  intro listed a w inv _ hr hy hS H;have Uc:=(mem_ready.1 hr).1;refine⟨fun h=>(by rw[h]at hr;cases hr),fun j hj=>?_⟩;have hjn:j<n:=by
   rcases AYf j n with h|h
   ·exact h
   ·exact absurd hj (GN _ inv i Q7 Uc j h)
  refine⟨hjn,?_⟩;by_cases lJ:j=i
  ·subst lJ;exact fR hi hy (hSy _ _ inv Uc hS) ⟨(hSi _ _).2 hS,H⟩
  ·have:=AEN _ _ _ H j (ready_mono hj lJ);omega
 | succ f ih=>
  intro listed a w inv xB hr hy hS H;have Uc:=(mem_ready.1 hr).1;refine⟨fun h=>(by rw[h]at hr;cases hr),fun j hj=>?_⟩;have hjn:j<n:=by
   rcases AYf j n with h|h
   ·exact h
   ·exact absurd hj (GN _ inv i Q7 Uc j h)
  refine⟨hjn,?_⟩;by_cases lJ:j=i
  ·subst lJ;exact fR hi hy (hSy _ _ inv Uc hS) ⟨(hSi _ _).2 hS,H⟩
  ·have h1:=(H.2 j (ready_mono hj lJ)).2;obtain⟨AEO,oj,hoj,JF⟩:=mem_ready.1 hj;have AL8:∀e∈oj.after,Region.binds md e=true→e.on≠i:=fun e he hb heq=>by
    have h1:=JF e he hb;rw[heq,getD_both Uc]at h1;cases h1
   have h2:=ik hoj (xB j oj hoj lJ AEO AL8) (fun cs b=>MT i oi cs b hi) (fun cs b=>MT j oj cs b hoj) hQ hy h1;have zS:∀k ok,ops[k]?=some ok→k≠i→(listed.setIfInBounds j true).getD k true=false→
     (∀e∈ok.after,Region.binds md e=true→e.on≠i)→oi.apart ops ok=true:=fun k ok hk hki Uc DS=>by
    refine xB k ok hk hki ?_ DS;by_cases il:j=k
    ·subst il;exact AEO
    ·rw[getD_set_ne true il]at Uc;exact Uc
   refine wpOpIn_mono (fun a' w' h3=>⟨(hSi _ _).1 (by rw[AYt _ _ lJ];exact h3.2.1),ih (listed.setIfInBounds j true) a' w' (inv.set hj hjn) zS (ready_mono hr (AXn lJ)) h3.1 ((hSi _ _).1 (by rw[AYt _ _ lJ];exact h3.2.1)) ?_⟩) h2;rw[AYt _ _ lJ];exact h3.2.2
theorem HH:∀(g k:Nat) (listed:Array Bool) (a:Act) (w:World),
  Region.seqB md ops g k listed=true→wpOpsIn (wd ro) 0 P ops Q (List.range' k g) a w→wpAnyIn (wd ro) 0 P md ops Q g listed a w
 | 0,_,_,_,_,hB,h=>⟨by simpa[Region.seqB] using hB,h⟩
 | g+1,k,listed,a,w,hB,h=>by
  simp only[Region.seqB,AWv,AW6]at hB;refine⟨fun h1=>(by rw[hB.1]at h1;cases h1),fun i hi=>?_⟩;rw[hB.1]at hi;have xC:i=k:=by simpa using hi
  subst xC;rw[List.range'_succ,wpOpsIn_cons]at h;exact wpOpIn_mono (fun a' w' h'=>HH g (i+1) _ a' w' hB.2 h') h
end head
section regions
variable {g:Gl}{ops:Array Oper}
def Qn (g:Gl)(w0:World)(F:Nat→Prop)(K:Env→Bx→Hp→Prop):Exit→Act→World→Prop
 | .normal,a,w=>∃e bx σ,St g.n g.ds w0 F e bx σ a w∧K e bx σ
 | .panic ch,a,w=>(g.GK=none∧a.defers=[])∧tQ g w0 F (.panicked ch) w
 | _,_,_=>False
theorem bj {P:Program}{ro:Option Nat}{Q Q':Exit→Act→World→Prop}(hp:∀c a w,Q (.panic c) a w→Q' (.panic c) a w)(ho:∀a w,Q .outgrown a w→Q' .outgrown a w)
  {i:Nat} {K:Act→World→Prop} {a:Act} {w:World} (h:wpOpIn (wd ro) 0 P ops Q i K a w):wpOpIn (wd ro) 0 P ops Q' i K a w:=by
 unfold wpOpIn at *;split
 ·rename_i hn;simpa only[hn] using h
 ·rename_i o hn;simp only[hn]at h;split
  ·rename_i hw;simp only[hw,AYY]at h;unfold Oper.wpIn at *;refine⟨h.1,?_⟩;have h:=h.2;generalize (o.semAt (wd ro).round a.eval).run P w=r at *;cases r with
   | ok x w'=>
    cases x<;>simp only[Oper.uponIn]at h ⊢<;>try exact h
    ·refine⟨h.1,CallsIn.mono h.2 fun en w2 JG=>?_⟩;cases en with
     | returned v=>exact JG
     | panicked c=>exact hp _ _ _ JG
     | outgrown=>obtain⟨a1,w1,h1⟩:=JG;exact⟨a1,w1,ho _ _ h1⟩
    ·refine⟨h.1,RoundIn.mono h.2 fun en w2 JG=>?_⟩;cases en with
     | returned v=>exact JG
     | panicked c=>exact hp _ _ _ JG
     | outgrown=>obtain⟨a1,w1,h1⟩:=JG;exact⟨a1,w1,ho _ _ h1⟩
   | halt x w'=>
    cases x<;>simp only[Oper.uponIn]at h ⊢;exact hp _ _ _ h
  ·rename_i hw;simp only[hw]at h;exact h
theorem Kn {K:Env→Bx→Hp→Prop}{w0 F}:∀(is:List Nat) (e:Env) (bx:Bx) (σ:Hp) (a:Act) (w:World),St g.n g.ds w0 F e bx σ a w→
  Seq g ops is e bx σ K→wpOpsIn (wd g.GK) 0 g.P ops (Qn g w0 F K) is a w
 | [],e,bx,σ,a,w,st,h=>⟨e,bx,σ,st,h⟩
 | i::is,e,bx,σ,a,w,st,h=>by
  rw[wpOpsIn_cons];refine wpOpIn_mono ?_ (bj (Q:=Qx g w0 F) (fun c a w h=>h) (fun a w h=>h.elim) (h w0 F a w st))
  rintro a' w' ⟨e',Fq,σ',Ko,h'⟩
  exact Kn is e' Fq σ' a' w' Ko h'
theorem MU {K:Env→Bx→Hp→Prop}{w0 F}{n:Nat}{tl:List Nat}(MT:Region.noSelect ops=true)
  (GN:∀listed,HeadInv .any ops n listed→∀i,i<n→listed.getD i true=false→∀t,n≤t→t ∉ Region.ready .any ops listed)
  (fS:tl=List.range' n (ops.size-n)) :
  ∀(plan:List (Nat×Bool)) (q:IG) (listed:Array Bool) (e:Env) (bx:Bx) (σ:Hp) (a:Act) (w:World),HeadInv .any ops n listed→PF ops n plan listed=true→
   St g.n g.ds w0 F e bx σ a w→Head g ops q plan e bx σ (fun e bx σ=>Seq g ops tl e bx σ K)→
   Fv g.P g.GK .any ops (Qn g w0 F K) (Sq q σ bx) n (fun listed a w=>Region.seqB .any ops (ops.size-n) n listed=true∧wpOpsIn (wd g.GK) 0 g.P ops (Qn g w0 F K) tl a w) plan.length listed a w
 | [],_,listed,e,bx,σ,a,w,_,CH,st,h=>⟨CH,Kn _ _ _ _ _ _ st h⟩
 | (i,true)::r,q,listed,e,bx,σ,a,w,inv,CH,st,h=>by
  obtain⟨own,o,v,zT,ho,hy,hd,h⟩:=h;simp only[AWv]at zT;simp only[PF,AWv,AW6]at CH;obtain⟨⟨⟨Q7,hr⟩,hf⟩,CH⟩:=CH;have RZ:i∈Region.ready .any ops listed:=by simpa using hr
  refine EI (S':=Sq (LY q own) σ bx) (G:=fun _=>True) (fun _ _ _=>trivial) (fun _ _ _ h=>h.less) _ _ _ _ trivial ?_;refine Ls (Sy:=fun w=>Sat (MR q own σ) w∧Hc bx w) ho (Region.noSelect_spec MT) ?_ GN (Sq.set zT.1) (fun listed w inv Uc h=>Sq.own inv Uc zT.2 h) Q7 ?_ _ listed a w inv (Region.free_spec ho hf) RZ ?_ (Sq.of st.sat st.box)
   (MU MT GN fS r _ _ _ _ _ _ _ (inv.set RZ Q7) CH (st.put o.dst v hd) h)
  ·rintro c a w ⟨⟨h0,h1⟩,h2⟩
   exact⟨⟨h0,by cases JP:o.dst<;>simpa[Act.put,JP] using h1⟩,h2⟩
  ·intro listed a w hL;exact seqB_ready hL.1
  ·rcases hy with ⟨hw,hy⟩|⟨hw,rfl⟩
   ·exact .inl ⟨by rw[st.wanted];exact hw,fun w hS=>by rw[st.eval];exact hy o rfl rfl w hS.1 hS.2⟩
   ·exact .inr ⟨by rw[st.wanted];exact hw,rfl⟩
 | (i,false)::r,q,listed,e,bx,σ,a,w,inv,CH,st,h=>by
  simp only[PF,AWv,AW6,AYx]at CH;obtain⟨⟨Q7,hr⟩,CH⟩:=CH;refine⟨by rw[hr];simp,fun j hj=>?_⟩;rw[hr]at hj;obtain rfl:j=i:=by simpa using hj
  refine⟨Q7,wpOpIn_mono ?_ (bj (Q:=Qx g w0 F) (fun c a w h=>h) (fun a w h=>h.elim) (h w0 F a w st))⟩
  rintro a' w' ⟨e',Fq,σ',Ko,hk,h'⟩
  have hl:(listed.setIfInBounds j true).getD j false=true:=by
   have Am:j<listed.size:=by rw[inv.size];obtain⟨_,o,ho,_⟩:=mem_ready.1 (show j∈Region.ready .any ops listed by rw[hr];simp);exact(AW3.1 ho).1
   simp[Am]
  exact⟨Sq.WO hl hk (Sq.of Ko.sat Ko.box),EI (S':=Sq (FH q j) σ' Fq) (G:=fun l=>l.getD j false=true) (fun _ _ h=>getD_set_true h) (fun _ _ hg h=>Sq.WO hg hk h) _ _ _ _ hl
   (MU MT GN fS r _ _ _ _ _ _ _ (inv.set (by rw[hr];simp) Q7) CH Ko h')⟩
end regions
theorem HG.of_wp {g:Gl}{c:Code}{k:List Item}{a:Act}{w:World}{w0 F}{K:Env→Bx→Hp→Prop}
  (h:c.wpIn (wd g.GK) 0 g.P (Qn g w0 F K) a w) (hk:∀e bx σ,K e bx σ→At g k e bx σ):HG g.P g.f g.GK (.code c::k) a w (tQ g w0 F):=by
 intro b cs hf iq bL Q6;obtain⟨e,a',w',hq,tR⟩:=h b k cs bL trivial tP;cases e with
 | normal=>
  obtain⟨e,bx,σ,st,hK⟩:=hq;exact .of_steps tR.steps (hk _ _ _ hK w0 F a' w' st b cs hf iq bL Q6)
 | panic ch=>
  obtain⟨⟨N7,hd⟩,hq⟩:=hq;obtain⟨todo,hs⟩:=tR;obtain⟨fn,Q6⟩:=Q6;unfold Lr;rw[N7];exact⟨.panicked ch,w',_,hq,hs.steps,hf,rfl,hd,fn,by simpa[Frame.atR,hf] using Q6⟩
 | _=>exact hq.elim
section la
variable {g:Gl}{k:List Item}{e:Env}{bx:Bx}{σ:Hp}
theorem At.region {c:Code}{id:Nat}{ops:Array Oper}{l:List Nat}(hc:c=.region id ops false)(hl:List.range ops.size=l)
  (h:Seq g ops l e bx σ (fun e bx σ=>At g k e bx σ)):At g (.code c::k) e bx σ:=fun _ _ a w st=>
 hc▸HG.of_wp (K:=fun e bx σ=>At g k e bx σ) (wpIn_region (hl▸Kn l e bx σ a w st h)) (fun _ _ _ h=>h)
theorem At.draw {c:Code}{id:Nat}{ops:Array Oper}{n:Nat}{q:IG}{plan:List (Nat×Bool)}{tl:List Nat}(hm:g.P.follows .mixedOrders=true)(hc:c=.region id ops true)
  (hp:lZ ops n plan tl=true)
  (h:Head g ops q plan e bx σ (fun e bx σ=>Seq g ops tl e bx σ (fun e bx σ=>At g k e bx σ))):At g (.code c::k) e bx σ:=fun w0 F a w st=>by
 subst hc;simp only[lZ,AWv,AYa,AW6]at hp;obtain⟨⟨⟨⟨MT,hlen⟩,hn⟩,fS⟩,CH⟩:=hp;have hn':n≤ops.size:=by rcases hn with h|h<;>omega
 have GN:∀listed,HeadInv .any ops n listed→∀i,i<n→listed.getD i true=false→∀t,n≤t→t ∉ Region.ready .any ops listed:=by
  intro listed inv i hi Uc t ht;rcases hn with h|⟨⟨h1,h2⟩,h3⟩
  ·intro hr;obtain⟨_,o,ho,_⟩:=mem_ready.1 hr;have:=(AW3.1 ho).1;omega
  ·exact tail_waits h2 h3 h1 inv _ i rfl hi Uc t ht
 have zU:HeadInv .any ops n (Array.replicate ops.size false):=
  ⟨by simp,fun j oj _ hl=>(by rw[getD_replicate_false]at hl;cases hl),fun t _ ht=>getD_in (by simpa using ht) (getD_replicate_false _ _)⟩
 refine HG.of_wp (K:=fun e bx σ=>At g k e bx σ) (wpIn_region_any hm ?_) (fun _ _ _ h=>h);have H:=MU (K:=fun e bx σ=>At g k e bx σ) (tl:=tl) MT GN fS plan q (Array.replicate ops.size false) e bx σ a { w with drawn:=w.drawn+1 } zU CH st.drew h;have:=GL (g:=ops.size-n) (fun listed a w hL=>HH _ _ listed a w hL.1 (fS▸hL.2)) _ _ _ _ H;rw[hlen,show n+(ops.size-n)=ops.size by omega]at this;exact this
end la
end Tw
end
section
namespace Tw
open Go
variable [Ei]
def Hp.ld (σ:Hp)(a:Addr):Option Value:=
 match σ a.block with
 | some (.cells c _ _)=>if a.spot.isSome then none else c[a.off]?
 | _=>none
theorem Sat.ld {σ:Hp}{w:World}(h:Sat σ w){a:Addr}{v:Value}(hl:σ.ld a=some v):w.cell? a=some v:=by
 unfold Hp.ld at hl;unfold World.cell?;cases hb:σ a.block with
 | none=>simp[hb]at hl
 | some o=>rw[h _ _ hb];rw[hb]at hl;exact hl
def Av (σ:Hp)(b:Nat):Nat→List Value→Prop
 | _,[]=>True
 | o,v::l=>σ.ld ⟨b,o,none⟩=some v∧Av σ b (o+1) l
theorem Av.get {σ:Hp}{b:Nat}:∀{l:List Value} {o j:Nat} {v:Value},Av σ b o l→l[j]?=some v→σ.ld ⟨b,o+j,none⟩=some v
 | x::l,o,0,v,h,hj=>by simp at hj;subst hj;exact h.1
 | x::l,o,j+1,v,h,hj=>by
  have:=Av.get (l:=l) (o:=o+1) (j:=j) h.2 (by simpa using hj);rwa[show o+(j+1)=o+1+j by omega]
theorem Bl (b o n:Nat):(⟨b,o,none⟩:Addr).add n=⟨b,o+n,none⟩:=by cases n<;>simp[Addr.add]
section bk
variable {P:Program}{e:Env}{bx:Bx}{σ:Hp}{ty T T':TypeId}{x y z:Operand}{k:IntKind}{a b:Int}
theorem Yd.of {op:Op}{v:Value}(m:Sem Value)(h:∀o:Oper,o.op=op→o.type=ty→execOp (AB e) o=(do pure (.value (←m))))
  (hm:∀w,Sat σ w→Hc bx w→m.run P w=.ok v w):Yd P e bx σ op ty v:=fun oo ho ht w hs hb=>by
 rw[h oo ho ht];simp[hm w hs hb]
theorem Yd.pu {op:Op}{v:Value}(h:∀o:Oper,o.op=op→execOp (AB e) o=pure (.value v)):Yd P e bx σ op ty v:=fun oo ho _ w _ _=>by
 rw[h oo ho];simp
theorem Y.move {v:Value}(hx:AB e x=v):Yd P e bx σ (.move x) ty v:=.pu fun o ho=>by simp[execOp,ho,hx]
theorem Y.assign {v:Value}(hx:AB e x=v):Yd P e bx σ (.assign x) ty v:=.pu fun o ho=>by simp[execOp,ho,hx]
theorem Y.xD {v:Value}(hc:AB e z=.bool true)(hx:AB e x=v):Yd P e bx σ (.pick z x y) ty v:=
 .pu fun o ho=>by simp[execOp,ho,hc,hx,asBool]
theorem Y.xE {v:Value}(hc:AB e z=.bool false)(hx:AB e y=v):Yd P e bx σ (.pick z x y) ty v:=
 .pu fun o ho=>by simp[execOp,ho,hc,hx,asBool]
theorem Y.lss (hx:AB e x=.int k a)(hy:AB e y=.int k b):Yd P e bx σ (.binOp .lss T x y T') ty (.bool (decide (a<b))):=
 fun oo ho _ w _ _=>by simp[execOp,ho,hx,hy,eqGuard_lss,binOp_lss]
theorem Y.leq (hx:AB e x=.int k a)(hy:AB e y=.int k b):Yd P e bx σ (.binOp .leq T x y T') ty (.bool (decide (a≤b))):=
 fun oo ho _ w _ _=>by simp[execOp,ho,hx,hy,eqGuard_leq,binOp_leq]
theorem Y.gtr (hx:AB e x=.int k a)(hy:AB e y=.int k b):Yd P e bx σ (.binOp .gtr T x y T') ty (.bool (decide (b<a))):=
 fun oo ho _ w _ _=>by simp[execOp,ho,hx,hy,eqGuard_gtr,binOp_gtr]
theorem Y.geq (hx:AB e x=.int k a)(hy:AB e y=.int k b):Yd P e bx σ (.binOp .geq T x y T') ty (.bool (decide (b≤a))):=
 fun oo ho _ w _ _=>by simp[execOp,ho,hx,hy,eqGuard_geq,binOp_geq]
theorem Y.eql (hx:AB e x=.int k a)(hy:AB e y=.int k b):Yd P e bx σ (.binOp .eql T x y T') ty (.bool (decide (a=b))):=
 fun oo ho _ w _ _=>by simp[execOp,ho,hx,hy,eqGuard_at_int,binOp_eql];rfl
theorem Y.neq (hx:AB e x=.int k a)(hy:AB e y=.int k b):Yd P e bx σ (.binOp .neq T x y T') ty (.bool (decide (a≠b))):=
 fun oo ho _ w _ _=>by simp[execOp,ho,hx,hy,eqGuard_at_int,binOp_neq];rfl
theorem Y.add (hx:AB e x=.int k a)(hy:AB e y=.int k b):Yd P e bx σ (.binOp .add T x y T') ty (.int k (k.wrap (a+b))):=
 fun oo ho _ w _ _=>by simp[execOp,ho,hx,hy,eqGuard_add,binOp_add,Op.intArith]
theorem Y.sub (hx:AB e x=.int k a)(hy:AB e y=.int k b):Yd P e bx σ (.binOp .sub T x y T') ty (.int k (k.wrap (a-b))):=
 fun oo ho _ w _ _=>by simp[execOp,ho,hx,hy,eqGuard_sub,binOp_sub,Op.intArith]
theorem Y.mul (hx:AB e x=.int k a)(hy:AB e y=.int k b):Yd P e bx σ (.binOp .mul T x y T') ty (.int k (k.wrap (a*b))):=
 fun oo ho _ w _ _=>by simp[execOp,ho,hx,hy,eqGuard_mul,binOp_mul,Op.intArith]
def AM (n:Int):Prop:=-9223372036854775808≤n∧n≤9223372036854775807
theorem AM.wrap {n:Int}(h:AM n):IntKind.i64.wrap n=n:=by
 obtain⟨h1,h2⟩:=h;simp[IntKind.wrap,IntKind.bits,IntKind.signed];split<;>omega
theorem Y.AEP (h:AM (a+b))(hx:AB e x=.int .i64 a)(hy:AB e y=.int .i64 b):Yd P e bx σ (.binOp .add T x y T') ty (.int .i64 (a+b)):=by
 have:=Y.add (P:=P) (bx:=bx) (σ:=σ) (ty:=ty) (T:=T) (T':=T') hx hy;rwa[h.wrap]at this
theorem Y.iu (h:AM (a-b))(hx:AB e x=.int .i64 a)(hy:AB e y=.int .i64 b):Yd P e bx σ (.binOp .sub T x y T') ty (.int .i64 (a-b)):=by
 have:=Y.sub (P:=P) (bx:=bx) (σ:=σ) (ty:=ty) (T:=T) (T':=T') hx hy;rwa[h.wrap]at this
theorem Y.bits {op:BinOp}(Kq:op=.and∨op=.or∨op=.xor∨op=.andNot)(hx:AB e x=.int k a)(hy:AB e y=.int k b):
  Yd P e bx σ (.binOp op T x y T') ty (.int k (Go.bits op k a b)):=
 fun oo ho _ w _ _=>by
  rcases Kq with rfl|rfl|rfl|rfl <;>
   simp[execOp,ho,hx,hy,eqGuard_at_int,binOp_and,binOp_or,binOp_xor,binOp_andNot,intBits_and,intBits_or,intBits_xor,intBits_andNot]
theorem Y.shl {k':IntKind}(h0:0≤b)(h1:b≤k.bits)(hx:AB e x=.int k a)(hy:AB e y=.int k' b):
  Yd P e bx σ (.binOp .shl T x y T') ty (.int k (k.wrap (a*2^b.toNat))):=
 fun oo ho _ w _ _=>by simp[execOp,ho,hx,hy,eqGuard_shl,binOp_shl,shift_shl k k' a b h0 h1]
theorem Y.shr {k':IntKind}(h0:0≤b)(h1:b≤k.bits)(hx:AB e x=.int k a)(hy:AB e y=.int k' b):
  Yd P e bx σ (.binOp .shr T x y T') ty (.int k (a/2^b.toNat)):=
 fun oo ho _ w _ _=>by simp[execOp,ho,hx,hy,eqGuard_shr,binOp_shr,shift_shr k k' a b h0 h1]
theorem Y.quo (h:b≠0)(hx:AB e x=.int k a)(hy:AB e y=.int k b):Yd P e bx σ (.binOp .quo T x y T') ty (.int k (k.wrap (a.tdiv b))):=
 fun oo ho _ w _ _=>by simp[execOp,ho,hx,hy,eqGuard_quo,binOp_quo,Op.intDiv,h]
theorem Y.rem (h:b≠0)(hx:AB e x=.int k a)(hy:AB e y=.int k b):Yd P e bx σ (.binOp .rem T x y T') ty (.int k (a.tmod b)):=
 fun oo ho _ w _ _=>by simp[execOp,ho,hx,hy,eqGuard_rem,binOp_rem,Op.intDiv,h]
theorem Y.not {p:Bool}(hx:AB e x=.bool p):Yd P e bx σ (.unOp .not T x) ty (.bool (!p)):=
 fun oo ho _ w _ _=>by simp[execOp,ho,hx,Op.unary]
theorem Y.neg (hx:AB e x=.int k a):Yd P e bx σ (.unOp .neg T x) ty (.int k (k.wrap (0-a))):=
 fun oo ho _ w _ _=>by simp[execOp,ho,hx,Op.unary,Op.intArith]
theorem Y.conv {k':IntKind}(hs:(P.underlying T).isSome=true)(hd:P.underlying T'=some (.int k'))(hx:AB e x=.int k a):
  Yd P e bx σ (.convert T T' x) ty (.int k' (k'.wrap a)):=
 fun oo ho _ w _ _=>by
  have hk:P.intKind T'=k':=by simp[Program.intKind,hd]
  have:=run_convert_int w T T' k a hs (by rw[hk];exact hd);rw[hk]at this;simp[execOp,ho,hx,this]
theorem Y.lf {p:Option Addr}{n c:Nat}{E:TypeId}(hT:P.underlying T=some (.slice E))(hx:AB e x=.slice p n c){ts:Array TypeId}(bm:ts=#[T]):
  Yd P e bx σ (.call { callee:=.builtin .len,args:=#[x],argTypes:=ts }) ty (.int .i64 n):=fun oo ho ht w _ _=>by
 subst bm;simp[execOp,ho,resolve,invoke,builtin,hx,Builtin.len_,run_underlying hT,goInt]
theorem Y.AMB {p:Option Addr}{n c:Nat}{E:TypeId}(hT:P.underlying T=some (.slice E))(hx:AB e x=.slice p n c){ts:Array TypeId}(bm:ts=#[T]):
  Yd P e bx σ (.call { callee:=.builtin .cap,args:=#[x],argTypes:=ts }) ty (.int .i64 c):=fun oo ho ht w _ _=>by
 subst bm;simp[execOp,ho,resolve,invoke,builtin,hx,Builtin.cap_,run_underlying hT,goInt]
theorem Y.zV {s:ByteArray}(hT:P.underlying T=some .string)(hx:AB e x=.string s){ts:Array TypeId}(bm:ts=#[T]):
  Yd P e bx σ (.call { callee:=.builtin .len,args:=#[x],argTypes:=ts }) ty (.int .i64 s.size):=fun oo ho ht w _ _=>by
 subst bm;simp[execOp,ho,resolve,invoke,builtin,hx,Builtin.len_,run_underlying hT,goInt]
theorem Y.min2 {k':IntKind}{ts:Array TypeId}(hx:AB e x=.int k a)(hy:AB e y=.int k' b):
  Yd P e bx σ (.call { callee:=.builtin .min,args:=#[x,y],argTypes:=ts }) ty (.int k (if b<a then b else a)):=fun oo ho ht w _ _=>by
 simp[execOp,ho,resolve,invoke,builtin,hx,hy,run_min_int2]
theorem Y.max2 {k':IntKind}{ts:Array TypeId}(hx:AB e x=.int k a)(hy:AB e y=.int k' b):
  Yd P e bx σ (.call { callee:=.builtin .max,args:=#[x,y],argTypes:=ts }) ty (.int k (if b > a then b else a)):=fun oo ho ht w _ _=>by
 simp[execOp,ho,resolve,invoke,builtin,hx,hy,run_max_int2]
theorem Y.fieldAddr {b o f off:Nat}{fs:Array Field}{fd:Field}{a':Addr}(hT:P.underlying T=some (.struct fs))(hf:fs[f]?=some fd)(hs:∀w,((Go.sizeOf fd.type).run P w)=.ok (off+1) w)
  (hx:AB e x=.pointer (some ⟨b,o,none⟩)) (ha:a'=⟨b,o+fd.offset,none⟩):Yd P e bx σ (.fieldAddr T x f) ty (.pointer (some a')):=
 fun oo ho _ w _ _=>by
  subst ha;simp[execOp,ho,hx,Instr.fieldAt,run_underlying hT,hf,Instr.sureAddr,fieldPlace,hs];exact Bl b o fd.offset
theorem Y.extract {vs:Array Value}{i:Nat}{v:Value}(hx:AB e x=.tuple vs)(hv:vs[i]?=some v):Yd P e bx σ (.extract x i) ty v:=
 fun oo ho _ w _ _=>by simp[execOp,ho,hx,Instr.extract,hv]
theorem Y.zW {cs:Array Value}{f:Nat}{fs:Array Field}{fd:Field}{v:Value}(hT:P.underlying T=some (.struct fs))(hf:fs[f]?=some fd)(ha:∀w,(isAgg fd.type).run P w=.ok false w)
  (hx:AB e x=.agg cs) (hv:cs[fd.offset]?=some v):Yd P e bx σ (.field T x f) ty v:=
 fun oo ho _ w _ _=>by simp[execOp,ho,hx,Instr.field,run_underlying hT,hf,asAgg,part,ha,hv]
theorem Y.zX {cs cs':Array Value}{f n:Nat}{fs:Array Field}{fd:Field}(hT:P.underlying T=some (.struct fs))(hf:fs[f]?=some fd)(ha:∀w,(isAgg fd.type).run P w=.ok true w)
  (hs:∀w,((Go.sizeOf fd.type).run P w)=.ok n w) (hx:AB e x=.agg cs) (hv:cs.extract fd.offset (fd.offset+n)=cs'):Yd P e bx σ (.field T x f) ty (.agg cs'):=
 fun oo ho _ w _ _=>by simp[execOp,ho,hx,Instr.field,run_underlying hT,hf,asAgg,part,ha,hs,hv]
theorem Y.idx {b o n c sz:Nat}{E:TypeId}{i:Int}{a':Addr}(hT:P.underlying T=some (.slice E))(hs:∀w,((Go.sizeOf E).run P w)=.ok sz w)
  (hx:AB e x=.slice (some ⟨b,o,none⟩) n c) (hy:AB e y=.int k i) (hi:0≤i∧i<n) (ha:a'=⟨b,o+i.toNat*sz,none⟩):Yd P e bx σ (.indexAddr T x y) ty (.pointer (some a')):=
 fun oo ho _ w _ _=>by
  subst ha;simp[execOp,ho,hx,hy,Instr.indexAt,run_underlying hT,asIntOf,hi,hs,Bl]
theorem Y.AMC {b o n sz:Nat}{E:TypeId}{i:Int}{a':Addr}(hT:P.underlying T=some (.array n E))(hs:∀w,((Go.sizeOf E).run P w)=.ok sz w)
  (hx:AB e x=.pointer (some ⟨b,o,none⟩)) (hy:AB e y=.int k i) (hi:0≤i∧i<n) (ha:a'=⟨b,o+i.toNat*sz,none⟩):Yd P e bx σ (.indexAddr T x y) ty (.pointer (some a')):=
 fun oo ho _ w _ _=>by
  subst ha;simp[execOp,ho,hx,hy,Instr.indexAt,run_underlying hT,asIntOf,hi,hs,Bl,Instr.sureAddr]
theorem Y.zY {s:ByteArray}{cs:Array Value}{n:Nat}{E:TypeId}{i:Int}(hT:P.underlying T=some (.array n E))(hE:∀w,(isAgg E).run P w=.ok false w)(hs:∀w,((Go.sizeOf E).run P w)=.ok 1 w)(hx:AB e x=.agg cs)(hy:AB e y=.int k i)(h0:0≤i∧i<n)(hv:cs[i.toNat]?=some (.string s)):
  Yd P e bx σ (.index T x y) ty (.string s):=
 fun oo ho _ w _ _=>by simp[execOp,ho,hx,hy,Instr.index,run_underlying hT,asIntOf,h0,hs,part,hE,hv]
theorem Y.zZ {s:ByteArray}{i:Int}{v:UInt8}(hT:P.underlying T=some .string)(hx:AB e x=.string s)(hy:AB e y=.int k i)(h0:0≤i)(hv:s.data[i.toNat]?=some v):
  Yd P e bx σ (.index T x y) ty (.int .u8 v.toNat):=
 fun oo ho _ w _ _=>by
  have za:s[i.toNat]?=some v:=by rw[←hv];rfl
  simp[execOp,ho,hx,hy,Instr.index,run_underlying hT,asIntOf,h0,za]
theorem Y.ld {a:Addr}{v:Value}(hA:∀w,(isAgg T).run P w=.ok false w)(hx:AB e x=.pointer (some a))(h:σ.ld a=some v):Yd P e bx σ (.load T x) ty v:=
 fun oo ho _ w hs _=>by
  simp[execOp,ho,hx,Instr.loadAt,Instr.sureAddr,loadVar,hA,load,Sem.run,hs.ld h]
theorem Hc.cell {w:World}{b:Nat}{c:Array Value}{t:TypeId}{fr:Nat×Nat}(hs:Hc bx w)(hb:(b,Obj.cells c t fr)∈bx)(o:Nat):w.cell? ⟨b,o,none⟩=c[o]?:=by
 simp[World.cell?,hs _ hb]
theorem Y.ldb {b o:Nat}{c:Array Value}{t:TypeId}{fr:Nat×Nat}{v:Value}(hA:∀w,(isAgg T).run P w=.ok false w)(hx:AB e x=.pointer (some ⟨b,o,none⟩))(hb:(b,Obj.cells c t fr)∈bx)(h:c[o]?=some v):
  Yd P e bx σ (.load T x) ty v:=
 fun oo ho _ w _ hs=>by
  simp[execOp,ho,hx,Instr.loadAt,Instr.sureAddr,loadVar,hA,load,Sem.run,hs.cell hb,h]
theorem Y.lda {b o n:Nat}{vs:List Value}(hA:∀w,(isAgg T).run P w=.ok true w)(hs:∀w,((Go.sizeOf T).run P w)=.ok n w)(hn:vs.length=n)(hx:AB e x=.pointer (some ⟨b,o,none⟩))(h:Av σ b o vs):
  Yd P e bx σ (.load T x) ty (.agg vs.toArray):=
 fun oo ho _ w lg _=>by
  subst hn;have:=run_loadCells_list (P:=P) (w:=w) ⟨b,o,none⟩ vs (fun j v hj=>by rw[show(⟨b,o,none⟩:Addr).add j=⟨b,o+j,none⟩ from Bl _ _ _];exact lg.ld (h.get hj));simp[execOp,ho,hx,Instr.loadAt,Instr.sureAddr,loadVar,hA,hs,this]
theorem Y.AMD {b o n:Nat}{c:Array Value}{t:TypeId}{fr:Nat×Nat}{vs:List Value}(hA:∀w,(isAgg T).run P w=.ok true w)(hs:∀w,((Go.sizeOf T).run P w)=.ok n w)(hn:vs.length=n)(hx:AB e x=.pointer (some ⟨b,o,none⟩))
  (hb:(b,Obj.cells c t fr)∈bx) (h:(c.toList.drop o).take n=vs):Yd P e bx σ (.load T x) ty (.agg vs.toArray):=
 fun oo ho _ w _ lg=>by
  subst hn;have:=run_loadCells_list (P:=P) (w:=w) ⟨b,o,none⟩ vs (fun j v hj=>by
   rw[show(⟨b,o,none⟩:Addr).add j=⟨b,o+j,none⟩ from Bl _ _ _,lg.cell hb];rw[←h]at hj;have Am:j<vs.length:=by
    have:=(AWk.1 hj).1;simp at this;omega
   simpa[AW4,Am] using hj)
  simp[execOp,ho,hx,Instr.loadAt,Instr.sureAddr,loadVar,hA,hs,this]
theorem Y.nilCheck {a:Addr}(hx:AB e x=.pointer (some a)):Yd P e bx σ (.nilCheck x) ty (.pointer (some a)):=
 .pu fun o ho=>by simp[execOp,ho,hx]
theorem Y.iw {f:FuncId}{xs ys:Array Value}(hx:AB e x=.func (.func f) xs ys):Yd P e bx σ (.nilCheck x) ty (.func (.func f) xs ys):=
 .pu fun o ho=>by simp[execOp,ho,hx]
theorem Y.makeFunc {fn:Fn}{xs ys:Array Operand}{vs us:Array Value}(hx:xs.toList.map (AB e)=vs.toList)(hy:ys.toList.map (AB e)=us.toList):Yd P e bx σ (.makeFunc fn xs ys) ty (.func fn vs us):=
 fun oo ho _ w _ _=>by
 have hx:xs.map (AB e)=vs:=by rw[←AW5];simpa using hx
 have hy:ys.map (AB e)=us:=by rw[←AW5];simpa using hy
 simp[execOp,ho,hx,hy,Instr.makeFunc]
end bk
end Tw
end
section
namespace Tw
open Go
variable [Ei]
def sig (ops:Array Oper)(i:Nat):Option (Option Nat×Op×TypeId×Option (Nat×Bool)):=(ops[i]?).map fun o=>(o.dst,o.op,o.type,o.guard)
theorem BB {ops:Array Oper}{i:Nat}{d:Option Nat}{op:Op}{ty:TypeId}{gd:Option (Nat×Bool)}(h:sig ops i=some (d,op,ty,gd)):
  ∃o,ops[i]?=some o∧o.dst=d∧o.op=op∧o.type=ty∧o.guard=gd:=by
 unfold sig at h;cases ho:ops[i]? with
 | none=>simp[ho]at h
 | some o=>
  simp only[ho,AXT,AWp,AYG]at h;exact⟨o,rfl,h.1,h.2.1,h.2.2.1,h.2.2.2⟩
def Fc (d:Option Nat)(n:Nat):Bool:=match d with | some d=>Nat.blt d n | none=>true
theorem Fc.lt {d:Option Nat}{n:Nat}(h:Fc d n=true):∀t,d=some t→t<n:=fun t ht=>by
 subst ht;exact AXZ h
section lh
variable {g:Gl}{ops:Array Oper}{q:IG}{L:List (Nat×List Nat)}{i:Nat}{is:List Nat}{r:List (Nat×Bool)}{e:Env}{bx:Bx}{σ:Hp}{K:Env→Bx→Hp→Prop}{d:Option Nat}{op:Op}{ty:TypeId}{gd:Option (Nat×Bool)}{v:Value}
theorem AI.y (hs:sig ops i=some (d,op,ty,gd))(hw:AP ops e gd=true)(hd:Fc d g.n=true)(hy:Yd g.P e bx σ op ty v)(h:K (put e d v) bx σ):AI g ops i e bx σ K:=by
 intro w0 F a w st;obtain⟨o,ho,rfl,Bp,Db,rfl⟩:=BB hs;refine Bk ho (by rw[st.wanted];exact hw) ?_;rw[st.eval,Ce (hy o Bp Db w st.sat st.box) (fun d=>by simp)];exact⟨_,_,_,st.put _ _ (Fc.lt hd),h⟩
theorem AI.no (hs:sig ops i=some (d,op,ty,gd))(hw:AP ops e gd=false)(hd:Fc d g.n=true)(h:K (put e d undef) bx σ):AI g ops i e bx σ K:=by
 intro w0 F a w st;obtain⟨o,ho,rfl,Bp,Db,rfl⟩:=BB hs;refine bh ho (by rw[st.wanted];exact hw) ?_;exact⟨_,_,_,st.put _ _ (Fc.lt hd),h⟩
theorem Seq.y (hs:sig ops i=some (d,op,ty,none))(hd:Fc d g.n=true)(hy:Yd g.P e bx σ op ty v)(h:Seq g ops is (put e d v) bx σ K):Seq g ops (i::is) e bx σ K:=
 AI.y hs rfl hd hy h
theorem Seq.yg (hs:sig ops i=some (d,op,ty,gd))(hw:AP ops e gd=true)(hd:Fc d g.n=true)(hy:Yd g.P e bx σ op ty v)(h:Seq g ops is (put e d v) bx σ K):Seq g ops (i::is) e bx σ K:=
 AI.y hs hw hd hy h
theorem Seq.no (hs:sig ops i=some (d,op,ty,gd))(hw:AP ops e gd=false)(hd:Fc d g.n=true)(h:Seq g ops is (put e d undef) bx σ K):Seq g ops (i::is) e bx σ K:=
 AI.no hs hw hd h
theorem Seq.o (h:AI g ops i e bx σ fun e' Fq σ'=>Seq g ops is e' Fq σ' K):Seq g ops (i::is) e bx σ K:=h
theorem Seq.done (h:K e bx σ):Seq g ops [] e bx σ K:=h
theorem D3 {q:IG}:LY q none=q:=by cases q<;>rfl
theorem ok_none {q:IG}{i:Nat}{ops:Array Oper}(h:q.ok i=true):((LY q none).ok i&&P7 ops i none)=true:=by rw[D3,h];rfl
theorem Head.y (hs:sig ops i=some (d,op,ty,none))(hd:Fc d g.n=true)(hy:Yd g.P e bx (MR q none σ) op ty v)(h:Head g ops q r (put e d v) bx σ K)(CH:q.ok i=true:=by rfl):Head g ops q ((i,true)::r) e bx σ K:=by
 obtain⟨o,ho,rfl,rfl,rfl,hg⟩:=BB hs;exact⟨none,o,v,ok_none CH,ho,.inl ⟨by rw[hg];rfl,hy⟩,(Fc.lt hd),by rw[D3];exact h⟩
theorem Head.yg (hs:sig ops i=some (d,op,ty,gd))(hw:AP ops e gd=true)(hd:Fc d g.n=true)(hy:Yd g.P e bx (MR q none σ) op ty v)(h:Head g ops q r (put e d v) bx σ K)(CH:q.ok i=true:=by rfl):Head g ops q ((i,true)::r) e bx σ K:=by
 obtain⟨o,ho,rfl,rfl,rfl,rfl⟩:=BB hs;exact⟨none,o,v,ok_none CH,ho,.inl ⟨hw,hy⟩,(Fc.lt hd),by rw[D3];exact h⟩
theorem Head.yl (b:Nat)(Ds:List (List Nat)){D:List Nat}(hD:Ds.filterMap List.head?=D)(CH:((LY (some L) (some (b,Ds))).ok i&&P7 ops i (some (b,Ds)))=true)(hs:sig ops i=some (d,op,ty,none))(hd:Fc d g.n=true)(hy:Yd g.P e bx (MR (some L) (some (b,Ds)) σ) op ty v)
  (h:Head g ops (some ((b,D)::L)) r (put e d v) bx σ K):Head g ops (some L) ((i,true)::r) e bx σ K:=by
 subst hD;obtain⟨o,ho,rfl,rfl,rfl,hg⟩:=BB hs;exact⟨some (b,Ds),o,v,CH,ho,.inl ⟨by rw[hg];rfl,hy⟩,(Fc.lt hd),h⟩
theorem Head.ygl (b:Nat)(Ds:List (List Nat)){D:List Nat}(hD:Ds.filterMap List.head?=D)(CH:((LY (some L) (some (b,Ds))).ok i&&P7 ops i (some (b,Ds)))=true)(hs:sig ops i=some (d,op,ty,gd))(hw:AP ops e gd=true)(hd:Fc d g.n=true)(hy:Yd g.P e bx (MR (some L) (some (b,Ds)) σ) op ty v)
  (h:Head g ops (some ((b,D)::L)) r (put e d v) bx σ K):Head g ops (some L) ((i,true)::r) e bx σ K:=by
 subst hD;obtain⟨o,ho,rfl,rfl,rfl,rfl⟩:=BB hs;exact⟨some (b,Ds),o,v,CH,ho,.inl ⟨hw,hy⟩,(Fc.lt hd),h⟩
theorem Head.no (hs:sig ops i=some (d,op,ty,gd))(hw:AP ops e gd=false)(hd:Fc d g.n=true)(h:Head g ops q r (put e d undef) bx σ K)(CH:q.ok i=true:=by rfl):Head g ops q ((i,true)::r) e bx σ K:=by
 obtain⟨o,ho,rfl,rfl,rfl,rfl⟩:=BB hs;exact⟨none,o,undef,ok_none CH,ho,.inr ⟨hw,rfl⟩,(Fc.lt hd),by rw[D3];exact h⟩
theorem Head.o {q':IG}(hq:FH q i=q')(h:AI g ops i e bx σ fun e' Fq σ'=>I1 q' bx σ Fq σ'∧Head g ops q' r e' Fq σ' K):Head g ops q ((i,false)::r) e bx σ K:=by
 subst hq;exact h
theorem Head.done (h:K e bx σ):Head g ops q [] e bx σ K:=h
theorem St.grown {n ds w0 F e bx σ a w}(st:St n ds w0 F e bx σ a w)(o:Obj):St n ds w0 F e ((w.heap.size,o)::bx) σ a { w with heap:=w.heap.push o }:=by
 have Am:∀b o',w.heap[b]?=some o'→b<w.heap.size:=fun b o' h=>(AW3.1 h).1;have hold:∀b o',w.heap[b]?=some o'→({ w with heap:=w.heap.push o }:World).heap[b]?=some o':=fun b o' h=>by
  have:=Am _ _ h;show(w.heap.push o)[b]?=some o'
  rw[AYm,AWj (Nat.ne_of_lt this)];exact h
 refine { st with sat:=fun b o' hb=>hold _ _ (st.sat b o' hb),box:=fun p hp=>?_,free:=fun p hp=>?_,nodup:=?_,CV:=fun b hb=>?_,os:=st.os,out:=st.out,grow:=by have:=st.grow;simp;omega }
 ·rcases AWo.1 hp with rfl|hp
  ·simp
  ·exact hold _ _ (st.box p hp)
 ·rcases AWo.1 hp with rfl|hp
  ·refine⟨?_,fun hF=>?_⟩
   ·cases hs:σ w.heap.size with
    | none=>rfl
    | some o'=>exact absurd (Am _ _ (st.sat _ _ hs)) (Nat.lt_irrefl _)
   ·have h1:=(st.CV _ hF).1;have h2:=st.grow;simp at h1;omega
  ·exact st.free p hp
 ·refine AXL.2 ⟨fun hm=>?_,st.nodup⟩;obtain⟨p,hp,he⟩:=AXB.1 hm;have:=Am _ _ (st.box p hp);simp at he;omega
 ·obtain⟨h1,h2,h3⟩:=st.CV b hb;refine⟨h1,h2,?_⟩;have:b≠w.heap.size:=by have:=st.grow;omega
  show(w.heap.push o)[b]?=_
  rw[AYm,AWj this];exact h3
theorem AI.box {T:TypeId}{x:Operand}{cs:Array Value}(hs:sig ops i=some (d,.box T x,ty,gd))(hw:AP ops e gd=true)(hd:Fc d g.n=true)(hx:(AB e x).cells=cs)
  (h:∀b,K (put e d (.pointer (some ⟨b,0,none⟩))) ((b,.cells cs T (0,0))::bx) σ):AI g ops i e bx σ K:=by
 intro w0 F a w st;obtain⟨o,ho,rfl,Bp,Db,hg⟩:=BB hs;refine Bk ho (by rw[st.wanted,hg];exact hw) ?_;rw[st.eval];have:(execOp (AB e) o).run g.P w=.ok (.value (.pointer (some ⟨w.heap.size,0,none⟩))) { w with heap:=w.heap.push (.cells cs T (0,0)) }:=by
  simp[execOp,Bp,Instr.box,newVar,newRow,newObj,Sem.run,hx]
 rw[Ce this (fun d=>by simp)];exact⟨_,_,_,(st.grown _).put _ _ (Fc.lt hd),h _⟩
theorem AI.alloc {T:TypeId}{z:Value}{cs:Array Value}(hs:sig ops i=some (d,.alloc T,ty,gd))(hw:AP ops e gd=true)(hd:Fc d g.n=true)(hz:∀w,(zeroValue T).run g.P w=.ok z w)(hc:z.cells=cs)
  (h:∀b,K (put e d (.pointer (some ⟨b,0,none⟩))) ((b,.cells cs T (0,0))::bx) σ):AI g ops i e bx σ K:=by
 intro w0 F a w st;obtain⟨o,ho,rfl,Bp,Db,hg⟩:=BB hs;refine Bk ho (by rw[st.wanted,hg];exact hw) ?_;rw[st.eval];have:(execOp (AB e) o).run g.P w=.ok (.value (.pointer (some ⟨w.heap.size,0,none⟩))) { w with heap:=w.heap.push (.cells cs T (0,0)) }:=by
  simp[execOp,Bp,Instr.alloc,newVar,newRow,newObj,Sem.run,hz,hc]
 rw[Ce this (fun d=>by simp)];exact⟨_,_,_,(st.grown _).put _ _ (Fc.lt hd),h _⟩
theorem Hp.AA (σ:Hp)(b:Nat)(o:Obj):σ.set b o b=some o:=by simp[Hp.set]
theorem Hp.AF {σ:Hp}{b c:Nat}{o:Obj}(h:c≠b):σ.set b o c=σ c:=by simp[Hp.set,h]
theorem St.open {n ds w0 F e bx σ a w b o}(st:St n ds w0 F e ((b,o)::bx) σ a w):St n ds w0 F e bx (σ.set b o) a w:=by
 have hb:=st.box (b,o) (AW1 ..);have hf:=st.free (b,o) (AW1 ..);have hn:=AXL.1 (show((b::bx.map (·.1))).Nodup from st.nodup);refine { st with sat:=fun c o' hc=>?_,box:=fun p hp=>st.box p (AWq _ hp),free:=fun p hp=>?_,nodup:=hn.2,CV:=fun c hc=>?_ }
 ·by_cases h:c=b
  ·subst h;rw[Hp.AA]at hc;cases hc;exact hb
  ·rw[Hp.AF h]at hc;exact st.sat c o' hc
 ·have h1:=st.free p (AWq _ hp);have:p.1≠b:=fun h=>hn.1 (AXB.2 ⟨p,hp,h⟩);exact⟨by rw[Hp.AF this];exact h1.1,h1.2⟩
 ·obtain⟨h1,h2,h3⟩:=st.CV c hc;have:c≠b:=fun h=>hf.2 (h▸hc);exact⟨h1,by rw[Hp.AF this];exact h2,h3⟩
theorem AI.zb {T:TypeId}{x:Operand}{cs:Array Value}(hs:sig ops i=some (d,.box T x,ty,gd))(hw:AP ops e gd=true)(hd:Fc d g.n=true)(hx:(AB e x).cells=cs)
  (h:∀b,σ b=none→K (put e d (.pointer (some ⟨b,0,none⟩))) bx (σ.set b (.cells cs T (0,0)))):AI g ops i e bx σ K:=by
 intro w0 F a w st;refine wpOpIn_mono ?_ (AI.box (K:=fun e' Fq σ'=>σ'=σ∧∃b,e'=put e d (.pointer (some ⟨b,0,none⟩))∧Fq=(b,.cells cs T (0,0))::bx) hs hw hd hx (fun b=>⟨rfl,b,rfl,rfl⟩) w0 F a w st)
 rintro a' w' ⟨_,_,_,Ko,rfl,b,rfl,rfl⟩
 exact⟨_,_,_,Ko.open,h b (Ko.free _ (AW1 ..)).1⟩
theorem AI.JQ {T:TypeId}{z:Value}{cs:Array Value}(hs:sig ops i=some (d,.alloc T,ty,gd))(hw:AP ops e gd=true)(hd:Fc d g.n=true)(hz:∀w,(zeroValue T).run g.P w=.ok z w)(hc:z.cells=cs)
  (h:∀b,σ b=none→K (put e d (.pointer (some ⟨b,0,none⟩))) bx (σ.set b (.cells cs T (0,0)))):AI g ops i e bx σ K:=by
 intro w0 F a w st;refine wpOpIn_mono ?_ (AI.alloc (K:=fun e' Fq σ'=>σ'=σ∧∃b,e'=put e d (.pointer (some ⟨b,0,none⟩))∧Fq=(b,.cells cs T (0,0))::bx) hs hw hd hz hc (fun b=>⟨rfl,b,rfl,rfl⟩) w0 F a w st)
 rintro a' w' ⟨_,_,_,Ko,rfl,b,rfl,rfl⟩
 exact⟨_,_,_,Ko.open,h b (Ko.free _ (AW1 ..)).1⟩
def AH (P:Program){α:Type}(m:Sem α)(σ:Hp)(Φ:α→Hp→Prop):Prop:=
 ∀w (F:Nat→Prop),Sat σ w→(∀b,F b→b<w.heap.size∧σ b=none)→∃v w' σ',m.run P w=.ok v w'∧Φ v σ'∧Fin σ' F w w'
theorem AH.mono {P:Program}{α:Type}{m:Sem α}{Φ Ψ:α→Hp→Prop}(h:AH P m σ Φ)(hh:∀v σ',Φ v σ'→Ψ v σ'):AH P m σ Ψ:=fun w F hs hF=>
 let ⟨v,w',σ',h1,h2,h3⟩:=h w F hs hF
 ⟨v,w',σ',h1,hh _ _ h2,h3⟩
theorem St.lt {n ds w0 F e bx σ a w}(st:St n ds w0 F e bx σ a w):∀b,(F b∨b∈bx.map (·.1))→b<w.heap.size∧σ b=none:=by
 rintro b (h|h)
 ·have h1:=st.CV b h;have h2:=st.grow;exact⟨by omega,h1.2.1⟩
 ·obtain⟨p,hp,rfl⟩:=AXB.1 h;exact⟨(AW3.1 (st.box p hp)).1,(st.free p hp).1⟩
theorem St.fin {n ds w0 F e bx σ a w σ' w'}(st:St n ds w0 F e bx σ a w)(h:Fin σ' (fun b=>F b∨b∈bx.map (·.1)) w w'):St n ds w0 F e bx σ' a w':=by
 refine { st with sat:=h.sat,box:=fun p hp=>?_,free:=fun p hp=>⟨(h.CV p.1 (.inr (AXB.2 ⟨p,hp,rfl⟩))).1,(st.free p hp).2⟩,CV:=fun b hb=>?_,os:=st.os.trans h.os,out:=h.out.trans st.out,grow:=AXD st.grow h.grow }
 ·rw[(h.CV p.1 (.inr (AXB.2 ⟨p,hp,rfl⟩))).2];exact st.box p hp
 ·obtain⟨h1,_,h3⟩:=st.CV b hb;exact⟨h1,(h.CV b (.inl hb)).1,(h.CV b (.inl hb)).2.trans h3⟩
theorem AI.QA (hs:sig ops i=some (d,op,ty,gd))(hw:AP ops e gd=true)(hd:Fc d g.n=true)(m:Sem Value)(hm:∀o:Oper,o.op=op→o.type=ty→execOp (AB e) o=(do pure (.value (←m))))
  (h:AH g.P m σ fun v σ'=>K (put e d v) bx σ'):AI g ops i e bx σ K:=by
 intro w0 F a w st;obtain⟨o,ho,rfl,Bp,Db,rfl⟩:=BB hs;refine Bk ho (by rw[st.wanted];exact hw) ?_;obtain⟨v,w',σ',h1,h2,h3⟩:=h w _ st.sat st.lt;rw[st.eval];have BC:=hm o Bp Db;rw[Ce (by rw[BC];simp only[Sem.run_bind,h1,Result.andThen_ok];rfl) (fun d=>by simp)];exact⟨_,_,_,(st.fin h3).put _ _ (Fc.lt hd),h2⟩
theorem AI.tS (hs:sig ops i=some (d,op,ty,gd))(hw:AP ops e gd=true)(hd:Fc d g.n=true)(m:Sem Unit)(hm:∀o:Oper,o.op=op→o.type=ty→execOp (AB e) o=(do m;pure .skip))
  (h:AH g.P m σ fun _ σ'=>K (put e d undef) bx σ'):AI g ops i e bx σ K:=by
 intro w0 F a w st;obtain⟨o,ho,rfl,Bp,Db,rfl⟩:=BB hs;refine Bk ho (by rw[st.wanted];exact hw) ?_;obtain⟨v,w',σ',h1,h2,h3⟩:=h w _ st.sat st.lt;rw[st.eval];have BC:=hm o Bp Db;rw[Ce (by rw[BC];simp only[Sem.run_bind,h1,Result.andThen_ok];rfl) (fun d=>by simp)];exact⟨_,_,_,(st.fin h3).put _ _ (Fc.lt hd),h2⟩
def Ap (R:Rr)(Φ:Value→Hp→Prop):Rr
 | .returned v,σ=>Φ v σ
 | .panicked ch,σ=>R (.panicked ch) σ
 | .outgrown,_=>False
theorem AI.call {f:FuncId}{args:Array Value}(hs:sig ops i=some (d,op,ty,gd))(hw:AP ops e gd=true)(hd:Fc d g.n=true)
  (hm:∀o:Oper,o.op=op→o.type=ty→∀w,(execOp (AB e) o).run g.P w=.ok (.enter f args) w)
  (h:Spec g.P f args σ (Ap g.R fun v σ'=>K (put e d v) bx σ')):AI g ops i e bx σ K:=by
 intro w0 F a w st;obtain⟨o,ho,rfl,Bp,Db,rfl⟩:=BB hs;refine Bk ho (by rw[st.wanted];exact hw) ?_;rw[st.eval,Ce (hm o Bp Db w) (fun d=>by simp)];refine⟨fun hh=>(by cases hh),RY (Calls.mono (h w _ st.sat st.lt) fun en w'=>?_)⟩
 rintro⟨σ',hr,hf⟩
 have Ko:=st.fin hf;cases en with
 | returned v=>exact⟨_,_,_,Ko.put _ _ (Fc.lt hd),hr⟩
 | panicked ch=>
  rcases g.pan with ⟨h1,h2⟩|DS
  ·exact⟨⟨h1,Ko.defers.trans h2⟩,σ',hr,Ko.toFin⟩
  ·exact absurd hr (DS ch σ')
 | outgrown=>exact hr.elim
theorem PH {P:Program}{ρ:Operand→Value}{x:Operand}{xs:Array Operand}{ts:Array TypeId}{f:FuncId}{fst cap vs args:Array Value}
  (hf:∀args w,(callFunc f args).run P w=.ok (.enter f args) w) (hx:ρ x=.func (.func f) fst cap) (Fs:xs.toList.map ρ=vs.toList) (ha:fst++vs++cap=args)
  (o:Oper) (ho:o.op=.call { callee:=.value x,args:=xs,argTypes:=ts }) (w:World) :
  (execOp ρ o).run P w=.ok (.enter f args) w:=by
 subst ha;have Fs:xs.map ρ=vs:=by rw[←AW5];simpa using Fs
 simp only[execOp,ho,resolve,hx,Fs,Deferred.ofValue,invoke,bind,Sem.bind,pure];exact hf _ w
end lh
end Tw
end
section
namespace Tw
open Go
variable [Ei]
def Lt (c:Array Value)(o:Nat):List Value→Array Value
 | []=>c
 | v::vs=>Lt (c.setIfInBounds o v) (o+1) vs
theorem Hf:∀(vs:List Value) (c:Array Value) (o:Nat),(Lt c o vs).size=c.size
 | [],_,_=>rfl
 | v::vs,c,o=>by simp[Lt,Hf vs]
theorem Q8:∀(vs:List Value) (c:Array Value) (o j:Nat),o+vs.length≤c.size→
  (Lt c o vs)[j]?=if o≤j∧j<o+vs.length then vs[j-o]? else c[j]?
 | [],c,o,j,_=>by rw[AWj (by simp only[AXw];omega)];rfl
 | v::vs,c,o,j,h=>by
  simp only[AWw]at h;rw[Lt,Q8 vs _ _ j (by simp;omega)];by_cases h1:o+1≤j∧j<o+1+vs.length
  ·rw[AWl h1,AWl (by simp;omega),show j-o=(j-(o+1))+1 by omega,AXU]
  ·rw[AWj h1];by_cases h2:j=o
   ·subst h2;rw[AWl (by simp),AX5];simp[show j<c.size by omega]
   ·rw[AWj (by simp;omega),AYX (AXn h2)]
section
variable {P:Program}
theorem EJ (b o:Nat)(t:TypeId):∀(vs:List Value) (i:Nat) (c:Array Value) (w:World),w.heap[b]?=some (.cells c t (0,0))→o+i+vs.length≤c.size→(∀v∈vs,v.oneCell'=true)→
  (storeCells ⟨b,o,none⟩ vs i).run P w=.ok () (w.setRow b (Lt c (o+i) vs))
 | [],i,c,w,hg,hl,_=>by
  have Am:b<w.heap.size:=(AW3.1 hg).1;have hv:w.heap[b]=.cells c t (0,0):=(AW3.1 hg).2;simp only[storeCells,Lt];show Result.ok () w=_
  congr 1
  unfold World.setRow;cases w with
  | mk heap tape drawn os output=>
   congr 1
   apply Array.ext
   ·simp
   ·intro k h1 h2;simp only[Array.getElem_modify];split
    ·rename_i hk;subst hk;simp at hv;simp[hv]
    ·rfl
 | v::vs,i,c,w,hg,hl,h1=>by
  simp only[AWw]at hl;have VC:w.cell? ⟨b,o+i,none⟩=some c[o+i]:=by
   simp[World.cell?,hg]
  have hfr:w.frozen? ⟨b,o+i,none⟩=false:=by simp[World.frozen?,hg]
  have AMF:(⟨b,o,none⟩:Addr).add i=⟨b,o+i,none⟩:=Bl b o i;have AMG:=setCell_eq_setRow w b (o+i) c t (0,0) v hg;have M4:=setRow_heap w b c (c.setIfInBounds (o+i) v) t (0,0) hg;have ih:=EJ b o t vs (i+1) (c.setIfInBounds (o+i) v) (w.setRow b (c.setIfInBounds (o+i) v)) M4 (by simp;omega) (fun u hu=>h1 u (AWq _ hu));rw[setRow_setRow]at ih;have IH:=run_store P w ⟨b,o+i,none⟩ v .plain (h1 v (AW1 ..));simp only[storeCells,AMF,Sem.run_bind,IH,VC,hfr,AYZ,AX9,Result.andThen_ok,AMG,ih,Lt];rw[AZR]
theorem QB (b o:Nat)(t ty:TypeId)(v:Value)(c:Array Value)(w:World){n:Nat}(hs:∀w,(Go.sizeOf ty).run P w=.ok n w)(hn:v.cells.size=n)(hg:w.heap[b]?=some (.cells c t (0,0)))
  (hl:o+n≤c.size) (h1:∀u∈v.cells.toList,u.oneCell'=true) :
  (Instr.storeAt ty (.pointer (some ⟨b,o,none⟩)) v).run P w=.ok () (w.setRow b (Lt c o v.cells.toList)):=by
 have:=EJ (P:=P) b o t v.cells.toList 0 c w hg (by simp;omega) h1;simp[Instr.storeAt,Instr.sureAddr,storeVar,hs,hn,this]
end
theorem St.wrote {n ds w0 F e bx σ a w j b c c' t}(st:St n ds w0 F e bx σ a w)(hj:bx[j]?=some (b,Obj.cells c t (0,0))):
  St n ds w0 F e (bx.set j (b,.cells c' t (0,0))) σ a (w.setRow b c'):=by
 have hm:(b,Obj.cells c t (0,0))∈bx:=AWn hj;have hb:=st.box _ hm;have hf:=st.free _ hm;have tT:(bx.set j (b,Obj.cells c' t (0,0))).map (·.1)=bx.map (·.1):=by
  rw[AZu];have:(bx.map (·.1))[j]?=some b:=by simp[hj]
  obtain⟨Am,heq⟩:=AWk.1 this;rw[←heq,AZj]
 have bn:∀k,k≠b→(w.setRow b c').heap[k]?=w.heap[k]?:=fun k hk=>setRow_other w b k c' hk;refine { st with sat:=fun k o hk=>?_,box:=fun p hp=>?_,free:=fun p hp=>?_,nodup:=by rw[tT];exact st.nodup,CV:=fun k hk=>?_,os:=st.os,out:=st.out,grow:=by simpa using st.grow }
 ·have:k≠b:=fun h=>by rw[h,hf.1]at hk;cases hk
  rw[bn k this];exact st.sat k o hk
 ·by_cases h:p.1=b
  ·
   obtain⟨i,hi⟩:=AXN.1 hp;have I2:i=j:=by
    have h1:((bx.set j (b,Obj.cells c' t (0,0))).map (·.1))[i]?=some b:=by simp only[AXM,hi,AXT,h]
    rw[tT]at h1;have h2:(bx.map (·.1))[j]?=some b:=by simp[hj]
    have N8:=(AWk.1 h1).1;exact(List.getElem?_inj N8 st.nodup).1 (h1.trans h2.symm)
   subst I2;have Am:i<bx.length:=(AWk.1 hj).1;rw[AXe Am]at hi;cases hi;exact setRow_heap w b c c' t (0,0) hb
  ·rw[bn _ h];rcases AYO hp with h1|h1
   ·exact st.box p h1
   ·exact absurd (by rw[h1]) h
 ·rcases AYO hp with h1|h1
  ·exact st.free p h1
  ·rw[h1];exact hf
 ·obtain⟨h1,h2,h3⟩:=st.CV k hk;have:k≠b:=fun h=>hf.2 (h▸hk);exact⟨h1,h2,by rw[bn k this];exact h3⟩
section lh
variable {g:Gl}{ops:Array Oper}{i:Nat}{e:Env}{bx:Bx}{σ:Hp}{K:Env→Bx→Hp→Prop}{d:Option Nat}{op:Op}{ty T:TypeId}{gd:Option (Nat×Bool)}
theorem AI.zc {x y:Operand}{j b o n:Nat}{c c':Array Value}{t:TypeId}{v:Value}(hs:sig ops i=some (none,.store T x y,ty,gd))(hw:AP ops e gd=true)(hz:∀w,(Go.sizeOf T).run g.P w=.ok n w)
  (hx:AB e x=.pointer (some ⟨b,o,none⟩)) (hy:AB e y=v) (hj:bx[j]?=some (b,Obj.cells c t (0,0))) (hn:v.cells.size=n) (hl:Nat.ble (o+n) c.size=true) (h1:(v.cells.toList.all fun u=>u.oneCell')=true)
  (hc:Lt c o v.cells.toList=c') (h:K e (bx.set j (b,.cells c' t (0,0))) σ):AI g ops i e bx σ K:=by
 intro w0 F a w st;obtain⟨o',ho,hd,Bp,Db,hg⟩:=BB hs;refine Bk ho (by rw[st.wanted,hg];exact hw) ?_;rw[st.eval];subst hc;have hb:=st.box _ (AWn hj);have:=QB (P:=g.P) b o t T v c w hz hn hb (AXZ hl) (fun u hu=>AXj.1 h1 u hu);have:(execOp (AB e) o').run g.P w=.ok .skip (w.setRow b (Lt c o v.cells.toList)):=by
  simp[execOp,Bp,hx,hy,this]
 rw[Ce this (fun d=>by simp)];have AMI:a.put o'.dst undef=a:=by rw[hd];rfl
 simp only[Oper.uponIn_skip,AMI];exact⟨_,_,_,st.wrote hj,h⟩
theorem AH.store {P:Program}{b o n:Nat}{c:Array Value}{t:TypeId}{v:Value}{Φ:Unit→Hp→Prop}(hz:∀w,(Go.sizeOf T).run P w=.ok n w)(hb:σ b=some (.cells c t (0,0)))(hn:v.cells.size=n)(hl:o+n≤c.size)(h1:∀u∈v.cells.toList,u.oneCell'=true)
  (h:Φ () (σ.set b (.cells (Lt c o v.cells.toList) t (0,0)))):AH P (Instr.storeAt T (.pointer (some ⟨b,o,none⟩)) v) σ Φ:=fun w F hs hF=>by
 refine⟨(),_,_,QB b o t T v c w hz hn (hs _ _ hb) hl h1,h,?_,?_,.same rfl rfl rfl,rfl,by simp⟩
 ·intro k o' hk;by_cases h:k=b
  ·subst h;rw[Hp.AA]at hk;cases hk;exact setRow_heap w k c _ t (0,0) (hs _ _ hb)
  ·rw[Hp.AF h]at hk;rw[setRow_other _ _ _ _ h];exact hs k o' hk
 ·intro k hk;have:k≠b:=fun h=>by have:=(hF k hk).2;rw[h,hb]at this;cases this
  exact⟨by rw[Hp.AF this];exact(hF k hk).2,setRow_other _ _ _ _ this⟩
theorem AI.store {x y:Operand}{p v:Value}(hs:sig ops i=some (none,.store T x y,ty,gd))(hw:AP ops e gd=true)(hx:AB e x=p)(hy:AB e y=v)
  (h:AH g.P (Instr.storeAt T p v) σ fun _ σ'=>K e bx σ'):AI g ops i e bx σ K:=
 AI.tS hs hw rfl (Instr.storeAt T p v) (fun o ho _=>by simp[execOp,ho,hx,hy]) h
end lh
section bk
variable {P:Program}{e:Env}{bx:Bx}{σ:Hp}{ty T:TypeId}
theorem Y.build {ps:Array (Nat×Operand)}{vs:List (Nat×Value)}{cs:Array Value}(hv:ps.toList.map (fun p=>(p.1,AB e p.2))=vs)(hc:P.built T vs=some cs):Yd P e bx σ (.build T ps) ty (.agg cs):=fun oo ho _ w _ _=>by
 have hh:(ps.map fun(i,x)=>(i,AB e x)).toList=vs:=by rw[←hv];simp
 have:=run_build (P:=P) w T (ps.map fun(i,x)=>(i,AB e x)) cs (by rw[hh];exact hc);simp only[execOp,ho,Sem.run_bind,this,Result.andThen_ok];rfl
end bk
def G1 (P:Program)(e:Env)(bx:Bx)(σ:Hp):List ResultVar→List Value→Prop
 | [],vs=>vs=[]
 | .tmp t::r,vs=>∃us,vs=e t::us∧G1 P e bx σ r us
 | .cell p T::r,vs=>∃v us,vs=v::us∧(∃a,e p=.pointer (some a)∧∀w,Sat σ w→Hc bx w→(loadVar T a).run P w=.ok v w)∧G1 P e bx σ r us
def Ra:List Value→Value
 | [v]=>v
 | vs=>.tuple vs.toArray
def ix (tmps:Array Value):ResultVar→Sem Value
 | .tmp t=>pure (tmps.getD t undef)
 | .cell a t=>do loadVar t (←asAddr (tmps.getD a undef))
theorem G1.run {P:Program}{e:Env}{bx:Bx}{σ:Hp}{tmps:Array Value}{w:World}(he:∀t,tmps.getD t undef=e t)(hs:Sat σ w)(hb:Hc bx w):∀(rs:List ResultVar) (vs:List Value),G1 P e bx σ rs vs→
  (rs.mapM (ix tmps)).run P w=Result.ok vs w
 | [],vs,h=>by simp only[G1]at h;subst h;simp
 | .tmp t::r,vs,h=>by
  obtain⟨us,rfl,h⟩:=h;have h1:(ix tmps (.tmp t)).run P w=.ok (e t) w:=by simp only[ix,Sem.run_pure,he]
  simp only[AZk,Sem.run_bind,Sem.run_pure,Result.andThen_ok,G1.run he hs hb r us h,h1]
 | .cell p T::r,vs,h=>by
  obtain⟨v,us,rfl,⟨a,ha,hl⟩,h⟩:=h;have h2:(ix tmps (.cell p T)).run P w=.ok v w:=by
   have h1:tmps.getD p undef=.pointer (some a):=(he p).trans ha;simp only[ix,Sem.run_bind,Sem.run_pure,Result.andThen_ok,h1,asAddr,hl w hs hb]
  simp only[AZk,Sem.run_bind,Sem.run_pure,Result.andThen_ok,G1.run he hs hb r us h,h2]
theorem G1.results {P:Program}{e:Env}{bx:Bx}{σ:Hp}{fn:Func}{rs:List ResultVar}{vs:List Value}(hr:fn.results=rs.toArray)(h:G1 P e bx σ rs vs)(a:Act)(w:World)
  (he:∀t,a.tmps.getD t undef=e t) (hs:Sat σ w) (hb:Hc bx w):(results fn a.tmps).run P w=.ok (Ra vs) w:=by
 have h1:=G1.run he hs hb _ _ h;have h2:Go.results fn a.tmps=(do let vs ←fn.results.mapM (ix a.tmps);pure (if h:vs.size=1 then vs[0] else .tuple vs)):=rfl;rw[h2,hr];simp only[List.mapM_toArray,Sem.run_bind,Sem.run_map,h1,Result.andThen_ok];cases vs with
 | nil=>rfl
 | cons v vs=>cases vs<;>rfl
theorem tU {P:Program}{bx:Bx}{σ:Hp}{T:TypeId}{b o:Nat}{c:Array Value}{t:TypeId}{fr:Nat×Nat}{v:Value}(hA:∀w,(isAgg T).run P w=.ok false w)(hb:(b,Obj.cells c t fr)∈bx)(h:c[o]?=some v):
  ∀w,Sat σ w→Hc bx w→(loadVar T ⟨b,o,none⟩).run P w=.ok v w:=fun w _ hs=>by
 simp[loadVar,hA,load,Sem.run,hs.cell hb,h]
theorem lj {P:Program}{bx:Bx}{σ:Hp}{T:TypeId}{b n:Nat}{c:Array Value}{t:TypeId}{fr:Nat×Nat}(hA:∀w,(isAgg T).run P w=.ok true w)(hs:∀w,((Go.sizeOf T).run P w)=.ok n w)(hn:c.size=n)(hb:(b,Obj.cells c t fr)∈bx):
  ∀w,Sat σ w→Hc bx w→(loadVar T ⟨b,0,none⟩).run P w=.ok (.agg c) w:=fun w _ lg=>by
 subst hn;have:=run_loadCells_list (P:=P) (w:=w) ⟨b,0,none⟩ c.toList (fun j v hj=>by
  rw[show(⟨b,0,none⟩:Addr).add j=⟨b,0+j,none⟩ from Bl _ _ _,lg.cell hb];simpa using hj)
 simp at this;simp[loadVar,hA,hs,this]
theorem CD {P:Program}{bx:Bx}{σ:Hp}{T:TypeId}{a:Addr}{v:Value}(hA:∀w,(isAgg T).run P w=.ok false w)(h:σ.ld a=some v):∀w,Sat σ w→Hc bx w→(loadVar T a).run P w=.ok v w:=fun w hs _=>by
 simp[loadVar,hA,load,Sem.run,hs.ld h]
section ends
variable {g:Gl}{k:List Item}{e:Env}{bx:Bx}{σ:Hp}
theorem At.Uj {c:Code}{fn:Func}{rs:List ResultVar}{vs:List Value}(hc:c=Code.ret)(hf:g.P.funcs[g.f]?=some fn)(hr:fn.results=rs.toArray)(h:G1 g.P e bx (left g.ds σ) rs vs)(hR:g.R (.returned (Ra vs)) (left g.ds σ))
  (N7:g.GK=none:=by rfl) (hm:Marks g.ds σ:=by trivial):At g (.code c::k) e bx σ:=
 At.ret hc hf (fun a w he hs hb=>h.results hr a w he hs hb) hR N7 hm
theorem At.Xo {fn:Func}{rs:List ResultVar}{vs:List Value}(hf:g.P.funcs[g.f]?=some fn)(hr:fn.results=rs.toArray)(h:G1 g.P e bx (left g.ds σ) rs vs)(hR:g.R (.returned (Ra vs)) (left g.ds σ))
  (N7:g.GK=none:=by rfl) (hm:Marks g.ds σ:=by trivial):At g [] e bx σ:=
 At.done hf (fun a w he hs hb=>h.results hr a w he hs hb) hR N7 hm
end ends
end Tw
end
section
namespace Tw
open Go
variable [Ei]
def cl:Code→Code
 | .seq a _=>a | .cond _ a _=>a | .block _ a=>a | .loop a=>a | .scope a=>a | .rangeFunc _ _ a _=>a | c=>c
def cr:Code→Code
 | .seq _ b=>b | .cond _ _ b=>b | .rangeFunc _ _ _ b=>b | c=>c
def cO:Code→Array Oper
 | .region _ ops _=>ops | _=>#[]
def EK (P:Program)(t:TypeId)(f:Nat):Field:=
 match P.underlying t with
 | some (.struct fs)=>fs.getD f default
 | _=>default
theorem nt {b:Bool}(h:(!b)=true):b=false:=by simpa using h
theorem nf {b:Bool}(h:(!b)=false):b=true:=by simpa using h
def Ext (σ σ':Hp):Prop:=∀b o,σ b=some o→σ' b=some o
theorem Ext.refl (σ:Hp):Ext σ σ:=fun _ _ h=>h
theorem Ext.trans {σ σ' AEQ:Hp}(h:Ext σ σ')(h':Ext σ' AEQ):Ext σ AEQ:=fun b o hb=>h' b o (h b o hb)
theorem Ext.set {σ:Hp}{b:Nat}{o:Obj}(h:σ b=none):Ext σ (σ.set b o):=fun c o' hc=>by
 have:c≠b:=fun e=>by rw[e,h]at hc;cases hc
 rw[Hp.AF this];exact hc
theorem Ext.ld {σ σ':Hp}(h:Ext σ σ'){a:Addr}{v:Value}(hl:σ.ld a=some v):σ'.ld a=some v:=by
 unfold Hp.ld at *;cases hb:σ a.block with
 | none=>simp[hb]at hl
 | some o=>rw[h _ _ hb];rw[hb]at hl;exact hl
theorem At.ofL {g:Gl}{k:List Item}{e:Env}{bx:Bx}{σ:Hp}{l:List (Nat×Value)}(hl:Live e l)(h:∀J,At g k (Hd J l) bx σ):At g k e bx σ:=At.live hl (h e)
def Kp (L:List Nat)(σ σ':Hp):Prop:=∀b∈L,∀o,σ b=some o→σ' b=some o
theorem Kp.HI {L:List Nat}{σ σ':Hp}(h:Ext σ σ'):Kp L σ σ':=fun b _ o hb=>h b o hb
theorem Kp.nil {σ σ':Hp}:Kp [] σ σ':=fun b hb=>by cases hb
theorem Uk {L:List (Nat×List Nat)}{σ σ':Hp}(h:Kp (L.map Prod.fst) σ σ'):∀x∈L,∀o,σ x.1=some o→σ' x.1=some o:=fun x hx o ho=>h x.1 (AXB.2 ⟨x,hx,rfl⟩) o ho
theorem C3 {b o:Nat}{s:Option Nat}{L:List (Nat×List Nat)}{Ds:List (List Nat)}{σ:Hp}{v:Value}(h:σ.ld ⟨b,o,s⟩=some v):(MR (some L) (some (b,Ds)) σ).ld ⟨b,o,s⟩=some v:=by
 unfold Hp.ld at *;simpa[MR] using h
theorem Spec.cont {P:Program}{f:FuncId}{args:Array Value}{σ:Hp}{R:Rr}{Φ Ψ:Value→Hp→Prop}(h:Spec P f args σ (Ap R Φ))(hh:∀v σ',Φ v σ'→Ψ v σ'):
  Spec P f args σ (Ap R Ψ):=h.mono fun e σ' he=>by
 cases e with
 | returned v=>exact hh v σ' he
 | panicked ch=>exact he
 | outgrown=>exact he
def YF (P:Program)(m:Sem Value)(σ:Hp)(v:Value):Prop:=∀w,Sat σ w→m.run P w=.ok v w
theorem Yd.any {P:Program}{e:Env}{bx:Bx}{σ:Hp}{op:Op}{ty:TypeId}{v:Value}{m:Sem Value}(hm:∀o:Oper,o.op=op→o.type=ty→execOp (AB e) o=(do pure (Next.value (←m))))(hy:YF P m σ v):Yd P e bx σ op ty v:=
 Yd.of m hm (fun w hs _=>hy w hs)
def Fe (p:Option Addr)(l c s:Nat):Option Addr:=if c=l then p else p.map (·.add (l*s))
section
variable {P:Program}{e:Env}{bx:Bx}{σ:Hp}{ty T E:TypeId}{x y z:Operand}{k k':IntKind}{l h:Int}{p:Option Addr}{n c s:Nat}
theorem G2 (hT:P.underlying T=some (.slice E)):P.elem T=E:=by simp[Program.elem,hT]
theorem Y.sla (hT:P.underlying T=some (.slice E))(hs:∀w,((Go.sizeOf E).run P w)=.ok s w)(hx:AB e x=.slice p n c)(_:True):Yd P e bx σ (.slice T x none none none) ty (.slice p n c):=fun oo ho _ w _ _=>by
 have bo:P.underlying T=some (.slice (P.elem T)):=by rw[G2 hT];exact hT
 have h1:=run_sliceAt_slice (P:=P) (w:=w) T (.slice p n c) none none none bo;have h2:=run_slice_all (P:=P) (w:=w) T p n c bo;simp[execOp,ho,hx,h1,h2,hs,G2 hT,sliced];cases p<;>simp[Addr.add]
theorem Y.slh (hT:P.underlying T=some (.slice E))(hs:∀w,((Go.sizeOf E).run P w)=.ok s w)(hx:AB e x=.slice p n c)(hz:AB e z=.int k h)(hh:0≤h∧h≤c):Yd P e bx σ (.slice T x none (some z) none) ty (.slice p h.toNat c):=fun oo ho _ w _ _=>by
 have bo:P.underlying T=some (.slice (P.elem T)):=by rw[G2 hT];exact hT
 have h1:=run_sliceAt_slice (P:=P) (w:=w) T (.slice p n c) none (some (.int k h)) none bo;have h2:=run_slice_h (P:=P) (w:=w) T p n c bo k h hh.1 hh.2;simp[execOp,ho,hx,hz,h1,h2,hs,G2 hT,sliced];cases p<;>simp[Addr.add]
theorem Y.sll (hT:P.underlying T=some (.slice E))(hs:∀w,((Go.sizeOf E).run P w)=.ok s w)(hx:AB e x=.slice p n c)(hy:AB e y=.int k l)(hh:0≤l∧l≤n):Yd P e bx σ (.slice T x (some y) none none) ty (.slice (Fe p l.toNat c s) (n-l.toNat) (c-l.toNat)):=fun oo ho _ w _ _=>by
 have bo:P.underlying T=some (.slice (P.elem T)):=by rw[G2 hT];exact hT
 have h1:=run_sliceAt_slice (P:=P) (w:=w) T (.slice p n c) (some (.int k l)) none none bo;have h2:=run_slice_l (P:=P) (w:=w) T p n c bo k l hh.1 hh.2;simp[execOp,ho,hx,hy,h1,h2,hs,G2 hT,sliced,Fe]
theorem Y.AER (hT:P.underlying T=some (.slice E))(hs:∀w,((Go.sizeOf E).run P w)=.ok s w)(hx:AB e x=.slice p n c)(hy:AB e y=.int k l)(hz:AB e z=.int k' h)(hh:0≤l∧l≤h∧h≤c):
  Yd P e bx σ (.slice T x (some y) (some z) none) ty (.slice (Fe p l.toNat c s) (h.toNat-l.toNat) (c-l.toNat)):=fun oo ho _ w _ _=>by
 have bo:P.underlying T=some (.slice (P.elem T)):=by rw[G2 hT];exact hT
 have h1:=run_sliceAt_slice (P:=P) (w:=w) T (.slice p n c) (some (.int k l)) (some (.int k' h)) none bo;have h2:=run_slice_lh (P:=P) (w:=w) T p n c bo k k' l h hh.1 hh.2.1 hh.2.2;simp[execOp,ho,hx,hy,hz,h1,h2,hs,G2 hT,sliced,Fe]
theorem Xp (p:Option Addr)(c s:Nat):Fe p 0 c s=p:=by unfold Fe;cases p<;>simp[Addr.add]
theorem Y.AES (hT:P.underlying T=some (.slice E))(hs:∀w,((Go.sizeOf E).run P w)=.ok s w)(hx:AB e x=.slice p n c)(hy:AB e y=.int k 0)(hz:AB e z=.int k' h)(hh:(0:Int)≤0∧0≤h∧h≤c):
  Yd P e bx σ (.slice T x (some y) (some z) none) ty (.slice p h.toNat c):=by
 have:=Y.AER (P:=P) (bx:=bx) (σ:=σ) (ty:=ty) hT hs hx hy hz hh;simpa[Xp] using this
theorem Y.AMJ (hT:P.underlying T=some (.slice E))(hs:∀w,((Go.sizeOf E).run P w)=.ok s w)(hx:AB e x=.slice p n c)(hy:AB e y=.int k 0)(hh:(0:Int)≤0∧(0:Int)≤n):
  Yd P e bx σ (.slice T x (some y) none none) ty (.slice p n c):=by
 have:=Y.sll (P:=P) (bx:=bx) (σ:=σ) (ty:=ty) hT hs hx hy hh;simpa[Xp] using this
theorem Y.AMK {a b:Bool}(hT:P.underlying T=some .bool)(hx:AB e x=.bool a)(hy:AB e y=.bool b){T':TypeId}:Yd P e bx σ (.binOp .eql T x y T') ty (.bool (a==b)):=fun oo ho _ w _ _=>by
 simp[execOp,ho,hx,hy,eqGuard_at_bool,run_eql_bool w T a b hT]
theorem Y.AML {a b:Bool}(hT:P.underlying T=some .bool)(hx:AB e x=.bool a)(hy:AB e y=.bool b){T':TypeId}:Yd P e bx σ (.binOp .neq T x y T') ty (.bool (!(a==b))):=fun oo ho _ w _ _=>by
 simp[execOp,ho,hx,hy,eqGuard_at_bool,run_neq_bool w T a b hT]
theorem Y.AMM {a b:ByteArray}(hT:P.underlying T=some .string)(hx:AB e x=.string a)(hy:AB e y=.string b){T':TypeId}:Yd P e bx σ (.binOp .eql T x y T') ty (.bool (a.toList==b.toList)):=fun oo ho _ w _ _=>by
 have _:=hT;have h1:(binOp .eql T (.string a) (.string b)).run P w=.ok (.bool (a.toList==b.toList)) w:=by simp[binOp,Op.stringOp]
 simp[execOp,ho,hx,hy,eqGuard_at_string,h1]
theorem Y.AMN {a b:ByteArray}(hT:P.underlying T=some .string)(hx:AB e x=.string a)(hy:AB e y=.string b){T':TypeId}:Yd P e bx σ (.binOp .neq T x y T') ty (.bool (!(a.toList==b.toList))):=fun oo ho _ w _ _=>by
 have _:=hT;have h1:(binOp .neq T (.string a) (.string b)).run P w=.ok (.bool (!(a.toList==b.toList))) w:=by simp[binOp,Op.stringOp]
 simp[execOp,ho,hx,hy,eqGuard_at_string,h1]
theorem Y.ll {q:Option Addr}{E:TypeId}(hT:P.underlying T=some (.pointer E))(hx:AB e x=.pointer q)(hy:AB e y=.pointer none){T':TypeId}:Yd P e bx σ (.binOp .eql T x y T') ty (.bool q.isNone):=fun oo ho _ w _ _=>by
 have bo:P.underlying T=some (.pointer (P.pointee T)):=by rw[show P.pointee T=E by simp[Program.pointee,hT]];exact hT
 have h1:=run_eql_pointer_nil w T q bo;simp[execOp,ho,hx,hy,eqGuard_at_pointer,h1]
theorem Y.lq {q:Option Addr}{E:TypeId}(hT:P.underlying T=some (.pointer E))(hx:AB e x=.pointer q)(hy:AB e y=.pointer none){T':TypeId}:Yd P e bx σ (.binOp .neq T x y T') ty (.bool q.isSome):=fun oo ho _ w _ _=>by
 have bo:P.underlying T=some (.pointer (P.pointee T)):=by rw[show P.pointee T=E by simp[Program.pointee,hT]];exact hT
 have h1:=run_neq_pointer_nil w T q bo;simp[execOp,ho,hx,hy,eqGuard_at_pointer,h1]
section
variable {u v:Value}{ts:Array TypeId}
theorem Cn (hx:AB e x=u)(hy:AB e y=v)(o:Oper)(ho:o.op=.call { callee:=.builtin .append,args:=#[x,y],argTypes:=ts })(ht:o.type=ty):execOp (AB e) o=(do pure (.value (←Builtin.append_ ts ty #[u,v]))):=by
 subst ht;simp[execOp,ho,resolve,invoke,builtin,hx,hy]
theorem Xq (hx:AB e x=u)(hy:AB e y=v)(o:Oper)(ho:o.op=.call { callee:=.builtin .copy,args:=#[x,y],argTypes:=ts })(ht:o.type=ty):execOp (AB e) o=(do pure (.value (←Builtin.copy_ ts ty #[u,v]))):=by
 subst ht;simp[execOp,ho,resolve,invoke,builtin,hx,hy]
theorem Ul (hx:AB e x=u)(hy:AB e y=v)(o:Oper)(ho:o.op=.call { callee:=.builtin .delete,args:=#[x,y],argTypes:=ts })(ht:o.type=ty):execOp (AB e) o=(do pure (.value (←Builtin.delete_ ts ty #[u,v]))):=by
 subst ht;simp[execOp,ho,resolve,invoke,builtin,hx,hy]
theorem WQ (hx:AB e x=u)(o:Oper)(ho:o.op=.call { callee:=.builtin .clear,args:=#[x],argTypes:=ts })(ht:o.type=ty):execOp (AB e) o=(do pure (.value (←Builtin.clear_ ts ty #[u]))):=by
 subst ht;simp[execOp,ho,resolve,invoke,builtin,hx]
end
def Program.GO (P:Program)(E:TypeId)(m:Nat)(vs:List (Nat×Value)):Option (Array Value):=
 match P.info? E with
 | some i=>match i.zero with
  | some z=>if m*i.size > 2^24 then none else Instr.fill (fun j=>some (j*i.size,i.size)) ((Array.range (m*i.size)).map (z.cells[·%z.cells.size]!)) vs
  | none=>none
 | none=>none
theorem Rb {m:Nat}{vs:List (Nat×Value)}{cs:Array Value}(hT:P.underlying T=some (.slice E))(hc:Program.GO P E m vs=some cs)(ps:Array (Nat×Value))(hp:ps.toList=vs)(w:World):
  (Instr.buildSlice T m ps).run P w=.ok (.slice (some ⟨w.heap.size,0,none⟩) m m) { w with heap:=w.heap.push (.cells cs E (0,0)) }:=by
 unfold Program.GO at hc;cases hi:P.info? E with
 | none=>simp[hi]at hc
 | some i=>
  cases hz:i.zero with
  | none=>simp[hi,hz]at hc
  | some z=>
   simp only[hi,hz]at hc;by_cases hm:m*i.size > 2^24
   ·simp[hm]at hc
   ·simp only[hm,AX9]at hc;subst hp;by_cases h0:m*i.size=0
    ·rw[h0]at hc;have:(Array.range 0).map (fun x=>z.cells[x%z.cells.size]!)=#[]:=by simp
     rw[this]at hc;have h2:Array.map (fun _=>(default:Value)) (Array.range 0)=#[]:=by simp
     simp[Instr.buildSlice,run_underlying hT,Go.sizeOf,typeInfo,hi,h0,h2,hc,newRow,newObj,Sem.run]
    ·simp[Instr.buildSlice,run_underlying hT,Go.sizeOf,typeInfo,zeroValue,hi,hz,hm,h0,hc,newRow,newObj,Sem.run]
end
theorem AI.GO {g:Gl}{ops:Array Oper}{i:Nat}{e:Env}{bx:Bx}{σ:Hp}{K:Env→Bx→Hp→Prop}{d:Option Nat}{ty T E:TypeId}{m:Nat}{ps:Array (Nat×Operand)}{vs:List (Nat×Value)}{cs:Array Value}(hT:g.P.underlying T=some (.slice E))
  {gd:Option (Nat×Bool)} (hs:sig ops i=some (d,.buildSlice T m ps,ty,gd)) (hw:AP ops e gd=true) (hd:Fc d g.n=true) (hv:ps.toList.map (fun p=>(p.1,AB e p.2))=vs) (hc:Program.GO g.P E m vs=some cs)
  (h:∀b,σ b=none→K (put e d (.slice (some ⟨b,0,none⟩) m m)) bx (σ.set b (.cells cs E (0,0)))):AI g ops i e bx σ K:=by
 intro w0 F a w st;obtain⟨o,ho,rfl,Bp,Db,hg⟩:=BB hs;refine Bk ho (by rw[st.wanted,hg];exact hw) ?_;rw[st.eval];have hh:(ps.map fun(i,x)=>(i,AB e x)).toList=vs:=by rw[←hv];simp
 have:=Rb hT hc (ps.map fun(i,x)=>(i,AB e x)) hh w;have:(execOp (AB e) o).run g.P w=.ok (.value (.slice (some ⟨w.heap.size,0,none⟩) m m)) { w with heap:=w.heap.push (.cells cs E (0,0)) }:=by
  simp only[execOp,Bp,Sem.run_bind,this,Result.andThen_ok];rfl
 rw[Ce this (fun d=>by simp)];have Ko:=st.grown (.cells cs E (0,0));exact⟨_,_,_,Ko.open.put _ _ (Fc.lt hd),h _ (Ko.free _ (AW1 ..)).1⟩
def Enters (P:Program)(f:FuncId):Prop:=∀args w,(callFunc f args).run P w=.ok (.enter f args) w
theorem AI.AET {g:Gl}{ops:Array Oper}{i:Nat}{e:Env}{bx:Bx}{σ:Hp}{K:Env→Bx→Hp→Prop}{d:Option Nat}{ty:TypeId}{gd:Option (Nat×Bool)}{x:Operand}{xs:Array Operand}{ts:Array TypeId}
  {f:FuncId} {fst cap vs:Array Value} {u:Value} (hs:sig ops i=some (d,.call { callee:=.value x,args:=xs,argTypes:=ts },ty,gd)) (hw:AP ops e gd=true) (hd:Fc d g.n=true)
  (hx:AB e x=u) (Fs:xs.toList.map (AB e)=vs.toList) (hu:u=.func (.func f) fst cap) (JG:Enters g.P f)
  (h:Spec g.P f (fst++vs++cap) σ (Ap g.R fun v σ'=>K (put e d v) bx σ')):AI g ops i e bx σ K:=
 AI.call hs hw hd (fun o ho _ w=>PH JG (hx.trans hu) Fs rfl o ho w) h
def YN (P:Program)(f:FuncId)(args:Array Value)(σ:Hp)(v:Value):Prop:=∀w,Sat σ w→(callFunc f args).run P w=.ok (.value v) w
end Tw
end
section
namespace Tw
open Go
variable [Ei]
theorem AH.pu {P:Program}{α:Type}{m:Sem α}{σ:Hp}{Φ:α→Hp→Prop}{v:α}(hm:∀w,Sat σ w→m.run P w=.ok v w)(h:Φ v σ):AH P m σ Φ:=fun w _ hs hF=>
 ⟨v,w,σ,hm w hs,h,hs,fun b hb=>⟨(hF b hb).2,rfl⟩,.same rfl rfl rfl,rfl,AWu _⟩
def Hp.del (σ:Hp)(p:Option Addr):Hp:=fun k=>match p with
 | some a=>if k=a.block then none else σ k
 | none=>σ k
def Hp.new (σ σ':Hp):Hp:=fun k=>match σ k with
 | none=>σ' k
 | some _=>none
theorem Ext.del {σ σ':Hp}(h:Ext σ σ')(p:Option Addr):Ext (σ.del p) (σ'.del p):=fun k o hk=>by
 cases p with
 | none=>exact h k o hk
 | some a=>simp only[Hp.del]at hk ⊢;split at hk<;>simp_all [h k o]
theorem Ext.JR (σ:Hp)(p:Option Addr):Ext (σ.del p) σ:=fun k o hk=>by
 cases p with
 | none=>exact hk
 | some a=>simp only[Hp.del]at hk;split at hk<;>simp_all
theorem Ext.CW (σ σ':Hp):Ext (σ.new σ') σ':=fun k o hk=>by
 simp only[Hp.new]at hk;split at hk<;>simp_all
theorem Ext.tV {σ σ':Hp}{p:Option Addr}(hp:∀a,p=some a→σ a.block≠none):Ext (σ.new σ') (σ'.del p):=fun k o hk=>by
 cases p with
 | none=>exact Ext.CW σ σ' k o hk
 | some a=>
  have h1:=hp a rfl;have h2:=Ext.CW σ σ' k o hk;simp only[Hp.del];split
  ·rename_i h;subst h;simp only[Hp.new]at hk;split at hk<;>simp_all
  ·exact h2
theorem Ext.GQ {σ σ1 σ2:Hp}(h:Ext σ1 σ2):Ext (σ.new σ1) (σ.new σ2):=fun k o hk=>by
 simp only[Hp.new]at hk ⊢;split at hk<;>simp_all [h k o]
theorem Ext.DD {σ σ1 σ2:Hp}(h:Ext σ σ1):Ext (σ1.new σ2) (σ.new σ2):=fun k o hk=>by
 simp only[Hp.new]at hk ⊢;split at hk
 ·rename_i hn;cases hs:σ k with
  | none=>exact hk
  | some o'=>rw[h k o' hs]at hn;cases hn
 ·cases hk
def Gq (s:Nat)(σ:Hp)(p:Option Addr)(n:Nat)(cs:List Value):Prop:=
 cs.length=n*s∧n≤4611686018427387904∧(n=0∨∃b o,p=some ⟨b,o,none⟩∧Av σ b o cs)
theorem Av.mono {σ σ':Hp}(h:Ext σ σ'){b:Nat}:∀{l:List Value} {o:Nat},Av σ b o l→Av σ' b o l
 | [],_,_=>trivial
 | _::_,_,hl=>⟨h.ld hl.1,Av.mono h hl.2⟩
theorem Gq.mono {s:Nat}{σ σ':Hp}(h:Ext σ σ'){p:Option Addr}{n:Nat}{cs:List Value}(hr:Gq s σ p n cs):Gq s σ' p n cs:=
 ⟨hr.1,hr.2.1,hr.2.2.imp id fun⟨b,o,hp,hl⟩=>⟨b,o,hp,hl.mono h⟩⟩
theorem Av.of {σ:Hp}{b:Nat}:∀{l:List Value} {o:Nat},(∀j v,l[j]?=some v→σ.ld ⟨b,o+j,none⟩=some v)→Av σ b o l
 | [],_,_=>trivial
 | v::l,o,h=>⟨by simpa using h 0 v rfl,Av.of fun j u hj=>by have:=h (j+1) u (by simpa using hj);rwa[show o+(j+1)=o+1+j by omega]at this⟩
theorem Av.part {σ:Hp}{b o i m:Nat}{l:List Value}(h:Av σ b o l):Av σ b (o+i) ((l.drop i).take m):=Av.of fun j v hj=>by
 have iy:l[i+j]?=some v:=by
  rw[AW4]at hj;split at hj
  ·simpa using hj
  ·cases hj
 have:=h.get iy;rwa[show o+i+j=o+(i+j) by omega]
def Ch {α:Type}(s:Nat)(E:Hp→List Value→α→Prop)(σ:Hp)(cs:List Value)(xs:List α):Prop:=
 cs.length=xs.length*s∧∀i x,xs[i]?=some x→E σ ((cs.drop (i*s)).take s) x
def Ac {α:Type}(s:Nat)(E:Hp→List Value→α→Prop)(σ:Hp)(p:Option Addr)(n:Nat)(xs:List α):Prop:=
 xs.length=n∧∃cs,Gq s σ p n cs∧Ch s E σ cs xs
def Gs {α:Type}(E:Hp→List Value→α→Prop):Prop:=∀σ σ' vs x,Ext σ σ'→E σ vs x→E σ' vs x
theorem Ch.mono {α:Type}{s:Nat}{E:Hp→List Value→α→Prop}(hE:Gs E){σ σ':Hp}(h:Ext σ σ'){cs:List Value}{xs:List α}(hc:Ch s E σ cs xs):Ch s E σ' cs xs:=
 ⟨hc.1,fun i x hx=>hE _ _ _ _ h (hc.2 i x hx)⟩
theorem Ac.mono {α:Type}{s:Nat}{E:Hp→List Value→α→Prop}(hE:Gs E){σ σ':Hp}(h:Ext σ σ'){p:Option Addr}{n:Nat}{xs:List α}(hr:Ac s E σ p n xs):Ac s E σ' p n xs:=
 let ⟨h1,cs,h2,h3⟩:=hr;⟨h1,cs,h2.mono h,h3.mono hE h⟩
theorem Ac.nil {α:Type}{s:Nat}{E:Hp→List Value→α→Prop}{σ:Hp}{p:Option Addr}:Ac s E σ p 0 []:=⟨rfl,[],⟨by simp,by omega,.inl rfl⟩,by simp[Ch]⟩
theorem Ac.idx {α:Type}{s:Nat}{E:Hp→List Value→α→Prop}{σ:Hp}{p:Option Addr}{n i:Nat}{xs:List α}{x:α}(hr:Ac s E σ p n xs)(hx:xs[i]?=some x):
  ∃b o vs,p=some ⟨b,o,none⟩∧E σ vs x∧Av σ b (o+i*s) vs:=by
 obtain⟨h1,cs,⟨hl,_,h2⟩,h3⟩:=hr;have hi:i<n:=by rw[←h1];exact(AWk.1 hx).1
 rcases h2 with h2|⟨b,o,hp,Ee⟩
 ·omega
 ·exact⟨b,o,_,hp,h3.2 i x hx,Ee.part⟩
theorem Ac.big {α:Type}{s:Nat}{E:Hp→List Value→α→Prop}{σ:Hp}{p:Option Addr}{n:Nat}{xs:List α}(hr:Ac s E σ p n xs):n≤4611686018427387904:=by
 obtain⟨_,cs,⟨_,h,_⟩,_⟩:=hr;exact h
theorem Ac.ex {α:Type}{s:Nat}{E:Hp→List Value→α→Prop}{σ:Hp}{p:Option Addr}{n k:Nat}{xs:List α}(hr:Ac s E σ p n xs)(hk:k<n):∃y,xs[k]?=some y:=
 ⟨_,AWm (by rw[hr.1];exact hk)⟩
theorem AN {k n:Nat}(h:k<n)(hn:n≤4611686018427387904):AM ((k:Int)+1):=by unfold AM;omega
theorem Ag {α:Type}{xs:List α}{k:Nat}{y:α}(hy:xs[k]?=some y):xs.take (k+1)=xs.take k++[y]:=by
 rw[List.take_add_one,hy];rfl
theorem Um {α:Type}{xs:List α}{k:Nat}{x y:α}(hy:xs[k]?=some y):x∈xs.take (k+1)↔x∈xs.take k∨x=y:=by
 rw[Ag hy,AW8,AWs]
def Qm (k:IntKind)(_:Hp)(vs:List Value)(x:Int):Prop:=vs=[.int k x]
theorem Qm.mono (k:IntKind):Gs (Qm k):=fun _ _ _ _ _ h=>h
abbrev Ev (k:IntKind):= Ac 1 (Qm k)
theorem Ev.mono {k:IntKind}{σ σ':Hp}(h:Ext σ σ'){p:Option Addr}{n:Nat}{xs:List Int}(hr:Ev k σ p n xs):Ev k σ' p n xs:=Ac.mono (Qm.mono k) h hr
theorem Ev.at {k:IntKind}{σ:Hp}{p:Option Addr}{n:Nat}{xs:List Int}(hr:Ev k σ p n xs){i:Nat}{x:Int}(hx:xs[i]?=some x):
  ∃b o,p=some ⟨b,o,none⟩∧σ.ld ⟨b,o+i*1,none⟩=some (.int k x):=by
 obtain⟨b,o,vs,hp,rfl,hl⟩:=Ac.idx hr hx;exact⟨b,o,hp,hl.1⟩
theorem bp {k:IntKind}{σ:Hp}{cs:List Value}{xs:List Int}:Ch 1 (Qm k) σ cs xs↔cs=xs.map (.int k):=by
 constructor
 ·rintro⟨h1,h2⟩
  refine AXm fun i=>?_;rw[AXM];cases hx:xs[i]? with
  | none=>
   have:=AYP.1 hx;simp only[Option.map_none];exact AYP.2 (by omega)
  | some x=>
   have:=h2 i x hx;simp only[Qm,AYJ]at this;have h3:((cs.drop i).take 1)[0]?=some (.int k x):=by rw[this];rfl
   rw[AW4]at h3;simpa using h3
 ·rintro rfl
  refine⟨by simp,fun i x hx=>?_⟩;have Am:=(AWk.1 hx).1;have hg:=(AWk.1 hx).2;simp only[Qm,AYJ];rw[AYp (by simpa using Am)];simp[hg]
def Ao (s:Nat)(σ:Hp)(p:Option Addr)(n c:Nat)(cs:List Value):Prop:=
 cs.length=n*s∧n≤4611686018427387904∧((p=none∧n=0∧c=0)∨∃b o arr T,p=some ⟨b,o,none⟩∧σ b=some (.cells arr T (0,0))∧n≤c∧o+c*s≤arr.size∧(arr.toList.drop o).take (n*s)=cs)
theorem Ao.nil {s:Nat}{σ:Hp}:Ao s σ none 0 0 []:=⟨by simp,by omega,.inl ⟨rfl,rfl,rfl⟩⟩
theorem Ao.rd {s:Nat}{σ:Hp}{p:Option Addr}{n c:Nat}{cs:List Value}(h:Ao s σ p n c cs):Gq s σ p n cs:=by
 obtain⟨h1,h0,h2⟩:=h;refine⟨h1,h0,?_⟩;rcases h2 with ⟨_,hn,_⟩|⟨b,o,arr,T,hp,hb,fT,Qo,Lu⟩
 ·exact .inl hn
 ·refine .inr ⟨b,o,hp,Av.of fun j v hj=>?_⟩;rw[←Lu,AW4]at hj;split at hj
  ·simp only[Hp.ld,hb];simpa using hj
  ·cases hj
theorem Ao.mono {s:Nat}{σ σ':Hp}(h:Ext σ σ'){p:Option Addr}{n c:Nat}{cs:List Value}(ho:Ao s σ p n c cs):Ao s σ' p n c cs:=
 ⟨ho.1,ho.2.1,ho.2.2.imp id fun⟨b,o,arr,T,hp,hb,r⟩=>⟨b,o,arr,T,hp,h _ _ hb,r⟩⟩
theorem Ao.block {s:Nat}{σ:Hp}{p:Option Addr}{n c:Nat}{cs:List Value}(ho:Ao s σ p n c cs):∀a,p=some a→σ a.block≠none:=by
 intro a ha;rcases ho.2.2 with ⟨hp,_⟩|⟨b,o,arr,T,hp,hb,_⟩
 ·rw[hp]at ha;cases ha
 ·rw[hp]at ha;cases ha;rw[hb];simp
theorem Ao.take {s:Nat}{σ:Hp}{p:Option Addr}{n c m:Nat}{cs:List Value}(ho:Ao s σ p n c cs)(hm:m≤n):Ao s σ p m c (cs.take (m*s)):=by
 obtain⟨h1,h0,h2⟩:=ho;have hle:m*s≤n*s:=AXR s hm;refine⟨by rw[AW0,h1];omega,by omega,?_⟩;rcases h2 with ⟨hp,hn,hc⟩|⟨b,o,arr,T,hp,hb,fT,Qo,Lu⟩
 ·exact .inl ⟨hp,by omega,hc⟩
 ·exact .inr ⟨b,o,arr,T,hp,hb,by omega,Qo,by rw[←Lu,AZl,AZE hle]⟩
class I3 (P:Program)(T:TypeId)(E:outParam TypeId)(s bs:outParam Nat):Prop where
 fU:P.underlying T=some (.slice E)
 info:∃i z,P.info? E=some i∧i.zero=some z∧i.size=s∧i.bytes=bs∧z.cells.size=s
 pos:0<s
 AMO:0<bs
def Ey (cs:List Value):Prop:=∀u∈cs,u.oneCell'=true
theorem Ey.Q9 {k:IntKind}{xs:List Int}:Ey (xs.map (.int k)):=fun u hu=>by
 obtain⟨x,_,rfl⟩:=AXB.1 hu;rfl
section append
variable {P:Program}{T E ty:TypeId}{s bs:Nat}{σ:Hp}{p q:Option Addr}{n c m d:Nat}{cs ys:List Value}{Φ:Value→Hp→Prop}
theorem VD {w:World}(hs:Sat σ w){b o:Nat}(h:Av σ b o ys):∀j v,ys[j]?=some v→w.cell? ((⟨b,o,none⟩:Addr).add j)=some v:=fun j v hj=>by
 rw[Bl];exact hs.ld (h.get hj)
theorem Kr (w:World)(hs:Sat σ w)(hr:Gq s σ q m ys):(Builtin.firstCells s m (.slice q m d)).run P w=.ok ys.toArray w:=by
 rcases hr.2.2 with hm|⟨b,o,rfl,hl⟩
 ·subst hm;have:ys=[]:=AXo (by simpa using hr.1);subst this;cases q<;>simp[Builtin.firstCells,loadCells,loadCellsFrom]
 ·exact run_firstCells_some (P:=P) w s m ⟨b,o,none⟩ m d ys hr.1 (VD hs hl)
theorem FI {w:World}(hs:Sat σ w):σ w.heap.size=none:=by
 cases h:σ w.heap.size with
 | none=>rfl
 | some o=>exact absurd (AW3.1 (hs _ _ h)).1 (Nat.lt_irrefl _)
theorem Fin.alloc {F:Nat→Prop}{w:World}{o:Obj}(hs:Sat σ w)(hF:∀b,F b→b<w.heap.size∧σ b=none)(w':World)(hw:w'.heap=w.heap.push o)(h1:Dj w w')(h2:w'.output=w.output):Fin (σ.set w.heap.size o) F w w':=by
 refine⟨fun k u hk=>?_,fun b hb=>?_,h1,h2,by rw[hw];simp⟩
 ·rw[hw];by_cases h:k=w.heap.size
  ·subst h;rw[Hp.AA]at hk;cases hk;simp
  ·rw[Hp.AF h]at hk;have:=hs k u hk;have Am:=(AW3.1 this).1;rw[AYm,AWj h];exact this
 ·have:=(hF b hb).1;refine⟨by rw[Hp.AF (by omega)];exact(hF b hb).2,?_⟩;rw[hw,AYm,AWj (by omega)]
theorem Hp.M5 {b:Nat}{o:Obj}{a:Nat}{sp:Option Nat}(h:σ b=none):(σ.set b o).del (some ⟨b,a,sp⟩)=σ:=by
 funext k
 simp only[Hp.del,Hp.set];by_cases hk:k=b
 ·subst hk;simp[h]
 ·simp[hk]
theorem Hp.IM {b:Nat}{o:Obj}{a:Nat}{sp:Option Nat}:(σ.set b o).del (some ⟨b,a,sp⟩)=σ.del (some ⟨b,a,sp⟩):=by
 funext k
 simp only[Hp.del,Hp.set];by_cases hk:k=b<;>simp[hk]
theorem lr [h:I3 P T E s bs](BS:Ao s σ p n c cs)(hy:Gq s σ q m ys)(h1:Ey ys)(hb:(n+m)*bs≤140737488355328)
  (hΦ:∀p' c' σ',Ao s σ' p' (n+m) c' (cs++ys)→Ext (σ.del p) (σ'.del p')→((p'=p∧c'=c∧n+m≤c)∨(c<n+m∧Ext σ σ'∧∀a,p'=some a→σ a.block=none))→Φ (.slice p' (n+m) c') σ') :
  AH P (Builtin.append_ #[T,T] ty #[.slice p n c,.slice q m d]) σ Φ:=by
 obtain⟨ht,⟨i,z,hi,hz,rfl,rfl,hzs⟩,Rc,lu⟩:=h;have h62:n+m≤140737488355328:=AXD (AY1 _ lu) hb;intro w F hs hF;have hf:=Kr (P:=P) (d:=d) w hs hy;have hf':=fun w' (hw:Sat σ w')=>Kr (P:=P) (d:=d) w' hw hy;have Qp:=fun w' (hw:Sat σ w')=>Kr (P:=P) (d:=c) w' hw BS.rd;have hlen:(cs++ys).length=(n+m)*i.size:=by rw[AWz,BS.1,hy.1,AXs]
 by_cases G3:n+m≤c
 ·
  rcases BS.2.2 with ⟨hp,hn,hc⟩|⟨b,o,arr,T',rfl,hblk,fT,Qo,Lu⟩
  ·subst hp hn hc;have hm:m=0:=by omega
   subst hm;have se:ys=[]:=AXo (by simpa using hy.1);have Lu:cs=[]:=AXo (by simpa using BS.1);subst se Lu;refine⟨.slice none 0 0,w,σ,?_,hΦ none 0 σ Ao.nil (Ext.refl _) (.inl ⟨rfl,rfl,G3⟩),hs,fun b hb=>⟨(hF b hb).2,rfl⟩,.same rfl rfl rfl,rfl,AWu _⟩;simp[Builtin.append_,run_underlying ht,Go.sizeOf,typeInfo,hi,Builtin.lenOf,hf]
  ·have hw:=hs _ _ hblk;have zd:o+n*i.size+0+ys.length≤arr.size:=by
    rw[hy.1];have:(n+m)*i.size≤c*i.size:=AXR _ G3;rw[AXs]at this;omega
   have IH:=EJ (P:=P) b (o+n*i.size) T' ys 0 arr w hw zd h1;simp only[AX1]at IH;refine⟨.slice (some ⟨b,o,none⟩) (n+m) c,w.setRow b (Lt arr (o+n*i.size) ys),σ.set b (.cells (Lt arr (o+n*i.size) ys) T' (0,0)),?_,hΦ _ _ _ ⟨hlen,by omega,.inr ⟨b,o,_,T',rfl,Hp.AA _ _ _,G3,by rw[Hf];exact Qo,?_⟩⟩ (by rw[Hp.IM];exact Ext.refl _) (.inl ⟨rfl,rfl,G3⟩),?_⟩
   ·simp[Builtin.append_,run_underlying ht,Go.sizeOf,typeInfo,hi,Builtin.lenOf,G3,hf,Bl,IH]
   ·refine AXm fun j=>?_;rw[AW4];simp only[AXQ,AXh];rw[Q8 _ _ _ _ (by omega),AXt];have e1:cs.length=n*i.size:=BS.1;have e2:ys.length=m*i.size:=hy.1;have e3:(n+m)*i.size=n*i.size+m*i.size:=AXs ..;by_cases lv:j<cs.length
    ·rw[AWl (by omega),AWj (by omega),AWl lv,←Lu,AW4,AWl (by omega)];simp
    ·rw[AWj lv];by_cases hj2:j<(n+m)*i.size
     ·rw[AWl hj2,AWl (by omega),show o+j-(o+n*i.size)=j-cs.length by omega]
     ·rw[AWj hj2,AX6 (by omega)]
   ·refine⟨fun k u hk=>?_,fun k hk=>?_,.same rfl rfl rfl,rfl,by simp⟩
    ·by_cases Gn:k=b
     ·subst Gn;rw[Hp.AA]at hk;cases hk;exact setRow_heap w k arr _ T' (0,0) hw
     ·rw[Hp.AF Gn]at hk;rw[setRow_other _ _ _ _ Gn];exact hs k u hk
    ·have Gn:k≠b:=fun h=>by have:=(hF k hk).2;rw[h,hblk]at this;cases this
     exact⟨by rw[Hp.AF Gn];exact(hF k hk).2,setRow_other _ _ _ _ Gn⟩
 ·
  have AEW:Builtin.nextslicecap (n+m) c*i.bytes≤281474976710656:=growslice_fits (by omega) hb;have hgc:=grownCap_ge w (n+m) c E;have Re:Sat σ w.drew:=hs;have BC:(Builtin.append_ #[T,T] ty #[.slice p n c,.slice q m d]).run P w =
    .ok (.slice (some ⟨w.heap.size,0,none⟩) (n+m) (grownCap w (n+m) c E))
     (w.drew.alloc (.cells (cs.toArray++ys.toArray++Builtin.zeroCells z.cells (grownCap w (n+m) c E-(n+m))) E)):=by
   have ze:¬(9223372036854775807<((n:Int)+(m:Int))):=by omega
   have zf:¬(281474976710656<Builtin.nextslicecap (n+m) c*i.bytes):=by omega
   simp[Builtin.append_,run_underlying ht,Go.sizeOf,typeInfo,zeroValue,hi,hz,Builtin.lenOf,G3,ze,zf,Question.forced,hf' _ Re,Qp _ Re,newRow,grownCap]
   congr 2
   apply AZq
   simp[AXf]
  refine⟨_,_,σ.set w.heap.size _,BC,hΦ _ _ _ ⟨hlen,by omega,.inr ⟨w.heap.size,0,_,E,rfl,Hp.AA _ _ _,hgc,?_,?_⟩⟩ ?_ (.inr ⟨by omega,Ext.set (FI hs),fun a ha=>by cases ha;exact FI hs⟩),Fin.alloc hs hF _ rfl ⟨rfl,rfl,fun _=>⟨1,rfl⟩⟩ rfl⟩
  ·simp only[AZX,AZY,size_zeroCells,hzs,BS.1,hy.1,←AXs];have:n+m+(grownCap w (n+m) c E-(n+m))=grownCap w (n+m) c E:=by omega
   rw[this];omega
  ·simp only[AZM,AZN];rw[←hlen];exact AZm
  ·rw[Hp.M5 (FI hs)];exact Ext.JR σ p
theorem CE [h:I3 P T E s bs](BS:Ao s σ p n c cs)(hy:Gq s σ q m ys)(h1:Ey ys)(hb:(n+m)*bs≤140737488355328)
  (hΦ:∀p' c' σ',Ao s σ' p' (n+m) c' (cs++ys)→Ext (σ.del p) (σ'.del p')→Φ (.slice p' (n+m) c') σ') :
  AH P (Builtin.append_ #[T,T] ty #[.slice p n c,.slice q m d]) σ Φ:=
 lr BS hy h1 hb fun p' c' σ' h1 h2 _=>hΦ p' c' σ' h1 h2
end append
end Tw
end
section
namespace Tw
open Go
variable [Ei]
theorem Gq.of_map {k:IntKind}{σ:Hp}{p:Option Addr}{n:Nat}{xs:List Int}(hr:Ev k σ p n xs):Gq 1 σ p n (xs.map (.int k)):=by
 obtain⟨_,cs,h1,h2⟩:=hr;rwa[bp.1 h2]at h1
theorem Ev.lz {k:IntKind}{σ:Hp}{p:Option Addr}{n:Nat}{xs:List Int}(h:Gq 1 σ p n (xs.map (.int k))):Ev k σ p n xs:=
 ⟨by have:=h.1;simpa using this,_,h,bp.2 rfl⟩
abbrev DT (k:IntKind)(σ:Hp)(p:Option Addr)(n c:Nat)(xs:List Int):Prop:=Ao 1 σ p n c (xs.map (.int k))
theorem DT.rd {k:IntKind}{σ:Hp}{p:Option Addr}{n c:Nat}{xs:List Int}(h:DT k σ p n c xs):Ev k σ p n xs:=.lz (Ao.rd h)
theorem Ao.empty {s b T:Nat}{σ:Hp}:Ao s (σ.set b (.cells #[] T (0,0))) (some ⟨b,0,none⟩) 0 0 []:=
 ⟨by simp,by omega,.inr ⟨b,0,#[],T,rfl,Hp.AA _ _ _,AWu _,by simp,by simp⟩⟩
theorem Ao.PI {s:Nat}{σ σ':Hp}{p:Option Addr}{n c:Nat}{cs:List Value}(h:Ao s σ' p n c cs)(hp:∀a,p=some a→σ a.block=none):Ao s (σ.new σ') p n c cs:=by
 refine⟨h.1,h.2.1,h.2.2.imp id ?_⟩
 rintro⟨b,o,arr,T,hpe,hb,r⟩
 refine⟨b,o,arr,T,hpe,?_,r⟩;simp only[Hp.new];rw[hp _ hpe];exact hb
theorem Ez {σ σ1 σ':Hp}{p p':Option Addr}(h:∀a,p=some a→σ a.block=none)(hx:Ext (σ1.del p) (σ'.del p'))(hσ:Ext σ σ1):∀a,p'=some a→σ a.block=none:=by
 intro a ha;cases hb:σ a.block with
 | none=>rfl
 | some o=>
  have h1:=hσ _ _ hb;have h2:(σ1.del p) a.block=some o:=by
   cases p with
   | none=>exact h1
   | some u=>
    simp only[Hp.del];split
    ·rename_i he;have:=h u rfl;rw[←he,hb]at this;cases this
    ·exact h1
  have h3:=hx _ _ h2;rw[ha]at h3;simp[Hp.del]at h3
theorem IN {σ σ1 σ':Hp}{p p':Option Addr}(h:∀a,p=some a→σ a.block=none)(hx:Ext (σ1.del p) (σ'.del p'))(hσ:Ext σ σ1):Ext σ σ':=by
 intro b o hb;have h2:(σ1.del p) b=some o:=by
  cases p with
  | none=>exact hσ _ _ hb
  | some u=>
   simp only[Hp.del];split
   ·rename_i he;have:=h u rfl;rw[←he,hb]at this;cases this
   ·exact hσ _ _ hb
 exact Ext.JR _ _ _ _ (hx _ _ h2)
theorem AQ {σ σ':Hp}{k:Nat}{o:Obj}:σ.new σ' k=some o↔σ k=none∧σ' k=some o:=by
 simp only[Hp.new];cases σ k<;>simp
theorem AR {σ:Hp}{p:Option Addr}{k:Nat}{o:Obj}:σ.del p k=some o↔(∀a,p=some a→k≠a.block)∧σ k=some o:=by
 cases p with
 | none=>simp[Hp.del]
 | some a=>
  simp only[Hp.del];split
  ·rename_i h;simp[h]
  ·rename_i h;simp[h]
theorem Ao.l4 {s:Nat}{σ σ':Hp}{p:Option Addr}{n c:Nat}{cs:List Value}(h:Ao s (σ.new σ') p n c cs):∀a,p=some a→σ a.block=none:=by
 intro a ha;have:=h.block a ha;cases hb:(σ.new σ') a.block with
 | none=>exact absurd hb this
 | some o=>exact(AQ.1 hb).1
section append
variable {P:Program}{T Et ty:TypeId}{s bs:Nat}{σ0 σ:Hp}{p q:Option Addr}{n c m d:Nat}{cs ys:List Value}{Φ:Value→Hp→Prop}
theorem tW [I3 P T Et s bs](h0:Ext σ0 σ)(BS:Ao s (σ0.new σ) p n c cs)(hy:Gq s σ q m ys)(h1:Ey ys)(hb:(n+m)*bs≤140737488355328)
  (hΦ:∀p' c' σ',Ao s (σ0.new σ') p' (n+m) c' (cs++ys)→Ext σ0 σ'→Ext ((σ0.new σ).del p) ((σ0.new σ').del p')→Φ (.slice p' (n+m) c') σ') :
  AH P (Builtin.append_ #[T,T] ty #[.slice p n c,.slice q m d]) σ Φ:=by
 have zh:=BS.l4;refine CE (BS.mono (Ext.CW σ0 σ)) hy h1 hb fun p' c' σ' ho hx=>?_;refine hΦ p' c' σ' (ho.PI (Ez zh hx h0)) (IN zh hx h0) fun k o hk=>?_;obtain⟨h2,h3⟩:=AR.1 hk;obtain⟨h4,h5⟩:=AQ.1 h3;obtain⟨h6,h7⟩:=AR.1 (hx k o (AR.2 ⟨h2,h5⟩));exact AR.2 ⟨h6,AQ.2 ⟨h4,h7⟩⟩
theorem fV [I3 P T Et s bs](h0:Ext σ0 σ)(BS:Ao s (σ0.new σ) p n c cs)(hl:ys.length=m*s)(h1:Ey ys)(hb:(n+m)*bs≤140737488355328)
  (hΦ:∀p' c' σ',Ao s (σ0.new σ') p' (n+m) c' (cs++ys)→Ext σ0 σ'→Ext ((σ0.new σ).del p) ((σ0.new σ').del p')→Φ (.slice p' (n+m) c') σ')
  {b:Nat} (hn:σ b=none):AH P (Builtin.append_ #[T,T] ty #[.slice p n c,.slice (some ⟨b,0,none⟩) m m]) (σ.set b (.cells ys.toArray Et (0,0))) Φ:=by
 have hx:Ext σ (σ.set b (.cells ys.toArray Et (0,0))):=.set hn;have hm:m≤140737488355328:=by
  have zi:=(inferInstance:I3 P T Et s bs).AMO;have:n+m≤(n+m)*bs:=AY1 _ zi;omega
 refine tW (h0.trans hx) (BS.mono (Ext.GQ hx)) ⟨hl,by omega,.inr ⟨b,0,rfl,Av.of fun j v hj=>?_⟩⟩ h1 hb fun p' c' σ' ho he hd=>hΦ p' c' σ' ho he (fun k o hk=>hd k o ((Ext.GQ hx).del p k o hk));simp[Hp.ld,Hp.AA,hj]
end append
def Ej {α:Type}(s:Nat)(E:Hp→List Value→α→Prop)(σ:Hp)(p:Option Addr)(n c:Nat)(xs:List α):Prop:=
 xs.length=n∧∃cs,Ao s σ p n c cs∧Ch s E (σ.del p) cs xs
theorem Ej.nil {α:Type}{s:Nat}{E:Hp→List Value→α→Prop}{σ:Hp}:Ej s E σ none 0 0 []:=⟨rfl,[],.nil,by simp[Ch]⟩
theorem Ej.mono {α:Type}{s:Nat}{E:Hp→List Value→α→Prop}(hE:Gs E){σ σ':Hp}(h:Ext σ σ'){p:Option Addr}{n c:Nat}{xs:List α}(ho:Ej s E σ p n c xs):Ej s E σ' p n c xs:=
 let ⟨h1,cs,h2,h3⟩:=ho;⟨h1,cs,h2.mono h,h3.mono hE (h.del p)⟩
theorem Ej.rd {α:Type}{s:Nat}{E:Hp→List Value→α→Prop}(hE:Gs E){σ:Hp}{p:Option Addr}{n c:Nat}{xs:List α}(ho:Ej s E σ p n c xs):Ac s E σ p n xs:=
 let ⟨h1,cs,h2,h3⟩:=ho;⟨h1,cs,h2.rd,h3.mono hE (Ext.JR σ p)⟩
theorem Ej.block {α:Type}{s:Nat}{E:Hp→List Value→α→Prop}{σ:Hp}{p:Option Addr}{n c:Nat}{xs:List α}(ho:Ej s E σ p n c xs):∀a,p=some a→σ a.block≠none:=
 let ⟨_,_,h2,_⟩:=ho;h2.block
theorem Ch.snoc {α:Type}{s:Nat}{E:Hp→List Value→α→Prop}{σ:Hp}{cs vs:List Value}{xs:List α}{x:α}(h:Ch s E σ cs xs)(hl:vs.length=s)(hx:E σ vs x):Ch s E σ (cs++vs) (xs++[x]):=by
 refine⟨by simp[h.1,hl,AXs],fun i y hy=>?_⟩;rw[AXt]at hy;split at hy
 ·rename_i hi;have hle:i*s+s≤cs.length:=by rw[h.1,←AYU];exact AXR s hi
  rw[AZK (by omega),AZL (by simp;omega)];exact h.2 i y hy
 ·rename_i hi;have:i=xs.length:=by
   have:=(AWk.1 hy).1;simp at this;omega
  subst this;simp at hy;subst hy;rw[←h.1,List.drop_left,←hl,List.take_length];exact hx
theorem Ej.LZ {α:Type}{P:Program}{T Et ty:TypeId}{s bs:Nat}{E:Hp→List Value→α→Prop}(hE:Gs E)[I3 P T Et s bs]{σ0 σ:Hp}{p:Option Addr}{n c:Nat}{xs:List α}{vs:List Value}{x:α}{Φ:Value→Hp→Prop}
  (h0:Ext σ0 σ) (BS:Ej s E (σ0.new σ) p n c xs) (hl:vs.length=s) (h1:Ey vs) (hx:E ((σ0.new σ).del p) vs x) (hb:(n+1)*bs≤140737488355328)
  (hΦ:∀p' c' σ',Ej s E (σ0.new σ') p' (n+1) c' (xs++[x])→Ext σ0 σ'→Φ (.slice p' (n+1) c') σ') {b:Nat} (hn:σ b=none) :
  AH P (Builtin.append_ #[T,T] ty #[.slice p n c,.slice (some ⟨b,0,none⟩) 1 1]) (σ.set b (.cells vs.toArray Et (0,0))) Φ:=by
 obtain⟨hlen,cs,ho,hc⟩:=BS;refine fV h0 ho (by rw[hl,AZf]) h1 hb (fun p' c' σ' Qp he hd=>hΦ p' c' σ' ⟨by simp[hlen],_,Qp,(hc.snoc hl hx).mono hE hd⟩ he) hn
end Tw
end
section
namespace Tw
open Go
variable [Ei]
theorem Ae {σ σ':Hp}(h:Ext σ σ'){b:Nat}(hb:σ' b=none):σ b=none:=by
 cases hs:σ b with
 | none=>rfl
 | some o=>rw[h _ _ hs]at hb;cases hb
section
variable {P:Program}{T Et ty:TypeId}{bs:Nat}{σ0 σ:Hp}{p:Option Addr}{n c:Nat}{xs:List Int}{x:Int}{k:IntKind}{Φ:Value→Hp→Prop}
theorem DT.LZ [I3 P T Et 1 bs](h0:Ext σ0 σ)(BS:DT k (σ0.new σ) p n c xs)(hb:(n+1)*bs≤140737488355328)
  (hΦ:∀p' c' σ',DT k (σ0.new σ') p' (n+1) c' (xs++[x])→Ext σ0 σ'→Ext ((σ0.new σ).del p) ((σ0.new σ').del p')→Φ (.slice p' (n+1) c') σ')
  {b:Nat} (hn:σ b=none):AH P (Builtin.append_ #[T,T] ty #[.slice p n c,.slice (some ⟨b,0,none⟩) 1 1]) (σ.set b (.cells #[.int k x] Et (0,0))) Φ:=
 fV (ys:=[.int k x]) h0 BS rfl (Ey.Q9 (xs:=[x])) hb (fun p' c' σ' ho he hd=>hΦ p' c' σ' (by simpa[DT,AXG] using ho) he hd) hn
theorem DT.nil:DT k σ none 0 0 []:=Ao.nil
end
end Tw
end
section
namespace Tw
open Go
variable [Ei]
def over (L:List Value)(j:Nat)(zs:List Value):List Value:=L.take j++zs++L.drop (j+zs.length)
section
variable {P:Program}{T T2 E ty:TypeId}{s bs:Nat}{σ:Hp}{p q:Option Addr}{n c m d d' j k:Nat}{L cs ys:List Value}{Φ:Value→Hp→Prop}
end
end Tw
end
section
namespace Tw
open Go
variable [Ei]
theorem Hp.set_set {σ:Hp}{b:Nat}{o o':Obj}:(σ.set b o).set b o'=σ.set b o':=by
 funext k;simp only[Hp.set];split<;>rfl
theorem VE {τ:Hp}{b:Nat}{o:Obj}(hb:τ b=none){w:World}{F:Nat→Prop}(hs:Sat (τ.set b o) w)(hF:∀k,F k→k<w.heap.size∧(τ.set b o) k=none):
  Sat τ w∧∀k,(F k∨k=b)→k<w.heap.size∧τ k=none:=by
 have hx:Ext τ (τ.set b o):=.set hb;refine⟨fun k u hk=>hs k u (hx k u hk),fun k hk=>?_⟩;rcases hk with hk|rfl
 ·exact⟨(hF k hk).1,Ae hx (hF k hk).2⟩
 ·exact⟨(AW3.1 (hs k o (Hp.AA _ _ _))).1,hb⟩
theorem Spec.GU {P:Program}{f:FuncId}{args:Array Value}{τ:Hp}{b:Nat}{o:Obj}{R:Rr}(hb:τ b=none)
  (h:Spec P f args τ (fun e τ'=>τ' b=none→R e (τ'.set b o))):Spec P f args (τ.set b o) R:=fun w F hs hF=>by
 obtain⟨h1,h2⟩:=VE hb hs hF;refine(h w (fun k=>F k∨k=b) h1 h2).mono ?_
 rintro e w' ⟨τ',hr,hf⟩
 have zi:=hf.CV b (.inr rfl);refine⟨τ'.set b o,hr zi.1,fun k u hk=>?_,fun k hk=>?_,hf.os,hf.out,hf.grow⟩
 ·by_cases h:k=b
  ·subst h;rw[zi.2];rw[Hp.AA]at hk;cases hk;exact hs k _ (Hp.AA _ _ _)
  ·rw[Hp.AF h]at hk;exact hf.sat k u hk
 ·have Gn:k≠b:=fun h=>by have:=(hF k hk).2;rw[h,Hp.AA]at this;cases this
  exact⟨by rw[Hp.AF Gn];exact(hf.CV k (.inl hk)).1,(hf.CV k (.inl hk)).2⟩
theorem AH.GU {P:Program}{α:Type}{m:Sem α}{τ:Hp}{b:Nat}{o:Obj}{Φ:α→Hp→Prop}(hb:τ b=none)
  (h:AH P m τ (fun v τ'=>τ' b=none→Φ v (τ'.set b o))):AH P m (τ.set b o) Φ:=fun w F hs hF=>by
 obtain⟨h1,h2⟩:=VE hb hs hF;obtain⟨v,w',τ',BC,hr,hf⟩:=h w (fun k=>F k∨k=b) h1 h2;have zi:=hf.CV b (.inr rfl);refine⟨v,w',τ'.set b o,BC,hr zi.1,fun k u hk=>?_,fun k hk=>?_,hf.os,hf.out,hf.grow⟩
 ·by_cases h:k=b
  ·subst h;rw[zi.2];rw[Hp.AA]at hk;cases hk;exact hs k _ (Hp.AA _ _ _)
  ·rw[Hp.AF h]at hk;exact hf.sat k u hk
 ·have Gn:k≠b:=fun h=>by have:=(hF k hk).2;rw[h,Hp.AA]at this;cases this
  exact⟨by rw[Hp.AF Gn];exact(hf.CV k (.inl hk)).1,(hf.CV k (.inl hk)).2⟩
section rows
variable {α:Type}{s:Nat}{E:Hp→List Value→α→Prop}{σ:Hp}{cs ds:List Value}{xs ys:List α}
theorem Ch.take (h:Ch s E σ cs xs)(i:Nat):Ch s E σ (cs.take (i*s)) (xs.take i):=by
 refine⟨?_,fun k x hx=>?_⟩
 ·rw[AW0,AW0,h.1,Nat.min_def,Nat.min_def];by_cases hi:i≤xs.length
  ·rw[AWl hi,AWl (AXR s hi)]
  ·rw[AWj hi];split
   ·exact Nat.le_antisymm (by assumption) (AXR s (by omega))
   ·rfl
 ·rw[AW4]at hx;split at hx
  ·rename_i hk;have hle:k*s+s≤i*s:=by rw[←AYU];exact AXR s hk
   rw[List.drop_take,AZl,AZE (by omega)];exact h.2 k x hx
  ·cases hx
theorem Ch.drop (h:Ch s E σ cs xs)(i:Nat):Ch s E σ (cs.drop (i*s)) (xs.drop i):=by
 refine⟨by rw[AXS,AXS,h.1,Nat.sub_mul],fun k x hx=>?_⟩;rw[AXQ]at hx;rw[List.drop_drop,←AXs];exact h.2 _ x hx
theorem Ch.append (h:Ch s E σ cs xs)(g:Ch s E σ ds ys):Ch s E σ (cs++ds) (xs++ys):=by
 refine⟨by rw[AWz,AWz,h.1,g.1,AXs],fun k x hx=>?_⟩;rw[AXt]at hx;split at hx
 ·rename_i hk;have hle:k*s+s≤cs.length:=by rw[h.1,←AYU];exact AXR s hk
  rw[AZK (by omega),AZL (by simp;omega)];exact h.2 k x hx
 ·rename_i hk;have hle:cs.length≤k*s:=by rw[h.1];exact AXR s (by omega)
  have:=g.2 (k-xs.length) x hx;rw[Nat.sub_mul,←h.1]at this;rw[List.drop_append];have e:List.drop (k*s) cs=[]:=AXH hle;rw[e,AXi];exact this
theorem Ch.br (hE:∀σ vs x,E σ vs x→Ey vs)(h:Ch s E σ cs xs)(hs:0<s):Ey cs:=fun u hu=>by
 obtain⟨t,ht,rfl⟩:=AZF.1 hu;have Am:t/s<xs.length:=by rw[AY9 hs,←h.1];exact ht
 have:=h.2 (t/s) _ (AWm Am);refine hE _ _ _ this _ ?_;have hm:=AYy t hs;have hdm:=Nat.div_add_mod t s;rw[Nat.mul_comm]at hdm;refine AXN.2 ⟨t%s,?_⟩;rw[AW4,AWl hm,AXQ,hdm];exact AWm ht
end rows
section
variable {P:Program}{T E ty:TypeId}{s bs:Nat}{σ:Hp}{p q:Option Addr}{n c m d:Nat}{L ys:List Value}{Φ:Value→Hp→Prop}
end
end Tw
end
section
namespace Tw
open Go
variable [Ei]
def GV (P:Program)(l:Nat)(args:Array Value)(σ:Hp)(R:Rr):Prop:=
 ∀(w:World) (F:Nat→Prop),Sat σ w→(∀b,F b→b<w.heap.size∧σ b=none)→
  ∃fn tmps assign body,(Instr.yield l args).run P w=.ok (.round l fn tmps assign body) w∧RoundIn Fence.wide 0 P l fn tmps assign body w (fun e w'=>∃σ',R e σ'∧Fin σ' F w w')
theorem GV.mono {P:Program}{l:Nat}{args:Array Value}{σ:Hp}{R R':Rr}(h:GV P l args σ R)(hr:∀e σ',R e σ'→R' e σ'):GV P l args σ R':=fun w F hs hF=>
 let ⟨fn,tmps,assign,body,h1,h2⟩:=h w F hs hF
 ⟨fn,tmps,assign,body,h1,h2.mono fun _ _ ⟨σ',h3,h4⟩=>⟨σ',hr _ _ h3,h4⟩⟩
section
variable {g:Gl}{ops:Array Oper}{i:Nat}{e:Env}{bx:Bx}{σ:Hp}{K:Env→Bx→Hp→Prop}{d:Option Nat}{ty:TypeId}{gd:Option (Nat×Bool)}
theorem AI.yield {x:Operand}{xs:Array Operand}{ts:Array TypeId}{l:Nat}{vs:Array Value}{u:Value}(hs:sig ops i=some (d,.call { callee:=.value x,args:=xs,argTypes:=ts },ty,gd))(hw:AP ops e gd=true)(hd:Fc d g.n=true)
  (hx:AB e x=u) (Fs:xs.toList.map (AB e)=vs.toList) (hu:u=.func (.yield l) #[] #[])
  (h:GV g.P l vs σ (Ap g.R fun v σ'=>K (put e d v) bx σ')):AI g ops i e bx σ K:=by
 intro w0 F a w st;obtain⟨o,ho,rfl,Bp,Db,rfl⟩:=BB hs;refine Bk ho (by rw[st.wanted];exact hw) ?_;obtain⟨fn,tmps,assign,body,hy,zj⟩:=h w _ st.sat st.lt;have zk:xs.map (AB e)=vs:=by rw[←AW5];simpa using Fs
 have BC:(execOp (AB e) o).run g.P w=.ok (.round l fn tmps assign body) w:=by
  simp only[execOp,Bp,resolve,hx.trans hu,zk,Deferred.ofValue,invoke,bind,Sem.bind,pure,Array.empty_append];exact hy
 rw[st.eval,Ce BC (fun d=>by simp)];refine⟨fun hh=>(by cases hh),RoundIn.mono (show RoundIn (wd g.GK) (0-1) g.P l fn tmps assign body w _ from⟨trivial,zj.2⟩) fun en w'=>?_⟩
 rintro⟨σ',hr,hf⟩
 have Ko:=st.fin hf;cases en with
 | returned v=>exact⟨_,_,_,Ko.put _ _ (Fc.lt hd),hr⟩
 | panicked ch=>
  rcases g.pan with ⟨h1,h2⟩|DS
  ·exact⟨⟨h1,Ko.defers.trans h2⟩,σ',hr,Ko.toFin⟩
  ·exact absurd hr (DS ch σ')
 | outgrown=>exact hr.elim
end
def NP (R:Rr):Rr:=fun e σ=>match e with | .returned v=>R (.returned v) σ | _=>False
abbrev Gl.round (P:Program)(f:FuncId)(n:Nat)(l:Nat)(R:Rr):Gl:=⟨P,f,n,NP R,some l,[],.inr fun _ _ h=>h⟩
abbrev Gl.behind (P:Program)(f:FuncId)(n:Nat)(D:Nat)(R:Rr):Gl:=⟨P,f,n,NP R,none,[{ target:=.collected D,args:=#[] }],.inr fun _ _ h=>h⟩
theorem bu {D:Nat}{σ:Hp}(h:σ D=some (.deferred (some []))):Marks [{ target:=.collected D,args:=#[] }] σ:=⟨D,rfl,h,trivial⟩
theorem GV.RW {P:Program}{l n p:Nat}{r:Loop}{σ:Hp}{R:Rr}{v:Value}{fn:Func}{e:Env}{s:LoopState}{c:Option Code}(hσ:σ l=some (.loop (lp r s c)))(hp:r.params=#[p])(hn:r.tmps.size=n)(zh:p<n)(he:∀t,r.tmps.getD t undef=e t)(Q6:P.funcs[r.fn]?=some fn)
  (h:At (Gl.round P r.fn n l R) [.code r.assign,.beginRound,.code r.body] (sb e p v) [] σ):GV P l #[v] σ R:=by
 intro w F hs hF;refine⟨r.fn,_,r.assign,r.body,run_yield (r:=lp r s c) (hs _ _ hσ) (by simp[lp,hp]),trivial,fun c0 cs _=>?_⟩;have ht:(r.params.zip #[v]).foldl (fun t (p,v)=>t.setIfInBounds p v) r.tmps=r.tmps.setIfInBounds p v:=by
  simp[hp]
 have st:St n [] w F (sb e p v) [] σ { tmps:=r.tmps.setIfInBounds p v,defers:=[] } w:=by
  refine⟨by simp[hn],fun t=>?_,rfl,hs,(fun p hp=>by cases hp),(fun p hp=>by cases hp),AYH,fun b hb=>⟨(hF b hb).1,(hF b hb).2,rfl⟩,.same rfl rfl rfl,rfl,AWu _⟩;simp only[sb];by_cases htp:t=p
  ·subst htp;simp[hn,zh]
  ·rw[bZ htp,←he t];simp[AYX (AXn htp)]
 let b:Frame:={ (default:Frame) with fn:=r.fn,kind:=.normal,roundOf:=some l }
 have hb0:Frame.round l r.fn (r.tmps.setIfInBounds p v) r.assign r.body .normal=b.atR { tmps:=r.tmps.setIfInBounds p v,defers:=[] } [.code r.assign,.beginRound,.code r.body]:=by
  simp[Frame.round,Frame.atR,b]
 obtain⟨v',w',⟨σ',hr,WM⟩,IH⟩:=h w F _ w st b (c0::cs) rfl rfl rfl ⟨fn,Q6⟩ c0 cs rfl;refine⟨.returned v',w',⟨σ',hr,WM⟩,?_⟩;have IH:=(stepsIn_wide (P:=P)).2 IH;rw[←hb0,←ht]at IH;exact IH
section
variable {g:Gl}{k:List Item}{e:Env}{bx:Bx}{σ:Hp}
theorem Hp.l5 {σ:Hp}{b c:Nat}{o:Obj}(h:c≠b)(hs:σ c=none):(σ.set b o) c=none:=by rw[Hp.AF h];exact hs
theorem St.alloc {n ds w0 F e bx σ a w}(st:St n ds w0 F e bx σ a w)(o:Obj):σ w.heap.size=none∧St n ds w0 F e bx (σ.set w.heap.size o) a (w.alloc o):=by
 have h:=st.grown o;exact⟨(h.free _ (AW1 ..)).1,h.open⟩
theorem At.range {c:Code}{gop:Operand}{ps:Array Tmp}{assign body:Code}{gf:Nat}{lb:Array Value}(hc:c=.rangeFunc gop ps assign body)(hr:g.GK=none)(hds:g.ds=[])
  (hg:AB e gop=.func (.func gf) #[] lb) (JG:Enters g.P gf)
  (h:∀(D l:Nat) (r:Loop),D≠l→σ D=none→σ l=none→r.fn=g.f→r.params=ps→r.assign=assign→r.body=body→r.tmps.size=g.n→(∀t,r.tmps.getD t undef=e t)→
   Spec g.P gf (#[.func (.yield l) #[] #[]]++lb) ((σ.set D (.deferred (some []))).set l (.loop (lp r .ready none)))
    (fun en σ'=>∃v s p,en=.returned v∧σ' l=some (.loop (lp r s p))∧s≠.busy∧
     At (Gl.behind g.P g.f g.n D g.R) ((p.map Item.code).toList++k) e bx (σ'.set l (.loop (lp r .exhausted p))))):At g (.code c::k) e bx σ:=by
 subst hc;intro w0 F a w st b cs sd bc bL Q6;have xA:b.roundOf=none:=bL.trans hr;obtain⟨hD,st1⟩:=st.alloc (.deferred (some []))
 let r:Loop:={ state:=.ready,pending:=none,fn:=b.fn,tmps:=a.tmps,params:=ps,assign,body,defers:=w.heap.size }
 obtain⟨hl,st2⟩:=st1.alloc (.loop r);have Qo:(w.alloc (.deferred (some []))).heap.size=w.heap.size+1:=World.size_alloc ..;rw[Qo]at hl st2;have bd:=run_enterLoop_outer (P:=g.P) (w:=w) b.fn a.tmps ps assign body;have AMS:(resolve a.eval (rangeCall gop (w.heap.size+1)) 0).run g.P ((w.alloc (.deferred (some []))).alloc (.loop r))=.ok { target:=.fn (.func gf) lb,args:=#[.func (.yield (w.heap.size+1)) #[] #[]] } ((w.alloc (.deferred (some []))).alloc (.loop r)):=by
  rw[st.eval];simp only[resolve,hg];simp[AB,Deferred.ofValue]
 have hinv:(invoke (.fn (.func gf) lb) #[.func (.yield (w.heap.size+1)) #[] #[]]).run g.P ((w.alloc (.deferred (some []))).alloc (.loop r))=.ok (.enter gf (#[.func (.yield (w.heap.size+1)) #[] #[]]++lb)) ((w.alloc (.deferred (some []))).alloc (.loop r)):=by
  exact JG _ _
 have GX:=stepR_rangeFunc (P:=g.P) (b:=b) (a:=a) (k:=k) (cs:=cs) (w:=w) (by rw[xA];exact bd) AMS hinv;have l6:σ (w.heap.size+1)=none:=by rw[Hp.AF (by omega)]at hl;exact hl
 have AEY:=h w.heap.size (w.heap.size+1) r (by omega) hD l6 sd rfl rfl rfl st.size st.env;obtain⟨en,w3,fr,⟨σ',⟨v,s,p,he,zl,hsb,sf⟩,WM⟩,zm,ASo,zn⟩:=AEY _ _ st2.sat st2.lt (b.atR { a with defers:=[{ target:=.collected w.heap.size,args:=#[] }]++a.defers } (.inRangeFunc (w.heap.size+1)::k)::cs);subst he;have xF:=st2.fin WM;have Un:=run_endLoop (P:=g.P) (xF.sat _ _ zl) (by simpa[lp] using hsb);have zo:=xF.toFin.put (o':=.loop (lp r .exhausted p)) zl;have Ay:∀q∈bx,q.1≠w.heap.size+1:=fun q hq e=>by have:=(xF.free q hq).1;rw[e,zl]at this;cases this
 have st4:St g.n [{ target:=.collected w.heap.size,args:=#[] }] w0 F e bx (σ'.set (w.heap.size+1) (.loop (lp r .exhausted p))) { a with defers:=[{ target:=.collected w.heap.size,args:=#[] }]++a.defers } (w3.putObj (w.heap.size+1) (.loop (lp r .exhausted p))):=
  { size:=st.size,env:=st.env,defers:=by rw[show a.defers=[] from st.defers.trans hds];rfl,sat:=zo.sat,box:=fun q hq=>by rw[World.putObj_heap_other (Ay q hq)];exact xF.box q hq,free:=fun q hq=>⟨Hp.l5 (Ay q hq) (xF.free q hq).1,(xF.free q hq).2⟩,nodup:=st.nodup,CV:=fun b hb=>⟨(st.CV b hb).1,(zo.CV b hb).1,(zo.CV b hb).2⟩,os:=zo.os,out:=zo.out,grow:=zo.grow }
 have zp:=sf w0 F _ _ st4 b cs sd bc xA Q6;have xG:=step_leave_returned (P:=g.P) (c:=b.atR { a with defers:=[{ target:=.collected w.heap.size,args:=#[] }]++a.defers } (.inRangeFunc (w.heap.size+1)::k)) (cs:=cs) zn;rw[finish_atR_inRangeFunc]at xG;have zq:=(Steps.one GX).trans (Steps.trans zm ((Steps.one xG).trans (.one (stepR_endRangeFunc (k:=k) Un))));obtain⟨e',w',fr',⟨σ2,hR,hf2⟩,hc2,hx⟩:=zp;unfold Lr;rw[hr];refine⟨e',w',fr',⟨σ2,?_,hf2⟩,.of_steps zq hc2,hx⟩;cases e' with
 | returned v=>exact hR
 | _=>exact hR.elim
end
end Tw
end
section
namespace Tw
open Go Go.RowKit Go.ChangeShapes Go.WideShapes Go.Deep
def full (w:World):Hp:=fun b=>w.heap[b]?
theorem l8 (w:World):Sat (full w) w:=fun _ _ h=>h
theorem RA {w:World}{a:Addr}{v:Value}(h:w.cell? a=some v):(full w).ld a=some v:=h
theorem mA {w w':World}{σ':Hp}(hx:Ext (full w) σ')(hs:Sat σ' w')(ho:Dj w w')(AMU:w'.output=w.output)(hg:w.heap.size≤w'.heap.size):Below w.heap.size w w':=
 ⟨ho.1,ho.2.1,AMU,hg,fun k hk=>by
  have h1:w.heap[k]?=some w.heap[k]:=AYQ hk;rw[h1];exact hs _ _ (hx _ _ h1)⟩
def Lawful (P:Program)(f:FuncId)(args:Array Value)(w:World):Prop:=Spec P f args (full w) (fun e σ'=>e=.returned (.bool true)∧Ext (full w) σ')
theorem Lawful.calls {P:Program}{f:FuncId}{args:Array Value}{w:World}(h:Lawful P f args w):Calls P f args w fun e w'=>e=.returned (.bool true)∧Below w.heap.size w w':=
 (h w (fun _=>False) (l8 w) (fun _ h=>h.elim)).mono fun e w' ⟨σ',⟨he,hx⟩,hf⟩=>⟨he,mA hx hf.sat hf.os hf.out hf.grow⟩
section
variable {H:Type}{enc:TypeId×Value→H}{P:Program}
theorem Lv (hl:laidOutB P=true){W W':World}(hb:Below W.heap.size W W'):∀{ts:List TypeId} {vs:List Value} {ds:List (DataW H)} {ps:List MemPlace},(ts.all fun t=>P.readableRec t&&Nat.blt t P.types.size)=true→(∀x∈ps,x.block<W.heap.size)→
  DataW.TrodAll enc P W 0 (fun _=>true) true ts vs ds ps→DataW.TrodAll enc P W' 0 (fun b=>decide (b<W.heap.size)) true ts vs ds ps
 | [],[],[],ps,_,_,h=>h
 | t::ts,v::vs,d::ds,ps,hr,Am,⟨p,q,h1,h2,e⟩=>by
  simp only[AZS,AWv]at hr;subst e;exact⟨p,q,Below.trod hl hr.1.1 (AXZ hr.1.2) h1 hb (fun x hx=>Am x (AXz _ hx)),Lv hl hb hr.2 (fun x hx=>Am x (AYg _ hx)) h2,rfl⟩
 | [],_::_,_,_,_,_,h=>h.elim
 | [],[],_::_,_,_,_,h=>h.elim
 | _::_,[],_,_,_,_,h=>h.elim
 | _::_,_::_,[],_,_,_,h=>h.elim
theorem mB {f:Func}{s:ChangeSpec}{W W':World}{args:Array Value}{ds gs:List (DataW H)}{before:List MemPlace}{tb:TypeId}(hl:laidOutB P=true)(hr:(f.params.toList.all fun t=>P.readableRec t&&Nat.blt t P.types.size)=true)
  (hrt:f.resultTypes=#[tb]) (tX:P.underlying tb=some .bool) (hv:s.vars=[]) (Q6:(s.fn H (ds++gs)).results=[.lit (.bool true)]∧(s.fn H (ds++gs)).args=ds∧(s.fn H (ds++gs)).vars=[])
  (hW:DataW.Whole enc P f.params.toList s.vars false W args.toList ds gs before) (hb:Below W.heap.size W W'):s.post enc P f false true false false W args (.bool true) W':=by
 have Am:∀p∈before,p.block<W.heap.size:=fun p hp=>hW.lt p hp;have hW':=hW;obtain⟨p,q,hA,hV,rfl,hfz,_⟩:=hW';refine⟨ds,gs,p++q,[],p,[],hW,?_,?_,?_,World.keptBut_mono (fun x hx=>⟨hx,?_⟩) (hb.frame (·∈p++q)),fun h=>by cases h⟩
 ·rw[Q6.1,hrt];exact trodAll_mk1 (shut_bool tX true)
 ·rw[Q6.2.1];exact Lv hl hb hr (fun x hx=>Am x (AXz _ hx)) hA
 ·rw[Q6.2.2,hv];rfl
 ·rw[hv]at hV;have:q=[]:=by
   cases gs with
   | nil=>exact hV
   | cons _ _=>exact hV.elim
  subst this;exact .inr (.inl (by simpa using hx))
theorem Av.snoc {σ:Hp}{b:Nat}:∀{l m:List Value} {o:Nat},Av σ b o l→Av σ b (o+l.length) m→Av σ b o (l++m)
 | [],m,o,_,h=>by simpa using h
 | v::l,m,o,h,h'=>⟨h.1,Av.snoc h.2 (by simpa[AZR,Nat.add_comm 1] using h')⟩
theorem VF {w:World}{a:Addr}{v:Value}(h:w.cell? a=some v):a.spot=none:=by
 unfold World.cell? at h;split at h
 ·split at h
  ·cases h
  ·rename_i hs;simpa using hs
 ·cases h
end
end Tw
end
section
namespace Tw
open Go
variable [Ei]
def qv (P:Program)(ops:Array Oper)(i:Nat)(e:Env):Option (Option Nat×Value):=
 match ops[i]? with
 | none=>none
 | some o=>match AP ops e o.guard with
  | false=>none
  | true=>match o.op with
   | .move x=>some (o.dst,AB e x)
   | .assign x=>some (o.dst,AB e x)
   | .pick z x y=>(match AB e z with
    | .bool true=>some (o.dst,AB e x)
    | .bool false=>some (o.dst,AB e y)
    | _=>none)
   | .extract x j=>(match AB e x with
    | .tuple vs=>(match vs[j]? with | some v=>some (o.dst,v) | none=>none)
    | _=>none)
   | .unOp u _ x=>(match u,AB e x with
    | .not,.bool b=>some (o.dst,.bool (!b))
    | _,_=>none)
   | .binOp b _ x y _=>(match AB e x,AB e y with
    | .int k a,.int k' c=>(match decide (k=k') with
     | false=>none
     | true=>(match b with
      | .lss=>some (o.dst,.bool (decide (a<c)))
      | .leq=>some (o.dst,.bool (decide (a≤c)))
      | .gtr=>some (o.dst,.bool (decide (c<a)))
      | .geq=>some (o.dst,.bool (decide (c≤a)))
      | .eql=>some (o.dst,.bool (decide (a=c)))
      | .neq=>some (o.dst,.bool (decide (a≠c)))
      | _=>none))
    | _,_=>none)
   | _=>none
theorem xH {P:Program}{ops:Array Oper}{i:Nat}{e:Env}{bx:Bx}{d:Option Nat}{v:Value}(h:qv P ops i e=some (d,v)):
  ∃o,ops[i]?=some o∧AP ops e o.guard=true∧o.dst=d∧∀σ,Yd P e bx σ o.op o.type v:=by
 unfold qv at h;cases ho:ops[i]? with
 | none=>simp[ho]at h
 | some o=>
  simp only[ho]at h;cases hw:AP ops e o.guard with
  | false=>simp[hw]at h
  | true=>
   simp only[hw]at h;refine⟨o,rfl,hw,?_⟩;cases Kq:o.op<;>simp only[Kq]at h<;>try (cases h;done)
   case move x=>cases h;exact⟨rfl,fun σ=>Y.move rfl⟩
   case assign x=>cases h;exact⟨rfl,fun σ=>Y.assign rfl⟩
   case pick z x y=>
    split at h
    ·rename_i hz;cases h;exact⟨rfl,fun σ=>Y.xD hz rfl⟩
    ·rename_i hz;cases h;exact⟨rfl,fun σ=>Y.xE hz rfl⟩
    ·cases h
   case extract x j=>
    split at h
    ·rename_i vs hx;split at h
     ·rename_i u hu;cases h;exact⟨rfl,fun σ=>Y.extract hx hu⟩
     ·cases h
    ·cases h
   case unOp u T x=>
    split at h
    ·rename_i b hx;cases h;exact⟨rfl,fun σ=>Y.not hx⟩
    ·cases h
   case binOp b T x y T'=>
    split at h
    ·rename_i k a k' c hx hy;split at h
     ·cases h
     ·rename_i hk;have hk:=AWr hk;subst hk;cases b<;>simp only at h<;>cases h
      ·exact⟨rfl,fun σ=>Y.eql hx hy⟩
      ·exact⟨rfl,fun σ=>Y.neq hx hy⟩
      ·exact⟨rfl,fun σ=>Y.lss hx hy⟩
      ·exact⟨rfl,fun σ=>Y.leq hx hy⟩
      ·exact⟨rfl,fun σ=>Y.gtr hx hy⟩
      ·exact⟨rfl,fun σ=>Y.geq hx hy⟩
    ·cases h
def nv (ops:Array Oper)(i:Nat)(e:Env):Option (Option Nat):=
 match ops[i]? with
 | none=>none
 | some o=>match AP ops e o.guard with
  | true=>none
  | false=>some o.dst
theorem AEa {ops:Array Oper}{i:Nat}{e:Env}{d:Option Nat}(h:nv ops i e=some d):∃o,ops[i]?=some o∧AP ops e o.guard=false∧o.dst=d:=by
 unfold nv at h;cases ho:ops[i]? with
 | none=>simp[ho]at h
 | some o=>
  simp only[ho]at h;cases hw:AP ops e o.guard with
  | true=>simp[hw]at h
  | false=>simp only[hw]at h;cases h;exact⟨o,rfl,hw,rfl⟩
theorem Cr {ops:Array Oper}{i:Nat}{o:Oper}(h:ops[i]?=some o):sig ops i=some (o.dst,o.op,o.type,o.guard):=by simp[sig,h]
section
variable {g:Gl}{ops:Array Oper}{q:IG}{i:Nat}{is:List Nat}{r:List (Nat×Bool)}{e:Env}{bx:Bx}{σ:Hp}{K:Env→Bx→Hp→Prop}{k:List Item}{c:Code}
theorem Seq.u (d:Nat)(v:Value)(h:Seq g ops is (put e (some d) v) bx σ K)(hq:qv g.P ops i e=some (some d,v):=by kernel_rfl)(hd:Nat.blt d g.n=true:=by rfl):Seq g ops (i::is) e bx σ K:=by
 obtain⟨o,ho,hw,JP,hy⟩:=xH (bx:=bx) hq;have hs:=Cr ho;rw[JP]at hs;exact Seq.yg hs hw hd (hy σ) h
def AEb (e:Env):List (Nat×Value)→Env
 | []=>e
 | (d,v)::l=>AEb (put e (some d) v) l
def Qs (P:Program)(ops:Array Oper):List Nat→List (Nat×Value)→Env→List (Option (Option Nat×Value))
 | _,[],_=>[]
 | i::is,(d,v)::l,e=>qv P ops i e::Qs P ops is l (put e (some d) v)
 | [],_::_,_=>[none]
theorem Seq.us (l:List (Nat×Value))(h:Seq g ops (is.drop l.length) (AEb e l) bx σ K)(hq:Qs g.P ops is l e=l.map (fun p=>some (some p.1,p.2)):=by kernel_rfl)(hd:(l.all fun p=>Nat.blt p.1 g.n)=true:=by rfl):Seq g ops is e bx σ K:=by
 induction l generalizing is e with
 | nil=>exact h
 | cons p l ih=>
  obtain⟨d,v⟩:=p;cases is with
  | nil=>simp[Qs]at hq
  | cons i is=>
   simp only[Qs,AXa,AYB]at hq;simp only[AZS,AWv]at hd;exact Seq.u d v (ih h hq.2 hd.2) hq.1 hd.1
theorem Head.u (d:Nat)(v:Value)(h:Head g ops q r (put e (some d) v) bx σ K)(hq:qv g.P ops i e=some (some d,v):=by kernel_rfl)(hd:Nat.blt d g.n=true:=by rfl)(CH:q.ok i=true:=by rfl):Head g ops q ((i,true)::r) e bx σ K:=by
 obtain⟨o,ho,hw,JP,hy⟩:=xH (bx:=bx) hq;have hs:=Cr ho;rw[JP]at hs;exact Head.yg hs hw hd (hy _) h CH
theorem Seq.n (d:Nat)(h:Seq g ops is (put e (some d) undef) bx σ K)(hn:nv ops i e=some (some d):=by kernel_rfl)(hd:Nat.blt d g.n=true:=by rfl):Seq g ops (i::is) e bx σ K:=by
 obtain⟨o,ho,hw,JP⟩:=AEa hn;have hs:=Cr ho;rw[JP]at hs;exact Seq.no hs hw hd h
theorem Head.n (d:Nat)(h:Head g ops q r (put e (some d) undef) bx σ K)(hn:nv ops i e=some (some d):=by kernel_rfl)(hd:Nat.blt d g.n=true:=by rfl)(CH:q.ok i=true:=by rfl):Head g ops q ((i,true)::r) e bx σ K:=by
 obtain⟨o,ho,hw,JP⟩:=AEa hn;have hs:=Cr ho;rw[JP]at hs;exact Head.no hs hw hd h CH
theorem Seq.z (d:Nat)(op:Op)(ty:TypeId)(v:Value)(hy:Yd g.P e bx σ op ty v)(h:Seq g ops is (put e (some d) v) bx σ K)(hs:sig ops i=some (some d,op,ty,none):=by kernel_rfl)(hd:Nat.blt d g.n=true:=by rfl):Seq g ops (i::is) e bx σ K:=Seq.y hs hd hy h
theorem Head.z (d:Nat)(op:Op)(ty:TypeId)(v:Value)(hy:Yd g.P e bx (MR q none σ) op ty v)(h:Head g ops q r (put e (some d) v) bx σ K)(hs:sig ops i=some (some d,op,ty,none):=by kernel_rfl)(hd:Nat.blt d g.n=true:=by rfl)(CH:q.ok i=true:=by rfl):Head g ops q ((i,true)::r) e bx σ K:=Head.y hs hd hy h CH
theorem Head.zg (d:Nat)(op:Op)(ty:TypeId)(gd:Nat×Bool)(v:Value)(hy:Yd g.P e bx (MR q none σ) op ty v)(h:Head g ops q r (put e (some d) v) bx σ K)(hs:sig ops i=some (some d,op,ty,some gd):=by kernel_rfl)(hw:AP ops e (some gd)=true:=by rfl)(hd:Nat.blt d g.n=true:=by rfl)(CH:q.ok i=true:=by rfl):Head g ops q ((i,true)::r) e bx σ K:=Head.yg hs hw hd hy h CH
theorem WR:∀{l:List (Nat×Value)},l.map (fun p=>e p.1)=l.map (·.2)→Live e l
 | [],_=>trivial
 | (t,v)::l,h=>by
  simp only[AXa,AYB]at h;exact⟨h.1,WR h.2⟩
theorem At.L (l:List (Nat×Value))(h:∀J,At g k (Hd J l) bx σ)(hl:l.map (fun p=>e p.1)=l.map (·.2):=by kernel_rfl):At g k e bx σ:=At.ofL (WR hl) h
theorem At.v (l:List (Nat×Value))(h:At g k (Hd e l) bx σ)(hl:l.map (fun p=>e p.1)=l.map (·.2):=by kernel_rfl):At g k e bx σ:=At.live (WR hl) h
theorem At.rg (id:Nat)(l:List Nat)(h:Seq g (cO c) l e bx σ (fun e bx σ=>At g k e bx σ))(hc:c=.region id (cO c) false:=by kernel_rfl)(hl:List.range (cO c).size=l:=by kernel_rfl):At g (.code c::k) e bx σ:=At.region hc hl h
theorem At.s (x y:Code)(h:At g (.code x::.code y::k) e bx σ)(hc:c=.seq x y:=by kernel_rfl):At g (.code c::k) e bx σ:=At.seq hc h
theorem At.cT (t:Nat)(y z:Code)(h:At g (.code y::k) e bx σ)(hc:c=.cond (.tmp t) y z:=by kernel_rfl)(hx:AB e (.tmp t)=.bool true:=by rfl):At g (.code c::k) e bx σ:=At.w7 hc hx h
theorem At.cF (t:Nat)(y z:Code)(h:At g (.code z::k) e bx σ)(hc:c=.cond (.tmp t) y z:=by kernel_rfl)(hx:AB e (.tmp t)=.bool false:=by rfl):At g (.code c::k) e bx σ:=At.w9 hc hx h
theorem At.x (i:Nat)(k':List Item)(h:At g k' e bx σ)(hc:c=.exit i:=by kernel_rfl)(hk:exitTo i k=some k':=by kernel_rfl):At g (.code c::k) e bx σ:=At.exit hc hk h
theorem At.b (i:Nat)(x:Code)(h:At g (.code x::.inBlock i::k) e bx σ)(hc:c=.block i x:=by kernel_rfl):At g (.code c::k) e bx σ:=At.block hc h
theorem At.rt {fn:Func}(rs:List ResultVar)(vs:List Value)(hf:g.P.funcs[g.f]?=some fn)(h:G1 g.P e bx (left g.ds σ) rs vs)(hR:g.R (.returned (Ra vs)) (left g.ds σ))
 (hc:c=Code.ret:=by kernel_rfl) (hr:fn.results=rs.toArray:=by kernel_rfl) (N7:g.GK=none:=by rfl) (hm:Marks g.ds σ:=by trivial):At g (.code c::k) e bx σ:=At.Uj hc hf hr h hR N7 hm
def cv (ops:Array Oper)(i:Nat)(e:Env):Option (Option Nat×FuncId×Array Value):=
 match ops[i]? with
 | none=>none
 | some o=>match AP ops e o.guard with
  | false=>none
  | true=>match o.op with
   | .call c=>(match c.callee with
    | .value x=>(match AB e x with
     | .func fn fst cap=>(match fn with
      | .func f=>some (o.dst,f,(fst.toList++(c.args.toList.map (AB e)++cap.toList)).toArray)
      | _=>none)
     | _=>none)
    | _=>none)
   | _=>none
theorem AI.cl {f:FuncId}{args:Array Value}(d:Option Nat)(AEc:∀args w,(callFunc f args).run g.P w=.ok (.enter f args) w)(h:Spec g.P f args σ (Ap g.R fun v σ'=>K (put e d v) bx σ'))
  (hc:cv ops i e=some (d,f,args):=by kernel_rfl) (hd:Fc d g.n=true:=by rfl):AI g ops i e bx σ K:=by
 unfold cv at hc;cases ho:ops[i]? with
 | none=>simp[ho]at hc
 | some o=>
  simp only[ho]at hc;cases hw:AP ops e o.guard with
  | false=>simp[hw]at hc
  | true=>
   simp only[hw]at hc;cases Kq:o.op<;>simp only[Kq]at hc<;>try cases hc
   rename_i c;split at hc
   ·rename_i x AEd;split at hc
    ·rename_i fn fst cap hx;split at hc
     ·rename_i f';simp only[AWp,AYG]at hc;obtain⟨rfl,rfl,ha⟩:=hc;refine AI.call (Cr ho) hw hd (fun o' Qp _ w=>?_) h;obtain⟨callee,xs,ts⟩:=c;simp only at AEd;subst AEd;refine PH (x:=x) (xs:=xs) (ts:=ts) (fst:=fst) (cap:=cap) (vs:=(xs.toList.map (AB e)).toArray) AEc hx (by simp) ?_ o' (by rw[Qp,Kq]) w;rw[←ha,←AW5];simp
     ·cases hc
    ·cases hc
   ·cases hc
end
end Tw
end
section
namespace Tw
open Go
variable [Ei]
section
variable {g:Gl}{ops:Array Oper}{i:Nat}{e:Env}{bx:Bx}{σ:Hp}{K:Env→Bx→Hp→Prop}{k:List Item}{c x:Code}{d:Option Nat}{gd:Option (Nat×Bool)}{ty:TypeId}
theorem Xr {P:Program}{b:Frame}{a:Act}{k:List Item}{cs:List Frame}{w:World}{c:Code}:step P (lone (b.atR a (.code (.scope c)::k)) cs w)=.next (lone (b.atR a (.code c::.inScope c::k)) cs w):=rfl
theorem Uo {P:Program}{b:Frame}{a:Act}{k:List Item}{cs:List Frame}{w:World}{c:Code}:step P (lone (b.atR a (.inScope c::k)) cs w)=.next (lone (b.atR a k) cs w):=rfl
theorem At.scope (hc:c=Code.scope x)(h:At g (.code x::.inScope x::k) e bx σ):At g (.code c::k) e bx σ:=
 hc▸fun w0 F a w st=>.step (fun _ _ _=>Xr) (h w0 F a w st)
theorem At.inScope (h:At g k e bx σ):At g (.inScope x::k) e bx σ:=fun w0 F a w st=>.step (fun _ _ _=>Uo) (h w0 F a w st)
theorem AI.panic {x:Operand}{T:TypeId}{v:Value}(hs:sig ops i=some (d,.panic x,ty,gd))(hw:AP ops e gd=true)(hx:AB e x=.iface T v)(h1:g.GK=none)(h2:g.ds=[])
  (h:g.R (.panicked [{ v:=.iface T v,recovered:=false }]) σ):AI g ops i e bx σ K:=by
 intro w0 F a w st;obtain⟨o,ho,rfl,Bp,Db,rfl⟩:=BB hs;refine Bk ho (by rw[st.wanted];exact hw) ?_;rw[st.eval];have BC:(o.semAt g.GK (AB e)).run g.P w=.halt (.panic (.iface T v)) w:=by
  rw[h1,Oper.semAt_eq none (AB e) o (fun c hc=>by rw[Bp]at hc;cases hc)];simp[execOp,Bp,hx,Instr.panic,goPanic,Sem.run]
 rw[BC];exact⟨⟨h1,st.defers.trans h2⟩,σ,h,st.toFin⟩
theorem bz {x:Operand}{u:Value}{ts:Array TypeId}(hx:AB e x=u)(o:Oper)(ho:o.op=.call { callee:=.builtin .len,args:=#[x],argTypes:=ts })(ht:o.type=ty):execOp (AB e) o=(do pure (.value (←Builtin.len_ ts ty #[u]))):=by
 subst ht;simp[execOp,ho,resolve,invoke,builtin,hx]
def isIf:TypeDesc→Bool
 | .interface _=>true
 | _=>false
theorem Y.iface {P:Program}{T:TypeId}{dd:TypeDesc}{x:Operand}{v:Value}(hT:P.underlying T=some dd)(hd:isIf dd=false)(hx:AB e x=v):Yd P e bx σ (.makeInterface T x) ty (.iface T v):=fun oo ho _ w _ _=>by
 cases dd<;>simp[isIf]at hd<;>simp[execOp,ho,hx,Instr.makeInterface,run_underlying hT]
theorem Y.HJ {P:Program}{T T':TypeId}{x y:Operand}{a b:ByteArray}(hT:P.underlying T=some .string)(hx:AB e x=.string a)(hy:AB e y=.string b)(hs:a.size+b.size≤9223372036854775807):Yd P e bx σ (.binOp .add T x y T') ty (.string (a++b)):=fun oo ho _ w _ _=>by
 have Re:(a.size:Int)+(b.size:Int)≤9223372036854775807:=by omega
 simp[execOp,ho,hx,hy,eqGuard_add,binOp,Op.stringOp,Re]
end
end Tw
end
section
set_option maxRecDepth 100000
noncomputable section
namespace TwW
open Go Tw Go.Proofs.Tryz
variable [Ei]{R:Rr}{σ:Hp}
noncomputable abbrev prog:Program:=Go.Proofs.Tryz.prog
theorem mixed:Go.Proofs.Tryz.prog.follows .mixedOrders=true:=by kernel_rfl
instance:I3 Go.Proofs.Tryz.prog 22 51 10 120:=⟨Go.Proofs.Tryz.underlying22,⟨Go.Proofs.Tryz.t51,_,by kernel_rfl,rfl,rfl,rfl,rfl⟩,by decide,by decide⟩
instance:I3 Go.Proofs.Tryz.prog 23 45 2 48:=⟨Go.Proofs.Tryz.underlying23,⟨Go.Proofs.Tryz.t45,_,by kernel_rfl,rfl,rfl,rfl,rfl⟩,by decide,by decide⟩
instance:I3 Go.Proofs.Tryz.prog 37 36 2 32:=⟨Go.Proofs.Tryz.underlying37,⟨Go.Proofs.Tryz.t36,_,by kernel_rfl,rfl,rfl,rfl,rfl⟩,by decide,by decide⟩
instance:I3 Go.Proofs.Tryz.prog 43 42 2 16:=⟨Go.Proofs.Tryz.underlying43,⟨Go.Proofs.Tryz.t42,_,by kernel_rfl,rfl,rfl,rfl,rfl⟩,by decide,by decide⟩
instance:I3 Go.Proofs.Tryz.prog 48 47 3 40:=⟨Go.Proofs.Tryz.underlying48,⟨Go.Proofs.Tryz.t47,_,by kernel_rfl,rfl,rfl,rfl,rfl⟩,by decide,by decide⟩
instance:I3 Go.Proofs.Tryz.prog 49 9 1 16:=⟨Go.Proofs.Tryz.underlying49,⟨Go.Proofs.Tryz.t9,_,by kernel_rfl,rfl,rfl,rfl,rfl⟩,by decide,by decide⟩
instance:I3 Go.Proofs.Tryz.prog 60 64 2 32:=⟨Go.Proofs.Tryz.underlying60,⟨Go.Proofs.Tryz.t64,_,by kernel_rfl,rfl,rfl,rfl,rfl⟩,by decide,by decide⟩
instance:I3 Go.Proofs.Tryz.prog 74 23 1 24:=⟨Go.Proofs.Tryz.underlying74,⟨Go.Proofs.Tryz.t23,_,by kernel_rfl,rfl,rfl,rfl,rfl⟩,by decide,by decide⟩
instance:I3 Go.Proofs.Tryz.prog 82 168 2 48:=⟨Go.Proofs.Tryz.underlying82,⟨Go.Proofs.Tryz.t168,_,by kernel_rfl,rfl,rfl,rfl,rfl⟩,by decide,by decide⟩
instance:I3 Go.Proofs.Tryz.prog 90 5 1 1:=⟨Go.Proofs.Tryz.underlying90,⟨Go.Proofs.Tryz.t5,_,by kernel_rfl,rfl,rfl,rfl,rfl⟩,by decide,by decide⟩
instance:I3 Go.Proofs.Tryz.prog 102 106 1 8:=⟨Go.Proofs.Tryz.underlying102,⟨Go.Proofs.Tryz.t106,_,by kernel_rfl,rfl,rfl,rfl,rfl⟩,by decide,by decide⟩
instance:I3 Go.Proofs.Tryz.prog 112 117 1 8:=⟨Go.Proofs.Tryz.underlying112,⟨Go.Proofs.Tryz.t117,_,by kernel_rfl,rfl,rfl,rfl,rfl⟩,by decide,by decide⟩
instance:I3 Go.Proofs.Tryz.prog 118 121 1 8:=⟨Go.Proofs.Tryz.underlying118,⟨Go.Proofs.Tryz.t121,_,by kernel_rfl,rfl,rfl,rfl,rfl⟩,by decide,by decide⟩
instance:I3 Go.Proofs.Tryz.prog 120 84 4 64:=⟨Go.Proofs.Tryz.underlying120,⟨Go.Proofs.Tryz.t84,_,by kernel_rfl,rfl,rfl,rfl,rfl⟩,by decide,by decide⟩
instance:I3 Go.Proofs.Tryz.prog 134 3 1 8:=⟨Go.Proofs.Tryz.underlying134,⟨Go.Proofs.Tryz.t3,_,by kernel_rfl,rfl,rfl,rfl,rfl⟩,by decide,by decide⟩
instance:I3 Go.Proofs.Tryz.prog 166 38 1 8:=⟨Go.Proofs.Tryz.underlying166,⟨Go.Proofs.Tryz.t38,_,by kernel_rfl,rfl,rfl,rfl,rfl⟩,by decide,by decide⟩
instance:I3 Go.Proofs.Tryz.prog 171 174 1 8:=⟨Go.Proofs.Tryz.underlying171,⟨Go.Proofs.Tryz.t174,_,by kernel_rfl,rfl,rfl,rfl,rfl⟩,by decide,by decide⟩
instance:I3 Go.Proofs.Tryz.prog 177 179 1 8:=⟨Go.Proofs.Tryz.underlying177,⟨Go.Proofs.Tryz.t179,_,by kernel_rfl,rfl,rfl,rfl,rfl⟩,by decide,by decide⟩
instance:I3 Go.Proofs.Tryz.prog 196 198 1 8:=⟨Go.Proofs.Tryz.underlying196,⟨Go.Proofs.Tryz.t198,_,by kernel_rfl,rfl,rfl,rfl,rfl⟩,by decide,by decide⟩
instance:I3 Go.Proofs.Tryz.prog 199 232 1 24:=⟨Go.Proofs.Tryz.underlying199,⟨Go.Proofs.Tryz.t232,_,by kernel_rfl,rfl,rfl,rfl,rfl⟩,by decide,by decide⟩
instance:I3 Go.Proofs.Tryz.prog 266 248 1 16:=⟨Go.Proofs.Tryz.underlying266,⟨Go.Proofs.Tryz.t248,_,by kernel_rfl,rfl,rfl,rfl,rfl⟩,by decide,by decide⟩
instance:I3 Go.Proofs.Tryz.prog 303 255 1 4:=⟨Go.Proofs.Tryz.underlying303,⟨Go.Proofs.Tryz.t255,_,by kernel_rfl,rfl,rfl,rfl,rfl⟩,by decide,by decide⟩
instance:I3 Go.Proofs.Tryz.prog 315 40 1 8:=⟨Go.Proofs.Tryz.underlying315,⟨Go.Proofs.Tryz.t40,_,by kernel_rfl,rfl,rfl,rfl,rfl⟩,by decide,by decide⟩
instance:I3 Go.Proofs.Tryz.prog 337 336 2 24:=⟨Go.Proofs.Tryz.underlying337,⟨Go.Proofs.Tryz.t336,_,by kernel_rfl,rfl,rfl,rfl,rfl⟩,by decide,by decide⟩
end TwW
end
end
section
namespace Tw
open Go
variable [Ei]
inductive Ord where
 | done
 | yes (i:Nat) (r:Ord)
 | alt (i:Nat) (r s:Ord)
 | no
def JS (g:Gl)(ops:Array Oper):Ord→IG→Env→Bx→Hp→(Env→Bx→Hp→Prop)→Prop
 | .done,_,e,bx,σ,K=>K e bx σ
 | .yes i r,q,e,bx,σ,K=>∃own o v,((LY q own).ok i&&P7 ops i own)=true∧ops[i]?=some o∧((AP ops e o.guard=true∧Yd g.P e bx (MR q own σ) o.op o.type v)∨(AP ops e o.guard=false∧v=undef))∧
  (∀t,o.dst=some t→t<g.n)∧JS g ops r (LY q own) (put e o.dst v) bx σ K
 | .alt i r s,q,e,bx,σ,K=>(AI g ops i e bx σ fun e' Fq σ'=>I1 (FH q i) bx σ Fq σ'∧JS g ops r (FH q i) e' Fq σ' K)∧JS g ops s q e bx σ K
 | .no,_,_,_,_,_=>True
def M6 (ops:Array Oper)(n:Nat):Ord→Nat→Array Bool→List Nat→Bool
 | .done,f,listed,seen=>decide (f=0)&&seen.isEmpty&&Region.seqB .any ops (ops.size-n) n listed
 | .yes i r,f,listed,seen=>seen.isEmpty&&decide (0<f)&&decide (i<n)&&(Region.ready .any ops listed).contains i&&Region.free .any ops listed i&&M6 ops n r (f-1) (listed.setIfInBounds i true) []
 | .alt i r s,f,listed,seen=>decide (0<f)&&decide (i<n)&&(Region.ready .any ops listed).contains i&&M6 ops n r (f-1) (listed.setIfInBounds i true) []&&M6 ops n s f listed (i::seen)
 | .no,f,listed,seen=>decide (0<f)&&!(Region.ready .any ops listed).isEmpty&&(Region.ready .any ops listed).all seen.contains
def WS (ops:Array Oper)(n:Nat)(plan:Ord)(tail:List Nat):Bool:=
 Region.noSelect ops&&(decide (n=ops.size)||(decide (n<ops.size)&&Region.sinkB .any ops n&&Region.chainB .any ops n)) &&
  decide (tail=List.range' n (ops.size-n))&&M6 ops n plan n (Array.replicate ops.size false) []
section regions
variable {g:Gl}{ops:Array Oper}
theorem G4 {K:Env→Bx→Hp→Prop}{w0 F}{n:Nat}{tl:List Nat}(MT:Region.noSelect ops=true)
  (GN:∀listed,HeadInv .any ops n listed→∀i,i<n→listed.getD i true=false→∀t,n≤t→t ∉ Region.ready .any ops listed)
  (fS:tl=List.range' n (ops.size-n)) :
  ∀(plan:Ord) (f:Nat) (seen:List Nat) (q:IG) (listed:Array Bool) (e:Env) (bx:Bx) (σ:Hp) (a:Act) (w:World),HeadInv .any ops n listed→M6 ops n plan f listed seen=true→
   St g.n g.ds w0 F e bx σ a w→JS g ops plan q e bx σ (fun e bx σ=>Seq g ops tl e bx σ K)→
   (∀j∈seen,j∈Region.ready .any ops listed→j<n∧wpOpIn (wd g.GK) 0 g.P ops (Qn g w0 F K) j (fun a' w'=>Sq q σ bx (listed.setIfInBounds j true) w'∧
    Fv g.P g.GK .any ops (Qn g w0 F K) (Sq q σ bx) n (fun listed a w=>Region.seqB .any ops (ops.size-n) n listed=true∧wpOpsIn (wd g.GK) 0 g.P ops (Qn g w0 F K) tl a w) (f-1) (listed.setIfInBounds j true) a' w') a w)→
   Fv g.P g.GK .any ops (Qn g w0 F K) (Sq q σ bx) n (fun listed a w=>Region.seqB .any ops (ops.size-n) n listed=true∧wpOpsIn (wd g.GK) 0 g.P ops (Qn g w0 F K) tl a w) f listed a w
 | .done,f,seen,_,listed,e,bx,σ,a,w,_,CH,st,h,_=>by
  simp only[M6,AWv,AW6]at CH;obtain⟨⟨rfl,_⟩,CH⟩:=CH;exact⟨CH,Kn _ _ _ _ _ _ st h⟩
 | .yes i r,f,seen,q,listed,e,bx,σ,a,w,inv,CH,st,h,_=>by
  obtain⟨own,o,v,zT,ho,hy,hd,h⟩:=h;simp only[AWv]at zT;simp only[M6,AWv,AW6]at CH;obtain⟨⟨⟨⟨⟨_,hf0⟩,Q7⟩,hr⟩,hf⟩,CH⟩:=CH;obtain⟨f,rfl⟩:∃f',f=f'+1:=⟨f-1,by omega⟩;have RZ:i∈Region.ready .any ops listed:=by simpa using hr
  refine EI (S':=Sq (LY q own) σ bx) (G:=fun _=>True) (fun _ _ _=>trivial) (fun _ _ _ h=>h.less) _ _ _ _ trivial ?_;refine Ls (Sy:=fun w=>Sat (MR q own σ) w∧Hc bx w) ho (Region.noSelect_spec MT) ?_ GN (Sq.set zT.1) (fun listed w inv Uc h=>Sq.own inv Uc zT.2 h) Q7 ?_ _ listed a w inv (Region.free_spec ho hf) RZ ?_ (Sq.of st.sat st.box)
   (G4 MT GN fS r f [] _ _ _ _ _ _ _ (inv.set RZ Q7) CH (st.put o.dst v hd) h (fun j hj=>by cases hj))
  ·rintro c a w ⟨⟨h0,h1⟩,h2⟩
   exact⟨⟨h0,by cases JP:o.dst<;>simpa[Act.put,JP] using h1⟩,h2⟩
  ·intro listed a w hL;exact seqB_ready hL.1
  ·rcases hy with ⟨hw,hy⟩|⟨hw,rfl⟩
   ·exact .inl ⟨by rw[st.wanted];exact hw,fun w hS=>by rw[st.eval];exact hy o rfl rfl w hS.1 hS.2⟩
   ·exact .inr ⟨by rw[st.wanted];exact hw,rfl⟩
 | .alt i r s,f,seen,q,listed,e,bx,σ,a,w,inv,CH,st,h,mC=>by
  obtain⟨h,hs⟩:=h;simp only[M6,AWv,AW6]at CH;obtain⟨⟨⟨⟨hf0,Q7⟩,hr⟩,CH⟩,mD⟩:=CH;have RZ:i∈Region.ready .any ops listed:=by simpa using hr
  refine G4 MT GN fS s f (i::seen) q listed e bx σ a w inv mD st hs (fun j hj hjr=>?_);rcases AWo.1 hj with rfl|hj
  ·refine⟨Q7,wpOpIn_mono ?_ (bj (Q:=Qx g w0 F) (fun c a w h=>h) (fun a w h=>h.elim) (h w0 F a w st))⟩
   rintro a' w' ⟨e',Fq,σ',Ko,hk,h'⟩
   have hl:(listed.setIfInBounds j true).getD j false=true:=by
    have Am:j<listed.size:=by rw[inv.size];obtain⟨_,o,ho,_⟩:=mem_ready.1 RZ;exact(AW3.1 ho).1
    simp[Am]
   exact⟨Sq.WO hl hk (Sq.of Ko.sat Ko.box),EI (S':=Sq (FH q j) σ' Fq) (G:=fun l=>l.getD j false=true) (fun _ _ h=>getD_set_true h) (fun _ _ hg h=>Sq.WO hg hk h) _ _ _ _ hl
    (G4 MT GN fS r (f-1) [] _ _ _ _ _ _ _ (inv.set RZ Q7) CH Ko h' (fun j hj=>by cases hj))⟩
  ·exact mC j hj hjr
 | .no,f,seen,q,listed,e,bx,σ,a,w,inv,CH,st,h,mC=>by
  simp only[M6,AWv,AW6]at CH;obtain⟨⟨hf0,Ay⟩,JF⟩:=CH;obtain⟨f,rfl⟩:∃f',f=f'+1:=⟨f-1,by omega⟩;exact⟨fun h0=>(by rw[h0]at Ay;cases Ay),fun j hj=>mC j (by simpa using AXj.1 JF j hj) hj⟩
theorem At.AEe {k:List Item}{e:Env}{bx:Bx}{σ:Hp}{c:Code}{id:Nat}{n:Nat}{q:IG}{plan:Ord}{tl:List Nat}(hm:g.P.follows .mixedOrders=true)(hc:c=.region id ops true)
  (hp:WS ops n plan tl=true)
  (h:JS g ops plan q e bx σ (fun e bx σ=>Seq g ops tl e bx σ (fun e bx σ=>At g k e bx σ))):At g (.code c::k) e bx σ:=fun w0 F a w st=>by
 subst hc;simp only[WS,AWv,AYa,AW6]at hp;obtain⟨⟨⟨MT,hn⟩,fS⟩,CH⟩:=hp;have hn':n≤ops.size:=by rcases hn with h|h<;>omega
 have GN:∀listed,HeadInv .any ops n listed→∀i,i<n→listed.getD i true=false→∀t,n≤t→t ∉ Region.ready .any ops listed:=by
  intro listed inv i hi Uc t ht;rcases hn with h|⟨⟨h1,h2⟩,h3⟩
  ·intro hr;obtain⟨_,o,ho,_⟩:=mem_ready.1 hr;have:=(AW3.1 ho).1;omega
  ·exact tail_waits h2 h3 h1 inv _ i rfl hi Uc t ht
 have zU:HeadInv .any ops n (Array.replicate ops.size false):=
  ⟨by simp,fun j oj _ hl=>(by rw[getD_replicate_false]at hl;cases hl),fun t _ ht=>getD_in (by simpa using ht) (getD_replicate_false _ _)⟩
 refine HG.of_wp (K:=fun e bx σ=>At g k e bx σ) (wpIn_region_any hm ?_) (fun _ _ _ h=>h);have H:=G4 (K:=fun e bx σ=>At g k e bx σ) (tl:=tl) MT GN fS plan n [] q (Array.replicate ops.size false) e bx σ a { w with drawn:=w.drawn+1 } zU CH st.drew h (fun j hj=>by cases hj);have:=GL (g:=ops.size-n) (fun listed a w hL=>HH _ _ listed a w hL.1 (fS▸hL.2)) _ _ _ _ H;rw[show n+(ops.size-n)=ops.size by omega]at this;exact this
end regions
end Tw
namespace Tw
open Go
section
variable {g:Gl}{ops:Array Oper}{i:Nat}{r s:Ord}{q:IG}{e:Env}{bx:Bx}{σ:Hp}{K:Env→Bx→Hp→Prop}{d:Option Nat}{op:Op}{ty:TypeId}{gd:Option (Nat×Bool)}{v:Value}{L:List (Nat×List Nat)}
end
end Tw
end
section
namespace Tw
open Go
variable [Ei]
def nth {α:Type}(d:α):List α→Nat→α
 | [],_=>d
 | x::_,0=>x
 | _::l,n+1=>nth d l n
theorem Ks {α:Type}{d:α}:∀{l m:List α} {i:Nat},i<l.length→nth d (l++m) i=nth d l i
 | x::l,m,0,_=>rfl
 | x::l,m,i+1,h=>by simp only[AXb,nth];exact Ks (by simpa using h)
theorem Kt {α:Type}{d x:α}:∀{l:List α},nth d (l++[x]) l.length=x
 | []=>rfl
 | _::l=>Kt (l:=l)
inductive BK where
 | prop (P:Prop) (i:Decidable P)
 | var (b:Bool)
def BK.val:BK→Bool
 | .prop P i=>@decide P i
 | .var b=>b
def BK.yes:BK→Prop
 | .prop P _=>P
 | .var b=>b=true
def BK.no:BK→Prop
 | .prop P _=>¬P
 | .var b=>b=false
theorem BK.mE {k:BK}(h:k.val=true):k.yes:=by
 cases k with
 | prop P i=>exact @AWr P i h
 | var b=>exact h
theorem BK.xI {k:BK}(h:k.val=false):k.no:=by
 cases k with
 | prop P i=>exact @AW2 P i h
 | var b=>exact h
structure Vl where
 ρ:List (Option Addr)
 β:List BK
 δ:List Nat
inductive PV where
 | lit (p:Option Addr)
 | var (i:Nat)
 | at (b o:Nat)
 | bx (i o:Nat)
def PV.den (v:Vl):PV→Option Addr
 | .lit p=>p
 | .var i=>nth none v.ρ i
 | .at b o=>some ⟨b,o,none⟩
 | .bx i o=>some ⟨nth 0 v.δ i,o,none⟩
def PV.ok (v:Vl):PV→Bool
 | .var i=>Nat.blt i v.ρ.length
 | .bx i _=>Nat.blt i v.δ.length
 | _=>true
inductive Bg where
 | int (k:IntKind) (x:Int)
 | num (k:IntKind) (x:Int)
 | bl (b:Bool)
 | bs (i:Nat) (neg:Bool)
 | str (s:ByteArray)
 | sl (p:PV) (n c:Nat)
 | pt (p:PV)
 | fn (f:Nat) (fst cap:Array Value)
 | mp (m:Option Nat)
 | un
 | raw (v:Value)
def Bg.den (v:Vl):Bg→Value
 | .int k x=>.int k x
 | .num k x=>.int k x
 | .bl b=>.bool b
 | .bs i false=>.bool (nth (.var false) v.β i).val
 | .bs i true=>.bool (!(nth (.var false) v.β i).val)
 | .str s=>.string s
 | .sl p n c=>.slice (p.den v) n c
 | .pt p=>.pointer (p.den v)
 | .fn f a b=>.func (.func f) a b
 | .mp m=>.map m
 | .un=>undef
 | .raw x=>x
def Bg.ok (v:Vl):Bg→Bool
 | .bs i _=>Nat.blt i v.β.length
 | .sl p _ _=>p.ok v
 | .pt p=>p.ok v
 | _=>true
inductive F5 where
 | a (x:Bg)
 | agg (l:List Bg)
def A6 (v:Vl):List Bg→List Value
 | []=>[]
 | x::l=>x.den v::A6 v l
def zr (v:Vl):List Bg→Bool
 | []=>true
 | x::l=>x.ok v&&zr v l
def F5.den (v:Vl):F5→Value
 | .a x=>x.den v
 | .agg l=>.agg (A6 v l).toArray
def F5.ok (v:Vl):F5→Bool
 | .a x=>x.ok v
 | .agg l=>zr v l
inductive SV where
 | v (x:F5)
 | VH (l:List F5)
def G5 (v:Vl):List F5→List Value
 | []=>[]
 | x::l=>x.den v::G5 v l
def iz (v:Vl):List F5→Bool
 | []=>true
 | x::l=>x.ok v&&iz v l
def SV.den (v:Vl):SV→Value
 | .v x=>x.den v
 | .VH l=>.tuple (G5 v l).toArray
def SV.ok (v:Vl):SV→Bool
 | .v x=>x.ok v
 | .VH l=>iz v l
abbrev SV.at (x:Bg):SV:=.v (.a x)
structure Vl.le (v w:Vl):Prop where
 ρ:∀i,i<v.ρ.length→nth none w.ρ i=nth none v.ρ i
 β:∀i,i<v.β.length→nth (.var false) w.β i=nth (.var false) v.β i
 δ:∀i,i<v.δ.length→nth 0 w.δ i=nth 0 v.δ i
theorem Vl.le.refl (v:Vl):v.le v:=⟨fun _ _=>rfl,fun _ _=>rfl,fun _ _=>rfl⟩
theorem PV.HK {v w:Vl}(h:v.le w){p:PV}(hp:p.ok v=true):p.den w=p.den v:=by
 cases p with
 | var i=>exact h.ρ i (AXZ hp)
 | bx i o=>simp only[PV.den];rw[h.δ i (AXZ hp)]
 | _=>rfl
theorem Bg.HK {v w:Vl}(h:v.le w){x:Bg}(hp:x.ok v=true):x.den w=x.den v:=by
 cases x with
 | bs i n=>cases n<;>simp only[Bg.den]<;>rw[h.β i (AXZ hp)]
 | sl p n c=>simp only[Bg.den];rw[PV.HK h hp]
 | pt p=>simp only[Bg.den];rw[PV.HK h hp]
 | _=>rfl
theorem RB {v w:Vl}(h:v.le w):∀{l:List Bg},zr v l=true→A6 w l=A6 v l
 | [],_=>rfl
 | x::l,hp=>by
  simp only[zr,AWv]at hp;simp only[A6];rw[Bg.HK h hp.1,RB h hp.2]
theorem F5.HK {v w:Vl}(h:v.le w){x:F5}(hp:x.ok v=true):x.den w=x.den v:=by
 cases x with
 | a x=>exact Bg.HK h hp
 | agg l=>simp only[F5.den];rw[RB h hp]
theorem Xs {v w:Vl}(h:v.le w):∀{l:List F5},iz v l=true→G5 w l=G5 v l
 | [],_=>rfl
 | x::l,hp=>by
  simp only[iz,AWv]at hp;simp only[G5];rw[F5.HK h hp.1,Xs h hp.2]
theorem SV.HK {v w:Vl}(h:v.le w){x:SV}(hp:x.ok v=true):x.den w=x.den v:=by
 cases x with
 | v x=>exact F5.HK h hp
 | VH l=>simp only[SV.den];rw[Xs h hp]
def PV.sub (i b o:Nat):PV→PV
 | .var j=>bif Nat.beq j i then .at b o else .var j
 | p=>p
inductive GY where
 | ptr (i b o:Nat)
 | bool (i:Nat) (t:Bool)
def PV.tell:GY→PV→PV
 | .ptr i b o,p=>p.sub i b o
 | .bool ..,p=>p
def Bg.tell (t:GY):Bg→Bg
 | .bs j n=>match t with
  | .bool i b=>bif Nat.beq j i then .bl (bif n then !b else b) else .bs j n
  | _=>.bs j n
 | .sl p n c=>.sl (p.tell t) n c
 | .pt p=>.pt (p.tell t)
 | x=>x
def GY.holds (v:Vl):GY→Prop
 | .ptr i b o=>nth none v.ρ i=some ⟨b,o,none⟩
 | .bool i t=>(nth (.var false) v.β i).val=t
theorem PV.DU {v:Vl}{t:GY}(h:t.holds v){p:PV}:(p.tell t).den v=p.den v:=by
 cases t with
 | bool i t=>rfl
 | ptr i b o=>
  cases p with
  | var j=>
   simp only[PV.tell,PV.sub];cases hj:Nat.beq j i with
   | true=>have:=AXY hj;subst this;exact h.symm
   | false=>rfl
  | _=>rfl
theorem Bg.DU {v:Vl}{t:GY}(h:t.holds v){x:Bg}:(x.tell t).den v=x.den v:=by
 cases x with
 | bs j n=>
  cases t with
  | ptr i b o=>rfl
  | bool i b=>
   simp only[Bg.tell];cases hj:Nat.beq j i with
   | true=>
    have:=AXY hj;subst this;simp only[GY.holds]at h;cases n<;>simp only[Bg.den,AYu,AYw,h]
   | false=>rfl
 | sl p n c=>simp only[Bg.tell,Bg.den];rw[PV.DU h]
 | pt p=>simp only[Bg.tell,Bg.den];rw[PV.DU h]
 | _=>rfl
def tells (t:GY):List Bg→List Bg
 | []=>[]
 | x::l=>x.tell t::tells t l
theorem PJ {v:Vl}{t:GY}(h:t.holds v):∀{l:List Bg},A6 v (tells t l)=A6 v l
 | []=>rfl
 | x::l=>by simp only[tells,A6];rw[Bg.DU h,PJ h]
def F5.tell (t:GY):F5→F5
 | .a x=>.a (x.tell t)
 | .agg l=>.agg (tells t l)
theorem F5.DU {v:Vl}{t:GY}(h:t.holds v){x:F5}:(x.tell t).den v=x.den v:=by
 cases x with
 | a x=>exact Bg.DU h
 | agg l=>simp only[F5.tell,F5.den];rw[PJ h]
def WT (t:GY):List F5→List F5
 | []=>[]
 | x::l=>x.tell t::WT t l
theorem Rf {v:Vl}{t:GY}(h:t.holds v):∀{l:List F5},G5 v (WT t l)=G5 v l
 | []=>rfl
 | x::l=>by simp only[WT,G5];rw[F5.DU h,Rf h]
def SV.tell (t:GY):SV→SV
 | .v x=>.v (x.tell t)
 | .VH l=>.VH (WT t l)
theorem SV.DU {v:Vl}{t:GY}(h:t.holds v){x:SV}:(x.tell t).den v=x.den v:=by
 cases x with
 | v x=>exact F5.DU h
 | VH l=>simp only[SV.tell,SV.den];rw[Rf h]
abbrev E1:=Nat×TypeId×List Bg
structure S where
 env:List (Nat×SV)
 bx:List E1
 vl:Vl
 σ:Hp
def Gt (v:Vl):List (Nat×SV)→List (Nat×Value)
 | []=>[]
 | (t,x)::l=>(t,x.den v)::Gt v l
def okE (v:Vl):List (Nat×SV)→Bool
 | []=>true
 | (_,x)::l=>x.ok v&&okE v l
def fW (t:GY):List (Nat×SV)→List (Nat×SV)
 | []=>[]
 | (s,x)::l=>(s,x.tell t)::fW t l
def EL (v:Vl):List E1→Bx
 | []=>[]
 | (i,t,cs)::l=>(nth 0 v.δ i,.cells (A6 v cs).toArray t (0,0))::EL v l
def okB (v:Vl):List E1→Bool
 | []=>true
 | (i,_,cs)::l=>Nat.blt i v.δ.length&&zr v cs&&okB v l
def fX (t:GY):List E1→List E1
 | []=>[]
 | (i,T,cs)::l=>(i,T,tells t cs)::fX t l
def S.e (J:Env)(s:S):Env:=Hd J (Gt s.vl s.env)
def S.b (s:S):Bx:=EL s.vl s.bx
def S.ok (s:S):Bool:=okE s.vl s.env&&okB s.vl s.bx
def S.tell (s:S)(t:GY):S:=⟨fW t s.env,fX t s.bx,s.vl,s.σ⟩
def S.w (s:S)(v:Vl):S:=⟨s.env,s.bx,v,s.σ⟩
def S.put (s:S)(d:Option Nat)(x:SV):S:=match d with
 | some d=>⟨(d,x)::s.env,s.bx,s.vl,s.σ⟩
 | none=>s
def S.hp (s:S)(σ:Hp):S:=⟨s.env,s.bx,s.vl,σ⟩
theorem fY {v w:Vl}(h:v.le w):∀{l:List (Nat×SV)},okE v l=true→Gt w l=Gt v l
 | [],_=>rfl
 | (t,x)::l,hp=>by
  simp only[okE,AWv]at hp;simp only[Gt];rw[SV.HK h hp.1,fY h hp.2]
theorem fZ {v w:Vl}(h:v.le w):∀{l:List E1},okB v l=true→EL w l=EL v l
 | [],_=>rfl
 | (i,t,cs)::l,hp=>by
  simp only[okB,AWv]at hp;simp only[EL];rw[RB h hp.1.2,fZ h hp.2,h.δ i (AXZ hp.1.1)]
theorem VI {v:Vl}{t:GY}(h:t.holds v):∀{l:List (Nat×SV)},Gt v (fW t l)=Gt v l
 | []=>rfl
 | (s,x)::l=>by simp only[fW,Gt];rw[SV.DU h,VI h]
theorem VJ {v:Vl}{t:GY}(h:t.holds v):∀{l:List E1},EL v (fX t l)=EL v l
 | []=>rfl
 | (i,T,cs)::l=>by simp only[fX,EL];rw[PJ h,VJ h]
theorem S.e_w {J:Env}{s:S}{v:Vl}(hs:s.ok=true)(h:s.vl.le v):(s.w v).e J=s.e J:=by
 simp only[S.ok,AWv]at hs;simp only[S.e,S.w,fY h hs.1]
theorem S.b_w {s:S}{v:Vl}(hs:s.ok=true)(h:s.vl.le v):(s.w v).b=s.b:=by
 simp only[S.ok,AWv]at hs;simp only[S.b,S.w,fZ h hs.2]
theorem S.zt {J:Env}{s:S}{t:GY}(h:t.holds s.vl):(s.tell t).e J=s.e J:=by
 simp only[S.e,S.tell,VI h]
theorem S.zu {s:S}{t:GY}(h:t.holds s.vl):(s.tell t).b=s.b:=by
 simp only[S.b,S.tell,VJ h]
theorem S.Hg {J:Env}{s:S}{d:Option Nat}{x:SV}:(s.put d x).e J=Tw.put (s.e J) d (x.den s.vl):=by
 cases d<;>rfl
theorem S.Hh {s:S}{d:Option Nat}{x:SV}:(s.put d x).b=s.b:=by cases d<;>rfl
theorem S.E2 {s:S}{d:Option Nat}{x:SV}:(s.put d x).σ=s.σ:=by cases d<;>rfl
def WU:List (Nat×SV)→Nat→Option SV
 | [],_=>none
 | (t,x)::l,i=>bif Nat.beq i t then some x else WU l i
theorem D4 {v:Vl}{J:Env}:∀{l:List (Nat×SV)} {i:Nat} {x:SV},WU l i=some x→Hd J (Gt v l) i=x.den v
 | (t,y)::l,i,x,h=>by
  simp only[WU]at h;simp only[Gt,Hd,sb];cases hi:Nat.beq i t with
  | true=>rw[hi]at h;simp only[AYu]at h ⊢;cases h;rfl
  | false=>rw[hi]at h;simp only[AYw]at h ⊢;exact D4 h
def zv:Value→Bg
 | .int k x=>.num k x
 | .bool b=>.bl b
 | .string s=>.str s
 | .slice p n c=>.sl (.lit p) n c
 | .pointer p=>.pt (.lit p)
 | .map m=>.mp m
 | v=>.raw v
theorem Xt {vl:Vl}(v:Value):(zv v).den vl=v:=by cases v<;>rfl
def QC:List Value→List Bg
 | []=>[]
 | x::l=>zv x::QC l
theorem Hi {vl:Vl}:∀l:List Value,A6 vl (QC l)=l
 | []=>rfl
 | x::l=>by simp only[QC,A6];rw[Xt,Hi]
def mF:Value→F5
 | .agg cs=>.agg (QC cs.toList)
 | v=>.a (zv v)
theorem Xu {vl:Vl}(v:Value):(mF v).den vl=v:=by
 cases v
 case agg cs=>simp only[mF,F5.den,Hi]
 all_goals (simp only[mF,F5.den];exact Xt _)
def fa:List Value→List F5
 | []=>[]
 | x::l=>mF x::fa l
theorem VK {vl:Vl}:∀l:List Value,G5 vl (fa l)=l
 | []=>rfl
 | x::l=>by simp only[fa,G5];rw[Xu,VK]
def svV:Value→SV
 | .tuple vs=>.VH (fa vs.toList)
 | v=>.v (mF v)
theorem tY {vl:Vl}(v:Value):(svV v).den vl=v:=by
 cases v
 case tuple cs=>simp only[svV,SV.den,VK]
 all_goals (simp only[svV,SV.den];exact Xu _)
def S.op (s:S):Operand→Option SV
 | .tmp t=>WU s.env t
 | .const v=>some (svV v)
 | .func f=>some (.at (.fn f #[] #[]))
 | .global g=>some (.at (.pt (.at g 0)))
theorem S.tZ {J:Env}{s:S}{x:Operand}{v:SV}(h:s.op x=some v):AB (s.e J) x=v.den s.vl:=by
 cases x with
 | tmp t=>exact D4 h
 | const c=>simp only[S.op,AWp]at h;subst h;exact(tY c).symm
 | func f=>simp only[S.op,AWp]at h;subst h;rfl
 | global g=>simp only[S.op,AWp]at h;subst h;rfl
def Vl.mG (v:Vl)(p:Option Addr):Vl:=⟨v.ρ++[p],v.β,v.δ⟩
def Vl.b0 (v:Vl)(k:BK):Vl:=⟨v.ρ,v.β++[k],v.δ⟩
def Vl.te (v:Vl)(b:Nat):Vl:=⟨v.ρ,v.β,v.δ++[b]⟩
theorem Vl.tf (v:Vl)(p:Option Addr):v.le (v.mG p):=⟨fun _ h=>Ks h,fun _ _=>rfl,fun _ _=>rfl⟩
theorem Vl.fc (v:Vl)(k:BK):v.le (v.b0 k):=⟨fun _ _=>rfl,fun _ h=>Ks h,fun _ _=>rfl⟩
theorem Vl.tg (v:Vl)(b:Nat):v.le (v.te b):=⟨fun _ _=>rfl,fun _ _=>rfl,fun _ h=>Ks h⟩
theorem Vl.le.trans {u v w:Vl}(h:u.le v)(g:v.le w)(hl:u.ρ.length≤v.ρ.length∧u.β.length≤v.β.length∧u.δ.length≤v.δ.length):u.le w:=
 ⟨fun i hi=>(g.ρ i (by omega)).trans (h.ρ i hi),fun i hi=>(g.β i (by omega)).trans (h.β i hi),fun i hi=>(g.δ i (by omega)).trans (h.δ i hi)⟩
end Tw
end
section
namespace Tw
open Go
variable [Ei]
structure S.Hj (s s':S):Prop where
 e:∀J,s'.e J=s.e J
 b:s'.b=s.b
 σ:s'.σ=s.σ
theorem S.Hj.refl (s:S):s.Hj s:=⟨fun _=>rfl,rfl,rfl⟩
theorem S.Hj.trans {s s' s'':S}(h:s.Hj s')(g:s'.Hj s''):s.Hj s'':=⟨fun J=>(g.e J).trans (h.e J),g.b.trans h.b,g.σ.trans h.σ⟩
theorem S.Rh {s:S}{v:Vl}(hs:s.ok=true)(h:s.vl.le v):s.Hj (s.w v):=⟨fun J=>S.e_w hs h,S.b_w hs h,rfl⟩
theorem S.Hk {s:S}{t:GY}(h:t.holds s.vl):s.Hj (s.tell t):=⟨fun J=>S.zt h,S.zu h,rfl⟩
def S.boo (s:S)(k:BK)(neg:Bool)(K:SV→S→Prop):Prop:=
 match s.ok with
 | true=>K (.at (.bs s.vl.β.length neg)) (s.w (s.vl.b0 k))
 | false=>False
theorem S.jA {s:S}{k:BK}{neg:Bool}{K:SV→S→Prop}(h:s.boo k neg K):∃v s',s.Hj s'∧v.den s'.vl=.bool (bif neg then !k.val else k.val)∧K v s':=by
 unfold S.boo at h;cases hs:s.ok with
 | false=>rw[hs]at h;cases h
 | true=>
  rw[hs]at h;refine⟨_,_,S.Rh hs (Vl.fc _ _),?_,h⟩;cases neg<;>simp only[SV.den,F5.den,Bg.den,S.w,Vl.b0,Kt,AYu,AYw]
def S.onB (s:S)(i:Nat)(neg:Bool)(K:Bool→S→Prop):Prop:=
 match neg with
 | false=>((nth (.var false) s.vl.β i).yes→K true (s.tell (.bool i true)))∧((nth (.var false) s.vl.β i).no→K false (s.tell (.bool i false)))
 | true=>((nth (.var false) s.vl.β i).no→K true (s.tell (.bool i false)))∧((nth (.var false) s.vl.β i).yes→K false (s.tell (.bool i true)))
theorem S.jB {s:S}{i:Nat}{neg:Bool}{K:Bool→S→Prop}(h:s.onB i neg K):∃t s',s.Hj s'∧s'.vl=s.vl∧(Bg.bs i neg).den s.vl=.bool t∧K t s':=by
 cases hb:(nth (.var false) s.vl.β i).val with
 | true=>
  cases neg with
  | false=>exact⟨true,_,S.Hk (t:=.bool i true) hb,rfl,by simp only[Bg.den,hb],h.1 (BK.mE hb)⟩
  | true=>exact⟨false,_,S.Hk (t:=.bool i true) hb,rfl,by simp only[Bg.den,hb];rfl,h.2 (BK.mE hb)⟩
 | false=>
  cases neg with
  | false=>exact⟨false,_,S.Hk (t:=.bool i false) hb,rfl,by simp only[Bg.den,hb],h.2 (BK.xI hb)⟩
  | true=>exact⟨true,_,S.Hk (t:=.bool i false) hb,rfl,by simp only[Bg.den,hb];rfl,h.1 (BK.xI hb)⟩
def S.th (s:S)(v:Option SV)(K:Bool→S→Prop):Prop:=
 match v with
 | some (.v (.a (.bl b)))=>K b s
 | some (.v (.a (.bs i n)))=>s.onB i n K
 | _=>False
theorem S.E3 {s:S}{v:Option SV}{K:Bool→S→Prop}(h:s.th v K):∃t s' x,s.Hj s'∧s'.vl=s.vl∧v=some x∧x.den s.vl=.bool t∧K t s':=by
 unfold S.th at h;split at h
 ·exact⟨_,s,_,.refl s,rfl,rfl,rfl,h⟩
 ·obtain⟨t,s',h1,h2,h3,h4⟩:=S.jB h;exact⟨t,s',_,h1,h2,rfl,h3,h4⟩
 ·cases h
def S.onP (s:S)(p:PV)(K:PV→S→Prop):Prop:=
 match p with
 | .at b o=>K (.at b o) s
 | .bx i o=>K (.bx i o) s
 | .var i=>∃(b o:Nat),nth none s.vl.ρ i=some ⟨b,o,none⟩∧K (.at b o) (s.tell (.ptr i b o))
 | .lit _=>False
def PV.Ri (v:Vl):PV→Nat
 | .at b _=>b
 | .bx i _=>nth 0 v.δ i
 | _=>0
def PV.off:PV→Nat
 | .at _ o=>o
 | .bx _ o=>o
 | _=>0
def PV.mv:PV→Nat→PV
 | .at b _,o=>.at b o
 | .bx i _,o=>.bx i o
 | p,_=>p
def PV.zw:PV→Bool
 | .at ..=>true
 | .bx ..=>true
 | _=>false
theorem PV.IP {v:Vl}{p:PV}(h:p.zw=true):p.den v=some ⟨p.Ri v,p.off,none⟩:=by cases p<;>first|rfl|cases h
theorem PV.cC {v:Vl}{p:PV}{o:Nat}(h:p.zw=true):(p.mv o).den v=some ⟨p.Ri v,o,none⟩:=by cases p<;>first|rfl|cases h
theorem S.VL {s:S}{p:PV}{K:PV→S→Prop}(h:s.onP p K):∃q s',s.Hj s'∧s'.vl=s.vl∧q.zw=true∧q.den s.vl=p.den s.vl∧K q s':=by
 unfold S.onP at h;split at h
 ·exact⟨_,s,.refl s,rfl,rfl,rfl,h⟩
 ·exact⟨_,s,.refl s,rfl,rfl,rfl,h⟩
 ·obtain⟨b,o,h1,h2⟩:=h;exact⟨.at b o,_,S.Hk (t:=.ptr _ b o) h1,rfl,rfl,h1.symm,h2⟩
 ·cases h
def Xv (P:Program)(t:TypeId):Option Nat:=(P.info? t).map (·.size)
theorem CX {P:Program}{t:TypeId}{n:Nat}(h:Xv P t=some n):∀w,(Go.sizeOf t).run P w=.ok n w:=fun w=>by
 unfold Xv at h;cases hi:P.info? t with
 | none=>rw[hi]at h;cases h
 | some i=>rw[hi]at h;simp only[AXT,AWp]at h;subst h;simp[Go.sizeOf,typeInfo,hi]
def Xw (P:Program)(t:TypeId):Option Bool:=match P.underlying t with
 | some (.struct _)=>some true
 | some (.array _ _)=>some true
 | some _=>some false
 | none=>none
theorem EM {P:Program}{t:TypeId}{b:Bool}(h:Xw P t=some b):∀w,(isAgg t).run P w=.ok b w:=fun w=>by
 unfold Xw at h;cases hi:P.underlying t with
 | none=>rw[hi]at h;cases h
 | some d=>
  rw[hi]at h;cases d<;>simp only[AWp]at h<;>subst h<;>simp[isAgg,run_underlying hi]
def Xb:Option SV→Option (IntKind×Int)
 | some (.v (.a (.int k x)))=>some (k,x)
 | some (.v (.a (.num k x)))=>some (k,x)
 | _=>none
theorem Bq {v:Option SV}{k:IntKind}{x:Int}(h:Xb v=some (k,x)):∃u,v=some u∧∀vl,u.den vl=.int k x:=by
 unfold Xb at h;split at h
 ·cases h;exact⟨_,rfl,fun _=>rfl⟩
 ·cases h;exact⟨_,rfl,fun _=>rfl⟩
 ·cases h
def YP (P:Program)(op:Op)(ty:TypeId)(s:S)(K:SV→S→Prop):Prop:=∃v s',s.Hj s'∧(∀J σ,Yd P (s.e J) s.b σ op ty (v.den s'.vl))∧K v s'
def PK (wr:Bool)(k:IntKind)(z:Int)(s:S)(K:SV→S→Prop):Prop:=
 match wr,k with
 | false,.i64=>AM z∧K (.at (.int .i64 z)) s
 | _,_=>∀x,x=k.wrap z→K (.at (.int k x)) s
theorem WV {wr:Bool}{k:IntKind}{z:Int}{s:S}{K:SV→S→Prop}(h:PK wr k z s K):∃x,x=k.wrap z∧K (.at (.int k x)) s:=by
 unfold PK at h;split at h
 ·exact⟨z,h.1.wrap.symm,h.2⟩
 ·exact⟨_,rfl,h _ rfl⟩
def zx (wr:Bool)(b:BinOp)(k:IntKind)(a:Int)(k':IntKind)(c:Int)(s:S)(K:SV→S→Prop):Prop:=
 match b with
 | .shl=>((0:Int)≤c∧c≤((IntKind.bits k:Nat):Int))∧∀x,x=k.wrap (a*2^c.toNat)→K (.at (.int k x)) s
 | .shr=>((0:Int)≤c∧c≤((IntKind.bits k:Nat):Int))∧∀x,x=a/2^c.toNat→K (.at (.int k x)) s
 | b=>match decide (k=k') with
  | false=>False
  | true=>match b with
   | .lss=>s.boo (.prop (a<c) inferInstance) false K
   | .leq=>s.boo (.prop (a≤c) inferInstance) false K
   | .gtr=>s.boo (.prop (c<a) inferInstance) false K
   | .geq=>s.boo (.prop (c≤a) inferInstance) false K
   | .eql=>s.boo (.prop (a=c) inferInstance) false K
   | .neq=>s.boo (.prop (a≠c) inferInstance) false K
   | .add=>PK wr k (a+c) s K
   | .sub=>PK wr k (a-c) s K
   | .mul=>PK wr k (a*c) s K
   | .and=>∀x,x=Go.bits .and k a c→K (.at (.int k x)) s
   | .or=>∀x,x=Go.bits .or k a c→K (.at (.int k x)) s
   | .xor=>∀x,x=Go.bits .xor k a c→K (.at (.int k x)) s
   | .andNot=>∀x,x=Go.bits .andNot k a c→K (.at (.int k x)) s
   | .quo=>c≠(0:Int)∧∀x,x=k.wrap (a.tdiv c)→K (.at (.int k x)) s
   | .rem=>c≠(0:Int)∧∀x,x=a.tmod c→K (.at (.int k x)) s
   | _=>False
section
variable {P:Program}{s:S}{K:SV→S→Prop}{T T' ty:TypeId}{x y z:Operand}
theorem HL {op:Op}{k:BK}{neg:Bool}(h:s.boo k neg K)(hy:∀J σ,Yd P (s.e J) s.b σ op ty (.bool (bif neg then !k.val else k.val))):YP P op ty s K:=by
 obtain⟨v,s',h1,h2,h3⟩:=S.jA h;exact⟨v,s',h1,fun J σ=>by rw[h2];exact hy J σ,h3⟩
theorem HN {op:Op}{k:IntKind}{z:Int}(h:∀x,x=z→K (.at (.int k x)) s)(hy:∀J σ,Yd P (s.e J) s.b σ op ty (.int k z)):YP P op ty s K:=
 ⟨.at (.int k z),s,.refl s,hy,h _ rfl⟩
theorem BW {op:Op}{v:SV}(h:K v s)(hy:∀J σ,Yd P (s.e J) s.b σ op ty (v.den s.vl)):YP P op ty s K:=⟨v,s,.refl s,hy,h⟩
theorem cD {wr:Bool}{b:BinOp}{k k':IntKind}{a c:Int}(h:zx wr b k a k' c s K)(hx:∀J,AB (s.e J) x=.int k a)(hy:∀J,AB (s.e J) y=.int k' c):YP P (.binOp b T x y T') ty s K:=by
 have ar:∀{z:Int} {op:Op},PK wr k z s K→(∀J σ,Yd P (s.e J) s.b σ op ty (.int k (k.wrap z)))→YP P op ty s K:=fun h hy=>by
  obtain⟨x,rfl,h⟩:=WV h;exact BW h hy
 unfold zx at h;split at h
 ·exact HN h.2 fun J σ=>Y.shl h.1.1 h.1.2 (hx J) (hy J)
 ·exact HN h.2 fun J σ=>Y.shr h.1.1 h.1.2 (hx J) (hy J)
 ·split at h
  ·cases h
  ·rename_i hk;have hk:=AWr hk;subst hk;split at h
   ·exact HL h fun J σ=>Y.lss (hx J) (hy J)
   ·exact HL h fun J σ=>Y.leq (hx J) (hy J)
   ·exact HL h fun J σ=>Y.gtr (hx J) (hy J)
   ·exact HL h fun J σ=>Y.geq (hx J) (hy J)
   ·exact HL h fun J σ=>Y.eql (hx J) (hy J)
   ·exact HL h fun J σ=>Y.neq (hx J) (hy J)
   ·exact ar h fun J σ=>Y.add (hx J) (hy J)
   ·exact ar h fun J σ=>Y.sub (hx J) (hy J)
   ·exact ar h fun J σ=>Y.mul (hx J) (hy J)
   ·exact HN h fun J σ=>Y.bits (by simp) (hx J) (hy J)
   ·exact HN h fun J σ=>Y.bits (by simp) (hx J) (hy J)
   ·exact HN h fun J σ=>Y.bits (by simp) (hx J) (hy J)
   ·exact HN h fun J σ=>Y.bits (by simp) (hx J) (hy J)
   ·exact HN h.2 fun J σ=>Y.quo h.1 (hx J) (hy J)
   ·exact HN h.2 fun J σ=>Y.rem h.1 (hx J) (hy J)
   ·cases h
def asS:Option SV→Option ByteArray
 | some (.v (.a (.str u)))=>some u
 | _=>none
def mH:Option SV→Option PV
 | some (.v (.a (.pt p)))=>some p
 | _=>none
theorem Xx {v:Option SV}{u:ByteArray}(h:asS v=some u):∃w,v=some w∧∀vl,w.den vl=.string u:=by
 unfold asS at h;split at h
 ·cases h;exact⟨_,rfl,fun _=>rfl⟩
 ·cases h
theorem EO {v:Option SV}{p:PV}(h:mH v=some p):∃w,v=some w∧∀vl,w.den vl=.pointer (p.den vl):=by
 unfold mH at h;split at h
 ·cases h;exact⟨_,rfl,fun _=>rfl⟩
 ·cases h
def AEf (b:BinOp)(u w:ByteArray)(s:S)(K:SV→S→Prop):Prop:=
 match b with
 | .eql=>s.boo (.var (ByteArray.toList u==ByteArray.toList w)) false K
 | .neq=>s.boo (.var (ByteArray.toList u==ByteArray.toList w)) true K
 | .add=>(ByteArray.size u+ByteArray.size w≤9223372036854775807)∧K (.at (.str (u++w))) s
 | _=>False
def isNil:PV→Bool
 | .lit none=>true
 | _=>false
def AEg (b:BinOp)(p q:PV)(s:S)(K:SV→S→Prop):Prop:=
 match isNil q with
 | false=>False
 | true=>match b with
  | .eql=>match p.zw with
   | true=>K (.at (.bl false)) s
   | false=>s.boo (.var (Option.isNone (p.den s.vl))) false K
  | .neq=>match p.zw with
   | true=>K (.at (.bl true)) s
   | false=>s.boo (.var (Option.isSome (p.den s.vl))) false K
  | _=>False
def AEh (b:BinOp)(x y:Operand)(s:S)(K:SV→S→Prop):Prop:=
 match b with
 | .eql=>s.th (s.op x) fun t s=>s.th (s.op y) fun u s=>K (.at (.bl (t==u))) s
 | .neq=>s.th (s.op x) fun t s=>s.th (s.op y) fun u s=>K (.at (.bl (!(t==u)))) s
 | _=>False
def zy (P:Program)(wr:Bool)(b:BinOp)(T:TypeId)(x y:Operand)(s:S)(K:SV→S→Prop):Prop:=
 match Xb (s.op x),Xb (s.op y) with
 | some (k,a),some (k',c)=>zx wr b k a k' c s K
 | _,_=>match P.underlying T with
  | some .string=>match asS (s.op x),asS (s.op y) with
   | some u,some w=>AEf b u w s K
   | _,_=>False
  | some (.pointer _)=>match mH (s.op x),mH (s.op y) with
   | some p,some q=>AEg b p q s K
   | _,_=>False
  | some .bool=>AEh b x y s K
  | _=>False
theorem ev {J:Env}{v:SV}(h:s.op x=some v):AB (s.e J) x=v.den s.vl:=S.tZ h
theorem cE {wr:Bool}{b:BinOp}(h:zy P wr b T x y s K):YP P (.binOp b T x y T') ty s K:=by
 unfold zy at h;split at h
 ·rename_i k a k' c h1 h2;obtain⟨u,e1,e2⟩:=Bq h1;obtain⟨w,e3,e4⟩:=Bq h2;exact cD h (fun J=>by rw[ev e1,e2]) (fun J=>by rw[ev e3,e4])
 ·split at h
  ·rename_i hT;split at h
   ·rename_i u w h1 h2;obtain⟨_,e1,e2⟩:=Xx h1;obtain⟨_,e3,e4⟩:=Xx h2;unfold AEf at h;split at h
    ·exact HL h fun J σ=>Y.AMM hT (by rw[ev e1,e2]) (by rw[ev e3,e4])
    ·exact HL h fun J σ=>Y.AMN hT (by rw[ev e1,e2]) (by rw[ev e3,e4])
    ·exact BW h.2 fun J σ=>Y.HJ hT (by rw[ev e1,e2]) (by rw[ev e3,e4]) h.1
    ·cases h
   ·cases h
  ·rename_i hT;split at h
   ·rename_i p q h1 h2;obtain⟨_,e1,e2⟩:=EO h1;obtain⟨_,e3,e4⟩:=EO h2;unfold AEg at h;split at h
    ·cases h
    ·rename_i hq;have hqn:q.den s.vl=none:=by
      unfold isNil at hq;split at hq
      ·rfl
      ·cases hq
     have e5:∀J,AB (s.e J) y=.pointer none:=fun J=>by rw[ev e3,e4,hqn]
     split at h
     ·split at h
      ·rename_i hp;exact BW h fun J σ=>by
        have:=Y.ll (P:=P) (e:=s.e J) (bx:=s.b) (σ:=σ) (ty:=ty) (T':=T') hT (x:=x) (y:=y) (q:=p.den s.vl) (by rw[ev e1,e2]) (e5 J);rw[PV.IP hp]at this;exact this
      ·exact HL h fun J σ=>Y.ll hT (by rw[ev e1,e2]) (e5 J)
     ·split at h
      ·rename_i hp;exact BW h fun J σ=>by
        have:=Y.lq (P:=P) (e:=s.e J) (bx:=s.b) (σ:=σ) (ty:=ty) (T':=T') hT (x:=x) (y:=y) (q:=p.den s.vl) (by rw[ev e1,e2]) (e5 J);rw[PV.IP hp]at this;exact this
      ·exact HL h fun J σ=>Y.lq hT (by rw[ev e1,e2]) (e5 J)
     ·cases h
   ·cases h
  ·rename_i hT;unfold AEh at h;split at h
   ·obtain⟨t,s1,v1,h1,h2,h3,h4,h⟩:=S.E3 h;obtain⟨u,s2,v2,g1,g2,g3,g4,h⟩:=S.E3 h;exact⟨_,s2,h1.trans g1,fun J σ=>Y.AMK hT (by rw[ev h3,h4]) (by rw[←h1.e J,ev g3,g4]),h⟩
   ·obtain⟨t,s1,v1,h1,h2,h3,h4,h⟩:=S.E3 h;obtain⟨u,s2,v2,g1,g2,g3,g4,h⟩:=S.E3 h;exact⟨_,s2,h1.trans g1,fun J σ=>Y.AML hT (by rw[ev h3,h4]) (by rw[←h1.e J,ev g3,g4]),h⟩
   ·cases h
  ·cases h
end
def S.val (s:S)(x:Operand)(K:SV→S→Prop):Prop:=match s.op x with
 | some v=>K v s
 | none=>False
def xJ (x y z:Operand)(s:S)(K:SV→S→Prop):Prop:=s.th (s.op z) fun t s=>match t with
 | true=>s.val x K
 | false=>s.val y K
def zz (x:Operand)(s:S)(K:SV→S→Prop):Prop:=match s.op x with
 | some (.v (.a (.bl true)))=>K (.at (.bl false)) s
 | some (.v (.a (.bl false)))=>K (.at (.bl true)) s
 | some (.v (.a (.bs i n)))=>K (.at (.bs i (!n))) s
 | _=>False
def AAA (x:Operand)(s:S)(K:SV→S→Prop):Prop:=match Xb (s.op x) with
 | some (k,a)=>∀x,x=k.wrap (0-a)→K (.at (.int k x)) s
 | none=>False
def mI (P:Program)(T T':TypeId)(x:Operand)(s:S)(K:SV→S→Prop):Prop:=match (P.underlying T).isSome,P.underlying T' with
 | true,some (.int k')=>match s.op x with
  | some (.v (.a (.num k a)))=>K (.at (.num k' (k'.wrap a))) s
  | some (.v (.a (.int k a)))=>∀x,x=k'.wrap a→K (.at (.int k' x)) s
  | _=>False
 | _,_=>False
def AAB (P:Program)(T:TypeId)(x:Operand)(f:Nat)(s:S)(K:SV→S→Prop):Prop:=match P.underlying T with
 | some (.struct fs)=>match fs[f]? with
  | some fd=>match Xv P fd.type,mH (s.op x) with
   | some (_+1),some p=>match p.zw with
    | true=>K (.at (.pt (p.mv (p.off+fd.offset)))) s
    | false=>False
   | _,_=>False
  | none=>False
 | _=>False
def Dk {α:Type}:List α→Nat→Option α
 | [],_=>none
 | x::_,0=>some x
 | _::l,n+1=>Dk l n
def AAC (x:Operand)(i:Nat)(s:S)(K:SV→S→Prop):Prop:=match s.op x with
 | some (.VH l)=>match Dk l i with
  | some u=>K (.v u) s
  | none=>False
 | _=>False
def cG (P:Program)(T:TypeId)(x:Operand)(f:Nat)(s:S)(K:SV→S→Prop):Prop:=match P.underlying T,s.op x with
 | some (.struct fs),some (.v (.agg l))=>match fs[f]? with
  | some fd=>match Xw P fd.type with
   | some false=>match Dk l fd.offset with
    | some u=>K (.at u) s
    | none=>False
   | some true=>match Xv P fd.type with
    | some n=>K (.v (.agg ((l.drop fd.offset).take n))) s
    | none=>False
   | none=>False
  | none=>False
 | _,_=>False
def isNum:Option SV→Bool
 | some (.v (.a (.num _ _)))=>true
 | _=>false
def AAD (P:Program)(T:TypeId)(x y:Operand)(s:S)(K:SV→S→Prop):Prop:=match Xb (s.op y) with
 | none=>False
 | some (_,i)=>match P.underlying T with
  | some (.slice E)=>match Xv P E,s.op x with
   | some z,some (.v (.a (.sl p n c)))=>s.onP p fun q s=>((0:Int)≤i∧i<((n:Nat):Int))∧K (.at (.pt (q.mv (q.off+i.toNat*z)))) s
   | _,_=>False
  | some (.array n E)=>match Xv P E,mH (s.op x) with
   | some z,some p=>match p.zw with
    | false=>False
    | true=>match isNum (s.op y) with
     | true=>match decide (0≤i∧i<(n:Int)) with
      | true=>K (.at (.pt (p.mv (p.off+i.toNat*z)))) s
      | false=>False
     | false=>((0:Int)≤i∧i<((n:Nat):Int))∧K (.at (.pt (p.mv (p.off+i.toNat*z)))) s
   | _,_=>False
  | _=>False
def Xy:List Bg→Option (List ByteArray)
 | []=>some []
 | .str w::l=>match Xy l with
  | some r=>some (w::r)
  | none=>none
 | _::_=>none
def mJ (P:Program)(T:TypeId)(x y:Operand)(s:S)(K:SV→S→Prop):Prop:=match P.underlying T,s.op x,Xb (s.op y) with
 | some .string,some (.v (.a (.str w))),some (_,i)=>∃u:UInt8,(0:Int)≤i∧(ByteArray.data w)[Int.toNat i]?=some u∧K (.at (.int .u8 ((UInt8.toNat u:Nat):Int))) s
 | some (.array n E),some (.v (.agg l)),some (_,i)=>match Xw P E,Xv P E,Xy l with
  | some false,some 1,some r=>((0:Int)≤i∧i<((n:Nat):Int))∧∃u:ByteArray,r[Int.toNat i]?=some u∧K (.at (.str u)) s
  | _,_,_=>False
 | _,_,_=>False
def AAE (x:Operand)(s:S)(K:SV→S→Prop):Prop:=match s.op x with
 | some (.v (.a (.fn f a b)))=>K (.at (.fn f a b)) s
 | some (.v (.a (.pt p)))=>s.onP p fun q s=>K (.at (.pt q)) s
 | _=>False
def S.WW (s:S):List Operand→Option (List SV)
 | []=>some []
 | x::l=>match s.op x,s.WW l with
  | some v,some r=>some (v::r)
  | _,_=>none
def CJ (vl:Vl):List SV→List Value
 | []=>[]
 | x::l=>x.den vl::CJ vl l
def AAF (fn:Fn)(xs ys:Array Operand)(s:S)(K:SV→S→Prop):Prop:=match fn with
 | .func f=>match s.WW xs.toList,s.WW ys.toList with
  | some a,some b=>K (.at (.fn f (CJ s.vl a).toArray (CJ s.vl b).toArray)) s
  | _,_=>False
 | _=>False
def cH (P:Program)(T:TypeId)(x:Operand)(s:S)(K:SV→S→Prop):Prop:=match P.underlying T with
 | some d=>match isIf d with
  | false=>match s.op x with
   | some v=>K (.at (.raw (.iface T (v.den s.vl)))) s
   | none=>False
  | true=>False
 | none=>False
def AAG (P:Program)(x:Operand)(ts:Array TypeId)(s:S)(K:SV→S→Prop):Prop:=match ts.toList,s.op x with
 | [T],some (.v (.a (.sl _ n _)))=>match P.underlying T with
  | some (.slice _)=>K (.at (.int .i64 ((n:Nat):Int))) s
  | _=>False
 | [T],some (.v (.a (.str w)))=>match P.underlying T with
  | some .string=>K (.at (.int .i64 ((ByteArray.size w:Nat):Int))) s
  | _=>False
 | _,_=>False
def AAH (P:Program)(x:Operand)(ts:Array TypeId)(s:S)(K:SV→S→Prop):Prop:=match ts.toList,s.op x with
 | [T],some (.v (.a (.sl _ _ c)))=>match P.underlying T with
  | some (.slice _)=>K (.at (.int .i64 ((c:Nat):Int))) s
  | _=>False
 | _,_=>False
section
variable {P:Program}{s:S}{K:SV→S→Prop}{T T' ty:TypeId}{x y z:Operand}
theorem VM {op:Op}(h:s.val x K)(hy:∀v J σ,AB (s.e J) x=v→Yd P (s.e J) s.b σ op ty v):YP P op ty s K:=by
 unfold S.val at h;split at h
 ·rename_i v hv;exact BW h fun J σ=>hy _ J σ (ev hv)
 ·cases h
theorem Xz (h:xJ x y z s K):YP P (.pick z x y) ty s K:=by
 obtain⟨t,s1,v1,h1,h2,h3,h4,h⟩:=S.E3 h;have hz:∀J,AB (s.e J) z=.bool t:=fun J=>by rw[ev h3,h4]
 cases t with
 | true=>
  simp only[S.val]at h;split at h
  ·rename_i v hv;exact⟨v,s1,h1,fun J σ=>Y.xD (hz J) (by rw[←h1.e J];exact ev hv),h⟩
  ·cases h
 | false=>
  simp only[S.val]at h;split at h
  ·rename_i v hv;exact⟨v,s1,h1,fun J σ=>Y.xE (hz J) (by rw[←h1.e J];exact ev hv),h⟩
  ·cases h
theorem cI (h:zz x s K):YP P (.unOp .not T x) ty s K:=by
 unfold zz at h;split at h
 ·rename_i hv;exact BW h fun J σ=>Y.not (p:=true) (by rw[ev hv];rfl)
 ·rename_i hv;exact BW h fun J σ=>Y.not (p:=false) (by rw[ev hv];rfl)
 ·rename_i i n hv;refine BW h fun J σ=>?_;cases n with
  | false=>exact Y.not (by rw[ev hv];rfl)
  | true=>
   have:=Y.not (P:=P) (e:=s.e J) (bx:=s.b) (σ:=σ) (ty:=ty) (T:=T) (x:=x) (p:=!(nth (.var false) s.vl.β i).val) (by rw[ev hv];rfl);rw[Bool.not_not]at this;exact this
 ·cases h
theorem cJ (h:AAA x s K):YP P (.unOp .neg T x) ty s K:=by
 unfold AAA at h;split at h
 ·rename_i k a hv;obtain⟨u,e1,e2⟩:=Bq hv;exact HN h fun J σ=>Y.neg (by rw[ev e1,e2])
 ·cases h
theorem X0 (h:mI P T T' x s K):YP P (.convert T T' x) ty s K:=by
 unfold mI at h;split at h
 ·rename_i h1 h2;split at h
  ·rename_i hv;exact BW h fun J σ=>Y.conv h1 h2 (by rw[ev hv];rfl)
  ·rename_i hv;exact HN h fun J σ=>Y.conv h1 h2 (by rw[ev hv];rfl)
  ·cases h
 ·cases h
theorem cK {f:Nat}(h:AAB P T x f s K):YP P (.fieldAddr T x f) ty s K:=by
 unfold AAB at h;split at h
 ·rename_i fs hT;split at h
  ·rename_i fd hf;split at h
   ·rename_i n p hz hp;split at h
    ·rename_i hA;obtain⟨u,e1,e2⟩:=EO hp;refine BW h fun J σ=>?_;have:=Y.fieldAddr (P:=P) (e:=s.e J) (bx:=s.b) (σ:=σ) (ty:=ty) (x:=x) (a':=⟨p.Ri s.vl,p.off+fd.offset,none⟩) hT hf (CX hz) (by rw[ev e1,e2,PV.IP hA]) rfl;simpa only[SV.den,F5.den,Bg.den,PV.cC hA] using this
    ·cases h
   ·cases h
  ·cases h
 ·cases h
theorem PL {vl:Vl}:∀{l:List Bg} {i:Nat} {u:Bg},Dk l i=some u→(A6 vl l)[i]?=some (u.den vl)
 | x::l,0,u,h=>by simp only[Dk,AWp]at h;subst h;rfl
 | x::l,i+1,u,h=>by simp only[Dk]at h;simp only[A6,AXU];exact PL h
theorem Rj {vl:Vl}:∀{l:List F5} {i:Nat} {u:F5},Dk l i=some u→(G5 vl l)[i]?=some (u.den vl)
 | x::l,0,u,h=>by simp only[Dk,AWp]at h;subst h;rfl
 | x::l,i+1,u,h=>by simp only[Dk]at h;simp only[G5,AXU];exact Rj h
theorem Rk (vl:Vl):∀l:List Bg,A6 vl l=l.map (Bg.den vl)
 | []=>rfl
 | x::l=>by simp only[A6,AXa];rw[Rk vl l]
theorem cL {i:Nat}(h:AAC x i s K):YP P (.extract x i) ty s K:=by
 unfold AAC at h;split at h
 ·rename_i l hv;split at h
  ·rename_i u hu;exact BW h fun J σ=>Y.extract (by rw[ev hv];rfl) (by simpa[SV.den] using Rj hu)
  ·cases h
 ·cases h
theorem WX {f:Nat}(h:cG P T x f s K):YP P (.field T x f) ty s K:=by
 unfold cG at h;split at h
 ·rename_i fs l hT hv;split at h
  ·rename_i fd hf;split at h
   ·rename_i ha;split at h
    ·rename_i u hu;exact BW h fun J σ=>Y.zW hT hf (EM ha) (by rw[ev hv];rfl) (by simpa[SV.den,F5.den] using PL hu)
    ·cases h
   ·rename_i ha;split at h
    ·rename_i n hn;refine BW h fun J σ=>?_;have:=Y.zX (P:=P) (e:=s.e J) (bx:=s.b) (σ:=σ) (ty:=ty) (x:=x) hT hf (EM ha) (CX hn) (cs:=(A6 s.vl l).toArray) (by rw[ev hv];rfl) (cs':=(A6 s.vl ((l.drop fd.offset).take n)).toArray) (by simp[Rk,AZZ]);exact this
    ·cases h
   ·cases h
  ·cases h
 ·cases h
theorem cM (h:AAD P T x y s K):YP P (.indexAddr T x y) ty s K:=by
 unfold AAD at h;split at h
 ·cases h
 ·rename_i k i hi;obtain⟨u,e1,e2⟩:=Bq hi;have hy:∀J,AB (s.e J) y=.int k i:=fun J=>by rw[ev e1,e2]
  split at h
  ·rename_i E hT;split at h
   ·rename_i z p n c hz hv;obtain⟨q,s',h1,h2,h3,h4,h5,h⟩:=S.VL h;refine⟨_,s',h1,fun J σ=>?_,h⟩;have:=Y.idx (P:=P) (e:=s.e J) (bx:=s.b) (σ:=σ) (ty:=ty) (x:=x) (y:=y) (a':=⟨q.Ri s.vl,q.off+i.toNat*z,none⟩) hT (CX hz) (b:=q.Ri s.vl) (o:=q.off) (n:=n) (c:=c) (by
     rw[ev hv];show Value.slice (p.den s.vl) n c=_;rw[←h4,PV.IP h3]) (hy J) h5 rfl
    simpa only[SV.den,F5.den,Bg.den,h2,PV.cC h3] using this
   ·cases h
  ·rename_i n E hT;split at h
   ·rename_i z p hz hp;obtain⟨u2,e3,e4⟩:=EO hp;split at h
    ·cases h
    ·rename_i hA;have go:(0≤i∧i<(n:Int))→K (.at (.pt (p.mv (p.off+i.toNat*z)))) s→YP P (.indexAddr T x y) ty s K:=fun hr hk=>by
      refine BW hk fun J σ=>?_;have:=Y.AMC (P:=P) (e:=s.e J) (bx:=s.b) (σ:=σ) (ty:=ty) (x:=x) (y:=y) (a':=⟨p.Ri s.vl,p.off+i.toNat*z,none⟩) hT (CX hz) (b:=p.Ri s.vl) (o:=p.off) (by rw[ev e3,e4,PV.IP hA]) (hy J) hr rfl;simpa only[SV.den,F5.den,Bg.den,PV.cC hA] using this
     split at h
     ·split at h
      ·rename_i hd;exact go (AWr hd) h
      ·cases h
     ·exact go h.1 h.2
   ·cases h
  ·cases h
theorem VN {vl:Vl}:∀{l:List Bg} {r:List ByteArray},Xy l=some r→A6 vl l=r.map .string
 | [],r,h=>by simp only[Xy,AWp]at h;subst h;rfl
 | x::l,r,h=>by
  cases x<;>simp only[Xy]at h<;>try (cases h;done)
  split at h
  ·rename_i r' h1;cases h;simp only[A6,AXa,VN h1];rfl
  ·cases h
theorem X3 (h:mJ P T x y s K):YP P (.index T x y) ty s K:=by
 unfold mJ at h;split at h
 ·rename_i w k i hT hx hy;obtain⟨u2,e3,e4⟩:=Bq hy;obtain⟨u,h0,h1,h⟩:=h;exact BW h fun J σ=>Y.zZ hT (by rw[ev hx];rfl) (by rw[ev e3,e4]) h0 h1
 ·rename_i n E l k i hT hx hy;obtain⟨u2,e3,e4⟩:=Bq hy;split at h
  ·rename_i r ha hz hr;obtain⟨h0,u,h1,h⟩:=h;refine BW h fun J σ=>Y.zY hT (EM ha) (CX hz) (cs:=(A6 s.vl l).toArray) (by rw[ev hx];rfl) (by rw[ev e3,e4]) h0 ?_;rw[VN hr];simp[h1]
  ·cases h
 ·cases h
theorem cP (h:AAE x s K):YP P (.nilCheck x) ty s K:=by
 unfold AAE at h;split at h
 ·rename_i hv;exact BW h fun J σ=>Y.iw (by rw[ev hv];rfl)
 ·rename_i p hv;obtain⟨q,s',h1,h2,h3,h4,h⟩:=S.VL h;refine⟨_,s',h1,fun J σ=>?_,h⟩;have:=Y.nilCheck (P:=P) (e:=s.e J) (bx:=s.b) (σ:=σ) (ty:=ty) (x:=x) (a:=⟨q.Ri s.vl,q.off,none⟩) (by
   rw[ev hv];show Value.pointer (p.den s.vl)=_;rw[←h4,PV.IP h3])
  simpa only[SV.den,F5.den,Bg.den,h2,PV.IP h3] using this
 ·cases h
theorem Co:∀{l:List Operand} {r:List SV} {J:Env},s.WW l=some r→l.map (AB (s.e J))=CJ s.vl r
 | [],r,J,h=>by simp only[S.WW,AWp]at h;subst h;rfl
 | x::l,r,J,h=>by
  simp only[S.WW]at h;split at h
  ·rename_i v r' h1 h2;cases h;simp only[AXa,CJ];rw[ev h1,Co h2]
  ·cases h
theorem cQ {fn:Fn}{xs ys:Array Operand}(h:AAF fn xs ys s K):YP P (.makeFunc fn xs ys) ty s K:=by
 unfold AAF at h;split at h
 ·split at h
  ·rename_i a b h1 h2;exact BW h fun J σ=>Y.makeFunc (by simpa using Co h1) (by simpa using Co h2)
  ·cases h
 ·cases h
theorem WY (h:cH P T x s K):YP P (.makeInterface T x) ty s K:=by
 unfold cH at h;split at h
 ·rename_i d hT;split at h
  ·rename_i hd;split at h
   ·rename_i v hv;exact BW h fun J σ=>Y.iface hT hd (ev hv)
   ·cases h
  ·cases h
 ·cases h
theorem cR {ts:Array TypeId}(h:AAG P x ts s K):YP P (.call { callee:=.builtin .len,args:=#[x],argTypes:=ts }) ty s K:=by
 unfold AAG at h;split at h
 ·rename_i T p n c h1 hv;have bm:ts=#[T]:=by rw[←AW5];simpa using h1
  split at h
  ·rename_i hT;exact BW h fun J σ=>Y.lf hT (by rw[ev hv];rfl) bm
  ·cases h
 ·rename_i T w h1 hv;have bm:ts=#[T]:=by rw[←AW5];simpa using h1
  split at h
  ·rename_i hT;exact BW h fun J σ=>Y.zV hT (by rw[ev hv];rfl) bm
  ·cases h
 ·cases h
theorem cS {ts:Array TypeId}(h:AAH P x ts s K):YP P (.call { callee:=.builtin .cap,args:=#[x],argTypes:=ts }) ty s K:=by
 unfold AAH at h;split at h
 ·rename_i T p n c h1 hv;have bm:ts=#[T]:=by rw[←AW5];simpa using h1
  split at h
  ·rename_i hT;exact BW h fun J σ=>Y.AMB hT (by rw[ev hv];rfl) bm
  ·cases h
 ·cases h
end
def isZero:Option SV→Bool
 | some (.v (.a (.num _ 0)))=>true
 | _=>false
def cU (P:Program)(T:TypeId)(x:Operand)(lo hi:Option Operand)(s:S)(K:SV→S→Prop):Prop:=match P.underlying T,s.op x with
 | some (.slice E),some (.v (.a (.sl p n c)))=>match Xv P E with
  | none=>False
  | some z=>match lo,hi with
   | none,none=>True∧K (.at (.sl p n c)) s
   | none,some h=>match Xb (s.op h) with
    | some (_,h)=>((0:Int)≤h∧h≤((c:Nat):Int))∧K (.at (.sl p (Int.toNat h) c)) s
    | none=>False
   | some l,none=>match isZero (s.op l) with
    | true=>((0:Int)≤0∧(0:Int)≤((n:Nat):Int))∧K (.at (.sl p n c)) s
    | false=>match Xb (s.op l) with
     | some (_,l)=>((0:Int)≤l∧l≤((n:Nat):Int))∧K (.at (.sl (.lit (Fe (p.den s.vl) (Int.toNat l) c z)) (n-Int.toNat l) (c-Int.toNat l))) s
     | none=>False
   | some l,some h=>match Xb (s.op h) with
    | none=>False
    | some (_,h)=>match isZero (s.op l) with
     | true=>((0:Int)≤0∧(0:Int)≤h∧h≤((c:Nat):Int))∧K (.at (.sl p (Int.toNat h) c)) s
     | false=>match Xb (s.op l) with
      | some (_,l)=>((0:Int)≤l∧l≤h∧h≤((c:Nat):Int))∧K (.at (.sl (.lit (Fe (p.den s.vl) (Int.toNat l) c z)) (Int.toNat h-Int.toNat l) (c-Int.toNat l))) s
      | none=>False
 | _,_=>False
def ti {α:Type}:List α→Nat→α→List α
 | [],_,_=>[]
 | _::l,0,y=>y::l
 | x::l,n+1,y=>x::ti l n y
def cV:List Bg→Nat→List Bg→List Bg
 | c,_,[]=>c
 | c,o,x::l=>cV (ti c o x) (o+1) l
def Bg.one:Bg→Bool
 | .raw v=>v.oneCell'
 | _=>true
def SV.flat:SV→Option (List Bg)
 | .v (.a x)=>match x.one with
  | true=>some [x]
  | false=>none
 | .v (.agg l)=>some l
 | .VH _=>none
def VO (place:Nat→Option (Nat×Nat)):List Bg→List (Nat×SV)→Option (List Bg)
 | c,[]=>some c
 | c,(i,v)::r=>match place i,v.flat with
  | some (off,z),some l=>match decide (l.length≠z)||decide (off+l.length > c.length) with
   | true=>none
   | false=>VO place (cV c off l) r
  | _,_=>none
def S.parts (s:S):List (Nat×Operand)→Option (List (Nat×SV))
 | []=>some []
 | (i,x)::l=>match s.op x,s.parts l with
  | some v,some r=>some ((i,v)::r)
  | _,_=>none
def MV (vl:Vl):List (Nat×SV)→List (Nat×Value)
 | []=>[]
 | (i,x)::l=>(i,x.den vl)::MV vl l
def M7 (P:Program):List Field→Option (List (Nat×Nat))
 | []=>some []
 | f::l=>match Xv P f.type,M7 P l with
  | some z,some r=>some ((f.offset,z)::r)
  | _,_=>none
def cW (P:Program)(T:TypeId)(ps:List (Nat×SV)):Option (List Bg):=
 match P.info? T,P.underlying T with
 | some it,some (.array _ e)=>match it.zero,Xv P e with
  | some z,some ie=>VO (fun i=>some (i*ie,ie)) (QC z.cells.toList) ps
  | _,_=>none
 | some it,some (.struct fs)=>match it.zero,M7 P fs.toList with
  | some z,some pl=>VO (fun i=>Dk pl i) (QC z.cells.toList) ps
  | _,_=>none
 | _,_=>none
def cX (P:Program)(T:TypeId)(ps:Array (Nat×Operand))(s:S)(K:SV→S→Prop):Prop:=match s.parts ps.toList with
 | none=>False
 | some vs=>match cW P T vs with
  | some l=>K (.v (.agg l)) s
  | none=>False
section
variable {P:Program}{s:S}{K:SV→S→Prop}{T T' ty:TypeId}{x y z:Operand}
theorem QD {J:Env}(h:isZero (s.op x)=true):∃k,AB (s.e J) x=.int k 0:=by
 cases hv:s.op x with
 | none=>rw[hv]at h;cases h
 | some v=>
  rw[hv]at h;unfold isZero at h;split at h
  ·rename_i k hk;cases hk;exact⟨k,by rw[ev hv];rfl⟩
  ·cases h
theorem WZ {lo hi:Option Operand}(h:cU P T x lo hi s K):YP P (.slice T x lo hi none) ty s K:=by
 unfold cU at h;split at h
 ·rename_i E p n c hT hv;have hx:∀J,AB (s.e J) x=.slice (p.den s.vl) n c:=fun J=>by rw[ev hv];rfl
  split at h
  ·cases h
  ·rename_i z hz;split at h
   ·exact BW h.2 fun J σ=>Y.sla hT (CX hz) (hx J) trivial
   ·split at h
    ·rename_i h1;obtain⟨u,e1,e2⟩:=Bq h1;exact BW h.2 fun J σ=>Y.slh hT (CX hz) (hx J) (by rw[ev e1,e2]) h.1
    ·cases h
   ·split at h
    ·rename_i hz0;exact BW h.2 fun J σ=>Y.AMJ hT (CX hz) (hx J) (QD hz0).choose_spec h.1
    ·split at h
     ·rename_i h1;obtain⟨u,e1,e2⟩:=Bq h1;exact BW h.2 fun J σ=>Y.sll hT (CX hz) (hx J) (by rw[ev e1,e2]) h.1
     ·cases h
   ·split at h
    ·cases h
    ·rename_i h2;obtain⟨u,e1,e2⟩:=Bq h2;split at h
     ·rename_i hz0;exact BW h.2 fun J σ=>Y.AES hT (CX hz) (hx J) (QD hz0).choose_spec (by rw[ev e1,e2]) h.1
     ·split at h
      ·rename_i h1;obtain⟨u2,e3,e4⟩:=Bq h1;exact BW h.2 fun J σ=>Y.AER hT (CX hz) (hx J) (by rw[ev e3,e4]) (by rw[ev e1,e2]) h.1
      ·cases h
 ·cases h
theorem VP {vl:Vl}{a:Bg}:∀{l:List Bg} {i:Nat},A6 vl (ti l i a)=(A6 vl l).set i (a.den vl)
 | [],_=>rfl
 | x::l,0=>rfl
 | x::l,i+1=>by simp only[ti,A6,AYv];rw[VP]
theorem Rl {vl:Vl}:∀{l c:List Bg} {o:Nat},(A6 vl (cV c o l)).toArray=Lt (A6 vl c).toArray o (A6 vl l)
 | [],_,_=>rfl
 | x::l,c,o=>by
  simp only[cV,A6,Lt];rw[Rl,VP];simp
theorem VQ:∀(l:List Value) (c:Array Value) (off k:Nat),(l.zipIdx k).foldl (fun cs (x:Value×Nat)=>cs.setIfInBounds (off+x.2) x.1) c=Lt c (off+k) l
 | [],c,off,k=>rfl
 | x::l,c,off,k=>by
  simp only[List.zipIdx_cons,AYq,Lt];rw[VQ l _ off (k+1)];rfl
theorem C4 {vl:Vl}:∀l:List Bg,(A6 vl l).length=l.length
 | []=>rfl
 | x::l=>by simp only[A6,AWw];rw[C4]
theorem X4 {vl:Vl}{v:SV}{l:List Bg}(h:v.flat=some l):(v.den vl).cells=(A6 vl l).toArray:=by
 unfold SV.flat at h;split at h
 ·rename_i x;split at h
  ·rename_i h1;cases h;simp only[SV.den,F5.den,A6];cases x<;>try rfl
   case bs i n=>cases n<;>rfl
   case raw v=>cases v<;>first|rfl|cases h1
  ·cases h
 ·cases h;rfl
 ·cases h
theorem PM {vl:Vl}{place:Nat→Option (Nat×Nat)}:∀{ps:List (Nat×SV)} {c out:List Bg},VO place c ps=some out→Instr.fill place (A6 vl c).toArray (MV vl ps)=some (A6 vl out).toArray
 | [],c,out,h=>by simp only[VO,AWp]at h;subst h;rfl
 | (i,v)::r,c,out,h=>by
  simp only[VO]at h;split at h
  ·rename_i off z l h1 h2;split at h
   ·cases h
   ·rename_i hd;simp only[Bool.or_eq_false_iff,AXy]at hd;have hc:=X4 (vl:=vl) h2;have:=PM (vl:=vl) h;simp only[MV,Instr.fill,h1,hc];have hs:((A6 vl l).toArray.size≠z||off+(A6 vl l).toArray.size > (A6 vl c).toArray.size)=false:=by
     simp[C4];omega
    rw[AWj (by simpa using hs)];rw[←this]
    congr 1
    rw[Rl];have h9:=VQ (A6 vl l) (A6 vl c).toArray off 0;rw[AX1]at h9;rw[←h9];simp
  ·cases h
theorem MW {J:Env}:∀{l:List (Nat×Operand)} {r:List (Nat×SV)},s.parts l=some r→l.map (fun p=>(p.1,AB (s.e J) p.2))=MV s.vl r
 | [],r,h=>by simp only[S.parts,AWp]at h;subst h;rfl
 | (i,x)::l,r,h=>by
  simp only[S.parts]at h;split at h
  ·rename_i v r' h1 h2;cases h;simp only[AXa,MV];rw[ev h1,MW h2]
  ·cases h
theorem M8:∀{l:List Field} {r:List (Nat×Nat)},M7 P l=some r→l.mapM (fun f=>(P.info? f.type).map fun i=>(f.offset,i.size))=some r
 | [],r,h=>by simp only[M7,AWp]at h;subst h;rfl
 | f::l,r,h=>by
  simp only[M7]at h;split at h
  ·rename_i z r' h1 h2;cases h;unfold Xv at h1;cases hi:P.info? f.type with
   | none=>rw[hi]at h1;cases h1
   | some i=>
    rw[hi]at h1;simp only[AXT,AWp]at h1;subst h1;simp[AZk,hi,M8 h2]
  ·cases h
theorem fe {α:Type}:∀(l:List α) (i:Nat),Dk l i=l[i]?
 | [],_=>by simp[Dk]
 | x::l,0=>rfl
 | x::l,i+1=>by simp only[Dk,AXU];exact fe l i
theorem cY {vl:Vl}{ps:List (Nat×SV)}{l:List Bg}(h:cW P T ps=some l):P.built T (MV vl ps)=some (A6 vl l).toArray:=by
 unfold cW at h;unfold Program.built;split at h
 ·rename_i it n e h1 h2;rw[h1,h2];split at h
  ·rename_i z ie h3 h4;unfold Xv at h4;cases hi:P.info? e with
   | none=>rw[hi]at h4;cases h4
   | some i=>
    rw[hi]at h4;simp only[AXT,AWp]at h4;subst h4;have:=PM (vl:=vl) h;rw[Hi]at this;simpa[h3,hi] using this
  ·cases h
 ·rename_i it fs h1 h2;rw[h1,h2];split at h
  ·rename_i z pl h3 h4;have:=PM (vl:=vl) h;rw[Hi]at this;have h5:=M8 h4;simp only[h3,h5];simpa[fe] using this
  ·cases h
 ·cases h
theorem Wa {ps:Array (Nat×Operand)}(h:cX P T ps s K):YP P (.build T ps) ty s K:=by
 unfold cX at h;split at h
 ·cases h
 ·rename_i vs hv;split at h
  ·rename_i l hl;exact BW h fun J σ=>Y.build (MW hv) (cY hl)
  ·cases h
end
end Tw
end
section
namespace Tw
open Go
variable [Ei]
structure Vl.Le (v w:Vl):Prop where
 le:v.le w
 ln:v.ρ.length≤w.ρ.length∧v.β.length≤w.β.length∧v.δ.length≤w.δ.length
theorem Vl.Le.refl (v:Vl):v.Le v:=⟨.refl v,AWu _,AWu _,AWu _⟩
theorem Vl.Le.trans {u v w:Vl}(h:u.Le v)(g:v.Le w):u.Le w:=⟨h.le.trans g.le h.ln,by have:=h.ln;have:=g.ln;omega⟩
theorem Vl.ff (v:Vl)(p:Option Addr):v.Le (v.mG p):=⟨v.tf p,by simp[Vl.mG]⟩
theorem Vl.fg (v:Vl)(k:BK):v.Le (v.b0 k):=⟨v.fc k,by simp[Vl.b0]⟩
def exA (P:Program)(t:TypeId)(vl:Vl)(k:Bg→Vl→Prop):Prop:=match P.underlying t with
 | some (.int kd)=>∃x:Int,k (.int kd x) vl
 | some .bool=>∃b:Bool,k (.bs vl.β.length false) (vl.b0 (.var b))
 | some (.slice _)=>∃p:Option Addr,∃n:Nat,∃c:Nat,k (.sl (.var vl.ρ.length) n c) (vl.mG p)
 | some .string=>∃w:ByteArray,k (.str w) vl
 | some (.pointer _)=>∃q:Option Addr,k (.pt (.var vl.ρ.length)) (vl.mG q)
 | some (.map _ _)=>∃m:Option Nat,k (.mp m) vl
 | _=>∃v:Value,k (.raw v) vl
def AAI (P:Program):List TypeId→Vl→(List Bg→Vl→Prop)→Prop
 | [],vl,k=>k [] vl
 | t::l,vl,k=>exA P t vl fun a vl=>AAI P l vl fun r vl=>k (a::r) vl
def mK (P:Program):Nat→TypeId→List TypeId
 | 0,t=>[t]
 | f+1,t=>match P.underlying t with
  | some (.struct fs)=>(fs.toList.map fun fd=>mK P f fd.type).flatten
  | some (.array n e)=>(List.replicate n (mK P f e)).flatten
  | _=>[t]
def small (P:Program)(t:TypeId):Bool:=match Xw P t,Xv P t with
 | some true,some n=>Nat.ble n 24
 | _,_=>false
def sg (P:Program)(t:TypeId)(vl:Vl)(k:F5→Vl→Prop):Prop:=match small P t with
 | true=>AAI P (mK P 40 t) vl fun l vl=>k (.agg l) vl
 | false=>exA P t vl fun a vl=>k (.a a) vl
def AAJ (P:Program):List TypeId→Vl→(List F5→Vl→Prop)→Prop
 | [],vl,k=>k [] vl
 | t::l,vl,k=>sg P t vl fun a vl=>AAJ P l vl fun r vl=>k (a::r) vl
def exV (P:Program)(t:TypeId)(vl:Vl)(k:SV→Vl→Prop):Prop:=match P.underlying t with
 | some (.tuple ts)=>AAJ P ts.toList vl fun l vl=>k (.VH l) vl
 | some (.float d)=>∃x:Nat,k (.v (.a (.raw (.float d x)))) vl
 | some (.complex d)=>∃x:Nat,∃y:Nat,k (.v (.a (.raw (.complex d x y)))) vl
 | _=>sg P t vl fun a vl=>k (.v a) vl
def Ud (P:Program)(t:TypeId)(vl:Vl)(k:SV→Vl→Prop):Prop:=match P.underlying t with
 | some (.func _ _ _)=>∃f:Fn,∃a:Array Value,∃c:Array Value,k (.v (.a (.raw (.func f a c)))) vl
 | _=>exV P t vl k
section
variable {P:Program}
theorem VR {t:TypeId}{vl:Vl}{k:Bg→Vl→Prop}(h:exA P t vl k):∃a w,vl.Le w∧k a w:=by
 unfold exA at h;split at h
 ·obtain⟨x,h⟩:=h;exact⟨_,_,.refl _,h⟩
 ·obtain⟨x,h⟩:=h;exact⟨_,_,Vl.fg _ _,h⟩
 ·obtain⟨p,n,c,h⟩:=h;exact⟨_,_,Vl.ff _ _,h⟩
 ·obtain⟨x,h⟩:=h;exact⟨_,_,.refl _,h⟩
 ·obtain⟨x,h⟩:=h;exact⟨_,_,Vl.ff _ _,h⟩
 ·obtain⟨x,h⟩:=h;exact⟨_,_,.refl _,h⟩
 ·obtain⟨x,h⟩:=h;exact⟨_,_,.refl _,h⟩
theorem Rm:∀{l:List TypeId} {vl:Vl} {k:List Bg→Vl→Prop},AAI P l vl k→∃a w,vl.Le w∧k a w
 | [],vl,k,h=>⟨_,_,.refl _,h⟩
 | t::l,vl,k,h=>by
  obtain⟨a,w,h1,h⟩:=VR h;obtain⟨r,w2,h2,h⟩:=Rm h;exact⟨_,_,h1.trans h2,h⟩
theorem D5 {t:TypeId}{vl:Vl}{k:F5→Vl→Prop}(h:sg P t vl k):∃a w,vl.Le w∧k a w:=by
 unfold sg at h;split at h
 ·obtain⟨a,w,h1,h⟩:=Rm h;exact⟨_,_,h1,h⟩
 ·obtain⟨a,w,h1,h⟩:=VR h;exact⟨_,_,h1,h⟩
theorem Rn:∀{l:List TypeId} {vl:Vl} {k:List F5→Vl→Prop},AAJ P l vl k→∃a w,vl.Le w∧k a w
 | [],vl,k,h=>⟨_,_,.refl _,h⟩
 | t::l,vl,k,h=>by
  obtain⟨a,w,h1,h⟩:=D5 h;obtain⟨r,w2,h2,h⟩:=Rn h;exact⟨_,_,h1.trans h2,h⟩
theorem VT {t:TypeId}{vl:Vl}{k:SV→Vl→Prop}(h:exV P t vl k):∃a w,vl.Le w∧k a w:=by
 unfold exV at h;split at h
 ·obtain⟨a,w,h1,h⟩:=Rn h;exact⟨_,_,h1,h⟩
 ·obtain⟨x,h⟩:=h;exact⟨_,_,.refl _,h⟩
 ·obtain⟨x,y,h⟩:=h;exact⟨_,_,.refl _,h⟩
 ·obtain⟨a,w,h1,h⟩:=D5 h;exact⟨_,_,h1,h⟩
theorem jC {t:TypeId}{vl:Vl}{k:SV→Vl→Prop}(h:Ud P t vl k):∃a w,vl.Le w∧k a w:=by
 unfold Ud at h;split at h
 ·obtain⟨f,a,c,h⟩:=h;exact⟨_,_,.refl _,h⟩
 ·exact VT h
end
def S.ex (s:S)(P:Program)(t:TypeId)(K:SV→S→Prop):Prop:=match s.ok with
 | true=>exV P t s.vl fun v vl=>K v (s.w vl)
 | false=>False
theorem S.Ro {s:S}{P:Program}{t:TypeId}{K:SV→S→Prop}(h:s.ex P t K):∃v s',s.Hj s'∧K v s':=by
 unfold S.ex at h;cases hs:s.ok with
 | false=>rw[hs]at h;cases h
 | true=>
  rw[hs]at h;obtain⟨v,w,h1,h⟩:=VT h;exact⟨v,_,S.Rh hs h1.le,h⟩
def eqV (x:SV)(vl:Vl)(v:Value)(F:Prop):Prop:=match x with
 | .v (.a (.raw u))=>u=v∧F
 | x=>v=x.den vl∧F
theorem jD {x:SV}{vl:Vl}{v:Value}{F:Prop}(h:eqV x vl v F):v=x.den vl∧F:=by
 unfold eqV at h;split at h
 ·exact⟨h.1.symm,h.2⟩
 ·exact h
def X7:List E1→Nat→Option (TypeId×List Bg)
 | [],_=>none
 | (i,t,cs)::l,j=>bif Nat.beq i j then some (t,cs) else X7 l j
theorem JT {vl:Vl}:∀{l:List E1} {j:Nat} {t:TypeId} {cs:List Bg},X7 l j=some (t,cs)→(nth 0 vl.δ j,Obj.cells (A6 vl cs).toArray t (0,0))∈EL vl l
 | (i,u,ds)::l,j,t,cs,h=>by
  simp only[X7]at h;cases hi:Nat.beq i j with
  | true=>
   rw[hi]at h;simp only[AYu,AWp,AYG]at h;obtain⟨rfl,rfl⟩:=h;have:=AXY hi;subst this;exact AW1 ..
  | false=>
   rw[hi]at h;simp only[AYw]at h;exact AWq _ (JT h)
def ldV (P:Program)(T:TypeId)(x:Operand)(s:S)(K:Option Nat→SV→S→Prop):Prop:=match mH (s.op x) with
 | some (.bx i o)=>match X7 s.bx i,Xw P T with
  | some (_,cs),some true=>match Xv P T with
   | some n=>match decide (((cs.drop o).take n).length=n) with
    | true=>K none (.v (.agg ((cs.drop o).take n))) s
    | false=>False
   | none=>False
  | some (_,cs),some false=>match Dk cs o with
   | some u=>K none (.at u) s
   | none=>False
  | _,_=>False
 | some (.at b o)=>match Xw P T,Xv P T with
  | some true,some n=>s.ex P T fun v s=>match v with
   | .v (.agg l)=>match decide (l.length=n) with
    | true=>Av s.σ b o (A6 s.vl l)∧K (some b) v s
    | false=>False
   | _=>False
  | some false,some _=>s.ex P T fun v s=>Hp.ld s.σ ⟨b,o,none⟩=some (v.den s.vl)∧K (some b) v s
  | _,_=>False
 | _=>False
theorem Hp.mM {σ:Hp}{b o:Nat}{v:Value}(h:Hp.ld σ ⟨b,o,none⟩=some v):Hp.ld (fun x=>if x=b then σ x else none) ⟨b,o,none⟩=some v:=by
 unfold Hp.ld at *;simpa using h
theorem Av.lim {σ:Hp}{b:Nat}:∀{l:List Value} {o:Nat},Av σ b o l→Av (fun x=>if x=b then σ x else none) b o l
 | [],_,_=>trivial
 | v::l,o,h=>⟨Hp.mM h.1,Av.lim h.2⟩
theorem VU {P:Program}{T ty:TypeId}{x:Operand}{s:S}{K:Option Nat→SV→S→Prop}(h:ldV P T x s K):
  ∃m v s',s.Hj s'∧K m v s'∧∀J,match m with
   | none=>∀σ,Yd P (s.e J) s.b σ (.load T x) ty (v.den s'.vl)
   | some b=>Yd P (s.e J) s.b (fun x=>if x=b then s.σ x else none) (.load T x) ty (v.den s'.vl):=by
 unfold ldV at h;split at h
 ·rename_i i o hp;obtain⟨u,e1,e2⟩:=EO hp;have hx:∀J,AB (s.e J) x=.pointer (some ⟨nth 0 s.vl.δ i,o,none⟩):=fun J=>by rw[ev e1,e2];rfl
  split at h
  ·rename_i t cs hb ha;split at h
   ·rename_i n hn;split at h
    ·rename_i hd;have hd:=AWr hd;refine⟨none,_,s,.refl s,h,fun J σ=>?_⟩;have:=Y.AMD (P:=P) (e:=s.e J) (bx:=s.b) (σ:=σ) (ty:=ty) (vs:=A6 s.vl ((cs.drop o).take n)) (EM ha) (CX hn) (by rw[C4];exact hd) (hx J) (JT hb) (by simp[Rk]);exact this
    ·cases h
   ·cases h
  ·rename_i t cs hb ha;split at h
   ·rename_i u hu;exact⟨none,_,s,.refl s,h,fun J σ=>Y.ldb (EM ha) (hx J) (JT hb) (by simpa[SV.den,F5.den] using PL hu)⟩
   ·cases h
  ·cases h
 ·rename_i b o hp;obtain⟨u,e1,e2⟩:=EO hp;have hx:∀J,AB (s.e J) x=.pointer (some ⟨b,o,none⟩):=fun J=>by rw[ev e1,e2];rfl
  split at h
  ·rename_i n ha hn;obtain⟨v,s',h1,h⟩:=S.Ro h;split at h
   ·rename_i l;split at h
    ·rename_i hd;have hd:=AWr hd;refine⟨some b,_,s',h1,h.2,fun J=>?_⟩;have hl:=h.1;rw[h1.σ]at hl;exact Y.lda (EM ha) (CX hn) (by rw[C4];exact hd) (hx J) hl.lim
    ·cases h
   ·cases h
  ·rename_i n ha hn;obtain⟨v,s',h1,h⟩:=S.Ro h;have hl:=h.1;rw[h1.σ]at hl;exact⟨some b,_,s',h1,h.2,fun J=>Y.ld (EM ha) (hx J) (Hp.mM hl)⟩
  ·cases h
 ·cases h
def yv (P:Program)(wr:Bool)(op:Op)(s:S)(K:SV→S→Prop):Prop:=match op with
 | .move x=>s.val x K
 | .assign x=>s.val x K
 | .pick z x y=>xJ x y z s K
 | .binOp b T x y _=>zy P wr b T x y s K
 | .unOp u _ x=>match u with
  | .not=>zz x s K
  | .neg=>AAA x s K
  | _=>False
 | .convert T T' x=>mI P T T' x s K
 | .fieldAddr T x f=>AAB P T x f s K
 | .field T x f=>cG P T x f s K
 | .extract x i=>AAC x i s K
 | .indexAddr T x y=>AAD P T x y s K
 | .index T x y=>mJ P T x y s K
 | .nilCheck x=>AAE x s K
 | .makeFunc fn xs ys=>AAF fn xs ys s K
 | .build T ps=>cX P T ps s K
 | .makeInterface T x=>cH P T x s K
 | .slice T x lo hi mx=>match mx with
  | none=>cU P T x lo hi s K
  | some _=>False
 | .call c=>match c.callee,c.args.toList with
  | .builtin .len,[x]=>AAG P x c.argTypes s K
  | .builtin .cap,[x]=>AAH P x c.argTypes s K
  | .builtin .min,[x,y]=>match Xb (s.op x),Xb (s.op y) with
   | some (k,a),some (_,b)=>K (.at (.int k (if(b:Int)<a then b else a))) s
   | _,_=>False
  | .builtin .max,[x,y]=>match Xb (s.op x),Xb (s.op y) with
   | some (k,a),some (_,b)=>K (.at (.int k (if(a:Int)<b then b else a))) s
   | _,_=>False
  | _,_=>False
 | _=>False
theorem X8 {P:Program}{wr:Bool}{op:Op}{ty:TypeId}{s:S}{K:SV→S→Prop}(h:yv P wr op s K):YP P op ty s K:=by
 unfold yv at h;split at h
 ·exact VM h fun v J σ hv=>Y.move hv
 ·exact VM h fun v J σ hv=>Y.assign hv
 ·exact Xz h
 ·exact cE h
 ·split at h
  ·exact cI h
  ·exact cJ h
  ·cases h
 ·exact X0 h
 ·exact cK h
 ·exact WX h
 ·exact cL h
 ·exact cM h
 ·exact X3 h
 ·exact cP h
 ·exact cQ h
 ·exact Wa h
 ·exact WY h
 ·split at h
  ·exact WZ h
  ·cases h
 ·rename_i c;obtain⟨ce,AWi,ts⟩:=c;split at h
  ·rename_i x h1 h2;simp only at h1 h2 h;have:AWi=#[x]:=by rw[←AW5];simpa using h2
   subst this h1;exact cR h
  ·rename_i x h1 h2;simp only at h1 h2 h;have:AWi=#[x]:=by rw[←AW5];simpa using h2
   subst this h1;exact cS h
  ·rename_i x y h1 h2;simp only at h1 h2 h;have:AWi=#[x,y]:=by rw[←AW5];simpa using h2
   subst this h1;split at h
   ·rename_i k a k' b hx hy;obtain⟨u,e1,e2⟩:=Bq hx;obtain⟨v,e3,e4⟩:=Bq hy;exact BW h fun J σ=>Y.min2 (by rw[ev e1,e2]) (by rw[ev e3,e4])
   ·cases h
  ·rename_i x y h1 h2;simp only at h1 h2 h;have:AWi=#[x,y]:=by rw[←AW5];simpa using h2
   subst this h1;split at h
   ·rename_i k a k' b hx hy;obtain⟨u,e1,e2⟩:=Bq hx;obtain⟨v,e3,e4⟩:=Bq hy;exact BW h fun J σ=>Y.max2 (by rw[ev e1,e2]) (by rw[ev e3,e4])
   ·cases h
  ·cases h
 ·cases h
end Tw
end
section
namespace Tw
open Go
variable [Ei]
def jE:List Nat→Nat→Bool
 | [],_=>false
 | x::l,n=>Nat.beq x n||jE l n
theorem X9:∀{l:List Nat} {n:Nat},jE l n=true→n∈l
 | x::l,n,h=>by
  simp only[jE,AYa]at h;rcases h with h|h
  ·exact(AXY h)▸AW1 ..
  ·exact AWq _ (X9 h)
def AG (P:Program)(l:List Nat):Prop:=∀f∈l,Enters P f
theorem AG.nil {P:Program}:AG P []:=fun f h=>by cases h
theorem AG.cons {P:Program}{f:Nat}{l:List Nat}(h:Enters P f)(hl:AG P l):AG P (f::l):=fun x hx=>by
 rcases AWo.1 hx with rfl|hx
 ·exact h
 ·exact hl x hx
abbrev KP:=Hp→Hp→Prop→Prop
def Ff (gen:Vl→(SV→Vl→Prop)→Prop)(dst:Option Nat)(s:S)(σ0:Hp)(v:Value)(kp:KP)(K:S→Prop):Prop:=match dst with
 | none=>kp σ0 s.σ (K s)
 | some d=>match s.ok with
  | true=>gen s.vl fun x vl=>eqV x vl v (kp σ0 s.σ (K ((s.w vl).put (some d) x)))
  | false=>False
def VV (gen:Vl→(SV→Vl→Prop)→Prop):Prop:=∀vl k,gen vl k→∃a w,vl.Le w∧k a w
theorem IQ {P:Program}{t:TypeId}:VV (Ud P t):=fun _ _ h=>jC h
def mN:Vl→(SV→Vl→Prop)→Prop:=fun vl k=>∃m:Nat,k (.at (.mp (some m))) vl
theorem jF:VV mN:=fun vl k ⟨m,h⟩=>⟨_,_,.refl _,h⟩
def mO:Vl→(SV→Vl→Prop)→Prop:=fun vl k=>∃v:Value,k (.at (.raw v)) vl
theorem jG:VV mO:=fun vl k ⟨m,h⟩=>⟨_,_,.refl _,h⟩
def RC (P:Program)(t:TypeId)(two:Bool):Vl→(SV→Vl→Prop)→Prop:=fun vl k=>match two with
 | false=>sg P t vl fun a vl=>k (.v a) vl
 | true=>sg P t vl fun a vl=>∃b:Bool,k (.VH [a,.a (.bs vl.β.length false)]) (vl.b0 (.var b))
theorem cZ {P:Program}{t:TypeId}{two:Bool}:VV (RC P t two):=fun vl k h=>by
 cases two with
 | false=>unfold RC at h;obtain⟨a,w,h1,h⟩:=D5 h;exact⟨_,_,h1,h⟩
 | true=>unfold RC at h;obtain⟨a,w,h1,b,h⟩:=D5 h;exact⟨_,_,h1.trans (Vl.fg _ _),h⟩
def mP (P:Program)(t u:TypeId):Vl→(SV→Vl→Prop)→Prop:=fun vl k=>sg P t vl fun a vl=>sg P u vl fun b vl=>k (.VH [a,b]) vl
theorem jH {P:Program}{t u:TypeId}:VV (mP P t u):=fun vl k h=>by
 obtain⟨a,w,h1,h⟩:=D5 h;obtain⟨b,w2,h2,h⟩:=D5 h;exact⟨_,_,h1.trans h2,h⟩
def St' (J:Env)(s:S)(kq:Hp→Hp→Prop)(K:S→Prop):Env→Bx→Hp→Prop:=fun e' Fq σ'=>∃s',e'=s'.e J∧Fq=s'.b∧σ'=s'.σ∧kq s.σ σ'∧(∀p∈s.b,p∈Fq)∧K s'
theorem Ab {gen:Vl→(SV→Vl→Prop)→Prop}(hg:VV gen){dst:Option Nat}{s:S}{σ1:Hp}{v:Value}{kp:KP}{kq:Hp→Hp→Prop}{K:S→Prop}(Ms:∀σ0 σ1 F,kp σ0 σ1 F→F∧kq σ0 σ1)
  (h:Ff gen dst (s.hp σ1) s.σ v kp K) (J:Env):St' J s kq K (put (s.e J) dst v) s.b σ1:=by
 cases dst with
 | none=>
  obtain⟨h1,h2⟩:=Ms _ _ _ h;exact⟨s.hp σ1,rfl,rfl,rfl,h2,fun _ h=>h,h1⟩
 | some d=>
  simp only[Ff]at h;cases hs:(s.hp σ1).ok with
  | false=>rw[hs]at h;cases h
  | true=>
   rw[hs]at h;obtain⟨x,w,hle,h⟩:=hg _ _ h;obtain⟨hv,h⟩:=jD h;obtain⟨h1,h2⟩:=Ms _ _ _ h;have QE:=S.Rh hs hle.le;refine⟨_,?_,?_,?_,h2,fun _ h=>h,h1⟩
   ·rw[S.Hg,QE.e J,hv];rfl
   ·rw[S.Hh,QE.b];rfl
   ·rw[S.E2];rfl
def S.boxed (s:S)(d:Option Nat)(b:Nat)(T:TypeId)(cs:List Bg):S:=
 S.put ⟨s.env,(s.vl.δ.length,T,cs)::s.bx,s.vl.te b,s.σ⟩ d (.at (.pt (.bx s.vl.δ.length 0)))
def tj (hid:Bool)(d:Option Nat)(T:TypeId)(cs:List Bg)(s:S)(K:S→Prop):Prop:=match hid with
 | true=>match s.ok&&zr s.vl cs with
  | true=>∀b:Nat,K (s.boxed d b T cs)
  | false=>False
 | false=>∀b:Nat,s.σ b=none→K ((s.hp (Hp.set s.σ b (.cells (A6 s.vl cs).toArray T (0,0)))).put d (.at (.pt (.at b 0))))
def mQ (P:Program)(T:TypeId):Option Value:=match P.info? T with
 | some it=>it.zero
 | none=>none
theorem VW {P:Program}{T:TypeId}{z:Value}(h:mQ P T=some z):∀w,(zeroValue T).run P w=.ok z w:=fun w=>by
 unfold mQ at h;split at h
 ·rename_i it hi;simp[zeroValue,typeInfo,hi,h]
 ·cases h
structure cd where
 P:Program
 R:Rr
 M9:List Nat
 hid:List Nat
 wr:Bool
def cd.fh (c:cd)(d:Option Nat):Bool:=match d with
 | some d=>jE c.hid d
 | none=>false
def EN (P:Program)(f:FuncId)(args:Array Value)(σ:Hp)(Φ:Value→Hp→Prop):Prop:=
 ∀w (F:Nat→Prop),Sat σ w→(∀b,F b→b<w.heap.size∧σ b=none)→∃v w' σ',(callFunc f args).run P w=.ok (.value v) w'∧Φ v σ'∧Fin σ' F w w'
theorem EN.y {P:Program}{f:FuncId}{args:Array Value}{σ:Hp}{v:Value}{Φ:Value→Hp→Prop}(hy:YN P f args σ v)(h:Φ v σ):EN P f args σ Φ:=fun w F hs hF=>
 ⟨v,w,σ,hy w hs,h,hs,fun b hb=>⟨(hF b hb).2,rfl⟩,.same rfl rfl rfl,rfl,AWu _⟩
theorem EN.mono {P:Program}{f:FuncId}{args:Array Value}{σ:Hp}{Φ Ψ:Value→Hp→Prop}(h:EN P f args σ Φ)(hh:∀v σ',Φ v σ'→Ψ v σ'):EN P f args σ Ψ:=fun w F hs hF=>
 let ⟨v,w',σ',h1,h2,h3⟩:=h w F hs hF
 ⟨v,w',σ',h1,hh _ _ h2,h3⟩
theorem AI.en {g:Gl}{ops:Array Oper}{i:Nat}{d:Option Nat}{ty:TypeId}{gd:Option (Nat×Bool)}{e:Env}{bx:Bx}{σ:Hp}{K:Env→Bx→Hp→Prop}{x:Operand}{xs:Array Operand}{ts:Array TypeId}{f:FuncId}{args:Array Value}
  (hs:sig ops i=some (d,.call { callee:=.value x,args:=xs,argTypes:=ts },ty,gd)) (hw:AP ops e gd=true) (hd:Fc d g.n=true) (hx:AB e x=.func (.func f) #[] #[]) (Fs:xs.toList.map (AB e)=args.toList)
  (h:EN g.P f args σ fun v σ'=>K (put e d v) bx σ'):AI g ops i e bx σ K:=by
 intro w0 F a w st;obtain⟨o,ho,rfl,Bp,Db,rfl⟩:=BB hs;refine Bk ho (by rw[st.wanted];exact hw) ?_;obtain⟨v,w',σ',h1,h2,h3⟩:=h w _ st.sat st.lt;rw[st.eval];have Fs:xs.map (AB e)=args:=by rw[←AW5];simpa using Fs
 have BC:(execOp (AB e) o).run g.P w=.ok (.value v) w':=by
  simp only[execOp,Bp,resolve,hx,Fs,Deferred.ofValue,invoke,bind,Sem.bind,pure,Array.empty_append,Array.append_empty];exact h1
 rw[Ce BC (fun d=>by simp)];exact⟨_,_,_,(st.fin h3).put _ _ (Fc.lt hd),h2⟩
abbrev mR : String := "Len"
abbrev QF : String := "Less"
abbrev NA : String := "Swap"
abbrev xK : String := "Push"
abbrev AEi : String := "Pop"
def MC (P:Program)(u:Value)(name:String)(args:Array Value)(σ:Hp)(R:Rr):Prop:=
 ∃(f:FuncId) (AWi:Array Value),(∀w,Sat σ w→(invoke (.fn (.method name) #[]) (#[u]++args)).run P w=.ok (.enter f AWi) w)∧Spec P f AWi σ R
theorem MC.cont {P:Program}{u:Value}{name:String}{args:Array Value}{σ:Hp}{R:Rr}{Φ Ψ:Value→Hp→Prop}(h:MC P u name args σ (Ap R Φ))(hh:∀v σ',Φ v σ'→Ψ v σ'):MC P u name args σ (Ap R Ψ):=
 let ⟨f,AWi,hm,h⟩:=h
 ⟨f,AWi,hm,h.cont hh⟩
theorem AI.inv {g:Gl}{ops:Array Oper}{i:Nat}{d:Option Nat}{ty:TypeId}{gd:Option (Nat×Bool)}{e:Env}{bx:Bx}{σ:Hp}{K:Env→Bx→Hp→Prop}{x:Operand}{xs:Array Operand}{ts:Array TypeId}{name:String}{u:Value}{vs:Array Value}
  (hs:sig ops i=some (d,.call { callee:=.invoke x name,args:=xs,argTypes:=ts },ty,gd)) (hw:AP ops e gd=true) (hd:Fc d g.n=true) (hx:AB e x=u) (Fs:xs.toList.map (AB e)=vs.toList)
  (h:MC g.P u name vs σ (Ap g.R fun v σ'=>K (put e d v) bx σ')):AI g ops i e bx σ K:=by
 obtain⟨f,AWi,hm,h⟩:=h;intro w0 F a w st;obtain⟨o,ho,rfl,Bp,Db,rfl⟩:=BB hs;refine Bk ho (by rw[st.wanted];exact hw) ?_;have Fs:xs.map (AB e)=vs:=by rw[←AW5];simpa using Fs
 have BC:(execOp (AB e) o).run g.P w=.ok (.enter f AWi) w:=by
  simp only[execOp,Bp,resolve,hx,Fs,bind,Sem.bind,pure];exact hm w st.sat
 rw[st.eval,Ce BC (fun d=>by simp)];refine⟨fun hh=>(by cases hh),RY (Calls.mono (h w _ st.sat st.lt) fun en w'=>?_)⟩
 rintro⟨σ',hr,hf⟩
 have Ko:=st.fin hf;cases en with
 | returned v=>exact⟨_,_,_,Ko.put _ _ (Fc.lt hd),hr⟩
 | panicked ch=>
  rcases g.pan with ⟨h1,h2⟩|DS
  ·exact⟨⟨h1,Ko.defers.trans h2⟩,σ',hr,Ko.toFin⟩
  ·exact absurd hr (DS ch σ')
 | outgrown=>exact hr.elim
def mS (c:cd)(dst:Option Nat)(x:Operand)(xs:List Operand)(ty:TypeId)(s:S)(kp:KP)(K:S→Prop):Prop:=match s.op x,s.WW xs with
 | some (.v (.a (.fn f a b))),some vs=>match jE c.M9 f with
  | true=>Spec c.P f (a.toList++(CJ s.vl vs++b.toList)).toArray s.σ (Ap c.R fun v σ1=>Ff (Ud c.P ty) dst (s.hp σ1) s.σ v kp K)
  | false=>match Nat.beq (a.size+b.size) 0 with
   | true=>EN c.P f (CJ s.vl vs).toArray s.σ (fun v σ1=>Ff (Ud c.P ty) dst (s.hp σ1) s.σ v kp K)
   | false=>False
 | some (.v (.a (.raw u))),some vs=>match jE c.hid 100000 with
  | true=>∃l:Nat,u=.func (.yield l) #[] #[]∧GV c.P l (CJ s.vl vs).toArray s.σ (Ap c.R fun v σ1=>Ff (Ud c.P ty) dst (s.hp σ1) s.σ v kp K)
  | false=>∃(f:Nat) (fst cap:Array Value),u=.func (.func f) fst cap∧Enters c.P f∧Spec c.P f (fst++(CJ s.vl vs).toArray++cap) s.σ (Ap c.R fun v σ1=>Ff (Ud c.P ty) dst (s.hp σ1) s.σ v kp K)
 | _,_=>False
def biV (c:cd)(dst:Option Nat)(b:Builtin)(xs:List Operand)(ts:Array TypeId)(ty:TypeId)(s:S)(kp:KP)(K:S→Prop):Prop:=match s.WW xs with
 | none=>False
 | some vs=>match b,xs with
  | .append,[_,_]=>AH c.P (Builtin.append_ ts ty (CJ s.vl vs).toArray) s.σ (fun v σ1=>Ff (Ud c.P ty) dst (s.hp σ1) s.σ v kp K)
  | .copy,[_,_]=>AH c.P (Builtin.copy_ ts ty (CJ s.vl vs).toArray) s.σ (fun v σ1=>Ff (Ud c.P ty) dst (s.hp σ1) s.σ v kp K)
  | .delete,[_,_]=>AH c.P (Builtin.delete_ ts ty (CJ s.vl vs).toArray) s.σ (fun v σ1=>Ff (Ud c.P ty) dst (s.hp σ1) s.σ v kp K)
  | .clear,[_]=>AH c.P (Builtin.clear_ ts ty (CJ s.vl vs).toArray) s.σ (fun v σ1=>Ff (Ud c.P ty) dst (s.hp σ1) s.σ v kp K)
  | .real,[_]=>AH c.P (Builtin.real_ ts ty (CJ s.vl vs).toArray) s.σ (fun v σ1=>Ff (Ud c.P ty) dst (s.hp σ1) s.σ v kp K)
  | .imag,[_]=>AH c.P (Builtin.imag_ ts ty (CJ s.vl vs).toArray) s.σ (fun v σ1=>Ff (Ud c.P ty) dst (s.hp σ1) s.σ v kp K)
  | .complex,[_,_]=>AH c.P (Builtin.complex_ ts ty (CJ s.vl vs).toArray) s.σ (fun v σ1=>Ff (Ud c.P ty) dst (s.hp σ1) s.σ v kp K)
  | .unsafeString,[_,_]=>AH c.P (Builtin.unsafeString_ ts ty (CJ s.vl vs).toArray) s.σ (fun v σ1=>Ff (Ud c.P ty) dst (s.hp σ1) s.σ v kp K)
  | .min,[_,_]=>AH c.P (Builtin.min_ ts ty (CJ s.vl vs).toArray) s.σ (fun v σ1=>Ff (Ud c.P ty) dst (s.hp σ1) s.σ v kp K)
  | .max,[_,_]=>AH c.P (Builtin.max_ ts ty (CJ s.vl vs).toArray) s.σ (fun v σ1=>Ff (Ud c.P ty) dst (s.hp σ1) s.σ v kp K)
  | _,_=>False
def flB:BinOp→Bool
 | .add=>true
 | .sub=>true
 | .mul=>true
 | .quo=>true
 | _=>false
def AAL (P:Program)(T:TypeId):Bool:=match P.underlying T with
 | some (.float _)=>true
 | _=>false
def jI (c:cd)(dst:Option Nat)(op:Op)(ty:TypeId)(s:S)(kp:KP)(K:S→Prop):Prop:=match op with
 | .call cl=>match cl.callee with
  | .value x=>mS c dst x cl.args.toList ty s kp K
  | .builtin b=>biV c dst b cl.args.toList cl.argTypes ty s kp K
  | .invoke x name=>match s.op x,s.WW cl.args.toList with
   | some u,some vs=>MC c.P (u.den s.vl) name (CJ s.vl vs).toArray s.σ (Ap c.R fun v σ1=>Ff (Ud c.P ty) dst (s.hp σ1) s.σ v kp K)
   | _,_=>False
 | .binOp b T x y _=>match flB b,s.op x,s.op y with
  | true,some u,some v=>AH c.P (binOp b T (u.den s.vl) (v.den s.vl)) s.σ (fun v σ1=>Ff (Ud c.P ty) dst (s.hp σ1) s.σ v kp K)
  | _,_,_=>False
 | .box T x=>match s.op x with
  | some v=>match v.flat with
   | some cs=>tj (c.fh dst) dst T cs s K
   | none=>False
  | none=>False
 | .alloc T=>match mQ c.P T with
  | some z=>tj (c.fh dst) dst T (QC z.cells.toList) s K
  | none=>False
 | .buildSlice T m ps=>match c.P.underlying T,s.parts ps.toList with
  | some (.slice E),some vs=>match Program.GO c.P E m (MV s.vl vs) with
   | some cs=>∀b:Nat,s.σ b=none→K ((s.hp (Hp.set s.σ b (.cells cs E (0,0)))).put dst (.at (.sl (.at b 0) m m)))
   | none=>False
  | _,_=>False
 | .store T x y=>match dst,mH (s.op x),s.op y with
  | none,some (.at b o),some v=>AH c.P (Instr.storeAt T (.pointer (some ⟨b,o,none⟩)) (v.den s.vl)) s.σ (fun _ σ1=>kp s.σ σ1 (K (s.hp σ1)))
  | _,_,_=>False
 | .convert T T' x=>match s.op x with
  | some v=>AH c.P (convert T T' (v.den s.vl)) s.σ (fun v σ1=>Ff (Ud c.P ty) dst (s.hp σ1) s.σ v kp K)
  | none=>False
 | .makeMap T none=>AH c.P (Instr.makeMap T none) s.σ (fun v σ1=>Ff mN dst (s.hp σ1) s.σ v kp K)
 | .lookup T x y two=>match c.P.underlying T,s.op x,s.op y with
  | some (.map _ t),some u,some v=>AH c.P (Instr.lookup T (u.den s.vl) (v.den s.vl) two) s.σ (fun v σ1=>Ff (RC c.P t two) dst (s.hp σ1) s.σ v kp K)
  | _,_,_=>False
 | .range T x=>match s.op x with
  | some v=>AH c.P (Instr.range T (v.den s.vl)) s.σ (fun v σ1=>Ff mO dst (s.hp σ1) s.σ v kp K)
  | none=>False
 | .makeSlice T x y=>match s.op x,s.op y with
  | some u,some v=>AH c.P (Instr.makeSlice T (u.den s.vl) (v.den s.vl)) s.σ (fun v σ1=>Ff (Ud c.P ty) dst (s.hp σ1) s.σ v kp K)
  | _,_=>False
 | .typeAssert x T A two=>match s.op x with
  | some u=>AH c.P (Instr.typeAssert (u.den s.vl) T A two) s.σ (fun v σ1=>Ff (Ud c.P ty) dst (s.hp σ1) s.σ v kp K)
  | none=>False
 | _=>False
section
variable {g:Gl}{ops:Array Oper}{i:Nat}{J:Env}{dst:Option Nat}{op:Op}{ty:TypeId}{gd:Option (Nat×Bool)}{s:S}{kp:KP}{kq:Hp→Hp→Prop}{K:S→Prop}{c:cd}
theorem YA {x:Operand}{xs:Array Operand}{ts:Array TypeId}(hP:c.P=g.P)(hR:c.R=g.R)(hE:AG g.P c.M9)(Ms:∀σ0 σ1 F,kp σ0 σ1 F→F∧kq σ0 σ1)
  (hs:sig ops i=some (dst,.call { callee:=.value x,args:=xs,argTypes:=ts },ty,gd)) (hw:AP ops (s.e J) gd=true) (hd:Fc dst g.n=true) (h:mS c dst x xs.toList ty s kp K):AI g ops i (s.e J) s.b s.σ (St' J s kq K):=by
 unfold mS at h;rw[hP,hR]at h;split at h
 ·rename_i f a b vs hx Xc;split at h
  ·rename_i hm;refine AI.call hs hw hd (fun o ho _ w=>PH (hE f (X9 hm)) (fst:=a) (cap:=b) (vs:=(CJ s.vl vs).toArray) (by rw[ev hx];rfl) (by simpa using Co Xc) ?_ o ho w) (h.mono fun e σ1 hr=>?_)
   ·rw[←AW5];simp
   ·cases e with
    | returned v=>exact Ab IQ Ms hr J
    | panicked ch=>exact hr
    | outgrown=>exact hr
  ·split at h
   ·rename_i hz;have hz:=AXY hz;exact AI.en hs hw hd (by rw[ev hx,show a=#[] from AYb (by omega),show b=#[] from AYb (by omega)];rfl) (by simpa using Co Xc) (h.mono fun v σ1 hr=>Ab IQ Ms hr J)
   ·cases h
 ·rename_i u vs hx Xc;split at h
  ·obtain⟨l,hu,h⟩:=h;refine AI.yield hs hw hd (u:=u) (vs:=(CJ s.vl vs).toArray) (by rw[ev hx];rfl) (by simpa using Co Xc) hu (h.mono fun e σ1 hr=>?_);cases e with
   | returned v=>exact Ab IQ Ms hr J
   | panicked ch=>exact hr
   | outgrown=>exact hr
  ·obtain⟨f,fst,cap,hu,JG,h⟩:=h;refine AI.AET hs hw hd (u:=u) (vs:=(CJ s.vl vs).toArray) (by rw[ev hx];rfl) (by simpa using Co Xc) hu JG (h.mono fun e σ1 hr=>?_);cases e with
   | returned v=>exact Ab IQ Ms hr J
   | panicked ch=>exact hr
   | outgrown=>exact hr
 ·cases h
theorem YB {T:TypeId}{cs:List Bg}{hid:Bool}(PN:∀σ0 σ1,Ext σ0 σ1→kq σ0 σ1)(h:tj hid dst T cs s K):
  (hid=true→∀b,St' J s kq K (put (s.e J) dst (.pointer (some ⟨b,0,none⟩))) ((b,.cells (A6 s.vl cs).toArray T (0,0))::s.b) s.σ)∧
  (hid=false→∀b,s.σ b=none→St' J s kq K (put (s.e J) dst (.pointer (some ⟨b,0,none⟩))) s.b (s.σ.set b (.cells (A6 s.vl cs).toArray T (0,0)))):=by
 unfold tj at h
 constructor
 ·rintro rfl b
  simp only at h;cases hs:s.ok&&zr s.vl cs with
  | false=>rw[hs]at h;cases h
  | true=>
   rw[hs]at h;simp only[AWv]at hs;have h:=h b;have hle:=Vl.tg s.vl b;have QE:=S.Rh hs.1 hle;have hb:(S.boxed s dst b T cs).b=(b,Obj.cells (A6 s.vl cs).toArray T (0,0))::s.b:=by
    unfold S.boxed;rw[S.Hh];simp only[S.b,EL];have hbv:EL (s.vl.te b) s.bx=EL s.vl s.bx:=QE.b;rw[RB hle hs.2,hbv];show(nth 0 (s.vl.δ++[b]) s.vl.δ.length,_)::_=_
    rw[Kt]
   refine⟨_,?_,hb.symm,?_,PN _ _ (Ext.refl _),fun _ h=>AWq _ h,h⟩
   ·unfold S.boxed;rw[S.Hg];have:=QE.e J;show put (s.e J) dst _=put ((s.w (s.vl.te b)).e J) dst (.pointer (some ⟨nth 0 (s.vl.δ++[b]) s.vl.δ.length,0,none⟩))
    rw[this,Kt]
   ·unfold S.boxed;rw[S.E2]
 ·rintro rfl b hb
  have h:=h b hb;refine⟨_,?_,?_,?_,PN _ _ (.set hb),fun _ h=>h,h⟩
  ·rw[S.Hg];rfl
  ·rw[S.Hh];rfl
  ·rw[S.E2];rfl
section
variable {e:Env}{x y:Operand}{u v:Value}{ts:Array TypeId}{ty:TypeId}
theorem QG (hx:AB e x=u)(o:Oper)(ho:o.op=.call { callee:=.builtin .real,args:=#[x],argTypes:=ts })(ht:o.type=ty):execOp (AB e) o=(do pure (.value (←Builtin.real_ ts ty #[u]))):=by
 subst ht;simp[execOp,ho,resolve,invoke,builtin,hx]
theorem QH (hx:AB e x=u)(o:Oper)(ho:o.op=.call { callee:=.builtin .imag,args:=#[x],argTypes:=ts })(ht:o.type=ty):execOp (AB e) o=(do pure (.value (←Builtin.imag_ ts ty #[u]))):=by
 subst ht;simp[execOp,ho,resolve,invoke,builtin,hx]
theorem JU (hx:AB e x=u)(hy:AB e y=v)(o:Oper)(ho:o.op=.call { callee:=.builtin .complex,args:=#[x,y],argTypes:=ts })(ht:o.type=ty):execOp (AB e) o=(do pure (.value (←Builtin.complex_ ts ty #[u,v]))):=by
 subst ht;simp[execOp,ho,resolve,invoke,builtin,hx,hy]
theorem cg (hx:AB e x=u)(hy:AB e y=v)(o:Oper)(ho:o.op=.call { callee:=.builtin .min,args:=#[x,y],argTypes:=ts })(ht:o.type=ty):execOp (AB e) o=(do pure (.value (←Builtin.min_ ts ty #[u,v]))):=by
 subst ht;simp[execOp,ho,resolve,invoke,builtin,hx,hy]
theorem cm (hx:AB e x=u)(hy:AB e y=v)(o:Oper)(ho:o.op=.call { callee:=.builtin .max,args:=#[x,y],argTypes:=ts })(ht:o.type=ty):execOp (AB e) o=(do pure (.value (←Builtin.max_ ts ty #[u,v]))):=by
 subst ht;simp[execOp,ho,resolve,invoke,builtin,hx,hy]
theorem La (hx:AB e x=u)(hy:AB e y=v)(o:Oper)(ho:o.op=.call { callee:=.builtin .unsafeString,args:=#[x,y],argTypes:=ts })(ht:o.type=ty):execOp (AB e) o=(do pure (.value (←Builtin.unsafeString_ ts ty #[u,v]))):=by
 subst ht;simp[execOp,ho,resolve,invoke,builtin,hx,hy]
end
theorem jJ {b:Builtin}{xs:Array Operand}{ts:Array TypeId}(hP:c.P=g.P)(Ms:∀σ0 σ1 F,kp σ0 σ1 F→F∧kq σ0 σ1)
  (hs:sig ops i=some (dst,.call { callee:=.builtin b,args:=xs,argTypes:=ts },ty,gd)) (hw:AP ops (s.e J) gd=true) (hd:Fc dst g.n=true) (h:biV c dst b xs.toList ts ty s kp K):AI g ops i (s.e J) s.b s.σ (St' J s kq K):=by
 unfold biV at h;rw[hP]at h;split at h
 ·cases h
 ·rename_i vs Xc;have two:∀{x y:Operand},xs.toList=[x,y]→xs=#[x,y]∧CJ s.vl vs=[AB (s.e J) x,AB (s.e J) y]:=fun hx=>by
   refine⟨by rw[←AW5];simpa using hx,?_⟩;rw[←Co (J:=J) Xc,hx];rfl
  have one:∀{x:Operand},xs.toList=[x]→xs=#[x]∧CJ s.vl vs=[AB (s.e J) x]:=fun hx=>by
   refine⟨by rw[←AW5];simpa using hx,?_⟩;rw[←Co (J:=J) Xc,hx];rfl
  split at h
  ·rename_i x y hx;obtain⟨rfl,e⟩:=two hx;rw[e]at h;exact AI.QA hs hw hd _ (fun o ho ht=>Cn rfl rfl o ho ht) (h.mono fun v σ1 hr=>Ab IQ Ms hr J)
  ·rename_i x y hx;obtain⟨rfl,e⟩:=two hx;rw[e]at h;exact AI.QA hs hw hd _ (fun o ho ht=>Xq rfl rfl o ho ht) (h.mono fun v σ1 hr=>Ab IQ Ms hr J)
  ·rename_i x y hx;obtain⟨rfl,e⟩:=two hx;rw[e]at h;exact AI.QA hs hw hd _ (fun o ho ht=>Ul rfl rfl o ho ht) (h.mono fun v σ1 hr=>Ab IQ Ms hr J)
  ·rename_i x hx;obtain⟨rfl,e⟩:=one hx;rw[e]at h;exact AI.QA hs hw hd _ (fun o ho ht=>WQ rfl o ho ht) (h.mono fun v σ1 hr=>Ab IQ Ms hr J)
  ·rename_i x hx;obtain⟨rfl,e⟩:=one hx;rw[e]at h;exact AI.QA hs hw hd _ (fun o ho ht=>QG rfl o ho ht) (h.mono fun v σ1 hr=>Ab IQ Ms hr J)
  ·rename_i x hx;obtain⟨rfl,e⟩:=one hx;rw[e]at h;exact AI.QA hs hw hd _ (fun o ho ht=>QH rfl o ho ht) (h.mono fun v σ1 hr=>Ab IQ Ms hr J)
  ·rename_i x y hx;obtain⟨rfl,e⟩:=two hx;rw[e]at h;exact AI.QA hs hw hd _ (fun o ho ht=>JU rfl rfl o ho ht) (h.mono fun v σ1 hr=>Ab IQ Ms hr J)
  ·rename_i x y hx;obtain⟨rfl,e⟩:=two hx;rw[e]at h;exact AI.QA hs hw hd _ (fun o ho ht=>La rfl rfl o ho ht) (h.mono fun v σ1 hr=>Ab IQ Ms hr J)
  ·rename_i x y hx;obtain⟨rfl,e⟩:=two hx;rw[e]at h;exact AI.QA hs hw hd _ (fun o ho ht=>cg rfl rfl o ho ht) (h.mono fun v σ1 hr=>Ab IQ Ms hr J)
  ·rename_i x y hx;obtain⟨rfl,e⟩:=two hx;rw[e]at h;exact AI.QA hs hw hd _ (fun o ho ht=>cm rfl rfl o ho ht) (h.mono fun v σ1 hr=>Ab IQ Ms hr J)
  ·cases h
theorem tn {e:Env}{b:BinOp}{T T':TypeId}{x y:Operand}{u v:Value}(hb:flB b=true)(hx:AB e x=u)(hy:AB e y=v)(o:Oper)(ho:o.op=.binOp b T x y T'):execOp (AB e) o=(do pure (.value (←binOp b T u v))):=by
 cases b<;>first|(cases hb;done)|(simp[execOp,ho,hx,hy,eqGuard])
theorem Rp (hP:c.P=g.P)(hR:c.R=g.R)(hE:AG g.P c.M9)(Ms:∀σ0 σ1 F,kp σ0 σ1 F→F∧kq σ0 σ1)(PN:∀σ0 σ1,Ext σ0 σ1→kq σ0 σ1)
  (hs:sig ops i=some (dst,op,ty,gd)) (hw:AP ops (s.e J) gd=true) (hd:Fc dst g.n=true) (h:jI c dst op ty s kp K):AI g ops i (s.e J) s.b s.σ (St' J s kq K):=by
 unfold jI at h;split at h
 ·rename_i cl;obtain⟨ce,xs,ts⟩:=cl;split at h
  ·rename_i x hx;simp only at hx h;subst hx;exact YA hP hR hE Ms hs hw hd h
  ·rename_i b hx;simp only at hx h;subst hx;exact jJ hP Ms hs hw hd h
  ·rename_i x name hx;simp only at hx h;subst hx;rw[hP,hR]at h;split at h
   ·rename_i u vs hu Xc;obtain⟨f,AWi,hm,h⟩:=h;refine AI.inv hs hw hd (ev hu) (by simpa using Co Xc) ⟨f,AWi,hm,h.mono fun e σ1 hr=>?_⟩;cases e with
    | returned v=>exact Ab IQ Ms hr J
    | panicked ch=>exact hr
    | outgrown=>exact hr
   ·cases h
 ·rename_i b T x y T';split at h
  ·rename_i u v hb hu hv;rw[hP]at h;exact AI.QA hs hw hd _ (fun o ho ht=>tn hb (ev hu) (ev hv) o ho) (h.mono fun v σ1 hr=>Ab IQ Ms hr J)
  ·cases h
 ·rename_i T x;split at h
  ·rename_i v hv;split at h
   ·rename_i cs hc;obtain⟨h1,h2⟩:=YB (J:=J) PN h;have hx:(AB (s.e J) x).cells=(A6 s.vl cs).toArray:=by rw[ev hv,X4 hc]
    cases hh:c.fh dst with
    | true=>exact AI.box hs hw hd hx (h1 hh)
    | false=>exact AI.zb hs hw hd hx (h2 hh)
   ·cases h
  ·cases h
 ·rename_i T;split at h
  ·rename_i z hz;obtain⟨h1,h2⟩:=YB (J:=J) PN h;have hx:z.cells=(A6 s.vl (QC z.cells.toList)).toArray:=by rw[Hi]
   rw[hP]at hz;cases hh:c.fh dst with
   | true=>exact AI.alloc hs hw hd (VW hz) hx (h1 hh)
   | false=>exact AI.JQ hs hw hd (VW hz) hx (h2 hh)
  ·cases h
 ·rename_i T m ps;rw[hP]at h;split at h
  ·rename_i E vs hT Xc;split at h
   ·rename_i cs hc;refine AI.GO hT hs hw hd (MW Xc) hc fun b hb=>?_;refine⟨_,?_,?_,?_,PN _ _ (.set hb),fun _ h=>h,h b hb⟩
    ·rw[S.Hg];rfl
    ·rw[S.Hh];rfl
    ·rw[S.E2];rfl
   ·cases h
  ·cases h
 ·rename_i T x y;split at h
  ·rename_i b o v hx hy;obtain⟨u,e1,e2⟩:=EO hx;rw[hP]at h;refine AI.store hs hw (p:=.pointer (some ⟨b,o,none⟩)) (by rw[ev e1,e2];rfl) (ev hy) (h.mono fun _ σ1 hr=>?_);obtain⟨h1,h2⟩:=Ms _ _ _ hr;exact⟨s.hp σ1,rfl,rfl,rfl,h2,fun _ h=>h,h1⟩
  ·cases h
 ·rename_i T T' x;split at h
  ·rename_i v hv;rw[hP]at h;exact AI.QA hs hw hd _ (fun o ho ht=>by simp only[execOp,ho];rw[ev hv]) (h.mono fun v σ1 hr=>Ab IQ Ms hr J)
  ·cases h
 ·rename_i T;rw[hP]at h;exact AI.QA hs hw hd _ (fun o ho ht=>by simp only[execOp,ho];rfl) (h.mono fun v σ1 hr=>Ab jF Ms hr J)
 ·rename_i T x y two;rw[hP]at h;split at h
  ·rename_i a t u v hT hu hv;exact AI.QA hs hw hd _ (fun o ho ht=>by simp only[execOp,ho];rw[ev hu,ev hv]) (h.mono fun v σ1 hr=>Ab cZ Ms hr J)
  ·cases h
 ·rename_i T x;split at h
  ·rename_i v hv;rw[hP]at h;exact AI.QA hs hw hd _ (fun o ho ht=>by simp only[execOp,ho];rw[ev hv]) (h.mono fun v σ1 hr=>Ab jG Ms hr J)
  ·cases h
 ·rename_i T x y;split at h
  ·rename_i u v hu hv;rw[hP]at h;exact AI.QA hs hw hd _ (fun o ho ht=>by simp only[execOp,ho];rw[ev hu,ev hv]) (h.mono fun v σ1 hr=>Ab IQ Ms hr J)
  ·cases h
 ·rename_i x T A two;split at h
  ·rename_i u hu;rw[hP]at h;exact AI.QA hs hw hd _ (fun o ho ht=>by simp only[execOp,ho];rw[ev hu]) (h.mono fun v σ1 hr=>Ab IQ Ms hr J)
  ·cases h
 ·cases h
end
end Tw
end
