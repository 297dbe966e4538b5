/-
  Part 1 of the proof that the law EvalWindowsUptoCardSaid of the given program answers true for every input of the given statement; the input reads behind the call as it did. (The texts: packed from 20 texts. Names are shortened by the packing program, for the bound on size.)
-/
import Derived.OrdersHeld
import Derived.StillTail
import Derived.Laws.Entries
import Derived.OrdersIn
import Derived.RangeFuncRecord
import Derived.KernelRfl
import Derived.Laws.Slices
import Derived.Laws.Small
import Derived.Laws.Cells
import Derived.Laws.Strings
import Derived.Laws.Tables
import Derived.Laws.Strings2
import Derived.Laws.Pointers
import Derived.Laws.Append
import Derived.Laws.AppendOwn
import Derived.Lib.Overlaps
import Derived.RangeFuncIn
import Derived.ProofKit
import Derived.SizedLaws
import Derived.Deep.Slices
import Derived.Scope
import Derived.Maps.RangeRun
import Derived.MapKept
import Derived.Test.YtlmhidjgplomgaaGreatDoorProg
import Derived.ChangeKeysEq
set_option linter.all false
section
namespace Tw
open Go
abbrev Hp := Nat → Option Obj
abbrev Rr := Ending → Hp → Prop
abbrev Env := Nat → Value
abbrev Bx := List (Nat × Obj)
theorem ZM {a b : Nat} (h : a ≠ b) : Nat.beq a b = false := by
 cases hb : Nat.beq a b
 · rfl
 · exact absurd (Nat.eq_of_beq_eq_true hb) h
def Sat (σ : Hp) (w : World) : Prop := ∀ b o,σ b = some o → w.heap[b]? = some o
def Ht (bx : Bx) (w : World) : Prop := ∀ p ∈ bx,w.heap[p.1]? = some p.2
def Hp.set (σ : Hp) (b : Nat) (o : Obj) : Hp := fun i => if i = b then some o else σ i
def uM (e : Env) (t : Nat) (v : Value) : Env := fun i => bif Nat.beq i t then v else e i
def put (e : Env) (d : Option Nat) (v : Value) : Env := match d with | some d => uM e d v | none => e
def AD (e : Env) : Operand → Value
 | .tmp t => e t
 | .const v => v
 | .global g => .pointer (some ⟨g,0,none⟩)
 | .func f => .func (.func f) #[] #[]
class Er where
 on : Prop
instance AJk : Er := ⟨False⟩
variable [Er]
def Dr (w w' : World) : Prop := w'.os = w.os ∧ w'.tape = w.tape ∧ (Er.on → ∃ n : Nat,w'.drawn = w.drawn + n)
theorem Dr.same {w w' : World} (h1 : w'.os = w.os) (h2 : w'.tape = w.tape) (h3 : w'.drawn = w.drawn) : Dr w w' := ⟨h1,h2,fun _ => ⟨0,h3⟩⟩
theorem Dr.trans {w w' w'' : World} (h : Dr w w') (g : Dr w' w'') : Dr w w'' :=
 ⟨g.1.trans h.1,g.2.1.trans h.2.1,fun hc => let ⟨n,h3⟩ := h.2.2 hc; let ⟨m,g3⟩ := g.2.2 hc; ⟨n + m,by omega⟩⟩
theorem Dr.drew {w w' : World} (h : Dr w w') : Dr w { w' with drawn := w'.drawn + 1 } := h.trans ⟨rfl,rfl,fun _ => ⟨1,rfl⟩⟩
structure Fin (σ : Hp) (F : Nat → Prop) (w w' : World) : Prop where
 sat : Sat σ w'
 Cu : ∀ b,F b → σ b = none ∧ w'.heap[b]? = w.heap[b]?
 os : Dr w w'
 out : w'.output = w.output
 grow : w.heap.size ≤ w'.heap.size
def Spec (P : Program) (f : FuncId) (args : Array Value) (σ : Hp) (R : Rr) : Prop :=
 ∀ (w : World) (F : Nat → Prop),Sat σ w → (∀ b,F b → b < w.heap.size ∧ σ b = none) →
   Calls P f args w (fun e w' => ∃ σ',R e σ' ∧ Fin σ' F w w')
theorem Spec.mono {P : Program} {f : FuncId} {args : Array Value} {σ : Hp} {R R' : Rr} (h : Spec P f args σ R)
   (hr : ∀ e σ',R e σ' → R' e σ') : Spec P f args σ R' := fun w F hs hF =>
 (h w F hs hF).mono fun _ _ ⟨σ',h1,h2⟩ => ⟨σ',hr _ _ h1,h2⟩
structure St (n : Nat) (ds : List Deferred) (w0 : World) (F : Nat → Prop) (e : Env) (bx : Bx) (σ : Hp) (a : Act) (w : World) : Prop where
 size : a.tmps.size = n
 env : ∀ t,a.tmps.getD t undef = e t
 defers : a.defers = ds
 sat : Sat σ w
 box : Ht bx w
 free : ∀ p ∈ bx,σ p.1 = none ∧ ¬ F p.1
 nodup : (bx.map (·.1)).Nodup
 Cu : ∀ b,F b → b < w0.heap.size ∧ σ b = none ∧ w.heap[b]? = w0.heap[b]?
 os : Dr w0 w
 out : w.output = w0.output
 grow : w0.heap.size ≤ w.heap.size
theorem St.eval {n ds w0 F e bx σ a w} (h : St n ds w0 F e bx σ a w) : a.eval = AD e := by
 funext x
 cases x with
 | tmp t => exact h.env t
 | _ => rfl
theorem St.put {n ds w0 F e bx σ a w} (h : St n ds w0 F e bx σ a w) (d : Option Nat) (v : Value) (hd : ∀ t,d = some t → t < n) :
   St n ds w0 F (put e d v) bx σ (a.put d v) w := by
 cases d with
 | none => exact h
 | some d =>
   have hd := hd d rfl
   refine { h with size := by simp [Act.put,h.size],env := fun t => ?_,defers := h.defers }
   simp only [Act.put,Tw.put,uM]
   by_cases ht : t = d
   · subst ht
     have : t < a.tmps.size := by rw [h.size]; exact hd
     simp [this]
   · have h1 := h.env t
     have hb : Nat.beq t d = false := ZM ht
     simp only [hb,cond_false]
     rw [← h1]
     simp [Array.getElem?_setIfInBounds_ne (Ne.symm ht)]
theorem St.drew {n ds w0 F e bx σ a w} (h : St n ds w0 F e bx σ a w) : St n ds w0 F e bx σ a { w with drawn := w.drawn + 1 } :=
 { h with sat := h.sat,box := h.box,Cu := h.Cu,os := h.os.drew,out := h.out,grow := h.grow }
structure Gl where
 P : Program
 f : FuncId
 n : Nat
 R : Rr
 Gg : Option Nat
 ds : List Deferred
 pan : (Gg = none ∧ ds = []) ∨ ∀ ch σ,¬ R (.panicked ch) σ
abbrev Gl.fn (P : Program) (f : FuncId) (n : Nat) (R : Rr) : Gl := ⟨P,f,n,R,none,[],.inl ⟨rfl,rfl⟩⟩
def wd (r : Option Nat) : Fence := { Fence.wide with round := r }
theorem qM {r : Option Nat} {n : Nat} : (wd r).room n := fun _ h => by simp [wd,Fence.wide] at h
theorem Cv {P : Program} {r : Option Nat} {ρ : Operand → Value} {o : Oper} {w w' : World} {nx : Next} (h : (execOp ρ o).run P w = .ok nx w') (hn : ∀ d,nx ≠ .defer d) : (o.semAt r ρ).run P w = .ok nx w' := by
 by_cases hd : ∃ c,o.op = .defer c
 · obtain ⟨c,hc⟩ := hd
   simp only [execOp,hc,Sem.run_bind] at h
   cases hr : (resolve ρ c o.type).run P w with
   | ok d w2 =>
     rw [hr] at h
     simp only [Result.andThen_ok,Sem.run_pure,Result.ok.injEq] at h
     exact absurd h.1.symm (hn d)
   | halt x w2 => rw [hr] at h; simp [Result.andThen] at h
 · rw [Oper.semAt_eq r ρ o (fun c hc => hd ⟨c,hc⟩)]; exact h
def Lt (P : Program) (f : FuncId) (Gg : Option Nat) (cs : List Frame) (m : Machine) (R : Ending → World → Prop) : Prop :=
 match Gg with
 | none => ∃ e w' fr,R e w' ∧ Comes P m (lone fr cs w') e ∧ fr.fn = f ∧ fr.leaving P w' e
 | some _ => ∀ c cs',cs = c :: cs' → ∃ v w',R (.returned v) w' ∧ Steps P m (lone (c.finish v) cs' w')
theorem Lt.of_steps {P f Gg cs m m' R} (hs : Steps P m m') (h : Lt P f Gg cs m' R) : Lt P f Gg cs m R := by
 cases Gg with
 | none => exact let ⟨e,w',fr,r,c,x⟩ := h; ⟨e,w',fr,r,.of_steps hs c,x⟩
 | some l => exact fun c cs' hc => let ⟨v,w',r,x⟩ := h c cs' hc; ⟨v,w',r,hs.trans x⟩
def HW (P : Program) (f : FuncId) (Gg : Option Nat) (k : List Item) (a : Act) (w : World) (R : Ending → World → Prop) : Prop :=
 ∀ (b : Frame) (cs : List Frame),b.fn = f → b.kind = .normal → b.roundOf = Gg → (∃ fn,P.funcs[f]? = some fn) → Lt P f Gg cs (lone (b.atR a k) cs w) R
theorem HW.step {P f Gg k a w R k' a' w'} (hs : ∀ (b : Frame) cs,b.roundOf = Gg → step P (lone (b.atR a k) cs w) = .next (lone (b.atR a' k') cs w'))
   (h : HW P f Gg k' a' w' R) : HW P f Gg k a w R := fun b cs hf hk hr QA => .of_steps (.one (hs b cs hr)) (h b cs hf hk hr QA)
def qN (g : Gl) (w0 : World) (F : Nat → Prop) : Ending → World → Prop := fun en w' => ∃ σ',g.R en σ' ∧ Fin σ' F w0 w'
def At (g : Gl) (k : List Item) (e : Env) (bx : Bx) (σ : Hp) : Prop :=
 ∀ w0 F a w,St g.n g.ds w0 F e bx σ a w → HW g.P g.f g.Gg k a w (qN g w0 F)
section steps
variable {g : Gl} {k : List Item} {e : Env} {bx : Bx} {σ : Hp}
theorem At.skip (h : At g k e bx σ) : At g (.code .skip :: k) e bx σ := fun w0 F a w st => .step (fun _ _ _ => stepR_skip) (h w0 F a w st)
theorem At.label {l} (h : At g k e bx σ) : At g (.code (.label l) :: k) e bx σ := fun w0 F a w st => .step (fun _ _ _ => stepR_label) (h w0 F a w st)
theorem At.inBlock {i} (h : At g k e bx σ) : At g (.inBlock i :: k) e bx σ := fun w0 F a w st => .step (fun _ _ _ => stepR_inBlock) (h w0 F a w st)
theorem At.seq {c x y} (hc : c = Code.seq x y) (h : At g (.code x :: .code y :: k) e bx σ) : At g (.code c :: k) e bx σ :=
 hc ▸ fun w0 F a w st => .step (fun _ _ _ => stepR_seq) (h w0 F a w st)
theorem At.block {c i x} (hc : c = Code.block i x) (h : At g (.code x :: .inBlock i :: k) e bx σ) : At g (.code c :: k) e bx σ :=
 hc ▸ fun w0 F a w st => .step (fun _ _ _ => stepR_block) (h w0 F a w st)
theorem At.loop {c x} (hc : c = Code.loop x) (h : At g (.code x :: .inLoop x :: k) e bx σ) : At g (.code c :: k) e bx σ :=
 hc ▸ fun w0 F a w st => .step (fun _ _ _ => stepR_loop) (h w0 F a w st)
theorem At.inLoop {x} (h : At g (.code x :: .inLoop x :: k) e bx σ) : At g (.inLoop x :: k) e bx σ :=
 fun w0 F a w st => .step (fun _ _ _ => stepR_inLoop) (h w0 F a w st)
theorem At.exit {c i k'} (hc : c = Code.exit i) (hk : exitTo i k = some k') (h : At g k' e bx σ) : At g (.code c :: k) e bx σ :=
 hc ▸ fun w0 F a w st => .step (fun _ _ _ => stepR_exit hk) (h w0 F a w st)
theorem At.goto {c i k'} (hc : c = Code.goto i) (hk : gotoIn i k = some k') (h : At g k' e bx σ) : At g (.code c :: k) e bx σ :=
 hc ▸ fun w0 F a w st => .step (fun _ _ _ => stepR_goto hk) (h w0 F a w st)
theorem At.uN {c x y z} (hc : c = Code.cond x y z) (hx : AD e x = .bool true) (h : At g (.code y :: k) e bx σ) : At g (.code c :: k) e bx σ :=
 hc ▸ fun w0 F a w st => .step (fun _ _ _ => stepR_cond (t := true) (by rw [st.eval]; exact hx)) (h w0 F a w st)
theorem At.uO {c x y z} (hc : c = Code.cond x y z) (hx : AD e x = .bool false) (h : At g (.code z :: k) e bx σ) : At g (.code c :: k) e bx σ :=
 hc ▸ fun w0 F a w st => .step (fun _ _ _ => stepR_cond (t := false) (by rw [st.eval]; exact hx)) (h w0 F a w st)
def left (ds : List Deferred) (σ : Hp) : Hp := ds.foldl (fun σ d => match d.target with | .collected D => σ.set D (.deferred none) | _ => σ) σ
def Marks : List Deferred → Hp → Prop
 | [],_ => True
 | d :: ds,σ => ∃ D,d = { target := .collected D,args := #[] } ∧ σ D = some (.deferred (some [])) ∧ Marks ds (σ.set D (.deferred none))
theorem Fin.put {σ : Hp} {F : Nat → Prop} {w0 w : World} {l : Nat} {o o' : Obj} (h : Fin σ F w0 w) (hl : σ l = some o) : Fin (σ.set l o') F w0 (w.putObj l o') := by
 have Az : l < w.heap.size := (Array.getElem?_eq_some_iff.1 (h.sat l o hl)).1
 refine ⟨fun k u hk => ?_,fun k hk => ?_,h.os,h.out,by simpa using h.grow⟩
 · by_cases hkl : k = l
   · subst hkl
     simp only [Hp.set,if_true] at hk; cases hk
     exact World.putObj_heap_same Az
   · simp only [Hp.set,hkl,if_false] at hk
     rw [World.putObj_heap_other hkl]; exact h.sat k u hk
 · have hp := h.Cu k hk
   have hkl : k ≠ l := fun e => by rw [e,hl] at hp; cases hp.1
   exact ⟨by simp only [Hp.set,hkl,if_false]; exact hp.1,by rw [World.putObj_heap_other hkl]; exact hp.2⟩
theorem St.toFin {n ds w0 F e bx σ a w} (st : St n ds w0 F e bx σ a w) : Fin σ F w0 w := ⟨st.sat,fun b hb => ⟨(st.Cu b hb).2.1,(st.Cu b hb).2.2⟩,st.os,st.out,st.grow⟩
theorem OG {P : Program} : ∀ (ds : List Deferred) {σ : Hp} {F : Nat → Prop} {w0 w : World} {fr : Frame} {cs : List Frame},Marks ds σ → Fin σ F w0 w → Ht bx w → (∀ p ∈ bx,σ p.1 = none) → fr.mode = .returning → fr.defers = ds →
   ∃ w',Fin (left ds σ) F w0 w' ∧ Ht bx w' ∧ Steps P (lone fr cs w) (lone { fr with defers := [] } cs w')
 | [],σ,F,w0,w,fr,cs,_,hf,hb,_,_,hd => ⟨w,hf,hb,by rw [show ({ fr with defers := [] } : Frame) = fr by cases fr; simp at hd; simp [hd]]; exact .refl ..⟩
 | d :: ds,σ,F,w0,w,fr,cs,⟨D,hD,hσ,hm⟩,hf,hb,hn,hmo,hd => by
   subst hD
   have h1 := step_collected (P := P) (fr := fr) (cs := cs) (w := w) (r := D) (by rw [hmo]; simp) hd rfl (run_takeDeferred (hf.sat D _ hσ))
   have BD : ∀ p ∈ bx,p.1 ≠ D := fun p hp e => by have := hn p hp; rw [e,hσ] at this; cases this
   obtain ⟨w',hf',O5,hs⟩ := OG ds (fr := { fr with defers := [] ++ ds }) (cs := cs) hm (hf.put hσ) (fun p hp => by rw [World.putObj_heap_other (BD p hp)]; exact hb p hp) (fun p hp => by simp only [Hp.set,BD p hp,if_false]; exact hn p hp) hmo rfl
   exact ⟨w',hf',O5,(Steps.one h1).trans hs⟩
theorem At.done {fn : Func} {v : Value} (hf : g.P.funcs[g.f]? = some fn)
   (hr : ∀ (a : Act) w,(∀ t,a.tmps.getD t undef = e t) → Sat (left g.ds σ) w → Ht bx w → (results fn a.tmps).run g.P w = .ok v w)
   (h : g.R (.returned v) (left g.ds σ)) (Td : g.Gg = none := by rfl) (hm : Marks g.ds σ := by trivial) : At g [] e bx σ := fun w0 F a w st b cs pW ZN bu QA => by
 have qO : b.roundOf = none := bu.trans Td
 obtain ⟨w',OH,O5,hs⟩ := OG (P := g.P) (cs := cs) (fr := { b.atR a [] with mode := .returning }) g.ds hm st.toFin st.box (fun p hp => (st.free p hp).1) rfl st.defers
 unfold Lt
 rw [Td]
 exact ⟨.returned v,w',_,⟨_,h,OH⟩,(Steps.one (stepR_end qO)).trans hs,pW,rfl,rfl,ZN,fn,by simpa [Frame.atR,pW] using hf,hr a w' st.env OH.sat O5⟩
theorem At.ret {c : Code} {fn : Func} {v : Value} (hc : c = Code.ret) (hf : g.P.funcs[g.f]? = some fn)
   (hr : ∀ (a : Act) w,(∀ t,a.tmps.getD t undef = e t) → Sat (left g.ds σ) w → Ht bx w → (results fn a.tmps).run g.P w = .ok v w)
   (h : g.R (.returned v) (left g.ds σ)) (Td : g.Gg = none := by rfl) (hm : Marks g.ds σ := by trivial) : At g (.code c :: k) e bx σ := hc ▸ fun w0 F a w st b cs pW ZN bu QA => by
 have qO : b.roundOf = none := bu.trans Td
 obtain ⟨w',OH,O5,hs⟩ := OG (P := g.P) (cs := cs) (fr := { b.atR a (.code .ret :: k) with mode := .returning }) g.ds hm st.toFin st.box (fun p hp => (st.free p hp).1) rfl st.defers
 unfold Lt
 rw [Td]
 exact ⟨.returned v,w',_,⟨_,h,OH⟩,(Steps.one (stepR_ret qO)).trans hs,pW,rfl,rfl,ZN,fn,by simpa [Frame.atR,pW] using hf,hr a w' st.env OH.sat O5⟩
def lp (r : Loop) (s : LoopState) (p : Option Code) : Loop := { r with state := s,pending := p }
theorem At.beginRound {l : Nat} {r : Loop} (Td : g.Gg = some l) (hσ : σ l = some (.loop (lp r .ready none))) (h : At g k e bx (σ.set l (.loop (lp r .busy none)))) : At g (.beginRound :: k) e bx σ := fun w0 F a w st =>
 HW.step (fun b cs hb => stepR_beginRound (hb.trans Td) (run_beginRound (st.sat _ _ hσ) rfl)) (h w0 F a _ (by
   have hf := st.toFin.put (o' := .loop (lp r .busy none)) hσ
   have BD : ∀ p ∈ bx,p.1 ≠ l := fun p hp e => by have := (st.free p hp).1; rw [e,hσ] at this; cases this
   exact { st with sat := hf.sat,box := fun p hp => by rw [World.putObj_heap_other (BD p hp)]; exact st.box p hp,free := fun p hp => ⟨by simp only [Hp.set,BD p hp,if_false]; exact (st.free p hp).1,(st.free p hp).2⟩,
                   Cu := fun b hb => ⟨(st.Cu b hb).1,(hf.Cu b hb).1,(hf.Cu b hb).2⟩,os := hf.os,out := hf.out,grow := hf.grow }))
theorem At.jD {l : Nat} {r : Loop} (Td : g.Gg = some l) (hσ : σ l = some (.loop (lp r .busy none))) (h : g.R (.returned (.bool true)) (σ.set l (.loop (lp r .ready none)))) : At g [] e bx σ := fun w0 F a w st b cs pW ZN bu QA => by
 unfold Lt
 rw [Td]
 rintro c cs' rfl
 exact ⟨_,_,⟨_,h,st.toFin.put hσ⟩,.one (stepR_round_end (bu.trans Td) ZN (run_endRound (r := lp r .busy none) none (st.sat _ _ hσ)))⟩
theorem At.jE {l : Nat} {r : Loop} {c : Code} (hc : c = .ret) (Td : g.Gg = some l) (hσ : σ l = some (.loop (lp r .busy none))) (h : g.R (.returned (.bool false)) (σ.set l (.loop (lp r .done (some .ret))))) : At g (.code c :: k) e bx σ := fun w0 F a w st b cs pW ZN bu QA => by
 subst hc
 unfold Lt
 rw [Td]
 rintro c cs' rfl
 exact ⟨_,_,⟨_,h,st.toFin.put hσ⟩,.one (stepR_round_ret (bu.trans Td) ZN (run_endRound (r := lp r .busy none) (some .ret) (st.sat _ _ hσ)))⟩
theorem At.sub {F1 : Bx} (hs : F1.Sublist bx) (h : At g k e F1 σ) : At g k e bx σ := fun w0 F a w st =>
 h w0 F a w { st with box := fun p hp => st.box p (hs.subset hp),free := fun p hp => st.free p (hs.subset hp),nodup := (hs.map _).nodup st.nodup }
def Je (e : Env) : List (Nat × Value) → Env
 | [] => e
 | (t,v) :: l => uM (Je e l) t v
theorem bw {e : Env} : ∀ {l : List (Nat × Value)},(∀ p ∈ l,e p.1 = p.2) → Je e l = e
 | [],_ => rfl
 | (t,v) :: l,h => by
   have h1 : Je e l = e := bw fun p hp => h p (List.mem_cons_of_mem _ hp)
   funext i
   simp only [Je,h1,uM]
   by_cases hi : i = t
   · subst hi
     rw [Nat.beq_refl]
     exact (h (i,v) (List.mem_cons_self ..)).symm
   · rw [ZM hi]; rfl
def Live (e : Env) : List (Nat × Value) → Prop
 | [] => True
 | (t,v) :: l => e t = v ∧ Live e l
theorem Live.mem {e : Env} : ∀ {l : List (Nat × Value)},Live e l → ∀ p ∈ l,e p.1 = p.2
 | (_,_) :: _,h,p,hp => by
   rcases List.mem_cons.1 hp with rfl | hp
   · exact h.1
   · exact h.2.mem p hp
theorem At.live {l : List (Nat × Value)} (hl : Live e l) (h : At g k (Je e l) bx σ) : At g k e bx σ := by
 rwa [bw hl.mem] at h
end steps
theorem Spec.bz {P : Program} {f : FuncId} {fn : Func} {c : Code} {args : Array Value} {σ : Hp} {R : Rr}
   (hf : P.funcs[f]? = some fn) (hb : fn.body = some c) (hn : args.size ≤ fn.ntmps)
   (h : ∀ e : Env,(∀ t,e t = args.getD t undef) → At (Gl.fn P f fn.ntmps R) [.code c] e [] σ) : Spec P f args σ R := by
 intro w F hs hF cs
 let b : Frame := { (default : Frame) with fn := f,kind := .normal,roundOf := none }
 have ZO : Frame.enter P f args .normal =
     b.atR { tmps := args ++ Array.replicate (fn.ntmps - args.size) undef,defers := [] } [.code c] := by
   simp [Frame.enter,Frame.atR,hf,hb,b]
 rw [ZO]
 have st : St fn.ntmps [] w F (fun t => args.getD t undef) [] σ { tmps := args ++ Array.replicate (fn.ntmps - args.size) undef,defers := [] } w := by
   refine ⟨by simp; omega,fun t => ?_,rfl,hs,(fun p hp => by cases hp),(fun p hp => by cases hp),List.nodup_nil,fun b hb => ⟨(hF b hb).1,(hF b hb).2,rfl⟩,.same rfl rfl rfl,rfl,Nat.le_refl _⟩
   rcases Nat.lt_or_ge t args.size with ht | ht
   · simp [Array.getElem?_append,ht]
   · simp only [Array.getD_eq_getD_getElem?,Array.getElem?_append,Nat.not_lt.2 ht,if_false,Array.getElem?_replicate,Array.getElem?_eq_none ht]
     split <;> rfl
 obtain ⟨e,w',fr,r,cc,QA,hl⟩ := h _ (fun _ => rfl) w F _ w st b cs rfl rfl rfl ⟨fn,hf⟩
 exact ⟨e,w',fr,r,cc,QA,hl⟩
def AR (ops : Array Oper) (e : Env) (gd : Option (Nat × Bool)) : Bool :=
 match gd with
 | none => true
 | some (j,want) => (match (ops[j]?).bind (·.dst) with
     | some d => (match e d with | .bool b => some b | _ => none)
     | none => none) == some want
theorem St.wanted {n ds w0 F e bx σ a w} (h : St n ds w0 F e bx σ a w) (ops : Array Oper) (o : Oper) :
   Region.wanted o (yielded ops a.tmps) = AR ops e o.guard := by
 unfold Region.wanted AR
 cases o.guard with
 | none => rfl
 | some p =>
   obtain ⟨j,want⟩ := p
   simp only [yielded]
   cases (ops[j]?).bind (·.dst) with
   | none => rfl
   | some d =>
     have hd := h.env d
     simp only [Option.bind_some,← hd,Array.getD_eq_getD_getElem?]
     cases a.tmps[d]? with
     | none => rfl
     | some v => cases v <;> rfl
def Qx (g : Gl) (w0 : World) (F : Nat → Prop) : Exit → Act → World → Prop
 | .panic ch,a,w => (g.Gg = none ∧ a.defers = []) ∧ qN g w0 F (.panicked ch) w
 | _,_,_ => False
def AN (g : Gl) (ops : Array Oper) (i : Nat) (e : Env) (bx : Bx) (σ : Hp) (K : Env → Bx → Hp → Prop) : Prop :=
 ∀ w0 F a w,St g.n g.ds w0 F e bx σ a w → wpOpIn (wd g.Gg) 0 g.P ops (Qx g w0 F) i (fun a' w' => ∃ e' F1 σ',St g.n g.ds w0 F e' F1 σ' a' w' ∧ K e' F1 σ') a w
def Seq (g : Gl) (ops : Array Oper) : List Nat → Env → Bx → Hp → (Env → Bx → Hp → Prop) → Prop
 | [],e,bx,σ,K => K e bx σ
 | i :: is,e,bx,σ,K => AN g ops i e bx σ fun e' F1 σ' => Seq g ops is e' F1 σ' K
def Yd (P : Program) (e : Env) (bx : Bx) (σ : Hp) (op : Op) (ty : TypeId) (v : Value) : Prop :=
 ∀ o : Oper,o.op = op → o.type = ty → ∀ w,Sat σ w → Ht bx w → (execOp (AD e) o).run P w = .ok (.value v) w
abbrev IZ := Option (List (Nat × List Nat))
def OI (q : IZ) (own : Option (Nat × List (List Nat))) (σ : Hp) : Hp :=
 match q,own with
 | none,_ => σ
 | some _,none => fun _ => none
 | some _,some x => fun b => if b = x.1 then σ b else none
def MN : IZ → Option (Nat × List (List Nat)) → IZ
 | none,_ => none
 | some L,none => some L
 | some L,some x => some ((x.1,x.2.filterMap List.head?) :: L)
def FR : IZ → Nat → IZ
 | none,_ => none
 | some L,j => some (L.filter fun x => !x.2.contains j)
def Hu (ops : Array Oper) (t u : Nat) : Bool :=
 match ops[t]? with
 | some o => o.after.any fun e => Region.binds .any e && e.on == u
 | none => false
def QZ (ops : Array Oper) (i : Nat) : List Nat → Bool
 | [] => false
 | [t] => Hu ops t i
 | t :: u :: r => Hu ops t u && QZ ops i (u :: r)
def IZ.ok (q : IZ) (i : Nat) : Bool :=
 match q with
 | none => true
 | some L => L.all fun x => !x.2.contains i
def Qa (ops : Array Oper) (i : Nat) : Option (Nat × List (List Nat)) → Bool
 | none => true
 | some x => x.2.all (QZ ops i)
def Sq (q : IZ) (σ : Hp) (bx : Bx) (listed : Array Bool) (w : World) : Prop :=
 Ht bx w ∧ match q with
   | none => Sat σ w
   | some L => ∀ x ∈ L,(∃ t ∈ x.2,listed.getD t false = true) ∨ ∀ o,σ x.1 = some o → w.heap[x.1]? = some o
def Jf (q : IZ) (bx : Bx) (σ : Hp) (F1 : Bx) (σ' : Hp) : Prop :=
 (∀ p ∈ bx,p ∈ F1) ∧ match q with
   | none => ∀ b o,σ b = some o → σ' b = some o
   | some L => ∀ x ∈ L,∀ o,σ x.1 = some o → σ' x.1 = some o
theorem Jf.refl (q : IZ) (bx : Bx) (σ : Hp) : Jf q bx σ bx σ := ⟨fun _ h => h,by cases q <;> simp⟩
theorem Sq.of {q : IZ} {σ : Hp} {bx : Bx} {listed : Array Bool} {w : World} (h : Sat σ w) (hb : Ht bx w) : Sq q σ bx listed w := ⟨hb,by
 cases q with
 | none => exact h
 | some L => exact fun x _ => .inr fun o ho => h _ _ ho⟩
theorem VF {listed : Array Bool} {i t : Nat} (h : t ≠ i) : (listed.setIfInBounds i true).getD t false = listed.getD t false := getD_set_ne false (Ne.symm h)
theorem Sq.set {q : IZ} {σ : Hp} {bx : Bx} {i : Nat} (Ck : q.ok i = true) (listed : Array Bool) (w : World) : Sq q σ bx (listed.setIfInBounds i true) w ↔ Sq q σ bx listed w := by
 unfold Sq
 cases q with
 | none => exact Iff.rfl
 | some L =>
   refine and_congr Iff.rfl (forall_congr' fun x => forall_congr' fun hx => or_congr ?_ Iff.rfl)
   have hni : i ∉ x.2 := by
     have := List.all_eq_true.1 Ck x hx
     simpa using this
   refine exists_congr fun t => and_congr_right fun ht => ?_
   rw [VF (fun h => hni (by subst h; exact ht))]
theorem O6 {ops : Array Oper} {n i : Nat} {listed : Array Bool} (inv : HeadInv .any ops n listed) : ∀ (p : List Nat) (t : Nat),QZ ops i p = true → p.head? = some t → listed.getD t false = true → listed.getD i false = true
 | [],_,h,_,_ => by cases h
 | [t'],t,h,ht,hl => by
   simp only [List.head?_cons,Option.some.injEq] at ht
   subst ht
   simp only [QZ,Hu] at h
   split at h
   · rename_i o ho
     obtain ⟨e,he,hb⟩ := Array.any_eq_true'.1 h
     simp only [Bool.and_eq_true,beq_iff_eq] at hb
     exact hb.2 ▸ inv.closed _ o ho hl e he hb.1
   · cases h
 | t' :: u :: r,t,h,ht,hl => by
   simp only [List.head?_cons,Option.some.injEq] at ht
   subst ht
   simp only [QZ,Bool.and_eq_true] at h
   refine O6 inv (u :: r) u h.2 rfl ?_
   have h := h.1
   simp only [Hu] at h
   split at h
   · rename_i o ho
     obtain ⟨e,he,hb⟩ := Array.any_eq_true'.1 h
     simp only [Bool.and_eq_true,beq_iff_eq] at hb
     exact hb.2 ▸ inv.closed _ o ho hl e he hb.1
   · cases h
theorem Sq.own {ops : Array Oper} {n i : Nat} {listed : Array Bool} {q : IZ} {own : Option (Nat × List (List Nat))} {σ : Hp} {bx : Bx} {w : World} (inv : HeadInv .any ops n listed) (VH : listed.getD i true = false) (Ck : Qa ops i own = true)
   (h : Sq (MN q own) σ bx listed w) : Sat (OI q own σ) w ∧ Ht bx w := by
 refine ⟨?_,h.1⟩
 cases q with
 | none => exact h.2
 | some L =>
   cases own with
   | none => intro b o hb; cases hb
   | some x =>
     intro b o hb
     simp only [OI] at hb
     split at hb
     · rename_i hbx
       subst hbx
       rcases h.2 (x.1,x.2.filterMap List.head?) (List.mem_cons_self ..) with ⟨t,ht,hl⟩ | h2
       · obtain ⟨p,hp,hpt⟩ := List.mem_filterMap.1 ht
         have := O6 inv p t (List.all_eq_true.1 Ck p hp) hpt hl
         rw [getD_both VH] at this; cases this
       · exact h2 o hb
     · cases hb
theorem Sq.less {q : IZ} {own : Option (Nat × List (List Nat))} {σ : Hp} {bx : Bx} {listed : Array Bool} {w : World} (h : Sq (MN q own) σ bx listed w) : Sq q σ bx listed w := by
 refine ⟨h.1,?_⟩
 cases q with
 | none => exact h.2
 | some L =>
   cases own with
   | none => exact h.2
   | some x => exact fun y hy => h.2 y (List.mem_cons_of_mem _ hy)
theorem Sq.VI {q : IZ} {σ σ' : Hp} {bx F1 : Bx} {i : Nat} {listed : Array Bool} {w : World} (hi : listed.getD i false = true) (hk : Jf (FR q i) bx σ F1 σ') (h : Sq (FR q i) σ' F1 listed w) : Sq q σ bx listed w := by
 refine ⟨fun p hp => h.1 p (hk.1 p hp),?_⟩
 cases q with
 | none => exact fun b o hb => h.2 b o (hk.2 b o hb)
 | some L =>
   intro x hx
   by_cases hc : i ∈ x.2
   · exact .inl ⟨i,hc,hi⟩
   · have hm : x ∈ L.filter fun x => !x.2.contains i := List.mem_filter.2 ⟨hx,by simpa using hc⟩
     rcases h.2 x hm with h2 | h2
     · exact .inl h2
     · exact .inr fun o ho => h2 o (hk.2 x hm o ho)
def Head (g : Gl) (ops : Array Oper) : IZ → List (Nat × Bool) → Env → Bx → Hp → (Env → Bx → Hp → Prop) → Prop
 | _,[],e,bx,σ,K => K e bx σ
 | q,(i,true) :: r,e,bx,σ,K => ∃ own o v,((MN q own).ok i && Qa ops i own) = true ∧ ops[i]? = some o ∧ ((AR ops e o.guard = true ∧ Yd g.P e bx (OI q own σ) o.op o.type v) ∨ (AR ops e o.guard = false ∧ v = undef)) ∧
     (∀ t,o.dst = some t → t < g.n) ∧ Head g ops (MN q own) r (put e o.dst v) bx σ K
 | q,(i,false) :: r,e,bx,σ,K => AN g ops i e bx σ fun e' F1 σ' => Jf (FR q i) bx σ F1 σ' ∧ Head g ops (FR q i) r e' F1 σ' K
def OJ (ops : Array Oper) (n : Nat) : List (Nat × Bool) → Array Bool → Bool
 | [],listed => Region.seqB .any ops (ops.size - n) n listed
 | (i,true) :: r,listed => decide (i < n) && (Region.ready .any ops listed).contains i && Region.free .any ops listed i && OJ ops n r (listed.setIfInBounds i true)
 | (i,false) :: r,listed => decide (i < n) && (Region.ready .any ops listed == [i]) && OJ ops n r (listed.setIfInBounds i true)
def jF (ops : Array Oper) (n : Nat) (plan : List (Nat × Bool)) (tail : List Nat) : Bool :=
 Region.noSelect ops && decide (plan.length = n) && (decide (n = ops.size) || (decide (n < ops.size) && Region.sinkB .any ops n && Region.chainB .any ops n)) &&
   decide (tail = List.range' n (ops.size - n)) && OJ ops n plan (Array.replicate ops.size false)
section head
variable {P : Program} {ro : Option Nat} {ops : Array Oper} {Q : Exit → Act → World → Prop} {md : Region.Mode}
theorem B8 {i : Nat} {o : Oper} {K : Act → World → Prop} {a : Act} {w : World} (ho : ops[i]? = some o) (hw : Region.wanted o (yielded ops a.tmps) = true) (h : o.uponIn (wd ro) 0 P a K Q ((o.semAt ro a.eval).run P w)) :
   wpOpIn (wd ro) 0 P ops Q i K a w := by
 unfold wpOpIn
 simp only [ho,hw,if_true]
 exact ⟨fun _ _ => trivial,h⟩
theorem ZP {i : Nat} {o : Oper} {K : Act → World → Prop} {a : Act} {w : World} (ho : ops[i]? = some o) (hw : Region.wanted o (yielded ops a.tmps) = false) (h : K (a.put o.dst undef) w) : wpOpIn (wd ro) 0 P ops Q i K a w := by
 unfold wpOpIn
 simp only [ho,hw,Bool.false_eq_true,if_false]
 exact ⟨fun _ _ => trivial,h⟩
theorem b0 {S : World → Prop} {i : Nat} {o : Oper} {v : Value} {a : Act} (hi : ops[i]? = some o) (hy : YieldsIf P ops S o v a)
   {K : Act → World → Prop} {w : World} (hS : S w) (h : K (a.put o.dst v) w) : wpOpIn (wd ro) 0 P ops Q i K a w := by
 rcases hy with ⟨hw,hv⟩ | ⟨hw,rfl⟩
 · refine B8 hi hw ?_
   rw [Cv (hv w hS) (fun d => by simp)]
   exact h
 · exact ZP hi hw h
theorem eU {o : Oper} (hs : ∀ cs b,o.op ≠ .select cs b) (a : Act) (dst : Option Tmp) (u : Value) (h : ∀ d,dst = some d → d ∉ o.looksAt ops) : o.semAt ro (a.put dst u).eval = o.semAt ro a.eval := by
 have he := execOp_put o hs a dst u h
 by_cases hd : ∃ c,o.op = .defer c
 · obtain ⟨c,hc⟩ := hd
   have hr : resolve (a.put dst u).eval c o.type = resolve a.eval c o.type := resolve_congr (ρ := (a.put dst u).eval) (ρ' := a.eval) c o.type (fun x hx => Act.eval_put fun d hd hxd => h d hd (by
     subst hxd
     exact List.mem_append_left _ (List.mem_filterMap.2 ⟨.tmp d,by rw [hc]; simpa [Op.operands] using hx,rfl⟩)))
   unfold Oper.semAt
   cases ro with
   | none => exact he
   | some l => simp only [hc,hr]
 · rw [Oper.semAt_eq ro _ o (fun c hc => hd ⟨c,hc⟩),Oper.semAt_eq ro _ o (fun c hc => hd ⟨c,hc⟩)]; exact he
theorem eV {S : World → Prop} {j : Nat} {oi oj : Oper} {v : Value} (hj : ops[j]? = some oj) (hap : oi.apart ops oj = true)
   (jG : ∀ cs b,oi.op ≠ .select cs b) (hsj : ∀ cs b,oj.op ≠ .select cs b)
   (hQ : ∀ c a w,Q (.panic c) (a.put oi.dst v) w → Q (.panic c) a w) {K : Act → World → Prop} {a : Act} {w : World}
   (hy : YieldsIf P ops S oi v a) (h : wpOpIn (wd ro) 0 P ops Q j K (a.put oi.dst v) w) :
   wpOpIn (wd ro) 0 P ops Q j (fun a' w' => YieldsIf P ops S oi v a' ∧ K (a'.put oi.dst v) w') a w := by
 obtain ⟨h1,h2,h3⟩ := Oper.apart_spec hap
 have Te : ∀ (a : Act),YieldsIf P ops S oi v a → ∀ u,YieldsIf P ops S oi v (a.put oj.dst u) := fun a hy u =>
   hy.of_same (execOp_put oi jG a oj.dst u h3) (wanted_put oi a oj.dst u h3)
 have ACL : ∀ d,YieldsIf P ops S oi v { a with defers := d :: a.defers } := fun d => hy.of_same rfl rfl
 unfold wpOpIn at h
 simp only [hj] at h
 rw [wanted_put oj a oi.dst v h1] at h
 by_cases hw : Region.wanted oj (yielded ops a.tmps) = true
 · simp only [hw,if_true] at h
   refine B8 hj hw ?_
   have h := h.2
   change oj.uponIn (wd ro) 0 P (a.put oi.dst v) K Q ((oj.semAt ro (a.put oi.dst v).eval).run P w) at h
   rw [eU hsj a oi.dst v h1] at h
   generalize (oj.semAt ro a.eval).run P w = r at *
   cases r with
   | ok n w' =>
     cases n <;> simp only [Oper.uponIn] at h ⊢
     case value u => exact ⟨Te a hy u,by rw [← Act.put_comm a v u h2]; exact h⟩
     case skip => exact ⟨Te a hy _,by rw [← Act.put_comm a v undef h2]; exact h⟩
     case defer d =>
       refine ⟨Te _ (ACL d) _,?_⟩
       rw [← Act.put_comm _ v undef h2,← Act.put_defers]
       exact h
     case enter f args =>
       refine ⟨h.1,CallsIn.mono h.2 fun e w'' he => ?_⟩
       cases e with
       | returned u => exact ⟨Te a hy u,by rw [← Act.put_comm a v u h2]; exact he⟩
       | panicked c => exact hQ _ _ _ he
       | outgrown => exact he
     case row row args => exact ⟨h.1,RowsIn.mono h.2 fun u w'' he => ⟨Te a hy u,by rw [← Act.put_comm a v u h2]; exact he⟩⟩
     case round l f tmps assign body =>
       refine ⟨h.1,RoundIn.mono h.2 fun e w'' he => ?_⟩
       cases e with
       | returned u => exact ⟨Te a hy u,by rw [← Act.put_comm a v u h2]; exact he⟩
       | panicked c => exact hQ _ _ _ he
       | outgrown => exact he
   | halt x w' =>
     cases x <;> simp only [Oper.uponIn] at h ⊢
     case panic u => exact hQ _ _ _ h
 · have hw : Region.wanted oj (yielded ops a.tmps) = false := by simpa using hw
   simp only [hw,Bool.false_eq_true,if_false] at h
   exact ZP hj hw ⟨Te a hy _,by rw [← Act.put_comm a v undef h2]; exact h.2⟩
def F7 (P : Program) (ro : Option Nat) (md : Region.Mode) (ops : Array Oper) (Q : Exit → Act → World → Prop) (S : Array Bool → World → Prop) (n : Nat) (L : Array Bool → Act → World → Prop) : Nat → Array Bool → Act → World → Prop
 | 0,listed,a,w => L listed a w
 | f + 1,listed,a,w => Region.ready md ops listed ≠ [] ∧
     ∀ i ∈ Region.ready md ops listed,i < n ∧ wpOpIn (wd ro) 0 P ops Q i (fun a' w' => S (listed.setIfInBounds i true) w' ∧ F7 P ro md ops Q S n L f (listed.setIfInBounds i true) a' w') a w
theorem Gh {n g : Nat} {S : Array Bool → World → Prop} {L : Array Bool → Act → World → Prop} (hL : ∀ listed a w,L listed a w → wpAnyIn (wd ro) 0 P md ops Q g listed a w) :
   ∀ (f : Nat) (listed : Array Bool) (a : Act) (w : World),F7 P ro md ops Q S n L f listed a w → wpAnyIn (wd ro) 0 P md ops Q (f + g) listed a w
 | 0,listed,a,w,h => by rw [Nat.zero_add]; exact hL _ _ _ h
 | f + 1,listed,a,w,h => by
   rw [show f + 1 + g = (f + g) + 1 by omega]
   exact ⟨fun h0 => absurd h0 h.1,fun i hi => wpOpIn_mono (fun a' w' h' => Gh hL f _ a' w' h'.2) (h.2 i hi).2⟩
theorem EJ {n : Nat} {S S' : Array Bool → World → Prop} {G : Array Bool → Prop} {L : Array Bool → Act → World → Prop} (hG : ∀ listed j,G listed → G (listed.setIfInBounds j true)) (hS : ∀ listed w,G listed → S' listed w → S listed w) :
   ∀ (f : Nat) (listed : Array Bool) (a : Act) (w : World),G listed → F7 P ro md ops Q S' n L f listed a w → F7 P ro md ops Q S n L f listed a w
 | 0,_,_,_,_,h => h
 | f + 1,_,_,_,hg,h => ⟨h.1,fun i hi => ⟨(h.2 i hi).1,wpOpIn_mono (fun a' w' h' => ⟨hS _ _ (hG _ _ hg) h'.1,EJ hG hS f _ a' w' (hG _ _ hg) h'.2⟩) (h.2 i hi).2⟩⟩
theorem ZQ {n : Nat} {f : FuncId} {args : Array Value} {w : World} {R : Ending → World → Prop} (h : Calls P f args w R) : CallsIn (wd ro) n P f args w R :=
 ⟨trivial,fun cs _ => let ⟨e,w',fr,r,s,x⟩ := h cs; ⟨e,w',fr,r,comesIn_wide.2 s,x⟩⟩
theorem Lu {n i : Nat} {oi : Oper} {v : Value} {S : Array Bool → World → Prop} {Sy : World → Prop} {L : Array Bool → Act → World → Prop} (hi : ops[i]? = some oi) (MO : ∀ (j : Nat) (o : Oper) cs b,ops[j]? = some o → o.op ≠ .select cs b)
   (hQ : ∀ c a w,Q (.panic c) (a.put oi.dst v) w → Q (.panic c) a w)
   (Gi : ∀ listed,HeadInv md ops n listed → ∀ i,i < n → listed.getD i true = false → ∀ t,n ≤ t → t ∉ Region.ready md ops listed)
   (hSi : ∀ listed w,S (listed.setIfInBounds i true) w ↔ S listed w) (hSy : ∀ listed w,HeadInv md ops n listed → listed.getD i true = false → S listed w → Sy w)
   (Lv : i < n) (ACN : ∀ listed a w,L listed a w → ∀ j ∈ Region.ready md ops listed,n ≤ j) :
   ∀ (f : Nat) (listed : Array Bool) (a : Act) (w : World),HeadInv md ops n listed →
     (∀ j oj,ops[j]? = some oj → j ≠ i → listed.getD j true = false → (∀ e ∈ oj.after,Region.binds md e = true → e.on ≠ i) → oi.apart ops oj = true) →
     i ∈ Region.ready md ops listed → YieldsIf P ops Sy oi v a → S listed w →
     F7 P ro md ops Q S n L f (listed.setIfInBounds i true) (a.put oi.dst v) w → F7 P ro md ops Q S n L (f + 1) listed a w := by
 intro f
 induction f with
 | zero =>
   intro listed a w inv _ hr hy hS H
   have VH := (mem_ready.1 hr).1
   refine ⟨fun h => (by rw [h] at hr; cases hr),fun j hj => ?_⟩
   have iS : j < n := by
     rcases Nat.lt_or_ge j n with h | h
     · exact h
     · exact absurd hj (Gi _ inv i Lv VH j h)
   refine ⟨iS,?_⟩
   by_cases ZR : j = i
   · subst ZR; exact b0 hi hy (hSy _ _ inv VH hS) ⟨(hSi _ _).2 hS,H⟩
   · have := ACN _ _ _ H j (ready_mono hj ZR)
     omega
 | succ f ih =>
   intro listed a w inv uP hr hy hS H
   have VH := (mem_ready.1 hr).1
   refine ⟨fun h => (by rw [h] at hr; cases hr),fun j hj => ?_⟩
   have iS : j < n := by
     rcases Nat.lt_or_ge j n with h | h
     · exact h
     · exact absurd hj (Gi _ inv i Lv VH j h)
   refine ⟨iS,?_⟩
   by_cases ZR : j = i
   · subst ZR; exact b0 hi hy (hSy _ _ inv VH hS) ⟨(hSi _ _).2 hS,H⟩
   · have h1 := (H.2 j (ready_mono hj ZR)).2
     obtain ⟨ACO,oj,hoj,Hv⟩ := mem_ready.1 hj
     have AJn : ∀ e ∈ oj.after,Region.binds md e = true → e.on ≠ i := fun e he hb heq => by
       have h1 := Hv e he hb
       rw [heq,getD_both VH] at h1
       cases h1
     have h2 := eV hoj (uP j oj hoj ZR ACO AJn) (fun cs b => MO i oi cs b hi) (fun cs b => MO j oj cs b hoj) hQ hy h1
     have xG : ∀ k ok,ops[k]? = some ok → k ≠ i → (listed.setIfInBounds j true).getD k true = false →
         (∀ e ∈ ok.after,Region.binds md e = true → e.on ≠ i) → oi.apart ops ok = true := fun k ok hk hki VH Bc => by
       refine uP k ok hk hki ?_ Bc
       by_cases qP : j = k
       · subst qP; exact ACO
       · rw [getD_set_ne true qP] at VH; exact VH
     refine wpOpIn_mono (fun a' w' h3 => ⟨(hSi _ _).1 (by rw [Array.setIfInBounds_comm _ _ ZR]; exact h3.2.1),ih (listed.setIfInBounds j true) a' w' (inv.set hj iS) xG (ready_mono hr (Ne.symm ZR)) h3.1 ((hSi _ _).1 (by rw [Array.setIfInBounds_comm _ _ ZR]; exact h3.2.1)) ?_⟩) h2
     rw [Array.setIfInBounds_comm _ _ ZR]
     exact h3.2.2
theorem HX : ∀ (g k : Nat) (listed : Array Bool) (a : Act) (w : World),
   Region.seqB md ops g k listed = true → wpOpsIn (wd ro) 0 P ops Q (List.range' k g) a w → wpAnyIn (wd ro) 0 P md ops Q g listed a w
 | 0,_,_,_,_,hB,h => ⟨by simpa [Region.seqB] using hB,h⟩
 | g + 1,k,listed,a,w,hB,h => by
   simp only [Region.seqB,Bool.and_eq_true,decide_eq_true_eq] at hB
   refine ⟨fun h1 => (by rw [hB.1] at h1; cases h1),fun i hi => ?_⟩
   rw [hB.1] at hi
   have hik : i = k := by simpa using hi
   subst hik
   rw [List.range'_succ,wpOpsIn_cons] at h
   exact wpOpIn_mono (fun a' w' h' => HX g (i + 1) _ a' w' hB.2 h') h
end head
section regions
variable {g : Gl} {ops : Array Oper}
def Qn (g : Gl) (w0 : World) (F : Nat → Prop) (K : Env → Bx → Hp → Prop) : Exit → Act → World → Prop
 | .normal,a,w => ∃ e bx σ,St g.n g.ds w0 F e bx σ a w ∧ K e bx σ
 | .panic ch,a,w => (g.Gg = none ∧ a.defers = []) ∧ qN g w0 F (.panicked ch) w
 | _,_,_ => False
theorem ZS {P : Program} {ro : Option Nat} {Q Q' : Exit → Act → World → Prop} (hp : ∀ c a w,Q (.panic c) a w → Q' (.panic c) a w) (ho : ∀ a w,Q .outgrown a w → Q' .outgrown a w)
   {i : Nat} {K : Act → World → Prop} {a : Act} {w : World} (h : wpOpIn (wd ro) 0 P ops Q i K a w) : wpOpIn (wd ro) 0 P ops Q' i K a w := by
 unfold wpOpIn at *
 split
 · rename_i hn; simpa only [hn] using h
 · rename_i o hn
   simp only [hn] at h
   split
   · rename_i hw
     simp only [hw,if_true] at h
     unfold Oper.wpIn at *
     refine ⟨h.1,?_⟩
     have h := h.2
     generalize (o.semAt (wd ro).round a.eval).run P w = r at *
     cases r with
     | ok x w' =>
       cases x <;> simp only [Oper.uponIn] at h ⊢ <;> try exact h
       · refine ⟨h.1,CallsIn.mono h.2 fun en w2 Pr => ?_⟩
         cases en with
         | returned v => exact Pr
         | panicked c => exact hp _ _ _ Pr
         | outgrown => obtain ⟨a1,w1,h1⟩ := Pr; exact ⟨a1,w1,ho _ _ h1⟩
       · refine ⟨h.1,RoundIn.mono h.2 fun en w2 Pr => ?_⟩
         cases en with
         | returned v => exact Pr
         | panicked c => exact hp _ _ _ Pr
         | outgrown => obtain ⟨a1,w1,h1⟩ := Pr; exact ⟨a1,w1,ho _ _ h1⟩
     | halt x w' =>
       cases x <;> simp only [Oper.uponIn] at h ⊢
       exact hp _ _ _ h
   · rename_i hw
     simp only [hw] at h
     exact h
theorem Kz {K : Env → Bx → Hp → Prop} {w0 F} : ∀ (is : List Nat) (e : Env) (bx : Bx) (σ : Hp) (a : Act) (w : World),St g.n g.ds w0 F e bx σ a w →
   Seq g ops is e bx σ K → wpOpsIn (wd g.Gg) 0 g.P ops (Qn g w0 F K) is a w
 | [],e,bx,σ,a,w,st,h => ⟨e,bx,σ,st,h⟩
 | i :: is,e,bx,σ,a,w,st,h => by
   rw [wpOpsIn_cons]
   refine wpOpIn_mono ?_ (ZS (Q := Qx g w0 F) (fun c a w h => h) (fun a w h => h.elim) (h w0 F a w st))
   rintro a' w' ⟨e',F1,σ',Mq,h'⟩
   exact Kz is e' F1 σ' a' w' Mq h'
theorem MP {K : Env → Bx → Hp → Prop} {w0 F} {n : Nat} {tl : List Nat} (MO : Region.noSelect ops = true)
   (Gi : ∀ listed,HeadInv .any ops n listed → ∀ i,i < n → listed.getD i true = false → ∀ t,n ≤ t → t ∉ Region.ready .any ops listed)
   (cA : tl = List.range' n (ops.size - n)) :
   ∀ (plan : List (Nat × Bool)) (q : IZ) (listed : Array Bool) (e : Env) (bx : Bx) (σ : Hp) (a : Act) (w : World),HeadInv .any ops n listed → OJ ops n plan listed = true →
     St g.n g.ds w0 F e bx σ a w → Head g ops q plan e bx σ (fun e bx σ => Seq g ops tl e bx σ K) →
     F7 g.P g.Gg .any ops (Qn g w0 F K) (Sq q σ bx) n (fun listed a w => Region.seqB .any ops (ops.size - n) n listed = true ∧ wpOpsIn (wd g.Gg) 0 g.P ops (Qn g w0 F K) tl a w) plan.length listed a w
 | [],_,listed,e,bx,σ,a,w,_,Ck,st,h => ⟨Ck,Kz _ _ _ _ _ _ st h⟩
 | (i,true) :: r,q,listed,e,bx,σ,a,w,inv,Ck,st,h => by
   obtain ⟨own,o,v,xH,ho,hy,hd,h⟩ := h
   simp only [Bool.and_eq_true] at xH
   simp only [OJ,Bool.and_eq_true,decide_eq_true_eq] at Ck
   obtain ⟨⟨⟨Lv,hr⟩,hf⟩,Ck⟩ := Ck
   have iT : i ∈ Region.ready .any ops listed := by simpa using hr
   refine EJ (S' := Sq (MN q own) σ bx) (G := fun _ => True) (fun _ _ _ => trivial) (fun _ _ _ h => h.less) _ _ _ _ trivial ?_
   refine Lu (Sy := fun w => Sat (OI q own σ) w ∧ Ht bx w) ho (Region.noSelect_spec MO) ?_ Gi (Sq.set xH.1) (fun listed w inv VH h => Sq.own inv VH xH.2 h) Lv ?_ _ listed a w inv (Region.free_spec ho hf) iT ?_ (Sq.of st.sat st.box)
     (MP MO Gi cA r _ _ _ _ _ _ _ (inv.set iT Lv) Ck (st.put o.dst v hd) h)
   · rintro c a w ⟨⟨h0,h1⟩,h2⟩
     exact ⟨⟨h0,by cases MQ : o.dst <;> simpa [Act.put,MQ] using h1⟩,h2⟩
   · intro listed a w hL
     exact seqB_ready hL.1
   · rcases hy with ⟨hw,hy⟩ | ⟨hw,rfl⟩
     · exact .inl ⟨by rw [st.wanted]; exact hw,fun w hS => by rw [st.eval]; exact hy o rfl rfl w hS.1 hS.2⟩
     · exact .inr ⟨by rw [st.wanted]; exact hw,rfl⟩
 | (i,false) :: r,q,listed,e,bx,σ,a,w,inv,Ck,st,h => by
   simp only [OJ,Bool.and_eq_true,decide_eq_true_eq,beq_iff_eq] at Ck
   obtain ⟨⟨Lv,hr⟩,Ck⟩ := Ck
   refine ⟨by rw [hr]; simp,fun j hj => ?_⟩
   rw [hr] at hj
   obtain rfl : j = i := by simpa using hj
   refine ⟨Lv,wpOpIn_mono ?_ (ZS (Q := Qx g w0 F) (fun c a w h => h) (fun a w h => h.elim) (h w0 F a w st))⟩
   rintro a' w' ⟨e',F1,σ',Mq,hk,h'⟩
   have hl : (listed.setIfInBounds j true).getD j false = true := by
     have Az : j < listed.size := by rw [inv.size]; obtain ⟨_,o,ho,_⟩ := mem_ready.1 (show j ∈ Region.ready .any ops listed by rw [hr]; simp); exact (Array.getElem?_eq_some_iff.1 ho).1
     simp [Az]
   exact ⟨Sq.VI hl hk (Sq.of Mq.sat Mq.box),EJ (S' := Sq (FR q j) σ' F1) (G := fun l => l.getD j false = true) (fun _ _ h => getD_set_true h) (fun _ _ hg h => Sq.VI hg hk h) _ _ _ _ hl
     (MP MO Gi cA r _ _ _ _ _ _ _ (inv.set (by rw [hr]; simp) Lv) Ck Mq h')⟩
end regions
theorem HW.of_wp {g : Gl} {c : Code} {k : List Item} {a : Act} {w : World} {w0 F} {K : Env → Bx → Hp → Prop}
   (h : c.wpIn (wd g.Gg) 0 g.P (Qn g w0 F K) a w) (hk : ∀ e bx σ,K e bx σ → At g k e bx σ) : HW g.P g.f g.Gg (.code c :: k) a w (qN g w0 F) := by
 intro b cs hf Wi bu QA
 obtain ⟨e,a',w',hq,qQ⟩ := h b k cs bu trivial qM
 cases e with
 | normal =>
   obtain ⟨e,bx,σ,st,hK⟩ := hq
   exact .of_steps qQ.steps (hk _ _ _ hK w0 F a' w' st b cs hf Wi bu QA)
 | panic ch =>
   obtain ⟨⟨Td,hd⟩,hq⟩ := hq
   obtain ⟨todo,hs⟩ := qQ
   obtain ⟨fn,QA⟩ := QA
   unfold Lt
   rw [Td]
   exact ⟨.panicked ch,w',_,hq,hs.steps,hf,rfl,hd,fn,by simpa [Frame.atR,hf] using QA⟩
 | _ => exact hq.elim
section jH
variable {g : Gl} {k : List Item} {e : Env} {bx : Bx} {σ : Hp}
theorem At.region {c : Code} {id : Nat} {ops : Array Oper} {l : List Nat} (hc : c = .region id ops false) (hl : List.range ops.size = l)
   (h : Seq g ops l e bx σ (fun e bx σ => At g k e bx σ)) : At g (.code c :: k) e bx σ := fun _ _ a w st =>
 hc ▸ HW.of_wp (K := fun e bx σ => At g k e bx σ) (wpIn_region (hl ▸ Kz l e bx σ a w st h)) (fun _ _ _ h => h)
theorem At.draw {c : Code} {id : Nat} {ops : Array Oper} {n : Nat} {q : IZ} {plan : List (Nat × Bool)} {tl : List Nat} (hm : g.P.follows .mixedOrders = true) (hc : c = .region id ops true)
   (hp : jF ops n plan tl = true)
   (h : Head g ops q plan e bx σ (fun e bx σ => Seq g ops tl e bx σ (fun e bx σ => At g k e bx σ))) : At g (.code c :: k) e bx σ := fun w0 F a w st => by
 subst hc
 simp only [jF,Bool.and_eq_true,Bool.or_eq_true,decide_eq_true_eq] at hp
 obtain ⟨⟨⟨⟨MO,hlen⟩,hn⟩,cA⟩,Ck⟩ := hp
 have hn' : n ≤ ops.size := by rcases hn with h | h <;> omega
 have Gi : ∀ listed,HeadInv .any ops n listed → ∀ i,i < n → listed.getD i true = false → ∀ t,n ≤ t → t ∉ Region.ready .any ops listed := by
   intro listed inv i hi VH t ht
   rcases hn with h | ⟨⟨h1,h2⟩,h3⟩
   · intro hr
     obtain ⟨_,o,ho,_⟩ := mem_ready.1 hr
     have := (Array.getElem?_eq_some_iff.1 ho).1
     omega
   · exact tail_waits h2 h3 h1 inv _ i rfl hi VH t ht
 have xI : HeadInv .any ops n (Array.replicate ops.size false) :=
   ⟨by simp,fun j oj _ hl => (by rw [getD_replicate_false] at hl; cases hl),fun t _ ht => getD_in (by simpa using ht) (getD_replicate_false _ _)⟩
 refine HW.of_wp (K := fun e bx σ => At g k e bx σ) (wpIn_region_any hm ?_) (fun _ _ _ h => h)
 have H := MP (K := fun e bx σ => At g k e bx σ) (tl := tl) MO Gi cA plan q (Array.replicate ops.size false) e bx σ a { w with drawn := w.drawn + 1 } xI Ck st.drew h
 have := Gh (g := ops.size - n) (fun listed a w hL => HX _ _ listed a w hL.1 (cA ▸ hL.2)) _ _ _ _ H
 rw [hlen,show n + (ops.size - n) = ops.size by omega] at this
 exact this
end jH
end Tw
end
section
namespace Tw
open Go
variable [Er]
def Hp.ld (σ : Hp) (a : Addr) : Option Value :=
 match σ a.block with
 | some (.cells c _ _) => if a.spot.isSome then none else c[a.off]?
 | _ => none
theorem Sat.ld {σ : Hp} {w : World} (h : Sat σ w) {a : Addr} {v : Value} (hl : σ.ld a = some v) : w.cell? a = some v := by
 unfold Hp.ld at hl
 unfold World.cell?
 cases hb : σ a.block with
 | none => simp [hb] at hl
 | some o => rw [h _ _ hb]; rw [hb] at hl; exact hl
def Au (σ : Hp) (b : Nat) : Nat → List Value → Prop
 | _,[] => True
 | o,v :: l => σ.ld ⟨b,o,none⟩ = some v ∧ Au σ b (o + 1) l
theorem Au.get {σ : Hp} {b : Nat} : ∀ {l : List Value} {o j : Nat} {v : Value},Au σ b o l → l[j]? = some v → σ.ld ⟨b,o + j,none⟩ = some v
 | x :: l,o,0,v,h,hj => by simp at hj; subst hj; exact h.1
 | x :: l,o,j + 1,v,h,hj => by
   have := Au.get (l := l) (o := o + 1) (j := j) h.2 (by simpa using hj)
   rwa [show o + (j + 1) = o + 1 + j by omega]
theorem Bj (b o n : Nat) : (⟨b,o,none⟩ : Addr).add n = ⟨b,o + n,none⟩ := by cases n <;> simp [Addr.add]
section ZT
variable {P : Program} {e : Env} {bx : Bx} {σ : Hp} {ty T T' : TypeId} {x y z : Operand} {k : IntKind} {a b : Int}
theorem Yd.of {op : Op} {v : Value} (m : Sem Value) (h : ∀ o : Oper,o.op = op → o.type = ty → execOp (AD e) o = (do pure (.value (← m))))
   (hm : ∀ w,Sat σ w → Ht bx w → m.run P w = .ok v w) : Yd P e bx σ op ty v := fun oo ho ht w hs hb => by
 rw [h oo ho ht]; simp [hm w hs hb]
theorem Yd.pu {op : Op} {v : Value} (h : ∀ o : Oper,o.op = op → execOp (AD e) o = pure (.value v)) : Yd P e bx σ op ty v := fun oo ho _ w _ _ => by
 rw [h oo ho]; simp
theorem Y.move {v : Value} (hx : AD e x = v) : Yd P e bx σ (.move x) ty v := .pu fun o ho => by simp [execOp,ho,hx]
theorem Y.assign {v : Value} (hx : AD e x = v) : Yd P e bx σ (.assign x) ty v := .pu fun o ho => by simp [execOp,ho,hx]
theorem Y.uQ {v : Value} (hc : AD e z = .bool true) (hx : AD e x = v) : Yd P e bx σ (.pick z x y) ty v :=
 .pu fun o ho => by simp [execOp,ho,hc,hx,asBool]
theorem Y.uR {v : Value} (hc : AD e z = .bool false) (hx : AD e y = v) : Yd P e bx σ (.pick z x y) ty v :=
 .pu fun o ho => by simp [execOp,ho,hc,hx,asBool]
theorem Y.lss (hx : AD e x = .int k a) (hy : AD e y = .int k b) : Yd P e bx σ (.binOp .lss T x y T') ty (.bool (decide (a < b))) :=
 fun oo ho _ w _ _ => by simp [execOp,ho,hx,hy,eqGuard_lss,binOp_lss]
theorem Y.leq (hx : AD e x = .int k a) (hy : AD e y = .int k b) : Yd P e bx σ (.binOp .leq T x y T') ty (.bool (decide (a ≤ b))) :=
 fun oo ho _ w _ _ => by simp [execOp,ho,hx,hy,eqGuard_leq,binOp_leq]
theorem Y.gtr (hx : AD e x = .int k a) (hy : AD e y = .int k b) : Yd P e bx σ (.binOp .gtr T x y T') ty (.bool (decide (b < a))) :=
 fun oo ho _ w _ _ => by simp [execOp,ho,hx,hy,eqGuard_gtr,binOp_gtr]
theorem Y.geq (hx : AD e x = .int k a) (hy : AD e y = .int k b) : Yd P e bx σ (.binOp .geq T x y T') ty (.bool (decide (b ≤ a))) :=
 fun oo ho _ w _ _ => by simp [execOp,ho,hx,hy,eqGuard_geq,binOp_geq]
theorem Y.eql (hx : AD e x = .int k a) (hy : AD e y = .int k b) : Yd P e bx σ (.binOp .eql T x y T') ty (.bool (decide (a = b))) :=
 fun oo ho _ w _ _ => by simp [execOp,ho,hx,hy,eqGuard_at_int,binOp_eql]; rfl
theorem Y.neq (hx : AD e x = .int k a) (hy : AD e y = .int k b) : Yd P e bx σ (.binOp .neq T x y T') ty (.bool (decide (a ≠ b))) :=
 fun oo ho _ w _ _ => by simp [execOp,ho,hx,hy,eqGuard_at_int,binOp_neq]; rfl
theorem Y.add (hx : AD e x = .int k a) (hy : AD e y = .int k b) : Yd P e bx σ (.binOp .add T x y T') ty (.int k (k.wrap (a + b))) :=
 fun oo ho _ w _ _ => by simp [execOp,ho,hx,hy,eqGuard_add,binOp_add,Op.intArith]
theorem Y.sub (hx : AD e x = .int k a) (hy : AD e y = .int k b) : Yd P e bx σ (.binOp .sub T x y T') ty (.int k (k.wrap (a - b))) :=
 fun oo ho _ w _ _ => by simp [execOp,ho,hx,hy,eqGuard_sub,binOp_sub,Op.intArith]
theorem Y.mul (hx : AD e x = .int k a) (hy : AD e y = .int k b) : Yd P e bx σ (.binOp .mul T x y T') ty (.int k (k.wrap (a * b))) :=
 fun oo ho _ w _ _ => by simp [execOp,ho,hx,hy,eqGuard_mul,binOp_mul,Op.intArith]
def AG (n : Int) : Prop := -9223372036854775808 ≤ n ∧ n ≤ 9223372036854775807
theorem AG.wrap {n : Int} (h : AG n) : IntKind.i64.wrap n = n := by
 obtain ⟨h1,h2⟩ := h
 simp [IntKind.wrap,IntKind.bits,IntKind.signed]
 split <;> omega
theorem Y.AJr (h : AG (a + b)) (hx : AD e x = .int .i64 a) (hy : AD e y = .int .i64 b) : Yd P e bx σ (.binOp .add T x y T') ty (.int .i64 (a + b)) := by
 have := Y.add (P := P) (bx := bx) (σ := σ) (ty := ty) (T := T) (T' := T') hx hy; rwa [h.wrap] at this
theorem Y.AJs (h : AG (a - b)) (hx : AD e x = .int .i64 a) (hy : AD e y = .int .i64 b) : Yd P e bx σ (.binOp .sub T x y T') ty (.int .i64 (a - b)) := by
 have := Y.sub (P := P) (bx := bx) (σ := σ) (ty := ty) (T := T) (T' := T') hx hy; rwa [h.wrap] at this
theorem Y.bits {op : BinOp} (E2 : op = .and ∨ op = .or ∨ op = .xor ∨ op = .andNot) (hx : AD e x = .int k a) (hy : AD e y = .int k b) :
   Yd P e bx σ (.binOp op T x y T') ty (.int k (Go.bits op k a b)) :=
 fun oo ho _ w _ _ => by
   rcases E2 with rfl | rfl | rfl | rfl <;>
     simp [execOp,ho,hx,hy,eqGuard_at_int,binOp_and,binOp_or,binOp_xor,binOp_andNot,intBits_and,intBits_or,intBits_xor,intBits_andNot]
theorem Y.shl {k' : IntKind} (h0 : 0 ≤ b) (h1 : b ≤ k.bits) (hx : AD e x = .int k a) (hy : AD e y = .int k' b) :
   Yd P e bx σ (.binOp .shl T x y T') ty (.int k (k.wrap (a * 2 ^ b.toNat))) :=
 fun oo ho _ w _ _ => by simp [execOp,ho,hx,hy,eqGuard_shl,binOp_shl,shift_shl k k' a b h0 h1]
theorem Y.shr {k' : IntKind} (h0 : 0 ≤ b) (h1 : b ≤ k.bits) (hx : AD e x = .int k a) (hy : AD e y = .int k' b) :
   Yd P e bx σ (.binOp .shr T x y T') ty (.int k (a / 2 ^ b.toNat)) :=
 fun oo ho _ w _ _ => by simp [execOp,ho,hx,hy,eqGuard_shr,binOp_shr,shift_shr k k' a b h0 h1]
theorem Y.quo (h : b ≠ 0) (hx : AD e x = .int k a) (hy : AD e y = .int k b) : Yd P e bx σ (.binOp .quo T x y T') ty (.int k (k.wrap (a.tdiv b))) :=
 fun oo ho _ w _ _ => by simp [execOp,ho,hx,hy,eqGuard_quo,binOp_quo,Op.intDiv,h]
theorem Y.rem (h : b ≠ 0) (hx : AD e x = .int k a) (hy : AD e y = .int k b) : Yd P e bx σ (.binOp .rem T x y T') ty (.int k (a.tmod b)) :=
 fun oo ho _ w _ _ => by simp [execOp,ho,hx,hy,eqGuard_rem,binOp_rem,Op.intDiv,h]
theorem Y.not {p : Bool} (hx : AD e x = .bool p) : Yd P e bx σ (.unOp .not T x) ty (.bool (!p)) :=
 fun oo ho _ w _ _ => by simp [execOp,ho,hx,Op.unary]
theorem Y.neg (hx : AD e x = .int k a) : Yd P e bx σ (.unOp .neg T x) ty (.int k (k.wrap (0 - a))) :=
 fun oo ho _ w _ _ => by simp [execOp,ho,hx,Op.unary,Op.intArith]
theorem Y.conv {k' : IntKind} (hs : (P.underlying T).isSome = true) (hd : P.underlying T' = some (.int k')) (hx : AD e x = .int k a) :
   Yd P e bx σ (.convert T T' x) ty (.int k' (k'.wrap a)) :=
 fun oo ho _ w _ _ => by
   have hk : P.intKind T' = k' := by simp [Program.intKind,hd]
   have := run_convert_int w T T' k a hs (by rw [hk]; exact hd)
   rw [hk] at this
   simp [execOp,ho,hx,this]
theorem Y.xJ {p : Option Addr} {n c : Nat} {E : TypeId} (hT : P.underlying T = some (.slice E)) (hx : AD e x = .slice p n c) {ts : Array TypeId} (Wa : ts = #[T]) :
   Yd P e bx σ (.call { callee := .builtin .len,args := #[x],argTypes := ts }) ty (.int .i64 n) := fun oo ho ht w _ _ => by
 subst Wa
 simp [execOp,ho,resolve,invoke,builtin,hx,Builtin.len_,run_underlying hT,goInt]
theorem Y.AJt {p : Option Addr} {n c : Nat} {E : TypeId} (hT : P.underlying T = some (.slice E)) (hx : AD e x = .slice p n c) {ts : Array TypeId} (Wa : ts = #[T]) :
   Yd P e bx σ (.call { callee := .builtin .cap,args := #[x],argTypes := ts }) ty (.int .i64 c) := fun oo ho ht w _ _ => by
 subst Wa
 simp [execOp,ho,resolve,invoke,builtin,hx,Builtin.cap_,run_underlying hT,goInt]
theorem Y.xK {s : ByteArray} (hT : P.underlying T = some .string) (hx : AD e x = .string s) {ts : Array TypeId} (Wa : ts = #[T]) :
   Yd P e bx σ (.call { callee := .builtin .len,args := #[x],argTypes := ts }) ty (.int .i64 s.size) := fun oo ho ht w _ _ => by
 subst Wa
 simp [execOp,ho,resolve,invoke,builtin,hx,Builtin.len_,run_underlying hT,goInt]
theorem Y.min2 {k' : IntKind} {ts : Array TypeId} (hx : AD e x = .int k a) (hy : AD e y = .int k' b) :
   Yd P e bx σ (.call { callee := .builtin .min,args := #[x,y],argTypes := ts }) ty (.int k (if b < a then b else a)) := fun oo ho ht w _ _ => by
 simp [execOp,ho,resolve,invoke,builtin,hx,hy,run_min_int2]
theorem Y.max2 {k' : IntKind} {ts : Array TypeId} (hx : AD e x = .int k a) (hy : AD e y = .int k' b) :
   Yd P e bx σ (.call { callee := .builtin .max,args := #[x,y],argTypes := ts }) ty (.int k (if b > a then b else a)) := fun oo ho ht w _ _ => by
 simp [execOp,ho,resolve,invoke,builtin,hx,hy,run_max_int2]
theorem Y.fieldAddr {b o f off : Nat} {fs : Array Field} {fd : Field} {a' : Addr} (hT : P.underlying T = some (.struct fs)) (hf : fs[f]? = some fd) (hs : ∀ w,((Go.sizeOf fd.type).run P w) = .ok (off + 1) w)
   (hx : AD e x = .pointer (some ⟨b,o,none⟩)) (ha : a' = ⟨b,o + fd.offset,none⟩) : Yd P e bx σ (.fieldAddr T x f) ty (.pointer (some a')) :=
 fun oo ho _ w _ _ => by
   subst ha
   simp [execOp,ho,hx,Instr.fieldAt,run_underlying hT,hf,Instr.sureAddr,fieldPlace,hs]
   exact Bj b o fd.offset
theorem Y.extract {vs : Array Value} {i : Nat} {v : Value} (hx : AD e x = .tuple vs) (hv : vs[i]? = some v) : Yd P e bx σ (.extract x i) ty v :=
 fun oo ho _ w _ _ => by simp [execOp,ho,hx,Instr.extract,hv]
theorem Y.xL {cs : Array Value} {f : Nat} {fs : Array Field} {fd : Field} {v : Value} (hT : P.underlying T = some (.struct fs)) (hf : fs[f]? = some fd) (ha : ∀ w,(isAgg fd.type).run P w = .ok false w)
   (hx : AD e x = .agg cs) (hv : cs[fd.offset]? = some v) : Yd P e bx σ (.field T x f) ty v :=
 fun oo ho _ w _ _ => by simp [execOp,ho,hx,Instr.field,run_underlying hT,hf,asAgg,part,ha,hv]
theorem Y.xM {cs cs' : Array Value} {f n : Nat} {fs : Array Field} {fd : Field} (hT : P.underlying T = some (.struct fs)) (hf : fs[f]? = some fd) (ha : ∀ w,(isAgg fd.type).run P w = .ok true w)
   (hs : ∀ w,((Go.sizeOf fd.type).run P w) = .ok n w) (hx : AD e x = .agg cs) (hv : cs.extract fd.offset (fd.offset + n) = cs') : Yd P e bx σ (.field T x f) ty (.agg cs') :=
 fun oo ho _ w _ _ => by simp [execOp,ho,hx,Instr.field,run_underlying hT,hf,asAgg,part,ha,hs,hv]
theorem Y.idx {b o n c sz : Nat} {E : TypeId} {i : Int} {a' : Addr} (hT : P.underlying T = some (.slice E)) (hs : ∀ w,((Go.sizeOf E).run P w) = .ok sz w)
   (hx : AD e x = .slice (some ⟨b,o,none⟩) n c) (hy : AD e y = .int k i) (hi : 0 ≤ i ∧ i < n) (ha : a' = ⟨b,o + i.toNat * sz,none⟩) : Yd P e bx σ (.indexAddr T x y) ty (.pointer (some a')) :=
 fun oo ho _ w _ _ => by
   subst ha
   simp [execOp,ho,hx,hy,Instr.indexAt,run_underlying hT,asIntOf,hi,hs,Bj]
theorem Y.AJu {b o n sz : Nat} {E : TypeId} {i : Int} {a' : Addr} (hT : P.underlying T = some (.array n E)) (hs : ∀ w,((Go.sizeOf E).run P w) = .ok sz w)
   (hx : AD e x = .pointer (some ⟨b,o,none⟩)) (hy : AD e y = .int k i) (hi : 0 ≤ i ∧ i < n) (ha : a' = ⟨b,o + i.toNat * sz,none⟩) : Yd P e bx σ (.indexAddr T x y) ty (.pointer (some a')) :=
 fun oo ho _ w _ _ => by
   subst ha
   simp [execOp,ho,hx,hy,Instr.indexAt,run_underlying hT,asIntOf,hi,hs,Bj,Instr.sureAddr]
theorem Y.xN {s : ByteArray} {cs : Array Value} {n : Nat} {E : TypeId} {i : Int} (hT : P.underlying T = some (.array n E)) (hE : ∀ w,(isAgg E).run P w = .ok false w) (hs : ∀ w,((Go.sizeOf E).run P w) = .ok 1 w) (hx : AD e x = .agg cs) (hy : AD e y = .int k i) (h0 : 0 ≤ i ∧ i < n) (hv : cs[i.toNat]? = some (.string s)) :
   Yd P e bx σ (.index T x y) ty (.string s) :=
 fun oo ho _ w _ _ => by simp [execOp,ho,hx,hy,Instr.index,run_underlying hT,asIntOf,h0,hs,part,hE,hv]
theorem Y.xO {s : ByteArray} {i : Int} {v : UInt8} (hT : P.underlying T = some .string) (hx : AD e x = .string s) (hy : AD e y = .int k i) (h0 : 0 ≤ i) (hv : s.data[i.toNat]? = some v) :
   Yd P e bx σ (.index T x y) ty (.int .u8 v.toNat) :=
 fun oo ho _ w _ _ => by
   have hv' : s[i.toNat]? = some v := by rw [← hv]; rfl
   simp [execOp,ho,hx,hy,Instr.index,run_underlying hT,asIntOf,h0,hv']
theorem Y.ld {a : Addr} {v : Value} (hA : ∀ w,(isAgg T).run P w = .ok false w) (hx : AD e x = .pointer (some a)) (h : σ.ld a = some v) : Yd P e bx σ (.load T x) ty v :=
 fun oo ho _ w hs _ => by
   simp [execOp,ho,hx,Instr.loadAt,Instr.sureAddr,loadVar,hA,load,Sem.run,hs.ld h]
theorem Ht.cell {w : World} {b : Nat} {c : Array Value} {t : TypeId} {fr : Nat × Nat} (hs : Ht bx w) (hb : (b,Obj.cells c t fr) ∈ bx) (o : Nat) : w.cell? ⟨b,o,none⟩ = c[o]? := by
 simp [World.cell?,hs _ hb]
theorem Y.ldb {b o : Nat} {c : Array Value} {t : TypeId} {fr : Nat × Nat} {v : Value} (hA : ∀ w,(isAgg T).run P w = .ok false w) (hx : AD e x = .pointer (some ⟨b,o,none⟩)) (hb : (b,Obj.cells c t fr) ∈ bx) (h : c[o]? = some v) :
   Yd P e bx σ (.load T x) ty v :=
 fun oo ho _ w _ hs => by
   simp [execOp,ho,hx,Instr.loadAt,Instr.sureAddr,loadVar,hA,load,Sem.run,hs.cell hb,h]
theorem Y.lda {b o n : Nat} {vs : List Value} (hA : ∀ w,(isAgg T).run P w = .ok true w) (hs : ∀ w,((Go.sizeOf T).run P w) = .ok n w) (hn : vs.length = n) (hx : AD e x = .pointer (some ⟨b,o,none⟩)) (h : Au σ b o vs) :
   Yd P e bx σ (.load T x) ty (.agg vs.toArray) :=
 fun oo ho _ w jI _ => by
   subst hn
   have := run_loadCells_list (P := P) (w := w) ⟨b,o,none⟩ vs (fun j v hj => by rw [show (⟨b,o,none⟩ : Addr).add j = ⟨b,o + j,none⟩ from Bj _ _ _]; exact jI.ld (h.get hj))
   simp [execOp,ho,hx,Instr.loadAt,Instr.sureAddr,loadVar,hA,hs,this]
theorem Y.AJw {b o n : Nat} {c : Array Value} {t : TypeId} {fr : Nat × Nat} {vs : List Value} (hA : ∀ w,(isAgg T).run P w = .ok true w) (hs : ∀ w,((Go.sizeOf T).run P w) = .ok n w) (hn : vs.length = n) (hx : AD e x = .pointer (some ⟨b,o,none⟩))
   (hb : (b,Obj.cells c t fr) ∈ bx) (h : (c.toList.drop o).take n = vs) : Yd P e bx σ (.load T x) ty (.agg vs.toArray) :=
 fun oo ho _ w _ jI => by
   subst hn
   have := run_loadCells_list (P := P) (w := w) ⟨b,o,none⟩ vs (fun j v hj => by
     rw [show (⟨b,o,none⟩ : Addr).add j = ⟨b,o + j,none⟩ from Bj _ _ _,jI.cell hb]
     rw [← h] at hj
     have Az : j < vs.length := by
       have := (List.getElem?_eq_some_iff.1 hj).1
       simp at this; omega
     simpa [List.getElem?_take,Az] using hj)
   simp [execOp,ho,hx,Instr.loadAt,Instr.sureAddr,loadVar,hA,hs,this]
theorem Y.nilCheck {a : Addr} (hx : AD e x = .pointer (some a)) : Yd P e bx σ (.nilCheck x) ty (.pointer (some a)) :=
 .pu fun o ho => by simp [execOp,ho,hx]
theorem Y.eW {f : FuncId} {xs ys : Array Value} (hx : AD e x = .func (.func f) xs ys) : Yd P e bx σ (.nilCheck x) ty (.func (.func f) xs ys) :=
 .pu fun o ho => by simp [execOp,ho,hx]
theorem Y.makeFunc {fn : Fn} {xs ys : Array Operand} {vs us : Array Value} (hx : xs.toList.map (AD e) = vs.toList) (hy : ys.toList.map (AD e) = us.toList) : Yd P e bx σ (.makeFunc fn xs ys) ty (.func fn vs us) :=
 fun oo ho _ w _ _ => by
 have hx : xs.map (AD e) = vs := by rw [← Array.toList_inj]; simpa using hx
 have hy : ys.map (AD e) = us := by rw [← Array.toList_inj]; simpa using hy
 simp [execOp,ho,hx,hy,Instr.makeFunc]
end ZT
end Tw
end
section
namespace Tw
open Go
variable [Er]
def sig (ops : Array Oper) (i : Nat) : Option (Option Nat × Op × TypeId × Option (Nat × Bool)) := (ops[i]?).map fun o => (o.dst,o.op,o.type,o.guard)
theorem BX {ops : Array Oper} {i : Nat} {d : Option Nat} {op : Op} {ty : TypeId} {gd : Option (Nat × Bool)} (h : sig ops i = some (d,op,ty,gd)) :
   ∃ o,ops[i]? = some o ∧ o.dst = d ∧ o.op = op ∧ o.type = ty ∧ o.guard = gd := by
 unfold sig at h
 cases ho : ops[i]? with
 | none => simp [ho] at h
 | some o =>
   simp only [ho,Option.map_some,Option.some.injEq,Prod.mk.injEq] at h
   exact ⟨o,rfl,h.1,h.2.1,h.2.2.1,h.2.2.2⟩
def G4 (d : Option Nat) (n : Nat) : Bool := match d with | some d => Nat.blt d n | none => true
theorem G4.lt {d : Option Nat} {n : Nat} (h : G4 d n = true) : ∀ t,d = some t → t < n := fun t ht => by
 subst ht; exact Nat.le_of_ble_eq_true h
section jJ
variable {g : Gl} {ops : Array Oper} {q : IZ} {L : List (Nat × List Nat)} {i : Nat} {is : List Nat} {r : List (Nat × Bool)} {e : Env} {bx : Bx} {σ : Hp} {K : Env → Bx → Hp → Prop} {d : Option Nat} {op : Op} {ty : TypeId} {gd : Option (Nat × Bool)} {v : Value}
theorem AN.y (hs : sig ops i = some (d,op,ty,gd)) (hw : AR ops e gd = true) (hd : G4 d g.n = true) (hy : Yd g.P e bx σ op ty v) (h : K (put e d v) bx σ) : AN g ops i e bx σ K := by
 intro w0 F a w st
 obtain ⟨o,ho,rfl,BM,Ct,rfl⟩ := BX hs
 refine B8 ho (by rw [st.wanted]; exact hw) ?_
 rw [st.eval,Cv (hy o BM Ct w st.sat st.box) (fun d => by simp)]
 exact ⟨_,_,_,st.put _ _ (G4.lt hd),h⟩
theorem AN.no (hs : sig ops i = some (d,op,ty,gd)) (hw : AR ops e gd = false) (hd : G4 d g.n = true) (h : K (put e d undef) bx σ) : AN g ops i e bx σ K := by
 intro w0 F a w st
 obtain ⟨o,ho,rfl,BM,Ct,rfl⟩ := BX hs
 refine ZP ho (by rw [st.wanted]; exact hw) ?_
 exact ⟨_,_,_,st.put _ _ (G4.lt hd),h⟩
theorem Seq.y (hs : sig ops i = some (d,op,ty,none)) (hd : G4 d g.n = true) (hy : Yd g.P e bx σ op ty v) (h : Seq g ops is (put e d v) bx σ K) : Seq g ops (i :: is) e bx σ K :=
 AN.y hs rfl hd hy h
theorem Seq.yg (hs : sig ops i = some (d,op,ty,gd)) (hw : AR ops e gd = true) (hd : G4 d g.n = true) (hy : Yd g.P e bx σ op ty v) (h : Seq g ops is (put e d v) bx σ K) : Seq g ops (i :: is) e bx σ K :=
 AN.y hs hw hd hy h
theorem Seq.no (hs : sig ops i = some (d,op,ty,gd)) (hw : AR ops e gd = false) (hd : G4 d g.n = true) (h : Seq g ops is (put e d undef) bx σ K) : Seq g ops (i :: is) e bx σ K :=
 AN.no hs hw hd h
theorem Seq.o (h : AN g ops i e bx σ fun e' F1 σ' => Seq g ops is e' F1 σ' K) : Seq g ops (i :: is) e bx σ K := h
theorem Seq.done (h : K e bx σ) : Seq g ops [] e bx σ K := h
theorem E8 {q : IZ} : MN q none = q := by cases q <;> rfl
theorem ok_none {q : IZ} {i : Nat} {ops : Array Oper} (h : q.ok i = true) : ((MN q none).ok i && Qa ops i none) = true := by rw [E8,h]; rfl
theorem Head.y (hs : sig ops i = some (d,op,ty,none)) (hd : G4 d g.n = true) (hy : Yd g.P e bx (OI q none σ) op ty v) (h : Head g ops q r (put e d v) bx σ K) (Ck : q.ok i = true := by rfl) : Head g ops q ((i,true) :: r) e bx σ K := by
 obtain ⟨o,ho,rfl,rfl,rfl,hg⟩ := BX hs
 exact ⟨none,o,v,ok_none Ck,ho,.inl ⟨by rw [hg]; rfl,hy⟩,(G4.lt hd),by rw [E8]; exact h⟩
theorem Head.yg (hs : sig ops i = some (d,op,ty,gd)) (hw : AR ops e gd = true) (hd : G4 d g.n = true) (hy : Yd g.P e bx (OI q none σ) op ty v) (h : Head g ops q r (put e d v) bx σ K) (Ck : q.ok i = true := by rfl) : Head g ops q ((i,true) :: r) e bx σ K := by
 obtain ⟨o,ho,rfl,rfl,rfl,rfl⟩ := BX hs
 exact ⟨none,o,v,ok_none Ck,ho,.inl ⟨hw,hy⟩,(G4.lt hd),by rw [E8]; exact h⟩
theorem Head.yl (b : Nat) (Ds : List (List Nat)) {D : List Nat} (hD : Ds.filterMap List.head? = D) (Ck : ((MN (some L) (some (b,Ds))).ok i && Qa ops i (some (b,Ds))) = true) (hs : sig ops i = some (d,op,ty,none)) (hd : G4 d g.n = true) (hy : Yd g.P e bx (OI (some L) (some (b,Ds)) σ) op ty v)
   (h : Head g ops (some ((b,D) :: L)) r (put e d v) bx σ K) : Head g ops (some L) ((i,true) :: r) e bx σ K := by
 subst hD
 obtain ⟨o,ho,rfl,rfl,rfl,hg⟩ := BX hs
 exact ⟨some (b,Ds),o,v,Ck,ho,.inl ⟨by rw [hg]; rfl,hy⟩,(G4.lt hd),h⟩
theorem Head.o {q' : IZ} (hq : FR q i = q') (h : AN g ops i e bx σ fun e' F1 σ' => Jf q' bx σ F1 σ' ∧ Head g ops q' r e' F1 σ' K) : Head g ops q ((i,false) :: r) e bx σ K := by
 subst hq; exact h
theorem Head.done (h : K e bx σ) : Head g ops q [] e bx σ K := h
theorem St.grown {n ds w0 F e bx σ a w} (st : St n ds w0 F e bx σ a w) (o : Obj) : St n ds w0 F e ((w.heap.size,o) :: bx) σ a { w with heap := w.heap.push o } := by
 have Az : ∀ b o',w.heap[b]? = some o' → b < w.heap.size := fun b o' h => (Array.getElem?_eq_some_iff.1 h).1
 have hold : ∀ b o',w.heap[b]? = some o' → ({ w with heap := w.heap.push o } : World).heap[b]? = some o' := fun b o' h => by
   have := Az _ _ h
   show (w.heap.push o)[b]? = some o'
   rw [Array.getElem?_push,if_neg (Nat.ne_of_lt this)]; exact h
 refine { st with sat := fun b o' hb => hold _ _ (st.sat b o' hb),box := fun p hp => ?_,free := fun p hp => ?_,nodup := ?_,Cu := fun b hb => ?_,os := st.os,out := st.out,grow := by have := st.grow; simp; omega }
 · rcases List.mem_cons.1 hp with rfl | hp
   · simp
   · exact hold _ _ (st.box p hp)
 · rcases List.mem_cons.1 hp with rfl | hp
   · refine ⟨?_,fun hF => ?_⟩
     · cases hs : σ w.heap.size with
       | none => rfl
       | some o' => exact absurd (Az _ _ (st.sat _ _ hs)) (Nat.lt_irrefl _)
     · have h1 := (st.Cu _ hF).1
       have h2 := st.grow
       simp at h1
       omega
   · exact st.free p hp
 · refine List.nodup_cons.2 ⟨fun hm => ?_,st.nodup⟩
   obtain ⟨p,hp,he⟩ := List.mem_map.1 hm
   have := Az _ _ (st.box p hp)
   simp at he
   omega
 · obtain ⟨h1,h2,h3⟩ := st.Cu b hb
   refine ⟨h1,h2,?_⟩
   have : b ≠ w.heap.size := by have := st.grow; omega
   show (w.heap.push o)[b]? = _
   rw [Array.getElem?_push,if_neg this]; exact h3
theorem AN.box {T : TypeId} {x : Operand} {cs : Array Value} (hs : sig ops i = some (d,.box T x,ty,gd)) (hw : AR ops e gd = true) (hd : G4 d g.n = true) (hx : (AD e x).cells = cs)
   (h : ∀ b,K (put e d (.pointer (some ⟨b,0,none⟩))) ((b,.cells cs T (0,0)) :: bx) σ) : AN g ops i e bx σ K := by
 intro w0 F a w st
 obtain ⟨o,ho,rfl,BM,Ct,hg⟩ := BX hs
 refine B8 ho (by rw [st.wanted,hg]; exact hw) ?_
 rw [st.eval]
 have : (execOp (AD e) o).run g.P w = .ok (.value (.pointer (some ⟨w.heap.size,0,none⟩))) { w with heap := w.heap.push (.cells cs T (0,0)) } := by
   simp [execOp,BM,Instr.box,newVar,newRow,newObj,Sem.run,hx]
 rw [Cv this (fun d => by simp)]
 exact ⟨_,_,_,(st.grown _).put _ _ (G4.lt hd),h _⟩
theorem AN.alloc {T : TypeId} {z : Value} {cs : Array Value} (hs : sig ops i = some (d,.alloc T,ty,gd)) (hw : AR ops e gd = true) (hd : G4 d g.n = true) (hz : ∀ w,(zeroValue T).run g.P w = .ok z w) (hc : z.cells = cs)
   (h : ∀ b,K (put e d (.pointer (some ⟨b,0,none⟩))) ((b,.cells cs T (0,0)) :: bx) σ) : AN g ops i e bx σ K := by
 intro w0 F a w st
 obtain ⟨o,ho,rfl,BM,Ct,hg⟩ := BX hs
 refine B8 ho (by rw [st.wanted,hg]; exact hw) ?_
 rw [st.eval]
 have : (execOp (AD e) o).run g.P w = .ok (.value (.pointer (some ⟨w.heap.size,0,none⟩))) { w with heap := w.heap.push (.cells cs T (0,0)) } := by
   simp [execOp,BM,Instr.alloc,newVar,newRow,newObj,Sem.run,hz,hc]
 rw [Cv this (fun d => by simp)]
 exact ⟨_,_,_,(st.grown _).put _ _ (G4.lt hd),h _⟩
theorem Hp.AB (σ : Hp) (b : Nat) (o : Obj) : σ.set b o b = some o := by simp [Hp.set]
theorem Hp.AO {σ : Hp} {b c : Nat} {o : Obj} (h : c ≠ b) : σ.set b o c = σ c := by simp [Hp.set,h]
theorem St.open {n ds w0 F e bx σ a w b o} (st : St n ds w0 F e ((b,o) :: bx) σ a w) : St n ds w0 F e bx (σ.set b o) a w := by
 have hb := st.box (b,o) (List.mem_cons_self ..)
 have hf := st.free (b,o) (List.mem_cons_self ..)
 have hn := List.nodup_cons.1 (show ((b :: bx.map (·.1))).Nodup from st.nodup)
 refine { st with sat := fun c o' hc => ?_,box := fun p hp => st.box p (List.mem_cons_of_mem _ hp),free := fun p hp => ?_,nodup := hn.2,Cu := fun c hc => ?_ }
 · by_cases h : c = b
   · subst h; rw [Hp.AB] at hc; cases hc; exact hb
   · rw [Hp.AO h] at hc; exact st.sat c o' hc
 · have h1 := st.free p (List.mem_cons_of_mem _ hp)
   have : p.1 ≠ b := fun h => hn.1 (List.mem_map.2 ⟨p,hp,h⟩)
   exact ⟨by rw [Hp.AO this]; exact h1.1,h1.2⟩
 · obtain ⟨h1,h2,h3⟩ := st.Cu c hc
   have : c ≠ b := fun h => hf.2 (h ▸ hc)
   exact ⟨h1,by rw [Hp.AO this]; exact h2,h3⟩
theorem AN.xP {T : TypeId} {x : Operand} {cs : Array Value} (hs : sig ops i = some (d,.box T x,ty,gd)) (hw : AR ops e gd = true) (hd : G4 d g.n = true) (hx : (AD e x).cells = cs)
   (h : ∀ b,σ b = none → K (put e d (.pointer (some ⟨b,0,none⟩))) bx (σ.set b (.cells cs T (0,0)))) : AN g ops i e bx σ K := by
 intro w0 F a w st
 refine wpOpIn_mono ?_ (AN.box (K := fun e' F1 σ' => σ' = σ ∧ ∃ b,e' = put e d (.pointer (some ⟨b,0,none⟩)) ∧ F1 = (b,.cells cs T (0,0)) :: bx) hs hw hd hx (fun b => ⟨rfl,b,rfl,rfl⟩) w0 F a w st)
 rintro a' w' ⟨_,_,_,Mq,rfl,b,rfl,rfl⟩
 exact ⟨_,_,_,Mq.open,h b (Mq.free _ (List.mem_cons_self ..)).1⟩
theorem AN.OK {T : TypeId} {z : Value} {cs : Array Value} (hs : sig ops i = some (d,.alloc T,ty,gd)) (hw : AR ops e gd = true) (hd : G4 d g.n = true) (hz : ∀ w,(zeroValue T).run g.P w = .ok z w) (hc : z.cells = cs)
   (h : ∀ b,σ b = none → K (put e d (.pointer (some ⟨b,0,none⟩))) bx (σ.set b (.cells cs T (0,0)))) : AN g ops i e bx σ K := by
 intro w0 F a w st
 refine wpOpIn_mono ?_ (AN.alloc (K := fun e' F1 σ' => σ' = σ ∧ ∃ b,e' = put e d (.pointer (some ⟨b,0,none⟩)) ∧ F1 = (b,.cells cs T (0,0)) :: bx) hs hw hd hz hc (fun b => ⟨rfl,b,rfl,rfl⟩) w0 F a w st)
 rintro a' w' ⟨_,_,_,Mq,rfl,b,rfl,rfl⟩
 exact ⟨_,_,_,Mq.open,h b (Mq.free _ (List.mem_cons_self ..)).1⟩
def AK (P : Program) {α : Type} (m : Sem α) (σ : Hp) (Φ : α → Hp → Prop) : Prop :=
 ∀ w (F : Nat → Prop),Sat σ w → (∀ b,F b → b < w.heap.size ∧ σ b = none) → ∃ v w' σ',m.run P w = .ok v w' ∧ Φ v σ' ∧ Fin σ' F w w'
theorem AK.mono {P : Program} {α : Type} {m : Sem α} {Φ Ψ : α → Hp → Prop} (h : AK P m σ Φ) (hh : ∀ v σ',Φ v σ' → Ψ v σ') : AK P m σ Ψ := fun w F hs hF =>
 let ⟨v,w',σ',h1,h2,h3⟩ := h w F hs hF
 ⟨v,w',σ',h1,hh _ _ h2,h3⟩
theorem St.lt {n ds w0 F e bx σ a w} (st : St n ds w0 F e bx σ a w) : ∀ b,(F b ∨ b ∈ bx.map (·.1)) → b < w.heap.size ∧ σ b = none := by
 rintro b (h | h)
 · have h1 := st.Cu b h
   have h2 := st.grow
   exact ⟨by omega,h1.2.1⟩
 · obtain ⟨p,hp,rfl⟩ := List.mem_map.1 h
   exact ⟨(Array.getElem?_eq_some_iff.1 (st.box p hp)).1,(st.free p hp).1⟩
theorem St.fin {n ds w0 F e bx σ a w σ' w'} (st : St n ds w0 F e bx σ a w) (h : Fin σ' (fun b => F b ∨ b ∈ bx.map (·.1)) w w') : St n ds w0 F e bx σ' a w' := by
 refine { st with sat := h.sat,box := fun p hp => ?_,free := fun p hp => ⟨(h.Cu p.1 (.inr (List.mem_map.2 ⟨p,hp,rfl⟩))).1,(st.free p hp).2⟩,Cu := fun b hb => ?_,os := st.os.trans h.os,out := h.out.trans st.out,grow := Nat.le_trans st.grow h.grow }
 · rw [(h.Cu p.1 (.inr (List.mem_map.2 ⟨p,hp,rfl⟩))).2]; exact st.box p hp
 · obtain ⟨h1,_,h3⟩ := st.Cu b hb
   exact ⟨h1,(h.Cu b (.inl hb)).1,(h.Cu b (.inl hb)).2.trans h3⟩
theorem AN.Qb (hs : sig ops i = some (d,op,ty,gd)) (hw : AR ops e gd = true) (hd : G4 d g.n = true) (m : Sem Value) (hm : ∀ o : Oper,o.op = op → o.type = ty → execOp (AD e) o = (do pure (.value (← m))))
   (h : AK g.P m σ fun v σ' => K (put e d v) bx σ') : AN g ops i e bx σ K := by
 intro w0 F a w st
 obtain ⟨o,ho,rfl,BM,Ct,rfl⟩ := BX hs
 refine B8 ho (by rw [st.wanted]; exact hw) ?_
 obtain ⟨v,w',σ',h1,h2,h3⟩ := h w _ st.sat st.lt
 rw [st.eval]
 have B9 := hm o BM Ct
 rw [Cv (by rw [B9]; simp only [Sem.run_bind,h1,Result.andThen_ok]; rfl) (fun d => by simp)]
 exact ⟨_,_,_,(st.fin h3).put _ _ (G4.lt hd),h2⟩
theorem AN.qR (hs : sig ops i = some (d,op,ty,gd)) (hw : AR ops e gd = true) (hd : G4 d g.n = true) (m : Sem Unit) (hm : ∀ o : Oper,o.op = op → o.type = ty → execOp (AD e) o = (do m; pure .skip))
   (h : AK g.P m σ fun _ σ' => K (put e d undef) bx σ') : AN g ops i e bx σ K := by
 intro w0 F a w st
 obtain ⟨o,ho,rfl,BM,Ct,rfl⟩ := BX hs
 refine B8 ho (by rw [st.wanted]; exact hw) ?_
 obtain ⟨v,w',σ',h1,h2,h3⟩ := h w _ st.sat st.lt
 rw [st.eval]
 have B9 := hm o BM Ct
 rw [Cv (by rw [B9]; simp only [Sem.run_bind,h1,Result.andThen_ok]; rfl) (fun d => by simp)]
 exact ⟨_,_,_,(st.fin h3).put _ _ (G4.lt hd),h2⟩
def AA (R : Rr) (Φ : Value → Hp → Prop) : Rr
 | .returned v,σ => Φ v σ
 | .panicked ch,σ => R (.panicked ch) σ
 | .outgrown,_ => False
theorem AN.call {f : FuncId} {args : Array Value} (hs : sig ops i = some (d,op,ty,gd)) (hw : AR ops e gd = true) (hd : G4 d g.n = true)
   (hm : ∀ o : Oper,o.op = op → o.type = ty → ∀ w,(execOp (AD e) o).run g.P w = .ok (.enter f args) w)
   (h : Spec g.P f args σ (AA g.R fun v σ' => K (put e d v) bx σ')) : AN g ops i e bx σ K := by
 intro w0 F a w st
 obtain ⟨o,ho,rfl,BM,Ct,rfl⟩ := BX hs
 refine B8 ho (by rw [st.wanted]; exact hw) ?_
 rw [st.eval,Cv (hm o BM Ct w) (fun d => by simp)]
 refine ⟨fun hh => (by cases hh),ZQ (Calls.mono (h w _ st.sat st.lt) fun en w' => ?_)⟩
 rintro ⟨σ',hr,hf⟩
 have Mq := st.fin hf
 cases en with
 | returned v => exact ⟨_,_,_,Mq.put _ _ (G4.lt hd),hr⟩
 | panicked ch =>
   rcases g.pan with ⟨h1,h2⟩ | Bc
   · exact ⟨⟨h1,Mq.defers.trans h2⟩,σ',hr,Mq.toFin⟩
   · exact absurd hr (Bc ch σ')
 | outgrown => exact hr.elim
theorem OL {P : Program} {ρ : Operand → Value} {x : Operand} {xs : Array Operand} {ts : Array TypeId} {f : FuncId} {fst cap vs args : Array Value}
   (hf : ∀ args w,(callFunc f args).run P w = .ok (.enter f args) w) (hx : ρ x = .func (.func f) fst cap) (JJ : xs.toList.map ρ = vs.toList) (ha : fst ++ vs ++ cap = args)
   (o : Oper) (ho : o.op = .call { callee := .value x,args := xs,argTypes := ts }) (w : World) :
   (execOp ρ o).run P w = .ok (.enter f args) w := by
 subst ha
 have JJ : xs.map ρ = vs := by rw [← Array.toList_inj]; simpa using JJ
 simp only [execOp,ho,resolve,hx,JJ,Deferred.ofValue,invoke,bind,Sem.bind,pure]
 exact hf _ w
end jJ
end Tw
end
section
namespace Tw
open Go
variable [Er]
def Mz (c : Array Value) (o : Nat) : List Value → Array Value
 | [] => c
 | v :: vs => Mz (c.setIfInBounds o v) (o + 1) vs
theorem Hw : ∀ (vs : List Value) (c : Array Value) (o : Nat),(Mz c o vs).size = c.size
 | [],_,_ => rfl
 | v :: vs,c,o => by simp [Mz,Hw vs]
theorem QB : ∀ (vs : List Value) (c : Array Value) (o j : Nat),o + vs.length ≤ c.size →
   (Mz c o vs)[j]? = if o ≤ j ∧ j < o + vs.length then vs[j - o]? else c[j]?
 | [],c,o,j,_ => by rw [if_neg (by simp only [List.length_nil]; omega)]; rfl
 | v :: vs,c,o,j,h => by
   simp only [List.length_cons] at h
   rw [Mz,QB vs _ _ j (by simp; omega)]
   by_cases h1 : o + 1 ≤ j ∧ j < o + 1 + vs.length
   · rw [if_pos h1,if_pos (by simp; omega),show j - o = (j - (o + 1)) + 1 by omega,List.getElem?_cons_succ]
   · rw [if_neg h1]
     by_cases h2 : j = o
     · subst h2
       rw [if_pos (by simp),Nat.sub_self]
       simp [show j < c.size by omega]
     · rw [if_neg (by simp; omega),Array.getElem?_setIfInBounds_ne (Ne.symm h2)]
section
variable {P : Program}
theorem EK (b o : Nat) (t : TypeId) : ∀ (vs : List Value) (i : Nat) (c : Array Value) (w : World),w.heap[b]? = some (.cells c t (0,0)) → o + i + vs.length ≤ c.size → (∀ v ∈ vs,v.oneCell' = true) →
   (storeCells ⟨b,o,none⟩ vs i).run P w = .ok () (w.setRow b (Mz c (o + i) vs))
 | [],i,c,w,hg,hl,_ => by
   have Az : b < w.heap.size := (Array.getElem?_eq_some_iff.1 hg).1
   have hv : w.heap[b] = .cells c t (0,0) := (Array.getElem?_eq_some_iff.1 hg).2
   simp only [storeCells,Mz]
   show Result.ok () w = _
   congr 1
   unfold World.setRow
   cases w with
   | mk heap tape drawn os output =>
     congr 1
     apply Array.ext
     · simp
     · intro k h1 h2
       simp only [Array.getElem_modify]
       split
       · rename_i hk; subst hk; simp at hv; simp [hv]
       · rfl
 | v :: vs,i,c,w,hg,hl,h1 => by
   simp only [List.length_cons] at hl
   have T7 : w.cell? ⟨b,o + i,none⟩ = some c[o + i] := by
     simp [World.cell?,hg]
   have hfr : w.frozen? ⟨b,o + i,none⟩ = false := by simp [World.frozen?,hg]
   have AJx : (⟨b,o,none⟩ : Addr).add i = ⟨b,o + i,none⟩ := Bj b o i
   have AJy := setCell_eq_setRow w b (o + i) c t (0,0) v hg
   have M0 := setRow_heap w b c (c.setIfInBounds (o + i) v) t (0,0) hg
   have ih := EK b o t vs (i + 1) (c.setIfInBounds (o + i) v) (w.setRow b (c.setIfInBounds (o + i) v)) M0 (by simp; omega) (fun u hu => h1 u (List.mem_cons_of_mem _ hu))
   rw [setRow_setRow] at ih
   have Fp := run_store P w ⟨b,o + i,none⟩ v .plain (h1 v (List.mem_cons_self ..))
   simp only [storeCells,AJx,Sem.run_bind,Fp,T7,hfr,Bool.false_eq_true,if_false,Result.andThen_ok,AJy,ih,Mz]
   rw [Nat.add_assoc]
theorem O7 (b o : Nat) (t ty : TypeId) (v : Value) (c : Array Value) (w : World) {n : Nat} (hs : ∀ w,(Go.sizeOf ty).run P w = .ok n w) (hn : v.cells.size = n) (hg : w.heap[b]? = some (.cells c t (0,0)))
   (hl : o + n ≤ c.size) (h1 : ∀ u ∈ v.cells.toList,u.oneCell' = true) :
   (Instr.storeAt ty (.pointer (some ⟨b,o,none⟩)) v).run P w = .ok () (w.setRow b (Mz c o v.cells.toList)) := by
 have := EK (P := P) b o t v.cells.toList 0 c w hg (by simp; omega) h1
 simp [Instr.storeAt,Instr.sureAddr,storeVar,hs,hn,this]
end
theorem St.wrote {n ds w0 F e bx σ a w j b c c' t} (st : St n ds w0 F e bx σ a w) (hj : bx[j]? = some (b,Obj.cells c t (0,0))) :
   St n ds w0 F e (bx.set j (b,.cells c' t (0,0))) σ a (w.setRow b c') := by
 have hm : (b,Obj.cells c t (0,0)) ∈ bx := List.mem_of_getElem? hj
 have hb := st.box _ hm
 have hf := st.free _ hm
 have jK : (bx.set j (b,Obj.cells c' t (0,0))).map (·.1) = bx.map (·.1) := by
   rw [List.map_set]
   have : (bx.map (·.1))[j]? = some b := by simp [hj]
   obtain ⟨Az,heq⟩ := List.getElem?_eq_some_iff.1 this
   rw [← heq,List.set_getElem_self]
 have ZU : ∀ k,k ≠ b → (w.setRow b c').heap[k]? = w.heap[k]? := fun k hk => setRow_other w b k c' hk
 refine { st with sat := fun k o hk => ?_,box := fun p hp => ?_,free := fun p hp => ?_,nodup := by rw [jK]; exact st.nodup,Cu := fun k hk => ?_,os := st.os,out := st.out,grow := by simpa using st.grow }
 · have : k ≠ b := fun h => by rw [h,hf.1] at hk; cases hk
   rw [ZU k this]; exact st.sat k o hk
 · by_cases h : p.1 = b
   · -- the same block: the entry AJz
     obtain ⟨i,hi⟩ := List.mem_iff_getElem?.1 hp
     have M1 : i = j := by
       have h1 : ((bx.set j (b,Obj.cells c' t (0,0))).map (·.1))[i]? = some b := by simp only [List.getElem?_map,hi,Option.map_some,h]
       rw [jK] at h1
       have h2 : (bx.map (·.1))[j]? = some b := by simp [hj]
       have Ps := (List.getElem?_eq_some_iff.1 h1).1
       exact (List.getElem?_inj Ps st.nodup).1 (h1.trans h2.symm)
     subst M1
     have Az : i < bx.length := (List.getElem?_eq_some_iff.1 hj).1
     rw [List.getElem?_set_self Az] at hi
     cases hi
     exact setRow_heap w b c c' t (0,0) hb
   · rw [ZU _ h]
     rcases List.mem_or_eq_of_mem_set hp with h1 | h1
     · exact st.box p h1
     · exact absurd (by rw [h1]) h
 · rcases List.mem_or_eq_of_mem_set hp with h1 | h1
   · exact st.free p h1
   · rw [h1]; exact hf
 · obtain ⟨h1,h2,h3⟩ := st.Cu k hk
   have : k ≠ b := fun h => hf.2 (h ▸ hk)
   exact ⟨h1,h2,by rw [ZU k this]; exact h3⟩
section jJ
variable {g : Gl} {ops : Array Oper} {i : Nat} {e : Env} {bx : Bx} {σ : Hp} {K : Env → Bx → Hp → Prop} {d : Option Nat} {op : Op} {ty T : TypeId} {gd : Option (Nat × Bool)}
theorem AN.xQ {x y : Operand} {j b o n : Nat} {c c' : Array Value} {t : TypeId} {v : Value} (hs : sig ops i = some (none,.store T x y,ty,gd)) (hw : AR ops e gd = true) (hz : ∀ w,(Go.sizeOf T).run g.P w = .ok n w)
   (hx : AD e x = .pointer (some ⟨b,o,none⟩)) (hy : AD e y = v) (hj : bx[j]? = some (b,Obj.cells c t (0,0))) (hn : v.cells.size = n) (hl : Nat.ble (o + n) c.size = true) (h1 : (v.cells.toList.all fun u => u.oneCell') = true)
   (hc : Mz c o v.cells.toList = c') (h : K e (bx.set j (b,.cells c' t (0,0))) σ) : AN g ops i e bx σ K := by
 intro w0 F a w st
 obtain ⟨o',ho,hd,BM,Ct,hg⟩ := BX hs
 refine B8 ho (by rw [st.wanted,hg]; exact hw) ?_
 rw [st.eval]
 subst hc
 have hb := st.box _ (List.mem_of_getElem? hj)
 have := O7 (P := g.P) b o t T v c w hz hn hb (Nat.le_of_ble_eq_true hl) (fun u hu => List.all_eq_true.1 h1 u hu)
 have : (execOp (AD e) o').run g.P w = .ok .skip (w.setRow b (Mz c o v.cells.toList)) := by
   simp [execOp,BM,hx,hy,this]
 rw [Cv this (fun d => by simp)]
 have AJ0 : a.put o'.dst undef = a := by rw [hd]; rfl
 simp only [Oper.uponIn_skip,AJ0]
 exact ⟨_,_,_,st.wrote hj,h⟩
theorem AK.store {P : Program} {b o n : Nat} {c : Array Value} {t : TypeId} {v : Value} {Φ : Unit → Hp → Prop} (hz : ∀ w,(Go.sizeOf T).run P w = .ok n w) (hb : σ b = some (.cells c t (0,0))) (hn : v.cells.size = n) (hl : o + n ≤ c.size) (h1 : ∀ u ∈ v.cells.toList,u.oneCell' = true)
   (h : Φ () (σ.set b (.cells (Mz c o v.cells.toList) t (0,0)))) : AK P (Instr.storeAt T (.pointer (some ⟨b,o,none⟩)) v) σ Φ := fun w F hs hF => by
 refine ⟨(),_,_,O7 b o t T v c w hz hn (hs _ _ hb) hl h1,h,?_,?_,.same rfl rfl rfl,rfl,by simp⟩
 · intro k o' hk
   by_cases h : k = b
   · subst h; rw [Hp.AB] at hk; cases hk; exact setRow_heap w k c _ t (0,0) (hs _ _ hb)
   · rw [Hp.AO h] at hk; rw [setRow_other _ _ _ _ h]; exact hs k o' hk
 · intro k hk
   have : k ≠ b := fun h => by have := (hF k hk).2; rw [h,hb] at this; cases this
   exact ⟨by rw [Hp.AO this]; exact (hF k hk).2,setRow_other _ _ _ _ this⟩
theorem AN.store {x y : Operand} {p v : Value} (hs : sig ops i = some (none,.store T x y,ty,gd)) (hw : AR ops e gd = true) (hx : AD e x = p) (hy : AD e y = v)
   (h : AK g.P (Instr.storeAt T p v) σ fun _ σ' => K e bx σ') : AN g ops i e bx σ K :=
 AN.qR hs hw rfl (Instr.storeAt T p v) (fun o ho _ => by simp [execOp,ho,hx,hy]) h
end jJ
section ZT
variable {P : Program} {e : Env} {bx : Bx} {σ : Hp} {ty T : TypeId}
theorem Y.build {ps : Array (Nat × Operand)} {vs : List (Nat × Value)} {cs : Array Value} (hv : ps.toList.map (fun p => (p.1,AD e p.2)) = vs) (hc : P.built T vs = some cs) : Yd P e bx σ (.build T ps) ty (.agg cs) := fun oo ho _ w _ _ => by
 have hh : (ps.map fun (i,x) => (i,AD e x)).toList = vs := by rw [← hv]; simp
 have := run_build (P := P) w T (ps.map fun (i,x) => (i,AD e x)) cs (by rw [hh]; exact hc)
 simp only [execOp,ho,Sem.run_bind,this,Result.andThen_ok]
 rfl
end ZT
def HH (P : Program) (e : Env) (bx : Bx) (σ : Hp) : List ResultVar → List Value → Prop
 | [],vs => vs = []
 | .tmp t :: r,vs => ∃ us,vs = e t :: us ∧ HH P e bx σ r us
 | .cell p T :: r,vs => ∃ v us,vs = v :: us ∧ (∃ a,e p = .pointer (some a) ∧ ∀ w,Sat σ w → Ht bx w → (loadVar T a).run P w = .ok v w) ∧ HH P e bx σ r us
def Qc : List Value → Value
 | [v] => v
 | vs => .tuple vs.toArray
def eX (tmps : Array Value) : ResultVar → Sem Value
 | .tmp t => pure (tmps.getD t undef)
 | .cell a t => do loadVar t (← asAddr (tmps.getD a undef))
theorem HH.run {P : Program} {e : Env} {bx : Bx} {σ : Hp} {tmps : Array Value} {w : World} (he : ∀ t,tmps.getD t undef = e t) (hs : Sat σ w) (hb : Ht bx w) : ∀ (rs : List ResultVar) (vs : List Value),HH P e bx σ rs vs →
   (rs.mapM (eX tmps)).run P w = Result.ok vs w
 | [],vs,h => by simp only [HH] at h; subst h; simp
 | .tmp t :: r,vs,h => by
   obtain ⟨us,rfl,h⟩ := h
   have h1 : (eX tmps (.tmp t)).run P w = .ok (e t) w := by simp only [eX,Sem.run_pure,he]
   simp only [List.mapM_cons,Sem.run_bind,Sem.run_pure,Result.andThen_ok,HH.run he hs hb r us h,h1]
 | .cell p T :: r,vs,h => by
   obtain ⟨v,us,rfl,⟨a,ha,hl⟩,h⟩ := h
   have h2 : (eX tmps (.cell p T)).run P w = .ok v w := by
     have h1 : tmps.getD p undef = .pointer (some a) := (he p).trans ha
     simp only [eX,Sem.run_bind,Sem.run_pure,Result.andThen_ok,h1,asAddr,hl w hs hb]
   simp only [List.mapM_cons,Sem.run_bind,Sem.run_pure,Result.andThen_ok,HH.run he hs hb r us h,h2]
theorem HH.results {P : Program} {e : Env} {bx : Bx} {σ : Hp} {fn : Func} {rs : List ResultVar} {vs : List Value} (hr : fn.results = rs.toArray) (h : HH P e bx σ rs vs) (a : Act) (w : World)
   (he : ∀ t,a.tmps.getD t undef = e t) (hs : Sat σ w) (hb : Ht bx w) : (results fn a.tmps).run P w = .ok (Qc vs) w := by
 have h1 := HH.run he hs hb _ _ h
 have h2 : Go.results fn a.tmps = (do let vs ← fn.results.mapM (eX a.tmps); pure (if h : vs.size = 1 then vs[0] else .tuple vs)) := rfl
 rw [h2,hr]
 simp only [List.mapM_toArray,Sem.run_bind,Sem.run_map,h1,Result.andThen_ok]
 cases vs with
 | nil => rfl
 | cons v vs => cases vs <;> rfl
theorem qS {P : Program} {bx : Bx} {σ : Hp} {T : TypeId} {b o : Nat} {c : Array Value} {t : TypeId} {fr : Nat × Nat} {v : Value} (hA : ∀ w,(isAgg T).run P w = .ok false w) (hb : (b,Obj.cells c t fr) ∈ bx) (h : c[o]? = some v) :
   ∀ w,Sat σ w → Ht bx w → (loadVar T ⟨b,o,none⟩).run P w = .ok v w := fun w _ hs => by
 simp [loadVar,hA,load,Sem.run,hs.cell hb,h]
theorem jL {P : Program} {bx : Bx} {σ : Hp} {T : TypeId} {b n : Nat} {c : Array Value} {t : TypeId} {fr : Nat × Nat} (hA : ∀ w,(isAgg T).run P w = .ok true w) (hs : ∀ w,((Go.sizeOf T).run P w) = .ok n w) (hn : c.size = n) (hb : (b,Obj.cells c t fr) ∈ bx) :
   ∀ w,Sat σ w → Ht bx w → (loadVar T ⟨b,0,none⟩).run P w = .ok (.agg c) w := fun w _ jI => by
 subst hn
 have := run_loadCells_list (P := P) (w := w) ⟨b,0,none⟩ c.toList (fun j v hj => by
   rw [show (⟨b,0,none⟩ : Addr).add j = ⟨b,0 + j,none⟩ from Bj _ _ _,jI.cell hb]
   simpa using hj)
 simp at this
 simp [loadVar,hA,hs,this]
theorem B4 {P : Program} {bx : Bx} {σ : Hp} {T : TypeId} {a : Addr} {v : Value} (hA : ∀ w,(isAgg T).run P w = .ok false w) (h : σ.ld a = some v) : ∀ w,Sat σ w → Ht bx w → (loadVar T a).run P w = .ok v w := fun w hs _ => by
 simp [loadVar,hA,load,Sem.run,hs.ld h]
section ends
variable {g : Gl} {k : List Item} {e : Env} {bx : Bx} {σ : Hp}
theorem At.VJ {c : Code} {fn : Func} {rs : List ResultVar} {vs : List Value} (hc : c = Code.ret) (hf : g.P.funcs[g.f]? = some fn) (hr : fn.results = rs.toArray) (h : HH g.P e bx (left g.ds σ) rs vs) (hR : g.R (.returned (Qc vs)) (left g.ds σ))
   (Td : g.Gg = none := by rfl) (hm : Marks g.ds σ := by trivial) : At g (.code c :: k) e bx σ :=
 At.ret hc hf (fun a w he hs hb => h.results hr a w he hs hb) hR Td hm
theorem At.ACP {fn : Func} {rs : List ResultVar} {vs : List Value} (hf : g.P.funcs[g.f]? = some fn) (hr : fn.results = rs.toArray) (h : HH g.P e bx (left g.ds σ) rs vs) (hR : g.R (.returned (Qc vs)) (left g.ds σ))
   (Td : g.Gg = none := by rfl) (hm : Marks g.ds σ := by trivial) : At g [] e bx σ :=
 At.done hf (fun a w he hs hb => h.results hr a w he hs hb) hR Td hm
end ends
end Tw
end
section
namespace Tw
open Go
variable [Er]
def cl : Code → Code
 | .seq a _ => a | .cond _ a _ => a | .block _ a => a | .loop a => a | .scope a => a | .rangeFunc _ _ a _ => a | c => c
def cr : Code → Code
 | .seq _ b => b | .cond _ _ b => b | .rangeFunc _ _ _ b => b | c => c
def cO : Code → Array Oper
 | .region _ ops _ => ops | _ => #[]
def LA (P : Program) (t : TypeId) (f : Nat) : Field :=
 match P.underlying t with
 | some (.struct fs) => fs.getD f default
 | _ => default
theorem nt {b : Bool} (h : (!b) = true) : b = false := by simpa using h
theorem nf {b : Bool} (h : (!b) = false) : b = true := by simpa using h
def Ext (σ σ' : Hp) : Prop := ∀ b o,σ b = some o → σ' b = some o
theorem Ext.refl (σ : Hp) : Ext σ σ := fun _ _ h => h
theorem Ext.trans {σ σ' ACQ : Hp} (h : Ext σ σ') (h' : Ext σ' ACQ) : Ext σ ACQ := fun b o hb => h' b o (h b o hb)
theorem Ext.set {σ : Hp} {b : Nat} {o : Obj} (h : σ b = none) : Ext σ (σ.set b o) := fun c o' hc => by
 have : c ≠ b := fun e => by rw [e,h] at hc; cases hc
 rw [Hp.AO this]; exact hc
theorem Ext.ld {σ σ' : Hp} (h : Ext σ σ') {a : Addr} {v : Value} (hl : σ.ld a = some v) : σ'.ld a = some v := by
 unfold Hp.ld at *
 cases hb : σ a.block with
 | none => simp [hb] at hl
 | some o => rw [h _ _ hb]; rw [hb] at hl; exact hl
theorem At.ofL {g : Gl} {k : List Item} {e : Env} {bx : Bx} {σ : Hp} {l : List (Nat × Value)} (hl : Live e l) (h : ∀ J,At g k (Je J l) bx σ) : At g k e bx σ := At.live hl (h e)
def Kp (L : List Nat) (σ σ' : Hp) : Prop := ∀ b ∈ L,∀ o,σ b = some o → σ' b = some o
theorem Kp.HY {L : List Nat} {σ σ' : Hp} (h : Ext σ σ') : Kp L σ σ' := fun b _ o hb => h b o hb
theorem Kp.nil {σ σ' : Hp} : Kp [] σ σ' := fun b hb => by cases hb
theorem Wj {L : List (Nat × List Nat)} {σ σ' : Hp} (h : Kp (L.map Prod.fst) σ σ') : ∀ x ∈ L,∀ o,σ x.1 = some o → σ' x.1 = some o := fun x hx o ho => h x.1 (List.mem_map.2 ⟨x,hx,rfl⟩) o ho
theorem HZ {b o : Nat} {s : Option Nat} {L : List (Nat × List Nat)} {Ds : List (List Nat)} {σ : Hp} {v : Value} (h : σ.ld ⟨b,o,s⟩ = some v) : (OI (some L) (some (b,Ds)) σ).ld ⟨b,o,s⟩ = some v := by
 unfold Hp.ld at *
 simpa [OI] using h
theorem Spec.cont {P : Program} {f : FuncId} {args : Array Value} {σ : Hp} {R : Rr} {Φ Ψ : Value → Hp → Prop} (h : Spec P f args σ (AA R Φ)) (hh : ∀ v σ',Φ v σ' → Ψ v σ') :
   Spec P f args σ (AA R Ψ) := h.mono fun e σ' he => by
 cases e with
 | returned v => exact hh v σ' he
 | panicked ch => exact he
 | outgrown => exact he
def YF (P : Program) (m : Sem Value) (σ : Hp) (v : Value) : Prop := ∀ w,Sat σ w → m.run P w = .ok v w
theorem Yd.any {P : Program} {e : Env} {bx : Bx} {σ : Hp} {op : Op} {ty : TypeId} {v : Value} {m : Sem Value} (hm : ∀ o : Oper,o.op = op → o.type = ty → execOp (AD e) o = (do pure (Next.value (← m)))) (hy : YF P m σ v) : Yd P e bx σ op ty v :=
 Yd.of m hm (fun w hs _ => hy w hs)
def Jg (p : Option Addr) (l c s : Nat) : Option Addr := if c = l then p else p.map (·.add (l * s))
section
variable {P : Program} {e : Env} {bx : Bx} {σ : Hp} {ty T E : TypeId} {x y z : Operand} {k k' : IntKind} {l h : Int} {p : Option Addr} {n c s : Nat}
theorem HI (hT : P.underlying T = some (.slice E)) : P.elem T = E := by simp [Program.elem,hT]
theorem Y.sla (hT : P.underlying T = some (.slice E)) (hs : ∀ w,((Go.sizeOf E).run P w) = .ok s w) (hx : AD e x = .slice p n c) (_ : True) : Yd P e bx σ (.slice T x none none none) ty (.slice p n c) := fun oo ho _ w _ _ => by
 have Wk : P.underlying T = some (.slice (P.elem T)) := by rw [HI hT]; exact hT
 have h1 := run_sliceAt_slice (P := P) (w := w) T (.slice p n c) none none none Wk
 have h2 := run_slice_all (P := P) (w := w) T p n c Wk
 simp [execOp,ho,hx,h1,h2,hs,HI hT,sliced]
 cases p <;> simp [Addr.add]
theorem Y.slh (hT : P.underlying T = some (.slice E)) (hs : ∀ w,((Go.sizeOf E).run P w) = .ok s w) (hx : AD e x = .slice p n c) (hz : AD e z = .int k h) (hh : 0 ≤ h ∧ h ≤ c) : Yd P e bx σ (.slice T x none (some z) none) ty (.slice p h.toNat c) := fun oo ho _ w _ _ => by
 have Wk : P.underlying T = some (.slice (P.elem T)) := by rw [HI hT]; exact hT
 have h1 := run_sliceAt_slice (P := P) (w := w) T (.slice p n c) none (some (.int k h)) none Wk
 have h2 := run_slice_h (P := P) (w := w) T p n c Wk k h hh.1 hh.2
 simp [execOp,ho,hx,hz,h1,h2,hs,HI hT,sliced]
 cases p <;> simp [Addr.add]
theorem Y.sll (hT : P.underlying T = some (.slice E)) (hs : ∀ w,((Go.sizeOf E).run P w) = .ok s w) (hx : AD e x = .slice p n c) (hy : AD e y = .int k l) (hh : 0 ≤ l ∧ l ≤ n) : Yd P e bx σ (.slice T x (some y) none none) ty (.slice (Jg p l.toNat c s) (n - l.toNat) (c - l.toNat)) := fun oo ho _ w _ _ => by
 have Wk : P.underlying T = some (.slice (P.elem T)) := by rw [HI hT]; exact hT
 have h1 := run_sliceAt_slice (P := P) (w := w) T (.slice p n c) (some (.int k l)) none none Wk
 have h2 := run_slice_l (P := P) (w := w) T p n c Wk k l hh.1 hh.2
 simp [execOp,ho,hx,hy,h1,h2,hs,HI hT,sliced,Jg]
theorem Y.ACR (hT : P.underlying T = some (.slice E)) (hs : ∀ w,((Go.sizeOf E).run P w) = .ok s w) (hx : AD e x = .slice p n c) (hy : AD e y = .int k l) (hz : AD e z = .int k' h) (hh : 0 ≤ l ∧ l ≤ h ∧ h ≤ c) :
   Yd P e bx σ (.slice T x (some y) (some z) none) ty (.slice (Jg p l.toNat c s) (h.toNat - l.toNat) (c - l.toNat)) := fun oo ho _ w _ _ => by
 have Wk : P.underlying T = some (.slice (P.elem T)) := by rw [HI hT]; exact hT
 have h1 := run_sliceAt_slice (P := P) (w := w) T (.slice p n c) (some (.int k l)) (some (.int k' h)) none Wk
 have h2 := run_slice_lh (P := P) (w := w) T p n c Wk k k' l h hh.1 hh.2.1 hh.2.2
 simp [execOp,ho,hx,hy,hz,h1,h2,hs,HI hT,sliced,Jg]
theorem Wl (p : Option Addr) (c s : Nat) : Jg p 0 c s = p := by unfold Jg; cases p <;> simp [Addr.add]
theorem Y.ACS (hT : P.underlying T = some (.slice E)) (hs : ∀ w,((Go.sizeOf E).run P w) = .ok s w) (hx : AD e x = .slice p n c) (hy : AD e y = .int k 0) (hz : AD e z = .int k' h) (hh : (0 : Int) ≤ 0 ∧ 0 ≤ h ∧ h ≤ c) :
   Yd P e bx σ (.slice T x (some y) (some z) none) ty (.slice p h.toNat c) := by
 have := Y.ACR (P := P) (bx := bx) (σ := σ) (ty := ty) hT hs hx hy hz hh
 simpa [Wl] using this
theorem Y.AJ1 (hT : P.underlying T = some (.slice E)) (hs : ∀ w,((Go.sizeOf E).run P w) = .ok s w) (hx : AD e x = .slice p n c) (hy : AD e y = .int k 0) (hh : (0 : Int) ≤ 0 ∧ (0 : Int) ≤ n) :
   Yd P e bx σ (.slice T x (some y) none none) ty (.slice p n c) := by
 have := Y.sll (P := P) (bx := bx) (σ := σ) (ty := ty) hT hs hx hy hh
 simpa [Wl] using this
theorem Y.AJ2 {a b : Bool} (hT : P.underlying T = some .bool) (hx : AD e x = .bool a) (hy : AD e y = .bool b) {T' : TypeId} : Yd P e bx σ (.binOp .eql T x y T') ty (.bool (a == b)) := fun oo ho _ w _ _ => by
 simp [execOp,ho,hx,hy,eqGuard_at_bool,run_eql_bool w T a b hT]
theorem Y.AJ3 {a b : Bool} (hT : P.underlying T = some .bool) (hx : AD e x = .bool a) (hy : AD e y = .bool b) {T' : TypeId} : Yd P e bx σ (.binOp .neq T x y T') ty (.bool (!(a == b))) := fun oo ho _ w _ _ => by
 simp [execOp,ho,hx,hy,eqGuard_at_bool,run_neq_bool w T a b hT]
theorem Y.AJ4 {a b : ByteArray} (hT : P.underlying T = some .string) (hx : AD e x = .string a) (hy : AD e y = .string b) {T' : TypeId} : Yd P e bx σ (.binOp .eql T x y T') ty (.bool (a.toList == b.toList)) := fun oo ho _ w _ _ => by
 have _ := hT
 have h1 : (binOp .eql T (.string a) (.string b)).run P w = .ok (.bool (a.toList == b.toList)) w := by simp [binOp,Op.stringOp]
 simp [execOp,ho,hx,hy,eqGuard_at_string,h1]
theorem Y.AJ5 {a b : ByteArray} (hT : P.underlying T = some .string) (hx : AD e x = .string a) (hy : AD e y = .string b) {T' : TypeId} : Yd P e bx σ (.binOp .neq T x y T') ty (.bool (!(a.toList == b.toList))) := fun oo ho _ w _ _ => by
 have _ := hT
 have h1 : (binOp .neq T (.string a) (.string b)).run P w = .ok (.bool (!(a.toList == b.toList))) w := by simp [binOp,Op.stringOp]
 simp [execOp,ho,hx,hy,eqGuard_at_string,h1]
theorem Y.jM {q : Option Addr} {E : TypeId} (hT : P.underlying T = some (.pointer E)) (hx : AD e x = .pointer q) (hy : AD e y = .pointer none) {T' : TypeId} : Yd P e bx σ (.binOp .eql T x y T') ty (.bool q.isNone) := fun oo ho _ w _ _ => by
 have Wk : P.underlying T = some (.pointer (P.pointee T)) := by rw [show P.pointee T = E by simp [Program.pointee,hT]]; exact hT
 have h1 := run_eql_pointer_nil w T q Wk
 simp [execOp,ho,hx,hy,eqGuard_at_pointer,h1]
theorem Y.jN {q : Option Addr} {E : TypeId} (hT : P.underlying T = some (.pointer E)) (hx : AD e x = .pointer q) (hy : AD e y = .pointer none) {T' : TypeId} : Yd P e bx σ (.binOp .neq T x y T') ty (.bool q.isSome) := fun oo ho _ w _ _ => by
 have Wk : P.underlying T = some (.pointer (P.pointee T)) := by rw [show P.pointee T = E by simp [Program.pointee,hT]]; exact hT
 have h1 := run_neq_pointer_nil w T q Wk
 simp [execOp,ho,hx,hy,eqGuard_at_pointer,h1]
section
variable {u v : Value} {ts : Array TypeId}
theorem FO (hx : AD e x = u) (hy : AD e y = v) (o : Oper) (ho : o.op = .call { callee := .builtin .append,args := #[x,y],argTypes := ts }) (ht : o.type = ty) : execOp (AD e) o = (do pure (.value (← Builtin.append_ ts ty #[u,v]))) := by
 subst ht; simp [execOp,ho,resolve,invoke,builtin,hx,hy]
theorem Wm (hx : AD e x = u) (hy : AD e y = v) (o : Oper) (ho : o.op = .call { callee := .builtin .copy,args := #[x,y],argTypes := ts }) (ht : o.type = ty) : execOp (AD e) o = (do pure (.value (← Builtin.copy_ ts ty #[u,v]))) := by
 subst ht; simp [execOp,ho,resolve,invoke,builtin,hx,hy]
theorem Tf (hx : AD e x = u) (hy : AD e y = v) (o : Oper) (ho : o.op = .call { callee := .builtin .delete,args := #[x,y],argTypes := ts }) (ht : o.type = ty) : execOp (AD e) o = (do pure (.value (← Builtin.delete_ ts ty #[u,v]))) := by
 subst ht; simp [execOp,ho,resolve,invoke,builtin,hx,hy]
theorem VK (hx : AD e x = u) (o : Oper) (ho : o.op = .call { callee := .builtin .clear,args := #[x],argTypes := ts }) (ht : o.type = ty) : execOp (AD e) o = (do pure (.value (← Builtin.clear_ ts ty #[u]))) := by
 subst ht; simp [execOp,ho,resolve,invoke,builtin,hx]
end
def Program.Ii (P : Program) (E : TypeId) (m : Nat) (vs : List (Nat × Value)) : Option (Array Value) :=
 match P.info? E with
 | some i => match i.zero with
   | some z => if m * i.size > 2 ^ 24 then none else Instr.fill (fun j => some (j * i.size,i.size)) ((Array.range (m * i.size)).map (z.cells[· % z.cells.size]!)) vs
   | none => none
 | none => none
theorem Qd {m : Nat} {vs : List (Nat × Value)} {cs : Array Value} (hT : P.underlying T = some (.slice E)) (hc : Program.Ii P E m vs = some cs) (ps : Array (Nat × Value)) (hp : ps.toList = vs) (w : World) :
   (Instr.buildSlice T m ps).run P w = .ok (.slice (some ⟨w.heap.size,0,none⟩) m m) { w with heap := w.heap.push (.cells cs E (0,0)) } := by
 unfold Program.Ii at hc
 cases hi : P.info? E with
 | none => simp [hi] at hc
 | some i =>
   cases hz : i.zero with
   | none => simp [hi,hz] at hc
   | some z =>
     simp only [hi,hz] at hc
     by_cases hm : m * i.size > 2 ^ 24
     · simp [hm] at hc
     · simp only [hm,if_false] at hc
       subst hp
       by_cases h0 : m * i.size = 0
       · rw [h0] at hc
         have : (Array.range 0).map (fun x => z.cells[x % z.cells.size]!) = #[] := by simp
         rw [this] at hc
         have h2 : Array.map (fun _ => (default : Value)) (Array.range 0) = #[] := by simp
         simp [Instr.buildSlice,run_underlying hT,Go.sizeOf,typeInfo,hi,h0,h2,hc,newRow,newObj,Sem.run]
       · simp [Instr.buildSlice,run_underlying hT,Go.sizeOf,typeInfo,zeroValue,hi,hz,hm,h0,hc,newRow,newObj,Sem.run]
end
theorem AN.Ii {g : Gl} {ops : Array Oper} {i : Nat} {e : Env} {bx : Bx} {σ : Hp} {K : Env → Bx → Hp → Prop} {d : Option Nat} {ty T E : TypeId} {m : Nat} {ps : Array (Nat × Operand)} {vs : List (Nat × Value)} {cs : Array Value} (hT : g.P.underlying T = some (.slice E))
   {gd : Option (Nat × Bool)} (hs : sig ops i = some (d,.buildSlice T m ps,ty,gd)) (hw : AR ops e gd = true) (hd : G4 d g.n = true) (hv : ps.toList.map (fun p => (p.1,AD e p.2)) = vs) (hc : Program.Ii g.P E m vs = some cs)
   (h : ∀ b,σ b = none → K (put e d (.slice (some ⟨b,0,none⟩) m m)) bx (σ.set b (.cells cs E (0,0)))) : AN g ops i e bx σ K := by
 intro w0 F a w st
 obtain ⟨o,ho,rfl,BM,Ct,hg⟩ := BX hs
 refine B8 ho (by rw [st.wanted,hg]; exact hw) ?_
 rw [st.eval]
 have hh : (ps.map fun (i,x) => (i,AD e x)).toList = vs := by rw [← hv]; simp
 have := Qd hT hc (ps.map fun (i,x) => (i,AD e x)) hh w
 have : (execOp (AD e) o).run g.P w = .ok (.value (.slice (some ⟨w.heap.size,0,none⟩) m m)) { w with heap := w.heap.push (.cells cs E (0,0)) } := by
   simp only [execOp,BM,Sem.run_bind,this,Result.andThen_ok]; rfl
 rw [Cv this (fun d => by simp)]
 have Mq := st.grown (.cells cs E (0,0))
 exact ⟨_,_,_,Mq.open.put _ _ (G4.lt hd),h _ (Mq.free _ (List.mem_cons_self ..)).1⟩
def Enters (P : Program) (f : FuncId) : Prop := ∀ args w,(callFunc f args).run P w = .ok (.enter f args) w
theorem AN.ACT {g : Gl} {ops : Array Oper} {i : Nat} {e : Env} {bx : Bx} {σ : Hp} {K : Env → Bx → Hp → Prop} {d : Option Nat} {ty : TypeId} {gd : Option (Nat × Bool)} {x : Operand} {xs : Array Operand} {ts : Array TypeId}
   {f : FuncId} {fst cap vs : Array Value} {u : Value} (hs : sig ops i = some (d,.call { callee := .value x,args := xs,argTypes := ts },ty,gd)) (hw : AR ops e gd = true) (hd : G4 d g.n = true)
   (hx : AD e x = u) (JJ : xs.toList.map (AD e) = vs.toList) (hu : u = .func (.func f) fst cap) (Pr : Enters g.P f)
   (h : Spec g.P f (fst ++ vs ++ cap) σ (AA g.R fun v σ' => K (put e d v) bx σ')) : AN g ops i e bx σ K :=
 AN.call hs hw hd (fun o ho _ w => OL Pr (hx.trans hu) JJ rfl o ho w) h
def YN (P : Program) (f : FuncId) (args : Array Value) (σ : Hp) (v : Value) : Prop := ∀ w,Sat σ w → (callFunc f args).run P w = .ok (.value v) w
end Tw
end
section
namespace Tw
open Go
variable [Er]
theorem AK.pu {P : Program} {α : Type} {m : Sem α} {σ : Hp} {Φ : α → Hp → Prop} {v : α} (hm : ∀ w,Sat σ w → m.run P w = .ok v w) (h : Φ v σ) : AK P m σ Φ := fun w _ hs hF =>
 ⟨v,w,σ,hm w hs,h,hs,fun b hb => ⟨(hF b hb).2,rfl⟩,.same rfl rfl rfl,rfl,Nat.le_refl _⟩
def Hp.del (σ : Hp) (p : Option Addr) : Hp := fun k => match p with
 | some a => if k = a.block then none else σ k
 | none => σ k
def Hp.new (σ σ' : Hp) : Hp := fun k => match σ k with
 | none => σ' k
 | some _ => none
theorem Ext.del {σ σ' : Hp} (h : Ext σ σ') (p : Option Addr) : Ext (σ.del p) (σ'.del p) := fun k o hk => by
 cases p with
 | none => exact h k o hk
 | some a => simp only [Hp.del] at hk ⊢; split at hk <;> simp_all [h k o]
theorem Ext.Jh (σ : Hp) (p : Option Addr) : Ext (σ.del p) σ := fun k o hk => by
 cases p with
 | none => exact hk
 | some a => simp only [Hp.del] at hk; split at hk <;> simp_all
theorem Ext.Cw (σ σ' : Hp) : Ext (σ.new σ') σ' := fun k o hk => by
 simp only [Hp.new] at hk; split at hk <;> simp_all
theorem Ext.qT {σ σ' : Hp} {p : Option Addr} (hp : ∀ a,p = some a → σ a.block ≠ none) : Ext (σ.new σ') (σ'.del p) := fun k o hk => by
 cases p with
 | none => exact Ext.Cw σ σ' k o hk
 | some a =>
   have h1 := hp a rfl
   have h2 := Ext.Cw σ σ' k o hk
   simp only [Hp.del]
   split
   · rename_i h; subst h
     simp only [Hp.new] at hk
     split at hk <;> simp_all
   · exact h2
theorem Ext.EL {σ σ1 σ2 : Hp} (h : Ext σ1 σ2) : Ext (σ.new σ1) (σ.new σ2) := fun k o hk => by
 simp only [Hp.new] at hk ⊢
 split at hk <;> simp_all [h k o]
theorem Ext.CA {σ σ1 σ2 : Hp} (h : Ext σ σ1) : Ext (σ1.new σ2) (σ.new σ2) := fun k o hk => by
 simp only [Hp.new] at hk ⊢
 split at hk
 · rename_i hn
   cases hs : σ k with
   | none => exact hk
   | some o' => rw [h k o' hs] at hn; cases hn
 · cases hk
def G6 (s : Nat) (σ : Hp) (p : Option Addr) (n : Nat) (cs : List Value) : Prop :=
 cs.length = n * s ∧ n ≤ 4611686018427387904 ∧ (n = 0 ∨ ∃ b o,p = some ⟨b,o,none⟩ ∧ Au σ b o cs)
theorem Au.mono {σ σ' : Hp} (h : Ext σ σ') {b : Nat} : ∀ {l : List Value} {o : Nat},Au σ b o l → Au σ' b o l
 | [],_,_ => trivial
 | _ :: _,_,hl => ⟨h.ld hl.1,Au.mono h hl.2⟩
theorem G6.mono {s : Nat} {σ σ' : Hp} (h : Ext σ σ') {p : Option Addr} {n : Nat} {cs : List Value} (hr : G6 s σ p n cs) : G6 s σ' p n cs :=
 ⟨hr.1,hr.2.1,hr.2.2.imp id fun ⟨b,o,hp,hl⟩ => ⟨b,o,hp,hl.mono h⟩⟩
theorem Au.of {σ : Hp} {b : Nat} : ∀ {l : List Value} {o : Nat},(∀ j v,l[j]? = some v → σ.ld ⟨b,o + j,none⟩ = some v) → Au σ b o l
 | [],_,_ => trivial
 | v :: l,o,h => ⟨by simpa using h 0 v rfl,Au.of fun j u hj => by have := h (j + 1) u (by simpa using hj); rwa [show o + (j + 1) = o + 1 + j by omega] at this⟩
theorem Au.part {σ : Hp} {b o i m : Nat} {l : List Value} (h : Au σ b o l) : Au σ b (o + i) ((l.drop i).take m) := Au.of fun j v hj => by
 have eY : l[i + j]? = some v := by
   rw [List.getElem?_take] at hj
   split at hj
   · simpa using hj
   · cases hj
 have := h.get eY
 rwa [show o + i + j = o + (i + j) by omega]
def Ch {α : Type} (s : Nat) (E : Hp → List Value → α → Prop) (σ : Hp) (cs : List Value) (xs : List α) : Prop :=
 cs.length = xs.length * s ∧ ∀ i x,xs[i]? = some x → E σ ((cs.drop (i * s)).take s) x
def Aa {α : Type} (s : Nat) (E : Hp → List Value → α → Prop) (σ : Hp) (p : Option Addr) (n : Nat) (xs : List α) : Prop :=
 xs.length = n ∧ ∃ cs,G6 s σ p n cs ∧ Ch s E σ cs xs
def Ha {α : Type} (E : Hp → List Value → α → Prop) : Prop := ∀ σ σ' vs x,Ext σ σ' → E σ vs x → E σ' vs x
theorem Ch.mono {α : Type} {s : Nat} {E : Hp → List Value → α → Prop} (hE : Ha E) {σ σ' : Hp} (h : Ext σ σ') {cs : List Value} {xs : List α} (hc : Ch s E σ cs xs) : Ch s E σ' cs xs :=
 ⟨hc.1,fun i x hx => hE _ _ _ _ h (hc.2 i x hx)⟩
theorem Aa.mono {α : Type} {s : Nat} {E : Hp → List Value → α → Prop} (hE : Ha E) {σ σ' : Hp} (h : Ext σ σ') {p : Option Addr} {n : Nat} {xs : List α} (hr : Aa s E σ p n xs) : Aa s E σ' p n xs :=
 let ⟨h1,cs,h2,h3⟩ := hr; ⟨h1,cs,h2.mono h,h3.mono hE h⟩
theorem Aa.nil {α : Type} {s : Nat} {E : Hp → List Value → α → Prop} {σ : Hp} {p : Option Addr} : Aa s E σ p 0 [] := ⟨rfl,[],⟨by simp,by omega,.inl rfl⟩,by simp [Ch]⟩
theorem Aa.idx {α : Type} {s : Nat} {E : Hp → List Value → α → Prop} {σ : Hp} {p : Option Addr} {n i : Nat} {xs : List α} {x : α} (hr : Aa s E σ p n xs) (hx : xs[i]? = some x) :
   ∃ b o vs,p = some ⟨b,o,none⟩ ∧ E σ vs x ∧ Au σ b (o + i * s) vs := by
 obtain ⟨h1,cs,⟨hl,_,h2⟩,h3⟩ := hr
 have hi : i < n := by rw [← h1]; exact (List.getElem?_eq_some_iff.1 hx).1
 rcases h2 with h2 | ⟨b,o,hp,D6⟩
 · omega
 · exact ⟨b,o,_,hp,h3.2 i x hx,D6.part⟩
theorem Aa.big {α : Type} {s : Nat} {E : Hp → List Value → α → Prop} {σ : Hp} {p : Option Addr} {n : Nat} {xs : List α} (hr : Aa s E σ p n xs) : n ≤ 4611686018427387904 := by
 obtain ⟨_,cs,⟨_,h,_⟩,_⟩ := hr; exact h
theorem Aa.ex {α : Type} {s : Nat} {E : Hp → List Value → α → Prop} {σ : Hp} {p : Option Addr} {n k : Nat} {xs : List α} (hr : Aa s E σ p n xs) (hk : k < n) : ∃ y,xs[k]? = some y :=
 ⟨_,List.getElem?_eq_getElem (by rw [hr.1]; exact hk)⟩
theorem AF {k n : Nat} (h : k < n) (hn : n ≤ 4611686018427387904) : AG ((k : Int) + 1) := by unfold AG; omega
theorem AS {α : Type} {xs : List α} {k : Nat} {y : α} (hy : xs[k]? = some y) : xs.take (k + 1) = xs.take k ++ [y] := by
 rw [List.take_add_one,hy]; rfl
theorem Tg {α : Type} {xs : List α} {k : Nat} {x y : α} (hy : xs[k]? = some y) : x ∈ xs.take (k + 1) ↔ x ∈ xs.take k ∨ x = y := by
 rw [AS hy,List.mem_append,List.mem_singleton]
def Pu (k : IntKind) (_ : Hp) (vs : List Value) (x : Int) : Prop := vs = [.int k x]
theorem Pu.mono (k : IntKind) : Ha (Pu k) := fun _ _ _ _ _ h => h
abbrev E3 (k : IntKind) := Aa 1 (Pu k)
theorem E3.mono {k : IntKind} {σ σ' : Hp} (h : Ext σ σ') {p : Option Addr} {n : Nat} {xs : List Int} (hr : E3 k σ p n xs) : E3 k σ' p n xs := Aa.mono (Pu.mono k) h hr
theorem E3.at {k : IntKind} {σ : Hp} {p : Option Addr} {n : Nat} {xs : List Int} (hr : E3 k σ p n xs) {i : Nat} {x : Int} (hx : xs[i]? = some x) :
   ∃ b o,p = some ⟨b,o,none⟩ ∧ σ.ld ⟨b,o + i * 1,none⟩ = some (.int k x) := by
 obtain ⟨b,o,vs,hp,rfl,hl⟩ := Aa.idx hr hx
 exact ⟨b,o,hp,hl.1⟩
theorem ZV {k : IntKind} {σ : Hp} {cs : List Value} {xs : List Int} : Ch 1 (Pu k) σ cs xs ↔ cs = xs.map (.int k) := by
 constructor
 · rintro ⟨h1,h2⟩
   refine List.ext_getElem? fun i => ?_
   rw [List.getElem?_map]
   cases hx : xs[i]? with
   | none =>
     have := List.getElem?_eq_none_iff.1 hx
     simp only [Option.map_none]
     exact List.getElem?_eq_none_iff.2 (by omega)
   | some x =>
     have := h2 i x hx
     simp only [Pu,Nat.mul_one] at this
     have h3 : ((cs.drop i).take 1)[0]? = some (.int k x) := by rw [this]; rfl
     rw [List.getElem?_take] at h3
     simpa using h3
 · rintro rfl
   refine ⟨by simp,fun i x hx => ?_⟩
   have Az := (List.getElem?_eq_some_iff.1 hx).1
   have hg := (List.getElem?_eq_some_iff.1 hx).2
   simp only [Pu,Nat.mul_one]
   rw [List.drop_eq_getElem_cons (by simpa using Az)]
   simp [hg]
def A8 (s : Nat) (σ : Hp) (p : Option Addr) (n c : Nat) (cs : List Value) : Prop :=
 cs.length = n * s ∧ n ≤ 4611686018427387904 ∧ ((p = none ∧ n = 0 ∧ c = 0) ∨ ∃ b o arr T,p = some ⟨b,o,none⟩ ∧ σ b = some (.cells arr T (0,0)) ∧ n ≤ c ∧ o + c * s ≤ arr.size ∧ (arr.toList.drop o).take (n * s) = cs)
theorem A8.nil {s : Nat} {σ : Hp} : A8 s σ none 0 0 [] := ⟨by simp,by omega,.inl ⟨rfl,rfl,rfl⟩⟩
theorem A8.rd {s : Nat} {σ : Hp} {p : Option Addr} {n c : Nat} {cs : List Value} (h : A8 s σ p n c cs) : G6 s σ p n cs := by
 obtain ⟨h1,h0,h2⟩ := h
 refine ⟨h1,h0,?_⟩
 rcases h2 with ⟨_,hn,_⟩ | ⟨b,o,arr,T,hp,hb,iU,Ld,Mr⟩
 · exact .inl hn
 · refine .inr ⟨b,o,hp,Au.of fun j v hj => ?_⟩
   rw [← Mr,List.getElem?_take] at hj
   split at hj
   · simp only [Hp.ld,hb]
     simpa using hj
   · cases hj
theorem A8.mono {s : Nat} {σ σ' : Hp} (h : Ext σ σ') {p : Option Addr} {n c : Nat} {cs : List Value} (ho : A8 s σ p n c cs) : A8 s σ' p n c cs :=
 ⟨ho.1,ho.2.1,ho.2.2.imp id fun ⟨b,o,arr,T,hp,hb,r⟩ => ⟨b,o,arr,T,hp,h _ _ hb,r⟩⟩
theorem A8.block {s : Nat} {σ : Hp} {p : Option Addr} {n c : Nat} {cs : List Value} (ho : A8 s σ p n c cs) : ∀ a,p = some a → σ a.block ≠ none := by
 intro a ha
 rcases ho.2.2 with ⟨hp,_⟩ | ⟨b,o,arr,T,hp,hb,_⟩
 · rw [hp] at ha; cases ha
 · rw [hp] at ha; cases ha; rw [hb]; simp
theorem A8.take {s : Nat} {σ : Hp} {p : Option Addr} {n c m : Nat} {cs : List Value} (ho : A8 s σ p n c cs) (hm : m ≤ n) : A8 s σ p m c (cs.take (m * s)) := by
 obtain ⟨h1,h0,h2⟩ := ho
 have hle : m * s ≤ n * s := Nat.mul_le_mul_right s hm
 refine ⟨by rw [List.length_take,h1]; omega,by omega,?_⟩
 rcases h2 with ⟨hp,hn,hc⟩ | ⟨b,o,arr,T,hp,hb,iU,Ld,Mr⟩
 · exact .inl ⟨hp,by omega,hc⟩
 · exact .inr ⟨b,o,arr,T,hp,hb,by omega,Ld,by rw [← Mr,List.take_take,Nat.min_eq_left hle]⟩
class Ji (P : Program) (T : TypeId) (E : outParam TypeId) (s bs : outParam Nat) : Prop where
 cB : P.underlying T = some (.slice E)
 info : ∃ i z,P.info? E = some i ∧ i.zero = some z ∧ i.size = s ∧ i.bytes = bs ∧ z.cells.size = s
 pos : 0 < s
 AJ6 : 0 < bs
def Fq (cs : List Value) : Prop := ∀ u ∈ cs,u.oneCell' = true
theorem Fq.QC {k : IntKind} {xs : List Int} : Fq (xs.map (.int k)) := fun u hu => by
 obtain ⟨x,_,rfl⟩ := List.mem_map.1 hu; rfl
section append
variable {P : Program} {T E ty : TypeId} {s bs : Nat} {σ : Hp} {p q : Option Addr} {n c m d : Nat} {cs ys : List Value} {Φ : Value → Hp → Prop}
theorem T8 {w : World} (hs : Sat σ w) {b o : Nat} (h : Au σ b o ys) : ∀ j v,ys[j]? = some v → w.cell? ((⟨b,o,none⟩ : Addr).add j) = some v := fun j v hj => by
 rw [Bj]; exact hs.ld (h.get hj)
theorem LC (w : World) (hs : Sat σ w) (hr : G6 s σ q m ys) : (Builtin.firstCells s m (.slice q m d)).run P w = .ok ys.toArray w := by
 rcases hr.2.2 with hm | ⟨b,o,rfl,hl⟩
 · subst hm
   have : ys = [] := List.eq_nil_of_length_eq_zero (by simpa using hr.1)
   subst this
   cases q <;> simp [Builtin.firstCells,loadCells,loadCellsFrom]
 · exact run_firstCells_some (P := P) w s m ⟨b,o,none⟩ m d ys hr.1 (T8 hs hl)
theorem FT {w : World} (hs : Sat σ w) : σ w.heap.size = none := by
 cases h : σ w.heap.size with
 | none => rfl
 | some o => exact absurd (Array.getElem?_eq_some_iff.1 (hs _ _ h)).1 (Nat.lt_irrefl _)
theorem Fin.alloc {F : Nat → Prop} {w : World} {o : Obj} (hs : Sat σ w) (hF : ∀ b,F b → b < w.heap.size ∧ σ b = none) (w' : World) (hw : w'.heap = w.heap.push o) (h1 : Dr w w') (h2 : w'.output = w.output) : Fin (σ.set w.heap.size o) F w w' := by
 refine ⟨fun k u hk => ?_,fun b hb => ?_,h1,h2,by rw [hw]; simp⟩
 · rw [hw]
   by_cases h : k = w.heap.size
   · subst h; rw [Hp.AB] at hk; cases hk; simp
   · rw [Hp.AO h] at hk
     have := hs k u hk
     have Az := (Array.getElem?_eq_some_iff.1 this).1
     rw [Array.getElem?_push,if_neg h]; exact this
 · have := (hF b hb).1
   refine ⟨by rw [Hp.AO (by omega)]; exact (hF b hb).2,?_⟩
   rw [hw,Array.getElem?_push,if_neg (by omega)]
theorem Hp.Ij {b : Nat} {o : Obj} {a : Nat} {sp : Option Nat} (h : σ b = none) : (σ.set b o).del (some ⟨b,a,sp⟩) = σ := by
 funext k
 simp only [Hp.del,Hp.set]
 by_cases hk : k = b
 · subst hk; simp [h]
 · simp [hk]
theorem Hp.GC {b : Nat} {o : Obj} {a : Nat} {sp : Option Nat} : (σ.set b o).del (some ⟨b,a,sp⟩) = σ.del (some ⟨b,a,sp⟩) := by
 funext k
 simp only [Hp.del,Hp.set]
 by_cases hk : k = b <;> simp [hk]
theorem jO [h : Ji P T E s bs] (Bd : A8 s σ p n c cs) (hy : G6 s σ q m ys) (h1 : Fq ys) (hb : (n + m) * bs ≤ 140737488355328)
   (hΦ : ∀ p' c' σ',A8 s σ' p' (n + m) c' (cs ++ ys) → Ext (σ.del p) (σ'.del p') → ((p' = p ∧ c' = c ∧ n + m ≤ c) ∨ (c < n + m ∧ Ext σ σ' ∧ ∀ a,p' = some a → σ a.block = none)) → Φ (.slice p' (n + m) c') σ') :
   AK P (Builtin.append_ #[T,T] ty #[.slice p n c,.slice q m d]) σ Φ := by
 obtain ⟨ht,⟨i,z,hi,hz,rfl,rfl,hzs⟩,MR,jP⟩ := h
 have xR : n + m ≤ 140737488355328 := Nat.le_trans (Nat.le_mul_of_pos_right _ jP) hb
 intro w F hs hF
 have hf := LC (P := P) (d := d) w hs hy
 have hf' := fun w' (hw : Sat σ w') => LC (P := P) (d := d) w' hw hy
 have Es := fun w' (hw : Sat σ w') => LC (P := P) (d := c) w' hw Bd.rd
 have hlen : (cs ++ ys).length = (n + m) * i.size := by rw [List.length_append,Bd.1,hy.1,Nat.add_mul]
 by_cases HJ : n + m ≤ c
 · -- there is room
   rcases Bd.2.2 with ⟨hp,hn,hc⟩ | ⟨b,o,arr,T',rfl,hblk,iU,Ld,Mr⟩
   · subst hp hn hc
     have hm : m = 0 := by omega
     subst hm
     have uS : ys = [] := List.eq_nil_of_length_eq_zero (by simpa using hy.1)
     have Mr : cs = [] := List.eq_nil_of_length_eq_zero (by simpa using Bd.1)
     subst uS Mr
     refine ⟨.slice none 0 0,w,σ,?_,hΦ none 0 σ A8.nil (Ext.refl _) (.inl ⟨rfl,rfl,HJ⟩),hs,fun b hb => ⟨(hF b hb).2,rfl⟩,.same rfl rfl rfl,rfl,Nat.le_refl _⟩
     simp [Builtin.append_,run_underlying ht,Go.sizeOf,typeInfo,hi,Builtin.lenOf,hf]
   · have hw := hs _ _ hblk
     have xS : o + n * i.size + 0 + ys.length ≤ arr.size := by
       rw [hy.1]
       have : (n + m) * i.size ≤ c * i.size := Nat.mul_le_mul_right _ HJ
       rw [Nat.add_mul] at this
       omega
     have Fp := EK (P := P) b (o + n * i.size) T' ys 0 arr w hw xS h1
     simp only [Nat.add_zero] at Fp
     refine ⟨.slice (some ⟨b,o,none⟩) (n + m) c,w.setRow b (Mz arr (o + n * i.size) ys),σ.set b (.cells (Mz arr (o + n * i.size) ys) T' (0,0)),?_,hΦ _ _ _ ⟨hlen,by omega,.inr ⟨b,o,_,T',rfl,Hp.AB _ _ _,HJ,by rw [Hw]; exact Ld,?_⟩⟩ (by rw [Hp.GC]; exact Ext.refl _) (.inl ⟨rfl,rfl,HJ⟩),?_⟩
     · simp [Builtin.append_,run_underlying ht,Go.sizeOf,typeInfo,hi,Builtin.lenOf,HJ,hf,Bj,Fp]
     · refine List.ext_getElem? fun j => ?_
       rw [List.getElem?_take]
       simp only [List.getElem?_drop,Array.getElem?_toList]
       rw [QB _ _ _ _ (by omega),List.getElem?_append]
       have e1 : cs.length = n * i.size := Bd.1
       have e2 : ys.length = m * i.size := hy.1
       have e3 : (n + m) * i.size = n * i.size + m * i.size := Nat.add_mul ..
       by_cases qU : j < cs.length
       · rw [if_pos (by omega),if_neg (by omega),if_pos qU,← Mr,List.getElem?_take,if_pos (by omega)]
         simp
       · rw [if_neg qU]
         by_cases hj2 : j < (n + m) * i.size
         · rw [if_pos hj2,if_pos (by omega),show o + j - (o + n * i.size) = j - cs.length by omega]
         · rw [if_neg hj2,List.getElem?_eq_none (by omega)]
     · refine ⟨fun k u hk => ?_,fun k hk => ?_,.same rfl rfl rfl,rfl,by simp⟩
       · by_cases Gj : k = b
         · subst Gj; rw [Hp.AB] at hk; cases hk; exact setRow_heap w k arr _ T' (0,0) hw
         · rw [Hp.AO Gj] at hk; rw [setRow_other _ _ _ _ Gj]; exact hs k u hk
       · have Gj : k ≠ b := fun h => by have := (hF k hk).2; rw [h,hblk] at this; cases this
         exact ⟨by rw [Hp.AO Gj]; exact (hF k hk).2,setRow_other _ _ _ _ Gj⟩
 · -- it ACV
   have ACW : Builtin.nextslicecap (n + m) c * i.bytes ≤ 281474976710656 := growslice_fits (by omega) hb
   have hgc := grownCap_ge w (n + m) c E
   have OM : Sat σ w.drew := hs
   have B9 : (Builtin.append_ #[T,T] ty #[.slice p n c,.slice q m d]).run P w =
       .ok (.slice (some ⟨w.heap.size,0,none⟩) (n + m) (grownCap w (n + m) c E))
         (w.drew.alloc (.cells (cs.toArray ++ ys.toArray ++ Builtin.zeroCells z.cells (grownCap w (n + m) c E - (n + m))) E)) := by
     have xT : ¬ (9223372036854775807 < ((n : Int) + (m : Int))) := by omega
     have xU : ¬ (281474976710656 < Builtin.nextslicecap (n + m) c * i.bytes) := by omega
     simp [Builtin.append_,run_underlying ht,Go.sizeOf,typeInfo,zeroValue,hi,hz,Builtin.lenOf,HJ,xT,xU,Question.forced,hf' _ OM,Es _ OM,newRow,grownCap]
     congr 2
     apply Array.ext'
     simp [List.append_assoc]
   refine ⟨_,_,σ.set w.heap.size _,B9,hΦ _ _ _ ⟨hlen,by omega,.inr ⟨w.heap.size,0,_,E,rfl,Hp.AB _ _ _,hgc,?_,?_⟩⟩ ?_ (.inr ⟨by omega,Ext.set (FT hs),fun a ha => by cases ha; exact FT hs⟩),Fin.alloc hs hF _ rfl ⟨rfl,rfl,fun _ => ⟨1,rfl⟩⟩ rfl⟩
   · simp only [Array.size_append,List.size_toArray,size_zeroCells,hzs,Bd.1,hy.1,← Nat.add_mul]
     have : n + m + (grownCap w (n + m) c E - (n + m)) = grownCap w (n + m) c E := by omega
     rw [this]; omega
   · simp only [Array.toList_append,List.drop_zero]
     rw [← hlen]
     exact List.take_left
   · rw [Hp.Ij (FT hs)]
     exact Ext.Jh σ p
theorem DB [h : Ji P T E s bs] (Bd : A8 s σ p n c cs) (hy : G6 s σ q m ys) (h1 : Fq ys) (hb : (n + m) * bs ≤ 140737488355328)
   (hΦ : ∀ p' c' σ',A8 s σ' p' (n + m) c' (cs ++ ys) → Ext (σ.del p) (σ'.del p') → Φ (.slice p' (n + m) c') σ') :
   AK P (Builtin.append_ #[T,T] ty #[.slice p n c,.slice q m d]) σ Φ :=
 jO Bd hy h1 hb fun p' c' σ' h1 h2 _ => hΦ p' c' σ' h1 h2
end append
end Tw
end
section
namespace Tw
open Go
variable [Er]
theorem G6.of_map {k : IntKind} {σ : Hp} {p : Option Addr} {n : Nat} {xs : List Int} (hr : E3 k σ p n xs) : G6 1 σ p n (xs.map (.int k)) := by
 obtain ⟨_,cs,h1,h2⟩ := hr
 rwa [ZV.1 h2] at h1
theorem E3.jQ {k : IntKind} {σ : Hp} {p : Option Addr} {n : Nat} {xs : List Int} (h : G6 1 σ p n (xs.map (.int k))) : E3 k σ p n xs :=
 ⟨by have := h.1; simpa using this,_,h,ZV.2 rfl⟩
abbrev DZ (k : IntKind) (σ : Hp) (p : Option Addr) (n c : Nat) (xs : List Int) : Prop := A8 1 σ p n c (xs.map (.int k))
theorem DZ.rd {k : IntKind} {σ : Hp} {p : Option Addr} {n c : Nat} {xs : List Int} (h : DZ k σ p n c xs) : E3 k σ p n xs := .jQ (A8.rd h)
theorem A8.empty {s b T : Nat} {σ : Hp} : A8 s (σ.set b (.cells #[] T (0,0))) (some ⟨b,0,none⟩) 0 0 [] :=
 ⟨by simp,by omega,.inr ⟨b,0,#[],T,rfl,Hp.AB _ _ _,Nat.le_refl _,by simp,by simp⟩⟩
theorem A8.ON {s : Nat} {σ σ' : Hp} {p : Option Addr} {n c : Nat} {cs : List Value} (h : A8 s σ' p n c cs) (hp : ∀ a,p = some a → σ a.block = none) : A8 s (σ.new σ') p n c cs := by
 refine ⟨h.1,h.2.1,h.2.2.imp id ?_⟩
 rintro ⟨b,o,arr,T,eZ,hb,r⟩
 refine ⟨b,o,arr,T,eZ,?_,r⟩
 simp only [Hp.new]
 rw [hp _ eZ]; exact hb
theorem E9 {σ σ1 σ' : Hp} {p p' : Option Addr} (h : ∀ a,p = some a → σ a.block = none) (hx : Ext (σ1.del p) (σ'.del p')) (hσ : Ext σ σ1) : ∀ a,p' = some a → σ a.block = none := by
 intro a ha
 cases hb : σ a.block with
 | none => rfl
 | some o =>
   have h1 := hσ _ _ hb
   have h2 : (σ1.del p) a.block = some o := by
     cases p with
     | none => exact h1
     | some u =>
       simp only [Hp.del]
       split
       · rename_i he
         have := h u rfl
         rw [← he,hb] at this; cases this
       · exact h1
   have h3 := hx _ _ h2
   rw [ha] at h3
   simp [Hp.del] at h3
theorem Ik {σ σ1 σ' : Hp} {p p' : Option Addr} (h : ∀ a,p = some a → σ a.block = none) (hx : Ext (σ1.del p) (σ'.del p')) (hσ : Ext σ σ1) : Ext σ σ' := by
 intro b o hb
 have h2 : (σ1.del p) b = some o := by
   cases p with
   | none => exact hσ _ _ hb
   | some u =>
     simp only [Hp.del]
     split
     · rename_i he
       have := h u rfl
       rw [← he,hb] at this; cases this
     · exact hσ _ _ hb
 exact Ext.Jh _ _ _ _ (hx _ _ h2)
theorem AY {σ σ' : Hp} {k : Nat} {o : Obj} : σ.new σ' k = some o ↔ σ k = none ∧ σ' k = some o := by
 simp only [Hp.new]
 cases σ k <;> simp
theorem AU {σ : Hp} {p : Option Addr} {k : Nat} {o : Obj} : σ.del p k = some o ↔ (∀ a,p = some a → k ≠ a.block) ∧ σ k = some o := by
 cases p with
 | none => simp [Hp.del]
 | some a =>
   simp only [Hp.del]
   split
   · rename_i h; simp [h]
   · rename_i h; simp [h]
theorem A8.jR {s : Nat} {σ σ' : Hp} {p : Option Addr} {n c : Nat} {cs : List Value} (h : A8 s (σ.new σ') p n c cs) : ∀ a,p = some a → σ a.block = none := by
 intro a ha
 have := h.block a ha
 cases hb : (σ.new σ') a.block with
 | none => exact absurd hb this
 | some o => exact (AY.1 hb).1
section append
variable {P : Program} {T Et ty : TypeId} {s bs : Nat} {σ0 σ : Hp} {p q : Option Addr} {n c m d : Nat} {cs ys : List Value} {Φ : Value → Hp → Prop}
theorem qV [Ji P T Et s bs] (h0 : Ext σ0 σ) (Bd : A8 s (σ0.new σ) p n c cs) (hy : G6 s σ q m ys) (h1 : Fq ys) (hb : (n + m) * bs ≤ 140737488355328)
   (hΦ : ∀ p' c' σ',A8 s (σ0.new σ') p' (n + m) c' (cs ++ ys) → Ext σ0 σ' → Ext ((σ0.new σ).del p) ((σ0.new σ').del p') → Φ (.slice p' (n + m) c') σ') :
   AK P (Builtin.append_ #[T,T] ty #[.slice p n c,.slice q m d]) σ Φ := by
 have xV := Bd.jR
 refine DB (Bd.mono (Ext.Cw σ0 σ)) hy h1 hb fun p' c' σ' ho hx => ?_
 refine hΦ p' c' σ' (ho.ON (E9 xV hx h0)) (Ik xV hx h0) fun k o hk => ?_
 obtain ⟨h2,h3⟩ := AU.1 hk
 obtain ⟨h4,h5⟩ := AY.1 h3
 obtain ⟨h6,h7⟩ := AU.1 (hx k o (AU.2 ⟨h2,h5⟩))
 exact AU.2 ⟨h6,AY.2 ⟨h4,h7⟩⟩
theorem cC [Ji P T Et s bs] (h0 : Ext σ0 σ) (Bd : A8 s (σ0.new σ) p n c cs) (hl : ys.length = m * s) (h1 : Fq ys) (hb : (n + m) * bs ≤ 140737488355328)
   (hΦ : ∀ p' c' σ',A8 s (σ0.new σ') p' (n + m) c' (cs ++ ys) → Ext σ0 σ' → Ext ((σ0.new σ).del p) ((σ0.new σ').del p') → Φ (.slice p' (n + m) c') σ')
   {b : Nat} (hn : σ b = none) : AK P (Builtin.append_ #[T,T] ty #[.slice p n c,.slice (some ⟨b,0,none⟩) m m]) (σ.set b (.cells ys.toArray Et (0,0))) Φ := by
 have hx : Ext σ (σ.set b (.cells ys.toArray Et (0,0))) := .set hn
 have hm : m ≤ 140737488355328 := by
   have xW := (inferInstance : Ji P T Et s bs).AJ6
   have : n + m ≤ (n + m) * bs := Nat.le_mul_of_pos_right _ xW
   omega
 refine qV (h0.trans hx) (Bd.mono (Ext.EL hx)) ⟨hl,by omega,.inr ⟨b,0,rfl,Au.of fun j v hj => ?_⟩⟩ h1 hb fun p' c' σ' ho he hd => hΦ p' c' σ' ho he (fun k o hk => hd k o ((Ext.EL hx).del p k o hk))
 simp [Hp.ld,Hp.AB,hj]
end append
def GD {α : Type} (s : Nat) (E : Hp → List Value → α → Prop) (σ : Hp) (p : Option Addr) (n c : Nat) (xs : List α) : Prop :=
 xs.length = n ∧ ∃ cs,A8 s σ p n c cs ∧ Ch s E (σ.del p) cs xs
theorem GD.nil {α : Type} {s : Nat} {E : Hp → List Value → α → Prop} {σ : Hp} : GD s E σ none 0 0 [] := ⟨rfl,[],.nil,by simp [Ch]⟩
theorem GD.mono {α : Type} {s : Nat} {E : Hp → List Value → α → Prop} (hE : Ha E) {σ σ' : Hp} (h : Ext σ σ') {p : Option Addr} {n c : Nat} {xs : List α} (ho : GD s E σ p n c xs) : GD s E σ' p n c xs :=
 let ⟨h1,cs,h2,h3⟩ := ho; ⟨h1,cs,h2.mono h,h3.mono hE (h.del p)⟩
theorem GD.rd {α : Type} {s : Nat} {E : Hp → List Value → α → Prop} (hE : Ha E) {σ : Hp} {p : Option Addr} {n c : Nat} {xs : List α} (ho : GD s E σ p n c xs) : Aa s E σ p n xs :=
 let ⟨h1,cs,h2,h3⟩ := ho; ⟨h1,cs,h2.rd,h3.mono hE (Ext.Jh σ p)⟩
theorem GD.block {α : Type} {s : Nat} {E : Hp → List Value → α → Prop} {σ : Hp} {p : Option Addr} {n c : Nat} {xs : List α} (ho : GD s E σ p n c xs) : ∀ a,p = some a → σ a.block ≠ none :=
 let ⟨_,_,h2,_⟩ := ho; h2.block
theorem Ch.snoc {α : Type} {s : Nat} {E : Hp → List Value → α → Prop} {σ : Hp} {cs vs : List Value} {xs : List α} {x : α} (h : Ch s E σ cs xs) (hl : vs.length = s) (hx : E σ vs x) : Ch s E σ (cs ++ vs) (xs ++ [x]) := by
 refine ⟨by simp [h.1,hl,Nat.add_mul],fun i y hy => ?_⟩
 rw [List.getElem?_append] at hy
 split at hy
 · rename_i hi
   have hle : i * s + s ≤ cs.length := by rw [h.1,← Nat.succ_mul]; exact Nat.mul_le_mul_right s hi
   rw [List.drop_append_of_le_length (by omega),List.take_append_of_le_length (by simp; omega)]
   exact h.2 i y hy
 · rename_i hi
   have : i = xs.length := by
     have := (List.getElem?_eq_some_iff.1 hy).1
     simp at this; omega
   subst this
   simp at hy
   subst hy
   rw [← h.1,List.drop_left,← hl,List.take_length]
   exact hx
theorem GD.Hb {α : Type} {P : Program} {T Et ty : TypeId} {s bs : Nat} {E : Hp → List Value → α → Prop} (hE : Ha E) [Ji P T Et s bs] {σ0 σ : Hp} {p : Option Addr} {n c : Nat} {xs : List α} {vs : List Value} {x : α} {Φ : Value → Hp → Prop}
   (h0 : Ext σ0 σ) (Bd : GD s E (σ0.new σ) p n c xs) (hl : vs.length = s) (h1 : Fq vs) (hx : E ((σ0.new σ).del p) vs x) (hb : (n + 1) * bs ≤ 140737488355328)
   (hΦ : ∀ p' c' σ',GD s E (σ0.new σ') p' (n + 1) c' (xs ++ [x]) → Ext σ0 σ' → Φ (.slice p' (n + 1) c') σ') {b : Nat} (hn : σ b = none) :
   AK P (Builtin.append_ #[T,T] ty #[.slice p n c,.slice (some ⟨b,0,none⟩) 1 1]) (σ.set b (.cells vs.toArray Et (0,0))) Φ := by
 obtain ⟨hlen,cs,ho,hc⟩ := Bd
 refine cC h0 ho (by rw [hl,Nat.one_mul]) h1 hb (fun p' c' σ' Es he hd => hΦ p' c' σ' ⟨by simp [hlen],_,Es,(hc.snoc hl hx).mono hE hd⟩ he) hn
end Tw
end
section
namespace Tw
open Go
variable [Er]
theorem BF {σ σ' : Hp} (h : Ext σ σ') {b : Nat} (hb : σ' b = none) : σ b = none := by
 cases hs : σ b with
 | none => rfl
 | some o => rw [h _ _ hs] at hb; cases hb
section
variable {P : Program} {T Et ty : TypeId} {bs : Nat} {σ0 σ : Hp} {p : Option Addr} {n c : Nat} {xs : List Int} {x : Int} {k : IntKind} {Φ : Value → Hp → Prop}
theorem DZ.Hb [Ji P T Et 1 bs] (h0 : Ext σ0 σ) (Bd : DZ k (σ0.new σ) p n c xs) (hb : (n + 1) * bs ≤ 140737488355328)
   (hΦ : ∀ p' c' σ',DZ k (σ0.new σ') p' (n + 1) c' (xs ++ [x]) → Ext σ0 σ' → Ext ((σ0.new σ).del p) ((σ0.new σ').del p') → Φ (.slice p' (n + 1) c') σ')
   {b : Nat} (hn : σ b = none) : AK P (Builtin.append_ #[T,T] ty #[.slice p n c,.slice (some ⟨b,0,none⟩) 1 1]) (σ.set b (.cells #[.int k x] Et (0,0))) Φ :=
 cC (ys := [.int k x]) h0 Bd rfl (Fq.QC (xs := [x])) hb (fun p' c' σ' ho he hd => hΦ p' c' σ' (by simpa [DZ,List.map_append] using ho) he hd) hn
theorem DZ.nil : DZ k σ none 0 0 [] := A8.nil
end
end Tw
end
section
namespace Tw
open Go
variable [Er]
def over (L : List Value) (j : Nat) (zs : List Value) : List Value := L.take j ++ zs ++ L.drop (j + zs.length)
section
variable {P : Program} {T T2 E ty : TypeId} {s bs : Nat} {σ : Hp} {p q : Option Addr} {n c m d d' j k : Nat} {L cs ys : List Value} {Φ : Value → Hp → Prop}
end
end Tw
end
section
namespace Tw
open Go
variable [Er]
theorem Hp.set_set {σ : Hp} {b : Nat} {o o' : Obj} : (σ.set b o).set b o' = σ.set b o' := by
 funext k; simp only [Hp.set]; split <;> rfl
theorem T9 {τ : Hp} {b : Nat} {o : Obj} (hb : τ b = none) {w : World} {F : Nat → Prop} (hs : Sat (τ.set b o) w) (hF : ∀ k,F k → k < w.heap.size ∧ (τ.set b o) k = none) :
   Sat τ w ∧ ∀ k,(F k ∨ k = b) → k < w.heap.size ∧ τ k = none := by
 have hx : Ext τ (τ.set b o) := .set hb
 refine ⟨fun k u hk => hs k u (hx k u hk),fun k hk => ?_⟩
 rcases hk with hk | rfl
 · exact ⟨(hF k hk).1,BF hx (hF k hk).2⟩
 · exact ⟨(Array.getElem?_eq_some_iff.1 (hs k o (Hp.AB _ _ _))).1,hb⟩
theorem Spec.Gk {P : Program} {f : FuncId} {args : Array Value} {τ : Hp} {b : Nat} {o : Obj} {R : Rr} (hb : τ b = none)
   (h : Spec P f args τ (fun e τ' => τ' b = none → R e (τ'.set b o))) : Spec P f args (τ.set b o) R := fun w F hs hF => by
 obtain ⟨h1,h2⟩ := T9 hb hs hF
 refine (h w (fun k => F k ∨ k = b) h1 h2).mono ?_
 rintro e w' ⟨τ',hr,hf⟩
 have xW := hf.Cu b (.inr rfl)
 refine ⟨τ'.set b o,hr xW.1,fun k u hk => ?_,fun k hk => ?_,hf.os,hf.out,hf.grow⟩
 · by_cases h : k = b
   · subst h
     rw [xW.2]; rw [Hp.AB] at hk; cases hk
     exact hs k _ (Hp.AB _ _ _)
   · rw [Hp.AO h] at hk; exact hf.sat k u hk
 · have Gj : k ≠ b := fun h => by have := (hF k hk).2; rw [h,Hp.AB] at this; cases this
   exact ⟨by rw [Hp.AO Gj]; exact (hf.Cu k (.inl hk)).1,(hf.Cu k (.inl hk)).2⟩
theorem AK.Gk {P : Program} {α : Type} {m : Sem α} {τ : Hp} {b : Nat} {o : Obj} {Φ : α → Hp → Prop} (hb : τ b = none)
   (h : AK P m τ (fun v τ' => τ' b = none → Φ v (τ'.set b o))) : AK P m (τ.set b o) Φ := fun w F hs hF => by
 obtain ⟨h1,h2⟩ := T9 hb hs hF
 obtain ⟨v,w',τ',B9,hr,hf⟩ := h w (fun k => F k ∨ k = b) h1 h2
 have xW := hf.Cu b (.inr rfl)
 refine ⟨v,w',τ'.set b o,B9,hr xW.1,fun k u hk => ?_,fun k hk => ?_,hf.os,hf.out,hf.grow⟩
 · by_cases h : k = b
   · subst h
     rw [xW.2]; rw [Hp.AB] at hk; cases hk
     exact hs k _ (Hp.AB _ _ _)
   · rw [Hp.AO h] at hk; exact hf.sat k u hk
 · have Gj : k ≠ b := fun h => by have := (hF k hk).2; rw [h,Hp.AB] at this; cases this
   exact ⟨by rw [Hp.AO Gj]; exact (hf.Cu k (.inl hk)).1,(hf.Cu k (.inl hk)).2⟩
section rows
variable {α : Type} {s : Nat} {E : Hp → List Value → α → Prop} {σ : Hp} {cs ds : List Value} {xs ys : List α}
theorem Ch.take (h : Ch s E σ cs xs) (i : Nat) : Ch s E σ (cs.take (i * s)) (xs.take i) := by
 refine ⟨?_,fun k x hx => ?_⟩
 · rw [List.length_take,List.length_take,h.1,Nat.min_def,Nat.min_def]
   by_cases hi : i ≤ xs.length
   · rw [if_pos hi,if_pos (Nat.mul_le_mul_right s hi)]
   · rw [if_neg hi]
     split
     · exact Nat.le_antisymm (by assumption) (Nat.mul_le_mul_right s (by omega))
     · rfl
 · rw [List.getElem?_take] at hx
   split at hx
   · rename_i hk
     have hle : k * s + s ≤ i * s := by rw [← Nat.succ_mul]; exact Nat.mul_le_mul_right s hk
     rw [List.drop_take,List.take_take,Nat.min_eq_left (by omega)]
     exact h.2 k x hx
   · cases hx
theorem Ch.drop (h : Ch s E σ cs xs) (i : Nat) : Ch s E σ (cs.drop (i * s)) (xs.drop i) := by
 refine ⟨by rw [List.length_drop,List.length_drop,h.1,Nat.sub_mul],fun k x hx => ?_⟩
 rw [List.getElem?_drop] at hx
 rw [List.drop_drop,← Nat.add_mul]
 exact h.2 _ x hx
theorem Ch.eb (hE : ∀ σ vs x,E σ vs x → Fq vs) (h : Ch s E σ cs xs) (hs : 0 < s) : Fq cs := fun u hu => by
 obtain ⟨t,ht,rfl⟩ := List.mem_iff_getElem.1 hu
 have Az : t / s < xs.length := by rw [Nat.div_lt_iff_lt_mul hs,← h.1]; exact ht
 have := h.2 (t / s) _ (List.getElem?_eq_getElem Az)
 refine hE _ _ _ this _ ?_
 have hm := Nat.mod_lt t hs
 have hdm := Nat.div_add_mod t s
 rw [Nat.mul_comm] at hdm
 refine List.mem_iff_getElem?.2 ⟨t % s,?_⟩
 rw [List.getElem?_take,if_pos hm,List.getElem?_drop,hdm]
 exact List.getElem?_eq_getElem ht
end rows
section
variable {P : Program} {T E ty : TypeId} {s bs : Nat} {σ : Hp} {p q : Option Addr} {n c m d : Nat} {L ys : List Value} {Φ : Value → Hp → Prop}
end
end Tw
end
section
namespace Tw
open Go
variable [Er]
def Hx (P : Program) (l : Nat) (args : Array Value) (σ : Hp) (R : Rr) : Prop :=
 ∀ (w : World) (F : Nat → Prop),Sat σ w → (∀ b,F b → b < w.heap.size ∧ σ b = none) →
   ∃ fn tmps assign body,(Instr.yield l args).run P w = .ok (.round l fn tmps assign body) w ∧ RoundIn Fence.wide 0 P l fn tmps assign body w (fun e w' => ∃ σ',R e σ' ∧ Fin σ' F w w')
theorem Hx.mono {P : Program} {l : Nat} {args : Array Value} {σ : Hp} {R R' : Rr} (h : Hx P l args σ R) (hr : ∀ e σ',R e σ' → R' e σ') : Hx P l args σ R' := fun w F hs hF =>
 let ⟨fn,tmps,assign,body,h1,h2⟩ := h w F hs hF
 ⟨fn,tmps,assign,body,h1,h2.mono fun _ _ ⟨σ',h3,h4⟩ => ⟨σ',hr _ _ h3,h4⟩⟩
section
variable {g : Gl} {ops : Array Oper} {i : Nat} {e : Env} {bx : Bx} {σ : Hp} {K : Env → Bx → Hp → Prop} {d : Option Nat} {ty : TypeId} {gd : Option (Nat × Bool)}
theorem AN.yield {x : Operand} {xs : Array Operand} {ts : Array TypeId} {l : Nat} {vs : Array Value} {u : Value} (hs : sig ops i = some (d,.call { callee := .value x,args := xs,argTypes := ts },ty,gd)) (hw : AR ops e gd = true) (hd : G4 d g.n = true)
   (hx : AD e x = u) (JJ : xs.toList.map (AD e) = vs.toList) (hu : u = .func (.yield l) #[] #[])
   (h : Hx g.P l vs σ (AA g.R fun v σ' => K (put e d v) bx σ')) : AN g ops i e bx σ K := by
 intro w0 F a w st
 obtain ⟨o,ho,rfl,BM,Ct,rfl⟩ := BX hs
 refine B8 ho (by rw [st.wanted]; exact hw) ?_
 obtain ⟨fn,tmps,assign,body,hy,xX⟩ := h w _ st.sat st.lt
 have xY : xs.map (AD e) = vs := by rw [← Array.toList_inj]; simpa using JJ
 have B9 : (execOp (AD e) o).run g.P w = .ok (.round l fn tmps assign body) w := by
   simp only [execOp,BM,resolve,hx.trans hu,xY,Deferred.ofValue,invoke,bind,Sem.bind,pure,Array.empty_append]
   exact hy
 rw [st.eval,Cv B9 (fun d => by simp)]
 refine ⟨fun hh => (by cases hh),RoundIn.mono (show RoundIn (wd g.Gg) (0 - 1) g.P l fn tmps assign body w _ from ⟨trivial,xX.2⟩) fun en w' => ?_⟩
 rintro ⟨σ',hr,hf⟩
 have Mq := st.fin hf
 cases en with
 | returned v => exact ⟨_,_,_,Mq.put _ _ (G4.lt hd),hr⟩
 | panicked ch =>
   rcases g.pan with ⟨h1,h2⟩ | Bc
   · exact ⟨⟨h1,Mq.defers.trans h2⟩,σ',hr,Mq.toFin⟩
   · exact absurd hr (Bc ch σ')
 | outgrown => exact hr.elim
end
def NP (R : Rr) : Rr := fun e σ => match e with | .returned v => R (.returned v) σ | _ => False
abbrev Gl.round (P : Program) (f : FuncId) (n : Nat) (l : Nat) (R : Rr) : Gl := ⟨P,f,n,NP R,some l,[],.inr fun _ _ h => h⟩
abbrev Gl.behind (P : Program) (f : FuncId) (n : Nat) (D : Nat) (R : Rr) : Gl := ⟨P,f,n,NP R,none,[{ target := .collected D,args := #[] }],.inr fun _ _ h => h⟩
theorem jS {D : Nat} {σ : Hp} (h : σ D = some (.deferred (some []))) : Marks [{ target := .collected D,args := #[] }] σ := ⟨D,rfl,h,trivial⟩
theorem Hx.bz {P : Program} {l n p : Nat} {r : Loop} {σ : Hp} {R : Rr} {v : Value} {fn : Func} {e : Env} {s : LoopState} {c : Option Code} (hσ : σ l = some (.loop (lp r s c))) (hp : r.params = #[p]) (hn : r.tmps.size = n) (xV : p < n) (he : ∀ t,r.tmps.getD t undef = e t) (QA : P.funcs[r.fn]? = some fn)
   (h : At (Gl.round P r.fn n l R) [.code r.assign,.beginRound,.code r.body] (uM e p v) [] σ) : Hx P l #[v] σ R := by
 intro w F hs hF
 refine ⟨r.fn,_,r.assign,r.body,run_yield (r := lp r s c) (hs _ _ hσ) (by simp [lp,hp]),trivial,fun c0 cs _ => ?_⟩
 have ht : (r.params.zip #[v]).foldl (fun t (p,v) => t.setIfInBounds p v) r.tmps = r.tmps.setIfInBounds p v := by
   simp [hp]
 have st : St n [] w F (uM e p v) [] σ { tmps := r.tmps.setIfInBounds p v,defers := [] } w := by
   refine ⟨by simp [hn],fun t => ?_,rfl,hs,(fun p hp => by cases hp),(fun p hp => by cases hp),List.nodup_nil,fun b hb => ⟨(hF b hb).1,(hF b hb).2,rfl⟩,.same rfl rfl rfl,rfl,Nat.le_refl _⟩
   simp only [uM]
   by_cases htp : t = p
   · subst htp
     simp [hn,xV]
   · rw [ZM htp,← he t]
     simp [Array.getElem?_setIfInBounds_ne (Ne.symm htp)]
 let b : Frame := { (default : Frame) with fn := r.fn,kind := .normal,roundOf := some l }
 have hb0 : Frame.round l r.fn (r.tmps.setIfInBounds p v) r.assign r.body .normal = b.atR { tmps := r.tmps.setIfInBounds p v,defers := [] } [.code r.assign,.beginRound,.code r.body] := by
   simp [Frame.round,Frame.atR,b]
 obtain ⟨v',w',⟨σ',hr,OH⟩,Fp⟩ := h w F _ w st b (c0 :: cs) rfl rfl rfl ⟨fn,QA⟩ c0 cs rfl
 refine ⟨.returned v',w',⟨σ',hr,OH⟩,?_⟩
 have Fp := (stepsIn_wide (P := P)).2 Fp
 rw [← hb0,← ht] at Fp
 exact Fp
section
variable {g : Gl} {k : List Item} {e : Env} {bx : Bx} {σ : Hp}
theorem Hp.jT {σ : Hp} {b c : Nat} {o : Obj} (h : c ≠ b) (hs : σ c = none) : (σ.set b o) c = none := by rw [Hp.AO h]; exact hs
theorem St.alloc {n ds w0 F e bx σ a w} (st : St n ds w0 F e bx σ a w) (o : Obj) : σ w.heap.size = none ∧ St n ds w0 F e bx (σ.set w.heap.size o) a (w.alloc o) := by
 have h := st.grown o
 exact ⟨(h.free _ (List.mem_cons_self ..)).1,h.open⟩
theorem At.range {c : Code} {gop : Operand} {ps : Array Tmp} {assign body : Code} {gf : Nat} {lb : Array Value} (hc : c = .rangeFunc gop ps assign body) (hr : g.Gg = none) (hds : g.ds = [])
   (hg : AD e gop = .func (.func gf) #[] lb) (Pr : Enters g.P gf)
   (h : ∀ (D l : Nat) (r : Loop),D ≠ l → σ D = none → σ l = none → r.fn = g.f → r.params = ps → r.assign = assign → r.body = body → r.tmps.size = g.n → (∀ t,r.tmps.getD t undef = e t) →
     Spec g.P gf (#[.func (.yield l) #[] #[]] ++ lb) ((σ.set D (.deferred (some []))).set l (.loop (lp r .ready none)))
       (fun en σ' => ∃ v s p,en = .returned v ∧ σ' l = some (.loop (lp r s p)) ∧ s ≠ .busy ∧
         At (Gl.behind g.P g.f g.n D g.R) ((p.map Item.code).toList ++ k) e bx (σ'.set l (.loop (lp r .exhausted p))))) : At g (.code c :: k) e bx σ := by
 subst hc
 intro w0 F a w st b cs pW ZN bu QA
 have qO : b.roundOf = none := bu.trans hr
 obtain ⟨hD,st1⟩ := st.alloc (.deferred (some []))
 let r : Loop := { state := .ready,pending := none,fn := b.fn,tmps := a.tmps,params := ps,assign,body,defers := w.heap.size }
 obtain ⟨hl,st2⟩ := st1.alloc (.loop r)
 have Ld : (w.alloc (.deferred (some []))).heap.size = w.heap.size + 1 := World.size_alloc ..
 rw [Ld] at hl st2
 have ZO := run_enterLoop_outer (P := g.P) (w := w) b.fn a.tmps ps assign body
 have AKB : (resolve a.eval (rangeCall gop (w.heap.size + 1)) 0).run g.P ((w.alloc (.deferred (some []))).alloc (.loop r)) = .ok { target := .fn (.func gf) lb,args := #[.func (.yield (w.heap.size + 1)) #[] #[]] } ((w.alloc (.deferred (some []))).alloc (.loop r)) := by
   rw [st.eval]
   simp only [resolve,hg]
   simp [AD,Deferred.ofValue]
 have hinv : (invoke (.fn (.func gf) lb) #[.func (.yield (w.heap.size + 1)) #[] #[]]).run g.P ((w.alloc (.deferred (some []))).alloc (.loop r)) = .ok (.enter gf (#[.func (.yield (w.heap.size + 1)) #[] #[]] ++ lb)) ((w.alloc (.deferred (some []))).alloc (.loop r)) := by
   exact Pr _ _
 have Gm := stepR_rangeFunc (P := g.P) (b := b) (a := a) (k := k) (cs := cs) (w := w) (by rw [qO]; exact ZO) AKB hinv
 have xZ : σ (w.heap.size + 1) = none := by rw [Hp.AO (by omega)] at hl; exact hl
 have ACX := h w.heap.size (w.heap.size + 1) r (by omega) hD xZ pW rfl rfl rfl st.size st.env
 obtain ⟨en,w3,fr,⟨σ',⟨v,s,p,he,xd,hsb,uT⟩,OH⟩,xe,AQ9,xf⟩ := ACX _ _ st2.sat st2.lt (b.atR { a with defers := [{ target := .collected w.heap.size,args := #[] }] ++ a.defers } (.inRangeFunc (w.heap.size + 1) :: k) :: cs)
 subst he
 have uU := st2.fin OH
 have jU := run_endLoop (P := g.P) (uU.sat _ _ xd) (by simpa [lp] using hsb)
 have xg := uU.toFin.put (o' := .loop (lp r .exhausted p)) xd
 have BD : ∀ q ∈ bx,q.1 ≠ w.heap.size + 1 := fun q hq e => by have := (uU.free q hq).1; rw [e,xd] at this; cases this
 have st4 : St g.n [{ target := .collected w.heap.size,args := #[] }] w0 F e bx (σ'.set (w.heap.size + 1) (.loop (lp r .exhausted p))) { a with defers := [{ target := .collected w.heap.size,args := #[] }] ++ a.defers } (w3.putObj (w.heap.size + 1) (.loop (lp r .exhausted p))) :=
   { size := st.size,env := st.env,defers := by rw [show a.defers = [] from st.defers.trans hds]; rfl,sat := xg.sat,box := fun q hq => by rw [World.putObj_heap_other (BD q hq)]; exact uU.box q hq,
     free := fun q hq => ⟨Hp.jT (BD q hq) (uU.free q hq).1,(uU.free q hq).2⟩,nodup := st.nodup,Cu := fun b hb => ⟨(st.Cu b hb).1,(xg.Cu b hb).1,(xg.Cu b hb).2⟩,os := xg.os,out := xg.out,grow := xg.grow }
 have xh := uT w0 F _ _ st4 b cs pW ZN qO QA
 have uV := step_leave_returned (P := g.P) (c := b.atR { a with defers := [{ target := .collected w.heap.size,args := #[] }] ++ a.defers } (.inRangeFunc (w.heap.size + 1) :: k)) (cs := cs) xf
 rw [finish_atR_inRangeFunc] at uV
 have xi := (Steps.one Gm).trans (Steps.trans xe ((Steps.one uV).trans (.one (stepR_endRangeFunc (k := k) jU))))
 obtain ⟨e',w',fr',⟨σ2,hR,pX⟩,hc2,hx⟩ := xh
 unfold Lt
 rw [hr]
 refine ⟨e',w',fr',⟨σ2,?_,pX⟩,.of_steps xi hc2,hx⟩
 cases e' with
 | returned v => exact hR
 | _ => exact hR.elim
end
end Tw
end
section
namespace Tw
open Go Go.RowKit Go.ChangeShapes Go.WideShapes Go.Deep
def full (w : World) : Hp := fun b => w.heap[b]?
theorem jV (w : World) : Sat (full w) w := fun _ _ h => h
theorem QD {w : World} {a : Addr} {v : Value} (h : w.cell? a = some v) : (full w).ld a = some v := h
theorem jW {w w' : World} {σ' : Hp} (hx : Ext (full w) σ') (hs : Sat σ' w') (ho : Dr w w') (AKD : w'.output = w.output) (hg : w.heap.size ≤ w'.heap.size) : Below w.heap.size w w' :=
 ⟨ho.1,ho.2.1,AKD,hg,fun k hk => by
   have h1 : w.heap[k]? = some w.heap[k] := Array.getElem?_eq_getElem hk
   rw [h1]; exact hs _ _ (hx _ _ h1)⟩
def Lawful (P : Program) (f : FuncId) (args : Array Value) (w : World) : Prop := Spec P f args (full w) (fun e σ' => e = .returned (.bool true) ∧ Ext (full w) σ')
theorem Lawful.calls {P : Program} {f : FuncId} {args : Array Value} {w : World} (h : Lawful P f args w) : Calls P f args w fun e w' => e = .returned (.bool true) ∧ Below w.heap.size w w' :=
 (h w (fun _ => False) (jV w) (fun _ h => h.elim)).mono fun e w' ⟨σ',⟨he,hx⟩,hf⟩ => ⟨he,jW hx hf.sat hf.os hf.out hf.grow⟩
section
variable {H : Type} {enc : TypeId × Value → H} {P : Program}
theorem Lw (hl : laidOutB P = true) {W W' : World} (hb : Below W.heap.size W W') : ∀ {ts : List TypeId} {vs : List Value} {ds : List (DataW H)} {ps : List MemPlace},(ts.all fun t => P.readableRec t && Nat.blt t P.types.size) = true → (∀ x ∈ ps,x.block < W.heap.size) →
   DataW.TrodAll enc P W 0 (fun _ => true) true ts vs ds ps → DataW.TrodAll enc P W' 0 (fun b => decide (b < W.heap.size)) true ts vs ds ps
 | [],[],[],ps,_,_,h => h
 | t :: ts,v :: vs,d :: ds,ps,hr,Az,⟨p,q,h1,h2,e⟩ => by
   simp only [List.all_cons,Bool.and_eq_true] at hr
   subst e
   exact ⟨p,q,Below.trod hl hr.1.1 (Nat.le_of_ble_eq_true hr.1.2) h1 hb (fun x hx => Az x (List.mem_append_left _ hx)),Lw hl hb hr.2 (fun x hx => Az x (List.mem_append_right _ hx)) h2,rfl⟩
 | [],_ :: _,_,_,_,_,h => h.elim
 | [],[],_ :: _,_,_,_,h => h.elim
 | _ :: _,[],_,_,_,_,h => h.elim
 | _ :: _,_ :: _,[],_,_,_,h => h.elim
theorem jX {f : Func} {s : ChangeSpec} {W W' : World} {args : Array Value} {ds gs : List (DataW H)} {before : List MemPlace} {tb : TypeId} (hl : laidOutB P = true) (hr : (f.params.toList.all fun t => P.readableRec t && Nat.blt t P.types.size) = true)
   (hrt : f.resultTypes = #[tb]) (qW : P.underlying tb = some .bool) (hv : s.vars = []) (QA : (s.fn H (ds ++ gs)).results = [.lit (.bool true)] ∧ (s.fn H (ds ++ gs)).args = ds ∧ (s.fn H (ds ++ gs)).vars = [])
   (hW : DataW.Whole enc P f.params.toList s.vars false W args.toList ds gs before) (hb : Below W.heap.size W W') : s.post enc P f false true false false W args (.bool true) W' := by
 have Az : ∀ p ∈ before,p.block < W.heap.size := fun p hp => hW.lt p hp
 have hW' := hW
 obtain ⟨p,q,hA,hV,rfl,hfz,_⟩ := hW'
 refine ⟨ds,gs,p ++ q,[],p,[],hW,?_,?_,?_,World.keptBut_mono (fun x hx => ⟨hx,?_⟩) (hb.frame (· ∈ p ++ q)),fun h => by cases h⟩
 · rw [QA.1,hrt]
   exact trodAll_mk1 (shut_bool qW true)
 · rw [QA.2.1]
   exact Lw hl hb hr (fun x hx => Az x (List.mem_append_left _ hx)) hA
 · rw [QA.2.2,hv]; rfl
 · rw [hv] at hV
   have : q = [] := by
     cases gs with
     | nil => exact hV
     | cons _ _ => exact hV.elim
   subst this
   exact .inr (.inl (by simpa using hx))
theorem Au.snoc {σ : Hp} {b : Nat} : ∀ {l m : List Value} {o : Nat},Au σ b o l → Au σ b (o + l.length) m → Au σ b o (l ++ m)
 | [],m,o,_,h => by simpa using h
 | v :: l,m,o,h,h' => ⟨h.1,Au.snoc h.2 (by simpa [Nat.add_assoc,Nat.add_comm 1] using h')⟩
theorem UA {w : World} {a : Addr} {v : Value} (h : w.cell? a = some v) : a.spot = none := by
 unfold World.cell? at h
 split at h
 · split at h
   · cases h
   · rename_i hs; simpa using hs
 · cases h
end
end Tw
end
section
namespace Tw
open Go
variable [Er]
def qv (P : Program) (ops : Array Oper) (i : Nat) (e : Env) : Option (Option Nat × Value) :=
 match ops[i]? with
 | none => none
 | some o => match AR ops e o.guard with
   | false => none
   | true => match o.op with
     | .move x => some (o.dst,AD e x)
     | .assign x => some (o.dst,AD e x)
     | .pick z x y => (match AD e z with
       | .bool true => some (o.dst,AD e x)
       | .bool false => some (o.dst,AD e y)
       | _ => none)
     | .extract x j => (match AD e x with
       | .tuple vs => (match vs[j]? with | some v => some (o.dst,v) | none => none)
       | _ => none)
     | .unOp u _ x => (match u,AD e x with
       | .not,.bool b => some (o.dst,.bool (!b))
       | _,_ => none)
     | .binOp b _ x y _ => (match AD e x,AD e y with
       | .int k a,.int k' c => (match decide (k = k') with
         | false => none
         | true => (match b with
           | .lss => some (o.dst,.bool (decide (a < c)))
           | .leq => some (o.dst,.bool (decide (a ≤ c)))
           | .gtr => some (o.dst,.bool (decide (c < a)))
           | .geq => some (o.dst,.bool (decide (c ≤ a)))
           | .eql => some (o.dst,.bool (decide (a = c)))
           | .neq => some (o.dst,.bool (decide (a ≠ c)))
           | _ => none))
       | _,_ => none)
     | _ => none
theorem uW {P : Program} {ops : Array Oper} {i : Nat} {e : Env} {bx : Bx} {d : Option Nat} {v : Value} (h : qv P ops i e = some (d,v)) :
   ∃ o,ops[i]? = some o ∧ AR ops e o.guard = true ∧ o.dst = d ∧ ∀ σ,Yd P e bx σ o.op o.type v := by
 unfold qv at h
 cases ho : ops[i]? with
 | none => simp [ho] at h
 | some o =>
   simp only [ho] at h
   cases hw : AR ops e o.guard with
   | false => simp [hw] at h
   | true =>
     simp only [hw] at h
     refine ⟨o,rfl,hw,?_⟩
     cases E2 : o.op <;> simp only [E2] at h <;> try (cases h; done)
     case move x => cases h; exact ⟨rfl,fun σ => Y.move rfl⟩
     case assign x => cases h; exact ⟨rfl,fun σ => Y.assign rfl⟩
     case pick z x y =>
       split at h
       · rename_i hz; cases h; exact ⟨rfl,fun σ => Y.uQ hz rfl⟩
       · rename_i hz; cases h; exact ⟨rfl,fun σ => Y.uR hz rfl⟩
       · cases h
     case extract x j =>
       split at h
       · rename_i vs hx
         split at h
         · rename_i u hu; cases h; exact ⟨rfl,fun σ => Y.extract hx hu⟩
         · cases h
       · cases h
     case unOp u T x =>
       split at h
       · rename_i b hx; cases h; exact ⟨rfl,fun σ => Y.not hx⟩
       · cases h
     case binOp b T x y T' =>
       split at h
       · rename_i k a k' c hx hy
         split at h
         · cases h
         · rename_i hk
           have hk := of_decide_eq_true hk
           subst hk
           cases b <;> simp only at h <;> cases h
           · exact ⟨rfl,fun σ => Y.eql hx hy⟩
           · exact ⟨rfl,fun σ => Y.neq hx hy⟩
           · exact ⟨rfl,fun σ => Y.lss hx hy⟩
           · exact ⟨rfl,fun σ => Y.leq hx hy⟩
           · exact ⟨rfl,fun σ => Y.gtr hx hy⟩
           · exact ⟨rfl,fun σ => Y.geq hx hy⟩
       · cases h
def nv (ops : Array Oper) (i : Nat) (e : Env) : Option (Option Nat) :=
 match ops[i]? with
 | none => none
 | some o => match AR ops e o.guard with
   | true => none
   | false => some o.dst
theorem AKG {ops : Array Oper} {i : Nat} {e : Env} {d : Option Nat} (h : nv ops i e = some d) : ∃ o,ops[i]? = some o ∧ AR ops e o.guard = false ∧ o.dst = d := by
 unfold nv at h
 cases ho : ops[i]? with
 | none => simp [ho] at h
 | some o =>
   simp only [ho] at h
   cases hw : AR ops e o.guard with
   | true => simp [hw] at h
   | false => simp only [hw] at h; cases h; exact ⟨o,rfl,hw,rfl⟩
theorem Cy {ops : Array Oper} {i : Nat} {o : Oper} (h : ops[i]? = some o) : sig ops i = some (o.dst,o.op,o.type,o.guard) := by simp [sig,h]
section
variable {g : Gl} {ops : Array Oper} {q : IZ} {i : Nat} {is : List Nat} {r : List (Nat × Bool)} {e : Env} {bx : Bx} {σ : Hp} {K : Env → Bx → Hp → Prop} {k : List Item} {c : Code}
theorem Seq.u (d : Nat) (v : Value) (h : Seq g ops is (put e (some d) v) bx σ K) (hq : qv g.P ops i e = some (some d,v) := by kernel_rfl) (hd : Nat.blt d g.n = true := by rfl) : Seq g ops (i :: is) e bx σ K := by
 obtain ⟨o,ho,hw,MQ,hy⟩ := uW (bx := bx) hq
 have hs := Cy ho
 rw [MQ] at hs
 exact Seq.yg hs hw hd (hy σ) h
def ACY (e : Env) : List (Nat × Value) → Env
 | [] => e
 | (d,v) :: l => ACY (put e (some d) v) l
def Qs (P : Program) (ops : Array Oper) : List Nat → List (Nat × Value) → Env → List (Option (Option Nat × Value))
 | _,[],_ => []
 | i :: is,(d,v) :: l,e => qv P ops i e :: Qs P ops is l (put e (some d) v)
 | [],_ :: _,_ => [none]
theorem Seq.us (l : List (Nat × Value)) (h : Seq g ops (is.drop l.length) (ACY e l) bx σ K) (hq : Qs g.P ops is l e = l.map (fun p => some (some p.1,p.2)) := by kernel_rfl) (hd : (l.all fun p => Nat.blt p.1 g.n) = true := by rfl) : Seq g ops is e bx σ K := by
 induction l generalizing is e with
 | nil => exact h
 | cons p l ih =>
   obtain ⟨d,v⟩ := p
   cases is with
   | nil => simp [Qs] at hq
   | cons i is =>
     simp only [Qs,List.map_cons,List.cons.injEq] at hq
     simp only [List.all_cons,Bool.and_eq_true] at hd
     exact Seq.u d v (ih h hq.2 hd.2) hq.1 hd.1
theorem Head.u (d : Nat) (v : Value) (h : Head g ops q r (put e (some d) v) bx σ K) (hq : qv g.P ops i e = some (some d,v) := by kernel_rfl) (hd : Nat.blt d g.n = true := by rfl) (Ck : q.ok i = true := by rfl) : Head g ops q ((i,true) :: r) e bx σ K := by
 obtain ⟨o,ho,hw,MQ,hy⟩ := uW (bx := bx) hq
 have hs := Cy ho
 rw [MQ] at hs
 exact Head.yg hs hw hd (hy _) h Ck
theorem Seq.n (d : Nat) (h : Seq g ops is (put e (some d) undef) bx σ K) (hn : nv ops i e = some (some d) := by kernel_rfl) (hd : Nat.blt d g.n = true := by rfl) : Seq g ops (i :: is) e bx σ K := by
 obtain ⟨o,ho,hw,MQ⟩ := AKG hn
 have hs := Cy ho
 rw [MQ] at hs
 exact Seq.no hs hw hd h
theorem Seq.z (d : Nat) (op : Op) (ty : TypeId) (v : Value) (hy : Yd g.P e bx σ op ty v) (h : Seq g ops is (put e (some d) v) bx σ K) (hs : sig ops i = some (some d,op,ty,none) := by kernel_rfl) (hd : Nat.blt d g.n = true := by rfl) : Seq g ops (i :: is) e bx σ K := Seq.y hs hd hy h
theorem Head.z (d : Nat) (op : Op) (ty : TypeId) (v : Value) (hy : Yd g.P e bx (OI q none σ) op ty v) (h : Head g ops q r (put e (some d) v) bx σ K) (hs : sig ops i = some (some d,op,ty,none) := by kernel_rfl) (hd : Nat.blt d g.n = true := by rfl) (Ck : q.ok i = true := by rfl) : Head g ops q ((i,true) :: r) e bx σ K := Head.y hs hd hy h Ck
theorem VL : ∀ {l : List (Nat × Value)},l.map (fun p => e p.1) = l.map (·.2) → Live e l
 | [],_ => trivial
 | (t,v) :: l,h => by
   simp only [List.map_cons,List.cons.injEq] at h
   exact ⟨h.1,VL h.2⟩
theorem At.L (l : List (Nat × Value)) (h : ∀ J,At g k (Je J l) bx σ) (hl : l.map (fun p => e p.1) = l.map (·.2) := by kernel_rfl) : At g k e bx σ := At.ofL (VL hl) h
theorem At.v (l : List (Nat × Value)) (h : At g k (Je e l) bx σ) (hl : l.map (fun p => e p.1) = l.map (·.2) := by kernel_rfl) : At g k e bx σ := At.live (VL hl) h
theorem At.rg (id : Nat) (l : List Nat) (h : Seq g (cO c) l e bx σ (fun e bx σ => At g k e bx σ)) (hc : c = .region id (cO c) false := by kernel_rfl) (hl : List.range (cO c).size = l := by kernel_rfl) : At g (.code c :: k) e bx σ := At.region hc hl h
theorem At.s (x y : Code) (h : At g (.code x :: .code y :: k) e bx σ) (hc : c = .seq x y := by kernel_rfl) : At g (.code c :: k) e bx σ := At.seq hc h
theorem At.cT (t : Nat) (y z : Code) (h : At g (.code y :: k) e bx σ) (hc : c = .cond (.tmp t) y z := by kernel_rfl) (hx : AD e (.tmp t) = .bool true := by rfl) : At g (.code c :: k) e bx σ := At.uN hc hx h
theorem At.cF (t : Nat) (y z : Code) (h : At g (.code z :: k) e bx σ) (hc : c = .cond (.tmp t) y z := by kernel_rfl) (hx : AD e (.tmp t) = .bool false := by rfl) : At g (.code c :: k) e bx σ := At.uO hc hx h
theorem At.x (i : Nat) (k' : List Item) (h : At g k' e bx σ) (hc : c = .exit i := by kernel_rfl) (hk : exitTo i k = some k' := by kernel_rfl) : At g (.code c :: k) e bx σ := At.exit hc hk h
theorem At.b (i : Nat) (x : Code) (h : At g (.code x :: .inBlock i :: k) e bx σ) (hc : c = .block i x := by kernel_rfl) : At g (.code c :: k) e bx σ := At.block hc h
theorem At.rt {fn : Func} (rs : List ResultVar) (vs : List Value) (hf : g.P.funcs[g.f]? = some fn) (h : HH g.P e bx (left g.ds σ) rs vs) (hR : g.R (.returned (Qc vs)) (left g.ds σ))
   (hc : c = Code.ret := by kernel_rfl) (hr : fn.results = rs.toArray := by kernel_rfl) (Td : g.Gg = none := by rfl) (hm : Marks g.ds σ := by trivial) : At g (.code c :: k) e bx σ := At.VJ hc hf hr h hR Td hm
def cv (ops : Array Oper) (i : Nat) (e : Env) : Option (Option Nat × FuncId × Array Value) :=
 match ops[i]? with
 | none => none
 | some o => match AR ops e o.guard with
   | false => none
   | true => match o.op with
     | .call c => (match c.callee with
       | .value x => (match AD e x with
         | .func fn fst cap => (match fn with
           | .func f => some (o.dst,f,(fst.toList ++ (c.args.toList.map (AD e) ++ cap.toList)).toArray)
           | _ => none)
         | _ => none)
       | _ => none)
     | _ => none
theorem AN.cl {f : FuncId} {args : Array Value} (d : Option Nat) (ACZ : ∀ args w,(callFunc f args).run g.P w = .ok (.enter f args) w) (h : Spec g.P f args σ (AA g.R fun v σ' => K (put e d v) bx σ'))
   (hc : cv ops i e = some (d,f,args) := by kernel_rfl) (hd : G4 d g.n = true := by rfl) : AN g ops i e bx σ K := by
 unfold cv at hc
 cases ho : ops[i]? with
 | none => simp [ho] at hc
 | some o =>
   simp only [ho] at hc
   cases hw : AR ops e o.guard with
   | false => simp [hw] at hc
   | true =>
     simp only [hw] at hc
     cases E2 : o.op <;> simp only [E2] at hc <;> try cases hc
     rename_i c
     split at hc
     · rename_i x ACa
       split at hc
       · rename_i fn fst cap hx
         split at hc
         · rename_i f'
           simp only [Option.some.injEq,Prod.mk.injEq] at hc
           obtain ⟨rfl,rfl,ha⟩ := hc
           refine AN.call (Cy ho) hw hd (fun o' Es _ w => ?_) h
           obtain ⟨callee,xs,ts⟩ := c
           simp only at ACa
           subst ACa
           refine OL (x := x) (xs := xs) (ts := ts) (fst := fst) (cap := cap) (vs := (xs.toList.map (AD e)).toArray) ACZ hx (by simp) ?_ o' (by rw [Es,E2]) w
           rw [← ha,← Array.toList_inj]; simp
         · cases hc
       · cases hc
     · cases hc
end
end Tw
end
section
namespace Tw
open Go
variable [Er]
section
variable {g : Gl} {ops : Array Oper} {i : Nat} {e : Env} {bx : Bx} {σ : Hp} {K : Env → Bx → Hp → Prop} {k : List Item} {c x : Code} {d : Option Nat} {gd : Option (Nat × Bool)} {ty : TypeId}
theorem Wn {P : Program} {b : Frame} {a : Act} {k : List Item} {cs : List Frame} {w : World} {c : Code} : step P (lone (b.atR a (.code (.scope c) :: k)) cs w) = .next (lone (b.atR a (.code c :: .inScope c :: k)) cs w) := rfl
theorem Th {P : Program} {b : Frame} {a : Act} {k : List Item} {cs : List Frame} {w : World} {c : Code} : step P (lone (b.atR a (.inScope c :: k)) cs w) = .next (lone (b.atR a k) cs w) := rfl
theorem At.scope (hc : c = Code.scope x) (h : At g (.code x :: .inScope x :: k) e bx σ) : At g (.code c :: k) e bx σ :=
 hc ▸ fun w0 F a w st => .step (fun _ _ _ => Wn) (h w0 F a w st)
theorem At.inScope (h : At g k e bx σ) : At g (.inScope x :: k) e bx σ := fun w0 F a w st => .step (fun _ _ _ => Th) (h w0 F a w st)
theorem AN.panic {x : Operand} {T : TypeId} {v : Value} (hs : sig ops i = some (d,.panic x,ty,gd)) (hw : AR ops e gd = true) (hx : AD e x = .iface T v) (h1 : g.Gg = none) (h2 : g.ds = [])
   (h : g.R (.panicked [{ v := .iface T v,recovered := false }]) σ) : AN g ops i e bx σ K := by
 intro w0 F a w st
 obtain ⟨o,ho,rfl,BM,Ct,rfl⟩ := BX hs
 refine B8 ho (by rw [st.wanted]; exact hw) ?_
 rw [st.eval]
 have B9 : (o.semAt g.Gg (AD e)).run g.P w = .halt (.panic (.iface T v)) w := by
   rw [h1,Oper.semAt_eq none (AD e) o (fun c hc => by rw [BM] at hc; cases hc)]
   simp [execOp,BM,hx,Instr.panic,goPanic,Sem.run]
 rw [B9]
 exact ⟨⟨h1,st.defers.trans h2⟩,σ,h,st.toFin⟩
theorem ZW {x : Operand} {u : Value} {ts : Array TypeId} (hx : AD e x = u) (o : Oper) (ho : o.op = .call { callee := .builtin .len,args := #[x],argTypes := ts }) (ht : o.type = ty) : execOp (AD e) o = (do pure (.value (← Builtin.len_ ts ty #[u]))) := by
 subst ht; simp [execOp,ho,resolve,invoke,builtin,hx]
def isIf : TypeDesc → Bool
 | .interface _ => true
 | _ => false
theorem Y.iface {P : Program} {T : TypeId} {dd : TypeDesc} {x : Operand} {v : Value} (hT : P.underlying T = some dd) (hd : isIf dd = false) (hx : AD e x = v) : Yd P e bx σ (.makeInterface T x) ty (.iface T v) := fun oo ho _ w _ _ => by
 cases dd <;> simp [isIf] at hd <;> simp [execOp,ho,hx,Instr.makeInterface,run_underlying hT]
theorem Y.AKH {P : Program} {T T' : TypeId} {x y : Operand} {a b : ByteArray} (hT : P.underlying T = some .string) (hx : AD e x = .string a) (hy : AD e y = .string b) (hs : a.size + b.size ≤ 9223372036854775807) : Yd P e bx σ (.binOp .add T x y T') ty (.string (a ++ b)) := fun oo ho _ w _ _ => by
 have OM : (a.size : Int) + (b.size : Int) ≤ 9223372036854775807 := by omega
 simp [execOp,ho,hx,hy,eqGuard_add,binOp,Op.stringOp,OM]
end
end Tw
end
section
set_option maxRecDepth 100000
noncomputable section
namespace TwW
open Go Tw Go.Proofs.Tryz
variable [Er] {R : Rr} {σ : Hp}
noncomputable abbrev prog : Program := Go.Proofs.Tryz.prog
theorem mixed : Go.Proofs.Tryz.prog.follows .mixedOrders = true := by kernel_rfl
instance : Ji Go.Proofs.Tryz.prog 22 36 10 120 := ⟨Go.Proofs.Tryz.underlying22,⟨Go.Proofs.Tryz.t36,_,by kernel_rfl,rfl,rfl,rfl,rfl⟩,by decide,by decide⟩
instance : Ji Go.Proofs.Tryz.prog 23 40 2 48 := ⟨Go.Proofs.Tryz.underlying23,⟨Go.Proofs.Tryz.t40,_,by kernel_rfl,rfl,rfl,rfl,rfl⟩,by decide,by decide⟩
instance : Ji Go.Proofs.Tryz.prog 33 77 3 40 := ⟨Go.Proofs.Tryz.underlying33,⟨Go.Proofs.Tryz.t77,_,by kernel_rfl,rfl,rfl,rfl,rfl⟩,by decide,by decide⟩
instance : Ji Go.Proofs.Tryz.prog 34 9 1 16 := ⟨Go.Proofs.Tryz.underlying34,⟨Go.Proofs.Tryz.t9,_,by kernel_rfl,rfl,rfl,rfl,rfl⟩,by decide,by decide⟩
instance : Ji Go.Proofs.Tryz.prog 37 56 2 32 := ⟨Go.Proofs.Tryz.underlying37,⟨Go.Proofs.Tryz.t56,_,by kernel_rfl,rfl,rfl,rfl,rfl⟩,by decide,by decide⟩
instance : Ji Go.Proofs.Tryz.prog 38 50 2 16 := ⟨Go.Proofs.Tryz.underlying38,⟨Go.Proofs.Tryz.t50,_,by kernel_rfl,rfl,rfl,rfl,rfl⟩,by decide,by decide⟩
instance : Ji Go.Proofs.Tryz.prog 42 23 1 24 := ⟨Go.Proofs.Tryz.underlying42,⟨Go.Proofs.Tryz.t23,_,by kernel_rfl,rfl,rfl,rfl,rfl⟩,by decide,by decide⟩
instance : Ji Go.Proofs.Tryz.prog 57 3 1 8 := ⟨Go.Proofs.Tryz.underlying57,⟨Go.Proofs.Tryz.t3,_,by kernel_rfl,rfl,rfl,rfl,rfl⟩,by decide,by decide⟩
instance : Ji Go.Proofs.Tryz.prog 63 51 1 8 := ⟨Go.Proofs.Tryz.underlying63,⟨Go.Proofs.Tryz.t51,_,by kernel_rfl,rfl,rfl,rfl,rfl⟩,by decide,by decide⟩
instance : Ji Go.Proofs.Tryz.prog 67 71 2 32 := ⟨Go.Proofs.Tryz.underlying67,⟨Go.Proofs.Tryz.t71,_,by kernel_rfl,rfl,rfl,rfl,rfl⟩,by decide,by decide⟩
instance : Ji Go.Proofs.Tryz.prog 90 5 1 1 := ⟨Go.Proofs.Tryz.underlying90,⟨Go.Proofs.Tryz.t5,_,by kernel_rfl,rfl,rfl,rfl,rfl⟩,by decide,by decide⟩
instance : Ji Go.Proofs.Tryz.prog 91 189 2 48 := ⟨Go.Proofs.Tryz.underlying91,⟨Go.Proofs.Tryz.t189,_,by kernel_rfl,rfl,rfl,rfl,rfl⟩,by decide,by decide⟩
instance : Ji Go.Proofs.Tryz.prog 108 113 1 8 := ⟨Go.Proofs.Tryz.underlying108,⟨Go.Proofs.Tryz.t113,_,by kernel_rfl,rfl,rfl,rfl,rfl⟩,by decide,by decide⟩
instance : Ji Go.Proofs.Tryz.prog 121 131 4 40 := ⟨Go.Proofs.Tryz.underlying121,⟨Go.Proofs.Tryz.t131,_,by kernel_rfl,rfl,rfl,rfl,rfl⟩,by decide,by decide⟩
instance : Ji Go.Proofs.Tryz.prog 134 137 1 8 := ⟨Go.Proofs.Tryz.underlying134,⟨Go.Proofs.Tryz.t137,_,by kernel_rfl,rfl,rfl,rfl,rfl⟩,by decide,by decide⟩
instance : Ji Go.Proofs.Tryz.prog 136 93 4 64 := ⟨Go.Proofs.Tryz.underlying136,⟨Go.Proofs.Tryz.t93,_,by kernel_rfl,rfl,rfl,rfl,rfl⟩,by decide,by decide⟩
instance : Ji Go.Proofs.Tryz.prog 174 4 1 1 := ⟨Go.Proofs.Tryz.underlying174,⟨Go.Proofs.Tryz.t4,_,by kernel_rfl,rfl,rfl,rfl,rfl⟩,by decide,by decide⟩
instance : Ji Go.Proofs.Tryz.prog 187 48 1 8 := ⟨Go.Proofs.Tryz.underlying187,⟨Go.Proofs.Tryz.t48,_,by kernel_rfl,rfl,rfl,rfl,rfl⟩,by decide,by decide⟩
instance : Ji Go.Proofs.Tryz.prog 192 195 1 8 := ⟨Go.Proofs.Tryz.underlying192,⟨Go.Proofs.Tryz.t195,_,by kernel_rfl,rfl,rfl,rfl,rfl⟩,by decide,by decide⟩
instance : Ji Go.Proofs.Tryz.prog 198 200 1 8 := ⟨Go.Proofs.Tryz.underlying198,⟨Go.Proofs.Tryz.t200,_,by kernel_rfl,rfl,rfl,rfl,rfl⟩,by decide,by decide⟩
instance : Ji Go.Proofs.Tryz.prog 219 221 1 8 := ⟨Go.Proofs.Tryz.underlying219,⟨Go.Proofs.Tryz.t221,_,by kernel_rfl,rfl,rfl,rfl,rfl⟩,by decide,by decide⟩
instance : Ji Go.Proofs.Tryz.prog 222 257 1 24 := ⟨Go.Proofs.Tryz.underlying222,⟨Go.Proofs.Tryz.t257,_,by kernel_rfl,rfl,rfl,rfl,rfl⟩,by decide,by decide⟩
instance : Ji Go.Proofs.Tryz.prog 289 272 1 16 := ⟨Go.Proofs.Tryz.underlying289,⟨Go.Proofs.Tryz.t272,_,by kernel_rfl,rfl,rfl,rfl,rfl⟩,by decide,by decide⟩
instance : Ji Go.Proofs.Tryz.prog 326 280 1 4 := ⟨Go.Proofs.Tryz.underlying326,⟨Go.Proofs.Tryz.t280,_,by kernel_rfl,rfl,rfl,rfl,rfl⟩,by decide,by decide⟩
instance : Ji Go.Proofs.Tryz.prog 359 358 2 24 := ⟨Go.Proofs.Tryz.underlying359,⟨Go.Proofs.Tryz.t358,_,by kernel_rfl,rfl,rfl,rfl,rfl⟩,by decide,by decide⟩
end TwW
end
end
section
namespace Tw
open Go
variable [Er]
inductive Ord where
 | done
 | yes (i : Nat) (r : Ord)
 | alt (i : Nat) (r s : Ord)
 | no
def Jj (g : Gl) (ops : Array Oper) : Ord → IZ → Env → Bx → Hp → (Env → Bx → Hp → Prop) → Prop
 | .done,_,e,bx,σ,K => K e bx σ
 | .yes i r,q,e,bx,σ,K => ∃ own o v,((MN q own).ok i && Qa ops i own) = true ∧ ops[i]? = some o ∧ ((AR ops e o.guard = true ∧ Yd g.P e bx (OI q own σ) o.op o.type v) ∨ (AR ops e o.guard = false ∧ v = undef)) ∧
     (∀ t,o.dst = some t → t < g.n) ∧ Jj g ops r (MN q own) (put e o.dst v) bx σ K
 | .alt i r s,q,e,bx,σ,K => (AN g ops i e bx σ fun e' F1 σ' => Jf (FR q i) bx σ F1 σ' ∧ Jj g ops r (FR q i) e' F1 σ' K) ∧ Jj g ops s q e bx σ K
 | .no,_,_,_,_,_ => True
def M3 (ops : Array Oper) (n : Nat) : Ord → Nat → Array Bool → List Nat → Bool
 | .done,f,listed,seen => decide (f = 0) && seen.isEmpty && Region.seqB .any ops (ops.size - n) n listed
 | .yes i r,f,listed,seen => seen.isEmpty && decide (0 < f) && decide (i < n) && (Region.ready .any ops listed).contains i && Region.free .any ops listed i && M3 ops n r (f - 1) (listed.setIfInBounds i true) []
 | .alt i r s,f,listed,seen => decide (0 < f) && decide (i < n) && (Region.ready .any ops listed).contains i && M3 ops n r (f - 1) (listed.setIfInBounds i true) [] && M3 ops n s f listed (i :: seen)
 | .no,f,listed,seen => decide (0 < f) && !(Region.ready .any ops listed).isEmpty && (Region.ready .any ops listed).all seen.contains
def VM (ops : Array Oper) (n : Nat) (plan : Ord) (tail : List Nat) : Bool :=
 Region.noSelect ops && (decide (n = ops.size) || (decide (n < ops.size) && Region.sinkB .any ops n && Region.chainB .any ops n)) &&
   decide (tail = List.range' n (ops.size - n)) && M3 ops n plan n (Array.replicate ops.size false) []
section regions
variable {g : Gl} {ops : Array Oper}
theorem HK {K : Env → Bx → Hp → Prop} {w0 F} {n : Nat} {tl : List Nat} (MO : Region.noSelect ops = true)
   (Gi : ∀ listed,HeadInv .any ops n listed → ∀ i,i < n → listed.getD i true = false → ∀ t,n ≤ t → t ∉ Region.ready .any ops listed)
   (cA : tl = List.range' n (ops.size - n)) :
   ∀ (plan : Ord) (f : Nat) (seen : List Nat) (q : IZ) (listed : Array Bool) (e : Env) (bx : Bx) (σ : Hp) (a : Act) (w : World),HeadInv .any ops n listed → M3 ops n plan f listed seen = true →
     St g.n g.ds w0 F e bx σ a w → Jj g ops plan q e bx σ (fun e bx σ => Seq g ops tl e bx σ K) →
     (∀ j ∈ seen,j ∈ Region.ready .any ops listed → j < n ∧ wpOpIn (wd g.Gg) 0 g.P ops (Qn g w0 F K) j (fun a' w' => Sq q σ bx (listed.setIfInBounds j true) w' ∧
       F7 g.P g.Gg .any ops (Qn g w0 F K) (Sq q σ bx) n (fun listed a w => Region.seqB .any ops (ops.size - n) n listed = true ∧ wpOpsIn (wd g.Gg) 0 g.P ops (Qn g w0 F K) tl a w) (f - 1) (listed.setIfInBounds j true) a' w') a w) →
     F7 g.P g.Gg .any ops (Qn g w0 F K) (Sq q σ bx) n (fun listed a w => Region.seqB .any ops (ops.size - n) n listed = true ∧ wpOpsIn (wd g.Gg) 0 g.P ops (Qn g w0 F K) tl a w) f listed a w
 | .done,f,seen,_,listed,e,bx,σ,a,w,_,Ck,st,h,_ => by
   simp only [M3,Bool.and_eq_true,decide_eq_true_eq] at Ck
   obtain ⟨⟨rfl,_⟩,Ck⟩ := Ck
   exact ⟨Ck,Kz _ _ _ _ _ _ st h⟩
 | .yes i r,f,seen,q,listed,e,bx,σ,a,w,inv,Ck,st,h,_ => by
   obtain ⟨own,o,v,xH,ho,hy,hd,h⟩ := h
   simp only [Bool.and_eq_true] at xH
   simp only [M3,Bool.and_eq_true,decide_eq_true_eq] at Ck
   obtain ⟨⟨⟨⟨⟨_,hf0⟩,Lv⟩,hr⟩,hf⟩,Ck⟩ := Ck
   obtain ⟨f,rfl⟩ : ∃ f',f = f' + 1 := ⟨f - 1,by omega⟩
   have iT : i ∈ Region.ready .any ops listed := by simpa using hr
   refine EJ (S' := Sq (MN q own) σ bx) (G := fun _ => True) (fun _ _ _ => trivial) (fun _ _ _ h => h.less) _ _ _ _ trivial ?_
   refine Lu (Sy := fun w => Sat (OI q own σ) w ∧ Ht bx w) ho (Region.noSelect_spec MO) ?_ Gi (Sq.set xH.1) (fun listed w inv VH h => Sq.own inv VH xH.2 h) Lv ?_ _ listed a w inv (Region.free_spec ho hf) iT ?_ (Sq.of st.sat st.box)
     (HK MO Gi cA r f [] _ _ _ _ _ _ _ (inv.set iT Lv) Ck (st.put o.dst v hd) h (fun j hj => by cases hj))
   · rintro c a w ⟨⟨h0,h1⟩,h2⟩
     exact ⟨⟨h0,by cases MQ : o.dst <;> simpa [Act.put,MQ] using h1⟩,h2⟩
   · intro listed a w hL
     exact seqB_ready hL.1
   · rcases hy with ⟨hw,hy⟩ | ⟨hw,rfl⟩
     · exact .inl ⟨by rw [st.wanted]; exact hw,fun w hS => by rw [st.eval]; exact hy o rfl rfl w hS.1 hS.2⟩
     · exact .inr ⟨by rw [st.wanted]; exact hw,rfl⟩
 | .alt i r s,f,seen,q,listed,e,bx,σ,a,w,inv,Ck,st,h,jY => by
   obtain ⟨h,hs⟩ := h
   simp only [M3,Bool.and_eq_true,decide_eq_true_eq] at Ck
   obtain ⟨⟨⟨⟨hf0,Lv⟩,hr⟩,Ck⟩,AKI⟩ := Ck
   have iT : i ∈ Region.ready .any ops listed := by simpa using hr
   refine HK MO Gi cA s f (i :: seen) q listed e bx σ a w inv AKI st hs (fun j hj hjr => ?_)
   rcases List.mem_cons.1 hj with rfl | hj
   · refine ⟨Lv,wpOpIn_mono ?_ (ZS (Q := Qx g w0 F) (fun c a w h => h) (fun a w h => h.elim) (h w0 F a w st))⟩
     rintro a' w' ⟨e',F1,σ',Mq,hk,h'⟩
     have hl : (listed.setIfInBounds j true).getD j false = true := by
       have Az : j < listed.size := by rw [inv.size]; obtain ⟨_,o,ho,_⟩ := mem_ready.1 iT; exact (Array.getElem?_eq_some_iff.1 ho).1
       simp [Az]
     exact ⟨Sq.VI hl hk (Sq.of Mq.sat Mq.box),EJ (S' := Sq (FR q j) σ' F1) (G := fun l => l.getD j false = true) (fun _ _ h => getD_set_true h) (fun _ _ hg h => Sq.VI hg hk h) _ _ _ _ hl
       (HK MO Gi cA r (f - 1) [] _ _ _ _ _ _ _ (inv.set iT Lv) Ck Mq h' (fun j hj => by cases hj))⟩
   · exact jY j hj hjr
 | .no,f,seen,q,listed,e,bx,σ,a,w,inv,Ck,st,h,jY => by
   simp only [M3,Bool.and_eq_true,decide_eq_true_eq] at Ck
   obtain ⟨⟨hf0,BD⟩,Hv⟩ := Ck
   obtain ⟨f,rfl⟩ : ∃ f',f = f' + 1 := ⟨f - 1,by omega⟩
   exact ⟨fun h0 => (by rw [h0] at BD; cases BD),fun j hj => jY j (by simpa using List.all_eq_true.1 Hv j hj) hj⟩
theorem At.ACb {k : List Item} {e : Env} {bx : Bx} {σ : Hp} {c : Code} {id : Nat} {n : Nat} {q : IZ} {plan : Ord} {tl : List Nat} (hm : g.P.follows .mixedOrders = true) (hc : c = .region id ops true)
   (hp : VM ops n plan tl = true)
   (h : Jj g ops plan q e bx σ (fun e bx σ => Seq g ops tl e bx σ (fun e bx σ => At g k e bx σ))) : At g (.code c :: k) e bx σ := fun w0 F a w st => by
 subst hc
 simp only [VM,Bool.and_eq_true,Bool.or_eq_true,decide_eq_true_eq] at hp
 obtain ⟨⟨⟨MO,hn⟩,cA⟩,Ck⟩ := hp
 have hn' : n ≤ ops.size := by rcases hn with h | h <;> omega
 have Gi : ∀ listed,HeadInv .any ops n listed → ∀ i,i < n → listed.getD i true = false → ∀ t,n ≤ t → t ∉ Region.ready .any ops listed := by
   intro listed inv i hi VH t ht
   rcases hn with h | ⟨⟨h1,h2⟩,h3⟩
   · intro hr
     obtain ⟨_,o,ho,_⟩ := mem_ready.1 hr
     have := (Array.getElem?_eq_some_iff.1 ho).1
     omega
   · exact tail_waits h2 h3 h1 inv _ i rfl hi VH t ht
 have xI : HeadInv .any ops n (Array.replicate ops.size false) :=
   ⟨by simp,fun j oj _ hl => (by rw [getD_replicate_false] at hl; cases hl),fun t _ ht => getD_in (by simpa using ht) (getD_replicate_false _ _)⟩
 refine HW.of_wp (K := fun e bx σ => At g k e bx σ) (wpIn_region_any hm ?_) (fun _ _ _ h => h)
 have H := HK (K := fun e bx σ => At g k e bx σ) (tl := tl) MO Gi cA plan n [] q (Array.replicate ops.size false) e bx σ a { w with drawn := w.drawn + 1 } xI Ck st.drew h (fun j hj => by cases hj)
 have := Gh (g := ops.size - n) (fun listed a w hL => HX _ _ listed a w hL.1 (cA ▸ hL.2)) _ _ _ _ H
 rw [show n + (ops.size - n) = ops.size by omega] at this
 exact this
end regions
end Tw
namespace Tw
open Go
section
variable {g : Gl} {ops : Array Oper} {i : Nat} {r s : Ord} {q : IZ} {e : Env} {bx : Bx} {σ : Hp} {K : Env → Bx → Hp → Prop} {d : Option Nat} {op : Op} {ty : TypeId} {gd : Option (Nat × Bool)} {v : Value} {L : List (Nat × List Nat)}
end
end Tw
end
section
namespace Tw
open Go
variable [Er]
def nth {α : Type} (d : α) : List α → Nat → α
 | [],_ => d
 | x :: _,0 => x
 | _ :: l,n + 1 => nth d l n
theorem LD {α : Type} {d : α} : ∀ {l m : List α} {i : Nat},i < l.length → nth d (l ++ m) i = nth d l i
 | x :: l,m,0,_ => rfl
 | x :: l,m,i + 1,h => by simp only [List.cons_append,nth]; exact LD (by simpa using h)
theorem LF {α : Type} {d x : α} : ∀ {l : List α},nth d (l ++ [x]) l.length = x
 | [] => rfl
 | _ :: l => LF (l := l)
inductive BK where
 | prop (P : Prop) (i : Decidable P)
 | var (b : Bool)
def BK.val : BK → Bool
 | .prop P i => @decide P i
 | .var b => b
def BK.yes : BK → Prop
 | .prop P _ => P
 | .var b => b = true
def BK.no : BK → Prop
 | .prop P _ => ¬ P
 | .var b => b = false
theorem BK.jZ {k : BK} (h : k.val = true) : k.yes := by
 cases k with
 | prop P i => exact @of_decide_eq_true P i h
 | var b => exact h
theorem BK.uX {k : BK} (h : k.val = false) : k.no := by
 cases k with
 | prop P i => exact @of_decide_eq_false P i h
 | var b => exact h
structure Vl where
 ρ : List (Option Addr)
 β : List BK
 δ : List Nat
inductive PV where
 | lit (p : Option Addr)
 | var (i : Nat)
 | at (b o : Nat)
 | bx (i o : Nat)
def PV.den (v : Vl) : PV → Option Addr
 | .lit p => p
 | .var i => nth none v.ρ i
 | .at b o => some ⟨b,o,none⟩
 | .bx i o => some ⟨nth 0 v.δ i,o,none⟩
def PV.ok (v : Vl) : PV → Bool
 | .var i => Nat.blt i v.ρ.length
 | .bx i _ => Nat.blt i v.δ.length
 | _ => true
inductive Bg where
 | int (k : IntKind) (x : Int)
 | num (k : IntKind) (x : Int)
 | bl (b : Bool)
 | bs (i : Nat) (neg : Bool)
 | str (s : ByteArray)
 | sl (p : PV) (n c : Nat)
 | pt (p : PV)
 | fn (f : Nat) (fst cap : Array Value)
 | mp (m : Option Nat)
 | un
 | raw (v : Value)
def Bg.den (v : Vl) : Bg → Value
 | .int k x => .int k x
 | .num k x => .int k x
 | .bl b => .bool b
 | .bs i false => .bool (nth (.var false) v.β i).val
 | .bs i true => .bool (!(nth (.var false) v.β i).val)
 | .str s => .string s
 | .sl p n c => .slice (p.den v) n c
 | .pt p => .pointer (p.den v)
 | .fn f a b => .func (.func f) a b
 | .mp m => .map m
 | .un => undef
 | .raw x => x
def Bg.ok (v : Vl) : Bg → Bool
 | .bs i _ => Nat.blt i v.β.length
 | .sl p _ _ => p.ok v
 | .pt p => p.ok v
 | _ => true
inductive GU where
 | a (x : Bg)
 | agg (l : List Bg)
def A9 (v : Vl) : List Bg → List Value
 | [] => []
 | x :: l => x.den v :: A9 v l
def xj (v : Vl) : List Bg → Bool
 | [] => true
 | x :: l => x.ok v && xj v l
def GU.den (v : Vl) : GU → Value
 | .a x => x.den v
 | .agg l => .agg (A9 v l).toArray
def GU.ok (v : Vl) : GU → Bool
 | .a x => x.ok v
 | .agg l => xj v l
inductive SV where
 | v (x : GU)
 | UB (l : List GU)
def HL (v : Vl) : List GU → List Value
 | [] => []
 | x :: l => x.den v :: HL v l
def qX (v : Vl) : List GU → Bool
 | [] => true
 | x :: l => x.ok v && qX v l
def SV.den (v : Vl) : SV → Value
 | .v x => x.den v
 | .UB l => .tuple (HL v l).toArray
def SV.ok (v : Vl) : SV → Bool
 | .v x => x.ok v
 | .UB l => qX v l
abbrev SV.at (x : Bg) : SV := .v (.a x)
structure Vl.le (v w : Vl) : Prop where
 ρ : ∀ i,i < v.ρ.length → nth none w.ρ i = nth none v.ρ i
 β : ∀ i,i < v.β.length → nth (.var false) w.β i = nth (.var false) v.β i
 δ : ∀ i,i < v.δ.length → nth 0 w.δ i = nth 0 v.δ i
theorem Vl.le.refl (v : Vl) : v.le v := ⟨fun _ _ => rfl,fun _ _ => rfl,fun _ _ => rfl⟩
theorem PV.Hc {v w : Vl} (h : v.le w) {p : PV} (hp : p.ok v = true) : p.den w = p.den v := by
 cases p with
 | var i => exact h.ρ i (Nat.le_of_ble_eq_true hp)
 | bx i o => simp only [PV.den]; rw [h.δ i (Nat.le_of_ble_eq_true hp)]
 | _ => rfl
theorem Bg.Hc {v w : Vl} (h : v.le w) {x : Bg} (hp : x.ok v = true) : x.den w = x.den v := by
 cases x with
 | bs i n => cases n <;> simp only [Bg.den] <;> rw [h.β i (Nat.le_of_ble_eq_true hp)]
 | sl p n c => simp only [Bg.den]; rw [PV.Hc h hp]
 | pt p => simp only [Bg.den]; rw [PV.Hc h hp]
 | _ => rfl
theorem QE {v w : Vl} (h : v.le w) : ∀ {l : List Bg},xj v l = true → A9 w l = A9 v l
 | [],_ => rfl
 | x :: l,hp => by
   simp only [xj,Bool.and_eq_true] at hp
   simp only [A9]; rw [Bg.Hc h hp.1,QE h hp.2]
theorem GU.Hc {v w : Vl} (h : v.le w) {x : GU} (hp : x.ok v = true) : x.den w = x.den v := by
 cases x with
 | a x => exact Bg.Hc h hp
 | agg l => simp only [GU.den]; rw [QE h hp]
theorem Wo {v w : Vl} (h : v.le w) : ∀ {l : List GU},qX v l = true → HL w l = HL v l
 | [],_ => rfl
 | x :: l,hp => by
   simp only [qX,Bool.and_eq_true] at hp
   simp only [HL]; rw [GU.Hc h hp.1,Wo h hp.2]
theorem SV.Hc {v w : Vl} (h : v.le w) {x : SV} (hp : x.ok v = true) : x.den w = x.den v := by
 cases x with
 | v x => exact GU.Hc h hp
 | UB l => simp only [SV.den]; rw [Wo h hp]
def PV.sub (i b o : Nat) : PV → PV
 | .var j => bif Nat.beq j i then .at b o else .var j
 | p => p
inductive Gn where
 | ptr (i b o : Nat)
 | bool (i : Nat) (t : Bool)
def PV.tell : Gn → PV → PV
 | .ptr i b o,p => p.sub i b o
 | .bool ..,p => p
def Bg.tell (t : Gn) : Bg → Bg
 | .bs j n => match t with
   | .bool i b => bif Nat.beq j i then .bl (bif n then !b else b) else .bs j n
   | _ => .bs j n
 | .sl p n c => .sl (p.tell t) n c
 | .pt p => .pt (p.tell t)
 | x => x
def Gn.holds (v : Vl) : Gn → Prop
 | .ptr i b o => nth none v.ρ i = some ⟨b,o,none⟩
 | .bool i t => (nth (.var false) v.β i).val = t
theorem PV.Da {v : Vl} {t : Gn} (h : t.holds v) {p : PV} : (p.tell t).den v = p.den v := by
 cases t with
 | bool i t => rfl
 | ptr i b o =>
   cases p with
   | var j =>
     simp only [PV.tell,PV.sub]
     cases hj : Nat.beq j i with
     | true => have := Nat.eq_of_beq_eq_true hj; subst this; exact h.symm
     | false => rfl
   | _ => rfl
theorem Bg.Da {v : Vl} {t : Gn} (h : t.holds v) {x : Bg} : (x.tell t).den v = x.den v := by
 cases x with
 | bs j n =>
   cases t with
   | ptr i b o => rfl
   | bool i b =>
     simp only [Bg.tell]
     cases hj : Nat.beq j i with
     | true =>
       have := Nat.eq_of_beq_eq_true hj
       subst this
       simp only [Gn.holds] at h
       cases n <;> simp only [Bg.den,cond_true,cond_false,h]
     | false => rfl
 | sl p n c => simp only [Bg.tell,Bg.den]; rw [PV.Da h]
 | pt p => simp only [Bg.tell,Bg.den]; rw [PV.Da h]
 | _ => rfl
def tells (t : Gn) : List Bg → List Bg
 | [] => []
 | x :: l => x.tell t :: tells t l
theorem OO {v : Vl} {t : Gn} (h : t.holds v) : ∀ {l : List Bg},A9 v (tells t l) = A9 v l
 | [] => rfl
 | x :: l => by simp only [tells,A9]; rw [Bg.Da h,OO h]
def GU.tell (t : Gn) : GU → GU
 | .a x => .a (x.tell t)
 | .agg l => .agg (tells t l)
theorem GU.Da {v : Vl} {t : Gn} (h : t.holds v) {x : GU} : (x.tell t).den v = x.den v := by
 cases x with
 | a x => exact Bg.Da h
 | agg l => simp only [GU.tell,GU.den]; rw [OO h]
def VN (t : Gn) : List GU → List GU
 | [] => []
 | x :: l => x.tell t :: VN t l
theorem Qe {v : Vl} {t : Gn} (h : t.holds v) : ∀ {l : List GU},HL v (VN t l) = HL v l
 | [] => rfl
 | x :: l => by simp only [VN,HL]; rw [GU.Da h,Qe h]
def SV.tell (t : Gn) : SV → SV
 | .v x => .v (x.tell t)
 | .UB l => .UB (VN t l)
theorem SV.Da {v : Vl} {t : Gn} (h : t.holds v) {x : SV} : (x.tell t).den v = x.den v := by
 cases x with
 | v x => exact GU.Da h
 | UB l => simp only [SV.tell,SV.den]; rw [Qe h]
abbrev FA := Nat × TypeId × List Bg
structure S where
 env : List (Nat × SV)
 bx : List FA
 vl : Vl
 σ : Hp
def G7 (v : Vl) : List (Nat × SV) → List (Nat × Value)
 | [] => []
 | (t,x) :: l => (t,x.den v) :: G7 v l
def okE (v : Vl) : List (Nat × SV) → Bool
 | [] => true
 | (_,x) :: l => x.ok v && okE v l
def cD (t : Gn) : List (Nat × SV) → List (Nat × SV)
 | [] => []
 | (s,x) :: l => (s,x.tell t) :: cD t l
def EM (v : Vl) : List FA → Bx
 | [] => []
 | (i,t,cs) :: l => (nth 0 v.δ i,.cells (A9 v cs).toArray t (0,0)) :: EM v l
def okB (v : Vl) : List FA → Bool
 | [] => true
 | (i,_,cs) :: l => Nat.blt i v.δ.length && xj v cs && okB v l
def cE (t : Gn) : List FA → List FA
 | [] => []
 | (i,T,cs) :: l => (i,T,tells t cs) :: cE t l
def S.e (J : Env) (s : S) : Env := Je J (G7 s.vl s.env)
def S.b (s : S) : Bx := EM s.vl s.bx
def S.ok (s : S) : Bool := okE s.vl s.env && okB s.vl s.bx
def S.tell (s : S) (t : Gn) : S := ⟨cD t s.env,cE t s.bx,s.vl,s.σ⟩
def S.w (s : S) (v : Vl) : S := ⟨s.env,s.bx,v,s.σ⟩
def S.put (s : S) (d : Option Nat) (x : SV) : S := match d with
 | some d => ⟨(d,x) :: s.env,s.bx,s.vl,s.σ⟩
 | none => s
def S.hp (s : S) (σ : Hp) : S := ⟨s.env,s.bx,s.vl,σ⟩
theorem cG {v w : Vl} (h : v.le w) : ∀ {l : List (Nat × SV)},okE v l = true → G7 w l = G7 v l
 | [],_ => rfl
 | (t,x) :: l,hp => by
   simp only [okE,Bool.and_eq_true] at hp
   simp only [G7]; rw [SV.Hc h hp.1,cG h hp.2]
theorem cH {v w : Vl} (h : v.le w) : ∀ {l : List FA},okB v l = true → EM w l = EM v l
 | [],_ => rfl
 | (i,t,cs) :: l,hp => by
   simp only [okB,Bool.and_eq_true] at hp
   simp only [EM]; rw [QE h hp.1.2,cH h hp.2,h.δ i (Nat.le_of_ble_eq_true hp.1.1)]
theorem UC {v : Vl} {t : Gn} (h : t.holds v) : ∀ {l : List (Nat × SV)},G7 v (cD t l) = G7 v l
 | [] => rfl
 | (s,x) :: l => by simp only [cD,G7]; rw [SV.Da h,UC h]
theorem UD {v : Vl} {t : Gn} (h : t.holds v) : ∀ {l : List FA},EM v (cE t l) = EM v l
 | [] => rfl
 | (i,T,cs) :: l => by simp only [cE,EM]; rw [OO h,UD h]
theorem S.e_w {J : Env} {s : S} {v : Vl} (hs : s.ok = true) (h : s.vl.le v) : (s.w v).e J = s.e J := by
 simp only [S.ok,Bool.and_eq_true] at hs
 simp only [S.e,S.w,cG h hs.1]
theorem S.b_w {s : S} {v : Vl} (hs : s.ok = true) (h : s.vl.le v) : (s.w v).b = s.b := by
 simp only [S.ok,Bool.and_eq_true] at hs
 simp only [S.b,S.w,cH h hs.2]
theorem S.xk {J : Env} {s : S} {t : Gn} (h : t.holds s.vl) : (s.tell t).e J = s.e J := by
 simp only [S.e,S.tell,UC h]
theorem S.xn {s : S} {t : Gn} (h : t.holds s.vl) : (s.tell t).b = s.b := by
 simp only [S.b,S.tell,UD h]
theorem S.Hy {J : Env} {s : S} {d : Option Nat} {x : SV} : (s.put d x).e J = Tw.put (s.e J) d (x.den s.vl) := by
 cases d <;> rfl
theorem S.Hz {s : S} {d : Option Nat} {x : SV} : (s.put d x).b = s.b := by cases d <;> rfl
theorem S.FB {s : S} {d : Option Nat} {x : SV} : (s.put d x).σ = s.σ := by cases d <;> rfl
def VO : List (Nat × SV) → Nat → Option SV
 | [],_ => none
 | (t,x) :: l,i => bif Nat.beq i t then some x else VO l i
theorem D7 {v : Vl} {J : Env} : ∀ {l : List (Nat × SV)} {i : Nat} {x : SV},VO l i = some x → Je J (G7 v l) i = x.den v
 | (t,y) :: l,i,x,h => by
   simp only [VO] at h
   simp only [G7,Je,uM]
   cases hi : Nat.beq i t with
   | true => rw [hi] at h; simp only [cond_true] at h ⊢; cases h; rfl
   | false => rw [hi] at h; simp only [cond_false] at h ⊢; exact D7 h
def xo : Value → Bg
 | .int k x => .num k x
 | .bool b => .bl b
 | .string s => .str s
 | .slice p n c => .sl (.lit p) n c
 | .pointer p => .pt (.lit p)
 | .map m => .mp m
 | v => .raw v
theorem Wp {vl : Vl} (v : Value) : (xo v).den vl = v := by cases v <;> rfl
def O8 : List Value → List Bg
 | [] => []
 | x :: l => xo x :: O8 l
theorem H0 {vl : Vl} : ∀ l : List Value,A9 vl (O8 l) = l
 | [] => rfl
 | x :: l => by simp only [O8,A9]; rw [Wp,H0]
def ja : Value → GU
 | .agg cs => .agg (O8 cs.toList)
 | v => .a (xo v)
theorem Wq {vl : Vl} (v : Value) : (ja v).den vl = v := by
 cases v
 case agg cs => simp only [ja,GU.den,H0]
 all_goals (simp only [ja,GU.den]; exact Wp _)
def cI : List Value → List GU
 | [] => []
 | x :: l => ja x :: cI l
theorem UE {vl : Vl} : ∀ l : List Value,HL vl (cI l) = l
 | [] => rfl
 | x :: l => by simp only [cI,HL]; rw [Wq,UE]
def svV : Value → SV
 | .tuple vs => .UB (cI vs.toList)
 | v => .v (ja v)
theorem qY {vl : Vl} (v : Value) : (svV v).den vl = v := by
 cases v
 case tuple cs => simp only [svV,SV.den,UE]
 all_goals (simp only [svV,SV.den]; exact Wq _)
def S.op (s : S) : Operand → Option SV
 | .tmp t => VO s.env t
 | .const v => some (svV v)
 | .func f => some (.at (.fn f #[] #[]))
 | .global g => some (.at (.pt (.at g 0)))
theorem S.qZ {J : Env} {s : S} {x : Operand} {v : SV} (h : s.op x = some v) : AD (s.e J) x = v.den s.vl := by
 cases x with
 | tmp t => exact D7 h
 | const c => simp only [S.op,Option.some.injEq] at h; subst h; exact (qY c).symm
 | func f => simp only [S.op,Option.some.injEq] at h; subst h; rfl
 | global g => simp only [S.op,Option.some.injEq] at h; subst h; rfl
def Vl.jb (v : Vl) (p : Option Addr) : Vl := ⟨v.ρ ++ [p],v.β,v.δ⟩
def Vl.ZX (v : Vl) (k : BK) : Vl := ⟨v.ρ,v.β ++ [k],v.δ⟩
def Vl.qa (v : Vl) (b : Nat) : Vl := ⟨v.ρ,v.β,v.δ ++ [b]⟩
theorem Vl.qb (v : Vl) (p : Option Addr) : v.le (v.jb p) := ⟨fun _ h => LD h,fun _ _ => rfl,fun _ _ => rfl⟩
theorem Vl.cJ (v : Vl) (k : BK) : v.le (v.ZX k) := ⟨fun _ _ => rfl,fun _ h => LD h,fun _ _ => rfl⟩
theorem Vl.qc (v : Vl) (b : Nat) : v.le (v.qa b) := ⟨fun _ _ => rfl,fun _ _ => rfl,fun _ h => LD h⟩
theorem Vl.le.trans {u v w : Vl} (h : u.le v) (g : v.le w) (hl : u.ρ.length ≤ v.ρ.length ∧ u.β.length ≤ v.β.length ∧ u.δ.length ≤ v.δ.length) : u.le w :=
 ⟨fun i hi => (g.ρ i (by omega)).trans (h.ρ i hi),fun i hi => (g.β i (by omega)).trans (h.β i hi),fun i hi => (g.δ i (by omega)).trans (h.δ i hi)⟩
end Tw
end
section
namespace Tw
open Go
variable [Er]
structure S.H3 (s s' : S) : Prop where
 e : ∀ J,s'.e J = s.e J
 b : s'.b = s.b
 σ : s'.σ = s.σ
theorem S.H3.refl (s : S) : s.H3 s := ⟨fun _ => rfl,rfl,rfl⟩
theorem S.H3.trans {s s' s'' : S} (h : s.H3 s') (g : s'.H3 s'') : s.H3 s'' := ⟨fun J => (g.e J).trans (h.e J),g.b.trans h.b,g.σ.trans h.σ⟩
theorem S.Qf {s : S} {v : Vl} (hs : s.ok = true) (h : s.vl.le v) : s.H3 (s.w v) := ⟨fun J => S.e_w hs h,S.b_w hs h,rfl⟩
theorem S.H4 {s : S} {t : Gn} (h : t.holds s.vl) : s.H3 (s.tell t) := ⟨fun J => S.xk h,S.xn h,rfl⟩
def S.boo (s : S) (k : BK) (neg : Bool) (K : SV → S → Prop) : Prop :=
 match s.ok with
 | true => K (.at (.bs s.vl.β.length neg)) (s.w (s.vl.ZX k))
 | false => False
theorem S.ec {s : S} {k : BK} {neg : Bool} {K : SV → S → Prop} (h : s.boo k neg K) : ∃ v s',s.H3 s' ∧ v.den s'.vl = .bool (bif neg then !k.val else k.val) ∧ K v s' := by
 unfold S.boo at h
 cases hs : s.ok with
 | false => rw [hs] at h; cases h
 | true =>
   rw [hs] at h
   refine ⟨_,_,S.Qf hs (Vl.cJ _ _),?_,h⟩
   cases neg <;> simp only [SV.den,GU.den,Bg.den,S.w,Vl.ZX,LF,cond_true,cond_false]
def S.onB (s : S) (i : Nat) (neg : Bool) (K : Bool → S → Prop) : Prop :=
 match neg with
 | false => ((nth (.var false) s.vl.β i).yes → K true (s.tell (.bool i true))) ∧ ((nth (.var false) s.vl.β i).no → K false (s.tell (.bool i false)))
 | true => ((nth (.var false) s.vl.β i).no → K true (s.tell (.bool i false))) ∧ ((nth (.var false) s.vl.β i).yes → K false (s.tell (.bool i true)))
theorem S.ed {s : S} {i : Nat} {neg : Bool} {K : Bool → S → Prop} (h : s.onB i neg K) : ∃ t s',s.H3 s' ∧ s'.vl = s.vl ∧ (Bg.bs i neg).den s.vl = .bool t ∧ K t s' := by
 cases hb : (nth (.var false) s.vl.β i).val with
 | true =>
   cases neg with
   | false => exact ⟨true,_,S.H4 (t := .bool i true) hb,rfl,by simp only [Bg.den,hb],h.1 (BK.jZ hb)⟩
   | true => exact ⟨false,_,S.H4 (t := .bool i true) hb,rfl,by simp only [Bg.den,hb]; rfl,h.2 (BK.jZ hb)⟩
 | false =>
   cases neg with
   | false => exact ⟨false,_,S.H4 (t := .bool i false) hb,rfl,by simp only [Bg.den,hb],h.2 (BK.uX hb)⟩
   | true => exact ⟨true,_,S.H4 (t := .bool i false) hb,rfl,by simp only [Bg.den,hb]; rfl,h.1 (BK.uX hb)⟩
def S.qd (s : S) (v : Option SV) (K : Bool → S → Prop) : Prop :=
 match v with
 | some (.v (.a (.bl b))) => K b s
 | some (.v (.a (.bs i n))) => s.onB i n K
 | _ => False
theorem S.FC {s : S} {v : Option SV} {K : Bool → S → Prop} (h : s.qd v K) : ∃ t s' x,s.H3 s' ∧ s'.vl = s.vl ∧ v = some x ∧ x.den s.vl = .bool t ∧ K t s' := by
 unfold S.qd at h
 split at h
 · exact ⟨_,s,_,.refl s,rfl,rfl,rfl,h⟩
 · obtain ⟨t,s',h1,h2,h3,h4⟩ := S.ed h
   exact ⟨t,s',_,h1,h2,rfl,h3,h4⟩
 · cases h
def S.onP (s : S) (p : PV) (K : PV → S → Prop) : Prop :=
 match p with
 | .at b o => K (.at b o) s
 | .bx i o => K (.bx i o) s
 | .var i => ∃ (b o : Nat),nth none s.vl.ρ i = some ⟨b,o,none⟩ ∧ K (.at b o) (s.tell (.ptr i b o))
 | .lit _ => False
def PV.Qg (v : Vl) : PV → Nat
 | .at b _ => b
 | .bx i _ => nth 0 v.δ i
 | _ => 0
def PV.off : PV → Nat
 | .at _ o => o
 | .bx _ o => o
 | _ => 0
def PV.mv : PV → Nat → PV
 | .at b _,o => .at b o
 | .bx i _,o => .bx i o
 | p,_ => p
def PV.xp : PV → Bool
 | .at .. => true
 | .bx .. => true
 | _ => false
theorem PV.Il {v : Vl} {p : PV} (h : p.xp = true) : p.den v = some ⟨p.Qg v,p.off,none⟩ := by cases p <;> first | rfl | cases h
theorem PV.ZY {v : Vl} {p : PV} {o : Nat} (h : p.xp = true) : (p.mv o).den v = some ⟨p.Qg v,o,none⟩ := by cases p <;> first | rfl | cases h
theorem S.UF {s : S} {p : PV} {K : PV → S → Prop} (h : s.onP p K) : ∃ q s',s.H3 s' ∧ s'.vl = s.vl ∧ q.xp = true ∧ q.den s.vl = p.den s.vl ∧ K q s' := by
 unfold S.onP at h
 split at h
 · exact ⟨_,s,.refl s,rfl,rfl,rfl,h⟩
 · exact ⟨_,s,.refl s,rfl,rfl,rfl,h⟩
 · obtain ⟨b,o,h1,h2⟩ := h
   exact ⟨.at b o,_,S.H4 (t := .ptr _ b o) h1,rfl,rfl,h1.symm,h2⟩
 · cases h
def Wr (P : Program) (t : TypeId) : Option Nat := (P.info? t).map (·.size)
theorem CP {P : Program} {t : TypeId} {n : Nat} (h : Wr P t = some n) : ∀ w,(Go.sizeOf t).run P w = .ok n w := fun w => by
 unfold Wr at h
 cases hi : P.info? t with
 | none => rw [hi] at h; cases h
 | some i => rw [hi] at h; simp only [Option.map_some,Option.some.injEq] at h; subst h; simp [Go.sizeOf,typeInfo,hi]
def Ws (P : Program) (t : TypeId) : Option Bool := match P.underlying t with
 | some (.struct _) => some true
 | some (.array _ _) => some true
 | some _ => some false
 | none => none
theorem EO {P : Program} {t : TypeId} {b : Bool} (h : Ws P t = some b) : ∀ w,(isAgg t).run P w = .ok b w := fun w => by
 unfold Ws at h
 cases hi : P.underlying t with
 | none => rw [hi] at h; cases h
 | some d =>
   rw [hi] at h
   cases d <;> simp only [Option.some.injEq] at h <;> subst h <;> simp [isAgg,run_underlying hi]
def Wb : Option SV → Option (IntKind × Int)
 | some (.v (.a (.int k x))) => some (k,x)
 | some (.v (.a (.num k x))) => some (k,x)
 | _ => none
theorem Bk {v : Option SV} {k : IntKind} {x : Int} (h : Wb v = some (k,x)) : ∃ u,v = some u ∧ ∀ vl,u.den vl = .int k x := by
 unfold Wb at h
 split at h
 · cases h; exact ⟨_,rfl,fun _ => rfl⟩
 · cases h; exact ⟨_,rfl,fun _ => rfl⟩
 · cases h
def YP (P : Program) (op : Op) (ty : TypeId) (s : S) (K : SV → S → Prop) : Prop := ∃ v s',s.H3 s' ∧ (∀ J σ,Yd P (s.e J) s.b σ op ty (v.den s'.vl)) ∧ K v s'
def OP (wr : Bool) (k : IntKind) (z : Int) (s : S) (K : SV → S → Prop) : Prop :=
 match wr,k with
 | false,.i64 => AG z ∧ K (.at (.int .i64 z)) s
 | _,_ => ∀ x,x = k.wrap z → K (.at (.int k x)) s
theorem VP {wr : Bool} {k : IntKind} {z : Int} {s : S} {K : SV → S → Prop} (h : OP wr k z s K) : ∃ x,x = k.wrap z ∧ K (.at (.int k x)) s := by
 unfold OP at h
 split at h
 · exact ⟨z,h.1.wrap.symm,h.2⟩
 · exact ⟨_,rfl,h _ rfl⟩
def xq (wr : Bool) (b : BinOp) (k : IntKind) (a : Int) (k' : IntKind) (c : Int) (s : S) (K : SV → S → Prop) : Prop :=
 match b with
 | .shl => ((0 : Int) ≤ c ∧ c ≤ ((IntKind.bits k : Nat) : Int)) ∧ ∀ x,x = k.wrap (a * 2 ^ c.toNat) → K (.at (.int k x)) s
 | .shr => ((0 : Int) ≤ c ∧ c ≤ ((IntKind.bits k : Nat) : Int)) ∧ ∀ x,x = a / 2 ^ c.toNat → K (.at (.int k x)) s
 | b => match decide (k = k') with
   | false => False
   | true => match b with
     | .lss => s.boo (.prop (a < c) inferInstance) false K
     | .leq => s.boo (.prop (a ≤ c) inferInstance) false K
     | .gtr => s.boo (.prop (c < a) inferInstance) false K
     | .geq => s.boo (.prop (c ≤ a) inferInstance) false K
     | .eql => s.boo (.prop (a = c) inferInstance) false K
     | .neq => s.boo (.prop (a ≠ c) inferInstance) false K
     | .add => OP wr k (a + c) s K
     | .sub => OP wr k (a - c) s K
     | .mul => OP wr k (a * c) s K
     | .and => ∀ x,x = Go.bits .and k a c → K (.at (.int k x)) s
     | .or => ∀ x,x = Go.bits .or k a c → K (.at (.int k x)) s
     | .xor => ∀ x,x = Go.bits .xor k a c → K (.at (.int k x)) s
     | .andNot => ∀ x,x = Go.bits .andNot k a c → K (.at (.int k x)) s
     | .quo => c ≠ (0 : Int) ∧ ∀ x,x = k.wrap (a.tdiv c) → K (.at (.int k x)) s
     | .rem => c ≠ (0 : Int) ∧ ∀ x,x = a.tmod c → K (.at (.int k x)) s
     | _ => False
section
variable {P : Program} {s : S} {K : SV → S → Prop} {T T' ty : TypeId} {x y z : Operand}
theorem Hd {op : Op} {k : BK} {neg : Bool} (h : s.boo k neg K) (hy : ∀ J σ,Yd P (s.e J) s.b σ op ty (.bool (bif neg then !k.val else k.val))) : YP P op ty s K := by
 obtain ⟨v,s',h1,h2,h3⟩ := S.ec h
 exact ⟨v,s',h1,fun J σ => by rw [h2]; exact hy J σ,h3⟩
theorem He {op : Op} {k : IntKind} {z : Int} (h : ∀ x,x = z → K (.at (.int k x)) s) (hy : ∀ J σ,Yd P (s.e J) s.b σ op ty (.int k z)) : YP P op ty s K :=
 ⟨.at (.int k z),s,.refl s,hy,h _ rfl⟩
theorem BY {op : Op} {v : SV} (h : K v s) (hy : ∀ J σ,Yd P (s.e J) s.b σ op ty (v.den s.vl)) : YP P op ty s K := ⟨v,s,.refl s,hy,h⟩
theorem ZZ {wr : Bool} {b : BinOp} {k k' : IntKind} {a c : Int} (h : xq wr b k a k' c s K) (hx : ∀ J,AD (s.e J) x = .int k a) (hy : ∀ J,AD (s.e J) y = .int k' c) : YP P (.binOp b T x y T') ty s K := by
 have ar : ∀ {z : Int} {op : Op},OP wr k z s K → (∀ J σ,Yd P (s.e J) s.b σ op ty (.int k (k.wrap z))) → YP P op ty s K := fun h hy => by
   obtain ⟨x,rfl,h⟩ := VP h
   exact BY h hy
 unfold xq at h
 split at h
 · exact He h.2 fun J σ => Y.shl h.1.1 h.1.2 (hx J) (hy J)
 · exact He h.2 fun J σ => Y.shr h.1.1 h.1.2 (hx J) (hy J)
 · split at h
   · cases h
   · rename_i hk
     have hk := of_decide_eq_true hk
     subst hk
     split at h
     · exact Hd h fun J σ => Y.lss (hx J) (hy J)
     · exact Hd h fun J σ => Y.leq (hx J) (hy J)
     · exact Hd h fun J σ => Y.gtr (hx J) (hy J)
     · exact Hd h fun J σ => Y.geq (hx J) (hy J)
     · exact Hd h fun J σ => Y.eql (hx J) (hy J)
     · exact Hd h fun J σ => Y.neq (hx J) (hy J)
     · exact ar h fun J σ => Y.add (hx J) (hy J)
     · exact ar h fun J σ => Y.sub (hx J) (hy J)
     · exact ar h fun J σ => Y.mul (hx J) (hy J)
     · exact He h fun J σ => Y.bits (by simp) (hx J) (hy J)
     · exact He h fun J σ => Y.bits (by simp) (hx J) (hy J)
     · exact He h fun J σ => Y.bits (by simp) (hx J) (hy J)
     · exact He h fun J σ => Y.bits (by simp) (hx J) (hy J)
     · exact He h.2 fun J σ => Y.quo h.1 (hx J) (hy J)
     · exact He h.2 fun J σ => Y.rem h.1 (hx J) (hy J)
     · cases h
def asS : Option SV → Option ByteArray
 | some (.v (.a (.str u))) => some u
 | _ => none
def jc : Option SV → Option PV
 | some (.v (.a (.pt p))) => some p
 | _ => none
theorem Wt {v : Option SV} {u : ByteArray} (h : asS v = some u) : ∃ w,v = some w ∧ ∀ vl,w.den vl = .string u := by
 unfold asS at h
 split at h
 · cases h; exact ⟨_,rfl,fun _ => rfl⟩
 · cases h
theorem EP {v : Option SV} {p : PV} (h : jc v = some p) : ∃ w,v = some w ∧ ∀ vl,w.den vl = .pointer (p.den vl) := by
 unfold jc at h
 split at h
 · cases h; exact ⟨_,rfl,fun _ => rfl⟩
 · cases h
def ACc (b : BinOp) (u w : ByteArray) (s : S) (K : SV → S → Prop) : Prop :=
 match b with
 | .eql => s.boo (.var (ByteArray.toList u == ByteArray.toList w)) false K
 | .neq => s.boo (.var (ByteArray.toList u == ByteArray.toList w)) true K
 | .add => (ByteArray.size u + ByteArray.size w ≤ 9223372036854775807) ∧ K (.at (.str (u ++ w))) s
 | _ => False
def isNil : PV → Bool
 | .lit none => true
 | _ => false
def ACd (b : BinOp) (p q : PV) (s : S) (K : SV → S → Prop) : Prop :=
 match isNil q with
 | false => False
 | true => match b with
   | .eql => match p.xp with
     | true => K (.at (.bl false)) s
     | false => s.boo (.var (Option.isNone (p.den s.vl))) false K
   | .neq => match p.xp with
     | true => K (.at (.bl true)) s
     | false => s.boo (.var (Option.isSome (p.den s.vl))) false K
   | _ => False
def ACe (b : BinOp) (x y : Operand) (s : S) (K : SV → S → Prop) : Prop :=
 match b with
 | .eql => s.qd (s.op x) fun t s => s.qd (s.op y) fun u s => K (.at (.bl (t == u))) s
 | .neq => s.qd (s.op x) fun t s => s.qd (s.op y) fun u s => K (.at (.bl (!(t == u)))) s
 | _ => False
def xr (P : Program) (wr : Bool) (b : BinOp) (T : TypeId) (x y : Operand) (s : S) (K : SV → S → Prop) : Prop :=
 match Wb (s.op x),Wb (s.op y) with
 | some (k,a),some (k',c) => xq wr b k a k' c s K
 | _,_ => match P.underlying T with
   | some .string => match asS (s.op x),asS (s.op y) with
     | some u,some w => ACc b u w s K
     | _,_ => False
   | some (.pointer _) => match jc (s.op x),jc (s.op y) with
     | some p,some q => ACd b p q s K
     | _,_ => False
   | some .bool => ACe b x y s K
   | _ => False
theorem ev {J : Env} {v : SV} (h : s.op x = some v) : AD (s.e J) x = v.den s.vl := S.qZ h
theorem Za {wr : Bool} {b : BinOp} (h : xr P wr b T x y s K) : YP P (.binOp b T x y T') ty s K := by
 unfold xr at h
 split at h
 · rename_i k a k' c h1 h2
   obtain ⟨u,e1,e2⟩ := Bk h1
   obtain ⟨w,e3,e4⟩ := Bk h2
   exact ZZ h (fun J => by rw [ev e1,e2]) (fun J => by rw [ev e3,e4])
 · split at h
   · rename_i hT
     split at h
     · rename_i u w h1 h2
       obtain ⟨_,e1,e2⟩ := Wt h1
       obtain ⟨_,e3,e4⟩ := Wt h2
       unfold ACc at h
       split at h
       · exact Hd h fun J σ => Y.AJ4 hT (by rw [ev e1,e2]) (by rw [ev e3,e4])
       · exact Hd h fun J σ => Y.AJ5 hT (by rw [ev e1,e2]) (by rw [ev e3,e4])
       · exact BY h.2 fun J σ => Y.AKH hT (by rw [ev e1,e2]) (by rw [ev e3,e4]) h.1
       · cases h
     · cases h
   · rename_i hT
     split at h
     · rename_i p q h1 h2
       obtain ⟨_,e1,e2⟩ := EP h1
       obtain ⟨_,e3,e4⟩ := EP h2
       unfold ACd at h
       split at h
       · cases h
       · rename_i hq
         have hqn : q.den s.vl = none := by
           unfold isNil at hq
           split at hq
           · rfl
           · cases hq
         have e5 : ∀ J,AD (s.e J) y = .pointer none := fun J => by rw [ev e3,e4,hqn]
         split at h
         · split at h
           · rename_i hp
             exact BY h fun J σ => by
               have := Y.jM (P := P) (e := s.e J) (bx := s.b) (σ := σ) (ty := ty) (T' := T') hT (x := x) (y := y) (q := p.den s.vl) (by rw [ev e1,e2]) (e5 J)
               rw [PV.Il hp] at this; exact this
           · exact Hd h fun J σ => Y.jM hT (by rw [ev e1,e2]) (e5 J)
         · split at h
           · rename_i hp
             exact BY h fun J σ => by
               have := Y.jN (P := P) (e := s.e J) (bx := s.b) (σ := σ) (ty := ty) (T' := T') hT (x := x) (y := y) (q := p.den s.vl) (by rw [ev e1,e2]) (e5 J)
               rw [PV.Il hp] at this; exact this
           · exact Hd h fun J σ => Y.jN hT (by rw [ev e1,e2]) (e5 J)
         · cases h
     · cases h
   · rename_i hT
     unfold ACe at h
     split at h
     · obtain ⟨t,s1,v1,h1,h2,h3,h4,h⟩ := S.FC h
       obtain ⟨u,s2,v2,g1,g2,g3,g4,h⟩ := S.FC h
       exact ⟨_,s2,h1.trans g1,fun J σ => Y.AJ2 hT (by rw [ev h3,h4]) (by rw [← h1.e J,ev g3,g4]),h⟩
     · obtain ⟨t,s1,v1,h1,h2,h3,h4,h⟩ := S.FC h
       obtain ⟨u,s2,v2,g1,g2,g3,g4,h⟩ := S.FC h
       exact ⟨_,s2,h1.trans g1,fun J σ => Y.AJ3 hT (by rw [ev h3,h4]) (by rw [← h1.e J,ev g3,g4]),h⟩
     · cases h
   · cases h
end
def S.val (s : S) (x : Operand) (K : SV → S → Prop) : Prop := match s.op x with
 | some v => K v s
 | none => False
def uY (x y z : Operand) (s : S) (K : SV → S → Prop) : Prop := s.qd (s.op z) fun t s => match t with
 | true => s.val x K
 | false => s.val y K
def xt (x : Operand) (s : S) (K : SV → S → Prop) : Prop := match s.op x with
 | some (.v (.a (.bl true))) => K (.at (.bl false)) s
 | some (.v (.a (.bl false))) => K (.at (.bl true)) s
 | some (.v (.a (.bs i n))) => K (.at (.bs i (!n))) s
 | _ => False
def xu (x : Operand) (s : S) (K : SV → S → Prop) : Prop := match Wb (s.op x) with
 | some (k,a) => ∀ x,x = k.wrap (0 - a) → K (.at (.int k x)) s
 | none => False
def jd (P : Program) (T T' : TypeId) (x : Operand) (s : S) (K : SV → S → Prop) : Prop := match (P.underlying T).isSome,P.underlying T' with
 | true,some (.int k') => match s.op x with
   | some (.v (.a (.num k a))) => K (.at (.num k' (k'.wrap a))) s
   | some (.v (.a (.int k a))) => ∀ x,x = k'.wrap a → K (.at (.int k' x)) s
   | _ => False
 | _,_ => False
def xv (P : Program) (T : TypeId) (x : Operand) (f : Nat) (s : S) (K : SV → S → Prop) : Prop := match P.underlying T with
 | some (.struct fs) => match fs[f]? with
   | some fd => match Wr P fd.type,jc (s.op x) with
     | some (_ + 1),some p => match p.xp with
       | true => K (.at (.pt (p.mv (p.off + fd.offset)))) s
       | false => False
     | _,_ => False
   | none => False
 | _ => False
def Bz {α : Type} : List α → Nat → Option α
 | [],_ => none
 | x :: _,0 => some x
 | _ :: l,n + 1 => Bz l n
def xw (x : Operand) (i : Nat) (s : S) (K : SV → S → Prop) : Prop := match s.op x with
 | some (.UB l) => match Bz l i with
   | some u => K (.v u) s
   | none => False
 | _ => False
def Zb (P : Program) (T : TypeId) (x : Operand) (f : Nat) (s : S) (K : SV → S → Prop) : Prop := match P.underlying T,s.op x with
 | some (.struct fs),some (.v (.agg l)) => match fs[f]? with
   | some fd => match Ws P fd.type with
     | some false => match Bz l fd.offset with
       | some u => K (.at u) s
       | none => False
     | some true => match Wr P fd.type with
       | some n => K (.v (.agg ((l.drop fd.offset).take n))) s
       | none => False
     | none => False
   | none => False
 | _,_ => False
def isNum : Option SV → Bool
 | some (.v (.a (.num _ _))) => true
 | _ => false
def xx (P : Program) (T : TypeId) (x y : Operand) (s : S) (K : SV → S → Prop) : Prop := match Wb (s.op y) with
 | none => False
 | some (_,i) => match P.underlying T with
   | some (.slice E) => match Wr P E,s.op x with
     | some z,some (.v (.a (.sl p n c))) => s.onP p fun q s => ((0 : Int) ≤ i ∧ i < ((n : Nat) : Int)) ∧ K (.at (.pt (q.mv (q.off + i.toNat * z)))) s
     | _,_ => False
   | some (.array n E) => match Wr P E,jc (s.op x) with
     | some z,some p => match p.xp with
       | false => False
       | true => match isNum (s.op y) with
         | true => match decide (0 ≤ i ∧ i < (n : Int)) with
           | true => K (.at (.pt (p.mv (p.off + i.toNat * z)))) s
           | false => False
         | false => ((0 : Int) ≤ i ∧ i < ((n : Nat) : Int)) ∧ K (.at (.pt (p.mv (p.off + i.toNat * z)))) s
     | _,_ => False
   | _ => False
def Wu : List Bg → Option (List ByteArray)
 | [] => some []
 | .str w :: l => match Wu l with
   | some r => some (w :: r)
   | none => none
 | _ :: _ => none
def je (P : Program) (T : TypeId) (x y : Operand) (s : S) (K : SV → S → Prop) : Prop := match P.underlying T,s.op x,Wb (s.op y) with
 | some .string,some (.v (.a (.str w))),some (_,i) => ∃ u : UInt8,(0 : Int) ≤ i ∧ (ByteArray.data w)[Int.toNat i]? = some u ∧ K (.at (.int .u8 ((UInt8.toNat u : Nat) : Int))) s
 | some (.array n E),some (.v (.agg l)),some (_,i) => match Ws P E,Wr P E,Wu l with
   | some false,some 1,some r => ((0 : Int) ≤ i ∧ i < ((n : Nat) : Int)) ∧ ∃ u : ByteArray,r[Int.toNat i]? = some u ∧ K (.at (.str u)) s
   | _,_,_ => False
 | _,_,_ => False
def xy (x : Operand) (s : S) (K : SV → S → Prop) : Prop := match s.op x with
 | some (.v (.a (.fn f a b))) => K (.at (.fn f a b)) s
 | some (.v (.a (.pt p))) => s.onP p fun q s => K (.at (.pt q)) s
 | _ => False
def S.Wv (s : S) : List Operand → Option (List SV)
 | [] => some []
 | x :: l => match s.op x,s.Wv l with
   | some v,some r => some (v :: r)
   | _,_ => none
def CK (vl : Vl) : List SV → List Value
 | [] => []
 | x :: l => x.den vl :: CK vl l
def yA (fn : Fn) (xs ys : Array Operand) (s : S) (K : SV → S → Prop) : Prop := match fn with
 | .func f => match s.Wv xs.toList,s.Wv ys.toList with
   | some a,some b => K (.at (.fn f (CK s.vl a).toArray (CK s.vl b).toArray)) s
   | _,_ => False
 | _ => False
def Zc (P : Program) (T : TypeId) (x : Operand) (s : S) (K : SV → S → Prop) : Prop := match P.underlying T with
 | some d => match isIf d with
   | false => match s.op x with
     | some v => K (.at (.raw (.iface T (v.den s.vl)))) s
     | none => False
   | true => False
 | none => False
def yB (P : Program) (x : Operand) (ts : Array TypeId) (s : S) (K : SV → S → Prop) : Prop := match ts.toList,s.op x with
 | [T],some (.v (.a (.sl _ n _))) => match P.underlying T with
   | some (.slice _) => K (.at (.int .i64 ((n : Nat) : Int))) s
   | _ => False
 | [T],some (.v (.a (.str w))) => match P.underlying T with
   | some .string => K (.at (.int .i64 ((ByteArray.size w : Nat) : Int))) s
   | _ => False
 | _,_ => False
def yC (P : Program) (x : Operand) (ts : Array TypeId) (s : S) (K : SV → S → Prop) : Prop := match ts.toList,s.op x with
 | [T],some (.v (.a (.sl _ _ c))) => match P.underlying T with
   | some (.slice _) => K (.at (.int .i64 ((c : Nat) : Int))) s
   | _ => False
 | _,_ => False
section
variable {P : Program} {s : S} {K : SV → S → Prop} {T T' ty : TypeId} {x y z : Operand}
theorem UG {op : Op} (h : s.val x K) (hy : ∀ v J σ,AD (s.e J) x = v → Yd P (s.e J) s.b σ op ty v) : YP P op ty s K := by
 unfold S.val at h
 split at h
 · rename_i v hv
   exact BY h fun J σ => hy _ J σ (ev hv)
 · cases h
theorem Ww (h : uY x y z s K) : YP P (.pick z x y) ty s K := by
 obtain ⟨t,s1,v1,h1,h2,h3,h4,h⟩ := S.FC h
 have hz : ∀ J,AD (s.e J) z = .bool t := fun J => by rw [ev h3,h4]
 cases t with
 | true =>
   simp only [S.val] at h
   split at h
   · rename_i v hv
     exact ⟨v,s1,h1,fun J σ => Y.uQ (hz J) (by rw [← h1.e J]; exact ev hv),h⟩
   · cases h
 | false =>
   simp only [S.val] at h
   split at h
   · rename_i v hv
     exact ⟨v,s1,h1,fun J σ => Y.uR (hz J) (by rw [← h1.e J]; exact ev hv),h⟩
   · cases h
theorem Zd (h : xt x s K) : YP P (.unOp .not T x) ty s K := by
 unfold xt at h
 split at h
 · rename_i hv; exact BY h fun J σ => Y.not (p := true) (by rw [ev hv]; rfl)
 · rename_i hv; exact BY h fun J σ => Y.not (p := false) (by rw [ev hv]; rfl)
 · rename_i i n hv
   refine BY h fun J σ => ?_
   cases n with
   | false => exact Y.not (by rw [ev hv]; rfl)
   | true =>
     have := Y.not (P := P) (e := s.e J) (bx := s.b) (σ := σ) (ty := ty) (T := T) (x := x) (p := !(nth (.var false) s.vl.β i).val) (by rw [ev hv]; rfl)
     rw [Bool.not_not] at this
     exact this
 · cases h
theorem Ze (h : xu x s K) : YP P (.unOp .neg T x) ty s K := by
 unfold xu at h
 split at h
 · rename_i k a hv
   obtain ⟨u,e1,e2⟩ := Bk hv
   exact He h fun J σ => Y.neg (by rw [ev e1,e2])
 · cases h
theorem Wx (h : jd P T T' x s K) : YP P (.convert T T' x) ty s K := by
 unfold jd at h
 split at h
 · rename_i h1 h2
   split at h
   · rename_i hv; exact BY h fun J σ => Y.conv h1 h2 (by rw [ev hv]; rfl)
   · rename_i hv; exact He h fun J σ => Y.conv h1 h2 (by rw [ev hv]; rfl)
   · cases h
 · cases h
theorem Zf {f : Nat} (h : xv P T x f s K) : YP P (.fieldAddr T x f) ty s K := by
 unfold xv at h
 split at h
 · rename_i fs hT
   split at h
   · rename_i fd hf
     split at h
     · rename_i n p hz hp
       split at h
       · rename_i hA
         obtain ⟨u,e1,e2⟩ := EP hp
         refine BY h fun J σ => ?_
         have := Y.fieldAddr (P := P) (e := s.e J) (bx := s.b) (σ := σ) (ty := ty) (x := x) (a' := ⟨p.Qg s.vl,p.off + fd.offset,none⟩) hT hf (CP hz) (by rw [ev e1,e2,PV.Il hA]) rfl
         simpa only [SV.den,GU.den,Bg.den,PV.ZY hA] using this
       · cases h
     · cases h
   · cases h
 · cases h
theorem OQ {vl : Vl} : ∀ {l : List Bg} {i : Nat} {u : Bg},Bz l i = some u → (A9 vl l)[i]? = some (u.den vl)
 | x :: l,0,u,h => by simp only [Bz,Option.some.injEq] at h; subst h; rfl
 | x :: l,i + 1,u,h => by simp only [Bz] at h; simp only [A9,List.getElem?_cons_succ]; exact OQ h
theorem Qh {vl : Vl} : ∀ {l : List GU} {i : Nat} {u : GU},Bz l i = some u → (HL vl l)[i]? = some (u.den vl)
 | x :: l,0,u,h => by simp only [Bz,Option.some.injEq] at h; subst h; rfl
 | x :: l,i + 1,u,h => by simp only [Bz] at h; simp only [HL,List.getElem?_cons_succ]; exact Qh h
theorem Qi (vl : Vl) : ∀ l : List Bg,A9 vl l = l.map (Bg.den vl)
 | [] => rfl
 | x :: l => by simp only [A9,List.map_cons]; rw [Qi vl l]
theorem Zg {i : Nat} (h : xw x i s K) : YP P (.extract x i) ty s K := by
 unfold xw at h
 split at h
 · rename_i l hv
   split at h
   · rename_i u hu
     exact BY h fun J σ => Y.extract (by rw [ev hv]; rfl) (by simpa [SV.den] using Qh hu)
   · cases h
 · cases h
theorem VQ {f : Nat} (h : Zb P T x f s K) : YP P (.field T x f) ty s K := by
 unfold Zb at h
 split at h
 · rename_i fs l hT hv
   split at h
   · rename_i fd hf
     split at h
     · rename_i ha
       split at h
       · rename_i u hu
         exact BY h fun J σ => Y.xL hT hf (EO ha) (by rw [ev hv]; rfl) (by simpa [SV.den,GU.den] using OQ hu)
       · cases h
     · rename_i ha
       split at h
       · rename_i n hn
         refine BY h fun J σ => ?_
         have := Y.xM (P := P) (e := s.e J) (bx := s.b) (σ := σ) (ty := ty) (x := x) hT hf (EO ha) (CP hn) (cs := (A9 s.vl l).toArray) (by rw [ev hv]; rfl) (cs' := (A9 s.vl ((l.drop fd.offset).take n)).toArray) (by simp [Qi,List.extract_eq_take_drop])
         exact this
       · cases h
     · cases h
   · cases h
 · cases h
theorem Zh (h : xx P T x y s K) : YP P (.indexAddr T x y) ty s K := by
 unfold xx at h
 split at h
 · cases h
 · rename_i k i hi
   obtain ⟨u,e1,e2⟩ := Bk hi
   have hy : ∀ J,AD (s.e J) y = .int k i := fun J => by rw [ev e1,e2]
   split at h
   · rename_i E hT
     split at h
     · rename_i z p n c hz hv
       obtain ⟨q,s',h1,h2,h3,h4,h5,h⟩ := S.UF h
       refine ⟨_,s',h1,fun J σ => ?_,h⟩
       have := Y.idx (P := P) (e := s.e J) (bx := s.b) (σ := σ) (ty := ty) (x := x) (y := y) (a' := ⟨q.Qg s.vl,q.off + i.toNat * z,none⟩) hT (CP hz) (b := q.Qg s.vl) (o := q.off) (n := n) (c := c) (by
         rw [ev hv]; show Value.slice (p.den s.vl) n c = _; rw [← h4,PV.Il h3]) (hy J) h5 rfl
       simpa only [SV.den,GU.den,Bg.den,h2,PV.ZY h3] using this
     · cases h
   · rename_i n E hT
     split at h
     · rename_i z p hz hp
       obtain ⟨u2,e3,e4⟩ := EP hp
       split at h
       · cases h
       · rename_i hA
         have go : (0 ≤ i ∧ i < (n : Int)) → K (.at (.pt (p.mv (p.off + i.toNat * z)))) s → YP P (.indexAddr T x y) ty s K := fun hr hk => by
           refine BY hk fun J σ => ?_
           have := Y.AJu (P := P) (e := s.e J) (bx := s.b) (σ := σ) (ty := ty) (x := x) (y := y) (a' := ⟨p.Qg s.vl,p.off + i.toNat * z,none⟩) hT (CP hz) (b := p.Qg s.vl) (o := p.off) (by rw [ev e3,e4,PV.Il hA]) (hy J) hr rfl
           simpa only [SV.den,GU.den,Bg.den,PV.ZY hA] using this
         split at h
         · split at h
           · rename_i hd
             exact go (of_decide_eq_true hd) h
           · cases h
         · exact go h.1 h.2
     · cases h
   · cases h
theorem UH {vl : Vl} : ∀ {l : List Bg} {r : List ByteArray},Wu l = some r → A9 vl l = r.map .string
 | [],r,h => by simp only [Wu,Option.some.injEq] at h; subst h; rfl
 | x :: l,r,h => by
   cases x <;> simp only [Wu] at h <;> try (cases h; done)
   split at h
   · rename_i r' h1
     cases h
     simp only [A9,List.map_cons,UH h1]; rfl
   · cases h
theorem Wy (h : je P T x y s K) : YP P (.index T x y) ty s K := by
 unfold je at h
 split at h
 · rename_i w k i hT hx hy
   obtain ⟨u2,e3,e4⟩ := Bk hy
   obtain ⟨u,h0,h1,h⟩ := h
   exact BY h fun J σ => Y.xO hT (by rw [ev hx]; rfl) (by rw [ev e3,e4]) h0 h1
 · rename_i n E l k i hT hx hy
   obtain ⟨u2,e3,e4⟩ := Bk hy
   split at h
   · rename_i r ha hz hr
     obtain ⟨h0,u,h1,h⟩ := h
     refine BY h fun J σ => Y.xN hT (EO ha) (CP hz) (cs := (A9 s.vl l).toArray) (by rw [ev hx]; rfl) (by rw [ev e3,e4]) h0 ?_
     rw [UH hr]
     simp [h1]
   · cases h
 · cases h
theorem Zi (h : xy x s K) : YP P (.nilCheck x) ty s K := by
 unfold xy at h
 split at h
 · rename_i hv
   exact BY h fun J σ => Y.eW (by rw [ev hv]; rfl)
 · rename_i p hv
   obtain ⟨q,s',h1,h2,h3,h4,h⟩ := S.UF h
   refine ⟨_,s',h1,fun J σ => ?_,h⟩
   have := Y.nilCheck (P := P) (e := s.e J) (bx := s.b) (σ := σ) (ty := ty) (x := x) (a := ⟨q.Qg s.vl,q.off,none⟩) (by
     rw [ev hv]; show Value.pointer (p.den s.vl) = _; rw [← h4,PV.Il h3])
   simpa only [SV.den,GU.den,Bg.den,h2,PV.Il h3] using this
 · cases h
theorem DC : ∀ {l : List Operand} {r : List SV} {J : Env},s.Wv l = some r → l.map (AD (s.e J)) = CK s.vl r
 | [],r,J,h => by simp only [S.Wv,Option.some.injEq] at h; subst h; rfl
 | x :: l,r,J,h => by
   simp only [S.Wv] at h
   split at h
   · rename_i v r' h1 h2
     cases h
     simp only [List.map_cons,CK]
     rw [ev h1,DC h2]
   · cases h
theorem Zj {fn : Fn} {xs ys : Array Operand} (h : yA fn xs ys s K) : YP P (.makeFunc fn xs ys) ty s K := by
 unfold yA at h
 split at h
 · split at h
   · rename_i a b h1 h2
     exact BY h fun J σ => Y.makeFunc (by simpa using DC h1) (by simpa using DC h2)
   · cases h
 · cases h
theorem VR (h : Zc P T x s K) : YP P (.makeInterface T x) ty s K := by
 unfold Zc at h
 split at h
 · rename_i d hT
   split at h
   · rename_i hd
     split at h
     · rename_i v hv
       exact BY h fun J σ => Y.iface hT hd (ev hv)
     · cases h
   · cases h
 · cases h
theorem Zk {ts : Array TypeId} (h : yB P x ts s K) : YP P (.call { callee := .builtin .len,args := #[x],argTypes := ts }) ty s K := by
 unfold yB at h
 split at h
 · rename_i T p n c h1 hv
   have Wa : ts = #[T] := by rw [← Array.toList_inj]; simpa using h1
   split at h
   · rename_i hT
     exact BY h fun J σ => Y.xJ hT (by rw [ev hv]; rfl) Wa
   · cases h
 · rename_i T w h1 hv
   have Wa : ts = #[T] := by rw [← Array.toList_inj]; simpa using h1
   split at h
   · rename_i hT
     exact BY h fun J σ => Y.xK hT (by rw [ev hv]; rfl) Wa
   · cases h
 · cases h
theorem Zl {ts : Array TypeId} (h : yC P x ts s K) : YP P (.call { callee := .builtin .cap,args := #[x],argTypes := ts }) ty s K := by
 unfold yC at h
 split at h
 · rename_i T p n c h1 hv
   have Wa : ts = #[T] := by rw [← Array.toList_inj]; simpa using h1
   split at h
   · rename_i hT
     exact BY h fun J σ => Y.AJt hT (by rw [ev hv]; rfl) Wa
   · cases h
 · cases h
end
def isZero : Option SV → Bool
 | some (.v (.a (.num _ 0))) => true
 | _ => false
def Zm (P : Program) (T : TypeId) (x : Operand) (lo hi : Option Operand) (s : S) (K : SV → S → Prop) : Prop := match P.underlying T,s.op x with
 | some (.slice E),some (.v (.a (.sl p n c))) => match Wr P E with
   | none => False
   | some z => match lo,hi with
     | none,none => True ∧ K (.at (.sl p n c)) s
     | none,some h => match Wb (s.op h) with
       | some (_,h) => ((0 : Int) ≤ h ∧ h ≤ ((c : Nat) : Int)) ∧ K (.at (.sl p (Int.toNat h) c)) s
       | none => False
     | some l,none => match isZero (s.op l) with
       | true => ((0 : Int) ≤ 0 ∧ (0 : Int) ≤ ((n : Nat) : Int)) ∧ K (.at (.sl p n c)) s
       | false => match Wb (s.op l) with
         | some (_,l) => ((0 : Int) ≤ l ∧ l ≤ ((n : Nat) : Int)) ∧ K (.at (.sl (.lit (Jg (p.den s.vl) (Int.toNat l) c z)) (n - Int.toNat l) (c - Int.toNat l))) s
         | none => False
     | some l,some h => match Wb (s.op h) with
       | none => False
       | some (_,h) => match isZero (s.op l) with
         | true => ((0 : Int) ≤ 0 ∧ (0 : Int) ≤ h ∧ h ≤ ((c : Nat) : Int)) ∧ K (.at (.sl p (Int.toNat h) c)) s
         | false => match Wb (s.op l) with
           | some (_,l) => ((0 : Int) ≤ l ∧ l ≤ h ∧ h ≤ ((c : Nat) : Int)) ∧ K (.at (.sl (.lit (Jg (p.den s.vl) (Int.toNat l) c z)) (Int.toNat h - Int.toNat l) (c - Int.toNat l))) s
           | none => False
 | _,_ => False
def qe {α : Type} : List α → Nat → α → List α
 | [],_,_ => []
 | _ :: l,0,y => y :: l
 | x :: l,n + 1,y => x :: qe l n y
def Zn : List Bg → Nat → List Bg → List Bg
 | c,_,[] => c
 | c,o,x :: l => Zn (qe c o x) (o + 1) l
def Bg.one : Bg → Bool
 | .raw v => v.oneCell'
 | _ => true
def SV.flat : SV → Option (List Bg)
 | .v (.a x) => match x.one with
   | true => some [x]
   | false => none
 | .v (.agg l) => some l
 | .UB _ => none
def UI (place : Nat → Option (Nat × Nat)) : List Bg → List (Nat × SV) → Option (List Bg)
 | c,[] => some c
 | c,(i,v) :: r => match place i,v.flat with
   | some (off,z),some l => match decide (l.length ≠ z) || decide (off + l.length > c.length) with
     | true => none
     | false => UI place (Zn c off l) r
   | _,_ => none
def S.parts (s : S) : List (Nat × Operand) → Option (List (Nat × SV))
 | [] => some []
 | (i,x) :: l => match s.op x,s.parts l with
   | some v,some r => some ((i,v) :: r)
   | _,_ => none
def MT (vl : Vl) : List (Nat × SV) → List (Nat × Value)
 | [] => []
 | (i,x) :: l => (i,x.den vl) :: MT vl l
def M4 (P : Program) : List Field → Option (List (Nat × Nat))
 | [] => some []
 | f :: l => match Wr P f.type,M4 P l with
   | some z,some r => some ((f.offset,z) :: r)
   | _,_ => none
def Zo (P : Program) (T : TypeId) (ps : List (Nat × SV)) : Option (List Bg) :=
 match P.info? T,P.underlying T with
 | some it,some (.array _ e) => match it.zero,Wr P e with
   | some z,some ie => UI (fun i => some (i * ie,ie)) (O8 z.cells.toList) ps
   | _,_ => none
 | some it,some (.struct fs) => match it.zero,M4 P fs.toList with
   | some z,some pl => UI (fun i => Bz pl i) (O8 z.cells.toList) ps
   | _,_ => none
 | _,_ => none
def Zp (P : Program) (T : TypeId) (ps : Array (Nat × Operand)) (s : S) (K : SV → S → Prop) : Prop := match s.parts ps.toList with
 | none => False
 | some vs => match Zo P T vs with
   | some l => K (.v (.agg l)) s
   | none => False
section
variable {P : Program} {s : S} {K : SV → S → Prop} {T T' ty : TypeId} {x y z : Operand}
theorem O9 {J : Env} (h : isZero (s.op x) = true) : ∃ k,AD (s.e J) x = .int k 0 := by
 cases hv : s.op x with
 | none => rw [hv] at h; cases h
 | some v =>
   rw [hv] at h
   unfold isZero at h
   split at h
   · rename_i k hk
     cases hk
     exact ⟨k,by rw [ev hv]; rfl⟩
   · cases h
theorem VT {lo hi : Option Operand} (h : Zm P T x lo hi s K) : YP P (.slice T x lo hi none) ty s K := by
 unfold Zm at h
 split at h
 · rename_i E p n c hT hv
   have hx : ∀ J,AD (s.e J) x = .slice (p.den s.vl) n c := fun J => by rw [ev hv]; rfl
   split at h
   · cases h
   · rename_i z hz
     split at h
     · exact BY h.2 fun J σ => Y.sla hT (CP hz) (hx J) trivial
     · split at h
       · rename_i h1
         obtain ⟨u,e1,e2⟩ := Bk h1
         exact BY h.2 fun J σ => Y.slh hT (CP hz) (hx J) (by rw [ev e1,e2]) h.1
       · cases h
     · split at h
       · rename_i hz0
         exact BY h.2 fun J σ => Y.AJ1 hT (CP hz) (hx J) (O9 hz0).choose_spec h.1
       · split at h
         · rename_i h1
           obtain ⟨u,e1,e2⟩ := Bk h1
           exact BY h.2 fun J σ => Y.sll hT (CP hz) (hx J) (by rw [ev e1,e2]) h.1
         · cases h
     · split at h
       · cases h
       · rename_i h2
         obtain ⟨u,e1,e2⟩ := Bk h2
         split at h
         · rename_i hz0
           exact BY h.2 fun J σ => Y.ACS hT (CP hz) (hx J) (O9 hz0).choose_spec (by rw [ev e1,e2]) h.1
         · split at h
           · rename_i h1
             obtain ⟨u2,e3,e4⟩ := Bk h1
             exact BY h.2 fun J σ => Y.ACR hT (CP hz) (hx J) (by rw [ev e3,e4]) (by rw [ev e1,e2]) h.1
           · cases h
 · cases h
theorem UJ {vl : Vl} {a : Bg} : ∀ {l : List Bg} {i : Nat},A9 vl (qe l i a) = (A9 vl l).set i (a.den vl)
 | [],_ => rfl
 | x :: l,0 => rfl
 | x :: l,i + 1 => by simp only [qe,A9,List.set_cons_succ]; rw [UJ]
theorem Qj {vl : Vl} : ∀ {l c : List Bg} {o : Nat},(A9 vl (Zn c o l)).toArray = Mz (A9 vl c).toArray o (A9 vl l)
 | [],_,_ => rfl
 | x :: l,c,o => by
   simp only [Zn,A9,Mz]
   rw [Qj,UJ]
   simp
theorem UK : ∀ (l : List Value) (c : Array Value) (off k : Nat),(l.zipIdx k).foldl (fun cs (x : Value × Nat) => cs.setIfInBounds (off + x.2) x.1) c = Mz c (off + k) l
 | [],c,off,k => rfl
 | x :: l,c,off,k => by
   simp only [List.zipIdx_cons,List.foldl_cons,Mz]
   rw [UK l _ off (k + 1)]; rfl
theorem Cz {vl : Vl} : ∀ l : List Bg,(A9 vl l).length = l.length
 | [] => rfl
 | x :: l => by simp only [A9,List.length_cons]; rw [Cz]
theorem Wz {vl : Vl} {v : SV} {l : List Bg} (h : v.flat = some l) : (v.den vl).cells = (A9 vl l).toArray := by
 unfold SV.flat at h
 split at h
 · rename_i x
   split at h
   · rename_i h1
     cases h
     simp only [SV.den,GU.den,A9]
     cases x <;> try rfl
     case bs i n => cases n <;> rfl
     case raw v => cases v <;> first | rfl | cases h1
   · cases h
 · cases h; rfl
 · cases h
theorem OR {vl : Vl} {place : Nat → Option (Nat × Nat)} : ∀ {ps : List (Nat × SV)} {c out : List Bg},UI place c ps = some out → Instr.fill place (A9 vl c).toArray (MT vl ps) = some (A9 vl out).toArray
 | [],c,out,h => by simp only [UI,Option.some.injEq] at h; subst h; rfl
 | (i,v) :: r,c,out,h => by
   simp only [UI] at h
   split at h
   · rename_i off z l h1 h2
     split at h
     · cases h
     · rename_i hd
       simp only [Bool.or_eq_false_iff,decide_eq_false_iff_not] at hd
       have hc := Wz (vl := vl) h2
       have := OR (vl := vl) h
       simp only [MT,Instr.fill,h1,hc]
       have hs : ((A9 vl l).toArray.size ≠ z || off + (A9 vl l).toArray.size > (A9 vl c).toArray.size) = false := by
         simp [Cz]; omega
       rw [if_neg (by simpa using hs)]
       rw [← this]
       congr 1
       rw [Qj]
       have h9 := UK (A9 vl l) (A9 vl c).toArray off 0
       rw [Nat.add_zero] at h9
       rw [← h9]
       simp
   · cases h
theorem MU {J : Env} : ∀ {l : List (Nat × Operand)} {r : List (Nat × SV)},s.parts l = some r → l.map (fun p => (p.1,AD (s.e J) p.2)) = MT s.vl r
 | [],r,h => by simp only [S.parts,Option.some.injEq] at h; subst h; rfl
 | (i,x) :: l,r,h => by
   simp only [S.parts] at h
   split at h
   · rename_i v r' h1 h2
     cases h
     simp only [List.map_cons,MT]
     rw [ev h1,MU h2]
   · cases h
theorem M5 : ∀ {l : List Field} {r : List (Nat × Nat)},M4 P l = some r → l.mapM (fun f => (P.info? f.type).map fun i => (f.offset,i.size)) = some r
 | [],r,h => by simp only [M4,Option.some.injEq] at h; subst h; rfl
 | f :: l,r,h => by
   simp only [M4] at h
   split at h
   · rename_i z r' h1 h2
     cases h
     unfold Wr at h1
     cases hi : P.info? f.type with
     | none => rw [hi] at h1; cases h1
     | some i =>
       rw [hi] at h1; simp only [Option.map_some,Option.some.injEq] at h1; subst h1
       simp [List.mapM_cons,hi,M5 h2]
   · cases h
theorem cK {α : Type} : ∀ (l : List α) (i : Nat),Bz l i = l[i]?
 | [],_ => by simp [Bz]
 | x :: l,0 => rfl
 | x :: l,i + 1 => by simp only [Bz,List.getElem?_cons_succ]; exact cK l i
theorem Zq {vl : Vl} {ps : List (Nat × SV)} {l : List Bg} (h : Zo P T ps = some l) : P.built T (MT vl ps) = some (A9 vl l).toArray := by
 unfold Zo at h
 unfold Program.built
 split at h
 · rename_i it n e h1 h2
   rw [h1,h2]
   split at h
   · rename_i z ie h3 h4
     unfold Wr at h4
     cases hi : P.info? e with
     | none => rw [hi] at h4; cases h4
     | some i =>
       rw [hi] at h4; simp only [Option.map_some,Option.some.injEq] at h4; subst h4
       have := OR (vl := vl) h
       rw [H0] at this
       simpa [h3,hi] using this
   · cases h
 · rename_i it fs h1 h2
   rw [h1,h2]
   split at h
   · rename_i z pl h3 h4
     have := OR (vl := vl) h
     rw [H0] at this
     have h5 := M5 h4
     simp only [h3,h5]
     simpa [cK] using this
   · cases h
 · cases h
theorem VU {ps : Array (Nat × Operand)} (h : Zp P T ps s K) : YP P (.build T ps) ty s K := by
 unfold Zp at h
 split at h
 · cases h
 · rename_i vs hv
   split at h
   · rename_i l hl
     exact BY h fun J σ => Y.build (MU hv) (Zq hl)
   · cases h
end
end Tw
end
section
namespace Tw
open Go
variable [Er]
structure Vl.Le (v w : Vl) : Prop where
 le : v.le w
 ln : v.ρ.length ≤ w.ρ.length ∧ v.β.length ≤ w.β.length ∧ v.δ.length ≤ w.δ.length
theorem Vl.Le.refl (v : Vl) : v.Le v := ⟨.refl v,Nat.le_refl _,Nat.le_refl _,Nat.le_refl _⟩
theorem Vl.Le.trans {u v w : Vl} (h : u.Le v) (g : v.Le w) : u.Le w := ⟨h.le.trans g.le h.ln,by have := h.ln; have := g.ln; omega⟩
theorem Vl.cL (v : Vl) (p : Option Addr) : v.Le (v.jb p) := ⟨v.qb p,by simp [Vl.jb]⟩
theorem Vl.cM (v : Vl) (k : BK) : v.Le (v.ZX k) := ⟨v.cJ k,by simp [Vl.ZX]⟩
def exA (P : Program) (t : TypeId) (vl : Vl) (k : Bg → Vl → Prop) : Prop := match P.underlying t with
 | some (.int kd) => ∃ x : Int,k (.int kd x) vl
 | some .bool => ∃ b : Bool,k (.bs vl.β.length false) (vl.ZX (.var b))
 | some (.slice _) => ∃ p : Option Addr,∃ n : Nat,∃ c : Nat,k (.sl (.var vl.ρ.length) n c) (vl.jb p)
 | some .string => ∃ w : ByteArray,k (.str w) vl
 | some (.pointer _) => ∃ q : Option Addr,k (.pt (.var vl.ρ.length)) (vl.jb q)
 | some (.map _ _) => ∃ m : Option Nat,k (.mp m) vl
 | _ => ∃ v : Value,k (.raw v) vl
def yD (P : Program) : List TypeId → Vl → (List Bg → Vl → Prop) → Prop
 | [],vl,k => k [] vl
 | t :: l,vl,k => exA P t vl fun a vl => yD P l vl fun r vl => k (a :: r) vl
def jf (P : Program) : Nat → TypeId → List TypeId
 | 0,t => [t]
 | f + 1,t => match P.underlying t with
   | some (.struct fs) => (fs.toList.map fun fd => jf P f fd.type).flatten
   | some (.array n e) => (List.replicate n (jf P f e)).flatten
   | _ => [t]
def small (P : Program) (t : TypeId) : Bool := match Ws P t,Wr P t with
 | some true,some n => Nat.ble n 24
 | _,_ => false
def pY (P : Program) (t : TypeId) (vl : Vl) (k : GU → Vl → Prop) : Prop := match small P t with
 | true => yD P (jf P 40 t) vl fun l vl => k (.agg l) vl
 | false => exA P t vl fun a vl => k (.a a) vl
def yE (P : Program) : List TypeId → Vl → (List GU → Vl → Prop) → Prop
 | [],vl,k => k [] vl
 | t :: l,vl,k => pY P t vl fun a vl => yE P l vl fun r vl => k (a :: r) vl
def exV (P : Program) (t : TypeId) (vl : Vl) (k : SV → Vl → Prop) : Prop := match P.underlying t with
 | some (.tuple ts) => yE P ts.toList vl fun l vl => k (.UB l) vl
 | some (.float d) => ∃ x : Nat,k (.v (.a (.raw (.float d x)))) vl
 | some (.complex d) => ∃ x : Nat,∃ y : Nat,k (.v (.a (.raw (.complex d x y)))) vl
 | _ => pY P t vl fun a vl => k (.v a) vl
def UL (P : Program) (t : TypeId) (vl : Vl) (k : SV → Vl → Prop) : Prop := match P.underlying t with
 | some (.func _ _ _) => ∃ f : Fn,∃ a : Array Value,∃ c : Array Value,k (.v (.a (.raw (.func f a c)))) vl
 | _ => exV P t vl k
section
variable {P : Program}
theorem UM {t : TypeId} {vl : Vl} {k : Bg → Vl → Prop} (h : exA P t vl k) : ∃ a w,vl.Le w ∧ k a w := by
 unfold exA at h
 split at h
 · obtain ⟨x,h⟩ := h; exact ⟨_,_,.refl _,h⟩
 · obtain ⟨x,h⟩ := h; exact ⟨_,_,Vl.cM _ _,h⟩
 · obtain ⟨p,n,c,h⟩ := h; exact ⟨_,_,Vl.cL _ _,h⟩
 · obtain ⟨x,h⟩ := h; exact ⟨_,_,.refl _,h⟩
 · obtain ⟨x,h⟩ := h; exact ⟨_,_,Vl.cL _ _,h⟩
 · obtain ⟨x,h⟩ := h; exact ⟨_,_,.refl _,h⟩
 · obtain ⟨x,h⟩ := h; exact ⟨_,_,.refl _,h⟩
theorem Qk : ∀ {l : List TypeId} {vl : Vl} {k : List Bg → Vl → Prop},yD P l vl k → ∃ a w,vl.Le w ∧ k a w
 | [],vl,k,h => ⟨_,_,.refl _,h⟩
 | t :: l,vl,k,h => by
   obtain ⟨a,w,h1,h⟩ := UM h
   obtain ⟨r,w2,h2,h⟩ := Qk h
   exact ⟨_,_,h1.trans h2,h⟩
theorem D8 {t : TypeId} {vl : Vl} {k : GU → Vl → Prop} (h : pY P t vl k) : ∃ a w,vl.Le w ∧ k a w := by
 unfold pY at h
 split at h
 · obtain ⟨a,w,h1,h⟩ := Qk h; exact ⟨_,_,h1,h⟩
 · obtain ⟨a,w,h1,h⟩ := UM h; exact ⟨_,_,h1,h⟩
theorem Ql : ∀ {l : List TypeId} {vl : Vl} {k : List GU → Vl → Prop},yE P l vl k → ∃ a w,vl.Le w ∧ k a w
 | [],vl,k,h => ⟨_,_,.refl _,h⟩
 | t :: l,vl,k,h => by
   obtain ⟨a,w,h1,h⟩ := D8 h
   obtain ⟨r,w2,h2,h⟩ := Ql h
   exact ⟨_,_,h1.trans h2,h⟩
theorem UN {t : TypeId} {vl : Vl} {k : SV → Vl → Prop} (h : exV P t vl k) : ∃ a w,vl.Le w ∧ k a w := by
 unfold exV at h
 split at h
 · obtain ⟨a,w,h1,h⟩ := Ql h; exact ⟨_,_,h1,h⟩
 · obtain ⟨x,h⟩ := h; exact ⟨_,_,.refl _,h⟩
 · obtain ⟨x,y,h⟩ := h; exact ⟨_,_,.refl _,h⟩
 · obtain ⟨a,w,h1,h⟩ := D8 h; exact ⟨_,_,h1,h⟩
theorem eh {t : TypeId} {vl : Vl} {k : SV → Vl → Prop} (h : UL P t vl k) : ∃ a w,vl.Le w ∧ k a w := by
 unfold UL at h
 split at h
 · obtain ⟨f,a,c,h⟩ := h; exact ⟨_,_,.refl _,h⟩
 · exact UN h
end
def S.ex (s : S) (P : Program) (t : TypeId) (K : SV → S → Prop) : Prop := match s.ok with
 | true => exV P t s.vl fun v vl => K v (s.w vl)
 | false => False
theorem S.Qm {s : S} {P : Program} {t : TypeId} {K : SV → S → Prop} (h : s.ex P t K) : ∃ v s',s.H3 s' ∧ K v s' := by
 unfold S.ex at h
 cases hs : s.ok with
 | false => rw [hs] at h; cases h
 | true =>
   rw [hs] at h
   obtain ⟨v,w,h1,h⟩ := UN h
   exact ⟨v,_,S.Qf hs h1.le,h⟩
def eqV (x : SV) (vl : Vl) (v : Value) (F : Prop) : Prop := match x with
 | .v (.a (.raw u)) => u = v ∧ F
 | x => v = x.den vl ∧ F
theorem ej {x : SV} {vl : Vl} {v : Value} {F : Prop} (h : eqV x vl v F) : v = x.den vl ∧ F := by
 unfold eqV at h
 split at h
 · exact ⟨h.1.symm,h.2⟩
 · exact h
def W0 : List FA → Nat → Option (TypeId × List Bg)
 | [],_ => none
 | (i,t,cs) :: l,j => bif Nat.beq i j then some (t,cs) else W0 l j
theorem Jk {vl : Vl} : ∀ {l : List FA} {j : Nat} {t : TypeId} {cs : List Bg},W0 l j = some (t,cs) → (nth 0 vl.δ j,Obj.cells (A9 vl cs).toArray t (0,0)) ∈ EM vl l
 | (i,u,ds) :: l,j,t,cs,h => by
   simp only [W0] at h
   cases hi : Nat.beq i j with
   | true =>
     rw [hi] at h; simp only [cond_true,Option.some.injEq,Prod.mk.injEq] at h
     obtain ⟨rfl,rfl⟩ := h
     have := Nat.eq_of_beq_eq_true hi
     subst this
     exact List.mem_cons_self ..
   | false =>
     rw [hi] at h; simp only [cond_false] at h
     exact List.mem_cons_of_mem _ (Jk h)
def ldV (P : Program) (T : TypeId) (x : Operand) (s : S) (K : Option Nat → SV → S → Prop) : Prop := match jc (s.op x) with
 | some (.bx i o) => match W0 s.bx i,Ws P T with
   | some (_,cs),some true => match Wr P T with
     | some n => match decide (((cs.drop o).take n).length = n) with
       | true => K none (.v (.agg ((cs.drop o).take n))) s
       | false => False
     | none => False
   | some (_,cs),some false => match Bz cs o with
     | some u => K none (.at u) s
     | none => False
   | _,_ => False
 | some (.at b o) => match Ws P T,Wr P T with
   | some true,some n => s.ex P T fun v s => match v with
     | .v (.agg l) => match decide (l.length = n) with
       | true => Au s.σ b o (A9 s.vl l) ∧ K (some b) v s
       | false => False
     | _ => False
   | some false,some _ => s.ex P T fun v s => Hp.ld s.σ ⟨b,o,none⟩ = some (v.den s.vl) ∧ K (some b) v s
   | _,_ => False
 | _ => False
theorem Hp.jg {σ : Hp} {b o : Nat} {v : Value} (h : Hp.ld σ ⟨b,o,none⟩ = some v) : Hp.ld (fun x => if x = b then σ x else none) ⟨b,o,none⟩ = some v := by
 unfold Hp.ld at *
 simpa using h
theorem Au.lim {σ : Hp} {b : Nat} : ∀ {l : List Value} {o : Nat},Au σ b o l → Au (fun x => if x = b then σ x else none) b o l
 | [],_,_ => trivial
 | v :: l,o,h => ⟨Hp.jg h.1,Au.lim h.2⟩
theorem UO {P : Program} {T ty : TypeId} {x : Operand} {s : S} {K : Option Nat → SV → S → Prop} (h : ldV P T x s K) :
   ∃ m v s',s.H3 s' ∧ K m v s' ∧ ∀ J,match m with
     | none => ∀ σ,Yd P (s.e J) s.b σ (.load T x) ty (v.den s'.vl)
     | some b => Yd P (s.e J) s.b (fun x => if x = b then s.σ x else none) (.load T x) ty (v.den s'.vl) := by
 unfold ldV at h
 split at h
 · rename_i i o hp
   obtain ⟨u,e1,e2⟩ := EP hp
   have hx : ∀ J,AD (s.e J) x = .pointer (some ⟨nth 0 s.vl.δ i,o,none⟩) := fun J => by rw [ev e1,e2]; rfl
   split at h
   · rename_i t cs hb ha
     split at h
     · rename_i n hn
       split at h
       · rename_i hd
         have hd := of_decide_eq_true hd
         refine ⟨none,_,s,.refl s,h,fun J σ => ?_⟩
         have := Y.AJw (P := P) (e := s.e J) (bx := s.b) (σ := σ) (ty := ty) (vs := A9 s.vl ((cs.drop o).take n)) (EO ha) (CP hn) (by rw [Cz]; exact hd) (hx J) (Jk hb) (by simp [Qi])
         exact this
       · cases h
     · cases h
   · rename_i t cs hb ha
     split at h
     · rename_i u hu
       exact ⟨none,_,s,.refl s,h,fun J σ => Y.ldb (EO ha) (hx J) (Jk hb) (by simpa [SV.den,GU.den] using OQ hu)⟩
     · cases h
   · cases h
 · rename_i b o hp
   obtain ⟨u,e1,e2⟩ := EP hp
   have hx : ∀ J,AD (s.e J) x = .pointer (some ⟨b,o,none⟩) := fun J => by rw [ev e1,e2]; rfl
   split at h
   · rename_i n ha hn
     obtain ⟨v,s',h1,h⟩ := S.Qm h
     split at h
     · rename_i l
       split at h
       · rename_i hd
         have hd := of_decide_eq_true hd
         refine ⟨some b,_,s',h1,h.2,fun J => ?_⟩
         have hl := h.1
         rw [h1.σ] at hl
         exact Y.lda (EO ha) (CP hn) (by rw [Cz]; exact hd) (hx J) hl.lim
       · cases h
     · cases h
   · rename_i n ha hn
     obtain ⟨v,s',h1,h⟩ := S.Qm h
     have hl := h.1
     rw [h1.σ] at hl
     exact ⟨some b,_,s',h1,h.2,fun J => Y.ld (EO ha) (hx J) (Hp.jg hl)⟩
   · cases h
 · cases h
def yv (P : Program) (wr : Bool) (op : Op) (s : S) (K : SV → S → Prop) : Prop := match op with
 | .move x => s.val x K
 | .assign x => s.val x K
 | .pick z x y => uY x y z s K
 | .binOp b T x y _ => xr P wr b T x y s K
 | .unOp u _ x => match u with
   | .not => xt x s K
   | .neg => xu x s K
   | _ => False
 | .convert T T' x => jd P T T' x s K
 | .fieldAddr T x f => xv P T x f s K
 | .field T x f => Zb P T x f s K
 | .extract x i => xw x i s K
 | .indexAddr T x y => xx P T x y s K
 | .index T x y => je P T x y s K
 | .nilCheck x => xy x s K
 | .makeFunc fn xs ys => yA fn xs ys s K
 | .build T ps => Zp P T ps s K
 | .makeInterface T x => Zc P T x s K
 | .slice T x lo hi mx => match mx with
   | none => Zm P T x lo hi s K
   | some _ => False
 | .call c => match c.callee,c.args.toList with
   | .builtin .len,[x] => yB P x c.argTypes s K
   | .builtin .cap,[x] => yC P x c.argTypes s K
   | .builtin .min,[x,y] => match Wb (s.op x),Wb (s.op y) with
     | some (k,a),some (_,b) => K (.at (.int k (if (b : Int) < a then b else a))) s
     | _,_ => False
   | .builtin .max,[x,y] => match Wb (s.op x),Wb (s.op y) with
     | some (k,a),some (_,b) => K (.at (.int k (if (a : Int) < b then b else a))) s
     | _,_ => False
   | _,_ => False
 | _ => False
theorem W1 {P : Program} {wr : Bool} {op : Op} {ty : TypeId} {s : S} {K : SV → S → Prop} (h : yv P wr op s K) : YP P op ty s K := by
 unfold yv at h
 split at h
 · exact UG h fun v J σ hv => Y.move hv
 · exact UG h fun v J σ hv => Y.assign hv
 · exact Ww h
 · exact Za h
 · split at h
   · exact Zd h
   · exact Ze h
   · cases h
 · exact Wx h
 · exact Zf h
 · exact VQ h
 · exact Zg h
 · exact Zh h
 · exact Wy h
 · exact Zi h
 · exact Zj h
 · exact VU h
 · exact VR h
 · split at h
   · exact VT h
   · cases h
 · rename_i c
   obtain ⟨ce,AVM,ts⟩ := c
   split at h
   · rename_i x h1 h2
     simp only at h1 h2 h
     have : AVM = #[x] := by rw [← Array.toList_inj]; simpa using h2
     subst this h1
     exact Zk h
   · rename_i x h1 h2
     simp only at h1 h2 h
     have : AVM = #[x] := by rw [← Array.toList_inj]; simpa using h2
     subst this h1
     exact Zl h
   · rename_i x y h1 h2
     simp only at h1 h2 h
     have : AVM = #[x,y] := by rw [← Array.toList_inj]; simpa using h2
     subst this h1
     split at h
     · rename_i k a k' b hx hy
       obtain ⟨u,e1,e2⟩ := Bk hx
       obtain ⟨v,e3,e4⟩ := Bk hy
       exact BY h fun J σ => Y.min2 (by rw [ev e1,e2]) (by rw [ev e3,e4])
     · cases h
   · rename_i x y h1 h2
     simp only at h1 h2 h
     have : AVM = #[x,y] := by rw [← Array.toList_inj]; simpa using h2
     subst this h1
     split at h
     · rename_i k a k' b hx hy
       obtain ⟨u,e1,e2⟩ := Bk hx
       obtain ⟨v,e3,e4⟩ := Bk hy
       exact BY h fun J σ => Y.max2 (by rw [ev e1,e2]) (by rw [ev e3,e4])
     · cases h
   · cases h
 · cases h
end Tw
end
section
namespace Tw
open Go
variable [Er]
def eo : List Nat → Nat → Bool
 | [],_ => false
 | x :: l,n => Nat.beq x n || eo l n
theorem W2 : ∀ {l : List Nat} {n : Nat},eo l n = true → n ∈ l
 | x :: l,n,h => by
   simp only [eo,Bool.or_eq_true] at h
   rcases h with h | h
   · exact (Nat.eq_of_beq_eq_true h) ▸ List.mem_cons_self ..
   · exact List.mem_cons_of_mem _ (W2 h)
def AJ (P : Program) (l : List Nat) : Prop := ∀ f ∈ l,Enters P f
theorem AJ.nil {P : Program} : AJ P [] := fun f h => by cases h
theorem AJ.cons {P : Program} {f : Nat} {l : List Nat} (h : Enters P f) (hl : AJ P l) : AJ P (f :: l) := fun x hx => by
 rcases List.mem_cons.1 hx with rfl | hx
 · exact h
 · exact hl x hx
abbrev KP := Hp → Hp → Prop → Prop
def Gp (gen : Vl → (SV → Vl → Prop) → Prop) (dst : Option Nat) (s : S) (σ0 : Hp) (v : Value) (kp : KP) (K : S → Prop) : Prop := match dst with
 | none => kp σ0 s.σ (K s)
 | some d => match s.ok with
   | true => gen s.vl fun x vl => eqV x vl v (kp σ0 s.σ (K ((s.w vl).put (some d) x)))
   | false => False
def UP (gen : Vl → (SV → Vl → Prop) → Prop) : Prop := ∀ vl k,gen vl k → ∃ a w,vl.Le w ∧ k a w
theorem Jl {P : Program} {t : TypeId} : UP (UL P t) := fun _ _ h => eh h
def jh : Vl → (SV → Vl → Prop) → Prop := fun vl k => ∃ m : Nat,k (.at (.mp (some m))) vl
theorem et : UP jh := fun vl k ⟨m,h⟩ => ⟨_,_,.refl _,h⟩
def ji : Vl → (SV → Vl → Prop) → Prop := fun vl k => ∃ v : Value,k (.at (.raw v)) vl
theorem eu : UP ji := fun vl k ⟨m,h⟩ => ⟨_,_,.refl _,h⟩
def QF (P : Program) (t : TypeId) (two : Bool) : Vl → (SV → Vl → Prop) → Prop := fun vl k => match two with
 | false => pY P t vl fun a vl => k (.v a) vl
 | true => pY P t vl fun a vl => ∃ b : Bool,k (.UB [a,.a (.bs vl.β.length false)]) (vl.ZX (.var b))
theorem Zr {P : Program} {t : TypeId} {two : Bool} : UP (QF P t two) := fun vl k h => by
 cases two with
 | false => unfold QF at h; obtain ⟨a,w,h1,h⟩ := D8 h; exact ⟨_,_,h1,h⟩
 | true => unfold QF at h; obtain ⟨a,w,h1,b,h⟩ := D8 h; exact ⟨_,_,h1.trans (Vl.cM _ _),h⟩
def jj (P : Program) (t u : TypeId) : Vl → (SV → Vl → Prop) → Prop := fun vl k => pY P t vl fun a vl => pY P u vl fun b vl => k (.UB [a,b]) vl
theorem ew {P : Program} {t u : TypeId} : UP (jj P t u) := fun vl k h => by
 obtain ⟨a,w,h1,h⟩ := D8 h
 obtain ⟨b,w2,h2,h⟩ := D8 h
 exact ⟨_,_,h1.trans h2,h⟩
def yF (J : Env) (s : S) (kq : Hp → Hp → Prop) (K : S → Prop) : Env → Bx → Hp → Prop := fun e' F1 σ' => ∃ s',e' = s'.e J ∧ F1 = s'.b ∧ σ' = s'.σ ∧ kq s.σ σ' ∧ (∀ p ∈ s.b,p ∈ F1) ∧ K s'
theorem Ae {gen : Vl → (SV → Vl → Prop) → Prop} (hg : UP gen) {dst : Option Nat} {s : S} {σ1 : Hp} {v : Value} {kp : KP} {kq : Hp → Hp → Prop} {K : S → Prop} (OB : ∀ σ0 σ1 F,kp σ0 σ1 F → F ∧ kq σ0 σ1)
   (h : Gp gen dst (s.hp σ1) s.σ v kp K) (J : Env) : yF J s kq K (put (s.e J) dst v) s.b σ1 := by
 cases dst with
 | none =>
   obtain ⟨h1,h2⟩ := OB _ _ _ h
   exact ⟨s.hp σ1,rfl,rfl,rfl,h2,fun _ h => h,h1⟩
 | some d =>
   simp only [Gp] at h
   cases hs : (s.hp σ1).ok with
   | false => rw [hs] at h; cases h
   | true =>
     rw [hs] at h
     obtain ⟨x,w,hle,h⟩ := hg _ _ h
     obtain ⟨hv,h⟩ := ej h
     obtain ⟨h1,h2⟩ := OB _ _ _ h
     have PA := S.Qf hs hle.le
     refine ⟨_,?_,?_,?_,h2,fun _ h => h,h1⟩
     · rw [S.Hy,PA.e J,hv]; rfl
     · rw [S.Hz,PA.b]; rfl
     · rw [S.FB]; rfl
def S.boxed (s : S) (d : Option Nat) (b : Nat) (T : TypeId) (cs : List Bg) : S :=
 S.put ⟨s.env,(s.vl.δ.length,T,cs) :: s.bx,s.vl.qa b,s.σ⟩ d (.at (.pt (.bx s.vl.δ.length 0)))
def qf (hid : Bool) (d : Option Nat) (T : TypeId) (cs : List Bg) (s : S) (K : S → Prop) : Prop := match hid with
 | true => match s.ok && xj s.vl cs with
   | true => ∀ b : Nat,K (s.boxed d b T cs)
   | false => False
 | false => ∀ b : Nat,s.σ b = none → K ((s.hp (Hp.set s.σ b (.cells (A9 s.vl cs).toArray T (0,0)))).put d (.at (.pt (.at b 0))))
def jl (P : Program) (T : TypeId) : Option Value := match P.info? T with
 | some it => it.zero
 | none => none
theorem UQ {P : Program} {T : TypeId} {z : Value} (h : jl P T = some z) : ∀ w,(zeroValue T).run P w = .ok z w := fun w => by
 unfold jl at h
 split at h
 · rename_i it hi
   simp [zeroValue,typeInfo,hi,h]
 · cases h
structure Zs where
 P : Program
 R : Rr
 M6 : List Nat
 hid : List Nat
 wr : Bool
def Zs.cP (c : Zs) (d : Option Nat) : Bool := match d with
 | some d => eo c.hid d
 | none => false
def EN (P : Program) (f : FuncId) (args : Array Value) (σ : Hp) (Φ : Value → Hp → Prop) : Prop :=
 ∀ w (F : Nat → Prop),Sat σ w → (∀ b,F b → b < w.heap.size ∧ σ b = none) → ∃ v w' σ',(callFunc f args).run P w = .ok (.value v) w' ∧ Φ v σ' ∧ Fin σ' F w w'
theorem EN.y {P : Program} {f : FuncId} {args : Array Value} {σ : Hp} {v : Value} {Φ : Value → Hp → Prop} (hy : YN P f args σ v) (h : Φ v σ) : EN P f args σ Φ := fun w F hs hF =>
 ⟨v,w,σ,hy w hs,h,hs,fun b hb => ⟨(hF b hb).2,rfl⟩,.same rfl rfl rfl,rfl,Nat.le_refl _⟩
theorem EN.mono {P : Program} {f : FuncId} {args : Array Value} {σ : Hp} {Φ Ψ : Value → Hp → Prop} (h : EN P f args σ Φ) (hh : ∀ v σ',Φ v σ' → Ψ v σ') : EN P f args σ Ψ := fun w F hs hF =>
 let ⟨v,w',σ',h1,h2,h3⟩ := h w F hs hF
 ⟨v,w',σ',h1,hh _ _ h2,h3⟩
theorem AN.en {g : Gl} {ops : Array Oper} {i : Nat} {d : Option Nat} {ty : TypeId} {gd : Option (Nat × Bool)} {e : Env} {bx : Bx} {σ : Hp} {K : Env → Bx → Hp → Prop} {x : Operand} {xs : Array Operand} {ts : Array TypeId} {f : FuncId} {args : Array Value}
   (hs : sig ops i = some (d,.call { callee := .value x,args := xs,argTypes := ts },ty,gd)) (hw : AR ops e gd = true) (hd : G4 d g.n = true) (hx : AD e x = .func (.func f) #[] #[]) (JJ : xs.toList.map (AD e) = args.toList)
   (h : EN g.P f args σ fun v σ' => K (put e d v) bx σ') : AN g ops i e bx σ K := by
 intro w0 F a w st
 obtain ⟨o,ho,rfl,BM,Ct,rfl⟩ := BX hs
 refine B8 ho (by rw [st.wanted]; exact hw) ?_
 obtain ⟨v,w',σ',h1,h2,h3⟩ := h w _ st.sat st.lt
 rw [st.eval]
 have JJ : xs.map (AD e) = args := by rw [← Array.toList_inj]; simpa using JJ
 have B9 : (execOp (AD e) o).run g.P w = .ok (.value v) w' := by
   simp only [execOp,BM,resolve,hx,JJ,Deferred.ofValue,invoke,bind,Sem.bind,pure,Array.empty_append,Array.append_empty]
   exact h1
 rw [Cv B9 (fun d => by simp)]
 exact ⟨_,_,_,(st.fin h3).put _ _ (G4.lt hd),h2⟩
def jm (c : Zs) (dst : Option Nat) (x : Operand) (xs : List Operand) (ty : TypeId) (s : S) (kp : KP) (K : S → Prop) : Prop := match s.op x,s.Wv xs with
 | some (.v (.a (.fn f a b))),some vs => match eo c.M6 f with
   | true => Spec c.P f (a.toList ++ (CK s.vl vs ++ b.toList)).toArray s.σ (AA c.R fun v σ1 => Gp (UL c.P ty) dst (s.hp σ1) s.σ v kp K)
   | false => match Nat.beq (a.size + b.size) 0 with
     | true => EN c.P f (CK s.vl vs).toArray s.σ (fun v σ1 => Gp (UL c.P ty) dst (s.hp σ1) s.σ v kp K)
     | false => False
 | some (.v (.a (.raw u))),some vs => match eo c.hid 100000 with
   | true => ∃ l : Nat,u = .func (.yield l) #[] #[] ∧ Hx c.P l (CK s.vl vs).toArray s.σ (AA c.R fun v σ1 => Gp (UL c.P ty) dst (s.hp σ1) s.σ v kp K)
   | false => ∃ (f : Nat) (fst cap : Array Value),u = .func (.func f) fst cap ∧ Enters c.P f ∧ Spec c.P f (fst ++ (CK s.vl vs).toArray ++ cap) s.σ (AA c.R fun v σ1 => Gp (UL c.P ty) dst (s.hp σ1) s.σ v kp K)
 | _,_ => False
def biV (c : Zs) (dst : Option Nat) (b : Builtin) (xs : List Operand) (ts : Array TypeId) (ty : TypeId) (s : S) (kp : KP) (K : S → Prop) : Prop := match s.Wv xs with
 | none => False
 | some vs => match b,xs with
   | .append,[_,_] => AK c.P (Builtin.append_ ts ty (CK s.vl vs).toArray) s.σ (fun v σ1 => Gp (UL c.P ty) dst (s.hp σ1) s.σ v kp K)
   | .copy,[_,_] => AK c.P (Builtin.copy_ ts ty (CK s.vl vs).toArray) s.σ (fun v σ1 => Gp (UL c.P ty) dst (s.hp σ1) s.σ v kp K)
   | .delete,[_,_] => AK c.P (Builtin.delete_ ts ty (CK s.vl vs).toArray) s.σ (fun v σ1 => Gp (UL c.P ty) dst (s.hp σ1) s.σ v kp K)
   | .clear,[_] => AK c.P (Builtin.clear_ ts ty (CK s.vl vs).toArray) s.σ (fun v σ1 => Gp (UL c.P ty) dst (s.hp σ1) s.σ v kp K)
   | .real,[_] => AK c.P (Builtin.real_ ts ty (CK s.vl vs).toArray) s.σ (fun v σ1 => Gp (UL c.P ty) dst (s.hp σ1) s.σ v kp K)
   | .imag,[_] => AK c.P (Builtin.imag_ ts ty (CK s.vl vs).toArray) s.σ (fun v σ1 => Gp (UL c.P ty) dst (s.hp σ1) s.σ v kp K)
   | .complex,[_,_] => AK c.P (Builtin.complex_ ts ty (CK s.vl vs).toArray) s.σ (fun v σ1 => Gp (UL c.P ty) dst (s.hp σ1) s.σ v kp K)
   | .unsafeString,[_,_] => AK c.P (Builtin.unsafeString_ ts ty (CK s.vl vs).toArray) s.σ (fun v σ1 => Gp (UL c.P ty) dst (s.hp σ1) s.σ v kp K)
   | .min,[_,_] => AK c.P (Builtin.min_ ts ty (CK s.vl vs).toArray) s.σ (fun v σ1 => Gp (UL c.P ty) dst (s.hp σ1) s.σ v kp K)
   | .max,[_,_] => AK c.P (Builtin.max_ ts ty (CK s.vl vs).toArray) s.σ (fun v σ1 => Gp (UL c.P ty) dst (s.hp σ1) s.σ v kp K)
   | _,_ => False
def flB : BinOp → Bool
 | .add => true
 | .sub => true
 | .mul => true
 | .quo => true
 | _ => false
def yG (P : Program) (T : TypeId) : Bool := match P.underlying T with
 | some (.float _) => true
 | _ => false
def ey (c : Zs) (dst : Option Nat) (op : Op) (ty : TypeId) (s : S) (kp : KP) (K : S → Prop) : Prop := match op with
 | .call cl => match cl.callee with
   | .value x => jm c dst x cl.args.toList ty s kp K
   | .builtin b => biV c dst b cl.args.toList cl.argTypes ty s kp K
   | _ => False
 | .binOp b T x y _ => match flB b,s.op x,s.op y with
   | true,some u,some v => AK c.P (binOp b T (u.den s.vl) (v.den s.vl)) s.σ (fun v σ1 => Gp (UL c.P ty) dst (s.hp σ1) s.σ v kp K)
   | _,_,_ => False
 | .box T x => match s.op x with
   | some v => match v.flat with
     | some cs => qf (c.cP dst) dst T cs s K
     | none => False
   | none => False
 | .alloc T => match jl c.P T with
   | some z => qf (c.cP dst) dst T (O8 z.cells.toList) s K
   | none => False
 | .buildSlice T m ps => match c.P.underlying T,s.parts ps.toList with
   | some (.slice E),some vs => match Program.Ii c.P E m (MT s.vl vs) with
     | some cs => ∀ b : Nat,s.σ b = none → K ((s.hp (Hp.set s.σ b (.cells cs E (0,0)))).put dst (.at (.sl (.at b 0) m m)))
     | none => False
   | _,_ => False
 | .store T x y => match dst,jc (s.op x),s.op y with
   | none,some (.at b o),some v => AK c.P (Instr.storeAt T (.pointer (some ⟨b,o,none⟩)) (v.den s.vl)) s.σ (fun _ σ1 => kp s.σ σ1 (K (s.hp σ1)))
   | _,_,_ => False
 | .convert T T' x => match s.op x with
   | some v => AK c.P (convert T T' (v.den s.vl)) s.σ (fun v σ1 => Gp (UL c.P ty) dst (s.hp σ1) s.σ v kp K)
   | none => False
 | .makeMap T none => AK c.P (Instr.makeMap T none) s.σ (fun v σ1 => Gp jh dst (s.hp σ1) s.σ v kp K)
 | .lookup T x y two => match c.P.underlying T,s.op x,s.op y with
   | some (.map _ t),some u,some v => AK c.P (Instr.lookup T (u.den s.vl) (v.den s.vl) two) s.σ (fun v σ1 => Gp (QF c.P t two) dst (s.hp σ1) s.σ v kp K)
   | _,_,_ => False
 | .range T x => match s.op x with
   | some v => AK c.P (Instr.range T (v.den s.vl)) s.σ (fun v σ1 => Gp ji dst (s.hp σ1) s.σ v kp K)
   | none => False
 | .makeSlice T x y => match s.op x,s.op y with
   | some u,some v => AK c.P (Instr.makeSlice T (u.den s.vl) (v.den s.vl)) s.σ (fun v σ1 => Gp (UL c.P ty) dst (s.hp σ1) s.σ v kp K)
   | _,_ => False
 | _ => False
section
variable {g : Gl} {ops : Array Oper} {i : Nat} {J : Env} {dst : Option Nat} {op : Op} {ty : TypeId} {gd : Option (Nat × Bool)} {s : S} {kp : KP} {kq : Hp → Hp → Prop} {K : S → Prop} {c : Zs}
theorem W3 {x : Operand} {xs : Array Operand} {ts : Array TypeId} (hP : c.P = g.P) (hR : c.R = g.R) (hE : AJ g.P c.M6) (OB : ∀ σ0 σ1 F,kp σ0 σ1 F → F ∧ kq σ0 σ1)
   (hs : sig ops i = some (dst,.call { callee := .value x,args := xs,argTypes := ts },ty,gd)) (hw : AR ops (s.e J) gd = true) (hd : G4 dst g.n = true) (h : jm c dst x xs.toList ty s kp K) : AN g ops i (s.e J) s.b s.σ (yF J s kq K) := by
 unfold jm at h
 rw [hP,hR] at h
 split at h
 · rename_i f a b vs hx cQ
   split at h
   · rename_i hm
     refine AN.call hs hw hd (fun o ho _ w => OL (hE f (W2 hm)) (fst := a) (cap := b) (vs := (CK s.vl vs).toArray) (by rw [ev hx]; rfl) (by simpa using DC cQ) ?_ o ho w) (h.mono fun e σ1 hr => ?_)
     · rw [← Array.toList_inj]; simp
     · cases e with
       | returned v => exact Ae Jl OB hr J
       | panicked ch => exact hr
       | outgrown => exact hr
   · split at h
     · rename_i hz
       have hz := Nat.eq_of_beq_eq_true hz
       exact AN.en hs hw hd (by rw [ev hx,show a = #[] from Array.eq_empty_of_size_eq_zero (by omega),show b = #[] from Array.eq_empty_of_size_eq_zero (by omega)]; rfl) (by simpa using DC cQ) (h.mono fun v σ1 hr => Ae Jl OB hr J)
     · cases h
 · rename_i u vs hx cQ
   split at h
   · obtain ⟨l,hu,h⟩ := h
     refine AN.yield hs hw hd (u := u) (vs := (CK s.vl vs).toArray) (by rw [ev hx]; rfl) (by simpa using DC cQ) hu (h.mono fun e σ1 hr => ?_)
     cases e with
     | returned v => exact Ae Jl OB hr J
     | panicked ch => exact hr
     | outgrown => exact hr
   · obtain ⟨f,fst,cap,hu,Pr,h⟩ := h
     refine AN.ACT hs hw hd (u := u) (vs := (CK s.vl vs).toArray) (by rw [ev hx]; rfl) (by simpa using DC cQ) hu Pr (h.mono fun e σ1 hr => ?_)
     cases e with
     | returned v => exact Ae Jl OB hr J
     | panicked ch => exact hr
     | outgrown => exact hr
 · cases h
theorem W4 {T : TypeId} {cs : List Bg} {hid : Bool} (OS : ∀ σ0 σ1,Ext σ0 σ1 → kq σ0 σ1) (h : qf hid dst T cs s K) :
   (hid = true → ∀ b,yF J s kq K (put (s.e J) dst (.pointer (some ⟨b,0,none⟩))) ((b,.cells (A9 s.vl cs).toArray T (0,0)) :: s.b) s.σ) ∧
   (hid = false → ∀ b,s.σ b = none → yF J s kq K (put (s.e J) dst (.pointer (some ⟨b,0,none⟩))) s.b (s.σ.set b (.cells (A9 s.vl cs).toArray T (0,0)))) := by
 unfold qf at h
 constructor
 · rintro rfl b
   simp only at h
   cases hs : s.ok && xj s.vl cs with
   | false => rw [hs] at h; cases h
   | true =>
     rw [hs] at h
     simp only [Bool.and_eq_true] at hs
     have h := h b
     have hle := Vl.qc s.vl b
     have PA := S.Qf hs.1 hle
     have hb : (S.boxed s dst b T cs).b = (b,Obj.cells (A9 s.vl cs).toArray T (0,0)) :: s.b := by
       unfold S.boxed
       rw [S.Hz]
       simp only [S.b,EM]
       have hbv : EM (s.vl.qa b) s.bx = EM s.vl s.bx := PA.b
       rw [QE hle hs.2,hbv]
       show (nth 0 (s.vl.δ ++ [b]) s.vl.δ.length,_) :: _ = _
       rw [LF]
     refine ⟨_,?_,hb.symm,?_,OS _ _ (Ext.refl _),fun _ h => List.mem_cons_of_mem _ h,h⟩
     · unfold S.boxed
       rw [S.Hy]
       have := PA.e J
       show put (s.e J) dst _ = put ((s.w (s.vl.qa b)).e J) dst (.pointer (some ⟨nth 0 (s.vl.δ ++ [b]) s.vl.δ.length,0,none⟩))
       rw [this,LF]
     · unfold S.boxed; rw [S.FB]
 · rintro rfl b hb
   have h := h b hb
   refine ⟨_,?_,?_,?_,OS _ _ (.set hb),fun _ h => h,h⟩
   · rw [S.Hy]; rfl
   · rw [S.Hz]; rfl
   · rw [S.FB]; rfl
section
variable {e : Env} {x y : Operand} {u v : Value} {ts : Array TypeId} {ty : TypeId}
theorem PC (hx : AD e x = u) (o : Oper) (ho : o.op = .call { callee := .builtin .real,args := #[x],argTypes := ts }) (ht : o.type = ty) : execOp (AD e) o = (do pure (.value (← Builtin.real_ ts ty #[u]))) := by
 subst ht; simp [execOp,ho,resolve,invoke,builtin,hx]
theorem PD (hx : AD e x = u) (o : Oper) (ho : o.op = .call { callee := .builtin .imag,args := #[x],argTypes := ts }) (ht : o.type = ty) : execOp (AD e) o = (do pure (.value (← Builtin.imag_ ts ty #[u]))) := by
 subst ht; simp [execOp,ho,resolve,invoke,builtin,hx]
theorem Jm (hx : AD e x = u) (hy : AD e y = v) (o : Oper) (ho : o.op = .call { callee := .builtin .complex,args := #[x,y],argTypes := ts }) (ht : o.type = ty) : execOp (AD e) o = (do pure (.value (← Builtin.complex_ ts ty #[u,v]))) := by
 subst ht; simp [execOp,ho,resolve,invoke,builtin,hx,hy]
theorem Zt (hx : AD e x = u) (hy : AD e y = v) (o : Oper) (ho : o.op = .call { callee := .builtin .min,args := #[x,y],argTypes := ts }) (ht : o.type = ty) : execOp (AD e) o = (do pure (.value (← Builtin.min_ ts ty #[u,v]))) := by
 subst ht; simp [execOp,ho,resolve,invoke,builtin,hx,hy]
theorem Zu (hx : AD e x = u) (hy : AD e y = v) (o : Oper) (ho : o.op = .call { callee := .builtin .max,args := #[x,y],argTypes := ts }) (ht : o.type = ty) : execOp (AD e) o = (do pure (.value (← Builtin.max_ ts ty #[u,v]))) := by
 subst ht; simp [execOp,ho,resolve,invoke,builtin,hx,hy]
theorem Lf (hx : AD e x = u) (hy : AD e y = v) (o : Oper) (ho : o.op = .call { callee := .builtin .unsafeString,args := #[x,y],argTypes := ts }) (ht : o.type = ty) : execOp (AD e) o = (do pure (.value (← Builtin.unsafeString_ ts ty #[u,v]))) := by
 subst ht; simp [execOp,ho,resolve,invoke,builtin,hx,hy]
end
theorem fA {b : Builtin} {xs : Array Operand} {ts : Array TypeId} (hP : c.P = g.P) (OB : ∀ σ0 σ1 F,kp σ0 σ1 F → F ∧ kq σ0 σ1)
   (hs : sig ops i = some (dst,.call { callee := .builtin b,args := xs,argTypes := ts },ty,gd)) (hw : AR ops (s.e J) gd = true) (hd : G4 dst g.n = true) (h : biV c dst b xs.toList ts ty s kp K) : AN g ops i (s.e J) s.b s.σ (yF J s kq K) := by
 unfold biV at h
 rw [hP] at h
 split at h
 · cases h
 · rename_i vs cQ
   have two : ∀ {x y : Operand},xs.toList = [x,y] → xs = #[x,y] ∧ CK s.vl vs = [AD (s.e J) x,AD (s.e J) y] := fun hx => by
     refine ⟨by rw [← Array.toList_inj]; simpa using hx,?_⟩
     rw [← DC (J := J) cQ,hx]; rfl
   have one : ∀ {x : Operand},xs.toList = [x] → xs = #[x] ∧ CK s.vl vs = [AD (s.e J) x] := fun hx => by
     refine ⟨by rw [← Array.toList_inj]; simpa using hx,?_⟩
     rw [← DC (J := J) cQ,hx]; rfl
   split at h
   · rename_i x y hx
     obtain ⟨rfl,e⟩ := two hx
     rw [e] at h
     exact AN.Qb hs hw hd _ (fun o ho ht => FO rfl rfl o ho ht) (h.mono fun v σ1 hr => Ae Jl OB hr J)
   · rename_i x y hx
     obtain ⟨rfl,e⟩ := two hx
     rw [e] at h
     exact AN.Qb hs hw hd _ (fun o ho ht => Wm rfl rfl o ho ht) (h.mono fun v σ1 hr => Ae Jl OB hr J)
   · rename_i x y hx
     obtain ⟨rfl,e⟩ := two hx
     rw [e] at h
     exact AN.Qb hs hw hd _ (fun o ho ht => Tf rfl rfl o ho ht) (h.mono fun v σ1 hr => Ae Jl OB hr J)
   · rename_i x hx
     obtain ⟨rfl,e⟩ := one hx
     rw [e] at h
     exact AN.Qb hs hw hd _ (fun o ho ht => VK rfl o ho ht) (h.mono fun v σ1 hr => Ae Jl OB hr J)
   · rename_i x hx
     obtain ⟨rfl,e⟩ := one hx
     rw [e] at h
     exact AN.Qb hs hw hd _ (fun o ho ht => PC rfl o ho ht) (h.mono fun v σ1 hr => Ae Jl OB hr J)
   · rename_i x hx
     obtain ⟨rfl,e⟩ := one hx
     rw [e] at h
     exact AN.Qb hs hw hd _ (fun o ho ht => PD rfl o ho ht) (h.mono fun v σ1 hr => Ae Jl OB hr J)
   · rename_i x y hx
     obtain ⟨rfl,e⟩ := two hx
     rw [e] at h
     exact AN.Qb hs hw hd _ (fun o ho ht => Jm rfl rfl o ho ht) (h.mono fun v σ1 hr => Ae Jl OB hr J)
   · rename_i x y hx
     obtain ⟨rfl,e⟩ := two hx
     rw [e] at h
     exact AN.Qb hs hw hd _ (fun o ho ht => Lf rfl rfl o ho ht) (h.mono fun v σ1 hr => Ae Jl OB hr J)
   · rename_i x y hx
     obtain ⟨rfl,e⟩ := two hx
     rw [e] at h
     exact AN.Qb hs hw hd _ (fun o ho ht => Zt rfl rfl o ho ht) (h.mono fun v σ1 hr => Ae Jl OB hr J)
   · rename_i x y hx
     obtain ⟨rfl,e⟩ := two hx
     rw [e] at h
     exact AN.Qb hs hw hd _ (fun o ho ht => Zu rfl rfl o ho ht) (h.mono fun v σ1 hr => Ae Jl OB hr J)
   · cases h
theorem qg {e : Env} {b : BinOp} {T T' : TypeId} {x y : Operand} {u v : Value} (hb : flB b = true) (hx : AD e x = u) (hy : AD e y = v) (o : Oper) (ho : o.op = .binOp b T x y T') : execOp (AD e) o = (do pure (.value (← binOp b T u v))) := by
 cases b <;> first | (cases hb; done) | (simp [execOp,ho,hx,hy,eqGuard])
theorem Qo (hP : c.P = g.P) (hR : c.R = g.R) (hE : AJ g.P c.M6) (OB : ∀ σ0 σ1 F,kp σ0 σ1 F → F ∧ kq σ0 σ1) (OS : ∀ σ0 σ1,Ext σ0 σ1 → kq σ0 σ1)
   (hs : sig ops i = some (dst,op,ty,gd)) (hw : AR ops (s.e J) gd = true) (hd : G4 dst g.n = true) (h : ey c dst op ty s kp K) : AN g ops i (s.e J) s.b s.σ (yF J s kq K) := by
 unfold ey at h
 split at h
 · rename_i cl
   obtain ⟨ce,xs,ts⟩ := cl
   split at h
   · rename_i x hx
     simp only at hx h
     subst hx
     exact W3 hP hR hE OB hs hw hd h
   · rename_i b hx
     simp only at hx h
     subst hx
     exact fA hP OB hs hw hd h
   · cases h
 · rename_i b T x y T'
   split at h
   · rename_i u v hb hu hv
     rw [hP] at h
     exact AN.Qb hs hw hd _ (fun o ho ht => qg hb (ev hu) (ev hv) o ho) (h.mono fun v σ1 hr => Ae Jl OB hr J)
   · cases h
 · rename_i T x
   split at h
   · rename_i v hv
     split at h
     · rename_i cs hc
       obtain ⟨h1,h2⟩ := W4 (J := J) OS h
       have hx : (AD (s.e J) x).cells = (A9 s.vl cs).toArray := by rw [ev hv,Wz hc]
       cases hh : c.cP dst with
       | true => exact AN.box hs hw hd hx (h1 hh)
       | false => exact AN.xP hs hw hd hx (h2 hh)
     · cases h
   · cases h
 · rename_i T
   split at h
   · rename_i z hz
     obtain ⟨h1,h2⟩ := W4 (J := J) OS h
     have hx : z.cells = (A9 s.vl (O8 z.cells.toList)).toArray := by rw [H0]
     rw [hP] at hz
     cases hh : c.cP dst with
     | true => exact AN.alloc hs hw hd (UQ hz) hx (h1 hh)
     | false => exact AN.OK hs hw hd (UQ hz) hx (h2 hh)
   · cases h
 · rename_i T m ps
   rw [hP] at h
   split at h
   · rename_i E vs hT cQ
     split at h
     · rename_i cs hc
       refine AN.Ii hT hs hw hd (MU cQ) hc fun b hb => ?_
       refine ⟨_,?_,?_,?_,OS _ _ (.set hb),fun _ h => h,h b hb⟩
       · rw [S.Hy]; rfl
       · rw [S.Hz]; rfl
       · rw [S.FB]; rfl
     · cases h
   · cases h
 · rename_i T x y
   split at h
   · rename_i b o v hx hy
     obtain ⟨u,e1,e2⟩ := EP hx
     rw [hP] at h
     refine AN.store hs hw (p := .pointer (some ⟨b,o,none⟩)) (by rw [ev e1,e2]; rfl) (ev hy) (h.mono fun _ σ1 hr => ?_)
     obtain ⟨h1,h2⟩ := OB _ _ _ hr
     exact ⟨s.hp σ1,rfl,rfl,rfl,h2,fun _ h => h,h1⟩
   · cases h
 · rename_i T T' x
   split at h
   · rename_i v hv
     rw [hP] at h
     exact AN.Qb hs hw hd _ (fun o ho ht => by simp only [execOp,ho]; rw [ev hv]) (h.mono fun v σ1 hr => Ae Jl OB hr J)
   · cases h
 · rename_i T
   rw [hP] at h
   exact AN.Qb hs hw hd _ (fun o ho ht => by simp only [execOp,ho]; rfl) (h.mono fun v σ1 hr => Ae et OB hr J)
 · rename_i T x y two
   rw [hP] at h
   split at h
   · rename_i a t u v hT hu hv
     exact AN.Qb hs hw hd _ (fun o ho ht => by simp only [execOp,ho]; rw [ev hu,ev hv]) (h.mono fun v σ1 hr => Ae Zr OB hr J)
   · cases h
 · rename_i T x
   split at h
   · rename_i v hv
     rw [hP] at h
     exact AN.Qb hs hw hd _ (fun o ho ht => by simp only [execOp,ho]; rw [ev hv]) (h.mono fun v σ1 hr => Ae eu OB hr J)
   · cases h
 · rename_i T x y
   split at h
   · rename_i u v hu hv
     rw [hP] at h
     exact AN.Qb hs hw hd _ (fun o ho ht => by simp only [execOp,ho]; rw [ev hu,ev hv]) (h.mono fun v σ1 hr => Ae Jl OB hr J)
   · cases h
 · cases h
end
end Tw
end
