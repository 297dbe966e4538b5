/-
  Part 1 of the proof that the law DistributorHearsUptoCardSaid of the given program answers true for every input of the given statement; the input reads behind the call as it did. (The texts: packed from 20 texts. Names are shortened by the packing program, for the bound on size.)
-/
import Derived.OrdersHeld
import Derived.StillTail
import Derived.Laws.Entries
import Derived.OrdersIn
import Derived.RangeFuncRecord
import Derived.KernelRfl
import Derived.Laws.Slices
import Derived.Laws.Small
import Derived.Laws.Cells
import Derived.Laws.Strings
import Derived.Laws.Tables
import Derived.Laws.Strings2
import Derived.Laws.Pointers
import Derived.Laws.Append
import Derived.Laws.AppendOwn
import Derived.Lib.Overlaps
import Derived.RangeFuncIn
import Derived.Scope
import Derived.Maps.RangeRun
import Derived.MapKept
import Derived.Test.YtaaincfenibojaaGreatDoorProg
import Derived.ChangeKeysEq
set_option linter.all false
section
namespace Tw
open Go
abbrev Hp := Nat → Option Obj
abbrev Rr := Ending → Hp → Prop
abbrev Env := Nat → Value
abbrev Bx := List (Nat × Obj)
theorem ZA {a b : Nat} (h : a ≠ b) : Nat.beq a b = false := by
 cases hb : Nat.beq a b
 · rfl
 · exact absurd (Nat.eq_of_beq_eq_true hb) h
def Sat (σ : Hp) (w : World) : Prop := ∀ b o, σ b = some o → w.heap[b]? = some o
def IM (bx : Bx) (w : World) : Prop := ∀ p ∈ bx, w.heap[p.1]? = some p.2
def Hp.set (σ : Hp) (b : Nat) (o : Obj) : Hp := fun i => if i = b then some o else σ i
def tD (e : Env) (t : Nat) (v : Value) : Env := fun i => bif Nat.beq i t then v else e i
def put (e : Env) (d : Option Nat) (v : Value) : Env := match d with | some d => tD e d v | none => e
def AE (e : Env) : Operand → Value
 | .tmp t => e t
 | .const v => v
 | .global g => .pointer (some ⟨g, 0, none⟩)
 | .func f => .func (.func f) #[] #[]
class I7 where
 on : Prop
instance AIy : I7 := ⟨False⟩
variable [I7]
def Fi (w w' : World) : Prop := w'.os = w.os ∧ w'.tape = w.tape ∧ (I7.on → ∃ n : Nat, w'.drawn = w.drawn + n)
theorem Fi.same {w w' : World} (h1 : w'.os = w.os) (h2 : w'.tape = w.tape) (h3 : w'.drawn = w.drawn) : Fi w w' := ⟨h1, h2, fun _ => ⟨0, h3⟩⟩
theorem Fi.trans {w w' vu : World} (h : Fi w w') (g : Fi w' vu) : Fi w vu :=
 ⟨g.1.trans h.1, g.2.1.trans h.2.1, fun hc => let ⟨n, h3⟩ := h.2.2 hc; let ⟨m, g3⟩ := g.2.2 hc; ⟨n + m, by omega⟩⟩
theorem Fi.drew {w w' : World} (h : Fi w w') : Fi w { w' with drawn := w'.drawn + 1 } := h.trans ⟨rfl, rfl, fun _ => ⟨1, rfl⟩⟩
structure Fin (σ : Hp) (F : Nat → Prop) (w w' : World) : Prop where
 sat : Sat σ w'
 C7 : ∀ b, F b → σ b = none ∧ w'.heap[b]? = w.heap[b]?
 os : Fi w w'
 out : w'.output = w.output
 grow : w.heap.size ≤ w'.heap.size
def Spec (P : Program) (f : FuncId) (args : Array Value) (σ : Hp) (R : Rr) : Prop :=
 ∀ (w : World) (F : Nat → Prop), Sat σ w → (∀ b, F b → b < w.heap.size ∧ σ b = none) →
   Calls P f args w (fun e w' => ∃ σ', R e σ' ∧ Fin σ' F w w')
theorem Spec.mono {P : Program} {f : FuncId} {args : Array Value} {σ : Hp} {R R' : Rr} (h : Spec P f args σ R)
   (hr : ∀ e σ', R e σ' → R' e σ') : Spec P f args σ R' := fun w F hs hF =>
 (h w F hs hF).mono fun _ _ ⟨σ', h1, h2⟩ => ⟨σ', hr _ _ h1, h2⟩
structure St (n : Nat) (ds : List Deferred) (w0 : World) (F : Nat → Prop) (e : Env) (bx : Bx) (σ : Hp) (a : Act) (w : World) : Prop where
 size : a.tmps.size = n
 env : ∀ t, a.tmps.getD t undef = e t
 defers : a.defers = ds
 sat : Sat σ w
 box : IM bx w
 free : ∀ p ∈ bx, σ p.1 = none ∧ ¬ F p.1
 nodup : (bx.map (·.1)).Nodup
 C7 : ∀ b, F b → b < w0.heap.size ∧ σ b = none ∧ w.heap[b]? = w0.heap[b]?
 os : Fi w0 w
 out : w.output = w0.output
 grow : w0.heap.size ≤ w.heap.size
theorem St.eval {n ds w0 F e bx σ a w} (h : St n ds w0 F e bx σ a w) : a.eval = AE e := by
 funext x
 cases x with
 | tmp t => exact h.env t
 | _ => rfl
theorem St.put {n ds w0 F e bx σ a w} (h : St n ds w0 F e bx σ a w) (d : Option Nat) (v : Value) (hd : ∀ t, d = some t → t < n) :
   St n ds w0 F (put e d v) bx σ (a.put d v) w := by
 cases d with
 | none => exact h
 | some d =>
   have hd := hd d rfl
   refine { h with size := by simp [Act.put, h.size], env := fun t => ?_, defers := h.defers }
   simp only [Act.put, Tw.put, tD]
   by_cases ht : t = d
   · subst ht
     have : t < a.tmps.size := by rw [h.size]; exact hd
     simp [this]
   · have h1 := h.env t
     have hb : Nat.beq t d = false := ZA ht
     simp only [hb, cond_false]
     rw [← h1]
     simp [Array.getElem?_setIfInBounds_ne (Ne.symm ht)]
theorem St.drew {n ds w0 F e bx σ a w} (h : St n ds w0 F e bx σ a w) : St n ds w0 F e bx σ a { w with drawn := w.drawn + 1 } :=
 { h with sat := h.sat, box := h.box, C7 := h.C7, os := h.os.drew, out := h.out, grow := h.grow }
structure Gl where
 P : Program
 f : FuncId
 n : Nat
 R : Rr
 Gz : Option Nat
 ds : List Deferred
 bX : (Gz = none ∧ ds = []) ∨ ∀ ch σ, ¬ R (.panicked ch) σ
abbrev Gl.fn (P : Program) (f : FuncId) (n : Nat) (R : Rr) : Gl := ⟨P, f, n, R, none, [], .inl ⟨rfl, rfl⟩⟩
def wd (r : Option Nat) : Fence := { Fence.wide with round := r }
theorem ou {r : Option Nat} {n : Nat} : (wd r).room n := fun _ h => by simp [wd, Fence.wide] at h
theorem EM {P : Program} {r : Option Nat} {ρ : Operand → Value} {o : Oper} {w w' : World} {nx : Next} (h : (execOp ρ o).run P w = .ok nx w') (hn : ∀ d, nx ≠ .defer d) : (o.semAt r ρ).run P w = .ok nx w' := by
 by_cases hd : ∃ c, o.op = .defer c
 · obtain ⟨c, hc⟩ := hd
   simp only [execOp, hc, Sem.run_bind] at h
   cases hr : (resolve ρ c o.type).run P w with
   | ok d w2 =>
     rw [hr] at h
     simp only [Result.andThen_ok, Sem.run_pure, Result.ok.injEq] at h
     exact absurd h.1.symm (hn d)
   | halt x w2 => rw [hr] at h; simp [Result.andThen] at h
 · rw [Oper.semAt_eq r ρ o (fun c hc => hd ⟨c, hc⟩)]; exact h
def LX (P : Program) (f : FuncId) (Gz : Option Nat) (cs : List Frame) (m : Machine) (R : Ending → World → Prop) : Prop :=
 match Gz with
 | none => ∃ e w' fr, R e w' ∧ Comes P m (lone fr cs w') e ∧ fr.fn = f ∧ fr.leaving P w' e
 | some _ => ∀ c cs', cs = c :: cs' → ∃ v w', R (.returned v) w' ∧ Steps P m (lone (c.finish v) cs' w')
theorem LX.of_steps {P f Gz cs m m' R} (hs : Steps P m m') (h : LX P f Gz cs m' R) : LX P f Gz cs m R := by
 cases Gz with
 | none => exact let ⟨e, w', fr, r, c, x⟩ := h; ⟨e, w', fr, r, .of_steps hs c, x⟩
 | some l => exact fun c cs' hc => let ⟨v, w', r, x⟩ := h c cs' hc; ⟨v, w', r, hs.trans x⟩
def Hw (P : Program) (f : FuncId) (Gz : Option Nat) (k : List Item) (a : Act) (w : World) (R : Ending → World → Prop) : Prop :=
 ∀ (b : Frame) (cs : List Frame), b.fn = f → b.kind = .normal → b.roundOf = Gz → (∃ fn, P.funcs[f]? = some fn) → LX P f Gz cs (lone (b.atR a k) cs w) R
theorem Hw.step {P f Gz k a w R k' a' w'} (hs : ∀ (b : Frame) cs, b.roundOf = Gz → step P (lone (b.atR a k) cs w) = .next (lone (b.atR a' k') cs w'))
   (h : Hw P f Gz k' a' w' R) : Hw P f Gz k a w R := fun b cs hf hk hr NL => .of_steps (.one (hs b cs hr)) (h b cs hf hk hr NL)
def ov (g : Gl) (w0 : World) (F : Nat → Prop) : Ending → World → Prop := fun en w' => ∃ σ', g.R en σ' ∧ Fin σ' F w0 w'
def At (g : Gl) (k : List Item) (e : Env) (bx : Bx) (σ : Hp) : Prop :=
 ∀ w0 F a w, St g.n g.ds w0 F e bx σ a w → Hw g.P g.f g.Gz k a w (ov g w0 F)
section steps
variable {g : Gl} {k : List Item} {e : Env} {bx : Bx} {σ : Hp}
theorem At.skip (h : At g k e bx σ) : At g (.code .skip :: k) e bx σ := fun w0 F a w st => .step (fun _ _ _ => stepR_skip) (h w0 F a w st)
theorem At.label {l} (h : At g k e bx σ) : At g (.code (.label l) :: k) e bx σ := fun w0 F a w st => .step (fun _ _ _ => stepR_label) (h w0 F a w st)
theorem At.inBlock {i} (h : At g k e bx σ) : At g (.inBlock i :: k) e bx σ := fun w0 F a w st => .step (fun _ _ _ => stepR_inBlock) (h w0 F a w st)
theorem At.seq {c x y} (hc : c = Code.seq x y) (h : At g (.code x :: .code y :: k) e bx σ) : At g (.code c :: k) e bx σ :=
 hc ▸ fun w0 F a w st => .step (fun _ _ _ => stepR_seq) (h w0 F a w st)
theorem At.block {c i x} (hc : c = Code.block i x) (h : At g (.code x :: .inBlock i :: k) e bx σ) : At g (.code c :: k) e bx σ :=
 hc ▸ fun w0 F a w st => .step (fun _ _ _ => stepR_block) (h w0 F a w st)
theorem At.loop {c x} (hc : c = Code.loop x) (h : At g (.code x :: .inLoop x :: k) e bx σ) : At g (.code c :: k) e bx σ :=
 hc ▸ fun w0 F a w st => .step (fun _ _ _ => stepR_loop) (h w0 F a w st)
theorem At.inLoop {x} (h : At g (.code x :: .inLoop x :: k) e bx σ) : At g (.inLoop x :: k) e bx σ :=
 fun w0 F a w st => .step (fun _ _ _ => stepR_inLoop) (h w0 F a w st)
theorem At.exit {c i k'} (hc : c = Code.exit i) (hk : exitTo i k = some k') (h : At g k' e bx σ) : At g (.code c :: k) e bx σ :=
 hc ▸ fun w0 F a w st => .step (fun _ _ _ => stepR_exit hk) (h w0 F a w st)
theorem At.goto {c i k'} (hc : c = Code.goto i) (hk : gotoIn i k = some k') (h : At g k' e bx σ) : At g (.code c :: k) e bx σ :=
 hc ▸ fun w0 F a w st => .step (fun _ _ _ => stepR_goto hk) (h w0 F a w st)
theorem At.tE {c x y z} (hc : c = Code.cond x y z) (hx : AE e x = .bool true) (h : At g (.code y :: k) e bx σ) : At g (.code c :: k) e bx σ :=
 hc ▸ fun w0 F a w st => .step (fun _ _ _ => stepR_cond (t := true) (by rw [st.eval]; exact hx)) (h w0 F a w st)
theorem At.tF {c x y z} (hc : c = Code.cond x y z) (hx : AE e x = .bool false) (h : At g (.code z :: k) e bx σ) : At g (.code c :: k) e bx σ :=
 hc ▸ fun w0 F a w st => .step (fun _ _ _ => stepR_cond (t := false) (by rw [st.eval]; exact hx)) (h w0 F a w st)
def left (ds : List Deferred) (σ : Hp) : Hp := ds.foldl (fun σ d => match d.target with | .collected D => σ.set D (.deferred none) | _ => σ) σ
def Marks : List Deferred → Hp → Prop
 | [], _ => True
 | d :: ds, σ => ∃ D, d = { target := .collected D, args := #[] } ∧ σ D = some (.deferred (some [])) ∧ Marks ds (σ.set D (.deferred none))
theorem Fin.put {σ : Hp} {F : Nat → Prop} {w0 w : World} {l : Nat} {o o' : Obj} (h : Fin σ F w0 w) (hl : σ l = some o) : Fin (σ.set l o') F w0 (w.putObj l o') := by
 have Ag : l < w.heap.size := (Array.getElem?_eq_some_iff.1 (h.sat l o hl)).1
 refine ⟨fun k u hk => ?_, fun k hk => ?_, h.os, h.out, by simpa using h.grow⟩
 · by_cases iQ : k = l
   · subst iQ
     simp only [Hp.set, if_true] at hk; cases hk
     exact World.putObj_heap_same Ag
   · simp only [Hp.set, iQ, if_false] at hk
     rw [World.putObj_heap_other iQ]; exact h.sat k u hk
 · have hp := h.C7 k hk
   have iQ : k ≠ l := fun e => by rw [e, hl] at hp; cases hp.1
   exact ⟨by simp only [Hp.set, iQ, if_false]; exact hp.1, by rw [World.putObj_heap_other iQ]; exact hp.2⟩
theorem St.toFin {n ds w0 F e bx σ a w} (st : St n ds w0 F e bx σ a w) : Fin σ F w0 w := ⟨st.sat, fun b hb => ⟨(st.C7 b hb).2.1, (st.C7 b hb).2.2⟩, st.os, st.out, st.grow⟩
theorem NW {P : Program} : ∀ (ds : List Deferred) {σ : Hp} {F : Nat → Prop} {w0 w : World} {fr : Frame} {cs : List Frame}, Marks ds σ → Fin σ F w0 w → IM bx w → (∀ p ∈ bx, σ p.1 = none) → fr.mode = .returning → fr.defers = ds →
   ∃ w', Fin (left ds σ) F w0 w' ∧ IM bx w' ∧ Steps P (lone fr cs w) (lone { fr with defers := [] } cs w')
 | [], σ, F, w0, w, fr, cs, _, hf, hb, _, _, hd => ⟨w, hf, hb, by rw [show ({ fr with defers := [] } : Frame) = fr by cases fr; simp at hd; simp [hd]]; exact .refl ..⟩
 | d :: ds, σ, F, w0, w, fr, cs, ⟨D, hD, hσ, hm⟩, hf, hb, hn, hmo, hd => by
   subst hD
   have h1 := step_collected (P := P) (fr := fr) (cs := cs) (w := w) (r := D) (by rw [hmo]; simp) hd rfl (run_takeDeferred (hf.sat D _ hσ))
   have Ad : ∀ p ∈ bx, p.1 ≠ D := fun p hp e => by have := hn p hp; rw [e, hσ] at this; cases this
   obtain ⟨w', Vu, Js, hs⟩ := NW ds (fr := { fr with defers := [] ++ ds }) (cs := cs) hm (hf.put hσ) (fun p hp => by rw [World.putObj_heap_other (Ad p hp)]; exact hb p hp) (fun p hp => by simp only [Hp.set, Ad p hp, if_false]; exact hn p hp) hmo rfl
   exact ⟨w', Vu, Js, (Steps.one h1).trans hs⟩
theorem At.done {fn : Func} {v : Value} (hf : g.P.funcs[g.f]? = some fn)
   (hr : ∀ (a : Act) w, (∀ t, a.tmps.getD t undef = e t) → Sat (left g.ds σ) w → IM bx w → (results fn a.tmps).run g.P w = .ok v w)
   (h : g.R (.returned v) (left g.ds σ)) (MP : g.Gz = none := by rfl) (hm : Marks g.ds σ := by trivial) : At g [] e bx σ := fun w0 F a w st b cs ny jG bY NL => by
 have hbn : b.roundOf = none := bY.trans MP
 obtain ⟨w', Jt, Js, hs⟩ := NW (P := g.P) (cs := cs) (fr := { b.atR a [] with mode := .returning }) g.ds hm st.toFin st.box (fun p hp => (st.free p hp).1) rfl st.defers
 unfold LX
 rw [MP]
 exact ⟨.returned v, w', _, ⟨_, h, Jt⟩, (Steps.one (stepR_end hbn)).trans hs, ny, rfl, rfl, jG, fn, by simpa [Frame.atR, ny] using hf, hr a w' st.env Jt.sat Js⟩
theorem At.ret {c : Code} {fn : Func} {v : Value} (hc : c = Code.ret) (hf : g.P.funcs[g.f]? = some fn)
   (hr : ∀ (a : Act) w, (∀ t, a.tmps.getD t undef = e t) → Sat (left g.ds σ) w → IM bx w → (results fn a.tmps).run g.P w = .ok v w)
   (h : g.R (.returned v) (left g.ds σ)) (MP : g.Gz = none := by rfl) (hm : Marks g.ds σ := by trivial) : At g (.code c :: k) e bx σ := hc ▸ fun w0 F a w st b cs ny jG bY NL => by
 have hbn : b.roundOf = none := bY.trans MP
 obtain ⟨w', Jt, Js, hs⟩ := NW (P := g.P) (cs := cs) (fr := { b.atR a (.code .ret :: k) with mode := .returning }) g.ds hm st.toFin st.box (fun p hp => (st.free p hp).1) rfl st.defers
 unfold LX
 rw [MP]
 exact ⟨.returned v, w', _, ⟨_, h, Jt⟩, (Steps.one (stepR_ret hbn)).trans hs, ny, rfl, rfl, jG, fn, by simpa [Frame.atR, ny] using hf, hr a w' st.env Jt.sat Js⟩
def lp (r : Loop) (s : LoopState) (p : Option Code) : Loop := { r with state := s, pending := p }
theorem At.beginRound {l : Nat} {r : Loop} (MP : g.Gz = some l) (hσ : σ l = some (.loop (lp r .ready none))) (h : At g k e bx (σ.set l (.loop (lp r .busy none)))) : At g (.beginRound :: k) e bx σ := fun w0 F a w st =>
 Hw.step (fun b cs hb => stepR_beginRound (hb.trans MP) (run_beginRound (st.sat _ _ hσ) rfl)) (h w0 F a _ (by
   have hf := st.toFin.put (o' := .loop (lp r .busy none)) hσ
   have Ad : ∀ p ∈ bx, p.1 ≠ l := fun p hp e => by have := (st.free p hp).1; rw [e, hσ] at this; cases this
   exact { st with sat := hf.sat, box := fun p hp => by rw [World.putObj_heap_other (Ad p hp)]; exact st.box p hp, free := fun p hp => ⟨by simp only [Hp.set, Ad p hp, if_false]; exact (st.free p hp).1, (st.free p hp).2⟩,
                   C7 := fun b hb => ⟨(st.C7 b hb).1, (hf.C7 b hb).1, (hf.C7 b hb).2⟩, os := hf.os, out := hf.out, grow := hf.grow }))
theorem At.jH {l : Nat} {r : Loop} (MP : g.Gz = some l) (hσ : σ l = some (.loop (lp r .busy none))) (h : g.R (.returned (.bool true)) (σ.set l (.loop (lp r .ready none)))) : At g [] e bx σ := fun w0 F a w st b cs ny jG bY NL => by
 unfold LX
 rw [MP]
 rintro c cs' rfl
 exact ⟨_, _, ⟨_, h, st.toFin.put hσ⟩, .one (stepR_round_end (bY.trans MP) jG (run_endRound (r := lp r .busy none) none (st.sat _ _ hσ)))⟩
theorem At.jI {l : Nat} {r : Loop} {c : Code} (hc : c = .ret) (MP : g.Gz = some l) (hσ : σ l = some (.loop (lp r .busy none))) (h : g.R (.returned (.bool false)) (σ.set l (.loop (lp r .done (some .ret))))) : At g (.code c :: k) e bx σ := fun w0 F a w st b cs ny jG bY NL => by
 subst hc
 unfold LX
 rw [MP]
 rintro c cs' rfl
 exact ⟨_, _, ⟨_, h, st.toFin.put hσ⟩, .one (stepR_round_ret (bY.trans MP) jG (run_endRound (r := lp r .busy none) (some .ret) (st.sat _ _ hσ)))⟩
theorem At.sub {Gc : Bx} (hs : Gc.Sublist bx) (h : At g k e Gc σ) : At g k e bx σ := fun w0 F a w st =>
 h w0 F a w { st with box := fun p hp => st.box p (hs.subset hp), free := fun p hp => st.free p (hs.subset hp), nodup := (hs.map _).nodup st.nodup }
def LD (e : Env) : List (Nat × Value) → Env
 | [] => e
 | (t, v) :: l => tD (LD e l) t v
theorem bZ {e : Env} : ∀ {l : List (Nat × Value)}, (∀ p ∈ l, e p.1 = p.2) → LD e l = e
 | [], _ => rfl
 | (t, v) :: l, h => by
   have h1 : LD e l = e := bZ fun p hp => h p (List.mem_cons_of_mem _ hp)
   funext i
   simp only [LD, h1, tD]
   by_cases hi : i = t
   · subst hi
     rw [Nat.beq_refl]
     exact (h (i, v) (List.mem_cons_self ..)).symm
   · rw [ZA hi]; rfl
def Live (e : Env) : List (Nat × Value) → Prop
 | [] => True
 | (t, v) :: l => e t = v ∧ Live e l
theorem Live.mem {e : Env} : ∀ {l : List (Nat × Value)}, Live e l → ∀ p ∈ l, e p.1 = p.2
 | (_, _) :: _, h, p, hp => by
   rcases List.mem_cons.1 hp with rfl | hp
   · exact h.1
   · exact h.2.mem p hp
theorem At.live {l : List (Nat × Value)} (hl : Live e l) (h : At g k (LD e l) bx σ) : At g k e bx σ := by
 rwa [bZ hl.mem] at h
end steps
theorem Spec.Vv {P : Program} {f : FuncId} {fn : Func} {c : Code} {args : Array Value} {σ : Hp} {R : Rr}
   (hf : P.funcs[f]? = some fn) (hb : fn.body = some c) (hn : args.size ≤ fn.ntmps)
   (h : ∀ e : Env, (∀ t, e t = args.getD t undef) → At (Gl.fn P f fn.ntmps R) [.code c] e [] σ) : Spec P f args σ R := by
 intro w F hs hF cs
 let b : Frame := { (default : Frame) with fn := f, kind := .normal, roundOf := none }
 have ZB : Frame.enter P f args .normal =
     b.atR { tmps := args ++ Array.replicate (fn.ntmps - args.size) undef, defers := [] } [.code c] := by
   simp [Frame.enter, Frame.atR, hf, hb, b]
 rw [ZB]
 have st : St fn.ntmps [] w F (fun t => args.getD t undef) [] σ { tmps := args ++ Array.replicate (fn.ntmps - args.size) undef, defers := [] } w := by
   refine ⟨by simp; omega, fun t => ?_, rfl, hs, (fun p hp => by cases hp), (fun p hp => by cases hp), List.nodup_nil, fun b hb => ⟨(hF b hb).1, (hF b hb).2, rfl⟩, .same rfl rfl rfl, rfl, Nat.le_refl _⟩
   rcases Nat.lt_or_ge t args.size with ht | ht
   · simp [Array.getElem?_append, ht]
   · simp only [Array.getD_eq_getD_getElem?, Array.getElem?_append, Nat.not_lt.2 ht, if_false, Array.getElem?_replicate, Array.getElem?_eq_none ht]
     split <;> rfl
 obtain ⟨e, w', fr, r, cc, NL, hl⟩ := h _ (fun _ => rfl) w F _ w st b cs rfl rfl rfl ⟨fn, hf⟩
 exact ⟨e, w', fr, r, cc, NL, hl⟩
def Ab (ops : Array Oper) (e : Env) (gd : Option (Nat × Bool)) : Bool :=
 match gd with
 | none => true
 | some (j, want) => (match (ops[j]?).bind (·.dst) with
     | some d => (match e d with | .bool b => some b | _ => none)
     | none => none) == some want
theorem St.wanted {n ds w0 F e bx σ a w} (h : St n ds w0 F e bx σ a w) (ops : Array Oper) (o : Oper) :
   Region.wanted o (yielded ops a.tmps) = Ab ops e o.guard := by
 unfold Region.wanted Ab
 cases o.guard with
 | none => rfl
 | some p =>
   obtain ⟨j, want⟩ := p
   simp only [yielded]
   cases (ops[j]?).bind (·.dst) with
   | none => rfl
   | some d =>
     have hd := h.env d
     simp only [Option.bind_some, ← hd, Array.getD_eq_getD_getElem?]
     cases a.tmps[d]? with
     | none => rfl
     | some v => cases v <;> rfl
def Qx (g : Gl) (w0 : World) (F : Nat → Prop) : Exit → Act → World → Prop
 | .panic ch, a, w => (g.Gz = none ∧ a.defers = []) ∧ ov g w0 F (.panicked ch) w
 | _, _, _ => False
def AY (g : Gl) (ops : Array Oper) (i : Nat) (e : Env) (bx : Bx) (σ : Hp) (K : Env → Bx → Hp → Prop) : Prop :=
 ∀ w0 F a w, St g.n g.ds w0 F e bx σ a w → wpOpIn (wd g.Gz) 0 g.P ops (Qx g w0 F) i (fun a' w' => ∃ e' Gc σ', St g.n g.ds w0 F e' Gc σ' a' w' ∧ K e' Gc σ') a w
def Seq (g : Gl) (ops : Array Oper) : List Nat → Env → Bx → Hp → (Env → Bx → Hp → Prop) → Prop
 | [], e, bx, σ, K => K e bx σ
 | i :: is, e, bx, σ, K => AY g ops i e bx σ fun e' Gc σ' => Seq g ops is e' Gc σ' K
def Yd (P : Program) (e : Env) (bx : Bx) (σ : Hp) (op : Op) (ty : TypeId) (v : Value) : Prop :=
 ∀ o : Oper, o.op = op → o.type = ty → ∀ w, Sat σ w → IM bx w → (execOp (AE e) o).run P w = .ok (.value v) w
abbrev I8 := Option (List (Nat × List Nat))
def SC (q : I8) (own : Option (Nat × List (List Nat))) (σ : Hp) : Hp :=
 match q, own with
 | none, _ => σ
 | some _, none => fun _ => none
 | some _, some x => fun b => if b = x.1 then σ b else none
def MU : I8 → Option (Nat × List (List Nat)) → I8
 | none, _ => none
 | some L, none => some L
 | some L, some x => some ((x.1, x.2.filterMap List.head?) :: L)
def F7 : I8 → Nat → I8
 | none, _ => none
 | some L, j => some (L.filter fun x => !x.2.contains j)
def IN (ops : Array Oper) (t u : Nat) : Bool :=
 match ops[t]? with
 | some o => o.after.any fun e => Region.binds .any e && e.on == u
 | none => false
def P1 (ops : Array Oper) (i : Nat) : List Nat → Bool
 | [] => false
 | [t] => IN ops t i
 | t :: u :: r => IN ops t u && P1 ops i (u :: r)
def I8.ok (q : I8) (i : Nat) : Bool :=
 match q with
 | none => true
 | some L => L.all fun x => !x.2.contains i
def Sn (ops : Array Oper) (i : Nat) : Option (Nat × List (List Nat)) → Bool
 | none => true
 | some x => x.2.all (P1 ops i)
def Sq (q : I8) (σ : Hp) (bx : Bx) (listed : Array Bool) (w : World) : Prop :=
 IM bx w ∧ match q with
   | none => Sat σ w
   | some L => ∀ x ∈ L, (∃ t ∈ x.2, listed.getD t false = true) ∨ ∀ o, σ x.1 = some o → w.heap[x.1]? = some o
def J7 (q : I8) (bx : Bx) (σ : Hp) (Gc : Bx) (σ' : Hp) : Prop :=
 (∀ p ∈ bx, p ∈ Gc) ∧ match q with
   | none => ∀ b o, σ b = some o → σ' b = some o
   | some L => ∀ x ∈ L, ∀ o, σ x.1 = some o → σ' x.1 = some o
theorem J7.refl (q : I8) (bx : Bx) (σ : Hp) : J7 q bx σ bx σ := ⟨fun _ h => h, by cases q <;> simp⟩
theorem Sq.of {q : I8} {σ : Hp} {bx : Bx} {listed : Array Bool} {w : World} (h : Sat σ w) (hb : IM bx w) : Sq q σ bx listed w := ⟨hb, by
 cases q with
 | none => exact h
 | some L => exact fun x _ => .inr fun o ho => h _ _ ho⟩
theorem UL {listed : Array Bool} {i t : Nat} (h : t ≠ i) : (listed.setIfInBounds i true).getD t false = listed.getD t false := getD_set_ne false (Ne.symm h)
theorem Sq.set {q : I8} {σ : Hp} {bx : Bx} {i : Nat} (Au : q.ok i = true) (listed : Array Bool) (w : World) : Sq q σ bx (listed.setIfInBounds i true) w ↔ Sq q σ bx listed w := by
 unfold Sq
 cases q with
 | none => exact Iff.rfl
 | some L =>
   refine and_congr Iff.rfl (forall_congr' fun x => forall_congr' fun hx => or_congr ?_ Iff.rfl)
   have hni : i ∉ x.2 := by
     have := List.all_eq_true.1 Au x hx
     simpa using this
   refine exists_congr fun t => and_congr_right fun ht => ?_
   rw [UL (fun h => hni (by subst h; exact ht))]
theorem OF {ops : Array Oper} {n i : Nat} {listed : Array Bool} (inv : HeadInv .any ops n listed) : ∀ (p : List Nat) (t : Nat), P1 ops i p = true → p.head? = some t → listed.getD t false = true → listed.getD i false = true
 | [], _, h, _, _ => by cases h
 | [t'], t, h, ht, hl => by
   simp only [List.head?_cons, Option.some.injEq] at ht
   subst ht
   simp only [P1, IN] at h
   split at h
   · rename_i o ho
     obtain ⟨e, he, hb⟩ := Array.any_eq_true'.1 h
     simp only [Bool.and_eq_true, beq_iff_eq] at hb
     exact hb.2 ▸ inv.closed _ o ho hl e he hb.1
   · cases h
 | t' :: u :: r, t, h, ht, hl => by
   simp only [List.head?_cons, Option.some.injEq] at ht
   subst ht
   simp only [P1, Bool.and_eq_true] at h
   refine OF inv (u :: r) u h.2 rfl ?_
   have h := h.1
   simp only [IN] at h
   split at h
   · rename_i o ho
     obtain ⟨e, he, hb⟩ := Array.any_eq_true'.1 h
     simp only [Bool.and_eq_true, beq_iff_eq] at hb
     exact hb.2 ▸ inv.closed _ o ho hl e he hb.1
   · cases h
theorem Sq.own {ops : Array Oper} {n i : Nat} {listed : Array Bool} {q : I8} {own : Option (Nat × List (List Nat))} {σ : Hp} {bx : Bx} {w : World} (inv : HeadInv .any ops n listed) (Sp : listed.getD i true = false) (Au : Sn ops i own = true)
   (h : Sq (MU q own) σ bx listed w) : Sat (SC q own σ) w ∧ IM bx w := by
 refine ⟨?_, h.1⟩
 cases q with
 | none => exact h.2
 | some L =>
   cases own with
   | none => intro b o hb; cases hb
   | some x =>
     intro b o hb
     simp only [SC] at hb
     split at hb
     · rename_i hbx
       subst hbx
       rcases h.2 (x.1, x.2.filterMap List.head?) (List.mem_cons_self ..) with ⟨t, ht, hl⟩ | h2
       · obtain ⟨p, hp, hpt⟩ := List.mem_filterMap.1 ht
         have := OF inv p t (List.all_eq_true.1 Au p hp) hpt hl
         rw [getD_both Sp] at this; cases this
       · exact h2 o hb
     · cases hb
theorem Sq.less {q : I8} {own : Option (Nat × List (List Nat))} {σ : Hp} {bx : Bx} {listed : Array Bool} {w : World} (h : Sq (MU q own) σ bx listed w) : Sq q σ bx listed w := by
 refine ⟨h.1, ?_⟩
 cases q with
 | none => exact h.2
 | some L =>
   cases own with
   | none => exact h.2
   | some x => exact fun y hy => h.2 y (List.mem_cons_of_mem _ hy)
theorem Sq.UM {q : I8} {σ σ' : Hp} {bx Gc : Bx} {i : Nat} {listed : Array Bool} {w : World} (hi : listed.getD i false = true) (hk : J7 (F7 q i) bx σ Gc σ') (h : Sq (F7 q i) σ' Gc listed w) : Sq q σ bx listed w := by
 refine ⟨fun p hp => h.1 p (hk.1 p hp), ?_⟩
 cases q with
 | none => exact fun b o hb => h.2 b o (hk.2 b o hb)
 | some L =>
   intro x hx
   by_cases hc : i ∈ x.2
   · exact .inl ⟨i, hc, hi⟩
   · have hm : x ∈ L.filter fun x => !x.2.contains i := List.mem_filter.2 ⟨hx, by simpa using hc⟩
     rcases h.2 x hm with h2 | h2
     · exact .inl h2
     · exact .inr fun o ho => h2 o (hk.2 x hm o ho)
def Head (g : Gl) (ops : Array Oper) : I8 → List (Nat × Bool) → Env → Bx → Hp → (Env → Bx → Hp → Prop) → Prop
 | _, [], e, bx, σ, K => K e bx σ
 | q, (i, true) :: r, e, bx, σ, K => ∃ own o v, ((MU q own).ok i && Sn ops i own) = true ∧ ops[i]? = some o ∧ ((Ab ops e o.guard = true ∧ Yd g.P e bx (SC q own σ) o.op o.type v) ∨ (Ab ops e o.guard = false ∧ v = undef)) ∧
     (∀ t, o.dst = some t → t < g.n) ∧ Head g ops (MU q own) r (put e o.dst v) bx σ K
 | q, (i, false) :: r, e, bx, σ, K => AY g ops i e bx σ fun e' Gc σ' => J7 (F7 q i) bx σ Gc σ' ∧ Head g ops (F7 q i) r e' Gc σ' K
def NX (ops : Array Oper) (n : Nat) : List (Nat × Bool) → Array Bool → Bool
 | [], listed => Region.seqB .any ops (ops.size - n) n listed
 | (i, true) :: r, listed => decide (i < n) && (Region.ready .any ops listed).contains i && Region.free .any ops listed i && NX ops n r (listed.setIfInBounds i true)
 | (i, false) :: r, listed => decide (i < n) && (Region.ready .any ops listed == [i]) && NX ops n r (listed.setIfInBounds i true)
def jJ (ops : Array Oper) (n : Nat) (plan : List (Nat × Bool)) (tail : List Nat) : Bool :=
 Region.noSelect ops && decide (plan.length = n) && (decide (n = ops.size) || (decide (n < ops.size) && Region.sinkB .any ops n && Region.chainB .any ops n)) &&
   decide (tail = List.range' n (ops.size - n)) && NX ops n plan (Array.replicate ops.size false)
section head
variable {P : Program} {ro : Option Nat} {ops : Array Oper} {Q : Exit → Act → World → Prop} {md : Region.Mode}
theorem DK {i : Nat} {o : Oper} {K : Act → World → Prop} {a : Act} {w : World} (ho : ops[i]? = some o) (hw : Region.wanted o (yielded ops a.tmps) = true) (h : o.uponIn (wd ro) 0 P a K Q ((o.semAt ro a.eval).run P w)) :
   wpOpIn (wd ro) 0 P ops Q i K a w := by
 unfold wpOpIn
 simp only [ho, hw, if_true]
 exact ⟨fun _ _ => trivial, h⟩
theorem ZC {i : Nat} {o : Oper} {K : Act → World → Prop} {a : Act} {w : World} (ho : ops[i]? = some o) (hw : Region.wanted o (yielded ops a.tmps) = false) (h : K (a.put o.dst undef) w) : wpOpIn (wd ro) 0 P ops Q i K a w := by
 unfold wpOpIn
 simp only [ho, hw, Bool.false_eq_true, if_false]
 exact ⟨fun _ _ => trivial, h⟩
theorem bc {S : World → Prop} {i : Nat} {o : Oper} {v : Value} {a : Act} (hi : ops[i]? = some o) (hy : YieldsIf P ops S o v a)
   {K : Act → World → Prop} {w : World} (hS : S w) (h : K (a.put o.dst v) w) : wpOpIn (wd ro) 0 P ops Q i K a w := by
 rcases hy with ⟨hw, hv⟩ | ⟨hw, rfl⟩
 · refine DK hi hw ?_
   rw [EM (hv w hS) (fun d => by simp)]
   exact h
 · exact ZC hi hw h
theorem eA {o : Oper} (hs : ∀ cs b, o.op ≠ .select cs b) (a : Act) (dst : Option Tmp) (u : Value) (h : ∀ d, dst = some d → d ∉ o.looksAt ops) : o.semAt ro (a.put dst u).eval = o.semAt ro a.eval := by
 have he := execOp_put o hs a dst u h
 by_cases hd : ∃ c, o.op = .defer c
 · obtain ⟨c, hc⟩ := hd
   have hr : resolve (a.put dst u).eval c o.type = resolve a.eval c o.type := resolve_congr (ρ := (a.put dst u).eval) (ρ' := a.eval) c o.type (fun x hx => Act.eval_put fun d hd jK => h d hd (by
     subst jK
     exact List.mem_append_left _ (List.mem_filterMap.2 ⟨.tmp d, by rw [hc]; simpa [Op.operands] using hx, rfl⟩)))
   unfold Oper.semAt
   cases ro with
   | none => exact he
   | some l => simp only [hc, hr]
 · rw [Oper.semAt_eq ro _ o (fun c hc => hd ⟨c, hc⟩), Oper.semAt_eq ro _ o (fun c hc => hd ⟨c, hc⟩)]; exact he
theorem eC {S : World → Prop} {j : Nat} {oi oj : Oper} {v : Value} (hj : ops[j]? = some oj) (hap : oi.apart ops oj = true)
   (hsi : ∀ cs b, oi.op ≠ .select cs b) (hsj : ∀ cs b, oj.op ≠ .select cs b)
   (hQ : ∀ c a w, Q (.panic c) (a.put oi.dst v) w → Q (.panic c) a w) {K : Act → World → Prop} {a : Act} {w : World}
   (hy : YieldsIf P ops S oi v a) (h : wpOpIn (wd ro) 0 P ops Q j K (a.put oi.dst v) w) :
   wpOpIn (wd ro) 0 P ops Q j (fun a' w' => YieldsIf P ops S oi v a' ∧ K (a'.put oi.dst v) w') a w := by
 obtain ⟨h1, h2, h3⟩ := Oper.apart_spec hap
 have keep : ∀ (a : Act), YieldsIf P ops S oi v a → ∀ u, YieldsIf P ops S oi v (a.put oj.dst u) := fun a hy u =>
   hy.of_same (execOp_put oi hsi a oj.dst u h3) (wanted_put oi a oj.dst u h3)
 have AAz : ∀ d, YieldsIf P ops S oi v { a with defers := d :: a.defers } := fun d => hy.of_same rfl rfl
 unfold wpOpIn at h
 simp only [hj] at h
 rw [wanted_put oj a oi.dst v h1] at h
 by_cases hw : Region.wanted oj (yielded ops a.tmps) = true
 · simp only [hw, if_true] at h
   refine DK hj hw ?_
   have h := h.2
   change oj.uponIn (wd ro) 0 P (a.put oi.dst v) K Q ((oj.semAt ro (a.put oi.dst v).eval).run P w) at h
   rw [eA hsj a oi.dst v h1] at h
   generalize (oj.semAt ro a.eval).run P w = r at *
   cases r with
   | ok n w' =>
     cases n <;> simp only [Oper.uponIn] at h ⊢
     case value u => exact ⟨keep a hy u, by rw [← Act.put_comm a v u h2]; exact h⟩
     case skip => exact ⟨keep a hy _, by rw [← Act.put_comm a v undef h2]; exact h⟩
     case defer d =>
       refine ⟨keep _ (AAz d) _, ?_⟩
       rw [← Act.put_comm _ v undef h2, ← Act.put_defers]
       exact h
     case enter f args =>
       refine ⟨h.1, CallsIn.mono h.2 fun e vu he => ?_⟩
       cases e with
       | returned u => exact ⟨keep a hy u, by rw [← Act.put_comm a v u h2]; exact he⟩
       | panicked c => exact hQ _ _ _ he
       | outgrown => exact he
     case row row args => exact ⟨h.1, RowsIn.mono h.2 fun u vu he => ⟨keep a hy u, by rw [← Act.put_comm a v u h2]; exact he⟩⟩
     case round l f tmps assign body =>
       refine ⟨h.1, RoundIn.mono h.2 fun e vu he => ?_⟩
       cases e with
       | returned u => exact ⟨keep a hy u, by rw [← Act.put_comm a v u h2]; exact he⟩
       | panicked c => exact hQ _ _ _ he
       | outgrown => exact he
   | halt x w' =>
     cases x <;> simp only [Oper.uponIn] at h ⊢
     case panic u => exact hQ _ _ _ h
 · have hw : Region.wanted oj (yielded ops a.tmps) = false := by simpa using hw
   simp only [hw, Bool.false_eq_true, if_false] at h
   exact ZC hj hw ⟨keep a hy _, by rw [← Act.put_comm a v undef h2]; exact h.2⟩
def Gh (P : Program) (ro : Option Nat) (md : Region.Mode) (ops : Array Oper) (Q : Exit → Act → World → Prop) (S : Array Bool → World → Prop) (n : Nat) (L : Array Bool → Act → World → Prop) : Nat → Array Bool → Act → World → Prop
 | 0, listed, a, w => L listed a w
 | f + 1, listed, a, w => Region.ready md ops listed ≠ [] ∧
     ∀ i ∈ Region.ready md ops listed, i < n ∧ wpOpIn (wd ro) 0 P ops Q i (fun a' w' => S (listed.setIfInBounds i true) w' ∧ Gh P ro md ops Q S n L f (listed.setIfInBounds i true) a' w') a w
theorem G0 {n g : Nat} {S : Array Bool → World → Prop} {L : Array Bool → Act → World → Prop} (hL : ∀ listed a w, L listed a w → wpAnyIn (wd ro) 0 P md ops Q g listed a w) :
   ∀ (f : Nat) (listed : Array Bool) (a : Act) (w : World), Gh P ro md ops Q S n L f listed a w → wpAnyIn (wd ro) 0 P md ops Q (f + g) listed a w
 | 0, listed, a, w, h => by rw [Nat.zero_add]; exact hL _ _ _ h
 | f + 1, listed, a, w, h => by
   rw [show f + 1 + g = (f + g) + 1 by omega]
   exact ⟨fun h0 => absurd h0 h.1, fun i hi => wpOpIn_mono (fun a' w' h' => G0 hL f _ a' w' h'.2) (h.2 i hi).2⟩
theorem E9 {n : Nat} {S S' : Array Bool → World → Prop} {G : Array Bool → Prop} {L : Array Bool → Act → World → Prop} (hG : ∀ listed j, G listed → G (listed.setIfInBounds j true)) (hS : ∀ listed w, G listed → S' listed w → S listed w) :
   ∀ (f : Nat) (listed : Array Bool) (a : Act) (w : World), G listed → Gh P ro md ops Q S' n L f listed a w → Gh P ro md ops Q S n L f listed a w
 | 0, _, _, _, _, h => h
 | f + 1, _, _, _, hg, h => ⟨h.1, fun i hi => ⟨(h.2 i hi).1, wpOpIn_mono (fun a' w' h' => ⟨hS _ _ (hG _ _ hg) h'.1, E9 hG hS f _ a' w' (hG _ _ hg) h'.2⟩) (h.2 i hi).2⟩⟩
theorem ZD {n : Nat} {f : FuncId} {args : Array Value} {w : World} {R : Ending → World → Prop} (h : Calls P f args w R) : CallsIn (wd ro) n P f args w R :=
 ⟨trivial, fun cs _ => let ⟨e, w', fr, r, s, x⟩ := h cs; ⟨e, w', fr, r, comesIn_wide.2 s, x⟩⟩
theorem LY {n i : Nat} {oi : Oper} {v : Value} {S : Array Bool → World → Prop} {Sy : World → Prop} {L : Array Bool → Act → World → Prop} (hi : ops[i]? = some oi) (Lw : ∀ (j : Nat) (o : Oper) cs b, ops[j]? = some o → o.op ≠ .select cs b)
   (hQ : ∀ c a w, Q (.panic c) (a.put oi.dst v) w → Q (.panic c) a w)
   (G1 : ∀ listed, HeadInv md ops n listed → ∀ i, i < n → listed.getD i true = false → ∀ t, n ≤ t → t ∉ Region.ready md ops listed)
   (hSi : ∀ listed w, S (listed.setIfInBounds i true) w ↔ S listed w) (hSy : ∀ listed w, HeadInv md ops n listed → listed.getD i true = false → S listed w → Sy w)
   (C9 : i < n) (Sr : ∀ listed a w, L listed a w → ∀ j ∈ Region.ready md ops listed, n ≤ j) :
   ∀ (f : Nat) (listed : Array Bool) (a : Act) (w : World), HeadInv md ops n listed →
     (∀ j oj, ops[j]? = some oj → j ≠ i → listed.getD j true = false → (∀ e ∈ oj.after, Region.binds md e = true → e.on ≠ i) → oi.apart ops oj = true) →
     i ∈ Region.ready md ops listed → YieldsIf P ops Sy oi v a → S listed w →
     Gh P ro md ops Q S n L f (listed.setIfInBounds i true) (a.put oi.dst v) w → Gh P ro md ops Q S n L (f + 1) listed a w := by
 intro f
 induction f with
 | zero =>
   intro listed a w inv _ hr hy hS H
   have Sp := (mem_ready.1 hr).1
   refine ⟨fun h => (by rw [h] at hr; cases hr), fun j hj => ?_⟩
   have vv : j < n := by
     rcases Nat.lt_or_ge j n with h | h
     · exact h
     · exact absurd hj (G1 _ inv i C9 Sp j h)
   refine ⟨vv, ?_⟩
   by_cases Yo : j = i
   · subst Yo; exact bc hi hy (hSy _ _ inv Sp hS) ⟨(hSi _ _).2 hS, H⟩
   · have := Sr _ _ _ H j (ready_mono hj Yo)
     omega
 | succ f ih =>
   intro listed a w inv bf hr hy hS H
   have Sp := (mem_ready.1 hr).1
   refine ⟨fun h => (by rw [h] at hr; cases hr), fun j hj => ?_⟩
   have vv : j < n := by
     rcases Nat.lt_or_ge j n with h | h
     · exact h
     · exact absurd hj (G1 _ inv i C9 Sp j h)
   refine ⟨vv, ?_⟩
   by_cases Yo : j = i
   · subst Yo; exact bc hi hy (hSy _ _ inv Sp hS) ⟨(hSi _ _).2 hS, H⟩
   · have h1 := (H.2 j (ready_mono hj Yo)).2
     obtain ⟨AA0, oj, hoj, E5⟩ := mem_ready.1 hj
     have MV : ∀ e ∈ oj.after, Region.binds md e = true → e.on ≠ i := fun e he hb heq => by
       have h1 := E5 e he hb
       rw [heq, getD_both Sp] at h1
       cases h1
     have h2 := eC hoj (bf j oj hoj Yo AA0 MV) (fun cs b => Lw i oi cs b hi) (fun cs b => Lw j oj cs b hoj) hQ hy h1
     have vw : ∀ k ok, ops[k]? = some ok → k ≠ i → (listed.setIfInBounds j true).getD k true = false →
         (∀ e ∈ ok.after, Region.binds md e = true → e.on ≠ i) → oi.apart ops ok = true := fun k ok hk hki Sp Be => by
       refine bf k ok hk hki ?_ Be
       by_cases nz : j = k
       · subst nz; exact AA0
       · rw [getD_set_ne true nz] at Sp; exact Sp
     refine wpOpIn_mono (fun a' w' h3 => ⟨(hSi _ _).1 (by rw [Array.setIfInBounds_comm _ _ Yo]; exact h3.2.1), ih (listed.setIfInBounds j true) a' w' (inv.set hj vv) vw (ready_mono hr (Ne.symm Yo)) h3.1 ((hSi _ _).1 (by rw [Array.setIfInBounds_comm _ _ Yo]; exact h3.2.1)) ?_⟩) h2
     rw [Array.setIfInBounds_comm _ _ Yo]
     exact h3.2.2
theorem Hx : ∀ (g k : Nat) (listed : Array Bool) (a : Act) (w : World),
   Region.seqB md ops g k listed = true → wpOpsIn (wd ro) 0 P ops Q (List.range' k g) a w → wpAnyIn (wd ro) 0 P md ops Q g listed a w
 | 0, _, _, _, _, hB, h => ⟨by simpa [Region.seqB] using hB, h⟩
 | g + 1, k, listed, a, w, hB, h => by
   simp only [Region.seqB, Bool.and_eq_true, decide_eq_true_eq] at hB
   refine ⟨fun h1 => (by rw [hB.1] at h1; cases h1), fun i hi => ?_⟩
   rw [hB.1] at hi
   have hik : i = k := by simpa using hi
   subst hik
   rw [List.range'_succ, wpOpsIn_cons] at h
   exact wpOpIn_mono (fun a' w' h' => Hx g (i + 1) _ a' w' hB.2 h') h
end head
section regions
variable {g : Gl} {ops : Array Oper}
def Qn (g : Gl) (w0 : World) (F : Nat → Prop) (K : Env → Bx → Hp → Prop) : Exit → Act → World → Prop
 | .normal, a, w => ∃ e bx σ, St g.n g.ds w0 F e bx σ a w ∧ K e bx σ
 | .panic ch, a, w => (g.Gz = none ∧ a.defers = []) ∧ ov g w0 F (.panicked ch) w
 | _, _, _ => False
theorem ZE {P : Program} {ro : Option Nat} {Q Q' : Exit → Act → World → Prop} (hp : ∀ c a w, Q (.panic c) a w → Q' (.panic c) a w) (ho : ∀ a w, Q .outgrown a w → Q' .outgrown a w)
   {i : Nat} {K : Act → World → Prop} {a : Act} {w : World} (h : wpOpIn (wd ro) 0 P ops Q i K a w) : wpOpIn (wd ro) 0 P ops Q' i K a w := by
 unfold wpOpIn at *
 split
 · rename_i hn; simpa only [hn] using h
 · rename_i o hn
   simp only [hn] at h
   split
   · rename_i hw
     simp only [hw, if_true] at h
     unfold Oper.wpIn at *
     refine ⟨h.1, ?_⟩
     have h := h.2
     generalize (o.semAt (wd ro).round a.eval).run P w = r at *
     cases r with
     | ok x w' =>
       cases x <;> simp only [Oper.uponIn] at h ⊢ <;> try exact h
       · refine ⟨h.1, CallsIn.mono h.2 fun en w2 J8 => ?_⟩
         cases en with
         | returned v => exact J8
         | panicked c => exact hp _ _ _ J8
         | outgrown => obtain ⟨a1, w1, h1⟩ := J8; exact ⟨a1, w1, ho _ _ h1⟩
       · refine ⟨h.1, RoundIn.mono h.2 fun en w2 J8 => ?_⟩
         cases en with
         | returned v => exact J8
         | panicked c => exact hp _ _ _ J8
         | outgrown => obtain ⟨a1, w1, h1⟩ := J8; exact ⟨a1, w1, ho _ _ h1⟩
     | halt x w' =>
       cases x <;> simp only [Oper.uponIn] at h ⊢
       exact hp _ _ _ h
   · rename_i hw
     simp only [hw] at h
     exact h
theorem Kh {K : Env → Bx → Hp → Prop} {w0 F} : ∀ (is : List Nat) (e : Env) (bx : Bx) (σ : Hp) (a : Act) (w : World), St g.n g.ds w0 F e bx σ a w →
   Seq g ops is e bx σ K → wpOpsIn (wd g.Gz) 0 g.P ops (Qn g w0 F K) is a w
 | [], e, bx, σ, a, w, st, h => ⟨e, bx, σ, st, h⟩
 | i :: is, e, bx, σ, a, w, st, h => by
   rw [wpOpsIn_cons]
   refine wpOpIn_mono ?_ (ZE (Q := Qx g w0 F) (fun c a w h => h) (fun a w h => h.elim) (h w0 F a w st))
   rintro a' w' ⟨e', Gc, σ', MQ, h'⟩
   exact Kh is e' Gc σ' a' w' MQ h'
theorem Lx {K : Env → Bx → Hp → Prop} {w0 F} {n : Nat} {tl : List Nat} (Lw : Region.noSelect ops = true)
   (G1 : ∀ listed, HeadInv .any ops n listed → ∀ i, i < n → listed.getD i true = false → ∀ t, n ≤ t → t ∉ Region.ready .any ops listed)
   (SD : tl = List.range' n (ops.size - n)) :
   ∀ (plan : List (Nat × Bool)) (q : I8) (listed : Array Bool) (e : Env) (bx : Bx) (σ : Hp) (a : Act) (w : World), HeadInv .any ops n listed → NX ops n plan listed = true →
     St g.n g.ds w0 F e bx σ a w → Head g ops q plan e bx σ (fun e bx σ => Seq g ops tl e bx σ K) →
     Gh g.P g.Gz .any ops (Qn g w0 F K) (Sq q σ bx) n (fun listed a w => Region.seqB .any ops (ops.size - n) n listed = true ∧ wpOpsIn (wd g.Gz) 0 g.P ops (Qn g w0 F K) tl a w) plan.length listed a w
 | [], _, listed, e, bx, σ, a, w, _, Au, st, h => ⟨Au, Kh _ _ _ _ _ _ st h⟩
 | (i, true) :: r, q, listed, e, bx, σ, a, w, inv, Au, st, h => by
   obtain ⟨own, o, v, ow, ho, hy, hd, h⟩ := h
   simp only [Bool.and_eq_true] at ow
   simp only [NX, Bool.and_eq_true, decide_eq_true_eq] at Au
   obtain ⟨⟨⟨C9, hr⟩, hf⟩, Au⟩ := Au
   have I9 : i ∈ Region.ready .any ops listed := by simpa using hr
   refine E9 (S' := Sq (MU q own) σ bx) (G := fun _ => True) (fun _ _ _ => trivial) (fun _ _ _ h => h.less) _ _ _ _ trivial ?_
   refine LY (Sy := fun w => Sat (SC q own σ) w ∧ IM bx w) ho (Region.noSelect_spec Lw) ?_ G1 (Sq.set ow.1) (fun listed w inv Sp h => Sq.own inv Sp ow.2 h) C9 ?_ _ listed a w inv (Region.free_spec ho hf) I9 ?_ (Sq.of st.sat st.box)
     (Lx Lw G1 SD r _ _ _ _ _ _ _ (inv.set I9 C9) Au (st.put o.dst v hd) h)
   · rintro c a w ⟨⟨h0, h1⟩, h2⟩
     exact ⟨⟨h0, by cases NY : o.dst <;> simpa [Act.put, NY] using h1⟩, h2⟩
   · intro listed a w hL
     exact seqB_ready hL.1
   · rcases hy with ⟨hw, hy⟩ | ⟨hw, rfl⟩
     · exact .inl ⟨by rw [st.wanted]; exact hw, fun w hS => by rw [st.eval]; exact hy o rfl rfl w hS.1 hS.2⟩
     · exact .inr ⟨by rw [st.wanted]; exact hw, rfl⟩
 | (i, false) :: r, q, listed, e, bx, σ, a, w, inv, Au, st, h => by
   simp only [NX, Bool.and_eq_true, decide_eq_true_eq, beq_iff_eq] at Au
   obtain ⟨⟨C9, hr⟩, Au⟩ := Au
   refine ⟨by rw [hr]; simp, fun j hj => ?_⟩
   rw [hr] at hj
   obtain rfl : j = i := by simpa using hj
   refine ⟨C9, wpOpIn_mono ?_ (ZE (Q := Qx g w0 F) (fun c a w h => h) (fun a w h => h.elim) (h w0 F a w st))⟩
   rintro a' w' ⟨e', Gc, σ', MQ, hk, h'⟩
   have hl : (listed.setIfInBounds j true).getD j false = true := by
     have Ag : j < listed.size := by rw [inv.size]; obtain ⟨_, o, ho, _⟩ := mem_ready.1 (show j ∈ Region.ready .any ops listed by rw [hr]; simp); exact (Array.getElem?_eq_some_iff.1 ho).1
     simp [Ag]
   exact ⟨Sq.UM hl hk (Sq.of MQ.sat MQ.box), E9 (S' := Sq (F7 q j) σ' Gc) (G := fun l => l.getD j false = true) (fun _ _ h => getD_set_true h) (fun _ _ hg h => Sq.UM hg hk h) _ _ _ _ hl
     (Lx Lw G1 SD r _ _ _ _ _ _ _ (inv.set (by rw [hr]; simp) C9) Au MQ h')⟩
end regions
theorem Hw.of_wp {g : Gl} {c : Code} {k : List Item} {a : Act} {w : World} {w0 F} {K : Env → Bx → Hp → Prop}
   (h : c.wpIn (wd g.Gz) 0 g.P (Qn g w0 F K) a w) (hk : ∀ e bx σ, K e bx σ → At g k e bx σ) : Hw g.P g.f g.Gz (.code c :: k) a w (ov g w0 F) := by
 intro b cs hf LF bY NL
 obtain ⟨e, a', w', hq, PA⟩ := h b k cs bY trivial ou
 cases e with
 | normal =>
   obtain ⟨e, bx, σ, st, hK⟩ := hq
   exact .of_steps PA.steps (hk _ _ _ hK w0 F a' w' st b cs hf LF bY NL)
 | panic ch =>
   obtain ⟨⟨MP, hd⟩, hq⟩ := hq
   obtain ⟨todo, hs⟩ := PA
   obtain ⟨fn, NL⟩ := NL
   unfold LX
   rw [MP]
   exact ⟨.panicked ch, w', _, hq, hs.steps, hf, rfl, hd, fn, by simpa [Frame.atR, hf] using NL⟩
 | _ => exact hq.elim
section jL
variable {g : Gl} {k : List Item} {e : Env} {bx : Bx} {σ : Hp}
theorem At.region {c : Code} {id : Nat} {ops : Array Oper} {l : List Nat} (hc : c = .region id ops false) (hl : List.range ops.size = l)
   (h : Seq g ops l e bx σ (fun e bx σ => At g k e bx σ)) : At g (.code c :: k) e bx σ := fun _ _ a w st =>
 hc ▸ Hw.of_wp (K := fun e bx σ => At g k e bx σ) (wpIn_region (hl ▸ Kh l e bx σ a w st h)) (fun _ _ _ h => h)
theorem At.draw {c : Code} {id : Nat} {ops : Array Oper} {n : Nat} {q : I8} {plan : List (Nat × Bool)} {tl : List Nat} (hm : g.P.follows .mixedOrders = true) (hc : c = .region id ops true)
   (hp : jJ ops n plan tl = true)
   (h : Head g ops q plan e bx σ (fun e bx σ => Seq g ops tl e bx σ (fun e bx σ => At g k e bx σ))) : At g (.code c :: k) e bx σ := fun w0 F a w st => by
 subst hc
 simp only [jJ, Bool.and_eq_true, Bool.or_eq_true, decide_eq_true_eq] at hp
 obtain ⟨⟨⟨⟨Lw, hlen⟩, hn⟩, SD⟩, Au⟩ := hp
 have J1 : n ≤ ops.size := by rcases hn with h | h <;> omega
 have G1 : ∀ listed, HeadInv .any ops n listed → ∀ i, i < n → listed.getD i true = false → ∀ t, n ≤ t → t ∉ Region.ready .any ops listed := by
   intro listed inv i hi Sp t ht
   rcases hn with h | ⟨⟨h1, h2⟩, h3⟩
   · intro hr
     obtain ⟨_, o, ho, _⟩ := mem_ready.1 hr
     have := (Array.getElem?_eq_some_iff.1 ho).1
     omega
   · exact tail_waits h2 h3 h1 inv _ i rfl hi Sp t ht
 have vx : HeadInv .any ops n (Array.replicate ops.size false) :=
   ⟨by simp, fun j oj _ hl => (by rw [getD_replicate_false] at hl; cases hl), fun t _ ht => getD_in (by simpa using ht) (getD_replicate_false _ _)⟩
 refine Hw.of_wp (K := fun e bx σ => At g k e bx σ) (wpIn_region_any hm ?_) (fun _ _ _ h => h)
 have H := Lx (K := fun e bx σ => At g k e bx σ) (tl := tl) Lw G1 SD plan q (Array.replicate ops.size false) e bx σ a { w with drawn := w.drawn + 1 } vx Au st.drew h
 have := G0 (g := ops.size - n) (fun listed a w hL => Hx _ _ listed a w hL.1 (SD ▸ hL.2)) _ _ _ _ H
 rw [hlen, show n + (ops.size - n) = ops.size by omega] at this
 exact this
end jL
end Tw
end
section
namespace Tw
open Go
variable [I7]
def Hp.ld (σ : Hp) (a : Addr) : Option Value :=
 match σ a.block with
 | some (.cells c _ _) => if a.spot.isSome then none else c[a.off]?
 | _ => none
theorem Sat.ld {σ : Hp} {w : World} (h : Sat σ w) {a : Addr} {v : Value} (hl : σ.ld a = some v) : w.cell? a = some v := by
 unfold Hp.ld at hl
 unfold World.cell?
 cases hb : σ a.block with
 | none => simp [hb] at hl
 | some o => rw [h _ _ hb]; rw [hb] at hl; exact hl
def EF (σ : Hp) (b : Nat) : Nat → List Value → Prop
 | _, [] => True
 | o, v :: l => σ.ld ⟨b, o, none⟩ = some v ∧ EF σ b (o + 1) l
theorem EF.get {σ : Hp} {b : Nat} : ∀ {l : List Value} {o j : Nat} {v : Value}, EF σ b o l → l[j]? = some v → σ.ld ⟨b, o + j, none⟩ = some v
 | x :: l, o, 0, v, h, hj => by simp at hj; subst hj; exact h.1
 | x :: l, o, j + 1, v, h, hj => by
   have := EF.get (l := l) (o := o + 1) (j := j) h.2 (by simpa using hj)
   rwa [show o + (j + 1) = o + 1 + j by omega]
theorem DC (b o n : Nat) : (⟨b, o, none⟩ : Addr).add n = ⟨b, o + n, none⟩ := by cases n <;> simp [Addr.add]
section ZF
variable {P : Program} {e : Env} {bx : Bx} {σ : Hp} {ty T T' : TypeId} {x y z : Operand} {k : IntKind} {a b : Int}
theorem Yd.of {op : Op} {v : Value} (m : Sem Value) (h : ∀ o : Oper, o.op = op → o.type = ty → execOp (AE e) o = (do pure (.value (← m))))
   (hm : ∀ w, Sat σ w → IM bx w → m.run P w = .ok v w) : Yd P e bx σ op ty v := fun oo ho ht w hs hb => by
 rw [h oo ho ht]; simp [hm w hs hb]
theorem Yd.pu {op : Op} {v : Value} (h : ∀ o : Oper, o.op = op → execOp (AE e) o = pure (.value v)) : Yd P e bx σ op ty v := fun oo ho _ w _ _ => by
 rw [h oo ho]; simp
theorem Y.move {v : Value} (hx : AE e x = v) : Yd P e bx σ (.move x) ty v := .pu fun o ho => by simp [execOp, ho, hx]
theorem Y.assign {v : Value} (hx : AE e x = v) : Yd P e bx σ (.assign x) ty v := .pu fun o ho => by simp [execOp, ho, hx]
theorem Y.tG {v : Value} (hc : AE e z = .bool true) (hx : AE e x = v) : Yd P e bx σ (.pick z x y) ty v :=
 .pu fun o ho => by simp [execOp, ho, hc, hx, asBool]
theorem Y.tH {v : Value} (hc : AE e z = .bool false) (hx : AE e y = v) : Yd P e bx σ (.pick z x y) ty v :=
 .pu fun o ho => by simp [execOp, ho, hc, hx, asBool]
theorem Y.lss (hx : AE e x = .int k a) (hy : AE e y = .int k b) : Yd P e bx σ (.binOp .lss T x y T') ty (.bool (decide (a < b))) :=
 fun oo ho _ w _ _ => by simp [execOp, ho, hx, hy, eqGuard_lss, binOp_lss]
theorem Y.leq (hx : AE e x = .int k a) (hy : AE e y = .int k b) : Yd P e bx σ (.binOp .leq T x y T') ty (.bool (decide (a ≤ b))) :=
 fun oo ho _ w _ _ => by simp [execOp, ho, hx, hy, eqGuard_leq, binOp_leq]
theorem Y.gtr (hx : AE e x = .int k a) (hy : AE e y = .int k b) : Yd P e bx σ (.binOp .gtr T x y T') ty (.bool (decide (b < a))) :=
 fun oo ho _ w _ _ => by simp [execOp, ho, hx, hy, eqGuard_gtr, binOp_gtr]
theorem Y.geq (hx : AE e x = .int k a) (hy : AE e y = .int k b) : Yd P e bx σ (.binOp .geq T x y T') ty (.bool (decide (b ≤ a))) :=
 fun oo ho _ w _ _ => by simp [execOp, ho, hx, hy, eqGuard_geq, binOp_geq]
theorem Y.eql (hx : AE e x = .int k a) (hy : AE e y = .int k b) : Yd P e bx σ (.binOp .eql T x y T') ty (.bool (decide (a = b))) :=
 fun oo ho _ w _ _ => by simp [execOp, ho, hx, hy, eqGuard_at_int, binOp_eql]; rfl
theorem Y.neq (hx : AE e x = .int k a) (hy : AE e y = .int k b) : Yd P e bx σ (.binOp .neq T x y T') ty (.bool (decide (a ≠ b))) :=
 fun oo ho _ w _ _ => by simp [execOp, ho, hx, hy, eqGuard_at_int, binOp_neq]; rfl
theorem Y.add (hx : AE e x = .int k a) (hy : AE e y = .int k b) : Yd P e bx σ (.binOp .add T x y T') ty (.int k (k.wrap (a + b))) :=
 fun oo ho _ w _ _ => by simp [execOp, ho, hx, hy, eqGuard_add, binOp_add, Op.intArith]
theorem Y.sub (hx : AE e x = .int k a) (hy : AE e y = .int k b) : Yd P e bx σ (.binOp .sub T x y T') ty (.int k (k.wrap (a - b))) :=
 fun oo ho _ w _ _ => by simp [execOp, ho, hx, hy, eqGuard_sub, binOp_sub, Op.intArith]
theorem Y.mul (hx : AE e x = .int k a) (hy : AE e y = .int k b) : Yd P e bx σ (.binOp .mul T x y T') ty (.int k (k.wrap (a * b))) :=
 fun oo ho _ w _ _ => by simp [execOp, ho, hx, hy, eqGuard_mul, binOp_mul, Op.intArith]
def AO (n : Int) : Prop := -9223372036854775808 ≤ n ∧ n ≤ 9223372036854775807
theorem AO.wrap {n : Int} (h : AO n) : IntKind.i64.wrap n = n := by
 obtain ⟨h1, h2⟩ := h
 simp [IntKind.wrap, IntKind.bits, IntKind.signed]
 split <;> omega
theorem Y.bits {op : BinOp} (Ss : op = .and ∨ op = .or ∨ op = .xor ∨ op = .andNot) (hx : AE e x = .int k a) (hy : AE e y = .int k b) :
   Yd P e bx σ (.binOp op T x y T') ty (.int k (Go.bits op k a b)) :=
 fun oo ho _ w _ _ => by
   rcases Ss with rfl | rfl | rfl | rfl <;>
     simp [execOp, ho, hx, hy, eqGuard_at_int, binOp_and, binOp_or, binOp_xor, binOp_andNot, intBits_and, intBits_or, intBits_xor, intBits_andNot]
theorem Y.shl {k' : IntKind} (h0 : 0 ≤ b) (h1 : b ≤ k.bits) (hx : AE e x = .int k a) (hy : AE e y = .int k' b) :
   Yd P e bx σ (.binOp .shl T x y T') ty (.int k (k.wrap (a * 2 ^ b.toNat))) :=
 fun oo ho _ w _ _ => by simp [execOp, ho, hx, hy, eqGuard_shl, binOp_shl, shift_shl k k' a b h0 h1]
theorem Y.shr {k' : IntKind} (h0 : 0 ≤ b) (h1 : b ≤ k.bits) (hx : AE e x = .int k a) (hy : AE e y = .int k' b) :
   Yd P e bx σ (.binOp .shr T x y T') ty (.int k (a / 2 ^ b.toNat)) :=
 fun oo ho _ w _ _ => by simp [execOp, ho, hx, hy, eqGuard_shr, binOp_shr, shift_shr k k' a b h0 h1]
theorem Y.quo (h : b ≠ 0) (hx : AE e x = .int k a) (hy : AE e y = .int k b) : Yd P e bx σ (.binOp .quo T x y T') ty (.int k (k.wrap (a.tdiv b))) :=
 fun oo ho _ w _ _ => by simp [execOp, ho, hx, hy, eqGuard_quo, binOp_quo, Op.intDiv, h]
theorem Y.rem (h : b ≠ 0) (hx : AE e x = .int k a) (hy : AE e y = .int k b) : Yd P e bx σ (.binOp .rem T x y T') ty (.int k (a.tmod b)) :=
 fun oo ho _ w _ _ => by simp [execOp, ho, hx, hy, eqGuard_rem, binOp_rem, Op.intDiv, h]
theorem Y.not {p : Bool} (hx : AE e x = .bool p) : Yd P e bx σ (.unOp .not T x) ty (.bool (!p)) :=
 fun oo ho _ w _ _ => by simp [execOp, ho, hx, Op.unary]
theorem Y.neg (hx : AE e x = .int k a) : Yd P e bx σ (.unOp .neg T x) ty (.int k (k.wrap (0 - a))) :=
 fun oo ho _ w _ _ => by simp [execOp, ho, hx, Op.unary, Op.intArith]
theorem Y.conv {k' : IntKind} (hs : (P.underlying T).isSome = true) (hd : P.underlying T' = some (.int k')) (hx : AE e x = .int k a) :
   Yd P e bx σ (.convert T T' x) ty (.int k' (k'.wrap a)) :=
 fun oo ho _ w _ _ => by
   have hk : P.intKind T' = k' := by simp [Program.intKind, hd]
   have := run_convert_int w T T' k a hs (by rw [hk]; exact hd)
   rw [hk] at this
   simp [execOp, ho, hx, this]
theorem Y.AA1 {p : Option Addr} {n c : Nat} {E : TypeId} (hT : P.underlying T = some (.slice E)) (hx : AE e x = .slice p n c) {ts : Array TypeId} (P2 : ts = #[T]) :
   Yd P e bx σ (.call { callee := .builtin .len, args := #[x], argTypes := ts }) ty (.int .i64 n) := fun oo ho ht w _ _ => by
 subst P2
 simp [execOp, ho, resolve, invoke, builtin, hx, Builtin.len_, run_underlying hT, goInt]
theorem Y.AI3 {p : Option Addr} {n c : Nat} {E : TypeId} (hT : P.underlying T = some (.slice E)) (hx : AE e x = .slice p n c) {ts : Array TypeId} (P2 : ts = #[T]) :
   Yd P e bx σ (.call { callee := .builtin .cap, args := #[x], argTypes := ts }) ty (.int .i64 c) := fun oo ho ht w _ _ => by
 subst P2
 simp [execOp, ho, resolve, invoke, builtin, hx, Builtin.cap_, run_underlying hT, goInt]
theorem Y.vy {s : ByteArray} (hT : P.underlying T = some .string) (hx : AE e x = .string s) {ts : Array TypeId} (P2 : ts = #[T]) :
   Yd P e bx σ (.call { callee := .builtin .len, args := #[x], argTypes := ts }) ty (.int .i64 s.size) := fun oo ho ht w _ _ => by
 subst P2
 simp [execOp, ho, resolve, invoke, builtin, hx, Builtin.len_, run_underlying hT, goInt]
theorem Y.min2 {k' : IntKind} {ts : Array TypeId} (hx : AE e x = .int k a) (hy : AE e y = .int k' b) :
   Yd P e bx σ (.call { callee := .builtin .min, args := #[x, y], argTypes := ts }) ty (.int k (if b < a then b else a)) := fun oo ho ht w _ _ => by
 simp [execOp, ho, resolve, invoke, builtin, hx, hy, run_min_int2]
theorem Y.max2 {k' : IntKind} {ts : Array TypeId} (hx : AE e x = .int k a) (hy : AE e y = .int k' b) :
   Yd P e bx σ (.call { callee := .builtin .max, args := #[x, y], argTypes := ts }) ty (.int k (if b > a then b else a)) := fun oo ho ht w _ _ => by
 simp [execOp, ho, resolve, invoke, builtin, hx, hy, run_max_int2]
theorem Y.fieldAddr {b o f off : Nat} {fs : Array Field} {fd : Field} {a' : Addr} (hT : P.underlying T = some (.struct fs)) (hf : fs[f]? = some fd) (hs : ∀ w, ((Go.sizeOf fd.type).run P w) = .ok (off + 1) w)
   (hx : AE e x = .pointer (some ⟨b, o, none⟩)) (ha : a' = ⟨b, o + fd.offset, none⟩) : Yd P e bx σ (.fieldAddr T x f) ty (.pointer (some a')) :=
 fun oo ho _ w _ _ => by
   subst ha
   simp [execOp, ho, hx, Instr.fieldAt, run_underlying hT, hf, Instr.sureAddr, fieldPlace, hs]
   exact DC b o fd.offset
theorem Y.extract {vs : Array Value} {i : Nat} {v : Value} (hx : AE e x = .tuple vs) (hv : vs[i]? = some v) : Yd P e bx σ (.extract x i) ty v :=
 fun oo ho _ w _ _ => by simp [execOp, ho, hx, Instr.extract, hv]
theorem Y.vz {cs : Array Value} {f : Nat} {fs : Array Field} {fd : Field} {v : Value} (hT : P.underlying T = some (.struct fs)) (hf : fs[f]? = some fd) (ha : ∀ w, (isAgg fd.type).run P w = .ok false w)
   (hx : AE e x = .agg cs) (hv : cs[fd.offset]? = some v) : Yd P e bx σ (.field T x f) ty v :=
 fun oo ho _ w _ _ => by simp [execOp, ho, hx, Instr.field, run_underlying hT, hf, asAgg, part, ha, hv]
theorem Y.v8 {cs cs' : Array Value} {f n : Nat} {fs : Array Field} {fd : Field} (hT : P.underlying T = some (.struct fs)) (hf : fs[f]? = some fd) (ha : ∀ w, (isAgg fd.type).run P w = .ok true w)
   (hs : ∀ w, ((Go.sizeOf fd.type).run P w) = .ok n w) (hx : AE e x = .agg cs) (hv : cs.extract fd.offset (fd.offset + n) = cs') : Yd P e bx σ (.field T x f) ty (.agg cs') :=
 fun oo ho _ w _ _ => by simp [execOp, ho, hx, Instr.field, run_underlying hT, hf, asAgg, part, ha, hs, hv]
theorem Y.idx {b o n c sz : Nat} {E : TypeId} {i : Int} {a' : Addr} (hT : P.underlying T = some (.slice E)) (hs : ∀ w, ((Go.sizeOf E).run P w) = .ok sz w)
   (hx : AE e x = .slice (some ⟨b, o, none⟩) n c) (hy : AE e y = .int k i) (hi : 0 ≤ i ∧ i < n) (ha : a' = ⟨b, o + i.toNat * sz, none⟩) : Yd P e bx σ (.indexAddr T x y) ty (.pointer (some a')) :=
 fun oo ho _ w _ _ => by
   subst ha
   simp [execOp, ho, hx, hy, Instr.indexAt, run_underlying hT, asIntOf, hi, hs, DC]
theorem Y.AI4 {b o n sz : Nat} {E : TypeId} {i : Int} {a' : Addr} (hT : P.underlying T = some (.array n E)) (hs : ∀ w, ((Go.sizeOf E).run P w) = .ok sz w)
   (hx : AE e x = .pointer (some ⟨b, o, none⟩)) (hy : AE e y = .int k i) (hi : 0 ≤ i ∧ i < n) (ha : a' = ⟨b, o + i.toNat * sz, none⟩) : Yd P e bx σ (.indexAddr T x y) ty (.pointer (some a')) :=
 fun oo ho _ w _ _ => by
   subst ha
   simp [execOp, ho, hx, hy, Instr.indexAt, run_underlying hT, asIntOf, hi, hs, DC, Instr.sureAddr]
theorem Y.wC {s : ByteArray} {i : Int} {v : UInt8} (hT : P.underlying T = some .string) (hx : AE e x = .string s) (hy : AE e y = .int k i) (h0 : 0 ≤ i) (hv : s.data[i.toNat]? = some v) :
   Yd P e bx σ (.index T x y) ty (.int .u8 v.toNat) :=
 fun oo ho _ w _ _ => by
   have ox : s[i.toNat]? = some v := by rw [← hv]; rfl
   simp [execOp, ho, hx, hy, Instr.index, run_underlying hT, asIntOf, h0, ox]
theorem Y.ld {a : Addr} {v : Value} (hA : ∀ w, (isAgg T).run P w = .ok false w) (hx : AE e x = .pointer (some a)) (h : σ.ld a = some v) : Yd P e bx σ (.load T x) ty v :=
 fun oo ho _ w hs _ => by
   simp [execOp, ho, hx, Instr.loadAt, Instr.sureAddr, loadVar, hA, load, Sem.run, hs.ld h]
theorem IM.cell {w : World} {b : Nat} {c : Array Value} {t : TypeId} {fr : Nat × Nat} (hs : IM bx w) (hb : (b, Obj.cells c t fr) ∈ bx) (o : Nat) : w.cell? ⟨b, o, none⟩ = c[o]? := by
 simp [World.cell?, hs _ hb]
theorem Y.jM {b o : Nat} {c : Array Value} {t : TypeId} {fr : Nat × Nat} {v : Value} (hA : ∀ w, (isAgg T).run P w = .ok false w) (hx : AE e x = .pointer (some ⟨b, o, none⟩)) (hb : (b, Obj.cells c t fr) ∈ bx) (h : c[o]? = some v) :
   Yd P e bx σ (.load T x) ty v :=
 fun oo ho _ w _ hs => by
   simp [execOp, ho, hx, Instr.loadAt, Instr.sureAddr, loadVar, hA, load, Sem.run, hs.cell hb, h]
theorem Y.lda {b o n : Nat} {vs : List Value} (hA : ∀ w, (isAgg T).run P w = .ok true w) (hs : ∀ w, ((Go.sizeOf T).run P w) = .ok n w) (hn : vs.length = n) (hx : AE e x = .pointer (some ⟨b, o, none⟩)) (h : EF σ b o vs) :
   Yd P e bx σ (.load T x) ty (.agg vs.toArray) :=
 fun oo ho _ w Vw _ => by
   subst hn
   have := run_loadCells_list (P := P) (w := w) ⟨b, o, none⟩ vs (fun j v hj => by rw [show (⟨b, o, none⟩ : Addr).add j = ⟨b, o + j, none⟩ from DC _ _ _]; exact Vw.ld (h.get hj))
   simp [execOp, ho, hx, Instr.loadAt, Instr.sureAddr, loadVar, hA, hs, this]
theorem Y.wD {b o n : Nat} {c : Array Value} {t : TypeId} {fr : Nat × Nat} {vs : List Value} (hA : ∀ w, (isAgg T).run P w = .ok true w) (hs : ∀ w, ((Go.sizeOf T).run P w) = .ok n w) (hn : vs.length = n) (hx : AE e x = .pointer (some ⟨b, o, none⟩))
   (hb : (b, Obj.cells c t fr) ∈ bx) (h : (c.toList.drop o).take n = vs) : Yd P e bx σ (.load T x) ty (.agg vs.toArray) :=
 fun oo ho _ w _ Vw => by
   subst hn
   have := run_loadCells_list (P := P) (w := w) ⟨b, o, none⟩ vs (fun j v hj => by
     rw [show (⟨b, o, none⟩ : Addr).add j = ⟨b, o + j, none⟩ from DC _ _ _, Vw.cell hb]
     rw [← h] at hj
     have Ag : j < vs.length := by
       have := (List.getElem?_eq_some_iff.1 hj).1
       simp at this; omega
     simpa [List.getElem?_take, Ag] using hj)
   simp [execOp, ho, hx, Instr.loadAt, Instr.sureAddr, loadVar, hA, hs, this]
theorem Y.nilCheck {a : Addr} (hx : AE e x = .pointer (some a)) : Yd P e bx σ (.nilCheck x) ty (.pointer (some a)) :=
 .pu fun o ho => by simp [execOp, ho, hx]
theorem Y.eD {f : FuncId} {xs ys : Array Value} (hx : AE e x = .func (.func f) xs ys) : Yd P e bx σ (.nilCheck x) ty (.func (.func f) xs ys) :=
 .pu fun o ho => by simp [execOp, ho, hx]
theorem Y.makeFunc {fn : Fn} {xs ys : Array Operand} {vs us : Array Value} (hx : xs.toList.map (AE e) = vs.toList) (hy : ys.toList.map (AE e) = us.toList) : Yd P e bx σ (.makeFunc fn xs ys) ty (.func fn vs us) :=
 fun oo ho _ w _ _ => by
 have hx : xs.map (AE e) = vs := by rw [← Array.toList_inj]; simpa using hx
 have hy : ys.map (AE e) = us := by rw [← Array.toList_inj]; simpa using hy
 simp [execOp, ho, hx, hy, Instr.makeFunc]
end ZF
end Tw
end
section
namespace Tw
open Go
variable [I7]
def sig (ops : Array Oper) (i : Nat) : Option (Option Nat × Op × TypeId × Option (Nat × Bool)) := (ops[i]?).map fun o => (o.dst, o.op, o.type, o.guard)
theorem Ct {ops : Array Oper} {i : Nat} {d : Option Nat} {op : Op} {ty : TypeId} {gd : Option (Nat × Bool)} (h : sig ops i = some (d, op, ty, gd)) :
   ∃ o, ops[i]? = some o ∧ o.dst = d ∧ o.op = op ∧ o.type = ty ∧ o.guard = gd := by
 unfold sig at h
 cases ho : ops[i]? with
 | none => simp [ho] at h
 | some o =>
   simp only [ho, Option.map_some, Option.some.injEq, Prod.mk.injEq] at h
   exact ⟨o, rfl, h.1, h.2.1, h.2.2.1, h.2.2.2⟩
def IG (d : Option Nat) (n : Nat) : Bool := match d with | some d => Nat.blt d n | none => true
theorem IG.lt {d : Option Nat} {n : Nat} (h : IG d n = true) : ∀ t, d = some t → t < n := fun t ht => by
 subst ht; exact Nat.le_of_ble_eq_true h
section jN
variable {g : Gl} {ops : Array Oper} {q : I8} {L : List (Nat × List Nat)} {i : Nat} {is : List Nat} {r : List (Nat × Bool)} {e : Env} {bx : Bx} {σ : Hp} {K : Env → Bx → Hp → Prop} {d : Option Nat} {op : Op} {ty : TypeId} {gd : Option (Nat × Bool)} {v : Value}
theorem AY.y (hs : sig ops i = some (d, op, ty, gd)) (hw : Ab ops e gd = true) (hd : IG d g.n = true) (hy : Yd g.P e bx σ op ty v) (h : K (put e d v) bx σ) : AY g ops i e bx σ K := by
 intro w0 F a w st
 obtain ⟨o, ho, rfl, B1, Dl, rfl⟩ := Ct hs
 refine DK ho (by rw [st.wanted]; exact hw) ?_
 rw [st.eval, EM (hy o B1 Dl w st.sat st.box) (fun d => by simp)]
 exact ⟨_, _, _, st.put _ _ (IG.lt hd), h⟩
theorem AY.no (hs : sig ops i = some (d, op, ty, gd)) (hw : Ab ops e gd = false) (hd : IG d g.n = true) (h : K (put e d undef) bx σ) : AY g ops i e bx σ K := by
 intro w0 F a w st
 obtain ⟨o, ho, rfl, B1, Dl, rfl⟩ := Ct hs
 refine ZC ho (by rw [st.wanted]; exact hw) ?_
 exact ⟨_, _, _, st.put _ _ (IG.lt hd), h⟩
theorem Seq.y (hs : sig ops i = some (d, op, ty, none)) (hd : IG d g.n = true) (hy : Yd g.P e bx σ op ty v) (h : Seq g ops is (put e d v) bx σ K) : Seq g ops (i :: is) e bx σ K :=
 AY.y hs rfl hd hy h
theorem Seq.yg (hs : sig ops i = some (d, op, ty, gd)) (hw : Ab ops e gd = true) (hd : IG d g.n = true) (hy : Yd g.P e bx σ op ty v) (h : Seq g ops is (put e d v) bx σ K) : Seq g ops (i :: is) e bx σ K :=
 AY.y hs hw hd hy h
theorem Seq.no (hs : sig ops i = some (d, op, ty, gd)) (hw : Ab ops e gd = false) (hd : IG d g.n = true) (h : Seq g ops is (put e d undef) bx σ K) : Seq g ops (i :: is) e bx σ K :=
 AY.no hs hw hd h
theorem Seq.o (h : AY g ops i e bx σ fun e' Gc σ' => Seq g ops is e' Gc σ' K) : Seq g ops (i :: is) e bx σ K := h
theorem Seq.done (h : K e bx σ) : Seq g ops [] e bx σ K := h
theorem Fj {q : I8} : MU q none = q := by cases q <;> rfl
theorem ok_none {q : I8} {i : Nat} {ops : Array Oper} (h : q.ok i = true) : ((MU q none).ok i && Sn ops i none) = true := by rw [Fj, h]; rfl
theorem Head.y (hs : sig ops i = some (d, op, ty, none)) (hd : IG d g.n = true) (hy : Yd g.P e bx (SC q none σ) op ty v) (h : Head g ops q r (put e d v) bx σ K) (Au : q.ok i = true := by rfl) : Head g ops q ((i, true) :: r) e bx σ K := by
 obtain ⟨o, ho, rfl, rfl, rfl, hg⟩ := Ct hs
 exact ⟨none, o, v, ok_none Au, ho, .inl ⟨by rw [hg]; rfl, hy⟩, (IG.lt hd), by rw [Fj]; exact h⟩
theorem Head.yg (hs : sig ops i = some (d, op, ty, gd)) (hw : Ab ops e gd = true) (hd : IG d g.n = true) (hy : Yd g.P e bx (SC q none σ) op ty v) (h : Head g ops q r (put e d v) bx σ K) (Au : q.ok i = true := by rfl) : Head g ops q ((i, true) :: r) e bx σ K := by
 obtain ⟨o, ho, rfl, rfl, rfl, rfl⟩ := Ct hs
 exact ⟨none, o, v, ok_none Au, ho, .inl ⟨hw, hy⟩, (IG.lt hd), by rw [Fj]; exact h⟩
theorem Head.o {q' : I8} (hq : F7 q i = q') (h : AY g ops i e bx σ fun e' Gc σ' => J7 q' bx σ Gc σ' ∧ Head g ops q' r e' Gc σ' K) : Head g ops q ((i, false) :: r) e bx σ K := by
 subst hq; exact h
theorem Head.done (h : K e bx σ) : Head g ops q [] e bx σ K := h
theorem St.grown {n ds w0 F e bx σ a w} (st : St n ds w0 F e bx σ a w) (o : Obj) : St n ds w0 F e ((w.heap.size, o) :: bx) σ a { w with heap := w.heap.push o } := by
 have Ag : ∀ b o', w.heap[b]? = some o' → b < w.heap.size := fun b o' h => (Array.getElem?_eq_some_iff.1 h).1
 have hold : ∀ b o', w.heap[b]? = some o' → ({ w with heap := w.heap.push o } : World).heap[b]? = some o' := fun b o' h => by
   have := Ag _ _ h
   show (w.heap.push o)[b]? = some o'
   rw [Array.getElem?_push, if_neg (Nat.ne_of_lt this)]; exact h
 refine { st with sat := fun b o' hb => hold _ _ (st.sat b o' hb), box := fun p hp => ?_, free := fun p hp => ?_, nodup := ?_, C7 := fun b hb => ?_, os := st.os, out := st.out, grow := by have := st.grow; simp; omega }
 · rcases List.mem_cons.1 hp with rfl | hp
   · simp
   · exact hold _ _ (st.box p hp)
 · rcases List.mem_cons.1 hp with rfl | hp
   · refine ⟨?_, fun hF => ?_⟩
     · cases hs : σ w.heap.size with
       | none => rfl
       | some o' => exact absurd (Ag _ _ (st.sat _ _ hs)) (Nat.lt_irrefl _)
     · have h1 := (st.C7 _ hF).1
       have h2 := st.grow
       simp at h1
       omega
   · exact st.free p hp
 · refine List.nodup_cons.2 ⟨fun hm => ?_, st.nodup⟩
   obtain ⟨p, hp, he⟩ := List.mem_map.1 hm
   have := Ag _ _ (st.box p hp)
   simp at he
   omega
 · obtain ⟨h1, h2, h3⟩ := st.C7 b hb
   refine ⟨h1, h2, ?_⟩
   have : b ≠ w.heap.size := by have := st.grow; omega
   show (w.heap.push o)[b]? = _
   rw [Array.getElem?_push, if_neg this]; exact h3
theorem AY.box {T : TypeId} {x : Operand} {cs : Array Value} (hs : sig ops i = some (d, .box T x, ty, gd)) (hw : Ab ops e gd = true) (hd : IG d g.n = true) (hx : (AE e x).cells = cs)
   (h : ∀ b, K (put e d (.pointer (some ⟨b, 0, none⟩))) ((b, .cells cs T (0, 0)) :: bx) σ) : AY g ops i e bx σ K := by
 intro w0 F a w st
 obtain ⟨o, ho, rfl, B1, Dl, hg⟩ := Ct hs
 refine DK ho (by rw [st.wanted, hg]; exact hw) ?_
 rw [st.eval]
 have : (execOp (AE e) o).run g.P w = .ok (.value (.pointer (some ⟨w.heap.size, 0, none⟩))) { w with heap := w.heap.push (.cells cs T (0, 0)) } := by
   simp [execOp, B1, Instr.box, newVar, newRow, newObj, Sem.run, hx]
 rw [EM this (fun d => by simp)]
 exact ⟨_, _, _, (st.grown _).put _ _ (IG.lt hd), h _⟩
theorem AY.alloc {T : TypeId} {z : Value} {cs : Array Value} (hs : sig ops i = some (d, .alloc T, ty, gd)) (hw : Ab ops e gd = true) (hd : IG d g.n = true) (hz : ∀ w, (zeroValue T).run g.P w = .ok z w) (hc : z.cells = cs)
   (h : ∀ b, K (put e d (.pointer (some ⟨b, 0, none⟩))) ((b, .cells cs T (0, 0)) :: bx) σ) : AY g ops i e bx σ K := by
 intro w0 F a w st
 obtain ⟨o, ho, rfl, B1, Dl, hg⟩ := Ct hs
 refine DK ho (by rw [st.wanted, hg]; exact hw) ?_
 rw [st.eval]
 have : (execOp (AE e) o).run g.P w = .ok (.value (.pointer (some ⟨w.heap.size, 0, none⟩))) { w with heap := w.heap.push (.cells cs T (0, 0)) } := by
   simp [execOp, B1, Instr.alloc, newVar, newRow, newObj, Sem.run, hz, hc]
 rw [EM this (fun d => by simp)]
 exact ⟨_, _, _, (st.grown _).put _ _ (IG.lt hd), h _⟩
theorem Hp.AA (σ : Hp) (b : Nat) (o : Obj) : σ.set b o b = some o := by simp [Hp.set]
theorem Hp.AF {σ : Hp} {b c : Nat} {o : Obj} (h : c ≠ b) : σ.set b o c = σ c := by simp [Hp.set, h]
theorem St.open {n ds w0 F e bx σ a w b o} (st : St n ds w0 F e ((b, o) :: bx) σ a w) : St n ds w0 F e bx (σ.set b o) a w := by
 have hb := st.box (b, o) (List.mem_cons_self ..)
 have hf := st.free (b, o) (List.mem_cons_self ..)
 have hn := List.nodup_cons.1 (show ((b :: bx.map (·.1))).Nodup from st.nodup)
 refine { st with sat := fun c o' hc => ?_, box := fun p hp => st.box p (List.mem_cons_of_mem _ hp), free := fun p hp => ?_, nodup := hn.2, C7 := fun c hc => ?_ }
 · by_cases h : c = b
   · subst h; rw [Hp.AA] at hc; cases hc; exact hb
   · rw [Hp.AF h] at hc; exact st.sat c o' hc
 · have h1 := st.free p (List.mem_cons_of_mem _ hp)
   have : p.1 ≠ b := fun h => hn.1 (List.mem_map.2 ⟨p, hp, h⟩)
   exact ⟨by rw [Hp.AF this]; exact h1.1, h1.2⟩
 · obtain ⟨h1, h2, h3⟩ := st.C7 c hc
   have : c ≠ b := fun h => hf.2 (h ▸ hc)
   exact ⟨h1, by rw [Hp.AF this]; exact h2, h3⟩
theorem AY.AA2 {T : TypeId} {x : Operand} {cs : Array Value} (hs : sig ops i = some (d, .box T x, ty, gd)) (hw : Ab ops e gd = true) (hd : IG d g.n = true) (hx : (AE e x).cells = cs)
   (h : ∀ b, σ b = none → K (put e d (.pointer (some ⟨b, 0, none⟩))) bx (σ.set b (.cells cs T (0, 0)))) : AY g ops i e bx σ K := by
 intro w0 F a w st
 refine wpOpIn_mono ?_ (AY.box (K := fun e' Gc σ' => σ' = σ ∧ ∃ b, e' = put e d (.pointer (some ⟨b, 0, none⟩)) ∧ Gc = (b, .cells cs T (0, 0)) :: bx) hs hw hd hx (fun b => ⟨rfl, b, rfl, rfl⟩) w0 F a w st)
 rintro a' w' ⟨_, _, _, MQ, rfl, b, rfl, rfl⟩
 exact ⟨_, _, _, MQ.open, h b (MQ.free _ (List.mem_cons_self ..)).1⟩
theorem AY.UN {T : TypeId} {z : Value} {cs : Array Value} (hs : sig ops i = some (d, .alloc T, ty, gd)) (hw : Ab ops e gd = true) (hd : IG d g.n = true) (hz : ∀ w, (zeroValue T).run g.P w = .ok z w) (hc : z.cells = cs)
   (h : ∀ b, σ b = none → K (put e d (.pointer (some ⟨b, 0, none⟩))) bx (σ.set b (.cells cs T (0, 0)))) : AY g ops i e bx σ K := by
 intro w0 F a w st
 refine wpOpIn_mono ?_ (AY.alloc (K := fun e' Gc σ' => σ' = σ ∧ ∃ b, e' = put e d (.pointer (some ⟨b, 0, none⟩)) ∧ Gc = (b, .cells cs T (0, 0)) :: bx) hs hw hd hz hc (fun b => ⟨rfl, b, rfl, rfl⟩) w0 F a w st)
 rintro a' w' ⟨_, _, _, MQ, rfl, b, rfl, rfl⟩
 exact ⟨_, _, _, MQ.open, h b (MQ.free _ (List.mem_cons_self ..)).1⟩
def AJ (P : Program) {α : Type} (m : Sem α) (σ : Hp) (Φ : α → Hp → Prop) : Prop :=
 ∀ w (F : Nat → Prop), Sat σ w → (∀ b, F b → b < w.heap.size ∧ σ b = none) → ∃ v w' σ', m.run P w = .ok v w' ∧ Φ v σ' ∧ Fin σ' F w w'
theorem AJ.mono {P : Program} {α : Type} {m : Sem α} {Φ Ψ : α → Hp → Prop} (h : AJ P m σ Φ) (hh : ∀ v σ', Φ v σ' → Ψ v σ') : AJ P m σ Ψ := fun w F hs hF =>
 let ⟨v, w', σ', h1, h2, h3⟩ := h w F hs hF
 ⟨v, w', σ', h1, hh _ _ h2, h3⟩
theorem St.lt {n ds w0 F e bx σ a w} (st : St n ds w0 F e bx σ a w) : ∀ b, (F b ∨ b ∈ bx.map (·.1)) → b < w.heap.size ∧ σ b = none := by
 rintro b (h | h)
 · have h1 := st.C7 b h
   have h2 := st.grow
   exact ⟨by omega, h1.2.1⟩
 · obtain ⟨p, hp, rfl⟩ := List.mem_map.1 h
   exact ⟨(Array.getElem?_eq_some_iff.1 (st.box p hp)).1, (st.free p hp).1⟩
theorem St.fin {n ds w0 F e bx σ a w σ' w'} (st : St n ds w0 F e bx σ a w) (h : Fin σ' (fun b => F b ∨ b ∈ bx.map (·.1)) w w') : St n ds w0 F e bx σ' a w' := by
 refine { st with sat := h.sat, box := fun p hp => ?_, free := fun p hp => ⟨(h.C7 p.1 (.inr (List.mem_map.2 ⟨p, hp, rfl⟩))).1, (st.free p hp).2⟩, C7 := fun b hb => ?_, os := st.os.trans h.os, out := h.out.trans st.out, grow := Nat.le_trans st.grow h.grow }
 · rw [(h.C7 p.1 (.inr (List.mem_map.2 ⟨p, hp, rfl⟩))).2]; exact st.box p hp
 · obtain ⟨h1, _, h3⟩ := st.C7 b hb
   exact ⟨h1, (h.C7 b (.inl hb)).1, (h.C7 b (.inl hb)).2.trans h3⟩
theorem AY.jO (hs : sig ops i = some (d, op, ty, gd)) (hw : Ab ops e gd = true) (hd : IG d g.n = true) (m : Sem Value) (hm : ∀ o : Oper, o.op = op → o.type = ty → execOp (AE e) o = (do pure (.value (← m))))
   (h : AJ g.P m σ fun v σ' => K (put e d v) bx σ') : AY g ops i e bx σ K := by
 intro w0 F a w st
 obtain ⟨o, ho, rfl, B1, Dl, rfl⟩ := Ct hs
 refine DK ho (by rw [st.wanted]; exact hw) ?_
 obtain ⟨v, w', σ', h1, h2, h3⟩ := h w _ st.sat st.lt
 rw [st.eval]
 have Cu := hm o B1 Dl
 rw [EM (by rw [Cu]; simp only [Sem.run_bind, h1, Result.andThen_ok]; rfl) (fun d => by simp)]
 exact ⟨_, _, _, (st.fin h3).put _ _ (IG.lt hd), h2⟩
theorem AY.AA3 (hs : sig ops i = some (d, op, ty, gd)) (hw : Ab ops e gd = true) (hd : IG d g.n = true) (m : Sem Unit) (hm : ∀ o : Oper, o.op = op → o.type = ty → execOp (AE e) o = (do m; pure .skip))
   (h : AJ g.P m σ fun _ σ' => K (put e d undef) bx σ') : AY g ops i e bx σ K := by
 intro w0 F a w st
 obtain ⟨o, ho, rfl, B1, Dl, rfl⟩ := Ct hs
 refine DK ho (by rw [st.wanted]; exact hw) ?_
 obtain ⟨v, w', σ', h1, h2, h3⟩ := h w _ st.sat st.lt
 rw [st.eval]
 have Cu := hm o B1 Dl
 rw [EM (by rw [Cu]; simp only [Sem.run_bind, h1, Result.andThen_ok]; rfl) (fun d => by simp)]
 exact ⟨_, _, _, (st.fin h3).put _ _ (IG.lt hd), h2⟩
def AB (R : Rr) (Φ : Value → Hp → Prop) : Rr
 | .returned v, σ => Φ v σ
 | .panicked ch, σ => R (.panicked ch) σ
 | .outgrown, _ => False
theorem AY.call {f : FuncId} {args : Array Value} (hs : sig ops i = some (d, op, ty, gd)) (hw : Ab ops e gd = true) (hd : IG d g.n = true)
   (hm : ∀ o : Oper, o.op = op → o.type = ty → ∀ w, (execOp (AE e) o).run g.P w = .ok (.enter f args) w)
   (h : Spec g.P f args σ (AB g.R fun v σ' => K (put e d v) bx σ')) : AY g ops i e bx σ K := by
 intro w0 F a w st
 obtain ⟨o, ho, rfl, B1, Dl, rfl⟩ := Ct hs
 refine DK ho (by rw [st.wanted]; exact hw) ?_
 rw [st.eval, EM (hm o B1 Dl w) (fun d => by simp)]
 refine ⟨fun hh => (by cases hh), ZD (Calls.mono (h w _ st.sat st.lt) fun en w' => ?_)⟩
 rintro ⟨σ', hr, hf⟩
 have MQ := st.fin hf
 cases en with
 | returned v => exact ⟨_, _, _, MQ.put _ _ (IG.lt hd), hr⟩
 | panicked ch =>
   rcases g.bX with ⟨h1, h2⟩ | Be
   · exact ⟨⟨h1, MQ.defers.trans h2⟩, σ', hr, MQ.toFin⟩
   · exact absurd hr (Be ch σ')
 | outgrown => exact hr.elim
theorem NZ {P : Program} {ρ : Operand → Value} {x : Operand} {xs : Array Operand} {ts : Array TypeId} {f : FuncId} {fst cap vs args : Array Value}
   (hf : ∀ args w, (callFunc f args).run P w = .ok (.enter f args) w) (hx : ρ x = .func (.func f) fst cap) (JY : xs.toList.map ρ = vs.toList) (ha : fst ++ vs ++ cap = args)
   (o : Oper) (ho : o.op = .call { callee := .value x, args := xs, argTypes := ts }) (w : World) :
   (execOp ρ o).run P w = .ok (.enter f args) w := by
 subst ha
 have JY : xs.map ρ = vs := by rw [← Array.toList_inj]; simpa using JY
 simp only [execOp, ho, resolve, hx, JY, Deferred.ofValue, invoke, bind, Sem.bind, pure]
 exact hf _ w
end jN
end Tw
end
section
namespace Tw
open Go
variable [I7]
def DX (c : Array Value) (o : Nat) : List Value → Array Value
 | [] => c
 | v :: vs => DX (c.setIfInBounds o v) (o + 1) vs
theorem Dm : ∀ (vs : List Value) (c : Array Value) (o : Nat), (DX c o vs).size = c.size
 | [], _, _ => rfl
 | v :: vs, c, o => by simp [DX, Dm vs]
theorem Pe : ∀ (vs : List Value) (c : Array Value) (o j : Nat), o + vs.length ≤ c.size →
   (DX c o vs)[j]? = if o ≤ j ∧ j < o + vs.length then vs[j - o]? else c[j]?
 | [], c, o, j, _ => by rw [if_neg (by simp only [List.length_nil]; omega)]; rfl
 | v :: vs, c, o, j, h => by
   simp only [List.length_cons] at h
   rw [DX, Pe vs _ _ j (by simp; omega)]
   by_cases h1 : o + 1 ≤ j ∧ j < o + 1 + vs.length
   · rw [if_pos h1, if_pos (by simp; omega), show j - o = (j - (o + 1)) + 1 by omega, List.getElem?_cons_succ]
   · rw [if_neg h1]
     by_cases h2 : j = o
     · subst h2
       rw [if_pos (by simp), Nat.sub_self]
       simp [show j < c.size by omega]
     · rw [if_neg (by simp; omega), Array.getElem?_setIfInBounds_ne (Ne.symm h2)]
section
variable {P : Program}
theorem Dn (b o : Nat) (t : TypeId) : ∀ (vs : List Value) (i : Nat) (c : Array Value) (w : World), w.heap[b]? = some (.cells c t (0, 0)) → o + i + vs.length ≤ c.size → (∀ v ∈ vs, v.oneCell' = true) →
   (storeCells ⟨b, o, none⟩ vs i).run P w = .ok () (w.setRow b (DX c (o + i) vs))
 | [], i, c, w, hg, hl, _ => by
   have Ag : b < w.heap.size := (Array.getElem?_eq_some_iff.1 hg).1
   have hv : w.heap[b] = .cells c t (0, 0) := (Array.getElem?_eq_some_iff.1 hg).2
   simp only [storeCells, DX]
   show Result.ok () w = _
   congr 1
   unfold World.setRow
   cases w with
   | mk heap tape drawn os output =>
     congr 1
     apply Array.ext
     · simp
     · intro k h1 h2
       simp only [Array.getElem_modify]
       split
       · rename_i hk; subst hk; simp at hv; simp [hv]
       · rfl
 | v :: vs, i, c, w, hg, hl, h1 => by
   simp only [List.length_cons] at hl
   have Fe : w.cell? ⟨b, o + i, none⟩ = some c[o + i] := by
     simp [World.cell?, hg]
   have Vx : w.frozen? ⟨b, o + i, none⟩ = false := by simp [World.frozen?, hg]
   have AI5 : (⟨b, o, none⟩ : Addr).add i = ⟨b, o + i, none⟩ := DC b o i
   have ZG := setCell_eq_setRow w b (o + i) c t (0, 0) v hg
   have DL := setRow_heap w b c (c.setIfInBounds (o + i) v) t (0, 0) hg
   have ih := Dn b o t vs (i + 1) (c.setIfInBounds (o + i) v) (w.setRow b (c.setIfInBounds (o + i) v)) DL (by simp; omega) (fun u hu => h1 u (List.mem_cons_of_mem _ hu))
   rw [setRow_setRow] at ih
   have JC := run_store P w ⟨b, o + i, none⟩ v .plain (h1 v (List.mem_cons_self ..))
   simp only [storeCells, AI5, Sem.run_bind, JC, Fe, Vx, Bool.false_eq_true, if_false, Result.andThen_ok, ZG, ih, DX]
   rw [Nat.add_assoc]
theorem OG (b o : Nat) (t ty : TypeId) (v : Value) (c : Array Value) (w : World) {n : Nat} (hs : ∀ w, (Go.sizeOf ty).run P w = .ok n w) (hn : v.cells.size = n) (hg : w.heap[b]? = some (.cells c t (0, 0)))
   (hl : o + n ≤ c.size) (h1 : ∀ u ∈ v.cells.toList, u.oneCell' = true) :
   (Instr.storeAt ty (.pointer (some ⟨b, o, none⟩)) v).run P w = .ok () (w.setRow b (DX c o v.cells.toList)) := by
 have := Dn (P := P) b o t v.cells.toList 0 c w hg (by simp; omega) h1
 simp [Instr.storeAt, Instr.sureAddr, storeVar, hs, hn, this]
end
theorem St.wrote {n ds w0 F e bx σ a w j b c c' t} (st : St n ds w0 F e bx σ a w) (hj : bx[j]? = some (b, Obj.cells c t (0, 0))) :
   St n ds w0 F e (bx.set j (b, .cells c' t (0, 0))) σ a (w.setRow b c') := by
 have hm : (b, Obj.cells c t (0, 0)) ∈ bx := List.mem_of_getElem? hj
 have hb := st.box _ hm
 have hf := st.free _ hm
 have oy : (bx.set j (b, Obj.cells c' t (0, 0))).map (·.1) = bx.map (·.1) := by
   rw [List.map_set]
   have : (bx.map (·.1))[j]? = some b := by simp [hj]
   obtain ⟨Ag, heq⟩ := List.getElem?_eq_some_iff.1 this
   rw [← heq, List.set_getElem_self]
 have ZH : ∀ k, k ≠ b → (w.setRow b c').heap[k]? = w.heap[k]? := fun k hk => setRow_other w b k c' hk
 refine { st with sat := fun k o hk => ?_, box := fun p hp => ?_, free := fun p hp => ?_, nodup := by rw [oy]; exact st.nodup, C7 := fun k hk => ?_, os := st.os, out := st.out, grow := by simpa using st.grow }
 · have : k ≠ b := fun h => by rw [h, hf.1] at hk; cases hk
   rw [ZH k this]; exact st.sat k o hk
 · by_cases h : p.1 = b
   · -- the same block: the entry AI6
     obtain ⟨i, hi⟩ := List.mem_iff_getElem?.1 hp
     have hij : i = j := by
       have h1 : ((bx.set j (b, Obj.cells c' t (0, 0))).map (·.1))[i]? = some b := by simp only [List.getElem?_map, hi, Option.map_some, h]
       rw [oy] at h1
       have h2 : (bx.map (·.1))[j]? = some b := by simp [hj]
       have NM := (List.getElem?_eq_some_iff.1 h1).1
       exact (List.getElem?_inj NM st.nodup).1 (h1.trans h2.symm)
     subst hij
     have Ag : i < bx.length := (List.getElem?_eq_some_iff.1 hj).1
     rw [List.getElem?_set_self Ag] at hi
     cases hi
     exact setRow_heap w b c c' t (0, 0) hb
   · rw [ZH _ h]
     rcases List.mem_or_eq_of_mem_set hp with h1 | h1
     · exact st.box p h1
     · exact absurd (by rw [h1]) h
 · rcases List.mem_or_eq_of_mem_set hp with h1 | h1
   · exact st.free p h1
   · rw [h1]; exact hf
 · obtain ⟨h1, h2, h3⟩ := st.C7 k hk
   have : k ≠ b := fun h => hf.2 (h ▸ hk)
   exact ⟨h1, h2, by rw [ZH k this]; exact h3⟩
section jN
variable {g : Gl} {ops : Array Oper} {i : Nat} {e : Env} {bx : Bx} {σ : Hp} {K : Env → Bx → Hp → Prop} {d : Option Nat} {op : Op} {ty T : TypeId} {gd : Option (Nat × Bool)}
theorem AY.wE {x y : Operand} {j b o n : Nat} {c c' : Array Value} {t : TypeId} {v : Value} (hs : sig ops i = some (none, .store T x y, ty, gd)) (hw : Ab ops e gd = true) (hz : ∀ w, (Go.sizeOf T).run g.P w = .ok n w)
   (hx : AE e x = .pointer (some ⟨b, o, none⟩)) (hy : AE e y = v) (hj : bx[j]? = some (b, Obj.cells c t (0, 0))) (hn : v.cells.size = n) (hl : Nat.ble (o + n) c.size = true) (h1 : (v.cells.toList.all fun u => u.oneCell') = true)
   (hc : DX c o v.cells.toList = c') (h : K e (bx.set j (b, .cells c' t (0, 0))) σ) : AY g ops i e bx σ K := by
 intro w0 F a w st
 obtain ⟨o', ho, hd, B1, Dl, hg⟩ := Ct hs
 refine DK ho (by rw [st.wanted, hg]; exact hw) ?_
 rw [st.eval]
 subst hc
 have hb := st.box _ (List.mem_of_getElem? hj)
 have := OG (P := g.P) b o t T v c w hz hn hb (Nat.le_of_ble_eq_true hl) (fun u hu => List.all_eq_true.1 h1 u hu)
 have : (execOp (AE e) o').run g.P w = .ok .skip (w.setRow b (DX c o v.cells.toList)) := by
   simp [execOp, B1, hx, hy, this]
 rw [EM this (fun d => by simp)]
 have AI7 : a.put o'.dst undef = a := by rw [hd]; rfl
 simp only [Oper.uponIn_skip, AI7]
 exact ⟨_, _, _, st.wrote hj, h⟩
theorem AJ.store {P : Program} {b o n : Nat} {c : Array Value} {t : TypeId} {v : Value} {Φ : Unit → Hp → Prop} (hz : ∀ w, (Go.sizeOf T).run P w = .ok n w) (hb : σ b = some (.cells c t (0, 0))) (hn : v.cells.size = n) (hl : o + n ≤ c.size) (h1 : ∀ u ∈ v.cells.toList, u.oneCell' = true)
   (h : Φ () (σ.set b (.cells (DX c o v.cells.toList) t (0, 0)))) : AJ P (Instr.storeAt T (.pointer (some ⟨b, o, none⟩)) v) σ Φ := fun w F hs hF => by
 refine ⟨(), _, _, OG b o t T v c w hz hn (hs _ _ hb) hl h1, h, ?_, ?_, .same rfl rfl rfl, rfl, by simp⟩
 · intro k o' hk
   by_cases h : k = b
   · subst h; rw [Hp.AA] at hk; cases hk; exact setRow_heap w k c _ t (0, 0) (hs _ _ hb)
   · rw [Hp.AF h] at hk; rw [setRow_other _ _ _ _ h]; exact hs k o' hk
 · intro k hk
   have : k ≠ b := fun h => by have := (hF k hk).2; rw [h, hb] at this; cases this
   exact ⟨by rw [Hp.AF this]; exact (hF k hk).2, setRow_other _ _ _ _ this⟩
theorem AY.store {x y : Operand} {p v : Value} (hs : sig ops i = some (none, .store T x y, ty, gd)) (hw : Ab ops e gd = true) (hx : AE e x = p) (hy : AE e y = v)
   (h : AJ g.P (Instr.storeAt T p v) σ fun _ σ' => K e bx σ') : AY g ops i e bx σ K :=
 AY.AA3 hs hw rfl (Instr.storeAt T p v) (fun o ho _ => by simp [execOp, ho, hx, hy]) h
end jN
section ZF
variable {P : Program} {e : Env} {bx : Bx} {σ : Hp} {ty T : TypeId}
theorem Y.build {ps : Array (Nat × Operand)} {vs : List (Nat × Value)} {cs : Array Value} (hv : ps.toList.map (fun p => (p.1, AE e p.2)) = vs) (hc : P.built T vs = some cs) : Yd P e bx σ (.build T ps) ty (.agg cs) := fun oo ho _ w _ _ => by
 have hh : (ps.map fun (i, x) => (i, AE e x)).toList = vs := by rw [← hv]; simp
 have := run_build (P := P) w T (ps.map fun (i, x) => (i, AE e x)) cs (by rw [hh]; exact hc)
 simp only [execOp, ho, Sem.run_bind, this, Result.andThen_ok]
 rfl
end ZF
def Hc (P : Program) (e : Env) (bx : Bx) (σ : Hp) : List ResultVar → List Value → Prop
 | [], vs => vs = []
 | .tmp t :: r, vs => ∃ us, vs = e t :: us ∧ Hc P e bx σ r us
 | .cell p T :: r, vs => ∃ v us, vs = v :: us ∧ (∃ a, e p = .pointer (some a) ∧ ∀ w, Sat σ w → IM bx w → (loadVar T a).run P w = .ok v w) ∧ Hc P e bx σ r us
def P3 : List Value → Value
 | [v] => v
 | vs => .tuple vs.toArray
def eE (tmps : Array Value) : ResultVar → Sem Value
 | .tmp t => pure (tmps.getD t undef)
 | .cell a t => do loadVar t (← asAddr (tmps.getD a undef))
theorem Hc.run {P : Program} {e : Env} {bx : Bx} {σ : Hp} {tmps : Array Value} {w : World} (he : ∀ t, tmps.getD t undef = e t) (hs : Sat σ w) (hb : IM bx w) : ∀ (rs : List ResultVar) (vs : List Value), Hc P e bx σ rs vs →
   (rs.mapM (eE tmps)).run P w = Result.ok vs w
 | [], vs, h => by simp only [Hc] at h; subst h; simp
 | .tmp t :: r, vs, h => by
   obtain ⟨us, rfl, h⟩ := h
   have h1 : (eE tmps (.tmp t)).run P w = .ok (e t) w := by simp only [eE, Sem.run_pure, he]
   simp only [List.mapM_cons, Sem.run_bind, Sem.run_pure, Result.andThen_ok, Hc.run he hs hb r us h, h1]
 | .cell p T :: r, vs, h => by
   obtain ⟨v, us, rfl, ⟨a, ha, hl⟩, h⟩ := h
   have h2 : (eE tmps (.cell p T)).run P w = .ok v w := by
     have h1 : tmps.getD p undef = .pointer (some a) := (he p).trans ha
     simp only [eE, Sem.run_bind, Sem.run_pure, Result.andThen_ok, h1, asAddr, hl w hs hb]
   simp only [List.mapM_cons, Sem.run_bind, Sem.run_pure, Result.andThen_ok, Hc.run he hs hb r us h, h2]
theorem Hc.results {P : Program} {e : Env} {bx : Bx} {σ : Hp} {fn : Func} {rs : List ResultVar} {vs : List Value} (hr : fn.results = rs.toArray) (h : Hc P e bx σ rs vs) (a : Act) (w : World)
   (he : ∀ t, a.tmps.getD t undef = e t) (hs : Sat σ w) (hb : IM bx w) : (results fn a.tmps).run P w = .ok (P3 vs) w := by
 have h1 := Hc.run he hs hb _ _ h
 have h2 : Go.results fn a.tmps = (do let vs ← fn.results.mapM (eE a.tmps); pure (if h : vs.size = 1 then vs[0] else .tuple vs)) := rfl
 rw [h2, hr]
 simp only [List.mapM_toArray, Sem.run_bind, Sem.run_map, h1, Result.andThen_ok]
 cases vs with
 | nil => rfl
 | cons v vs => cases vs <;> rfl
theorem oz {P : Program} {bx : Bx} {σ : Hp} {T : TypeId} {b o : Nat} {c : Array Value} {t : TypeId} {fr : Nat × Nat} {v : Value} (hA : ∀ w, (isAgg T).run P w = .ok false w) (hb : (b, Obj.cells c t fr) ∈ bx) (h : c[o]? = some v) :
   ∀ w, Sat σ w → IM bx w → (loadVar T ⟨b, o, none⟩).run P w = .ok v w := fun w _ hs => by
 simp [loadVar, hA, load, Sem.run, hs.cell hb, h]
theorem jP {P : Program} {bx : Bx} {σ : Hp} {T : TypeId} {b n : Nat} {c : Array Value} {t : TypeId} {fr : Nat × Nat} (hA : ∀ w, (isAgg T).run P w = .ok true w) (hs : ∀ w, ((Go.sizeOf T).run P w) = .ok n w) (hn : c.size = n) (hb : (b, Obj.cells c t fr) ∈ bx) :
   ∀ w, Sat σ w → IM bx w → (loadVar T ⟨b, 0, none⟩).run P w = .ok (.agg c) w := fun w _ Vw => by
 subst hn
 have := run_loadCells_list (P := P) (w := w) ⟨b, 0, none⟩ c.toList (fun j v hj => by
   rw [show (⟨b, 0, none⟩ : Addr).add j = ⟨b, 0 + j, none⟩ from DC _ _ _, Vw.cell hb]
   simpa using hj)
 simp at this
 simp [loadVar, hA, hs, this]
theorem F3 {P : Program} {bx : Bx} {σ : Hp} {T : TypeId} {a : Addr} {v : Value} (hA : ∀ w, (isAgg T).run P w = .ok false w) (h : σ.ld a = some v) : ∀ w, Sat σ w → IM bx w → (loadVar T a).run P w = .ok v w := fun w hs _ => by
 simp [loadVar, hA, load, Sem.run, hs.ld h]
section ends
variable {g : Gl} {k : List Item} {e : Env} {bx : Bx} {σ : Hp}
theorem At.UO {c : Code} {fn : Func} {rs : List ResultVar} {vs : List Value} (hc : c = Code.ret) (hf : g.P.funcs[g.f]? = some fn) (hr : fn.results = rs.toArray) (h : Hc g.P e bx (left g.ds σ) rs vs) (hR : g.R (.returned (P3 vs)) (left g.ds σ))
   (MP : g.Gz = none := by rfl) (hm : Marks g.ds σ := by trivial) : At g (.code c :: k) e bx σ :=
 At.ret hc hf (fun a w he hs hb => h.results hr a w he hs hb) hR MP hm
theorem At.AA5 {fn : Func} {rs : List ResultVar} {vs : List Value} (hf : g.P.funcs[g.f]? = some fn) (hr : fn.results = rs.toArray) (h : Hc g.P e bx (left g.ds σ) rs vs) (hR : g.R (.returned (P3 vs)) (left g.ds σ))
   (MP : g.Gz = none := by rfl) (hm : Marks g.ds σ := by trivial) : At g [] e bx σ :=
 At.done hf (fun a w he hs hb => h.results hr a w he hs hb) hR MP hm
end ends
end Tw
end
section
namespace Tw
open Go
variable [I7]
def cl : Code → Code
 | .seq a _ => a | .cond _ a _ => a | .block _ a => a | .loop a => a | .scope a => a | .rangeFunc _ _ a _ => a | c => c
def cr : Code → Code
 | .seq _ b => b | .cond _ _ b => b | .rangeFunc _ _ _ b => b | c => c
def cO : Code → Array Oper
 | .region _ ops _ => ops | _ => #[]
def bg (P : Program) (t : TypeId) (f : Nat) : Field :=
 match P.underlying t with
 | some (.struct fs) => fs.getD f default
 | _ => default
theorem nt {b : Bool} (h : (!b) = true) : b = false := by simpa using h
theorem nf {b : Bool} (h : (!b) = false) : b = true := by simpa using h
def Ext (σ σ' : Hp) : Prop := ∀ b o, σ b = some o → σ' b = some o
theorem Ext.refl (σ : Hp) : Ext σ σ := fun _ _ h => h
theorem Ext.trans {σ σ' PC : Hp} (h : Ext σ σ') (h' : Ext σ' PC) : Ext σ PC := fun b o hb => h' b o (h b o hb)
theorem Ext.set {σ : Hp} {b : Nat} {o : Obj} (h : σ b = none) : Ext σ (σ.set b o) := fun c o' hc => by
 have : c ≠ b := fun e => by rw [e, h] at hc; cases hc
 rw [Hp.AF this]; exact hc
theorem Ext.ld {σ σ' : Hp} (h : Ext σ σ') {a : Addr} {v : Value} (hl : σ.ld a = some v) : σ'.ld a = some v := by
 unfold Hp.ld at *
 cases hb : σ a.block with
 | none => simp [hb] at hl
 | some o => rw [h _ _ hb]; rw [hb] at hl; exact hl
theorem At.ofL {g : Gl} {k : List Item} {e : Env} {bx : Bx} {σ : Hp} {l : List (Nat × Value)} (hl : Live e l) (h : ∀ J, At g k (LD J l) bx σ) : At g k e bx σ := At.live hl (h e)
def Kp (L : List Nat) (σ σ' : Hp) : Prop := ∀ b ∈ L, ∀ o, σ b = some o → σ' b = some o
theorem Kp.CG {L : List Nat} {σ σ' : Hp} (h : Ext σ σ') : Kp L σ σ' := fun b _ o hb => h b o hb
theorem Spec.cont {P : Program} {f : FuncId} {args : Array Value} {σ : Hp} {R : Rr} {Φ Ψ : Value → Hp → Prop} (h : Spec P f args σ (AB R Φ)) (hh : ∀ v σ', Φ v σ' → Ψ v σ') :
   Spec P f args σ (AB R Ψ) := h.mono fun e σ' he => by
 cases e with
 | returned v => exact hh v σ' he
 | panicked ch => exact he
 | outgrown => exact he
def YF (P : Program) (m : Sem Value) (σ : Hp) (v : Value) : Prop := ∀ w, Sat σ w → m.run P w = .ok v w
theorem Yd.any {P : Program} {e : Env} {bx : Bx} {σ : Hp} {op : Op} {ty : TypeId} {v : Value} {m : Sem Value} (hm : ∀ o : Oper, o.op = op → o.type = ty → execOp (AE e) o = (do pure (Next.value (← m)))) (hy : YF P m σ v) : Yd P e bx σ op ty v :=
 Yd.of m hm (fun w hs _ => hy w hs)
def GP (p : Option Addr) (l c s : Nat) : Option Addr := if c = l then p else p.map (·.add (l * s))
section
variable {P : Program} {e : Env} {bx : Bx} {σ : Hp} {ty T E : TypeId} {x y z : Operand} {k k' : IntKind} {l h : Int} {p : Option Addr} {n c s : Nat}
theorem He (hT : P.underlying T = some (.slice E)) : P.elem T = E := by simp [Program.elem, hT]
theorem Y.sla (hT : P.underlying T = some (.slice E)) (hs : ∀ w, ((Go.sizeOf E).run P w) = .ok s w) (hx : AE e x = .slice p n c) (_ : True) : Yd P e bx σ (.slice T x none none none) ty (.slice p n c) := fun oo ho _ w _ _ => by
 have Ru : P.underlying T = some (.slice (P.elem T)) := by rw [He hT]; exact hT
 have h1 := run_sliceAt_slice (P := P) (w := w) T (.slice p n c) none none none Ru
 have h2 := run_slice_all (P := P) (w := w) T p n c Ru
 simp [execOp, ho, hx, h1, h2, hs, He hT, sliced]
 cases p <;> simp [Addr.add]
theorem Y.slh (hT : P.underlying T = some (.slice E)) (hs : ∀ w, ((Go.sizeOf E).run P w) = .ok s w) (hx : AE e x = .slice p n c) (hz : AE e z = .int k h) (hh : 0 ≤ h ∧ h ≤ c) : Yd P e bx σ (.slice T x none (some z) none) ty (.slice p h.toNat c) := fun oo ho _ w _ _ => by
 have Ru : P.underlying T = some (.slice (P.elem T)) := by rw [He hT]; exact hT
 have h1 := run_sliceAt_slice (P := P) (w := w) T (.slice p n c) none (some (.int k h)) none Ru
 have h2 := run_slice_h (P := P) (w := w) T p n c Ru k h hh.1 hh.2
 simp [execOp, ho, hx, hz, h1, h2, hs, He hT, sliced]
 cases p <;> simp [Addr.add]
theorem Y.sll (hT : P.underlying T = some (.slice E)) (hs : ∀ w, ((Go.sizeOf E).run P w) = .ok s w) (hx : AE e x = .slice p n c) (hy : AE e y = .int k l) (hh : 0 ≤ l ∧ l ≤ n) : Yd P e bx σ (.slice T x (some y) none none) ty (.slice (GP p l.toNat c s) (n - l.toNat) (c - l.toNat)) := fun oo ho _ w _ _ => by
 have Ru : P.underlying T = some (.slice (P.elem T)) := by rw [He hT]; exact hT
 have h1 := run_sliceAt_slice (P := P) (w := w) T (.slice p n c) (some (.int k l)) none none Ru
 have h2 := run_slice_l (P := P) (w := w) T p n c Ru k l hh.1 hh.2
 simp [execOp, ho, hx, hy, h1, h2, hs, He hT, sliced, GP]
theorem Y.AA6 (hT : P.underlying T = some (.slice E)) (hs : ∀ w, ((Go.sizeOf E).run P w) = .ok s w) (hx : AE e x = .slice p n c) (hy : AE e y = .int k l) (hz : AE e z = .int k' h) (hh : 0 ≤ l ∧ l ≤ h ∧ h ≤ c) :
   Yd P e bx σ (.slice T x (some y) (some z) none) ty (.slice (GP p l.toNat c s) (h.toNat - l.toNat) (c - l.toNat)) := fun oo ho _ w _ _ => by
 have Ru : P.underlying T = some (.slice (P.elem T)) := by rw [He hT]; exact hT
 have h1 := run_sliceAt_slice (P := P) (w := w) T (.slice p n c) (some (.int k l)) (some (.int k' h)) none Ru
 have h2 := run_slice_lh (P := P) (w := w) T p n c Ru k k' l h hh.1 hh.2.1 hh.2.2
 simp [execOp, ho, hx, hy, hz, h1, h2, hs, He hT, sliced, GP]
theorem Vy (p : Option Addr) (c s : Nat) : GP p 0 c s = p := by unfold GP; cases p <;> simp [Addr.add]
theorem Y.AA7 (hT : P.underlying T = some (.slice E)) (hs : ∀ w, ((Go.sizeOf E).run P w) = .ok s w) (hx : AE e x = .slice p n c) (hy : AE e y = .int k 0) (hz : AE e z = .int k' h) (hh : (0 : Int) ≤ 0 ∧ 0 ≤ h ∧ h ≤ c) :
   Yd P e bx σ (.slice T x (some y) (some z) none) ty (.slice p h.toNat c) := by
 have := Y.AA6 (P := P) (bx := bx) (σ := σ) (ty := ty) hT hs hx hy hz hh
 simpa [Vy] using this
theorem Y.AI9 (hT : P.underlying T = some (.slice E)) (hs : ∀ w, ((Go.sizeOf E).run P w) = .ok s w) (hx : AE e x = .slice p n c) (hy : AE e y = .int k 0) (hh : (0 : Int) ≤ 0 ∧ (0 : Int) ≤ n) :
   Yd P e bx σ (.slice T x (some y) none none) ty (.slice p n c) := by
 have := Y.sll (P := P) (bx := bx) (σ := σ) (ty := ty) hT hs hx hy hh
 simpa [Vy] using this
theorem Y.AJA {a b : Bool} (hT : P.underlying T = some .bool) (hx : AE e x = .bool a) (hy : AE e y = .bool b) {T' : TypeId} : Yd P e bx σ (.binOp .eql T x y T') ty (.bool (a == b)) := fun oo ho _ w _ _ => by
 simp [execOp, ho, hx, hy, eqGuard_at_bool, run_eql_bool w T a b hT]
theorem Y.AJB {a b : Bool} (hT : P.underlying T = some .bool) (hx : AE e x = .bool a) (hy : AE e y = .bool b) {T' : TypeId} : Yd P e bx σ (.binOp .neq T x y T') ty (.bool (!(a == b))) := fun oo ho _ w _ _ => by
 simp [execOp, ho, hx, hy, eqGuard_at_bool, run_neq_bool w T a b hT]
theorem Y.AJC {a b : ByteArray} (hT : P.underlying T = some .string) (hx : AE e x = .string a) (hy : AE e y = .string b) {T' : TypeId} : Yd P e bx σ (.binOp .eql T x y T') ty (.bool (a.toList == b.toList)) := fun oo ho _ w _ _ => by
 have _ := hT
 have h1 : (binOp .eql T (.string a) (.string b)).run P w = .ok (.bool (a.toList == b.toList)) w := by simp [binOp, Op.stringOp]
 simp [execOp, ho, hx, hy, eqGuard_at_string, h1]
theorem Y.AJD {a b : ByteArray} (hT : P.underlying T = some .string) (hx : AE e x = .string a) (hy : AE e y = .string b) {T' : TypeId} : Yd P e bx σ (.binOp .neq T x y T') ty (.bool (!(a.toList == b.toList))) := fun oo ho _ w _ _ => by
 have _ := hT
 have h1 : (binOp .neq T (.string a) (.string b)).run P w = .ok (.bool (!(a.toList == b.toList))) w := by simp [binOp, Op.stringOp]
 simp [execOp, ho, hx, hy, eqGuard_at_string, h1]
theorem Y.jQ {q : Option Addr} {E : TypeId} (hT : P.underlying T = some (.pointer E)) (hx : AE e x = .pointer q) (hy : AE e y = .pointer none) {T' : TypeId} : Yd P e bx σ (.binOp .eql T x y T') ty (.bool q.isNone) := fun oo ho _ w _ _ => by
 have Ru : P.underlying T = some (.pointer (P.pointee T)) := by rw [show P.pointee T = E by simp [Program.pointee, hT]]; exact hT
 have h1 := run_eql_pointer_nil w T q Ru
 simp [execOp, ho, hx, hy, eqGuard_at_pointer, h1]
theorem Y.jR {q : Option Addr} {E : TypeId} (hT : P.underlying T = some (.pointer E)) (hx : AE e x = .pointer q) (hy : AE e y = .pointer none) {T' : TypeId} : Yd P e bx σ (.binOp .neq T x y T') ty (.bool q.isSome) := fun oo ho _ w _ _ => by
 have Ru : P.underlying T = some (.pointer (P.pointee T)) := by rw [show P.pointee T = E by simp [Program.pointee, hT]]; exact hT
 have h1 := run_neq_pointer_nil w T q Ru
 simp [execOp, ho, hx, hy, eqGuard_at_pointer, h1]
section
variable {u v : Value} {ts : Array TypeId}
theorem LZ (hx : AE e x = u) (hy : AE e y = v) (o : Oper) (ho : o.op = .call { callee := .builtin .append, args := #[x, y], argTypes := ts }) (ht : o.type = ty) : execOp (AE e) o = (do pure (.value (← Builtin.append_ ts ty #[u, v]))) := by
 subst ht; simp [execOp, ho, resolve, invoke, builtin, hx, hy]
theorem Vz (hx : AE e x = u) (hy : AE e y = v) (o : Oper) (ho : o.op = .call { callee := .builtin .copy, args := #[x, y], argTypes := ts }) (ht : o.type = ty) : execOp (AE e) o = (do pure (.value (← Builtin.copy_ ts ty #[u, v]))) := by
 subst ht; simp [execOp, ho, resolve, invoke, builtin, hx, hy]
theorem SE (hx : AE e x = u) (hy : AE e y = v) (o : Oper) (ho : o.op = .call { callee := .builtin .delete, args := #[x, y], argTypes := ts }) (ht : o.type = ty) : execOp (AE e) o = (do pure (.value (← Builtin.delete_ ts ty #[u, v]))) := by
 subst ht; simp [execOp, ho, resolve, invoke, builtin, hx, hy]
theorem UP (hx : AE e x = u) (o : Oper) (ho : o.op = .call { callee := .builtin .clear, args := #[x], argTypes := ts }) (ht : o.type = ty) : execOp (AE e) o = (do pure (.value (← Builtin.clear_ ts ty #[u]))) := by
 subst ht; simp [execOp, ho, resolve, invoke, builtin, hx]
end
def Program.Ly (P : Program) (E : TypeId) (m : Nat) (vs : List (Nat × Value)) : Option (Array Value) :=
 match P.info? E with
 | some i => match i.zero with
   | some z => if m * i.size > 2 ^ 24 then none else Instr.fill (fun j => some (j * i.size, i.size)) ((Array.range (m * i.size)).map (z.cells[· % z.cells.size]!)) vs
   | none => none
 | none => none
theorem P4 {m : Nat} {vs : List (Nat × Value)} {cs : Array Value} (hT : P.underlying T = some (.slice E)) (hc : Program.Ly P E m vs = some cs) (ps : Array (Nat × Value)) (hp : ps.toList = vs) (w : World) :
   (Instr.buildSlice T m ps).run P w = .ok (.slice (some ⟨w.heap.size, 0, none⟩) m m) { w with heap := w.heap.push (.cells cs E (0, 0)) } := by
 unfold Program.Ly at hc
 cases hi : P.info? E with
 | none => simp [hi] at hc
 | some i =>
   cases hz : i.zero with
   | none => simp [hi, hz] at hc
   | some z =>
     simp only [hi, hz] at hc
     by_cases hm : m * i.size > 2 ^ 24
     · simp [hm] at hc
     · simp only [hm, if_false] at hc
       subst hp
       by_cases h0 : m * i.size = 0
       · rw [h0] at hc
         have : (Array.range 0).map (fun x => z.cells[x % z.cells.size]!) = #[] := by simp
         rw [this] at hc
         have h2 : Array.map (fun _ => (default : Value)) (Array.range 0) = #[] := by simp
         simp [Instr.buildSlice, run_underlying hT, Go.sizeOf, typeInfo, hi, h0, h2, hc, newRow, newObj, Sem.run]
       · simp [Instr.buildSlice, run_underlying hT, Go.sizeOf, typeInfo, zeroValue, hi, hz, hm, h0, hc, newRow, newObj, Sem.run]
end
theorem AY.Ly {g : Gl} {ops : Array Oper} {i : Nat} {e : Env} {bx : Bx} {σ : Hp} {K : Env → Bx → Hp → Prop} {d : Option Nat} {ty T E : TypeId} {m : Nat} {ps : Array (Nat × Operand)} {vs : List (Nat × Value)} {cs : Array Value} (hT : g.P.underlying T = some (.slice E))
   {gd : Option (Nat × Bool)} (hs : sig ops i = some (d, .buildSlice T m ps, ty, gd)) (hw : Ab ops e gd = true) (hd : IG d g.n = true) (hv : ps.toList.map (fun p => (p.1, AE e p.2)) = vs) (hc : Program.Ly g.P E m vs = some cs)
   (h : ∀ b, σ b = none → K (put e d (.slice (some ⟨b, 0, none⟩) m m)) bx (σ.set b (.cells cs E (0, 0)))) : AY g ops i e bx σ K := by
 intro w0 F a w st
 obtain ⟨o, ho, rfl, B1, Dl, hg⟩ := Ct hs
 refine DK ho (by rw [st.wanted, hg]; exact hw) ?_
 rw [st.eval]
 have hh : (ps.map fun (i, x) => (i, AE e x)).toList = vs := by rw [← hv]; simp
 have := P4 hT hc (ps.map fun (i, x) => (i, AE e x)) hh w
 have : (execOp (AE e) o).run g.P w = .ok (.value (.slice (some ⟨w.heap.size, 0, none⟩) m m)) { w with heap := w.heap.push (.cells cs E (0, 0)) } := by
   simp only [execOp, B1, Sem.run_bind, this, Result.andThen_ok]; rfl
 rw [EM this (fun d => by simp)]
 have MQ := st.grown (.cells cs E (0, 0))
 exact ⟨_, _, _, MQ.open.put _ _ (IG.lt hd), h _ (MQ.free _ (List.mem_cons_self ..)).1⟩
def Enters (P : Program) (f : FuncId) : Prop := ∀ args w, (callFunc f args).run P w = .ok (.enter f args) w
theorem AY.AA8 {g : Gl} {ops : Array Oper} {i : Nat} {e : Env} {bx : Bx} {σ : Hp} {K : Env → Bx → Hp → Prop} {d : Option Nat} {ty : TypeId} {gd : Option (Nat × Bool)} {x : Operand} {xs : Array Operand} {ts : Array TypeId}
   {f : FuncId} {fst cap vs : Array Value} {u : Value} (hs : sig ops i = some (d, .call { callee := .value x, args := xs, argTypes := ts }, ty, gd)) (hw : Ab ops e gd = true) (hd : IG d g.n = true)
   (hx : AE e x = u) (JY : xs.toList.map (AE e) = vs.toList) (hu : u = .func (.func f) fst cap) (J8 : Enters g.P f)
   (h : Spec g.P f (fst ++ vs ++ cap) σ (AB g.R fun v σ' => K (put e d v) bx σ')) : AY g ops i e bx σ K :=
 AY.call hs hw hd (fun o ho _ w => NZ J8 (hx.trans hu) JY rfl o ho w) h
def YN (P : Program) (f : FuncId) (args : Array Value) (σ : Hp) (v : Value) : Prop := ∀ w, Sat σ w → (callFunc f args).run P w = .ok (.value v) w
theorem Yd.ext {P : Program} {e : Env} {bx : Bx} {σ : Hp} {ty : TypeId} {v : Value} {x : Operand} {xs : Array Operand} {ts : Array TypeId} {f : FuncId} {args : Array Value}
   (hx : AE e x = .func (.func f) #[] #[]) (JY : xs.toList.map (AE e) = args.toList) (hy : YN P f args σ v) : Yd P e bx σ (.call { callee := .value x, args := xs, argTypes := ts }) ty v := fun o ho _ w hs _ => by
 have JY : xs.map (AE e) = args := by rw [← Array.toList_inj]; simpa using JY
 simp only [execOp, ho, resolve, hx, JY, Deferred.ofValue, invoke, bind, Sem.bind, pure, Array.empty_append, Array.append_empty]
 exact hy w hs
end Tw
end
section
namespace Tw
open Go
variable [I7]
theorem AJ.pu {P : Program} {α : Type} {m : Sem α} {σ : Hp} {Φ : α → Hp → Prop} {v : α} (hm : ∀ w, Sat σ w → m.run P w = .ok v w) (h : Φ v σ) : AJ P m σ Φ := fun w _ hs hF =>
 ⟨v, w, σ, hm w hs, h, hs, fun b hb => ⟨(hF b hb).2, rfl⟩, .same rfl rfl rfl, rfl, Nat.le_refl _⟩
def Hp.del (σ : Hp) (p : Option Addr) : Hp := fun k => match p with
 | some a => if k = a.block then none else σ k
 | none => σ k
def Hp.new (σ σ' : Hp) : Hp := fun k => match σ k with
 | none => σ' k
 | some _ => none
theorem Ext.del {σ σ' : Hp} (h : Ext σ σ') (p : Option Addr) : Ext (σ.del p) (σ'.del p) := fun k o hk => by
 cases p with
 | none => exact h k o hk
 | some a => simp only [Hp.del] at hk ⊢; split at hk <;> simp_all [h k o]
theorem Ext.GR (σ : Hp) (p : Option Addr) : Ext (σ.del p) σ := fun k o hk => by
 cases p with
 | none => exact hk
 | some a => simp only [Hp.del] at hk; split at hk <;> simp_all
theorem Ext.Af (σ σ' : Hp) : Ext (σ.new σ') σ' := fun k o hk => by
 simp only [Hp.new] at hk; split at hk <;> simp_all
theorem Ext.o0 {σ σ' : Hp} {p : Option Addr} (hp : ∀ a, p = some a → σ a.block ≠ none) : Ext (σ.new σ') (σ'.del p) := fun k o hk => by
 cases p with
 | none => exact Ext.Af σ σ' k o hk
 | some a =>
   have h1 := hp a rfl
   have h2 := Ext.Af σ σ' k o hk
   simp only [Hp.del]
   split
   · rename_i h; subst h
     simp only [Hp.new] at hk
     split at hk <;> simp_all
   · exact h2
theorem Ext.BV {σ σ1 σ2 : Hp} (h : Ext σ1 σ2) : Ext (σ.new σ1) (σ.new σ2) := fun k o hk => by
 simp only [Hp.new] at hk ⊢
 split at hk <;> simp_all [h k o]
theorem Ext.CW {σ σ1 σ2 : Hp} (h : Ext σ σ1) : Ext (σ1.new σ2) (σ.new σ2) := fun k o hk => by
 simp only [Hp.new] at hk ⊢
 split at hk
 · rename_i hn
   cases hs : σ k with
   | none => exact hk
   | some o' => rw [h k o' hs] at hn; cases hn
 · cases hk
def Gi (s : Nat) (σ : Hp) (p : Option Addr) (n : Nat) (cs : List Value) : Prop :=
 cs.length = n * s ∧ n ≤ 4611686018427387904 ∧ (n = 0 ∨ ∃ b o, p = some ⟨b, o, none⟩ ∧ EF σ b o cs)
theorem EF.mono {σ σ' : Hp} (h : Ext σ σ') {b : Nat} : ∀ {l : List Value} {o : Nat}, EF σ b o l → EF σ' b o l
 | [], _, _ => trivial
 | _ :: _, _, hl => ⟨h.ld hl.1, EF.mono h hl.2⟩
theorem Gi.mono {s : Nat} {σ σ' : Hp} (h : Ext σ σ') {p : Option Addr} {n : Nat} {cs : List Value} (hr : Gi s σ p n cs) : Gi s σ' p n cs :=
 ⟨hr.1, hr.2.1, hr.2.2.imp id fun ⟨b, o, hp, hl⟩ => ⟨b, o, hp, hl.mono h⟩⟩
theorem EF.of {σ : Hp} {b : Nat} : ∀ {l : List Value} {o : Nat}, (∀ j v, l[j]? = some v → σ.ld ⟨b, o + j, none⟩ = some v) → EF σ b o l
 | [], _, _ => trivial
 | v :: l, o, h => ⟨by simpa using h 0 v rfl, EF.of fun j u hj => by have := h (j + 1) u (by simpa using hj); rwa [show o + (j + 1) = o + 1 + j by omega] at this⟩
theorem EF.part {σ : Hp} {b o i m : Nat} {l : List Value} (h : EF σ b o l) : EF σ b (o + i) ((l.drop i).take m) := EF.of fun j v hj => by
 have UQ : l[i + j]? = some v := by
   rw [List.getElem?_take] at hj
   split at hj
   · simpa using hj
   · cases hj
 have := h.get UQ
 rwa [show o + i + j = o + (i + j) by omega]
def Ch {α : Type} (s : Nat) (E : Hp → List Value → α → Prop) (σ : Hp) (cs : List Value) (xs : List α) : Prop :=
 cs.length = xs.length * s ∧ ∀ i x, xs[i]? = some x → E σ ((cs.drop (i * s)).take s) x
def GS {α : Type} (s : Nat) (E : Hp → List Value → α → Prop) (σ : Hp) (p : Option Addr) (n : Nat) (xs : List α) : Prop :=
 xs.length = n ∧ ∃ cs, Gi s σ p n cs ∧ Ch s E σ cs xs
def PD {α : Type} (E : Hp → List Value → α → Prop) : Prop := ∀ σ σ' vs x, Ext σ σ' → E σ vs x → E σ' vs x
theorem Ch.mono {α : Type} {s : Nat} {E : Hp → List Value → α → Prop} (hE : PD E) {σ σ' : Hp} (h : Ext σ σ') {cs : List Value} {xs : List α} (hc : Ch s E σ cs xs) : Ch s E σ' cs xs :=
 ⟨hc.1, fun i x hx => hE _ _ _ _ h (hc.2 i x hx)⟩
theorem GS.mono {α : Type} {s : Nat} {E : Hp → List Value → α → Prop} (hE : PD E) {σ σ' : Hp} (h : Ext σ σ') {p : Option Addr} {n : Nat} {xs : List α} (hr : GS s E σ p n xs) : GS s E σ' p n xs :=
 let ⟨h1, cs, h2, h3⟩ := hr; ⟨h1, cs, h2.mono h, h3.mono hE h⟩
theorem GS.nil {α : Type} {s : Nat} {E : Hp → List Value → α → Prop} {σ : Hp} {p : Option Addr} : GS s E σ p 0 [] := ⟨rfl, [], ⟨by simp, by omega, .inl rfl⟩, by simp [Ch]⟩
theorem GS.idx {α : Type} {s : Nat} {E : Hp → List Value → α → Prop} {σ : Hp} {p : Option Addr} {n i : Nat} {xs : List α} {x : α} (hr : GS s E σ p n xs) (hx : xs[i]? = some x) :
   ∃ b o vs, p = some ⟨b, o, none⟩ ∧ E σ vs x ∧ EF σ b (o + i * s) vs := by
 obtain ⟨h1, cs, ⟨hl, _, h2⟩, h3⟩ := hr
 have hi : i < n := by rw [← h1]; exact (List.getElem?_eq_some_iff.1 hx).1
 rcases h2 with h2 | ⟨b, o, hp, pA⟩
 · omega
 · exact ⟨b, o, _, hp, h3.2 i x hx, pA.part⟩
theorem GS.big {α : Type} {s : Nat} {E : Hp → List Value → α → Prop} {σ : Hp} {p : Option Addr} {n : Nat} {xs : List α} (hr : GS s E σ p n xs) : n ≤ 4611686018427387904 := by
 obtain ⟨_, cs, ⟨_, h, _⟩, _⟩ := hr; exact h
theorem GS.ex {α : Type} {s : Nat} {E : Hp → List Value → α → Prop} {σ : Hp} {p : Option Addr} {n k : Nat} {xs : List α} (hr : GS s E σ p n xs) (hk : k < n) : ∃ y, xs[k]? = some y :=
 ⟨_, List.getElem?_eq_getElem (by rw [hr.1]; exact hk)⟩
theorem Ah {k n : Nat} (h : k < n) (hn : n ≤ 4611686018427387904) : AO ((k : Int) + 1) := by unfold AO; omega
theorem AR {α : Type} {xs : List α} {k : Nat} {y : α} (hy : xs[k]? = some y) : xs.take (k + 1) = xs.take k ++ [y] := by
 rw [List.take_add_one, hy]; rfl
theorem Hy {α : Type} {xs : List α} {k : Nat} {x y : α} (hy : xs[k]? = some y) : x ∈ xs.take (k + 1) ↔ x ∈ xs.take k ∨ x = y := by
 rw [AR hy, List.mem_append, List.mem_singleton]
def V0 (k : IntKind) (_ : Hp) (vs : List Value) (x : Int) : Prop := vs = [.int k x]
theorem V0.mono (k : IntKind) : PD (V0 k) := fun _ _ _ _ _ h => h
abbrev CA (k : IntKind) := GS 1 (V0 k)
theorem CA.mono {k : IntKind} {σ σ' : Hp} (h : Ext σ σ') {p : Option Addr} {n : Nat} {xs : List Int} (hr : CA k σ p n xs) : CA k σ' p n xs := GS.mono (V0.mono k) h hr
theorem CA.at {k : IntKind} {σ : Hp} {p : Option Addr} {n : Nat} {xs : List Int} (hr : CA k σ p n xs) {i : Nat} {x : Int} (hx : xs[i]? = some x) :
   ∃ b o, p = some ⟨b, o, none⟩ ∧ σ.ld ⟨b, o + i * 1, none⟩ = some (.int k x) := by
 obtain ⟨b, o, vs, hp, rfl, hl⟩ := GS.idx hr hx
 exact ⟨b, o, hp, hl.1⟩
theorem ZI {k : IntKind} {σ : Hp} {cs : List Value} {xs : List Int} : Ch 1 (V0 k) σ cs xs ↔ cs = xs.map (.int k) := by
 constructor
 · rintro ⟨h1, h2⟩
   refine List.ext_getElem? fun i => ?_
   rw [List.getElem?_map]
   cases hx : xs[i]? with
   | none =>
     have := List.getElem?_eq_none_iff.1 hx
     simp only [Option.map_none]
     exact List.getElem?_eq_none_iff.2 (by omega)
   | some x =>
     have := h2 i x hx
     simp only [V0, Nat.mul_one] at this
     have h3 : ((cs.drop i).take 1)[0]? = some (.int k x) := by rw [this]; rfl
     rw [List.getElem?_take] at h3
     simpa using h3
 · rintro rfl
   refine ⟨by simp, fun i x hx => ?_⟩
   have Ag := (List.getElem?_eq_some_iff.1 hx).1
   have hg := (List.getElem?_eq_some_iff.1 hx).2
   simp only [V0, Nat.mul_one]
   rw [List.drop_eq_getElem_cons (by simpa using Ag)]
   simp [hg]
def Own (s : Nat) (σ : Hp) (p : Option Addr) (n c : Nat) (cs : List Value) : Prop :=
 cs.length = n * s ∧ n ≤ 4611686018427387904 ∧ ((p = none ∧ n = 0 ∧ c = 0) ∨ ∃ b o arr T, p = some ⟨b, o, none⟩ ∧ σ b = some (.cells arr T (0, 0)) ∧ n ≤ c ∧ o + c * s ≤ arr.size ∧ (arr.toList.drop o).take (n * s) = cs)
theorem Own.nil {s : Nat} {σ : Hp} : Own s σ none 0 0 [] := ⟨by simp, by omega, .inl ⟨rfl, rfl, rfl⟩⟩
theorem Own.rd {s : Nat} {σ : Hp} {p : Option Addr} {n c : Nat} {cs : List Value} (h : Own s σ p n c cs) : Gi s σ p n cs := by
 obtain ⟨h1, h0, h2⟩ := h
 refine ⟨h1, h0, ?_⟩
 rcases h2 with ⟨_, hn, _⟩ | ⟨b, o, arr, T, hp, hb, iR, Ee, IP⟩
 · exact .inl hn
 · refine .inr ⟨b, o, hp, EF.of fun j v hj => ?_⟩
   rw [← IP, List.getElem?_take] at hj
   split at hj
   · simp only [Hp.ld, hb]
     simpa using hj
   · cases hj
theorem Own.mono {s : Nat} {σ σ' : Hp} (h : Ext σ σ') {p : Option Addr} {n c : Nat} {cs : List Value} (ho : Own s σ p n c cs) : Own s σ' p n c cs :=
 ⟨ho.1, ho.2.1, ho.2.2.imp id fun ⟨b, o, arr, T, hp, hb, r⟩ => ⟨b, o, arr, T, hp, h _ _ hb, r⟩⟩
theorem Own.block {s : Nat} {σ : Hp} {p : Option Addr} {n c : Nat} {cs : List Value} (ho : Own s σ p n c cs) : ∀ a, p = some a → σ a.block ≠ none := by
 intro a ha
 rcases ho.2.2 with ⟨hp, _⟩ | ⟨b, o, arr, T, hp, hb, _⟩
 · rw [hp] at ha; cases ha
 · rw [hp] at ha; cases ha; rw [hb]; simp
theorem Own.take {s : Nat} {σ : Hp} {p : Option Addr} {n c m : Nat} {cs : List Value} (ho : Own s σ p n c cs) (hm : m ≤ n) : Own s σ p m c (cs.take (m * s)) := by
 obtain ⟨h1, h0, h2⟩ := ho
 have hle : m * s ≤ n * s := Nat.mul_le_mul_right s hm
 refine ⟨by rw [List.length_take, h1]; omega, by omega, ?_⟩
 rcases h2 with ⟨hp, hn, hc⟩ | ⟨b, o, arr, T, hp, hb, iR, Ee, IP⟩
 · exact .inl ⟨hp, by omega, hc⟩
 · exact .inr ⟨b, o, arr, T, hp, hb, by omega, Ee, by rw [← IP, List.take_take, Nat.min_eq_left hle]⟩
class J2 (P : Program) (T : TypeId) (E : outParam TypeId) (s bs : outParam Nat) : Prop where
 Vg : P.underlying T = some (.slice E)
 info : ∃ i z, P.info? E = some i ∧ i.zero = some z ∧ i.size = s ∧ i.bytes = bs ∧ z.cells.size = s
 pos : 0 < s
 AJE : 0 < bs
def CU (cs : List Value) : Prop := ∀ u ∈ cs, u.oneCell' = true
theorem CU.Cs {k : IntKind} {xs : List Int} : CU (xs.map (.int k)) := fun u hu => by
 obtain ⟨x, _, rfl⟩ := List.mem_map.1 hu; rfl
section append
variable {P : Program} {T E ty : TypeId} {s bs : Nat} {σ : Hp} {p q : Option Addr} {n c m d : Nat} {cs ys : List Value} {Φ : Value → Hp → Prop}
theorem Su {w : World} (hs : Sat σ w) {b o : Nat} (h : EF σ b o ys) : ∀ j v, ys[j]? = some v → w.cell? ((⟨b, o, none⟩ : Addr).add j) = some v := fun j v hj => by
 rw [DC]; exact hs.ld (h.get hj)
theorem IQ (w : World) (hs : Sat σ w) (hr : Gi s σ q m ys) : (Builtin.firstCells s m (.slice q m d)).run P w = .ok ys.toArray w := by
 rcases hr.2.2 with hm | ⟨b, o, rfl, hl⟩
 · subst hm
   have : ys = [] := List.eq_nil_of_length_eq_zero (by simpa using hr.1)
   subst this
   cases q <;> simp [Builtin.firstCells, loadCells, loadCellsFrom]
 · exact run_firstCells_some (P := P) w s m ⟨b, o, none⟩ m d ys hr.1 (Su hs hl)
theorem DM {w : World} (hs : Sat σ w) : σ w.heap.size = none := by
 cases h : σ w.heap.size with
 | none => rfl
 | some o => exact absurd (Array.getElem?_eq_some_iff.1 (hs _ _ h)).1 (Nat.lt_irrefl _)
theorem Fin.alloc {F : Nat → Prop} {w : World} {o : Obj} (hs : Sat σ w) (hF : ∀ b, F b → b < w.heap.size ∧ σ b = none) (w' : World) (hw : w'.heap = w.heap.push o) (h1 : Fi w w') (h2 : w'.output = w.output) : Fin (σ.set w.heap.size o) F w w' := by
 refine ⟨fun k u hk => ?_, fun b hb => ?_, h1, h2, by rw [hw]; simp⟩
 · rw [hw]
   by_cases h : k = w.heap.size
   · subst h; rw [Hp.AA] at hk; cases hk; simp
   · rw [Hp.AF h] at hk
     have := hs k u hk
     have Ag := (Array.getElem?_eq_some_iff.1 this).1
     rw [Array.getElem?_push, if_neg h]; exact this
 · have := (hF b hb).1
   refine ⟨by rw [Hp.AF (by omega)]; exact (hF b hb).2, ?_⟩
   rw [hw, Array.getElem?_push, if_neg (by omega)]
theorem Hp.JD {b : Nat} {o : Obj} {a : Nat} {sp : Option Nat} (h : σ b = none) : (σ.set b o).del (some ⟨b, a, sp⟩) = σ := by
 funext k
 simp only [Hp.del, Hp.set]
 by_cases hk : k = b
 · subst hk; simp [h]
 · simp [hk]
theorem Hp.Bl {b : Nat} {o : Obj} {a : Nat} {sp : Option Nat} : (σ.set b o).del (some ⟨b, a, sp⟩) = σ.del (some ⟨b, a, sp⟩) := by
 funext k
 simp only [Hp.del, Hp.set]
 by_cases hk : k = b <;> simp [hk]
theorem MW [h : J2 P T E s bs] (Aa : Own s σ p n c cs) (hy : Gi s σ q m ys) (h1 : CU ys) (hb : (n + m) * bs ≤ 140737488355328)
   (hΦ : ∀ p' c' σ', Own s σ' p' (n + m) c' (cs ++ ys) → Ext (σ.del p) (σ'.del p') → ((p' = p ∧ c' = c ∧ n + m ≤ c) ∨ (c < n + m ∧ Ext σ σ' ∧ ∀ a, p' = some a → σ a.block = none)) → Φ (.slice p' (n + m) c') σ') :
   AJ P (Builtin.append_ #[T, T] ty #[.slice p n c, .slice q m d]) σ Φ := by
 obtain ⟨ht, ⟨i, z, hi, hz, rfl, rfl, jS⟩, Ju, OH⟩ := h
 have h62 : n + m ≤ 140737488355328 := Nat.le_trans (Nat.le_mul_of_pos_right _ OH) hb
 intro w F hs hF
 have hf := IQ (P := P) (d := d) w hs hy
 have Vu := fun w' (hw : Sat σ w') => IQ (P := P) (d := d) w' hw hy
 have EN := fun w' (hw : Sat σ w') => IQ (P := P) (d := c) w' hw Aa.rd
 have hlen : (cs ++ ys).length = (n + m) * i.size := by rw [List.length_append, Aa.1, hy.1, Nat.add_mul]
 by_cases Db : n + m ≤ c
 · -- there is room
   rcases Aa.2.2 with ⟨hp, hn, hc⟩ | ⟨b, o, arr, T', rfl, hblk, iR, Ee, IP⟩
   · subst hp hn hc
     have hm : m = 0 := by omega
     subst hm
     have IH : ys = [] := List.eq_nil_of_length_eq_zero (by simpa using hy.1)
     have IP : cs = [] := List.eq_nil_of_length_eq_zero (by simpa using Aa.1)
     subst IH IP
     refine ⟨.slice none 0 0, w, σ, ?_, hΦ none 0 σ Own.nil (Ext.refl _) (.inl ⟨rfl, rfl, Db⟩), hs, fun b hb => ⟨(hF b hb).2, rfl⟩, .same rfl rfl rfl, rfl, Nat.le_refl _⟩
     simp [Builtin.append_, run_underlying ht, Go.sizeOf, typeInfo, hi, Builtin.lenOf, hf]
   · have hw := hs _ _ hblk
     have eF : o + n * i.size + 0 + ys.length ≤ arr.size := by
       rw [hy.1]
       have : (n + m) * i.size ≤ c * i.size := Nat.mul_le_mul_right _ Db
       rw [Nat.add_mul] at this
       omega
     have JC := Dn (P := P) b (o + n * i.size) T' ys 0 arr w hw eF h1
     simp only [Nat.add_zero] at JC
     refine ⟨.slice (some ⟨b, o, none⟩) (n + m) c, w.setRow b (DX arr (o + n * i.size) ys), σ.set b (.cells (DX arr (o + n * i.size) ys) T' (0, 0)), ?_, hΦ _ _ _ ⟨hlen, by omega, .inr ⟨b, o, _, T', rfl, Hp.AA _ _ _, Db, by rw [Dm]; exact Ee, ?_⟩⟩ (by rw [Hp.Bl]; exact Ext.refl _) (.inl ⟨rfl, rfl, Db⟩), ?_⟩
     · simp [Builtin.append_, run_underlying ht, Go.sizeOf, typeInfo, hi, Builtin.lenOf, Db, hf, DC, JC]
     · refine List.ext_getElem? fun j => ?_
       rw [List.getElem?_take]
       simp only [List.getElem?_drop, Array.getElem?_toList]
       rw [Pe _ _ _ _ (by omega), List.getElem?_append]
       have e1 : cs.length = n * i.size := Aa.1
       have e2 : ys.length = m * i.size := hy.1
       have e3 : (n + m) * i.size = n * i.size + m * i.size := Nat.add_mul ..
       by_cases UR : j < cs.length
       · rw [if_pos (by omega), if_neg (by omega), if_pos UR, ← IP, List.getElem?_take, if_pos (by omega)]
         simp
       · rw [if_neg UR]
         by_cases oA : j < (n + m) * i.size
         · rw [if_pos oA, if_pos (by omega), show o + j - (o + n * i.size) = j - cs.length by omega]
         · rw [if_neg oA, List.getElem?_eq_none (by omega)]
     · refine ⟨fun k u hk => ?_, fun k hk => ?_, .same rfl rfl rfl, rfl, by simp⟩
       · by_cases DD : k = b
         · subst DD; rw [Hp.AA] at hk; cases hk; exact setRow_heap w k arr _ T' (0, 0) hw
         · rw [Hp.AF DD] at hk; rw [setRow_other _ _ _ _ DD]; exact hs k u hk
       · have DD : k ≠ b := fun h => by have := (hF k hk).2; rw [h, hblk] at this; cases this
         exact ⟨by rw [Hp.AF DD]; exact (hF k hk).2, setRow_other _ _ _ _ DD⟩
 · -- it AA9
   have tI : Builtin.nextslicecap (n + m) c * i.bytes ≤ 281474976710656 := growslice_fits (by omega) hb
   have hgc := grownCap_ge w (n + m) c E
   have II : Sat σ w.drew := hs
   have Cu : (Builtin.append_ #[T, T] ty #[.slice p n c, .slice q m d]).run P w =
       .ok (.slice (some ⟨w.heap.size, 0, none⟩) (n + m) (grownCap w (n + m) c E))
         (w.drew.alloc (.cells (cs.toArray ++ ys.toArray ++ Builtin.zeroCells z.cells (grownCap w (n + m) c E - (n + m))) E)) := by
     have eG : ¬ (9223372036854775807 < ((n : Int) + (m : Int))) := by omega
     have eH : ¬ (281474976710656 < Builtin.nextslicecap (n + m) c * i.bytes) := by omega
     simp [Builtin.append_, run_underlying ht, Go.sizeOf, typeInfo, zeroValue, hi, hz, Builtin.lenOf, Db, eG, eH, Question.forced, Vu _ II, EN _ II, newRow, grownCap]
     congr 2
     apply Array.ext'
     simp [List.append_assoc]
   refine ⟨_, _, σ.set w.heap.size _, Cu, hΦ _ _ _ ⟨hlen, by omega, .inr ⟨w.heap.size, 0, _, E, rfl, Hp.AA _ _ _, hgc, ?_, ?_⟩⟩ ?_ (.inr ⟨by omega, Ext.set (DM hs), fun a ha => by cases ha; exact DM hs⟩), Fin.alloc hs hF _ rfl ⟨rfl, rfl, fun _ => ⟨1, rfl⟩⟩ rfl⟩
   · simp only [Array.size_append, List.size_toArray, size_zeroCells, jS, Aa.1, hy.1, ← Nat.add_mul]
     have : n + m + (grownCap w (n + m) c E - (n + m)) = grownCap w (n + m) c E := by omega
     rw [this]; omega
   · simp only [Array.toList_append, List.drop_zero]
     rw [← hlen]
     exact List.take_left
   · rw [Hp.JD (DM hs)]
     exact Ext.GR σ p
theorem Ec [h : J2 P T E s bs] (Aa : Own s σ p n c cs) (hy : Gi s σ q m ys) (h1 : CU ys) (hb : (n + m) * bs ≤ 140737488355328)
   (hΦ : ∀ p' c' σ', Own s σ' p' (n + m) c' (cs ++ ys) → Ext (σ.del p) (σ'.del p') → Φ (.slice p' (n + m) c') σ') :
   AJ P (Builtin.append_ #[T, T] ty #[.slice p n c, .slice q m d]) σ Φ :=
 MW Aa hy h1 hb fun p' c' σ' h1 h2 _ => hΦ p' c' σ' h1 h2
end append
end Tw
end
section
namespace Tw
open Go
variable [I7]
theorem Gi.of_map {k : IntKind} {σ : Hp} {p : Option Addr} {n : Nat} {xs : List Int} (hr : CA k σ p n xs) : Gi 1 σ p n (xs.map (.int k)) := by
 obtain ⟨_, cs, h1, h2⟩ := hr
 rwa [ZI.1 h2] at h1
theorem CA.Lz {k : IntKind} {σ : Hp} {p : Option Addr} {n : Nat} {xs : List Int} (h : Gi 1 σ p n (xs.map (.int k))) : CA k σ p n xs :=
 ⟨by have := h.1; simpa using this, _, h, ZI.2 rfl⟩
abbrev AS (k : IntKind) (σ : Hp) (p : Option Addr) (n c : Nat) (xs : List Int) : Prop := Own 1 σ p n c (xs.map (.int k))
theorem AS.rd {k : IntKind} {σ : Hp} {p : Option Addr} {n c : Nat} {xs : List Int} (h : AS k σ p n c xs) : CA k σ p n xs := .Lz (Own.rd h)
theorem Own.empty {s b T : Nat} {σ : Hp} : Own s (σ.set b (.cells #[] T (0, 0))) (some ⟨b, 0, none⟩) 0 0 [] :=
 ⟨by simp, by omega, .inr ⟨b, 0, #[], T, rfl, Hp.AA _ _ _, Nat.le_refl _, by simp, by simp⟩⟩
theorem Own.CV {s : Nat} {σ σ' : Hp} {p : Option Addr} {n c : Nat} {cs : List Value} (h : Own s σ' p n c cs) (hp : ∀ a, p = some a → σ a.block = none) : Own s (σ.new σ') p n c cs := by
 refine ⟨h.1, h.2.1, h.2.2.imp id ?_⟩
 rintro ⟨b, o, arr, T, hpe, hb, r⟩
 refine ⟨b, o, arr, T, hpe, ?_, r⟩
 simp only [Hp.new]
 rw [hp _ hpe]; exact hb
theorem B2 {σ σ1 σ' : Hp} {p p' : Option Addr} (h : ∀ a, p = some a → σ a.block = none) (hx : Ext (σ1.del p) (σ'.del p')) (hσ : Ext σ σ1) : ∀ a, p' = some a → σ a.block = none := by
 intro a ha
 cases hb : σ a.block with
 | none => rfl
 | some o =>
   have h1 := hσ _ _ hb
   have h2 : (σ1.del p) a.block = some o := by
     cases p with
     | none => exact h1
     | some u =>
       simp only [Hp.del]
       split
       · rename_i he
         have := h u rfl
         rw [← he, hb] at this; cases this
       · exact h1
   have h3 := hx _ _ h2
   rw [ha] at h3
   simp [Hp.del] at h3
theorem CX {σ σ1 σ' : Hp} {p p' : Option Addr} (h : ∀ a, p = some a → σ a.block = none) (hx : Ext (σ1.del p) (σ'.del p')) (hσ : Ext σ σ1) : Ext σ σ' := by
 intro b o hb
 have h2 : (σ1.del p) b = some o := by
   cases p with
   | none => exact hσ _ _ hb
   | some u =>
     simp only [Hp.del]
     split
     · rename_i he
       have := h u rfl
       rw [← he, hb] at this; cases this
     · exact hσ _ _ hb
 exact Ext.GR _ _ _ _ (hx _ _ h2)
theorem AQ {σ σ' : Hp} {k : Nat} {o : Obj} : σ.new σ' k = some o ↔ σ k = none ∧ σ' k = some o := by
 simp only [Hp.new]
 cases σ k <;> simp
theorem A6 {σ : Hp} {p : Option Addr} {k : Nat} {o : Obj} : σ.del p k = some o ↔ (∀ a, p = some a → k ≠ a.block) ∧ σ k = some o := by
 cases p with
 | none => simp [Hp.del]
 | some a =>
   simp only [Hp.del]
   split
   · rename_i h; simp [h]
   · rename_i h; simp [h]
theorem Own.Dp {s : Nat} {σ σ' : Hp} {p : Option Addr} {n c : Nat} {cs : List Value} (h : Own s (σ.new σ') p n c cs) : ∀ a, p = some a → σ a.block = none := by
 intro a ha
 have := h.block a ha
 cases hb : (σ.new σ') a.block with
 | none => exact absurd hb this
 | some o => exact (AQ.1 hb).1
theorem Ext.IS {σ0 σa σ : Hp} {p : Option Addr} (h0 : Ext σ0 σa) (hp : ∀ a, p = some a → σa a.block ≠ none) : Ext (σa.new σ) ((σ0.new σ).del p) := fun k o hk => by
 obtain ⟨h1, h2⟩ := AQ.1 hk
 refine A6.2 ⟨fun a ha he => hp a ha (he ▸ h1), AQ.2 ⟨?_, h2⟩⟩
 cases hs : σ0 k with
 | none => rfl
 | some o' => rw [h0 _ _ hs] at h1; cases h1
section append
variable {P : Program} {T Et ty : TypeId} {s bs : Nat} {σ0 σ : Hp} {p q : Option Addr} {n c m d : Nat} {cs ys : List Value} {Φ : Value → Hp → Prop}
theorem D6 [J2 P T Et s bs] (h0 : Ext σ0 σ) (Aa : Own s (σ0.new σ) p n c cs) (hy : Gi s σ q m ys) (h1 : CU ys) (hb : (n + m) * bs ≤ 140737488355328)
   (hΦ : ∀ p' c' σ', Own s (σ0.new σ') p' (n + m) c' (cs ++ ys) → Ext σ0 σ' → Ext ((σ0.new σ).del p) ((σ0.new σ').del p') → Φ (.slice p' (n + m) c') σ') :
   AJ P (Builtin.append_ #[T, T] ty #[.slice p n c, .slice q m d]) σ Φ := by
 have pB := Aa.Dp
 refine Ec (Aa.mono (Ext.Af σ0 σ)) hy h1 hb fun p' c' σ' ho hx => ?_
 refine hΦ p' c' σ' (ho.CV (B2 pB hx h0)) (CX pB hx h0) fun k o hk => ?_
 obtain ⟨h2, h3⟩ := A6.1 hk
 obtain ⟨h4, h5⟩ := AQ.1 h3
 obtain ⟨h6, h7⟩ := A6.1 (hx k o (A6.2 ⟨h2, h5⟩))
 exact A6.2 ⟨h6, AQ.2 ⟨h4, h7⟩⟩
theorem JE [J2 P T Et s bs] (h0 : Ext σ0 σ) (Aa : Own s (σ0.new σ) p n c cs) (hl : ys.length = m * s) (h1 : CU ys) (hb : (n + m) * bs ≤ 140737488355328)
   (hΦ : ∀ p' c' σ', Own s (σ0.new σ') p' (n + m) c' (cs ++ ys) → Ext σ0 σ' → Ext ((σ0.new σ).del p) ((σ0.new σ').del p') → Φ (.slice p' (n + m) c') σ')
   {b : Nat} (hn : σ b = none) : AJ P (Builtin.append_ #[T, T] ty #[.slice p n c, .slice (some ⟨b, 0, none⟩) m m]) (σ.set b (.cells ys.toArray Et (0, 0))) Φ := by
 have hx : Ext σ (σ.set b (.cells ys.toArray Et (0, 0))) := .set hn
 have hm : m ≤ 140737488355328 := by
   have wF := (inferInstance : J2 P T Et s bs).AJE
   have : n + m ≤ (n + m) * bs := Nat.le_mul_of_pos_right _ wF
   omega
 refine D6 (h0.trans hx) (Aa.mono (Ext.BV hx)) ⟨hl, by omega, .inr ⟨b, 0, rfl, EF.of fun j v hj => ?_⟩⟩ h1 hb fun p' c' σ' ho he hd => hΦ p' c' σ' ho he (fun k o hk => hd k o ((Ext.BV hx).del p k o hk))
 simp [Hp.ld, Hp.AA, hj]
end append
def A9 {α : Type} (s : Nat) (E : Hp → List Value → α → Prop) (σ : Hp) (p : Option Addr) (n c : Nat) (xs : List α) : Prop :=
 xs.length = n ∧ ∃ cs, Own s σ p n c cs ∧ Ch s E (σ.del p) cs xs
theorem A9.nil {α : Type} {s : Nat} {E : Hp → List Value → α → Prop} {σ : Hp} : A9 s E σ none 0 0 [] := ⟨rfl, [], .nil, by simp [Ch]⟩
theorem A9.mono {α : Type} {s : Nat} {E : Hp → List Value → α → Prop} (hE : PD E) {σ σ' : Hp} (h : Ext σ σ') {p : Option Addr} {n c : Nat} {xs : List α} (ho : A9 s E σ p n c xs) : A9 s E σ' p n c xs :=
 let ⟨h1, cs, h2, h3⟩ := ho; ⟨h1, cs, h2.mono h, h3.mono hE (h.del p)⟩
theorem A9.rd {α : Type} {s : Nat} {E : Hp → List Value → α → Prop} (hE : PD E) {σ : Hp} {p : Option Addr} {n c : Nat} {xs : List α} (ho : A9 s E σ p n c xs) : GS s E σ p n xs :=
 let ⟨h1, cs, h2, h3⟩ := ho; ⟨h1, cs, h2.rd, h3.mono hE (Ext.GR σ p)⟩
theorem A9.block {α : Type} {s : Nat} {E : Hp → List Value → α → Prop} {σ : Hp} {p : Option Addr} {n c : Nat} {xs : List α} (ho : A9 s E σ p n c xs) : ∀ a, p = some a → σ a.block ≠ none :=
 let ⟨_, _, h2, _⟩ := ho; h2.block
theorem Ch.snoc {α : Type} {s : Nat} {E : Hp → List Value → α → Prop} {σ : Hp} {cs vs : List Value} {xs : List α} {x : α} (h : Ch s E σ cs xs) (hl : vs.length = s) (hx : E σ vs x) : Ch s E σ (cs ++ vs) (xs ++ [x]) := by
 refine ⟨by simp [h.1, hl, Nat.add_mul], fun i y hy => ?_⟩
 rw [List.getElem?_append] at hy
 split at hy
 · rename_i hi
   have hle : i * s + s ≤ cs.length := by rw [h.1, ← Nat.succ_mul]; exact Nat.mul_le_mul_right s hi
   rw [List.drop_append_of_le_length (by omega), List.take_append_of_le_length (by simp; omega)]
   exact h.2 i y hy
 · rename_i hi
   have : i = xs.length := by
     have := (List.getElem?_eq_some_iff.1 hy).1
     simp at this; omega
   subst this
   simp at hy
   subst hy
   rw [← h.1, List.drop_left, ← hl, List.take_length]
   exact hx
theorem A9.JF {α : Type} {P : Program} {T Et ty : TypeId} {s bs : Nat} {E : Hp → List Value → α → Prop} (hE : PD E) [J2 P T Et s bs] {σ0 σ : Hp} {p : Option Addr} {n c : Nat} {xs : List α} {vs : List Value} {x : α} {Φ : Value → Hp → Prop}
   (h0 : Ext σ0 σ) (Aa : A9 s E (σ0.new σ) p n c xs) (hl : vs.length = s) (h1 : CU vs) (hx : E ((σ0.new σ).del p) vs x) (hb : (n + 1) * bs ≤ 140737488355328)
   (hΦ : ∀ p' c' σ', A9 s E (σ0.new σ') p' (n + 1) c' (xs ++ [x]) → Ext σ0 σ' → Φ (.slice p' (n + 1) c') σ') {b : Nat} (hn : σ b = none) :
   AJ P (Builtin.append_ #[T, T] ty #[.slice p n c, .slice (some ⟨b, 0, none⟩) 1 1]) (σ.set b (.cells vs.toArray Et (0, 0))) Φ := by
 obtain ⟨hlen, cs, ho, hc⟩ := Aa
 refine JE h0 ho (by rw [hl, Nat.one_mul]) h1 hb (fun p' c' σ' EN he hd => hΦ p' c' σ' ⟨by simp [hlen], _, EN, (hc.snoc hl hx).mono hE hd⟩ he) hn
end Tw
end
section
namespace Tw
open Go
variable [I7]
def Drop (R : Rr) : Rr := fun e σ' => ∃ σ, Ext σ σ' ∧ R e σ
theorem Drop.mk {R : Rr} {e : Ending} {σ σ' : Hp} (h : Ext σ σ') (hr : R e σ) : Drop R e σ' := ⟨σ, h, hr⟩
theorem A4 {σ σ' : Hp} (h : Ext σ σ') {b : Nat} (hb : σ' b = none) : σ b = none := by
 cases hs : σ b with
 | none => rfl
 | some o => rw [h _ _ hs] at hb; cases hb
theorem Spec.drop {P : Program} {f : FuncId} {args : Array Value} {σ : Hp} {R : Rr} (h : Spec P f args σ (Drop R)) : Spec P f args σ R := fun w F hs hF =>
 (h w F hs hF).mono fun _ _ ⟨_, ⟨PC, hx, hr⟩, hf⟩ => ⟨PC, hr, { hf with sat := fun b o hb => hf.sat b o (hx b o hb), C7 := fun b hb => ⟨A4 hx (hf.C7 b hb).1, (hf.C7 b hb).2⟩ }⟩
section
variable {P : Program} {T Et ty : TypeId} {bs : Nat} {σ0 σ : Hp} {p : Option Addr} {n c : Nat} {xs : List Int} {x : Int} {k : IntKind} {Φ : Value → Hp → Prop}
theorem AS.JF [J2 P T Et 1 bs] (h0 : Ext σ0 σ) (Aa : AS k (σ0.new σ) p n c xs) (hb : (n + 1) * bs ≤ 140737488355328)
   (hΦ : ∀ p' c' σ', AS k (σ0.new σ') p' (n + 1) c' (xs ++ [x]) → Ext σ0 σ' → Ext ((σ0.new σ).del p) ((σ0.new σ').del p') → Φ (.slice p' (n + 1) c') σ')
   {b : Nat} (hn : σ b = none) : AJ P (Builtin.append_ #[T, T] ty #[.slice p n c, .slice (some ⟨b, 0, none⟩) 1 1]) (σ.set b (.cells #[.int k x] Et (0, 0))) Φ :=
 JE (ys := [.int k x]) h0 Aa rfl (CU.Cs (xs := [x])) hb (fun p' c' σ' ho he hd => hΦ p' c' σ' (by simpa [AS, List.map_append] using ho) he hd) hn
theorem AS.nil : AS k σ none 0 0 [] := Own.nil
end
end Tw
end
section
namespace Tw
open Go
variable [I7]
def Na (s : Nat) (σ : Hp) (p : Option Addr) (c : Nat) (L : List Value) : Prop :=
 L.length = c * s ∧ ((p = none ∧ c = 0) ∨ ∃ b o arr T, p = some ⟨b, o, none⟩ ∧ σ b = some (.cells arr T (0, 0)) ∧ o + c * s ≤ arr.size ∧ (arr.toList.drop o).take (c * s) = L)
theorem Own.room {s : Nat} {σ : Hp} {p : Option Addr} {n c : Nat} {cs : List Value} (h : Own s σ p n c cs) : n ≤ c ∧ ∃ L, Na s σ p c L ∧ L.take (n * s) = cs := by
 obtain ⟨h1, h0, h2⟩ := h
 rcases h2 with ⟨rfl, rfl, rfl⟩ | ⟨b, o, arr, T, hp, hb, iR, Ee, IP⟩
 · have : cs = [] := List.eq_nil_of_length_eq_zero (by simpa using h1)
   exact ⟨Nat.le_refl _, [], ⟨by simp, .inl ⟨rfl, rfl⟩⟩, by simp [this]⟩
 · refine ⟨iR, _, ⟨?_, .inr ⟨b, o, arr, T, hp, hb, Ee, rfl⟩⟩, ?_⟩
   · rw [List.length_take, List.length_drop]; simp; omega
   · rw [List.take_take, Nat.min_eq_left (Nat.mul_le_mul_right s iR)]; exact IP
theorem Na.own {s : Nat} {σ : Hp} {p : Option Addr} {n c : Nat} {L : List Value} (h : Na s σ p c L) (hn : n ≤ c) (hb : n ≤ 4611686018427387904) : Own s σ p n c (L.take (n * s)) := by
 obtain ⟨h1, h2⟩ := h
 have hle : n * s ≤ c * s := Nat.mul_le_mul_right s hn
 refine ⟨by rw [List.length_take]; omega, hb, ?_⟩
 rcases h2 with ⟨rfl, rfl⟩ | ⟨b, o, arr, T, hp, hb, Ee, IP⟩
 · exact .inl ⟨rfl, by omega, rfl⟩
 · exact .inr ⟨b, o, arr, T, hp, hb, hn, Ee, by rw [← IP, List.take_take, Nat.min_eq_left hle]⟩
theorem MX {b o j : Nat} : (⟨b, o, none⟩ : Addr).add j = ⟨b, o + j, none⟩ := DC b o j
theorem Na.rd {s : Nat} {σ : Hp} {p : Option Addr} {i n c : Nat} {L : List Value} (h : Na s σ p c L) (hi : i + n ≤ c) (hb : n ≤ 4611686018427387904) : Gi s σ (GP p i c s) n ((L.drop (i * s)).take (n * s)) := by
 obtain ⟨h1, h2⟩ := h
 have hle : (i + n) * s ≤ c * s := Nat.mul_le_mul_right s hi
 rw [Nat.add_mul] at hle
 refine ⟨by rw [List.length_take, List.length_drop]; omega, hb, ?_⟩
 rcases h2 with ⟨rfl, rfl⟩ | ⟨b, o, arr, T, rfl, hb, Ee, IP⟩
 · exact .inl (by omega)
 · by_cases hn : n = 0
   · exact .inl hn
   · refine .inr ⟨b, o + i * s, ?_, EF.of fun j v hj => ?_⟩
     · simp only [GP]
       rw [if_neg (by omega)]
       simp [MX]
     · rw [List.getElem?_take] at hj
       split at hj
       · rename_i vv
         rw [List.getElem?_drop, ← IP, List.getElem?_take] at hj
         split at hj
         · rw [List.getElem?_drop] at hj
           simp only [Hp.ld, hb]
           rw [show o + i * s + j = o + (i * s + j) by omega]
           simpa using hj
         · cases hj
       · cases hj
def over (L : List Value) (j : Nat) (zs : List Value) : List Value := L.take j ++ zs ++ L.drop (j + zs.length)
theorem V1 (L : List Value) (j : Nat) : over L j [] = L := by simp [over]
theorem OI {L : List Value} {j : Nat} {zs : List Value} (h : j + zs.length ≤ L.length) : (over L j zs).length = L.length := by simp [over]; omega
theorem P5 {arr : Array Value} {o m j : Nat} {zs : List Value} (hj : j + zs.length ≤ m) (hm : o + m ≤ arr.size) :
   ((DX arr (o + j) zs).toList.drop o).take m = over ((arr.toList.drop o).take m) j zs := by
 refine List.ext_getElem? fun k => ?_
 rw [List.getElem?_take]
 unfold over
 by_cases hk : k < m
 · rw [if_pos hk, List.getElem?_drop, Array.getElem?_toList, Pe _ _ _ _ (by omega)]
   by_cases h1 : k < j
   · rw [if_neg (by omega), List.append_assoc, List.getElem?_append_left (by simp; omega), List.getElem?_take, if_pos h1, List.getElem?_take, if_pos hk, List.getElem?_drop, Array.getElem?_toList]
   · have hl : (List.take j ((arr.toList.drop o).take m)).length = j := by simp; omega
     rw [List.append_assoc, List.getElem?_append_right (by omega), hl]
     by_cases h2 : k < j + zs.length
     · rw [if_pos (by omega), List.getElem?_append_left (by omega), show o + k - (o + j) = k - j by omega]
     · rw [if_neg (by omega), List.getElem?_append_right (by omega), List.getElem?_drop, show j + zs.length + (k - j - zs.length) = k by omega, List.getElem?_take, if_pos hk, List.getElem?_drop, Array.getElem?_toList]
 · rw [if_neg hk, eq_comm, List.getElem?_eq_none]
   simp; omega
section
variable {P : Program} {T T2 E ty : TypeId} {s bs : Nat} {σ : Hp} {p q : Option Addr} {n c m d d' j k : Nat} {L cs ys : List Value} {Φ : Value → Hp → Prop}
theorem Fin.setRow {F : Nat → Prop} {w : World} {b : Nat} {arr eI : Array Value} {T' : TypeId} (hs : Sat σ w) (hF : ∀ b, F b → b < w.heap.size ∧ σ b = none) (hblk : σ b = some (.cells arr T' (0, 0))) :
   Fin (σ.set b (.cells eI T' (0, 0))) F w (w.setRow b eI) := by
 have hw := hs _ _ hblk
 refine ⟨fun k u hk => ?_, fun k hk => ?_, .same rfl rfl rfl, rfl, by simp⟩
 · by_cases DD : k = b
   · subst DD; rw [Hp.AA] at hk; cases hk; exact setRow_heap w k arr _ T' (0, 0) hw
   · rw [Hp.AF DD] at hk; rw [setRow_other _ _ _ _ DD]; exact hs k u hk
 · have DD : k ≠ b := fun h => by have := (hF k hk).2; rw [h, hblk] at this; cases this
   exact ⟨by rw [Hp.AF DD]; exact (hF k hk).2, setRow_other _ _ _ _ DD⟩
theorem Na.write (hC : Na s σ p c L) (hj : j * s + ys.length ≤ c * s) (h1 : CU ys) (w : World) (hs : Sat σ w) (F : Nat → Prop) (hF : ∀ b, F b → b < w.heap.size ∧ σ b = none) :
   ∃ w' σ', (match GP p j c s with | some a => (storeCells a ys : Sem Unit) | none => pure ()).run P w = .ok () w' ∧ Fin σ' F w w' ∧ Na s σ' p c (over L (j * s) ys) ∧ Ext (σ.del p) (σ'.del p) := by
 obtain ⟨hl, h2⟩ := hC
 rcases h2 with ⟨rfl, rfl⟩ | ⟨b, o, arr, T, rfl, hblk, Ee, IP⟩
 · have hy : ys = [] := List.eq_nil_of_length_eq_zero (by omega)
   subst hy
   refine ⟨w, σ, ?_, ⟨hs, fun b hb => ⟨(hF b hb).2, rfl⟩, .same rfl rfl rfl, rfl, Nat.le_refl _⟩, by rw [V1]; exact ⟨hl, .inl ⟨rfl, rfl⟩⟩, Ext.refl _⟩
   simp [GP]
 · by_cases hy : ys = []
   · subst hy
     refine ⟨w, σ, ?_, ⟨hs, fun b hb => ⟨(hF b hb).2, rfl⟩, .same rfl rfl rfl, rfl, Nat.le_refl _⟩, by rw [V1]; exact ⟨hl, .inr ⟨b, o, arr, T, rfl, hblk, Ee, IP⟩⟩, Ext.refl _⟩
     unfold GP
     split <;> rfl
   · have Ju : 0 < ys.length := List.length_pos_iff.2 hy
     have hjc : c ≠ j := fun e => by subst e; omega
     have hw := hs _ _ hblk
     have JC := Dn (P := P) b (o + j * s) T ys 0 arr w hw (by omega) h1
     simp only [Nat.add_zero] at JC
     refine ⟨w.setRow b (DX arr (o + j * s) ys), σ.set b (.cells (DX arr (o + j * s) ys) T (0, 0)), ?_, Fin.setRow hs hF hblk, ⟨by rw [OI (by omega)]; exact hl, .inr ⟨b, o, _, T, rfl, Hp.AA _ _ _, by rw [Dm]; exact Ee, ?_⟩⟩, by rw [Hp.Bl]; exact Ext.refl _⟩
     · simp only [GP, if_neg hjc, Option.map_some, MX]
       exact JC
     · rw [P5 hj Ee, IP]
theorem MY [h : J2 P T E s bs] (hC : Na s σ p c L) (hk : min m n = k) (nz : j + k ≤ c) (hy : Gi s σ q k ys) (h1 : CU ys)
   (hΦ : ∀ σ', Na s σ' p c (over L (j * s) ys) → Ext (σ.del p) (σ'.del p) → Φ (.int .i64 k) σ') :
   AJ P (Builtin.copy_ #[T, T2] ty #[.slice (GP p j c s) n d', .slice q m d]) σ Φ := by
 obtain ⟨ht, ⟨i, z, hi, hz, rfl, rfl, jS⟩, Ju, OH⟩ := h
 intro w F hs hF
 have hlen : ys.length = k * i.size := hy.1
 obtain ⟨w', σ', Cu, Jt, hC', hx⟩ := hC.write (P := P) (j := j) (ys := ys) (by rw [hlen, ← Nat.add_mul]; exact Nat.mul_le_mul_right _ nz) h1 w hs F hF
 have hf : (Builtin.firstCells i.size k (.slice q m d)).run P w = .ok ys.toArray w := by
   rcases hy.2.2 with hm | ⟨b, o, rfl, hl⟩
   · have : ys = [] := List.eq_nil_of_length_eq_zero (by rw [hlen, hm]; simp)
     rw [hm, this]
     cases q <;> simp [Builtin.firstCells, loadCells, loadCellsFrom]
   · exact run_firstCells_some (P := P) w i.size k ⟨b, o, none⟩ m d ys hy.1 (Su hs hl)
 refine ⟨_, w', σ', ?_, hΦ σ' hC' hx, Jt⟩
 have Dh : Nat.min m n = k := hk
 cases hsp : GP p j c i.size with
 | none =>
   rw [hsp] at Cu
   obtain rfl : w = w' := by simpa using Cu
   simp [Builtin.copy_, run_underlying ht, Go.sizeOf, typeInfo, hi, Builtin.lenOf, Dh, hf, goInt]
 | some a =>
   rw [hsp] at Cu
   simp only at Cu
   simp [Builtin.copy_, run_underlying ht, Go.sizeOf, typeInfo, hi, Builtin.lenOf, Dh, hf, Cu, goInt]
theorem eJ [h : J2 P T E s bs] (hC : Na s σ p c L) (vv : j + n ≤ c) (hz1 : ∀ z w, (zeroValue E).run P w = .ok z w → CU z.cells.toList)
   (hΦ : ∀ σ' zs, zs.length = n * s → Na s σ' p c (over L (j * s) zs) → Ext (σ.del p) (σ'.del p) → Φ (.tuple #[]) σ') :
   AJ P (Builtin.clear_ #[T] ty #[.slice (GP p j c s) n d']) σ Φ := by
 obtain ⟨ht, ⟨i, z, hi, hz, rfl, rfl, jS⟩, Ju, OH⟩ := h
 intro w F hs hF
 have hzr : (zeroValue E).run P w = .ok z w := by simp [zeroValue, typeInfo, hi, hz]
 have h1 : CU (Builtin.zeroCells z.cells n).toList := by
   intro u hu
   simp only [Builtin.zeroCells, Array.toList_map, List.mem_map] at hu
   obtain ⟨k, hk, rfl⟩ := hu
   have Dh : k < n * z.cells.size := by simpa using hk
   have hz0 : 0 < z.cells.size := by omega
   have Ag : k % z.cells.size < z.cells.size := Nat.mod_lt _ hz0
   rw [getElem!_pos z.cells _ Ag]
   exact hz1 z w hzr _ (by simp)
 have hlen : (Builtin.zeroCells z.cells n).toList.length = n * i.size := by simp [size_zeroCells, jS]
 obtain ⟨w', σ', Cu, Jt, hC', hx⟩ := hC.write (P := P) (j := j) (ys := (Builtin.zeroCells z.cells n).toList) (by rw [hlen, ← Nat.add_mul]; exact Nat.mul_le_mul_right _ vv) h1 w hs F hF
 refine ⟨_, w', σ', ?_, hΦ σ' _ hlen hC' hx, Jt⟩
 cases hsp : GP p j c i.size with
 | none =>
   rw [hsp] at Cu
   obtain rfl : w = w' := by simpa using Cu
   simp [Builtin.clear_, run_underlying ht]
 | some a =>
   rw [hsp] at Cu
   simp only at Cu
   cases n with
   | zero =>
     have : (Builtin.zeroCells z.cells 0).toList = [] := List.eq_nil_of_length_eq_zero (by simpa using hlen)
     rw [this] at Cu
     have US : Result.ok () w = (Result.ok () w' : Result Unit) := Cu
     cases US
     simp [Builtin.clear_, run_underlying ht]
   | succ n =>
     simp [Builtin.clear_, run_underlying ht, hzr, Cu]
theorem UT [h : J2 P T E s bs] {ik : IntKind} (hT2 : P.underlying T2 = some (.int ik)) (Aa : Own s σ p n c cs) (AOV : c < n + m) (hb : (n + m) * bs ≤ 140737488355328)
   (hΦ : ∀ p' c' L σ', Na s σ' p' c' L → n + m ≤ c' → L.take (n * s) = cs → Ext σ σ' → Ext σ (σ'.del p') → (∀ a, p' = some a → σ a.block = none) → Φ (.slice p' (n + m) c') σ') :
   AJ P (Builtin.append_ #[T, T2] ty #[.slice p n c, .int .i64 ((m : Nat) : Int)]) σ Φ := by
 obtain ⟨ht, ⟨i, z, hi, hz, rfl, rfl, jS⟩, Ju, OH⟩ := h
 have h62 : n + m ≤ 140737488355328 := Nat.le_trans (Nat.le_mul_of_pos_right _ OH) hb
 intro w F hs hF
 have EN := fun w' (hw : Sat σ w') => IQ (P := P) (d := c) w' hw Aa.rd
 have Db : ¬ n + m ≤ c := by omega
 have tI : Builtin.nextslicecap (n + m) c * i.bytes ≤ 281474976710656 := growslice_fits (by omega) hb
 have hgc := grownCap_ge w (n + m) c E
 have II : Sat σ w.drew := hs
 have hwr : IntKind.i64.wrap (m : Int) = m := by rw [IntKind.wrap_i64]; omega
 have hmb : m * i.bytes ≤ 281474976710656 := by
   have : m * i.bytes ≤ (n + m) * i.bytes := Nat.mul_le_mul_right _ (by omega)
   omega
 have ABC : ¬ (281474976710656 : Int) < (m : Int) * (i.bytes : Int) := by
   have : ((m * i.bytes : Nat) : Int) ≤ 281474976710656 := by omega
   rw [Int.natCast_mul] at this; omega
 have Cu : ∃ mid : Array Value, mid.size = m * i.size ∧ (Builtin.append_ #[T, T2] ty #[.slice p n c, .int .i64 ((m : Nat) : Int)]).run P w =
     .ok (.slice (some ⟨w.heap.size, 0, none⟩) (n + m) (grownCap w (n + m) c E))
       (w.drew.alloc (.cells (cs.toArray ++ mid ++ Builtin.zeroCells z.cells (grownCap w (n + m) c E - (n + m))) E)) := by
   have eG : ¬ (9223372036854775807 < ((n : Int) + (m : Int))) := by omega
   have ABD : ¬ ((m : Int) < 0) := by omega
   have eH : ¬ (281474976710656 < Builtin.nextslicecap (n + m) c * i.bytes) := by omega
   by_cases h0 : m * i.size = 0
   · refine ⟨#[], by simp [h0], ?_⟩
     simp [Builtin.append_, run_underlying ht, run_underlying hT2, Go.sizeOf, typeInfo, zeroValue, hi, hz, asInt, asIntOf, hwr, ABD, Db, ABC, eG, eH, Question.forced, EN _ II, newRow, grownCap, h0]
   · refine ⟨Builtin.zeroCells z.cells m, by simp [size_zeroCells, jS], ?_⟩
     simp [Builtin.append_, run_underlying ht, run_underlying hT2, Go.sizeOf, typeInfo, zeroValue, hi, hz, asInt, asIntOf, hwr, ABD, Db, ABC, eG, eH, Question.forced, EN _ II, newRow, grownCap, h0]
 obtain ⟨mid, wG, Cu⟩ := Cu
 refine ⟨_, _, σ.set w.heap.size _, Cu, hΦ _ _ _ _ ⟨?_, .inr ⟨w.heap.size, 0, _, E, rfl, Hp.AA _ _ _, ?_, rfl⟩⟩ hgc ?_ (Ext.set (DM hs)) (by rw [Hp.JD (DM hs)]; exact Ext.refl _) (fun a ha => by cases ha; exact DM hs), Fin.alloc hs hF _ rfl ⟨rfl, rfl, fun _ => ⟨1, rfl⟩⟩ rfl⟩
 · rw [List.length_take, List.drop_zero, Array.length_toList]
   simp only [Array.size_append, List.size_toArray, size_zeroCells, jS, Aa.1, wG, ← Nat.add_mul]
   have : n + m + (grownCap w (n + m) c E - (n + m)) = grownCap w (n + m) c E := by omega
   rw [this]; omega
 · simp only [Array.size_append, List.size_toArray, size_zeroCells, jS, Aa.1, wG, ← Nat.add_mul]
   have : n + m + (grownCap w (n + m) c E - (n + m)) = grownCap w (n + m) c E := by omega
   rw [this]; omega
 · have hle : n * i.size ≤ grownCap w (n + m) c E * i.size := Nat.mul_le_mul_right _ (by omega)
   rw [List.take_take, Nat.min_eq_left hle, List.drop_zero]
   simp only [Array.toList_append, List.append_assoc]
   rw [← Aa.1]
   exact List.take_left
theorem AS.ZJ {ik : IntKind} {xs : List Int} {i : Nat} {v : Int} {Ψ : Hp → Prop} (ho : AS ik σ p n c xs) (hi : i < n) (hz : ∀ w, (Go.sizeOf T).run P w = .ok 1 w)
   (h : ∀ σ', AS ik σ' p n c (xs.set i v) → Ext (σ.del p) (σ'.del p) → Ψ σ') :
   ∃ b o, p = some ⟨b, o, none⟩ ∧ AJ P (Instr.storeAt T (.pointer (some ⟨b, o + i * 1, none⟩)) (.int ik v)) σ (fun _ => Ψ) := by
 obtain ⟨h1, h0, h2⟩ := ho
 rcases h2 with ⟨_, hn, _⟩ | ⟨b, o, arr, T', rfl, hblk, iR, Ee, IP⟩
 · omega
 · refine ⟨b, o, rfl, AJ.store hz hblk rfl (by omega) (by simp [Value.cells, Value.oneCell']) (h _ ⟨by simpa using h1, h0, .inr ⟨b, o, _, T', rfl, Hp.AA _ _ _, iR, by rw [Dm]; exact Ee, ?_⟩⟩ (by rw [Hp.Bl]; exact Ext.refl _))⟩
   show ((DX arr (o + i * 1) [.int ik v]).toList.drop o).take (n * 1) = _
   rw [Nat.mul_one, Nat.mul_one, P5 (by simp; omega) (by omega)]
   rw [Nat.mul_one] at IP
   rw [IP]
   unfold over
   rw [List.map_set]
   rw [List.set_eq_take_append_cons_drop, if_pos (by simp at h1 ⊢; omega)]
   simp
theorem V2 {f : FuncId} {fn : Func} {tR : TypeId} [h : J2 P T E s bs] (hf : P.funcs[f]? = some fn) (Ad : ∀ w, (callFunc f #[.slice p n c, .slice q m d]).run P w = ((Extern.SlicesOverlaps.overlaps #[T, T] #[tR] #[.slice p n c, .slice q m d]).run P w).andThen (fun v w => .ok (.value v) w))
   {b o b' o' : Nat} {arr eI : Array Value} {T1 T3 : TypeId} (hp : p = some ⟨b, o, none⟩) (hq : q = some ⟨b', o', none⟩) (hb : σ b = some (.cells arr T1 (0, 0))) (Js : σ b' = some (.cells eI T3 (0, 0))) (hbb : b ≠ b') (ha : eI.size ≠ 0) :
   YN P f #[.slice p n c, .slice q m d] σ (.bool false) := by
 obtain ⟨ht, ⟨i, z, hi, hz, rfl, rfl, jS⟩, Ju, OH⟩ := h
 subst hp hq
 intro w hs
 have h1 := hs _ _ hb
 have h2 := hs _ _ Js
 rw [Ad, Lib.run_overlaps_apart w T tR E ht i.size (fun w => by simp [Go.sizeOf, typeInfo, hi]) ⟨b, o, none⟩ ⟨b', o', none⟩ n c m d hbb T1 T3 arr.size eI.size ?_ ?_ ha ?_ ?_]
 · rfl
 · simp [World.shape?, h1]
 · simp [World.shape?, h2]
 · simp [World.frozen?, h1]
 · simp [World.frozen?, h1]
end
end Tw
end
section
namespace Tw
open Go
variable [I7]
theorem Hp.set_set {σ : Hp} {b : Nat} {o o' : Obj} : (σ.set b o).set b o' = σ.set b o' := by
 funext k; simp only [Hp.set]; split <;> rfl
theorem Sv {τ : Hp} {b : Nat} {o : Obj} (hb : τ b = none) {w : World} {F : Nat → Prop} (hs : Sat (τ.set b o) w) (hF : ∀ k, F k → k < w.heap.size ∧ (τ.set b o) k = none) :
   Sat τ w ∧ ∀ k, (F k ∨ k = b) → k < w.heap.size ∧ τ k = none := by
 have hx : Ext τ (τ.set b o) := .set hb
 refine ⟨fun k u hk => hs k u (hx k u hk), fun k hk => ?_⟩
 rcases hk with hk | rfl
 · exact ⟨(hF k hk).1, A4 hx (hF k hk).2⟩
 · exact ⟨(Array.getElem?_eq_some_iff.1 (hs k o (Hp.AA _ _ _))).1, hb⟩
theorem Spec.BW {P : Program} {f : FuncId} {args : Array Value} {τ : Hp} {b : Nat} {o : Obj} {R : Rr} (hb : τ b = none)
   (h : Spec P f args τ (fun e τ' => τ' b = none → R e (τ'.set b o))) : Spec P f args (τ.set b o) R := fun w F hs hF => by
 obtain ⟨h1, h2⟩ := Sv hb hs hF
 refine (h w (fun k => F k ∨ k = b) h1 h2).mono ?_
 rintro e w' ⟨τ', hr, hf⟩
 have wF := hf.C7 b (.inr rfl)
 refine ⟨τ'.set b o, hr wF.1, fun k u hk => ?_, fun k hk => ?_, hf.os, hf.out, hf.grow⟩
 · by_cases h : k = b
   · subst h
     rw [wF.2]; rw [Hp.AA] at hk; cases hk
     exact hs k _ (Hp.AA _ _ _)
   · rw [Hp.AF h] at hk; exact hf.sat k u hk
 · have DD : k ≠ b := fun h => by have := (hF k hk).2; rw [h, Hp.AA] at this; cases this
   exact ⟨by rw [Hp.AF DD]; exact (hf.C7 k (.inl hk)).1, (hf.C7 k (.inl hk)).2⟩
theorem AJ.BW {P : Program} {α : Type} {m : Sem α} {τ : Hp} {b : Nat} {o : Obj} {Φ : α → Hp → Prop} (hb : τ b = none)
   (h : AJ P m τ (fun v τ' => τ' b = none → Φ v (τ'.set b o))) : AJ P m (τ.set b o) Φ := fun w F hs hF => by
 obtain ⟨h1, h2⟩ := Sv hb hs hF
 obtain ⟨v, w', τ', Cu, hr, hf⟩ := h w (fun k => F k ∨ k = b) h1 h2
 have wF := hf.C7 b (.inr rfl)
 refine ⟨v, w', τ'.set b o, Cu, hr wF.1, fun k u hk => ?_, fun k hk => ?_, hf.os, hf.out, hf.grow⟩
 · by_cases h : k = b
   · subst h
     rw [wF.2]; rw [Hp.AA] at hk; cases hk
     exact hs k _ (Hp.AA _ _ _)
   · rw [Hp.AF h] at hk; exact hf.sat k u hk
 · have DD : k ≠ b := fun h => by have := (hF k hk).2; rw [h, Hp.AA] at this; cases this
   exact ⟨by rw [Hp.AF DD]; exact (hf.C7 k (.inl hk)).1, (hf.C7 k (.inl hk)).2⟩
section rows
variable {α : Type} {s : Nat} {E : Hp → List Value → α → Prop} {σ : Hp} {cs ds : List Value} {xs ys : List α}
theorem Ch.take (h : Ch s E σ cs xs) (i : Nat) : Ch s E σ (cs.take (i * s)) (xs.take i) := by
 refine ⟨?_, fun k x hx => ?_⟩
 · rw [List.length_take, List.length_take, h.1, Nat.min_def, Nat.min_def]
   by_cases hi : i ≤ xs.length
   · rw [if_pos hi, if_pos (Nat.mul_le_mul_right s hi)]
   · rw [if_neg hi]
     split
     · exact Nat.le_antisymm (by assumption) (Nat.mul_le_mul_right s (by omega))
     · rfl
 · rw [List.getElem?_take] at hx
   split at hx
   · rename_i hk
     have hle : k * s + s ≤ i * s := by rw [← Nat.succ_mul]; exact Nat.mul_le_mul_right s hk
     rw [List.drop_take, List.take_take, Nat.min_eq_left (by omega)]
     exact h.2 k x hx
   · cases hx
theorem Ch.drop (h : Ch s E σ cs xs) (i : Nat) : Ch s E σ (cs.drop (i * s)) (xs.drop i) := by
 refine ⟨by rw [List.length_drop, List.length_drop, h.1, Nat.sub_mul], fun k x hx => ?_⟩
 rw [List.getElem?_drop] at hx
 rw [List.drop_drop, ← Nat.add_mul]
 exact h.2 _ x hx
theorem Ch.append (h : Ch s E σ cs xs) (g : Ch s E σ ds ys) : Ch s E σ (cs ++ ds) (xs ++ ys) := by
 refine ⟨by rw [List.length_append, List.length_append, h.1, g.1, Nat.add_mul], fun k x hx => ?_⟩
 rw [List.getElem?_append] at hx
 split at hx
 · rename_i hk
   have hle : k * s + s ≤ cs.length := by rw [h.1, ← Nat.succ_mul]; exact Nat.mul_le_mul_right s hk
   rw [List.drop_append_of_le_length (by omega), List.take_append_of_le_length (by simp; omega)]
   exact h.2 k x hx
 · rename_i hk
   have hle : cs.length ≤ k * s := by rw [h.1]; exact Nat.mul_le_mul_right s (by omega)
   have := g.2 (k - xs.length) x hx
   rw [Nat.sub_mul, ← h.1] at this
   rw [List.drop_append]
   have e : List.drop (k * s) cs = [] := List.drop_eq_nil_of_le hle
   rw [e, List.nil_append]
   exact this
theorem Ch.one {vs : List Value} {x : α} (hl : vs.length = s) (hx : E σ vs x) : Ch s E σ vs [x] := by
 refine ⟨by simp [hl], fun k y hy => ?_⟩
 have hk : k = 0 := by
   have := (List.getElem?_eq_some_iff.1 hy).1
   simp at this; exact this
 subst hk
 simp at hy
 subst hy
 simp [← hl, hx]
theorem Ch.pC (hE : ∀ σ vs x, E σ vs x → CU vs) (h : Ch s E σ cs xs) (hs : 0 < s) : CU cs := fun u hu => by
 obtain ⟨t, ht, rfl⟩ := List.mem_iff_getElem.1 hu
 have Ag : t / s < xs.length := by rw [Nat.div_lt_iff_lt_mul hs, ← h.1]; exact ht
 have := h.2 (t / s) _ (List.getElem?_eq_getElem Ag)
 refine hE _ _ _ this _ ?_
 have hm := Nat.mod_lt t hs
 have hdm := Nat.div_add_mod t s
 rw [Nat.mul_comm] at hdm
 refine List.mem_iff_getElem?.2 ⟨t % s, ?_⟩
 rw [List.getElem?_take, if_pos hm, List.getElem?_drop, hdm]
 exact List.getElem?_eq_getElem ht
end rows
section
variable {P : Program} {T E ty : TypeId} {s bs : Nat} {σ : Hp} {p q : Option Addr} {n c m d : Nat} {L ys : List Value} {Φ : Value → Hp → Prop}
end
end Tw
end
section
namespace Tw
open Go
variable [I7]
def J9 (P : Program) (l : Nat) (args : Array Value) (σ : Hp) (R : Rr) : Prop :=
 ∀ (w : World) (F : Nat → Prop), Sat σ w → (∀ b, F b → b < w.heap.size ∧ σ b = none) →
   ∃ fn tmps assign body, (Instr.yield l args).run P w = .ok (.round l fn tmps assign body) w ∧ RoundIn Fence.wide 0 P l fn tmps assign body w (fun e w' => ∃ σ', R e σ' ∧ Fin σ' F w w')
theorem J9.mono {P : Program} {l : Nat} {args : Array Value} {σ : Hp} {R R' : Rr} (h : J9 P l args σ R) (hr : ∀ e σ', R e σ' → R' e σ') : J9 P l args σ R' := fun w F hs hF =>
 let ⟨fn, tmps, assign, body, h1, h2⟩ := h w F hs hF
 ⟨fn, tmps, assign, body, h1, h2.mono fun _ _ ⟨σ', h3, h4⟩ => ⟨σ', hr _ _ h3, h4⟩⟩
section
variable {g : Gl} {ops : Array Oper} {i : Nat} {e : Env} {bx : Bx} {σ : Hp} {K : Env → Bx → Hp → Prop} {d : Option Nat} {ty : TypeId} {gd : Option (Nat × Bool)}
theorem AY.yield {x : Operand} {xs : Array Operand} {ts : Array TypeId} {l : Nat} {vs : Array Value} {u : Value} (hs : sig ops i = some (d, .call { callee := .value x, args := xs, argTypes := ts }, ty, gd)) (hw : Ab ops e gd = true) (hd : IG d g.n = true)
   (hx : AE e x = u) (JY : xs.toList.map (AE e) = vs.toList) (hu : u = .func (.yield l) #[] #[])
   (h : J9 g.P l vs σ (AB g.R fun v σ' => K (put e d v) bx σ')) : AY g ops i e bx σ K := by
 intro w0 F a w st
 obtain ⟨o, ho, rfl, B1, Dl, rfl⟩ := Ct hs
 refine DK ho (by rw [st.wanted]; exact hw) ?_
 obtain ⟨fn, tmps, assign, body, hy, UU⟩ := h w _ st.sat st.lt
 have wH : xs.map (AE e) = vs := by rw [← Array.toList_inj]; simpa using JY
 have Cu : (execOp (AE e) o).run g.P w = .ok (.round l fn tmps assign body) w := by
   simp only [execOp, B1, resolve, hx.trans hu, wH, Deferred.ofValue, invoke, bind, Sem.bind, pure, Array.empty_append]
   exact hy
 rw [st.eval, EM Cu (fun d => by simp)]
 refine ⟨fun hh => (by cases hh), RoundIn.mono (show RoundIn (wd g.Gz) (0 - 1) g.P l fn tmps assign body w _ from ⟨trivial, UU.2⟩) fun en w' => ?_⟩
 rintro ⟨σ', hr, hf⟩
 have MQ := st.fin hf
 cases en with
 | returned v => exact ⟨_, _, _, MQ.put _ _ (IG.lt hd), hr⟩
 | panicked ch =>
   rcases g.bX with ⟨h1, h2⟩ | Be
   · exact ⟨⟨h1, MQ.defers.trans h2⟩, σ', hr, MQ.toFin⟩
   · exact absurd hr (Be ch σ')
 | outgrown => exact hr.elim
end
def NP (R : Rr) : Rr := fun e σ => match e with | .returned v => R (.returned v) σ | _ => False
abbrev Gl.round (P : Program) (f : FuncId) (n : Nat) (l : Nat) (R : Rr) : Gl := ⟨P, f, n, NP R, some l, [], .inr fun _ _ h => h⟩
abbrev Gl.behind (P : Program) (f : FuncId) (n : Nat) (D : Nat) (R : Rr) : Gl := ⟨P, f, n, NP R, none, [{ target := .collected D, args := #[] }], .inr fun _ _ h => h⟩
theorem jT {D : Nat} {σ : Hp} (h : σ D = some (.deferred (some []))) : Marks [{ target := .collected D, args := #[] }] σ := ⟨D, rfl, h, trivial⟩
theorem J9.Vv {P : Program} {l n p : Nat} {r : Loop} {σ : Hp} {R : Rr} {v : Value} {fn : Func} {e : Env} {s : LoopState} {c : Option Code} (hσ : σ l = some (.loop (lp r s c))) (hp : r.params = #[p]) (hn : r.tmps.size = n) (pB : p < n) (he : ∀ t, r.tmps.getD t undef = e t) (NL : P.funcs[r.fn]? = some fn)
   (h : At (Gl.round P r.fn n l R) [.code r.assign, .beginRound, .code r.body] (tD e p v) [] σ) : J9 P l #[v] σ R := by
 intro w F hs hF
 refine ⟨r.fn, _, r.assign, r.body, run_yield (r := lp r s c) (hs _ _ hσ) (by simp [lp, hp]), trivial, fun c0 cs _ => ?_⟩
 have ht : (r.params.zip #[v]).foldl (fun t (p, v) => t.setIfInBounds p v) r.tmps = r.tmps.setIfInBounds p v := by
   simp [hp]
 have st : St n [] w F (tD e p v) [] σ { tmps := r.tmps.setIfInBounds p v, defers := [] } w := by
   refine ⟨by simp [hn], fun t => ?_, rfl, hs, (fun p hp => by cases hp), (fun p hp => by cases hp), List.nodup_nil, fun b hb => ⟨(hF b hb).1, (hF b hb).2, rfl⟩, .same rfl rfl rfl, rfl, Nat.le_refl _⟩
   simp only [tD]
   by_cases htp : t = p
   · subst htp
     simp [hn, pB]
   · rw [ZA htp, ← he t]
     simp [Array.getElem?_setIfInBounds_ne (Ne.symm htp)]
 let b : Frame := { (default : Frame) with fn := r.fn, kind := .normal, roundOf := some l }
 have hb0 : Frame.round l r.fn (r.tmps.setIfInBounds p v) r.assign r.body .normal = b.atR { tmps := r.tmps.setIfInBounds p v, defers := [] } [.code r.assign, .beginRound, .code r.body] := by
   simp [Frame.round, Frame.atR, b]
 obtain ⟨v', w', ⟨σ', hr, Jt⟩, JC⟩ := h w F _ w st b (c0 :: cs) rfl rfl rfl ⟨fn, NL⟩ c0 cs rfl
 refine ⟨.returned v', w', ⟨σ', hr, Jt⟩, ?_⟩
 have JC := (stepsIn_wide (P := P)).2 JC
 rw [← hb0, ← ht] at JC
 exact JC
section
variable {g : Gl} {k : List Item} {e : Env} {bx : Bx} {σ : Hp}
theorem Hp.BD {σ : Hp} {b c : Nat} {o : Obj} (h : c ≠ b) (hs : σ c = none) : (σ.set b o) c = none := by rw [Hp.AF h]; exact hs
theorem St.alloc {n ds w0 F e bx σ a w} (st : St n ds w0 F e bx σ a w) (o : Obj) : σ w.heap.size = none ∧ St n ds w0 F e bx (σ.set w.heap.size o) a (w.alloc o) := by
 have h := st.grown o
 exact ⟨(h.free _ (List.mem_cons_self ..)).1, h.open⟩
theorem At.range {c : Code} {gop : Operand} {ps : Array Tmp} {assign body : Code} {gf : Nat} {lb : Array Value} (hc : c = .rangeFunc gop ps assign body) (hr : g.Gz = none) (OJ : g.ds = [])
   (hg : AE e gop = .func (.func gf) #[] lb) (J8 : Enters g.P gf)
   (h : ∀ (D l : Nat) (r : Loop), D ≠ l → σ D = none → σ l = none → r.fn = g.f → r.params = ps → r.assign = assign → r.body = body → r.tmps.size = g.n → (∀ t, r.tmps.getD t undef = e t) →
     Spec g.P gf (#[.func (.yield l) #[] #[]] ++ lb) ((σ.set D (.deferred (some []))).set l (.loop (lp r .ready none)))
       (fun en σ' => ∃ v s p, en = .returned v ∧ σ' l = some (.loop (lp r s p)) ∧ s ≠ .busy ∧
         At (Gl.behind g.P g.f g.n D g.R) ((p.map Item.code).toList ++ k) e bx (σ'.set l (.loop (lp r .exhausted p))))) : At g (.code c :: k) e bx σ := by
 subst hc
 intro w0 F a w st b cs ny jG bY NL
 have hbn : b.roundOf = none := bY.trans hr
 obtain ⟨hD, st1⟩ := st.alloc (.deferred (some []))
 let r : Loop := { state := .ready, pending := none, fn := b.fn, tmps := a.tmps, params := ps, assign, body, defers := w.heap.size }
 obtain ⟨hl, st2⟩ := st1.alloc (.loop r)
 have Ee : (w.alloc (.deferred (some []))).heap.size = w.heap.size + 1 := World.size_alloc ..
 rw [Ee] at hl st2
 have ZB := run_enterLoop_outer (P := g.P) (w := w) b.fn a.tmps ps assign body
 have AJH : (resolve a.eval (rangeCall gop (w.heap.size + 1)) 0).run g.P ((w.alloc (.deferred (some []))).alloc (.loop r)) = .ok { target := .fn (.func gf) lb, args := #[.func (.yield (w.heap.size + 1)) #[] #[]] } ((w.alloc (.deferred (some []))).alloc (.loop r)) := by
   rw [st.eval]
   simp only [resolve, hg]
   simp [AE, Deferred.ofValue]
 have hinv : (invoke (.fn (.func gf) lb) #[.func (.yield (w.heap.size + 1)) #[] #[]]).run g.P ((w.alloc (.deferred (some []))).alloc (.loop r)) = .ok (.enter gf (#[.func (.yield (w.heap.size + 1)) #[] #[]] ++ lb)) ((w.alloc (.deferred (some []))).alloc (.loop r)) := by
   exact J8 _ _
 have OK := stepR_rangeFunc (P := g.P) (b := b) (a := a) (k := k) (cs := cs) (w := w) (by rw [hbn]; exact ZB) AJH hinv
 have wJ : σ (w.heap.size + 1) = none := by rw [Hp.AF (by omega)] at hl; exact hl
 have ABF := h w.heap.size (w.heap.size + 1) r (by omega) hD wJ ny rfl rfl rfl st.size st.env
 obtain ⟨en, w3, fr, ⟨σ', ⟨v, s, p, he, SF, hsb, eK⟩, Jt⟩, wK, AQd, wM⟩ := ABF _ _ st2.sat st2.lt (b.atR { a with defers := [{ target := .collected w.heap.size, args := #[] }] ++ a.defers } (.inRangeFunc (w.heap.size + 1) :: k) :: cs)
 subst he
 have tJ := st2.fin Jt
 have eL := run_endLoop (P := g.P) (tJ.sat _ _ SF) (by simpa [lp] using hsb)
 have hf4 := tJ.toFin.put (o' := .loop (lp r .exhausted p)) SF
 have Ad : ∀ q ∈ bx, q.1 ≠ w.heap.size + 1 := fun q hq e => by have := (tJ.free q hq).1; rw [e, SF] at this; cases this
 have st4 : St g.n [{ target := .collected w.heap.size, args := #[] }] w0 F e bx (σ'.set (w.heap.size + 1) (.loop (lp r .exhausted p))) { a with defers := [{ target := .collected w.heap.size, args := #[] }] ++ a.defers } (w3.putObj (w.heap.size + 1) (.loop (lp r .exhausted p))) :=
   { size := st.size, env := st.env, defers := by rw [show a.defers = [] from st.defers.trans OJ]; rfl, sat := hf4.sat, box := fun q hq => by rw [World.putObj_heap_other (Ad q hq)]; exact tJ.box q hq,
     free := fun q hq => ⟨Hp.BD (Ad q hq) (tJ.free q hq).1, (tJ.free q hq).2⟩, nodup := st.nodup, C7 := fun b hb => ⟨(st.C7 b hb).1, (hf4.C7 b hb).1, (hf4.C7 b hb).2⟩, os := hf4.os, out := hf4.out, grow := hf4.grow }
 have wN := eK w0 F _ _ st4 b cs ny jG hbn NL
 have bh := step_leave_returned (P := g.P) (c := b.atR { a with defers := [{ target := .collected w.heap.size, args := #[] }] ++ a.defers } (.inRangeFunc (w.heap.size + 1) :: k)) (cs := cs) wM
 rw [finish_atR_inRangeFunc] at bh
 have wO := (Steps.one OK).trans (Steps.trans wK ((Steps.one bh).trans (.one (stepR_endRangeFunc (k := k) eL))))
 obtain ⟨e', w', fr', ⟨σ2, hR, pD⟩, UW, hx⟩ := wN
 unfold LX
 rw [hr]
 refine ⟨e', w', fr', ⟨σ2, ?_, pD⟩, .of_steps wO UW, hx⟩
 cases e' with
 | returned v => exact hR
 | _ => exact hR.elim
end
end Tw
end
section
namespace Tw
open Go
variable [I7]
def qv (P : Program) (ops : Array Oper) (i : Nat) (e : Env) : Option (Option Nat × Value) :=
 match ops[i]? with
 | none => none
 | some o => match Ab ops e o.guard with
   | false => none
   | true => match o.op with
     | .move x => some (o.dst, AE e x)
     | .assign x => some (o.dst, AE e x)
     | .pick z x y => (match AE e z with
       | .bool true => some (o.dst, AE e x)
       | .bool false => some (o.dst, AE e y)
       | _ => none)
     | .extract x j => (match AE e x with
       | .tuple vs => (match vs[j]? with | some v => some (o.dst, v) | none => none)
       | _ => none)
     | .unOp u _ x => (match u, AE e x with
       | .not, .bool b => some (o.dst, .bool (!b))
       | _, _ => none)
     | .binOp b _ x y _ => (match AE e x, AE e y with
       | .int k a, .int k' c => (match decide (k = k') with
         | false => none
         | true => (match b with
           | .lss => some (o.dst, .bool (decide (a < c)))
           | .leq => some (o.dst, .bool (decide (a ≤ c)))
           | .gtr => some (o.dst, .bool (decide (c < a)))
           | .geq => some (o.dst, .bool (decide (c ≤ a)))
           | .eql => some (o.dst, .bool (decide (a = c)))
           | .neq => some (o.dst, .bool (decide (a ≠ c)))
           | _ => none))
       | _, _ => none)
     | _ => none
theorem tK {P : Program} {ops : Array Oper} {i : Nat} {e : Env} {bx : Bx} {d : Option Nat} {v : Value} (h : qv P ops i e = some (d, v)) :
   ∃ o, ops[i]? = some o ∧ Ab ops e o.guard = true ∧ o.dst = d ∧ ∀ σ, Yd P e bx σ o.op o.type v := by
 unfold qv at h
 cases ho : ops[i]? with
 | none => simp [ho] at h
 | some o =>
   simp only [ho] at h
   cases hw : Ab ops e o.guard with
   | false => simp [hw] at h
   | true =>
     simp only [hw] at h
     refine ⟨o, rfl, hw, ?_⟩
     cases Ss : o.op <;> simp only [Ss] at h <;> try (cases h; done)
     case move x => cases h; exact ⟨rfl, fun σ => Y.move rfl⟩
     case assign x => cases h; exact ⟨rfl, fun σ => Y.assign rfl⟩
     case pick z x y =>
       split at h
       · rename_i hz; cases h; exact ⟨rfl, fun σ => Y.tG hz rfl⟩
       · rename_i hz; cases h; exact ⟨rfl, fun σ => Y.tH hz rfl⟩
       · cases h
     case extract x j =>
       split at h
       · rename_i vs hx
         split at h
         · rename_i u hu; cases h; exact ⟨rfl, fun σ => Y.extract hx hu⟩
         · cases h
       · cases h
     case unOp u T x =>
       split at h
       · rename_i b hx; cases h; exact ⟨rfl, fun σ => Y.not hx⟩
       · cases h
     case binOp b T x y T' =>
       split at h
       · rename_i k a k' c hx hy
         split at h
         · cases h
         · rename_i hk
           have hk := of_decide_eq_true hk
           subst hk
           cases b <;> simp only at h <;> cases h
           · exact ⟨rfl, fun σ => Y.eql hx hy⟩
           · exact ⟨rfl, fun σ => Y.neq hx hy⟩
           · exact ⟨rfl, fun σ => Y.lss hx hy⟩
           · exact ⟨rfl, fun σ => Y.leq hx hy⟩
           · exact ⟨rfl, fun σ => Y.gtr hx hy⟩
           · exact ⟨rfl, fun σ => Y.geq hx hy⟩
       · cases h
def nv (ops : Array Oper) (i : Nat) (e : Env) : Option (Option Nat) :=
 match ops[i]? with
 | none => none
 | some o => match Ab ops e o.guard with
   | true => none
   | false => some o.dst
theorem AJJ {ops : Array Oper} {i : Nat} {e : Env} {d : Option Nat} (h : nv ops i e = some d) : ∃ o, ops[i]? = some o ∧ Ab ops e o.guard = false ∧ o.dst = d := by
 unfold nv at h
 cases ho : ops[i]? with
 | none => simp [ho] at h
 | some o =>
   simp only [ho] at h
   cases hw : Ab ops e o.guard with
   | true => simp [hw] at h
   | false => simp only [hw] at h; cases h; exact ⟨o, rfl, hw, rfl⟩
theorem EI {ops : Array Oper} {i : Nat} {o : Oper} (h : ops[i]? = some o) : sig ops i = some (o.dst, o.op, o.type, o.guard) := by simp [sig, h]
section
variable {g : Gl} {ops : Array Oper} {q : I8} {i : Nat} {is : List Nat} {r : List (Nat × Bool)} {e : Env} {bx : Bx} {σ : Hp} {K : Env → Bx → Hp → Prop} {k : List Item} {c : Code}
theorem Seq.u (d : Nat) (v : Value) (h : Seq g ops is (put e (some d) v) bx σ K) (hq : qv g.P ops i e = some (some d, v) := by kernel_rfl) (hd : Nat.blt d g.n = true := by rfl) : Seq g ops (i :: is) e bx σ K := by
 obtain ⟨o, ho, hw, NY, hy⟩ := tK (bx := bx) hq
 have hs := EI ho
 rw [NY] at hs
 exact Seq.yg hs hw hd (hy σ) h
def ABG (e : Env) : List (Nat × Value) → Env
 | [] => e
 | (d, v) :: l => ABG (put e (some d) v) l
def Qs (P : Program) (ops : Array Oper) : List Nat → List (Nat × Value) → Env → List (Option (Option Nat × Value))
 | _, [], _ => []
 | i :: is, (d, v) :: l, e => qv P ops i e :: Qs P ops is l (put e (some d) v)
 | [], _ :: _, _ => [none]
theorem Seq.us (l : List (Nat × Value)) (h : Seq g ops (is.drop l.length) (ABG e l) bx σ K) (hq : Qs g.P ops is l e = l.map (fun p => some (some p.1, p.2)) := by kernel_rfl) (hd : (l.all fun p => Nat.blt p.1 g.n) = true := by rfl) : Seq g ops is e bx σ K := by
 induction l generalizing is e with
 | nil => exact h
 | cons p l ih =>
   obtain ⟨d, v⟩ := p
   cases is with
   | nil => simp [Qs] at hq
   | cons i is =>
     simp only [Qs, List.map_cons, List.cons.injEq] at hq
     simp only [List.all_cons, Bool.and_eq_true] at hd
     exact Seq.u d v (ih h hq.2 hd.2) hq.1 hd.1
theorem Head.u (d : Nat) (v : Value) (h : Head g ops q r (put e (some d) v) bx σ K) (hq : qv g.P ops i e = some (some d, v) := by kernel_rfl) (hd : Nat.blt d g.n = true := by rfl) (Au : q.ok i = true := by rfl) : Head g ops q ((i, true) :: r) e bx σ K := by
 obtain ⟨o, ho, hw, NY, hy⟩ := tK (bx := bx) hq
 have hs := EI ho
 rw [NY] at hs
 exact Head.yg hs hw hd (hy _) h Au
theorem Seq.n (d : Nat) (h : Seq g ops is (put e (some d) undef) bx σ K) (hn : nv ops i e = some (some d) := by kernel_rfl) (hd : Nat.blt d g.n = true := by rfl) : Seq g ops (i :: is) e bx σ K := by
 obtain ⟨o, ho, hw, NY⟩ := AJJ hn
 have hs := EI ho
 rw [NY] at hs
 exact Seq.no hs hw hd h
theorem Seq.z (d : Nat) (op : Op) (ty : TypeId) (v : Value) (hy : Yd g.P e bx σ op ty v) (h : Seq g ops is (put e (some d) v) bx σ K) (hs : sig ops i = some (some d, op, ty, none) := by kernel_rfl) (hd : Nat.blt d g.n = true := by rfl) : Seq g ops (i :: is) e bx σ K := Seq.y hs hd hy h
theorem Seq.zg (d : Nat) (op : Op) (ty : TypeId) (gd : Nat × Bool) (v : Value) (hy : Yd g.P e bx σ op ty v) (h : Seq g ops is (put e (some d) v) bx σ K) (hs : sig ops i = some (some d, op, ty, some gd) := by kernel_rfl) (hw : Ab ops e (some gd) = true := by rfl) (hd : Nat.blt d g.n = true := by rfl) : Seq g ops (i :: is) e bx σ K := Seq.yg hs hw hd hy h
theorem Head.z (d : Nat) (op : Op) (ty : TypeId) (v : Value) (hy : Yd g.P e bx (SC q none σ) op ty v) (h : Head g ops q r (put e (some d) v) bx σ K) (hs : sig ops i = some (some d, op, ty, none) := by kernel_rfl) (hd : Nat.blt d g.n = true := by rfl) (Au : q.ok i = true := by rfl) : Head g ops q ((i, true) :: r) e bx σ K := Head.y hs hd hy h Au
theorem UX : ∀ {l : List (Nat × Value)}, l.map (fun p => e p.1) = l.map (·.2) → Live e l
 | [], _ => trivial
 | (t, v) :: l, h => by
   simp only [List.map_cons, List.cons.injEq] at h
   exact ⟨h.1, UX h.2⟩
theorem At.L (l : List (Nat × Value)) (h : ∀ J, At g k (LD J l) bx σ) (hl : l.map (fun p => e p.1) = l.map (·.2) := by kernel_rfl) : At g k e bx σ := At.ofL (UX hl) h
theorem At.v (l : List (Nat × Value)) (h : At g k (LD e l) bx σ) (hl : l.map (fun p => e p.1) = l.map (·.2) := by kernel_rfl) : At g k e bx σ := At.live (UX hl) h
theorem At.rg (id : Nat) (l : List Nat) (h : Seq g (cO c) l e bx σ (fun e bx σ => At g k e bx σ)) (hc : c = .region id (cO c) false := by kernel_rfl) (hl : List.range (cO c).size = l := by kernel_rfl) : At g (.code c :: k) e bx σ := At.region hc hl h
theorem At.s (x y : Code) (h : At g (.code x :: .code y :: k) e bx σ) (hc : c = .seq x y := by kernel_rfl) : At g (.code c :: k) e bx σ := At.seq hc h
theorem At.cT (t : Nat) (y z : Code) (h : At g (.code y :: k) e bx σ) (hc : c = .cond (.tmp t) y z := by kernel_rfl) (hx : AE e (.tmp t) = .bool true := by rfl) : At g (.code c :: k) e bx σ := At.tE hc hx h
theorem At.cF (t : Nat) (y z : Code) (h : At g (.code z :: k) e bx σ) (hc : c = .cond (.tmp t) y z := by kernel_rfl) (hx : AE e (.tmp t) = .bool false := by rfl) : At g (.code c :: k) e bx σ := At.tF hc hx h
theorem At.b (i : Nat) (x : Code) (h : At g (.code x :: .inBlock i :: k) e bx σ) (hc : c = .block i x := by kernel_rfl) : At g (.code c :: k) e bx σ := At.block hc h
theorem At.rt {fn : Func} (rs : List ResultVar) (vs : List Value) (hf : g.P.funcs[g.f]? = some fn) (h : Hc g.P e bx (left g.ds σ) rs vs) (hR : g.R (.returned (P3 vs)) (left g.ds σ))
   (hc : c = Code.ret := by kernel_rfl) (hr : fn.results = rs.toArray := by kernel_rfl) (MP : g.Gz = none := by rfl) (hm : Marks g.ds σ := by trivial) : At g (.code c :: k) e bx σ := At.UO hc hf hr h hR MP hm
def cv (ops : Array Oper) (i : Nat) (e : Env) : Option (Option Nat × FuncId × Array Value) :=
 match ops[i]? with
 | none => none
 | some o => match Ab ops e o.guard with
   | false => none
   | true => match o.op with
     | .call c => (match c.callee with
       | .value x => (match AE e x with
         | .func fn fst cap => (match fn with
           | .func f => some (o.dst, f, (fst.toList ++ (c.args.toList.map (AE e) ++ cap.toList)).toArray)
           | _ => none)
         | _ => none)
       | _ => none)
     | _ => none
theorem AY.cl {f : FuncId} {args : Array Value} (d : Option Nat) (ABH : ∀ args w, (callFunc f args).run g.P w = .ok (.enter f args) w) (h : Spec g.P f args σ (AB g.R fun v σ' => K (put e d v) bx σ'))
   (hc : cv ops i e = some (d, f, args) := by kernel_rfl) (hd : IG d g.n = true := by rfl) : AY g ops i e bx σ K := by
 unfold cv at hc
 cases ho : ops[i]? with
 | none => simp [ho] at hc
 | some o =>
   simp only [ho] at hc
   cases hw : Ab ops e o.guard with
   | false => simp [hw] at hc
   | true =>
     simp only [hw] at hc
     cases Ss : o.op <;> simp only [Ss] at hc <;> try cases hc
     rename_i c
     split at hc
     · rename_i x ABI
       split at hc
       · rename_i fn fst cap hx
         split at hc
         · rename_i f'
           simp only [Option.some.injEq, Prod.mk.injEq] at hc
           obtain ⟨rfl, rfl, ha⟩ := hc
           refine AY.call (EI ho) hw hd (fun o' EN _ w => ?_) h
           obtain ⟨callee, xs, ts⟩ := c
           simp only at ABI
           subst ABI
           refine NZ (x := x) (xs := xs) (ts := ts) (fst := fst) (cap := cap) (vs := (xs.toList.map (AE e)).toArray) ABH hx (by simp) ?_ o' (by rw [EN, Ss]) w
           rw [← ha, ← Array.toList_inj]; simp
         · cases hc
       · cases hc
     · cases hc
end
end Tw
end
section
namespace Tw
open Go
variable [I7]
section
variable {g : Gl} {ops : Array Oper} {i : Nat} {e : Env} {bx : Bx} {σ : Hp} {K : Env → Bx → Hp → Prop} {k : List Item} {c x : Code} {d : Option Nat} {gd : Option (Nat × Bool)} {ty : TypeId}
theorem V3 {P : Program} {b : Frame} {a : Act} {k : List Item} {cs : List Frame} {w : World} {c : Code} : step P (lone (b.atR a (.code (.scope c) :: k)) cs w) = .next (lone (b.atR a (.code c :: .inScope c :: k)) cs w) := rfl
theorem SG {P : Program} {b : Frame} {a : Act} {k : List Item} {cs : List Frame} {w : World} {c : Code} : step P (lone (b.atR a (.inScope c :: k)) cs w) = .next (lone (b.atR a k) cs w) := rfl
theorem At.scope (hc : c = Code.scope x) (h : At g (.code x :: .inScope x :: k) e bx σ) : At g (.code c :: k) e bx σ :=
 hc ▸ fun w0 F a w st => .step (fun _ _ _ => V3) (h w0 F a w st)
theorem At.inScope (h : At g k e bx σ) : At g (.inScope x :: k) e bx σ := fun w0 F a w st => .step (fun _ _ _ => SG) (h w0 F a w st)
theorem AY.panic {x : Operand} {T : TypeId} {v : Value} (hs : sig ops i = some (d, .panic x, ty, gd)) (hw : Ab ops e gd = true) (hx : AE e x = .iface T v) (h1 : g.Gz = none) (h2 : g.ds = [])
   (h : g.R (.panicked [{ v := .iface T v, recovered := false }]) σ) : AY g ops i e bx σ K := by
 intro w0 F a w st
 obtain ⟨o, ho, rfl, B1, Dl, rfl⟩ := Ct hs
 refine DK ho (by rw [st.wanted]; exact hw) ?_
 rw [st.eval]
 have Cu : (o.semAt g.Gz (AE e)).run g.P w = .halt (.panic (.iface T v)) w := by
   rw [h1, Oper.semAt_eq none (AE e) o (fun c hc => by rw [B1] at hc; cases hc)]
   simp [execOp, B1, hx, Instr.panic, goPanic, Sem.run]
 rw [Cu]
 exact ⟨⟨h1, st.defers.trans h2⟩, σ, h, st.toFin⟩
theorem ZK {x : Operand} {u : Value} {ts : Array TypeId} (hx : AE e x = u) (o : Oper) (ho : o.op = .call { callee := .builtin .len, args := #[x], argTypes := ts }) (ht : o.type = ty) : execOp (AE e) o = (do pure (.value (← Builtin.len_ ts ty #[u]))) := by
 subst ht; simp [execOp, ho, resolve, invoke, builtin, hx]
def isIf : TypeDesc → Bool
 | .interface _ => true
 | _ => false
theorem Y.iface {P : Program} {T : TypeId} {dd : TypeDesc} {x : Operand} {v : Value} (hT : P.underlying T = some dd) (hd : isIf dd = false) (hx : AE e x = v) : Yd P e bx σ (.makeInterface T x) ty (.iface T v) := fun oo ho _ w _ _ => by
 cases dd <;> simp [isIf] at hd <;> simp [execOp, ho, hx, Instr.makeInterface, run_underlying hT]
theorem Y.AJK {P : Program} {T T' : TypeId} {x y : Operand} {a b : ByteArray} (hT : P.underlying T = some .string) (hx : AE e x = .string a) (hy : AE e y = .string b) (hs : a.size + b.size ≤ 9223372036854775807) : Yd P e bx σ (.binOp .add T x y T') ty (.string (a ++ b)) := fun oo ho _ w _ _ => by
 have II : (a.size : Int) + (b.size : Int) ≤ 9223372036854775807 := by omega
 simp [execOp, ho, hx, hy, eqGuard_add, binOp, Op.stringOp, II]
end
end Tw
end
section
namespace Tw
open Go
variable [I7]
def AX (τ : Hp) : List (Nat × Obj) → Hp
 | [] => τ
 | (b, o) :: L => (AX τ L).set b o
abbrev names (L : List (Nat × Obj)) : List Nat := L.map Prod.fst
section
variable {τ : Hp} {L : List (Nat × Obj)} {b i : Nat} {o o' : Obj}
theorem G2 (h : b ∉ names L) : AX τ L b = τ b := by
 induction L with
 | nil => rfl
 | cons p L ih =>
   simp only [names, List.map_cons, List.mem_cons, not_or] at h
   simp only [AX, Hp.AF h.1]
   exact ih h.2
theorem B7 : ∀ {L : List (Nat × Obj)} {i : Nat}, (names L).Nodup → L[i]? = some (b, o) → AX τ L b = some o
 | p :: L, 0, _, h => by simp at h; subst h; exact Hp.AA _ _ _
 | p :: L, i + 1, hn, h => by
   simp only [List.getElem?_cons_succ] at h
   have hm : b ∈ names L := List.mem_map.2 ⟨_, List.mem_of_getElem? h, rfl⟩
   have hn := List.nodup_cons.1 (show (p.1 :: names L).Nodup from hn)
   have Ad : b ≠ p.1 := fun e => hn.1 (e ▸ hm)
   simp only [AX, Hp.AF Ad]
   exact B7 hn.2 h
theorem Hp.KA {σ : Hp} {a b : Nat} {o u : Obj} (h : a ≠ b) : (σ.set a o).set b u = (σ.set b u).set a o := by
 funext k
 simp only [Hp.set]
 by_cases h1 : k = a
 · subst h1; simp [h]
 · simp [h1]
theorem P6 : ∀ {L : List (Nat × Obj)} {i : Nat}, (names L).Nodup → L[i]? = some (b, o) → (AX τ L).set b o' = AX τ (L.set i (b, o'))
 | p :: L, 0, _, h => by simp at h; subst h; exact Hp.set_set
 | p :: L, i + 1, hn, h => by
   simp only [List.getElem?_cons_succ] at h
   have hm : b ∈ names L := List.mem_map.2 ⟨_, List.mem_of_getElem? h, rfl⟩
   have hn := List.nodup_cons.1 (show (p.1 :: names L).Nodup from hn)
   have Ad : b ≠ p.1 := fun e => hn.1 (e ▸ hm)
   simp only [AX, List.set_cons_succ]
   rw [Hp.KA (Ne.symm Ad), P6 hn.2 h]
theorem DE : ∀ {L : List (Nat × Obj)}, b ∉ names L → (AX τ L).set b o = AX (τ.set b o) L
 | [], _ => rfl
 | p :: L, h => by
   simp only [names, List.map_cons, List.mem_cons, not_or] at h
   simp only [AX]
   rw [Hp.KA (Ne.symm h.1), DE h.2]
theorem Sx : ∀ {L : List (Nat × Obj)}, b ∈ names L → AX τ L b ≠ none
 | p :: L, h => by
   by_cases hb : b = p.1
   · subst hb; simp only [AX, Hp.AA]; simp
   · simp only [names, List.map_cons, List.mem_cons] at h
     simp only [AX, Hp.AF hb]
     exact Sx (h.resolve_left hb)
theorem B3 (h : AX τ L b = none) : b ∉ names L ∧ τ b = none := by
 have hs : ∀ {L : List (Nat × Obj)}, b ∉ names L → AX τ L b = τ b := G2
 have hn : b ∉ names L := fun hm => Sx hm h
 exact ⟨hn, (hs hn).symm.trans h⟩
def Hf (L : List (Nat × Obj)) (τ : Hp) : Prop := ∀ b ∈ names L, τ b = none
theorem Hf.ext {τ : Hp} : ∀ {L : List (Nat × Obj)}, (names L).Nodup → Hf L τ → Ext τ (AX τ L)
 | [], _, _ => .refl τ
 | p :: L, hn, h => by
   have hn := List.nodup_cons.1 (show (p.1 :: names L).Nodup from hn)
   have ih := Hf.ext hn.2 (fun b hb => h b (List.mem_cons_of_mem _ hb))
   refine ih.trans (.set ?_)
   rw [G2 hn.1]
   exact h _ (List.mem_cons_self ..)
theorem Hf.set {τ : Hp} {b : Nat} {o : Obj} (h : Hf L τ) (hb : b ∉ names L) : Hf L (τ.set b o) := fun c hc => by
 have Ad : c ≠ b := fun e => hb (e ▸ hc)
 rw [Hp.AF Ad]; exact h c hc
end
theorem Spec.CH {P : Program} {f : FuncId} {args : Array Value} {τ : Hp} : ∀ {L : List (Nat × Obj)} {R : Rr}, (names L).Nodup → Hf L τ →
   Spec P f args τ (fun e τ' => Hf L τ' → R e (AX τ' L)) → Spec P f args (AX τ L) R
 | [], R, _, _, h => h.mono fun e τ' hr => hr (fun b hb => by cases hb)
 | p :: L, R, hn, ho, h => by
   have hn := List.nodup_cons.1 (show (p.1 :: names L).Nodup from hn)
   refine Spec.BW (by rw [G2 hn.1]; exact ho _ (List.mem_cons_self ..)) ?_
   refine Spec.CH hn.2 (fun b hb => ho b (List.mem_cons_of_mem _ hb)) (h.mono fun e τ' hr FA V4 => hr fun b hb => ?_)
   rcases List.mem_cons.1 (show b ∈ p.1 :: names L from hb) with rfl | hb
   · rw [G2 hn.1] at V4; exact V4
   · exact FA b hb
theorem AJ.CH {P : Program} {α : Type} {m : Sem α} {τ : Hp} : ∀ {L : List (Nat × Obj)} {Φ : α → Hp → Prop}, (names L).Nodup → Hf L τ →
   AJ P m τ (fun v τ' => Hf L τ' → Φ v (AX τ' L)) → AJ P m (AX τ L) Φ
 | [], R, _, _, h => h.mono fun e τ' hr => hr (fun b hb => by cases hb)
 | p :: L, R, hn, ho, h => by
   have hn := List.nodup_cons.1 (show (p.1 :: names L).Nodup from hn)
   refine AJ.BW (by rw [G2 hn.1]; exact ho _ (List.mem_cons_self ..)) ?_
   refine AJ.CH hn.2 (fun b hb => ho b (List.mem_cons_of_mem _ hb)) (h.mono fun e τ' hr FA V4 => hr fun b hb => ?_)
   rcases List.mem_cons.1 (show b ∈ p.1 :: names L from hb) with rfl | hb
   · rw [G2 hn.1] at V4; exact V4
   · exact FA b hb
theorem AJ.B4 {P : Program} {τ : Hp} {L : List (Nat × Obj)} {i b n o : Nat} {T t : TypeId} {c c' : Array Value} {v : Value} {Φ : Unit → Hp → Prop} (hz : ∀ w, (Go.sizeOf T).run P w = .ok n w) (hn : (names L).Nodup) (hi : L[i]? = some (b, .cells c t (0, 0)))
   (hv : v.cells.size = n) (hl : Nat.ble (o + n) c.size = true) (h1 : (v.cells.toList.all fun u => u.oneCell') = true) (hc : DX c o v.cells.toList = c') (h : Φ () (AX τ (L.set i (b, .cells c' t (0, 0))))) :
   AJ P (Instr.storeAt T (.pointer (some ⟨b, o, none⟩)) v) (AX τ L) Φ := by
 subst hc
 refine AJ.store hz (B7 hn hi) hv (Nat.le_of_ble_eq_true hl) (fun u hu => List.all_eq_true.1 h1 u hu) ?_
 rw [P6 hn hi]; exact h
theorem IJ {τ : Hp} {L : List (Nat × Obj)} {i b o : Nat} {t : TypeId} {c : Array Value} {v : Value} (hn : (names L).Nodup) (hi : L[i]? = some (b, .cells c t (0, 0))) (h : c[o]? = some v) : Hp.ld (AX τ L) ⟨b, o, none⟩ = some v := by
 simp [Hp.ld, B7 hn hi, h]
end Tw
end
section
namespace Tw
open Go Go.MapKept
variable [I7]
def Hp.off (σ : Hp) (S : List Nat) : Hp := fun b => if b ∈ S then none else σ b
theorem Hp.Ef {σ : Hp} {S : List Nat} {b : Nat} (h : b ∈ S) : σ.off S b = none := by simp [Hp.off, h]
theorem Hp.BN {σ : Hp} {S : List Nat} {b : Nat} (h : b ∉ S) : σ.off S b = σ b := by simp [Hp.off, h]
theorem Hp.AH {σ : Hp} {S : List Nat} {b : Nat} {o : Obj} : σ.off S b = some o ↔ b ∉ S ∧ σ b = some o := by
 by_cases h : b ∈ S <;> simp [Hp.off, h]
theorem Ext.CJ (σ : Hp) (S : List Nat) : Ext (σ.off S) σ := fun _ _ h => (Hp.AH.1 h).2
theorem Ext.off {σ σ' : Hp} (h : Ext σ σ') (S : List Nat) : Ext (σ.off S) (σ'.off S) := fun b o hb => by
 rw [Hp.AH] at hb ⊢
 exact ⟨hb.1, h b o hb.2⟩
theorem Hp.pE {σ : Hp} {S S' : List Nat} : (σ.off S).off S' = σ.off (S ++ S') := by
 funext b
 by_cases h : b ∈ S <;> by_cases h' : b ∈ S' <;> simp [Hp.off, h, h']
theorem Hp.IT {σ : Hp} {S S' : List Nat} : (σ.off S).off S' = (σ.off S').off S := by
 funext b
 by_cases h : b ∈ S <;> by_cases h' : b ∈ S' <;> simp [Hp.off, h, h']
theorem Hp.Gj {σ : Hp} {S : List Nat} {b : Nat} {o : Obj} (h : b ∈ S) : (σ.set b o).off S = σ.off S := by
 funext k
 by_cases hk : k ∈ S
 · simp [Hp.off, hk]
 · simp only [Hp.off, hk, if_false]
   rw [Hp.AF]; intro e; subst e; exact hk h
theorem Hp.FB {σ : Hp} {S : List Nat} {b : Nat} {o : Obj} (h : b ∉ S) : (σ.set b o).off S = (σ.off S).set b o := by
 funext k
 by_cases hk : k = b
 · subst hk; rw [Hp.BN h, Hp.AA, Hp.AA]
 · rw [Hp.AF hk]; by_cases hs : k ∈ S <;> simp [Hp.off, hs, Hp.AF hk]
def DJ (p : Option Addr) : List Nat := match p with
 | some a => [a.block]
 | none => []
theorem Hp.Dc {σ : Hp} {p : Option Addr} : σ.del p = σ.off (DJ p) := by
 funext k
 cases p with
 | none => simp [Hp.del, Hp.off, DJ]
 | some a => simp [Hp.del, Hp.off, DJ]
theorem Ext.UY {σ σ' : Hp} {S : List Nat} (h : Ext σ σ') (hS : ∀ b ∈ S, σ b = none) : Ext σ (σ'.off S) := fun b o hb => by
 rw [Hp.AH]
 exact ⟨fun hs => (by have h2 := hS b hs; rw [hb] at h2; cases h2), h b o hb⟩
theorem Hp.KB {σ : Hp} {S : List Nat} {b : Nat} (h : σ b = none) : σ.off S b = none := by
 unfold Hp.off; split <;> simp [h]
theorem Ext.Gj {σ : Hp} {S : List Nat} {b : Nat} {o : Obj} (h : b ∈ S) : Ext (σ.off S) ((σ.set b o).off S) := by rw [Hp.Gj h]; exact Ext.refl _
structure Loc (A : Hp → Prop) (σ : Hp) (S : List Nat) : Prop where
 here : A σ
 known : ∀ b ∈ S, σ b ≠ none
 loc : ∀ σ', (∀ b ∈ S, σ' b = σ b) → A σ'
section
variable {P : Program} {σ : Hp} {α : Type}
theorem AJ.obj {m : Sem α} {b : Nat} {o o' : Obj} {v : α} {Φ : α → Hp → Prop} (hb : σ b = some o) (hm : ∀ w, Sat σ w → ∃ w1 : World, (w1 = w ∨ w1 = w.drew) ∧ m.run P w = .ok v (ChangeMaps.setBlock w1 b o')) (h : Φ v (σ.set b o')) : AJ P m σ Φ := fun w F hs hF => by
 obtain ⟨w1, hw, Cu⟩ := hm w hs
 have Ag : b < w.heap.size := (Array.getElem?_eq_some_iff.1 (hs b o hb)).1
 have DL : w1.heap = w.heap := by rcases hw with rfl | rfl <;> rfl
 refine ⟨v, _, _, Cu, h, fun k u hk => ?_, fun k hk => ?_, ?_, ?_, ?_⟩
 · simp only [ChangeMaps.setBlock, DL]
   by_cases DD : k = b
   · subst DD; rw [Hp.AA] at hk; cases hk; simp [Ag]
   · rw [Hp.AF DD] at hk; simp [Ne.symm DD, hs k u hk]
 · have DD : k ≠ b := fun e => by have := (hF k hk).2; rw [e, hb] at this; cases this
   refine ⟨by rw [Hp.AF DD]; exact (hF k hk).2, ?_⟩
   simp [ChangeMaps.setBlock, DL, Ne.symm DD]
 · rcases hw with rfl | rfl
   · exact .same rfl rfl rfl
   · exact ⟨rfl, rfl, fun _ => ⟨1, rfl⟩⟩
 · rcases hw with rfl | rfl <;> rfl
 · simp [ChangeMaps.setBlock, DL]
theorem AJ.new {m : Sem α} {o : Obj} {v : Nat → α} {Φ : α → Hp → Prop} (hm : ∀ w, Sat σ w → m.run P w = .ok (v w.heap.size) (w.alloc o)) (h : ∀ b, σ b = none → Φ (v b) (σ.set b o)) : AJ P m σ Φ := fun w F hs hF =>
 ⟨_, _, _, hm w hs, h _ (DM hs), Fin.alloc hs hF _ rfl (.same rfl rfl rfl) rfl⟩
class pF (P : Program) (T : TypeId) (K V : outParam TypeId) : Prop where
 Vg : P.underlying T = some (.map K V)
 key : P.underlying K = some .string
def Av (σ : Hp) (b : Nat) (l : List MapEntry) (clock : Nat) : Prop := σ b = some (.map l.toArray clock) ∧ Stamped l.toArray clock ∧ ∀ x ∈ l, IsKey .string x.key
theorem Av.mono {σ σ' : Hp} {b : Nat} {l : List MapEntry} {clock : Nat} (h : Av σ b l clock) (hx : Ext σ σ') : Av σ' b l clock := ⟨hx _ _ h.1, h.2⟩
theorem Av.loc {σ σ' : Hp} {b : Nat} {l : List MapEntry} {clock : Nat} (h : Av σ b l clock) (hx : σ' b = σ b) : Av σ' b l clock := ⟨hx.trans h.1, h.2⟩
theorem Av.nodup {σ : Hp} {b : Nat} {l : List MapEntry} {clock : Nat} (h : Av σ b l clock) : (l.map (·.key)).Nodup := h.2.1.2.2
theorem Av.V5 {σ : Hp} {b : Nat} {l : List MapEntry} {clock : Nat} (h : Av σ b l clock) : (l.map (·.born)).Nodup := h.2.1.2.1
theorem Dq {s : ByteArray} {l : List MapEntry} (hk : ∀ x ∈ l, IsKey .string x.key) :
   (Instr.findNow .string (.string s) l 0 = some none ∧ ∀ x ∈ l, x.key ≠ .string s) ∨ ∃ l1 e l2, l = l1 ++ e :: l2 ∧ e.key = .string s ∧ Instr.findNow .string (.string s) l 0 = some (some (l1.length, e.val)) := by
 rcases findNow_spec (d := .string) (k := .string s) trivial l 0 hk with h | ⟨j, e, h1, h2, h3⟩
 · exact .inl h
 · obtain ⟨hj, rfl⟩ := List.getElem?_eq_some_iff.1 h2
   refine .inr ⟨l.take j, l[j], l.drop (j + 1), ?_, h3, ?_⟩
   · rw [List.getElem_cons_drop, List.take_append_drop]
   · rw [h1]; simp [Nat.min_eq_left (Nat.le_of_lt hj)]
section
variable {T K V ty : TypeId} {b clock : Nat} {l : List MapEntry} {s : ByteArray}
theorem Hg {Φ : Value → Hp → Prop} (h : ∀ b, σ b = none → Φ (.map (some b)) (σ.set b (.map #[] 0))) : AJ P (Instr.makeMap T none) σ Φ :=
 AJ.new (v := fun b => .map (some b)) (fun w _ => by simp [Instr.makeMap, Result.andThen]) h
theorem Av.fresh {b : Nat} {σ : Hp} : Av (σ.set b (.map #[] 0)) b [] 0 := ⟨Hp.AA _ _ _, stamped_empty 0, by simp⟩
theorem Nb [t : pF P T K V] (hm : Av σ b l clock) {z : Value} (hz : ∀ w, (zeroValue V).run P w = .ok z w) {Q : Value → Prop}
   (h0 : (∀ x ∈ l, x.key ≠ .string s) → Q z) (h1 : ∀ l1 e l2, l = l1 ++ e :: l2 → e.key = .string s → Q e.val) : ∃ v, Q v ∧ YF P (Instr.lookup T (.map (some b)) (.string s) false) σ v := by
 rcases Dq (s := s) hm.2.2 with ⟨hf, hn⟩ | ⟨l1, e, l2, hl, he, hf⟩
 · refine ⟨z, h0 hn, fun w hs => ?_⟩
   have := hs _ _ hm.1
   simp [Instr.lookup, run_underlying t.Vg, run_getObj_map this, run_checkKey t.key (k := .string s) trivial, run_findKey t.key hf, hz, Result.andThen]
 · refine ⟨e.val, h1 l1 e l2 hl he, fun w hs => ?_⟩
   have := hs _ _ hm.1
   simp [Instr.lookup, run_underlying t.Vg, run_getObj_map this, run_checkKey t.key (k := .string s) trivial, run_findKey t.key hf, Result.andThen]
theorem JG [t : pF P T K V] (hm : Av σ b l clock) {z : Value} (hz : ∀ w, (zeroValue V).run P w = .ok z w) {Φ : Value → Hp → Prop}
   (h0 : (∀ x ∈ l, x.key ≠ .string s) → Φ z σ) (h1 : ∀ l1 e l2, l = l1 ++ e :: l2 → e.key = .string s → Φ e.val σ) : AJ P (Instr.lookup T (.map (some b)) (.string s) false) σ Φ := by
 obtain ⟨v, hq, hy⟩ := Nb (T := T) (K := K) (s := s) (Q := fun v => Φ v σ) hm hz h0 h1
 exact AJ.pu hy hq
theorem jU [t : pF P T K V] (hm : Av σ b l clock) : YF P (Builtin.len_ #[T] ty #[.map (some b)]) σ (.int .i64 l.length) := fun w hs => by
 have := hs _ _ hm.1
 simp [Builtin.len_, run_underlying t.Vg, run_getObj_map this, goInt, Result.andThen]
abbrev CY (s : ByteArray) (v : Value) (n : Nat) : MapEntry := { key := .string s, val := v, born := n }
theorem DT [t : pF P T K V] (hm : Av σ b l clock) {v : Value} {Φ : Unit → Hp → Prop}
   (h0 : (∀ x ∈ l, x.key ≠ .string s) → ∀ σ', σ' = σ.set b (.map (l ++ [CY s v clock]).toArray (clock + 1)) → Av σ' b (l ++ [CY s v clock]) (clock + 1) → Φ () σ')
   (h1 : ∀ l1 e l2, l = l1 ++ e :: l2 → e.key = .string s → ∀ σ', σ' = σ.set b (.map (l1 ++ CY s v e.born :: l2).toArray clock) → Av σ' b (l1 ++ CY s v e.born :: l2) clock → Φ () σ') :
   AJ P (Instr.mapUpdate T (.map (some b)) (.string s) v) σ Φ := by
 obtain ⟨hb, JC, hk⟩ := hm
 rcases Dq (s := s) hk with ⟨hf, hn⟩ | ⟨l1, e, l2, hl, he, hf⟩
 · have V6 : (l ++ [CY s v clock]).toArray = l.toArray.push (CY s v clock) := by simp
   refine AJ.obj (v := ()) (o' := .map (l ++ [CY s v clock]).toArray (clock + 1)) hb (fun w hs => ⟨w, .inl rfl, ?_⟩) (h0 hn _ rfl ⟨Hp.AA _ _ _, ?_, ?_⟩)
   · have := hs _ _ hb
     rw [V6]
     simp only [Instr.mapUpdate, Sem.run_bind, run_underlying t.Vg, run_getObj_map this, run_checkKey t.key (k := .string s) trivial, run_findKey t.key hf, Result.andThen_ok]
     simp [setObj, Sem.run, this, ChangeMaps.setBlock]
   · rw [V6]; exact stamped_push JC (by simpa using hn)
   · intro x hx
     rcases List.mem_append.1 hx with hx | hx
     · exact hk x hx
     · rw [List.mem_singleton] at hx; subst hx; trivial
 · subst hl
   have Nc : (l1 ++ CY s v e.born :: l2).toArray = (l1 ++ e :: l2).toArray.modify l1.length (fun e => { e with key := .string s, val := v }) := by
     rw [← Array.toList_inj]
     apply List.ext_getElem?
     intro j
     simp only [Array.getElem?_toList, Array.getElem?_modify, List.getElem?_toArray]
     by_cases hj : l1.length = j
     · subst hj; simp
     · rw [if_neg hj]
       rcases Nat.lt_or_ge j l1.length with h | h
       · rw [List.getElem?_append_left h, List.getElem?_append_left h]
       · have : ∃ k, j = l1.length + (k + 1) := ⟨j - l1.length - 1, by omega⟩
         obtain ⟨k, rfl⟩ := this
         simp [List.getElem?_append_right]
   have F8 : (l1 ++ e :: l2).toArray[l1.length]? = some e := by simp
   refine AJ.obj (v := ()) (o' := .map (l1 ++ CY s v e.born :: l2).toArray clock) hb (fun w hs => ⟨w, .inl rfl, ?_⟩) (h1 l1 e l2 rfl he _ rfl ⟨Hp.AA _ _ _, ?_, ?_⟩)
   · have := hs _ _ hb
     rw [Nc]
     simp only [Instr.mapUpdate, Sem.run_bind, run_underlying t.Vg, run_getObj_map this, run_checkKey t.key (k := .string s) trivial, run_findKey t.key hf, Result.andThen_ok, F8, Option.map_some, Option.getD_some, he,
       run_keyThatStays (d := .string) (k := .string s) trivial]
     simp [setObj, Sem.run, this, ChangeMaps.setBlock]
   · rw [Nc]; exact stamped_modify JC _ _ (fun _ _ => rfl) (fun e' _ pG => by rw [F8] at pG; cases pG; exact he.symm)
   · intro x hx
     rcases List.mem_append.1 hx with hx | hx
     · exact hk x (List.mem_append_left _ hx)
     · rcases List.mem_cons.1 hx with rfl | hx
       · trivial
       · exact hk x (List.mem_append_right _ (List.mem_cons_of_mem _ hx))
theorem L0 [t : pF P T K V] (hm : Av σ b l clock) {Φ : Value → Hp → Prop}
   (h0 : (∀ x ∈ l, x.key ≠ .string s) → ∀ σ', σ' = σ.set b (.map l.toArray clock) → Av σ' b l clock → Φ (.tuple #[]) σ')
   (h1 : ∀ l1 e l2, l = l1 ++ e :: l2 → e.key = .string s → ∀ σ', σ' = σ.set b (.map (l1 ++ l2).toArray clock) → Av σ' b (l1 ++ l2) clock → Φ (.tuple #[]) σ') {A : Array TypeId} (hA : A[0]? = some T) :
   AJ P (Builtin.delete_ A ty #[.map (some b), .string s]) σ Φ := by
 obtain ⟨hb, JC, hk⟩ := hm
 rcases Dq (s := s) hk with ⟨hf, hn⟩ | ⟨l1, e, l2, hl, he, hf⟩
 · refine AJ.obj (v := .tuple #[]) (o' := .map l.toArray clock) hb (fun w hs => ⟨w, .inl rfl, ?_⟩) (h0 hn _ rfl ⟨Hp.AA _ _ _, JC, hk⟩)
   have := hs _ _ hb
   simp [Builtin.delete_, hA, run_underlying t.Vg, run_getObj_map this, run_checkKey t.key (k := .string s) trivial, run_findKey t.key hf, Result.andThen, setObj, Sem.run, this, ChangeMaps.setBlock]
 · subst hl
   have Nc : (l1 ++ l2).toArray = (l1 ++ e :: l2).toArray.eraseIdxIfInBounds l1.length := by
     rw [← Array.toList_inj]
     simp [Array.eraseIdxIfInBounds, List.eraseIdx_append_of_length_le]
   refine AJ.obj (v := .tuple #[]) (o' := .map (l1 ++ l2).toArray clock) hb (fun w hs => ⟨w, .inl rfl, ?_⟩) (h1 l1 e l2 rfl he _ rfl ⟨Hp.AA _ _ _, ?_, ?_⟩)
   · have := hs _ _ hb
     rw [Nc]
     simp only [Builtin.delete_, hA, List.getElem?_toArray, List.getElem?_cons_zero, List.getElem?_cons_succ, Sem.run_bind, run_underlying t.Vg, run_getObj_map this, run_checkKey t.key (k := .string s) trivial, run_findKey t.key hf, Result.andThen_ok]
     simp [setObj, Sem.run, this, ChangeMaps.setBlock, Result.andThen]
   · rw [Nc]; exact stamped_erase JC _
   · intro x hx
     rcases List.mem_append.1 hx with hx | hx
     · exact hk x (List.mem_append_left _ hx)
     · exact hk x (List.mem_append_right _ (List.mem_cons_of_mem _ hx))
def Cv (σ : Hp) (i b : Nat) (l L : List MapEntry) (clock : Nat) : Prop :=
 ∃ seen c0, σ i = some (.mapIter (some b) clock seen c0) ∧ clock ≤ c0 ∧ L = (leftOf l.toArray seen).toList
theorem Cv.loc {σ σ' : Hp} {i b : Nat} {l L : List MapEntry} {clock : Nat} (h : Cv σ i b l L clock) (hx : σ' i = σ i) : Cv σ' i b l L clock := by
 obtain ⟨seen, c0, h1, h2⟩ := h
 exact ⟨seen, c0, hx.trans h1, h2⟩
theorem Cv.mono {σ σ' : Hp} {i b : Nat} {l L : List MapEntry} {clock : Nat} (h : Cv σ i b l L clock) (hx : Ext σ σ') : Cv σ' i b l L clock := by
 obtain ⟨seen, c0, h1, h2⟩ := h
 exact ⟨seen, c0, hx _ _ h1, h2⟩
theorem IU [t : pF P T K V] (hm : Av σ b l clock) {Φ : Value → Hp → Prop} (h : ∀ i o, σ i = none → Cv (σ.set i o) i b l l clock → Φ (.pointer (some ⟨i, 0, none⟩)) (σ.set i o)) : AJ P (Instr.range T (.map (some b))) σ Φ :=
 AJ.new (v := fun i => .pointer (some ⟨i, 0, none⟩)) (o := .mapIter (some b) clock #[] clock) (fun w hs => by
   have := hs _ _ hm.1
   simp [Instr.range, run_underlying t.Vg, run_getObj_map this, Result.andThen]) fun i hi => h i _ hi ⟨#[], clock, Hp.AA _ _ _, Nat.le_refl _, by simp [leftOf, List.filter_eq_self.2]⟩
theorem Sz {l : List MapEntry} {seen : Array Nat} {x : Nat} : (leftOf l.toArray (seen.push x)).toList = (leftOf l.toArray seen).toList.filter (fun e => e.born != x) := by
 simp only [leftOf, List.filter_toArray, List.filter_filter]
 congr 1
 funext e
 rw [Array.contains_push]
 cases seen.contains e.born <;> cases h : (e.born == x) <;> simp_all [bne]
theorem KC (hm : Av σ b l clock) {i : Nat} {L : List MapEntry} (hi : Cv σ i b l L clock) {Φ : Value → Hp → Prop}
   (h0 : L = [] → Φ (.tuple #[.bool false]) σ)
   (h1 : ∀ e ∈ L, e ∈ l → ∀ o, (∀ τ, τ i = some o → Cv τ i b l (L.filter fun x => x.born != e.born) clock) →
     (∀ τ, τ i = some o → τ b = σ b → ∀ {Ψ : Value → Hp → Prop}, Ψ (.tuple #[e.key, e.val]) τ → AJ P (Instr.entry (.pointer (some ⟨i, 0, none⟩))) τ Ψ) → Φ (.tuple #[.bool true, e.key, e.val]) (σ.set i o)) :
   AJ P (Instr.next (.pointer (some ⟨i, 0, none⟩)) false ty) σ Φ := by
 obtain ⟨seen, c0, hi, hc, rfl⟩ := hi
 obtain ⟨hb, JC, hk⟩ := hm
 have hold : ∀ x ∈ l.toArray.toList, x.born < clock := JC.1
 intro w F hs hF
 rcases run_next_at (P := P) w ty i b clock c0 seen l.toArray clock (hs _ _ hi) (hs _ _ hb) hold hc with ⟨h, Cu⟩ | ⟨e, he, w1, ZL, Cu⟩
 · exact ⟨_, w, σ, Cu, h0 (List.eq_nil_of_length_eq_zero (by simpa using h)), hs, fun k hk => ⟨(hF k hk).2, rfl⟩, .same rfl rfl rfl, rfl, Nat.le_refl _⟩
 · have hel := (mem_left he).1
   have h2 := h1 e he (by simpa using hel) (.mapIter (some b) clock (seen.push e.born) clock) (fun τ hτ => ⟨_, _, hτ, Nat.le_refl _, Sz.symm⟩) (fun τ hτ wP Ψ hΨ => AJ.pu (fun w' II => run_entry_at w' i b clock seen l.toArray clock e (II _ _ hτ) (II _ _ (wP.trans hb)) hel JC.2.1) hΨ)
   have Ag : i < w.heap.size := (Array.getElem?_eq_some_iff.1 (hs _ _ hi)).1
   have DL : w1.heap = w.heap := by rcases ZL with rfl | rfl <;> rfl
   refine ⟨_, _, _, Cu, h2, fun k u hk => ?_, fun k hk => ?_, ?_, ?_, ?_⟩
   · simp only [ChangeMaps.setBlock, DL]
     by_cases DD : k = i
     · subst DD; rw [Hp.AA] at hk; cases hk; simp [Ag]
     · rw [Hp.AF DD] at hk; simp [Ne.symm DD, hs k u hk]
   · have DD : k ≠ i := fun e => by have := (hF k hk).2; rw [e, hi] at this; cases this
     refine ⟨by rw [Hp.AF DD]; exact (hF k hk).2, ?_⟩
     simp [ChangeMaps.setBlock, DL, Ne.symm DD]
   · rcases ZL with rfl | rfl
     · exact .same rfl rfl rfl
     · exact ⟨rfl, rfl, fun _ => ⟨1, rfl⟩⟩
   · rcases ZL with rfl | rfl <;> rfl
   · simp [ChangeMaps.setBlock, DL]
theorem Ki {L : List MapEntry} {e : MapEntry} (he : e ∈ L) : (L.filter fun x => x.born != e.born).length < L.length := by
 induction L with
 | nil => cases he
 | cons a L ih =>
   rcases List.mem_cons.1 he with rfl | he
   · simp; exact Nat.lt_succ_of_le (List.length_filter_le _ _)
   · have := ih he
     by_cases h : (a.born != e.born) = true
     · rw [List.filter_cons_of_pos (by simpa using h)]; simpa using this
     · rw [List.filter_cons_of_neg (by simpa using h)]; simp; omega
end
end
end Tw
end
section
set_option maxRecDepth 100000
noncomputable section
namespace TwW
open Go Tw Go.Proofs.Tryz
variable [I7] {R : Rr} {σ : Hp}
noncomputable abbrev prog : Program := Go.Proofs.Tryz.prog
theorem mixed : Go.Proofs.Tryz.prog.follows .mixedOrders = true := by kernel_rfl
instance : J2 Go.Proofs.Tryz.prog 22 61 2 32 := ⟨Go.Proofs.Tryz.underlying22, ⟨Go.Proofs.Tryz.t61, _, by kernel_rfl, rfl, rfl, rfl, rfl⟩, by decide, by decide⟩
instance : J2 Go.Proofs.Tryz.prog 26 3 1 8 := ⟨Go.Proofs.Tryz.underlying26, ⟨Go.Proofs.Tryz.t3, _, by kernel_rfl, rfl, rfl, rfl, rfl⟩, by decide, by decide⟩
instance : J2 Go.Proofs.Tryz.prog 39 196 3 40 := ⟨Go.Proofs.Tryz.underlying39, ⟨Go.Proofs.Tryz.t196, _, by kernel_rfl, rfl, rfl, rfl, rfl⟩, by decide, by decide⟩
instance : J2 Go.Proofs.Tryz.prog 46 25 3 40 := ⟨Go.Proofs.Tryz.underlying46, ⟨Go.Proofs.Tryz.t25, _, by kernel_rfl, rfl, rfl, rfl, rfl⟩, by decide, by decide⟩
instance : J2 Go.Proofs.Tryz.prog 51 4 1 1 := ⟨Go.Proofs.Tryz.underlying51, ⟨Go.Proofs.Tryz.t4, _, by kernel_rfl, rfl, rfl, rfl, rfl⟩, by decide, by decide⟩
instance : J2 Go.Proofs.Tryz.prog 56 2 1 8 := ⟨Go.Proofs.Tryz.underlying56, ⟨Go.Proofs.Tryz.t2, _, by kernel_rfl, rfl, rfl, rfl, rfl⟩, by decide, by decide⟩
instance : J2 Go.Proofs.Tryz.prog 75 82 7 120 := ⟨Go.Proofs.Tryz.underlying75, ⟨Go.Proofs.Tryz.t82, _, by kernel_rfl, rfl, rfl, rfl, rfl⟩, by decide, by decide⟩
instance : J2 Go.Proofs.Tryz.prog 77 244 6 64 := ⟨Go.Proofs.Tryz.underlying77, ⟨Go.Proofs.Tryz.t244, _, by kernel_rfl, rfl, rfl, rfl, rfl⟩, by decide, by decide⟩
instance : J2 Go.Proofs.Tryz.prog 80 26 1 24 := ⟨Go.Proofs.Tryz.underlying80, ⟨Go.Proofs.Tryz.t26, _, by kernel_rfl, rfl, rfl, rfl, rfl⟩, by decide, by decide⟩
instance : J2 Go.Proofs.Tryz.prog 84 5 1 1 := ⟨Go.Proofs.Tryz.underlying84, ⟨Go.Proofs.Tryz.t5, _, by kernel_rfl, rfl, rfl, rfl, rfl⟩, by decide, by decide⟩
instance : J2 Go.Proofs.Tryz.prog 97 9 1 16 := ⟨Go.Proofs.Tryz.underlying97, ⟨Go.Proofs.Tryz.t9, _, by kernel_rfl, rfl, rfl, rfl, rfl⟩, by decide, by decide⟩
instance : J2 Go.Proofs.Tryz.prog 111 305 3 48 := ⟨Go.Proofs.Tryz.underlying111, ⟨Go.Proofs.Tryz.t305, _, by kernel_rfl, rfl, rfl, rfl, rfl⟩, by decide, by decide⟩
instance : J2 Go.Proofs.Tryz.prog 121 123 1 8 := ⟨Go.Proofs.Tryz.underlying121, ⟨Go.Proofs.Tryz.t123, _, by kernel_rfl, rfl, rfl, rfl, rfl⟩, by decide, by decide⟩
instance : J2 Go.Proofs.Tryz.prog 124 129 5 72 := ⟨Go.Proofs.Tryz.underlying124, ⟨Go.Proofs.Tryz.t129, _, by kernel_rfl, rfl, rfl, rfl, rfl⟩, by decide, by decide⟩
instance : J2 Go.Proofs.Tryz.prog 148 154 3 48 := ⟨Go.Proofs.Tryz.underlying148, ⟨Go.Proofs.Tryz.t154, _, by kernel_rfl, rfl, rfl, rfl, rfl⟩, by decide, by decide⟩
instance : J2 Go.Proofs.Tryz.prog 165 84 1 24 := ⟨Go.Proofs.Tryz.underlying165, ⟨Go.Proofs.Tryz.t84, _, by kernel_rfl, rfl, rfl, rfl, rfl⟩, by decide, by decide⟩
instance : J2 Go.Proofs.Tryz.prog 174 249 1 24 := ⟨Go.Proofs.Tryz.underlying174, ⟨Go.Proofs.Tryz.t249, _, by kernel_rfl, rfl, rfl, rfl, rfl⟩, by decide, by decide⟩
instance : J2 Go.Proofs.Tryz.prog 194 70 1 4 := ⟨Go.Proofs.Tryz.underlying194, ⟨Go.Proofs.Tryz.t70, _, by kernel_rfl, rfl, rfl, rfl, rfl⟩, by decide, by decide⟩
instance : J2 Go.Proofs.Tryz.prog 213 215 2 16 := ⟨Go.Proofs.Tryz.underlying213, ⟨Go.Proofs.Tryz.t215, _, by kernel_rfl, rfl, rfl, rfl, rfl⟩, by decide, by decide⟩
instance : J2 Go.Proofs.Tryz.prog 249 251 2 16 := ⟨Go.Proofs.Tryz.underlying249, ⟨Go.Proofs.Tryz.t251, _, by kernel_rfl, rfl, rfl, rfl, rfl⟩, by decide, by decide⟩
instance : J2 Go.Proofs.Tryz.prog 266 268 1 8 := ⟨Go.Proofs.Tryz.underlying266, ⟨Go.Proofs.Tryz.t268, _, by kernel_rfl, rfl, rfl, rfl, rfl⟩, by decide, by decide⟩
end TwW
end
end
section
namespace Tw
open Go
variable [I7]
inductive Ord where
 | done
 | yes (i : Nat) (r : Ord)
 | alt (i : Nat) (r s : Ord)
 | no
def KD (g : Gl) (ops : Array Oper) : Ord → I8 → Env → Bx → Hp → (Env → Bx → Hp → Prop) → Prop
 | .done, _, e, bx, σ, K => K e bx σ
 | .yes i r, q, e, bx, σ, K => ∃ own o v, ((MU q own).ok i && Sn ops i own) = true ∧ ops[i]? = some o ∧ ((Ab ops e o.guard = true ∧ Yd g.P e bx (SC q own σ) o.op o.type v) ∨ (Ab ops e o.guard = false ∧ v = undef)) ∧
     (∀ t, o.dst = some t → t < g.n) ∧ KD g ops r (MU q own) (put e o.dst v) bx σ K
 | .alt i r s, q, e, bx, σ, K => (AY g ops i e bx σ fun e' Gc σ' => J7 (F7 q i) bx σ Gc σ' ∧ KD g ops r (F7 q i) e' Gc σ' K) ∧ KD g ops s q e bx σ K
 | .no, _, _, _, _, _ => True
def MZ (ops : Array Oper) (n : Nat) : Ord → Nat → Array Bool → List Nat → Bool
 | .done, f, listed, seen => decide (f = 0) && seen.isEmpty && Region.seqB .any ops (ops.size - n) n listed
 | .yes i r, f, listed, seen => seen.isEmpty && decide (0 < f) && decide (i < n) && (Region.ready .any ops listed).contains i && Region.free .any ops listed i && MZ ops n r (f - 1) (listed.setIfInBounds i true) []
 | .alt i r s, f, listed, seen => decide (0 < f) && decide (i < n) && (Region.ready .any ops listed).contains i && MZ ops n r (f - 1) (listed.setIfInBounds i true) [] && MZ ops n s f listed (i :: seen)
 | .no, f, listed, seen => decide (0 < f) && !(Region.ready .any ops listed).isEmpty && (Region.ready .any ops listed).all seen.contains
def UZ (ops : Array Oper) (n : Nat) (plan : Ord) (tail : List Nat) : Bool :=
 Region.noSelect ops && (decide (n = ops.size) || (decide (n < ops.size) && Region.sinkB .any ops n && Region.chainB .any ops n)) &&
   decide (tail = List.range' n (ops.size - n)) && MZ ops n plan n (Array.replicate ops.size false) []
section regions
variable {g : Gl} {ops : Array Oper}
theorem Hh {K : Env → Bx → Hp → Prop} {w0 F} {n : Nat} {tl : List Nat} (Lw : Region.noSelect ops = true)
   (G1 : ∀ listed, HeadInv .any ops n listed → ∀ i, i < n → listed.getD i true = false → ∀ t, n ≤ t → t ∉ Region.ready .any ops listed)
   (SD : tl = List.range' n (ops.size - n)) :
   ∀ (plan : Ord) (f : Nat) (seen : List Nat) (q : I8) (listed : Array Bool) (e : Env) (bx : Bx) (σ : Hp) (a : Act) (w : World), HeadInv .any ops n listed → MZ ops n plan f listed seen = true →
     St g.n g.ds w0 F e bx σ a w → KD g ops plan q e bx σ (fun e bx σ => Seq g ops tl e bx σ K) →
     (∀ j ∈ seen, j ∈ Region.ready .any ops listed → j < n ∧ wpOpIn (wd g.Gz) 0 g.P ops (Qn g w0 F K) j (fun a' w' => Sq q σ bx (listed.setIfInBounds j true) w' ∧
       Gh g.P g.Gz .any ops (Qn g w0 F K) (Sq q σ bx) n (fun listed a w => Region.seqB .any ops (ops.size - n) n listed = true ∧ wpOpsIn (wd g.Gz) 0 g.P ops (Qn g w0 F K) tl a w) (f - 1) (listed.setIfInBounds j true) a' w') a w) →
     Gh g.P g.Gz .any ops (Qn g w0 F K) (Sq q σ bx) n (fun listed a w => Region.seqB .any ops (ops.size - n) n listed = true ∧ wpOpsIn (wd g.Gz) 0 g.P ops (Qn g w0 F K) tl a w) f listed a w
 | .done, f, seen, _, listed, e, bx, σ, a, w, _, Au, st, h, _ => by
   simp only [MZ, Bool.and_eq_true, decide_eq_true_eq] at Au
   obtain ⟨⟨rfl, _⟩, Au⟩ := Au
   exact ⟨Au, Kh _ _ _ _ _ _ st h⟩
 | .yes i r, f, seen, q, listed, e, bx, σ, a, w, inv, Au, st, h, _ => by
   obtain ⟨own, o, v, ow, ho, hy, hd, h⟩ := h
   simp only [Bool.and_eq_true] at ow
   simp only [MZ, Bool.and_eq_true, decide_eq_true_eq] at Au
   obtain ⟨⟨⟨⟨⟨_, hf0⟩, C9⟩, hr⟩, hf⟩, Au⟩ := Au
   obtain ⟨f, rfl⟩ : ∃ f', f = f' + 1 := ⟨f - 1, by omega⟩
   have I9 : i ∈ Region.ready .any ops listed := by simpa using hr
   refine E9 (S' := Sq (MU q own) σ bx) (G := fun _ => True) (fun _ _ _ => trivial) (fun _ _ _ h => h.less) _ _ _ _ trivial ?_
   refine LY (Sy := fun w => Sat (SC q own σ) w ∧ IM bx w) ho (Region.noSelect_spec Lw) ?_ G1 (Sq.set ow.1) (fun listed w inv Sp h => Sq.own inv Sp ow.2 h) C9 ?_ _ listed a w inv (Region.free_spec ho hf) I9 ?_ (Sq.of st.sat st.box)
     (Hh Lw G1 SD r f [] _ _ _ _ _ _ _ (inv.set I9 C9) Au (st.put o.dst v hd) h (fun j hj => by cases hj))
   · rintro c a w ⟨⟨h0, h1⟩, h2⟩
     exact ⟨⟨h0, by cases NY : o.dst <;> simpa [Act.put, NY] using h1⟩, h2⟩
   · intro listed a w hL
     exact seqB_ready hL.1
   · rcases hy with ⟨hw, hy⟩ | ⟨hw, rfl⟩
     · exact .inl ⟨by rw [st.wanted]; exact hw, fun w hS => by rw [st.eval]; exact hy o rfl rfl w hS.1 hS.2⟩
     · exact .inr ⟨by rw [st.wanted]; exact hw, rfl⟩
 | .alt i r s, f, seen, q, listed, e, bx, σ, a, w, inv, Au, st, h, jV => by
   obtain ⟨h, hs⟩ := h
   simp only [MZ, Bool.and_eq_true, decide_eq_true_eq] at Au
   obtain ⟨⟨⟨⟨hf0, C9⟩, hr⟩, Au⟩, AJL⟩ := Au
   have I9 : i ∈ Region.ready .any ops listed := by simpa using hr
   refine Hh Lw G1 SD s f (i :: seen) q listed e bx σ a w inv AJL st hs (fun j hj hjr => ?_)
   rcases List.mem_cons.1 hj with rfl | hj
   · refine ⟨C9, wpOpIn_mono ?_ (ZE (Q := Qx g w0 F) (fun c a w h => h) (fun a w h => h.elim) (h w0 F a w st))⟩
     rintro a' w' ⟨e', Gc, σ', MQ, hk, h'⟩
     have hl : (listed.setIfInBounds j true).getD j false = true := by
       have Ag : j < listed.size := by rw [inv.size]; obtain ⟨_, o, ho, _⟩ := mem_ready.1 I9; exact (Array.getElem?_eq_some_iff.1 ho).1
       simp [Ag]
     exact ⟨Sq.UM hl hk (Sq.of MQ.sat MQ.box), E9 (S' := Sq (F7 q j) σ' Gc) (G := fun l => l.getD j false = true) (fun _ _ h => getD_set_true h) (fun _ _ hg h => Sq.UM hg hk h) _ _ _ _ hl
       (Hh Lw G1 SD r (f - 1) [] _ _ _ _ _ _ _ (inv.set I9 C9) Au MQ h' (fun j hj => by cases hj))⟩
   · exact jV j hj hjr
 | .no, f, seen, q, listed, e, bx, σ, a, w, inv, Au, st, h, jV => by
   simp only [MZ, Bool.and_eq_true, decide_eq_true_eq] at Au
   obtain ⟨⟨hf0, Ad⟩, E5⟩ := Au
   obtain ⟨f, rfl⟩ : ∃ f', f = f' + 1 := ⟨f - 1, by omega⟩
   exact ⟨fun h0 => (by rw [h0] at Ad; cases Ad), fun j hj => jV j (by simpa using List.all_eq_true.1 E5 j hj) hj⟩
theorem At.ABJ {k : List Item} {e : Env} {bx : Bx} {σ : Hp} {c : Code} {id : Nat} {n : Nat} {q : I8} {plan : Ord} {tl : List Nat} (hm : g.P.follows .mixedOrders = true) (hc : c = .region id ops true)
   (hp : UZ ops n plan tl = true)
   (h : KD g ops plan q e bx σ (fun e bx σ => Seq g ops tl e bx σ (fun e bx σ => At g k e bx σ))) : At g (.code c :: k) e bx σ := fun w0 F a w st => by
 subst hc
 simp only [UZ, Bool.and_eq_true, Bool.or_eq_true, decide_eq_true_eq] at hp
 obtain ⟨⟨⟨Lw, hn⟩, SD⟩, Au⟩ := hp
 have J1 : n ≤ ops.size := by rcases hn with h | h <;> omega
 have G1 : ∀ listed, HeadInv .any ops n listed → ∀ i, i < n → listed.getD i true = false → ∀ t, n ≤ t → t ∉ Region.ready .any ops listed := by
   intro listed inv i hi Sp t ht
   rcases hn with h | ⟨⟨h1, h2⟩, h3⟩
   · intro hr
     obtain ⟨_, o, ho, _⟩ := mem_ready.1 hr
     have := (Array.getElem?_eq_some_iff.1 ho).1
     omega
   · exact tail_waits h2 h3 h1 inv _ i rfl hi Sp t ht
 have vx : HeadInv .any ops n (Array.replicate ops.size false) :=
   ⟨by simp, fun j oj _ hl => (by rw [getD_replicate_false] at hl; cases hl), fun t _ ht => getD_in (by simpa using ht) (getD_replicate_false _ _)⟩
 refine Hw.of_wp (K := fun e bx σ => At g k e bx σ) (wpIn_region_any hm ?_) (fun _ _ _ h => h)
 have H := Hh (K := fun e bx σ => At g k e bx σ) (tl := tl) Lw G1 SD plan n [] q (Array.replicate ops.size false) e bx σ a { w with drawn := w.drawn + 1 } vx Au st.drew h (fun j hj => by cases hj)
 have := G0 (g := ops.size - n) (fun listed a w hL => Hx _ _ listed a w hL.1 (SD ▸ hL.2)) _ _ _ _ H
 rw [show n + (ops.size - n) = ops.size by omega] at this
 exact this
end regions
end Tw
namespace Tw
open Go
section
variable {g : Gl} {ops : Array Oper} {i : Nat} {r s : Ord} {q : I8} {e : Env} {bx : Bx} {σ : Hp} {K : Env → Bx → Hp → Prop} {d : Option Nat} {op : Op} {ty : TypeId} {gd : Option (Nat × Bool)} {v : Value} {L : List (Nat × List Nat)}
end
end Tw
end
section
namespace Tw
open Go
variable [I7]
def nth {α : Type} (d : α) : List α → Nat → α
 | [], _ => d
 | x :: _, 0 => x
 | _ :: l, n + 1 => nth d l n
theorem Kj {α : Type} {d : α} : ∀ {l m : List α} {i : Nat}, i < l.length → nth d (l ++ m) i = nth d l i
 | x :: l, m, 0, _ => rfl
 | x :: l, m, i + 1, h => by simp only [List.cons_append, nth]; exact Kj (by simpa using h)
theorem Kk {α : Type} {d x : α} : ∀ {l : List α}, nth d (l ++ [x]) l.length = x
 | [] => rfl
 | _ :: l => Kk (l := l)
inductive BK where
 | prop (P : Prop) (i : Decidable P)
 | var (b : Bool)
def BK.val : BK → Bool
 | .prop P i => @decide P i
 | .var b => b
def BK.yes : BK → Prop
 | .prop P _ => P
 | .var b => b = true
def BK.no : BK → Prop
 | .prop P _ => ¬ P
 | .var b => b = false
theorem BK.jW {k : BK} (h : k.val = true) : k.yes := by
 cases k with
 | prop P i => exact @of_decide_eq_true P i h
 | var b => exact h
theorem BK.tL {k : BK} (h : k.val = false) : k.no := by
 cases k with
 | prop P i => exact @of_decide_eq_false P i h
 | var b => exact h
structure Vl where
 ρ : List (Option Addr)
 β : List BK
 δ : List Nat
inductive PV where
 | lit (p : Option Addr)
 | var (i : Nat)
 | at (b o : Nat)
 | bx (i o : Nat)
def PV.den (v : Vl) : PV → Option Addr
 | .lit p => p
 | .var i => nth none v.ρ i
 | .at b o => some ⟨b, o, none⟩
 | .bx i o => some ⟨nth 0 v.δ i, o, none⟩
def PV.ok (v : Vl) : PV → Bool
 | .var i => Nat.blt i v.ρ.length
 | .bx i _ => Nat.blt i v.δ.length
 | _ => true
inductive CZ where
 | int (k : IntKind) (x : Int)
 | num (k : IntKind) (x : Int)
 | bl (b : Bool)
 | bs (i : Nat) (neg : Bool)
 | str (s : ByteArray)
 | sl (p : PV) (n c : Nat)
 | pt (p : PV)
 | fn (f : Nat) (fst cap : Array Value)
 | mp (m : Option Nat)
 | un
 | raw (v : Value)
def CZ.den (v : Vl) : CZ → Value
 | .int k x => .int k x
 | .num k x => .int k x
 | .bl b => .bool b
 | .bs i false => .bool (nth (.var false) v.β i).val
 | .bs i true => .bool (!(nth (.var false) v.β i).val)
 | .str s => .string s
 | .sl p n c => .slice (p.den v) n c
 | .pt p => .pointer (p.den v)
 | .fn f a b => .func (.func f) a b
 | .mp m => .map m
 | .un => undef
 | .raw x => x
def CZ.ok (v : Vl) : CZ → Bool
 | .bs i _ => Nat.blt i v.β.length
 | .sl p _ _ => p.ok v
 | .pt p => p.ok v
 | _ => true
inductive Gw where
 | a (x : CZ)
 | agg (l : List CZ)
def Ba (v : Vl) : List CZ → List Value
 | [] => []
 | x :: l => x.den v :: Ba v l
def wR (v : Vl) : List CZ → Bool
 | [] => true
 | x :: l => x.ok v && wR v l
def Gw.den (v : Vl) : Gw → Value
 | .a x => x.den v
 | .agg l => .agg (Ba v l).toArray
def Gw.ok (v : Vl) : Gw → Bool
 | .a x => x.ok v
 | .agg l => wR v l
inductive SV where
 | v (x : Gw)
 | S4 (l : List Gw)
def Hi (v : Vl) : List Gw → List Value
 | [] => []
 | x :: l => x.den v :: Hi v l
def pH (v : Vl) : List Gw → Bool
 | [] => true
 | x :: l => x.ok v && pH v l
def SV.den (v : Vl) : SV → Value
 | .v x => x.den v
 | .S4 l => .tuple (Hi v l).toArray
def SV.ok (v : Vl) : SV → Bool
 | .v x => x.ok v
 | .S4 l => pH v l
abbrev SV.at (x : CZ) : SV := .v (.a x)
structure Vl.le (v w : Vl) : Prop where
 ρ : ∀ i, i < v.ρ.length → nth none w.ρ i = nth none v.ρ i
 β : ∀ i, i < v.β.length → nth (.var false) w.β i = nth (.var false) v.β i
 δ : ∀ i, i < v.δ.length → nth 0 w.δ i = nth 0 v.δ i
theorem Vl.le.refl (v : Vl) : v.le v := ⟨fun _ _ => rfl, fun _ _ => rfl, fun _ _ => rfl⟩
theorem PV.Hz {v w : Vl} (h : v.le w) {p : PV} (hp : p.ok v = true) : p.den w = p.den v := by
 cases p with
 | var i => exact h.ρ i (Nat.le_of_ble_eq_true hp)
 | bx i o => simp only [PV.den]; rw [h.δ i (Nat.le_of_ble_eq_true hp)]
 | _ => rfl
theorem CZ.Hz {v w : Vl} (h : v.le w) {x : CZ} (hp : x.ok v = true) : x.den w = x.den v := by
 cases x with
 | bs i n => cases n <;> simp only [CZ.den] <;> rw [h.β i (Nat.le_of_ble_eq_true hp)]
 | sl p n c => simp only [CZ.den]; rw [PV.Hz h hp]
 | pt p => simp only [CZ.den]; rw [PV.Hz h hp]
 | _ => rfl
theorem Pf {v w : Vl} (h : v.le w) : ∀ {l : List CZ}, wR v l = true → Ba w l = Ba v l
 | [], _ => rfl
 | x :: l, hp => by
   simp only [wR, Bool.and_eq_true] at hp
   simp only [Ba]; rw [CZ.Hz h hp.1, Pf h hp.2]
theorem Gw.Hz {v w : Vl} (h : v.le w) {x : Gw} (hp : x.ok v = true) : x.den w = x.den v := by
 cases x with
 | a x => exact CZ.Hz h hp
 | agg l => simp only [Gw.den]; rw [Pf h hp]
theorem V7 {v w : Vl} (h : v.le w) : ∀ {l : List Gw}, pH v l = true → Hi w l = Hi v l
 | [], _ => rfl
 | x :: l, hp => by
   simp only [pH, Bool.and_eq_true] at hp
   simp only [Hi]; rw [Gw.Hz h hp.1, V7 h hp.2]
theorem SV.Hz {v w : Vl} (h : v.le w) {x : SV} (hp : x.ok v = true) : x.den w = x.den v := by
 cases x with
 | v x => exact Gw.Hz h hp
 | S4 l => simp only [SV.den]; rw [V7 h hp]
def PV.sub (i b o : Nat) : PV → PV
 | .var j => bif Nat.beq j i then .at b o else .var j
 | p => p
inductive G3 where
 | ptr (i b o : Nat)
 | bool (i : Nat) (t : Bool)
def PV.tell : G3 → PV → PV
 | .ptr i b o, p => p.sub i b o
 | .bool .., p => p
def CZ.tell (t : G3) : CZ → CZ
 | .bs j n => match t with
   | .bool i b => bif Nat.beq j i then .bl (bif n then !b else b) else .bs j n
   | _ => .bs j n
 | .sl p n c => .sl (p.tell t) n c
 | .pt p => .pt (p.tell t)
 | x => x
def G3.holds (v : Vl) : G3 → Prop
 | .ptr i b o => nth none v.ρ i = some ⟨b, o, none⟩
 | .bool i t => (nth (.var false) v.β i).val = t
theorem PV.EO {v : Vl} {t : G3} (h : t.holds v) {p : PV} : (p.tell t).den v = p.den v := by
 cases t with
 | bool i t => rfl
 | ptr i b o =>
   cases p with
   | var j =>
     simp only [PV.tell, PV.sub]
     cases hj : Nat.beq j i with
     | true => have := Nat.eq_of_beq_eq_true hj; subst this; exact h.symm
     | false => rfl
   | _ => rfl
theorem CZ.EO {v : Vl} {t : G3} (h : t.holds v) {x : CZ} : (x.tell t).den v = x.den v := by
 cases x with
 | bs j n =>
   cases t with
   | ptr i b o => rfl
   | bool i b =>
     simp only [CZ.tell]
     cases hj : Nat.beq j i with
     | true =>
       have := Nat.eq_of_beq_eq_true hj
       subst this
       simp only [G3.holds] at h
       cases n <;> simp only [CZ.den, cond_true, cond_false, h]
     | false => rfl
 | sl p n c => simp only [CZ.tell, CZ.den]; rw [PV.EO h]
 | pt p => simp only [CZ.tell, CZ.den]; rw [PV.EO h]
 | _ => rfl
def tells (t : G3) : List CZ → List CZ
 | [] => []
 | x :: l => x.tell t :: tells t l
theorem Nf {v : Vl} {t : G3} (h : t.holds v) : ∀ {l : List CZ}, Ba v (tells t l) = Ba v l
 | [] => rfl
 | x :: l => by simp only [tells, Ba]; rw [CZ.EO h, Nf h]
def Gw.tell (t : G3) : Gw → Gw
 | .a x => .a (x.tell t)
 | .agg l => .agg (tells t l)
theorem Gw.EO {v : Vl} {t : G3} (h : t.holds v) {x : Gw} : (x.tell t).den v = x.den v := by
 cases x with
 | a x => exact CZ.EO h
 | agg l => simp only [Gw.tell, Gw.den]; rw [Nf h]
def Ua (t : G3) : List Gw → List Gw
 | [] => []
 | x :: l => x.tell t :: Ua t l
theorem P7 {v : Vl} {t : G3} (h : t.holds v) : ∀ {l : List Gw}, Hi v (Ua t l) = Hi v l
 | [] => rfl
 | x :: l => by simp only [Ua, Hi]; rw [Gw.EO h, P7 h]
def SV.tell (t : G3) : SV → SV
 | .v x => .v (x.tell t)
 | .S4 l => .S4 (Ua t l)
theorem SV.EO {v : Vl} {t : G3} (h : t.holds v) {x : SV} : (x.tell t).den v = x.den v := by
 cases x with
 | v x => exact Gw.EO h
 | S4 l => simp only [SV.tell, SV.den]; rw [P7 h]
abbrev Fk := Nat × TypeId × List CZ
structure S where
 env : List (Nat × SV)
 bx : List Fk
 vl : Vl
 σ : Hp
def HW (v : Vl) : List (Nat × SV) → List (Nat × Value)
 | [] => []
 | (t, x) :: l => (t, x.den v) :: HW v l
def okE (v : Vl) : List (Nat × SV) → Bool
 | [] => true
 | (_, x) :: l => x.ok v && okE v l
def bj (t : G3) : List (Nat × SV) → List (Nat × SV)
 | [] => []
 | (s, x) :: l => (s, x.tell t) :: bj t l
def FC (v : Vl) : List Fk → Bx
 | [] => []
 | (i, t, cs) :: l => (nth 0 v.δ i, .cells (Ba v cs).toArray t (0, 0)) :: FC v l
def okB (v : Vl) : List Fk → Bool
 | [] => true
 | (i, _, cs) :: l => Nat.blt i v.δ.length && wR v cs && okB v l
def bm (t : G3) : List Fk → List Fk
 | [] => []
 | (i, T, cs) :: l => (i, T, tells t cs) :: bm t l
def S.e (J : Env) (s : S) : Env := LD J (HW s.vl s.env)
def S.b (s : S) : Bx := FC s.vl s.bx
def S.ok (s : S) : Bool := okE s.vl s.env && okB s.vl s.bx
def S.tell (s : S) (t : G3) : S := ⟨bj t s.env, bm t s.bx, s.vl, s.σ⟩
def S.w (s : S) (v : Vl) : S := ⟨s.env, s.bx, v, s.σ⟩
def S.put (s : S) (d : Option Nat) (x : SV) : S := match d with
 | some d => ⟨(d, x) :: s.env, s.bx, s.vl, s.σ⟩
 | none => s
def S.hp (s : S) (σ : Hp) : S := ⟨s.env, s.bx, s.vl, σ⟩
theorem bo {v w : Vl} (h : v.le w) : ∀ {l : List (Nat × SV)}, okE v l = true → HW w l = HW v l
 | [], _ => rfl
 | (t, x) :: l, hp => by
   simp only [okE, Bool.and_eq_true] at hp
   simp only [HW]; rw [SV.Hz h hp.1, bo h hp.2]
theorem bp {v w : Vl} (h : v.le w) : ∀ {l : List Fk}, okB v l = true → FC w l = FC v l
 | [], _ => rfl
 | (i, t, cs) :: l, hp => by
   simp only [okB, Bool.and_eq_true] at hp
   simp only [FC]; rw [Pf h hp.1.2, bp h hp.2, h.δ i (Nat.le_of_ble_eq_true hp.1.1)]
theorem S5 {v : Vl} {t : G3} (h : t.holds v) : ∀ {l : List (Nat × SV)}, HW v (bj t l) = HW v l
 | [] => rfl
 | (s, x) :: l => by simp only [bj, HW]; rw [SV.EO h, S5 h]
theorem S6 {v : Vl} {t : G3} (h : t.holds v) : ∀ {l : List Fk}, FC v (bm t l) = FC v l
 | [] => rfl
 | (i, T, cs) :: l => by simp only [bm, FC]; rw [Nf h, S6 h]
theorem S.e_w {J : Env} {s : S} {v : Vl} (hs : s.ok = true) (h : s.vl.le v) : (s.w v).e J = s.e J := by
 simp only [S.ok, Bool.and_eq_true] at hs
 simp only [S.e, S.w, bo h hs.1]
theorem S.b_w {s : S} {v : Vl} (hs : s.ok = true) (h : s.vl.le v) : (s.w v).b = s.b := by
 simp only [S.ok, Bool.and_eq_true] at hs
 simp only [S.b, S.w, bp h hs.2]
theorem S.wS {J : Env} {s : S} {t : G3} (h : t.holds s.vl) : (s.tell t).e J = s.e J := by
 simp only [S.e, S.tell, S5 h]
theorem S.wW {s : S} {t : G3} (h : t.holds s.vl) : (s.tell t).b = s.b := by
 simp only [S.b, S.tell, S6 h]
theorem S.IV {J : Env} {s : S} {d : Option Nat} {x : SV} : (s.put d x).e J = Tw.put (s.e J) d (x.den s.vl) := by
 cases d <;> rfl
theorem S.IW {s : S} {d : Option Nat} {x : SV} : (s.put d x).b = s.b := by cases d <;> rfl
theorem S.Fm {s : S} {d : Option Nat} {x : SV} : (s.put d x).σ = s.σ := by cases d <;> rfl
def Ub : List (Nat × SV) → Nat → Option SV
 | [], _ => none
 | (t, x) :: l, i => bif Nat.beq i t then some x else Ub l i
theorem Ep {v : Vl} {J : Env} : ∀ {l : List (Nat × SV)} {i : Nat} {x : SV}, Ub l i = some x → LD J (HW v l) i = x.den v
 | (t, y) :: l, i, x, h => by
   simp only [Ub] at h
   simp only [HW, LD, tD]
   cases hi : Nat.beq i t with
   | true => rw [hi] at h; simp only [cond_true] at h ⊢; cases h; rfl
   | false => rw [hi] at h; simp only [cond_false] at h ⊢; exact Ep h
def wX : Value → CZ
 | .int k x => .num k x
 | .bool b => .bl b
 | .string s => .str s
 | .slice p n c => .sl (.lit p) n c
 | .pointer p => .pt (.lit p)
 | .map m => .mp m
 | v => .raw v
theorem V8 {vl : Vl} (v : Value) : (wX v).den vl = v := by cases v <;> rfl
def OL : List Value → List CZ
 | [] => []
 | x :: l => wX x :: OL l
theorem IX {vl : Vl} : ∀ l : List Value, Ba vl (OL l) = l
 | [] => rfl
 | x :: l => by simp only [OL, Ba]; rw [V8, IX]
def jX : Value → Gw
 | .agg cs => .agg (OL cs.toList)
 | v => .a (wX v)
theorem V9 {vl : Vl} (v : Value) : (jX v).den vl = v := by
 cases v
 case agg cs => simp only [jX, Gw.den, IX]
 all_goals (simp only [jX, Gw.den]; exact V8 _)
def bq : List Value → List Gw
 | [] => []
 | x :: l => jX x :: bq l
theorem S7 {vl : Vl} : ∀ l : List Value, Hi vl (bq l) = l
 | [] => rfl
 | x :: l => by simp only [bq, Hi]; rw [V9, S7]
def svV : Value → SV
 | .tuple vs => .S4 (bq vs.toList)
 | v => .v (jX v)
theorem pI {vl : Vl} (v : Value) : (svV v).den vl = v := by
 cases v
 case tuple cs => simp only [svV, SV.den, S7]
 all_goals (simp only [svV, SV.den]; exact V9 _)
def S.op (s : S) : Operand → Option SV
 | .tmp t => Ub s.env t
 | .const v => some (svV v)
 | .func f => some (.at (.fn f #[] #[]))
 | .global _ => none
theorem S.pJ {J : Env} {s : S} {x : Operand} {v : SV} (h : s.op x = some v) : AE (s.e J) x = v.den s.vl := by
 cases x with
 | tmp t => exact Ep h
 | const c => simp only [S.op, Option.some.injEq] at h; subst h; exact (pI c).symm
 | func f => simp only [S.op, Option.some.injEq] at h; subst h; rfl
 | global g => cases h
def Vl.jY (v : Vl) (p : Option Addr) : Vl := ⟨v.ρ ++ [p], v.β, v.δ⟩
def Vl.ZM (v : Vl) (k : BK) : Vl := ⟨v.ρ, v.β ++ [k], v.δ⟩
def Vl.pK (v : Vl) (b : Nat) : Vl := ⟨v.ρ, v.β, v.δ ++ [b]⟩
theorem Vl.pL (v : Vl) (p : Option Addr) : v.le (v.jY p) := ⟨fun _ h => Kj h, fun _ _ => rfl, fun _ _ => rfl⟩
theorem Vl.br (v : Vl) (k : BK) : v.le (v.ZM k) := ⟨fun _ _ => rfl, fun _ h => Kj h, fun _ _ => rfl⟩
theorem Vl.pM (v : Vl) (b : Nat) : v.le (v.pK b) := ⟨fun _ _ => rfl, fun _ _ => rfl, fun _ h => Kj h⟩
theorem Vl.le.trans {u v w : Vl} (h : u.le v) (g : v.le w) (hl : u.ρ.length ≤ v.ρ.length ∧ u.β.length ≤ v.β.length ∧ u.δ.length ≤ v.δ.length) : u.le w :=
 ⟨fun i hi => (g.ρ i (by omega)).trans (h.ρ i hi), fun i hi => (g.β i (by omega)).trans (h.β i hi), fun i hi => (g.δ i (by omega)).trans (h.δ i hi)⟩
end Tw
end
section
namespace Tw
open Go
variable [I7]
structure S.Same (s s' : S) : Prop where
 e : ∀ J, s'.e J = s.e J
 b : s'.b = s.b
 σ : s'.σ = s.σ
theorem S.Same.refl (s : S) : s.Same s := ⟨fun _ => rfl, rfl, rfl⟩
theorem S.Same.trans {s s' s'' : S} (h : s.Same s') (g : s'.Same s'') : s.Same s'' := ⟨fun J => (g.e J).trans (h.e J), g.b.trans h.b, g.σ.trans h.σ⟩
theorem S.P8 {s : S} {v : Vl} (hs : s.ok = true) (h : s.vl.le v) : s.Same (s.w v) := ⟨fun J => S.e_w hs h, S.b_w hs h, rfl⟩
theorem S.IY {s : S} {t : G3} (h : t.holds s.vl) : s.Same (s.tell t) := ⟨fun J => S.wS h, S.wW h, rfl⟩
def S.boo (s : S) (k : BK) (neg : Bool) (K : SV → S → Prop) : Prop :=
 match s.ok with
 | true => K (.at (.bs s.vl.β.length neg)) (s.w (s.vl.ZM k))
 | false => False
theorem S.eM {s : S} {k : BK} {neg : Bool} {K : SV → S → Prop} (h : s.boo k neg K) : ∃ v s', s.Same s' ∧ v.den s'.vl = .bool (bif neg then !k.val else k.val) ∧ K v s' := by
 unfold S.boo at h
 cases hs : s.ok with
 | false => rw [hs] at h; cases h
 | true =>
   rw [hs] at h
   refine ⟨_, _, S.P8 hs (Vl.br _ _), ?_, h⟩
   cases neg <;> simp only [SV.den, Gw.den, CZ.den, S.w, Vl.ZM, Kk, cond_true, cond_false]
def S.onB (s : S) (i : Nat) (neg : Bool) (K : Bool → S → Prop) : Prop :=
 match neg with
 | false => ((nth (.var false) s.vl.β i).yes → K true (s.tell (.bool i true))) ∧ ((nth (.var false) s.vl.β i).no → K false (s.tell (.bool i false)))
 | true => ((nth (.var false) s.vl.β i).no → K true (s.tell (.bool i false))) ∧ ((nth (.var false) s.vl.β i).yes → K false (s.tell (.bool i true)))
theorem S.eN {s : S} {i : Nat} {neg : Bool} {K : Bool → S → Prop} (h : s.onB i neg K) : ∃ t s', s.Same s' ∧ s'.vl = s.vl ∧ (CZ.bs i neg).den s.vl = .bool t ∧ K t s' := by
 cases hb : (nth (.var false) s.vl.β i).val with
 | true =>
   cases neg with
   | false => exact ⟨true, _, S.IY (t := .bool i true) hb, rfl, by simp only [CZ.den, hb], h.1 (BK.jW hb)⟩
   | true => exact ⟨false, _, S.IY (t := .bool i true) hb, rfl, by simp only [CZ.den, hb]; rfl, h.2 (BK.jW hb)⟩
 | false =>
   cases neg with
   | false => exact ⟨false, _, S.IY (t := .bool i false) hb, rfl, by simp only [CZ.den, hb], h.2 (BK.tL hb)⟩
   | true => exact ⟨true, _, S.IY (t := .bool i false) hb, rfl, by simp only [CZ.den, hb]; rfl, h.1 (BK.tL hb)⟩
def S.pN (s : S) (v : Option SV) (K : Bool → S → Prop) : Prop :=
 match v with
 | some (.v (.a (.bl b))) => K b s
 | some (.v (.a (.bs i n))) => s.onB i n K
 | _ => False
theorem S.Fo {s : S} {v : Option SV} {K : Bool → S → Prop} (h : s.pN v K) : ∃ t s' x, s.Same s' ∧ s'.vl = s.vl ∧ v = some x ∧ x.den s.vl = .bool t ∧ K t s' := by
 unfold S.pN at h
 split at h
 · exact ⟨_, s, _, .refl s, rfl, rfl, rfl, h⟩
 · obtain ⟨t, s', h1, h2, h3, h4⟩ := S.eN h
   exact ⟨t, s', _, h1, h2, rfl, h3, h4⟩
 · cases h
def S.onP (s : S) (p : PV) (K : PV → S → Prop) : Prop :=
 match p with
 | .at b o => K (.at b o) s
 | .bx i o => K (.bx i o) s
 | .var i => ∃ (b o : Nat), nth none s.vl.ρ i = some ⟨b, o, none⟩ ∧ K (.at b o) (s.tell (.ptr i b o))
 | .lit _ => False
def PV.DJ (v : Vl) : PV → Nat
 | .at b _ => b
 | .bx i _ => nth 0 v.δ i
 | _ => 0
def PV.off : PV → Nat
 | .at _ o => o
 | .bx _ o => o
 | _ => 0
def PV.mv : PV → Nat → PV
 | .at b _, o => .at b o
 | .bx i _, o => .bx i o
 | p, _ => p
def PV.wY : PV → Bool
 | .at .. => true
 | .bx .. => true
 | _ => false
theorem PV.JH {v : Vl} {p : PV} (h : p.wY = true) : p.den v = some ⟨p.DJ v, p.off, none⟩ := by cases p <;> first | rfl | cases h
theorem PV.ZN {v : Vl} {p : PV} {o : Nat} (h : p.wY = true) : (p.mv o).den v = some ⟨p.DJ v, o, none⟩ := by cases p <;> first | rfl | cases h
theorem S.S9 {s : S} {p : PV} {K : PV → S → Prop} (h : s.onP p K) : ∃ q s', s.Same s' ∧ s'.vl = s.vl ∧ q.wY = true ∧ q.den s.vl = p.den s.vl ∧ K q s' := by
 unfold S.onP at h
 split at h
 · exact ⟨_, s, .refl s, rfl, rfl, rfl, h⟩
 · exact ⟨_, s, .refl s, rfl, rfl, rfl, h⟩
 · obtain ⟨b, o, h1, h2⟩ := h
   exact ⟨.at b o, _, S.IY (t := .ptr _ b o) h1, rfl, rfl, h1.symm, h2⟩
 · cases h
def Yp (P : Program) (t : TypeId) : Option Nat := (P.info? t).map (·.size)
theorem Dd {P : Program} {t : TypeId} {n : Nat} (h : Yp P t = some n) : ∀ w, (Go.sizeOf t).run P w = .ok n w := fun w => by
 unfold Yp at h
 cases hi : P.info? t with
 | none => rw [hi] at h; cases h
 | some i => rw [hi] at h; simp only [Option.map_some, Option.some.injEq] at h; subst h; simp [Go.sizeOf, typeInfo, hi]
def ZO (P : Program) (t : TypeId) : Option Bool := match P.underlying t with
 | some (.struct _) => some true
 | some (.array _ _) => some true
 | some _ => some false
 | none => none
theorem F9 {P : Program} {t : TypeId} {b : Bool} (h : ZO P t = some b) : ∀ w, (isAgg t).run P w = .ok b w := fun w => by
 unfold ZO at h
 cases hi : P.underlying t with
 | none => rw [hi] at h; cases h
 | some d =>
   rw [hi] at h
   cases d <;> simp only [Option.some.injEq] at h <;> subst h <;> simp [isAgg, run_underlying hi]
def JI : Option SV → Option (IntKind × Int)
 | some (.v (.a (.int k x))) => some (k, x)
 | some (.v (.a (.num k x))) => some (k, x)
 | _ => none
theorem Cw {v : Option SV} {k : IntKind} {x : Int} (h : JI v = some (k, x)) : ∃ u, v = some u ∧ ∀ vl, u.den vl = .int k x := by
 unfold JI at h
 split at h
 · cases h; exact ⟨_, rfl, fun _ => rfl⟩
 · cases h; exact ⟨_, rfl, fun _ => rfl⟩
 · cases h
def YP (P : Program) (op : Op) (ty : TypeId) (s : S) (K : SV → S → Prop) : Prop := ∃ v s', s.Same s' ∧ (∀ J σ, Yd P (s.e J) s.b σ op ty (v.den s'.vl)) ∧ K v s'
def Ng (wr : Bool) (k : IntKind) (z : Int) (s : S) (K : SV → S → Prop) : Prop :=
 match wr, k with
 | false, .i64 => AO z ∧ K (.at (.int .i64 z)) s
 | _, _ => ∀ x, x = k.wrap z → K (.at (.int k x)) s
theorem Uc {wr : Bool} {k : IntKind} {z : Int} {s : S} {K : SV → S → Prop} (h : Ng wr k z s K) : ∃ x, x = k.wrap z ∧ K (.at (.int k x)) s := by
 unfold Ng at h
 split at h
 · exact ⟨z, h.1.wrap.symm, h.2⟩
 · exact ⟨_, rfl, h _ rfl⟩
def wZ (wr : Bool) (b : BinOp) (k : IntKind) (a : Int) (k' : IntKind) (c : Int) (s : S) (K : SV → S → Prop) : Prop :=
 match b with
 | .shl => ((0 : Int) ≤ c ∧ c ≤ ((IntKind.bits k : Nat) : Int)) ∧ ∀ x, x = k.wrap (a * 2 ^ c.toNat) → K (.at (.int k x)) s
 | .shr => ((0 : Int) ≤ c ∧ c ≤ ((IntKind.bits k : Nat) : Int)) ∧ ∀ x, x = a / 2 ^ c.toNat → K (.at (.int k x)) s
 | b => match decide (k = k') with
   | false => False
   | true => match b with
     | .lss => s.boo (.prop (a < c) inferInstance) false K
     | .leq => s.boo (.prop (a ≤ c) inferInstance) false K
     | .gtr => s.boo (.prop (c < a) inferInstance) false K
     | .geq => s.boo (.prop (c ≤ a) inferInstance) false K
     | .eql => s.boo (.prop (a = c) inferInstance) false K
     | .neq => s.boo (.prop (a ≠ c) inferInstance) false K
     | .add => Ng wr k (a + c) s K
     | .sub => Ng wr k (a - c) s K
     | .mul => Ng wr k (a * c) s K
     | .and => ∀ x, x = Go.bits .and k a c → K (.at (.int k x)) s
     | .or => ∀ x, x = Go.bits .or k a c → K (.at (.int k x)) s
     | .xor => ∀ x, x = Go.bits .xor k a c → K (.at (.int k x)) s
     | .andNot => ∀ x, x = Go.bits .andNot k a c → K (.at (.int k x)) s
     | .quo => c ≠ (0 : Int) ∧ ∀ x, x = k.wrap (a.tdiv c) → K (.at (.int k x)) s
     | .rem => c ≠ (0 : Int) ∧ ∀ x, x = a.tmod c → K (.at (.int k x)) s
     | _ => False
section
variable {P : Program} {s : S} {K : SV → S → Prop} {T T' ty : TypeId} {x y z : Operand}
theorem H0 {op : Op} {k : BK} {neg : Bool} (h : s.boo k neg K) (hy : ∀ J σ, Yd P (s.e J) s.b σ op ty (.bool (bif neg then !k.val else k.val))) : YP P op ty s K := by
 obtain ⟨v, s', h1, h2, h3⟩ := S.eM h
 exact ⟨v, s', h1, fun J σ => by rw [h2]; exact hy J σ, h3⟩
theorem H5 {op : Op} {k : IntKind} {z : Int} (h : ∀ x, x = z → K (.at (.int k x)) s) (hy : ∀ J σ, Yd P (s.e J) s.b σ op ty (.int k z)) : YP P op ty s K :=
 ⟨.at (.int k z), s, .refl s, hy, h _ rfl⟩
theorem CP {op : Op} {v : SV} (h : K v s) (hy : ∀ J σ, Yd P (s.e J) s.b σ op ty (v.den s.vl)) : YP P op ty s K := ⟨v, s, .refl s, hy, h⟩
theorem ZP {wr : Bool} {b : BinOp} {k k' : IntKind} {a c : Int} (h : wZ wr b k a k' c s K) (hx : ∀ J, AE (s.e J) x = .int k a) (hy : ∀ J, AE (s.e J) y = .int k' c) : YP P (.binOp b T x y T') ty s K := by
 have ar : ∀ {z : Int} {op : Op}, Ng wr k z s K → (∀ J σ, Yd P (s.e J) s.b σ op ty (.int k (k.wrap z))) → YP P op ty s K := fun h hy => by
   obtain ⟨x, rfl, h⟩ := Uc h
   exact CP h hy
 unfold wZ at h
 split at h
 · exact H5 h.2 fun J σ => Y.shl h.1.1 h.1.2 (hx J) (hy J)
 · exact H5 h.2 fun J σ => Y.shr h.1.1 h.1.2 (hx J) (hy J)
 · split at h
   · cases h
   · rename_i hk
     have hk := of_decide_eq_true hk
     subst hk
     split at h
     · exact H0 h fun J σ => Y.lss (hx J) (hy J)
     · exact H0 h fun J σ => Y.leq (hx J) (hy J)
     · exact H0 h fun J σ => Y.gtr (hx J) (hy J)
     · exact H0 h fun J σ => Y.geq (hx J) (hy J)
     · exact H0 h fun J σ => Y.eql (hx J) (hy J)
     · exact H0 h fun J σ => Y.neq (hx J) (hy J)
     · exact ar h fun J σ => Y.add (hx J) (hy J)
     · exact ar h fun J σ => Y.sub (hx J) (hy J)
     · exact ar h fun J σ => Y.mul (hx J) (hy J)
     · exact H5 h fun J σ => Y.bits (by simp) (hx J) (hy J)
     · exact H5 h fun J σ => Y.bits (by simp) (hx J) (hy J)
     · exact H5 h fun J σ => Y.bits (by simp) (hx J) (hy J)
     · exact H5 h fun J σ => Y.bits (by simp) (hx J) (hy J)
     · exact H5 h.2 fun J σ => Y.quo h.1 (hx J) (hy J)
     · exact H5 h.2 fun J σ => Y.rem h.1 (hx J) (hy J)
     · cases h
def asS : Option SV → Option ByteArray
 | some (.v (.a (.str u))) => some u
 | _ => none
def jZ : Option SV → Option PV
 | some (.v (.a (.pt p))) => some p
 | _ => none
theorem P9 {v : Option SV} {u : ByteArray} (h : asS v = some u) : ∃ w, v = some w ∧ ∀ vl, w.den vl = .string u := by
 unfold asS at h
 split at h
 · cases h; exact ⟨_, rfl, fun _ => rfl⟩
 · cases h
theorem FD {v : Option SV} {p : PV} (h : jZ v = some p) : ∃ w, v = some w ∧ ∀ vl, w.den vl = .pointer (p.den vl) := by
 unfold jZ at h
 split at h
 · cases h; exact ⟨_, rfl, fun _ => rfl⟩
 · cases h
def ABL (b : BinOp) (u w : ByteArray) (s : S) (K : SV → S → Prop) : Prop :=
 match b with
 | .eql => s.boo (.var (ByteArray.toList u == ByteArray.toList w)) false K
 | .neq => s.boo (.var (ByteArray.toList u == ByteArray.toList w)) true K
 | .add => (ByteArray.size u + ByteArray.size w ≤ 9223372036854775807) ∧ K (.at (.str (u ++ w))) s
 | _ => False
def isNil : PV → Bool
 | .lit none => true
 | _ => false
def ABM (b : BinOp) (p q : PV) (s : S) (K : SV → S → Prop) : Prop :=
 match isNil q with
 | false => False
 | true => match b with
   | .eql => match p.wY with
     | true => K (.at (.bl false)) s
     | false => s.boo (.var (Option.isNone (p.den s.vl))) false K
   | .neq => match p.wY with
     | true => K (.at (.bl true)) s
     | false => s.boo (.var (Option.isSome (p.den s.vl))) false K
   | _ => False
def ABN (b : BinOp) (x y : Operand) (s : S) (K : SV → S → Prop) : Prop :=
 match b with
 | .eql => s.pN (s.op x) fun t s => s.pN (s.op y) fun u s => K (.at (.bl (t == u))) s
 | .neq => s.pN (s.op x) fun t s => s.pN (s.op y) fun u s => K (.at (.bl (!(t == u)))) s
 | _ => False
def wa (P : Program) (wr : Bool) (b : BinOp) (T : TypeId) (x y : Operand) (s : S) (K : SV → S → Prop) : Prop :=
 match JI (s.op x), JI (s.op y) with
 | some (k, a), some (k', c) => wZ wr b k a k' c s K
 | _, _ => match P.underlying T with
   | some .string => match asS (s.op x), asS (s.op y) with
     | some u, some w => ABL b u w s K
     | _, _ => False
   | some (.pointer _) => match jZ (s.op x), jZ (s.op y) with
     | some p, some q => ABM b p q s K
     | _, _ => False
   | some .bool => ABN b x y s K
   | _ => False
theorem ev {J : Env} {v : SV} (h : s.op x = some v) : AE (s.e J) x = v.den s.vl := S.pJ h
theorem ZQ {wr : Bool} {b : BinOp} (h : wa P wr b T x y s K) : YP P (.binOp b T x y T') ty s K := by
 unfold wa at h
 split at h
 · rename_i k a k' c h1 h2
   obtain ⟨u, e1, e2⟩ := Cw h1
   obtain ⟨w, e3, e4⟩ := Cw h2
   exact ZP h (fun J => by rw [ev e1, e2]) (fun J => by rw [ev e3, e4])
 · split at h
   · rename_i hT
     split at h
     · rename_i u w h1 h2
       obtain ⟨_, e1, e2⟩ := P9 h1
       obtain ⟨_, e3, e4⟩ := P9 h2
       unfold ABL at h
       split at h
       · exact H0 h fun J σ => Y.AJC hT (by rw [ev e1, e2]) (by rw [ev e3, e4])
       · exact H0 h fun J σ => Y.AJD hT (by rw [ev e1, e2]) (by rw [ev e3, e4])
       · exact CP h.2 fun J σ => Y.AJK hT (by rw [ev e1, e2]) (by rw [ev e3, e4]) h.1
       · cases h
     · cases h
   · rename_i hT
     split at h
     · rename_i p q h1 h2
       obtain ⟨_, e1, e2⟩ := FD h1
       obtain ⟨_, e3, e4⟩ := FD h2
       unfold ABM at h
       split at h
       · cases h
       · rename_i hq
         have hqn : q.den s.vl = none := by
           unfold isNil at hq
           split at hq
           · rfl
           · cases hq
         have e5 : ∀ J, AE (s.e J) y = .pointer none := fun J => by rw [ev e3, e4, hqn]
         split at h
         · split at h
           · rename_i hp
             exact CP h fun J σ => by
               have := Y.jQ (P := P) (e := s.e J) (bx := s.b) (σ := σ) (ty := ty) (T' := T') hT (x := x) (y := y) (q := p.den s.vl) (by rw [ev e1, e2]) (e5 J)
               rw [PV.JH hp] at this; exact this
           · exact H0 h fun J σ => Y.jQ hT (by rw [ev e1, e2]) (e5 J)
         · split at h
           · rename_i hp
             exact CP h fun J σ => by
               have := Y.jR (P := P) (e := s.e J) (bx := s.b) (σ := σ) (ty := ty) (T' := T') hT (x := x) (y := y) (q := p.den s.vl) (by rw [ev e1, e2]) (e5 J)
               rw [PV.JH hp] at this; exact this
           · exact H0 h fun J σ => Y.jR hT (by rw [ev e1, e2]) (e5 J)
         · cases h
     · cases h
   · rename_i hT
     unfold ABN at h
     split at h
     · obtain ⟨t, s1, v1, h1, h2, h3, h4, h⟩ := S.Fo h
       obtain ⟨u, s2, v2, g1, g2, g3, g4, h⟩ := S.Fo h
       exact ⟨_, s2, h1.trans g1, fun J σ => Y.AJA hT (by rw [ev h3, h4]) (by rw [← h1.e J, ev g3, g4]), h⟩
     · obtain ⟨t, s1, v1, h1, h2, h3, h4, h⟩ := S.Fo h
       obtain ⟨u, s2, v2, g1, g2, g3, g4, h⟩ := S.Fo h
       exact ⟨_, s2, h1.trans g1, fun J σ => Y.AJB hT (by rw [ev h3, h4]) (by rw [← h1.e J, ev g3, g4]), h⟩
     · cases h
   · cases h
end
def S.val (s : S) (x : Operand) (K : SV → S → Prop) : Prop := match s.op x with
 | some v => K v s
 | none => False
def tM (x y z : Operand) (s : S) (K : SV → S → Prop) : Prop := s.pN (s.op z) fun t s => match t with
 | true => s.val x K
 | false => s.val y K
def wc (x : Operand) (s : S) (K : SV → S → Prop) : Prop := match s.op x with
 | some (.v (.a (.bl true))) => K (.at (.bl false)) s
 | some (.v (.a (.bl false))) => K (.at (.bl true)) s
 | some (.v (.a (.bs i n))) => K (.at (.bs i (!n))) s
 | _ => False
def we (x : Operand) (s : S) (K : SV → S → Prop) : Prop := match JI (s.op x) with
 | some (k, a) => ∀ x, x = k.wrap (0 - a) → K (.at (.int k x)) s
 | none => False
def ja (P : Program) (T T' : TypeId) (x : Operand) (s : S) (K : SV → S → Prop) : Prop := match (P.underlying T).isSome, P.underlying T' with
 | true, some (.int k') => match s.op x with
   | some (.v (.a (.num k a))) => K (.at (.num k' (k'.wrap a))) s
   | some (.v (.a (.int k a))) => ∀ x, x = k'.wrap a → K (.at (.int k' x)) s
   | _ => False
 | _, _ => False
def wg (P : Program) (T : TypeId) (x : Operand) (f : Nat) (s : S) (K : SV → S → Prop) : Prop := match P.underlying T with
 | some (.struct fs) => match fs[f]? with
   | some fd => match Yp P fd.type, jZ (s.op x) with
     | some (_ + 1), some p => match p.wY with
       | true => K (.at (.pt (p.mv (p.off + fd.offset)))) s
       | false => False
     | _, _ => False
   | none => False
 | _ => False
def A0 {α : Type} : List α → Nat → Option α
 | [], _ => none
 | x :: _, 0 => some x
 | _ :: l, n + 1 => A0 l n
def wh (x : Operand) (i : Nat) (s : S) (K : SV → S → Prop) : Prop := match s.op x with
 | some (.S4 l) => match A0 l i with
   | some u => K (.v u) s
   | none => False
 | _ => False
def ZR (P : Program) (T : TypeId) (x : Operand) (f : Nat) (s : S) (K : SV → S → Prop) : Prop := match P.underlying T, s.op x with
 | some (.struct fs), some (.v (.agg l)) => match fs[f]? with
   | some fd => match ZO P fd.type with
     | some false => match A0 l fd.offset with
       | some u => K (.at u) s
       | none => False
     | some true => match Yp P fd.type with
       | some n => K (.v (.agg ((l.drop fd.offset).take n))) s
       | none => False
     | none => False
   | none => False
 | _, _ => False
def isNum : Option SV → Bool
 | some (.v (.a (.num _ _))) => true
 | _ => false
def wi (P : Program) (T : TypeId) (x y : Operand) (s : S) (K : SV → S → Prop) : Prop := match JI (s.op y) with
 | none => False
 | some (_, i) => match P.underlying T with
   | some (.slice E) => match Yp P E, s.op x with
     | some z, some (.v (.a (.sl p n c))) => s.onP p fun q s => ((0 : Int) ≤ i ∧ i < ((n : Nat) : Int)) ∧ K (.at (.pt (q.mv (q.off + i.toNat * z)))) s
     | _, _ => False
   | some (.array n E) => match Yp P E, jZ (s.op x) with
     | some z, some p => match p.wY with
       | false => False
       | true => match isNum (s.op y) with
         | true => match decide (0 ≤ i ∧ i < (n : Int)) with
           | true => K (.at (.pt (p.mv (p.off + i.toNat * z)))) s
           | false => False
         | false => ((0 : Int) ≤ i ∧ i < ((n : Nat) : Int)) ∧ K (.at (.pt (p.mv (p.off + i.toNat * z)))) s
     | _, _ => False
   | _ => False
def jb (P : Program) (T : TypeId) (x y : Operand) (s : S) (K : SV → S → Prop) : Prop := match P.underlying T, asS (s.op x), JI (s.op y) with
 | some .string, some w, some (_, i) => ∃ u : UInt8, (0 : Int) ≤ i ∧ (ByteArray.data w)[Int.toNat i]? = some u ∧ K (.at (.int .u8 ((UInt8.toNat u : Nat) : Int))) s
 | _, _, _ => False
def wj (x : Operand) (s : S) (K : SV → S → Prop) : Prop := match s.op x with
 | some (.v (.a (.fn f a b))) => K (.at (.fn f a b)) s
 | some (.v (.a (.pt p))) => s.onP p fun q s => K (.at (.pt q)) s
 | _ => False
def S.WA (s : S) : List Operand → Option (List SV)
 | [] => some []
 | x :: l => match s.op x, s.WA l with
   | some v, some r => some (v :: r)
   | _, _ => none
def Er (vl : Vl) : List SV → List Value
 | [] => []
 | x :: l => x.den vl :: Er vl l
def wk (fn : Fn) (xs ys : Array Operand) (s : S) (K : SV → S → Prop) : Prop := match fn with
 | .func f => match s.WA xs.toList, s.WA ys.toList with
   | some a, some b => K (.at (.fn f (Er s.vl a).toArray (Er s.vl b).toArray)) s
   | _, _ => False
 | _ => False
def ZS (P : Program) (T : TypeId) (x : Operand) (s : S) (K : SV → S → Prop) : Prop := match P.underlying T with
 | some d => match isIf d with
   | false => match s.op x with
     | some v => K (.at (.raw (.iface T (v.den s.vl)))) s
     | none => False
   | true => False
 | none => False
def wm (P : Program) (x : Operand) (ts : Array TypeId) (s : S) (K : SV → S → Prop) : Prop := match ts.toList, s.op x with
 | [T], some (.v (.a (.sl _ n _))) => match P.underlying T with
   | some (.slice _) => K (.at (.int .i64 ((n : Nat) : Int))) s
   | _ => False
 | [T], some (.v (.a (.str w))) => match P.underlying T with
   | some .string => K (.at (.int .i64 ((ByteArray.size w : Nat) : Int))) s
   | _ => False
 | _, _ => False
def wo (P : Program) (x : Operand) (ts : Array TypeId) (s : S) (K : SV → S → Prop) : Prop := match ts.toList, s.op x with
 | [T], some (.v (.a (.sl _ _ c))) => match P.underlying T with
   | some (.slice _) => K (.at (.int .i64 ((c : Nat) : Int))) s
   | _ => False
 | _, _ => False
section
variable {P : Program} {s : S} {K : SV → S → Prop} {T T' ty : TypeId} {x y z : Operand}
theorem TA {op : Op} (h : s.val x K) (hy : ∀ v J σ, AE (s.e J) x = v → Yd P (s.e J) s.b σ op ty v) : YP P op ty s K := by
 unfold S.val at h
 split at h
 · rename_i v hv
   exact CP h fun J σ => hy _ J σ (ev hv)
 · cases h
theorem WB (h : tM x y z s K) : YP P (.pick z x y) ty s K := by
 obtain ⟨t, s1, v1, h1, h2, h3, h4, h⟩ := S.Fo h
 have hz : ∀ J, AE (s.e J) z = .bool t := fun J => by rw [ev h3, h4]
 cases t with
 | true =>
   simp only [S.val] at h
   split at h
   · rename_i v hv
     exact ⟨v, s1, h1, fun J σ => Y.tG (hz J) (by rw [← h1.e J]; exact ev hv), h⟩
   · cases h
 | false =>
   simp only [S.val] at h
   split at h
   · rename_i v hv
     exact ⟨v, s1, h1, fun J σ => Y.tH (hz J) (by rw [← h1.e J]; exact ev hv), h⟩
   · cases h
theorem ZT (h : wc x s K) : YP P (.unOp .not T x) ty s K := by
 unfold wc at h
 split at h
 · rename_i hv; exact CP h fun J σ => Y.not (p := true) (by rw [ev hv]; rfl)
 · rename_i hv; exact CP h fun J σ => Y.not (p := false) (by rw [ev hv]; rfl)
 · rename_i i n hv
   refine CP h fun J σ => ?_
   cases n with
   | false => exact Y.not (by rw [ev hv]; rfl)
   | true =>
     have := Y.not (P := P) (e := s.e J) (bx := s.b) (σ := σ) (ty := ty) (T := T) (x := x) (p := !(nth (.var false) s.vl.β i).val) (by rw [ev hv]; rfl)
     rw [Bool.not_not] at this
     exact this
 · cases h
theorem ZU (h : we x s K) : YP P (.unOp .neg T x) ty s K := by
 unfold we at h
 split at h
 · rename_i k a hv
   obtain ⟨u, e1, e2⟩ := Cw hv
   exact H5 h fun J σ => Y.neg (by rw [ev e1, e2])
 · cases h
theorem WC (h : ja P T T' x s K) : YP P (.convert T T' x) ty s K := by
 unfold ja at h
 split at h
 · rename_i h1 h2
   split at h
   · rename_i hv; exact CP h fun J σ => Y.conv h1 h2 (by rw [ev hv]; rfl)
   · rename_i hv; exact H5 h fun J σ => Y.conv h1 h2 (by rw [ev hv]; rfl)
   · cases h
 · cases h
theorem ZV {f : Nat} (h : wg P T x f s K) : YP P (.fieldAddr T x f) ty s K := by
 unfold wg at h
 split at h
 · rename_i fs hT
   split at h
   · rename_i fd hf
     split at h
     · rename_i n p hz hp
       split at h
       · rename_i hA
         obtain ⟨u, e1, e2⟩ := FD hp
         refine CP h fun J σ => ?_
         have := Y.fieldAddr (P := P) (e := s.e J) (bx := s.b) (σ := σ) (ty := ty) (x := x) (a' := ⟨p.DJ s.vl, p.off + fd.offset, none⟩) hT hf (Dd hz) (by rw [ev e1, e2, PV.JH hA]) rfl
         simpa only [SV.den, Gw.den, CZ.den, PV.ZN hA] using this
       · cases h
     · cases h
   · cases h
 · cases h
theorem Nh {vl : Vl} : ∀ {l : List CZ} {i : Nat} {u : CZ}, A0 l i = some u → (Ba vl l)[i]? = some (u.den vl)
 | x :: l, 0, u, h => by simp only [A0, Option.some.injEq] at h; subst h; rfl
 | x :: l, i + 1, u, h => by simp only [A0] at h; simp only [Ba, List.getElem?_cons_succ]; exact Nh h
theorem QA {vl : Vl} : ∀ {l : List Gw} {i : Nat} {u : Gw}, A0 l i = some u → (Hi vl l)[i]? = some (u.den vl)
 | x :: l, 0, u, h => by simp only [A0, Option.some.injEq] at h; subst h; rfl
 | x :: l, i + 1, u, h => by simp only [A0] at h; simp only [Hi, List.getElem?_cons_succ]; exact QA h
theorem QB (vl : Vl) : ∀ l : List CZ, Ba vl l = l.map (CZ.den vl)
 | [] => rfl
 | x :: l => by simp only [Ba, List.map_cons]; rw [QB vl l]
theorem ZW {i : Nat} (h : wh x i s K) : YP P (.extract x i) ty s K := by
 unfold wh at h
 split at h
 · rename_i l hv
   split at h
   · rename_i u hu
     exact CP h fun J σ => Y.extract (by rw [ev hv]; rfl) (by simpa [SV.den] using QA hu)
   · cases h
 · cases h
theorem Ud {f : Nat} (h : ZR P T x f s K) : YP P (.field T x f) ty s K := by
 unfold ZR at h
 split at h
 · rename_i fs l hT hv
   split at h
   · rename_i fd hf
     split at h
     · rename_i ha
       split at h
       · rename_i u hu
         exact CP h fun J σ => Y.vz hT hf (F9 ha) (by rw [ev hv]; rfl) (by simpa [SV.den, Gw.den] using Nh hu)
       · cases h
     · rename_i ha
       split at h
       · rename_i n hn
         refine CP h fun J σ => ?_
         have := Y.v8 (P := P) (e := s.e J) (bx := s.b) (σ := σ) (ty := ty) (x := x) hT hf (F9 ha) (Dd hn) (cs := (Ba s.vl l).toArray) (by rw [ev hv]; rfl) (cs' := (Ba s.vl ((l.drop fd.offset).take n)).toArray) (by simp [QB, List.extract_eq_take_drop])
         exact this
       · cases h
     · cases h
   · cases h
 · cases h
theorem ZX (h : wi P T x y s K) : YP P (.indexAddr T x y) ty s K := by
 unfold wi at h
 split at h
 · cases h
 · rename_i k i hi
   obtain ⟨u, e1, e2⟩ := Cw hi
   have hy : ∀ J, AE (s.e J) y = .int k i := fun J => by rw [ev e1, e2]
   split at h
   · rename_i E hT
     split at h
     · rename_i z p n c hz hv
       obtain ⟨q, s', h1, h2, h3, h4, h5, h⟩ := S.S9 h
       refine ⟨_, s', h1, fun J σ => ?_, h⟩
       have := Y.idx (P := P) (e := s.e J) (bx := s.b) (σ := σ) (ty := ty) (x := x) (y := y) (a' := ⟨q.DJ s.vl, q.off + i.toNat * z, none⟩) hT (Dd hz) (b := q.DJ s.vl) (o := q.off) (n := n) (c := c) (by
         rw [ev hv]; show Value.slice (p.den s.vl) n c = _; rw [← h4, PV.JH h3]) (hy J) h5 rfl
       simpa only [SV.den, Gw.den, CZ.den, h2, PV.ZN h3] using this
     · cases h
   · rename_i n E hT
     split at h
     · rename_i z p hz hp
       obtain ⟨u2, e3, e4⟩ := FD hp
       split at h
       · cases h
       · rename_i hA
         have go : (0 ≤ i ∧ i < (n : Int)) → K (.at (.pt (p.mv (p.off + i.toNat * z)))) s → YP P (.indexAddr T x y) ty s K := fun hr hk => by
           refine CP hk fun J σ => ?_
           have := Y.AI4 (P := P) (e := s.e J) (bx := s.b) (σ := σ) (ty := ty) (x := x) (y := y) (a' := ⟨p.DJ s.vl, p.off + i.toNat * z, none⟩) hT (Dd hz) (b := p.DJ s.vl) (o := p.off) (by rw [ev e3, e4, PV.JH hA]) (hy J) hr rfl
           simpa only [SV.den, Gw.den, CZ.den, PV.ZN hA] using this
         split at h
         · split at h
           · rename_i hd
             exact go (of_decide_eq_true hd) h
           · cases h
         · exact go h.1 h.2
     · cases h
   · cases h
theorem WD (h : jb P T x y s K) : YP P (.index T x y) ty s K := by
 unfold jb at h
 split at h
 · rename_i w k i hT hx hy
   obtain ⟨u1, e1, e2⟩ := P9 hx
   obtain ⟨u2, e3, e4⟩ := Cw hy
   obtain ⟨u, h0, h1, h⟩ := h
   exact CP h fun J σ => Y.wC hT (by rw [ev e1, e2]) (by rw [ev e3, e4]) h0 h1
 · cases h
theorem ZY (h : wj x s K) : YP P (.nilCheck x) ty s K := by
 unfold wj at h
 split at h
 · rename_i hv
   exact CP h fun J σ => Y.eD (by rw [ev hv]; rfl)
 · rename_i p hv
   obtain ⟨q, s', h1, h2, h3, h4, h⟩ := S.S9 h
   refine ⟨_, s', h1, fun J σ => ?_, h⟩
   have := Y.nilCheck (P := P) (e := s.e J) (bx := s.b) (σ := σ) (ty := ty) (x := x) (a := ⟨q.DJ s.vl, q.off, none⟩) (by
     rw [ev hv]; show Value.pointer (p.den s.vl) = _; rw [← h4, PV.JH h3])
   simpa only [SV.den, Gw.den, CZ.den, h2, PV.JH h3] using this
 · cases h
theorem D7 : ∀ {l : List Operand} {r : List SV} {J : Env}, s.WA l = some r → l.map (AE (s.e J)) = Er s.vl r
 | [], r, J, h => by simp only [S.WA, Option.some.injEq] at h; subst h; rfl
 | x :: l, r, J, h => by
   simp only [S.WA] at h
   split at h
   · rename_i v r' h1 h2
     cases h
     simp only [List.map_cons, Er]
     rw [ev h1, D7 h2]
   · cases h
theorem ZZ {fn : Fn} {xs ys : Array Operand} (h : wk fn xs ys s K) : YP P (.makeFunc fn xs ys) ty s K := by
 unfold wk at h
 split at h
 · split at h
   · rename_i a b h1 h2
     exact CP h fun J σ => Y.makeFunc (by simpa using D7 h1) (by simpa using D7 h2)
   · cases h
 · cases h
theorem Ue (h : ZS P T x s K) : YP P (.makeInterface T x) ty s K := by
 unfold ZS at h
 split at h
 · rename_i d hT
   split at h
   · rename_i hd
     split at h
     · rename_i v hv
       exact CP h fun J σ => Y.iface hT hd (ev hv)
     · cases h
   · cases h
 · cases h
theorem Za {ts : Array TypeId} (h : wm P x ts s K) : YP P (.call { callee := .builtin .len, args := #[x], argTypes := ts }) ty s K := by
 unfold wm at h
 split at h
 · rename_i T p n c h1 hv
   have P2 : ts = #[T] := by rw [← Array.toList_inj]; simpa using h1
   split at h
   · rename_i hT
     exact CP h fun J σ => Y.AA1 hT (by rw [ev hv]; rfl) P2
   · cases h
 · rename_i T w h1 hv
   have P2 : ts = #[T] := by rw [← Array.toList_inj]; simpa using h1
   split at h
   · rename_i hT
     exact CP h fun J σ => Y.vy hT (by rw [ev hv]; rfl) P2
   · cases h
 · cases h
theorem Zb {ts : Array TypeId} (h : wo P x ts s K) : YP P (.call { callee := .builtin .cap, args := #[x], argTypes := ts }) ty s K := by
 unfold wo at h
 split at h
 · rename_i T p n c h1 hv
   have P2 : ts = #[T] := by rw [← Array.toList_inj]; simpa using h1
   split at h
   · rename_i hT
     exact CP h fun J σ => Y.AI3 hT (by rw [ev hv]; rfl) P2
   · cases h
 · cases h
end
def isZero : Option SV → Bool
 | some (.v (.a (.num _ 0))) => true
 | _ => false
def Zc (P : Program) (T : TypeId) (x : Operand) (lo hi : Option Operand) (s : S) (K : SV → S → Prop) : Prop := match P.underlying T, s.op x with
 | some (.slice E), some (.v (.a (.sl p n c))) => match Yp P E with
   | none => False
   | some z => match lo, hi with
     | none, none => True ∧ K (.at (.sl p n c)) s
     | none, some h => match JI (s.op h) with
       | some (_, h) => ((0 : Int) ≤ h ∧ h ≤ ((c : Nat) : Int)) ∧ K (.at (.sl p (Int.toNat h) c)) s
       | none => False
     | some l, none => match isZero (s.op l) with
       | true => ((0 : Int) ≤ 0 ∧ (0 : Int) ≤ ((n : Nat) : Int)) ∧ K (.at (.sl p n c)) s
       | false => match JI (s.op l) with
         | some (_, l) => ((0 : Int) ≤ l ∧ l ≤ ((n : Nat) : Int)) ∧ K (.at (.sl (.lit (GP (p.den s.vl) (Int.toNat l) c z)) (n - Int.toNat l) (c - Int.toNat l))) s
         | none => False
     | some l, some h => match JI (s.op h) with
       | none => False
       | some (_, h) => match isZero (s.op l) with
         | true => ((0 : Int) ≤ 0 ∧ (0 : Int) ≤ h ∧ h ≤ ((c : Nat) : Int)) ∧ K (.at (.sl p (Int.toNat h) c)) s
         | false => match JI (s.op l) with
           | some (_, l) => ((0 : Int) ≤ l ∧ l ≤ h ∧ h ≤ ((c : Nat) : Int)) ∧ K (.at (.sl (.lit (GP (p.den s.vl) (Int.toNat l) c z)) (Int.toNat h - Int.toNat l) (c - Int.toNat l))) s
           | none => False
 | _, _ => False
def pO {α : Type} : List α → Nat → α → List α
 | [], _, _ => []
 | _ :: l, 0, y => y :: l
 | x :: l, n + 1, y => x :: pO l n y
def Zd : List CZ → Nat → List CZ → List CZ
 | c, _, [] => c
 | c, o, x :: l => Zd (pO c o x) (o + 1) l
def CZ.one : CZ → Bool
 | .raw v => v.oneCell'
 | _ => true
def SV.flat : SV → Option (List CZ)
 | .v (.a x) => match x.one with
   | true => some [x]
   | false => none
 | .v (.agg l) => some l
 | .S4 _ => none
def TB (place : Nat → Option (Nat × Nat)) : List CZ → List (Nat × SV) → Option (List CZ)
 | c, [] => some c
 | c, (i, v) :: r => match place i, v.flat with
   | some (off, z), some l => match decide (l.length ≠ z) || decide (off + l.length > c.length) with
     | true => none
     | false => TB place (Zd c off l) r
   | _, _ => none
def S.parts (s : S) : List (Nat × Operand) → Option (List (Nat × SV))
 | [] => some []
 | (i, x) :: l => match s.op x, s.parts l with
   | some v, some r => some ((i, v) :: r)
   | _, _ => none
def L1 (vl : Vl) : List (Nat × SV) → List (Nat × Value)
 | [] => []
 | (i, x) :: l => (i, x.den vl) :: L1 vl l
def Ma (P : Program) : List Field → Option (List (Nat × Nat))
 | [] => some []
 | f :: l => match Yp P f.type, Ma P l with
   | some z, some r => some ((f.offset, z) :: r)
   | _, _ => none
def Ze (P : Program) (T : TypeId) (ps : List (Nat × SV)) : Option (List CZ) :=
 match P.info? T, P.underlying T with
 | some it, some (.array _ e) => match it.zero, Yp P e with
   | some z, some ie => TB (fun i => some (i * ie, ie)) (OL z.cells.toList) ps
   | _, _ => none
 | some it, some (.struct fs) => match it.zero, Ma P fs.toList with
   | some z, some pl => TB (fun i => A0 pl i) (OL z.cells.toList) ps
   | _, _ => none
 | _, _ => none
def Zf (P : Program) (T : TypeId) (ps : Array (Nat × Operand)) (s : S) (K : SV → S → Prop) : Prop := match s.parts ps.toList with
 | none => False
 | some vs => match Ze P T vs with
   | some l => K (.v (.agg l)) s
   | none => False
section
variable {P : Program} {s : S} {K : SV → S → Prop} {T T' ty : TypeId} {x y z : Operand}
theorem OM {J : Env} (h : isZero (s.op x) = true) : ∃ k, AE (s.e J) x = .int k 0 := by
 cases hv : s.op x with
 | none => rw [hv] at h; cases h
 | some v =>
   rw [hv] at h
   unfold isZero at h
   split at h
   · rename_i k hk
     cases hk
     exact ⟨k, by rw [ev hv]; rfl⟩
   · cases h
theorem Uf {lo hi : Option Operand} (h : Zc P T x lo hi s K) : YP P (.slice T x lo hi none) ty s K := by
 unfold Zc at h
 split at h
 · rename_i E p n c hT hv
   have hx : ∀ J, AE (s.e J) x = .slice (p.den s.vl) n c := fun J => by rw [ev hv]; rfl
   split at h
   · cases h
   · rename_i z hz
     split at h
     · exact CP h.2 fun J σ => Y.sla hT (Dd hz) (hx J) trivial
     · split at h
       · rename_i h1
         obtain ⟨u, e1, e2⟩ := Cw h1
         exact CP h.2 fun J σ => Y.slh hT (Dd hz) (hx J) (by rw [ev e1, e2]) h.1
       · cases h
     · split at h
       · rename_i hz0
         exact CP h.2 fun J σ => Y.AI9 hT (Dd hz) (hx J) (OM hz0).choose_spec h.1
       · split at h
         · rename_i h1
           obtain ⟨u, e1, e2⟩ := Cw h1
           exact CP h.2 fun J σ => Y.sll hT (Dd hz) (hx J) (by rw [ev e1, e2]) h.1
         · cases h
     · split at h
       · cases h
       · rename_i h2
         obtain ⟨u, e1, e2⟩ := Cw h2
         split at h
         · rename_i hz0
           exact CP h.2 fun J σ => Y.AA7 hT (Dd hz) (hx J) (OM hz0).choose_spec (by rw [ev e1, e2]) h.1
         · split at h
           · rename_i h1
             obtain ⟨u2, e3, e4⟩ := Cw h1
             exact CP h.2 fun J σ => Y.AA6 hT (Dd hz) (hx J) (by rw [ev e3, e4]) (by rw [ev e1, e2]) h.1
           · cases h
 · cases h
theorem TC {vl : Vl} {a : CZ} : ∀ {l : List CZ} {i : Nat}, Ba vl (pO l i a) = (Ba vl l).set i (a.den vl)
 | [], _ => rfl
 | x :: l, 0 => rfl
 | x :: l, i + 1 => by simp only [pO, Ba, List.set_cons_succ]; rw [TC]
theorem QC {vl : Vl} : ∀ {l c : List CZ} {o : Nat}, (Ba vl (Zd c o l)).toArray = DX (Ba vl c).toArray o (Ba vl l)
 | [], _, _ => rfl
 | x :: l, c, o => by
   simp only [Zd, Ba, DX]
   rw [QC, TC]
   simp
theorem TD : ∀ (l : List Value) (c : Array Value) (off k : Nat), (l.zipIdx k).foldl (fun cs (x : Value × Nat) => cs.setIfInBounds (off + x.2) x.1) c = DX c (off + k) l
 | [], c, off, k => rfl
 | x :: l, c, off, k => by
   simp only [List.zipIdx_cons, List.foldl_cons, DX]
   rw [TD l _ off (k + 1)]; rfl
theorem Dr {vl : Vl} : ∀ l : List CZ, (Ba vl l).length = l.length
 | [] => rfl
 | x :: l => by simp only [Ba, List.length_cons]; rw [Dr]
theorem WE {vl : Vl} {v : SV} {l : List CZ} (h : v.flat = some l) : (v.den vl).cells = (Ba vl l).toArray := by
 unfold SV.flat at h
 split at h
 · rename_i x
   split at h
   · rename_i h1
     cases h
     simp only [SV.den, Gw.den, Ba]
     cases x <;> try rfl
     case bs i n => cases n <;> rfl
     case raw v => cases v <;> first | rfl | cases h1
   · cases h
 · cases h; rfl
 · cases h
theorem Ni {vl : Vl} {place : Nat → Option (Nat × Nat)} : ∀ {ps : List (Nat × SV)} {c out : List CZ}, TB place c ps = some out → Instr.fill place (Ba vl c).toArray (L1 vl ps) = some (Ba vl out).toArray
 | [], c, out, h => by simp only [TB, Option.some.injEq] at h; subst h; rfl
 | (i, v) :: r, c, out, h => by
   simp only [TB] at h
   split at h
   · rename_i off z l h1 h2
     split at h
     · cases h
     · rename_i hd
       simp only [Bool.or_eq_false_iff, decide_eq_false_iff_not] at hd
       have hc := WE (vl := vl) h2
       have := Ni (vl := vl) h
       simp only [L1, Instr.fill, h1, hc]
       have hs : ((Ba vl l).toArray.size ≠ z || off + (Ba vl l).toArray.size > (Ba vl c).toArray.size) = false := by
         simp [Dr]; omega
       rw [if_neg (by simpa using hs)]
       rw [← this]
       congr 1
       rw [QC]
       have h9 := TD (Ba vl l) (Ba vl c).toArray off 0
       rw [Nat.add_zero] at h9
       rw [← h9]
       simp
   · cases h
theorem L5 {J : Env} : ∀ {l : List (Nat × Operand)} {r : List (Nat × SV)}, s.parts l = some r → l.map (fun p => (p.1, AE (s.e J) p.2)) = L1 s.vl r
 | [], r, h => by simp only [S.parts, Option.some.injEq] at h; subst h; rfl
 | (i, x) :: l, r, h => by
   simp only [S.parts] at h
   split at h
   · rename_i v r' h1 h2
     cases h
     simp only [List.map_cons, L1]
     rw [ev h1, L5 h2]
   · cases h
theorem Mb : ∀ {l : List Field} {r : List (Nat × Nat)}, Ma P l = some r → l.mapM (fun f => (P.info? f.type).map fun i => (f.offset, i.size)) = some r
 | [], r, h => by simp only [Ma, Option.some.injEq] at h; subst h; rfl
 | f :: l, r, h => by
   simp only [Ma] at h
   split at h
   · rename_i z r' h1 h2
     cases h
     unfold Yp at h1
     cases hi : P.info? f.type with
     | none => rw [hi] at h1; cases h1
     | some i =>
       rw [hi] at h1; simp only [Option.map_some, Option.some.injEq] at h1; subst h1
       simp [List.mapM_cons, hi, Mb h2]
   · cases h
theorem bt {α : Type} : ∀ (l : List α) (i : Nat), A0 l i = l[i]?
 | [], _ => by simp [A0]
 | x :: l, 0 => rfl
 | x :: l, i + 1 => by simp only [A0, List.getElem?_cons_succ]; exact bt l i
theorem Zg {vl : Vl} {ps : List (Nat × SV)} {l : List CZ} (h : Ze P T ps = some l) : P.built T (L1 vl ps) = some (Ba vl l).toArray := by
 unfold Ze at h
 unfold Program.built
 split at h
 · rename_i it n e h1 h2
   rw [h1, h2]
   split at h
   · rename_i z ie h3 h4
     unfold Yp at h4
     cases hi : P.info? e with
     | none => rw [hi] at h4; cases h4
     | some i =>
       rw [hi] at h4; simp only [Option.map_some, Option.some.injEq] at h4; subst h4
       have := Ni (vl := vl) h
       rw [IX] at this
       simpa [h3, hi] using this
   · cases h
 · rename_i it fs h1 h2
   rw [h1, h2]
   split at h
   · rename_i z pl h3 h4
     have := Ni (vl := vl) h
     rw [IX] at this
     have h5 := Mb h4
     simp only [h3, h5]
     simpa [bt] using this
   · cases h
 · cases h
theorem Ug {ps : Array (Nat × Operand)} (h : Zf P T ps s K) : YP P (.build T ps) ty s K := by
 unfold Zf at h
 split at h
 · cases h
 · rename_i vs hv
   split at h
   · rename_i l hl
     exact CP h fun J σ => Y.build (L5 hv) (Zg hl)
   · cases h
end
end Tw
end
section
namespace Tw
open Go
variable [I7]
structure Vl.Le (v w : Vl) : Prop where
 le : v.le w
 ln : v.ρ.length ≤ w.ρ.length ∧ v.β.length ≤ w.β.length ∧ v.δ.length ≤ w.δ.length
theorem Vl.Le.refl (v : Vl) : v.Le v := ⟨.refl v, Nat.le_refl _, Nat.le_refl _, Nat.le_refl _⟩
theorem Vl.Le.trans {u v w : Vl} (h : u.Le v) (g : v.Le w) : u.Le w := ⟨h.le.trans g.le h.ln, by have := h.ln; have := g.ln; omega⟩
theorem Vl.bu (v : Vl) (p : Option Addr) : v.Le (v.jY p) := ⟨v.pL p, by simp [Vl.jY]⟩
theorem Vl.bw (v : Vl) (k : BK) : v.Le (v.ZM k) := ⟨v.br k, by simp [Vl.ZM]⟩
def exA (P : Program) (t : TypeId) (vl : Vl) (k : CZ → Vl → Prop) : Prop := match P.underlying t with
 | some (.int kd) => ∃ x : Int, k (.int kd x) vl
 | some .bool => ∃ b : Bool, k (.bs vl.β.length false) (vl.ZM (.var b))
 | some (.slice _) => ∃ p : Option Addr, ∃ n : Nat, ∃ c : Nat, k (.sl (.var vl.ρ.length) n c) (vl.jY p)
 | some .string => ∃ w : ByteArray, k (.str w) vl
 | some (.pointer _) => ∃ q : Option Addr, k (.pt (.var vl.ρ.length)) (vl.jY q)
 | some (.map _ _) => ∃ m : Option Nat, k (.mp m) vl
 | _ => ∃ v : Value, k (.raw v) vl
def wq (P : Program) : List TypeId → Vl → (List CZ → Vl → Prop) → Prop
 | [], vl, k => k [] vl
 | t :: l, vl, k => exA P t vl fun a vl => wq P l vl fun r vl => k (a :: r) vl
def jc (P : Program) : Nat → TypeId → List TypeId
 | 0, t => [t]
 | f + 1, t => match P.underlying t with
   | some (.struct fs) => (fs.toList.map fun fd => jc P f fd.type).flatten
   | some (.array n e) => (List.replicate n (jc P f e)).flatten
   | _ => [t]
def small (P : Program) (t : TypeId) : Bool := match ZO P t, Yp P t with
 | some true, some n => Nat.ble n 24
 | _, _ => false
def oB (P : Program) (t : TypeId) (vl : Vl) (k : Gw → Vl → Prop) : Prop := match small P t with
 | true => wq P (jc P 40 t) vl fun l vl => k (.agg l) vl
 | false => exA P t vl fun a vl => k (.a a) vl
def wu (P : Program) : List TypeId → Vl → (List Gw → Vl → Prop) → Prop
 | [], vl, k => k [] vl
 | t :: l, vl, k => oB P t vl fun a vl => wu P l vl fun r vl => k (a :: r) vl
def eO (P : Program) (t : TypeId) (vl : Vl) (k : SV → Vl → Prop) : Prop := match P.underlying t with
 | some (.tuple ts) => wu P ts.toList vl fun l vl => k (.S4 l) vl
 | _ => oB P t vl fun a vl => k (.v a) vl
section
variable {P : Program}
theorem TE {t : TypeId} {vl : Vl} {k : CZ → Vl → Prop} (h : exA P t vl k) : ∃ a w, vl.Le w ∧ k a w := by
 unfold exA at h
 split at h
 · obtain ⟨x, h⟩ := h; exact ⟨_, _, .refl _, h⟩
 · obtain ⟨x, h⟩ := h; exact ⟨_, _, Vl.bw _ _, h⟩
 · obtain ⟨p, n, c, h⟩ := h; exact ⟨_, _, Vl.bu _ _, h⟩
 · obtain ⟨x, h⟩ := h; exact ⟨_, _, .refl _, h⟩
 · obtain ⟨x, h⟩ := h; exact ⟨_, _, Vl.bu _ _, h⟩
 · obtain ⟨x, h⟩ := h; exact ⟨_, _, .refl _, h⟩
 · obtain ⟨x, h⟩ := h; exact ⟨_, _, .refl _, h⟩
theorem QD : ∀ {l : List TypeId} {vl : Vl} {k : List CZ → Vl → Prop}, wq P l vl k → ∃ a w, vl.Le w ∧ k a w
 | [], vl, k, h => ⟨_, _, .refl _, h⟩
 | t :: l, vl, k, h => by
   obtain ⟨a, w, h1, h⟩ := TE h
   obtain ⟨r, w2, h2, h⟩ := QD h
   exact ⟨_, _, h1.trans h2, h⟩
theorem Es {t : TypeId} {vl : Vl} {k : Gw → Vl → Prop} (h : oB P t vl k) : ∃ a w, vl.Le w ∧ k a w := by
 unfold oB at h
 split at h
 · obtain ⟨a, w, h1, h⟩ := QD h; exact ⟨_, _, h1, h⟩
 · obtain ⟨a, w, h1, h⟩ := TE h; exact ⟨_, _, h1, h⟩
theorem QE : ∀ {l : List TypeId} {vl : Vl} {k : List Gw → Vl → Prop}, wu P l vl k → ∃ a w, vl.Le w ∧ k a w
 | [], vl, k, h => ⟨_, _, .refl _, h⟩
 | t :: l, vl, k, h => by
   obtain ⟨a, w, h1, h⟩ := Es h
   obtain ⟨r, w2, h2, h⟩ := QE h
   exact ⟨_, _, h1.trans h2, h⟩
theorem TF {t : TypeId} {vl : Vl} {k : SV → Vl → Prop} (h : eO P t vl k) : ∃ a w, vl.Le w ∧ k a w := by
 unfold eO at h
 split at h
 · obtain ⟨a, w, h1, h⟩ := QE h; exact ⟨_, _, h1, h⟩
 · obtain ⟨a, w, h1, h⟩ := Es h; exact ⟨_, _, h1, h⟩
end
def S.ex (s : S) (P : Program) (t : TypeId) (K : SV → S → Prop) : Prop := match s.ok with
 | true => eO P t s.vl fun v vl => K v (s.w vl)
 | false => False
theorem S.QF {s : S} {P : Program} {t : TypeId} {K : SV → S → Prop} (h : s.ex P t K) : ∃ v s', s.Same s' ∧ K v s' := by
 unfold S.ex at h
 cases hs : s.ok with
 | false => rw [hs] at h; cases h
 | true =>
   rw [hs] at h
   obtain ⟨v, w, h1, h⟩ := TF h
   exact ⟨v, _, S.P8 hs h1.le, h⟩
def eqV (x : SV) (vl : Vl) (v : Value) (F : Prop) : Prop := match x with
 | .v (.a (.raw u)) => u = v ∧ F
 | x => v = x.den vl ∧ F
theorem eP {x : SV} {vl : Vl} {v : Value} {F : Prop} (h : eqV x vl v F) : v = x.den vl ∧ F := by
 unfold eqV at h
 split at h
 · exact ⟨h.1.symm, h.2⟩
 · exact h
def WG : List Fk → Nat → Option (TypeId × List CZ)
 | [], _ => none
 | (i, t, cs) :: l, j => bif Nat.beq i j then some (t, cs) else WG l j
theorem KE {vl : Vl} : ∀ {l : List Fk} {j : Nat} {t : TypeId} {cs : List CZ}, WG l j = some (t, cs) → (nth 0 vl.δ j, Obj.cells (Ba vl cs).toArray t (0, 0)) ∈ FC vl l
 | (i, u, ds) :: l, j, t, cs, h => by
   simp only [WG] at h
   cases hi : Nat.beq i j with
   | true =>
     rw [hi] at h; simp only [cond_true, Option.some.injEq, Prod.mk.injEq] at h
     obtain ⟨rfl, rfl⟩ := h
     have := Nat.eq_of_beq_eq_true hi
     subst this
     exact List.mem_cons_self ..
   | false =>
     rw [hi] at h; simp only [cond_false] at h
     exact List.mem_cons_of_mem _ (KE h)
def ldV (P : Program) (T : TypeId) (x : Operand) (s : S) (K : Option Nat → SV → S → Prop) : Prop := match jZ (s.op x) with
 | some (.bx i o) => match WG s.bx i, ZO P T with
   | some (_, cs), some true => match Yp P T with
     | some n => match decide (((cs.drop o).take n).length = n) with
       | true => K none (.v (.agg ((cs.drop o).take n))) s
       | false => False
     | none => False
   | some (_, cs), some false => match A0 cs o with
     | some u => K none (.at u) s
     | none => False
   | _, _ => False
 | some (.at b o) => match ZO P T, Yp P T with
   | some true, some n => s.ex P T fun v s => match v with
     | .v (.agg l) => match decide (l.length = n) with
       | true => EF s.σ b o (Ba s.vl l) ∧ K (some b) v s
       | false => False
     | _ => False
   | some false, some _ => s.ex P T fun v s => Hp.ld s.σ ⟨b, o, none⟩ = some (v.den s.vl) ∧ K (some b) v s
   | _, _ => False
 | _ => False
theorem Hp.jd {σ : Hp} {b o : Nat} {v : Value} (h : Hp.ld σ ⟨b, o, none⟩ = some v) : Hp.ld (fun x => if x = b then σ x else none) ⟨b, o, none⟩ = some v := by
 unfold Hp.ld at *
 simpa using h
theorem EF.lim {σ : Hp} {b : Nat} : ∀ {l : List Value} {o : Nat}, EF σ b o l → EF (fun x => if x = b then σ x else none) b o l
 | [], _, _ => trivial
 | v :: l, o, h => ⟨Hp.jd h.1, EF.lim h.2⟩
theorem TG {P : Program} {T ty : TypeId} {x : Operand} {s : S} {K : Option Nat → SV → S → Prop} (h : ldV P T x s K) :
   ∃ m v s', s.Same s' ∧ K m v s' ∧ ∀ J, match m with
     | none => ∀ σ, Yd P (s.e J) s.b σ (.load T x) ty (v.den s'.vl)
     | some b => Yd P (s.e J) s.b (fun x => if x = b then s.σ x else none) (.load T x) ty (v.den s'.vl) := by
 unfold ldV at h
 split at h
 · rename_i i o hp
   obtain ⟨u, e1, e2⟩ := FD hp
   have hx : ∀ J, AE (s.e J) x = .pointer (some ⟨nth 0 s.vl.δ i, o, none⟩) := fun J => by rw [ev e1, e2]; rfl
   split at h
   · rename_i t cs hb ha
     split at h
     · rename_i n hn
       split at h
       · rename_i hd
         have hd := of_decide_eq_true hd
         refine ⟨none, _, s, .refl s, h, fun J σ => ?_⟩
         have := Y.wD (P := P) (e := s.e J) (bx := s.b) (σ := σ) (ty := ty) (vs := Ba s.vl ((cs.drop o).take n)) (F9 ha) (Dd hn) (by rw [Dr]; exact hd) (hx J) (KE hb) (by simp [QB])
         exact this
       · cases h
     · cases h
   · rename_i t cs hb ha
     split at h
     · rename_i u hu
       exact ⟨none, _, s, .refl s, h, fun J σ => Y.jM (F9 ha) (hx J) (KE hb) (by simpa [SV.den, Gw.den] using Nh hu)⟩
     · cases h
   · cases h
 · rename_i b o hp
   obtain ⟨u, e1, e2⟩ := FD hp
   have hx : ∀ J, AE (s.e J) x = .pointer (some ⟨b, o, none⟩) := fun J => by rw [ev e1, e2]; rfl
   split at h
   · rename_i n ha hn
     obtain ⟨v, s', h1, h⟩ := S.QF h
     split at h
     · rename_i l
       split at h
       · rename_i hd
         have hd := of_decide_eq_true hd
         refine ⟨some b, _, s', h1, h.2, fun J => ?_⟩
         have hl := h.1
         rw [h1.σ] at hl
         exact Y.lda (F9 ha) (Dd hn) (by rw [Dr]; exact hd) (hx J) hl.lim
       · cases h
     · cases h
   · rename_i n ha hn
     obtain ⟨v, s', h1, h⟩ := S.QF h
     have hl := h.1
     rw [h1.σ] at hl
     exact ⟨some b, _, s', h1, h.2, fun J => Y.ld (F9 ha) (hx J) (Hp.jd hl)⟩
   · cases h
 · cases h
def yv (P : Program) (wr : Bool) (op : Op) (s : S) (K : SV → S → Prop) : Prop := match op with
 | .move x => s.val x K
 | .assign x => s.val x K
 | .pick z x y => tM x y z s K
 | .binOp b T x y _ => wa P wr b T x y s K
 | .unOp u _ x => match u with
   | .not => wc x s K
   | .neg => we x s K
   | _ => False
 | .convert T T' x => ja P T T' x s K
 | .fieldAddr T x f => wg P T x f s K
 | .field T x f => ZR P T x f s K
 | .extract x i => wh x i s K
 | .indexAddr T x y => wi P T x y s K
 | .index T x y => jb P T x y s K
 | .nilCheck x => wj x s K
 | .makeFunc fn xs ys => wk fn xs ys s K
 | .build T ps => Zf P T ps s K
 | .makeInterface T x => ZS P T x s K
 | .slice T x lo hi mx => match mx with
   | none => Zc P T x lo hi s K
   | some _ => False
 | .call c => match c.callee, c.args.toList with
   | .builtin .len, [x] => wm P x c.argTypes s K
   | .builtin .cap, [x] => wo P x c.argTypes s K
   | .builtin .min, [x, y] => match JI (s.op x), JI (s.op y) with
     | some (k, a), some (_, b) => K (.at (.int k (if (b : Int) < a then b else a))) s
     | _, _ => False
   | .builtin .max, [x, y] => match JI (s.op x), JI (s.op y) with
     | some (k, a), some (_, b) => K (.at (.int k (if (a : Int) < b then b else a))) s
     | _, _ => False
   | _, _ => False
 | _ => False
theorem WH {P : Program} {wr : Bool} {op : Op} {ty : TypeId} {s : S} {K : SV → S → Prop} (h : yv P wr op s K) : YP P op ty s K := by
 unfold yv at h
 split at h
 · exact TA h fun v J σ hv => Y.move hv
 · exact TA h fun v J σ hv => Y.assign hv
 · exact WB h
 · exact ZQ h
 · split at h
   · exact ZT h
   · exact ZU h
   · cases h
 · exact WC h
 · exact ZV h
 · exact Ud h
 · exact ZW h
 · exact ZX h
 · exact WD h
 · exact ZY h
 · exact ZZ h
 · exact Ug h
 · exact Ue h
 · split at h
   · exact Uf h
   · cases h
 · rename_i c
   obtain ⟨ce, AWR, ts⟩ := c
   split at h
   · rename_i x h1 h2
     simp only at h1 h2 h
     have : AWR = #[x] := by rw [← Array.toList_inj]; simpa using h2
     subst this h1
     exact Za h
   · rename_i x h1 h2
     simp only at h1 h2 h
     have : AWR = #[x] := by rw [← Array.toList_inj]; simpa using h2
     subst this h1
     exact Zb h
   · rename_i x y h1 h2
     simp only at h1 h2 h
     have : AWR = #[x, y] := by rw [← Array.toList_inj]; simpa using h2
     subst this h1
     split at h
     · rename_i k a k' b hx hy
       obtain ⟨u, e1, e2⟩ := Cw hx
       obtain ⟨v, e3, e4⟩ := Cw hy
       exact CP h fun J σ => Y.min2 (by rw [ev e1, e2]) (by rw [ev e3, e4])
     · cases h
   · rename_i x y h1 h2
     simp only at h1 h2 h
     have : AWR = #[x, y] := by rw [← Array.toList_inj]; simpa using h2
     subst this h1
     split at h
     · rename_i k a k' b hx hy
       obtain ⟨u, e1, e2⟩ := Cw hx
       obtain ⟨v, e3, e4⟩ := Cw hy
       exact CP h fun J σ => Y.max2 (by rw [ev e1, e2]) (by rw [ev e3, e4])
     · cases h
   · cases h
 · cases h
end Tw
end
