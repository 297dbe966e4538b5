/-
  Part 1 of the proof that the law KvKeepsUptoCardSaid of the given program answers true for every input of the given statement; the input reads behind the call as it did. (The texts: TwA TwB TwC TwD TwE TwF TwG TwH TwI TwJ TwK TwM TwP TwL TwQ HH HA.)
-/
import Derived.OrdersHeld
import Derived.StillTail
import Derived.Laws.Entries
import Derived.OrdersIn
import Derived.RangeFuncRecord
import Derived.KernelRfl
import Derived.Laws.Slices
import Derived.Laws.Small
import Derived.Laws.Cells
import Derived.Laws.Strings
import Derived.Laws.Tables
import Derived.Laws.Strings2
import Derived.Laws.Pointers
import Derived.Laws.Append
import Derived.Laws.AppendOwn
import Derived.Lib.Overlaps
import Derived.RangeFuncIn
import Derived.Scope
import Derived.Maps.RangeRun
import Derived.MapKept
import Derived.Test.YtchjlpgaanjafaaGreatDoorProg
set_option linter.all false
section
namespace Tw
open Go
abbrev Hp := Nat → Option Obj
abbrev Env := Nat → Value
abbrev Bx := List (Nat × Obj)
theorem beq_ne {a b : Nat} (h : a ≠ b) : Nat.beq a b = false := by
  cases hb : Nat.beq a b
  · rfl
  · exact absurd (Nat.eq_of_beq_eq_true hb) h
def Sat (σ : Hp) (w : World) : Prop := ∀ b o, σ b = some o → w.heap[b]? = some o
def SatB (bx : Bx) (w : World) : Prop := ∀ p ∈ bx, w.heap[p.1]? = some p.2
def Hp.set (σ : Hp) (b : Nat) (o : Obj) : Hp := fun i => if i = b then some o else σ i
def upd (e : Env) (t : Nat) (v : Value) : Env := fun i => bif Nat.beq i t then v else e i
def put (e : Env) (d : Option Nat) (v : Value) : Env := match d with | some d => upd e d v | none => e
def evalE (e : Env) : Operand → Value
  | .tmp t => e t
  | .const v => v
  | .global g => .pointer (some ⟨g, 0, none⟩)
  | .func f => .func (.func f) #[] #[]
def SameOs (w w' : World) : Prop := w'.os = w.os ∧ w'.tape = w.tape ∧ ∃ n : Nat, n = n
theorem SameOs.same {w w' : World} (h1 : w'.os = w.os) (h2 : w'.tape = w.tape) (_ : w'.drawn = w.drawn) : SameOs w w' := ⟨h1, h2, 0, rfl⟩
theorem SameOs.trans {w w' w'' : World} (h : SameOs w w') (g : SameOs w' w'') : SameOs w w'' :=
  let ⟨h1, h2, n, _⟩ := h; let ⟨g1, g2, m, _⟩ := g; ⟨g1.trans h1, g2.trans h2, n + m, rfl⟩
theorem SameOs.drew {w w' : World} (h : SameOs w w') : SameOs w { w' with drawn := w'.drawn + 1 } := h.trans ⟨rfl, rfl, 1, rfl⟩
structure Fin (σ : Hp) (F : Nat → Prop) (w w' : World) : Prop where
  sat : Sat σ w'
  prot : ∀ b, F b → σ b = none ∧ w'.heap[b]? = w.heap[b]?
  os : SameOs w w'
  out : w'.output = w.output
  grow : w.heap.size ≤ w'.heap.size
def Spec (P : Program) (f : FuncId) (args : Array Value) (σ : Hp) (R : Ending → Hp → Prop) : Prop :=
  ∀ (w : World) (F : Nat → Prop), Sat σ w → (∀ b, F b → b < w.heap.size ∧ σ b = none) →
    Calls P f args w (fun e w' => ∃ σ', R e σ' ∧ Fin σ' F w w')
def Ret (Φ : Value → Hp → Prop) : Ending → Hp → Prop := fun e σ => ∃ v, e = .returned v ∧ Φ v σ
theorem Spec.mono {P : Program} {f : FuncId} {args : Array Value} {σ : Hp} {R R' : Ending → Hp → Prop} (h : Spec P f args σ R)
    (hr : ∀ e σ', R e σ' → R' e σ') : Spec P f args σ R' := fun w F hs hF =>
  (h w F hs hF).mono fun _ _ ⟨σ', h1, h2⟩ => ⟨σ', hr _ _ h1, h2⟩
structure St (n : Nat) (ds : List Deferred) (w0 : World) (F : Nat → Prop) (e : Env) (bx : Bx) (σ : Hp) (a : Act) (w : World) : Prop where
  size : a.tmps.size = n
  env : ∀ t, a.tmps.getD t undef = e t
  defers : a.defers = ds
  sat : Sat σ w
  box : SatB bx w
  free : ∀ p ∈ bx, σ p.1 = none ∧ ¬ F p.1
  nodup : (bx.map (·.1)).Nodup
  prot : ∀ b, F b → b < w0.heap.size ∧ σ b = none ∧ w.heap[b]? = w0.heap[b]?
  os : SameOs w0 w
  out : w.output = w0.output
  grow : w0.heap.size ≤ w.heap.size
theorem St.eval {n ds w0 F e bx σ a w} (h : St n ds w0 F e bx σ a w) : a.eval = evalE e := by
  funext x
  cases x with
  | tmp t => exact h.env t
  | _ => rfl
theorem St.put {n ds w0 F e bx σ a w} (h : St n ds w0 F e bx σ a w) (d : Option Nat) (v : Value) (hd : ∀ t, d = some t → t < n) :
    St n ds w0 F (put e d v) bx σ (a.put d v) w := by
  cases d with
  | none => exact h
  | some d =>
    have hd := hd d rfl
    refine { h with size := by simp [Act.put, h.size], env := fun t => ?_, defers := h.defers }
    simp only [Act.put, Tw.put, upd]
    by_cases ht : t = d
    · subst ht
      have : t < a.tmps.size := by rw [h.size]; exact hd
      simp [this]
    · have h1 := h.env t
      have hb : Nat.beq t d = false := beq_ne ht
      simp only [hb, cond_false]
      rw [← h1]
      simp [Array.getElem?_setIfInBounds_ne (Ne.symm ht)]
theorem St.drew {n ds w0 F e bx σ a w} (h : St n ds w0 F e bx σ a w) : St n ds w0 F e bx σ a { w with drawn := w.drawn + 1 } :=
  { h with sat := h.sat, box := h.box, prot := h.prot, os := h.os.drew, out := h.out, grow := h.grow }
structure Gl where
  P : Program
  f : FuncId
  n : Nat
  R : Ending → Hp → Prop
  rnd : Option Nat
  ds : List Deferred
  pan : (rnd = none ∧ ds = []) ∨ ∀ ch σ, ¬ R (.panicked ch) σ
abbrev Gl.fn (P : Program) (f : FuncId) (n : Nat) (R : Ending → Hp → Prop) : Gl := ⟨P, f, n, R, none, [], .inl ⟨rfl, rfl⟩⟩
def wd (r : Option Nat) : Fence := { Fence.wide with round := r }
theorem wd_room {r : Option Nat} {n : Nat} : (wd r).room n := fun _ h => by simp [wd, Fence.wide] at h
theorem wd_fenced {r : Option Nat} {P : Program} : Machine.fenced P (wd r) = Machine.fenced P Fence.wide := rfl
theorem semAt_ok {P : Program} {r : Option Nat} {ρ : Operand → Value} {o : Oper} {w w' : World} {nx : Next} (h : (execOp ρ o).run P w = .ok nx w') (hn : ∀ d, nx ≠ .defer d) : (o.semAt r ρ).run P w = .ok nx w' := by
  by_cases hd : ∃ c, o.op = .defer c
  · obtain ⟨c, hc⟩ := hd
    simp only [execOp, hc, Sem.run_bind] at h
    cases hr : (resolve ρ c o.type).run P w with
    | ok d w2 =>
      rw [hr] at h
      simp only [Result.andThen_ok, Sem.run_pure, Result.ok.injEq] at h
      exact absurd h.1.symm (hn d)
    | halt x w2 => rw [hr] at h; simp [Result.andThen] at h
  · rw [Oper.semAt_eq r ρ o (fun c hc => hd ⟨c, hc⟩)]; exact h
def Lands (P : Program) (f : FuncId) (rnd : Option Nat) (cs : List Frame) (m : Machine) (R : Ending → World → Prop) : Prop :=
  match rnd with
  | none => ∃ e w' fr, R e w' ∧ Comes P m (lone fr cs w') e ∧ fr.fn = f ∧ fr.leaving P w' e
  | some _ => ∀ c cs', cs = c :: cs' → ∃ v w', R (.returned v) w' ∧ Steps P m (lone (c.finish v) cs' w')
theorem Lands.of_steps {P f rnd cs m m' R} (hs : Steps P m m') (h : Lands P f rnd cs m' R) : Lands P f rnd cs m R := by
  cases rnd with
  | none => exact let ⟨e, w', fr, r, c, x⟩ := h; ⟨e, w', fr, r, .of_steps hs c, x⟩
  | some l => exact fun c cs' hc => let ⟨v, w', r, x⟩ := h c cs' hc; ⟨v, w', r, hs.trans x⟩
def RunsTo (P : Program) (f : FuncId) (rnd : Option Nat) (k : List Item) (a : Act) (w : World) (R : Ending → World → Prop) : Prop :=
  ∀ (b : Frame) (cs : List Frame), b.fn = f → b.kind = .normal → b.roundOf = rnd → (∃ fn, P.funcs[f]? = some fn) → Lands P f rnd cs (lone (b.atR a k) cs w) R
theorem RunsTo.step {P f rnd k a w R k' a' w'} (hs : ∀ (b : Frame) cs, b.roundOf = rnd → step P (lone (b.atR a k) cs w) = .next (lone (b.atR a' k') cs w'))
    (h : RunsTo P f rnd k' a' w' R) : RunsTo P f rnd k a w R := fun b cs hf hk hr hfn => .of_steps (.one (hs b cs hr)) (h b cs hf hk hr hfn)
def Post (g : Gl) (w0 : World) (F : Nat → Prop) : Ending → World → Prop := fun en w' => ∃ σ', g.R en σ' ∧ Fin σ' F w0 w'
def At (g : Gl) (k : List Item) (e : Env) (bx : Bx) (σ : Hp) : Prop :=
  ∀ w0 F a w, St g.n g.ds w0 F e bx σ a w → RunsTo g.P g.f g.rnd k a w (Post g w0 F)
section steps
variable {g : Gl} {k : List Item} {e : Env} {bx : Bx} {σ : Hp}
theorem At.skip (h : At g k e bx σ) : At g (.code .skip :: k) e bx σ := fun w0 F a w st => .step (fun _ _ _ => stepR_skip) (h w0 F a w st)
theorem At.label {l} (h : At g k e bx σ) : At g (.code (.label l) :: k) e bx σ := fun w0 F a w st => .step (fun _ _ _ => stepR_label) (h w0 F a w st)
theorem At.inBlock {i} (h : At g k e bx σ) : At g (.inBlock i :: k) e bx σ := fun w0 F a w st => .step (fun _ _ _ => stepR_inBlock) (h w0 F a w st)
theorem At.seq {c x y} (hc : c = Code.seq x y) (h : At g (.code x :: .code y :: k) e bx σ) : At g (.code c :: k) e bx σ :=
  hc ▸ fun w0 F a w st => .step (fun _ _ _ => stepR_seq) (h w0 F a w st)
theorem At.block {c i x} (hc : c = Code.block i x) (h : At g (.code x :: .inBlock i :: k) e bx σ) : At g (.code c :: k) e bx σ :=
  hc ▸ fun w0 F a w st => .step (fun _ _ _ => stepR_block) (h w0 F a w st)
theorem At.loop {c x} (hc : c = Code.loop x) (h : At g (.code x :: .inLoop x :: k) e bx σ) : At g (.code c :: k) e bx σ :=
  hc ▸ fun w0 F a w st => .step (fun _ _ _ => stepR_loop) (h w0 F a w st)
theorem At.inLoop {x} (h : At g (.code x :: .inLoop x :: k) e bx σ) : At g (.inLoop x :: k) e bx σ :=
  fun w0 F a w st => .step (fun _ _ _ => stepR_inLoop) (h w0 F a w st)
theorem At.exit {c i k'} (hc : c = Code.exit i) (hk : exitTo i k = some k') (h : At g k' e bx σ) : At g (.code c :: k) e bx σ :=
  hc ▸ fun w0 F a w st => .step (fun _ _ _ => stepR_exit hk) (h w0 F a w st)
theorem At.goto {c i k'} (hc : c = Code.goto i) (hk : gotoIn i k = some k') (h : At g k' e bx σ) : At g (.code c :: k) e bx σ :=
  hc ▸ fun w0 F a w st => .step (fun _ _ _ => stepR_goto hk) (h w0 F a w st)
theorem At.condT {c x y z} (hc : c = Code.cond x y z) (hx : evalE e x = .bool true) (h : At g (.code y :: k) e bx σ) : At g (.code c :: k) e bx σ :=
  hc ▸ fun w0 F a w st => .step (fun _ _ _ => stepR_cond (t := true) (by rw [st.eval]; exact hx)) (h w0 F a w st)
theorem At.condF {c x y z} (hc : c = Code.cond x y z) (hx : evalE e x = .bool false) (h : At g (.code z :: k) e bx σ) : At g (.code c :: k) e bx σ :=
  hc ▸ fun w0 F a w st => .step (fun _ _ _ => stepR_cond (t := false) (by rw [st.eval]; exact hx)) (h w0 F a w st)
theorem At.code_eq {c c'} (hc : c = c') (h : At g (.code c' :: k) e bx σ) : At g (.code c :: k) e bx σ := hc ▸ h
def left (ds : List Deferred) (σ : Hp) : Hp := ds.foldl (fun σ d => match d.target with | .collected D => σ.set D (.deferred none) | _ => σ) σ
def Marks : List Deferred → Hp → Prop
  | [], _ => True
  | d :: ds, σ => ∃ D, d = { target := .collected D, args := #[] } ∧ σ D = some (.deferred (some [])) ∧ Marks ds (σ.set D (.deferred none))
theorem Fin.put {σ : Hp} {F : Nat → Prop} {w0 w : World} {l : Nat} {o o' : Obj} (h : Fin σ F w0 w) (hl : σ l = some o) : Fin (σ.set l o') F w0 (w.putObj l o') := by
  have hlt : l < w.heap.size := (Array.getElem?_eq_some_iff.1 (h.sat l o hl)).1
  refine ⟨fun k u hk => ?_, fun k hk => ?_, h.os, h.out, by simpa using h.grow⟩
  · by_cases hkl : k = l
    · subst hkl
      simp only [Hp.set, if_true] at hk; cases hk
      exact World.putObj_heap_same hlt
    · simp only [Hp.set, hkl, if_false] at hk
      rw [World.putObj_heap_other hkl]; exact h.sat k u hk
  · have hp := h.prot k hk
    have hkl : k ≠ l := fun e => by rw [e, hl] at hp; cases hp.1
    exact ⟨by simp only [Hp.set, hkl, if_false]; exact hp.1, by rw [World.putObj_heap_other hkl]; exact hp.2⟩
theorem St.toFin {n ds w0 F e bx σ a w} (st : St n ds w0 F e bx σ a w) : Fin σ F w0 w := ⟨st.sat, fun b hb => ⟨(st.prot b hb).2.1, (st.prot b hb).2.2⟩, st.os, st.out, st.grow⟩
theorem marks_run {P : Program} : ∀ (ds : List Deferred) {σ : Hp} {F : Nat → Prop} {w0 w : World} {fr : Frame} {cs : List Frame}, Marks ds σ → Fin σ F w0 w → SatB bx w → (∀ p ∈ bx, σ p.1 = none) → fr.mode = .returning → fr.defers = ds →
    ∃ w', Fin (left ds σ) F w0 w' ∧ SatB bx w' ∧ Steps P (lone fr cs w) (lone { fr with defers := [] } cs w')
  | [], σ, F, w0, w, fr, cs, _, hf, hb, _, _, hd => ⟨w, hf, hb, by rw [show ({ fr with defers := [] } : Frame) = fr by cases fr; simp at hd; simp [hd]]; exact .refl ..⟩
  | d :: ds, σ, F, w0, w, fr, cs, ⟨D, hD, hσ, hm⟩, hf, hb, hn, hmo, hd => by
    subst hD
    have h1 := step_collected (P := P) (fr := fr) (cs := cs) (w := w) (r := D) (by rw [hmo]; simp) hd rfl (run_takeDeferred (hf.sat D _ hσ))
    have hne : ∀ p ∈ bx, p.1 ≠ D := fun p hp e => by have := hn p hp; rw [e, hσ] at this; cases this
    obtain ⟨w', hf', hb', hs⟩ := marks_run ds (fr := { fr with defers := [] ++ ds }) (cs := cs) hm (hf.put hσ) (fun p hp => by rw [World.putObj_heap_other (hne p hp)]; exact hb p hp) (fun p hp => by simp only [Hp.set, hne p hp, if_false]; exact hn p hp) hmo rfl
    exact ⟨w', hf', hb', (Steps.one h1).trans hs⟩
theorem At.done {fn : Func} {v : Value} (hf : g.P.funcs[g.f]? = some fn)
    (hr : ∀ (a : Act) w, (∀ t, a.tmps.getD t undef = e t) → Sat (left g.ds σ) w → SatB bx w → (results fn a.tmps).run g.P w = .ok v w)
    (h : g.R (.returned v) (left g.ds σ)) (hrn : g.rnd = none := by rfl) (hm : Marks g.ds σ := by trivial) : At g [] e bx σ := fun w0 F a w st b cs hbf hbk hbr hfn => by
  have hbn : b.roundOf = none := hbr.trans hrn
  obtain ⟨w', hfin, hb', hs⟩ := marks_run (P := g.P) (cs := cs) (fr := { b.atR a [] with mode := .returning }) g.ds hm st.toFin st.box (fun p hp => (st.free p hp).1) rfl st.defers
  unfold Lands
  rw [hrn]
  exact ⟨.returned v, w', _, ⟨_, h, hfin⟩, (Steps.one (stepR_end hbn)).trans hs, hbf, rfl, rfl, hbk, fn, by simpa [Frame.atR, hbf] using hf, hr a w' st.env hfin.sat hb'⟩
theorem At.ret {c : Code} {fn : Func} {v : Value} (hc : c = Code.ret) (hf : g.P.funcs[g.f]? = some fn)
    (hr : ∀ (a : Act) w, (∀ t, a.tmps.getD t undef = e t) → Sat (left g.ds σ) w → SatB bx w → (results fn a.tmps).run g.P w = .ok v w)
    (h : g.R (.returned v) (left g.ds σ)) (hrn : g.rnd = none := by rfl) (hm : Marks g.ds σ := by trivial) : At g (.code c :: k) e bx σ := hc ▸ fun w0 F a w st b cs hbf hbk hbr hfn => by
  have hbn : b.roundOf = none := hbr.trans hrn
  obtain ⟨w', hfin, hb', hs⟩ := marks_run (P := g.P) (cs := cs) (fr := { b.atR a (.code .ret :: k) with mode := .returning }) g.ds hm st.toFin st.box (fun p hp => (st.free p hp).1) rfl st.defers
  unfold Lands
  rw [hrn]
  exact ⟨.returned v, w', _, ⟨_, h, hfin⟩, (Steps.one (stepR_ret hbn)).trans hs, hbf, rfl, rfl, hbk, fn, by simpa [Frame.atR, hbf] using hf, hr a w' st.env hfin.sat hb'⟩
def lp (r : Loop) (s : LoopState) (p : Option Code) : Loop := { r with state := s, pending := p }
theorem At.beginRound {l : Nat} {r : Loop} (hrn : g.rnd = some l) (hσ : σ l = some (.loop (lp r .ready none))) (h : At g k e bx (σ.set l (.loop (lp r .busy none)))) : At g (.beginRound :: k) e bx σ := fun w0 F a w st =>
  RunsTo.step (fun b cs hb => stepR_beginRound (hb.trans hrn) (run_beginRound (st.sat _ _ hσ) rfl)) (h w0 F a _ (by
    have hf := st.toFin.put (o' := .loop (lp r .busy none)) hσ
    have hne : ∀ p ∈ bx, p.1 ≠ l := fun p hp e => by have := (st.free p hp).1; rw [e, hσ] at this; cases this
    exact { st with sat := hf.sat, box := fun p hp => by rw [World.putObj_heap_other (hne p hp)]; exact st.box p hp, free := fun p hp => ⟨by simp only [Hp.set, hne p hp, if_false]; exact (st.free p hp).1, (st.free p hp).2⟩,
                    prot := fun b hb => ⟨(st.prot b hb).1, (hf.prot b hb).1, (hf.prot b hb).2⟩, os := hf.os, out := hf.out, grow := hf.grow }))
theorem At.roundEnd {l : Nat} {r : Loop} (hrn : g.rnd = some l) (hσ : σ l = some (.loop (lp r .busy none))) (h : g.R (.returned (.bool true)) (σ.set l (.loop (lp r .ready none)))) : At g [] e bx σ := fun w0 F a w st b cs hbf hbk hbr hfn => by
  unfold Lands
  rw [hrn]
  rintro c cs' rfl
  exact ⟨_, _, ⟨_, h, st.toFin.put hσ⟩, .one (stepR_round_end (hbr.trans hrn) hbk (run_endRound (r := lp r .busy none) none (st.sat _ _ hσ)))⟩
theorem At.roundRet {l : Nat} {r : Loop} {c : Code} (hc : c = .ret) (hrn : g.rnd = some l) (hσ : σ l = some (.loop (lp r .busy none))) (h : g.R (.returned (.bool false)) (σ.set l (.loop (lp r .done (some .ret))))) : At g (.code c :: k) e bx σ := fun w0 F a w st b cs hbf hbk hbr hfn => by
  subst hc
  unfold Lands
  rw [hrn]
  rintro c cs' rfl
  exact ⟨_, _, ⟨_, h, st.toFin.put hσ⟩, .one (stepR_round_ret (hbr.trans hrn) hbk (run_endRound (r := lp r .busy none) (some .ret) (st.sat _ _ hσ)))⟩
theorem At.roundExit {l id : Nat} {r : Loop} {c : Code} (hc : c = .exit id) (hx : exitTo id k = none) (hrn : g.rnd = some l) (hσ : σ l = some (.loop (lp r .busy none))) (h : g.R (.returned (.bool false)) (σ.set l (.loop (lp r .done (some (.exit id)))))) : At g (.code c :: k) e bx σ := fun w0 F a w st b cs hbf hbk hbr hfn => by
  subst hc
  unfold Lands
  rw [hrn]
  rintro c cs' rfl
  exact ⟨_, _, ⟨_, h, st.toFin.put hσ⟩, .one (stepR_round_exit (hbr.trans hrn) hbk hx (run_endRound (r := lp r .busy none) (some (.exit id)) (st.sat _ _ hσ)))⟩
theorem At.sub {bx' : Bx} (hs : bx'.Sublist bx) (h : At g k e bx' σ) : At g k e bx σ := fun w0 F a w st =>
  h w0 F a w { st with box := fun p hp => st.box p (hs.subset hp), free := fun p hp => st.free p (hs.subset hp), nodup := (hs.map _).nodup st.nodup }
def upds (e : Env) : List (Nat × Value) → Env
  | [] => e
  | (t, v) :: l => upd (upds e l) t v
theorem upds_eq {e : Env} : ∀ {l : List (Nat × Value)}, (∀ p ∈ l, e p.1 = p.2) → upds e l = e
  | [], _ => rfl
  | (t, v) :: l, h => by
    have h1 : upds e l = e := upds_eq fun p hp => h p (List.mem_cons_of_mem _ hp)
    funext i
    simp only [upds, h1, upd]
    by_cases hi : i = t
    · subst hi
      rw [Nat.beq_refl]
      exact (h (i, v) (List.mem_cons_self ..)).symm
    · rw [beq_ne hi]; rfl
def Live (e : Env) : List (Nat × Value) → Prop
  | [] => True
  | (t, v) :: l => e t = v ∧ Live e l
theorem Live.mem {e : Env} : ∀ {l : List (Nat × Value)}, Live e l → ∀ p ∈ l, e p.1 = p.2
  | (_, _) :: _, h, p, hp => by
    rcases List.mem_cons.1 hp with rfl | hp
    · exact h.1
    · exact h.2.mem p hp
theorem At.live {l : List (Nat × Value)} (hl : Live e l) (h : At g k (upds e l) bx σ) : At g k e bx σ := by
  rwa [upds_eq hl.mem] at h
end steps
theorem Spec.of_at {P : Program} {f : FuncId} {fn : Func} {c : Code} {args : Array Value} {σ : Hp} {R : Ending → Hp → Prop}
    (hf : P.funcs[f]? = some fn) (hb : fn.body = some c) (hn : args.size ≤ fn.ntmps)
    (h : ∀ e : Env, (∀ t, e t = args.getD t undef) → At (Gl.fn P f fn.ntmps R) [.code c] e [] σ) : Spec P f args σ R := by
  intro w F hs hF cs
  let b : Frame := { (default : Frame) with fn := f, kind := .normal, roundOf := none }
  have henter : Frame.enter P f args .normal =
      b.atR { tmps := args ++ Array.replicate (fn.ntmps - args.size) undef, defers := [] } [.code c] := by
    simp [Frame.enter, Frame.atR, hf, hb, b]
  rw [henter]
  have st : St fn.ntmps [] w F (fun t => args.getD t undef) [] σ { tmps := args ++ Array.replicate (fn.ntmps - args.size) undef, defers := [] } w := by
    refine ⟨by simp; omega, fun t => ?_, rfl, hs, (fun p hp => by cases hp), (fun p hp => by cases hp), List.nodup_nil, fun b hb => ⟨(hF b hb).1, (hF b hb).2, rfl⟩, .same rfl rfl rfl, rfl, Nat.le_refl _⟩
    rcases Nat.lt_or_ge t args.size with ht | ht
    · simp [Array.getElem?_append, ht]
    · simp only [Array.getD_eq_getD_getElem?, Array.getElem?_append, Nat.not_lt.2 ht, if_false, Array.getElem?_replicate, Array.getElem?_eq_none ht]
      split <;> rfl
  obtain ⟨e, w', fr, r, cc, hfn, hl⟩ := h _ (fun _ => rfl) w F _ w st b cs rfl rfl rfl ⟨fn, hf⟩
  exact ⟨e, w', fr, r, cc, hfn, hl⟩
def wantedE (ops : Array Oper) (e : Env) (gd : Option (Nat × Bool)) : Bool :=
  match gd with
  | none => true
  | some (j, want) => (match (ops[j]?).bind (·.dst) with
      | some d => (match e d with | .bool b => some b | _ => none)
      | none => none) == some want
theorem St.wanted {n ds w0 F e bx σ a w} (h : St n ds w0 F e bx σ a w) (ops : Array Oper) (o : Oper) :
    Region.wanted o (yielded ops a.tmps) = wantedE ops e o.guard := by
  unfold Region.wanted wantedE
  cases o.guard with
  | none => rfl
  | some p =>
    obtain ⟨j, want⟩ := p
    simp only [yielded]
    cases (ops[j]?).bind (·.dst) with
    | none => rfl
    | some d =>
      have hd := h.env d
      simp only [Option.bind_some, ← hd, Array.getD_eq_getD_getElem?]
      cases a.tmps[d]? with
      | none => rfl
      | some v => cases v <;> rfl
def Qx (g : Gl) (w0 : World) (F : Nat → Prop) : Exit → Act → World → Prop
  | .panic ch, a, w => (g.rnd = none ∧ a.defers = []) ∧ Post g w0 F (.panicked ch) w
  | _, _, _ => False
def OpTo (g : Gl) (ops : Array Oper) (i : Nat) (e : Env) (bx : Bx) (σ : Hp) (K : Env → Bx → Hp → Prop) : Prop :=
  ∀ w0 F a w, St g.n g.ds w0 F e bx σ a w → wpOpIn (wd g.rnd) 0 g.P ops (Qx g w0 F) i (fun a' w' => ∃ e' bx' σ', St g.n g.ds w0 F e' bx' σ' a' w' ∧ K e' bx' σ') a w
def Seq (g : Gl) (ops : Array Oper) : List Nat → Env → Bx → Hp → (Env → Bx → Hp → Prop) → Prop
  | [], e, bx, σ, K => K e bx σ
  | i :: is, e, bx, σ, K => OpTo g ops i e bx σ fun e' bx' σ' => Seq g ops is e' bx' σ' K
def Keep (bx : Bx) (σ : Hp) (bx' : Bx) (σ' : Hp) : Prop := (∀ b o, σ b = some o → σ' b = some o) ∧ ∀ p ∈ bx, p ∈ bx'
theorem Keep.refl (bx : Bx) (σ : Hp) : Keep bx σ bx σ := ⟨fun _ _ h => h, fun _ h => h⟩
def Yd (P : Program) (e : Env) (bx : Bx) (σ : Hp) (op : Op) (ty : TypeId) (v : Value) : Prop :=
  ∀ o : Oper, o.op = op → o.type = ty → ∀ w, Sat σ w → SatB bx w → (execOp (evalE e) o).run P w = .ok (.value v) w
abbrev Rly := Option (List (Nat × List Nat))
def limO (q : Rly) (own : Option (Nat × List (List Nat))) (σ : Hp) : Hp :=
  match q, own with
  | none, _ => σ
  | some _, none => fun _ => none
  | some _, some x => fun b => if b = x.1 then σ b else none
def addq : Rly → Option (Nat × List (List Nat)) → Rly
  | none, _ => none
  | some L, none => some L
  | some L, some x => some ((x.1, x.2.filterMap List.head?) :: L)
def dropq : Rly → Nat → Rly
  | none, _ => none
  | some L, j => some (L.filter fun x => !x.2.contains j)
def directly (ops : Array Oper) (t u : Nat) : Bool :=
  match ops[t]? with
  | some o => o.after.any fun e => Region.binds .any e && e.on == u
  | none => false
def pathOk (ops : Array Oper) (i : Nat) : List Nat → Bool
  | [] => false
  | [t] => directly ops t i
  | t :: u :: r => directly ops t u && pathOk ops i (u :: r)
def Rly.ok (q : Rly) (i : Nat) : Bool :=
  match q with
  | none => true
  | some L => L.all fun x => !x.2.contains i
def ownOk (ops : Array Oper) (i : Nat) : Option (Nat × List (List Nat)) → Bool
  | none => true
  | some x => x.2.all (pathOk ops i)
def Sq (q : Rly) (σ : Hp) (bx : Bx) (listed : Array Bool) (w : World) : Prop :=
  SatB bx w ∧ match q with
    | none => Sat σ w
    | some L => ∀ x ∈ L, (∃ t ∈ x.2, listed.getD t false = true) ∨ ∀ o, σ x.1 = some o → w.heap[x.1]? = some o
def KeepQ (q : Rly) (bx : Bx) (σ : Hp) (bx' : Bx) (σ' : Hp) : Prop :=
  (∀ p ∈ bx, p ∈ bx') ∧ match q with
    | none => ∀ b o, σ b = some o → σ' b = some o
    | some L => ∀ x ∈ L, ∀ o, σ x.1 = some o → σ' x.1 = some o
theorem KeepQ.refl (q : Rly) (bx : Bx) (σ : Hp) : KeepQ q bx σ bx σ := ⟨fun _ h => h, by cases q <;> simp⟩
theorem Sq.of {q : Rly} {σ : Hp} {bx : Bx} {listed : Array Bool} {w : World} (h : Sat σ w) (hb : SatB bx w) : Sq q σ bx listed w := ⟨hb, by
  cases q with
  | none => exact h
  | some L => exact fun x _ => .inr fun o ho => h _ _ ho⟩
theorem getD_set_iff {listed : Array Bool} {i t : Nat} (h : t ≠ i) : (listed.setIfInBounds i true).getD t false = listed.getD t false := getD_set_ne false (Ne.symm h)
theorem Sq.set {q : Rly} {σ : Hp} {bx : Bx} {i : Nat} (hok : q.ok i = true) (listed : Array Bool) (w : World) : Sq q σ bx (listed.setIfInBounds i true) w ↔ Sq q σ bx listed w := by
  unfold Sq
  cases q with
  | none => exact Iff.rfl
  | some L =>
    refine and_congr Iff.rfl (forall_congr' fun x => forall_congr' fun hx => or_congr ?_ Iff.rfl)
    have hni : i ∉ x.2 := by
      have := List.all_eq_true.1 hok x hx
      simpa using this
    refine exists_congr fun t => and_congr_right fun ht => ?_
    rw [getD_set_iff (fun h => hni (by subst h; exact ht))]
theorem path_closed {ops : Array Oper} {n i : Nat} {listed : Array Bool} (inv : HeadInv .any ops n listed) : ∀ (p : List Nat) (t : Nat), pathOk ops i p = true → p.head? = some t → listed.getD t false = true → listed.getD i false = true
  | [], _, h, _, _ => by cases h
  | [t'], t, h, ht, hl => by
    simp only [List.head?_cons, Option.some.injEq] at ht
    subst ht
    simp only [pathOk, directly] at h
    split at h
    · rename_i o ho
      obtain ⟨e, he, hb⟩ := Array.any_eq_true'.1 h
      simp only [Bool.and_eq_true, beq_iff_eq] at hb
      exact hb.2 ▸ inv.closed _ o ho hl e he hb.1
    · cases h
  | t' :: u :: r, t, h, ht, hl => by
    simp only [List.head?_cons, Option.some.injEq] at ht
    subst ht
    simp only [pathOk, Bool.and_eq_true] at h
    refine path_closed inv (u :: r) u h.2 rfl ?_
    have h := h.1
    simp only [directly] at h
    split at h
    · rename_i o ho
      obtain ⟨e, he, hb⟩ := Array.any_eq_true'.1 h
      simp only [Bool.and_eq_true, beq_iff_eq] at hb
      exact hb.2 ▸ inv.closed _ o ho hl e he hb.1
    · cases h
theorem Sq.own {ops : Array Oper} {n i : Nat} {listed : Array Bool} {q : Rly} {own : Option (Nat × List (List Nat))} {σ : Hp} {bx : Bx} {w : World} (inv : HeadInv .any ops n listed) (hun : listed.getD i true = false) (hok : ownOk ops i own = true)
    (h : Sq (addq q own) σ bx listed w) : Sat (limO q own σ) w ∧ SatB bx w := by
  refine ⟨?_, h.1⟩
  cases q with
  | none => exact h.2
  | some L =>
    cases own with
    | none => intro b o hb; cases hb
    | some x =>
      intro b o hb
      simp only [limO] at hb
      split at hb
      · rename_i hbx
        subst hbx
        rcases h.2 (x.1, x.2.filterMap List.head?) (List.mem_cons_self ..) with ⟨t, ht, hl⟩ | h2
        · obtain ⟨p, hp, hpt⟩ := List.mem_filterMap.1 ht
          have := path_closed inv p t (List.all_eq_true.1 hok p hp) hpt hl
          rw [getD_both hun] at this; cases this
        · exact h2 o hb
      · cases hb
theorem Sq.less {q : Rly} {own : Option (Nat × List (List Nat))} {σ : Hp} {bx : Bx} {listed : Array Bool} {w : World} (h : Sq (addq q own) σ bx listed w) : Sq q σ bx listed w := by
  refine ⟨h.1, ?_⟩
  cases q with
  | none => exact h.2
  | some L =>
    cases own with
    | none => exact h.2
    | some x => exact fun y hy => h.2 y (List.mem_cons_of_mem _ hy)
theorem Sq.undrop {q : Rly} {σ σ' : Hp} {bx bx' : Bx} {i : Nat} {listed : Array Bool} {w : World} (hi : listed.getD i false = true) (hk : KeepQ (dropq q i) bx σ bx' σ') (h : Sq (dropq q i) σ' bx' listed w) : Sq q σ bx listed w := by
  refine ⟨fun p hp => h.1 p (hk.1 p hp), ?_⟩
  cases q with
  | none => exact fun b o hb => h.2 b o (hk.2 b o hb)
  | some L =>
    intro x hx
    by_cases hc : i ∈ x.2
    · exact .inl ⟨i, hc, hi⟩
    · have hm : x ∈ L.filter fun x => !x.2.contains i := List.mem_filter.2 ⟨hx, by simpa using hc⟩
      rcases h.2 x hm with h2 | h2
      · exact .inl h2
      · exact .inr fun o ho => h2 o (hk.2 x hm o ho)
def Head (g : Gl) (ops : Array Oper) : Rly → List (Nat × Bool) → Env → Bx → Hp → (Env → Bx → Hp → Prop) → Prop
  | _, [], e, bx, σ, K => K e bx σ
  | q, (i, true) :: r, e, bx, σ, K => ∃ own o v, ((addq q own).ok i && ownOk ops i own) = true ∧ ops[i]? = some o ∧ ((wantedE ops e o.guard = true ∧ Yd g.P e bx (limO q own σ) o.op o.type v) ∨ (wantedE ops e o.guard = false ∧ v = undef)) ∧
      (∀ t, o.dst = some t → t < g.n) ∧ Head g ops (addq q own) r (put e o.dst v) bx σ K
  | q, (i, false) :: r, e, bx, σ, K => OpTo g ops i e bx σ fun e' bx' σ' => KeepQ (dropq q i) bx σ bx' σ' ∧ Head g ops (dropq q i) r e' bx' σ' K
def headOk (ops : Array Oper) (n : Nat) : List (Nat × Bool) → Array Bool → Bool
  | [], listed => Region.seqB .any ops (ops.size - n) n listed
  | (i, true) :: r, listed => decide (i < n) && (Region.ready .any ops listed).contains i && Region.free .any ops listed i && headOk ops n r (listed.setIfInBounds i true)
  | (i, false) :: r, listed => decide (i < n) && (Region.ready .any ops listed == [i]) && headOk ops n r (listed.setIfInBounds i true)
def planOk (ops : Array Oper) (n : Nat) (plan : List (Nat × Bool)) (tail : List Nat) : Bool :=
  Region.noSelect ops && decide (plan.length = n) && (decide (n = ops.size) || (decide (n < ops.size) && Region.sinkB .any ops n && Region.chainB .any ops n)) &&
    decide (tail = List.range' n (ops.size - n)) && headOk ops n plan (Array.replicate ops.size false)
section head
variable {P : Program} {ro : Option Nat} {ops : Array Oper} {Q : Exit → Act → World → Prop} {md : Region.Mode}
theorem wpO_some {i : Nat} {o : Oper} {K : Act → World → Prop} {a : Act} {w : World} (ho : ops[i]? = some o) (hw : Region.wanted o (yielded ops a.tmps) = true) (h : o.uponIn (wd ro) 0 P a K Q ((o.semAt ro a.eval).run P w)) :
    wpOpIn (wd ro) 0 P ops Q i K a w := by
  unfold wpOpIn
  simp only [ho, hw, if_true]
  exact ⟨fun _ _ => trivial, h⟩
theorem wpO_no {i : Nat} {o : Oper} {K : Act → World → Prop} {a : Act} {w : World} (ho : ops[i]? = some o) (hw : Region.wanted o (yielded ops a.tmps) = false) (h : K (a.put o.dst undef) w) : wpOpIn (wd ro) 0 P ops Q i K a w := by
  unfold wpOpIn
  simp only [ho, hw, Bool.false_eq_true, if_false]
  exact ⟨fun _ _ => trivial, h⟩
theorem yif_wpO {S : World → Prop} {i : Nat} {o : Oper} {v : Value} {a : Act} (hi : ops[i]? = some o) (hy : YieldsIf P ops S o v a)
    {K : Act → World → Prop} {w : World} (hS : S w) (h : K (a.put o.dst v) w) : wpOpIn (wd ro) 0 P ops Q i K a w := by
  rcases hy with ⟨hw, hv⟩ | ⟨hw, rfl⟩
  · refine wpO_some hi hw ?_
    rw [semAt_ok (hv w hS) (fun d => by simp)]
    exact h
  · exact wpO_no hi hw h
theorem semAt_put {o : Oper} (hs : ∀ cs b, o.op ≠ .select cs b) (a : Act) (dst : Option Tmp) (u : Value) (h : ∀ d, dst = some d → d ∉ o.looksAt ops) : o.semAt ro (a.put dst u).eval = o.semAt ro a.eval := by
  have he := execOp_put o hs a dst u h
  by_cases hd : ∃ c, o.op = .defer c
  · obtain ⟨c, hc⟩ := hd
    have hr : resolve (a.put dst u).eval c o.type = resolve a.eval c o.type := resolve_congr (ρ := (a.put dst u).eval) (ρ' := a.eval) c o.type (fun x hx => Act.eval_put fun d hd hxd => h d hd (by
      subst hxd
      exact List.mem_append_left _ (List.mem_filterMap.2 ⟨.tmp d, by rw [hc]; simpa [Op.operands] using hx, rfl⟩)))
    unfold Oper.semAt
    cases ro with
    | none => exact he
    | some l => simp only [hc, hr]
  · rw [Oper.semAt_eq ro _ o (fun c hc => hd ⟨c, hc⟩), Oper.semAt_eq ro _ o (fun c hc => hd ⟨c, hc⟩)]; exact he
theorem wpO_putIf {S : World → Prop} {j : Nat} {oi oj : Oper} {v : Value} (hj : ops[j]? = some oj) (hap : oi.apart ops oj = true)
    (hsi : ∀ cs b, oi.op ≠ .select cs b) (hsj : ∀ cs b, oj.op ≠ .select cs b)
    (hQ : ∀ c a w, Q (.panic c) (a.put oi.dst v) w → Q (.panic c) a w) {K : Act → World → Prop} {a : Act} {w : World}
    (hy : YieldsIf P ops S oi v a) (h : wpOpIn (wd ro) 0 P ops Q j K (a.put oi.dst v) w) :
    wpOpIn (wd ro) 0 P ops Q j (fun a' w' => YieldsIf P ops S oi v a' ∧ K (a'.put oi.dst v) w') a w := by
  obtain ⟨h1, h2, h3⟩ := Oper.apart_spec hap
  have keep : ∀ (a : Act), YieldsIf P ops S oi v a → ∀ u, YieldsIf P ops S oi v (a.put oj.dst u) := fun a hy u =>
    hy.of_same (execOp_put oi hsi a oj.dst u h3) (wanted_put oi a oj.dst u h3)
  have keepD : ∀ d, YieldsIf P ops S oi v { a with defers := d :: a.defers } := fun d => hy.of_same rfl rfl
  unfold wpOpIn at h
  simp only [hj] at h
  rw [wanted_put oj a oi.dst v h1] at h
  by_cases hw : Region.wanted oj (yielded ops a.tmps) = true
  · simp only [hw, if_true] at h
    refine wpO_some hj hw ?_
    have h := h.2
    change oj.uponIn (wd ro) 0 P (a.put oi.dst v) K Q ((oj.semAt ro (a.put oi.dst v).eval).run P w) at h
    rw [semAt_put hsj a oi.dst v h1] at h
    generalize (oj.semAt ro a.eval).run P w = r at *
    cases r with
    | ok n w' =>
      cases n <;> simp only [Oper.uponIn] at h ⊢
      case value u => exact ⟨keep a hy u, by rw [← Act.put_comm a v u h2]; exact h⟩
      case skip => exact ⟨keep a hy _, by rw [← Act.put_comm a v undef h2]; exact h⟩
      case defer d =>
        refine ⟨keep _ (keepD d) _, ?_⟩
        rw [← Act.put_comm _ v undef h2, ← Act.put_defers]
        exact h
      case enter f args =>
        refine ⟨h.1, CallsIn.mono h.2 fun e w'' he => ?_⟩
        cases e with
        | returned u => exact ⟨keep a hy u, by rw [← Act.put_comm a v u h2]; exact he⟩
        | panicked c => exact hQ _ _ _ he
        | outgrown => exact he
      case row row args => exact ⟨h.1, RowsIn.mono h.2 fun u w'' he => ⟨keep a hy u, by rw [← Act.put_comm a v u h2]; exact he⟩⟩
      case round l f tmps assign body =>
        refine ⟨h.1, RoundIn.mono h.2 fun e w'' he => ?_⟩
        cases e with
        | returned u => exact ⟨keep a hy u, by rw [← Act.put_comm a v u h2]; exact he⟩
        | panicked c => exact hQ _ _ _ he
        | outgrown => exact he
    | halt x w' =>
      cases x <;> simp only [Oper.uponIn] at h ⊢
      case panic u => exact hQ _ _ _ h
  · have hw : Region.wanted oj (yielded ops a.tmps) = false := by simpa using hw
    simp only [hw, Bool.false_eq_true, if_false] at h
    exact wpO_no hj hw ⟨keep a hy _, by rw [← Act.put_comm a v undef h2]; exact h.2⟩
def wpAnyHL (P : Program) (ro : Option Nat) (md : Region.Mode) (ops : Array Oper) (Q : Exit → Act → World → Prop) (S : Array Bool → World → Prop) (n : Nat) (L : Array Bool → Act → World → Prop) : Nat → Array Bool → Act → World → Prop
  | 0, listed, a, w => L listed a w
  | f + 1, listed, a, w => Region.ready md ops listed ≠ [] ∧
      ∀ i ∈ Region.ready md ops listed, i < n ∧ wpOpIn (wd ro) 0 P ops Q i (fun a' w' => S (listed.setIfInBounds i true) w' ∧ wpAnyHL P ro md ops Q S n L f (listed.setIfInBounds i true) a' w') a w
theorem wpAny_of_headL {n g : Nat} {S : Array Bool → World → Prop} {L : Array Bool → Act → World → Prop} (hL : ∀ listed a w, L listed a w → wpAnyIn (wd ro) 0 P md ops Q g listed a w) :
    ∀ (f : Nat) (listed : Array Bool) (a : Act) (w : World), wpAnyHL P ro md ops Q S n L f listed a w → wpAnyIn (wd ro) 0 P md ops Q (f + g) listed a w
  | 0, listed, a, w, h => by rw [Nat.zero_add]; exact hL _ _ _ h
  | f + 1, listed, a, w, h => by
    rw [show f + 1 + g = (f + g) + 1 by omega]
    exact ⟨fun h0 => absurd h0 h.1, fun i hi => wpOpIn_mono (fun a' w' h' => wpAny_of_headL hL f _ a' w' h'.2) (h.2 i hi).2⟩
theorem wpAnyHL_mono {n : Nat} {S S' : Array Bool → World → Prop} {G : Array Bool → Prop} {L : Array Bool → Act → World → Prop} (hG : ∀ listed j, G listed → G (listed.setIfInBounds j true)) (hS : ∀ listed w, G listed → S' listed w → S listed w) :
    ∀ (f : Nat) (listed : Array Bool) (a : Act) (w : World), G listed → wpAnyHL P ro md ops Q S' n L f listed a w → wpAnyHL P ro md ops Q S n L f listed a w
  | 0, _, _, _, _, h => h
  | f + 1, _, _, _, hg, h => ⟨h.1, fun i hi => ⟨(h.2 i hi).1, wpOpIn_mono (fun a' w' h' => ⟨hS _ _ (hG _ _ hg) h'.1, wpAnyHL_mono hG hS f _ a' w' (hG _ _ hg) h'.2⟩) (h.2 i hi).2⟩⟩
theorem callsIn_wd {n : Nat} {f : FuncId} {args : Array Value} {w : World} {R : Ending → World → Prop} (h : Calls P f args w R) : CallsIn (wd ro) n P f args w R :=
  ⟨trivial, fun cs _ => let ⟨e, w', fr, r, s, x⟩ := h cs; ⟨e, w', fr, r, comesIn_wide.2 s, x⟩⟩
theorem wpAnyHL_first {n i : Nat} {oi : Oper} {v : Value} {S : Array Bool → World → Prop} {Sy : World → Prop} {L : Array Bool → Act → World → Prop} (hi : ops[i]? = some oi) (hsel : ∀ (j : Nat) (o : Oper) cs b, ops[j]? = some o → o.op ≠ .select cs b)
    (hQ : ∀ c a w, Q (.panic c) (a.put oi.dst v) w → Q (.panic c) a w)
    (htail : ∀ listed, HeadInv md ops n listed → ∀ i, i < n → listed.getD i true = false → ∀ t, n ≤ t → t ∉ Region.ready md ops listed)
    (hSi : ∀ listed w, S (listed.setIfInBounds i true) w ↔ S listed w) (hSy : ∀ listed w, HeadInv md ops n listed → listed.getD i true = false → S listed w → Sy w)
    (hin : i < n) (hdone : ∀ listed a w, L listed a w → ∀ j ∈ Region.ready md ops listed, n ≤ j) :
    ∀ (f : Nat) (listed : Array Bool) (a : Act) (w : World), HeadInv md ops n listed →
      (∀ j oj, ops[j]? = some oj → j ≠ i → listed.getD j true = false → (∀ e ∈ oj.after, Region.binds md e = true → e.on ≠ i) → oi.apart ops oj = true) →
      i ∈ Region.ready md ops listed → YieldsIf P ops Sy oi v a → S listed w →
      wpAnyHL P ro md ops Q S n L f (listed.setIfInBounds i true) (a.put oi.dst v) w → wpAnyHL P ro md ops Q S n L (f + 1) listed a w := by
  intro f
  induction f with
  | zero =>
    intro listed a w inv _ hr hy hS H
    have hun := (mem_ready.1 hr).1
    refine ⟨fun h => (by rw [h] at hr; cases hr), fun j hj => ?_⟩
    have hjn : j < n := by
      rcases Nat.lt_or_ge j n with h | h
      · exact h
      · exact absurd hj (htail _ inv i hin hun j h)
    refine ⟨hjn, ?_⟩
    by_cases hji : j = i
    · subst hji; exact yif_wpO hi hy (hSy _ _ inv hun hS) ⟨(hSi _ _).2 hS, H⟩
    · have := hdone _ _ _ H j (ready_mono hj hji)
      omega
  | succ f ih =>
    intro listed a w inv hfree hr hy hS H
    have hun := (mem_ready.1 hr).1
    refine ⟨fun h => (by rw [h] at hr; cases hr), fun j hj => ?_⟩
    have hjn : j < n := by
      rcases Nat.lt_or_ge j n with h | h
      · exact h
      · exact absurd hj (htail _ inv i hin hun j h)
    refine ⟨hjn, ?_⟩
    by_cases hji : j = i
    · subst hji; exact yif_wpO hi hy (hSy _ _ inv hun hS) ⟨(hSi _ _).2 hS, H⟩
    · have h1 := (H.2 j (ready_mono hj hji)).2
      obtain ⟨hjun, oj, hoj, hall⟩ := mem_ready.1 hj
      have hnot : ∀ e ∈ oj.after, Region.binds md e = true → e.on ≠ i := fun e he hb heq => by
        have h1 := hall e he hb
        rw [heq, getD_both hun] at h1
        cases h1
      have h2 := wpO_putIf hoj (hfree j oj hoj hji hjun hnot) (fun cs b => hsel i oi cs b hi) (fun cs b => hsel j oj cs b hoj) hQ hy h1
      have hfree' : ∀ k ok, ops[k]? = some ok → k ≠ i → (listed.setIfInBounds j true).getD k true = false →
          (∀ e ∈ ok.after, Region.binds md e = true → e.on ≠ i) → oi.apart ops ok = true := fun k ok hk hki hun hno => by
        refine hfree k ok hk hki ?_ hno
        by_cases hjk : j = k
        · subst hjk; exact hjun
        · rw [getD_set_ne true hjk] at hun; exact hun
      refine wpOpIn_mono (fun a' w' h3 => ⟨(hSi _ _).1 (by rw [Array.setIfInBounds_comm _ _ hji]; exact h3.2.1), ih (listed.setIfInBounds j true) a' w' (inv.set hj hjn) hfree' (ready_mono hr (Ne.symm hji)) h3.1 ((hSi _ _).1 (by rw [Array.setIfInBounds_comm _ _ hji]; exact h3.2.1)) ?_⟩) h2
      rw [Array.setIfInBounds_comm _ _ hji]
      exact h3.2.2
theorem wpAny_of_seqI : ∀ (g k : Nat) (listed : Array Bool) (a : Act) (w : World),
    Region.seqB md ops g k listed = true → wpOpsIn (wd ro) 0 P ops Q (List.range' k g) a w → wpAnyIn (wd ro) 0 P md ops Q g listed a w
  | 0, _, _, _, _, hB, h => ⟨by simpa [Region.seqB] using hB, h⟩
  | g + 1, k, listed, a, w, hB, h => by
    simp only [Region.seqB, Bool.and_eq_true, decide_eq_true_eq] at hB
    refine ⟨fun h1 => (by rw [hB.1] at h1; cases h1), fun i hi => ?_⟩
    rw [hB.1] at hi
    have hik : i = k := by simpa using hi
    subst hik
    rw [List.range'_succ, wpOpsIn_cons] at h
    exact wpOpIn_mono (fun a' w' h' => wpAny_of_seqI g (i + 1) _ a' w' hB.2 h') h
end head
section regions
variable {g : Gl} {ops : Array Oper}
def Qn (g : Gl) (w0 : World) (F : Nat → Prop) (K : Env → Bx → Hp → Prop) : Exit → Act → World → Prop
  | .normal, a, w => ∃ e bx σ, St g.n g.ds w0 F e bx σ a w ∧ K e bx σ
  | .panic ch, a, w => (g.rnd = none ∧ a.defers = []) ∧ Post g w0 F (.panicked ch) w
  | _, _, _ => False
theorem wpOp_Q {P : Program} {ro : Option Nat} {Q Q' : Exit → Act → World → Prop} (hp : ∀ c a w, Q (.panic c) a w → Q' (.panic c) a w) (ho : ∀ a w, Q .outgrown a w → Q' .outgrown a w)
    {i : Nat} {K : Act → World → Prop} {a : Act} {w : World} (h : wpOpIn (wd ro) 0 P ops Q i K a w) : wpOpIn (wd ro) 0 P ops Q' i K a w := by
  unfold wpOpIn at *
  split
  · rename_i hn; simpa only [hn] using h
  · rename_i o hn
    simp only [hn] at h
    split
    · rename_i hw
      simp only [hw, if_true] at h
      unfold Oper.wpIn at *
      refine ⟨h.1, ?_⟩
      have h := h.2
      generalize (o.semAt (wd ro).round a.eval).run P w = r at *
      cases r with
      | ok x w' =>
        cases x <;> simp only [Oper.uponIn] at h ⊢ <;> try exact h
        · refine ⟨h.1, CallsIn.mono h.2 fun en w2 hen => ?_⟩
          cases en with
          | returned v => exact hen
          | panicked c => exact hp _ _ _ hen
          | outgrown => obtain ⟨a1, w1, h1⟩ := hen; exact ⟨a1, w1, ho _ _ h1⟩
        · refine ⟨h.1, RoundIn.mono h.2 fun en w2 hen => ?_⟩
          cases en with
          | returned v => exact hen
          | panicked c => exact hp _ _ _ hen
          | outgrown => obtain ⟨a1, w1, h1⟩ := hen; exact ⟨a1, w1, ho _ _ h1⟩
      | halt x w' =>
        cases x <;> simp only [Oper.uponIn] at h ⊢
        exact hp _ _ _ h
    · rename_i hw
      simp only [hw] at h
      exact h
theorem seq_sound {K : Env → Bx → Hp → Prop} {w0 F} : ∀ (is : List Nat) (e : Env) (bx : Bx) (σ : Hp) (a : Act) (w : World), St g.n g.ds w0 F e bx σ a w →
    Seq g ops is e bx σ K → wpOpsIn (wd g.rnd) 0 g.P ops (Qn g w0 F K) is a w
  | [], e, bx, σ, a, w, st, h => ⟨e, bx, σ, st, h⟩
  | i :: is, e, bx, σ, a, w, st, h => by
    rw [wpOpsIn_cons]
    refine wpOpIn_mono ?_ (wpOp_Q (Q := Qx g w0 F) (fun c a w h => h) (fun a w h => h.elim) (h w0 F a w st))
    rintro a' w' ⟨e', bx', σ', st', h'⟩
    exact seq_sound is e' bx' σ' a' w' st' h'
theorem head_sound {K : Env → Bx → Hp → Prop} {w0 F} {n : Nat} {tl : List Nat} (hsel : Region.noSelect ops = true)
    (htail : ∀ listed, HeadInv .any ops n listed → ∀ i, i < n → listed.getD i true = false → ∀ t, n ≤ t → t ∉ Region.ready .any ops listed)
    (htl : tl = List.range' n (ops.size - n)) :
    ∀ (plan : List (Nat × Bool)) (q : Rly) (listed : Array Bool) (e : Env) (bx : Bx) (σ : Hp) (a : Act) (w : World), HeadInv .any ops n listed → headOk ops n plan listed = true →
      St g.n g.ds w0 F e bx σ a w → Head g ops q plan e bx σ (fun e bx σ => Seq g ops tl e bx σ K) →
      wpAnyHL g.P g.rnd .any ops (Qn g w0 F K) (Sq q σ bx) n (fun listed a w => Region.seqB .any ops (ops.size - n) n listed = true ∧ wpOpsIn (wd g.rnd) 0 g.P ops (Qn g w0 F K) tl a w) plan.length listed a w
  | [], _, listed, e, bx, σ, a, w, _, hok, st, h => ⟨hok, seq_sound _ _ _ _ _ _ st h⟩
  | (i, true) :: r, q, listed, e, bx, σ, a, w, inv, hok, st, h => by
    obtain ⟨own, o, v, hqq, ho, hy, hd, h⟩ := h
    simp only [Bool.and_eq_true] at hqq
    simp only [headOk, Bool.and_eq_true, decide_eq_true_eq] at hok
    obtain ⟨⟨⟨hin, hr⟩, hf⟩, hok⟩ := hok
    have hr' : i ∈ Region.ready .any ops listed := by simpa using hr
    refine wpAnyHL_mono (S' := Sq (addq q own) σ bx) (G := fun _ => True) (fun _ _ _ => trivial) (fun _ _ _ h => h.less) _ _ _ _ trivial ?_
    refine wpAnyHL_first (Sy := fun w => Sat (limO q own σ) w ∧ SatB bx w) ho (Region.noSelect_spec hsel) ?_ htail (Sq.set hqq.1) (fun listed w inv hun h => Sq.own inv hun hqq.2 h) hin ?_ _ listed a w inv (Region.free_spec ho hf) hr' ?_ (Sq.of st.sat st.box)
      (head_sound hsel htail htl r _ _ _ _ _ _ _ (inv.set hr' hin) hok (st.put o.dst v hd) h)
    · rintro c a w ⟨⟨h0, h1⟩, h2⟩
      exact ⟨⟨h0, by cases hdst : o.dst <;> simpa [Act.put, hdst] using h1⟩, h2⟩
    · intro listed a w hL
      exact seqB_ready hL.1
    · rcases hy with ⟨hw, hy⟩ | ⟨hw, rfl⟩
      · exact .inl ⟨by rw [st.wanted]; exact hw, fun w hS => by rw [st.eval]; exact hy o rfl rfl w hS.1 hS.2⟩
      · exact .inr ⟨by rw [st.wanted]; exact hw, rfl⟩
  | (i, false) :: r, q, listed, e, bx, σ, a, w, inv, hok, st, h => by
    simp only [headOk, Bool.and_eq_true, decide_eq_true_eq, beq_iff_eq] at hok
    obtain ⟨⟨hin, hr⟩, hok⟩ := hok
    refine ⟨by rw [hr]; simp, fun j hj => ?_⟩
    rw [hr] at hj
    obtain rfl : j = i := by simpa using hj
    refine ⟨hin, wpOpIn_mono ?_ (wpOp_Q (Q := Qx g w0 F) (fun c a w h => h) (fun a w h => h.elim) (h w0 F a w st))⟩
    rintro a' w' ⟨e', bx', σ', st', hk, h'⟩
    have hl : (listed.setIfInBounds j true).getD j false = true := by
      have hlt : j < listed.size := by rw [inv.size]; obtain ⟨_, o, ho, _⟩ := mem_ready.1 (show j ∈ Region.ready .any ops listed by rw [hr]; simp); exact (Array.getElem?_eq_some_iff.1 ho).1
      simp [hlt]
    exact ⟨Sq.undrop hl hk (Sq.of st'.sat st'.box), wpAnyHL_mono (S' := Sq (dropq q j) σ' bx') (G := fun l => l.getD j false = true) (fun _ _ h => getD_set_true h) (fun _ _ hg h => Sq.undrop hg hk h) _ _ _ _ hl
      (head_sound hsel htail htl r _ _ _ _ _ _ _ (inv.set (by rw [hr]; simp) hin) hok st' h')⟩
end regions
theorem RunsTo.of_wp {g : Gl} {c : Code} {k : List Item} {a : Act} {w : World} {w0 F} {K : Env → Bx → Hp → Prop}
    (h : c.wpIn (wd g.rnd) 0 g.P (Qn g w0 F K) a w) (hk : ∀ e bx σ, K e bx σ → At g k e bx σ) : RunsTo g.P g.f g.rnd (.code c :: k) a w (Post g w0 F) := by
  intro b cs hf hkn hbr hfn
  obtain ⟨e, a', w', hq, harr⟩ := h b k cs hbr trivial wd_room
  cases e with
  | normal =>
    obtain ⟨e, bx, σ, st, hK⟩ := hq
    exact .of_steps harr.steps (hk _ _ _ hK w0 F a' w' st b cs hf hkn hbr hfn)
  | panic ch =>
    obtain ⟨⟨hrn, hd⟩, hq⟩ := hq
    obtain ⟨todo, hs⟩ := harr
    obtain ⟨fn, hfn⟩ := hfn
    unfold Lands
    rw [hrn]
    exact ⟨.panicked ch, w', _, hq, hs.steps, hf, rfl, hd, fn, by simpa [Frame.atR, hf] using hfn⟩
  | _ => exact hq.elim
section regions2
variable {g : Gl} {k : List Item} {e : Env} {bx : Bx} {σ : Hp}
theorem At.region {c : Code} {id : Nat} {ops : Array Oper} {l : List Nat} (hc : c = .region id ops false) (hl : List.range ops.size = l)
    (h : Seq g ops l e bx σ (fun e bx σ => At g k e bx σ)) : At g (.code c :: k) e bx σ := fun _ _ a w st =>
  hc ▸ RunsTo.of_wp (K := fun e bx σ => At g k e bx σ) (wpIn_region (hl ▸ seq_sound l e bx σ a w st h)) (fun _ _ _ h => h)
theorem At.draw {c : Code} {id : Nat} {ops : Array Oper} {n : Nat} {q : Rly} {plan : List (Nat × Bool)} {tl : List Nat} (hm : g.P.follows .mixedOrders = true) (hc : c = .region id ops true)
    (hp : planOk ops n plan tl = true)
    (h : Head g ops q plan e bx σ (fun e bx σ => Seq g ops tl e bx σ (fun e bx σ => At g k e bx σ))) : At g (.code c :: k) e bx σ := fun w0 F a w st => by
  subst hc
  simp only [planOk, Bool.and_eq_true, Bool.or_eq_true, decide_eq_true_eq] at hp
  obtain ⟨⟨⟨⟨hsel, hlen⟩, hn⟩, htl⟩, hok⟩ := hp
  have hn' : n ≤ ops.size := by rcases hn with h | h <;> omega
  have htail : ∀ listed, HeadInv .any ops n listed → ∀ i, i < n → listed.getD i true = false → ∀ t, n ≤ t → t ∉ Region.ready .any ops listed := by
    intro listed inv i hi hun t ht
    rcases hn with h | ⟨⟨h1, h2⟩, h3⟩
    · intro hr
      obtain ⟨_, o, ho, _⟩ := mem_ready.1 hr
      have := (Array.getElem?_eq_some_iff.1 ho).1
      omega
    · exact tail_waits h2 h3 h1 inv _ i rfl hi hun t ht
  have inv0 : HeadInv .any ops n (Array.replicate ops.size false) :=
    ⟨by simp, fun j oj _ hl => (by rw [getD_replicate_false] at hl; cases hl), fun t _ ht => getD_in (by simpa using ht) (getD_replicate_false _ _)⟩
  refine RunsTo.of_wp (K := fun e bx σ => At g k e bx σ) (wpIn_region_any hm ?_) (fun _ _ _ h => h)
  have H := head_sound (K := fun e bx σ => At g k e bx σ) (tl := tl) hsel htail htl plan q (Array.replicate ops.size false) e bx σ a { w with drawn := w.drawn + 1 } inv0 hok st.drew h
  have := wpAny_of_headL (g := ops.size - n) (fun listed a w hL => wpAny_of_seqI _ _ listed a w hL.1 (htl ▸ hL.2)) _ _ _ _ H
  rw [hlen, show n + (ops.size - n) = ops.size by omega] at this
  exact this
end regions2
end Tw
end
section
namespace Tw
open Go
def Hp.ld (σ : Hp) (a : Addr) : Option Value :=
  match σ a.block with
  | some (.cells c _ _) => if a.spot.isSome then none else c[a.off]?
  | _ => none
theorem Sat.ld {σ : Hp} {w : World} (h : Sat σ w) {a : Addr} {v : Value} (hl : σ.ld a = some v) : w.cell? a = some v := by
  unfold Hp.ld at hl
  unfold World.cell?
  cases hb : σ a.block with
  | none => simp [hb] at hl
  | some o => rw [h _ _ hb]; rw [hb] at hl; exact hl
def LdL (σ : Hp) (b : Nat) : Nat → List Value → Prop
  | _, [] => True
  | o, v :: l => σ.ld ⟨b, o, none⟩ = some v ∧ LdL σ b (o + 1) l
theorem LdL.get {σ : Hp} {b : Nat} : ∀ {l : List Value} {o j : Nat} {v : Value}, LdL σ b o l → l[j]? = some v → σ.ld ⟨b, o + j, none⟩ = some v
  | x :: l, o, 0, v, h, hj => by simp at hj; subst hj; exact h.1
  | x :: l, o, j + 1, v, h, hj => by
    have := LdL.get (l := l) (o := o + 1) (j := j) h.2 (by simpa using hj)
    rwa [show o + (j + 1) = o + 1 + j by omega]
theorem add_off (b o n : Nat) : (⟨b, o, none⟩ : Addr).add n = ⟨b, o + n, none⟩ := by cases n <;> simp [Addr.add]
section yields
variable {P : Program} {e : Env} {bx : Bx} {σ : Hp} {ty T T' : TypeId} {x y z : Operand} {k : IntKind} {a b : Int}
theorem Yd.of {op : Op} {v : Value} (m : Sem Value) (h : ∀ o : Oper, o.op = op → o.type = ty → execOp (evalE e) o = (do pure (.value (← m))))
    (hm : ∀ w, Sat σ w → SatB bx w → m.run P w = .ok v w) : Yd P e bx σ op ty v := fun oo ho ht w hs hb => by
  rw [h oo ho ht]; simp [hm w hs hb]
theorem Yd.pu {op : Op} {v : Value} (h : ∀ o : Oper, o.op = op → execOp (evalE e) o = pure (.value v)) : Yd P e bx σ op ty v := fun oo ho _ w _ _ => by
  rw [h oo ho]; simp
theorem Y.move {v : Value} (hx : evalE e x = v) : Yd P e bx σ (.move x) ty v := .pu fun o ho => by simp [execOp, ho, hx]
theorem Y.assign {v : Value} (hx : evalE e x = v) : Yd P e bx σ (.assign x) ty v := .pu fun o ho => by simp [execOp, ho, hx]
theorem Y.pickT {v : Value} (hc : evalE e z = .bool true) (hx : evalE e x = v) : Yd P e bx σ (.pick z x y) ty v :=
  .pu fun o ho => by simp [execOp, ho, hc, hx, asBool]
theorem Y.pickF {v : Value} (hc : evalE e z = .bool false) (hx : evalE e y = v) : Yd P e bx σ (.pick z x y) ty v :=
  .pu fun o ho => by simp [execOp, ho, hc, hx, asBool]
theorem Y.lss (hx : evalE e x = .int k a) (hy : evalE e y = .int k b) : Yd P e bx σ (.binOp .lss T x y T') ty (.bool (decide (a < b))) :=
  fun oo ho _ w _ _ => by simp [execOp, ho, hx, hy, eqGuard_lss, binOp_lss]
theorem Y.leq (hx : evalE e x = .int k a) (hy : evalE e y = .int k b) : Yd P e bx σ (.binOp .leq T x y T') ty (.bool (decide (a ≤ b))) :=
  fun oo ho _ w _ _ => by simp [execOp, ho, hx, hy, eqGuard_leq, binOp_leq]
theorem Y.gtr (hx : evalE e x = .int k a) (hy : evalE e y = .int k b) : Yd P e bx σ (.binOp .gtr T x y T') ty (.bool (decide (b < a))) :=
  fun oo ho _ w _ _ => by simp [execOp, ho, hx, hy, eqGuard_gtr, binOp_gtr]
theorem Y.geq (hx : evalE e x = .int k a) (hy : evalE e y = .int k b) : Yd P e bx σ (.binOp .geq T x y T') ty (.bool (decide (b ≤ a))) :=
  fun oo ho _ w _ _ => by simp [execOp, ho, hx, hy, eqGuard_geq, binOp_geq]
theorem Y.eql (hx : evalE e x = .int k a) (hy : evalE e y = .int k b) : Yd P e bx σ (.binOp .eql T x y T') ty (.bool (decide (a = b))) :=
  fun oo ho _ w _ _ => by simp [execOp, ho, hx, hy, eqGuard_at_int, binOp_eql]; rfl
theorem Y.neq (hx : evalE e x = .int k a) (hy : evalE e y = .int k b) : Yd P e bx σ (.binOp .neq T x y T') ty (.bool (decide (a ≠ b))) :=
  fun oo ho _ w _ _ => by simp [execOp, ho, hx, hy, eqGuard_at_int, binOp_neq]; rfl
theorem Y.add (hx : evalE e x = .int k a) (hy : evalE e y = .int k b) : Yd P e bx σ (.binOp .add T x y T') ty (.int k (k.wrap (a + b))) :=
  fun oo ho _ w _ _ => by simp [execOp, ho, hx, hy, eqGuard_add, binOp_add, Op.intArith]
theorem Y.sub (hx : evalE e x = .int k a) (hy : evalE e y = .int k b) : Yd P e bx σ (.binOp .sub T x y T') ty (.int k (k.wrap (a - b))) :=
  fun oo ho _ w _ _ => by simp [execOp, ho, hx, hy, eqGuard_sub, binOp_sub, Op.intArith]
theorem Y.mul (hx : evalE e x = .int k a) (hy : evalE e y = .int k b) : Yd P e bx σ (.binOp .mul T x y T') ty (.int k (k.wrap (a * b))) :=
  fun oo ho _ w _ _ => by simp [execOp, ho, hx, hy, eqGuard_mul, binOp_mul, Op.intArith]
def I64 (n : Int) : Prop := -9223372036854775808 ≤ n ∧ n ≤ 9223372036854775807
theorem I64.wrap {n : Int} (h : I64 n) : IntKind.i64.wrap n = n := by
  obtain ⟨h1, h2⟩ := h
  simp [IntKind.wrap, IntKind.bits, IntKind.signed]
  split <;> omega
theorem Y.addI (h : I64 (a + b)) (hx : evalE e x = .int .i64 a) (hy : evalE e y = .int .i64 b) : Yd P e bx σ (.binOp .add T x y T') ty (.int .i64 (a + b)) := by
  have := Y.add (P := P) (bx := bx) (σ := σ) (ty := ty) (T := T) (T' := T') hx hy; rwa [h.wrap] at this
theorem Y.subI (h : I64 (a - b)) (hx : evalE e x = .int .i64 a) (hy : evalE e y = .int .i64 b) : Yd P e bx σ (.binOp .sub T x y T') ty (.int .i64 (a - b)) := by
  have := Y.sub (P := P) (bx := bx) (σ := σ) (ty := ty) (T := T) (T' := T') hx hy; rwa [h.wrap] at this
theorem Y.mulI (h : I64 (a * b)) (hx : evalE e x = .int .i64 a) (hy : evalE e y = .int .i64 b) : Yd P e bx σ (.binOp .mul T x y T') ty (.int .i64 (a * b)) := by
  have := Y.mul (P := P) (bx := bx) (σ := σ) (ty := ty) (T := T) (T' := T') hx hy; rwa [h.wrap] at this
theorem Y.bits {op : BinOp} (hop : op = .and ∨ op = .or ∨ op = .xor ∨ op = .andNot) (hx : evalE e x = .int k a) (hy : evalE e y = .int k b) :
    Yd P e bx σ (.binOp op T x y T') ty (.int k (Go.bits op k a b)) :=
  fun oo ho _ w _ _ => by
    rcases hop with rfl | rfl | rfl | rfl <;>
      simp [execOp, ho, hx, hy, eqGuard_at_int, binOp_and, binOp_or, binOp_xor, binOp_andNot, intBits_and, intBits_or, intBits_xor, intBits_andNot]
theorem Y.shl {k' : IntKind} (h0 : 0 ≤ b) (h1 : b ≤ k.bits) (hx : evalE e x = .int k a) (hy : evalE e y = .int k' b) :
    Yd P e bx σ (.binOp .shl T x y T') ty (.int k (k.wrap (a * 2 ^ b.toNat))) :=
  fun oo ho _ w _ _ => by simp [execOp, ho, hx, hy, eqGuard_shl, binOp_shl, shift_shl k k' a b h0 h1]
theorem Y.shr {k' : IntKind} (h0 : 0 ≤ b) (h1 : b ≤ k.bits) (hx : evalE e x = .int k a) (hy : evalE e y = .int k' b) :
    Yd P e bx σ (.binOp .shr T x y T') ty (.int k (a / 2 ^ b.toNat)) :=
  fun oo ho _ w _ _ => by simp [execOp, ho, hx, hy, eqGuard_shr, binOp_shr, shift_shr k k' a b h0 h1]
theorem Y.quo (h : b ≠ 0) (hx : evalE e x = .int k a) (hy : evalE e y = .int k b) : Yd P e bx σ (.binOp .quo T x y T') ty (.int k (k.wrap (a.tdiv b))) :=
  fun oo ho _ w _ _ => by simp [execOp, ho, hx, hy, eqGuard_quo, binOp_quo, Op.intDiv, h]
theorem Y.rem (h : b ≠ 0) (hx : evalE e x = .int k a) (hy : evalE e y = .int k b) : Yd P e bx σ (.binOp .rem T x y T') ty (.int k (a.tmod b)) :=
  fun oo ho _ w _ _ => by simp [execOp, ho, hx, hy, eqGuard_rem, binOp_rem, Op.intDiv, h]
theorem Y.not {p : Bool} (hx : evalE e x = .bool p) : Yd P e bx σ (.unOp .not T x) ty (.bool (!p)) :=
  fun oo ho _ w _ _ => by simp [execOp, ho, hx, Op.unary]
theorem Y.neg (hx : evalE e x = .int k a) : Yd P e bx σ (.unOp .neg T x) ty (.int k (k.wrap (0 - a))) :=
  fun oo ho _ w _ _ => by simp [execOp, ho, hx, Op.unary, Op.intArith]
theorem Y.conv {k' : IntKind} (hs : (P.underlying T).isSome = true) (hd : P.underlying T' = some (.int k')) (hx : evalE e x = .int k a) :
    Yd P e bx σ (.convert T T' x) ty (.int k' (k'.wrap a)) :=
  fun oo ho _ w _ _ => by
    have hk : P.intKind T' = k' := by simp [Program.intKind, hd]
    have := run_convert_int w T T' k a hs (by rw [hk]; exact hd)
    rw [hk] at this
    simp [execOp, ho, hx, this]
theorem Y.lenS {p : Option Addr} {n c : Nat} {E : TypeId} (hT : P.underlying T = some (.slice E)) (hx : evalE e x = .slice p n c) {ts : Array TypeId} (hts : ts = #[T]) :
    Yd P e bx σ (.call { callee := .builtin .len, args := #[x], argTypes := ts }) ty (.int .i64 n) := fun oo ho ht w _ _ => by
  subst hts
  simp [execOp, ho, resolve, invoke, builtin, hx, Builtin.len_, run_underlying hT, goInt]
theorem Y.capS {p : Option Addr} {n c : Nat} {E : TypeId} (hT : P.underlying T = some (.slice E)) (hx : evalE e x = .slice p n c) {ts : Array TypeId} (hts : ts = #[T]) :
    Yd P e bx σ (.call { callee := .builtin .cap, args := #[x], argTypes := ts }) ty (.int .i64 c) := fun oo ho ht w _ _ => by
  subst hts
  simp [execOp, ho, resolve, invoke, builtin, hx, Builtin.cap_, run_underlying hT, goInt]
theorem Y.lenStr {s : ByteArray} (hT : P.underlying T = some .string) (hx : evalE e x = .string s) {ts : Array TypeId} (hts : ts = #[T]) :
    Yd P e bx σ (.call { callee := .builtin .len, args := #[x], argTypes := ts }) ty (.int .i64 s.size) := fun oo ho ht w _ _ => by
  subst hts
  simp [execOp, ho, resolve, invoke, builtin, hx, Builtin.len_, run_underlying hT, goInt]
theorem Y.min2 {k' : IntKind} {ts : Array TypeId} (hx : evalE e x = .int k a) (hy : evalE e y = .int k' b) :
    Yd P e bx σ (.call { callee := .builtin .min, args := #[x, y], argTypes := ts }) ty (.int k (if b < a then b else a)) := fun oo ho ht w _ _ => by
  simp [execOp, ho, resolve, invoke, builtin, hx, hy, run_min_int2]
theorem Y.max2 {k' : IntKind} {ts : Array TypeId} (hx : evalE e x = .int k a) (hy : evalE e y = .int k' b) :
    Yd P e bx σ (.call { callee := .builtin .max, args := #[x, y], argTypes := ts }) ty (.int k (if b > a then b else a)) := fun oo ho ht w _ _ => by
  simp [execOp, ho, resolve, invoke, builtin, hx, hy, run_max_int2]
theorem Y.fieldAddr {b o f off : Nat} {fs : Array Field} {fd : Field} {a' : Addr} (hT : P.underlying T = some (.struct fs)) (hf : fs[f]? = some fd) (hs : ∀ w, ((Go.sizeOf fd.type).run P w) = .ok (off + 1) w)
    (hx : evalE e x = .pointer (some ⟨b, o, none⟩)) (ha : a' = ⟨b, o + fd.offset, none⟩) : Yd P e bx σ (.fieldAddr T x f) ty (.pointer (some a')) :=
  fun oo ho _ w _ _ => by
    subst ha
    simp [execOp, ho, hx, Instr.fieldAt, run_underlying hT, hf, Instr.sureAddr, fieldPlace, hs]
    exact add_off b o fd.offset
theorem Y.extract {vs : Array Value} {i : Nat} {v : Value} (hx : evalE e x = .tuple vs) (hv : vs[i]? = some v) : Yd P e bx σ (.extract x i) ty v :=
  fun oo ho _ w _ _ => by simp [execOp, ho, hx, Instr.extract, hv]
theorem Y.field1 {cs : Array Value} {f : Nat} {fs : Array Field} {fd : Field} {v : Value} (hT : P.underlying T = some (.struct fs)) (hf : fs[f]? = some fd) (ha : ∀ w, (isAgg fd.type).run P w = .ok false w)
    (hx : evalE e x = .agg cs) (hv : cs[fd.offset]? = some v) : Yd P e bx σ (.field T x f) ty v :=
  fun oo ho _ w _ _ => by simp [execOp, ho, hx, Instr.field, run_underlying hT, hf, asAgg, part, ha, hv]
theorem Y.fieldN {cs cs' : Array Value} {f n : Nat} {fs : Array Field} {fd : Field} (hT : P.underlying T = some (.struct fs)) (hf : fs[f]? = some fd) (ha : ∀ w, (isAgg fd.type).run P w = .ok true w)
    (hs : ∀ w, ((Go.sizeOf fd.type).run P w) = .ok n w) (hx : evalE e x = .agg cs) (hv : cs.extract fd.offset (fd.offset + n) = cs') : Yd P e bx σ (.field T x f) ty (.agg cs') :=
  fun oo ho _ w _ _ => by simp [execOp, ho, hx, Instr.field, run_underlying hT, hf, asAgg, part, ha, hs, hv]
theorem Y.idx {b o n c sz : Nat} {E : TypeId} {i : Int} {a' : Addr} (hT : P.underlying T = some (.slice E)) (hs : ∀ w, ((Go.sizeOf E).run P w) = .ok sz w)
    (hx : evalE e x = .slice (some ⟨b, o, none⟩) n c) (hy : evalE e y = .int k i) (hi : 0 ≤ i ∧ i < n) (ha : a' = ⟨b, o + i.toNat * sz, none⟩) : Yd P e bx σ (.indexAddr T x y) ty (.pointer (some a')) :=
  fun oo ho _ w _ _ => by
    subst ha
    simp [execOp, ho, hx, hy, Instr.indexAt, run_underlying hT, asIntOf, hi, hs, add_off]
theorem Y.idxA {b o n sz : Nat} {E : TypeId} {i : Int} {a' : Addr} (hT : P.underlying T = some (.array n E)) (hs : ∀ w, ((Go.sizeOf E).run P w) = .ok sz w)
    (hx : evalE e x = .pointer (some ⟨b, o, none⟩)) (hy : evalE e y = .int k i) (hi : 0 ≤ i ∧ i < n) (ha : a' = ⟨b, o + i.toNat * sz, none⟩) : Yd P e bx σ (.indexAddr T x y) ty (.pointer (some a')) :=
  fun oo ho _ w _ _ => by
    subst ha
    simp [execOp, ho, hx, hy, Instr.indexAt, run_underlying hT, asIntOf, hi, hs, add_off, Instr.sureAddr]
theorem Y.idxStr {s : ByteArray} {i : Int} {v : UInt8} (hT : P.underlying T = some .string) (hx : evalE e x = .string s) (hy : evalE e y = .int k i) (h0 : 0 ≤ i) (hv : s.data[i.toNat]? = some v) :
    Yd P e bx σ (.index T x y) ty (.int .u8 v.toNat) :=
  fun oo ho _ w _ _ => by
    have hv' : s[i.toNat]? = some v := by rw [← hv]; rfl
    simp [execOp, ho, hx, hy, Instr.index, run_underlying hT, asIntOf, h0, hv']
theorem Y.ld {a : Addr} {v : Value} (hA : ∀ w, (isAgg T).run P w = .ok false w) (hx : evalE e x = .pointer (some a)) (h : σ.ld a = some v) : Yd P e bx σ (.load T x) ty v :=
  fun oo ho _ w hs _ => by
    simp [execOp, ho, hx, Instr.loadAt, Instr.sureAddr, loadVar, hA, load, Sem.run, hs.ld h]
theorem SatB.cell {w : World} {b : Nat} {c : Array Value} {t : TypeId} {fr : Nat × Nat} (hs : SatB bx w) (hb : (b, Obj.cells c t fr) ∈ bx) (o : Nat) : w.cell? ⟨b, o, none⟩ = c[o]? := by
  simp [World.cell?, hs _ hb]
theorem Y.ldb {b o : Nat} {c : Array Value} {t : TypeId} {fr : Nat × Nat} {v : Value} (hA : ∀ w, (isAgg T).run P w = .ok false w) (hx : evalE e x = .pointer (some ⟨b, o, none⟩)) (hb : (b, Obj.cells c t fr) ∈ bx) (h : c[o]? = some v) :
    Yd P e bx σ (.load T x) ty v :=
  fun oo ho _ w _ hs => by
    simp [execOp, ho, hx, Instr.loadAt, Instr.sureAddr, loadVar, hA, load, Sem.run, hs.cell hb, h]
theorem Y.lda {b o n : Nat} {vs : List Value} (hA : ∀ w, (isAgg T).run P w = .ok true w) (hs : ∀ w, ((Go.sizeOf T).run P w) = .ok n w) (hn : vs.length = n) (hx : evalE e x = .pointer (some ⟨b, o, none⟩)) (h : LdL σ b o vs) :
    Yd P e bx σ (.load T x) ty (.agg vs.toArray) :=
  fun oo ho _ w hsat _ => by
    subst hn
    have := run_loadCells_list (P := P) (w := w) ⟨b, o, none⟩ vs (fun j v hj => by rw [show (⟨b, o, none⟩ : Addr).add j = ⟨b, o + j, none⟩ from add_off _ _ _]; exact hsat.ld (h.get hj))
    simp [execOp, ho, hx, Instr.loadAt, Instr.sureAddr, loadVar, hA, hs, this]
theorem Y.ldab {b o n : Nat} {c : Array Value} {t : TypeId} {fr : Nat × Nat} {vs : List Value} (hA : ∀ w, (isAgg T).run P w = .ok true w) (hs : ∀ w, ((Go.sizeOf T).run P w) = .ok n w) (hn : vs.length = n) (hx : evalE e x = .pointer (some ⟨b, o, none⟩))
    (hb : (b, Obj.cells c t fr) ∈ bx) (h : (c.toList.drop o).take n = vs) : Yd P e bx σ (.load T x) ty (.agg vs.toArray) :=
  fun oo ho _ w _ hsat => by
    subst hn
    have := run_loadCells_list (P := P) (w := w) ⟨b, o, none⟩ vs (fun j v hj => by
      rw [show (⟨b, o, none⟩ : Addr).add j = ⟨b, o + j, none⟩ from add_off _ _ _, hsat.cell hb]
      rw [← h] at hj
      have hlt : j < vs.length := by
        have := (List.getElem?_eq_some_iff.1 hj).1
        simp at this; omega
      simpa [List.getElem?_take, hlt] using hj)
    simp [execOp, ho, hx, Instr.loadAt, Instr.sureAddr, loadVar, hA, hs, this]
theorem Y.nilCheck {a : Addr} (hx : evalE e x = .pointer (some a)) : Yd P e bx σ (.nilCheck x) ty (.pointer (some a)) :=
  .pu fun o ho => by simp [execOp, ho, hx]
theorem Y.nilCheckF {f : FuncId} {xs ys : Array Value} (hx : evalE e x = .func (.func f) xs ys) : Yd P e bx σ (.nilCheck x) ty (.func (.func f) xs ys) :=
  .pu fun o ho => by simp [execOp, ho, hx]
theorem Y.makeFunc {fn : Fn} {xs ys : Array Operand} {vs us : Array Value} (hx : xs.toList.map (evalE e) = vs.toList) (hy : ys.toList.map (evalE e) = us.toList) : Yd P e bx σ (.makeFunc fn xs ys) ty (.func fn vs us) :=
  fun oo ho _ w _ _ => by
  have hx : xs.map (evalE e) = vs := by rw [← Array.toList_inj]; simpa using hx
  have hy : ys.map (evalE e) = us := by rw [← Array.toList_inj]; simpa using hy
  simp [execOp, ho, hx, hy, Instr.makeFunc]
end yields
end Tw
end
section
namespace Tw
open Go
def sig (ops : Array Oper) (i : Nat) : Option (Option Nat × Op × TypeId × Option (Nat × Bool)) := (ops[i]?).map fun o => (o.dst, o.op, o.type, o.guard)
theorem sig_some {ops : Array Oper} {i : Nat} {d : Option Nat} {op : Op} {ty : TypeId} {gd : Option (Nat × Bool)} (h : sig ops i = some (d, op, ty, gd)) :
    ∃ o, ops[i]? = some o ∧ o.dst = d ∧ o.op = op ∧ o.type = ty ∧ o.guard = gd := by
  unfold sig at h
  cases ho : ops[i]? with
  | none => simp [ho] at h
  | some o =>
    simp only [ho, Option.map_some, Option.some.injEq, Prod.mk.injEq] at h
    exact ⟨o, rfl, h.1, h.2.1, h.2.2.1, h.2.2.2⟩
def dOk (d : Option Nat) (n : Nat) : Bool := match d with | some d => Nat.blt d n | none => true
theorem dOk.lt {d : Option Nat} {n : Nat} (h : dOk d n = true) : ∀ t, d = some t → t < n := fun t ht => by
  subst ht; exact Nat.le_of_ble_eq_true h
section moves
variable {g : Gl} {ops : Array Oper} {q : Rly} {L : List (Nat × List Nat)} {i : Nat} {is : List Nat} {r : List (Nat × Bool)} {e : Env} {bx : Bx} {σ : Hp} {K : Env → Bx → Hp → Prop} {d : Option Nat} {op : Op} {ty : TypeId} {gd : Option (Nat × Bool)} {v : Value}
theorem OpTo.y (hs : sig ops i = some (d, op, ty, gd)) (hw : wantedE ops e gd = true) (hd : dOk d g.n = true) (hy : Yd g.P e bx σ op ty v) (h : K (put e d v) bx σ) : OpTo g ops i e bx σ K := by
  intro w0 F a w st
  obtain ⟨o, ho, rfl, ho2, ho3, rfl⟩ := sig_some hs
  refine wpO_some ho (by rw [st.wanted]; exact hw) ?_
  rw [st.eval, semAt_ok (hy o ho2 ho3 w st.sat st.box) (fun d => by simp)]
  exact ⟨_, _, _, st.put _ _ (dOk.lt hd), h⟩
theorem OpTo.no (hs : sig ops i = some (d, op, ty, gd)) (hw : wantedE ops e gd = false) (hd : dOk d g.n = true) (h : K (put e d undef) bx σ) : OpTo g ops i e bx σ K := by
  intro w0 F a w st
  obtain ⟨o, ho, rfl, ho2, ho3, rfl⟩ := sig_some hs
  refine wpO_no ho (by rw [st.wanted]; exact hw) ?_
  exact ⟨_, _, _, st.put _ _ (dOk.lt hd), h⟩
theorem Seq.y (hs : sig ops i = some (d, op, ty, none)) (hd : dOk d g.n = true) (hy : Yd g.P e bx σ op ty v) (h : Seq g ops is (put e d v) bx σ K) : Seq g ops (i :: is) e bx σ K :=
  OpTo.y hs rfl hd hy h
theorem Seq.yg (hs : sig ops i = some (d, op, ty, gd)) (hw : wantedE ops e gd = true) (hd : dOk d g.n = true) (hy : Yd g.P e bx σ op ty v) (h : Seq g ops is (put e d v) bx σ K) : Seq g ops (i :: is) e bx σ K :=
  OpTo.y hs hw hd hy h
theorem Seq.no (hs : sig ops i = some (d, op, ty, gd)) (hw : wantedE ops e gd = false) (hd : dOk d g.n = true) (h : Seq g ops is (put e d undef) bx σ K) : Seq g ops (i :: is) e bx σ K :=
  OpTo.no hs hw hd h
theorem Seq.o (h : OpTo g ops i e bx σ fun e' bx' σ' => Seq g ops is e' bx' σ' K) : Seq g ops (i :: is) e bx σ K := h
theorem Seq.done (h : K e bx σ) : Seq g ops [] e bx σ K := h
theorem addq_none {q : Rly} : addq q none = q := by cases q <;> rfl
theorem ok_none {q : Rly} {i : Nat} {ops : Array Oper} (h : q.ok i = true) : ((addq q none).ok i && ownOk ops i none) = true := by rw [addq_none, h]; rfl
theorem Head.y (hs : sig ops i = some (d, op, ty, none)) (hd : dOk d g.n = true) (hy : Yd g.P e bx (limO q none σ) op ty v) (h : Head g ops q r (put e d v) bx σ K) (hok : q.ok i = true := by rfl) : Head g ops q ((i, true) :: r) e bx σ K := by
  obtain ⟨o, ho, rfl, rfl, rfl, hg⟩ := sig_some hs
  exact ⟨none, o, v, ok_none hok, ho, .inl ⟨by rw [hg]; rfl, hy⟩, (dOk.lt hd), by rw [addq_none]; exact h⟩
theorem Head.yg (hs : sig ops i = some (d, op, ty, gd)) (hw : wantedE ops e gd = true) (hd : dOk d g.n = true) (hy : Yd g.P e bx (limO q none σ) op ty v) (h : Head g ops q r (put e d v) bx σ K) (hok : q.ok i = true := by rfl) : Head g ops q ((i, true) :: r) e bx σ K := by
  obtain ⟨o, ho, rfl, rfl, rfl, rfl⟩ := sig_some hs
  exact ⟨none, o, v, ok_none hok, ho, .inl ⟨hw, hy⟩, (dOk.lt hd), by rw [addq_none]; exact h⟩
theorem Head.yl (b : Nat) (Ds : List (List Nat)) {D : List Nat} (hD : Ds.filterMap List.head? = D) (hok : ((addq (some L) (some (b, Ds))).ok i && ownOk ops i (some (b, Ds))) = true) (hs : sig ops i = some (d, op, ty, none)) (hd : dOk d g.n = true) (hy : Yd g.P e bx (limO (some L) (some (b, Ds)) σ) op ty v)
    (h : Head g ops (some ((b, D) :: L)) r (put e d v) bx σ K) : Head g ops (some L) ((i, true) :: r) e bx σ K := by
  subst hD
  obtain ⟨o, ho, rfl, rfl, rfl, hg⟩ := sig_some hs
  exact ⟨some (b, Ds), o, v, hok, ho, .inl ⟨by rw [hg]; rfl, hy⟩, (dOk.lt hd), h⟩
theorem Head.ygl (b : Nat) (Ds : List (List Nat)) {D : List Nat} (hD : Ds.filterMap List.head? = D) (hok : ((addq (some L) (some (b, Ds))).ok i && ownOk ops i (some (b, Ds))) = true) (hs : sig ops i = some (d, op, ty, gd)) (hw : wantedE ops e gd = true) (hd : dOk d g.n = true) (hy : Yd g.P e bx (limO (some L) (some (b, Ds)) σ) op ty v)
    (h : Head g ops (some ((b, D) :: L)) r (put e d v) bx σ K) : Head g ops (some L) ((i, true) :: r) e bx σ K := by
  subst hD
  obtain ⟨o, ho, rfl, rfl, rfl, rfl⟩ := sig_some hs
  exact ⟨some (b, Ds), o, v, hok, ho, .inl ⟨hw, hy⟩, (dOk.lt hd), h⟩
theorem Head.no (hs : sig ops i = some (d, op, ty, gd)) (hw : wantedE ops e gd = false) (hd : dOk d g.n = true) (h : Head g ops q r (put e d undef) bx σ K) (hok : q.ok i = true := by rfl) : Head g ops q ((i, true) :: r) e bx σ K := by
  obtain ⟨o, ho, rfl, rfl, rfl, rfl⟩ := sig_some hs
  exact ⟨none, o, undef, ok_none hok, ho, .inr ⟨hw, rfl⟩, (dOk.lt hd), by rw [addq_none]; exact h⟩
theorem Head.o {q' : Rly} (hq : dropq q i = q') (h : OpTo g ops i e bx σ fun e' bx' σ' => KeepQ q' bx σ bx' σ' ∧ Head g ops q' r e' bx' σ' K) : Head g ops q ((i, false) :: r) e bx σ K := by
  subst hq; exact h
theorem Head.done (h : K e bx σ) : Head g ops q [] e bx σ K := h
theorem St.grown {n ds w0 F e bx σ a w} (st : St n ds w0 F e bx σ a w) (o : Obj) : St n ds w0 F e ((w.heap.size, o) :: bx) σ a { w with heap := w.heap.push o } := by
  have hlt : ∀ b o', w.heap[b]? = some o' → b < w.heap.size := fun b o' h => (Array.getElem?_eq_some_iff.1 h).1
  have hold : ∀ b o', w.heap[b]? = some o' → ({ w with heap := w.heap.push o } : World).heap[b]? = some o' := fun b o' h => by
    have := hlt _ _ h
    show (w.heap.push o)[b]? = some o'
    rw [Array.getElem?_push, if_neg (Nat.ne_of_lt this)]; exact h
  refine { st with sat := fun b o' hb => hold _ _ (st.sat b o' hb), box := fun p hp => ?_, free := fun p hp => ?_, nodup := ?_, prot := fun b hb => ?_, os := st.os, out := st.out, grow := by have := st.grow; simp; omega }
  · rcases List.mem_cons.1 hp with rfl | hp
    · simp
    · exact hold _ _ (st.box p hp)
  · rcases List.mem_cons.1 hp with rfl | hp
    · refine ⟨?_, fun hF => ?_⟩
      · cases hs : σ w.heap.size with
        | none => rfl
        | some o' => exact absurd (hlt _ _ (st.sat _ _ hs)) (Nat.lt_irrefl _)
      · have h1 := (st.prot _ hF).1
        have h2 := st.grow
        simp at h1
        omega
    · exact st.free p hp
  · refine List.nodup_cons.2 ⟨fun hm => ?_, st.nodup⟩
    obtain ⟨p, hp, he⟩ := List.mem_map.1 hm
    have := hlt _ _ (st.box p hp)
    simp at he
    omega
  · obtain ⟨h1, h2, h3⟩ := st.prot b hb
    refine ⟨h1, h2, ?_⟩
    have : b ≠ w.heap.size := by have := st.grow; omega
    show (w.heap.push o)[b]? = _
    rw [Array.getElem?_push, if_neg this]; exact h3
theorem OpTo.box {T : TypeId} {x : Operand} {cs : Array Value} (hs : sig ops i = some (d, .box T x, ty, gd)) (hw : wantedE ops e gd = true) (hd : dOk d g.n = true) (hx : (evalE e x).cells = cs)
    (h : ∀ b, K (put e d (.pointer (some ⟨b, 0, none⟩))) ((b, .cells cs T (0, 0)) :: bx) σ) : OpTo g ops i e bx σ K := by
  intro w0 F a w st
  obtain ⟨o, ho, rfl, ho2, ho3, hg⟩ := sig_some hs
  refine wpO_some ho (by rw [st.wanted, hg]; exact hw) ?_
  rw [st.eval]
  have : (execOp (evalE e) o).run g.P w = .ok (.value (.pointer (some ⟨w.heap.size, 0, none⟩))) { w with heap := w.heap.push (.cells cs T (0, 0)) } := by
    simp [execOp, ho2, Instr.box, newVar, newRow, newObj, Sem.run, hx]
  rw [semAt_ok this (fun d => by simp)]
  exact ⟨_, _, _, (st.grown _).put _ _ (dOk.lt hd), h _⟩
theorem OpTo.alloc {T : TypeId} {z : Value} {cs : Array Value} (hs : sig ops i = some (d, .alloc T, ty, gd)) (hw : wantedE ops e gd = true) (hd : dOk d g.n = true) (hz : ∀ w, (zeroValue T).run g.P w = .ok z w) (hc : z.cells = cs)
    (h : ∀ b, K (put e d (.pointer (some ⟨b, 0, none⟩))) ((b, .cells cs T (0, 0)) :: bx) σ) : OpTo g ops i e bx σ K := by
  intro w0 F a w st
  obtain ⟨o, ho, rfl, ho2, ho3, hg⟩ := sig_some hs
  refine wpO_some ho (by rw [st.wanted, hg]; exact hw) ?_
  rw [st.eval]
  have : (execOp (evalE e) o).run g.P w = .ok (.value (.pointer (some ⟨w.heap.size, 0, none⟩))) { w with heap := w.heap.push (.cells cs T (0, 0)) } := by
    simp [execOp, ho2, Instr.alloc, newVar, newRow, newObj, Sem.run, hz, hc]
  rw [semAt_ok this (fun d => by simp)]
  exact ⟨_, _, _, (st.grown _).put _ _ (dOk.lt hd), h _⟩
theorem Hp.set_same (σ : Hp) (b : Nat) (o : Obj) : σ.set b o b = some o := by simp [Hp.set]
theorem Hp.set_ne {σ : Hp} {b c : Nat} {o : Obj} (h : c ≠ b) : σ.set b o c = σ c := by simp [Hp.set, h]
theorem St.open {n ds w0 F e bx σ a w b o} (st : St n ds w0 F e ((b, o) :: bx) σ a w) : St n ds w0 F e bx (σ.set b o) a w := by
  have hb := st.box (b, o) (List.mem_cons_self ..)
  have hf := st.free (b, o) (List.mem_cons_self ..)
  have hn := List.nodup_cons.1 (show ((b :: bx.map (·.1))).Nodup from st.nodup)
  refine { st with sat := fun c o' hc => ?_, box := fun p hp => st.box p (List.mem_cons_of_mem _ hp), free := fun p hp => ?_, nodup := hn.2, prot := fun c hc => ?_ }
  · by_cases h : c = b
    · subst h; rw [Hp.set_same] at hc; cases hc; exact hb
    · rw [Hp.set_ne h] at hc; exact st.sat c o' hc
  · have h1 := st.free p (List.mem_cons_of_mem _ hp)
    have : p.1 ≠ b := fun h => hn.1 (List.mem_map.2 ⟨p, hp, h⟩)
    exact ⟨by rw [Hp.set_ne this]; exact h1.1, h1.2⟩
  · obtain ⟨h1, h2, h3⟩ := st.prot c hc
    have : c ≠ b := fun h => hf.2 (h ▸ hc)
    exact ⟨h1, by rw [Hp.set_ne this]; exact h2, h3⟩
theorem OpTo.boxO {T : TypeId} {x : Operand} {cs : Array Value} (hs : sig ops i = some (d, .box T x, ty, gd)) (hw : wantedE ops e gd = true) (hd : dOk d g.n = true) (hx : (evalE e x).cells = cs)
    (h : ∀ b, σ b = none → K (put e d (.pointer (some ⟨b, 0, none⟩))) bx (σ.set b (.cells cs T (0, 0)))) : OpTo g ops i e bx σ K := by
  intro w0 F a w st
  refine wpOpIn_mono ?_ (OpTo.box (K := fun e' bx' σ' => σ' = σ ∧ ∃ b, e' = put e d (.pointer (some ⟨b, 0, none⟩)) ∧ bx' = (b, .cells cs T (0, 0)) :: bx) hs hw hd hx (fun b => ⟨rfl, b, rfl, rfl⟩) w0 F a w st)
  rintro a' w' ⟨_, _, _, st', rfl, b, rfl, rfl⟩
  exact ⟨_, _, _, st'.open, h b (st'.free _ (List.mem_cons_self ..)).1⟩
theorem OpTo.allocO {T : TypeId} {z : Value} {cs : Array Value} (hs : sig ops i = some (d, .alloc T, ty, gd)) (hw : wantedE ops e gd = true) (hd : dOk d g.n = true) (hz : ∀ w, (zeroValue T).run g.P w = .ok z w) (hc : z.cells = cs)
    (h : ∀ b, σ b = none → K (put e d (.pointer (some ⟨b, 0, none⟩))) bx (σ.set b (.cells cs T (0, 0)))) : OpTo g ops i e bx σ K := by
  intro w0 F a w st
  refine wpOpIn_mono ?_ (OpTo.alloc (K := fun e' bx' σ' => σ' = σ ∧ ∃ b, e' = put e d (.pointer (some ⟨b, 0, none⟩)) ∧ bx' = (b, .cells cs T (0, 0)) :: bx) hs hw hd hz hc (fun b => ⟨rfl, b, rfl, rfl⟩) w0 F a w st)
  rintro a' w' ⟨_, _, _, st', rfl, b, rfl, rfl⟩
  exact ⟨_, _, _, st'.open, h b (st'.free _ (List.mem_cons_self ..)).1⟩
def Eff (P : Program) {α : Type} (m : Sem α) (σ : Hp) (Φ : α → Hp → Prop) : Prop :=
  ∀ w (F : Nat → Prop), Sat σ w → (∀ b, F b → b < w.heap.size ∧ σ b = none) → ∃ v w' σ', m.run P w = .ok v w' ∧ Φ v σ' ∧ Fin σ' F w w'
theorem Eff.mono {P : Program} {α : Type} {m : Sem α} {Φ Ψ : α → Hp → Prop} (h : Eff P m σ Φ) (hh : ∀ v σ', Φ v σ' → Ψ v σ') : Eff P m σ Ψ := fun w F hs hF =>
  let ⟨v, w', σ', h1, h2, h3⟩ := h w F hs hF
  ⟨v, w', σ', h1, hh _ _ h2, h3⟩
theorem St.lt {n ds w0 F e bx σ a w} (st : St n ds w0 F e bx σ a w) : ∀ b, (F b ∨ b ∈ bx.map (·.1)) → b < w.heap.size ∧ σ b = none := by
  rintro b (h | h)
  · have h1 := st.prot b h
    have h2 := st.grow
    exact ⟨by omega, h1.2.1⟩
  · obtain ⟨p, hp, rfl⟩ := List.mem_map.1 h
    exact ⟨(Array.getElem?_eq_some_iff.1 (st.box p hp)).1, (st.free p hp).1⟩
theorem St.fin {n ds w0 F e bx σ a w σ' w'} (st : St n ds w0 F e bx σ a w) (h : Fin σ' (fun b => F b ∨ b ∈ bx.map (·.1)) w w') : St n ds w0 F e bx σ' a w' := by
  refine { st with sat := h.sat, box := fun p hp => ?_, free := fun p hp => ⟨(h.prot p.1 (.inr (List.mem_map.2 ⟨p, hp, rfl⟩))).1, (st.free p hp).2⟩, prot := fun b hb => ?_, os := st.os.trans h.os, out := h.out.trans st.out, grow := Nat.le_trans st.grow h.grow }
  · rw [(h.prot p.1 (.inr (List.mem_map.2 ⟨p, hp, rfl⟩))).2]; exact st.box p hp
  · obtain ⟨h1, _, h3⟩ := st.prot b hb
    exact ⟨h1, (h.prot b (.inl hb)).1, (h.prot b (.inl hb)).2.trans h3⟩
theorem OpTo.eff (hs : sig ops i = some (d, op, ty, gd)) (hw : wantedE ops e gd = true) (hd : dOk d g.n = true) (m : Sem Value) (hm : ∀ o : Oper, o.op = op → o.type = ty → execOp (evalE e) o = (do pure (.value (← m))))
    (h : Eff g.P m σ fun v σ' => K (put e d v) bx σ') : OpTo g ops i e bx σ K := by
  intro w0 F a w st
  obtain ⟨o, ho, rfl, ho2, ho3, rfl⟩ := sig_some hs
  refine wpO_some ho (by rw [st.wanted]; exact hw) ?_
  obtain ⟨v, w', σ', h1, h2, h3⟩ := h w _ st.sat st.lt
  rw [st.eval]
  have hrun := hm o ho2 ho3
  rw [semAt_ok (by rw [hrun]; simp only [Sem.run_bind, h1, Result.andThen_ok]; rfl) (fun d => by simp)]
  exact ⟨_, _, _, (st.fin h3).put _ _ (dOk.lt hd), h2⟩
theorem OpTo.effU (hs : sig ops i = some (d, op, ty, gd)) (hw : wantedE ops e gd = true) (hd : dOk d g.n = true) (m : Sem Unit) (hm : ∀ o : Oper, o.op = op → o.type = ty → execOp (evalE e) o = (do m; pure .skip))
    (h : Eff g.P m σ fun _ σ' => K (put e d undef) bx σ') : OpTo g ops i e bx σ K := by
  intro w0 F a w st
  obtain ⟨o, ho, rfl, ho2, ho3, rfl⟩ := sig_some hs
  refine wpO_some ho (by rw [st.wanted]; exact hw) ?_
  obtain ⟨v, w', σ', h1, h2, h3⟩ := h w _ st.sat st.lt
  rw [st.eval]
  have hrun := hm o ho2 ho3
  rw [semAt_ok (by rw [hrun]; simp only [Sem.run_bind, h1, Result.andThen_ok]; rfl) (fun d => by simp)]
  exact ⟨_, _, _, (st.fin h3).put _ _ (dOk.lt hd), h2⟩
def Cont (R : Ending → Hp → Prop) (Φ : Value → Hp → Prop) : Ending → Hp → Prop
  | .returned v, σ => Φ v σ
  | .panicked ch, σ => R (.panicked ch) σ
  | .outgrown, _ => False
theorem Spec.to {P : Program} {f : FuncId} {args : Array Value} {R : Ending → Hp → Prop} {Φ Ψ : Value → Hp → Prop} (h : Spec P f args σ (Ret Φ)) (hh : ∀ v σ', Φ v σ' → Ψ v σ') :
    Spec P f args σ (Cont R Ψ) := h.mono fun _ σ' ⟨v, he, hv⟩ => by subst he; exact hh v σ' hv
theorem OpTo.call {f : FuncId} {args : Array Value} (hs : sig ops i = some (d, op, ty, gd)) (hw : wantedE ops e gd = true) (hd : dOk d g.n = true)
    (hm : ∀ o : Oper, o.op = op → o.type = ty → ∀ w, (execOp (evalE e) o).run g.P w = .ok (.enter f args) w)
    (h : Spec g.P f args σ (Cont g.R fun v σ' => K (put e d v) bx σ')) : OpTo g ops i e bx σ K := by
  intro w0 F a w st
  obtain ⟨o, ho, rfl, ho2, ho3, rfl⟩ := sig_some hs
  refine wpO_some ho (by rw [st.wanted]; exact hw) ?_
  rw [st.eval, semAt_ok (hm o ho2 ho3 w) (fun d => by simp)]
  refine ⟨fun hh => (by cases hh), callsIn_wd (Calls.mono (h w _ st.sat st.lt) fun en w' => ?_)⟩
  rintro ⟨σ', hr, hf⟩
  have st' := st.fin hf
  cases en with
  | returned v => exact ⟨_, _, _, st'.put _ _ (dOk.lt hd), hr⟩
  | panicked ch =>
    rcases g.pan with ⟨h1, h2⟩ | hno
    · exact ⟨⟨h1, st'.defers.trans h2⟩, σ', hr, st'.toFin⟩
    · exact absurd hr (hno ch σ')
  | outgrown => exact hr.elim
theorem exec_call {P : Program} {ρ : Operand → Value} {x : Operand} {xs : Array Operand} {ts : Array TypeId} {f : FuncId} {fst cap vs args : Array Value}
    (hf : ∀ args w, (callFunc f args).run P w = .ok (.enter f args) w) (hx : ρ x = .func (.func f) fst cap) (hargs : xs.toList.map ρ = vs.toList) (ha : fst ++ vs ++ cap = args)
    (o : Oper) (ho : o.op = .call { callee := .value x, args := xs, argTypes := ts }) (w : World) :
    (execOp ρ o).run P w = .ok (.enter f args) w := by
  subst ha
  have hargs : xs.map ρ = vs := by rw [← Array.toList_inj]; simpa using hargs
  simp only [execOp, ho, resolve, hx, hargs, Deferred.ofValue, invoke, bind, Sem.bind, pure]
  exact hf _ w
end moves
end Tw
end
section
namespace Tw
open Go
def wrt (c : Array Value) (o : Nat) : List Value → Array Value
  | [] => c
  | v :: vs => wrt (c.setIfInBounds o v) (o + 1) vs
theorem wrt_size : ∀ (vs : List Value) (c : Array Value) (o : Nat), (wrt c o vs).size = c.size
  | [], _, _ => rfl
  | v :: vs, c, o => by simp [wrt, wrt_size vs]
theorem wrt_get : ∀ (vs : List Value) (c : Array Value) (o j : Nat), o + vs.length ≤ c.size →
    (wrt c o vs)[j]? = if o ≤ j ∧ j < o + vs.length then vs[j - o]? else c[j]?
  | [], c, o, j, _ => by rw [if_neg (by simp only [List.length_nil]; omega)]; rfl
  | v :: vs, c, o, j, h => by
    simp only [List.length_cons] at h
    rw [wrt, wrt_get vs _ _ j (by simp; omega)]
    by_cases h1 : o + 1 ≤ j ∧ j < o + 1 + vs.length
    · rw [if_pos h1, if_pos (by simp; omega), show j - o = (j - (o + 1)) + 1 by omega, List.getElem?_cons_succ]
    · rw [if_neg h1]
      by_cases h2 : j = o
      · subst h2
        rw [if_pos (by simp), Nat.sub_self]
        simp [show j < c.size by omega]
      · rw [if_neg (by simp; omega), Array.getElem?_setIfInBounds_ne (Ne.symm h2)]
section
variable {P : Program}
theorem run_storeCells (b o : Nat) (t : TypeId) : ∀ (vs : List Value) (i : Nat) (c : Array Value) (w : World), w.heap[b]? = some (.cells c t (0, 0)) → o + i + vs.length ≤ c.size → (∀ v ∈ vs, v.oneCell' = true) →
    (storeCells ⟨b, o, none⟩ vs i).run P w = .ok () (w.setRow b (wrt c (o + i) vs))
  | [], i, c, w, hg, hl, _ => by
    have hlt : b < w.heap.size := (Array.getElem?_eq_some_iff.1 hg).1
    have hv : w.heap[b] = .cells c t (0, 0) := (Array.getElem?_eq_some_iff.1 hg).2
    simp only [storeCells, wrt]
    show Result.ok () w = _
    congr 1
    unfold World.setRow
    cases w with
    | mk heap tape drawn os output =>
      congr 1
      apply Array.ext
      · simp
      · intro k h1 h2
        simp only [Array.getElem_modify]
        split
        · rename_i hk; subst hk; simp at hv; simp [hv]
        · rfl
  | v :: vs, i, c, w, hg, hl, h1 => by
    simp only [List.length_cons] at hl
    have hcell : w.cell? ⟨b, o + i, none⟩ = some c[o + i] := by
      simp [World.cell?, hg]
    have hfr : w.frozen? ⟨b, o + i, none⟩ = false := by simp [World.frozen?, hg]
    have hadd : (⟨b, o, none⟩ : Addr).add i = ⟨b, o + i, none⟩ := add_off b o i
    have hset := setCell_eq_setRow w b (o + i) c t (0, 0) v hg
    have hheap := setRow_heap w b c (c.setIfInBounds (o + i) v) t (0, 0) hg
    have ih := run_storeCells b o t vs (i + 1) (c.setIfInBounds (o + i) v) (w.setRow b (c.setIfInBounds (o + i) v)) hheap (by simp; omega) (fun u hu => h1 u (List.mem_cons_of_mem _ hu))
    rw [setRow_setRow] at ih
    have hst := run_store P w ⟨b, o + i, none⟩ v .plain (h1 v (List.mem_cons_self ..))
    simp only [storeCells, hadd, Sem.run_bind, hst, hcell, hfr, Bool.false_eq_true, if_false, Result.andThen_ok, hset, ih, wrt]
    rw [Nat.add_assoc]
theorem run_storeAt (b o : Nat) (t ty : TypeId) (v : Value) (c : Array Value) (w : World) {n : Nat} (hs : ∀ w, (Go.sizeOf ty).run P w = .ok n w) (hn : v.cells.size = n) (hg : w.heap[b]? = some (.cells c t (0, 0)))
    (hl : o + n ≤ c.size) (h1 : ∀ u ∈ v.cells.toList, u.oneCell' = true) :
    (Instr.storeAt ty (.pointer (some ⟨b, o, none⟩)) v).run P w = .ok () (w.setRow b (wrt c o v.cells.toList)) := by
  have := run_storeCells (P := P) b o t v.cells.toList 0 c w hg (by simp; omega) h1
  simp [Instr.storeAt, Instr.sureAddr, storeVar, hs, hn, this]
end
theorem St.wrote {n ds w0 F e bx σ a w j b c c' t} (st : St n ds w0 F e bx σ a w) (hj : bx[j]? = some (b, Obj.cells c t (0, 0))) :
    St n ds w0 F e (bx.set j (b, .cells c' t (0, 0))) σ a (w.setRow b c') := by
  have hm : (b, Obj.cells c t (0, 0)) ∈ bx := List.mem_of_getElem? hj
  have hb := st.box _ hm
  have hf := st.free _ hm
  have hmap : (bx.set j (b, Obj.cells c' t (0, 0))).map (·.1) = bx.map (·.1) := by
    rw [List.map_set]
    have : (bx.map (·.1))[j]? = some b := by simp [hj]
    obtain ⟨hlt, heq⟩ := List.getElem?_eq_some_iff.1 this
    rw [← heq, List.set_getElem_self]
  have hother : ∀ k, k ≠ b → (w.setRow b c').heap[k]? = w.heap[k]? := fun k hk => setRow_other w b k c' hk
  refine { st with sat := fun k o hk => ?_, box := fun p hp => ?_, free := fun p hp => ?_, nodup := by rw [hmap]; exact st.nodup, prot := fun k hk => ?_, os := st.os, out := st.out, grow := by simpa using st.grow }
  · have : k ≠ b := fun h => by rw [h, hf.1] at hk; cases hk
    rw [hother k this]; exact st.sat k o hk
  · by_cases h : p.1 = b
    · -- the same block: the entry itself
      obtain ⟨i, hi⟩ := List.mem_iff_getElem?.1 hp
      have hij : i = j := by
        have h1 : ((bx.set j (b, Obj.cells c' t (0, 0))).map (·.1))[i]? = some b := by simp only [List.getElem?_map, hi, Option.map_some, h]
        rw [hmap] at h1
        have h2 : (bx.map (·.1))[j]? = some b := by simp [hj]
        have hl1 := (List.getElem?_eq_some_iff.1 h1).1
        exact (List.getElem?_inj hl1 st.nodup).1 (h1.trans h2.symm)
      subst hij
      have hlt : i < bx.length := (List.getElem?_eq_some_iff.1 hj).1
      rw [List.getElem?_set_self hlt] at hi
      cases hi
      exact setRow_heap w b c c' t (0, 0) hb
    · rw [hother _ h]
      rcases List.mem_or_eq_of_mem_set hp with h1 | h1
      · exact st.box p h1
      · exact absurd (by rw [h1]) h
  · rcases List.mem_or_eq_of_mem_set hp with h1 | h1
    · exact st.free p h1
    · rw [h1]; exact hf
  · obtain ⟨h1, h2, h3⟩ := st.prot k hk
    have : k ≠ b := fun h => hf.2 (h ▸ hk)
    exact ⟨h1, h2, by rw [hother k this]; exact h3⟩
section moves
variable {g : Gl} {ops : Array Oper} {i : Nat} {e : Env} {bx : Bx} {σ : Hp} {K : Env → Bx → Hp → Prop} {d : Option Nat} {op : Op} {ty T : TypeId} {gd : Option (Nat × Bool)}
theorem OpTo.storeb {x y : Operand} {j b o n : Nat} {c c' : Array Value} {t : TypeId} {v : Value} (hs : sig ops i = some (none, .store T x y, ty, gd)) (hw : wantedE ops e gd = true) (hz : ∀ w, (Go.sizeOf T).run g.P w = .ok n w)
    (hx : evalE e x = .pointer (some ⟨b, o, none⟩)) (hy : evalE e y = v) (hj : bx[j]? = some (b, Obj.cells c t (0, 0))) (hn : v.cells.size = n) (hl : Nat.ble (o + n) c.size = true) (h1 : (v.cells.toList.all fun u => u.oneCell') = true)
    (hc : wrt c o v.cells.toList = c') (h : K e (bx.set j (b, .cells c' t (0, 0))) σ) : OpTo g ops i e bx σ K := by
  intro w0 F a w st
  obtain ⟨o', ho, hd, ho2, ho3, hg⟩ := sig_some hs
  refine wpO_some ho (by rw [st.wanted, hg]; exact hw) ?_
  rw [st.eval]
  subst hc
  have hb := st.box _ (List.mem_of_getElem? hj)
  have := run_storeAt (P := g.P) b o t T v c w hz hn hb (Nat.le_of_ble_eq_true hl) (fun u hu => List.all_eq_true.1 h1 u hu)
  have : (execOp (evalE e) o').run g.P w = .ok .skip (w.setRow b (wrt c o v.cells.toList)) := by
    simp [execOp, ho2, hx, hy, this]
  rw [semAt_ok this (fun d => by simp)]
  have hput : a.put o'.dst undef = a := by rw [hd]; rfl
  simp only [Oper.uponIn_skip, hput]
  exact ⟨_, _, _, st.wrote hj, h⟩
theorem Eff.store {P : Program} {b o n : Nat} {c : Array Value} {t : TypeId} {v : Value} {Φ : Unit → Hp → Prop} (hz : ∀ w, (Go.sizeOf T).run P w = .ok n w) (hb : σ b = some (.cells c t (0, 0))) (hn : v.cells.size = n) (hl : o + n ≤ c.size) (h1 : ∀ u ∈ v.cells.toList, u.oneCell' = true)
    (h : Φ () (σ.set b (.cells (wrt c o v.cells.toList) t (0, 0)))) : Eff P (Instr.storeAt T (.pointer (some ⟨b, o, none⟩)) v) σ Φ := fun w F hs hF => by
  refine ⟨(), _, _, run_storeAt b o t T v c w hz hn (hs _ _ hb) hl h1, h, ?_, ?_, .same rfl rfl rfl, rfl, by simp⟩
  · intro k o' hk
    by_cases h : k = b
    · subst h; rw [Hp.set_same] at hk; cases hk; exact setRow_heap w k c _ t (0, 0) (hs _ _ hb)
    · rw [Hp.set_ne h] at hk; rw [setRow_other _ _ _ _ h]; exact hs k o' hk
  · intro k hk
    have : k ≠ b := fun h => by have := (hF k hk).2; rw [h, hb] at this; cases this
    exact ⟨by rw [Hp.set_ne this]; exact (hF k hk).2, setRow_other _ _ _ _ this⟩
theorem OpTo.store {x y : Operand} {p v : Value} (hs : sig ops i = some (none, .store T x y, ty, gd)) (hw : wantedE ops e gd = true) (hx : evalE e x = p) (hy : evalE e y = v)
    (h : Eff g.P (Instr.storeAt T p v) σ fun _ σ' => K e bx σ') : OpTo g ops i e bx σ K :=
  OpTo.effU hs hw rfl (Instr.storeAt T p v) (fun o ho _ => by simp [execOp, ho, hx, hy]) h
end moves
section yields
variable {P : Program} {e : Env} {bx : Bx} {σ : Hp} {ty T : TypeId}
theorem Y.build {ps : Array (Nat × Operand)} {vs : List (Nat × Value)} {cs : Array Value} (hv : ps.toList.map (fun p => (p.1, evalE e p.2)) = vs) (hc : P.built T vs = some cs) : Yd P e bx σ (.build T ps) ty (.agg cs) := fun oo ho _ w _ _ => by
  have hh : (ps.map fun (i, x) => (i, evalE e x)).toList = vs := by rw [← hv]; simp
  have := run_build (P := P) w T (ps.map fun (i, x) => (i, evalE e x)) cs (by rw [hh]; exact hc)
  simp only [execOp, ho, Sem.run_bind, this, Result.andThen_ok]
  rfl
end yields
def ResOk (P : Program) (e : Env) (bx : Bx) (σ : Hp) : List ResultVar → List Value → Prop
  | [], vs => vs = []
  | .tmp t :: r, vs => ∃ us, vs = e t :: us ∧ ResOk P e bx σ r us
  | .cell p T :: r, vs => ∃ v us, vs = v :: us ∧ (∃ a, e p = .pointer (some a) ∧ ∀ w, Sat σ w → SatB bx w → (loadVar T a).run P w = .ok v w) ∧ ResOk P e bx σ r us
def resVal : List Value → Value
  | [v] => v
  | vs => .tuple vs.toArray
def resF (tmps : Array Value) : ResultVar → Sem Value
  | .tmp t => pure (tmps.getD t undef)
  | .cell a t => do loadVar t (← asAddr (tmps.getD a undef))
theorem ResOk.run {P : Program} {e : Env} {bx : Bx} {σ : Hp} {tmps : Array Value} {w : World} (he : ∀ t, tmps.getD t undef = e t) (hs : Sat σ w) (hb : SatB bx w) : ∀ (rs : List ResultVar) (vs : List Value), ResOk P e bx σ rs vs →
    (rs.mapM (resF tmps)).run P w = Result.ok vs w
  | [], vs, h => by simp only [ResOk] at h; subst h; simp
  | .tmp t :: r, vs, h => by
    obtain ⟨us, rfl, h⟩ := h
    have h1 : (resF tmps (.tmp t)).run P w = .ok (e t) w := by simp only [resF, Sem.run_pure, he]
    simp only [List.mapM_cons, Sem.run_bind, Sem.run_pure, Result.andThen_ok, ResOk.run he hs hb r us h, h1]
  | .cell p T :: r, vs, h => by
    obtain ⟨v, us, rfl, ⟨a, ha, hl⟩, h⟩ := h
    have h2 : (resF tmps (.cell p T)).run P w = .ok v w := by
      have h1 : tmps.getD p undef = .pointer (some a) := (he p).trans ha
      simp only [resF, Sem.run_bind, Sem.run_pure, Result.andThen_ok, h1, asAddr, hl w hs hb]
    simp only [List.mapM_cons, Sem.run_bind, Sem.run_pure, Result.andThen_ok, ResOk.run he hs hb r us h, h2]
theorem ResOk.results {P : Program} {e : Env} {bx : Bx} {σ : Hp} {fn : Func} {rs : List ResultVar} {vs : List Value} (hr : fn.results = rs.toArray) (h : ResOk P e bx σ rs vs) (a : Act) (w : World)
    (he : ∀ t, a.tmps.getD t undef = e t) (hs : Sat σ w) (hb : SatB bx w) : (results fn a.tmps).run P w = .ok (resVal vs) w := by
  have h1 := ResOk.run he hs hb _ _ h
  have h2 : Go.results fn a.tmps = (do let vs ← fn.results.mapM (resF a.tmps); pure (if h : vs.size = 1 then vs[0] else .tuple vs)) := rfl
  rw [h2, hr]
  simp only [List.mapM_toArray, Sem.run_bind, Sem.run_map, h1, Result.andThen_ok]
  cases vs with
  | nil => rfl
  | cons v vs => cases vs <;> rfl
theorem ldb_run {P : Program} {bx : Bx} {σ : Hp} {T : TypeId} {b o : Nat} {c : Array Value} {t : TypeId} {fr : Nat × Nat} {v : Value} (hA : ∀ w, (isAgg T).run P w = .ok false w) (hb : (b, Obj.cells c t fr) ∈ bx) (h : c[o]? = some v) :
    ∀ w, Sat σ w → SatB bx w → (loadVar T ⟨b, o, none⟩).run P w = .ok v w := fun w _ hs => by
  simp [loadVar, hA, load, Sem.run, hs.cell hb, h]
theorem ldab_run {P : Program} {bx : Bx} {σ : Hp} {T : TypeId} {b n : Nat} {c : Array Value} {t : TypeId} {fr : Nat × Nat} (hA : ∀ w, (isAgg T).run P w = .ok true w) (hs : ∀ w, ((Go.sizeOf T).run P w) = .ok n w) (hn : c.size = n) (hb : (b, Obj.cells c t fr) ∈ bx) :
    ∀ w, Sat σ w → SatB bx w → (loadVar T ⟨b, 0, none⟩).run P w = .ok (.agg c) w := fun w _ hsat => by
  subst hn
  have := run_loadCells_list (P := P) (w := w) ⟨b, 0, none⟩ c.toList (fun j v hj => by
    rw [show (⟨b, 0, none⟩ : Addr).add j = ⟨b, 0 + j, none⟩ from add_off _ _ _, hsat.cell hb]
    simpa using hj)
  simp at this
  simp [loadVar, hA, hs, this]
theorem ldo_run {P : Program} {bx : Bx} {σ : Hp} {T : TypeId} {a : Addr} {v : Value} (hA : ∀ w, (isAgg T).run P w = .ok false w) (h : σ.ld a = some v) : ∀ w, Sat σ w → SatB bx w → (loadVar T a).run P w = .ok v w := fun w hs _ => by
  simp [loadVar, hA, load, Sem.run, hs.ld h]
theorem ldoa_run {P : Program} {bx : Bx} {σ : Hp} {T : TypeId} {b o n : Nat} {vs : List Value} (hA : ∀ w, (isAgg T).run P w = .ok true w) (hs : ∀ w, ((Go.sizeOf T).run P w) = .ok n w) (hn : vs.length = n) (h : LdL σ b o vs) :
    ∀ w, Sat σ w → SatB bx w → (loadVar T ⟨b, o, none⟩).run P w = .ok (.agg vs.toArray) w := fun w hsat _ => by
  subst hn
  have := run_loadCells_list (P := P) (w := w) ⟨b, o, none⟩ vs (fun j v hj => by rw [show (⟨b, o, none⟩ : Addr).add j = ⟨b, o + j, none⟩ from add_off _ _ _]; exact hsat.ld (h.get hj))
  simp [loadVar, hA, hs, this]
section ends
variable {g : Gl} {k : List Item} {e : Env} {bx : Bx} {σ : Hp}
theorem At.retV {c : Code} {fn : Func} {rs : List ResultVar} {vs : List Value} (hc : c = Code.ret) (hf : g.P.funcs[g.f]? = some fn) (hr : fn.results = rs.toArray) (h : ResOk g.P e bx (left g.ds σ) rs vs) (hR : g.R (.returned (resVal vs)) (left g.ds σ))
    (hrn : g.rnd = none := by rfl) (hm : Marks g.ds σ := by trivial) : At g (.code c :: k) e bx σ :=
  At.ret hc hf (fun a w he hs hb => h.results hr a w he hs hb) hR hrn hm
theorem At.doneV {fn : Func} {rs : List ResultVar} {vs : List Value} (hf : g.P.funcs[g.f]? = some fn) (hr : fn.results = rs.toArray) (h : ResOk g.P e bx (left g.ds σ) rs vs) (hR : g.R (.returned (resVal vs)) (left g.ds σ))
    (hrn : g.rnd = none := by rfl) (hm : Marks g.ds σ := by trivial) : At g [] e bx σ :=
  At.done hf (fun a w he hs hb => h.results hr a w he hs hb) hR hrn hm
end ends
end Tw
end
section
namespace Tw
open Go
def cl : Code → Code
  | .seq a _ => a | .cond _ a _ => a | .block _ a => a | .loop a => a | .scope a => a | .rangeFunc _ _ a _ => a | c => c
def cr : Code → Code
  | .seq _ b => b | .cond _ _ b => b | .rangeFunc _ _ _ b => b | c => c
def cO : Code → Array Oper
  | .region _ ops _ => ops | _ => #[]
def fieldOf (P : Program) (t : TypeId) (f : Nat) : Field :=
  match P.underlying t with
  | some (.struct fs) => fs.getD f default
  | _ => default
theorem nt {b : Bool} (h : (!b) = true) : b = false := by simpa using h
theorem nf {b : Bool} (h : (!b) = false) : b = true := by simpa using h
def Ext (σ σ' : Hp) : Prop := ∀ b o, σ b = some o → σ' b = some o
theorem Ext.refl (σ : Hp) : Ext σ σ := fun _ _ h => h
theorem Ext.trans {σ σ' σ'' : Hp} (h : Ext σ σ') (h' : Ext σ' σ'') : Ext σ σ'' := fun b o hb => h' b o (h b o hb)
theorem Ext.set {σ : Hp} {b : Nat} {o : Obj} (h : σ b = none) : Ext σ (σ.set b o) := fun c o' hc => by
  have : c ≠ b := fun e => by rw [e, h] at hc; cases hc
  rw [Hp.set_ne this]; exact hc
theorem Ext.ld {σ σ' : Hp} (h : Ext σ σ') {a : Addr} {v : Value} (hl : σ.ld a = some v) : σ'.ld a = some v := by
  unfold Hp.ld at *
  cases hb : σ a.block with
  | none => simp [hb] at hl
  | some o => rw [h _ _ hb]; rw [hb] at hl; exact hl
theorem At.ofL {g : Gl} {k : List Item} {e : Env} {bx : Bx} {σ : Hp} {l : List (Nat × Value)} (hl : Live e l) (h : ∀ J, At g k (upds J l) bx σ) : At g k e bx σ := At.live hl (h e)
def Kp (L : List Nat) (σ σ' : Hp) : Prop := ∀ b ∈ L, ∀ o, σ b = some o → σ' b = some o
theorem Kp.of_ext {L : List Nat} {σ σ' : Hp} (h : Ext σ σ') : Kp L σ σ' := fun b _ o hb => h b o hb
theorem Kp.nil {σ σ' : Hp} : Kp [] σ σ' := fun b hb => by cases hb
theorem kp_q {L : List (Nat × List Nat)} {σ σ' : Hp} (h : Kp (L.map Prod.fst) σ σ') : ∀ x ∈ L, ∀ o, σ x.1 = some o → σ' x.1 = some o := fun x hx o ho => h x.1 (List.mem_map.2 ⟨x, hx, rfl⟩) o ho
theorem lim_ld {b o : Nat} {s : Option Nat} {L : List (Nat × List Nat)} {Ds : List (List Nat)} {σ : Hp} {v : Value} (h : σ.ld ⟨b, o, s⟩ = some v) : (limO (some L) (some (b, Ds)) σ).ld ⟨b, o, s⟩ = some v := by
  unfold Hp.ld at *
  simpa [limO] using h
theorem lim_ldl {b : Nat} {L : List (Nat × List Nat)} {Ds : List (List Nat)} {σ : Hp} : ∀ {o : Nat} {vs : List Value}, LdL σ b o vs → LdL (limO (some L) (some (b, Ds)) σ) b o vs
  | _, [], _ => trivial
  | _, _ :: _, ⟨h, r⟩ => ⟨lim_ld h, lim_ldl r⟩
theorem Spec.cont {P : Program} {f : FuncId} {args : Array Value} {σ : Hp} {R : Ending → Hp → Prop} {Φ Ψ : Value → Hp → Prop} (h : Spec P f args σ (Cont R Φ)) (hh : ∀ v σ', Φ v σ' → Ψ v σ') :
    Spec P f args σ (Cont R Ψ) := h.mono fun e σ' he => by
  cases e with
  | returned v => exact hh v σ' he
  | panicked ch => exact he
  | outgrown => exact he
def YF (P : Program) (m : Sem Value) (σ : Hp) (v : Value) : Prop := ∀ w, Sat σ w → m.run P w = .ok v w
theorem Yd.any {P : Program} {e : Env} {bx : Bx} {σ : Hp} {op : Op} {ty : TypeId} {v : Value} {m : Sem Value} (hm : ∀ o : Oper, o.op = op → o.type = ty → execOp (evalE e) o = (do pure (Next.value (← m)))) (hy : YF P m σ v) : Yd P e bx σ op ty v :=
  Yd.of m hm (fun w hs _ => hy w hs)
def slP (p : Option Addr) (l c s : Nat) : Option Addr := if c = l then p else p.map (·.add (l * s))
section
variable {P : Program} {e : Env} {bx : Bx} {σ : Hp} {ty T E : TypeId} {x y z : Operand} {k k' : IntKind} {l h : Int} {p : Option Addr} {n c s : Nat}
theorem elem_of (hT : P.underlying T = some (.slice E)) : P.elem T = E := by simp [Program.elem, hT]
theorem Y.sla (hT : P.underlying T = some (.slice E)) (hs : ∀ w, ((Go.sizeOf E).run P w) = .ok s w) (hx : evalE e x = .slice p n c) (_ : True) : Yd P e bx σ (.slice T x none none none) ty (.slice p n c) := fun oo ho _ w _ _ => by
  have hT' : P.underlying T = some (.slice (P.elem T)) := by rw [elem_of hT]; exact hT
  have h1 := run_sliceAt_slice (P := P) (w := w) T (.slice p n c) none none none hT'
  have h2 := run_slice_all (P := P) (w := w) T p n c hT'
  simp [execOp, ho, hx, h1, h2, hs, elem_of hT, sliced]
  cases p <;> simp [Addr.add]
theorem Y.slh (hT : P.underlying T = some (.slice E)) (hs : ∀ w, ((Go.sizeOf E).run P w) = .ok s w) (hx : evalE e x = .slice p n c) (hz : evalE e z = .int k h) (hh : 0 ≤ h ∧ h ≤ c) : Yd P e bx σ (.slice T x none (some z) none) ty (.slice p h.toNat c) := fun oo ho _ w _ _ => by
  have hT' : P.underlying T = some (.slice (P.elem T)) := by rw [elem_of hT]; exact hT
  have h1 := run_sliceAt_slice (P := P) (w := w) T (.slice p n c) none (some (.int k h)) none hT'
  have h2 := run_slice_h (P := P) (w := w) T p n c hT' k h hh.1 hh.2
  simp [execOp, ho, hx, hz, h1, h2, hs, elem_of hT, sliced]
  cases p <;> simp [Addr.add]
theorem Y.sll (hT : P.underlying T = some (.slice E)) (hs : ∀ w, ((Go.sizeOf E).run P w) = .ok s w) (hx : evalE e x = .slice p n c) (hy : evalE e y = .int k l) (hh : 0 ≤ l ∧ l ≤ n) : Yd P e bx σ (.slice T x (some y) none none) ty (.slice (slP p l.toNat c s) (n - l.toNat) (c - l.toNat)) := fun oo ho _ w _ _ => by
  have hT' : P.underlying T = some (.slice (P.elem T)) := by rw [elem_of hT]; exact hT
  have h1 := run_sliceAt_slice (P := P) (w := w) T (.slice p n c) (some (.int k l)) none none hT'
  have h2 := run_slice_l (P := P) (w := w) T p n c hT' k l hh.1 hh.2
  simp [execOp, ho, hx, hy, h1, h2, hs, elem_of hT, sliced, slP]
theorem Y.sllh (hT : P.underlying T = some (.slice E)) (hs : ∀ w, ((Go.sizeOf E).run P w) = .ok s w) (hx : evalE e x = .slice p n c) (hy : evalE e y = .int k l) (hz : evalE e z = .int k' h) (hh : 0 ≤ l ∧ l ≤ h ∧ h ≤ c) :
    Yd P e bx σ (.slice T x (some y) (some z) none) ty (.slice (slP p l.toNat c s) (h.toNat - l.toNat) (c - l.toNat)) := fun oo ho _ w _ _ => by
  have hT' : P.underlying T = some (.slice (P.elem T)) := by rw [elem_of hT]; exact hT
  have h1 := run_sliceAt_slice (P := P) (w := w) T (.slice p n c) (some (.int k l)) (some (.int k' h)) none hT'
  have h2 := run_slice_lh (P := P) (w := w) T p n c hT' k k' l h hh.1 hh.2.1 hh.2.2
  simp [execOp, ho, hx, hy, hz, h1, h2, hs, elem_of hT, sliced, slP]
theorem slP_zero (p : Option Addr) (c s : Nat) : slP p 0 c s = p := by unfold slP; cases p <;> simp [Addr.add]
theorem Y.sllh0 (hT : P.underlying T = some (.slice E)) (hs : ∀ w, ((Go.sizeOf E).run P w) = .ok s w) (hx : evalE e x = .slice p n c) (hy : evalE e y = .int k 0) (hz : evalE e z = .int k' h) (hh : (0 : Int) ≤ 0 ∧ 0 ≤ h ∧ h ≤ c) :
    Yd P e bx σ (.slice T x (some y) (some z) none) ty (.slice p h.toNat c) := by
  have := Y.sllh (P := P) (bx := bx) (σ := σ) (ty := ty) hT hs hx hy hz hh
  simpa [slP_zero] using this
theorem Y.sll0 (hT : P.underlying T = some (.slice E)) (hs : ∀ w, ((Go.sizeOf E).run P w) = .ok s w) (hx : evalE e x = .slice p n c) (hy : evalE e y = .int k 0) (hh : (0 : Int) ≤ 0 ∧ (0 : Int) ≤ n) :
    Yd P e bx σ (.slice T x (some y) none none) ty (.slice p n c) := by
  have := Y.sll (P := P) (bx := bx) (σ := σ) (ty := ty) hT hs hx hy hh
  simpa [slP_zero] using this
theorem Y.eqlB {a b : Bool} (hT : P.underlying T = some .bool) (hx : evalE e x = .bool a) (hy : evalE e y = .bool b) {T' : TypeId} : Yd P e bx σ (.binOp .eql T x y T') ty (.bool (a == b)) := fun oo ho _ w _ _ => by
  simp [execOp, ho, hx, hy, eqGuard_at_bool, run_eql_bool w T a b hT]
theorem Y.neqB {a b : Bool} (hT : P.underlying T = some .bool) (hx : evalE e x = .bool a) (hy : evalE e y = .bool b) {T' : TypeId} : Yd P e bx σ (.binOp .neq T x y T') ty (.bool (!(a == b))) := fun oo ho _ w _ _ => by
  simp [execOp, ho, hx, hy, eqGuard_at_bool, run_neq_bool w T a b hT]
theorem Y.eqlS {a b : ByteArray} (hT : P.underlying T = some .string) (hx : evalE e x = .string a) (hy : evalE e y = .string b) {T' : TypeId} : Yd P e bx σ (.binOp .eql T x y T') ty (.bool (a.toList == b.toList)) := fun oo ho _ w _ _ => by
  have _ := hT
  have h1 : (binOp .eql T (.string a) (.string b)).run P w = .ok (.bool (a.toList == b.toList)) w := by simp [binOp, Op.stringOp]
  simp [execOp, ho, hx, hy, eqGuard_at_string, h1]
theorem Y.neqS {a b : ByteArray} (hT : P.underlying T = some .string) (hx : evalE e x = .string a) (hy : evalE e y = .string b) {T' : TypeId} : Yd P e bx σ (.binOp .neq T x y T') ty (.bool (!(a.toList == b.toList))) := fun oo ho _ w _ _ => by
  have _ := hT
  have h1 : (binOp .neq T (.string a) (.string b)).run P w = .ok (.bool (!(a.toList == b.toList))) w := by simp [binOp, Op.stringOp]
  simp [execOp, ho, hx, hy, eqGuard_at_string, h1]
theorem Y.eqlNil {q : Option Addr} {E : TypeId} (hT : P.underlying T = some (.pointer E)) (hx : evalE e x = .pointer q) (hy : evalE e y = .pointer none) {T' : TypeId} : Yd P e bx σ (.binOp .eql T x y T') ty (.bool q.isNone) := fun oo ho _ w _ _ => by
  have hT' : P.underlying T = some (.pointer (P.pointee T)) := by rw [show P.pointee T = E by simp [Program.pointee, hT]]; exact hT
  have h1 := run_eql_pointer_nil w T q hT'
  simp [execOp, ho, hx, hy, eqGuard_at_pointer, h1]
theorem Y.neqNil {q : Option Addr} {E : TypeId} (hT : P.underlying T = some (.pointer E)) (hx : evalE e x = .pointer q) (hy : evalE e y = .pointer none) {T' : TypeId} : Yd P e bx σ (.binOp .neq T x y T') ty (.bool q.isSome) := fun oo ho _ w _ _ => by
  have hT' : P.underlying T = some (.pointer (P.pointee T)) := by rw [show P.pointee T = E by simp [Program.pointee, hT]]; exact hT
  have h1 := run_neq_pointer_nil w T q hT'
  simp [execOp, ho, hx, hy, eqGuard_at_pointer, h1]
section
variable {u v : Value} {ts : Array TypeId}
theorem exec_b_append (hx : evalE e x = u) (hy : evalE e y = v) (o : Oper) (ho : o.op = .call { callee := .builtin .append, args := #[x, y], argTypes := ts }) (ht : o.type = ty) : execOp (evalE e) o = (do pure (.value (← Builtin.append_ ts ty #[u, v]))) := by
  subst ht; simp [execOp, ho, resolve, invoke, builtin, hx, hy]
theorem exec_b_copy (hx : evalE e x = u) (hy : evalE e y = v) (o : Oper) (ho : o.op = .call { callee := .builtin .copy, args := #[x, y], argTypes := ts }) (ht : o.type = ty) : execOp (evalE e) o = (do pure (.value (← Builtin.copy_ ts ty #[u, v]))) := by
  subst ht; simp [execOp, ho, resolve, invoke, builtin, hx, hy]
theorem exec_b_delete (hx : evalE e x = u) (hy : evalE e y = v) (o : Oper) (ho : o.op = .call { callee := .builtin .delete, args := #[x, y], argTypes := ts }) (ht : o.type = ty) : execOp (evalE e) o = (do pure (.value (← Builtin.delete_ ts ty #[u, v]))) := by
  subst ht; simp [execOp, ho, resolve, invoke, builtin, hx, hy]
theorem exec_b_clear (hx : evalE e x = u) (o : Oper) (ho : o.op = .call { callee := .builtin .clear, args := #[x], argTypes := ts }) (ht : o.type = ty) : execOp (evalE e) o = (do pure (.value (← Builtin.clear_ ts ty #[u]))) := by
  subst ht; simp [execOp, ho, resolve, invoke, builtin, hx]
end
def Program.bslice (P : Program) (E : TypeId) (m : Nat) (vs : List (Nat × Value)) : Option (Array Value) :=
  match P.info? E with
  | some i => match i.zero with
    | some z => if m * i.size > 2 ^ 24 then none else Instr.fill (fun j => some (j * i.size, i.size)) ((Array.range (m * i.size)).map (z.cells[· % z.cells.size]!)) vs
    | none => none
  | none => none
theorem run_buildSlice {m : Nat} {vs : List (Nat × Value)} {cs : Array Value} (hT : P.underlying T = some (.slice E)) (hc : Program.bslice P E m vs = some cs) (ps : Array (Nat × Value)) (hp : ps.toList = vs) (w : World) :
    (Instr.buildSlice T m ps).run P w = .ok (.slice (some ⟨w.heap.size, 0, none⟩) m m) { w with heap := w.heap.push (.cells cs E (0, 0)) } := by
  unfold Program.bslice at hc
  cases hi : P.info? E with
  | none => simp [hi] at hc
  | some i =>
    cases hz : i.zero with
    | none => simp [hi, hz] at hc
    | some z =>
      simp only [hi, hz] at hc
      by_cases hm : m * i.size > 2 ^ 24
      · simp [hm] at hc
      · simp only [hm, if_false] at hc
        subst hp
        by_cases h0 : m * i.size = 0
        · rw [h0] at hc
          have : (Array.range 0).map (fun x => z.cells[x % z.cells.size]!) = #[] := by simp
          rw [this] at hc
          have h2 : Array.map (fun _ => (default : Value)) (Array.range 0) = #[] := by simp
          simp [Instr.buildSlice, run_underlying hT, Go.sizeOf, typeInfo, hi, h0, h2, hc, newRow, newObj, Sem.run]
        · simp [Instr.buildSlice, run_underlying hT, Go.sizeOf, typeInfo, zeroValue, hi, hz, hm, h0, hc, newRow, newObj, Sem.run]
end
theorem OpTo.bslice {g : Gl} {ops : Array Oper} {i : Nat} {e : Env} {bx : Bx} {σ : Hp} {K : Env → Bx → Hp → Prop} {d : Option Nat} {ty T E : TypeId} {m : Nat} {ps : Array (Nat × Operand)} {vs : List (Nat × Value)} {cs : Array Value} (hT : g.P.underlying T = some (.slice E))
    {gd : Option (Nat × Bool)} (hs : sig ops i = some (d, .buildSlice T m ps, ty, gd)) (hw : wantedE ops e gd = true) (hd : dOk d g.n = true) (hv : ps.toList.map (fun p => (p.1, evalE e p.2)) = vs) (hc : Program.bslice g.P E m vs = some cs)
    (h : ∀ b, σ b = none → K (put e d (.slice (some ⟨b, 0, none⟩) m m)) bx (σ.set b (.cells cs E (0, 0)))) : OpTo g ops i e bx σ K := by
  intro w0 F a w st
  obtain ⟨o, ho, rfl, ho2, ho3, hg⟩ := sig_some hs
  refine wpO_some ho (by rw [st.wanted, hg]; exact hw) ?_
  rw [st.eval]
  have hh : (ps.map fun (i, x) => (i, evalE e x)).toList = vs := by rw [← hv]; simp
  have := run_buildSlice hT hc (ps.map fun (i, x) => (i, evalE e x)) hh w
  have : (execOp (evalE e) o).run g.P w = .ok (.value (.slice (some ⟨w.heap.size, 0, none⟩) m m)) { w with heap := w.heap.push (.cells cs E (0, 0)) } := by
    simp only [execOp, ho2, Sem.run_bind, this, Result.andThen_ok]; rfl
  rw [semAt_ok this (fun d => by simp)]
  have st' := st.grown (.cells cs E (0, 0))
  exact ⟨_, _, _, st'.open.put _ _ (dOk.lt hd), h _ (st'.free _ (List.mem_cons_self ..)).1⟩
def Enters (P : Program) (f : FuncId) : Prop := ∀ args w, (callFunc f args).run P w = .ok (.enter f args) w
theorem OpTo.callE {g : Gl} {ops : Array Oper} {i : Nat} {e : Env} {bx : Bx} {σ : Hp} {K : Env → Bx → Hp → Prop} {d : Option Nat} {ty : TypeId} {gd : Option (Nat × Bool)} {x : Operand} {xs : Array Operand} {ts : Array TypeId}
    {f : FuncId} {fst cap vs : Array Value} {u : Value} (hs : sig ops i = some (d, .call { callee := .value x, args := xs, argTypes := ts }, ty, gd)) (hw : wantedE ops e gd = true) (hd : dOk d g.n = true)
    (hx : evalE e x = u) (hargs : xs.toList.map (evalE e) = vs.toList) (hu : u = .func (.func f) fst cap) (hen : Enters g.P f)
    (h : Spec g.P f (fst ++ vs ++ cap) σ (Cont g.R fun v σ' => K (put e d v) bx σ')) : OpTo g ops i e bx σ K :=
  OpTo.call hs hw hd (fun o ho _ w => exec_call hen (hx.trans hu) hargs rfl o ho w) h
def YN (P : Program) (f : FuncId) (args : Array Value) (σ : Hp) (v : Value) : Prop := ∀ w, Sat σ w → (callFunc f args).run P w = .ok (.value v) w
theorem Yd.ext {P : Program} {e : Env} {bx : Bx} {σ : Hp} {ty : TypeId} {v : Value} {x : Operand} {xs : Array Operand} {ts : Array TypeId} {f : FuncId} {args : Array Value}
    (hx : evalE e x = .func (.func f) #[] #[]) (hargs : xs.toList.map (evalE e) = args.toList) (hy : YN P f args σ v) : Yd P e bx σ (.call { callee := .value x, args := xs, argTypes := ts }) ty v := fun o ho _ w hs _ => by
  have hargs : xs.map (evalE e) = args := by rw [← Array.toList_inj]; simpa using hargs
  simp only [execOp, ho, resolve, hx, hargs, Deferred.ofValue, invoke, bind, Sem.bind, pure, Array.empty_append, Array.append_empty]
  exact hy w hs
end Tw
end
section
namespace Tw
open Go
theorem Eff.pu {P : Program} {α : Type} {m : Sem α} {σ : Hp} {Φ : α → Hp → Prop} {v : α} (hm : ∀ w, Sat σ w → m.run P w = .ok v w) (h : Φ v σ) : Eff P m σ Φ := fun w _ hs hF =>
  ⟨v, w, σ, hm w hs, h, hs, fun b hb => ⟨(hF b hb).2, rfl⟩, .same rfl rfl rfl, rfl, Nat.le_refl _⟩
def Hp.del (σ : Hp) (p : Option Addr) : Hp := fun k => match p with
  | some a => if k = a.block then none else σ k
  | none => σ k
def Hp.new (σ σ' : Hp) : Hp := fun k => match σ k with
  | none => σ' k
  | some _ => none
theorem Hp.del_none (σ : Hp) : σ.del none = σ := rfl
theorem Ext.del {σ σ' : Hp} (h : Ext σ σ') (p : Option Addr) : Ext (σ.del p) (σ'.del p) := fun k o hk => by
  cases p with
  | none => exact h k o hk
  | some a => simp only [Hp.del] at hk ⊢; split at hk <;> simp_all [h k o]
theorem Ext.of_del (σ : Hp) (p : Option Addr) : Ext (σ.del p) σ := fun k o hk => by
  cases p with
  | none => exact hk
  | some a => simp only [Hp.del] at hk; split at hk <;> simp_all
theorem Ext.of_new (σ σ' : Hp) : Ext (σ.new σ') σ' := fun k o hk => by
  simp only [Hp.new] at hk; split at hk <;> simp_all
theorem Ext.new_del {σ σ' : Hp} {p : Option Addr} (hp : ∀ a, p = some a → σ a.block ≠ none) : Ext (σ.new σ') (σ'.del p) := fun k o hk => by
  cases p with
  | none => exact Ext.of_new σ σ' k o hk
  | some a =>
    have h1 := hp a rfl
    have h2 := Ext.of_new σ σ' k o hk
    simp only [Hp.del]
    split
    · rename_i h; subst h
      simp only [Hp.new] at hk
      split at hk <;> simp_all
    · exact h2
theorem Ext.new_mono {σ σ1 σ2 : Hp} (h : Ext σ1 σ2) : Ext (σ.new σ1) (σ.new σ2) := fun k o hk => by
  simp only [Hp.new] at hk ⊢
  split at hk <;> simp_all [h k o]
theorem Ext.new_trans {σ σ1 σ2 : Hp} (h : Ext σ σ1) : Ext (σ1.new σ2) (σ.new σ2) := fun k o hk => by
  simp only [Hp.new] at hk ⊢
  split at hk
  · rename_i hn
    cases hs : σ k with
    | none => exact hk
    | some o' => rw [h k o' hs] at hn; cases hn
  · cases hk
def RdC (s : Nat) (σ : Hp) (p : Option Addr) (n : Nat) (cs : List Value) : Prop :=
  cs.length = n * s ∧ n ≤ 4611686018427387904 ∧ (n = 0 ∨ ∃ b o, p = some ⟨b, o, none⟩ ∧ LdL σ b o cs)
theorem LdL.mono {σ σ' : Hp} (h : Ext σ σ') {b : Nat} : ∀ {l : List Value} {o : Nat}, LdL σ b o l → LdL σ' b o l
  | [], _, _ => trivial
  | _ :: _, _, hl => ⟨h.ld hl.1, LdL.mono h hl.2⟩
theorem RdC.mono {s : Nat} {σ σ' : Hp} (h : Ext σ σ') {p : Option Addr} {n : Nat} {cs : List Value} (hr : RdC s σ p n cs) : RdC s σ' p n cs :=
  ⟨hr.1, hr.2.1, hr.2.2.imp id fun ⟨b, o, hp, hl⟩ => ⟨b, o, hp, hl.mono h⟩⟩
theorem LdL.of {σ : Hp} {b : Nat} : ∀ {l : List Value} {o : Nat}, (∀ j v, l[j]? = some v → σ.ld ⟨b, o + j, none⟩ = some v) → LdL σ b o l
  | [], _, _ => trivial
  | v :: l, o, h => ⟨by simpa using h 0 v rfl, LdL.of fun j u hj => by have := h (j + 1) u (by simpa using hj); rwa [show o + (j + 1) = o + 1 + j by omega] at this⟩
theorem LdL.part {σ : Hp} {b o i m : Nat} {l : List Value} (h : LdL σ b o l) : LdL σ b (o + i) ((l.drop i).take m) := LdL.of fun j v hj => by
  have hj' : l[i + j]? = some v := by
    rw [List.getElem?_take] at hj
    split at hj
    · simpa using hj
    · cases hj
  have := h.get hj'
  rwa [show o + i + j = o + (i + j) by omega]
def Ch {α : Type} (s : Nat) (E : Hp → List Value → α → Prop) (σ : Hp) (cs : List Value) (xs : List α) : Prop :=
  cs.length = xs.length * s ∧ ∀ i x, xs[i]? = some x → E σ ((cs.drop (i * s)).take s) x
def RdS {α : Type} (s : Nat) (E : Hp → List Value → α → Prop) (σ : Hp) (p : Option Addr) (n : Nat) (xs : List α) : Prop :=
  xs.length = n ∧ ∃ cs, RdC s σ p n cs ∧ Ch s E σ cs xs
def Mono {α : Type} (E : Hp → List Value → α → Prop) : Prop := ∀ σ σ' vs x, Ext σ σ' → E σ vs x → E σ' vs x
theorem Ch.mono {α : Type} {s : Nat} {E : Hp → List Value → α → Prop} (hE : Mono E) {σ σ' : Hp} (h : Ext σ σ') {cs : List Value} {xs : List α} (hc : Ch s E σ cs xs) : Ch s E σ' cs xs :=
  ⟨hc.1, fun i x hx => hE _ _ _ _ h (hc.2 i x hx)⟩
theorem RdS.mono {α : Type} {s : Nat} {E : Hp → List Value → α → Prop} (hE : Mono E) {σ σ' : Hp} (h : Ext σ σ') {p : Option Addr} {n : Nat} {xs : List α} (hr : RdS s E σ p n xs) : RdS s E σ' p n xs :=
  let ⟨h1, cs, h2, h3⟩ := hr; ⟨h1, cs, h2.mono h, h3.mono hE h⟩
theorem RdS.nil {α : Type} {s : Nat} {E : Hp → List Value → α → Prop} {σ : Hp} {p : Option Addr} : RdS s E σ p 0 [] := ⟨rfl, [], ⟨by simp, by omega, .inl rfl⟩, by simp [Ch]⟩
theorem RdS.idx {α : Type} {s : Nat} {E : Hp → List Value → α → Prop} {σ : Hp} {p : Option Addr} {n i : Nat} {xs : List α} {x : α} (hr : RdS s E σ p n xs) (hx : xs[i]? = some x) :
    ∃ b o vs, p = some ⟨b, o, none⟩ ∧ E σ vs x ∧ LdL σ b (o + i * s) vs := by
  obtain ⟨h1, cs, ⟨hl, _, h2⟩, h3⟩ := hr
  have hi : i < n := by rw [← h1]; exact (List.getElem?_eq_some_iff.1 hx).1
  rcases h2 with h2 | ⟨b, o, hp, hld⟩
  · omega
  · exact ⟨b, o, _, hp, h3.2 i x hx, hld.part⟩
theorem RdS.big {α : Type} {s : Nat} {E : Hp → List Value → α → Prop} {σ : Hp} {p : Option Addr} {n : Nat} {xs : List α} (hr : RdS s E σ p n xs) : n ≤ 4611686018427387904 := by
  obtain ⟨_, cs, ⟨_, h, _⟩, _⟩ := hr; exact h
theorem RdS.ex {α : Type} {s : Nat} {E : Hp → List Value → α → Prop} {σ : Hp} {p : Option Addr} {n k : Nat} {xs : List α} (hr : RdS s E σ p n xs) (hk : k < n) : ∃ y, xs[k]? = some y :=
  ⟨_, List.getElem?_eq_getElem (by rw [hr.1]; exact hk)⟩
theorem i64_succ {k n : Nat} (h : k < n) (hn : n ≤ 4611686018427387904) : I64 ((k : Int) + 1) := by unfold I64; omega
theorem take_succ' {α : Type} {xs : List α} {k : Nat} {y : α} (hy : xs[k]? = some y) : xs.take (k + 1) = xs.take k ++ [y] := by
  rw [List.take_add_one, hy]; rfl
theorem mem_take_succ {α : Type} {xs : List α} {k : Nat} {x y : α} (hy : xs[k]? = some y) : x ∈ xs.take (k + 1) ↔ x ∈ xs.take k ∨ x = y := by
  rw [take_succ' hy, List.mem_append, List.mem_singleton]
def EInt (k : IntKind) (_ : Hp) (vs : List Value) (x : Int) : Prop := vs = [.int k x]
theorem EInt.mono (k : IntKind) : Mono (EInt k) := fun _ _ _ _ _ h => h
abbrev RdI (k : IntKind) := RdS 1 (EInt k)
theorem RdI.mono {k : IntKind} {σ σ' : Hp} (h : Ext σ σ') {p : Option Addr} {n : Nat} {xs : List Int} (hr : RdI k σ p n xs) : RdI k σ' p n xs := RdS.mono (EInt.mono k) h hr
theorem RdI.at {k : IntKind} {σ : Hp} {p : Option Addr} {n : Nat} {xs : List Int} (hr : RdI k σ p n xs) {i : Nat} {x : Int} (hx : xs[i]? = some x) :
    ∃ b o, p = some ⟨b, o, none⟩ ∧ σ.ld ⟨b, o + i * 1, none⟩ = some (.int k x) := by
  obtain ⟨b, o, vs, hp, rfl, hl⟩ := RdS.idx hr hx
  exact ⟨b, o, hp, hl.1⟩
theorem Ch_int {k : IntKind} {σ : Hp} {cs : List Value} {xs : List Int} : Ch 1 (EInt k) σ cs xs ↔ cs = xs.map (.int k) := by
  constructor
  · rintro ⟨h1, h2⟩
    refine List.ext_getElem? fun i => ?_
    rw [List.getElem?_map]
    cases hx : xs[i]? with
    | none =>
      have := List.getElem?_eq_none_iff.1 hx
      simp only [Option.map_none]
      exact List.getElem?_eq_none_iff.2 (by omega)
    | some x =>
      have := h2 i x hx
      simp only [EInt, Nat.mul_one] at this
      have h3 : ((cs.drop i).take 1)[0]? = some (.int k x) := by rw [this]; rfl
      rw [List.getElem?_take] at h3
      simpa using h3
  · rintro rfl
    refine ⟨by simp, fun i x hx => ?_⟩
    have hlt := (List.getElem?_eq_some_iff.1 hx).1
    have hg := (List.getElem?_eq_some_iff.1 hx).2
    simp only [EInt, Nat.mul_one]
    rw [List.drop_eq_getElem_cons (by simpa using hlt)]
    simp [hg]
def Own (s : Nat) (σ : Hp) (p : Option Addr) (n c : Nat) (cs : List Value) : Prop :=
  cs.length = n * s ∧ n ≤ 4611686018427387904 ∧ ((p = none ∧ n = 0 ∧ c = 0) ∨ ∃ b o arr T, p = some ⟨b, o, none⟩ ∧ σ b = some (.cells arr T (0, 0)) ∧ n ≤ c ∧ o + c * s ≤ arr.size ∧ (arr.toList.drop o).take (n * s) = cs)
theorem Own.nil {s : Nat} {σ : Hp} : Own s σ none 0 0 [] := ⟨by simp, by omega, .inl ⟨rfl, rfl, rfl⟩⟩
theorem Own.rd {s : Nat} {σ : Hp} {p : Option Addr} {n c : Nat} {cs : List Value} (h : Own s σ p n c cs) : RdC s σ p n cs := by
  obtain ⟨h1, h0, h2⟩ := h
  refine ⟨h1, h0, ?_⟩
  rcases h2 with ⟨_, hn, _⟩ | ⟨b, o, arr, T, hp, hb, hnc, hsz, hcs⟩
  · exact .inl hn
  · refine .inr ⟨b, o, hp, LdL.of fun j v hj => ?_⟩
    rw [← hcs, List.getElem?_take] at hj
    split at hj
    · simp only [Hp.ld, hb]
      simpa using hj
    · cases hj
theorem Own.mono {s : Nat} {σ σ' : Hp} (h : Ext σ σ') {p : Option Addr} {n c : Nat} {cs : List Value} (ho : Own s σ p n c cs) : Own s σ' p n c cs :=
  ⟨ho.1, ho.2.1, ho.2.2.imp id fun ⟨b, o, arr, T, hp, hb, r⟩ => ⟨b, o, arr, T, hp, h _ _ hb, r⟩⟩
theorem Own.block {s : Nat} {σ : Hp} {p : Option Addr} {n c : Nat} {cs : List Value} (ho : Own s σ p n c cs) : ∀ a, p = some a → σ a.block ≠ none := by
  intro a ha
  rcases ho.2.2 with ⟨hp, _⟩ | ⟨b, o, arr, T, hp, hb, _⟩
  · rw [hp] at ha; cases ha
  · rw [hp] at ha; cases ha; rw [hb]; simp
theorem Own.take {s : Nat} {σ : Hp} {p : Option Addr} {n c m : Nat} {cs : List Value} (ho : Own s σ p n c cs) (hm : m ≤ n) : Own s σ p m c (cs.take (m * s)) := by
  obtain ⟨h1, h0, h2⟩ := ho
  have hle : m * s ≤ n * s := Nat.mul_le_mul_right s hm
  refine ⟨by rw [List.length_take, h1]; omega, by omega, ?_⟩
  rcases h2 with ⟨hp, hn, hc⟩ | ⟨b, o, arr, T, hp, hb, hnc, hsz, hcs⟩
  · exact .inl ⟨hp, by omega, hc⟩
  · exact .inr ⟨b, o, arr, T, hp, hb, by omega, hsz, by rw [← hcs, List.take_take, Nat.min_eq_left hle]⟩
class SlT (P : Program) (T : TypeId) (E : outParam TypeId) (s bs : outParam Nat) : Prop where
  und : P.underlying T = some (.slice E)
  info : ∃ i z, P.info? E = some i ∧ i.zero = some z ∧ i.size = s ∧ i.bytes = bs ∧ z.cells.size = s
  pos : 0 < s
  bpos : 0 < bs
def OneC (cs : List Value) : Prop := ∀ u ∈ cs, u.oneCell' = true
theorem OneC.map_int {k : IntKind} {xs : List Int} : OneC (xs.map (.int k)) := fun u hu => by
  obtain ⟨x, _, rfl⟩ := List.mem_map.1 hu; rfl
section append
variable {P : Program} {T E ty : TypeId} {s bs : Nat} {σ : Hp} {p q : Option Addr} {n c m d : Nat} {cs ys : List Value} {Φ : Value → Hp → Prop}
theorem rdc_cells {w : World} (hs : Sat σ w) {b o : Nat} (h : LdL σ b o ys) : ∀ j v, ys[j]? = some v → w.cell? ((⟨b, o, none⟩ : Addr).add j) = some v := fun j v hj => by
  rw [add_off]; exact hs.ld (h.get hj)
theorem run_first (w : World) (hs : Sat σ w) (hr : RdC s σ q m ys) : (Builtin.firstCells s m (.slice q m d)).run P w = .ok ys.toArray w := by
  rcases hr.2.2 with hm | ⟨b, o, rfl, hl⟩
  · subst hm
    have : ys = [] := List.eq_nil_of_length_eq_zero (by simpa using hr.1)
    subst this
    cases q <;> simp [Builtin.firstCells, loadCells, loadCellsFrom]
  · exact run_firstCells_some (P := P) w s m ⟨b, o, none⟩ m d ys hr.1 (rdc_cells hs hl)
theorem hp_fresh {w : World} (hs : Sat σ w) : σ w.heap.size = none := by
  cases h : σ w.heap.size with
  | none => rfl
  | some o => exact absurd (Array.getElem?_eq_some_iff.1 (hs _ _ h)).1 (Nat.lt_irrefl _)
theorem Fin.alloc {F : Nat → Prop} {w : World} {o : Obj} (hs : Sat σ w) (hF : ∀ b, F b → b < w.heap.size ∧ σ b = none) (w' : World) (hw : w'.heap = w.heap.push o) (h1 : SameOs w w') (h2 : w'.output = w.output) : Fin (σ.set w.heap.size o) F w w' := by
  refine ⟨fun k u hk => ?_, fun b hb => ?_, h1, h2, by rw [hw]; simp⟩
  · rw [hw]
    by_cases h : k = w.heap.size
    · subst h; rw [Hp.set_same] at hk; cases hk; simp
    · rw [Hp.set_ne h] at hk
      have := hs k u hk
      have hlt := (Array.getElem?_eq_some_iff.1 this).1
      rw [Array.getElem?_push, if_neg h]; exact this
  · have := (hF b hb).1
    refine ⟨by rw [Hp.set_ne (by omega)]; exact (hF b hb).2, ?_⟩
    rw [hw, Array.getElem?_push, if_neg (by omega)]
theorem Hp.del_set_self {b : Nat} {o : Obj} {a : Nat} {sp : Option Nat} (h : σ b = none) : (σ.set b o).del (some ⟨b, a, sp⟩) = σ := by
  funext k
  simp only [Hp.del, Hp.set]
  by_cases hk : k = b
  · subst hk; simp [h]
  · simp [hk]
theorem Hp.del_set_same {b : Nat} {o : Obj} {a : Nat} {sp : Option Nat} : (σ.set b o).del (some ⟨b, a, sp⟩) = σ.del (some ⟨b, a, sp⟩) := by
  funext k
  simp only [Hp.del, Hp.set]
  by_cases hk : k = b <;> simp [hk]
theorem app_eff2 [h : SlT P T E s bs] (hown : Own s σ p n c cs) (hy : RdC s σ q m ys) (h1 : OneC ys) (hb : (n + m) * bs ≤ 140737488355328)
    (hΦ : ∀ p' c' σ', Own s σ' p' (n + m) c' (cs ++ ys) → Ext (σ.del p) (σ'.del p') → ((p' = p ∧ c' = c ∧ n + m ≤ c) ∨ (c < n + m ∧ Ext σ σ' ∧ ∀ a, p' = some a → σ a.block = none)) → Φ (.slice p' (n + m) c') σ') :
    Eff P (Builtin.append_ #[T, T] ty #[.slice p n c, .slice q m d]) σ Φ := by
  obtain ⟨ht, ⟨i, z, hi, hz, rfl, rfl, hzs⟩, hpos, hbpos⟩ := h
  have h62 : n + m ≤ 140737488355328 := Nat.le_trans (Nat.le_mul_of_pos_right _ hbpos) hb
  intro w F hs hF
  have hf := run_first (P := P) (d := d) w hs hy
  have hf' := fun w' (hw : Sat σ w') => run_first (P := P) (d := d) w' hw hy
  have ho' := fun w' (hw : Sat σ w') => run_first (P := P) (d := c) w' hw hown.rd
  have hlen : (cs ++ ys).length = (n + m) * i.size := by rw [List.length_append, hown.1, hy.1, Nat.add_mul]
  by_cases hroom : n + m ≤ c
  · -- there is room
    rcases hown.2.2 with ⟨hp, hn, hc⟩ | ⟨b, o, arr, T', rfl, hblk, hnc, hsz, hcs⟩
    · subst hp hn hc
      have hm : m = 0 := by omega
      subst hm
      have hys : ys = [] := List.eq_nil_of_length_eq_zero (by simpa using hy.1)
      have hcs : cs = [] := List.eq_nil_of_length_eq_zero (by simpa using hown.1)
      subst hys hcs
      refine ⟨.slice none 0 0, w, σ, ?_, hΦ none 0 σ Own.nil (Ext.refl _) (.inl ⟨rfl, rfl, hroom⟩), hs, fun b hb => ⟨(hF b hb).2, rfl⟩, .same rfl rfl rfl, rfl, Nat.le_refl _⟩
      simp [Builtin.append_, run_underlying ht, Go.sizeOf, typeInfo, hi, Builtin.lenOf, hf]
    · have hw := hs _ _ hblk
      have hfit : o + n * i.size + 0 + ys.length ≤ arr.size := by
        rw [hy.1]
        have : (n + m) * i.size ≤ c * i.size := Nat.mul_le_mul_right _ hroom
        rw [Nat.add_mul] at this
        omega
      have hst := run_storeCells (P := P) b (o + n * i.size) T' ys 0 arr w hw hfit h1
      simp only [Nat.add_zero] at hst
      refine ⟨.slice (some ⟨b, o, none⟩) (n + m) c, w.setRow b (wrt arr (o + n * i.size) ys), σ.set b (.cells (wrt arr (o + n * i.size) ys) T' (0, 0)), ?_, hΦ _ _ _ ⟨hlen, by omega, .inr ⟨b, o, _, T', rfl, Hp.set_same _ _ _, hroom, by rw [wrt_size]; exact hsz, ?_⟩⟩ (by rw [Hp.del_set_same]; exact Ext.refl _) (.inl ⟨rfl, rfl, hroom⟩), ?_⟩
      · simp [Builtin.append_, run_underlying ht, Go.sizeOf, typeInfo, hi, Builtin.lenOf, hroom, hf, add_off, hst]
      · refine List.ext_getElem? fun j => ?_
        rw [List.getElem?_take]
        simp only [List.getElem?_drop, Array.getElem?_toList]
        rw [wrt_get _ _ _ _ (by omega), List.getElem?_append]
        have e1 : cs.length = n * i.size := hown.1
        have e2 : ys.length = m * i.size := hy.1
        have e3 : (n + m) * i.size = n * i.size + m * i.size := Nat.add_mul ..
        by_cases hj1 : j < cs.length
        · rw [if_pos (by omega), if_neg (by omega), if_pos hj1, ← hcs, List.getElem?_take, if_pos (by omega)]
          simp
        · rw [if_neg hj1]
          by_cases hj2 : j < (n + m) * i.size
          · rw [if_pos hj2, if_pos (by omega), show o + j - (o + n * i.size) = j - cs.length by omega]
          · rw [if_neg hj2, List.getElem?_eq_none (by omega)]
      · refine ⟨fun k u hk => ?_, fun k hk => ?_, .same rfl rfl rfl, rfl, by simp⟩
        · by_cases hkb : k = b
          · subst hkb; rw [Hp.set_same] at hk; cases hk; exact setRow_heap w k arr _ T' (0, 0) hw
          · rw [Hp.set_ne hkb] at hk; rw [setRow_other _ _ _ _ hkb]; exact hs k u hk
        · have hkb : k ≠ b := fun h => by have := (hF k hk).2; rw [h, hblk] at this; cases this
          exact ⟨by rw [Hp.set_ne hkb]; exact (hF k hk).2, setRow_other _ _ _ _ hkb⟩
  · -- it grows
    have hfits : Builtin.nextslicecap (n + m) c * i.bytes ≤ 281474976710656 := growslice_fits (by omega) hb
    have hgc := grownCap_ge w (n + m) c E
    have hs' : Sat σ w.drew := hs
    have hrun : (Builtin.append_ #[T, T] ty #[.slice p n c, .slice q m d]).run P w =
        .ok (.slice (some ⟨w.heap.size, 0, none⟩) (n + m) (grownCap w (n + m) c E))
          (w.drew.alloc (.cells (cs.toArray ++ ys.toArray ++ Builtin.zeroCells z.cells (grownCap w (n + m) c E - (n + m))) E)) := by
      have h63' : ¬ (9223372036854775807 < ((n : Int) + (m : Int))) := by omega
      have h48' : ¬ (281474976710656 < Builtin.nextslicecap (n + m) c * i.bytes) := by omega
      simp [Builtin.append_, run_underlying ht, Go.sizeOf, typeInfo, zeroValue, hi, hz, Builtin.lenOf, hroom, h63', h48', Question.forced, hf' _ hs', ho' _ hs', newRow, grownCap]
      congr 2
      apply Array.ext'
      simp [List.append_assoc]
    refine ⟨_, _, σ.set w.heap.size _, hrun, hΦ _ _ _ ⟨hlen, by omega, .inr ⟨w.heap.size, 0, _, E, rfl, Hp.set_same _ _ _, hgc, ?_, ?_⟩⟩ ?_ (.inr ⟨by omega, Ext.set (hp_fresh hs), fun a ha => by cases ha; exact hp_fresh hs⟩), Fin.alloc hs hF _ rfl ⟨rfl, rfl, 1, rfl⟩ rfl⟩
    · simp only [Array.size_append, List.size_toArray, size_zeroCells, hzs, hown.1, hy.1, ← Nat.add_mul]
      have : n + m + (grownCap w (n + m) c E - (n + m)) = grownCap w (n + m) c E := by omega
      rw [this]; omega
    · simp only [Array.toList_append, List.drop_zero]
      rw [← hlen]
      exact List.take_left
    · rw [Hp.del_set_self (hp_fresh hs)]
      exact Ext.of_del σ p
theorem app_eff [h : SlT P T E s bs] (hown : Own s σ p n c cs) (hy : RdC s σ q m ys) (h1 : OneC ys) (hb : (n + m) * bs ≤ 140737488355328)
    (hΦ : ∀ p' c' σ', Own s σ' p' (n + m) c' (cs ++ ys) → Ext (σ.del p) (σ'.del p') → Φ (.slice p' (n + m) c') σ') :
    Eff P (Builtin.append_ #[T, T] ty #[.slice p n c, .slice q m d]) σ Φ :=
  app_eff2 hown hy h1 hb fun p' c' σ' h1 h2 _ => hΦ p' c' σ' h1 h2
end append
end Tw
end
section
namespace Tw
open Go
theorem RdC.of_map {k : IntKind} {σ : Hp} {p : Option Addr} {n : Nat} {xs : List Int} (hr : RdI k σ p n xs) : RdC 1 σ p n (xs.map (.int k)) := by
  obtain ⟨_, cs, h1, h2⟩ := hr
  rwa [Ch_int.1 h2] at h1
theorem RdI.of_rdc {k : IntKind} {σ : Hp} {p : Option Addr} {n : Nat} {xs : List Int} (h : RdC 1 σ p n (xs.map (.int k))) : RdI k σ p n xs :=
  ⟨by have := h.1; simpa using this, _, h, Ch_int.2 rfl⟩
abbrev OwnI (k : IntKind) (σ : Hp) (p : Option Addr) (n c : Nat) (xs : List Int) : Prop := Own 1 σ p n c (xs.map (.int k))
theorem OwnI.rd {k : IntKind} {σ : Hp} {p : Option Addr} {n c : Nat} {xs : List Int} (h : OwnI k σ p n c xs) : RdI k σ p n xs := .of_rdc (Own.rd h)
theorem Own.empty {s b T : Nat} {σ : Hp} : Own s (σ.set b (.cells #[] T (0, 0))) (some ⟨b, 0, none⟩) 0 0 [] :=
  ⟨by simp, by omega, .inr ⟨b, 0, #[], T, rfl, Hp.set_same _ _ _, Nat.le_refl _, by simp, by simp⟩⟩
theorem Own.to_new {s : Nat} {σ σ' : Hp} {p : Option Addr} {n c : Nat} {cs : List Value} (h : Own s σ' p n c cs) (hp : ∀ a, p = some a → σ a.block = none) : Own s (σ.new σ') p n c cs := by
  refine ⟨h.1, h.2.1, h.2.2.imp id ?_⟩
  rintro ⟨b, o, arr, T, hpe, hb, r⟩
  refine ⟨b, o, arr, T, hpe, ?_, r⟩
  simp only [Hp.new]
  rw [hp _ hpe]; exact hb
theorem new_block {σ σ1 σ' : Hp} {p p' : Option Addr} (h : ∀ a, p = some a → σ a.block = none) (hx : Ext (σ1.del p) (σ'.del p')) (hσ : Ext σ σ1) : ∀ a, p' = some a → σ a.block = none := by
  intro a ha
  cases hb : σ a.block with
  | none => rfl
  | some o =>
    have h1 := hσ _ _ hb
    have h2 : (σ1.del p) a.block = some o := by
      cases p with
      | none => exact h1
      | some u =>
        simp only [Hp.del]
        split
        · rename_i he
          have := h u rfl
          rw [← he, hb] at this; cases this
        · exact h1
    have h3 := hx _ _ h2
    rw [ha] at h3
    simp [Hp.del] at h3
theorem ext_new {σ σ1 σ' : Hp} {p p' : Option Addr} (h : ∀ a, p = some a → σ a.block = none) (hx : Ext (σ1.del p) (σ'.del p')) (hσ : Ext σ σ1) : Ext σ σ' := by
  intro b o hb
  have h2 : (σ1.del p) b = some o := by
    cases p with
    | none => exact hσ _ _ hb
    | some u =>
      simp only [Hp.del]
      split
      · rename_i he
        have := h u rfl
        rw [← he, hb] at this; cases this
      · exact hσ _ _ hb
  exact Ext.of_del _ _ _ _ (hx _ _ h2)
theorem new_some {σ σ' : Hp} {k : Nat} {o : Obj} : σ.new σ' k = some o ↔ σ k = none ∧ σ' k = some o := by
  simp only [Hp.new]
  cases σ k <;> simp
theorem del_some {σ : Hp} {p : Option Addr} {k : Nat} {o : Obj} : σ.del p k = some o ↔ (∀ a, p = some a → k ≠ a.block) ∧ σ k = some o := by
  cases p with
  | none => simp [Hp.del]
  | some a =>
    simp only [Hp.del]
    split
    · rename_i h; simp [h]
    · rename_i h; simp [h]
theorem Own.new_none {s : Nat} {σ σ' : Hp} {p : Option Addr} {n c : Nat} {cs : List Value} (h : Own s (σ.new σ') p n c cs) : ∀ a, p = some a → σ a.block = none := by
  intro a ha
  have := h.block a ha
  cases hb : (σ.new σ') a.block with
  | none => exact absurd hb this
  | some o => exact (new_some.1 hb).1
theorem Ext.new_into {σ0 σa σ : Hp} {p : Option Addr} (h0 : Ext σ0 σa) (hp : ∀ a, p = some a → σa a.block ≠ none) : Ext (σa.new σ) ((σ0.new σ).del p) := fun k o hk => by
  obtain ⟨h1, h2⟩ := new_some.1 hk
  refine del_some.2 ⟨fun a ha he => hp a ha (he ▸ h1), new_some.2 ⟨?_, h2⟩⟩
  cases hs : σ0 k with
  | none => rfl
  | some o' => rw [h0 _ _ hs] at h1; cases h1
section append
variable {P : Program} {T Et ty : TypeId} {s bs : Nat} {σ0 σ : Hp} {p q : Option Addr} {n c m d : Nat} {cs ys : List Value} {Φ : Value → Hp → Prop}
theorem app_new [SlT P T Et s bs] (h0 : Ext σ0 σ) (hown : Own s (σ0.new σ) p n c cs) (hy : RdC s σ q m ys) (h1 : OneC ys) (hb : (n + m) * bs ≤ 140737488355328)
    (hΦ : ∀ p' c' σ', Own s (σ0.new σ') p' (n + m) c' (cs ++ ys) → Ext σ0 σ' → Ext ((σ0.new σ).del p) ((σ0.new σ').del p') → Φ (.slice p' (n + m) c') σ') :
    Eff P (Builtin.append_ #[T, T] ty #[.slice p n c, .slice q m d]) σ Φ := by
  have hpn := hown.new_none
  refine app_eff (hown.mono (Ext.of_new σ0 σ)) hy h1 hb fun p' c' σ' ho hx => ?_
  refine hΦ p' c' σ' (ho.to_new (new_block hpn hx h0)) (ext_new hpn hx h0) fun k o hk => ?_
  obtain ⟨h2, h3⟩ := del_some.1 hk
  obtain ⟨h4, h5⟩ := new_some.1 h3
  obtain ⟨h6, h7⟩ := del_some.1 (hx k o (del_some.2 ⟨h2, h5⟩))
  exact del_some.2 ⟨h6, new_some.2 ⟨h4, h7⟩⟩
theorem app_lit [SlT P T Et s bs] (h0 : Ext σ0 σ) (hown : Own s (σ0.new σ) p n c cs) (hl : ys.length = m * s) (h1 : OneC ys) (hb : (n + m) * bs ≤ 140737488355328)
    (hΦ : ∀ p' c' σ', Own s (σ0.new σ') p' (n + m) c' (cs ++ ys) → Ext σ0 σ' → Ext ((σ0.new σ).del p) ((σ0.new σ').del p') → Φ (.slice p' (n + m) c') σ')
    {b : Nat} (hn : σ b = none) : Eff P (Builtin.append_ #[T, T] ty #[.slice p n c, .slice (some ⟨b, 0, none⟩) m m]) (σ.set b (.cells ys.toArray Et (0, 0))) Φ := by
  have hx : Ext σ (σ.set b (.cells ys.toArray Et (0, 0))) := .set hn
  have hm : m ≤ 140737488355328 := by
    have hbp := (inferInstance : SlT P T Et s bs).bpos
    have : n + m ≤ (n + m) * bs := Nat.le_mul_of_pos_right _ hbp
    omega
  refine app_new (h0.trans hx) (hown.mono (Ext.new_mono hx)) ⟨hl, by omega, .inr ⟨b, 0, rfl, LdL.of fun j v hj => ?_⟩⟩ h1 hb fun p' c' σ' ho he hd => hΦ p' c' σ' ho he (fun k o hk => hd k o ((Ext.new_mono hx).del p k o hk))
  simp [Hp.ld, Hp.set_same, hj]
end append
def OwnL {α : Type} (s : Nat) (E : Hp → List Value → α → Prop) (σ : Hp) (p : Option Addr) (n c : Nat) (xs : List α) : Prop :=
  xs.length = n ∧ ∃ cs, Own s σ p n c cs ∧ Ch s E (σ.del p) cs xs
theorem OwnL.nil {α : Type} {s : Nat} {E : Hp → List Value → α → Prop} {σ : Hp} : OwnL s E σ none 0 0 [] := ⟨rfl, [], .nil, by simp [Ch]⟩
theorem OwnL.mono {α : Type} {s : Nat} {E : Hp → List Value → α → Prop} (hE : Mono E) {σ σ' : Hp} (h : Ext σ σ') {p : Option Addr} {n c : Nat} {xs : List α} (ho : OwnL s E σ p n c xs) : OwnL s E σ' p n c xs :=
  let ⟨h1, cs, h2, h3⟩ := ho; ⟨h1, cs, h2.mono h, h3.mono hE (h.del p)⟩
theorem OwnL.rd {α : Type} {s : Nat} {E : Hp → List Value → α → Prop} (hE : Mono E) {σ : Hp} {p : Option Addr} {n c : Nat} {xs : List α} (ho : OwnL s E σ p n c xs) : RdS s E σ p n xs :=
  let ⟨h1, cs, h2, h3⟩ := ho; ⟨h1, cs, h2.rd, h3.mono hE (Ext.of_del σ p)⟩
theorem OwnL.block {α : Type} {s : Nat} {E : Hp → List Value → α → Prop} {σ : Hp} {p : Option Addr} {n c : Nat} {xs : List α} (ho : OwnL s E σ p n c xs) : ∀ a, p = some a → σ a.block ≠ none :=
  let ⟨_, _, h2, _⟩ := ho; h2.block
theorem Ch.snoc {α : Type} {s : Nat} {E : Hp → List Value → α → Prop} {σ : Hp} {cs vs : List Value} {xs : List α} {x : α} (h : Ch s E σ cs xs) (hl : vs.length = s) (hx : E σ vs x) : Ch s E σ (cs ++ vs) (xs ++ [x]) := by
  refine ⟨by simp [h.1, hl, Nat.add_mul], fun i y hy => ?_⟩
  rw [List.getElem?_append] at hy
  split at hy
  · rename_i hi
    have hle : i * s + s ≤ cs.length := by rw [h.1, ← Nat.succ_mul]; exact Nat.mul_le_mul_right s hi
    rw [List.drop_append_of_le_length (by omega), List.take_append_of_le_length (by simp; omega)]
    exact h.2 i y hy
  · rename_i hi
    have : i = xs.length := by
      have := (List.getElem?_eq_some_iff.1 hy).1
      simp at this; omega
    subst this
    simp at hy
    subst hy
    rw [← h.1, List.drop_left, ← hl, List.take_length]
    exact hx
theorem OwnL.app1 {α : Type} {P : Program} {T Et ty : TypeId} {s bs : Nat} {E : Hp → List Value → α → Prop} (hE : Mono E) [SlT P T Et s bs] {σ0 σ : Hp} {p : Option Addr} {n c : Nat} {xs : List α} {vs : List Value} {x : α} {Φ : Value → Hp → Prop}
    (h0 : Ext σ0 σ) (hown : OwnL s E (σ0.new σ) p n c xs) (hl : vs.length = s) (h1 : OneC vs) (hx : E ((σ0.new σ).del p) vs x) (hb : (n + 1) * bs ≤ 140737488355328)
    (hΦ : ∀ p' c' σ', OwnL s E (σ0.new σ') p' (n + 1) c' (xs ++ [x]) → Ext σ0 σ' → Φ (.slice p' (n + 1) c') σ') {b : Nat} (hn : σ b = none) :
    Eff P (Builtin.append_ #[T, T] ty #[.slice p n c, .slice (some ⟨b, 0, none⟩) 1 1]) (σ.set b (.cells vs.toArray Et (0, 0))) Φ := by
  obtain ⟨hlen, cs, ho, hc⟩ := hown
  refine app_lit h0 ho (by rw [hl, Nat.one_mul]) h1 hb (fun p' c' σ' ho' he hd => hΦ p' c' σ' ⟨by simp [hlen], _, ho', (hc.snoc hl hx).mono hE hd⟩ he) hn
end Tw
end
section
namespace Tw
open Go
def Drop (R : Ending → Hp → Prop) : Ending → Hp → Prop := fun e σ' => ∃ σ, Ext σ σ' ∧ R e σ
theorem Drop.mk {R : Ending → Hp → Prop} {e : Ending} {σ σ' : Hp} (h : Ext σ σ') (hr : R e σ) : Drop R e σ' := ⟨σ, h, hr⟩
theorem ext_none {σ σ' : Hp} (h : Ext σ σ') {b : Nat} (hb : σ' b = none) : σ b = none := by
  cases hs : σ b with
  | none => rfl
  | some o => rw [h _ _ hs] at hb; cases hb
theorem Spec.drop {P : Program} {f : FuncId} {args : Array Value} {σ : Hp} {R : Ending → Hp → Prop} (h : Spec P f args σ (Drop R)) : Spec P f args σ R := fun w F hs hF =>
  (h w F hs hF).mono fun _ _ ⟨_, ⟨σ'', hx, hr⟩, hf⟩ => ⟨σ'', hr, { hf with sat := fun b o hb => hf.sat b o (hx b o hb), prot := fun b hb => ⟨ext_none hx (hf.prot b hb).1, (hf.prot b hb).2⟩ }⟩
theorem Spec.weak {P : Program} {f : FuncId} {args : Array Value} {σ σ' : Hp} {R : Ending → Hp → Prop} (hx : Ext σ σ') (h : Spec P f args σ R) : Spec P f args σ' R := fun w F hs hF =>
  h w F (fun b o hb => hs b o (hx b o hb)) fun b hb => ⟨(hF b hb).1, ext_none hx (hF b hb).2⟩
section
variable {P : Program} {T Et ty : TypeId} {bs : Nat} {σ0 σ : Hp} {p : Option Addr} {n c : Nat} {xs : List Int} {x : Int} {k : IntKind} {Φ : Value → Hp → Prop}
theorem OwnI.app1 [SlT P T Et 1 bs] (h0 : Ext σ0 σ) (hown : OwnI k (σ0.new σ) p n c xs) (hb : (n + 1) * bs ≤ 140737488355328)
    (hΦ : ∀ p' c' σ', OwnI k (σ0.new σ') p' (n + 1) c' (xs ++ [x]) → Ext σ0 σ' → Ext ((σ0.new σ).del p) ((σ0.new σ').del p') → Φ (.slice p' (n + 1) c') σ')
    {b : Nat} (hn : σ b = none) : Eff P (Builtin.append_ #[T, T] ty #[.slice p n c, .slice (some ⟨b, 0, none⟩) 1 1]) (σ.set b (.cells #[.int k x] Et (0, 0))) Φ :=
  app_lit (ys := [.int k x]) h0 hown rfl (OneC.map_int (xs := [x])) hb (fun p' c' σ' ho he hd => hΦ p' c' σ' (by simpa [OwnI, List.map_append] using ho) he hd) hn
theorem OwnI.nil : OwnI k σ none 0 0 [] := Own.nil
end
end Tw
end
section
namespace Tw
open Go
def OwnC (s : Nat) (σ : Hp) (p : Option Addr) (c : Nat) (L : List Value) : Prop :=
  L.length = c * s ∧ ((p = none ∧ c = 0) ∨ ∃ b o arr T, p = some ⟨b, o, none⟩ ∧ σ b = some (.cells arr T (0, 0)) ∧ o + c * s ≤ arr.size ∧ (arr.toList.drop o).take (c * s) = L)
theorem Own.room {s : Nat} {σ : Hp} {p : Option Addr} {n c : Nat} {cs : List Value} (h : Own s σ p n c cs) : n ≤ c ∧ ∃ L, OwnC s σ p c L ∧ L.take (n * s) = cs := by
  obtain ⟨h1, h0, h2⟩ := h
  rcases h2 with ⟨rfl, rfl, rfl⟩ | ⟨b, o, arr, T, hp, hb, hnc, hsz, hcs⟩
  · have : cs = [] := List.eq_nil_of_length_eq_zero (by simpa using h1)
    exact ⟨Nat.le_refl _, [], ⟨by simp, .inl ⟨rfl, rfl⟩⟩, by simp [this]⟩
  · refine ⟨hnc, _, ⟨?_, .inr ⟨b, o, arr, T, hp, hb, hsz, rfl⟩⟩, ?_⟩
    · rw [List.length_take, List.length_drop]; simp; omega
    · rw [List.take_take, Nat.min_eq_left (Nat.mul_le_mul_right s hnc)]; exact hcs
theorem OwnC.own {s : Nat} {σ : Hp} {p : Option Addr} {n c : Nat} {L : List Value} (h : OwnC s σ p c L) (hn : n ≤ c) (hb : n ≤ 4611686018427387904) : Own s σ p n c (L.take (n * s)) := by
  obtain ⟨h1, h2⟩ := h
  have hle : n * s ≤ c * s := Nat.mul_le_mul_right s hn
  refine ⟨by rw [List.length_take]; omega, hb, ?_⟩
  rcases h2 with ⟨rfl, rfl⟩ | ⟨b, o, arr, T, hp, hb, hsz, hcs⟩
  · exact .inl ⟨rfl, by omega, rfl⟩
  · exact .inr ⟨b, o, arr, T, hp, hb, hn, hsz, by rw [← hcs, List.take_take, Nat.min_eq_left hle]⟩
theorem RdC.take {s : Nat} {σ : Hp} {p : Option Addr} {n k : Nat} {cs : List Value} (h : RdC s σ p n cs) (hk : k ≤ n) : RdC s σ p k (cs.take (k * s)) := by
  obtain ⟨h1, h0, h2⟩ := h
  have hle : k * s ≤ n * s := Nat.mul_le_mul_right s hk
  refine ⟨by rw [List.length_take]; omega, by omega, ?_⟩
  rcases h2 with h2 | ⟨b, o, hp, hl⟩
  · exact .inl (by omega)
  · exact .inr ⟨b, o, hp, by simpa using hl.part (i := 0) (m := k * s)⟩
theorem add_some {b o j : Nat} : (⟨b, o, none⟩ : Addr).add j = ⟨b, o + j, none⟩ := add_off b o j
theorem OwnC.rd {s : Nat} {σ : Hp} {p : Option Addr} {i n c : Nat} {L : List Value} (h : OwnC s σ p c L) (hi : i + n ≤ c) (hb : n ≤ 4611686018427387904) : RdC s σ (slP p i c s) n ((L.drop (i * s)).take (n * s)) := by
  obtain ⟨h1, h2⟩ := h
  have hle : (i + n) * s ≤ c * s := Nat.mul_le_mul_right s hi
  rw [Nat.add_mul] at hle
  refine ⟨by rw [List.length_take, List.length_drop]; omega, hb, ?_⟩
  rcases h2 with ⟨rfl, rfl⟩ | ⟨b, o, arr, T, rfl, hb, hsz, hcs⟩
  · exact .inl (by omega)
  · by_cases hn : n = 0
    · exact .inl hn
    · refine .inr ⟨b, o + i * s, ?_, LdL.of fun j v hj => ?_⟩
      · simp only [slP]
        rw [if_neg (by omega)]
        simp [add_some]
      · rw [List.getElem?_take] at hj
        split at hj
        · rename_i hjn
          rw [List.getElem?_drop, ← hcs, List.getElem?_take] at hj
          split at hj
          · rw [List.getElem?_drop] at hj
            simp only [Hp.ld, hb]
            rw [show o + i * s + j = o + (i * s + j) by omega]
            simpa using hj
          · cases hj
        · cases hj
def over (L : List Value) (j : Nat) (zs : List Value) : List Value := L.take j ++ zs ++ L.drop (j + zs.length)
theorem over_nil (L : List Value) (j : Nat) : over L j [] = L := by simp [over]
theorem over_length {L : List Value} {j : Nat} {zs : List Value} (h : j + zs.length ≤ L.length) : (over L j zs).length = L.length := by simp [over]; omega
theorem wrt_over {arr : Array Value} {o m j : Nat} {zs : List Value} (hj : j + zs.length ≤ m) (hm : o + m ≤ arr.size) :
    ((wrt arr (o + j) zs).toList.drop o).take m = over ((arr.toList.drop o).take m) j zs := by
  refine List.ext_getElem? fun k => ?_
  rw [List.getElem?_take]
  unfold over
  by_cases hk : k < m
  · rw [if_pos hk, List.getElem?_drop, Array.getElem?_toList, wrt_get _ _ _ _ (by omega)]
    by_cases h1 : k < j
    · rw [if_neg (by omega), List.append_assoc, List.getElem?_append_left (by simp; omega), List.getElem?_take, if_pos h1, List.getElem?_take, if_pos hk, List.getElem?_drop, Array.getElem?_toList]
    · have hl : (List.take j ((arr.toList.drop o).take m)).length = j := by simp; omega
      rw [List.append_assoc, List.getElem?_append_right (by omega), hl]
      by_cases h2 : k < j + zs.length
      · rw [if_pos (by omega), List.getElem?_append_left (by omega), show o + k - (o + j) = k - j by omega]
      · rw [if_neg (by omega), List.getElem?_append_right (by omega), List.getElem?_drop, show j + zs.length + (k - j - zs.length) = k by omega, List.getElem?_take, if_pos hk, List.getElem?_drop, Array.getElem?_toList]
  · rw [if_neg hk, eq_comm, List.getElem?_eq_none]
    simp; omega
section
variable {P : Program} {T T2 E ty : TypeId} {s bs : Nat} {σ : Hp} {p q : Option Addr} {n c m d d' j k : Nat} {L cs ys : List Value} {Φ : Value → Hp → Prop}
theorem Fin.setRow {F : Nat → Prop} {w : World} {b : Nat} {arr arr' : Array Value} {T' : TypeId} (hs : Sat σ w) (hF : ∀ b, F b → b < w.heap.size ∧ σ b = none) (hblk : σ b = some (.cells arr T' (0, 0))) :
    Fin (σ.set b (.cells arr' T' (0, 0))) F w (w.setRow b arr') := by
  have hw := hs _ _ hblk
  refine ⟨fun k u hk => ?_, fun k hk => ?_, .same rfl rfl rfl, rfl, by simp⟩
  · by_cases hkb : k = b
    · subst hkb; rw [Hp.set_same] at hk; cases hk; exact setRow_heap w k arr _ T' (0, 0) hw
    · rw [Hp.set_ne hkb] at hk; rw [setRow_other _ _ _ _ hkb]; exact hs k u hk
  · have hkb : k ≠ b := fun h => by have := (hF k hk).2; rw [h, hblk] at this; cases this
    exact ⟨by rw [Hp.set_ne hkb]; exact (hF k hk).2, setRow_other _ _ _ _ hkb⟩
theorem OwnC.write (hC : OwnC s σ p c L) (hj : j * s + ys.length ≤ c * s) (h1 : OneC ys) (w : World) (hs : Sat σ w) (F : Nat → Prop) (hF : ∀ b, F b → b < w.heap.size ∧ σ b = none) :
    ∃ w' σ', (match slP p j c s with | some a => (storeCells a ys : Sem Unit) | none => pure ()).run P w = .ok () w' ∧ Fin σ' F w w' ∧ OwnC s σ' p c (over L (j * s) ys) ∧ Ext (σ.del p) (σ'.del p) := by
  obtain ⟨hl, h2⟩ := hC
  rcases h2 with ⟨rfl, rfl⟩ | ⟨b, o, arr, T, rfl, hblk, hsz, hcs⟩
  · have hy : ys = [] := List.eq_nil_of_length_eq_zero (by omega)
    subst hy
    refine ⟨w, σ, ?_, ⟨hs, fun b hb => ⟨(hF b hb).2, rfl⟩, .same rfl rfl rfl, rfl, Nat.le_refl _⟩, by rw [over_nil]; exact ⟨hl, .inl ⟨rfl, rfl⟩⟩, Ext.refl _⟩
    simp [slP]
  · by_cases hy : ys = []
    · subst hy
      refine ⟨w, σ, ?_, ⟨hs, fun b hb => ⟨(hF b hb).2, rfl⟩, .same rfl rfl rfl, rfl, Nat.le_refl _⟩, by rw [over_nil]; exact ⟨hl, .inr ⟨b, o, arr, T, rfl, hblk, hsz, hcs⟩⟩, Ext.refl _⟩
      unfold slP
      split <;> rfl
    · have hpos : 0 < ys.length := List.length_pos_iff.2 hy
      have hjc : c ≠ j := fun e => by subst e; omega
      have hw := hs _ _ hblk
      have hst := run_storeCells (P := P) b (o + j * s) T ys 0 arr w hw (by omega) h1
      simp only [Nat.add_zero] at hst
      refine ⟨w.setRow b (wrt arr (o + j * s) ys), σ.set b (.cells (wrt arr (o + j * s) ys) T (0, 0)), ?_, Fin.setRow hs hF hblk, ⟨by rw [over_length (by omega)]; exact hl, .inr ⟨b, o, _, T, rfl, Hp.set_same _ _ _, by rw [wrt_size]; exact hsz, ?_⟩⟩, by rw [Hp.del_set_same]; exact Ext.refl _⟩
      · simp only [slP, if_neg hjc, Option.map_some, add_some]
        exact hst
      · rw [wrt_over hj hsz, hcs]
theorem copy_eff [h : SlT P T E s bs] (hC : OwnC s σ p c L) (hk : min m n = k) (hjk : j + k ≤ c) (hy : RdC s σ q k ys) (h1 : OneC ys)
    (hΦ : ∀ σ', OwnC s σ' p c (over L (j * s) ys) → Ext (σ.del p) (σ'.del p) → Φ (.int .i64 k) σ') :
    Eff P (Builtin.copy_ #[T, T2] ty #[.slice (slP p j c s) n d', .slice q m d]) σ Φ := by
  obtain ⟨ht, ⟨i, z, hi, hz, rfl, rfl, hzs⟩, hpos, hbpos⟩ := h
  intro w F hs hF
  have hlen : ys.length = k * i.size := hy.1
  obtain ⟨w', σ', hrun, hfin, hC', hx⟩ := hC.write (P := P) (j := j) (ys := ys) (by rw [hlen, ← Nat.add_mul]; exact Nat.mul_le_mul_right _ hjk) h1 w hs F hF
  have hf : (Builtin.firstCells i.size k (.slice q m d)).run P w = .ok ys.toArray w := by
    rcases hy.2.2 with hm | ⟨b, o, rfl, hl⟩
    · have : ys = [] := List.eq_nil_of_length_eq_zero (by rw [hlen, hm]; simp)
      rw [hm, this]
      cases q <;> simp [Builtin.firstCells, loadCells, loadCellsFrom]
    · exact run_firstCells_some (P := P) w i.size k ⟨b, o, none⟩ m d ys hy.1 (rdc_cells hs hl)
  refine ⟨_, w', σ', ?_, hΦ σ' hC' hx, hfin⟩
  have hk' : Nat.min m n = k := hk
  cases hsp : slP p j c i.size with
  | none =>
    rw [hsp] at hrun
    obtain rfl : w = w' := by simpa using hrun
    simp [Builtin.copy_, run_underlying ht, Go.sizeOf, typeInfo, hi, Builtin.lenOf, hk', hf, goInt]
  | some a =>
    rw [hsp] at hrun
    simp only at hrun
    simp [Builtin.copy_, run_underlying ht, Go.sizeOf, typeInfo, hi, Builtin.lenOf, hk', hf, hrun, goInt]
theorem clear_eff [h : SlT P T E s bs] (hC : OwnC s σ p c L) (hjn : j + n ≤ c) (hz1 : ∀ z w, (zeroValue E).run P w = .ok z w → OneC z.cells.toList)
    (hΦ : ∀ σ' zs, zs.length = n * s → OwnC s σ' p c (over L (j * s) zs) → Ext (σ.del p) (σ'.del p) → Φ (.tuple #[]) σ') :
    Eff P (Builtin.clear_ #[T] ty #[.slice (slP p j c s) n d']) σ Φ := by
  obtain ⟨ht, ⟨i, z, hi, hz, rfl, rfl, hzs⟩, hpos, hbpos⟩ := h
  intro w F hs hF
  have hzr : (zeroValue E).run P w = .ok z w := by simp [zeroValue, typeInfo, hi, hz]
  have h1 : OneC (Builtin.zeroCells z.cells n).toList := by
    intro u hu
    simp only [Builtin.zeroCells, Array.toList_map, List.mem_map] at hu
    obtain ⟨k, hk, rfl⟩ := hu
    have hk' : k < n * z.cells.size := by simpa using hk
    have hz0 : 0 < z.cells.size := by omega
    have hlt : k % z.cells.size < z.cells.size := Nat.mod_lt _ hz0
    rw [getElem!_pos z.cells _ hlt]
    exact hz1 z w hzr _ (by simp)
  have hlen : (Builtin.zeroCells z.cells n).toList.length = n * i.size := by simp [size_zeroCells, hzs]
  obtain ⟨w', σ', hrun, hfin, hC', hx⟩ := hC.write (P := P) (j := j) (ys := (Builtin.zeroCells z.cells n).toList) (by rw [hlen, ← Nat.add_mul]; exact Nat.mul_le_mul_right _ hjn) h1 w hs F hF
  refine ⟨_, w', σ', ?_, hΦ σ' _ hlen hC' hx, hfin⟩
  cases hsp : slP p j c i.size with
  | none =>
    rw [hsp] at hrun
    obtain rfl : w = w' := by simpa using hrun
    simp [Builtin.clear_, run_underlying ht]
  | some a =>
    rw [hsp] at hrun
    simp only at hrun
    cases n with
    | zero =>
      have : (Builtin.zeroCells z.cells 0).toList = [] := List.eq_nil_of_length_eq_zero (by simpa using hlen)
      rw [this] at hrun
      have hr2 : Result.ok () w = (Result.ok () w' : Result Unit) := hrun
      cases hr2
      simp [Builtin.clear_, run_underlying ht]
    | succ n =>
      simp [Builtin.clear_, run_underlying ht, hzr, hrun]
theorem app_make_eff [h : SlT P T E s bs] {ik : IntKind} (hT2 : P.underlying T2 = some (.int ik)) (hown : Own s σ p n c cs) (hgrow : c < n + m) (hb : (n + m) * bs ≤ 140737488355328)
    (hΦ : ∀ p' c' L σ', OwnC s σ' p' c' L → n + m ≤ c' → L.take (n * s) = cs → Ext σ σ' → Ext σ (σ'.del p') → (∀ a, p' = some a → σ a.block = none) → Φ (.slice p' (n + m) c') σ') :
    Eff P (Builtin.append_ #[T, T2] ty #[.slice p n c, .int .i64 ((m : Nat) : Int)]) σ Φ := by
  obtain ⟨ht, ⟨i, z, hi, hz, rfl, rfl, hzs⟩, hpos, hbpos⟩ := h
  have h62 : n + m ≤ 140737488355328 := Nat.le_trans (Nat.le_mul_of_pos_right _ hbpos) hb
  intro w F hs hF
  have ho' := fun w' (hw : Sat σ w') => run_first (P := P) (d := c) w' hw hown.rd
  have hroom : ¬ n + m ≤ c := by omega
  have hfits : Builtin.nextslicecap (n + m) c * i.bytes ≤ 281474976710656 := growslice_fits (by omega) hb
  have hgc := grownCap_ge w (n + m) c E
  have hs' : Sat σ w.drew := hs
  have hwr : IntKind.i64.wrap (m : Int) = m := by rw [IntKind.wrap_i64]; omega
  have hmb : m * i.bytes ≤ 281474976710656 := by
    have : m * i.bytes ≤ (n + m) * i.bytes := Nat.mul_le_mul_right _ (by omega)
    omega
  have hmb' : ¬ (281474976710656 : Int) < (m : Int) * (i.bytes : Int) := by
    have : ((m * i.bytes : Nat) : Int) ≤ 281474976710656 := by omega
    rw [Int.natCast_mul] at this; omega
  have hrun : ∃ mid : Array Value, mid.size = m * i.size ∧ (Builtin.append_ #[T, T2] ty #[.slice p n c, .int .i64 ((m : Nat) : Int)]).run P w =
      .ok (.slice (some ⟨w.heap.size, 0, none⟩) (n + m) (grownCap w (n + m) c E))
        (w.drew.alloc (.cells (cs.toArray ++ mid ++ Builtin.zeroCells z.cells (grownCap w (n + m) c E - (n + m))) E)) := by
    have h63' : ¬ (9223372036854775807 < ((n : Int) + (m : Int))) := by omega
    have hneg : ¬ ((m : Int) < 0) := by omega
    have h48' : ¬ (281474976710656 < Builtin.nextslicecap (n + m) c * i.bytes) := by omega
    by_cases h0 : m * i.size = 0
    · refine ⟨#[], by simp [h0], ?_⟩
      simp [Builtin.append_, run_underlying ht, run_underlying hT2, Go.sizeOf, typeInfo, zeroValue, hi, hz, asInt, asIntOf, hwr, hneg, hroom, hmb', h63', h48', Question.forced, ho' _ hs', newRow, grownCap, h0]
    · refine ⟨Builtin.zeroCells z.cells m, by simp [size_zeroCells, hzs], ?_⟩
      simp [Builtin.append_, run_underlying ht, run_underlying hT2, Go.sizeOf, typeInfo, zeroValue, hi, hz, asInt, asIntOf, hwr, hneg, hroom, hmb', h63', h48', Question.forced, ho' _ hs', newRow, grownCap, h0]
  obtain ⟨mid, hmid, hrun⟩ := hrun
  refine ⟨_, _, σ.set w.heap.size _, hrun, hΦ _ _ _ _ ⟨?_, .inr ⟨w.heap.size, 0, _, E, rfl, Hp.set_same _ _ _, ?_, rfl⟩⟩ hgc ?_ (Ext.set (hp_fresh hs)) (by rw [Hp.del_set_self (hp_fresh hs)]; exact Ext.refl _) (fun a ha => by cases ha; exact hp_fresh hs), Fin.alloc hs hF _ rfl ⟨rfl, rfl, 1, rfl⟩ rfl⟩
  · rw [List.length_take, List.drop_zero, Array.length_toList]
    simp only [Array.size_append, List.size_toArray, size_zeroCells, hzs, hown.1, hmid, ← Nat.add_mul]
    have : n + m + (grownCap w (n + m) c E - (n + m)) = grownCap w (n + m) c E := by omega
    rw [this]; omega
  · simp only [Array.size_append, List.size_toArray, size_zeroCells, hzs, hown.1, hmid, ← Nat.add_mul]
    have : n + m + (grownCap w (n + m) c E - (n + m)) = grownCap w (n + m) c E := by omega
    rw [this]; omega
  · have hle : n * i.size ≤ grownCap w (n + m) c E * i.size := Nat.mul_le_mul_right _ (by omega)
    rw [List.take_take, Nat.min_eq_left hle, List.drop_zero]
    simp only [Array.toList_append, List.append_assoc]
    rw [← hown.1]
    exact List.take_left
theorem OwnI.stores {ik : IntKind} {xs : List Int} {i : Nat} {v : Int} {Ψ : Hp → Prop} (ho : OwnI ik σ p n c xs) (hi : i < n) (hz : ∀ w, (Go.sizeOf T).run P w = .ok 1 w)
    (h : ∀ σ', OwnI ik σ' p n c (xs.set i v) → Ext (σ.del p) (σ'.del p) → Ψ σ') :
    ∃ b o, p = some ⟨b, o, none⟩ ∧ Eff P (Instr.storeAt T (.pointer (some ⟨b, o + i * 1, none⟩)) (.int ik v)) σ (fun _ => Ψ) := by
  obtain ⟨h1, h0, h2⟩ := ho
  rcases h2 with ⟨_, hn, _⟩ | ⟨b, o, arr, T', rfl, hblk, hnc, hsz, hcs⟩
  · omega
  · refine ⟨b, o, rfl, Eff.store hz hblk rfl (by omega) (by simp [Value.cells, Value.oneCell']) (h _ ⟨by simpa using h1, h0, .inr ⟨b, o, _, T', rfl, Hp.set_same _ _ _, hnc, by rw [wrt_size]; exact hsz, ?_⟩⟩ (by rw [Hp.del_set_same]; exact Ext.refl _))⟩
    show ((wrt arr (o + i * 1) [.int ik v]).toList.drop o).take (n * 1) = _
    rw [Nat.mul_one, Nat.mul_one, wrt_over (by simp; omega) (by omega)]
    rw [Nat.mul_one] at hcs
    rw [hcs]
    unfold over
    rw [List.map_set]
    rw [List.set_eq_take_append_cons_drop, if_pos (by simp at h1 ⊢; omega)]
    simp
theorem overlaps_no {f : FuncId} {fn : Func} {tR : TypeId} [h : SlT P T E s bs] (hf : P.funcs[f]? = some fn) (hne : ∀ w, (callFunc f #[.slice p n c, .slice q m d]).run P w = ((Extern.SlicesOverlaps.overlaps #[T, T] #[tR] #[.slice p n c, .slice q m d]).run P w).andThen (fun v w => .ok (.value v) w))
    {b o b' o' : Nat} {arr arr' : Array Value} {T1 T3 : TypeId} (hp : p = some ⟨b, o, none⟩) (hq : q = some ⟨b', o', none⟩) (hb : σ b = some (.cells arr T1 (0, 0))) (hb' : σ b' = some (.cells arr' T3 (0, 0))) (hbb : b ≠ b') (ha : arr'.size ≠ 0) :
    YN P f #[.slice p n c, .slice q m d] σ (.bool false) := by
  obtain ⟨ht, ⟨i, z, hi, hz, rfl, rfl, hzs⟩, hpos, hbpos⟩ := h
  subst hp hq
  intro w hs
  have h1 := hs _ _ hb
  have h2 := hs _ _ hb'
  rw [hne, Lib.run_overlaps_apart w T tR E ht i.size (fun w => by simp [Go.sizeOf, typeInfo, hi]) ⟨b, o, none⟩ ⟨b', o', none⟩ n c m d hbb T1 T3 arr.size arr'.size ?_ ?_ ha ?_ ?_]
  · rfl
  · simp [World.shape?, h1]
  · simp [World.shape?, h2]
  · simp [World.frozen?, h1]
  · simp [World.frozen?, h1]
end
end Tw
end
section
namespace Tw
open Go
theorem Hp.set_set {σ : Hp} {b : Nat} {o o' : Obj} : (σ.set b o).set b o' = σ.set b o' := by
  funext k; simp only [Hp.set]; split <;> rfl
theorem fin_frame {τ : Hp} {b : Nat} {o : Obj} {F : Nat → Prop} {w w' : World} (hF : ∀ k, F k → k < w.heap.size ∧ (τ.set b o) k = none) (hs : Sat (τ.set b o) w) (hf : Fin τ (fun k => F k ∨ k = b) w w') : τ b = none ∧ Fin (τ.set b o) F w w' := by
  have hbp := hf.prot b (.inr rfl)
  refine ⟨hbp.1, fun k u hk => ?_, fun k hk => ⟨(hF k hk).2, (hf.prot k (.inl hk)).2⟩, hf.os, hf.out, hf.grow⟩
  by_cases h : k = b
  · subst h
    rw [hbp.2]; exact hs _ _ hk
  · rw [Hp.set_ne h] at hk; exact hf.sat k u hk
theorem frame_pre {τ : Hp} {b : Nat} {o : Obj} (hb : τ b = none) {w : World} {F : Nat → Prop} (hs : Sat (τ.set b o) w) (hF : ∀ k, F k → k < w.heap.size ∧ (τ.set b o) k = none) :
    Sat τ w ∧ ∀ k, (F k ∨ k = b) → k < w.heap.size ∧ τ k = none := by
  have hx : Ext τ (τ.set b o) := .set hb
  refine ⟨fun k u hk => hs k u (hx k u hk), fun k hk => ?_⟩
  rcases hk with hk | rfl
  · exact ⟨(hF k hk).1, ext_none hx (hF k hk).2⟩
  · exact ⟨(Array.getElem?_eq_some_iff.1 (hs k o (Hp.set_same _ _ _))).1, hb⟩
theorem Spec.frame1 {P : Program} {f : FuncId} {args : Array Value} {τ : Hp} {b : Nat} {o : Obj} {R : Ending → Hp → Prop} (hb : τ b = none)
    (h : Spec P f args τ (fun e τ' => τ' b = none → R e (τ'.set b o))) : Spec P f args (τ.set b o) R := fun w F hs hF => by
  obtain ⟨h1, h2⟩ := frame_pre hb hs hF
  refine (h w (fun k => F k ∨ k = b) h1 h2).mono ?_
  rintro e w' ⟨τ', hr, hf⟩
  have hbp := hf.prot b (.inr rfl)
  refine ⟨τ'.set b o, hr hbp.1, fun k u hk => ?_, fun k hk => ?_, hf.os, hf.out, hf.grow⟩
  · by_cases h : k = b
    · subst h
      rw [hbp.2]; rw [Hp.set_same] at hk; cases hk
      exact hs k _ (Hp.set_same _ _ _)
    · rw [Hp.set_ne h] at hk; exact hf.sat k u hk
  · have hkb : k ≠ b := fun h => by have := (hF k hk).2; rw [h, Hp.set_same] at this; cases this
    exact ⟨by rw [Hp.set_ne hkb]; exact (hf.prot k (.inl hk)).1, (hf.prot k (.inl hk)).2⟩
theorem Eff.frame1 {P : Program} {α : Type} {m : Sem α} {τ : Hp} {b : Nat} {o : Obj} {Φ : α → Hp → Prop} (hb : τ b = none)
    (h : Eff P m τ (fun v τ' => τ' b = none → Φ v (τ'.set b o))) : Eff P m (τ.set b o) Φ := fun w F hs hF => by
  obtain ⟨h1, h2⟩ := frame_pre hb hs hF
  obtain ⟨v, w', τ', hrun, hr, hf⟩ := h w (fun k => F k ∨ k = b) h1 h2
  have hbp := hf.prot b (.inr rfl)
  refine ⟨v, w', τ'.set b o, hrun, hr hbp.1, fun k u hk => ?_, fun k hk => ?_, hf.os, hf.out, hf.grow⟩
  · by_cases h : k = b
    · subst h
      rw [hbp.2]; rw [Hp.set_same] at hk; cases hk
      exact hs k _ (Hp.set_same _ _ _)
    · rw [Hp.set_ne h] at hk; exact hf.sat k u hk
  · have hkb : k ≠ b := fun h => by have := (hF k hk).2; rw [h, Hp.set_same] at this; cases this
    exact ⟨by rw [Hp.set_ne hkb]; exact (hf.prot k (.inl hk)).1, (hf.prot k (.inl hk)).2⟩
section rows
variable {α : Type} {s : Nat} {E : Hp → List Value → α → Prop} {σ : Hp} {cs ds : List Value} {xs ys : List α}
theorem Ch.take (h : Ch s E σ cs xs) (i : Nat) : Ch s E σ (cs.take (i * s)) (xs.take i) := by
  refine ⟨?_, fun k x hx => ?_⟩
  · rw [List.length_take, List.length_take, h.1, Nat.min_def, Nat.min_def]
    by_cases hi : i ≤ xs.length
    · rw [if_pos hi, if_pos (Nat.mul_le_mul_right s hi)]
    · rw [if_neg hi]
      split
      · exact Nat.le_antisymm (by assumption) (Nat.mul_le_mul_right s (by omega))
      · rfl
  · rw [List.getElem?_take] at hx
    split at hx
    · rename_i hk
      have hle : k * s + s ≤ i * s := by rw [← Nat.succ_mul]; exact Nat.mul_le_mul_right s hk
      rw [List.drop_take, List.take_take, Nat.min_eq_left (by omega)]
      exact h.2 k x hx
    · cases hx
theorem Ch.drop (h : Ch s E σ cs xs) (i : Nat) : Ch s E σ (cs.drop (i * s)) (xs.drop i) := by
  refine ⟨by rw [List.length_drop, List.length_drop, h.1, Nat.sub_mul], fun k x hx => ?_⟩
  rw [List.getElem?_drop] at hx
  rw [List.drop_drop, ← Nat.add_mul]
  exact h.2 _ x hx
theorem Ch.append (h : Ch s E σ cs xs) (g : Ch s E σ ds ys) : Ch s E σ (cs ++ ds) (xs ++ ys) := by
  refine ⟨by rw [List.length_append, List.length_append, h.1, g.1, Nat.add_mul], fun k x hx => ?_⟩
  rw [List.getElem?_append] at hx
  split at hx
  · rename_i hk
    have hle : k * s + s ≤ cs.length := by rw [h.1, ← Nat.succ_mul]; exact Nat.mul_le_mul_right s hk
    rw [List.drop_append_of_le_length (by omega), List.take_append_of_le_length (by simp; omega)]
    exact h.2 k x hx
  · rename_i hk
    have hle : cs.length ≤ k * s := by rw [h.1]; exact Nat.mul_le_mul_right s (by omega)
    have := g.2 (k - xs.length) x hx
    rw [Nat.sub_mul, ← h.1] at this
    rw [List.drop_append]
    have e : List.drop (k * s) cs = [] := List.drop_eq_nil_of_le hle
    rw [e, List.nil_append]
    exact this
theorem Ch.one {vs : List Value} {x : α} (hl : vs.length = s) (hx : E σ vs x) : Ch s E σ vs [x] := by
  refine ⟨by simp [hl], fun k y hy => ?_⟩
  have hk : k = 0 := by
    have := (List.getElem?_eq_some_iff.1 hy).1
    simp at this; exact this
  subst hk
  simp at hy
  subst hy
  simp [← hl, hx]
theorem Ch.oneC (hE : ∀ σ vs x, E σ vs x → OneC vs) (h : Ch s E σ cs xs) (hs : 0 < s) : OneC cs := fun u hu => by
  obtain ⟨t, ht, rfl⟩ := List.mem_iff_getElem.1 hu
  have hlt : t / s < xs.length := by rw [Nat.div_lt_iff_lt_mul hs, ← h.1]; exact ht
  have := h.2 (t / s) _ (List.getElem?_eq_getElem hlt)
  refine hE _ _ _ this _ ?_
  have hm := Nat.mod_lt t hs
  have hdm := Nat.div_add_mod t s
  rw [Nat.mul_comm] at hdm
  refine List.mem_iff_getElem?.2 ⟨t % s, ?_⟩
  rw [List.getElem?_take, if_pos hm, List.getElem?_drop, hdm]
  exact List.getElem?_eq_getElem ht
end rows
section
variable {P : Program} {T E ty : TypeId} {s bs : Nat} {σ : Hp} {p q : Option Addr} {n c m d : Nat} {L ys : List Value} {Φ : Value → Hp → Prop}
theorem app_fit [h : SlT P T E s bs] (hC : OwnC s σ p c L) (hn : n + m ≤ c) (hy : RdC s σ q m ys) (h1 : OneC ys)
    (hΦ : ∀ σ', OwnC s σ' p c (over L (n * s) ys) → Ext (σ.del p) (σ'.del p) → Φ (.slice p (n + m) c) σ') :
    Eff P (Builtin.append_ #[T, T] ty #[.slice p n c, .slice q m d]) σ Φ := by
  obtain ⟨ht, ⟨i, z, hi, hz, rfl, rfl, hzs⟩, hpos, hbpos⟩ := h
  intro w F hs hF
  have hf := run_first (P := P) (d := d) w hs hy
  have hlen : ys.length = m * i.size := hy.1
  obtain ⟨w', σ', hrun, hfin, hC', hx⟩ := hC.write (P := P) (j := n) (ys := ys) (by rw [hlen, ← Nat.add_mul]; exact Nat.mul_le_mul_right _ hn) h1 w hs F hF
  refine ⟨_, w', σ', ?_, hΦ σ' hC' hx, hfin⟩
  by_cases hc : c = n
  · have hm : m = 0 := by omega
    subst hm
    have hys : ys = [] := List.eq_nil_of_length_eq_zero (by simpa using hlen)
    subst hys
    have hww : w = w' := by
      simp only [slP, if_pos hc] at hrun
      cases p with
      | none => simpa using hrun
      | some a =>
        have : Result.ok () w = (Result.ok () w' : Result Unit) := hrun
        cases this; rfl
    subst hww
    simp only [Nat.add_zero] at hn ⊢
    cases p with
    | none => simp [Builtin.append_, run_underlying ht, Go.sizeOf, typeInfo, hi, Builtin.lenOf, hn, hf]
    | some a =>
      have hst : ∀ a : Addr, (storeCells a [] 0).run P w = .ok () w := fun a => rfl
      simp [Builtin.append_, run_underlying ht, Go.sizeOf, typeInfo, hi, Builtin.lenOf, hn, hf, hst]
  · cases p with
    | none =>
      have : c = 0 := by
        rcases hC.2 with ⟨_, h⟩ | ⟨b, o, arr, T, h, _⟩
        · exact h
        · cases h
      omega
    | some a =>
      simp only [slP, if_neg hc, Option.map_some] at hrun
      simp [Builtin.append_, run_underlying ht, Go.sizeOf, typeInfo, hi, Builtin.lenOf, hn, hf, hrun]
end
end Tw
end
section
namespace Tw
open Go
def YSpec (P : Program) (l : Nat) (args : Array Value) (σ : Hp) (R : Ending → Hp → Prop) : Prop :=
  ∀ (w : World) (F : Nat → Prop), Sat σ w → (∀ b, F b → b < w.heap.size ∧ σ b = none) →
    ∃ fn tmps assign body, (Instr.yield l args).run P w = .ok (.round l fn tmps assign body) w ∧ RoundIn Fence.wide 0 P l fn tmps assign body w (fun e w' => ∃ σ', R e σ' ∧ Fin σ' F w w')
theorem YSpec.mono {P : Program} {l : Nat} {args : Array Value} {σ : Hp} {R R' : Ending → Hp → Prop} (h : YSpec P l args σ R) (hr : ∀ e σ', R e σ' → R' e σ') : YSpec P l args σ R' := fun w F hs hF =>
  let ⟨fn, tmps, assign, body, h1, h2⟩ := h w F hs hF
  ⟨fn, tmps, assign, body, h1, h2.mono fun _ _ ⟨σ', h3, h4⟩ => ⟨σ', hr _ _ h3, h4⟩⟩
theorem YSpec.cont {P : Program} {l : Nat} {args : Array Value} {σ : Hp} {R : Ending → Hp → Prop} {Φ Ψ : Value → Hp → Prop} (h : YSpec P l args σ (Cont R Φ)) (hh : ∀ v σ', Φ v σ' → Ψ v σ') :
    YSpec P l args σ (Cont R Ψ) := h.mono fun e σ' he => by
  cases e with
  | returned v => exact hh v σ' he
  | panicked ch => exact he
  | outgrown => exact he
section
variable {g : Gl} {ops : Array Oper} {i : Nat} {e : Env} {bx : Bx} {σ : Hp} {K : Env → Bx → Hp → Prop} {d : Option Nat} {ty : TypeId} {gd : Option (Nat × Bool)}
theorem OpTo.yield {x : Operand} {xs : Array Operand} {ts : Array TypeId} {l : Nat} {vs : Array Value} {u : Value} (hs : sig ops i = some (d, .call { callee := .value x, args := xs, argTypes := ts }, ty, gd)) (hw : wantedE ops e gd = true) (hd : dOk d g.n = true)
    (hx : evalE e x = u) (hargs : xs.toList.map (evalE e) = vs.toList) (hu : u = .func (.yield l) #[] #[])
    (h : YSpec g.P l vs σ (Cont g.R fun v σ' => K (put e d v) bx σ')) : OpTo g ops i e bx σ K := by
  intro w0 F a w st
  obtain ⟨o, ho, rfl, ho2, ho3, rfl⟩ := sig_some hs
  refine wpO_some ho (by rw [st.wanted]; exact hw) ?_
  obtain ⟨fn, tmps, assign, body, hy, hround⟩ := h w _ st.sat st.lt
  have hargs' : xs.map (evalE e) = vs := by rw [← Array.toList_inj]; simpa using hargs
  have hrun : (execOp (evalE e) o).run g.P w = .ok (.round l fn tmps assign body) w := by
    simp only [execOp, ho2, resolve, hx.trans hu, hargs', Deferred.ofValue, invoke, bind, Sem.bind, pure, Array.empty_append]
    exact hy
  rw [st.eval, semAt_ok hrun (fun d => by simp)]
  refine ⟨fun hh => (by cases hh), RoundIn.mono (show RoundIn (wd g.rnd) (0 - 1) g.P l fn tmps assign body w _ from ⟨trivial, hround.2⟩) fun en w' => ?_⟩
  rintro ⟨σ', hr, hf⟩
  have st' := st.fin hf
  cases en with
  | returned v => exact ⟨_, _, _, st'.put _ _ (dOk.lt hd), hr⟩
  | panicked ch =>
    rcases g.pan with ⟨h1, h2⟩ | hno
    · exact ⟨⟨h1, st'.defers.trans h2⟩, σ', hr, st'.toFin⟩
    · exact absurd hr (hno ch σ')
  | outgrown => exact hr.elim
end
def NP (R : Ending → Hp → Prop) : Ending → Hp → Prop := fun e σ => match e with | .returned v => R (.returned v) σ | _ => False
abbrev Gl.round (P : Program) (f : FuncId) (n : Nat) (l : Nat) (R : Ending → Hp → Prop) : Gl := ⟨P, f, n, NP R, some l, [], .inr fun _ _ h => h⟩
abbrev Gl.behind (P : Program) (f : FuncId) (n : Nat) (D : Nat) (R : Ending → Hp → Prop) : Gl := ⟨P, f, n, NP R, none, [{ target := .collected D, args := #[] }], .inr fun _ _ h => h⟩
theorem marks1 {D : Nat} {σ : Hp} (h : σ D = some (.deferred (some []))) : Marks [{ target := .collected D, args := #[] }] σ := ⟨D, rfl, h, trivial⟩
theorem YSpec.of_at {P : Program} {l n p : Nat} {r : Loop} {σ : Hp} {R : Ending → Hp → Prop} {v : Value} {fn : Func} {e : Env} {s : LoopState} {c : Option Code} (hσ : σ l = some (.loop (lp r s c))) (hp : r.params = #[p]) (hn : r.tmps.size = n) (hpn : p < n) (he : ∀ t, r.tmps.getD t undef = e t) (hfn : P.funcs[r.fn]? = some fn)
    (h : At (Gl.round P r.fn n l R) [.code r.assign, .beginRound, .code r.body] (upd e p v) [] σ) : YSpec P l #[v] σ R := by
  intro w F hs hF
  refine ⟨r.fn, _, r.assign, r.body, run_yield (r := lp r s c) (hs _ _ hσ) (by simp [lp, hp]), trivial, fun c0 cs _ => ?_⟩
  have ht : (r.params.zip #[v]).foldl (fun t (p, v) => t.setIfInBounds p v) r.tmps = r.tmps.setIfInBounds p v := by
    simp [hp]
  have st : St n [] w F (upd e p v) [] σ { tmps := r.tmps.setIfInBounds p v, defers := [] } w := by
    refine ⟨by simp [hn], fun t => ?_, rfl, hs, (fun p hp => by cases hp), (fun p hp => by cases hp), List.nodup_nil, fun b hb => ⟨(hF b hb).1, (hF b hb).2, rfl⟩, .same rfl rfl rfl, rfl, Nat.le_refl _⟩
    simp only [upd]
    by_cases htp : t = p
    · subst htp
      simp [hn, hpn]
    · rw [beq_ne htp, ← he t]
      simp [Array.getElem?_setIfInBounds_ne (Ne.symm htp)]
  let b : Frame := { (default : Frame) with fn := r.fn, kind := .normal, roundOf := some l }
  have hb0 : Frame.round l r.fn (r.tmps.setIfInBounds p v) r.assign r.body .normal = b.atR { tmps := r.tmps.setIfInBounds p v, defers := [] } [.code r.assign, .beginRound, .code r.body] := by
    simp [Frame.round, Frame.atR, b]
  obtain ⟨v', w', ⟨σ', hr, hfin⟩, hst⟩ := h w F _ w st b (c0 :: cs) rfl rfl rfl ⟨fn, hfn⟩ c0 cs rfl
  refine ⟨.returned v', w', ⟨σ', hr, hfin⟩, ?_⟩
  have hst := (stepsIn_wide (P := P)).2 hst
  rw [← hb0, ← ht] at hst
  exact hst
section
variable {g : Gl} {k : List Item} {e : Env} {bx : Bx} {σ : Hp}
theorem Hp.set_none {σ : Hp} {b c : Nat} {o : Obj} (h : c ≠ b) (hs : σ c = none) : (σ.set b o) c = none := by rw [Hp.set_ne h]; exact hs
theorem St.alloc {n ds w0 F e bx σ a w} (st : St n ds w0 F e bx σ a w) (o : Obj) : σ w.heap.size = none ∧ St n ds w0 F e bx (σ.set w.heap.size o) a (w.alloc o) := by
  have h := st.grown o
  exact ⟨(h.free _ (List.mem_cons_self ..)).1, h.open⟩
theorem At.range {c : Code} {gop : Operand} {ps : Array Tmp} {assign body : Code} {gf : Nat} {lb : Array Value} (hc : c = .rangeFunc gop ps assign body) (hr : g.rnd = none) (hds : g.ds = [])
    (hg : evalE e gop = .func (.func gf) #[] lb) (hen : Enters g.P gf)
    (h : ∀ (D l : Nat) (r : Loop), D ≠ l → σ D = none → σ l = none → r.fn = g.f → r.params = ps → r.assign = assign → r.body = body → r.tmps.size = g.n → (∀ t, r.tmps.getD t undef = e t) →
      Spec g.P gf (#[.func (.yield l) #[] #[]] ++ lb) ((σ.set D (.deferred (some []))).set l (.loop (lp r .ready none)))
        (fun en σ' => ∃ v s p, en = .returned v ∧ σ' l = some (.loop (lp r s p)) ∧ s ≠ .busy ∧
          At (Gl.behind g.P g.f g.n D g.R) ((p.map Item.code).toList ++ k) e bx (σ'.set l (.loop (lp r .exhausted p))))) : At g (.code c :: k) e bx σ := by
  subst hc
  intro w0 F a w st b cs hbf hbk hbr hfn
  have hbn : b.roundOf = none := hbr.trans hr
  obtain ⟨hD, st1⟩ := st.alloc (.deferred (some []))
  let r : Loop := { state := .ready, pending := none, fn := b.fn, tmps := a.tmps, params := ps, assign, body, defers := w.heap.size }
  obtain ⟨hl, st2⟩ := st1.alloc (.loop r)
  have hsz : (w.alloc (.deferred (some []))).heap.size = w.heap.size + 1 := World.size_alloc ..
  rw [hsz] at hl st2
  have henter := run_enterLoop_outer (P := g.P) (w := w) b.fn a.tmps ps assign body
  have hres : (resolve a.eval (rangeCall gop (w.heap.size + 1)) 0).run g.P ((w.alloc (.deferred (some []))).alloc (.loop r)) = .ok { target := .fn (.func gf) lb, args := #[.func (.yield (w.heap.size + 1)) #[] #[]] } ((w.alloc (.deferred (some []))).alloc (.loop r)) := by
    rw [st.eval]
    simp only [resolve, hg]
    simp [evalE, Deferred.ofValue]
  have hinv : (invoke (.fn (.func gf) lb) #[.func (.yield (w.heap.size + 1)) #[] #[]]).run g.P ((w.alloc (.deferred (some []))).alloc (.loop r)) = .ok (.enter gf (#[.func (.yield (w.heap.size + 1)) #[] #[]] ++ lb)) ((w.alloc (.deferred (some []))).alloc (.loop r)) := by
    exact hen _ _
  have hstep := stepR_rangeFunc (P := g.P) (b := b) (a := a) (k := k) (cs := cs) (w := w) (by rw [hbn]; exact henter) hres hinv
  have hσl : σ (w.heap.size + 1) = none := by rw [Hp.set_ne (by omega)] at hl; exact hl
  have hspec := h w.heap.size (w.heap.size + 1) r (by omega) hD hσl hbf rfl rfl rfl st.size st.env
  obtain ⟨en, w3, fr, ⟨σ', ⟨v, s, p, he, hσ', hsb, hat⟩, hfin⟩, hcomes, hffn, hleave⟩ := hspec _ _ st2.sat st2.lt (b.atR { a with defers := [{ target := .collected w.heap.size, args := #[] }] ++ a.defers } (.inRangeFunc (w.heap.size + 1) :: k) :: cs)
  subst he
  have st3 := st2.fin hfin
  have hend := run_endLoop (P := g.P) (st3.sat _ _ hσ') (by simpa [lp] using hsb)
  have hf4 := st3.toFin.put (o' := .loop (lp r .exhausted p)) hσ'
  have hne : ∀ q ∈ bx, q.1 ≠ w.heap.size + 1 := fun q hq e => by have := (st3.free q hq).1; rw [e, hσ'] at this; cases this
  have st4 : St g.n [{ target := .collected w.heap.size, args := #[] }] w0 F e bx (σ'.set (w.heap.size + 1) (.loop (lp r .exhausted p))) { a with defers := [{ target := .collected w.heap.size, args := #[] }] ++ a.defers } (w3.putObj (w.heap.size + 1) (.loop (lp r .exhausted p))) :=
    { size := st.size, env := st.env, defers := by rw [show a.defers = [] from st.defers.trans hds]; rfl, sat := hf4.sat, box := fun q hq => by rw [World.putObj_heap_other (hne q hq)]; exact st3.box q hq,
      free := fun q hq => ⟨Hp.set_none (hne q hq) (st3.free q hq).1, (st3.free q hq).2⟩, nodup := st.nodup, prot := fun b hb => ⟨(st.prot b hb).1, (hf4.prot b hb).1, (hf4.prot b hb).2⟩, os := hf4.os, out := hf4.out, grow := hf4.grow }
  have hlands := hat w0 F _ _ st4 b cs hbf hbk hbn hfn
  have hback := step_leave_returned (P := g.P) (c := b.atR { a with defers := [{ target := .collected w.heap.size, args := #[] }] ++ a.defers } (.inRangeFunc (w.heap.size + 1) :: k)) (cs := cs) hleave
  rw [finish_atR_inRangeFunc] at hback
  have hsteps := (Steps.one hstep).trans (Steps.trans hcomes ((Steps.one hback).trans (.one (stepR_endRangeFunc (k := k) hend))))
  obtain ⟨e', w', fr', ⟨σ2, hR, hf2⟩, hc2, hx⟩ := hlands
  unfold Lands
  rw [hr]
  refine ⟨e', w', fr', ⟨σ2, ?_, hf2⟩, .of_steps hsteps hc2, hx⟩
  cases e' with
  | returned v => exact hR
  | _ => exact hR.elim
end
end Tw
end
section
namespace Tw
open Go
def qv (P : Program) (ops : Array Oper) (i : Nat) (e : Env) : Option (Option Nat × Value) :=
  match ops[i]? with
  | none => none
  | some o => match wantedE ops e o.guard with
    | false => none
    | true => match o.op with
      | .move x => some (o.dst, evalE e x)
      | .assign x => some (o.dst, evalE e x)
      | .pick z x y => (match evalE e z with
        | .bool true => some (o.dst, evalE e x)
        | .bool false => some (o.dst, evalE e y)
        | _ => none)
      | .extract x j => (match evalE e x with
        | .tuple vs => (match vs[j]? with | some v => some (o.dst, v) | none => none)
        | _ => none)
      | .unOp u _ x => (match u, evalE e x with
        | .not, .bool b => some (o.dst, .bool (!b))
        | _, _ => none)
      | .binOp b _ x y _ => (match evalE e x, evalE e y with
        | .int k a, .int k' c => (match decide (k = k') with
          | false => none
          | true => (match b with
            | .lss => some (o.dst, .bool (decide (a < c)))
            | .leq => some (o.dst, .bool (decide (a ≤ c)))
            | .gtr => some (o.dst, .bool (decide (c < a)))
            | .geq => some (o.dst, .bool (decide (c ≤ a)))
            | .eql => some (o.dst, .bool (decide (a = c)))
            | .neq => some (o.dst, .bool (decide (a ≠ c)))
            | _ => none))
        | _, _ => none)
      | _ => none
theorem qv_yd {P : Program} {ops : Array Oper} {i : Nat} {e : Env} {bx : Bx} {d : Option Nat} {v : Value} (h : qv P ops i e = some (d, v)) :
    ∃ o, ops[i]? = some o ∧ wantedE ops e o.guard = true ∧ o.dst = d ∧ ∀ σ, Yd P e bx σ o.op o.type v := by
  unfold qv at h
  cases ho : ops[i]? with
  | none => simp [ho] at h
  | some o =>
    simp only [ho] at h
    cases hw : wantedE ops e o.guard with
    | false => simp [hw] at h
    | true =>
      simp only [hw] at h
      refine ⟨o, rfl, hw, ?_⟩
      cases hop : o.op <;> simp only [hop] at h <;> try (cases h; done)
      case move x => cases h; exact ⟨rfl, fun σ => Y.move rfl⟩
      case assign x => cases h; exact ⟨rfl, fun σ => Y.assign rfl⟩
      case pick z x y =>
        split at h
        · rename_i hz; cases h; exact ⟨rfl, fun σ => Y.pickT hz rfl⟩
        · rename_i hz; cases h; exact ⟨rfl, fun σ => Y.pickF hz rfl⟩
        · cases h
      case extract x j =>
        split at h
        · rename_i vs hx
          split at h
          · rename_i u hu; cases h; exact ⟨rfl, fun σ => Y.extract hx hu⟩
          · cases h
        · cases h
      case unOp u T x =>
        split at h
        · rename_i b hx; cases h; exact ⟨rfl, fun σ => Y.not hx⟩
        · cases h
      case binOp b T x y T' =>
        split at h
        · rename_i k a k' c hx hy
          split at h
          · cases h
          · rename_i hk
            have hk := of_decide_eq_true hk
            subst hk
            cases b <;> simp only at h <;> cases h
            · exact ⟨rfl, fun σ => Y.eql hx hy⟩
            · exact ⟨rfl, fun σ => Y.neq hx hy⟩
            · exact ⟨rfl, fun σ => Y.lss hx hy⟩
            · exact ⟨rfl, fun σ => Y.leq hx hy⟩
            · exact ⟨rfl, fun σ => Y.gtr hx hy⟩
            · exact ⟨rfl, fun σ => Y.geq hx hy⟩
        · cases h
def nv (ops : Array Oper) (i : Nat) (e : Env) : Option (Option Nat) :=
  match ops[i]? with
  | none => none
  | some o => match wantedE ops e o.guard with
    | true => none
    | false => some o.dst
theorem nv_o {ops : Array Oper} {i : Nat} {e : Env} {d : Option Nat} (h : nv ops i e = some d) : ∃ o, ops[i]? = some o ∧ wantedE ops e o.guard = false ∧ o.dst = d := by
  unfold nv at h
  cases ho : ops[i]? with
  | none => simp [ho] at h
  | some o =>
    simp only [ho] at h
    cases hw : wantedE ops e o.guard with
    | true => simp [hw] at h
    | false => simp only [hw] at h; cases h; exact ⟨o, rfl, hw, rfl⟩
theorem sig_of {ops : Array Oper} {i : Nat} {o : Oper} (h : ops[i]? = some o) : sig ops i = some (o.dst, o.op, o.type, o.guard) := by simp [sig, h]
section
variable {g : Gl} {ops : Array Oper} {q : Rly} {i : Nat} {is : List Nat} {r : List (Nat × Bool)} {e : Env} {bx : Bx} {σ : Hp} {K : Env → Bx → Hp → Prop} {k : List Item} {c : Code}
theorem Seq.u (d : Nat) (v : Value) (h : Seq g ops is (put e (some d) v) bx σ K) (hq : qv g.P ops i e = some (some d, v) := by kernel_rfl) (hd : Nat.blt d g.n = true := by rfl) : Seq g ops (i :: is) e bx σ K := by
  obtain ⟨o, ho, hw, hdst, hy⟩ := qv_yd (bx := bx) hq
  have hs := sig_of ho
  rw [hdst] at hs
  exact Seq.yg hs hw hd (hy σ) h
def puts (e : Env) : List (Nat × Value) → Env
  | [] => e
  | (d, v) :: l => puts (put e (some d) v) l
def Qs (P : Program) (ops : Array Oper) : List Nat → List (Nat × Value) → Env → List (Option (Option Nat × Value))
  | _, [], _ => []
  | i :: is, (d, v) :: l, e => qv P ops i e :: Qs P ops is l (put e (some d) v)
  | [], _ :: _, _ => [none]
theorem Seq.us (l : List (Nat × Value)) (h : Seq g ops (is.drop l.length) (puts e l) bx σ K) (hq : Qs g.P ops is l e = l.map (fun p => some (some p.1, p.2)) := by kernel_rfl) (hd : (l.all fun p => Nat.blt p.1 g.n) = true := by rfl) : Seq g ops is e bx σ K := by
  induction l generalizing is e with
  | nil => exact h
  | cons p l ih =>
    obtain ⟨d, v⟩ := p
    cases is with
    | nil => simp [Qs] at hq
    | cons i is =>
      simp only [Qs, List.map_cons, List.cons.injEq] at hq
      simp only [List.all_cons, Bool.and_eq_true] at hd
      exact Seq.u d v (ih h hq.2 hd.2) hq.1 hd.1
theorem Head.u (d : Nat) (v : Value) (h : Head g ops q r (put e (some d) v) bx σ K) (hq : qv g.P ops i e = some (some d, v) := by kernel_rfl) (hd : Nat.blt d g.n = true := by rfl) (hok : q.ok i = true := by rfl) : Head g ops q ((i, true) :: r) e bx σ K := by
  obtain ⟨o, ho, hw, hdst, hy⟩ := qv_yd (bx := bx) hq
  have hs := sig_of ho
  rw [hdst] at hs
  exact Head.yg hs hw hd (hy _) h hok
theorem Seq.n (d : Nat) (h : Seq g ops is (put e (some d) undef) bx σ K) (hn : nv ops i e = some (some d) := by kernel_rfl) (hd : Nat.blt d g.n = true := by rfl) : Seq g ops (i :: is) e bx σ K := by
  obtain ⟨o, ho, hw, hdst⟩ := nv_o hn
  have hs := sig_of ho
  rw [hdst] at hs
  exact Seq.no hs hw hd h
theorem Seq.n0 (h : Seq g ops is e bx σ K) (hn : nv ops i e = some none := by kernel_rfl) : Seq g ops (i :: is) e bx σ K := by
  obtain ⟨o, ho, hw, hdst⟩ := nv_o hn
  have hs := sig_of ho
  rw [hdst] at hs
  exact Seq.no hs hw rfl h
theorem Head.n (d : Nat) (h : Head g ops q r (put e (some d) undef) bx σ K) (hn : nv ops i e = some (some d) := by kernel_rfl) (hd : Nat.blt d g.n = true := by rfl) (hok : q.ok i = true := by rfl) : Head g ops q ((i, true) :: r) e bx σ K := by
  obtain ⟨o, ho, hw, hdst⟩ := nv_o hn
  have hs := sig_of ho
  rw [hdst] at hs
  exact Head.no hs hw hd h hok
theorem Seq.z (d : Nat) (op : Op) (ty : TypeId) (v : Value) (hy : Yd g.P e bx σ op ty v) (h : Seq g ops is (put e (some d) v) bx σ K) (hs : sig ops i = some (some d, op, ty, none) := by kernel_rfl) (hd : Nat.blt d g.n = true := by rfl) : Seq g ops (i :: is) e bx σ K := Seq.y hs hd hy h
theorem Seq.zg (d : Nat) (op : Op) (ty : TypeId) (gd : Nat × Bool) (v : Value) (hy : Yd g.P e bx σ op ty v) (h : Seq g ops is (put e (some d) v) bx σ K) (hs : sig ops i = some (some d, op, ty, some gd) := by kernel_rfl) (hw : wantedE ops e (some gd) = true := by rfl) (hd : Nat.blt d g.n = true := by rfl) : Seq g ops (i :: is) e bx σ K := Seq.yg hs hw hd hy h
theorem Head.z (d : Nat) (op : Op) (ty : TypeId) (v : Value) (hy : Yd g.P e bx (limO q none σ) op ty v) (h : Head g ops q r (put e (some d) v) bx σ K) (hs : sig ops i = some (some d, op, ty, none) := by kernel_rfl) (hd : Nat.blt d g.n = true := by rfl) (hok : q.ok i = true := by rfl) : Head g ops q ((i, true) :: r) e bx σ K := Head.y hs hd hy h hok
theorem Head.zg (d : Nat) (op : Op) (ty : TypeId) (gd : Nat × Bool) (v : Value) (hy : Yd g.P e bx (limO q none σ) op ty v) (h : Head g ops q r (put e (some d) v) bx σ K) (hs : sig ops i = some (some d, op, ty, some gd) := by kernel_rfl) (hw : wantedE ops e (some gd) = true := by rfl) (hd : Nat.blt d g.n = true := by rfl) (hok : q.ok i = true := by rfl) : Head g ops q ((i, true) :: r) e bx σ K := Head.yg hs hw hd hy h hok
theorem live_of : ∀ {l : List (Nat × Value)}, l.map (fun p => e p.1) = l.map (·.2) → Live e l
  | [], _ => trivial
  | (t, v) :: l, h => by
    simp only [List.map_cons, List.cons.injEq] at h
    exact ⟨h.1, live_of h.2⟩
theorem At.L (l : List (Nat × Value)) (h : ∀ J, At g k (upds J l) bx σ) (hl : l.map (fun p => e p.1) = l.map (·.2) := by kernel_rfl) : At g k e bx σ := At.ofL (live_of hl) h
theorem At.v (l : List (Nat × Value)) (h : At g k (upds e l) bx σ) (hl : l.map (fun p => e p.1) = l.map (·.2) := by kernel_rfl) : At g k e bx σ := At.live (live_of hl) h
theorem At.rg (id : Nat) (l : List Nat) (h : Seq g (cO c) l e bx σ (fun e bx σ => At g k e bx σ)) (hc : c = .region id (cO c) false := by kernel_rfl) (hl : List.range (cO c).size = l := by kernel_rfl) : At g (.code c :: k) e bx σ := At.region hc hl h
theorem At.s (x y : Code) (h : At g (.code x :: .code y :: k) e bx σ) (hc : c = .seq x y := by kernel_rfl) : At g (.code c :: k) e bx σ := At.seq hc h
theorem At.cT (t : Nat) (y z : Code) (h : At g (.code y :: k) e bx σ) (hc : c = .cond (.tmp t) y z := by kernel_rfl) (hx : evalE e (.tmp t) = .bool true := by rfl) : At g (.code c :: k) e bx σ := At.condT hc hx h
theorem At.cF (t : Nat) (y z : Code) (h : At g (.code z :: k) e bx σ) (hc : c = .cond (.tmp t) y z := by kernel_rfl) (hx : evalE e (.tmp t) = .bool false := by rfl) : At g (.code c :: k) e bx σ := At.condF hc hx h
theorem At.x (i : Nat) (k' : List Item) (h : At g k' e bx σ) (hc : c = .exit i := by kernel_rfl) (hk : exitTo i k = some k' := by kernel_rfl) : At g (.code c :: k) e bx σ := At.exit hc hk h
theorem At.b (i : Nat) (x : Code) (h : At g (.code x :: .inBlock i :: k) e bx σ) (hc : c = .block i x := by kernel_rfl) : At g (.code c :: k) e bx σ := At.block hc h
theorem At.rt {fn : Func} (rs : List ResultVar) (vs : List Value) (hf : g.P.funcs[g.f]? = some fn) (h : ResOk g.P e bx (left g.ds σ) rs vs) (hR : g.R (.returned (resVal vs)) (left g.ds σ))
    (hc : c = Code.ret := by kernel_rfl) (hr : fn.results = rs.toArray := by kernel_rfl) (hrn : g.rnd = none := by rfl) (hm : Marks g.ds σ := by trivial) : At g (.code c :: k) e bx σ := At.retV hc hf hr h hR hrn hm
def cv (ops : Array Oper) (i : Nat) (e : Env) : Option (Option Nat × FuncId × Array Value) :=
  match ops[i]? with
  | none => none
  | some o => match wantedE ops e o.guard with
    | false => none
    | true => match o.op with
      | .call c => (match c.callee with
        | .value x => (match evalE e x with
          | .func fn fst cap => (match fn with
            | .func f => some (o.dst, f, (fst.toList ++ (c.args.toList.map (evalE e) ++ cap.toList)).toArray)
            | _ => none)
          | _ => none)
        | _ => none)
      | _ => none
theorem OpTo.cl {f : FuncId} {args : Array Value} (d : Option Nat) (hcall : ∀ args w, (callFunc f args).run g.P w = .ok (.enter f args) w) (h : Spec g.P f args σ (Cont g.R fun v σ' => K (put e d v) bx σ'))
    (hc : cv ops i e = some (d, f, args) := by kernel_rfl) (hd : dOk d g.n = true := by rfl) : OpTo g ops i e bx σ K := by
  unfold cv at hc
  cases ho : ops[i]? with
  | none => simp [ho] at hc
  | some o =>
    simp only [ho] at hc
    cases hw : wantedE ops e o.guard with
    | false => simp [hw] at hc
    | true =>
      simp only [hw] at hc
      cases hop : o.op <;> simp only [hop] at hc <;> try cases hc
      rename_i c
      split at hc
      · rename_i x hcal
        split at hc
        · rename_i fn fst cap hx
          split at hc
          · rename_i f'
            simp only [Option.some.injEq, Prod.mk.injEq] at hc
            obtain ⟨rfl, rfl, ha⟩ := hc
            refine OpTo.call (sig_of ho) hw hd (fun o' ho' _ w => ?_) h
            obtain ⟨callee, xs, ts⟩ := c
            simp only at hcal
            subst hcal
            refine exec_call (x := x) (xs := xs) (ts := ts) (fst := fst) (cap := cap) (vs := (xs.toList.map (evalE e)).toArray) hcall hx (by simp) ?_ o' (by rw [ho', hop]) w
            rw [← ha, ← Array.toList_inj]; simp
          · cases hc
        · cases hc
      · cases hc
end
end Tw
end
section
namespace Tw
open Go
section
variable {g : Gl} {ops : Array Oper} {i : Nat} {e : Env} {bx : Bx} {σ : Hp} {K : Env → Bx → Hp → Prop} {k : List Item} {c x : Code} {d : Option Nat} {gd : Option (Nat × Bool)} {ty : TypeId}
theorem stepR_scope {P : Program} {b : Frame} {a : Act} {k : List Item} {cs : List Frame} {w : World} {c : Code} : step P (lone (b.atR a (.code (.scope c) :: k)) cs w) = .next (lone (b.atR a (.code c :: .inScope c :: k)) cs w) := rfl
theorem stepR_inScope {P : Program} {b : Frame} {a : Act} {k : List Item} {cs : List Frame} {w : World} {c : Code} : step P (lone (b.atR a (.inScope c :: k)) cs w) = .next (lone (b.atR a k) cs w) := rfl
theorem At.scope (hc : c = Code.scope x) (h : At g (.code x :: .inScope x :: k) e bx σ) : At g (.code c :: k) e bx σ :=
  hc ▸ fun w0 F a w st => .step (fun _ _ _ => stepR_scope) (h w0 F a w st)
theorem At.inScope (h : At g k e bx σ) : At g (.inScope x :: k) e bx σ := fun w0 F a w st => .step (fun _ _ _ => stepR_inScope) (h w0 F a w st)
theorem OpTo.panic {x : Operand} {T : TypeId} {v : Value} (hs : sig ops i = some (d, .panic x, ty, gd)) (hw : wantedE ops e gd = true) (hx : evalE e x = .iface T v) (h1 : g.rnd = none) (h2 : g.ds = [])
    (h : g.R (.panicked [{ v := .iface T v, recovered := false }]) σ) : OpTo g ops i e bx σ K := by
  intro w0 F a w st
  obtain ⟨o, ho, rfl, ho2, ho3, rfl⟩ := sig_some hs
  refine wpO_some ho (by rw [st.wanted]; exact hw) ?_
  rw [st.eval]
  have hrun : (o.semAt g.rnd (evalE e)).run g.P w = .halt (.panic (.iface T v)) w := by
    rw [h1, Oper.semAt_eq none (evalE e) o (fun c hc => by rw [ho2] at hc; cases hc)]
    simp [execOp, ho2, hx, Instr.panic, goPanic, Sem.run]
  rw [hrun]
  exact ⟨⟨h1, st.defers.trans h2⟩, σ, h, st.toFin⟩
theorem exec_b_len {x : Operand} {u : Value} {ts : Array TypeId} (hx : evalE e x = u) (o : Oper) (ho : o.op = .call { callee := .builtin .len, args := #[x], argTypes := ts }) (ht : o.type = ty) : execOp (evalE e) o = (do pure (.value (← Builtin.len_ ts ty #[u]))) := by
  subst ht; simp [execOp, ho, resolve, invoke, builtin, hx]
def isIf : TypeDesc → Bool
  | .interface _ => true
  | _ => false
theorem Y.iface {P : Program} {T : TypeId} {dd : TypeDesc} {x : Operand} {v : Value} (hT : P.underlying T = some dd) (hd : isIf dd = false) (hx : evalE e x = v) : Yd P e bx σ (.makeInterface T x) ty (.iface T v) := fun oo ho _ w _ _ => by
  cases dd <;> simp [isIf] at hd <;> simp [execOp, ho, hx, Instr.makeInterface, run_underlying hT]
theorem Y.addS {P : Program} {T T' : TypeId} {x y : Operand} {a b : ByteArray} (hT : P.underlying T = some .string) (hx : evalE e x = .string a) (hy : evalE e y = .string b) (hs : a.size + b.size ≤ 9223372036854775807) : Yd P e bx σ (.binOp .add T x y T') ty (.string (a ++ b)) := fun oo ho _ w _ _ => by
  have hs' : (a.size : Int) + (b.size : Int) ≤ 9223372036854775807 := by omega
  simp [execOp, ho, hx, hy, eqGuard_add, binOp, Op.stringOp, hs']
end
end Tw
end
section
namespace Tw
open Go
def sets (τ : Hp) : List (Nat × Obj) → Hp
  | [] => τ
  | (b, o) :: L => (sets τ L).set b o
abbrev names (L : List (Nat × Obj)) : List Nat := L.map Prod.fst
section
variable {τ : Hp} {L : List (Nat × Obj)} {b i : Nat} {o o' : Obj}
theorem sets_not (h : b ∉ names L) : sets τ L b = τ b := by
  induction L with
  | nil => rfl
  | cons p L ih =>
    simp only [names, List.map_cons, List.mem_cons, not_or] at h
    simp only [sets, Hp.set_ne h.1]
    exact ih h.2
theorem sets_get : ∀ {L : List (Nat × Obj)} {i : Nat}, (names L).Nodup → L[i]? = some (b, o) → sets τ L b = some o
  | p :: L, 0, _, h => by simp at h; subst h; exact Hp.set_same _ _ _
  | p :: L, i + 1, hn, h => by
    simp only [List.getElem?_cons_succ] at h
    have hm : b ∈ names L := List.mem_map.2 ⟨_, List.mem_of_getElem? h, rfl⟩
    have hn := List.nodup_cons.1 (show (p.1 :: names L).Nodup from hn)
    have hne : b ≠ p.1 := fun e => hn.1 (e ▸ hm)
    simp only [sets, Hp.set_ne hne]
    exact sets_get hn.2 h
theorem Hp.set_swap {σ : Hp} {a b : Nat} {o u : Obj} (h : a ≠ b) : (σ.set a o).set b u = (σ.set b u).set a o := by
  funext k
  simp only [Hp.set]
  by_cases h1 : k = a
  · subst h1; simp [h]
  · simp [h1]
theorem sets_set : ∀ {L : List (Nat × Obj)} {i : Nat}, (names L).Nodup → L[i]? = some (b, o) → (sets τ L).set b o' = sets τ (L.set i (b, o'))
  | p :: L, 0, _, h => by simp at h; subst h; exact Hp.set_set
  | p :: L, i + 1, hn, h => by
    simp only [List.getElem?_cons_succ] at h
    have hm : b ∈ names L := List.mem_map.2 ⟨_, List.mem_of_getElem? h, rfl⟩
    have hn := List.nodup_cons.1 (show (p.1 :: names L).Nodup from hn)
    have hne : b ≠ p.1 := fun e => hn.1 (e ▸ hm)
    simp only [sets, List.set_cons_succ]
    rw [Hp.set_swap (Ne.symm hne), sets_set hn.2 h]
theorem sets_fresh : ∀ {L : List (Nat × Obj)}, b ∉ names L → (sets τ L).set b o = sets (τ.set b o) L
  | [], _ => rfl
  | p :: L, h => by
    simp only [names, List.map_cons, List.mem_cons, not_or] at h
    simp only [sets]
    rw [Hp.set_swap (Ne.symm h.1), sets_fresh h.2]
theorem sets_some : ∀ {L : List (Nat × Obj)}, b ∈ names L → sets τ L b ≠ none
  | p :: L, h => by
    by_cases hb : b = p.1
    · subst hb; simp only [sets, Hp.set_same]; simp
    · simp only [names, List.map_cons, List.mem_cons] at h
      simp only [sets, Hp.set_ne hb]
      exact sets_some (h.resolve_left hb)
theorem sets_none (h : sets τ L b = none) : b ∉ names L ∧ τ b = none := by
  have hs : ∀ {L : List (Nat × Obj)}, b ∉ names L → sets τ L b = τ b := sets_not
  have hn : b ∉ names L := fun hm => sets_some hm h
  exact ⟨hn, (hs hn).symm.trans h⟩
def Off (L : List (Nat × Obj)) (τ : Hp) : Prop := ∀ b ∈ names L, τ b = none
theorem Off.ext {τ : Hp} : ∀ {L : List (Nat × Obj)}, (names L).Nodup → Off L τ → Ext τ (sets τ L)
  | [], _, _ => .refl τ
  | p :: L, hn, h => by
    have hn := List.nodup_cons.1 (show (p.1 :: names L).Nodup from hn)
    have ih := Off.ext hn.2 (fun b hb => h b (List.mem_cons_of_mem _ hb))
    refine ih.trans (.set ?_)
    rw [sets_not hn.1]
    exact h _ (List.mem_cons_self ..)
theorem Off.set {τ : Hp} {b : Nat} {o : Obj} (h : Off L τ) (hb : b ∉ names L) : Off L (τ.set b o) := fun c hc => by
  have hne : c ≠ b := fun e => hb (e ▸ hc)
  rw [Hp.set_ne hne]; exact h c hc
theorem Off.less {τ τ' : Hp} (hx : Ext τ τ') (h : Off L τ') : Off L τ := fun c hc => ext_none hx (h c hc)
end
theorem Spec.frameL {P : Program} {f : FuncId} {args : Array Value} {τ : Hp} : ∀ {L : List (Nat × Obj)} {R : Ending → Hp → Prop}, (names L).Nodup → Off L τ →
    Spec P f args τ (fun e τ' => Off L τ' → R e (sets τ' L)) → Spec P f args (sets τ L) R
  | [], R, _, _, h => h.mono fun e τ' hr => hr (fun b hb => by cases hb)
  | p :: L, R, hn, ho, h => by
    have hn := List.nodup_cons.1 (show (p.1 :: names L).Nodup from hn)
    refine Spec.frame1 (by rw [sets_not hn.1]; exact ho _ (List.mem_cons_self ..)) ?_
    refine Spec.frameL hn.2 (fun b hb => ho b (List.mem_cons_of_mem _ hb)) (h.mono fun e τ' hr hoff hnone => hr fun b hb => ?_)
    rcases List.mem_cons.1 (show b ∈ p.1 :: names L from hb) with rfl | hb
    · rw [sets_not hn.1] at hnone; exact hnone
    · exact hoff b hb
theorem Eff.frameL {P : Program} {α : Type} {m : Sem α} {τ : Hp} : ∀ {L : List (Nat × Obj)} {Φ : α → Hp → Prop}, (names L).Nodup → Off L τ →
    Eff P m τ (fun v τ' => Off L τ' → Φ v (sets τ' L)) → Eff P m (sets τ L) Φ
  | [], R, _, _, h => h.mono fun e τ' hr => hr (fun b hb => by cases hb)
  | p :: L, R, hn, ho, h => by
    have hn := List.nodup_cons.1 (show (p.1 :: names L).Nodup from hn)
    refine Eff.frame1 (by rw [sets_not hn.1]; exact ho _ (List.mem_cons_self ..)) ?_
    refine Eff.frameL hn.2 (fun b hb => ho b (List.mem_cons_of_mem _ hb)) (h.mono fun e τ' hr hoff hnone => hr fun b hb => ?_)
    rcases List.mem_cons.1 (show b ∈ p.1 :: names L from hb) with rfl | hb
    · rw [sets_not hn.1] at hnone; exact hnone
    · exact hoff b hb
theorem Eff.storeL {P : Program} {τ : Hp} {L : List (Nat × Obj)} {i b n o : Nat} {T t : TypeId} {c c' : Array Value} {v : Value} {Φ : Unit → Hp → Prop} (hz : ∀ w, (Go.sizeOf T).run P w = .ok n w) (hn : (names L).Nodup) (hi : L[i]? = some (b, .cells c t (0, 0)))
    (hv : v.cells.size = n) (hl : Nat.ble (o + n) c.size = true) (h1 : (v.cells.toList.all fun u => u.oneCell') = true) (hc : wrt c o v.cells.toList = c') (h : Φ () (sets τ (L.set i (b, .cells c' t (0, 0))))) :
    Eff P (Instr.storeAt T (.pointer (some ⟨b, o, none⟩)) v) (sets τ L) Φ := by
  subst hc
  refine Eff.store hz (sets_get hn hi) hv (Nat.le_of_ble_eq_true hl) (fun u hu => List.all_eq_true.1 h1 u hu) ?_
  rw [sets_set hn hi]; exact h
theorem ldL {τ : Hp} {L : List (Nat × Obj)} {i b o : Nat} {t : TypeId} {c : Array Value} {v : Value} (hn : (names L).Nodup) (hi : L[i]? = some (b, .cells c t (0, 0))) (h : c[o]? = some v) : Hp.ld (sets τ L) ⟨b, o, none⟩ = some v := by
  simp [Hp.ld, sets_get hn hi, h]
end Tw
end
section
namespace Tw
open Go Go.MapKept
def Hp.off (σ : Hp) (S : List Nat) : Hp := fun b => if b ∈ S then none else σ b
theorem Hp.off_in {σ : Hp} {S : List Nat} {b : Nat} (h : b ∈ S) : σ.off S b = none := by simp [Hp.off, h]
theorem Hp.off_out {σ : Hp} {S : List Nat} {b : Nat} (h : b ∉ S) : σ.off S b = σ b := by simp [Hp.off, h]
theorem Hp.off_some {σ : Hp} {S : List Nat} {b : Nat} {o : Obj} : σ.off S b = some o ↔ b ∉ S ∧ σ b = some o := by
  by_cases h : b ∈ S <;> simp [Hp.off, h]
theorem Hp.off_nil {σ : Hp} : σ.off [] = σ := by funext b; simp [Hp.off]
theorem Ext.of_off (σ : Hp) (S : List Nat) : Ext (σ.off S) σ := fun _ _ h => (Hp.off_some.1 h).2
theorem Ext.off {σ σ' : Hp} (h : Ext σ σ') (S : List Nat) : Ext (σ.off S) (σ'.off S) := fun b o hb => by
  rw [Hp.off_some] at hb ⊢
  exact ⟨hb.1, h b o hb.2⟩
theorem Ext.off_sub {σ : Hp} {S S' : List Nat} (h : ∀ b ∈ S, b ∈ S') : Ext (σ.off S') (σ.off S) := fun b o hb => by
  rw [Hp.off_some] at hb ⊢
  exact ⟨fun hs => hb.1 (h b hs), hb.2⟩
theorem Hp.off_off {σ : Hp} {S S' : List Nat} : (σ.off S).off S' = σ.off (S ++ S') := by
  funext b
  by_cases h : b ∈ S <;> by_cases h' : b ∈ S' <;> simp [Hp.off, h, h']
theorem Hp.off_comm {σ : Hp} {S S' : List Nat} : (σ.off S).off S' = (σ.off S').off S := by
  funext b
  by_cases h : b ∈ S <;> by_cases h' : b ∈ S' <;> simp [Hp.off, h, h']
theorem Hp.set_off {σ : Hp} {S : List Nat} {b : Nat} {o : Obj} (h : b ∈ S) : (σ.set b o).off S = σ.off S := by
  funext k
  by_cases hk : k ∈ S
  · simp [Hp.off, hk]
  · simp only [Hp.off, hk, if_false]
    rw [Hp.set_ne]; intro e; subst e; exact hk h
theorem Hp.off_set {σ : Hp} {S : List Nat} {b : Nat} {o : Obj} (h : b ∉ S) : (σ.set b o).off S = (σ.off S).set b o := by
  funext k
  by_cases hk : k = b
  · subst hk; rw [Hp.off_out h, Hp.set_same, Hp.set_same]
  · rw [Hp.set_ne hk]; by_cases hs : k ∈ S <;> simp [Hp.off, hs, Hp.set_ne hk]
def blk (p : Option Addr) : List Nat := match p with
  | some a => [a.block]
  | none => []
theorem Hp.del_off {σ : Hp} {p : Option Addr} : σ.del p = σ.off (blk p) := by
  funext k
  cases p with
  | none => simp [Hp.del, Hp.off, blk]
  | some a => simp [Hp.del, Hp.off, blk]
theorem Ext.off_of {σ σ' : Hp} {S : List Nat} (h : Ext σ σ') (hS : ∀ b ∈ S, σ b = none) : Ext σ (σ'.off S) := fun b o hb => by
  rw [Hp.off_some]
  exact ⟨fun hs => (by have h2 := hS b hs; rw [hb] at h2; cases h2), h b o hb⟩
theorem Hp.off_none {σ : Hp} {S : List Nat} {b : Nat} (h : σ b = none) : σ.off S b = none := by
  unfold Hp.off; split <;> simp [h]
theorem Ext.set_off {σ : Hp} {S : List Nat} {b : Nat} {o : Obj} (h : b ∈ S) : Ext (σ.off S) ((σ.set b o).off S) := by rw [Hp.set_off h]; exact Ext.refl _
structure Loc (A : Hp → Prop) (σ : Hp) (S : List Nat) : Prop where
  here : A σ
  known : ∀ b ∈ S, σ b ≠ none
  loc : ∀ σ', (∀ b ∈ S, σ' b = σ b) → A σ'
theorem Loc.of {A : Hp → Prop} {σ σ' : Hp} {S : List Nat} (h : Loc A σ S) (hs : ∀ b ∈ S, σ' b = σ b) : Loc A σ' S :=
  ⟨h.loc σ' hs, fun b hb => by rw [hs b hb]; exact h.known b hb, fun σ'' h2 => h.loc σ'' fun b hb => (h2 b hb).trans (hs b hb)⟩
theorem Loc.mono {A : Hp → Prop} {σ σ' : Hp} {S : List Nat} (h : Loc A σ S) (hx : Ext σ σ') : Loc A σ' S := h.of fun b hb => by
  cases hs : σ b with
  | none => exact absurd hs (h.known b hb)
  | some o => exact hx b o hs
theorem Loc.swap {A B : Hp → Prop} {σ : Hp} {S T : List Nat} (h : Loc A σ S) (g : Loc B (σ.off S) T) : Loc A (σ.off T) S ∧ Loc B σ T := by
  have hd : ∀ b ∈ T, b ∉ S := fun b hb hs => g.known b hb (Hp.off_in hs)
  exact ⟨h.of fun b hb => Hp.off_out fun ht => hd b ht hb, g.mono (Ext.of_off _ _)⟩
section
variable {P : Program} {σ : Hp} {α : Type}
theorem Eff.obj {m : Sem α} {b : Nat} {o o' : Obj} {v : α} {Φ : α → Hp → Prop} (hb : σ b = some o) (hm : ∀ w, Sat σ w → ∃ w1 : World, (w1 = w ∨ w1 = w.drew) ∧ m.run P w = .ok v (ChangeMaps.setBlock w1 b o')) (h : Φ v (σ.set b o')) : Eff P m σ Φ := fun w F hs hF => by
  obtain ⟨w1, hw, hrun⟩ := hm w hs
  have hlt : b < w.heap.size := (Array.getElem?_eq_some_iff.1 (hs b o hb)).1
  have hheap : w1.heap = w.heap := by rcases hw with rfl | rfl <;> rfl
  refine ⟨v, _, _, hrun, h, fun k u hk => ?_, fun k hk => ?_, ?_, ?_, ?_⟩
  · simp only [ChangeMaps.setBlock, hheap]
    by_cases hkb : k = b
    · subst hkb; rw [Hp.set_same] at hk; cases hk; simp [hlt]
    · rw [Hp.set_ne hkb] at hk; simp [Ne.symm hkb, hs k u hk]
  · have hkb : k ≠ b := fun e => by have := (hF k hk).2; rw [e, hb] at this; cases this
    refine ⟨by rw [Hp.set_ne hkb]; exact (hF k hk).2, ?_⟩
    simp [ChangeMaps.setBlock, hheap, Ne.symm hkb]
  · rcases hw with rfl | rfl
    · exact .same rfl rfl rfl
    · exact ⟨rfl, rfl, 1, rfl⟩
  · rcases hw with rfl | rfl <;> rfl
  · simp [ChangeMaps.setBlock, hheap]
theorem Eff.new {m : Sem α} {o : Obj} {v : Nat → α} {Φ : α → Hp → Prop} (hm : ∀ w, Sat σ w → m.run P w = .ok (v w.heap.size) (w.alloc o)) (h : ∀ b, σ b = none → Φ (v b) (σ.set b o)) : Eff P m σ Φ := fun w F hs hF =>
  ⟨_, _, _, hm w hs, h _ (hp_fresh hs), Fin.alloc hs hF _ rfl (.same rfl rfl rfl) rfl⟩
class MpT (P : Program) (T : TypeId) (K V : outParam TypeId) : Prop where
  und : P.underlying T = some (.map K V)
  key : P.underlying K = some .string
def MapAt (σ : Hp) (b : Nat) (l : List MapEntry) (clock : Nat) : Prop := σ b = some (.map l.toArray clock) ∧ Stamped l.toArray clock ∧ ∀ x ∈ l, IsKey .string x.key
theorem MapAt.mono {σ σ' : Hp} {b : Nat} {l : List MapEntry} {clock : Nat} (h : MapAt σ b l clock) (hx : Ext σ σ') : MapAt σ' b l clock := ⟨hx _ _ h.1, h.2⟩
theorem MapAt.loc {σ σ' : Hp} {b : Nat} {l : List MapEntry} {clock : Nat} (h : MapAt σ b l clock) (hx : σ' b = σ b) : MapAt σ' b l clock := ⟨hx.trans h.1, h.2⟩
theorem MapAt.nodup {σ : Hp} {b : Nat} {l : List MapEntry} {clock : Nat} (h : MapAt σ b l clock) : (l.map (·.key)).Nodup := h.2.1.2.2
theorem MapAt.borns {σ : Hp} {b : Nat} {l : List MapEntry} {clock : Nat} (h : MapAt σ b l clock) : (l.map (·.born)).Nodup := h.2.1.2.1
theorem find_cases {s : ByteArray} {l : List MapEntry} (hk : ∀ x ∈ l, IsKey .string x.key) :
    (Instr.findNow .string (.string s) l 0 = some none ∧ ∀ x ∈ l, x.key ≠ .string s) ∨ ∃ l1 e l2, l = l1 ++ e :: l2 ∧ e.key = .string s ∧ Instr.findNow .string (.string s) l 0 = some (some (l1.length, e.val)) := by
  rcases findNow_spec (d := .string) (k := .string s) trivial l 0 hk with h | ⟨j, e, h1, h2, h3⟩
  · exact .inl h
  · obtain ⟨hj, rfl⟩ := List.getElem?_eq_some_iff.1 h2
    refine .inr ⟨l.take j, l[j], l.drop (j + 1), ?_, h3, ?_⟩
    · rw [List.getElem_cons_drop, List.take_append_drop]
    · rw [h1]; simp [Nat.min_eq_left (Nat.le_of_lt hj)]
section
variable {T K V ty : TypeId} {b clock : Nat} {l : List MapEntry} {s : ByteArray}
theorem makeMap_eff {Φ : Value → Hp → Prop} (h : ∀ b, σ b = none → Φ (.map (some b)) (σ.set b (.map #[] 0))) : Eff P (Instr.makeMap T none) σ Φ :=
  Eff.new (v := fun b => .map (some b)) (fun w _ => by simp [Instr.makeMap, Result.andThen]) h
theorem MapAt.fresh {b : Nat} {σ : Hp} : MapAt (σ.set b (.map #[] 0)) b [] 0 := ⟨Hp.set_same _ _ _, stamped_empty 0, by simp⟩
theorem lookup_yf [t : MpT P T K V] (hm : MapAt σ b l clock) {z : Value} (hz : ∀ w, (zeroValue V).run P w = .ok z w) {Q : Value → Prop}
    (h0 : (∀ x ∈ l, x.key ≠ .string s) → Q z) (h1 : ∀ l1 e l2, l = l1 ++ e :: l2 → e.key = .string s → Q e.val) : ∃ v, Q v ∧ YF P (Instr.lookup T (.map (some b)) (.string s) false) σ v := by
  rcases find_cases (s := s) hm.2.2 with ⟨hf, hn⟩ | ⟨l1, e, l2, hl, he, hf⟩
  · refine ⟨z, h0 hn, fun w hs => ?_⟩
    have := hs _ _ hm.1
    simp [Instr.lookup, run_underlying t.und, run_getObj_map this, run_checkKey t.key (k := .string s) trivial, run_findKey t.key hf, hz, Result.andThen]
  · refine ⟨e.val, h1 l1 e l2 hl he, fun w hs => ?_⟩
    have := hs _ _ hm.1
    simp [Instr.lookup, run_underlying t.und, run_getObj_map this, run_checkKey t.key (k := .string s) trivial, run_findKey t.key hf, Result.andThen]
theorem lookup_eff [t : MpT P T K V] (hm : MapAt σ b l clock) {z : Value} (hz : ∀ w, (zeroValue V).run P w = .ok z w) {Φ : Value → Hp → Prop}
    (h0 : (∀ x ∈ l, x.key ≠ .string s) → Φ z σ) (h1 : ∀ l1 e l2, l = l1 ++ e :: l2 → e.key = .string s → Φ e.val σ) : Eff P (Instr.lookup T (.map (some b)) (.string s) false) σ Φ := by
  obtain ⟨v, hq, hy⟩ := lookup_yf (T := T) (K := K) (s := s) (Q := fun v => Φ v σ) hm hz h0 h1
  exact Eff.pu hy hq
theorem len_yf [t : MpT P T K V] (hm : MapAt σ b l clock) : YF P (Builtin.len_ #[T] ty #[.map (some b)]) σ (.int .i64 l.length) := fun w hs => by
  have := hs _ _ hm.1
  simp [Builtin.len_, run_underlying t.und, run_getObj_map this, goInt, Result.andThen]
abbrev ent (s : ByteArray) (v : Value) (n : Nat) : MapEntry := { key := .string s, val := v, born := n }
theorem mapUpdate_eff [t : MpT P T K V] (hm : MapAt σ b l clock) {v : Value} {Φ : Unit → Hp → Prop}
    (h0 : (∀ x ∈ l, x.key ≠ .string s) → ∀ σ', σ' = σ.set b (.map (l ++ [ent s v clock]).toArray (clock + 1)) → MapAt σ' b (l ++ [ent s v clock]) (clock + 1) → Φ () σ')
    (h1 : ∀ l1 e l2, l = l1 ++ e :: l2 → e.key = .string s → ∀ σ', σ' = σ.set b (.map (l1 ++ ent s v e.born :: l2).toArray clock) → MapAt σ' b (l1 ++ ent s v e.born :: l2) clock → Φ () σ') :
    Eff P (Instr.mapUpdate T (.map (some b)) (.string s) v) σ Φ := by
  obtain ⟨hb, hst, hk⟩ := hm
  rcases find_cases (s := s) hk with ⟨hf, hn⟩ | ⟨l1, e, l2, hl, he, hf⟩
  · have hpush : (l ++ [ent s v clock]).toArray = l.toArray.push (ent s v clock) := by simp
    refine Eff.obj (v := ()) (o' := .map (l ++ [ent s v clock]).toArray (clock + 1)) hb (fun w hs => ⟨w, .inl rfl, ?_⟩) (h0 hn _ rfl ⟨Hp.set_same _ _ _, ?_, ?_⟩)
    · have := hs _ _ hb
      rw [hpush]
      simp only [Instr.mapUpdate, Sem.run_bind, run_underlying t.und, run_getObj_map this, run_checkKey t.key (k := .string s) trivial, run_findKey t.key hf, Result.andThen_ok]
      simp [setObj, Sem.run, this, ChangeMaps.setBlock]
    · rw [hpush]; exact stamped_push hst (by simpa using hn)
    · intro x hx
      rcases List.mem_append.1 hx with hx | hx
      · exact hk x hx
      · rw [List.mem_singleton] at hx; subst hx; trivial
  · subst hl
    have hmod : (l1 ++ ent s v e.born :: l2).toArray = (l1 ++ e :: l2).toArray.modify l1.length (fun e => { e with key := .string s, val := v }) := by
      rw [← Array.toList_inj]
      apply List.ext_getElem?
      intro j
      simp only [Array.getElem?_toList, Array.getElem?_modify, List.getElem?_toArray]
      by_cases hj : l1.length = j
      · subst hj; simp
      · rw [if_neg hj]
        rcases Nat.lt_or_ge j l1.length with h | h
        · rw [List.getElem?_append_left h, List.getElem?_append_left h]
        · have : ∃ k, j = l1.length + (k + 1) := ⟨j - l1.length - 1, by omega⟩
          obtain ⟨k, rfl⟩ := this
          simp [List.getElem?_append_right]
    have hge : (l1 ++ e :: l2).toArray[l1.length]? = some e := by simp
    refine Eff.obj (v := ()) (o' := .map (l1 ++ ent s v e.born :: l2).toArray clock) hb (fun w hs => ⟨w, .inl rfl, ?_⟩) (h1 l1 e l2 rfl he _ rfl ⟨Hp.set_same _ _ _, ?_, ?_⟩)
    · have := hs _ _ hb
      rw [hmod]
      simp only [Instr.mapUpdate, Sem.run_bind, run_underlying t.und, run_getObj_map this, run_checkKey t.key (k := .string s) trivial, run_findKey t.key hf, Result.andThen_ok, hge, Option.map_some, Option.getD_some, he,
        run_keyThatStays (d := .string) (k := .string s) trivial]
      simp [setObj, Sem.run, this, ChangeMaps.setBlock]
    · rw [hmod]; exact stamped_modify hst _ _ (fun _ _ => rfl) (fun e' _ he' => by rw [hge] at he'; cases he'; exact he.symm)
    · intro x hx
      rcases List.mem_append.1 hx with hx | hx
      · exact hk x (List.mem_append_left _ hx)
      · rcases List.mem_cons.1 hx with rfl | hx
        · trivial
        · exact hk x (List.mem_append_right _ (List.mem_cons_of_mem _ hx))
theorem delete_eff [t : MpT P T K V] (hm : MapAt σ b l clock) {Φ : Value → Hp → Prop}
    (h0 : (∀ x ∈ l, x.key ≠ .string s) → ∀ σ', σ' = σ.set b (.map l.toArray clock) → MapAt σ' b l clock → Φ (.tuple #[]) σ')
    (h1 : ∀ l1 e l2, l = l1 ++ e :: l2 → e.key = .string s → ∀ σ', σ' = σ.set b (.map (l1 ++ l2).toArray clock) → MapAt σ' b (l1 ++ l2) clock → Φ (.tuple #[]) σ') {A : Array TypeId} (hA : A[0]? = some T) :
    Eff P (Builtin.delete_ A ty #[.map (some b), .string s]) σ Φ := by
  obtain ⟨hb, hst, hk⟩ := hm
  rcases find_cases (s := s) hk with ⟨hf, hn⟩ | ⟨l1, e, l2, hl, he, hf⟩
  · refine Eff.obj (v := .tuple #[]) (o' := .map l.toArray clock) hb (fun w hs => ⟨w, .inl rfl, ?_⟩) (h0 hn _ rfl ⟨Hp.set_same _ _ _, hst, hk⟩)
    have := hs _ _ hb
    simp [Builtin.delete_, hA, run_underlying t.und, run_getObj_map this, run_checkKey t.key (k := .string s) trivial, run_findKey t.key hf, Result.andThen, setObj, Sem.run, this, ChangeMaps.setBlock]
  · subst hl
    have hmod : (l1 ++ l2).toArray = (l1 ++ e :: l2).toArray.eraseIdxIfInBounds l1.length := by
      rw [← Array.toList_inj]
      simp [Array.eraseIdxIfInBounds, List.eraseIdx_append_of_length_le]
    refine Eff.obj (v := .tuple #[]) (o' := .map (l1 ++ l2).toArray clock) hb (fun w hs => ⟨w, .inl rfl, ?_⟩) (h1 l1 e l2 rfl he _ rfl ⟨Hp.set_same _ _ _, ?_, ?_⟩)
    · have := hs _ _ hb
      rw [hmod]
      simp only [Builtin.delete_, hA, List.getElem?_toArray, List.getElem?_cons_zero, List.getElem?_cons_succ, Sem.run_bind, run_underlying t.und, run_getObj_map this, run_checkKey t.key (k := .string s) trivial, run_findKey t.key hf, Result.andThen_ok]
      simp [setObj, Sem.run, this, ChangeMaps.setBlock, Result.andThen]
    · rw [hmod]; exact stamped_erase hst _
    · intro x hx
      rcases List.mem_append.1 hx with hx | hx
      · exact hk x (List.mem_append_left _ hx)
      · exact hk x (List.mem_append_right _ (List.mem_cons_of_mem _ hx))
def IterAt (σ : Hp) (i b : Nat) (l L : List MapEntry) (clock : Nat) : Prop :=
  ∃ seen c0, σ i = some (.mapIter (some b) clock seen c0) ∧ clock ≤ c0 ∧ L = (leftOf l.toArray seen).toList
theorem IterAt.loc {σ σ' : Hp} {i b : Nat} {l L : List MapEntry} {clock : Nat} (h : IterAt σ i b l L clock) (hx : σ' i = σ i) : IterAt σ' i b l L clock := by
  obtain ⟨seen, c0, h1, h2⟩ := h
  exact ⟨seen, c0, hx.trans h1, h2⟩
theorem IterAt.mono {σ σ' : Hp} {i b : Nat} {l L : List MapEntry} {clock : Nat} (h : IterAt σ i b l L clock) (hx : Ext σ σ') : IterAt σ' i b l L clock := by
  obtain ⟨seen, c0, h1, h2⟩ := h
  exact ⟨seen, c0, hx _ _ h1, h2⟩
theorem range_eff [t : MpT P T K V] (hm : MapAt σ b l clock) {Φ : Value → Hp → Prop} (h : ∀ i o, σ i = none → IterAt (σ.set i o) i b l l clock → Φ (.pointer (some ⟨i, 0, none⟩)) (σ.set i o)) : Eff P (Instr.range T (.map (some b))) σ Φ :=
  Eff.new (v := fun i => .pointer (some ⟨i, 0, none⟩)) (o := .mapIter (some b) clock #[] clock) (fun w hs => by
    have := hs _ _ hm.1
    simp [Instr.range, run_underlying t.und, run_getObj_map this, Result.andThen]) fun i hi => h i _ hi ⟨#[], clock, Hp.set_same _ _ _, Nat.le_refl _, by simp [leftOf, List.filter_eq_self.2]⟩
theorem left_push {l : List MapEntry} {seen : Array Nat} {x : Nat} : (leftOf l.toArray (seen.push x)).toList = (leftOf l.toArray seen).toList.filter (fun e => e.born != x) := by
  simp only [leftOf, List.filter_toArray, List.filter_filter]
  congr 1
  funext e
  rw [Array.contains_push]
  cases seen.contains e.born <;> cases h : (e.born == x) <;> simp_all [bne]
theorem next_eff (hm : MapAt σ b l clock) {i : Nat} {L : List MapEntry} (hi : IterAt σ i b l L clock) {Φ : Value → Hp → Prop}
    (h0 : L = [] → Φ (.tuple #[.bool false]) σ)
    (h1 : ∀ e ∈ L, e ∈ l → ∀ o, (∀ τ, τ i = some o → IterAt τ i b l (L.filter fun x => x.born != e.born) clock) →
      (∀ τ, τ i = some o → τ b = σ b → ∀ {Ψ : Value → Hp → Prop}, Ψ (.tuple #[e.key, e.val]) τ → Eff P (Instr.entry (.pointer (some ⟨i, 0, none⟩))) τ Ψ) → Φ (.tuple #[.bool true, e.key, e.val]) (σ.set i o)) :
    Eff P (Instr.next (.pointer (some ⟨i, 0, none⟩)) false ty) σ Φ := by
  obtain ⟨seen, c0, hi, hc, rfl⟩ := hi
  obtain ⟨hb, hst, hk⟩ := hm
  have hold : ∀ x ∈ l.toArray.toList, x.born < clock := hst.1
  intro w F hs hF
  rcases run_next_at (P := P) w ty i b clock c0 seen l.toArray clock (hs _ _ hi) (hs _ _ hb) hold hc with ⟨h, hrun⟩ | ⟨e, he, w1, hw1, hrun⟩
  · exact ⟨_, w, σ, hrun, h0 (List.eq_nil_of_length_eq_zero (by simpa using h)), hs, fun k hk => ⟨(hF k hk).2, rfl⟩, .same rfl rfl rfl, rfl, Nat.le_refl _⟩
  · have hel := (mem_left he).1
    have h2 := h1 e he (by simpa using hel) (.mapIter (some b) clock (seen.push e.born) clock) (fun τ hτ => ⟨_, _, hτ, Nat.le_refl _, left_push.symm⟩) (fun τ hτ hτb Ψ hΨ => Eff.pu (fun w' hs' => run_entry_at w' i b clock seen l.toArray clock e (hs' _ _ hτ) (hs' _ _ (hτb.trans hb)) hel hst.2.1) hΨ)
    have hlt : i < w.heap.size := (Array.getElem?_eq_some_iff.1 (hs _ _ hi)).1
    have hheap : w1.heap = w.heap := by rcases hw1 with rfl | rfl <;> rfl
    refine ⟨_, _, _, hrun, h2, fun k u hk => ?_, fun k hk => ?_, ?_, ?_, ?_⟩
    · simp only [ChangeMaps.setBlock, hheap]
      by_cases hkb : k = i
      · subst hkb; rw [Hp.set_same] at hk; cases hk; simp [hlt]
      · rw [Hp.set_ne hkb] at hk; simp [Ne.symm hkb, hs k u hk]
    · have hkb : k ≠ i := fun e => by have := (hF k hk).2; rw [e, hi] at this; cases this
      refine ⟨by rw [Hp.set_ne hkb]; exact (hF k hk).2, ?_⟩
      simp [ChangeMaps.setBlock, hheap, Ne.symm hkb]
    · rcases hw1 with rfl | rfl
      · exact .same rfl rfl rfl
      · exact ⟨rfl, rfl, 1, rfl⟩
    · rcases hw1 with rfl | rfl <;> rfl
    · simp [ChangeMaps.setBlock, hheap]
theorem left_lt {L : List MapEntry} {e : MapEntry} (he : e ∈ L) : (L.filter fun x => x.born != e.born).length < L.length := by
  induction L with
  | nil => cases he
  | cons a L ih =>
    rcases List.mem_cons.1 he with rfl | he
    · simp; exact Nat.lt_succ_of_le (List.length_filter_le _ _)
    · have := ih he
      by_cases h : (a.born != e.born) = true
      · rw [List.filter_cons_of_pos (by simpa using h)]; simpa using this
      · rw [List.filter_cons_of_neg (by simpa using h)]; simp; omega
end
end
end Tw
end
section
set_option linter.unusedVariables false
set_option maxRecDepth 100000
namespace TwW
open Go Tw
noncomputable abbrev prog : Program := Go.Proofs.Tryz.prog
theorem mixed : Go.Proofs.Tryz.prog.follows .mixedOrders = true := by kernel_rfl
instance : SlT Go.Proofs.Tryz.prog 22 23 1 24 := ⟨Go.Proofs.Tryz.underlying22, ⟨Go.Proofs.Tryz.t23, _, by kernel_rfl, rfl, rfl, rfl, rfl⟩, by decide, by decide⟩
instance : SlT Go.Proofs.Tryz.prog 23 5 1 1 := ⟨Go.Proofs.Tryz.underlying23, ⟨Go.Proofs.Tryz.t5, _, by kernel_rfl, rfl, rfl, rfl, rfl⟩, by decide, by decide⟩
instance : SlT Go.Proofs.Tryz.prog 36 9 1 16 := ⟨Go.Proofs.Tryz.underlying36, ⟨Go.Proofs.Tryz.t9, _, by kernel_rfl, rfl, rfl, rfl, rfl⟩, by decide, by decide⟩
instance : SlT Go.Proofs.Tryz.prog 46 4 1 1 := ⟨Go.Proofs.Tryz.underlying46, ⟨Go.Proofs.Tryz.t4, _, by kernel_rfl, rfl, rfl, rfl, rfl⟩, by decide, by decide⟩
instance : SlT Go.Proofs.Tryz.prog 64 3 1 8 := ⟨Go.Proofs.Tryz.underlying64, ⟨Go.Proofs.Tryz.t3, _, by kernel_rfl, rfl, rfl, rfl, rfl⟩, by decide, by decide⟩
end TwW
end
section
/- written by gen.py: program points and what leads to them -/
set_option linter.unusedVariables false
set_option maxRecDepth 100000
namespace TwW
open Go Tw Go.Proofs.Tryz
noncomputable section
namespace disk_New
abbrev fid : Nat := 11
noncomputable def K0 := f11.body.getD .skip
def K1 := cl K0
def K2 := cr K0
def K3 := cl K2
def K4 := cr K2
abbrev gl (R : Ending → Hp → Prop) : Gl := Gl.fn prog 11 4 R
theorem start {R : Ending → Hp → Prop} {σ : Hp} (h : Eff prog (Instr.makeMap 67 none) σ (fun v σ1 => ∃ m1 : Nat, v = (.map (some m1)) ∧ ∀ b3 : Nat, σ1 b3 = none → R (.returned (.pointer (some ⟨b3, 0, none⟩))) (Hp.set σ1 b3 (.cells #[(.map (some m1)), (.bool true), (.bool false), (.int .i64 0), (.int .i64 0), (.int .u64 0)] 69 (0, 0))))) : Spec prog 11 #[] σ R := by
 refine Spec.of_at (fn := f11) (c := K0) func11 (by kernel_rfl) (Nat.le_of_ble_eq_true (by kernel_rfl)) (fun e he => ?_)
 show At (gl R) _ _ _ _
 refine At.s K1 K2 ?_
 refine At.rg 0 [0] ?_
 refine Seq.u 0 (.pointer none) ?_
 refine Seq.done ?_
 refine At.s K3 K4 ?_
 refine At.rg 1 [0, 1, 2, 3] ?_
 refine Seq.o ?_
 refine OpTo.eff (d := (some 1)) (op := (.makeMap 67 none)) (ty := 67) (gd := none) (by kernel_rfl) rfl rfl (Instr.makeMap 67 none) (fun o ho ht => by simp only [execOp, ho]; rfl) (h.mono (fun v σ1 h2 => ?_)); replace h := h2; clear h2
 obtain ⟨m1, rfl, h⟩ := h
 refine Seq.z 2 (.build 69 #[(0, (.tmp 1)), (1, (.const (.bool true)))]) 69 (.agg #[(.map (some m1)), (.bool true), (.bool false), (.int .i64 0), (.int .i64 0), (.int .u64 0)]) (Y.build (vs := [(0, (.map (some m1))), (1, (.bool true))]) rfl (by kernel_rfl)) ?_
 refine Seq.o ?_
 refine OpTo.boxO (T := 69) (d := (some 3)) (ty := 24) (x := (.tmp 2)) (gd := none) (cs := #[(.map (some m1)), (.bool true), (.bool false), (.int .i64 0), (.int .i64 0), (.int .u64 0)]) (by kernel_rfl) rfl rfl rfl (fun b3 hn => ?_)
 replace h := h b3 hn
 refine Seq.u 0 (.pointer (some ⟨b3, 0, none⟩)) ?_
 refine Seq.done ?_
 exact At.rt [.tmp 0] [(.pointer (some ⟨b3, 0, none⟩))] func11 ⟨_, rfl, rfl⟩ h
end disk_New
namespace disk_Disk_List
abbrev fid : Nat := 18
noncomputable def K0 := f18.body.getD .skip
def K1 := cl K0
def K2 := cr K0
def K3 := cl K2
def K4 := cl K3
def K5 := cr K3
def K6 := cl K5
def K7 := cl K6
def K8 := cr K6
def K9 := cr K5
def K10 := cr K2
def K11 := cl K10
def K12 := cr K10
def K13 := cl K12
def K14 := cl K13
def K15 := cr K13
def K16 := cl K15
def K17 := cl K16
def K18 := cl K17
def K19 := cr K17
def K20 := cl K19
def K21 := cl K20
def K22 := cr K20
def K23 := cr K19
def K24 := cl K23
def K25 := cl K24
def K26 := cr K24
def K27 := cl K26
def K28 := cr K26
def K29 := cl K28
def K30 := cr K28
def K31 := cr K12
def K32 := cl K31
def K33 := cr K31
def K34 := cl K33
def K35 := cr K33
abbrev gl (R : Ending → Hp → Prop) : Gl := Gl.fn prog 18 31 R
def pt18 (R : Ending → Hp → Prop) (s1 : ByteArray) (p5 : Option Addr) (n5 c5 : Nat) (v16 : Value) (σ : Hp) : Prop := ∀ (J : Env), At (gl R) [.code K18, .code K19, .inLoop K17, .inBlock 0, .code K31] (upds J [(1, (.string s1)), (5, (.slice p5 n5 c5)), (16, v16)]) [] σ
theorem start {R : Ending → Hp → Prop} {q0 : Option Addr} {s1 : ByteArray} {σ : Hp} (h : ∃ (b8 o8 : Nat), q0 = some ⟨b8, o8, none⟩ ∧ ∃ t10 : Bool, Hp.ld σ ⟨b8, (o8 + 1), none⟩ = some (.bool t10) ∧ (t10 = false → R (.returned (.slice none 0 0)) σ) ∧ (t10 = true → ∃ m15 : Option Nat, Hp.ld σ ⟨b8, o8, none⟩ = some (.map m15) ∧ Eff prog (Instr.range 67 (.map m15)) σ (fun v σ1 => ∃ v16 : Value, v16 = v ∧ pt18 R s1 none 0 0 v16 σ1))) : Spec prog 18 #[(.pointer q0), (.string s1)] σ R := by
 refine Spec.of_at (fn := f18) (c := K0) func18 (by kernel_rfl) (Nat.le_of_ble_eq_true (by kernel_rfl)) (fun e he => ?_)
 refine At.ofL (l := [(0, (.pointer q0)), (1, (.string s1))]) ⟨he 0, he 1, trivial⟩ (fun J => ?_)
 show At (gl R) _ _ _ _
 refine At.s K1 K2 ?_
 refine At.rg 0 [0] ?_
 refine Seq.u 4 (.slice none 0 0) ?_
 refine Seq.done ?_
 refine At.s K3 K10 ?_
 refine At.s K4 K5 ?_
 refine At.rg 1 [0, 1, 2, 3, 4] ?_
 refine Seq.u 7 (.pointer q0) ?_
 obtain ⟨b8, o8, hq, h⟩ := h
 subst hq
 refine Seq.z 8 (.nilCheck (.tmp 7)) 0 (.pointer (some ⟨b8, o8, none⟩)) (Y.nilCheck rfl) ?_
 refine Seq.z 9 (.fieldAddr 69 (.tmp 8) 1) 0 (.pointer (some ⟨b8, (o8 + 1), none⟩)) (Y.fieldAddr (fd := (fieldOf prog 69 1)) underlying69 (by kernel_rfl) sizeOf4 rfl rfl) ?_
 obtain ⟨t10, hl, h⟩ := h
 refine Seq.z 10 (.load 4 (.tmp 9)) 4 (.bool t10) (Y.ld isAgg4 rfl hl) ?_
 refine Seq.u 11 (.bool (!t10)) ?_
 refine Seq.done ?_
 cases hb : (!t10) with
 | true =>
  replace h := h.1 (Tw.nt hb)
  refine At.cT 11 K6 K9 ?_
  refine At.s K7 K8 ?_
  refine At.rg 2 [0] ?_
  refine Seq.u 4 (.slice none 0 0) ?_
  refine Seq.done ?_
  exact At.rt [.tmp 4] [(.slice none 0 0)] func18 ⟨_, rfl, rfl⟩ h
 | false =>
  replace h := h.2 (Tw.nf hb)
  refine At.cF 11 K6 K9 ?_
  refine At.skip ?_
  refine At.s K11 K12 ?_
  refine At.rg 3 [0] ?_
  refine Seq.u 5 (.slice none 0 0) ?_
  refine Seq.done ?_
  refine At.s K13 K31 ?_
  refine At.s K14 K15 ?_
  refine At.rg 4 [0, 1, 2, 3, 4] ?_
  refine Seq.u 12 (.pointer (some ⟨b8, o8, none⟩)) ?_
  refine Seq.z 13 (.nilCheck (.tmp 12)) 0 (.pointer (some ⟨b8, o8, none⟩)) (Y.nilCheck rfl) ?_
  refine Seq.z 14 (.fieldAddr 69 (.tmp 13) 0) 0 (.pointer (some ⟨b8, o8, none⟩)) (Y.fieldAddr (fd := (fieldOf prog 69 0)) underlying69 (by kernel_rfl) sizeOf67 rfl rfl) ?_
  obtain ⟨m15, hl, h⟩ := h
  refine Seq.z 15 (.load 67 (.tmp 14)) 67 (.map m15) (Y.ld isAgg67 rfl hl) ?_
  refine Seq.o ?_
  refine OpTo.eff (d := (some 16)) (op := (.range 67 (.tmp 15))) (ty := 0) (gd := none) (by kernel_rfl) rfl rfl (Instr.range 67 (.map m15)) (fun o ho ht => by simp only [execOp, ho]; rfl) (h.mono (fun v σ1 h2 => ?_)); replace h := h2; clear h2
  obtain ⟨v16, rfl, h⟩ := h
  refine Seq.done ?_
  refine At.b 0 K16 ?_
  refine At.loop (x := K17) (by kernel_rfl) ?_
  refine At.s K18 K19 ?_
  exact At.v [(1, (.string s1)), (5, (.slice none 0 0)), (16, v16)] (h _)
theorem pt18_of {R : Ending → Hp → Prop} {s1 : ByteArray} {p5 : Option Addr} {n5 c5 : Nat} {v16 : Value} {σ : Hp} (h : Eff prog (Instr.next v16 false 0) σ (fun v σ1 => (v = (.tuple #[(.bool false)]) ∧ Spec prog 50 #[(.slice p5 n5 c5)] σ1 (Cont R (fun v_2 σ1_2 => v_2 = (.tuple #[]) ∧ R (.returned (.slice p5 n5 c5)) σ1_2))) ∨ (∃ s17a : ByteArray, ∃ q17b : Option Addr, v = (.tuple #[(.bool true), (.string s17a), (.pointer q17b)]) ∧ Eff prog (Instr.entry v16) σ1 (fun v_2 σ1_2 => ∃ s19a : ByteArray, ∃ q19b : Option Addr, v_2 = (.tuple #[(.string s19a), (.pointer q19b)]) ∧ Spec prog 49 #[(.string s19a), (.string s1)] σ1_2 (Cont R (fun v_3 σ1_3 => ∃ t23 : Bool, v_3 = (.bool t23) ∧ (t23 = true → ∀ b26 : Nat, σ1_3 b26 = none → Eff prog (Builtin.append_ #[36, 36] 36 #[(.slice p5 n5 c5), (.slice (some ⟨b26, 0, none⟩) 1 1)]) (Hp.set σ1_3 b26 (.cells #[(.string s19a)] 9 (0, 0))) (fun v_4 σ1_4 => ∃ p27 : Option Addr, ∃ n27 : Nat, ∃ c27 : Nat, v_4 = (.slice p27 n27 c27) ∧ pt18 R s1 p27 n27 c27 v16 σ1_4)) ∧ (t23 = false → pt18 R s1 p5 n5 c5 v16 σ1_3))))))) : pt18 R s1 p5 n5 c5 v16 σ := by
  intro J
  show At (gl R) _ _ _ _
  refine At.rg 5 [0, 1] ?_
  refine Seq.o ?_
  refine OpTo.eff (d := (some 17)) (op := (.next (.tmp 16) false)) (ty := 0) (gd := none) (by kernel_rfl) rfl rfl (Instr.next v16 false 0) (fun o ho ht => by simp only [execOp, ho, ht]; rfl) (h.mono (fun v σ1 h2 => ?_)); replace h := h2; clear h2
  rcases h with ⟨rfl, h⟩ | ⟨s17a, q17b, rfl, h⟩
  · refine Seq.y (d := (some 18)) (op := (.extract (.tmp 17) 0)) (ty := 4) (v := (.bool false)) (by kernel_rfl) rfl (Y.extract rfl rfl) ?_
    refine Seq.done ?_
    refine At.s K20 K23 ?_
    refine At.cF 18 K21 K22 ?_
    refine At.x 0 [.code K31] ?_
    refine At.s K32 K33 ?_
    refine At.rg 9 [0, 1] ?_
    refine Seq.u 28 (.slice p5 n5 c5) ?_
    refine Seq.o ?_
    refine OpTo.cl (some 29) call50 (h.cont fun v_2 σ1_2 h2 => ?_); replace h := h2; clear h2
    obtain ⟨rfl, h⟩ := h
    refine Seq.done ?_
    refine At.s K34 K35 ?_
    refine At.rg 10 [0, 1] ?_
    refine Seq.us [(30, .slice p5 n5 c5), (4, .slice p5 n5 c5)] ?_
    refine Seq.done ?_
    exact At.rt [.tmp 4] [(.slice p5 n5 c5)] func18 ⟨_, rfl, rfl⟩ h
  · refine Seq.y (d := (some 18)) (op := (.extract (.tmp 17) 0)) (ty := 4) (v := (.bool true)) (by kernel_rfl) rfl (Y.extract rfl rfl) ?_
    refine Seq.done ?_
    refine At.s K20 K23 ?_
    refine At.cT 18 K21 K22 ?_
    refine At.skip ?_
    refine At.b 1 K24 ?_
    refine At.s K25 K26 ?_
    refine At.rg 6 [0, 1, 2] ?_
    refine Seq.o ?_
    refine OpTo.eff (d := (some 19)) (op := (.entry (.tmp 16))) (ty := 0) (gd := none) (by kernel_rfl) rfl rfl (Instr.entry v16) (fun o ho ht => by simp only [execOp, ho]; rfl) (h.mono (fun v_2 σ1_2 h2 => ?_)); replace h := h2; clear h2
    obtain ⟨s19a, q19b, rfl, h⟩ := h
    refine Seq.us [(20, .string s19a), (6, .string s19a)] ?_
    refine Seq.done ?_
    refine At.s K27 K28 ?_
    refine At.rg 7 [0, 1, 2] ?_
    refine Seq.us [(21, .string s19a), (22, .string s1)] ?_
    refine Seq.o ?_
    refine OpTo.cl (some 23) call49 (h.cont fun v_3 σ1_3 h2 => ?_); replace h := h2; clear h2
    obtain ⟨t23, rfl, h⟩ := h
    refine Seq.done ?_
    cases hb : t23 with
    | true =>
      replace h := h.1 hb
      refine At.cT 23 K29 K30 ?_
      refine At.rg 8 [0, 1, 2, 3, 4] ?_
      refine Seq.us [(24, .slice p5 n5 c5), (25, .string s19a)] ?_
      refine Seq.o ?_
      refine OpTo.bslice (T := 36) (E := 9) (m := 1) (ps := #[(0, (.tmp 25))]) (d := (some 26)) (ty := 36) (gd := none) (vs := [(0, (.string s19a))]) (cs := #[(.string s19a)]) underlying36 (by kernel_rfl) rfl rfl rfl (by kernel_rfl) (fun b26 hn => ?_)
      replace h := h b26 hn
      refine Seq.o ?_
      refine OpTo.eff (d := (some 27)) (op := (.call { callee := .builtin .append, args := #[(.tmp 24), (.tmp 26)], argTypes := #[36, 36] })) (ty := 36) (gd := none) (by kernel_rfl) rfl rfl (Builtin.append_ #[36, 36] 36 #[(.slice p5 n5 c5), (.slice (some ⟨b26, 0, none⟩) 1 1)]) (fun o ho ht => exec_b_append rfl rfl o ho ht) (h.mono (fun v_4 σ1_4 h2 => ?_)); replace h := h2; clear h2
      obtain ⟨p27, n27, c27, rfl, h⟩ := h
      refine Seq.u 5 (.slice p27 n27 c27) ?_
      refine Seq.done ?_
      refine At.inBlock ?_
      refine At.inLoop ?_
      refine At.s K18 K19 ?_
      exact At.v [(1, (.string s1)), (5, (.slice p27 n27 c27)), (16, v16)] (h _)
    | false =>
      replace h := h.2 hb
      refine At.cF 23 K29 K30 ?_
      refine At.skip ?_
      refine At.inBlock ?_
      refine At.inLoop ?_
      refine At.s K18 K19 ?_
      exact At.v [(1, (.string s1)), (5, (.slice p5 n5 c5)), (16, v16)] (h _)
end disk_Disk_List
namespace disk_Disk_Append
abbrev fid : Nat := 19
noncomputable def K0 := f19.body.getD .skip
def K1 := cl K0
def K2 := cr K0
def K3 := cl K2
def K4 := cr K2
def K5 := cl K4
def K6 := cr K4
abbrev gl (R : Ending → Hp → Prop) : Gl := Gl.fn prog 19 14 R
theorem start {R : Ending → Hp → Prop} {q0 p2 : Option Addr} {s1 : ByteArray} {n2 c2 : Nat} {σ : Hp} (h : ∀ b3 : Nat, σ b3 = none → ∀ b4 : Nat, (Hp.set σ b3 (.cells #[(.pointer q0)] 24 (0, 0))) b4 = none → ∀ b5 : Nat, (Hp.set (Hp.set σ b3 (.cells #[(.pointer q0)] 24 (0, 0))) b4 (.cells #[(.string s1)] 9 (0, 0))) b5 = none → ∃ q9 : Option Addr, Hp.ld (Hp.set (Hp.set (Hp.set σ b3 (.cells #[(.pointer q0)] 24 (0, 0))) b4 (.cells #[(.string s1)] 9 (0, 0))) b5 (.cells #[(.slice p2 n2 c2)] 23 (0, 0))) ⟨b3, 0, none⟩ = some (.pointer q9) ∧ Spec prog 52 #[(.pointer q9), (.func (.func 53) #[] #[(.pointer (some ⟨b4, 0, none⟩)), (.pointer (some ⟨b3, 0, none⟩)), (.pointer (some ⟨b5, 0, none⟩))]), (.func (.func 51) #[] #[(.pointer (some ⟨b3, 0, none⟩)), (.pointer (some ⟨b4, 0, none⟩)), (.pointer (some ⟨b5, 0, none⟩))]), (.func (.func 51) #[] #[(.pointer (some ⟨b3, 0, none⟩)), (.pointer (some ⟨b4, 0, none⟩)), (.pointer (some ⟨b5, 0, none⟩))])] (Hp.set (Hp.set (Hp.set σ b3 (.cells #[(.pointer q0)] 24 (0, 0))) b4 (.cells #[(.string s1)] 9 (0, 0))) b5 (.cells #[(.slice p2 n2 c2)] 23 (0, 0))) (Cont R (fun v σ1 => ∃ x13 : Int, v = (.int .i64 x13) ∧ R (.returned (.int .i64 x13)) σ1))) : Spec prog 19 #[(.pointer q0), (.string s1), (.slice p2 n2 c2)] σ R := by
 refine Spec.of_at (fn := f19) (c := K0) func19 (by kernel_rfl) (Nat.le_of_ble_eq_true (by kernel_rfl)) (fun e he => ?_)
 refine At.ofL (l := [(0, (.pointer q0)), (1, (.string s1)), (2, (.slice p2 n2 c2))]) ⟨he 0, he 1, he 2, trivial⟩ (fun J => ?_)
 show At (gl R) _ _ _ _
 refine At.s K1 K2 ?_
 refine At.rg 0 [0, 1, 2, 3] ?_
 refine Seq.o ?_
 refine OpTo.boxO (T := 24) (d := (some 3)) (ty := 0) (x := (.tmp 0)) (gd := none) (cs := #[(.pointer q0)]) (by kernel_rfl) rfl rfl rfl (fun b3 hn => ?_)
 replace h := h b3 hn
 refine Seq.o ?_
 refine OpTo.boxO (T := 9) (d := (some 4)) (ty := 0) (x := (.tmp 1)) (gd := none) (cs := #[(.string s1)]) (by kernel_rfl) rfl rfl rfl (fun b4 hn => ?_)
 replace h := h b4 hn
 refine Seq.o ?_
 refine OpTo.boxO (T := 23) (d := (some 5)) (ty := 0) (x := (.tmp 2)) (gd := none) (cs := #[(.slice p2 n2 c2)]) (by kernel_rfl) rfl rfl rfl (fun b5 hn => ?_)
 replace h := h b5 hn
 refine Seq.u 6 (.int .i64 0) ?_
 refine Seq.done ?_
 refine At.s K3 K4 ?_
 refine At.rg 1 [0, 1] ?_
 refine Seq.z 8 (.makeFunc (.func 51) #[] #[(.tmp 3), (.tmp 4), (.tmp 5)]) 1 (.func (.func 51) #[] #[(.pointer (some ⟨b3, 0, none⟩)), (.pointer (some ⟨b4, 0, none⟩)), (.pointer (some ⟨b5, 0, none⟩))]) (Y.makeFunc rfl rfl) ?_
 refine Seq.u 7 (.func (.func 51) #[] #[(.pointer (some ⟨b3, 0, none⟩)), (.pointer (some ⟨b4, 0, none⟩)), (.pointer (some ⟨b5, 0, none⟩))]) ?_
 refine Seq.done ?_
 refine At.s K5 K6 ?_
 refine At.rg 2 [0, 1, 2, 3, 4, 5] ?_
 obtain ⟨q9, hl, h⟩ := h
 refine Seq.z 9 (.load 24 (.tmp 3)) 24 (.pointer q9) (Y.ld isAgg24 rfl hl) ?_
 refine Seq.z 10 (.makeFunc (.func 53) #[] #[(.tmp 4), (.tmp 3), (.tmp 5)]) 33 (.func (.func 53) #[] #[(.pointer (some ⟨b4, 0, none⟩)), (.pointer (some ⟨b3, 0, none⟩)), (.pointer (some ⟨b5, 0, none⟩))]) (Y.makeFunc rfl rfl) ?_
 refine Seq.us [(11, .func (.func 51) #[] #[(.pointer (some ⟨b3, 0, none⟩)), (.pointer (some ⟨b4, 0, none⟩)), (.pointer (some ⟨b5, 0, none⟩))]), (12, .func (.func 51) #[] #[(.pointer (some ⟨b3, 0, none⟩)), (.pointer (some ⟨b4, 0, none⟩)), (.pointer (some ⟨b5, 0, none⟩))])] ?_
 refine Seq.o ?_
 refine OpTo.cl (some 13) call52 (h.cont fun v σ1 h2 => ?_); replace h := h2; clear h2
 obtain ⟨x13, rfl, h⟩ := h
 refine Seq.u 6 (.int .i64 x13) ?_
 refine Seq.done ?_
 exact At.rt [.tmp 6] [(.int .i64 x13)] func19 ⟨_, rfl, rfl⟩ h
end disk_Disk_Append
namespace disk_Disk_Arm
abbrev fid : Nat := 26
noncomputable def K0 := f26.body.getD .skip
abbrev gl (R : Ending → Hp → Prop) : Gl := Gl.fn prog 26 19 R
theorem start {R : Ending → Hp → Prop} {q0 : Option Addr} {x1 x2 : Int} {σ : Hp} (h : ∃ (b13 o13 : Nat), q0 = some ⟨b13, o13, none⟩ ∧ Eff prog (Instr.storeAt 4 (.pointer (some ⟨b13, (o13 + 2), none⟩)) (.bool (decide ((0 : Int) ≤ x1)))) σ (fun _ σ1 => Eff prog (Instr.storeAt 3 (.pointer (some ⟨b13, (o13 + 3), none⟩)) (.int .i64 x1)) σ1 (fun _ σ1_2 => Eff prog (Instr.storeAt 3 (.pointer (some ⟨b13, (o13 + 4), none⟩)) (.int .i64 x2)) σ1_2 (fun _ σ1_3 => R (.returned (.tuple #[])) σ1_3)))) : Spec prog 26 #[(.pointer q0), (.int .i64 x1), (.int .i64 x2)] σ R := by
 refine Spec.of_at (fn := f26) (c := K0) func26 (by kernel_rfl) (Nat.le_of_ble_eq_true (by kernel_rfl)) (fun e he => ?_)
 refine At.ofL (l := [(0, (.pointer q0)), (1, (.int .i64 x1)), (2, (.int .i64 x2))]) ⟨he 0, he 1, he 2, trivial⟩ (fun J => ?_)
 show At (gl R) _ _ _ _
 refine At.rg 0 [0, 1, 2, 3, 4, 5, 6, 7, 8, 9, 10, 11, 12, 13, 14, 15] ?_
 refine Seq.us [(6, .pointer q0), (7, .pointer q0), (8, .pointer q0), (9, .int .i64 x1), (10, .bool (decide ((0 : Int) ≤ x1))), (11, .int .i64 x1), (12, .int .i64 x2)] ?_
 obtain ⟨b13, o13, hq, h⟩ := h
 subst hq
 refine Seq.z 13 (.nilCheck (.tmp 6)) 0 (.pointer (some ⟨b13, o13, none⟩)) (Y.nilCheck rfl) ?_
 refine Seq.z 14 (.fieldAddr 69 (.tmp 13) 2) 0 (.pointer (some ⟨b13, (o13 + 2), none⟩)) (Y.fieldAddr (fd := (fieldOf prog 69 2)) underlying69 (by kernel_rfl) sizeOf4 rfl rfl) ?_
 refine Seq.o ?_
 refine OpTo.store (T := 4) (ty := 0) (x := (.tmp 14)) (y := (.tmp 10)) (p := (.pointer (some ⟨b13, (o13 + 2), none⟩))) (v := (.bool (decide ((0 : Int) ≤ x1)))) (gd := none) (by kernel_rfl) rfl rfl rfl (h.mono (fun _ σ1 h2 => ?_)); replace h := h2; clear h2
 refine Seq.z 15 (.nilCheck (.tmp 7)) 0 (.pointer (some ⟨b13, o13, none⟩)) (Y.nilCheck rfl) ?_
 refine Seq.z 16 (.fieldAddr 69 (.tmp 15) 3) 0 (.pointer (some ⟨b13, (o13 + 3), none⟩)) (Y.fieldAddr (fd := (fieldOf prog 69 3)) underlying69 (by kernel_rfl) sizeOf3 rfl rfl) ?_
 refine Seq.o ?_
 refine OpTo.store (T := 3) (ty := 0) (x := (.tmp 16)) (y := (.tmp 11)) (p := (.pointer (some ⟨b13, (o13 + 3), none⟩))) (v := (.int .i64 x1)) (gd := none) (by kernel_rfl) rfl rfl rfl (h.mono (fun _ σ1_2 h2 => ?_)); replace h := h2; clear h2
 refine Seq.z 17 (.nilCheck (.tmp 8)) 0 (.pointer (some ⟨b13, o13, none⟩)) (Y.nilCheck rfl) ?_
 refine Seq.z 18 (.fieldAddr 69 (.tmp 17) 4) 0 (.pointer (some ⟨b13, (o13 + 4), none⟩)) (Y.fieldAddr (fd := (fieldOf prog 69 4)) underlying69 (by kernel_rfl) sizeOf3 rfl rfl) ?_
 refine Seq.o ?_
 refine OpTo.store (T := 3) (ty := 0) (x := (.tmp 18)) (y := (.tmp 12)) (p := (.pointer (some ⟨b13, (o13 + 4), none⟩))) (v := (.int .i64 x2)) (gd := none) (by kernel_rfl) rfl rfl rfl (h.mono (fun _ σ1_3 h2 => ?_)); replace h := h2; clear h2
 refine Seq.done ?_
 exact At.doneV (rs := []) (vs := []) func26 (by kernel_rfl) rfl h
end disk_Disk_Arm
namespace disk_Disk_Up
abbrev fid : Nat := 27
noncomputable def K0 := f27.body.getD .skip
def K1 := cl K0
def K2 := cr K0
def K3 := cl K2
def K4 := cr K2
abbrev gl (R : Ending → Hp → Prop) : Gl := Gl.fn prog 27 7 R
theorem start {R : Ending → Hp → Prop} {q0 : Option Addr} {σ : Hp} (h : ∃ (b4 o4 : Nat), q0 = some ⟨b4, o4, none⟩ ∧ ∃ t6 : Bool, Hp.ld σ ⟨b4, (o4 + 1), none⟩ = some (.bool t6) ∧ R (.returned (.bool t6)) σ) : Spec prog 27 #[(.pointer q0)] σ R := by
 refine Spec.of_at (fn := f27) (c := K0) func27 (by kernel_rfl) (Nat.le_of_ble_eq_true (by kernel_rfl)) (fun e he => ?_)
 refine At.ofL (l := [(0, (.pointer q0))]) ⟨he 0, trivial⟩ (fun J => ?_)
 show At (gl R) _ _ _ _
 refine At.s K1 K2 ?_
 refine At.rg 0 [0] ?_
 refine Seq.u 2 (.bool false) ?_
 refine Seq.done ?_
 refine At.s K3 K4 ?_
 refine At.rg 1 [0, 1, 2, 3, 4] ?_
 refine Seq.u 3 (.pointer q0) ?_
 obtain ⟨b4, o4, hq, h⟩ := h
 subst hq
 refine Seq.z 4 (.nilCheck (.tmp 3)) 0 (.pointer (some ⟨b4, o4, none⟩)) (Y.nilCheck rfl) ?_
 refine Seq.z 5 (.fieldAddr 69 (.tmp 4) 1) 0 (.pointer (some ⟨b4, (o4 + 1), none⟩)) (Y.fieldAddr (fd := (fieldOf prog 69 1)) underlying69 (by kernel_rfl) sizeOf4 rfl rfl) ?_
 obtain ⟨t6, hl, h⟩ := h
 refine Seq.z 6 (.load 4 (.tmp 5)) 4 (.bool t6) (Y.ld isAgg4 rfl hl) ?_
 refine Seq.u 2 (.bool t6) ?_
 refine Seq.done ?_
 exact At.rt [.tmp 2] [(.bool t6)] func27 ⟨_, rfl, rfl⟩ h
end disk_Disk_Up
namespace disk_Disk_Off
abbrev fid : Nat := 28
noncomputable def K0 := f28.body.getD .skip
def K1 := cl K0
def K2 := cr K0
def K3 := cl K2
def K4 := cr K2
abbrev gl (R : Ending → Hp → Prop) : Gl := Gl.fn prog 28 11 R
theorem start {R : Ending → Hp → Prop} {q0 : Option Addr} {x1 : Int} {σ : Hp} (h : ∃ (b5 o5 : Nat), q0 = some ⟨b5, o5, none⟩ ∧ ∃ t7 : Bool, Hp.ld σ ⟨b5, (o5 + 1), none⟩ = some (.bool t7) ∧ (t7 = true → Spec prog 57 #[(.pointer (some ⟨b5, o5, none⟩)), (.int .i64 x1)] σ (Cont R (fun v σ1 => v = (.tuple #[]) ∧ R (.returned (.tuple #[])) σ1))) ∧ (t7 = false → R (.returned (.tuple #[])) σ)) : Spec prog 28 #[(.pointer q0), (.int .i64 x1)] σ R := by
 refine Spec.of_at (fn := f28) (c := K0) func28 (by kernel_rfl) (Nat.le_of_ble_eq_true (by kernel_rfl)) (fun e he => ?_)
 refine At.ofL (l := [(0, (.pointer q0)), (1, (.int .i64 x1))]) ⟨he 0, he 1, trivial⟩ (fun J => ?_)
 show At (gl R) _ _ _ _
 refine At.s K1 K2 ?_
 refine At.rg 0 [0, 1, 2, 3] ?_
 refine Seq.u 4 (.pointer q0) ?_
 obtain ⟨b5, o5, hq, h⟩ := h
 subst hq
 refine Seq.z 5 (.nilCheck (.tmp 4)) 0 (.pointer (some ⟨b5, o5, none⟩)) (Y.nilCheck rfl) ?_
 refine Seq.z 6 (.fieldAddr 69 (.tmp 5) 1) 0 (.pointer (some ⟨b5, (o5 + 1), none⟩)) (Y.fieldAddr (fd := (fieldOf prog 69 1)) underlying69 (by kernel_rfl) sizeOf4 rfl rfl) ?_
 obtain ⟨t7, hl, h⟩ := h
 refine Seq.z 7 (.load 4 (.tmp 6)) 4 (.bool t7) (Y.ld isAgg4 rfl hl) ?_
 refine Seq.done ?_
 cases hb : t7 with
 | true =>
  replace h := h.1 hb
  refine At.cT 7 K3 K4 ?_
  refine At.rg 1 [0, 1, 2] ?_
  refine Seq.us [(8, .pointer (some ⟨b5, o5, none⟩)), (9, .int .i64 x1)] ?_
  refine Seq.o ?_
  refine OpTo.cl (some 10) call57 (h.cont fun v σ1 h2 => ?_); replace h := h2; clear h2
  obtain ⟨rfl, h⟩ := h
  refine Seq.done ?_
  exact At.doneV (rs := []) (vs := []) func28 (by kernel_rfl) rfl h
 | false =>
  replace h := h.2 hb
  refine At.cF 7 K3 K4 ?_
  refine At.skip ?_
  exact At.doneV (rs := []) (vs := []) func28 (by kernel_rfl) rfl h
end disk_Disk_Off
namespace disk_Disk_On
abbrev fid : Nat := 29
noncomputable def K0 := f29.body.getD .skip
abbrev gl (R : Ending → Hp → Prop) : Gl := Gl.fn prog 29 5 R
theorem start {R : Ending → Hp → Prop} {q0 : Option Addr} {σ : Hp} (h : ∃ (b3 o3 : Nat), q0 = some ⟨b3, o3, none⟩ ∧ Eff prog (Instr.storeAt 4 (.pointer (some ⟨b3, (o3 + 1), none⟩)) (.bool true)) σ (fun _ σ1 => R (.returned (.tuple #[])) σ1)) : Spec prog 29 #[(.pointer q0)] σ R := by
 refine Spec.of_at (fn := f29) (c := K0) func29 (by kernel_rfl) (Nat.le_of_ble_eq_true (by kernel_rfl)) (fun e he => ?_)
 refine At.ofL (l := [(0, (.pointer q0))]) ⟨he 0, trivial⟩ (fun J => ?_)
 show At (gl R) _ _ _ _
 refine At.rg 0 [0, 1, 2, 3] ?_
 refine Seq.u 2 (.pointer q0) ?_
 obtain ⟨b3, o3, hq, h⟩ := h
 subst hq
 refine Seq.z 3 (.nilCheck (.tmp 2)) 0 (.pointer (some ⟨b3, o3, none⟩)) (Y.nilCheck rfl) ?_
 refine Seq.z 4 (.fieldAddr 69 (.tmp 3) 1) 0 (.pointer (some ⟨b3, (o3 + 1), none⟩)) (Y.fieldAddr (fd := (fieldOf prog 69 1)) underlying69 (by kernel_rfl) sizeOf4 rfl rfl) ?_
 refine Seq.o ?_
 refine OpTo.store (T := 4) (ty := 0) (x := (.tmp 4)) (y := (.const (.bool true))) (p := (.pointer (some ⟨b3, (o3 + 1), none⟩))) (v := (.bool true)) (gd := none) (by kernel_rfl) rfl rfl rfl (h.mono (fun _ σ1 h2 => ?_)); replace h := h2; clear h2
 refine Seq.done ?_
 exact At.doneV (rs := []) (vs := []) func29 (by kernel_rfl) rfl h
end disk_Disk_On
namespace disk_Name
abbrev fid : Nat := 36
noncomputable def K0 := f36.body.getD .skip
def K1 := cl K0
def K2 := cr K0
def K3 := cl K2
def K4 := cl K3
def K5 := cr K3
def K6 := cl K5
def K7 := cl K6
def K8 := cr K6
def K9 := cr K5
def K10 := cr K2
def K11 := cl K10
def K12 := cl K11
def K13 := cr K11
def K14 := cl K13
def K15 := cl K14
def K16 := cl K15
def K17 := cl K16
def K18 := cr K16
def K19 := cl K18
def K20 := cr K18
def K21 := cr K15
def K22 := cl K21
def K23 := cl K22
def K24 := cl K23
def K25 := cr K23
def K26 := cl K25
def K27 := cr K25
def K28 := cl K27
def K29 := cl K28
def K30 := cr K28
def K31 := cr K27
def K32 := cr K21
def K33 := cr K10
def K34 := cl K33
def K35 := cr K33
abbrev gl (R : Ending → Hp → Prop) : Gl := Gl.fn prog 36 47 R
def pt17 (R : Ending → Hp → Prop) (s0 : ByteArray) (x3 : Int) (σ : Hp) : Prop := ∀ (J : Env), At (gl R) [.code K17, .code K18, .code K21, .inLoop K15, .inBlock 0, .code K33] (upds J [(0, (.string s0)), (3, (.int .i64 x3))]) [] σ
theorem start {R : Ending → Hp → Prop} {s0 : ByteArray} {σ : Hp} (h : ((ByteArray.toList s0 == ByteArray.toList (ByteArray.mk #[])) = true → R (.returned (.bool false)) σ) ∧ ((ByteArray.toList s0 == ByteArray.toList (ByteArray.mk #[])) = false → ((64 : Int) < ((ByteArray.size s0 : Nat) : Int) → R (.returned (.bool false)) σ) ∧ (¬ ((64 : Int) < ((ByteArray.size s0 : Nat) : Int)) → pt17 R s0 0 σ))) : Spec prog 36 #[(.string s0)] σ R := by
 refine Spec.of_at (fn := f36) (c := K0) func36 (by kernel_rfl) (Nat.le_of_ble_eq_true (by kernel_rfl)) (fun e he => ?_)
 refine At.ofL (l := [(0, (.string s0))]) ⟨he 0, trivial⟩ (fun J => ?_)
 show At (gl R) _ _ _ _
 refine At.s K1 K2 ?_
 refine At.rg 0 [0] ?_
 refine Seq.u 2 (.bool false) ?_
 refine Seq.done ?_
 refine At.s K3 K10 ?_
 refine At.s K4 K5 ?_
 refine At.rg 1 [0, 1, 2, 3, 4, 5, 6] ?_
 refine Seq.u 5 (.string s0) ?_
 refine Seq.z 6 (.binOp .eql 9 (.tmp 5) (.const (.string (ByteArray.mk #[]))) 9) 4 (.bool (ByteArray.toList s0 == ByteArray.toList (ByteArray.mk #[]))) (Y.eqlS underlying9 rfl rfl) ?_
 refine Seq.u 7 (.bool (ByteArray.toList s0 == ByteArray.toList (ByteArray.mk #[]))) ?_
 cases hb : (ByteArray.toList s0 == ByteArray.toList (ByteArray.mk #[])) with
 | true =>
  replace h := h.1 hb
  refine Seq.n 8 ?_
  refine Seq.n 9 ?_
  refine Seq.n 10 ?_
  refine Seq.u 11 (.bool true) ?_
  refine Seq.done ?_
  refine At.cT 11 K6 K9 ?_
  refine At.s K7 K8 ?_
  refine At.rg 2 [0] ?_
  refine Seq.u 2 (.bool false) ?_
  refine Seq.done ?_
  exact At.rt [.tmp 2] [(.bool false)] func36 ⟨_, rfl, rfl⟩ h
 | false =>
  replace h := h.2 hb
  refine Seq.u 8 (.string s0) ?_
  refine Seq.zg 9 (.call { callee := .builtin .len, args := #[(.tmp 8)], argTypes := #[9] }) 3 (2, false) (.int .i64 ((ByteArray.size s0 : Nat) : Int)) (Y.lenStr underlying9 rfl rfl) ?_
  refine Seq.us [(10, .bool (decide ((64 : Int) < ((ByteArray.size s0 : Nat) : Int)))), (11, .bool (decide ((64 : Int) < ((ByteArray.size s0 : Nat) : Int))))] ?_
  refine Seq.done ?_
  cases hb : (decide ((64 : Int) < ((ByteArray.size s0 : Nat) : Int))) with
  | true =>
   replace h := h.1 (of_decide_eq_true hb)
   refine At.cT 11 K6 K9 ?_
   refine At.s K7 K8 ?_
   refine At.rg 2 [0] ?_
   refine Seq.u 2 (.bool false) ?_
   refine Seq.done ?_
   exact At.rt [.tmp 2] [(.bool false)] func36 ⟨_, rfl, rfl⟩ h
  | false =>
   replace h := h.2 (of_decide_eq_false hb)
   refine At.cF 11 K6 K9 ?_
   refine At.skip ?_
   refine At.s K11 K33 ?_
   refine At.s K12 K13 ?_
   refine At.rg 3 [0] ?_
   refine Seq.u 3 (.int .i64 0) ?_
   refine Seq.done ?_
   refine At.b 0 K14 ?_
   refine At.loop (x := K15) (by kernel_rfl) ?_
   refine At.s K16 K21 ?_
   refine At.s K17 K18 ?_
   exact At.v [(0, (.string s0)), (3, (.int .i64 0))] (h _)
theorem pt17_of {R : Ending → Hp → Prop} {s0 : ByteArray} {x3 : Int} {σ : Hp} (h : ((x3 : Int) < ((ByteArray.size s0 : Nat) : Int) → ∃ u20 : UInt8, (0 : Int) ≤ x3 ∧ (ByteArray.data s0)[Int.toNat x3]? = some u20 ∧ ((((UInt8.toNat u20 : Nat) : Int) : Int) < 97 → ((((UInt8.toNat u20 : Nat) : Int) : Int) < 48 → ((((UInt8.toNat u20 : Nat) : Int) : Int) ≠ 47 → ((((UInt8.toNat u20 : Nat) : Int) : Int) ≠ 46 → ((((UInt8.toNat u20 : Nat) : Int) : Int) ≠ 45 → R (.returned (.bool false)) σ) ∧ (¬ ((((UInt8.toNat u20 : Nat) : Int) : Int) ≠ 45) → I64 (x3 + 1) ∧ pt17 R s0 ((x3 + 1)) σ)) ∧ (¬ ((((UInt8.toNat u20 : Nat) : Int) : Int) ≠ 46) → I64 (x3 + 1) ∧ pt17 R s0 ((x3 + 1)) σ)) ∧ (¬ ((((UInt8.toNat u20 : Nat) : Int) : Int) ≠ 47) → I64 (x3 + 1) ∧ pt17 R s0 ((x3 + 1)) σ)) ∧ (¬ ((((UInt8.toNat u20 : Nat) : Int) : Int) < 48) → ((57 : Int) < ((UInt8.toNat u20 : Nat) : Int) → ((((UInt8.toNat u20 : Nat) : Int) : Int) ≠ 47 → ((((UInt8.toNat u20 : Nat) : Int) : Int) ≠ 46 → ((((UInt8.toNat u20 : Nat) : Int) : Int) ≠ 45 → R (.returned (.bool false)) σ) ∧ (¬ ((((UInt8.toNat u20 : Nat) : Int) : Int) ≠ 45) → I64 (x3 + 1) ∧ pt17 R s0 ((x3 + 1)) σ)) ∧ (¬ ((((UInt8.toNat u20 : Nat) : Int) : Int) ≠ 46) → I64 (x3 + 1) ∧ pt17 R s0 ((x3 + 1)) σ)) ∧ (¬ ((((UInt8.toNat u20 : Nat) : Int) : Int) ≠ 47) → I64 (x3 + 1) ∧ pt17 R s0 ((x3 + 1)) σ)) ∧ (¬ ((57 : Int) < ((UInt8.toNat u20 : Nat) : Int)) → I64 (x3 + 1) ∧ pt17 R s0 ((x3 + 1)) σ))) ∧ (¬ ((((UInt8.toNat u20 : Nat) : Int) : Int) < 97) → ((122 : Int) < ((UInt8.toNat u20 : Nat) : Int) → ((((UInt8.toNat u20 : Nat) : Int) : Int) < 48 → ((((UInt8.toNat u20 : Nat) : Int) : Int) ≠ 47 → ((((UInt8.toNat u20 : Nat) : Int) : Int) ≠ 46 → ((((UInt8.toNat u20 : Nat) : Int) : Int) ≠ 45 → R (.returned (.bool false)) σ) ∧ (¬ ((((UInt8.toNat u20 : Nat) : Int) : Int) ≠ 45) → I64 (x3 + 1) ∧ pt17 R s0 ((x3 + 1)) σ)) ∧ (¬ ((((UInt8.toNat u20 : Nat) : Int) : Int) ≠ 46) → I64 (x3 + 1) ∧ pt17 R s0 ((x3 + 1)) σ)) ∧ (¬ ((((UInt8.toNat u20 : Nat) : Int) : Int) ≠ 47) → I64 (x3 + 1) ∧ pt17 R s0 ((x3 + 1)) σ)) ∧ (¬ ((((UInt8.toNat u20 : Nat) : Int) : Int) < 48) → ((57 : Int) < ((UInt8.toNat u20 : Nat) : Int) → ((((UInt8.toNat u20 : Nat) : Int) : Int) ≠ 47 → ((((UInt8.toNat u20 : Nat) : Int) : Int) ≠ 46 → ((((UInt8.toNat u20 : Nat) : Int) : Int) ≠ 45 → R (.returned (.bool false)) σ) ∧ (¬ ((((UInt8.toNat u20 : Nat) : Int) : Int) ≠ 45) → I64 (x3 + 1) ∧ pt17 R s0 ((x3 + 1)) σ)) ∧ (¬ ((((UInt8.toNat u20 : Nat) : Int) : Int) ≠ 46) → I64 (x3 + 1) ∧ pt17 R s0 ((x3 + 1)) σ)) ∧ (¬ ((((UInt8.toNat u20 : Nat) : Int) : Int) ≠ 47) → I64 (x3 + 1) ∧ pt17 R s0 ((x3 + 1)) σ)) ∧ (¬ ((57 : Int) < ((UInt8.toNat u20 : Nat) : Int)) → I64 (x3 + 1) ∧ pt17 R s0 ((x3 + 1)) σ))) ∧ (¬ ((122 : Int) < ((UInt8.toNat u20 : Nat) : Int)) → I64 (x3 + 1) ∧ pt17 R s0 ((x3 + 1)) σ))) ∧ (¬ ((x3 : Int) < ((ByteArray.size s0 : Nat) : Int)) → R (.returned (.bool true)) σ)) : pt17 R s0 x3 σ := by
 intro J
 show At (gl R) _ _ _ _
 refine At.rg 4 [0, 1, 2, 3] ?_
 refine Seq.us [(12, .int .i64 x3), (13, .string s0)] ?_
 refine Seq.z 14 (.call { callee := .builtin .len, args := #[(.tmp 13)], argTypes := #[9] }) 3 (.int .i64 ((ByteArray.size s0 : Nat) : Int)) (Y.lenStr underlying9 rfl rfl) ?_
 refine Seq.u 15 (.bool (decide ((x3 : Int) < ((ByteArray.size s0 : Nat) : Int)))) ?_
 refine Seq.done ?_
 cases hb : (decide ((x3 : Int) < ((ByteArray.size s0 : Nat) : Int))) with
 | true =>
  replace h := h.1 (of_decide_eq_true hb)
  refine At.cT 15 K19 K20 ?_
  refine At.skip ?_
  refine At.s K22 K32 ?_
  refine At.b 1 K23 ?_
  refine At.s K24 K25 ?_
  refine At.rg 6 [0, 1, 2, 3] ?_
  refine Seq.us [(18, .string s0), (19, .int .i64 x3)] ?_
  obtain ⟨u20, h0, hv, h⟩ := h
  refine Seq.z 20 (.index 9 (.tmp 18) (.tmp 19)) 5 (.int .u8 ((UInt8.toNat u20 : Nat) : Int)) (Y.idxStr underlying9 rfl rfl h0 hv) ?_
  refine Seq.u 4 (.int .u8 ((UInt8.toNat u20 : Nat) : Int)) ?_
  refine Seq.done ?_
  refine At.s K26 K27 ?_
  refine At.rg 7 [0, 1, 2, 3, 4, 5, 6, 7, 8, 9, 10, 11, 12, 13, 14, 15, 16, 17, 18, 19, 20, 21, 22, 23, 24, 25] ?_
  refine Seq.us [(21, .int .u8 ((UInt8.toNat u20 : Nat) : Int)), (22, .bool (decide ((((UInt8.toNat u20 : Nat) : Int) : Int) < 97))), (23, .bool (decide ((((UInt8.toNat u20 : Nat) : Int) : Int) < 97)))] ?_
  cases hb : (decide ((((UInt8.toNat u20 : Nat) : Int) : Int) < 97)) with
  | true =>
   replace h := h.1 (of_decide_eq_true hb)
   refine Seq.n 24 ?_
   refine Seq.n 25 ?_
   refine Seq.us [(26, .bool true), (27, .bool true), (28, .int .u8 ((UInt8.toNat u20 : Nat) : Int)), (29, .bool (decide ((((UInt8.toNat u20 : Nat) : Int) : Int) < 48))), (30, .bool (decide ((((UInt8.toNat u20 : Nat) : Int) : Int) < 48)))] ?_
   cases hb : (decide ((((UInt8.toNat u20 : Nat) : Int) : Int) < 48)) with
   | true =>
    replace h := h.1 (of_decide_eq_true hb)
    refine Seq.n 31 ?_
    refine Seq.n 32 ?_
    refine Seq.us [(33, .bool true), (34, .bool true), (35, .bool true), (36, .int .u8 ((UInt8.toNat u20 : Nat) : Int)), (37, .bool (decide ((((UInt8.toNat u20 : Nat) : Int) : Int) ≠ 47))), (38, .bool (decide ((((UInt8.toNat u20 : Nat) : Int) : Int) ≠ 47))), (39, .bool (decide ((((UInt8.toNat u20 : Nat) : Int) : Int) ≠ 47)))] ?_
    cases hb : (decide ((((UInt8.toNat u20 : Nat) : Int) : Int) ≠ 47)) with
    | true =>
     replace h := h.1 (of_decide_eq_true hb)
     refine Seq.us [(40, .int .u8 ((UInt8.toNat u20 : Nat) : Int)), (41, .bool (decide ((((UInt8.toNat u20 : Nat) : Int) : Int) ≠ 46))), (42, .bool (decide ((((UInt8.toNat u20 : Nat) : Int) : Int) ≠ 46))), (43, .bool (decide ((((UInt8.toNat u20 : Nat) : Int) : Int) ≠ 46)))] ?_
     cases hb : (decide ((((UInt8.toNat u20 : Nat) : Int) : Int) ≠ 46)) with
     | true =>
      replace h := h.1 (of_decide_eq_true hb)
      refine Seq.us [(44, .int .u8 ((UInt8.toNat u20 : Nat) : Int)), (45, .bool (decide ((((UInt8.toNat u20 : Nat) : Int) : Int) ≠ 45))), (46, .bool (decide ((((UInt8.toNat u20 : Nat) : Int) : Int) ≠ 45)))] ?_
      refine Seq.done ?_
      cases hb : (decide ((((UInt8.toNat u20 : Nat) : Int) : Int) ≠ 45)) with
      | true =>
       replace h := h.1 (of_decide_eq_true hb)
       refine At.cT 46 K28 K31 ?_
       refine At.s K29 K30 ?_
       refine At.rg 8 [0] ?_
       refine Seq.u 2 (.bool false) ?_
       refine Seq.done ?_
       exact At.rt [.tmp 2] [(.bool false)] func36 ⟨_, rfl, rfl⟩ h
      | false =>
       replace h := h.2 (of_decide_eq_false hb)
       refine At.cF 46 K28 K31 ?_
       refine At.skip ?_
       refine At.inBlock ?_
       refine At.rg 5 [0, 1, 2] ?_
       refine Seq.u 16 (.int .i64 x3) ?_
       obtain ⟨hi, h⟩ := h
       refine Seq.z 17 (.binOp .add 3 (.tmp 16) (.const (.int .i64 1)) 3) 3 (.int .i64 (x3 + 1)) (Y.addI hi rfl rfl) ?_
       refine Seq.u 3 (.int .i64 (x3 + 1)) ?_
       refine Seq.done ?_
       refine At.inLoop ?_
       refine At.s K16 K21 ?_
       refine At.s K17 K18 ?_
       exact At.v [(0, (.string s0)), (3, (.int .i64 (x3 + 1)))] (h _)
     | false =>
      replace h := h.2 (of_decide_eq_false hb)
      refine Seq.n 44 ?_
      refine Seq.n 45 ?_
      refine Seq.u 46 (.bool false) ?_
      refine Seq.done ?_
      refine At.L [(0, (.string s0)), (3, (.int .i64 x3)), (46, (.bool false))] fun J => ?_
      refine At.cF 46 K28 K31 ?_
      refine At.skip ?_
      refine At.inBlock ?_
      refine At.rg 5 [0, 1, 2] ?_
      refine Seq.u 16 (.int .i64 x3) ?_
      obtain ⟨hi, h⟩ := h
      refine Seq.z 17 (.binOp .add 3 (.tmp 16) (.const (.int .i64 1)) 3) 3 (.int .i64 (x3 + 1)) (Y.addI hi rfl rfl) ?_
      refine Seq.u 3 (.int .i64 (x3 + 1)) ?_
      refine Seq.done ?_
      refine At.inLoop ?_
      refine At.s K16 K21 ?_
      refine At.s K17 K18 ?_
      exact At.v [(0, (.string s0)), (3, (.int .i64 (x3 + 1)))] (h _)
    | false =>
     replace h := h.2 (of_decide_eq_false hb)
     refine Seq.n 40 ?_
     refine Seq.n 41 ?_
     refine Seq.us [(42, .bool false), (43, .bool false)] ?_
     refine Seq.n 44 ?_
     refine Seq.n 45 ?_
     refine Seq.u 46 (.bool false) ?_
     refine Seq.done ?_
     refine At.cF 46 K28 K31 ?_
     refine At.skip ?_
     refine At.inBlock ?_
     refine At.rg 5 [0, 1, 2] ?_
     refine Seq.u 16 (.int .i64 x3) ?_
     obtain ⟨hi, h⟩ := h
     refine Seq.z 17 (.binOp .add 3 (.tmp 16) (.const (.int .i64 1)) 3) 3 (.int .i64 (x3 + 1)) (Y.addI hi rfl rfl) ?_
     refine Seq.u 3 (.int .i64 (x3 + 1)) ?_
     refine Seq.done ?_
     refine At.inLoop ?_
     refine At.s K16 K21 ?_
     refine At.s K17 K18 ?_
     exact At.v [(0, (.string s0)), (3, (.int .i64 (x3 + 1)))] (h _)
   | false =>
    replace h := h.2 (of_decide_eq_false hb)
    refine Seq.us [(31, .int .u8 ((UInt8.toNat u20 : Nat) : Int)), (32, .bool (decide ((57 : Int) < ((UInt8.toNat u20 : Nat) : Int)))), (33, .bool (decide ((57 : Int) < ((UInt8.toNat u20 : Nat) : Int)))), (34, .bool (decide ((57 : Int) < ((UInt8.toNat u20 : Nat) : Int)))), (35, .bool (decide ((57 : Int) < ((UInt8.toNat u20 : Nat) : Int))))] ?_
    cases hb : (decide ((57 : Int) < ((UInt8.toNat u20 : Nat) : Int))) with
    | true =>
     replace h := h.1 (of_decide_eq_true hb)
     refine Seq.us [(36, .int .u8 ((UInt8.toNat u20 : Nat) : Int)), (37, .bool (decide ((((UInt8.toNat u20 : Nat) : Int) : Int) ≠ 47))), (38, .bool (decide ((((UInt8.toNat u20 : Nat) : Int) : Int) ≠ 47))), (39, .bool (decide ((((UInt8.toNat u20 : Nat) : Int) : Int) ≠ 47)))] ?_
     cases hb : (decide ((((UInt8.toNat u20 : Nat) : Int) : Int) ≠ 47)) with
     | true =>
      replace h := h.1 (of_decide_eq_true hb)
      refine Seq.us [(40, .int .u8 ((UInt8.toNat u20 : Nat) : Int)), (41, .bool (decide ((((UInt8.toNat u20 : Nat) : Int) : Int) ≠ 46))), (42, .bool (decide ((((UInt8.toNat u20 : Nat) : Int) : Int) ≠ 46))), (43, .bool (decide ((((UInt8.toNat u20 : Nat) : Int) : Int) ≠ 46)))] ?_
      cases hb : (decide ((((UInt8.toNat u20 : Nat) : Int) : Int) ≠ 46)) with
      | true =>
       replace h := h.1 (of_decide_eq_true hb)
       refine Seq.us [(44, .int .u8 ((UInt8.toNat u20 : Nat) : Int)), (45, .bool (decide ((((UInt8.toNat u20 : Nat) : Int) : Int) ≠ 45))), (46, .bool (decide ((((UInt8.toNat u20 : Nat) : Int) : Int) ≠ 45)))] ?_
       refine Seq.done ?_
       cases hb : (decide ((((UInt8.toNat u20 : Nat) : Int) : Int) ≠ 45)) with
       | true =>
        replace h := h.1 (of_decide_eq_true hb)
        refine At.cT 46 K28 K31 ?_
        refine At.s K29 K30 ?_
        refine At.rg 8 [0] ?_
        refine Seq.u 2 (.bool false) ?_
        refine Seq.done ?_
        exact At.rt [.tmp 2] [(.bool false)] func36 ⟨_, rfl, rfl⟩ h
       | false =>
        replace h := h.2 (of_decide_eq_false hb)
        refine At.cF 46 K28 K31 ?_
        refine At.skip ?_
        refine At.inBlock ?_
        refine At.rg 5 [0, 1, 2] ?_
        refine Seq.u 16 (.int .i64 x3) ?_
        obtain ⟨hi, h⟩ := h
        refine Seq.z 17 (.binOp .add 3 (.tmp 16) (.const (.int .i64 1)) 3) 3 (.int .i64 (x3 + 1)) (Y.addI hi rfl rfl) ?_
        refine Seq.u 3 (.int .i64 (x3 + 1)) ?_
        refine Seq.done ?_
        refine At.inLoop ?_
        refine At.s K16 K21 ?_
        refine At.s K17 K18 ?_
        exact At.v [(0, (.string s0)), (3, (.int .i64 (x3 + 1)))] (h _)
      | false =>
       replace h := h.2 (of_decide_eq_false hb)
       refine Seq.n 44 ?_
       refine Seq.n 45 ?_
       refine Seq.u 46 (.bool false) ?_
       refine Seq.done ?_
       refine At.cF 46 K28 K31 ?_
       refine At.skip ?_
       refine At.inBlock ?_
       refine At.rg 5 [0, 1, 2] ?_
       refine Seq.u 16 (.int .i64 x3) ?_
       obtain ⟨hi, h⟩ := h
       refine Seq.z 17 (.binOp .add 3 (.tmp 16) (.const (.int .i64 1)) 3) 3 (.int .i64 (x3 + 1)) (Y.addI hi rfl rfl) ?_
       refine Seq.u 3 (.int .i64 (x3 + 1)) ?_
       refine Seq.done ?_
       refine At.L [(0, (.string s0)), (3, (.int .i64 (x3 + 1)))] fun J => ?_
       refine At.inLoop ?_
       refine At.s K16 K21 ?_
       refine At.s K17 K18 ?_
       exact At.v [(0, (.string s0)), (3, (.int .i64 (x3 + 1)))] (h _)
     | false =>
      replace h := h.2 (of_decide_eq_false hb)
      refine Seq.n 40 ?_
      refine Seq.n 41 ?_
      refine Seq.us [(42, .bool false), (43, .bool false)] ?_
      refine Seq.n 44 ?_
      refine Seq.n 45 ?_
      refine Seq.u 46 (.bool false) ?_
      refine Seq.done ?_
      refine At.cF 46 K28 K31 ?_
      refine At.skip ?_
      refine At.inBlock ?_
      refine At.rg 5 [0, 1, 2] ?_
      refine Seq.u 16 (.int .i64 x3) ?_
      obtain ⟨hi, h⟩ := h
      refine Seq.z 17 (.binOp .add 3 (.tmp 16) (.const (.int .i64 1)) 3) 3 (.int .i64 (x3 + 1)) (Y.addI hi rfl rfl) ?_
      refine Seq.u 3 (.int .i64 (x3 + 1)) ?_
      refine Seq.done ?_
      refine At.inLoop ?_
      refine At.s K16 K21 ?_
      refine At.s K17 K18 ?_
      exact At.v [(0, (.string s0)), (3, (.int .i64 (x3 + 1)))] (h _)
    | false =>
     replace h := h.2 (of_decide_eq_false hb)
     refine Seq.n 36 ?_
     refine Seq.n 37 ?_
     refine Seq.us [(38, .bool false), (39, .bool false)] ?_
     refine Seq.n 40 ?_
     refine Seq.n 41 ?_
     refine Seq.us [(42, .bool false), (43, .bool false)] ?_
     refine Seq.n 44 ?_
     refine Seq.n 45 ?_
     refine Seq.u 46 (.bool false) ?_
     refine Seq.done ?_
     refine At.cF 46 K28 K31 ?_
     refine At.skip ?_
     refine At.inBlock ?_
     refine At.rg 5 [0, 1, 2] ?_
     refine Seq.u 16 (.int .i64 x3) ?_
     obtain ⟨hi, h⟩ := h
     refine Seq.z 17 (.binOp .add 3 (.tmp 16) (.const (.int .i64 1)) 3) 3 (.int .i64 (x3 + 1)) (Y.addI hi rfl rfl) ?_
     refine Seq.u 3 (.int .i64 (x3 + 1)) ?_
     refine Seq.done ?_
     refine At.inLoop ?_
     refine At.s K16 K21 ?_
     refine At.s K17 K18 ?_
     exact At.v [(0, (.string s0)), (3, (.int .i64 (x3 + 1)))] (h _)
  | false =>
   replace h := h.2 (of_decide_eq_false hb)
   refine Seq.us [(24, .int .u8 ((UInt8.toNat u20 : Nat) : Int)), (25, .bool (decide ((122 : Int) < ((UInt8.toNat u20 : Nat) : Int)))), (26, .bool (decide ((122 : Int) < ((UInt8.toNat u20 : Nat) : Int)))), (27, .bool (decide ((122 : Int) < ((UInt8.toNat u20 : Nat) : Int))))] ?_
   cases hb : (decide ((122 : Int) < ((UInt8.toNat u20 : Nat) : Int))) with
   | true =>
    replace h := h.1 (of_decide_eq_true hb)
    refine Seq.us [(28, .int .u8 ((UInt8.toNat u20 : Nat) : Int)), (29, .bool (decide ((((UInt8.toNat u20 : Nat) : Int) : Int) < 48))), (30, .bool (decide ((((UInt8.toNat u20 : Nat) : Int) : Int) < 48)))] ?_
    cases hb : (decide ((((UInt8.toNat u20 : Nat) : Int) : Int) < 48)) with
    | true =>
     replace h := h.1 (of_decide_eq_true hb)
     refine Seq.n 31 ?_
     refine Seq.n 32 ?_
     refine Seq.us [(33, .bool true), (34, .bool true), (35, .bool true), (36, .int .u8 ((UInt8.toNat u20 : Nat) : Int)), (37, .bool (decide ((((UInt8.toNat u20 : Nat) : Int) : Int) ≠ 47))), (38, .bool (decide ((((UInt8.toNat u20 : Nat) : Int) : Int) ≠ 47))), (39, .bool (decide ((((UInt8.toNat u20 : Nat) : Int) : Int) ≠ 47)))] ?_
     cases hb : (decide ((((UInt8.toNat u20 : Nat) : Int) : Int) ≠ 47)) with
     | true =>
      replace h := h.1 (of_decide_eq_true hb)
      refine Seq.us [(40, .int .u8 ((UInt8.toNat u20 : Nat) : Int)), (41, .bool (decide ((((UInt8.toNat u20 : Nat) : Int) : Int) ≠ 46))), (42, .bool (decide ((((UInt8.toNat u20 : Nat) : Int) : Int) ≠ 46))), (43, .bool (decide ((((UInt8.toNat u20 : Nat) : Int) : Int) ≠ 46)))] ?_
      cases hb : (decide ((((UInt8.toNat u20 : Nat) : Int) : Int) ≠ 46)) with
      | true =>
       replace h := h.1 (of_decide_eq_true hb)
       refine Seq.us [(44, .int .u8 ((UInt8.toNat u20 : Nat) : Int)), (45, .bool (decide ((((UInt8.toNat u20 : Nat) : Int) : Int) ≠ 45))), (46, .bool (decide ((((UInt8.toNat u20 : Nat) : Int) : Int) ≠ 45)))] ?_
       refine Seq.done ?_
       refine At.L [(0, (.string s0)), (3, (.int .i64 x3)), (46, (.bool (decide ((((UInt8.toNat u20 : Nat) : Int) : Int) ≠ 45))))] fun J => ?_
       cases hb : (decide ((((UInt8.toNat u20 : Nat) : Int) : Int) ≠ 45)) with
       | true =>
        replace h := h.1 (of_decide_eq_true hb)
        refine At.cT 46 K28 K31 ?_
        refine At.s K29 K30 ?_
        refine At.rg 8 [0] ?_
        refine Seq.u 2 (.bool false) ?_
        refine Seq.done ?_
        exact At.rt [.tmp 2] [(.bool false)] func36 ⟨_, rfl, rfl⟩ h
       | false =>
        replace h := h.2 (of_decide_eq_false hb)
        refine At.cF 46 K28 K31 ?_
        refine At.skip ?_
        refine At.inBlock ?_
        refine At.rg 5 [0, 1, 2] ?_
        refine Seq.u 16 (.int .i64 x3) ?_
        obtain ⟨hi, h⟩ := h
        refine Seq.z 17 (.binOp .add 3 (.tmp 16) (.const (.int .i64 1)) 3) 3 (.int .i64 (x3 + 1)) (Y.addI hi rfl rfl) ?_
        refine Seq.u 3 (.int .i64 (x3 + 1)) ?_
        refine Seq.done ?_
        refine At.inLoop ?_
        refine At.s K16 K21 ?_
        refine At.s K17 K18 ?_
        exact At.v [(0, (.string s0)), (3, (.int .i64 (x3 + 1)))] (h _)
      | false =>
       replace h := h.2 (of_decide_eq_false hb)
       refine Seq.n 44 ?_
       refine Seq.n 45 ?_
       refine Seq.u 46 (.bool false) ?_
       refine Seq.done ?_
       refine At.cF 46 K28 K31 ?_
       refine At.skip ?_
       refine At.inBlock ?_
       refine At.rg 5 [0, 1, 2] ?_
       refine Seq.u 16 (.int .i64 x3) ?_
       obtain ⟨hi, h⟩ := h
       refine Seq.z 17 (.binOp .add 3 (.tmp 16) (.const (.int .i64 1)) 3) 3 (.int .i64 (x3 + 1)) (Y.addI hi rfl rfl) ?_
       refine Seq.u 3 (.int .i64 (x3 + 1)) ?_
       refine Seq.done ?_
       refine At.inLoop ?_
       refine At.s K16 K21 ?_
       refine At.s K17 K18 ?_
       exact At.v [(0, (.string s0)), (3, (.int .i64 (x3 + 1)))] (h _)
     | false =>
      replace h := h.2 (of_decide_eq_false hb)
      refine Seq.n 40 ?_
      refine Seq.n 41 ?_
      refine Seq.us [(42, .bool false), (43, .bool false)] ?_
      refine Seq.n 44 ?_
      refine Seq.n 45 ?_
      refine Seq.u 46 (.bool false) ?_
      refine Seq.done ?_
      refine At.cF 46 K28 K31 ?_
      refine At.skip ?_
      refine At.inBlock ?_
      refine At.rg 5 [0, 1, 2] ?_
      refine Seq.u 16 (.int .i64 x3) ?_
      obtain ⟨hi, h⟩ := h
      refine Seq.z 17 (.binOp .add 3 (.tmp 16) (.const (.int .i64 1)) 3) 3 (.int .i64 (x3 + 1)) (Y.addI hi rfl rfl) ?_
      refine Seq.u 3 (.int .i64 (x3 + 1)) ?_
      refine Seq.done ?_
      refine At.inLoop ?_
      refine At.s K16 K21 ?_
      refine At.s K17 K18 ?_
      exact At.v [(0, (.string s0)), (3, (.int .i64 (x3 + 1)))] (h _)
    | false =>
     replace h := h.2 (of_decide_eq_false hb)
     refine Seq.us [(31, .int .u8 ((UInt8.toNat u20 : Nat) : Int)), (32, .bool (decide ((57 : Int) < ((UInt8.toNat u20 : Nat) : Int)))), (33, .bool (decide ((57 : Int) < ((UInt8.toNat u20 : Nat) : Int)))), (34, .bool (decide ((57 : Int) < ((UInt8.toNat u20 : Nat) : Int)))), (35, .bool (decide ((57 : Int) < ((UInt8.toNat u20 : Nat) : Int))))] ?_
     cases hb : (decide ((57 : Int) < ((UInt8.toNat u20 : Nat) : Int))) with
     | true =>
      replace h := h.1 (of_decide_eq_true hb)
      refine Seq.us [(36, .int .u8 ((UInt8.toNat u20 : Nat) : Int)), (37, .bool (decide ((((UInt8.toNat u20 : Nat) : Int) : Int) ≠ 47))), (38, .bool (decide ((((UInt8.toNat u20 : Nat) : Int) : Int) ≠ 47))), (39, .bool (decide ((((UInt8.toNat u20 : Nat) : Int) : Int) ≠ 47)))] ?_
      cases hb : (decide ((((UInt8.toNat u20 : Nat) : Int) : Int) ≠ 47)) with
      | true =>
       replace h := h.1 (of_decide_eq_true hb)
       refine Seq.us [(40, .int .u8 ((UInt8.toNat u20 : Nat) : Int)), (41, .bool (decide ((((UInt8.toNat u20 : Nat) : Int) : Int) ≠ 46))), (42, .bool (decide ((((UInt8.toNat u20 : Nat) : Int) : Int) ≠ 46))), (43, .bool (decide ((((UInt8.toNat u20 : Nat) : Int) : Int) ≠ 46)))] ?_
       cases hb : (decide ((((UInt8.toNat u20 : Nat) : Int) : Int) ≠ 46)) with
       | true =>
        replace h := h.1 (of_decide_eq_true hb)
        refine Seq.us [(44, .int .u8 ((UInt8.toNat u20 : Nat) : Int)), (45, .bool (decide ((((UInt8.toNat u20 : Nat) : Int) : Int) ≠ 45))), (46, .bool (decide ((((UInt8.toNat u20 : Nat) : Int) : Int) ≠ 45)))] ?_
        refine Seq.done ?_
        cases hb : (decide ((((UInt8.toNat u20 : Nat) : Int) : Int) ≠ 45)) with
        | true =>
         replace h := h.1 (of_decide_eq_true hb)
         refine At.cT 46 K28 K31 ?_
         refine At.s K29 K30 ?_
         refine At.rg 8 [0] ?_
         refine Seq.u 2 (.bool false) ?_
         refine Seq.done ?_
         refine At.L [(2, (.bool false))] fun J => ?_
         exact At.rt [.tmp 2] [(.bool false)] func36 ⟨_, rfl, rfl⟩ h
        | false =>
         replace h := h.2 (of_decide_eq_false hb)
         refine At.cF 46 K28 K31 ?_
         refine At.skip ?_
         refine At.inBlock ?_
         refine At.rg 5 [0, 1, 2] ?_
         refine Seq.u 16 (.int .i64 x3) ?_
         obtain ⟨hi, h⟩ := h
         refine Seq.z 17 (.binOp .add 3 (.tmp 16) (.const (.int .i64 1)) 3) 3 (.int .i64 (x3 + 1)) (Y.addI hi rfl rfl) ?_
         refine Seq.u 3 (.int .i64 (x3 + 1)) ?_
         refine Seq.done ?_
         refine At.inLoop ?_
         refine At.s K16 K21 ?_
         refine At.s K17 K18 ?_
         exact At.v [(0, (.string s0)), (3, (.int .i64 (x3 + 1)))] (h _)
       | false =>
        replace h := h.2 (of_decide_eq_false hb)
        refine Seq.n 44 ?_
        refine Seq.n 45 ?_
        refine Seq.u 46 (.bool false) ?_
        refine Seq.done ?_
        refine At.cF 46 K28 K31 ?_
        refine At.skip ?_
        refine At.inBlock ?_
        refine At.rg 5 [0, 1, 2] ?_
        refine Seq.u 16 (.int .i64 x3) ?_
        obtain ⟨hi, h⟩ := h
        refine Seq.z 17 (.binOp .add 3 (.tmp 16) (.const (.int .i64 1)) 3) 3 (.int .i64 (x3 + 1)) (Y.addI hi rfl rfl) ?_
        refine Seq.u 3 (.int .i64 (x3 + 1)) ?_
        refine Seq.done ?_
        refine At.inLoop ?_
        refine At.s K16 K21 ?_
        refine At.s K17 K18 ?_
        exact At.v [(0, (.string s0)), (3, (.int .i64 (x3 + 1)))] (h _)
      | false =>
       replace h := h.2 (of_decide_eq_false hb)
       refine Seq.n 40 ?_
       refine Seq.n 41 ?_
       refine Seq.us [(42, .bool false), (43, .bool false)] ?_
       refine Seq.n 44 ?_
       refine Seq.n 45 ?_
       refine Seq.u 46 (.bool false) ?_
       refine Seq.done ?_
       refine At.cF 46 K28 K31 ?_
       refine At.skip ?_
       refine At.inBlock ?_
       refine At.rg 5 [0, 1, 2] ?_
       refine Seq.u 16 (.int .i64 x3) ?_
       obtain ⟨hi, h⟩ := h
       refine Seq.z 17 (.binOp .add 3 (.tmp 16) (.const (.int .i64 1)) 3) 3 (.int .i64 (x3 + 1)) (Y.addI hi rfl rfl) ?_
       refine Seq.u 3 (.int .i64 (x3 + 1)) ?_
       refine Seq.done ?_
       refine At.inLoop ?_
       refine At.s K16 K21 ?_
       refine At.s K17 K18 ?_
       exact At.v [(0, (.string s0)), (3, (.int .i64 (x3 + 1)))] (h _)
     | false =>
      replace h := h.2 (of_decide_eq_false hb)
      refine Seq.n 36 ?_
      refine Seq.n 37 ?_
      refine Seq.us [(38, .bool false), (39, .bool false)] ?_
      refine Seq.n 40 ?_
      refine Seq.n 41 ?_
      refine Seq.us [(42, .bool false), (43, .bool false)] ?_
      refine Seq.n 44 ?_
      refine Seq.n 45 ?_
      refine Seq.u 46 (.bool false) ?_
      refine Seq.done ?_
      refine At.cF 46 K28 K31 ?_
      refine At.skip ?_
      refine At.inBlock ?_
      refine At.rg 5 [0, 1, 2] ?_
      refine Seq.u 16 (.int .i64 x3) ?_
      obtain ⟨hi, h⟩ := h
      refine Seq.z 17 (.binOp .add 3 (.tmp 16) (.const (.int .i64 1)) 3) 3 (.int .i64 (x3 + 1)) (Y.addI hi rfl rfl) ?_
      refine Seq.u 3 (.int .i64 (x3 + 1)) ?_
      refine Seq.done ?_
      refine At.inLoop ?_
      refine At.s K16 K21 ?_
      refine At.s K17 K18 ?_
      exact At.v [(0, (.string s0)), (3, (.int .i64 (x3 + 1)))] (h _)
   | false =>
    replace h := h.2 (of_decide_eq_false hb)
    refine Seq.n 28 ?_
    refine Seq.n 29 ?_
    refine Seq.n 30 ?_
    refine Seq.n 31 ?_
    refine Seq.n 32 ?_
    refine Seq.n 33 ?_
    refine Seq.us [(34, .bool false), (35, .bool false)] ?_
    refine Seq.n 36 ?_
    refine Seq.n 37 ?_
    refine Seq.us [(38, .bool false), (39, .bool false)] ?_
    refine Seq.n 40 ?_
    refine Seq.n 41 ?_
    refine Seq.us [(42, .bool false), (43, .bool false)] ?_
    refine Seq.n 44 ?_
    refine Seq.n 45 ?_
    refine Seq.u 46 (.bool false) ?_
    refine Seq.done ?_
    refine At.L [(0, (.string s0)), (3, (.int .i64 x3)), (46, (.bool false))] fun J => ?_
    refine At.cF 46 K28 K31 ?_
    refine At.skip ?_
    refine At.inBlock ?_
    refine At.rg 5 [0, 1, 2] ?_
    refine Seq.u 16 (.int .i64 x3) ?_
    obtain ⟨hi, h⟩ := h
    refine Seq.z 17 (.binOp .add 3 (.tmp 16) (.const (.int .i64 1)) 3) 3 (.int .i64 (x3 + 1)) (Y.addI hi rfl rfl) ?_
    refine Seq.u 3 (.int .i64 (x3 + 1)) ?_
    refine Seq.done ?_
    refine At.inLoop ?_
    refine At.s K16 K21 ?_
    refine At.s K17 K18 ?_
    exact At.v [(0, (.string s0)), (3, (.int .i64 (x3 + 1)))] (h _)
 | false =>
  replace h := h.2 (of_decide_eq_false hb)
  refine At.cF 15 K19 K20 ?_
  refine At.x 0 [.code K33] ?_
  refine At.s K34 K35 ?_
  refine At.rg 9 [0] ?_
  refine Seq.u 2 (.bool true) ?_
  refine Seq.done ?_
  exact At.rt [.tmp 2] [(.bool true)] func36 ⟨_, rfl, rfl⟩ h
end disk_Name
namespace disk_Disk_Read
abbrev fid : Nat := 41
noncomputable def K0 := f41.body.getD .skip
def K1 := cl K0
def K2 := cr K0
def K3 := cl K2
def K4 := cl K3
def K5 := cr K3
def K6 := cl K5
def K7 := cl K6
def K8 := cr K6
def K9 := cr K5
def K10 := cr K2
def K11 := cl K10
def K12 := cl K11
def K13 := cr K11
def K14 := cl K13
def K15 := cr K13
def K16 := cl K15
def K17 := cl K16
def K18 := cr K16
def K19 := cr K15
def K20 := cr K10
def K21 := cl K20
def K22 := cr K20
abbrev gl (R : Ending → Hp → Prop) : Gl := Gl.fn prog 41 29 R
theorem start {R : Ending → Hp → Prop} {q0 : Option Addr} {s1 : ByteArray} {σ : Hp} (h : ∃ (b8 o8 : Nat), q0 = some ⟨b8, o8, none⟩ ∧ ∃ t10 : Bool, Hp.ld σ ⟨b8, (o8 + 1), none⟩ = some (.bool t10) ∧ (t10 = false → R (.returned (.tuple #[(.slice none 0 0), (.int .i64 60)])) σ) ∧ (t10 = true → Spec prog 68 #[(.pointer (some ⟨b8, o8, none⟩)), (.string s1)] σ (Cont R (fun v σ1 => ∃ x14 : Int, v = (.int .i64 x14) ∧ ((x14 : Int) ≠ 0 → R (.returned (.tuple #[(.slice none 0 0), (.int .i64 x14)])) σ1) ∧ (¬ ((x14 : Int) ≠ 0) → ∀ b18 : Nat, σ1 b18 = none → ∃ m22 : Option Nat, Hp.ld (Hp.set σ1 b18 (.cells #[] 5 (0, 0))) ⟨b8, o8, none⟩ = some (.map m22) ∧ Eff prog (Instr.lookup 67 (.map m22) (.string s1) false) (Hp.set σ1 b18 (.cells #[] 5 (0, 0))) (fun v_2 σ1_2 => ∃ q24 : Option Addr, v_2 = (.pointer q24) ∧ ∃ (b25 o25 : Nat), q24 = some ⟨b25, o25, none⟩ ∧ ∃ p27 : Option Addr, ∃ n27 : Nat, ∃ c27 : Nat, Hp.ld σ1_2 ⟨b25, o25, none⟩ = some (.slice p27 n27 c27) ∧ Eff prog (Builtin.append_ #[23, 23] 23 #[(.slice (some ⟨b18, 0, none⟩) 0 0), (.slice p27 n27 c27)]) σ1_2 (fun v_3 σ1_3 => ∃ p28 : Option Addr, ∃ n28 : Nat, ∃ c28 : Nat, v_3 = (.slice p28 n28 c28) ∧ R (.returned (.tuple #[(.slice p28 n28 c28), (.int .i64 0)])) σ1_3))))))) : Spec prog 41 #[(.pointer q0), (.string s1)] σ R := by
 refine Spec.of_at (fn := f41) (c := K0) func41 (by kernel_rfl) (Nat.le_of_ble_eq_true (by kernel_rfl)) (fun e he => ?_)
 refine At.ofL (l := [(0, (.pointer q0)), (1, (.string s1))]) ⟨he 0, he 1, trivial⟩ (fun J => ?_)
 show At (gl R) _ _ _ _
 refine At.s K1 K2 ?_
 refine At.rg 0 [0, 1] ?_
 refine Seq.us [(4, .slice none 0 0), (5, .int .i64 0)] ?_
 refine Seq.done ?_
 refine At.s K3 K10 ?_
 refine At.s K4 K5 ?_
 refine At.rg 1 [0, 1, 2, 3, 4] ?_
 refine Seq.u 7 (.pointer q0) ?_
 obtain ⟨b8, o8, hq, h⟩ := h
 subst hq
 refine Seq.z 8 (.nilCheck (.tmp 7)) 0 (.pointer (some ⟨b8, o8, none⟩)) (Y.nilCheck rfl) ?_
 refine Seq.z 9 (.fieldAddr 69 (.tmp 8) 1) 0 (.pointer (some ⟨b8, (o8 + 1), none⟩)) (Y.fieldAddr (fd := (fieldOf prog 69 1)) underlying69 (by kernel_rfl) sizeOf4 rfl rfl) ?_
 obtain ⟨t10, hl, h⟩ := h
 refine Seq.z 10 (.load 4 (.tmp 9)) 4 (.bool t10) (Y.ld isAgg4 rfl hl) ?_
 refine Seq.u 11 (.bool (!t10)) ?_
 refine Seq.done ?_
 cases hb : (!t10) with
 | true =>
  replace h := h.1 (Tw.nt hb)
  refine At.cT 11 K6 K9 ?_
  refine At.s K7 K8 ?_
  refine At.rg 2 [0, 1] ?_
  refine Seq.us [(4, .slice none 0 0), (5, .int .i64 60)] ?_
  refine Seq.done ?_
  exact At.rt [.tmp 4, .tmp 5] [(.slice none 0 0), (.int .i64 60)] func41 ⟨_, rfl, ⟨_, rfl, rfl⟩⟩ h
 | false =>
  replace h := h.2 (Tw.nf hb)
  refine At.cF 11 K6 K9 ?_
  refine At.skip ?_
  refine At.s K11 K20 ?_
  refine At.s K12 K13 ?_
  refine At.rg 3 [0, 1, 2, 3] ?_
  refine Seq.us [(12, .pointer (some ⟨b8, o8, none⟩)), (13, .string s1)] ?_
  refine Seq.o ?_
  refine OpTo.cl (some 14) call68 (h.cont fun v σ1 h2 => ?_); replace h := h2; clear h2
  obtain ⟨x14, rfl, h⟩ := h
  refine Seq.u 6 (.int .i64 x14) ?_
  refine Seq.done ?_
  refine At.s K14 K15 ?_
  refine At.rg 4 [0, 1] ?_
  refine Seq.us [(15, .int .i64 x14), (16, .bool (decide ((x14 : Int) ≠ 0)))] ?_
  refine Seq.done ?_
  cases hb : (decide ((x14 : Int) ≠ 0)) with
  | true =>
   replace h := h.1 (of_decide_eq_true hb)
   refine At.cT 16 K16 K19 ?_
   refine At.s K17 K18 ?_
   refine At.rg 5 [0, 1, 2] ?_
   refine Seq.us [(17, .int .i64 x14), (4, .slice none 0 0), (5, .int .i64 x14)] ?_
   refine Seq.done ?_
   exact At.rt [.tmp 4, .tmp 5] [(.slice none 0 0), (.int .i64 x14)] func41 ⟨_, rfl, ⟨_, rfl, rfl⟩⟩ h
  | false =>
   replace h := h.2 (of_decide_eq_false hb)
   refine At.cF 16 K16 K19 ?_
   refine At.skip ?_
   refine At.s K21 K22 ?_
   refine At.rg 6 [0, 1, 2, 3, 4, 5, 6, 7, 8, 9, 10, 11, 12] ?_
   refine Seq.o ?_
   refine OpTo.bslice (T := 23) (E := 5) (m := 0) (ps := #[]) (d := (some 18)) (ty := 23) (gd := none) (vs := []) (cs := #[]) underlying23 (by kernel_rfl) rfl rfl rfl (by kernel_rfl) (fun b18 hn => ?_)
   replace h := h b18 hn
   refine Seq.u 19 (.pointer (some ⟨b8, o8, none⟩)) ?_
   refine Seq.z 20 (.nilCheck (.tmp 19)) 0 (.pointer (some ⟨b8, o8, none⟩)) (Y.nilCheck rfl) ?_
   refine Seq.z 21 (.fieldAddr 69 (.tmp 20) 0) 0 (.pointer (some ⟨b8, o8, none⟩)) (Y.fieldAddr (fd := (fieldOf prog 69 0)) underlying69 (by kernel_rfl) sizeOf67 rfl rfl) ?_
   obtain ⟨m22, hl, h⟩ := h
   refine Seq.z 22 (.load 67 (.tmp 21)) 67 (.map m22) (Y.ld isAgg67 rfl hl) ?_
   refine Seq.u 23 (.string s1) ?_
   refine Seq.o ?_
   refine OpTo.eff (d := (some 24)) (op := (.lookup 67 (.tmp 22) (.tmp 23) false)) (ty := 84) (gd := none) (by kernel_rfl) rfl rfl (Instr.lookup 67 (.map m22) (.string s1) false) (fun o ho ht => by simp only [execOp, ho]; rfl) (h.mono (fun v_2 σ1_2 h2 => ?_)); replace h := h2; clear h2
   obtain ⟨q24, rfl, h⟩ := h
   obtain ⟨b25, o25, hq, h⟩ := h
   subst hq
   refine Seq.z 25 (.nilCheck (.tmp 24)) 0 (.pointer (some ⟨b25, o25, none⟩)) (Y.nilCheck rfl) ?_
   refine Seq.z 26 (.fieldAddr 86 (.tmp 25) 0) 0 (.pointer (some ⟨b25, o25, none⟩)) (Y.fieldAddr (fd := (fieldOf prog 86 0)) underlying86 (by kernel_rfl) sizeOf23 rfl rfl) ?_
   obtain ⟨p27, n27, c27, hl, h⟩ := h
   refine Seq.z 27 (.load 23 (.tmp 26)) 23 (.slice p27 n27 c27) (Y.ld isAgg23 rfl hl) ?_
   refine Seq.o ?_
   refine OpTo.eff (d := (some 28)) (op := (.call { callee := .builtin .append, args := #[(.tmp 18), (.tmp 27)], argTypes := #[23, 23] })) (ty := 23) (gd := none) (by kernel_rfl) rfl rfl (Builtin.append_ #[23, 23] 23 #[(.slice (some ⟨b18, 0, none⟩) 0 0), (.slice p27 n27 c27)]) (fun o ho ht => exec_b_append rfl rfl o ho ht) (h.mono (fun v_3 σ1_3 h2 => ?_)); replace h := h2; clear h2
   obtain ⟨p28, n28, c28, rfl, h⟩ := h
   refine Seq.us [(4, .slice p28 n28 c28), (5, .int .i64 0)] ?_
   refine Seq.done ?_
   exact At.rt [.tmp 4, .tmp 5] [(.slice p28 n28 c28), (.int .i64 0)] func41 ⟨_, rfl, ⟨_, rfl, rfl⟩⟩ h
end disk_Disk_Read

end
end TwW
end
