/-
  Part 2 of the proof that the law DistributorQuorumCardSaid of the given program answers true for every input of the given statement; the input reads behind the call as it did. (The texts: packed from 8 texts. Names are shortened by the packing program, for the bound on size.)
-/
import Derived.Test.YtaaincfenibojaaGreatDoorA1
set_option linter.all false
section
namespace Tw
open Go
variable [Ht]
structure Vl.Le (v w : Vl) : Prop where
 le : v.le w
 ln : v.ρ.length ≤ w.ρ.length ∧ v.β.length ≤ w.β.length ∧ v.δ.length ≤ w.δ.length
theorem Vl.Le.refl (v : Vl) : v.Le v := ⟨.refl v, Nat.le_refl _, Nat.le_refl _, Nat.le_refl _⟩
theorem Vl.Le.trans {u v w : Vl} (h : u.Le v) (g : v.Le w) : u.Le w := ⟨h.le.trans g.le h.ln, by have := h.ln; have := g.ln; omega⟩
theorem Vl.bY (v : Vl) (p : Option Addr) : v.Le (v.iu p) := ⟨v.oQ p, by simp [Vl.iu]⟩
theorem Vl.bZ (v : Vl) (k : BK) : v.Le (v.ZC k) := ⟨v.bW k, by simp [Vl.ZC]⟩
def exA (P : Program) (t : TypeId) (vl : Vl) (k : CY → Vl → Prop) : Prop := match P.underlying t with
 | some (.int kd) => ∃ x : Int, k (.int kd x) vl
 | some .bool => ∃ b : Bool, k (.bs vl.β.length false) (vl.ZC (.var b))
 | some (.slice _) => ∃ p : Option Addr, ∃ n : Nat, ∃ c : Nat, k (.sl (.var vl.ρ.length) n c) (vl.iu p)
 | some .string => ∃ w : ByteArray, k (.str w) vl
 | some (.pointer _) => ∃ q : Option Addr, k (.pt (.var vl.ρ.length)) (vl.iu q)
 | some (.map _ _) => ∃ m : Option Nat, k (.mp m) vl
 | _ => ∃ v : Value, k (.raw v) vl
def vo (P : Program) : List TypeId → Vl → (List CY → Vl → Prop) → Prop
 | [], vl, k => k [] vl
 | t :: l, vl, k => exA P t vl fun a vl => vo P l vl fun r vl => k (a :: r) vl
def iz (P : Program) : Nat → TypeId → List TypeId
 | 0, t => [t]
 | f + 1, t => match P.underlying t with
   | some (.struct fs) => (fs.toList.map fun fd => iz P f fd.type).flatten
   | some (.array n e) => (List.replicate n (iz P f e)).flatten
   | _ => [t]
def small (P : Program) (t : TypeId) : Bool := match ZE P t, Ya P t with
 | some true, some n => Nat.ble n 24
 | _, _ => false
def mz (P : Program) (t : TypeId) (vl : Vl) (k : Gb → Vl → Prop) : Prop := match small P t with
 | true => vo P (iz P 40 t) vl fun l vl => k (.agg l) vl
 | false => exA P t vl fun a vl => k (.a a) vl
def vp (P : Program) : List TypeId → Vl → (List Gb → Vl → Prop) → Prop
 | [], vl, k => k [] vl
 | t :: l, vl, k => mz P t vl fun a vl => vp P l vl fun r vl => k (a :: r) vl
def jA (P : Program) (t : TypeId) (vl : Vl) (k : SV → Vl → Prop) : Prop := match P.underlying t with
 | some (.tuple ts) => vp P ts.toList vl fun l vl => k (.Se l) vl
 | _ => mz P t vl fun a vl => k (.v a) vl
section
variable {P : Program}
theorem Ss {t : TypeId} {vl : Vl} {k : CY → Vl → Prop} (h : exA P t vl k) : ∃ a w, vl.Le w ∧ k a w := by
 unfold exA at h
 split at h
 · obtain ⟨x, h⟩ := h; exact ⟨_, _, .refl _, h⟩
 · obtain ⟨x, h⟩ := h; exact ⟨_, _, Vl.bZ _ _, h⟩
 · obtain ⟨p, n, c, h⟩ := h; exact ⟨_, _, Vl.bY _ _, h⟩
 · obtain ⟨x, h⟩ := h; exact ⟨_, _, .refl _, h⟩
 · obtain ⟨x, h⟩ := h; exact ⟨_, _, Vl.bY _ _, h⟩
 · obtain ⟨x, h⟩ := h; exact ⟨_, _, .refl _, h⟩
 · obtain ⟨x, h⟩ := h; exact ⟨_, _, .refl _, h⟩
theorem P3 : ∀ {l : List TypeId} {vl : Vl} {k : List CY → Vl → Prop}, vo P l vl k → ∃ a w, vl.Le w ∧ k a w
 | [], vl, k, h => ⟨_, _, .refl _, h⟩
 | t :: l, vl, k, h => by
   obtain ⟨a, w, h1, h⟩ := Ss h
   obtain ⟨r, w2, h2, h⟩ := P3 h
   exact ⟨_, _, h1.trans h2, h⟩
theorem Ec {t : TypeId} {vl : Vl} {k : Gb → Vl → Prop} (h : mz P t vl k) : ∃ a w, vl.Le w ∧ k a w := by
 unfold mz at h
 split at h
 · obtain ⟨a, w, h1, h⟩ := P3 h; exact ⟨_, _, h1, h⟩
 · obtain ⟨a, w, h1, h⟩ := Ss h; exact ⟨_, _, h1, h⟩
theorem P4 : ∀ {l : List TypeId} {vl : Vl} {k : List Gb → Vl → Prop}, vp P l vl k → ∃ a w, vl.Le w ∧ k a w
 | [], vl, k, h => ⟨_, _, .refl _, h⟩
 | t :: l, vl, k, h => by
   obtain ⟨a, w, h1, h⟩ := Ec h
   obtain ⟨r, w2, h2, h⟩ := P4 h
   exact ⟨_, _, h1.trans h2, h⟩
theorem Su {t : TypeId} {vl : Vl} {k : SV → Vl → Prop} (h : jA P t vl k) : ∃ a w, vl.Le w ∧ k a w := by
 unfold jA at h
 split at h
 · obtain ⟨a, w, h1, h⟩ := P4 h; exact ⟨_, _, h1, h⟩
 · obtain ⟨a, w, h1, h⟩ := Ec h; exact ⟨_, _, h1, h⟩
end
def S.ex (s : S) (P : Program) (t : TypeId) (K : SV → S → Prop) : Prop := match s.ok with
 | true => jA P t s.vl fun v vl => K v (s.w vl)
 | false => False
theorem S.P5 {s : S} {P : Program} {t : TypeId} {K : SV → S → Prop} (h : s.ex P t K) : ∃ v s', s.Same s' ∧ K v s' := by
 unfold S.ex at h
 cases hs : s.ok with
 | false => rw [hs] at h; cases h
 | true =>
   rw [hs] at h
   obtain ⟨v, w, h1, h⟩ := Su h
   exact ⟨v, _, S.Py hs h1.le, h⟩
def eqV (x : SV) (vl : Vl) (v : Value) (F : Prop) : Prop := match x with
 | .v (.a (.raw u)) => u = v ∧ F
 | x => v = x.den vl ∧ F
theorem eA {x : SV} {vl : Vl} {v : Value} {F : Prop} (h : eqV x vl v F) : v = x.den vl ∧ F := by
 unfold eqV at h
 split at h
 · exact ⟨h.1.symm, h.2⟩
 · exact h
def Vw : List FM → Nat → Option (TypeId × List CY)
 | [], _ => none
 | (i, t, cs) :: l, j => bif Nat.beq i j then some (t, cs) else Vw l j
theorem Jy {vl : Vl} : ∀ {l : List FM} {j : Nat} {t : TypeId} {cs : List CY}, Vw l j = some (t, cs) → (nth 0 vl.δ j, Obj.cells (BX vl cs).toArray t (0, 0)) ∈ Es vl l
 | (i, u, ds) :: l, j, t, cs, h => by
   simp only [Vw] at h
   cases hi : Nat.beq i j with
   | true =>
     rw [hi] at h; simp only [cond_true, Option.some.injEq, Prod.mk.injEq] at h
     obtain ⟨rfl, rfl⟩ := h
     have := Nat.eq_of_beq_eq_true hi
     subst this
     exact List.mem_cons_self ..
   | false =>
     rw [hi] at h; simp only [cond_false] at h
     exact List.mem_cons_of_mem _ (Jy h)
def ldV (P : Program) (T : TypeId) (x : Operand) (s : S) (K : Option Nat → SV → S → Prop) : Prop := match iw (s.op x) with
 | some (.bx i o) => match Vw s.bx i, ZE P T with
   | some (_, cs), some true => match Ya P T with
     | some n => match decide (((cs.drop o).take n).length = n) with
       | true => K none (.v (.agg ((cs.drop o).take n))) s
       | false => False
     | none => False
   | some (_, cs), some false => match A8 cs o with
     | some u => K none (.at u) s
     | none => False
   | _, _ => False
 | some (.at b o) => match ZE P T, Ya P T with
   | some true, some n => s.ex P T fun v s => match v with
     | .v (.agg l) => match decide (l.length = n) with
       | true => Dz s.σ b o (BX s.vl l) ∧ K (some b) v s
       | false => False
     | _ => False
   | some false, some _ => s.ex P T fun v s => Hp.ld s.σ ⟨b, o, none⟩ = some (v.den s.vl) ∧ K (some b) v s
   | _, _ => False
 | _ => False
theorem Hp.jB {σ : Hp} {b o : Nat} {v : Value} (h : Hp.ld σ ⟨b, o, none⟩ = some v) : Hp.ld (fun x => if x = b then σ x else none) ⟨b, o, none⟩ = some v := by
 unfold Hp.ld at *
 simpa using h
theorem Dz.lim {σ : Hp} {b : Nat} : ∀ {l : List Value} {o : Nat}, Dz σ b o l → Dz (fun x => if x = b then σ x else none) b o l
 | [], _, _ => trivial
 | v :: l, o, h => ⟨Hp.jB h.1, Dz.lim h.2⟩
theorem Sv {P : Program} {T ty : TypeId} {x : Operand} {s : S} {K : Option Nat → SV → S → Prop} (h : ldV P T x s K) :
   ∃ m v s', s.Same s' ∧ K m v s' ∧ ∀ J, match m with
     | none => ∀ σ, Yd P (s.e J) s.b σ (.load T x) ty (v.den s'.vl)
     | some b => Yd P (s.e J) s.b (fun x => if x = b then s.σ x else none) (.load T x) ty (v.den s'.vl) := by
 unfold ldV at h
 split at h
 · rename_i i o hp
   obtain ⟨u, e1, e2⟩ := Eu hp
   have hx : ∀ J, AE (s.e J) x = .pointer (some ⟨nth 0 s.vl.δ i, o, none⟩) := fun J => by rw [ev e1, e2]; rfl
   split at h
   · rename_i t cs hb ha
     split at h
     · rename_i n hn
       split at h
       · rename_i hd
         have hd := of_decide_eq_true hd
         refine ⟨none, _, s, .refl s, h, fun J σ => ?_⟩
         have := Y.vJ (P := P) (e := s.e J) (bx := s.b) (σ := σ) (ty := ty) (vs := BX s.vl ((cs.drop o).take n)) (Fk ha) (DZ hn) (by rw [Di]; exact hd) (hx J) (Jy hb) (by simp [P1])
         exact this
       · cases h
     · cases h
   · rename_i t cs hb ha
     split at h
     · rename_i u hu
       exact ⟨none, _, s, .refl s, h, fun J σ => Y.iW (Fk ha) (hx J) (Jy hb) (by simpa [SV.den, Gb.den] using NS hu)⟩
     · cases h
   · cases h
 · rename_i b o hp
   obtain ⟨u, e1, e2⟩ := Eu hp
   have hx : ∀ J, AE (s.e J) x = .pointer (some ⟨b, o, none⟩) := fun J => by rw [ev e1, e2]; rfl
   split at h
   · rename_i n ha hn
     obtain ⟨v, s', h1, h⟩ := S.P5 h
     split at h
     · rename_i l
       split at h
       · rename_i hd
         have hd := of_decide_eq_true hd
         refine ⟨some b, _, s', h1, h.2, fun J => ?_⟩
         have hl := h.1
         rw [h1.σ] at hl
         exact Y.lda (Fk ha) (DZ hn) (by rw [Di]; exact hd) (hx J) hl.lim
       · cases h
     · cases h
   · rename_i n ha hn
     obtain ⟨v, s', h1, h⟩ := S.P5 h
     have hl := h.1
     rw [h1.σ] at hl
     exact ⟨some b, _, s', h1, h.2, fun J => Y.ld (Fk ha) (hx J) (Hp.jB hl)⟩
   · cases h
 · cases h
def yv (P : Program) (wr : Bool) (op : Op) (s : S) (K : SV → S → Prop) : Prop := match op with
 | .move x => s.val x K
 | .assign x => s.val x K
 | .pick z x y => sK x y z s K
 | .binOp b T x y _ => vd P wr b T x y s K
 | .unOp u _ x => match u with
   | .not => ve x s K
   | .neg => vf x s K
   | _ => False
 | .convert T T' x => ix P T T' x s K
 | .fieldAddr T x f => vg P T x f s K
 | .field T x f => ZH P T x f s K
 | .extract x i => vh x i s K
 | .indexAddr T x y => vi P T x y s K
 | .index T x y => iy P T x y s K
 | .nilCheck x => vj x s K
 | .makeFunc fn xs ys => vk fn xs ys s K
 | .build T ps => ZV P T ps s K
 | .makeInterface T x => ZI P T x s K
 | .slice T x lo hi mx => match mx with
   | none => ZS P T x lo hi s K
   | some _ => False
 | .call c => match c.callee, c.args.toList with
   | .builtin .len, [x] => vm P x c.argTypes s K
   | .builtin .cap, [x] => vn P x c.argTypes s K
   | .builtin .min, [x, y] => match Iq (s.op x), Iq (s.op y) with
     | some (k, a), some (_, b) => K (.at (.int k (if (b : Int) < a then b else a))) s
     | _, _ => False
   | .builtin .max, [x, y] => match Iq (s.op x), Iq (s.op y) with
     | some (k, a), some (_, b) => K (.at (.int k (if (a : Int) < b then b else a))) s
     | _, _ => False
   | _, _ => False
 | _ => False
theorem Vx {P : Program} {wr : Bool} {op : Op} {ty : TypeId} {s : S} {K : SV → S → Prop} (h : yv P wr op s K) : YP P op ty s K := by
 unfold yv at h
 split at h
 · exact Sl h fun v J σ hv => Y.move hv
 · exact Sl h fun v J σ hv => Y.assign hv
 · exact Vs h
 · exact ZG h
 · split at h
   · exact ZJ h
   · exact ZK h
   · cases h
 · exact Vt h
 · exact ZL h
 · exact UL h
 · exact ZM h
 · exact ZN h
 · exact Vu h
 · exact ZO h
 · exact ZP h
 · exact UO h
 · exact UM h
 · split at h
   · exact UN h
   · cases h
 · rename_i c
   obtain ⟨ce, AUn, ts⟩ := c
   split at h
   · rename_i x h1 h2
     simp only at h1 h2 h
     have : AUn = #[x] := by rw [← Array.toList_inj]; simpa using h2
     subst this h1
     exact ZQ h
   · rename_i x h1 h2
     simp only at h1 h2 h
     have : AUn = #[x] := by rw [← Array.toList_inj]; simpa using h2
     subst this h1
     exact ZR h
   · rename_i x y h1 h2
     simp only at h1 h2 h
     have : AUn = #[x, y] := by rw [← Array.toList_inj]; simpa using h2
     subst this h1
     split at h
     · rename_i k a k' b hx hy
       obtain ⟨u, e1, e2⟩ := Cr hx
       obtain ⟨v, e3, e4⟩ := Cr hy
       exact CK h fun J σ => Y.min2 (by rw [ev e1, e2]) (by rw [ev e3, e4])
     · cases h
   · rename_i x y h1 h2
     simp only at h1 h2 h
     have : AUn = #[x, y] := by rw [← Array.toList_inj]; simpa using h2
     subst this h1
     split at h
     · rename_i k a k' b hx hy
       obtain ⟨u, e1, e2⟩ := Cr hx
       obtain ⟨v, e3, e4⟩ := Cr hy
       exact CK h fun J σ => Y.max2 (by rw [ev e1, e2]) (by rw [ev e3, e4])
     · cases h
   · cases h
 · cases h
end Tw
end
section
namespace Tw
open Go
variable [Ht]
def jC : List Nat → Nat → Bool
 | [], _ => false
 | x :: l, n => Nat.beq x n || jC l n
theorem Vy : ∀ {l : List Nat} {n : Nat}, jC l n = true → n ∈ l
 | x :: l, n, h => by
   simp only [jC, Bool.or_eq_true] at h
   rcases h with h | h
   · exact (Nat.eq_of_beq_eq_true h) ▸ List.mem_cons_self ..
   · exact List.mem_cons_of_mem _ (Vy h)
def AK (P : Program) (l : List Nat) : Prop := ∀ f ∈ l, Enters P f
theorem AK.nil {P : Program} : AK P [] := fun f h => by cases h
theorem AK.cons {P : Program} {f : Nat} {l : List Nat} (h : Enters P f) (hl : AK P l) : AK P (f :: l) := fun x hx => by
 rcases List.mem_cons.1 hx with rfl | hx
 · exact h
 · exact hl x hx
abbrev KP := Hp → Hp → Prop → Prop
def NU (gen : Vl → (SV → Vl → Prop) → Prop) (dst : Option Nat) (s : S) (σ0 : Hp) (v : Value) (kp : KP) (K : S → Prop) : Prop := match dst with
 | none => kp σ0 s.σ (K s)
 | some d => match s.ok with
   | true => gen s.vl fun x vl => eqV x vl v (kp σ0 s.σ (K ((s.w vl).put (some d) x)))
   | false => False
def Sx (gen : Vl → (SV → Vl → Prop) → Prop) : Prop := ∀ vl k, gen vl k → ∃ a w, vl.Le w ∧ k a w
theorem ZX {P : Program} {t : TypeId} : Sx (jA P t) := fun _ _ h => Su h
def jD : Vl → (SV → Vl → Prop) → Prop := fun vl k => ∃ m : Nat, k (.at (.mp (some m))) vl
theorem eB : Sx jD := fun vl k ⟨m, h⟩ => ⟨_, _, .refl _, h⟩
def jE : Vl → (SV → Vl → Prop) → Prop := fun vl k => ∃ v : Value, k (.at (.raw v)) vl
theorem eC : Sx jE := fun vl k ⟨m, h⟩ => ⟨_, _, .refl _, h⟩
def PQ (P : Program) (t : TypeId) (two : Bool) : Vl → (SV → Vl → Prop) → Prop := fun vl k => match two with
 | false => mz P t vl fun a vl => k (.v a) vl
 | true => mz P t vl fun a vl => ∃ b : Bool, k (.Se [a, .a (.bs vl.β.length false)]) (vl.ZC (.var b))
theorem ZY {P : Program} {t : TypeId} {two : Bool} : Sx (PQ P t two) := fun vl k h => by
 cases two with
 | false => unfold PQ at h; obtain ⟨a, w, h1, h⟩ := Ec h; exact ⟨_, _, h1, h⟩
 | true => unfold PQ at h; obtain ⟨a, w, h1, b, h⟩ := Ec h; exact ⟨_, _, h1.trans (Vl.bZ _ _), h⟩
def jF (P : Program) (t u : TypeId) : Vl → (SV → Vl → Prop) → Prop := fun vl k => mz P t vl fun a vl => mz P u vl fun b vl => k (.Se [a, b]) vl
theorem eD {P : Program} {t u : TypeId} : Sx (jF P t u) := fun vl k h => by
 obtain ⟨a, w, h1, h⟩ := Ec h
 obtain ⟨b, w2, h2, h⟩ := Ec h
 exact ⟨_, _, h1.trans h2, h⟩
def vq (J : Env) (s : S) (kq : Hp → Hp → Prop) (K : S → Prop) : Env → Bx → Hp → Prop := fun e' GH σ' => ∃ s', e' = s'.e J ∧ GH = s'.b ∧ σ' = s'.σ ∧ kq s.σ σ' ∧ (∀ p ∈ s.b, p ∈ GH) ∧ K s'
theorem CA {gen : Vl → (SV → Vl → Prop) → Prop} (hg : Sx gen) {dst : Option Nat} {s : S} {σ1 : Hp} {v : Value} {kp : KP} {kq : Hp → Hp → Prop} {K : S → Prop} (KZ : ∀ σ0 σ1 F, kp σ0 σ1 F → F ∧ kq σ0 σ1)
   (h : NU gen dst (s.hp σ1) s.σ v kp K) (J : Env) : vq J s kq K (put (s.e J) dst v) s.b σ1 := by
 cases dst with
 | none =>
   obtain ⟨h1, h2⟩ := KZ _ _ _ h
   exact ⟨s.hp σ1, rfl, rfl, rfl, h2, fun _ h => h, h1⟩
 | some d =>
   simp only [NU] at h
   cases hs : (s.hp σ1).ok with
   | false => rw [hs] at h; cases h
   | true =>
     rw [hs] at h
     obtain ⟨x, w, hle, h⟩ := hg _ _ h
     obtain ⟨hv, h⟩ := eA h
     obtain ⟨h1, h2⟩ := KZ _ _ _ h
     have Jz := S.Py hs hle.le
     refine ⟨_, ?_, ?_, ?_, h2, fun _ h => h, h1⟩
     · rw [S.H5, Jz.e J, hv]; rfl
     · rw [S.H6, Jz.b]; rfl
     · rw [S.FN]; rfl
def S.boxed (s : S) (d : Option Nat) (b : Nat) (T : TypeId) (cs : List CY) : S :=
 S.put ⟨s.env, (s.vl.δ.length, T, cs) :: s.bx, s.vl.oP b, s.σ⟩ d (.at (.pt (.bx s.vl.δ.length 0)))
def oU (hid : Bool) (d : Option Nat) (T : TypeId) (cs : List CY) (s : S) (K : S → Prop) : Prop := match hid with
 | true => match s.ok && vW s.vl cs with
   | true => ∀ b : Nat, K (s.boxed d b T cs)
   | false => False
 | false => ∀ b : Nat, s.σ b = none → K ((s.hp (Hp.set s.σ b (.cells (BX s.vl cs).toArray T (0, 0)))).put d (.at (.pt (.at b 0))))
def jG (P : Program) (T : TypeId) : Option Value := match P.info? T with
 | some it => it.zero
 | none => none
theorem Sz {P : Program} {T : TypeId} {z : Value} (h : jG P T = some z) : ∀ w, (zeroValue T).run P w = .ok z w := fun w => by
 unfold jG at h
 split at h
 · rename_i it hi
   simp [zeroValue, typeInfo, hi, h]
 · cases h
structure ZZ where
 P : Program
 R : Rr
 Cj : List Nat
 hid : List Nat
 wr : Bool
def ZZ.bc (c : ZZ) (d : Option Nat) : Bool := match d with
 | some d => jC c.hid d
 | none => false
def jH (c : ZZ) (dst : Option Nat) (x : Operand) (xs : List Operand) (ty : TypeId) (s : S) (kp : KP) (K : S → Prop) : Prop := match s.op x, s.Vr xs with
 | some (.v (.a (.fn f a b))), some vs => match jC c.Cj f with
   | true => Spec c.P f (a.toList ++ (Fm s.vl vs ++ b.toList)).toArray s.σ (AB c.R fun v σ1 => NU (jA c.P ty) dst (s.hp σ1) s.σ v kp K)
   | false => False
 | some (.v (.a (.raw u))), some vs => ∃ (f : Nat) (fst cap : Array Value), u = .func (.func f) fst cap ∧ Enters c.P f ∧ Spec c.P f (fst ++ (Fm s.vl vs).toArray ++ cap) s.σ (AB c.R fun v σ1 => NU (jA c.P ty) dst (s.hp σ1) s.σ v kp K)
 | _, _ => False
def biV (c : ZZ) (dst : Option Nat) (b : Builtin) (xs : List Operand) (ts : Array TypeId) (ty : TypeId) (s : S) (kp : KP) (K : S → Prop) : Prop := match s.Vr xs with
 | none => False
 | some vs => match b, xs with
   | .append, [_, _] => AJ c.P (Builtin.append_ ts ty (Fm s.vl vs).toArray) s.σ (fun v σ1 => NU (jA c.P ty) dst (s.hp σ1) s.σ v kp K)
   | .copy, [_, _] => AJ c.P (Builtin.copy_ ts ty (Fm s.vl vs).toArray) s.σ (fun v σ1 => NU (jA c.P ty) dst (s.hp σ1) s.σ v kp K)
   | .delete, [_, _] => AJ c.P (Builtin.delete_ ts ty (Fm s.vl vs).toArray) s.σ (fun v σ1 => NU (jA c.P ty) dst (s.hp σ1) s.σ v kp K)
   | .clear, [_] => AJ c.P (Builtin.clear_ ts ty (Fm s.vl vs).toArray) s.σ (fun v σ1 => NU (jA c.P ty) dst (s.hp σ1) s.σ v kp K)
   | _, _ => False
def eE (c : ZZ) (dst : Option Nat) (op : Op) (ty : TypeId) (s : S) (kp : KP) (K : S → Prop) : Prop := match op with
 | .call cl => match cl.callee with
   | .value x => jH c dst x cl.args.toList ty s kp K
   | .builtin b => biV c dst b cl.args.toList cl.argTypes ty s kp K
   | _ => False
 | .box T x => match s.op x with
   | some v => match v.flat with
     | some cs => oU (c.bc dst) dst T cs s K
     | none => False
   | none => False
 | .alloc T => match jG c.P T with
   | some z => oU (c.bc dst) dst T (OB z.cells.toList) s K
   | none => False
 | .buildSlice T m ps => match c.P.underlying T, s.parts ps.toList with
   | some (.slice E), some vs => match Program.Js c.P E m (Lk s.vl vs) with
     | some cs => ∀ b : Nat, s.σ b = none → K ((s.hp (Hp.set s.σ b (.cells cs E (0, 0)))).put dst (.at (.sl (.at b 0) m m)))
     | none => False
   | _, _ => False
 | .store T x y => match dst, iw (s.op x), s.op y with
   | none, some (.at b o), some v => AJ c.P (Instr.storeAt T (.pointer (some ⟨b, o, none⟩)) (v.den s.vl)) s.σ (fun _ σ1 => kp s.σ σ1 (K (s.hp σ1)))
   | _, _, _ => False
 | .convert T T' x => match s.op x with
   | some v => AJ c.P (convert T T' (v.den s.vl)) s.σ (fun v σ1 => NU (jA c.P ty) dst (s.hp σ1) s.σ v kp K)
   | none => False
 | .makeMap T none => AJ c.P (Instr.makeMap T none) s.σ (fun v σ1 => NU jD dst (s.hp σ1) s.σ v kp K)
 | .lookup T x y two => match c.P.underlying T, s.op x, s.op y with
   | some (.map _ t), some u, some v => AJ c.P (Instr.lookup T (u.den s.vl) (v.den s.vl) two) s.σ (fun v σ1 => NU (PQ c.P t two) dst (s.hp σ1) s.σ v kp K)
   | _, _, _ => False
 | .range T x => match s.op x with
   | some v => AJ c.P (Instr.range T (v.den s.vl)) s.σ (fun v σ1 => NU jE dst (s.hp σ1) s.σ v kp K)
   | none => False
 | _ => False
section
variable {g : Gl} {ops : Array Oper} {i : Nat} {J : Env} {dst : Option Nat} {op : Op} {ty : TypeId} {gd : Option (Nat × Bool)} {s : S} {kp : KP} {kq : Hp → Hp → Prop} {K : S → Prop} {c : ZZ}
theorem Vz {x : Operand} {xs : Array Operand} {ts : Array TypeId} (hP : c.P = g.P) (hR : c.R = g.R) (hE : AK g.P c.Cj) (KZ : ∀ σ0 σ1 F, kp σ0 σ1 F → F ∧ kq σ0 σ1)
   (hs : sig ops i = some (dst, .call { callee := .value x, args := xs, argTypes := ts }, ty, gd)) (hw : Aa ops (s.e J) gd = true) (hd : HI dst g.n = true) (h : jH c dst x xs.toList ty s kp K) : AV g ops i (s.e J) s.b s.σ (vq J s kq K) := by
 unfold jH at h
 rw [hP, hR] at h
 split at h
 · rename_i f a b vs hx sL
   split at h
   · rename_i hm
     refine AV.call hs hw hd (fun o ho _ w => NM (hE f (Vy hm)) (fst := a) (cap := b) (vs := (Fm s.vl vs).toArray) (by rw [ev hx]; rfl) (by simpa using FP sL) ?_ o ho w) (h.mono fun e σ1 hr => ?_)
     · rw [← Array.toList_inj]; simp
     · cases e with
       | returned v => exact CA ZX KZ hr J
       | panicked ch => exact hr
       | outgrown => exact hr
   · cases h
 · rename_i u vs hx sL
   obtain ⟨f, fst, cap, hu, Jr, h⟩ := h
   refine AV.AAr hs hw hd (u := u) (vs := (Fm s.vl vs).toArray) (by rw [ev hx]; rfl) (by simpa using FP sL) hu Jr (h.mono fun e σ1 hr => ?_)
   cases e with
   | returned v => exact CA ZX KZ hr J
   | panicked ch => exact hr
   | outgrown => exact hr
 · cases h
theorem V0 {T : TypeId} {cs : List CY} {hid : Bool} (NV : ∀ σ0 σ1, Ext σ0 σ1 → kq σ0 σ1) (h : oU hid dst T cs s K) :
   (hid = true → ∀ b, vq J s kq K (put (s.e J) dst (.pointer (some ⟨b, 0, none⟩))) ((b, .cells (BX s.vl cs).toArray T (0, 0)) :: s.b) s.σ) ∧
   (hid = false → ∀ b, s.σ b = none → vq J s kq K (put (s.e J) dst (.pointer (some ⟨b, 0, none⟩))) s.b (s.σ.set b (.cells (BX s.vl cs).toArray T (0, 0)))) := by
 unfold oU at h
 constructor
 · rintro rfl b
   simp only at h
   cases hs : s.ok && vW s.vl cs with
   | false => rw [hs] at h; cases h
   | true =>
     rw [hs] at h
     simp only [Bool.and_eq_true] at hs
     have h := h b
     have hle := Vl.oR s.vl b
     have Jz := S.Py hs.1 hle
     have hb : (S.boxed s dst b T cs).b = (b, Obj.cells (BX s.vl cs).toArray T (0, 0)) :: s.b := by
       unfold S.boxed
       rw [S.H6]
       simp only [S.b, Es]
       have hbv : Es (s.vl.oP b) s.bx = Es s.vl s.bx := Jz.b
       rw [PO hle hs.2, hbv]
       show (nth 0 (s.vl.δ ++ [b]) s.vl.δ.length, _) :: _ = _
       rw [KY]
     refine ⟨_, ?_, hb.symm, ?_, NV _ _ (Ext.refl _), fun _ h => List.mem_cons_of_mem _ h, h⟩
     · unfold S.boxed
       rw [S.H5]
       have := Jz.e J
       show put (s.e J) dst _ = put ((s.w (s.vl.oP b)).e J) dst (.pointer (some ⟨nth 0 (s.vl.δ ++ [b]) s.vl.δ.length, 0, none⟩))
       rw [this, KY]
     · unfold S.boxed; rw [S.FN]
 · rintro rfl b hb
   have h := h b hb
   refine ⟨_, ?_, ?_, ?_, NV _ _ (.set hb), fun _ h => h, h⟩
   · rw [S.H5]; rfl
   · rw [S.H6]; rfl
   · rw [S.FN]; rfl
theorem eF {b : Builtin} {xs : Array Operand} {ts : Array TypeId} (hP : c.P = g.P) (KZ : ∀ σ0 σ1 F, kp σ0 σ1 F → F ∧ kq σ0 σ1)
   (hs : sig ops i = some (dst, .call { callee := .builtin b, args := xs, argTypes := ts }, ty, gd)) (hw : Aa ops (s.e J) gd = true) (hd : HI dst g.n = true) (h : biV c dst b xs.toList ts ty s kp K) : AV g ops i (s.e J) s.b s.σ (vq J s kq K) := by
 unfold biV at h
 rw [hP] at h
 split at h
 · cases h
 · rename_i vs sL
   have two : ∀ {x y : Operand}, xs.toList = [x, y] → xs = #[x, y] ∧ Fm s.vl vs = [AE (s.e J) x, AE (s.e J) y] := fun hx => by
     refine ⟨by rw [← Array.toList_inj]; simpa using hx, ?_⟩
     rw [← FP (J := J) sL, hx]; rfl
   have one : ∀ {x : Operand}, xs.toList = [x] → xs = #[x] ∧ Fm s.vl vs = [AE (s.e J) x] := fun hx => by
     refine ⟨by rw [← Array.toList_inj]; simpa using hx, ?_⟩
     rw [← FP (J := J) sL, hx]; rfl
   split at h
   · rename_i x y hx
     obtain ⟨rfl, e⟩ := two hx
     rw [e] at h
     exact AV.Tz hs hw hd _ (fun o ho ht => ED rfl rfl o ho ht) (h.mono fun v σ1 hr => CA ZX KZ hr J)
   · rename_i x y hx
     obtain ⟨rfl, e⟩ := two hx
     rw [e] at h
     exact AV.Tz hs hw hd _ (fun o ho ht => Ea rfl rfl o ho ht) (h.mono fun v σ1 hr => CA ZX KZ hr J)
   · rename_i x y hx
     obtain ⟨rfl, e⟩ := two hx
     rw [e] at h
     exact AV.Tz hs hw hd _ (fun o ho ht => Ry rfl rfl o ho ht) (h.mono fun v σ1 hr => CA ZX KZ hr J)
   · rename_i x hx
     obtain ⟨rfl, e⟩ := one hx
     rw [e] at h
     exact AV.Tz hs hw hd _ (fun o ho ht => T6 rfl o ho ht) (h.mono fun v σ1 hr => CA ZX KZ hr J)
   · cases h
theorem P6 (hP : c.P = g.P) (hR : c.R = g.R) (hE : AK g.P c.Cj) (KZ : ∀ σ0 σ1 F, kp σ0 σ1 F → F ∧ kq σ0 σ1) (NV : ∀ σ0 σ1, Ext σ0 σ1 → kq σ0 σ1)
   (hs : sig ops i = some (dst, op, ty, gd)) (hw : Aa ops (s.e J) gd = true) (hd : HI dst g.n = true) (h : eE c dst op ty s kp K) : AV g ops i (s.e J) s.b s.σ (vq J s kq K) := by
 unfold eE at h
 split at h
 · rename_i cl
   obtain ⟨ce, xs, ts⟩ := cl
   split at h
   · rename_i x hx
     simp only at hx h
     subst hx
     exact Vz hP hR hE KZ hs hw hd h
   · rename_i b hx
     simp only at hx h
     subst hx
     exact eF hP KZ hs hw hd h
   · cases h
 · rename_i T x
   split at h
   · rename_i v hv
     split at h
     · rename_i cs hc
       obtain ⟨h1, h2⟩ := V0 (J := J) NV h
       have hx : (AE (s.e J) x).cells = (BX s.vl cs).toArray := by rw [ev hv, Vv hc]
       cases hh : c.bc dst with
       | true => exact AV.box hs hw hd hx (h1 hh)
       | false => exact AV.AAm hs hw hd hx (h2 hh)
     · cases h
   · cases h
 · rename_i T
   split at h
   · rename_i z hz
     obtain ⟨h1, h2⟩ := V0 (J := J) NV h
     have hx : z.cells = (BX s.vl (OB z.cells.toList)).toArray := by rw [H7]
     rw [hP] at hz
     cases hh : c.bc dst with
     | true => exact AV.alloc hs hw hd (Sz hz) hx (h1 hh)
     | false => exact AV.Ty hs hw hd (Sz hz) hx (h2 hh)
   · cases h
 · rename_i T m ps
   rw [hP] at h
   split at h
   · rename_i E vs hT sL
     split at h
     · rename_i cs hc
       refine AV.Js hT hs hw hd (Ll sL) hc fun b hb => ?_
       refine ⟨_, ?_, ?_, ?_, NV _ _ (.set hb), fun _ h => h, h b hb⟩
       · rw [S.H5]; rfl
       · rw [S.H6]; rfl
       · rw [S.FN]; rfl
     · cases h
   · cases h
 · rename_i T x y
   split at h
   · rename_i b o v hx hy
     obtain ⟨u, e1, e2⟩ := Eu hx
     rw [hP] at h
     refine AV.store hs hw (p := .pointer (some ⟨b, o, none⟩)) (by rw [ev e1, e2]; rfl) (ev hy) (h.mono fun _ σ1 hr => ?_)
     obtain ⟨h1, h2⟩ := KZ _ _ _ hr
     exact ⟨s.hp σ1, rfl, rfl, rfl, h2, fun _ h => h, h1⟩
   · cases h
 · rename_i T T' x
   split at h
   · rename_i v hv
     rw [hP] at h
     exact AV.Tz hs hw hd _ (fun o ho ht => by simp only [execOp, ho]; rw [ev hv]) (h.mono fun v σ1 hr => CA ZX KZ hr J)
   · cases h
 · rename_i T
   rw [hP] at h
   exact AV.Tz hs hw hd _ (fun o ho ht => by simp only [execOp, ho]; rfl) (h.mono fun v σ1 hr => CA eB KZ hr J)
 · rename_i T x y two
   rw [hP] at h
   split at h
   · rename_i a t u v hT hu hv
     exact AV.Tz hs hw hd _ (fun o ho ht => by simp only [execOp, ho]; rw [ev hu, ev hv]) (h.mono fun v σ1 hr => CA ZY KZ hr J)
   · cases h
 · rename_i T x
   split at h
   · rename_i v hv
     rw [hP] at h
     exact AV.Tz hs hw hd _ (fun o ho ht => by simp only [execOp, ho]; rw [ev hv]) (h.mono fun v σ1 hr => CA eC KZ hr J)
   · cases h
 · cases h
end
end Tw
end
section
namespace Tw
open Go
variable [Ht]
def jI (P : Program) : Op → Bool
 | .call c => match c.callee with
   | .builtin .len => false
   | .builtin .cap => false
   | .builtin .min => false
   | .builtin .max => false
   | _ => true
 | .convert T T' _ => match P.underlying T, P.underlying T' with
   | some (.int _), some (.int _) => false
   | _, _ => true
 | .box .. => true
 | .alloc .. => true
 | .store .. => true
 | .buildSlice .. => true
 | .makeSlice .. => true
 | .mapUpdate .. => true
 | .makeMap .. => true
 | .insert .. => true
 | .range .. => true
 | .next .. => true
 | .lookup .. => true
 | .entryStore .. => true
 | .mapEntry .. => true
 | .makeChan .. => true
 | _ => false
def eG (s : S) : Option Operand → Option (Option Value)
 | none => some none
 | some x => match s.op x with
   | some v => some (some (v.den s.vl))
   | none => none
def oV (P : Program) (b : BinOp) (T : TypeId) (x y : Option SV) : Bool := match Iq x, Iq y with
 | some _, some _ => true
 | _, _ => match P.underlying T with
   | some .string => match b with
     | .eql => true
     | .neq => true
     | .add => true
     | _ => false
   | some (.pointer _) => true
   | some .bool => true
   | _ => false
def AIO : Option SV → Bool
 | some (.v (.a (.sl _ _ _))) => true
 | _ => false
def anyM (P : Program) (op : Op) (ty : TypeId) (s : S) : Option (Sem Value) := match op with
 | .slice T x lo hi mx => match AIO (s.op x) && mx.isNone with
   | true => none
   | false => match s.op x, eG s lo, eG s hi, eG s mx with
     | some w, some l, some h, some m => some (Instr.sliceAt T (w.den s.vl) l h m)
     | _, _, _, _ => none
 | .unOp u _ x => match u, s.op x with
   | .not, _ => none
   | .neg, v => match Iq v, v with
     | some _, _ => none
     | none, some v => some (Op.unary .neg (v.den s.vl))
     | none, none => none
   | u, some v => some (Op.unary u (v.den s.vl))
   | _, none => none
 | .binOp b T x y _ => match oV P b T (s.op x) (s.op y) with
   | true => none
   | false => match s.op x, s.op y with
     | some u, some v => some (do eqGuard b T x y (u.den s.vl) (v.den s.vl); binOp b T (u.den s.vl) (v.den s.vl))
     | _, _ => none
 | .call c => match c.callee, c.args.toList, c.argTypes.toList with
   | .builtin .len, [x], [T] => match s.op x with
     | some (.v (.a (.mp m))) => some (Builtin.len_ #[T] ty #[.map m])
     | _ => none
   | _, _, _ => none
 | _ => none
theorem NW {s : S} {J : Env} {x : Option Operand} {v : Option Value} (h : eG s x = some v) : x.map (AE (s.e J)) = v := by
 cases x with
 | none => simp only [eG, Option.some.injEq] at h; subst h; rfl
 | some x =>
   simp only [eG] at h
   split at h
   · rename_i u hu
     cases h
     simp only [Option.map_some]
     rw [ev hu]
   · cases h
theorem eH {P : Program} {op : Op} {ty : TypeId} {s : S} {m : Sem Value} (h : anyM P op ty s = some m) (J : Env) : ∀ o : Oper, o.op = op → o.type = ty → execOp (AE (s.e J)) o = (do pure (Next.value (← m))) := fun o ho ht => by
 unfold anyM at h
 split at h
 · rename_i T x lo hi mx
   split at h
   · cases h
   · split at h
     · rename_i w l hh mm h1 h2 h3 h4
       cases h
       simp only [execOp, ho, NW h2, NW h3, NW h4, ev h1]
     · cases h
 · rename_i u T x
   split at h
   · cases h
   · split at h
     · cases h
     · rename_i hv
       cases h
       simp only [execOp, ho, ev hv]
     · cases h
   · rename_i hv
     cases h
     simp only [execOp, ho, ev hv]
   · cases h
 · rename_i b T x y T'
   split at h
   · cases h
   · split at h
     · rename_i u v hu hv
       cases h
       simp only [execOp, ho, ev hu, ev hv]
     · cases h
 · rename_i c
   obtain ⟨ce, AUn, ts⟩ := c
   split at h
   · rename_i x T h1 h2 h3
     simp only at h1 h2 h3
     have e1 : AUn = #[x] := by rw [← Array.toList_inj]; simpa using h2
     have e2 : ts = #[T] := by rw [← Array.toList_inj]; simpa using h3
     subst h1 e1 e2
     split at h
     · rename_i mm hx
       cases h
       exact ZB (by rw [ev hx]; rfl) o ho ht
     · cases h
   · cases h
 · cases h
def vr (P : Program) (ty : TypeId) (m : Sem Value) (s : S) (K : SV → S → Prop) : Prop := s.ex P ty fun v s => YF P m s.σ (v.den s.vl) ∧ K v s
theorem P7 {P : Program} {op : Op} {ty : TypeId} {s : S} {m : Sem Value} {K : SV → S → Prop} (hm : anyM P op ty s = some m) (h : vr P ty m s K) : ∃ v s', s.Same s' ∧ (∀ J, Yd P (s.e J) s.b s.σ op ty (v.den s'.vl)) ∧ K v s' := by
 obtain ⟨v, s', h1, hy, hk⟩ := S.P5 h
 rw [h1.σ] at hy
 exact ⟨v, s', h1, fun J => Yd.any (eH hm J) hy, hk⟩
def P8 (ops : Array Oper) (gd : Option (Nat × Bool)) (s : S) (K : Bool → S → Prop) : Prop := match gd with
 | none => K true s
 | some (j, want) => match (ops[j]?).bind (·.dst) with
   | none => False
   | some d => match UJ s.env d with
     | some (.v (.a .un)) => K false s
     | v => s.oS v fun t s => K (t == want) s
theorem Ir {ops : Array Oper} {gd : Option (Nat × Bool)} {s : S} {K : Bool → S → Prop} (h : P8 ops gd s K) : ∃ b s', s.Same s' ∧ (∀ J, Aa ops (s.e J) gd = b) ∧ K b s' := by
 unfold P8 at h
 split at h
 · exact ⟨true, s, .refl s, fun _ => rfl, h⟩
 · rename_i j want
   split at h
   · cases h
   · rename_i d hd
     split at h
     · rename_i hv
       refine ⟨false, s, .refl s, fun J => ?_, h⟩
       have : s.e J d = undef := Eb hv
       simp only [Aa, hd, this]
       rfl
     · obtain ⟨t, s', x, h1, h2, h3, h4, h⟩ := S.FO h
       refine ⟨_, s', h1, fun J => ?_, h⟩
       have : s.e J d = .bool t := (Eb h3).trans h4
       simp only [Aa, hd, this]
       cases t <;> cases want <;> rfl
def bf (J : Env) (K : S → Prop) : Env → Bx → Hp → Prop := fun e bx σ => ∃ s, e = s.e J ∧ bx = s.b ∧ σ = s.σ ∧ K s
structure Cx extends ZZ where
 n : Nat
 rng : List (Nat × TypeId) := []
structure Cx.Ok (c : Cx) (g : Gl) : Prop where
 P : c.P = g.P
 R : c.R = g.R
 E : AK g.P c.Cj
 n : c.n = g.n
 Gd : g.Gd = none
 ds : g.ds = []
def kp0 : KP := fun _ _ F => F
def eI (l : List FM) (i : Nat) (o : Nat) (xs : List CY) : List FM := match l with
 | [] => []
 | (j, t, cs) :: l => bif Nat.beq j i then (j, t, ZT cs o xs) :: l else (j, t, cs) :: eI l i o xs
def P9 {α : Type} : List α → Nat
 | [] => 0
 | _ :: l => P9 l + 1
theorem PR {α : Type} : ∀ l : List α, P9 l = l.length
 | [] => rfl
 | _ :: l => by simp only [P9, List.length_cons]; rw [PR l]
def NX : List CY → List Value
 | [] => []
 | .raw v :: l => v :: NX l
 | .un :: l => undef :: NX l
 | _ :: l => NX l
def vt (F : Prop) : List Value → Prop
 | [] => F
 | [v] => (Value.oneCell' v = true) ∧ F
 | l => vu l ∧ F
where
 vu : List Value → Prop
   | [] => True
   | [v] => Value.oneCell' v = true
   | v :: l => Value.oneCell' v = true ∧ vu l
def SV.Za : SV → Option (List CY)
 | .v (.a x) => some [x]
 | .v (.agg l) => some l
 | .Se _ => none
def mapOf (P : Program) (l : List (Nat × TypeId)) (x : Operand) : Option (TypeId × TypeId) := match x with
 | .tmp t => match l.find? fun p => Nat.beq p.1 t with
   | some p => match P.underlying p.2 with
     | some (.map k v) => some (k, v)
     | _ => none
   | none => none
 | _ => none
def jJ (c : Cx) (dst : Option Nat) (x : Operand) (ty : TypeId) (s : S) (K : S → Prop) : Prop := match dst, s.op x, mapOf c.P c.rng x with
 | some d, some u, some (tk, tv) => AJ c.P (Instr.next (u.den s.vl) false ty) s.σ (fun v σ1 => (v = (.tuple #[(.bool false)]) ∧ K ((s.hp σ1).put (some d) (.Se [.a (.bl false)]))) ∨
     (match s.ok with
       | true => mz c.P tk s.vl fun a vl => mz c.P tv vl fun b vl => v = (SV.Se [.a (.bl true), a, b]).den vl ∧ K (((s.hp σ1).w vl).put (some d) (.Se [.a (.bl true), a, b]))
       | false => False))
 | _, _, _ => False
def vv (c : Cx) (T : TypeId) (i o : Nat) (v : SV) (s : S) (K : S → Prop) : Prop := match v.Za, Ya c.P T with
 | some l, some n => match Vw s.bx i with
   | some (t, cs) => match Nat.beq (P9 l) n && Nat.ble (o + P9 l) (P9 cs) with
     | true => vt (K ⟨s.env, eI s.bx i o l, s.vl, s.σ⟩) (NX l)
     | false => False
   | none => False
 | _, _ => False
def jK (c : Cx) (ops : Array Oper) (i : Nat) (s : S) (K : S → Prop) : Prop := match ops[i]? with
 | none => False
 | some o => match HI o.dst c.n with
   | false => False
   | true => P8 ops o.guard s fun b s => match b with
     | false => K (s.put o.dst (.at .un))
     | true => match o.op with
       | .load T x => ldV c.P T x s fun _ v s => K (s.put o.dst v)
       | .mapUpdate T m k v => match o.dst, s.op m, s.op k, s.op v with
         | none, some m, some k, some v => AJ c.P (Instr.mapUpdate T (m.den s.vl) (k.den s.vl) (v.den s.vl)) s.σ (fun _ σ1 => K (s.hp σ1))
         | _, _, _, _ => False
       | .next x false => jJ c o.dst x o.type s K
       | .entry x => match s.op x, mapOf c.P c.rng x with
         | some u, some (tk, tv) => AJ c.P (Instr.entry (u.den s.vl)) s.σ (fun v σ1 => NU (jF c.P tk tv) o.dst (s.hp σ1) s.σ v kp0 K)
         | _, _ => False
       | .panic x => match s.op x with
         | some (.v (.a (.raw (.iface T u)))) => c.R (.panicked [{ v := .iface T u, recovered := false }]) s.σ
         | _ => False
       | .store T x y => match o.dst, iw (s.op x), s.op y with
         | none, some (.bx i b), some v => vv c T i b v s K
         | _, _, _ => eE c.toZZ o.dst (.store T x y) o.type s kp0 K
       | op => match jI c.P op, anyM c.P op o.type s with
         | true, _ => eE c.toZZ o.dst op o.type s kp0 K
         | false, some m => vr c.P o.type m s fun v s => K (s.put o.dst v)
         | false, none => yv c.P c.wr op s fun v s => K (s.put o.dst v)
def oW (c : Cx) (ops : Array Oper) : List Nat → S → (S → Prop) → Prop
 | [], s, K => K s
 | i :: is, s, K => jK c ops i s fun s => oW c ops is s K
section
variable {g : Gl} {ops : Array Oper} {i : Nat} {J : Env} {s : S} {K : S → Prop} {c : Cx}
theorem bg {s s' : S} {K : Env → Bx → Hp → Prop} (h : s.Same s') (hk : AV g ops i (s'.e J) s'.b s'.σ K) : AV g ops i (s.e J) s.b s.σ K := by
 rw [← h.e J, ← h.b, ← h.σ]; exact hk
theorem AA9 {s : S} {o : Oper} {K : SV → S → Prop} {K' : Env → Bx → Hp → Prop} (ho : ops[i]? = some o) (hw : Aa ops (s.e J) o.guard = true) (hd : HI o.dst g.n = true) (h : YP g.P o.op o.type s K) (hk : ∀ v s', s.Same s' → K v s' → K' ((s'.put o.dst v).e J) s'.b s'.σ) :
   AV g ops i (s.e J) s.b s.σ K' := by
 obtain ⟨v, s', h1, h2, h3⟩ := h
 have := hk v s' h1 h3
 rw [S.H5, h1.e J, h1.b, h1.σ] at this
 exact AV.y (D3 ho) hw hd (h2 J _) this
theorem Yd.up {P : Program} {e : Env} {bx : Bx} {σ : Hp} {b : Nat} {op : Op} {ty : TypeId} {v : Value} (h : Yd P e bx (fun x => if x = b then σ x else none) op ty v) : Yd P e bx σ op ty v := fun o ho ht w hs hb => h o ho ht w (fun k u hk => by
 simp only at hk
 split at hk
 · exact hs k u hk
 · cases hk) hb
theorem AV.mono {e : Env} {bx : Bx} {σ : Hp} {K K' : Env → Bx → Hp → Prop} (h : AV g ops i e bx σ K) (hk : ∀ e bx σ, K e bx σ → K' e bx σ) : AV g ops i e bx σ K' := fun w0 F a w st => wpOpIn_mono (fun a' w' ⟨e', b', σ', MB, h'⟩ => ⟨e', b', σ', MB, hk _ _ _ h'⟩) (h w0 F a w st)
theorem ABA {dst : Option Nat} {op : Op} {ty : TypeId} {gd : Option (Nat × Bool)} (hc : c.Ok g) (hs : sig ops i = some (dst, op, ty, gd)) (hw : Aa ops (s.e J) gd = true) (hd : HI dst g.n = true) (h : eE c.toZZ dst op ty s kp0 K) : AV g ops i (s.e J) s.b s.σ (bf J K) := by
 have := P6 (c := c.toZZ) (kq := fun _ _ => True) (J := J) hc.P hc.R hc.E (fun _ _ F h => ⟨h, trivial⟩) (fun _ _ _ => trivial) hs hw hd h
 intro w0 F a w st
 refine wpOpIn_mono ?_ (this w0 F a w st)
 rintro a' w' ⟨e', GH, σ', MB, s', rfl, rfl, rfl, _, _, hk⟩
 exact ⟨_, _, _, MB, s', rfl, rfl, rfl, hk⟩
theorem V1 {dst : Option Nat} {x : Operand} {ty : TypeId} {gd : Option (Nat × Bool)} (hc : c.Ok g) (hs : sig ops i = some (dst, .next x false, ty, gd)) (hw : Aa ops (s.e J) gd = true) (hd : HI dst g.n = true) (h : jJ c dst x ty s K) : AV g ops i (s.e J) s.b s.σ (bf J K) := by
 unfold jJ at h
 split at h
 · rename_i d u tk tv hu hm
   rw [hc.P] at h
   refine AV.Tz hs hw hd (Instr.next (u.den s.vl) false ty) (fun o ho ht => by simp only [execOp, ho, ht]; rw [ev hu]) (h.mono fun v σ1 hr => ?_)
   rcases hr with ⟨rfl, hk⟩ | hr
   · exact ⟨_, (S.H5 (s := s.hp σ1) (x := .Se [.a (.bl false)])).symm, (S.H6 (s := s.hp σ1) (x := .Se [.a (.bl false)])).symm, (S.FN (s := s.hp σ1) (x := .Se [.a (.bl false)])).symm, hk⟩
   · split at hr
     · rename_i Ap
       obtain ⟨a, w1, h1, hr⟩ := Ec hr
       obtain ⟨b, w2, h2, hr⟩ := Ec hr
       obtain ⟨hv, hk⟩ := hr
       have Jz := S.Py (s := s.hp σ1) Ap (h1.trans h2).le
       refine ⟨_, ?_, ?_, ?_, hk⟩
       · rw [S.H5, Jz.e J, hv]; rfl
       · rw [S.H6, Jz.b]; rfl
       · rw [S.FN]; rfl
     · cases hr
 · cases h
theorem V2 {vl : Vl} {i o : Nat} {l : List CY} : ∀ {bx : List FM} {t : TypeId} {cs : List CY}, Vw bx i = some (t, cs) → ∃ j, (Es vl bx)[j]? = some (nth 0 vl.δ i, .cells (BX vl cs).toArray t (0, 0)) ∧ Es vl (eI bx i o l) = (Es vl bx).set j (nth 0 vl.δ i, .cells (BX vl (ZT cs o l)).toArray t (0, 0))
 | (k, u, ds) :: r, t, cs, h => by
   simp only [Vw] at h
   cases hk : Nat.beq k i with
   | true =>
     rw [hk] at h; simp only [cond_true, Option.some.injEq, Prod.mk.injEq] at h
     obtain ⟨rfl, rfl⟩ := h
     have := Nat.eq_of_beq_eq_true hk
     subst this
     exact ⟨0, rfl, by simp only [eI, hk, cond_true, Es, List.set_cons_zero]⟩
   | false =>
     rw [hk] at h; simp only [cond_false] at h
     obtain ⟨j, h1, h2⟩ := V2 (vl := vl) (o := o) (l := l) h
     exact ⟨j + 1, by simpa only [Es, List.getElem?_cons_succ] using h1, by simp only [eI, hk, cond_false, Es, List.set_cons_succ, h2]⟩
theorem Zb {F : Prop} {l : List Value} (h : vt F l) : F ∧ ∀ v ∈ l, Value.oneCell' v = true := by
 have cj : ∀ {l : List Value}, vt.vu l → ∀ v ∈ l, Value.oneCell' v = true := fun {l} => by
   induction l with
   | nil => intro _ v hv; cases hv
   | cons a l ih =>
     intro h v hv
     cases l with
     | nil => simp at hv; subst hv; exact h
     | cons b l =>
       rcases List.mem_cons.1 hv with rfl | hv
       · exact h.1
       · exact ih h.2 v hv
 match l, h with
 | [], h => exact ⟨h, fun v hv => by cases hv⟩
 | [v], h => exact ⟨h.2, fun u hu => by simp at hu; subst hu; exact h.1⟩
 | a :: b :: l, h => exact ⟨h.2, cj h.1⟩
theorem QA {vl : Vl} : ∀ {l : List CY}, (∀ v ∈ NX l, Value.oneCell' v = true) → ∀ u ∈ BX vl l, Value.oneCell' u = true
 | [], _, u, hu => by cases hu
 | x :: l, h, u, hu => by
   have tl : ∀ v ∈ NX l, Value.oneCell' v = true := fun v hv => h v (by cases x <;> first | exact hv | exact List.mem_cons_of_mem _ hv)
   rcases List.mem_cons.1 hu with rfl | hu
   · cases x <;> try rfl
     case bs i n => cases n <;> rfl
     case raw v => exact h v (List.mem_cons_self ..)
     case un => exact h undef (List.mem_cons_self ..)
   · exact QA tl u hu
theorem Zc {vl : Vl} {v : SV} {l : List CY} (h : v.Za = some l) (ho : ∀ u ∈ BX vl l, Value.oneCell' u = true) : (v.den vl).cells = (BX vl l).toArray := by
 unfold SV.Za at h
 split at h
 · rename_i x
   cases h
   have := ho (x.den vl) (List.mem_cons_self ..)
   simp only [SV.den, Gb.den, BX]
   cases hx : x.den vl <;> first | rfl | (rw [hx] at this; cases this)
 · cases h; rfl
 · cases h
theorem Zd {T ty : TypeId} {x y : Operand} {gd : Option (Nat × Bool)} {k b : Nat} {v : SV} (hc : c.Ok g) (hs : sig ops i = some (none, .store T x y, ty, gd)) (hw : Aa ops (s.e J) gd = true) (hx : iw (s.op x) = some (.bx k b)) (hy : s.op y = some v) (h : vv c T k b v s K) : AV g ops i (s.e J) s.b s.σ (bf J K) := by
 unfold vv at h
 split at h
 · rename_i l n hl hz
   split at h
   · rename_i t cs hg
     split at h
     · rename_i hd
       simp only [Bool.and_eq_true, PR] at hd
       obtain ⟨hk, ho⟩ := Zb h
       have Fo := QA (vl := s.vl) ho
       have jL := Zc (vl := s.vl) hl Fo
       obtain ⟨u, e1, e2⟩ := Eu hx
       obtain ⟨j, h1, h2⟩ := V2 (vl := s.vl) (o := b) (l := l) hg
       rw [hc.P] at hz
       refine AV.vK (b := nth 0 s.vl.δ k) (o := b) (c := (BX s.vl cs).toArray) (c' := (BX s.vl (ZT cs b l)).toArray) (t := t) (j := j) hs hw (DZ hz) (by rw [ev e1, e2]; rfl) (ev hy) h1 ?_ ?_ ?_ ?_ ?_
       · rw [jL]; simp [Di]; exact Nat.eq_of_beq_eq_true hd.1
       · have := Nat.eq_of_beq_eq_true hd.1
         have h3 := Nat.le_of_ble_eq_true hd.2
         exact Nat.ble_eq_true_of_le (by simp [Di]; omega)
       · rw [jL]; exact List.all_eq_true.2 fun u hu => Fo u (by simpa using hu)
       · rw [jL, P2]
       · exact ⟨⟨s.env, eI s.bx k b l, s.vl, s.σ⟩, rfl, h2.symm, rfl, hk⟩
     · cases h
   · cases h
 · cases h
theorem V3 (hc : c.Ok g) (h : jK c ops i s K) : AV g ops i (s.e J) s.b s.σ (bf J K) := by
 unfold jK at h
 split at h
 · cases h
 · rename_i o ho
   split at h
   · cases h
   · rename_i hd
     rw [hc.n] at hd
     obtain ⟨b, s1, h1, hw, h⟩ := Ir h
     have hw := hw J
     rw [← h1.e J] at hw
     refine bg h1 ?_
     cases b with
     | false => exact AV.no (D3 ho) hw hd ⟨_, (S.H5 (x := .at .un)).symm, S.H6.symm, S.FN.symm, h⟩
     | true =>
       simp only at h
       split at h
       · rename_i T x SX
         obtain ⟨m, v, s2, h2, hk, hy⟩ := Sv (ty := o.type) h
         have hs := D3 ho
         rw [SX] at hs
         refine AV.y (v := v.den s2.vl) hs hw hd ?_ ⟨s2.put o.dst v, by rw [S.H5, h2.e J], by rw [S.H6, h2.b], by rw [S.FN, h2.σ], hk⟩
         have hy := hy J
         rw [hc.P] at hy
         cases m with
         | none => exact hy _
         | some b => exact Yd.up hy
       · rename_i T m k v SX
         split at h
         · rename_i um uk uv NL hm hk hv
           have hs := D3 ho
           rw [SX, NL] at hs
           rw [hc.P] at h
           exact AV.AAn hs hw rfl _ (fun o ho ht => by simp only [execOp, ho]; rw [ev hm, ev hk, ev hv]) (h.mono fun _ σ1 hr => ⟨s1.hp σ1, rfl, rfl, rfl, hr⟩)
         · cases h
       · have SX := ‹o.op = Op.next _ false›
         have hs := D3 ho
         rw [SX] at hs
         exact V1 hc hs hw hd h
       · have SX := ‹o.op = Op.entry _›
         have hs := D3 ho
         rw [SX] at hs
         split at h
         · rename_i u tk tv hu hm
           rw [hc.P] at h
           have := AV.Tz (K := vq J s1 (fun _ _ => True) K) hs hw hd (Instr.entry (u.den s1.vl)) (fun o ho ht => by simp only [execOp, ho]; rw [ev hu]) (h.mono fun v σ1 hr => CA (kq := fun _ _ => True) eD (fun _ _ F h => ⟨h, trivial⟩) hr J)
           exact this.mono fun e bx σ ⟨s', e1, e2, e3, _, _, hk⟩ => ⟨s', e1, e2, e3, hk⟩
         · cases h
       · have SX := ‹o.op = Op.panic _›
         split at h
         · rename_i T u hx
           have hs := D3 ho
           rw [SX] at hs
           rw [hc.R] at h
           exact AV.panic hs hw (by rw [ev hx]; rfl) hc.Gd hc.ds h
         · cases h
       · have SX := ‹o.op = Op.store _ _ _›
         have hs := D3 ho
         rw [SX] at hs
         split at h
         · rename_i i' b v NL hx hy
           rw [NL] at hs
           exact Zd hc hs hw hx hy h
         · exact ABA hc hs hw hd h
       · split at h
         · exact ABA hc (D3 ho) hw hd h
         · rename_i m _ hm
           rw [hc.P] at h hm
           obtain ⟨v, s2, h2, hy, hk⟩ := P7 hm h
           exact AV.y (v := v.den s2.vl) (D3 ho) hw hd (hy J) ⟨s2.put o.dst v, by rw [S.H5, h2.e J], by rw [S.H6, h2.b], by rw [S.FN, h2.σ], hk⟩
         · rw [hc.P] at h
           exact AA9 ho hw hd (Vx h) fun v s' MC hk => ⟨s'.put o.dst v, rfl, S.H6.symm, S.FN.symm, hk⟩
theorem Lm (hc : c.Ok g) : ∀ {is : List Nat} {s : S}, oW c ops is s K → Seq g ops is (s.e J) s.b s.σ (bf J K)
 | [], s, h => ⟨s, rfl, rfl, rfl, h⟩
 | i :: is, s, h => (V3 hc h).mono fun e bx σ ⟨s', h1, h2, h3, h4⟩ => by subst h1 h2 h3; exact Lm hc h4
theorem QB {K K' : Env → Bx → Hp → Prop} (hk : ∀ e bx σ, K e bx σ → K' e bx σ) : ∀ {is : List Nat} {e : Env} {bx : Bx} {σ : Hp}, Seq g ops is e bx σ K → Seq g ops is e bx σ K'
 | [], _, _, _, h => hk _ _ _ h
 | i :: is, e, bx, σ, h => AV.mono h fun _ _ _ h => QB hk h
theorem Is {K K' : Env → Bx → Hp → Prop} (hk : ∀ e bx σ, K e bx σ → K' e bx σ) : ∀ {p : Ord} {q : Ii} {e : Env} {bx : Bx} {σ : Hp}, Jx g ops p q e bx σ K → Jx g ops p q e bx σ K'
 | .done, _, _, _, _, h => hk _ _ _ h
 | .yes i r, q, e, bx, σ, ⟨own, o, v, h1, h2, h3, h4, h5⟩ => ⟨own, o, v, h1, h2, h3, h4, Is hk h5⟩
 | .alt i r t, q, e, bx, σ, ⟨h1, h2⟩ => ⟨AV.mono h1 fun _ _ _ ⟨h3, h4⟩ => ⟨h3, Is hk h4⟩, Is hk h2⟩
 | .no, _, _, _, _, _ => trivial
def QC : Ord → List Nat
 | .done => []
 | .yes _ r => QC r
 | .alt i r _ => i :: QC r
 | .no => []
def ABB (ops : Array Oper) (i : Nat) : Nat → Nat → Option (List Nat)
 | 0, _ => none
 | f + 1, t => match Hu ops t i with
   | true => some [t]
   | false => (List.range t).findSome? fun u => match Nat.blt i u && Hu ops t u with
     | true => match ABB ops i f u with
       | some p => some (t :: p)
       | none => none
     | false => none
def waits (ops : Array Oper) (i : Nat) : List Nat → List (List Nat)
 | [] => []
 | t :: l => match ABB ops i 40 t with
   | some p => p :: waits ops i l
   | none => waits ops i l
def kpL (L : Ii) : KP := fun σ0 σ1 F => match L with
 | none => Ext σ0 σ1 ∧ F
 | some [] => F
 | some (x :: l) => Kp ((x :: l).map Prod.fst) σ0 σ1 ∧ F
def Fp (c : Cx) (ops : Array Oper) : Ord → Ii → S → (S → Prop) → Prop
 | .done, _, s, K => K s
 | .yes i r, L, s, K => match ops[i]? with
   | none => False
   | some o => match HI o.dst c.n && L.ok i with
     | false => False
     | true => P8 ops o.guard s fun b s => match b with
       | false => Fp c ops r L (s.put o.dst (.at .un)) K
       | true => match o.op with
         | .load T x => ldV c.P T x s fun m v s => match m, L with
           | none, _ => Fp c ops r L (s.put o.dst v) K
           | some _, none => Fp c ops r L (s.put o.dst v) K
           | some b, some l => match (Lh (some l) (some (b, waits ops i (QC r)))).ok i && Pm ops i (some (b, waits ops i (QC r))) with
             | true => Fp c ops r (Lh (some l) (some (b, waits ops i (QC r)))) (s.put o.dst v) K
             | false => False
         | op => match jI c.P op, anyM c.P op o.type s, L with
           | true, _, _ => False
           | false, some m, none => vr c.P o.type m s fun v s => Fp c ops r none (s.put o.dst v) K
           | false, some _, some _ => False
           | false, none, L => yv c.P c.wr op s fun v s => Fp c ops r L (s.put o.dst v) K
 | .alt i r t, L, s, K =>
   match t with
   | .no => V4 c ops i L s fun s => Fp c ops r (Fi L i) s K
   | t => (V4 c ops i L s fun s => Fp c ops r (Fi L i) s K) ∧ Fp c ops t L s K
 | .no, _, _, _ => True
where
 V4 (c : Cx) (ops : Array Oper) (i : Nat) (L : Ii) (s : S) (K : S → Prop) : Prop := match ops[i]? with
   | none => False
   | some o => match HI o.dst c.n with
     | false => False
     | true => P8 ops o.guard s fun b s => match b with
       | false => K (s.put o.dst (.at .un))
       | true => eE c.toZZ o.dst o.op o.type s (kpL (Fi L i)) K
def kqL (q : Ii) (σ σ' : Hp) : Prop := match q with
 | none => ∀ b o, σ b = some o → σ' b = some o
 | some L => ∀ x ∈ L, ∀ o, σ x.1 = some o → σ' x.1 = some o
theorem vw {q : Ii} {bx GH : Bx} {σ σ' : Hp} (h : kqL q σ σ') (hb : ∀ p ∈ bx, p ∈ GH) : Jq q bx σ GH σ' := ⟨hb, h⟩
theorem eJ {L : Ii} {σ0 σ1 : Hp} {F : Prop} (h : kpL L σ0 σ1 F) : F ∧ kqL L σ0 σ1 := by
 unfold kpL at h
 split at h
 · exact ⟨h.2, h.1⟩
 · exact ⟨h, fun x hx => by cases hx⟩
 · exact ⟨h.2, fun y hy o ho => h.1 y.1 (List.mem_map.2 ⟨y, hy, rfl⟩) o ho⟩
theorem oX {L : Ii} {σ0 σ1 : Hp} (h : Ext σ0 σ1) : kqL L σ0 σ1 := by
 cases L with
 | none => exact h
 | some l => exact fun x _ o ho => h _ _ ho
theorem V5 {L : Ii} (hc : c.Ok g) (h : Fp.V4 c ops i L s K) : AV g ops i (s.e J) s.b s.σ fun e' GH σ' => Jq (Fi L i) s.b s.σ GH σ' ∧ bf J K e' GH σ' := by
 unfold Fp.V4 at h
 split at h
 · cases h
 · rename_i o ho
   split at h
   · cases h
   · rename_i hd
     rw [hc.n] at hd
     obtain ⟨b, s1, h1, hw, h⟩ := Ir h
     have hw := hw J
     rw [← h1.e J] at hw
     have key : AV g ops i (s1.e J) s1.b s1.σ fun e' GH σ' => Jq (Fi L i) s1.b s1.σ GH σ' ∧ bf J K e' GH σ' := by
       cases b with
       | false => exact AV.no (D3 ho) hw hd ⟨Jq.refl _ _ _, _, (S.H5 (x := .at .un)).symm, S.H6.symm, S.FN.symm, h⟩
       | true =>
         have := P6 (c := c.toZZ) (kq := kqL (Fi L i)) (J := J) hc.P hc.R hc.E (fun _ _ F h => eJ h) (fun _ _ h => oX h) (D3 ho) hw hd h
         exact this.mono fun e' GH σ' ⟨s', e1, e2, e3, hq, hb, hk⟩ => ⟨vw hq hb, s', e1, e2, e3, hk⟩
     have := bg (K := fun e' GH σ' => Jq (Fi L i) s1.b s1.σ GH σ' ∧ bf J K e' GH σ') h1 key
     rw [h1.b, h1.σ] at this
     exact this
theorem Dj (hc : c.Ok g) : ∀ {p : Ord} {q : Ii} {s : S}, Fp c ops p q s K → Jx g ops p q (s.e J) s.b s.σ (bf J K)
 | .done, q, s, h => ⟨s, rfl, rfl, rfl, h⟩
 | .yes i r, q, s, h => by
   simp only [Fp] at h
   split at h
   · cases h
   · rename_i o ho
     split at h
     · cases h
     · rename_i hd
       simp only [Bool.and_eq_true] at hd
       obtain ⟨hd, hq⟩ := hd
       rw [hc.n] at hd
       obtain ⟨b, s1, h1, hw, h⟩ := Ir h
       have hw := hw J
       rw [← h1.e J] at hw
       rw [← h1.e J, ← h1.b, ← h1.σ]
       have go : ∀ {v : SV} {s2 : S} {own : Option (Nat × List (List Nat))}, s1.Same s2 → ((Lh q own).ok i && Pm ops i own) = true → Yd g.P (s1.e J) s1.b (NJ q own s1.σ) o.op o.type (v.den s2.vl) → Aa ops (s1.e J) o.guard = true → Fp c ops r (Lh q own) (s2.put o.dst v) K → Jx g ops (.yes i r) q (s1.e J) s1.b s1.σ (bf J K) := fun {v s2 own} h2 Ap hy hw hk => by
         have := Dj hc hk
         rw [S.H5, S.H6, S.FN, h2.e J, h2.b, h2.σ] at this
         exact ⟨own, o, v.den s2.vl, Ap, ho, .inl ⟨hw, hy⟩, HI.lt hd, this⟩
       cases b with
       | false =>
         have := Dj hc h
         rw [S.H5, S.H6, S.FN] at this
         exact ⟨none, o, undef, ok_none hq, ho, .inr ⟨hw, rfl⟩, HI.lt hd, by rw [FK]; exact this⟩
       | true =>
         simp only at h
         split at h
         · rename_i T x SX
           obtain ⟨m, v, s2, h2, hk, hy⟩ := Sv (ty := o.type) h
           have hy := hy J
           rw [hc.P, ← SX] at hy
           split at hk
           · exact go (own := none) h2 (ok_none hq) (hy _) hw (by rw [FK]; exact hk)
           · exact go (own := none) h2 (ok_none hq) (Yd.up hy) hw (by rw [FK]; exact hk)
           · rename_i b l
             split at hk
             · rename_i Ap
               exact go h2 Ap hy hw hk
             · cases hk
         · split at h
           · cases h
           · have hm := ‹anyM c.P o.op o.type s1 = some _›
             rw [hc.P] at h hm
             obtain ⟨v, s2, h2, hy, hk⟩ := P7 hm h
             exact go (own := none) h2 (ok_none hq) (hy J) hw hk
           · cases h
           · rw [hc.P] at h
             obtain ⟨v, s2, h2, hy, hk⟩ := Vx (ty := o.type) h
             exact go (own := none) h2 (ok_none hq) (hy J _) hw (by rw [FK]; exact hk)
 | .alt i r t, q, s, h => by
   have key : ∀ {t : Ord}, (Fp.V4 c ops i q s fun s => Fp c ops r (Fi q i) s K) → Jx g ops t q (s.e J) s.b s.σ (bf J K) → Jx g ops (.alt i r t) q (s.e J) s.b s.σ (bf J K) := fun {t} h1 h2 =>
     ⟨(V5 hc h1).mono fun e bx σ ⟨hk, s', e1, e2, e3, h3⟩ => ⟨hk, by subst e1 e2 e3; exact Dj hc h3⟩, h2⟩
   cases t with
   | no => exact key h trivial
   | done => exact key h.1 (Dj hc h.2)
   | yes j u => exact key h.1 (Dj hc h.2)
   | alt j u w => exact key h.1 (Dj hc h.2)
 | .no, q, s, h => trivial
def bh (P : Program) (ops : Array Oper) (m : Nat) : Nat → Array Bool → Ord
 | 0, _ => .no
 | f + 1, listed => match (List.range m).all fun i => listed.getD i false with
   | true => .done
   | false => match (Region.ready .any ops listed).find? fun j => Nat.blt j m && match ops[j]? with | some o => !jI P o.op | none => false with
     | some j => .yes j (bh P ops m f (listed.setIfInBounds j true))
     | none => (Region.ready .any ops listed).foldr (fun j acc => .alt j (bh P ops m f (listed.setIfInBounds j true)) acc) .no
def UP (c : Cx) (ops : Array Oper) (draw : Bool) (m : Nat) (q : Ii) (s : S) (K : S → Prop) : Prop := match draw with
 | false => oW c ops (List.range ops.size) s K
 | true => match UH ops m (bh c.P ops m (ops.size + 1) (Array.replicate ops.size false)) (List.range' m (ops.size - m)) with
   | true => Fp c ops (bh c.P ops m (ops.size + 1) (Array.replicate ops.size false)) q s fun s => oW c ops (List.range' m (ops.size - m)) s K
   | false => False
theorem Ze {k : List Item} {id m : Nat} {draw : Bool} {q : Ii} (hc : c.Ok g) (hm : g.P.follows .mixedOrders = true) (h : UP c ops draw m q s K) (hk : ∀ s, K s → At g k (s.e J) s.b s.σ) : At g (.code (.region id ops draw) :: k) (s.e J) s.b s.σ := by
 have fin : ∀ e bx σ, bf J K e bx σ → At g k e bx σ := fun e bx σ ⟨s', e1, e2, e3, h⟩ => by subst e1 e2 e3; exact hk s' h
 cases draw with
 | false =>
   refine At.region rfl rfl ?_
   have : Seq g ops (List.range ops.size) (s.e J) s.b s.σ (bf J K) := Lm hc h
   exact QB fin this
 | true =>
   simp only [UP] at h
   split at h
   · rename_i hp
     refine At.AA3 hm rfl hp (q := q) ?_
     have := Dj (J := J) hc h
     refine Is (fun e bx σ ⟨s', e1, e2, e3, h⟩ => ?_) this
     subst e1 e2 e3
     exact QB fin (Lm hc h)
   · cases h
end
end Tw
end
section
namespace Tw
open Go
variable [Ht]
def node (body : Code) : List Bool → Code
 | [] => body
 | false :: p => cl (node body p)
 | true :: p => cr (node body p)
inductive It where
 | c (p : List Bool)
 | DI (i : Nat)
 | lp (p : List Bool)
def It.den (body : Code) : It → Item
 | .c p => .code (node body p)
 | .DI i => .inBlock i
 | .lp p => .inLoop (node body p)
def Iu (body : Code) : List It → List Item
 | [] => []
 | x :: l => x.den body :: Iu body l
def QD : List Bool → List Bool → Bool
 | [], [] => true
 | a :: p, b :: q => (bif a then b else !b) && QD p q
 | _, _ => false
theorem S4 : ∀ {p q : List Bool}, QD p q = true → p = q
 | [], [], _ => rfl
 | a :: p, b :: q, h => by
   simp only [QD, Bool.and_eq_true] at h
   rw [S4 h.2]
   cases a <;> cases b <;> simp at h <;> rfl
 | [], _ :: _, h => by cases h
 | _ :: _, [], h => by cases h
def It.eq : It → It → Bool
 | .c p, .c q => QD p q
 | .DI i, .DI j => Nat.beq i j
 | .lp p, .lp q => QD p q
 | _, _ => false
def bj : List It → List It → Bool
 | [], [] => true
 | x :: l, y :: m => x.eq y && bj l m
 | _, _ => false
theorem V6 : ∀ {l m : List It}, bj l m = true → l = m
 | [], [], _ => rfl
 | x :: l, y :: m, h => by
   simp only [bj, Bool.and_eq_true] at h
   rw [V6 h.2]
   have : x = y := by
     cases x <;> cases y <;> simp only [It.eq] at h <;> first
       | (rw [S4 h.1])
       | (rw [Nat.eq_of_beq_eq_true h.1])
       | (exact absurd h.1 (by simp))
   rw [this]
 | [], _ :: _, h => by cases h
 | _ :: _, [], h => by cases h
structure Cut where
 todo : List It
 f : S → Prop
def Cut.Ok (g : Gl) (body : Code) (k : Cut) : Prop := ∀ s J, k.f s → At g (Iu body k.todo) (s.e J) s.b s.σ
def oY : List Cut → List It → Option (S → Prop)
 | [], _ => none
 | k :: l, t => match bj k.todo t with
   | true => some k.f
   | false => oY l t
theorem bm {g : Gl} {body : Code} : ∀ {l : List Cut} {t : List It} {f : S → Prop}, (∀ k ∈ l, k.Ok g body) → oY l t = some f → ∀ s J, f s → At g (Iu body t) (s.e J) s.b s.σ
 | k :: l, t, f, hl, h => by
   simp only [oY] at h
   split at h
   · rename_i he
     cases h
     rw [← V6 he]
     exact hl k (List.mem_cons_self ..)
   · exact bm (fun k hk => hl k (List.mem_cons_of_mem _ hk)) h
def QE (i : Nat) : List It → Option (List It)
 | [] => none
 | .DI j :: r => match Nat.beq i j with
   | true => some r
   | false => QE i r
 | _ :: r => QE i r
structure Fx extends Cx where
 body : Code
 res : List ResultVar
 reg : List (Nat × Nat × Bool)
def jM : List (Nat × Nat × Bool) → Nat → Nat → Nat × Ii
 | [], _, m => (m, some [])
 | (i, m, b) :: l, id, z => match Nat.beq i id with
   | true => (m, bif b then none else some [])
   | false => jM l id z
def Zf (c : Fx) (s : S) : List ResultVar → Option (List SV)
 | [] => some []
 | .tmp t :: r => match UJ s.env t, Zf c s r with
   | some v, some l => some (v :: l)
   | _, _ => none
 | .cell p T :: r => match iw (UJ s.env p), Zf c s r with
   | some (.bx i 0), some l => match Vw s.bx i, ZE c.P T with
     | some (_, cs), some true => match Ya c.P T with
       | some n => match decide (cs.length = n) with
         | true => some (.v (.agg cs) :: l)
         | false => none
       | none => none
     | some (_, x :: _), some false => some (.at x :: l)
     | _, _ => none
   | _, _ => none
def T0 (c : Fx) (s : S) : Prop := match Zf c s c.res with
 | some l => c.R (.returned (Pr (Fm s.vl l))) s.σ
 | none => False
def FE (c : Fx) (cuts : List Cut) : Nat → Bool → List It → S → Prop
 | 0, _, _, _ => False
 | f + 1, first, todo, s => match (bif first then none else oY cuts todo) with
   | some k => k s
   | none => match todo with
     | [] => T0 c s
     | .DI _ :: r => FE c cuts f false r s
     | .lp p :: r => FE c cuts f false (.c p :: .lp p :: r) s
     | .c p :: r => match node c.body p with
       | .skip => FE c cuts f false r s
       | .seq _ _ => FE c cuts f false (.c (false :: p) :: .c (true :: p) :: r) s
       | .block i _ => FE c cuts f false (.c (false :: p) :: .DI i :: r) s
       | .loop _ => FE c cuts f false (.c (false :: p) :: .lp (false :: p) :: r) s
       | .exit i => match QE i r with
         | some r => FE c cuts f false r s
         | none => False
       | .cond x _ _ => s.oS (s.op x) fun t s => FE c cuts f false (.c ((!t) :: p) :: r) s
       | .ret => T0 c s
       | .region id ops draw => UP c.toCx ops draw (jM c.reg id ops.size).1 (jM c.reg id ops.size).2 s fun s => FE c cuts f false r s
       | _ => False
structure Fx.Ok (c : Fx) (g : Gl) (fn : Func) : Prop where
 cx : c.toCx.Ok g
 mixed : g.P.follows .mixedOrders = true
 fnc : g.P.funcs[g.f]? = some fn
 res : fn.results = c.res.toArray
 Gd : g.Gd = none
 ds : g.ds = []
section
variable {g : Gl} {c : Fx} {fn : Func} {cuts : List Cut} {J : Env}
theorem Gj (hP : c.P = g.P) {s : S} : ∀ {rs : List ResultVar} {l : List SV}, Zf c s rs = some l → HJ g.P (s.e J) s.b s.σ rs (Fm s.vl l)
 | [], l, h => by simp only [Zf, Option.some.injEq] at h; subst h; rfl
 | .tmp t :: r, l, h => by
   simp only [Zf] at h
   split at h
   · rename_i v l' h1 h2
     cases h
     refine ⟨_, ?_, Gj hP h2⟩
     rw [show s.e J t = v.den s.vl from Eb h1]; rfl
   · cases h
 | .cell p T :: r, l, h => by
   simp only [Zf] at h
   split at h
   · rename_i i l' h1 h2
     obtain ⟨u, e1, e2⟩ := Eu h1
     have hp : s.e J p = .pointer (some ⟨nth 0 s.vl.δ i, 0, none⟩) := (Eb e1).trans (e2 _)
     split at h
     · rename_i t cs hb ha
       split at h
       · rename_i n hn
         split at h
         · rename_i hd
           have hd := of_decide_eq_true hd
           cases h
           rw [hP] at ha hn
           exact ⟨_, _, rfl, ⟨_, hp, iY (Fk ha) (DZ hn) (by simp [Di]; exact hd) (Jy hb)⟩, Gj hP h2⟩
         · cases h
       · cases h
     · rename_i t x cs hb ha
       cases h
       rw [hP] at ha
       exact ⟨_, _, rfl, ⟨_, hp, oF (Fk ha) (Jy hb) rfl⟩, Gj hP h2⟩
     · cases h
   · cases h
theorem Ka {body : Code} {i : Nat} : ∀ {r r' : List It}, QE i r = some r' → exitTo i (Iu body r) = some (Iu body r')
 | .DI j :: r, r', h => by
   simp only [QE] at h
   split at h
   · rename_i he
     cases h
     have := Nat.eq_of_beq_eq_true he
     subst this
     simp [Iu, It.den, exitTo]
   · rename_i he
     have Ad : i ≠ j := fun e => by subst e; rw [Nat.beq_refl] at he; cases he
     simp only [Iu, It.den, exitTo]
     rw [if_neg (by simpa using Ne.symm Ad)]
     exact Ka h
 | .c p :: r, r', h => by simp only [QE] at h; simp only [Iu, It.den, exitTo]; exact Ka h
 | .lp p :: r, r', h => by simp only [QE] at h; simp only [Iu, It.den, exitTo]; exact Ka h
theorem Bk (hc : c.Ok g fn) (hk : ∀ k ∈ cuts, k.Ok g c.body) : ∀ {f : Nat} {first : Bool} {todo : List It} {s : S}, FE c cuts f first todo s → At g (Iu c.body todo) (s.e J) s.b s.σ
 | 0, _, _, _, h => h.elim
 | f + 1, first, todo, s, h => by
   have hl : ∀ σ, left g.ds σ = σ := fun σ => by rw [hc.ds]; rfl
   have vx : Marks g.ds s.σ := by rw [hc.ds]; trivial
   simp only [FE] at h
   split at h
   · rename_i k ABE
     cases first with
     | true => cases ABE
     | false => exact bm hk ABE s J h
   · split at h
     · unfold T0 at h
       split at h
       · rename_i l S5
         rw [hc.cx.R] at h
         exact At.sE hc.fnc hc.res (by rw [hl]; exact Gj hc.cx.P S5) (by rw [hl]; exact h) hc.Gd vx
       · cases h
     · exact At.inBlock (Bk hc hk h)
     · exact At.inLoop (Bk hc hk h)
     · rename_i p r _
       have e : Iu c.body (.c p :: r) = .code (node c.body p) :: Iu c.body r := rfl
       rw [e]
       split at h
       · rename_i hn; rw [hn]; exact At.skip (Bk hc hk h)
       · rename_i a b hn
         refine At.seq hn ?_
         have := Bk hc hk h
         simp only [Iu, It.den, node, hn, cl, cr] at this
         exact this
       · rename_i i a hn
         refine At.block hn ?_
         have := Bk hc hk h
         simp only [Iu, It.den, node, hn, cl] at this
         exact this
       · rename_i a hn
         refine At.loop hn ?_
         have := Bk hc hk h
         simp only [Iu, It.den, node, hn, cl] at this
         exact this
       · rename_i i hn
         split at h
         · rename_i r' hr
           exact At.exit hn (Ka hr) (Bk hc hk h)
         · cases h
       · rename_i x a b hn
         obtain ⟨t, s', v, h1, h2, h3, h4, h⟩ := S.FO h
         have hx : AE (s.e J) x = .bool t := by rw [ev h3, h4]
         have := Bk hc hk h
         rw [h1.e J, h1.b, h1.σ] at this
         cases t with
         | true =>
           refine At.r9 hn hx ?_
           simp only [Iu, It.den, node, hn, cl, Bool.not_true] at this
           exact this
         | false =>
           refine At.sA hn hx ?_
           simp only [Iu, It.den, node, hn, cr, Bool.not_false] at this
           exact this
       · rename_i hn
         unfold T0 at h
         split at h
         · rename_i l S5
           rw [hc.cx.R] at h
           exact At.T0 hn hc.fnc hc.res (by rw [hl]; exact Gj hc.cx.P S5) (by rw [hl]; exact h) hc.Gd vx
         · cases h
       · rename_i id ops draw hn
         rw [hn]
         exact Ze hc.cx hc.mixed h fun s' h' => Bk hc hk h'
       · cases h
end
def S.eK (s : S) : List Nat → Option (List Value)
 | [] => some []
 | t :: l => match UJ s.env t, s.eK l with
   | some v, some r => some (v.den s.vl :: r)
   | _, _ => none
theorem S6 {s : S} {J : Env} : ∀ {l : List Nat} {vs : List Value}, s.eK l = some vs → Live (s.e J) (l.zip vs)
 | [], vs, h => by simp only [S.eK, Option.some.injEq] at h; subst h; trivial
 | t :: l, vs, h => by
   simp only [S.eK] at h
   split at h
   · rename_i v r h1 h2
     cases h
     exact ⟨Eb h1, S6 h2⟩
   · cases h
def bo (i : Nat) : List FM → Option (FM × List FM)
 | [] => none
 | x :: l => match Nat.beq x.1 i with
   | true => some (x, l)
   | false => bo i l
def sM : Option SV → Option Nat
 | some (.v (.a (.pt (.bx i 0)))) => some i
 | _ => none
def S.UQ (s : S) : List Nat → List FM → Option (List FM)
 | [], _ => some []
 | t :: l, bx => match sM (UJ s.env t) with
   | some i => match bo i bx with
     | some (x, r) => match s.UQ l r with
       | some m => some (x :: m)
       | none => none
     | none => none
   | none => none
def QF (vl : Vl) : List Nat → List FM → List (Nat × Value)
 | t :: l, x :: r => (t, .pointer (some ⟨nth 0 vl.δ x.1, 0, none⟩)) :: QF vl l r
 | _, _ => []
theorem S7 {vl : Vl} {i : Nat} : ∀ {l r : List FM} {x : FM}, bo i l = some (x, r) → x.1 = i ∧ ∀ m : List FM, (Es vl m).Sublist (Es vl r) → (Es vl (x :: m)).Sublist (Es vl l)
 | y :: l, r, x, h => by
   simp only [bo] at h
   split at h
   · rename_i he
     cases h
     exact ⟨Nat.eq_of_beq_eq_true he, fun m hm => List.Sublist.cons_cons _ hm⟩
   · obtain ⟨h1, h2⟩ := S7 (vl := vl) h
     exact ⟨h1, fun m hm => List.Sublist.cons _ (h2 m hm)⟩
theorem V7 {s : S} {J : Env} : ∀ {l : List Nat} {bx B : List FM}, s.UQ l bx = some B → (Es s.vl B).Sublist (Es s.vl bx) ∧ Live (s.e J) (QF s.vl l B)
 | [], bx, B, h => by simp only [S.UQ, Option.some.injEq] at h; subst h; exact ⟨List.nil_sublist _, trivial⟩
 | t :: l, bx, B, h => by
   simp only [S.UQ] at h
   split at h
   · rename_i i hi
     split at h
     · rename_i x r hx
       split at h
       · rename_i m hm
         cases h
         obtain ⟨h1, h2⟩ := S7 (vl := s.vl) hx
         obtain ⟨h3, h4⟩ := V7 (s := s) (J := J) hm
         refine ⟨h2 m h3, ?_, h4⟩
         unfold sM at hi
         split at hi
         · rename_i hg
           cases hi
           rw [h1]
           exact Eb hg
         · cases hi
       · cases h
     · cases h
   · cases h
theorem Live.app {e : Env} : ∀ {l m : List (Nat × Value)}, Live e l → Live e m → Live e (l ++ m)
 | [], _, _, h => h
 | (_, _) :: _, _, h, g => ⟨h.1, Live.app h.2 g⟩
theorem At.ABF {g : Gl} {k : List Item} {s : S} {J : Env} {l bl : List Nat} {vs : List Value} {B : List FM} (h : s.eK l = some vs) (hb : s.UQ bl s.bx = some B) (hk : ∀ J, At g k (Ge J (QF s.vl bl B ++ l.zip vs)) (Es s.vl B) s.σ) : At g k (s.e J) s.b s.σ := by
 obtain ⟨h1, h2⟩ := V7 (J := J) hb
 exact At.sub h1 (At.live (h2.app (S6 h)) (hk _))
def QG : Nat → List Value → List (Nat × Value)
 | _, [] => []
 | k, v :: l => (k, v) :: QG (k + 1) l
theorem QH {e : Env} : ∀ {l : List Value} {k : Nat}, (∀ j v, l[j]? = some v → e (k + j) = v) → Live e (QG k l)
 | [], _, _ => trivial
 | v :: l, k, h => ⟨h 0 v rfl, QH fun j u hj => by rw [show k + 1 + j = k + (j + 1) by omega]; exact h (j + 1) u (by simpa using hj)⟩
theorem Spec.walk {P : Program} {f : FuncId} {fn : Func} {R : Rr} {args : Array Value} {n fuel : Nat} (c : Fx) (cuts : List Cut) (s : S) (hc : c.Ok (Gl.fn P f n R) fn) (hb : fn.body = some c.body) (hnt : fn.ntmps = n) (hn : Nat.ble args.size n = true)
   (hk : ∀ k ∈ cuts, k.Ok (Gl.fn P f n R) c.body) (he : G9 s.vl s.env = QG 0 args.toList) (hbx : s.bx = []) (h : FE c cuts fuel true [.c []] s) : Spec P f args s.σ R := by
 subst hnt
 refine Spec.Jp hc.fnc hb (Nat.le_of_ble_eq_true hn) fun e hee => ?_
 have hl : Live e (G9 s.vl s.env) := by
   rw [he]
   refine QH fun j v hj => ?_
   rw [Nat.zero_add, hee]
   simp only [Array.getD_eq_getD_getElem?]
   rw [← Array.getElem?_toList, hj]; rfl
 have := Bk (J := e) hc hk h
 have G8 : s.b = [] := by rw [S.b, hbx]; rfl
 rw [G8] at this
 exact At.live hl this
end Tw
end
section
namespace Tw
open Go
variable [Ht]
inductive Dv where
 | I (k : IntKind) (x : Int)
 | B (t : Bool)
 | T (x : ByteArray)
 | L (p : Option Addr) (n c : Nat)
 | Q (p : Option Addr)
 | A (b : Nat)
 | M (x : Option Nat)
 | V (x : Value)
def Dv.den : Dv → Value
 | .I k x => .int k x
 | .B t => .bool t
 | .T x => .string x
 | .L p n c => .slice p n c
 | .Q p => .pointer p
 | .A b => .pointer (some ⟨b, 0, none⟩)
 | .M x => .map x
 | .V x => x
def V8 : List Dv → List Value
 | [] => []
 | x :: l => x.den :: V8 l
inductive Dw where
 | o (x : Dv)
 | G (l : List Dv)
 | U (l : List Dv)
 | X (T : TypeId) (l : List Dv)
def Dw.den : Dw → Value
 | .o x => x.den
 | .G l => .agg (V8 l).toArray
 | .U l => .tuple (V8 l).toArray
 | .X _ _ => undef
structure Nm where
 ρ : List (Option Addr)
 β : List BK
structure Nm.le (n : Nm) (v : Vl) : Prop where
 ρ : ∀ i, i < n.ρ.length → nth none v.ρ i = nth none n.ρ i
 β : ∀ i, i < n.β.length → nth (.var false) v.β i = nth (.var false) n.β i
def Dv.sym : Dv → Nm → CY × Nm
 | .I k x, n => (.int k x, n)
 | .B t, n => (.bs (P9 n.β) false, ⟨n.ρ, n.β ++ [.var t]⟩)
 | .T x, n => (.str x, n)
 | .L p k c, n => (.sl (.var (P9 n.ρ)) k c, ⟨n.ρ ++ [p], n.β⟩)
 | .Q p, n => (.pt (.var (P9 n.ρ)), ⟨n.ρ ++ [p], n.β⟩)
 | .A b, n => (.pt (.at b 0), n)
 | .M x, n => (.mp x, n)
 | .V x, n => (.raw x, n)
theorem Nm.ABG {n : Nm} {v : Vl} {p : Option Addr} (h : Nm.le ⟨n.ρ ++ [p], n.β⟩ v) : n.le v ∧ nth none v.ρ (P9 n.ρ) = p := by
 refine ⟨⟨fun i hi => (h.ρ i (by simp only [List.length_append]; omega)).trans (KX hi), h.β⟩, ?_⟩
 rw [PR, h.ρ _ (by simp)]; exact KY
theorem Nm.AIQ {n : Nm} {v : Vl} {p : BK} (h : Nm.le ⟨n.ρ, n.β ++ [p]⟩ v) : n.le v ∧ nth (.var false) v.β (P9 n.β) = p := by
 refine ⟨⟨h.ρ, fun i hi => (h.β i (by simp only [List.length_append]; omega)).trans (KX hi)⟩, ?_⟩
 rw [PR, h.β _ (by simp)]; exact KY
theorem Dv.NY {x : Dv} {n : Nm} {v : Vl} (h : (x.sym n).2.le v) : (x.sym n).1.den v = x.den ∧ n.le v := by
 cases x with
 | B t => obtain ⟨h1, h2⟩ := Nm.AIQ h; exact ⟨by simp only [Dv.sym, CY.den, h2]; rfl, h1⟩
 | L p k c => obtain ⟨h1, h2⟩ := Nm.ABG h; exact ⟨by simp only [Dv.sym, CY.den, PV.den, h2]; rfl, h1⟩
 | Q p => obtain ⟨h1, h2⟩ := Nm.ABG h; exact ⟨by simp only [Dv.sym, CY.den, PV.den, h2]; rfl, h1⟩
 | _ => exact ⟨rfl, h⟩
def V9 : List Dv → Nm → List CY × Nm
 | [], n => ([], n)
 | x :: l, n => match x.sym n with
   | (a, n) => match V9 l n with
     | (r, n) => (a :: r, n)
theorem PS {v : Vl} : ∀ {l : List Dv} {n : Nm}, (V9 l n).2.le v → BX v (V9 l n).1 = V8 l ∧ n.le v
 | [], n, h => ⟨rfl, h⟩
 | x :: l, n, h => by
   obtain ⟨h1, h2⟩ := PS (l := l) (n := (x.sym n).2) h
   obtain ⟨h3, h4⟩ := Dv.NY h2
   exact ⟨by simp only [V9, BX, V8, h3]; rw [← h1], h4⟩
def atoms : List CY → List Gb
 | [] => []
 | x :: l => .a x :: atoms l
theorem S9 {v : Vl} : ∀ l, HO v (atoms l) = BX v l
 | [] => rfl
 | x :: l => by simp only [atoms, HO, BX]; rw [S9 l]; rfl
def Dw.sym : Dw → Nm → SV × Nm
 | .o x, n => match x.sym n with | (a, n) => (.v (.a a), n)
 | .G l, n => match V9 l n with | (a, n) => (.v (.agg a), n)
 | .U l, n => match V9 l n with | (a, n) => (.Se (atoms a), n)
 | .X _ _, n => (.v (.a .un), n)
theorem Dw.NY {x : Dw} {n : Nm} {v : Vl} (h : (x.sym n).2.le v) : (x.sym n).1.den v = x.den ∧ n.le v := by
 cases x with
 | o x => exact Dv.NY (x := x) h
 | G l => obtain ⟨h1, h2⟩ := PS (l := l) h; exact ⟨by simp only [Dw.sym, SV.den, Gb.den, Dw.den]; rw [← h1], h2⟩
 | U l => obtain ⟨h1, h2⟩ := PS (l := l) h; exact ⟨by simp only [Dw.sym, SV.den, Dw.den]; rw [S9, ← h1], h2⟩
 | X T l => exact ⟨rfl, h⟩
abbrev Bv := Nat × TypeId × List Dv
def O0 : List (Nat × Dw) → List (Nat × Value)
 | [] => []
 | (_, .X _ _) :: l => O0 l
 | (t, x) :: l => (t, x.den) :: O0 l
def NZ : List (Nat × Dw) → Nm → List (Nat × SV) × Nm
 | [], n => ([], n)
 | (_, .X _ _) :: l, n => NZ l n
 | (t, x) :: l, n => match x.sym n with
   | (a, n) => match NZ l n with
     | (r, n) => ((t, a) :: r, n)
theorem Kb {v : Vl} : ∀ {l : List (Nat × Dw)} {n : Nm}, (NZ l n).2.le v → G9 v (NZ l n).1 = O0 l ∧ n.le v
 | [], n, h => ⟨rfl, h⟩
 | (t, .o x) :: l, n, h => by
   obtain ⟨h1, h2⟩ := Kb (l := l) (n := ((Dw.o x).sym n).2) h
   obtain ⟨h3, h4⟩ := Dw.NY h2
   exact ⟨by simp only [NZ, G9, O0, h3]; rw [← h1], h4⟩
 | (t, .G x) :: l, n, h => by
   obtain ⟨h1, h2⟩ := Kb (l := l) (n := ((Dw.G x).sym n).2) h
   obtain ⟨h3, h4⟩ := Dw.NY h2
   exact ⟨by simp only [NZ, G9, O0, h3]; rw [← h1], h4⟩
 | (t, .U x) :: l, n, h => by
   obtain ⟨h1, h2⟩ := Kb (l := l) (n := ((Dw.U x).sym n).2) h
   obtain ⟨h3, h4⟩ := Dw.NY h2
   exact ⟨by simp only [NZ, G9, O0, h3]; rw [← h1], h4⟩
 | (_, .X T x) :: l, n, h => Kb (l := l) (n := n) h
def J0 : List (Nat × Dw) → List Bv → List Bv
 | [], r => r
 | (t, .X T l) :: m, r => J0 m ((t, T, l) :: r)
 | _ :: m, r => J0 m r
def WA : List Bv → Nat → Nm → List FM × Nm
 | [], _, n => ([], n)
 | (_, T, l) :: m, j, n => match V9 l n with
   | (a, n) => match WA m (j + 1) n with
     | (r, n) => ((j, T, a) :: r, n)
def oZ : List Bv → Nat → List (Nat × SV)
 | [], _ => []
 | (t, _, _) :: m, j => (t, .v (.a (.pt (.bx j 0)))) :: oZ m (j + 1)
abbrev Bw := Nat × TypeId × List Value
def R1 : List Bv → List Bw
 | [] => []
 | (t, T, l) :: m => (t, T, V8 l) :: R1 m
def Zg : List Bw → List Nat → List (Nat × Value)
 | (t, _, _) :: m, b :: δ => (t, .pointer (some ⟨b, 0, none⟩)) :: Zg m δ
 | _, _ => []
def vy : List Bw → List Nat → Bx
 | (_, T, l) :: m, b :: δ => (b, .cells l.toArray T (0, 0)) :: vy m δ
 | _, _ => []
def PB : List Bw → (List Nat → Prop) → Prop
 | [], K => K []
 | _ :: m, K => ∀ b : Nat, PB m fun δ => K (b :: δ)
theorem jN : ∀ {l : List Bw} {K : List Nat → Prop}, PB l K → ∀ δ, δ.length = l.length → K δ
 | [], K, h, [], _ => h
 | _ :: m, K, h, b :: δ, hl => jN (h b) δ (by simpa using hl)
theorem jO : ∀ {l : List Bw} {K : List Nat → Prop}, (∀ δ, δ.length = l.length → K δ) → PB l K
 | [], K, h => h [] rfl
 | _ :: m, K, h => fun b => jO fun δ hl => h (b :: δ) (by simp [hl])
def PTv (g : Gl) (td : List Item) (bs : List Bw) (ts : List (Nat × Value)) (σ : Hp) : Prop :=
 ∀ J : Env, PB bs fun δ => At g td (Ge J (Zg bs δ ++ ts)) (vy bs δ) σ
theorem bp {δ0 : List Nat} {v : Vl} : ∀ {m : List Bv} {j : Nat} {n : Nm} {δ : List Nat}, δ.length = m.length → (∀ i, i < δ.length → nth 0 v.δ (j + i) = nth 0 δ i) → (WA m j n).2.le v →
   Es v (WA m j n).1 = vy (R1 m) δ ∧ G9 v (oZ m j) = Zg (R1 m) δ ∧ n.le v
 | [], j, n, [], _, _, h => ⟨rfl, rfl, h⟩
 | (t, T, l) :: m, j, n, b :: δ, hl, hd, h => by
   obtain ⟨h1, h2, h3⟩ := bp (δ0 := δ0) (m := m) (j := j + 1) (n := (V9 l n).2) (δ := δ) (by simpa using hl) (fun i hi => by
     have := hd (i + 1) (by simpa using hi)
     rw [show j + 1 + i = j + (i + 1) by omega]; exact this) h
   obtain ⟨h4, h5⟩ := PS h3
   have hb : nth 0 v.δ j = b := hd 0 (by simp)
   refine ⟨?_, ?_, h5⟩
   · simp only [WA, Es, R1, vy, hb, h4]; rw [← h1]
   · simp only [oZ, G9, R1, Zg, SV.den, Gb.den, CY.den, PV.den, hb]; rw [h2]
def hJ (D : List (Nat × Dw)) (δ : List Nat) (σ : Hp) : S := match NZ D ⟨[], []⟩ with
 | (e, n) => match J0 D [] with
   | bs => match WA bs 0 n with
     | (x, n) => ⟨oZ bs 0 ++ e, x, ⟨n.ρ, n.β, δ⟩, σ⟩
theorem WB {v : Vl} : ∀ {l m : List (Nat × SV)}, G9 v (l ++ m) = G9 v l ++ G9 v m
 | [], _ => rfl
 | (t, x) :: l, m => by simp only [List.cons_append, G9]; rw [WB]
theorem vz {D : List (Nat × Dw)} {δ : List Nat} {σ : Hp} {J : Env} (hl : δ.length = (J0 D []).length) :
   (hJ D δ σ).e J = Ge J (Zg (R1 (J0 D [])) δ ++ O0 D) ∧ (hJ D δ σ).b = vy (R1 (J0 D [])) δ := by
 have hle : (WA (J0 D []) 0 (NZ D ⟨[], []⟩).2).2.le ⟨(WA (J0 D []) 0 (NZ D ⟨[], []⟩).2).2.ρ, (WA (J0 D []) 0 (NZ D ⟨[], []⟩).2).2.β, δ⟩ := ⟨fun _ _ => rfl, fun _ _ => rfl⟩
 obtain ⟨h1, h2, h3⟩ := bp (δ0 := []) (δ := δ) hl (fun i _ => by rw [Nat.zero_add]) hle
 obtain ⟨h4, _⟩ := Kb h3
 exact ⟨by simp only [hJ, S.e, WB]; rw [h2, h4], h1⟩
def ABH : Nat → Nat → List Bool
 | 0, _ => []
 | f + 1, n => match Nat.ble n 1 with
   | true => []
   | false => Nat.beq (n % 2) 1 :: ABH f (n / 2)
def pth (n : Nat) : List Bool := ABH 400 n
def Na (body : Code) : List Bool → List It
 | [] => []
 | t :: p => match node body p with
   | .seq _ _ => bif t then Na body p else .c (true :: p) :: Na body p
   | .block i _ => .DI i :: Na body p
   | .loop _ => .lp (false :: p) :: Na body p
   | _ => Na body p
def sN (body : Code) (n : Nat) : List It := .c (pth n) :: Na body (pth n)
inductive Sh where
 | I (k : IntKind) | B | T | L | Q | A | M | V
inductive Sw where
 | o (x : Sh)
 | G (l : List Sh)
 | U (l : List Sh)
 | X (T : TypeId) (l : List Sh)
abbrev ArS : Sh → Type → Type
 | .I _, C => Int → C
 | .B, C => Bool → C
 | .T, C => ByteArray → C
 | .L, C => Option Addr → Nat → Nat → C
 | .Q, C => Option Addr → C
 | .A, C => Nat → C
 | .M, C => Option Nat → C
 | .V, C => Value → C
def ABI {C : Type} : (x : Sh) → (Dv → C) → ArS x C
 | .I k, K => fun x => K (.I k x)
 | .B, K => fun x => K (.B x)
 | .T, K => fun x => K (.T x)
 | .L, K => fun p n c => K (.L p n c)
 | .Q, K => fun x => K (.Q x)
 | .A, K => fun x => K (.A x)
 | .M, K => fun x => K (.M x)
 | .V, K => fun x => K (.V x)
abbrev ArL : List Sh → Type → Type
 | [], A => A
 | x :: l, A => ArS x (ArL l A)
def oa {A : Type} : (l : List Sh) → (List Dv → A) → ArL l A
 | [], K => K []
 | x :: l, K => ABI x fun d => oa l fun r => K (d :: r)
abbrev ArW : Sw → Type → Type
 | .o x, C => ArS x C
 | .G l, C => ArL l C
 | .U l, C => ArL l C
 | .X _ l, C => ArL l C
def AIS {A : Type} : (x : Sw) → (Dw → A) → ArW x A
 | .o x, K => ABI x fun d => K (.o d)
 | .G l, K => oa l fun d => K (.G d)
 | .U l, K => oa l fun d => K (.U d)
 | .X T l, K => oa l fun d => K (.X T d)
abbrev Ar : List (Nat × Sw) → Type → Type
 | [], A => A
 | (_, x) :: l, A => ArW x (Ar l A)
def cur {A : Type} : (l : List (Nat × Sw)) → (List (Nat × Dw) → A) → Ar l A
 | [], K => K []
 | (t, x) :: l, K => AIS x fun d => cur l fun r => K ((t, d) :: r)
structure Fw where
 P : Program
 f : Nat
 fn : Func
 Cj : List Nat
 hid : List Nat
 wr : Bool
 reg : List (Nat × Nat × Bool)
 rng : List (Nat × TypeId)
 cuts : List (Nat × List (Nat × Sw))
def Fw.K (M : Fw) : Code := M.fn.body.getD .skip
def Fw.gl (M : Fw) (R : Rr) : Gl := Gl.fn M.P M.f M.fn.ntmps R
def Fw.cx (M : Fw) (R : Rr) : Fx := { P := M.P, R := R, Cj := M.Cj, hid := M.hid, wr := M.wr, n := M.fn.ntmps, body := M.K, res := M.fn.results.toList, reg := M.reg, rng := M.rng }
def WC (vl : Vl) : List Nat → List FM → List Bw
 | t :: l, x :: r => (t, x.2.1, BX vl x.2.2) :: WC vl l r
 | _, _ => []
def tmps : List (Nat × Sw) → List Nat
 | [] => []
 | (_, .X _ _) :: l => tmps l
 | (t, _) :: l => t :: tmps l
def jP : List (Nat × Sw) → List Nat → List Nat
 | [], r => r
 | (t, .X _ _) :: l, r => jP l (t :: r)
 | _ :: l, r => jP l r
def Fw.cut (M : Fw) (R : Rr) (c : Nat × List (Nat × Sw)) : Cut := ⟨sN M.K c.1, fun s => match s.eK (tmps c.2), s.UQ (jP c.2 []) s.bx with
 | some vs, some B => PTv (M.gl R) (Iu M.K (sN M.K c.1)) (WC s.vl (jP c.2 []) B) ((tmps c.2).zip vs) s.σ
 | _, _ => False⟩
def UR (M : Fw) (R : Rr) : List (Nat × List (Nat × Sw)) → List Cut
 | [] => []
 | c :: l => M.cut R c :: UR M R l
def Fw.zo (M : Fw) (at_ : Nat) (R : Rr) (D : List (Nat × Dw)) (σ : Hp) : Prop := PTv (M.gl R) (Iu M.K (sN M.K at_)) (R1 (J0 D [])) (O0 D) σ
noncomputable def Fw.pt (M : Fw) (i : Nat) (R : Rr) : Ar (nth (0, []) M.cuts i).2 (Hp → Prop) := cur (nth (0, []) M.cuts i).2 (M.zo (nth (0, []) M.cuts i).1 R)
structure Fw.Ok (M : Fw) : Prop where
 E : AK M.P M.Cj
 mixed : M.P.follows .mixedOrders = true
 fnc : M.P.funcs[M.f]? = some M.fn
 body : M.fn.body.isSome = true
theorem Fw.sO {M : Fw} {R : Rr} (h : M.Ok) : (M.cx R).Ok (M.gl R) M.fn := ⟨⟨rfl, rfl, h.E, rfl, rfl, rfl⟩, h.mixed, h.fnc, rfl, rfl, rfl⟩
theorem WD {vl : Vl} : ∀ {l : List Nat} {B : List FM}, ∃ δ : List Nat, δ.length = (WC vl l B).length ∧ Zg (WC vl l B) δ = QF vl l B ∧ (l.length = B.length → vy (WC vl l B) δ = Es vl B)
 | [], [] => ⟨[], rfl, rfl, fun _ => rfl⟩
 | [], _ :: _ => ⟨[], rfl, rfl, fun h => by simp at h⟩
 | _ :: _, [] => ⟨[], rfl, rfl, fun h => by simp at h⟩
 | t :: l, (i, T, cs) :: B => by
   obtain ⟨δ, h1, h2, h3⟩ := WD (vl := vl) (l := l) (B := B)
   exact ⟨nth 0 vl.δ i :: δ, by simp [WC, h1], by simp only [WC, Zg, QF]; rw [h2], fun h => by simp only [WC, vy, Es]; rw [h3 (by simpa using h)]⟩
theorem WE {s : S} : ∀ {l : List Nat} {bx B : List FM}, s.UQ l bx = some B → l.length = B.length
 | [], bx, B, h => by simp only [S.UQ, Option.some.injEq] at h; subst h; rfl
 | t :: l, bx, B, h => by
   simp only [S.UQ] at h
   split at h
   · split at h
     · split at h
       · rename_i m hm
         cases h
         simp [WE hm]
       · cases h
     · cases h
   · cases h
theorem Fw.v8 (M : Fw) (R : Rr) (c : Nat × List (Nat × Sw)) : (M.cut R c).Ok (M.gl R) M.K := fun s J h => by
 simp only [Fw.cut] at h
 split at h
 · rename_i vs B h1 h2
   obtain ⟨δ, e1, e2, e3⟩ := WD (vl := s.vl) (l := jP c.2 []) (B := B)
   refine At.ABF h1 h2 fun J => ?_
   have := jN (h J) δ e1
   rw [e2, e3 (WE h2)] at this
   exact this
 · cases h
theorem US {M : Fw} {R : Rr} : ∀ {l : List (Nat × List (Nat × Sw))}, ∀ k ∈ UR M R l, k.Ok (M.gl R) M.K
 | c :: l, k, hk => by
   rcases List.mem_cons.1 hk with rfl | hk
   · exact M.v8 R c
   · exact US k hk
theorem WG : ∀ {l : List Bv}, (R1 l).length = l.length
 | [] => rfl
 | _ :: m => by simp only [R1, List.length_cons]; rw [WG]
def PX (F : Prop) : List Bv → (List Nat → Prop) → Prop
 | [], K => F = K []
 | _ :: m, K => ∀ b : Nat, PX F m fun δ => K (b :: δ)
theorem jQ {F : Prop} (h : F) : ∀ {l : List Bv} {K : List Nat → Prop}, PX F l K → ∀ δ, δ.length = l.length → K δ
 | [], K, e, [], _ => e ▸ h
 | _ :: m, K, e, b :: δ, hl => jQ h (e b) δ (by simpa using hl)
theorem Fw.ofB {M : Fw} {R : Rr} {at_ : Nat} {D : List (Nat × Dw)} {σ : Hp} {F : Prop} (h : F) (ok : M.Ok) (e : PX F (J0 D []) fun δ => FE (M.cx R) (UR M R M.cuts) 4000 true (sN M.K at_) (hJ D δ σ)) : M.zo at_ R D σ := fun J => by
 refine jO fun δ hl => ?_
 rw [WG] at hl
 have := Bk (J := J) (Fw.sO ok) US (jQ h e δ hl)
 obtain ⟨e1, e2⟩ := vz (D := D) (σ := σ) (J := J) hl
 rw [e1, e2] at this
 exact this
theorem Fw.of {M : Fw} {R : Rr} {at_ : Nat} {D : List (Nat × Dw)} {σ : Hp} {F : Prop} (h : F) (ok : M.Ok) (hb : J0 D [] = []) (e : F = FE (M.cx R) (UR M R M.cuts) 4000 true (sN M.K at_) (hJ D [] σ) := by kernel_rfl) : M.zo at_ R D σ :=
 M.ofB h ok (by rw [hb]; exact e)
theorem Fw.Yb {M : Fw} {R : Rr} {at_ : Nat} {D : List (Nat × Dw)} {σ : Hp} {F : Prop} {x1 : Bv} (h : F) (ok : M.Ok) (hb : J0 D [] = [x1]) (e : ∀ b1 : Nat, F = FE (M.cx R) (UR M R M.cuts) 4000 true (sN M.K at_) (hJ D [b1] σ)) : M.zo at_ R D σ :=
 M.ofB h ok (by rw [hb]; exact e)
theorem Fw.of2 {M : Fw} {R : Rr} {at_ : Nat} {D : List (Nat × Dw)} {σ : Hp} {F : Prop} {x1 x2 : Bv} (h : F) (ok : M.Ok) (hb : J0 D [] = [x1, x2]) (e : ∀ b1 b2 : Nat, F = FE (M.cx R) (UR M R M.cuts) 4000 true (sN M.K at_) (hJ D [b1, b2] σ)) : M.zo at_ R D σ :=
 M.ofB h ok (by rw [hb]; exact e)
theorem Fw.of3 {M : Fw} {R : Rr} {at_ : Nat} {D : List (Nat × Dw)} {σ : Hp} {F : Prop} {x1 x2 x3 : Bv} (h : F) (ok : M.Ok) (hb : J0 D [] = [x1, x2, x3]) (e : ∀ b1 b2 b3 : Nat, F = FE (M.cx R) (UR M R M.cuts) 4000 true (sN M.K at_) (hJ D [b1, b2, b3] σ)) : M.zo at_ R D σ :=
 M.ofB h ok (by rw [hb]; exact e)
def wC : Value → Dv
 | .int k x => .I k x
 | .bool t => .B t
 | .string x => .T x
 | .slice p n c => .L p n c
 | .pointer p => .Q p
 | .map x => .M x
 | x => .V x
theorem WH (x : Value) : (wC x).den = x := by cases x <;> rfl
def bq : List Value → List Dv
 | [] => []
 | x :: l => wC x :: bq l
theorem TA : ∀ l : List Value, V8 (bq l) = l
 | [] => rfl
 | x :: l => by simp only [bq, V8]; rw [WH, TA]
def eL : Value → Dw
 | .agg cs => .G (bq cs.toList)
 | x => .o (wC x)
theorem jR (x : Value) : (eL x).den = x := by
 cases x
 case agg cs => simp only [eL, Dw.den, TA]
 all_goals (simp only [eL, Dw.den]; exact WH _)
def jS : Value → Dw
 | .pointer (some ⟨b, 0, none⟩) => .o (.A b)
 | x => .o (.V x)
theorem jT (x : Value) : (jS x).den = x := by
 unfold jS; split <;> rfl
def eM (np : Nat) : Nat → List Value → List (Nat × Dw)
 | _, [] => []
 | k, x :: l => match Nat.blt k np with
   | true => (k, eL x) :: eM np (k + 1) l
   | false => (k, jS x) :: eM np (k + 1) l
theorem jU (x : Value) : (∃ y, eL x = .o y) ∨ ∃ y, eL x = .G y := by cases x <;> first | exact .inr ⟨_, rfl⟩ | exact .inl ⟨_, rfl⟩
theorem jV (x : Value) : ∃ y, jS x = .o y := by unfold jS; split <;> exact ⟨_, rfl⟩
theorem UT {np : Nat} : ∀ {l : List Value} {k : Nat}, O0 (eM np k l) = QG k l ∧ J0 (eM np k l) [] = []
 | [], _ => ⟨rfl, rfl⟩
 | x :: l, k => by
   obtain ⟨h1, h2⟩ := UT (np := np) (l := l) (k := k + 1)
   simp only [eM]
   split
   · have hd := jR x
     rcases jU x with ⟨y, hy⟩ | ⟨y, hy⟩ <;> rw [hy] at hd ⊢ <;> exact ⟨by simp only [O0, QG]; rw [hd, h1], h2⟩
   · have hd := jT x
     obtain ⟨y, hy⟩ := jV x
     rw [hy] at hd ⊢
     exact ⟨by simp only [O0, QG]; rw [hd, h1], h2⟩
def Fw.run (M : Fw) (R : Rr) (k : Nat) (D : List (Nat × Dw)) (σ : Hp) : Prop := match Nat.ble k M.fn.ntmps with
 | true => FE (M.cx R) (UR M R M.cuts) 4000 true [.c []] (hJ D [] σ)
 | false => False
theorem Fw.Ln {M : Fw} {R : Rr} {args : Array Value} {σ : Hp} {F : Prop} (h : F) (ok : M.Ok) (D : List (Nat × Dw)) (hx : J0 D [] = []) (hD : O0 D = QG 0 args.toList) (e : F = M.run R args.size D σ) : Spec M.P M.f args σ R := by
 subst e
 unfold Fw.run at h
 split at h
 case h_2 => exact h.elim
 rename_i hn
 obtain ⟨fb, hb⟩ := Option.isSome_iff_exists.1 ok.body
 refine Spec.walk (c := M.cx R) (cuts := UR M R M.cuts) (s := hJ D [] σ) (fuel := 4000) (Fw.sO ok) ?_ rfl hn US ?_ ?_ h
 · show M.fn.body = some (M.fn.body.getD .skip)
   rw [hb]; rfl
 · obtain ⟨h4, _⟩ := Kb (l := D) (n := ⟨[], []⟩) (v := ⟨(NZ D ⟨[], []⟩).2.ρ, (NZ D ⟨[], []⟩).2.β, []⟩) ⟨fun _ _ => rfl, fun _ _ => rfl⟩
   rw [hD] at h4
   simp only [hJ, hx]
   exact h4
 · simp only [hJ, hx]; rfl
theorem Fw.start {M : Fw} {R : Rr} {args : Array Value} {σ : Hp} {F : Prop} (h : F) (ok : M.Ok) (e : F = M.run R args.size (eM M.fn.params.size 0 args.toList) σ := by kernel_rfl) : Spec M.P M.f args σ R :=
 M.Ln h ok _ UT.2 UT.1 e
abbrev wI : Sw := .o (.I .i64)
abbrev wU : Sw := .o (.I .u64)
abbrev br : Sw := .o (.I .u32)
abbrev wB : Sw := .o .B
abbrev wT : Sw := .o .T
abbrev wL : Sw := .o .L
abbrev wQ : Sw := .o .Q
abbrev wA : Sw := .o .A
abbrev wV : Sw := .o .V
abbrev aD (b o : Nat) : Option Addr := some ⟨b, o, none⟩
theorem MN {p : Option Addr} {b o : Nat} (h : p = some ⟨b, o, none⟩) : aD b o = p := h.symm
abbrev Br (p A B : Prop) : Prop := (p → A) ∧ (¬ p → B)
abbrev Bm (p A B : Prop) : Prop := (¬ p → A) ∧ (p → B)
abbrev Bo (t : Bool) (A B : Prop) : Prop := (t = true → A) ∧ (t = false → B)
abbrev Bn (t : Bool) (A B : Prop) : Prop := (t = false → A) ∧ (t = true → B)
abbrev Pq (p : Option Addr) (K : Nat → Nat → Prop) : Prop := ∃ b o : Nat, p = some ⟨b, o, none⟩ ∧ K b o
abbrev In (x n : Int) : Prop := (0 : Int) ≤ x ∧ x < n
abbrev Df (r : Int) (K : Int → Prop) : Prop := ∀ x : Int, x = r → K x
abbrev Al (σ : Hp) (K : Nat → Prop) : Prop := ∀ b : Nat, σ b = none → K b
abbrev LI (k : IntKind) (σ : Hp) (b o : Nat) (K : Int → Prop) : Prop := ∃ x : Int, Hp.ld σ ⟨b, o, none⟩ = some (.int k x) ∧ K x
abbrev LB (σ : Hp) (b o : Nat) (K : Bool → Prop) : Prop := ∃ x : Bool, Hp.ld σ ⟨b, o, none⟩ = some (.bool x) ∧ K x
abbrev LT (σ : Hp) (b o : Nat) (K : ByteArray → Prop) : Prop := ∃ x : ByteArray, Hp.ld σ ⟨b, o, none⟩ = some (.string x) ∧ K x
abbrev LQ (σ : Hp) (b o : Nat) (K : Option Addr → Prop) : Prop := ∃ x : Option Addr, Hp.ld σ ⟨b, o, none⟩ = some (.pointer x) ∧ K x
abbrev LM (σ : Hp) (b o : Nat) (K : Option Nat → Prop) : Prop := ∃ x : Option Nat, Hp.ld σ ⟨b, o, none⟩ = some (.map x) ∧ K x
abbrev LS (σ : Hp) (b o : Nat) (K : Option Addr → Nat → Nat → Prop) : Prop := ∃ p : Option Addr, ∃ n : Nat, ∃ c : Nat, Hp.ld σ ⟨b, o, none⟩ = some (.slice p n c) ∧ K p n c
abbrev CI (k : IntKind) (K : Int → Hp → Prop) : Value → Hp → Prop := fun v σ => ∃ x : Int, v = .int k x ∧ K x σ
abbrev CB (K : Bool → Hp → Prop) : Value → Hp → Prop := fun v σ => ∃ x : Bool, v = .bool x ∧ K x σ
abbrev CT (K : ByteArray → Hp → Prop) : Value → Hp → Prop := fun v σ => ∃ x : ByteArray, v = .string x ∧ K x σ
abbrev CQ (K : Option Addr → Hp → Prop) : Value → Hp → Prop := fun v σ => ∃ x : Option Addr, v = .pointer x ∧ K x σ
abbrev CS (K : Option Addr → Nat → Nat → Hp → Prop) : Value → Hp → Prop := fun v σ => ∃ p : Option Addr, ∃ n : Nat, ∃ c : Nat, v = .slice p n c ∧ K p n c σ
end Tw
end
section
set_option maxRecDepth 100000
noncomputable section
namespace TwW
open Go Tw Go.Proofs.Tryz
variable [Ht] {R : Rr} {σ : Hp}

namespace MO
variable {x0 x1 x2 : Int}
def M : Fw := ⟨prog, 7, f7, [8], [6], false, [], [], []⟩
theorem ok : M.Ok := ⟨.cons call8 (AK.nil), mixed, func7, by kernel_rfl⟩
theorem start (h : ∀ b6 : Nat, Al σ fun b7 => Spec prog 8 #[.int .i64 x0] (Hp.set σ b7 (.cells #[.int .i64 1, .int .i64 3, .int .i64 5] 3 (0, 0))) (AB R (CI .i64 fun x9 y => 3 ≠ (0 : Int) ∧ Df (Int.tmod x9 3) fun Dc => In Dc 3 ∧ LI .i64 y b7 (0 + Int.toNat Dc * 1) fun Cd => R (.returned (.agg #[.int .i64 0, .int .i64 Cd, .int .i64 0, .int .i64 0, .int .i64 x2, .int .i64 x1, .int .i64 0, .int .i64 100, .int .i64 16, .int .i64 100, .bool true])) y))) : Spec prog 7 #[.int .i64 x0, .int .i64 x1, .int .i64 x2] σ R := M.start h ok
end MO
namespace Cs
variable {p0 p1 : Option Addr} {n0 c0 n1 c1 : Nat} {x5 : Int}
def M : Fw := ⟨prog, 18, f18, [], [], false, [(6, 9, true)], [], [(464, [(0, wL), (1, wL), (5, wI)])]⟩
theorem ok : M.Ok := ⟨AK.nil, mixed, func18, by kernel_rfl⟩
def As := M.pt 0
theorem start (h : Br ((n0 : Int) ≠ (n1 : Int)) (R (.returned (.bool false)) σ) (As R p0 n0 c0 p1 n1 c1 0 σ)) : Spec prog 18 #[.slice p0 n0 c0, .slice p1 n1 c1] σ R := M.start h ok
theorem BO (h : Br (x5 < (n0 : Int)) (Pq p0 fun Yc oc => In x5 (n0 : Int) ∧ LB σ Yc (oc + Int.toNat x5 * 1) fun t20 => Pq p1 fun Zh od => In x5 (n1 : Int) ∧ LB σ Zh (od + Int.toNat x5 * 1) fun t24 => Bo t20 (Bo t24 (AN (x5 + 1) ∧ As R (aD Yc oc) n0 c0 (aD Zh od) n1 c1 (x5 + 1) σ) (R (.returned (.bool false)) σ)) (Bo t24 (R (.returned (.bool false)) σ) (AN (x5 + 1) ∧ As R (aD Yc oc) n0 c0 (aD Zh od) n1 c1 (x5 + 1) σ))) (R (.returned (.bool true)) σ)) : As R p0 n0 c0 p1 n1 c1 x5 σ := M.of h ok rfl
end Cs
namespace MP
variable {q0 q7 WI : Option Addr} {n24 c24 : Nat} {NA HA : Int}
def M : Fw := ⟨prog, 41, f41, [95, 96], [], false, [], [], [(1000, [(7, wQ), (24, wL), (25, wI), (26, wI)])]⟩
theorem ok : M.Ok := ⟨.cons call95 (.cons call96 (AK.nil)), mixed, func41, by kernel_rfl⟩
def Nb := M.pt 0
theorem start (h : Spec prog 95 #[.pointer q0, (.string (ByteArray.mk #[107, 118]))] σ (AB R (fun z y => ∃ Zi ABK wD ABL UU, z = (.tuple #[.pointer Zi, .slice ABK wD ABL, .int .i64 UU]) ∧ Br (UU ≠ 0) (R (.returned (.tuple #[.pointer none, .int .i64 UU])) y) (AJ prog (Instr.makeMap 159 none) y (fun z AI => ∃ m21, z = (.map (some m21)) ∧ Al AI fun Zh => Nb R (aD Zh 0) ABK wD ABL (wD : Int) 0 (Hp.set AI Zh (.cells #[.pointer Zi, .pointer q0, (.map (some m21))] 161 (0, 0)))))))) : Spec prog 41 #[.pointer q0] σ R := M.start h ok
theorem Iv (h : Br (HA < NA) (Pq WI fun QI bt => In HA (n24 : Int) ∧ LS σ QI (bt + Int.toNat HA * 1) fun eN n29 eO => Spec prog 96 #[.pointer q7, .slice eN n29 eO] σ (AB R (CB fun t32 y => Bn t32 (R (.returned (.tuple #[.pointer none, .int .i64 71])) y) (AN (HA + 1) ∧ Nb R q7 (aD QI bt) n24 c24 NA (HA + 1) y)))) (R (.returned (.tuple #[.pointer q7, .int .i64 0])) σ)) : Nb R q7 WI n24 c24 NA HA σ := M.of h ok rfl
end MP
namespace slices_Compact_int
variable {p0 p4 : Option Addr} {n0 c0 n4 c4 : Nat} {x3 x5 : Int}
end slices_Compact_int
namespace WJ
variable {s0 : ByteArray}
def M : Fw := ⟨prog, 94, f94, [], [], false, [], [], []⟩
theorem ok : M.Ok := ⟨AK.nil, mixed, func94, by kernel_rfl⟩
theorem start (h : Bn ((ByteArray.toList s0 == ByteArray.toList (ByteArray.mk #[]))) (R (.returned (.bool (decide ((((ByteArray.size s0 : Nat) : Int) : Int) ≤ 64)))) σ) (R (.returned (.bool false)) σ)) : Spec prog 94 #[.string s0] σ R := M.start h ok
end WJ
namespace EG
variable {p0 p5 : Option Addr} {n0 c0 n5 c5 : Nat} {x1 : Int}
def M : Fw := ⟨prog, 99, f99, [], [], false, [], [], [(224, [(1, wU), (5, wL)])]⟩
theorem ok : M.Ok := ⟨AK.nil, mixed, func99, by kernel_rfl⟩
def JZ := M.pt 0
theorem start (h : Al σ fun b6 => AJ prog (Builtin.append_ #[84, 84] 84 #[(.slice (aD b6 0) 0 0), .slice p0 n0 c0]) (Hp.set σ b6 (.cells #[] 5 (0, 0))) (CS fun p8 n8 c8 y => JZ R x1 p8 n8 c8 y)) : Spec prog 99 #[.slice p0 n0 c0, .int .u64 x1] σ R := M.start h ok
theorem CP (h : Br (127 < x1) (Df (IntKind.u8.wrap x1) fun MQ => Df (Go.bits .or .u8 MQ 128) fun Nc => Al σ fun R3 => AJ prog (Builtin.append_ #[84, 84] 84 #[.slice p5 n5 c5, (.slice (aD R3 0) 1 1)]) (Hp.set σ R3 (.cells #[.int .u8 Nc] 5 (0, 0))) (CS fun QJ n18 TB y => ((0 : Int) ≤ 7 ∧ 7 ≤ ((IntKind.bits .u64 : Nat) : Int)) ∧ Df (x1 / 2 ^ Int.toNat 7) fun Cd => JZ R Cd QJ n18 TB y)) (Df (IntKind.u8.wrap x1) fun H9 => Al σ fun Nf => AJ prog (Builtin.append_ #[84, 84] 84 #[.slice p5 n5 c5, (.slice (aD Nf 0) 1 1)]) (Hp.set σ Nf (.cells #[.int .u8 H9] 5 (0, 0))) (CS fun oe n23 og y => R (.returned (.slice oe n23 og)) y))) : JZ R x1 p5 n5 c5 σ := M.of h ok rfl
end EG
namespace bu
variable {x0 : Int}
def M : Fw := ⟨prog, 117, f117, [], [], false, [], [], []⟩
theorem ok : M.Ok := ⟨AK.nil, mixed, func117, by kernel_rfl⟩
theorem start (h : Br (0 ≤ x0) (R (.returned (.bool (decide (x0 < 16)))) σ) (R (.returned (.bool false)) σ)) : Spec prog 117 #[.int .i64 x0] σ R := M.start h ok
end bu
namespace LG
variable {En Iw x1a Ye : Int}
def M : Fw := ⟨prog, 121, f121, [122, 123, 124], [2, 3], false, [], [], []⟩
theorem ok : M.Ok := ⟨.cons call122 (.cons call123 (.cons call124 (AK.nil))), mixed, func121, by kernel_rfl⟩
theorem start (h : ∀ b2 : Nat, ∀ b3 : Nat, Spec prog 123 #[.int .u32 En, .int .u32 x1a] σ (AB R (CI .i64 fun x9 y => Spec prog 124 #[.int .i64 Iw, .int .i64 Ye] y (AB R (CI .i64 fun FF AI => Al AI fun bw => Spec prog 122 #[(.slice (aD bw 0) 2 2)] (Hp.set AI bw (.cells #[.int .i64 x9, .int .i64 FF] 3 (0, 0))) (AB R (CI .i64 fun Nc Ab => R (.returned (.int .i64 Nc)) Ab))))))) : Spec prog 121 #[.agg #[.int .u32 En, .int .i64 Iw], .agg #[.int .u32 x1a, .int .i64 Ye]] σ R := M.start h ok
end LG
namespace IA
variable {q0 : Option Addr} {x1 : Int}
def M : Fw := ⟨prog, 141, f141, [147], [], false, [], [], []⟩
theorem ok : M.Ok := ⟨.cons call147 (AK.nil), mixed, func141, by kernel_rfl⟩
theorem start (h : Pq q0 fun b6 o6 => LT σ b6 (o6 + 1) fun s8 => (ByteArray.size s8 + ByteArray.size (ByteArray.mk #[47, 115]) ≤ 9223372036854775807) ∧ Spec prog 147 #[.int .i64 x1] σ (AB R (CT fun nA y => Kp [b6] σ y ∧ (ByteArray.size (s8 ++ (ByteArray.mk #[47, 115])) + ByteArray.size nA ≤ 9223372036854775807) ∧ R (.returned (.string ((s8 ++ (ByteArray.mk #[47, 115])) ++ nA))) y))) : Spec prog 141 #[.pointer q0, .int .i64 x1] σ R := M.start h ok
end IA
namespace MR
variable {p0 : Option Addr} {n0 c0 : Nat} {s1 : ByteArray}
def M : Fw := ⟨prog, 142, f142, [143], [], false, [], [], []⟩
theorem ok : M.Ok := ⟨.cons call143 (AK.nil), mixed, func142, by kernel_rfl⟩
theorem start (h : Df (IntKind.u64.wrap ((ByteArray.size s1 : Nat) : Int)) fun x8 => Spec prog 143 #[.slice p0 n0 c0, .int .u64 x8] σ (AB R (CS fun p9 n9 c9 y => AJ prog (Builtin.append_ #[84, 9] 84 #[.slice p9 n9 c9, .string s1]) y (CS fun WK n11 Zj AI => R (.returned (.slice WK n11 Zj)) AI)))) : Spec prog 142 #[.slice p0 n0 c0, .string s1] σ R := M.start h ok
end MR
namespace EH
variable {s0 : ByteArray} {x3 : Int}
def M : Fw := ⟨prog, 191, f191, [], [], false, [], [], [(464, [(0, wT), (3, wI)])]⟩
theorem ok : M.Ok := ⟨AK.nil, mixed, func191, by kernel_rfl⟩
def As := M.pt 0
theorem start (h : Bo ((ByteArray.toList s0 == ByteArray.toList (ByteArray.mk #[]))) (R (.returned (.bool false)) σ) (Br ((32 : Int) < ((ByteArray.size s0 : Nat) : Int)) (R (.returned (.bool false)) σ) (As R s0 0 σ))) : Spec prog 191 #[.string s0] σ R := M.start h ok
theorem BO (h : Br (x3 < ((ByteArray.size s0 : Nat) : Int)) (∃ Lo : UInt8, 0 ≤ x3 ∧ (ByteArray.data s0)[Int.toNat x3]? = some Lo ∧ Br ((((UInt8.toNat Lo : Nat) : Int) : Int) < 97) (Br ((((UInt8.toNat Lo : Nat) : Int) : Int) < 48) (Br ((((UInt8.toNat Lo : Nat) : Int) : Int) ≠ 45) (R (.returned (.bool false)) σ) (AN (x3 + 1) ∧ As R s0 (x3 + 1) σ)) (Br ((57 : Int) < ((UInt8.toNat Lo : Nat) : Int)) (Br ((((UInt8.toNat Lo : Nat) : Int) : Int) ≠ 45) (R (.returned (.bool false)) σ) (AN (x3 + 1) ∧ As R s0 (x3 + 1) σ)) (AN (x3 + 1) ∧ As R s0 (x3 + 1) σ))) (Br ((122 : Int) < ((UInt8.toNat Lo : Nat) : Int)) (Br ((((UInt8.toNat Lo : Nat) : Int) : Int) < 48) (Br ((((UInt8.toNat Lo : Nat) : Int) : Int) ≠ 45) (R (.returned (.bool false)) σ) (AN (x3 + 1) ∧ As R s0 (x3 + 1) σ)) (Br ((57 : Int) < ((UInt8.toNat Lo : Nat) : Int)) (Br ((((UInt8.toNat Lo : Nat) : Int) : Int) ≠ 45) (R (.returned (.bool false)) σ) (AN (x3 + 1) ∧ As R s0 (x3 + 1) σ)) (AN (x3 + 1) ∧ As R s0 (x3 + 1) σ))) (AN (x3 + 1) ∧ As R s0 (x3 + 1) σ))) (R (.returned (.bool true)) σ)) : As R s0 x3 σ := M.of h ok rfl
end EH
namespace LH
variable {x0 : Int} {b1 b2 b3 : Nat}
def M : Fw := ⟨prog, 195, f195, [177], [], false, [], [], []⟩
theorem ok : M.Ok := ⟨.cons call177 (AK.nil), mixed, func195, by kernel_rfl⟩
theorem start (h : LS σ b1 0 fun O1 n10 Hf => LI .i64 σ b2 0 fun Ed => Spec prog 177 #[.slice O1 n10 Hf, .int .i64 Ed] σ (AB R (fun z y => ∃ UW Ng UU, z = (.tuple #[.int .u64 UW, .int .i64 Ng, .int .i64 UU]) ∧ LB y b3 0 fun t16 => Bo t16 (AJ prog (Instr.storeAt 4 (.pointer (aD b3 0)) (.bool true)) y (fun _ AI => LB AI b3 0 fun t26 => Bo t26 (R (.returned (.int .u64 0)) AI) (AJ prog (Instr.storeAt 3 (.pointer (aD b2 0)) (.int .i64 Ng)) AI (fun _ Ab => R (.returned (.int .u64 UW)) Ab)))) (Br (UU ≠ 0) (AJ prog (Instr.storeAt 4 (.pointer (aD b3 0)) (.bool true)) y (fun _ AI => LB AI b3 0 fun t26 => Bo t26 (R (.returned (.int .u64 0)) AI) (AJ prog (Instr.storeAt 3 (.pointer (aD b2 0)) (.int .i64 Ng)) AI (fun _ Ab => R (.returned (.int .u64 UW)) Ab)))) (AJ prog (Instr.storeAt 4 (.pointer (aD b3 0)) (.bool (decide (x0 < UW)))) y (fun _ AI => LB AI b3 0 fun t26 => Bo t26 (R (.returned (.int .u64 0)) AI) (AJ prog (Instr.storeAt 3 (.pointer (aD b2 0)) (.int .i64 Ng)) AI (fun _ Ab => R (.returned (.int .u64 UW)) Ab)))))))) : Spec prog 195 #[.int .u64 x0, (.pointer (aD b1 0)), (.pointer (aD b2 0)), (.pointer (aD b3 0))] σ R := M.start h ok
end LH
namespace IB
variable {p0 p8 : Option Addr} {n0 c0 b3 n8 c8 : Nat} {x4 x9 Dc : Int}
def M : Fw := ⟨prog, 219, f219, [289], [], false, [], [], [(488, [(3, wA), (4, br), (8, wL), (9, wI), (10, wI)])]⟩
theorem ok : M.Ok := ⟨.cons call289 (AK.nil), mixed, func219, by kernel_rfl⟩
def Gk := M.pt 0
theorem start (h : Spec prog 289 #[] σ (AB R (fun z y => ∃ Nh hX x7c x7d x7e x7f x7g x7h x7i x7j x7k x7l x7m x7n x7o x7p, z = (.agg #[.int .u32 Nh, .int .u32 hX, .int .u32 x7c, .int .u32 x7d, .int .u32 x7e, .int .u32 x7f, .int .u32 x7g, .int .u32 x7h, .int .u32 x7i, .int .u32 x7j, .int .u32 x7k, .int .u32 x7l, .int .u32 x7m, .int .u32 x7n, .int .u32 x7o, .int .u32 x7p]) ∧ Al y fun b3 => AJ prog (Instr.storeAt 338 (.pointer (aD b3 0)) (.agg #[.int .u32 Nh, .int .u32 hX, .int .u32 x7c, .int .u32 x7d, .int .u32 x7e, .int .u32 x7f, .int .u32 x7g, .int .u32 x7h, .int .u32 x7i, .int .u32 x7j, .int .u32 x7k, .int .u32 x7l, .int .u32 x7m, .int .u32 x7n, .int .u32 x7o, .int .u32 x7p])) (Hp.set y b3 (.cells #[.int .u32 0, .int .u32 0, .int .u32 0, .int .u32 0, .int .u32 0, .int .u32 0, .int .u32 0, .int .u32 0, .int .u32 0, .int .u32 0, .int .u32 0, .int .u32 0, .int .u32 0, .int .u32 0, .int .u32 0, .int .u32 0] 338 (0, 0))) (fun _ AI => Gk R b3 4294967295 p0 n0 c0 (n0 : Int) 0 AI)))) : Spec prog 219 #[.slice p0 n0 c0] σ R := M.start h ok
theorem Fc (h : Br (Dc < x9) (Pq p8 fun O2 QK => In Dc (n8 : Int) ∧ LI .u8 σ O2 (QK + Int.toNat Dc * 1) fun E8 => Df (IntKind.u32.wrap E8) fun Nc => Df (Go.bits .xor .u32 x4 Nc) fun Ix => ((0 : Int) ≤ 4 ∧ 4 ≤ ((IntKind.bits .u32 : Nat) : Int)) ∧ Df (Ix / 2 ^ Int.toNat 4) fun OD => Df (Go.bits .and .u32 Ix 15) fun H9 => In H9 16 ∧ LI .u32 σ b3 (0 + Int.toNat H9 * 1) fun QL => Df (Go.bits .xor .u32 OD QL) fun Ks => ((0 : Int) ≤ 4 ∧ 4 ≤ ((IntKind.bits .u32 : Nat) : Int)) ∧ Df (Ks / 2 ^ Int.toNat 4) fun HA => Df (Go.bits .and .u32 Ks 15) fun Gm => In Gm 16 ∧ LI .u32 σ b3 (0 + Int.toNat Gm * 1) fun nB => Df (Go.bits .xor .u32 HA nB) fun HP => AN (Dc + 1) ∧ Gk R b3 HP (aD O2 QK) n8 c8 x9 (Dc + 1) σ) (∃ Zk, YF prog (Op.unary .xor (.int .u32 x4)) σ (.int .u32 Zk) ∧ R (.returned (.int .u32 Zk)) σ)) : Gk R b3 x4 p8 n8 c8 x9 Dc σ := M.of h ok rfl
end IB
namespace Gn
variable {b0 b1 : Nat}
def M : Fw := ⟨prog, 232, f232, [223], [], false, [], [], []⟩
theorem ok : M.Ok := ⟨.cons call223 (AK.nil), mixed, func232, by kernel_rfl⟩
theorem start (h : LQ σ b0 0 fun q3 => LT σ b1 0 fun s4 => Spec prog 223 #[.pointer q3, .string s4] σ (AB R (CI .i64 fun x5 y => R (.returned (.int .i64 x5)) y))) : Spec prog 232 #[(.pointer (aD b0 0)), (.pointer (aD b1 0))] σ R := M.start h ok
end Gn
namespace TC
variable {x0 : Int}
def M : Fw := ⟨prog, 234, f234, [], [], false, [], [], []⟩
theorem ok : M.Ok := ⟨AK.nil, mixed, func234, by kernel_rfl⟩
theorem start (h : ((0 : Int) ≤ 24 ∧ 24 ≤ ((IntKind.bits .u32 : Nat) : Int)) ∧ Df (x0 / 2 ^ Int.toNat 24) fun x4 => Df (IntKind.u8.wrap x4) fun x5 => ((0 : Int) ≤ 16 ∧ 16 ≤ ((IntKind.bits .u32 : Nat) : Int)) ∧ Df (x0 / 2 ^ Int.toNat 16) fun x7 => Df (IntKind.u8.wrap x7) fun x8 => ((0 : Int) ≤ 8 ∧ 8 ≤ ((IntKind.bits .u32 : Nat) : Int)) ∧ Df (x0 / 2 ^ Int.toNat 8) fun Dc => Df (IntKind.u8.wrap Dc) fun Ed => Df (IntKind.u8.wrap x0) fun E8 => Al σ fun Jl => R (.returned (.slice (aD Jl 0) 4 4)) (Hp.set σ Jl (.cells #[.int .u8 x5, .int .u8 x8, .int .u8 Ed, .int .u8 E8] 5 (0, 0)))) : Spec prog 234 #[.int .u32 x0] σ R := M.start h ok
end TC
namespace BL
def K0 := f307.body.getD .skip
def K1 := cl K0
def K2 := cr K0
def K3 := cl K2
def K4 := cl K3
def K5 := cr K3
def K6 := cl K5
def K7 := cr K5
def K8 := cl K7
def K9 := cr K7
def Lp := cl K9
def TD := cl Lp
def MS := cr Lp
def QM := cl MS
def Zl := cl QM
def eP := cr QM
def TE := cr MS
def OE := cr K9
def Yf := cl OE
def UX := cr OE
def TF := cl UX
def hY := cl TF
def bz := cr TF
def Yg := cl bz
def eQ := cl Yg
def WL := cr Yg
def WM := cl WL
def WN := cl WM
def WO := cr WM
def WQ := cr WL
def jW := cl WQ
def hZ := cr WQ
def Yh := cl hZ
def cA := cr hZ
def iA := cl cA
def iB := cr cA
def nC := cl iB
def K37 := cl nC
def sP := cr nC
def K39 := cl sP
def sQ := cr sP
def sR := cl sQ
def sS := cr sQ
def zp := cl sS
def oh := cr sS
def wE := cl oh
def sT := cr oh
def nE := cr iB
def sU := cl nE
def sV := cr nE
def Yi := cl sV
def wF := cl Yi
def nF := cr Yi
def zq := cl nF
def nG := cr nF
def nH := cl nG
def cB := cr nG
def zr := cl cB
def sW := cr cB
def sX := cl sW
def sY := cr sW
def cC := cr sV
def sZ := cl cC
def sa := cr cC
def K64 := cr UX
def TG := cl K64
def Re := cr K64
def K67 := cl Re
def K68 := cr Re
def K69 := cl K68
def K70 := cl K69
def K71 := cr K69
def K72 := cl K71
def K73 := cr K71
def K74 := cr K68
def K75 := cl K74
def K76 := cl K75
def K77 := cr K75
def zt := cl K77
def K79 := cl zt
def K80 := cr zt
def K81 := cr K77
def K82 := cr K74
def K83 := cl K82
def K84 := cr K82
def K85 := cl K84
def K86 := cr K84
def K87 := cl K86
def K88 := cr K86
abbrev gl (R : Rr) : Gl := Gl.fn prog 307 75 R
def CC (R : Rr) (s0 : ByteArray) (x3 : Int) (σ : Hp) : Prop := ∀ (J : Env), At (gl R) [.code TD, .code MS, .code OE, .inScope K3] (Ge J [(0, (.string s0)), (3, (.int .i64 x3))]) [] σ
def Ev (R : Rr) (s0 : ByteArray) (x3 x4 x5 x6 : Int) (σ : Hp) : Prop := ∀ (J : Env), At (gl R) [.code TG, .code Re, .inScope K3] (Ge J [(0, (.string s0)), (3, (.int .i64 x3)), (4, (.int .i64 x4)), (5, (.int .u8 x5)), (6, (.int .u8 x6))]) [] σ
def om (R : Rr) (s0 : ByteArray) (x3 x4 x5 x6 : Int) (σ : Hp) : Prop := ∀ (J : Env), At (gl R) [.code K70, .code K71, .code K74, .inScope K3] (Ge J [(0, (.string s0)), (3, (.int .i64 x3)), (4, (.int .i64 x4)), (5, (.int .u8 x5)), (6, (.int .u8 x6))]) [] σ
theorem start {R : Rr} {s0 : ByteArray} {σ : Hp} (h : CC R s0 0 σ) : Spec prog 307 #[(.string s0)] σ R := by
 refine Spec.Jp (fn := f307) (c := K0) func307 (by kernel_rfl) (Nat.le_of_ble_eq_true (by kernel_rfl)) (fun e he => ?_)
 refine At.oG (l := [(0, (.string s0))]) ⟨he 0, trivial⟩ (fun J => ?_)
 show At (gl R) _ _ _ _
 refine At.s K1 K2 ?_
 refine At.rg 0 [0] ?_
 refine Seq.u 2 (.bool false) (Seq.done ?_)
 refine At.scope (x := K3) (by kernel_rfl) ?_
 refine At.s K4 K5 ?_
 refine At.rg 1 [0, 1] ?_
 refine Seq.us [(3, .int .i64 0), (4, .int .i64 0)] (Seq.done ?_)
 refine At.s K6 K7 ?_
 refine At.rg 2 [0, 1] ?_
 refine Seq.us [(5, .int .u8 128), (6, .int .u8 191)] (Seq.done ?_)
 refine At.s K8 K9 ?_
 refine At.label (l := 0) ?_
 refine At.s Lp OE (At.s TD MS ?_)
 exact At.v [(0, (.string s0)), (3, (.int .i64 0))] (h _)
theorem BS {R : Rr} {s0 : ByteArray} {x3 : Int} {σ : Hp} (h : ((x3 : Int) = ((ByteArray.size s0 : Nat) : Int) → R (.returned (.bool true)) σ) ∧ (¬ ((x3 : Int) = ((ByteArray.size s0 : Nat) : Int)) → ∃ Au : UInt8, (0 : Int) ≤ x3 ∧ (ByteArray.data s0)[Int.toNat x3]? = some Au ∧ ((((UInt8.toNat Au : Nat) : Int) : Int) < 128 → AN (x3 + 1) ∧ CC R s0 ((x3 + 1)) σ) ∧ (¬ ((((UInt8.toNat Au : Nat) : Int) : Int) < 128) → ((194 : Int) ≤ ((UInt8.toNat Au : Nat) : Int) → ((((UInt8.toNat Au : Nat) : Int) : Int) ≤ 223 → Ev R s0 x3 1 128 191 σ) ∧ (¬ ((((UInt8.toNat Au : Nat) : Int) : Int) ≤ 223) → ((224 : Int) ≤ ((UInt8.toNat Au : Nat) : Int) → ((((UInt8.toNat Au : Nat) : Int) : Int) ≤ 239 → ((((UInt8.toNat Au : Nat) : Int) : Int) = 224 → Ev R s0 x3 2 160 191 σ) ∧ (¬ ((((UInt8.toNat Au : Nat) : Int) : Int) = 224) → ((((UInt8.toNat Au : Nat) : Int) : Int) = 237 → Ev R s0 x3 2 128 159 σ) ∧ (¬ ((((UInt8.toNat Au : Nat) : Int) : Int) = 237) → Ev R s0 x3 2 128 191 σ))) ∧ (¬ ((((UInt8.toNat Au : Nat) : Int) : Int) ≤ 239) → ((240 : Int) ≤ ((UInt8.toNat Au : Nat) : Int) → ((((UInt8.toNat Au : Nat) : Int) : Int) ≤ 244 → ((((UInt8.toNat Au : Nat) : Int) : Int) = 240 → Ev R s0 x3 3 144 191 σ) ∧ (¬ ((((UInt8.toNat Au : Nat) : Int) : Int) = 240) → ((((UInt8.toNat Au : Nat) : Int) : Int) = 244 → Ev R s0 x3 3 128 143 σ) ∧ (¬ ((((UInt8.toNat Au : Nat) : Int) : Int) = 244) → Ev R s0 x3 3 128 191 σ))) ∧ (¬ ((((UInt8.toNat Au : Nat) : Int) : Int) ≤ 244) → R (.returned (.bool false)) σ)) ∧ (¬ ((240 : Int) ≤ ((UInt8.toNat Au : Nat) : Int)) → R (.returned (.bool false)) σ))) ∧ (¬ ((224 : Int) ≤ ((UInt8.toNat Au : Nat) : Int)) → ((240 : Int) ≤ ((UInt8.toNat Au : Nat) : Int) → ((((UInt8.toNat Au : Nat) : Int) : Int) ≤ 244 → ((((UInt8.toNat Au : Nat) : Int) : Int) = 240 → Ev R s0 x3 3 144 191 σ) ∧ (¬ ((((UInt8.toNat Au : Nat) : Int) : Int) = 240) → ((((UInt8.toNat Au : Nat) : Int) : Int) = 244 → Ev R s0 x3 3 128 143 σ) ∧ (¬ ((((UInt8.toNat Au : Nat) : Int) : Int) = 244) → Ev R s0 x3 3 128 191 σ))) ∧ (¬ ((((UInt8.toNat Au : Nat) : Int) : Int) ≤ 244) → R (.returned (.bool false)) σ)) ∧ (¬ ((240 : Int) ≤ ((UInt8.toNat Au : Nat) : Int)) → R (.returned (.bool false)) σ)))) ∧ (¬ ((194 : Int) ≤ ((UInt8.toNat Au : Nat) : Int)) → ((224 : Int) ≤ ((UInt8.toNat Au : Nat) : Int) → ((((UInt8.toNat Au : Nat) : Int) : Int) ≤ 239 → ((((UInt8.toNat Au : Nat) : Int) : Int) = 224 → Ev R s0 x3 2 160 191 σ) ∧ (¬ ((((UInt8.toNat Au : Nat) : Int) : Int) = 224) → ((((UInt8.toNat Au : Nat) : Int) : Int) = 237 → Ev R s0 x3 2 128 159 σ) ∧ (¬ ((((UInt8.toNat Au : Nat) : Int) : Int) = 237) → Ev R s0 x3 2 128 191 σ))) ∧ (¬ ((((UInt8.toNat Au : Nat) : Int) : Int) ≤ 239) → ((240 : Int) ≤ ((UInt8.toNat Au : Nat) : Int) → ((((UInt8.toNat Au : Nat) : Int) : Int) ≤ 244 → ((((UInt8.toNat Au : Nat) : Int) : Int) = 240 → Ev R s0 x3 3 144 191 σ) ∧ (¬ ((((UInt8.toNat Au : Nat) : Int) : Int) = 240) → ((((UInt8.toNat Au : Nat) : Int) : Int) = 244 → Ev R s0 x3 3 128 143 σ) ∧ (¬ ((((UInt8.toNat Au : Nat) : Int) : Int) = 244) → Ev R s0 x3 3 128 191 σ))) ∧ (¬ ((((UInt8.toNat Au : Nat) : Int) : Int) ≤ 244) → R (.returned (.bool false)) σ)) ∧ (¬ ((240 : Int) ≤ ((UInt8.toNat Au : Nat) : Int)) → R (.returned (.bool false)) σ))) ∧ (¬ ((224 : Int) ≤ ((UInt8.toNat Au : Nat) : Int)) → ((240 : Int) ≤ ((UInt8.toNat Au : Nat) : Int) → ((((UInt8.toNat Au : Nat) : Int) : Int) ≤ 244 → ((((UInt8.toNat Au : Nat) : Int) : Int) = 240 → Ev R s0 x3 3 144 191 σ) ∧ (¬ ((((UInt8.toNat Au : Nat) : Int) : Int) = 240) → ((((UInt8.toNat Au : Nat) : Int) : Int) = 244 → Ev R s0 x3 3 128 143 σ) ∧ (¬ ((((UInt8.toNat Au : Nat) : Int) : Int) = 244) → Ev R s0 x3 3 128 191 σ))) ∧ (¬ ((((UInt8.toNat Au : Nat) : Int) : Int) ≤ 244) → R (.returned (.bool false)) σ)) ∧ (¬ ((240 : Int) ≤ ((UInt8.toNat Au : Nat) : Int)) → R (.returned (.bool false)) σ)))))) : CC R s0 x3 σ := by
 intro J
 show At (gl R) _ _ _ _
 refine At.rg 3 [0, 1, 2, 3] ?_
 refine Seq.us [(8, .int .i64 x3), (9, .string s0)] ?_
 refine Seq.z 10 (.call { callee := .builtin .len, args := #[(.tmp 9)], argTypes := #[9] }) 3 (.int .i64 ((ByteArray.size s0 : Nat) : Int)) (Y.Y5 underlying9 rfl rfl) ?_
 refine Seq.u 11 (.bool (decide ((x3 : Int) = ((ByteArray.size s0 : Nat) : Int)))) (Seq.done ?_)
 cases hb : (decide ((x3 : Int) = ((ByteArray.size s0 : Nat) : Int))) with
 | true =>
  replace h := h.1 (of_decide_eq_true hb)
  refine At.cT 11 QM TE ?_
  refine At.s Zl eP ?_
  refine At.rg 4 [0] ?_
  refine Seq.u 2 (.bool true) (Seq.done ?_)
  exact At.rt [.tmp 2] [(.bool true)] func307 ⟨_, rfl, rfl⟩ h
 | false =>
  replace h := h.2 (of_decide_eq_false hb)
  refine At.cF 11 QM TE ?_
  refine At.skip ?_
  refine At.s Yf UX ?_
  refine At.rg 5 [0, 1] ?_
  refine Seq.us [(5, .int .u8 128), (6, .int .u8 191)] (Seq.done ?_)
  refine At.s TF K64 (At.s hY bz ?_)
  refine At.rg 6 [0, 1, 2, 3] ?_
  refine Seq.us [(12, .string s0), (13, .int .i64 x3)] ?_
  obtain ⟨Au, h0, hv, h⟩ := h
  refine Seq.z 14 (.index 9 (.tmp 12) (.tmp 13)) 5 (.int .u8 ((UInt8.toNat Au : Nat) : Int)) (Y.Tx underlying9 rfl rfl h0 hv) ?_
  refine Seq.u 7 (.int .u8 ((UInt8.toNat Au : Nat) : Int)) (Seq.done ?_)
  refine At.b 0 Yg ?_
  refine At.s eQ WL ?_
  refine At.rg 8 [0, 1, 2] ?_
  refine Seq.us [(16, .int .u8 ((UInt8.toNat Au : Nat) : Int)), (17, .bool (decide ((((UInt8.toNat Au : Nat) : Int) : Int) < 128))), (15, .bool (decide ((((UInt8.toNat Au : Nat) : Int) : Int) < 128)))] (Seq.done ?_)
  cases hb : (decide ((((UInt8.toNat Au : Nat) : Int) : Int) < 128)) with
  | true =>
   replace h := h.1 (of_decide_eq_true hb)
   refine At.cT 15 WM WQ ?_
   refine At.s WN WO ?_
   refine At.rg 9 [0, 1, 2] ?_
   refine Seq.u 18 (.int .i64 x3) ?_
   obtain ⟨hi, h⟩ := h
   refine Seq.z 19 (.binOp .add 3 (.tmp 18) (.const (.int .i64 1)) 3) 3 (.int .i64 (x3 + 1)) (Y.Po hi rfl rfl) ?_
   refine Seq.u 3 (.int .i64 (x3 + 1)) (Seq.done ?_)
   refine At.goto (i := 0) (k' := [.code (.seq .skip K9), .inScope K3]) (by kernel_rfl) (by kernel_rfl) ?_
   refine At.s .skip K9 (At.skip ?_)
   refine At.s Lp OE (At.s TD MS ?_)
   exact At.v [(0, (.string s0)), (3, (.int .i64 (x3 + 1)))] (h _)
  | false =>
   replace h := h.2 (of_decide_eq_false hb)
   refine At.cF 15 WM WQ ?_
   refine At.s jW hZ ?_
   refine At.rg 10 [0, 1, 2, 3, 4, 5, 6] ?_
   refine Seq.us [(21, .int .u8 ((UInt8.toNat Au : Nat) : Int)), (22, .bool (decide ((194 : Int) ≤ ((UInt8.toNat Au : Nat) : Int)))), (23, .bool (decide ((194 : Int) ≤ ((UInt8.toNat Au : Nat) : Int))))] ?_
   cases hb : (decide ((194 : Int) ≤ ((UInt8.toNat Au : Nat) : Int))) with
   | true =>
    replace h := h.1 (of_decide_eq_true hb)
    refine Seq.us [(24, .int .u8 ((UInt8.toNat Au : Nat) : Int)), (25, .bool (decide ((((UInt8.toNat Au : Nat) : Int) : Int) ≤ 223))), (26, .bool (decide ((((UInt8.toNat Au : Nat) : Int) : Int) ≤ 223))), (20, .bool (decide ((((UInt8.toNat Au : Nat) : Int) : Int) ≤ 223)))] (Seq.done ?_)
    cases hb : (decide ((((UInt8.toNat Au : Nat) : Int) : Int) ≤ 223)) with
    | true =>
     replace h := h.1 (of_decide_eq_true hb)
     refine At.cT 20 Yh cA ?_
     refine At.rg 11 [0] ?_
     refine Seq.u 4 (.int .i64 1) (Seq.done ?_)
     refine At.inBlock ?_
     refine At.s TG Re ?_
     exact At.v [(0, (.string s0)), (3, (.int .i64 x3)), (4, (.int .i64 1)), (5, (.int .u8 128)), (6, (.int .u8 191))] (h _)
    | false =>
     replace h := h.2 (of_decide_eq_false hb)
     refine At.cF 20 Yh cA ?_
     refine At.s iA iB ?_
     refine At.rg 12 [0, 1, 2, 3, 4, 5, 6] ?_
     refine Seq.us [(28, .int .u8 ((UInt8.toNat Au : Nat) : Int)), (29, .bool (decide ((224 : Int) ≤ ((UInt8.toNat Au : Nat) : Int)))), (30, .bool (decide ((224 : Int) ≤ ((UInt8.toNat Au : Nat) : Int))))] ?_
     cases hb : (decide ((224 : Int) ≤ ((UInt8.toNat Au : Nat) : Int))) with
     | true =>
      replace h := h.1 (of_decide_eq_true hb)
      refine Seq.us [(31, .int .u8 ((UInt8.toNat Au : Nat) : Int)), (32, .bool (decide ((((UInt8.toNat Au : Nat) : Int) : Int) ≤ 239))), (33, .bool (decide ((((UInt8.toNat Au : Nat) : Int) : Int) ≤ 239))), (27, .bool (decide ((((UInt8.toNat Au : Nat) : Int) : Int) ≤ 239)))] (Seq.done ?_)
      cases hb : (decide ((((UInt8.toNat Au : Nat) : Int) : Int) ≤ 239)) with
      | true =>
       replace h := h.1 (of_decide_eq_true hb)
       refine At.cT 27 nC nE ?_
       refine At.s K37 sP ?_
       refine At.rg 13 [0] ?_
       refine Seq.u 4 (.int .i64 2) (Seq.done ?_)
       refine At.s K39 sQ ?_
       refine At.rg 14 [0, 1] ?_
       refine Seq.us [(34, .int .u8 ((UInt8.toNat Au : Nat) : Int)), (35, .bool (decide ((((UInt8.toNat Au : Nat) : Int) : Int) = 224)))] (Seq.done ?_)
       refine At.L [(0, (.string s0)), (3, (.int .i64 x3)), (4, (.int .i64 2)), (5, (.int .u8 128)), (6, (.int .u8 191)), (7, (.int .u8 ((UInt8.toNat Au : Nat) : Int))), (35, (.bool (decide ((((UInt8.toNat Au : Nat) : Int) : Int) = 224))))] fun J => ?_
       cases hb : (decide ((((UInt8.toNat Au : Nat) : Int) : Int) = 224)) with
       | true =>
        replace h := h.1 (of_decide_eq_true hb)
        refine At.cT 35 sR sS ?_
        refine At.rg 15 [0] ?_
        refine Seq.u 5 (.int .u8 160) (Seq.done ?_)
        refine At.inBlock ?_
        refine At.s TG Re ?_
        exact At.v [(0, (.string s0)), (3, (.int .i64 x3)), (4, (.int .i64 2)), (5, (.int .u8 160)), (6, (.int .u8 191))] (h _)
       | false =>
        replace h := h.2 (of_decide_eq_false hb)
        refine At.cF 35 sR sS ?_
        refine At.s zp oh ?_
        refine At.rg 16 [0, 1] ?_
        refine Seq.us [(36, .int .u8 ((UInt8.toNat Au : Nat) : Int)), (37, .bool (decide ((((UInt8.toNat Au : Nat) : Int) : Int) = 237)))] (Seq.done ?_)
        cases hb : (decide ((((UInt8.toNat Au : Nat) : Int) : Int) = 237)) with
        | true =>
         replace h := h.1 (of_decide_eq_true hb)
         refine At.cT 37 wE sT ?_
         refine At.rg 17 [0] ?_
         refine Seq.u 6 (.int .u8 159) (Seq.done ?_)
         refine At.inBlock ?_
         refine At.s TG Re ?_
         exact At.v [(0, (.string s0)), (3, (.int .i64 x3)), (4, (.int .i64 2)), (5, (.int .u8 128)), (6, (.int .u8 159))] (h _)
        | false =>
         replace h := h.2 (of_decide_eq_false hb)
         refine At.cF 37 wE sT ?_
         refine At.skip ?_
         refine At.inBlock ?_
         refine At.s TG Re ?_
         exact At.v [(0, (.string s0)), (3, (.int .i64 x3)), (4, (.int .i64 2)), (5, (.int .u8 128)), (6, (.int .u8 191))] (h _)
      | false =>
       replace h := h.2 (of_decide_eq_false hb)
       refine At.cF 27 nC nE ?_
       refine At.s sU sV ?_
       refine At.rg 18 [0, 1, 2, 3, 4, 5, 6] ?_
       refine Seq.us [(39, .int .u8 ((UInt8.toNat Au : Nat) : Int)), (40, .bool (decide ((240 : Int) ≤ ((UInt8.toNat Au : Nat) : Int)))), (41, .bool (decide ((240 : Int) ≤ ((UInt8.toNat Au : Nat) : Int))))] ?_
       cases hb : (decide ((240 : Int) ≤ ((UInt8.toNat Au : Nat) : Int))) with
       | true =>
        replace h := h.1 (of_decide_eq_true hb)
        refine Seq.us [(42, .int .u8 ((UInt8.toNat Au : Nat) : Int)), (43, .bool (decide ((((UInt8.toNat Au : Nat) : Int) : Int) ≤ 244))), (44, .bool (decide ((((UInt8.toNat Au : Nat) : Int) : Int) ≤ 244))), (38, .bool (decide ((((UInt8.toNat Au : Nat) : Int) : Int) ≤ 244)))] (Seq.done ?_)
        cases hb : (decide ((((UInt8.toNat Au : Nat) : Int) : Int) ≤ 244)) with
        | true =>
         replace h := h.1 (of_decide_eq_true hb)
         refine At.cT 38 Yi cC ?_
         refine At.s wF nF ?_
         refine At.rg 19 [0] ?_
         refine Seq.u 4 (.int .i64 3) (Seq.done ?_)
         refine At.s zq nG ?_
         refine At.rg 20 [0, 1] ?_
         refine Seq.us [(45, .int .u8 ((UInt8.toNat Au : Nat) : Int)), (46, .bool (decide ((((UInt8.toNat Au : Nat) : Int) : Int) = 240)))] (Seq.done ?_)
         cases hb : (decide ((((UInt8.toNat Au : Nat) : Int) : Int) = 240)) with
         | true =>
          replace h := h.1 (of_decide_eq_true hb)
          refine At.cT 46 nH cB ?_
          refine At.rg 21 [0] ?_
          refine Seq.u 5 (.int .u8 144) (Seq.done ?_)
          refine At.inBlock ?_
          refine At.s TG Re ?_
          exact At.v [(0, (.string s0)), (3, (.int .i64 x3)), (4, (.int .i64 3)), (5, (.int .u8 144)), (6, (.int .u8 191))] (h _)
         | false =>
          replace h := h.2 (of_decide_eq_false hb)
          refine At.cF 46 nH cB ?_
          refine At.s zr sW ?_
          refine At.rg 22 [0, 1] ?_
          refine Seq.us [(47, .int .u8 ((UInt8.toNat Au : Nat) : Int)), (48, .bool (decide ((((UInt8.toNat Au : Nat) : Int) : Int) = 244)))] (Seq.done ?_)
          cases hb : (decide ((((UInt8.toNat Au : Nat) : Int) : Int) = 244)) with
          | true =>
           replace h := h.1 (of_decide_eq_true hb)
           refine At.cT 48 sX sY ?_
           refine At.rg 23 [0] ?_
           refine Seq.u 6 (.int .u8 143) (Seq.done ?_)
           refine At.inBlock ?_
           refine At.s TG Re ?_
           exact At.v [(0, (.string s0)), (3, (.int .i64 x3)), (4, (.int .i64 3)), (5, (.int .u8 128)), (6, (.int .u8 143))] (h _)
          | false =>
           replace h := h.2 (of_decide_eq_false hb)
           refine At.cF 48 sX sY ?_
           refine At.skip ?_
           refine At.inBlock ?_
           refine At.s TG Re ?_
           exact At.v [(0, (.string s0)), (3, (.int .i64 x3)), (4, (.int .i64 3)), (5, (.int .u8 128)), (6, (.int .u8 191))] (h _)
        | false =>
         replace h := h.2 (of_decide_eq_false hb)
         refine At.cF 38 Yi cC ?_
         refine At.s sZ sa ?_
         refine At.rg 7 [0] ?_
         refine Seq.u 2 (.bool false) (Seq.done ?_)
         exact At.rt [.tmp 2] [(.bool false)] func307 ⟨_, rfl, rfl⟩ h
       | false =>
        replace h := h.2 (of_decide_eq_false hb)
        refine Seq.n 42 ?_
        refine Seq.n 43 ?_
        refine Seq.us [(44, .bool false), (38, .bool false)] (Seq.done ?_)
        refine At.cF 38 Yi cC ?_
        refine At.s sZ sa ?_
        refine At.rg 7 [0] ?_
        refine Seq.u 2 (.bool false) (Seq.done ?_)
        exact At.rt [.tmp 2] [(.bool false)] func307 ⟨_, rfl, rfl⟩ h
     | false =>
      replace h := h.2 (of_decide_eq_false hb)
      refine Seq.n 31 ?_
      refine Seq.n 32 ?_
      refine Seq.us [(33, .bool false), (27, .bool false)] (Seq.done ?_)
      refine At.cF 27 nC nE ?_
      refine At.s sU sV ?_
      refine At.rg 18 [0, 1, 2, 3, 4, 5, 6] ?_
      refine Seq.us [(39, .int .u8 ((UInt8.toNat Au : Nat) : Int)), (40, .bool (decide ((240 : Int) ≤ ((UInt8.toNat Au : Nat) : Int)))), (41, .bool (decide ((240 : Int) ≤ ((UInt8.toNat Au : Nat) : Int))))] ?_
      cases hb : (decide ((240 : Int) ≤ ((UInt8.toNat Au : Nat) : Int))) with
      | true =>
       replace h := h.1 (of_decide_eq_true hb)
       refine Seq.us [(42, .int .u8 ((UInt8.toNat Au : Nat) : Int)), (43, .bool (decide ((((UInt8.toNat Au : Nat) : Int) : Int) ≤ 244))), (44, .bool (decide ((((UInt8.toNat Au : Nat) : Int) : Int) ≤ 244))), (38, .bool (decide ((((UInt8.toNat Au : Nat) : Int) : Int) ≤ 244)))] (Seq.done ?_)
       refine At.L [(0, (.string s0)), (3, (.int .i64 x3)), (5, (.int .u8 128)), (6, (.int .u8 191)), (7, (.int .u8 ((UInt8.toNat Au : Nat) : Int))), (38, (.bool (decide ((((UInt8.toNat Au : Nat) : Int) : Int) ≤ 244))))] fun J => ?_
       cases hb : (decide ((((UInt8.toNat Au : Nat) : Int) : Int) ≤ 244)) with
       | true =>
        replace h := h.1 (of_decide_eq_true hb)
        refine At.cT 38 Yi cC ?_
        refine At.s wF nF ?_
        refine At.rg 19 [0] ?_
        refine Seq.u 4 (.int .i64 3) (Seq.done ?_)
        refine At.s zq nG ?_
        refine At.rg 20 [0, 1] ?_
        refine Seq.us [(45, .int .u8 ((UInt8.toNat Au : Nat) : Int)), (46, .bool (decide ((((UInt8.toNat Au : Nat) : Int) : Int) = 240)))] (Seq.done ?_)
        cases hb : (decide ((((UInt8.toNat Au : Nat) : Int) : Int) = 240)) with
        | true =>
         replace h := h.1 (of_decide_eq_true hb)
         refine At.cT 46 nH cB ?_
         refine At.rg 21 [0] ?_
         refine Seq.u 5 (.int .u8 144) (Seq.done ?_)
         refine At.inBlock ?_
         refine At.s TG Re ?_
         exact At.v [(0, (.string s0)), (3, (.int .i64 x3)), (4, (.int .i64 3)), (5, (.int .u8 144)), (6, (.int .u8 191))] (h _)
        | false =>
         replace h := h.2 (of_decide_eq_false hb)
         refine At.cF 46 nH cB ?_
         refine At.s zr sW ?_
         refine At.rg 22 [0, 1] ?_
         refine Seq.us [(47, .int .u8 ((UInt8.toNat Au : Nat) : Int)), (48, .bool (decide ((((UInt8.toNat Au : Nat) : Int) : Int) = 244)))] (Seq.done ?_)
         cases hb : (decide ((((UInt8.toNat Au : Nat) : Int) : Int) = 244)) with
         | true =>
          replace h := h.1 (of_decide_eq_true hb)
          refine At.cT 48 sX sY ?_
          refine At.rg 23 [0] ?_
          refine Seq.u 6 (.int .u8 143) (Seq.done ?_)
          refine At.inBlock ?_
          refine At.s TG Re ?_
          exact At.v [(0, (.string s0)), (3, (.int .i64 x3)), (4, (.int .i64 3)), (5, (.int .u8 128)), (6, (.int .u8 143))] (h _)
         | false =>
          replace h := h.2 (of_decide_eq_false hb)
          refine At.cF 48 sX sY ?_
          refine At.skip ?_
          refine At.inBlock ?_
          refine At.s TG Re ?_
          exact At.v [(0, (.string s0)), (3, (.int .i64 x3)), (4, (.int .i64 3)), (5, (.int .u8 128)), (6, (.int .u8 191))] (h _)
       | false =>
        replace h := h.2 (of_decide_eq_false hb)
        refine At.cF 38 Yi cC ?_
        refine At.s sZ sa ?_
        refine At.rg 7 [0] ?_
        refine Seq.u 2 (.bool false) (Seq.done ?_)
        exact At.rt [.tmp 2] [(.bool false)] func307 ⟨_, rfl, rfl⟩ h
      | false =>
       replace h := h.2 (of_decide_eq_false hb)
       refine Seq.n 42 ?_
       refine Seq.n 43 ?_
       refine Seq.us [(44, .bool false), (38, .bool false)] (Seq.done ?_)
       refine At.cF 38 Yi cC ?_
       refine At.s sZ sa ?_
       refine At.rg 7 [0] ?_
       refine Seq.u 2 (.bool false) (Seq.done ?_)
       exact At.rt [.tmp 2] [(.bool false)] func307 ⟨_, rfl, rfl⟩ h
   | false =>
    replace h := h.2 (of_decide_eq_false hb)
    refine Seq.n 24 ?_
    refine Seq.n 25 ?_
    refine Seq.us [(26, .bool false), (20, .bool false)] (Seq.done ?_)
    refine At.cF 20 Yh cA ?_
    refine At.s iA iB ?_
    refine At.rg 12 [0, 1, 2, 3, 4, 5, 6] ?_
    refine Seq.us [(28, .int .u8 ((UInt8.toNat Au : Nat) : Int)), (29, .bool (decide ((224 : Int) ≤ ((UInt8.toNat Au : Nat) : Int)))), (30, .bool (decide ((224 : Int) ≤ ((UInt8.toNat Au : Nat) : Int))))] ?_
    cases hb : (decide ((224 : Int) ≤ ((UInt8.toNat Au : Nat) : Int))) with
    | true =>
     replace h := h.1 (of_decide_eq_true hb)
     refine Seq.us [(31, .int .u8 ((UInt8.toNat Au : Nat) : Int)), (32, .bool (decide ((((UInt8.toNat Au : Nat) : Int) : Int) ≤ 239))), (33, .bool (decide ((((UInt8.toNat Au : Nat) : Int) : Int) ≤ 239))), (27, .bool (decide ((((UInt8.toNat Au : Nat) : Int) : Int) ≤ 239)))] (Seq.done ?_)
     cases hb : (decide ((((UInt8.toNat Au : Nat) : Int) : Int) ≤ 239)) with
     | true =>
      replace h := h.1 (of_decide_eq_true hb)
      refine At.cT 27 nC nE ?_
      refine At.s K37 sP ?_
      refine At.rg 13 [0] ?_
      refine Seq.u 4 (.int .i64 2) (Seq.done ?_)
      refine At.s K39 sQ ?_
      refine At.rg 14 [0, 1] ?_
      refine Seq.us [(34, .int .u8 ((UInt8.toNat Au : Nat) : Int)), (35, .bool (decide ((((UInt8.toNat Au : Nat) : Int) : Int) = 224)))] (Seq.done ?_)
      cases hb : (decide ((((UInt8.toNat Au : Nat) : Int) : Int) = 224)) with
      | true =>
       replace h := h.1 (of_decide_eq_true hb)
       refine At.cT 35 sR sS ?_
       refine At.rg 15 [0] ?_
       refine Seq.u 5 (.int .u8 160) (Seq.done ?_)
       refine At.inBlock ?_
       refine At.s TG Re ?_
       exact At.v [(0, (.string s0)), (3, (.int .i64 x3)), (4, (.int .i64 2)), (5, (.int .u8 160)), (6, (.int .u8 191))] (h _)
      | false =>
       replace h := h.2 (of_decide_eq_false hb)
       refine At.cF 35 sR sS ?_
       refine At.s zp oh ?_
       refine At.rg 16 [0, 1] ?_
       refine Seq.us [(36, .int .u8 ((UInt8.toNat Au : Nat) : Int)), (37, .bool (decide ((((UInt8.toNat Au : Nat) : Int) : Int) = 237)))] (Seq.done ?_)
       cases hb : (decide ((((UInt8.toNat Au : Nat) : Int) : Int) = 237)) with
       | true =>
        replace h := h.1 (of_decide_eq_true hb)
        refine At.cT 37 wE sT ?_
        refine At.rg 17 [0] ?_
        refine Seq.u 6 (.int .u8 159) (Seq.done ?_)
        refine At.L [(0, (.string s0)), (3, (.int .i64 x3)), (4, (.int .i64 2)), (5, (.int .u8 128)), (6, (.int .u8 159))] fun J => ?_
        refine At.inBlock ?_
        refine At.s TG Re ?_
        exact At.v [(0, (.string s0)), (3, (.int .i64 x3)), (4, (.int .i64 2)), (5, (.int .u8 128)), (6, (.int .u8 159))] (h _)
       | false =>
        replace h := h.2 (of_decide_eq_false hb)
        refine At.cF 37 wE sT ?_
        refine At.skip ?_
        refine At.inBlock ?_
        refine At.s TG Re ?_
        exact At.v [(0, (.string s0)), (3, (.int .i64 x3)), (4, (.int .i64 2)), (5, (.int .u8 128)), (6, (.int .u8 191))] (h _)
     | false =>
      replace h := h.2 (of_decide_eq_false hb)
      refine At.cF 27 nC nE ?_
      refine At.s sU sV ?_
      refine At.rg 18 [0, 1, 2, 3, 4, 5, 6] ?_
      refine Seq.us [(39, .int .u8 ((UInt8.toNat Au : Nat) : Int)), (40, .bool (decide ((240 : Int) ≤ ((UInt8.toNat Au : Nat) : Int)))), (41, .bool (decide ((240 : Int) ≤ ((UInt8.toNat Au : Nat) : Int))))] ?_
      cases hb : (decide ((240 : Int) ≤ ((UInt8.toNat Au : Nat) : Int))) with
      | true =>
       replace h := h.1 (of_decide_eq_true hb)
       refine Seq.us [(42, .int .u8 ((UInt8.toNat Au : Nat) : Int)), (43, .bool (decide ((((UInt8.toNat Au : Nat) : Int) : Int) ≤ 244))), (44, .bool (decide ((((UInt8.toNat Au : Nat) : Int) : Int) ≤ 244))), (38, .bool (decide ((((UInt8.toNat Au : Nat) : Int) : Int) ≤ 244)))] (Seq.done ?_)
       cases hb : (decide ((((UInt8.toNat Au : Nat) : Int) : Int) ≤ 244)) with
       | true =>
        replace h := h.1 (of_decide_eq_true hb)
        refine At.cT 38 Yi cC ?_
        refine At.s wF nF ?_
        refine At.rg 19 [0] ?_
        refine Seq.u 4 (.int .i64 3) (Seq.done ?_)
        refine At.s zq nG ?_
        refine At.rg 20 [0, 1] ?_
        refine Seq.us [(45, .int .u8 ((UInt8.toNat Au : Nat) : Int)), (46, .bool (decide ((((UInt8.toNat Au : Nat) : Int) : Int) = 240)))] (Seq.done ?_)
        cases hb : (decide ((((UInt8.toNat Au : Nat) : Int) : Int) = 240)) with
        | true =>
         replace h := h.1 (of_decide_eq_true hb)
         refine At.cT 46 nH cB ?_
         refine At.rg 21 [0] ?_
         refine Seq.u 5 (.int .u8 144) (Seq.done ?_)
         refine At.inBlock ?_
         refine At.s TG Re ?_
         exact At.v [(0, (.string s0)), (3, (.int .i64 x3)), (4, (.int .i64 3)), (5, (.int .u8 144)), (6, (.int .u8 191))] (h _)
        | false =>
         replace h := h.2 (of_decide_eq_false hb)
         refine At.cF 46 nH cB ?_
         refine At.s zr sW ?_
         refine At.rg 22 [0, 1] ?_
         refine Seq.us [(47, .int .u8 ((UInt8.toNat Au : Nat) : Int)), (48, .bool (decide ((((UInt8.toNat Au : Nat) : Int) : Int) = 244)))] (Seq.done ?_)
         cases hb : (decide ((((UInt8.toNat Au : Nat) : Int) : Int) = 244)) with
         | true =>
          replace h := h.1 (of_decide_eq_true hb)
          refine At.cT 48 sX sY ?_
          refine At.rg 23 [0] ?_
          refine Seq.u 6 (.int .u8 143) (Seq.done ?_)
          refine At.inBlock ?_
          refine At.s TG Re ?_
          exact At.v [(0, (.string s0)), (3, (.int .i64 x3)), (4, (.int .i64 3)), (5, (.int .u8 128)), (6, (.int .u8 143))] (h _)
         | false =>
          replace h := h.2 (of_decide_eq_false hb)
          refine At.cF 48 sX sY ?_
          refine At.skip ?_
          refine At.inBlock ?_
          refine At.s TG Re ?_
          exact At.v [(0, (.string s0)), (3, (.int .i64 x3)), (4, (.int .i64 3)), (5, (.int .u8 128)), (6, (.int .u8 191))] (h _)
       | false =>
        replace h := h.2 (of_decide_eq_false hb)
        refine At.cF 38 Yi cC ?_
        refine At.s sZ sa ?_
        refine At.rg 7 [0] ?_
        refine Seq.u 2 (.bool false) (Seq.done ?_)
        exact At.rt [.tmp 2] [(.bool false)] func307 ⟨_, rfl, rfl⟩ h
      | false =>
       replace h := h.2 (of_decide_eq_false hb)
       refine Seq.n 42 ?_
       refine Seq.n 43 ?_
       refine Seq.us [(44, .bool false), (38, .bool false)] (Seq.done ?_)
       refine At.cF 38 Yi cC ?_
       refine At.s sZ sa ?_
       refine At.rg 7 [0] ?_
       refine Seq.u 2 (.bool false) (Seq.done ?_)
       exact At.rt [.tmp 2] [(.bool false)] func307 ⟨_, rfl, rfl⟩ h
    | false =>
     replace h := h.2 (of_decide_eq_false hb)
     refine Seq.n 31 ?_
     refine Seq.n 32 ?_
     refine Seq.us [(33, .bool false), (27, .bool false)] (Seq.done ?_)
     refine At.cF 27 nC nE ?_
     refine At.s sU sV ?_
     refine At.rg 18 [0, 1, 2, 3, 4, 5, 6] ?_
     refine Seq.us [(39, .int .u8 ((UInt8.toNat Au : Nat) : Int)), (40, .bool (decide ((240 : Int) ≤ ((UInt8.toNat Au : Nat) : Int)))), (41, .bool (decide ((240 : Int) ≤ ((UInt8.toNat Au : Nat) : Int))))] ?_
     cases hb : (decide ((240 : Int) ≤ ((UInt8.toNat Au : Nat) : Int))) with
     | true =>
      replace h := h.1 (of_decide_eq_true hb)
      refine Seq.us [(42, .int .u8 ((UInt8.toNat Au : Nat) : Int)), (43, .bool (decide ((((UInt8.toNat Au : Nat) : Int) : Int) ≤ 244))), (44, .bool (decide ((((UInt8.toNat Au : Nat) : Int) : Int) ≤ 244))), (38, .bool (decide ((((UInt8.toNat Au : Nat) : Int) : Int) ≤ 244)))] (Seq.done ?_)
      cases hb : (decide ((((UInt8.toNat Au : Nat) : Int) : Int) ≤ 244)) with
      | true =>
       replace h := h.1 (of_decide_eq_true hb)
       refine At.cT 38 Yi cC ?_
       refine At.s wF nF ?_
       refine At.rg 19 [0] ?_
       refine Seq.u 4 (.int .i64 3) (Seq.done ?_)
       refine At.s zq nG ?_
       refine At.rg 20 [0, 1] ?_
       refine Seq.us [(45, .int .u8 ((UInt8.toNat Au : Nat) : Int)), (46, .bool (decide ((((UInt8.toNat Au : Nat) : Int) : Int) = 240)))] (Seq.done ?_)
       refine At.L [(0, (.string s0)), (3, (.int .i64 x3)), (4, (.int .i64 3)), (5, (.int .u8 128)), (6, (.int .u8 191)), (7, (.int .u8 ((UInt8.toNat Au : Nat) : Int))), (46, (.bool (decide ((((UInt8.toNat Au : Nat) : Int) : Int) = 240))))] fun J => ?_
       cases hb : (decide ((((UInt8.toNat Au : Nat) : Int) : Int) = 240)) with
       | true =>
        replace h := h.1 (of_decide_eq_true hb)
        refine At.cT 46 nH cB ?_
        refine At.rg 21 [0] ?_
        refine Seq.u 5 (.int .u8 144) (Seq.done ?_)
        refine At.inBlock ?_
        refine At.s TG Re ?_
        exact At.v [(0, (.string s0)), (3, (.int .i64 x3)), (4, (.int .i64 3)), (5, (.int .u8 144)), (6, (.int .u8 191))] (h _)
       | false =>
        replace h := h.2 (of_decide_eq_false hb)
        refine At.cF 46 nH cB ?_
        refine At.s zr sW ?_
        refine At.rg 22 [0, 1] ?_
        refine Seq.us [(47, .int .u8 ((UInt8.toNat Au : Nat) : Int)), (48, .bool (decide ((((UInt8.toNat Au : Nat) : Int) : Int) = 244)))] (Seq.done ?_)
        cases hb : (decide ((((UInt8.toNat Au : Nat) : Int) : Int) = 244)) with
        | true =>
         replace h := h.1 (of_decide_eq_true hb)
         refine At.cT 48 sX sY ?_
         refine At.rg 23 [0] ?_
         refine Seq.u 6 (.int .u8 143) (Seq.done ?_)
         refine At.inBlock ?_
         refine At.s TG Re ?_
         exact At.v [(0, (.string s0)), (3, (.int .i64 x3)), (4, (.int .i64 3)), (5, (.int .u8 128)), (6, (.int .u8 143))] (h _)
        | false =>
         replace h := h.2 (of_decide_eq_false hb)
         refine At.cF 48 sX sY ?_
         refine At.skip ?_
         refine At.inBlock ?_
         refine At.s TG Re ?_
         exact At.v [(0, (.string s0)), (3, (.int .i64 x3)), (4, (.int .i64 3)), (5, (.int .u8 128)), (6, (.int .u8 191))] (h _)
      | false =>
       replace h := h.2 (of_decide_eq_false hb)
       refine At.cF 38 Yi cC ?_
       refine At.s sZ sa ?_
       refine At.rg 7 [0] ?_
       refine Seq.u 2 (.bool false) (Seq.done ?_)
       exact At.rt [.tmp 2] [(.bool false)] func307 ⟨_, rfl, rfl⟩ h
     | false =>
      replace h := h.2 (of_decide_eq_false hb)
      refine Seq.n 42 ?_
      refine Seq.n 43 ?_
      refine Seq.us [(44, .bool false), (38, .bool false)] (Seq.done ?_)
      refine At.cF 38 Yi cC ?_
      refine At.s sZ sa ?_
      refine At.rg 7 [0] ?_
      refine Seq.u 2 (.bool false) (Seq.done ?_)
      exact At.rt [.tmp 2] [(.bool false)] func307 ⟨_, rfl, rfl⟩ h
theorem oq {R : Rr} {s0 : ByteArray} {x3 x4 x5 x6 : Int} {σ : Hp} (h : AN (x3 + 1) ∧ om R s0 ((x3 + 1)) x4 x5 x6 σ) : Ev R s0 x3 x4 x5 x6 σ := by
 intro J
 show At (gl R) _ _ _ _
 refine At.rg 24 [0, 1, 2] ?_
 refine Seq.u 49 (.int .i64 x3) ?_
 obtain ⟨hi, h⟩ := h
 refine Seq.z 50 (.binOp .add 3 (.tmp 49) (.const (.int .i64 1)) 3) 3 (.int .i64 (x3 + 1)) (Y.Po hi rfl rfl) ?_
 refine Seq.u 3 (.int .i64 (x3 + 1)) (Seq.done ?_)
 refine At.s K67 K68 ?_
 refine At.label (l := 1) ?_
 refine At.s K69 K74 (At.s K70 K71 ?_)
 exact At.v [(0, (.string s0)), (3, (.int .i64 (x3 + 1))), (4, (.int .i64 x4)), (5, (.int .u8 x5)), (6, (.int .u8 x6))] (h _)
theorem cD {R : Rr} {s0 : ByteArray} {x3 x4 x5 x6 : Int} {σ : Hp} (h : ((x4 : Int) = 0 → CC R s0 x3 σ) ∧ (¬ ((x4 : Int) = 0) → ((x3 : Int) = ((ByteArray.size s0 : Nat) : Int) → R (.returned (.bool false)) σ) ∧ (¬ ((x3 : Int) = ((ByteArray.size s0 : Nat) : Int)) → ∃ ot : UInt8, (0 : Int) ≤ x3 ∧ (ByteArray.data s0)[Int.toNat x3]? = some ot ∧ ((((UInt8.toNat ot : Nat) : Int) : Int) < x5 → R (.returned (.bool false)) σ) ∧ (¬ ((((UInt8.toNat ot : Nat) : Int) : Int) < x5) → ∃ ou : UInt8, (0 : Int) ≤ x3 ∧ (ByteArray.data s0)[Int.toNat x3]? = some ou ∧ ((x6 : Int) < ((UInt8.toNat ou : Nat) : Int) → R (.returned (.bool false)) σ) ∧ (¬ ((x6 : Int) < ((UInt8.toNat ou : Nat) : Int)) → AN (x4 - 1) ∧ AN (x3 + 1) ∧ om R s0 ((x3 + 1)) ((x4 - 1)) 128 191 σ))))) : om R s0 x3 x4 x5 x6 σ := by
 intro J
 show At (gl R) _ _ _ _
 refine At.rg 25 [0, 1] ?_
 refine Seq.us [(51, .int .i64 x4), (52, .bool (decide ((x4 : Int) = 0)))] (Seq.done ?_)
 cases hb : (decide ((x4 : Int) = 0)) with
 | true =>
  replace h := h.1 (of_decide_eq_true hb)
  refine At.cT 52 K72 K73 ?_
  refine At.goto (i := 0) (k' := [.code (.seq .skip K9), .inScope K3]) (by kernel_rfl) (by kernel_rfl) ?_
  refine At.s .skip K9 (At.skip ?_)
  refine At.s Lp OE (At.s TD MS ?_)
  exact At.v [(0, (.string s0)), (3, (.int .i64 x3))] (h _)
 | false =>
  replace h := h.2 (of_decide_eq_false hb)
  refine At.cF 52 K72 K73 ?_
  refine At.skip ?_
  refine At.s K75 K82 (At.s K76 K77 ?_)
  refine At.rg 26 [0, 1, 2, 3, 4, 5, 6, 7, 8, 9, 10, 11, 12, 13, 14, 15, 16, 17] ?_
  refine Seq.us [(53, .int .i64 x3), (54, .string s0)] ?_
  refine Seq.z 55 (.call { callee := .builtin .len, args := #[(.tmp 54)], argTypes := #[9] }) 3 (.int .i64 ((ByteArray.size s0 : Nat) : Int)) (Y.Y5 underlying9 rfl rfl) ?_
  refine Seq.us [(56, .bool (decide ((x3 : Int) = ((ByteArray.size s0 : Nat) : Int)))), (57, .bool (decide ((x3 : Int) = ((ByteArray.size s0 : Nat) : Int))))] ?_
  cases hb : (decide ((x3 : Int) = ((ByteArray.size s0 : Nat) : Int))) with
  | true =>
   replace h := h.1 (of_decide_eq_true hb)
   refine Seq.n 58 ?_
   refine Seq.n 59 ?_
   refine Seq.n 60 ?_
   refine Seq.n 61 ?_
   refine Seq.n 62 ?_
   refine Seq.us [(63, .bool true), (64, .bool true)] ?_
   refine Seq.n 65 ?_
   refine Seq.n 66 ?_
   refine Seq.n 67 ?_
   refine Seq.n 68 ?_
   refine Seq.n 69 ?_
   refine Seq.u 70 (.bool true) (Seq.done ?_)
   refine At.cT 70 zt K81 ?_
   refine At.s K79 K80 ?_
   refine At.rg 27 [0] ?_
   refine Seq.u 2 (.bool false) (Seq.done ?_)
   exact At.rt [.tmp 2] [(.bool false)] func307 ⟨_, rfl, rfl⟩ h
  | false =>
   replace h := h.2 (of_decide_eq_false hb)
   refine Seq.us [(58, .string s0), (59, .int .i64 x3)] ?_
   obtain ⟨ot, h0, hv, h⟩ := h
   refine Seq.zg 60 (.index 9 (.tmp 58) (.tmp 59)) 5 (4, false) (.int .u8 ((UInt8.toNat ot : Nat) : Int)) (Y.Tx underlying9 rfl rfl h0 hv) ?_
   refine Seq.us [(61, .int .u8 x5), (62, .bool (decide ((((UInt8.toNat ot : Nat) : Int) : Int) < x5))), (63, .bool (decide ((((UInt8.toNat ot : Nat) : Int) : Int) < x5))), (64, .bool (decide ((((UInt8.toNat ot : Nat) : Int) : Int) < x5)))] ?_
   cases hb : (decide ((((UInt8.toNat ot : Nat) : Int) : Int) < x5)) with
   | true =>
    replace h := h.1 (of_decide_eq_true hb)
    refine Seq.n 65 ?_
    refine Seq.n 66 ?_
    refine Seq.n 67 ?_
    refine Seq.n 68 ?_
    refine Seq.n 69 ?_
    refine Seq.u 70 (.bool true) (Seq.done ?_)
    refine At.cT 70 zt K81 ?_
    refine At.s K79 K80 ?_
    refine At.rg 27 [0] ?_
    refine Seq.u 2 (.bool false) (Seq.done ?_)
    exact At.rt [.tmp 2] [(.bool false)] func307 ⟨_, rfl, rfl⟩ h
   | false =>
    replace h := h.2 (of_decide_eq_false hb)
    refine Seq.us [(65, .string s0), (66, .int .i64 x3)] ?_
    obtain ⟨ou, h0, hv, h⟩ := h
    refine Seq.zg 67 (.index 9 (.tmp 65) (.tmp 66)) 5 (11, false) (.int .u8 ((UInt8.toNat ou : Nat) : Int)) (Y.Tx underlying9 rfl rfl h0 hv) ?_
    refine Seq.us [(68, .int .u8 x6), (69, .bool (decide ((x6 : Int) < ((UInt8.toNat ou : Nat) : Int)))), (70, .bool (decide ((x6 : Int) < ((UInt8.toNat ou : Nat) : Int))))] (Seq.done ?_)
    refine At.L [(0, (.string s0)), (3, (.int .i64 x3)), (4, (.int .i64 x4)), (70, (.bool (decide ((x6 : Int) < ((UInt8.toNat ou : Nat) : Int)))))] fun J => ?_
    cases hb : (decide ((x6 : Int) < ((UInt8.toNat ou : Nat) : Int))) with
    | true =>
     replace h := h.1 (of_decide_eq_true hb)
     refine At.cT 70 zt K81 ?_
     refine At.s K79 K80 ?_
     refine At.rg 27 [0] ?_
     refine Seq.u 2 (.bool false) (Seq.done ?_)
     exact At.rt [.tmp 2] [(.bool false)] func307 ⟨_, rfl, rfl⟩ h
    | false =>
     replace h := h.2 (of_decide_eq_false hb)
     refine At.cF 70 zt K81 ?_
     refine At.skip ?_
     refine At.s K83 K84 ?_
     refine At.rg 28 [0, 1] ?_
     refine Seq.us [(5, .int .u8 128), (6, .int .u8 191)] (Seq.done ?_)
     refine At.s K85 K86 ?_
     refine At.rg 29 [0, 1, 2] ?_
     refine Seq.u 71 (.int .i64 x4) ?_
     obtain ⟨hi, h⟩ := h
     refine Seq.z 72 (.binOp .sub 3 (.tmp 71) (.const (.int .i64 1)) 3) 3 (.int .i64 (x4 - 1)) (Y.oC hi rfl rfl) ?_
     refine Seq.u 4 (.int .i64 (x4 - 1)) (Seq.done ?_)
     refine At.s K87 K88 ?_
     refine At.rg 30 [0, 1, 2] ?_
     refine Seq.u 73 (.int .i64 x3) ?_
     obtain ⟨hi, h⟩ := h
     refine Seq.z 74 (.binOp .add 3 (.tmp 73) (.const (.int .i64 1)) 3) 3 (.int .i64 (x3 + 1)) (Y.Po hi rfl rfl) ?_
     refine Seq.u 3 (.int .i64 (x3 + 1)) (Seq.done ?_)
     refine At.goto (i := 1) (k' := [.code (.seq .skip K68), .inScope K3]) (by kernel_rfl) (by kernel_rfl) ?_
     refine At.s .skip K68 (At.skip ?_)
     refine At.s K69 K74 (At.s K70 K71 ?_)
     exact At.v [(0, (.string s0)), (3, (.int .i64 (x3 + 1))), (4, (.int .i64 (x4 - 1))), (5, (.int .u8 128)), (6, (.int .u8 191))] (h _)
end BL
namespace Ct
variable {s0 s1 : ByteArray}
def M : Fw := ⟨prog, 317, f317, [169], [], false, [], [], []⟩
theorem ok : M.Ok := ⟨.cons call169 (AK.nil), mixed, func317, by kernel_rfl⟩
theorem start (h : Spec prog 169 #[.string s0, .string s1] σ (AB R (CB fun t8 y => Bn t8 (R (.returned (.tuple #[.string s0, .bool false])) y) (∃ cE, YF prog (Instr.sliceAt 9 (.string s0) (some (.int .i64 ((ByteArray.size s1 : Nat) : Int))) none none) y (.string cE) ∧ R (.returned (.tuple #[.string cE, .bool true])) y)))) : Spec prog 317 #[.string s0, .string s1] σ R := M.start h ok
end Ct
namespace AL
variable {p0 : Option Addr} {n0 c0 : Nat} {x1 x2 x6 x7 : Int}
def M : Fw := ⟨prog, 322, f322, [328], [], false, [(6, 17, false)], [], [(48, [(0, wL), (1, wI), (2, wI), (6, wI)]), (3216, [(0, wL), (1, wI), (2, wI), (6, wI), (7, wI)])]⟩
theorem ok : M.Ok := ⟨.cons call328 (AK.nil), mixed, func322, by kernel_rfl⟩
def Zm := M.pt 0
def GO := M.pt 1
theorem start (h : AN (x1 + 1) ∧ Zm R p0 n0 c0 x1 x2 (x1 + 1) σ) : Spec prog 322 #[.slice p0 n0 c0, .int .i64 x1, .int .i64 x2] σ R := M.start h ok
theorem Lq (h : Br (x6 < x2) (GO R p0 n0 c0 x1 x2 x6 x6 σ) (R (.returned (.tuple #[])) σ)) : Zm R p0 n0 c0 x1 x2 x6 σ := M.of h ok rfl
theorem GP (h : Br (x1 < x7) (Pq p0 fun Nf WR => In x7 (n0 : Int) ∧ LI .u32 σ Nf (WR + Int.toNat x7 * 1) fun QL => AN (x7 - 1) ∧ In (x7 - 1) (n0 : Int) ∧ LI .u32 σ Nf (WR + Int.toNat (x7 - 1) * 1) fun Gm => Spec prog 328 #[.int .u32 QL, .int .u32 Gm] σ (AB R (CB fun t29 y => Bo t29 (AN (x7 - 1) ∧ AN (x7 - 1) ∧ In (x7 - 1) (n0 : Int) ∧ LI .u32 y Nf (WR + Int.toNat (x7 - 1) * 1) fun x42 => In x7 (n0 : Int) ∧ LI .u32 y Nf (WR + Int.toNat x7 * 1) fun eR => In x7 (n0 : Int) ∧ AJ prog (Instr.storeAt 70 (.pointer (aD Nf (WR + Int.toNat x7 * 1))) (.int .u32 x42)) y (fun _ AI => In (x7 - 1) (n0 : Int) ∧ AJ prog (Instr.storeAt 70 (.pointer (aD Nf (WR + Int.toNat (x7 - 1) * 1))) (.int .u32 eR)) AI (fun _ Ab => AN (x7 - 1) ∧ GO R (aD Nf WR) n0 c0 x1 x2 x6 (x7 - 1) Ab))) (AN (x6 + 1) ∧ Zm R (aD Nf WR) n0 c0 x1 x2 (x6 + 1) y)))) (AN (x6 + 1) ∧ Zm R p0 n0 c0 x1 x2 (x6 + 1) σ)) : GO R p0 n0 c0 x1 x2 x6 x7 σ := M.of h ok rfl
end AL
end TwW
end
end
section
set_option maxRecDepth 100000
noncomputable section
namespace TwW
open Go Tw Go.Proofs.Tryz
variable [Ht] {R : Rr} {σ : Hp}

namespace IC
variable {p0 p7 : Option Addr} {n0 c0 n7 c7 : Nat} {s1 : ByteArray} {x8 x9 : Int}
def M : Fw := ⟨prog, 21, f21, [], [6], false, [], [], [(104, [(1, wT), (7, wL), (8, wI), (9, wI)])]⟩
theorem ok : M.Ok := ⟨AK.nil, mixed, func21, by kernel_rfl⟩
def Ni := M.pt 0
theorem start (h : Ni R s1 p0 n0 c0 (n0 : Int) 0 σ) : Spec prog 21 #[.slice p0 n0 c0, .string s1] σ R := M.start h ok
theorem D6 (h : Br (x9 < x8) (Pq p7 fun D7 GQ => In x9 (n7 : Int) ∧ ∃ WS ABQ, Dz σ D7 (GQ + Int.toNat x9 * 2) [.string WS, .string ABQ] ∧ ∀ b6 : Nat, Bo (ByteArray.toList WS == ByteArray.toList s1) (R (.returned (.string ABQ)) σ) (AN (x9 + 1) ∧ Ni R s1 (aD D7 GQ) n7 c7 x8 (x9 + 1) σ)) (R (.returned (.string (ByteArray.mk #[]))) σ)) : Ni R s1 p7 n7 c7 x8 x9 σ := M.of h ok rfl
end IC
namespace QN
variable {p0 : Option Addr} {n0 c0 : Nat}
def M : Fw := ⟨prog, 24, f24, [56, 57], [], false, [], [], []⟩
theorem ok : M.Ok := ⟨.cons call56 (.cons call57 (AK.nil)), mixed, func24, by kernel_rfl⟩
theorem start (h : Spec prog 57 #[.slice p0 n0 c0] σ (AB R (CS fun p4 n4 c4 y => Spec prog 56 #[.slice p4 n4 c4] y (AB R (CI .u32 fun x5 AI => R (.returned (.int .u32 x5)) AI))))) : Spec prog 24 #[.slice p0 n0 c0] σ R := M.start h ok
end QN
namespace LJ
variable {En x1 : Int} {HB : Option Addr} {GI HC : Nat}
def M : Fw := ⟨prog, 46, f46, [100], [2, 4], false, [], [], []⟩
theorem ok : M.Ok := ⟨.cons call100 (AK.nil), mixed, func46, by kernel_rfl⟩
theorem start (h : ∀ b2 : Nat, ∀ b4 : Nat, Spec prog 100 #[.agg #[.int .u64 En, .slice HB GI HC], .int .i64 x1, (.func (.func 102) #[] #[])] σ (AB R (fun z y => ∃ jX jY jZ ja x8b, z = (.tuple #[.agg #[.int .u64 jX, .slice jY jZ ja], .int .i64 x8b]) ∧ R (.returned (.tuple #[.agg #[.int .u64 jX, .slice jY jZ ja], .int .i64 x8b])) y))) : Spec prog 46 #[.agg #[.int .u64 En, .slice HB GI HC], .int .i64 x1] σ R := M.start h ok
end LJ
namespace slices_Contains_int
variable {p0 : Option Addr} {n0 c0 : Nat} {x1 : Int}
def M : Fw := ⟨prog, 50, f50, [114], [], false, [], [], []⟩
theorem ok : M.Ok := ⟨.cons call114 (AK.nil), mixed, func50, by kernel_rfl⟩
theorem start (h : Spec prog 114 #[.slice p0 n0 c0, .int .i64 x1] σ (AB R (CI .i64 fun x7 y => R (.returned (.bool (decide (0 ≤ x7)))) y))) : Spec prog 50 #[.slice p0 n0 c0, .int .i64 x1] σ R := M.start h ok
end slices_Contains_int
namespace Gp
variable {En x8 x9 : Int} {HB p3 p7 : Option Addr} {GI HC n3 c3 n7 c7 : Nat}
def M : Fw := ⟨prog, 54, f54, [117, 118, 119], [1, 5], false, [], [], [(232, [(3, wL), (7, wL), (8, wI), (9, wI)])]⟩
theorem ok : M.Ok := ⟨.cons call117 (.cons call118 (.cons call119 (AK.nil))), mixed, func54, by kernel_rfl⟩
def A5 := M.pt 0
theorem start (h : ∀ b1 : Nat, A5 R none 0 0 HB GI HC (GI : Int) 0 σ) : Spec prog 54 #[.agg #[.int .u64 En, .slice HB GI HC]] σ R := M.start h ok
theorem AW (h : Br (x9 < x8) (Pq p7 fun D7 GQ => In x9 (n7 : Int) ∧ ∃ UW Ng ABS ov ABT, Dz σ D7 (GQ + Int.toNat x9 * 3) [.int .i64 UW, .int .i64 Ng, .slice ABS ov ABT] ∧ ∀ b5 : Nat, Al σ fun Kc => AJ prog (Builtin.append_ #[26, 26] 26 #[.slice p3 n3 c3, (.slice (aD Kc 0) 1 1)]) (Hp.set σ Kc (.cells #[.int .i64 UW] 3 (0, 0))) (CS fun ow n17 ox y => Spec prog 117 #[.int .i64 UW] y (AB R (CB fun t20 AI => Bn t20 (R (.returned (.int .i64 130)) AI) (Br (Ng < 1) (R (.returned (.int .i64 130)) AI) (Br (3 < Ng) (R (.returned (.int .i64 130)) AI) (Br ((ov : Int) = 0) (R (.returned (.int .i64 130)) AI) (Br (64 < (ov : Int)) (R (.returned (.int .i64 130)) AI) (Spec prog 118 #[.slice ABS ov ABT] AI (AB R (CB fun t47 Ab => Bn t47 (R (.returned (.int .i64 130)) Ab) (AN (x9 + 1) ∧ A5 R ow n17 ox (aD D7 GQ) n7 c7 x8 (x9 + 1) Ab)))))))))))) (Spec prog 119 #[.slice p3 n3 c3] σ (AB R (CB fun t52 y => Bn t52 (R (.returned (.int .i64 130)) y) (R (.returned (.int .i64 0)) y))))) : A5 R p3 n3 c3 p7 n7 c7 x8 x9 σ := M.of h ok rfl
end Gp
namespace FQ
variable {q0 : Option Addr} {s1 : ByteArray} {x6 : Int}
def M : Fw := ⟨prog, 62, f62, [], [], false, [(4, 22, true)], [], [(224, [(0, wQ), (1, wT), (6, wI)])]⟩
theorem ok : M.Ok := ⟨AK.nil, mixed, func62, by kernel_rfl⟩
def JZ := M.pt 0
theorem start (h : JZ R q0 s1 0 σ) : Spec prog 62 #[.pointer q0, .string s1] σ R := M.start h ok
theorem CP (h : Pq q0 fun b9 o9 => LS σ b9 (o9 + 1) fun WK n11 Zj => Br (x6 < (n11 : Int)) (LS σ b9 (o9 + 1) fun QJ n18 TB => Pq QJ fun BG cG => In x6 (n18 : Int) ∧ LT σ BG (cG + Int.toNat x6 * 3) fun nI => ∃ t24, YF prog ((do eqGuard .lss 9 (.tmp 22) (.tmp 23) (.string nI) (.string s1); binOp .lss 9 (.string nI) (.string s1))) σ (.bool t24) ∧ Bo t24 (AN (x6 + 1) ∧ JZ R (aD b9 o9) s1 (x6 + 1) σ) (LS σ b9 (o9 + 1) fun jb n33 jc => Br (x6 < (n33 : Int)) (LS σ b9 (o9 + 1) fun OF n40 c40 => Pq OF fun iC jd => In x6 (n40 : Int) ∧ LT σ iC (jd + Int.toNat x6 * 3) fun eS => R (.returned (.tuple #[.int .i64 x6, (.bool (ByteArray.toList eS == ByteArray.toList s1))])) σ) (R (.returned (.tuple #[.int .i64 x6, .bool false])) σ))) (LS σ b9 (o9 + 1) fun jb n33 jc => Br (x6 < (n33 : Int)) (LS σ b9 (o9 + 1) fun OF n40 c40 => Pq OF fun iC jd => In x6 (n40 : Int) ∧ LT σ iC (jd + Int.toNat x6 * 3) fun eS => R (.returned (.tuple #[.int .i64 x6, (.bool (ByteArray.toList eS == ByteArray.toList s1))])) σ) (R (.returned (.tuple #[.int .i64 x6, .bool false])) σ))) : JZ R q0 s1 x6 σ := M.of h ok rfl
end FQ
namespace J1
variable {q0 p1 : Option Addr} {n1 c1 : Nat}
def M : Fw := ⟨prog, 63, f63, [128, 129], [], false, [], [], []⟩
theorem ok : M.Ok := ⟨.cons call128 (.cons call129 (AK.nil)), mixed, func63, by kernel_rfl⟩
theorem start (h : Al σ fun b2 => Spec prog 128 #[.slice p1 n1 c1] (Hp.set σ b2 (.cells #[.pointer q0] 158 (0, 0))) (AB R (fun z y => ∃ p9a n9a c9a wG, z = (.tuple #[.slice p9a n9a c9a, .int .i64 wG]) ∧ Al y fun b5 => AJ prog (Instr.storeAt 84 (.pointer (aD b5 0)) (.slice p9a n9a c9a)) (Hp.set y b5 (.cells #[.slice none 0 0] 84 (0, 0))) (fun _ AI => Br (wG ≠ 0) (R (.returned (.int .i64 70)) AI) (Spec prog 129 #[(.func (.func 130) #[] #[(.pointer (aD b2 0)), (.pointer (aD b5 0))])] AI (AB R (CI .i64 fun MQ Ab => R (.returned (.int .i64 MQ)) Ab))))))) : Spec prog 63 #[.pointer q0, .slice p1 n1 c1] σ R := M.start h ok
end J1
namespace GA
variable {q0 p1 p5 : Option Addr} {n1 c1 n5 c5 : Nat}
def M : Fw := ⟨prog, 69, f69, [71, 139, 140, 141], [], false, [], [], [(124, [(0, wQ), (5, wL)])]⟩
theorem ok : M.Ok := ⟨.cons call71 (.cons call139 (.cons call140 (.cons call141 (AK.nil)))), mixed, func69, by kernel_rfl⟩
def QO := M.pt 0
theorem start (h : Spec prog 139 #[.slice p1 n1 c1] σ (AB R (fun z y => ∃ wH wJ wK Nj, z = (.tuple #[.slice wH wJ wK, .int .i64 Nj]) ∧ Br (Nj ≠ 0) (R (.returned (.int .i64 70)) y) (Pq q0 fun R3 eT => LI .i64 y R3 (eT + 3) fun OD => Br (4096 ≤ OD) (Spec prog 71 #[(.pointer (aD R3 eT))] y (AB R (CI .i64 fun oy AI => Br (oy ≠ 0) (R (.returned (.int .i64 oy)) AI) (LI .i64 AI R3 (eT + 2) fun UY => AN (UY + 1) ∧ AJ prog (Instr.storeAt 3 (.pointer (aD R3 (eT + 2))) (.int .i64 (UY + 1))) AI (fun _ Ab => AJ prog (Instr.storeAt 3 (.pointer (aD R3 (eT + 3))) (.int .i64 (-1))) Ab (fun _ A1 => LI .i64 A1 R3 (eT + 5) fun eU => AN (eU + 1) ∧ AJ prog (Instr.storeAt 3 (.pointer (aD R3 (eT + 5))) (.int .i64 (eU + 1))) A1 (fun _ DD => QO R (aD R3 eT) wH wJ wK DD))))))) (QO R (aD R3 eT) wH wJ wK y))))) : Spec prog 69 #[.pointer q0, .slice p1 n1 c1] σ R := M.start h ok
theorem PT (h : Pq q0 fun WT Yj => LQ σ WT Yj fun wM => LI .i64 σ WT (Yj + 2) fun Yk => Spec prog 141 #[(.pointer (aD WT Yj)), .int .i64 Yk] σ (AB R (CT fun s52 y => Kp [WT] σ y ∧ Spec prog 140 #[.pointer wM, .string s52, .slice p5 n5 c5] y (AB R (CI .i64 fun eV AI => Br (eV ≠ 0) (R (.returned (.int .i64 eV)) AI) (LI .i64 AI WT (Yj + 3) fun wN => AN ((if wN < 0 then 0 else wN) + (n5 : Int)) ∧ AJ prog (Instr.storeAt 3 (.pointer (aD WT (Yj + 3))) (.int .i64 ((if wN < 0 then 0 else wN) + (n5 : Int)))) AI (fun _ Ab => R (.returned (.int .i64 0)) Ab))))))) : QO R q0 p5 n5 c5 σ := M.of h ok rfl
end GA
namespace JE
variable {q0 nJ : Option Addr} {eW : ByteArray} {nK nL : Nat} {eX : Int}
def M : Fw := ⟨prog, 72, f72, [62], [3], false, [(3, 7, true), (5, 16, false)], [], []⟩
theorem ok : M.Ok := ⟨.cons call62 (AK.nil), mixed, func72, by kernel_rfl⟩
theorem start (h : ∀ b3 : Nat, Spec prog 62 #[.pointer q0, .string eW] σ (AB R (fun z y => ∃ HD ABU, z = (.tuple #[.int .i64 HD, .bool ABU]) ∧ Bo ABU (Pq q0 fun Kc UZ => LS y Kc (UZ + 1) fun QJ n18 TB => Pq QJ fun nM oz => In HD (n18 : Int) ∧ AJ prog (Instr.storeAt 154 (.pointer (aD nM (oz + Int.toNat HD * 3))) (.agg #[.string eW, .slice nJ nK nL, .int .u64 eX])) y (fun _ AI => R (.returned (.tuple #[])) AI)) (Al y fun Nf => Pq q0 fun NB cH => LS (Hp.set y Nf (.cells #[] 154 (0, 0))) NB (cH + 1) fun WU n26 TH => (0 ≤ HD ∧ HD ≤ (n26 : Int)) ∧ AJ prog (Builtin.append_ #[148, 148] 148 #[(.slice (aD Nf 0) 0 0), (.slice (Dp WU (Int.toNat HD) TH 3) (n26 - Int.toNat HD) (TH - Int.toNat HD))]) (Hp.set y Nf (.cells #[] 154 (0, 0))) (CS fun eN n29 eO AI => LS AI NB (cH + 1) fun p35 n35 c35 => (0 ≤ HD ∧ HD ≤ (c35 : Int)) ∧ (Al AI fun Jm => (AJ prog (Builtin.append_ #[148, 148] 148 #[(.slice (aD Jm 0) 0 0), (.slice p35 (Int.toNat HD) c35)]) (Hp.set AI Jm (.cells #[] 154 (0, 0))) (CS fun nN n38 nO Ab => Al Ab fun OG => AJ prog (Builtin.append_ #[148, 148] 148 #[.slice nN n38 nO, (.slice (aD OG 0) 1 1)]) (Hp.set Ab OG (.cells #[.string eW, .slice nJ nK nL, .int .u64 eX] 154 (0, 0))) (CS fun o0 n41 nP A1 => AJ prog (Builtin.append_ #[148, 148] 148 #[.slice o0 n41 nP, .slice eN n29 eO]) A1 (CS fun Ua n43 VT DD => AJ prog (Instr.storeAt 148 (.pointer (aD NB (cH + 1))) (.slice Ua n43 VT)) DD (fun _ EA => R (.returned (.tuple #[])) EA))))) ∧ (Al (Hp.set AI Jm (.cells #[] 154 (0, 0))) fun OG => AJ prog (Builtin.append_ #[148, 148] 148 #[(.slice (aD Jm 0) 0 0), (.slice p35 (Int.toNat HD) c35)]) (Hp.set (Hp.set AI Jm (.cells #[] 154 (0, 0))) OG (.cells #[.string eW, .slice nJ nK nL, .int .u64 eX] 154 (0, 0))) (CS fun nN n38 nO Ab => AJ prog (Builtin.append_ #[148, 148] 148 #[.slice nN n38 nO, (.slice (aD OG 0) 1 1)]) Ab (CS fun o0 n41 nP A1 => AJ prog (Builtin.append_ #[148, 148] 148 #[.slice o0 n41 nP, .slice eN n29 eO]) A1 (CS fun Ua n43 VT DD => AJ prog (Instr.storeAt 148 (.pointer (aD NB (cH + 1))) (.slice Ua n43 VT)) DD (fun _ EA => R (.returned (.tuple #[])) EA)))))) ∧ (Al AI fun OG => Al (Hp.set AI OG (.cells #[.string eW, .slice nJ nK nL, .int .u64 eX] 154 (0, 0))) fun Jm => AJ prog (Builtin.append_ #[148, 148] 148 #[(.slice (aD Jm 0) 0 0), (.slice p35 (Int.toNat HD) c35)]) (Hp.set (Hp.set AI OG (.cells #[.string eW, .slice nJ nK nL, .int .u64 eX] 154 (0, 0))) Jm (.cells #[] 154 (0, 0))) (CS fun nN n38 nO Ab => AJ prog (Builtin.append_ #[148, 148] 148 #[.slice nN n38 nO, (.slice (aD OG 0) 1 1)]) Ab (CS fun o0 n41 nP A1 => AJ prog (Builtin.append_ #[148, 148] 148 #[.slice o0 n41 nP, .slice eN n29 eO]) A1 (CS fun Ua n43 VT DD => AJ prog (Instr.storeAt 148 (.pointer (aD NB (cH + 1))) (.slice Ua n43 VT)) DD (fun _ EA => R (.returned (.tuple #[])) EA)))))))))) : Spec prog 72 #[.pointer q0, .agg #[.string eW, .slice nJ nK nL, .int .u64 eX]] σ R := M.start h ok
end JE
namespace Gc
variable {q0 p9 O1 Jn : Option Addr} {s1 : ByteArray} {x7 Ed E8 : Int} {n9 c9 n10 Hf n12 c12 : Nat}
def M : Fw := ⟨prog, 97, f97, [147, 149, 150, 178, 179, 180, 181, 182, 183], [], false, [], [], [(510, [(0, wQ), (1, wT), (7, wI), (9, wL)]), (32720, [(0, wQ), (1, wT), (7, wI), (9, wL), (10, wL), (11, wI)]), (131024, [(0, wQ), (1, wT), (7, wI), (9, wL), (12, wL), (13, wI)]), (8190, [(0, wQ), (1, wT), (7, wI), (12, wL)]), (32723, [(0, wQ), (1, wT), (7, wI), (9, wL), (10, wL), (11, wI)])]⟩
theorem ok : M.Ok := ⟨.cons call147 (.cons call149 (.cons call150 (.cons call178 (.cons call179 (.cons call180 (.cons call181 (.cons call182 (.cons call183 (AK.nil))))))))), mixed, func97, by kernel_rfl⟩
def QP := M.pt 0
def ABV := M.pt 1
def Nk := M.pt 2
def wO := M.pt 3
def QQ := M.pt 4
theorem start (h : Br ((32 : Int) < ((ByteArray.size s1 : Nat) : Int)) (R (.returned (.tuple #[.pointer none, .slice none 0 0, .int .i64 71])) σ) (Spec prog 178 #[.string s1] σ (AB R (CB fun t25 y => Bn t25 (R (.returned (.tuple #[.pointer none, .slice none 0 0, .int .i64 71])) y) (Pq q0 fun Kd TI => LB y Kd (TI + 1) fun t31 => Bo t31 (R (.returned (.tuple #[.pointer none, .slice none 0 0, .int .i64 60])) y) (Spec prog 179 #[(.pointer (aD Kd TI)), .string s1] y (AB R (fun z AI => ∃ je wP, z = (.tuple #[.int .i64 je, .int .i64 wP]) ∧ Br (wP ≠ 0) (R (.returned (.tuple #[.pointer none, .slice none 0 0, .int .i64 wP])) AI) (Br (0 < je) ((ByteArray.size s1 + ByteArray.size (ByteArray.mk #[47, 99]) ≤ 9223372036854775807) ∧ Spec prog 147 #[.int .i64 je] AI (AB R (CT fun wR Ab => (ByteArray.size (s1 ++ (ByteArray.mk #[47, 99])) + ByteArray.size wR ≤ 9223372036854775807) ∧ Al Ab fun NC => AJ prog (Builtin.append_ #[97, 97] 97 #[.slice none 0 0, (.slice (aD NC 0) 1 1)]) (Hp.set Ab NC (.cells #[(.string ((s1 ++ (ByteArray.mk #[47, 99])) ++ wR))] 9 (0, 0))) (CS fun eY n50 eZ A1 => QP R (aD Kd TI) s1 je eY n50 eZ A1)))) (QP R (aD Kd TI) s1 je none 0 0 AI)))))))))) : Spec prog 97 #[.pointer q0, .string s1] σ R := M.start h ok
theorem Ub (h : (ByteArray.size s1 + ByteArray.size (ByteArray.mk #[47, 115]) ≤ 9223372036854775807) ∧ Spec prog 149 #[.pointer q0, (.string (s1 ++ (ByteArray.mk #[47, 115])))] σ (AB R (CS fun p54 n54 c54 y => ABV R q0 s1 x7 p9 n9 c9 p54 n54 c54 0 y))) : QP R q0 s1 x7 p9 n9 c9 σ := M.of h ok rfl
theorem pA (h : Br (Ed < (n10 : Int)) (Pq O1 fun wS wW => In Ed (n10 : Int) ∧ LT σ wS (wW + Int.toNat Ed * 1) fun s64 => (ByteArray.size s1 + ByteArray.size (ByteArray.mk #[47, 115]) ≤ 9223372036854775807) ∧ Spec prog 150 #[.string s64, (.string (s1 ++ (ByteArray.mk #[47, 115])))] σ (AB R (CI .i64 fun x67 y => Br (x7 < x67) (In Ed (n10 : Int) ∧ LT y wS (wW + Int.toNat Ed * 1) fun s74 => Al y fun b75 => AJ prog (Builtin.append_ #[97, 97] 97 #[.slice p9 n9 c9, (.slice (aD b75 0) 1 1)]) (Hp.set y b75 (.cells #[.string s74] 9 (0, 0))) (CS fun p76 n76 c76 AI => QQ R q0 s1 x7 p76 n76 c76 (aD wS wW) n10 Hf Ed AI)) (QQ R q0 s1 x7 p9 n9 c9 (aD wS wW) n10 Hf Ed y)))) (Nk R q0 s1 x7 p9 n9 c9 none 0 0 0 σ)) : ABV R q0 s1 x7 p9 n9 c9 O1 n10 Hf Ed σ := M.of h ok rfl
theorem Uc (h : Br (E8 < (n9 : Int)) (Pq p9 fun b87 o87 => In E8 (n9 : Int) ∧ LT σ b87 (o87 + Int.toNat E8 * 1) fun s88 => Spec prog 180 #[.pointer q0, .string s88] σ (AB R (fun z y => ∃ ABX ABY ABZ AIg, z = (.tuple #[.slice ABX ABY ABZ, .int .i64 AIg]) ∧ Spec prog 181 #[.slice ABX ABY ABZ] y (AB R (fun z AI => ∃ wX wY wZ ABa, z = (.tuple #[.slice wX wY wZ, .bool ABa]) ∧ AJ prog (Builtin.append_ #[165, 165] 165 #[.slice Jn n12 c12, .slice wX wY wZ]) AI (CS fun p99 n99 c99 Ab => Bo ABa (In E8 (n9 : Int) ∧ LT Ab b87 (o87 + Int.toNat E8 * 1) fun AIh => AN (E8 + 1) ∧ ((0 : Int) ≤ (E8 + 1) ∧ (E8 + 1) ≤ (n9 : Int)) ∧ Spec prog 182 #[.pointer q0, .string s1, .string AIh, (.slice (Dp (aD b87 o87) (Int.toNat (E8 + 1)) c9 1) (n9 - Int.toNat (E8 + 1)) (c9 - Int.toNat (E8 + 1))), .slice wX wY wZ] Ab (AB R (CI .i64 fun ABb A1 => Br (ABb ≠ 0) (R (.returned (.tuple #[.pointer none, .slice none 0 0, .int .i64 ABb])) A1) (wO R q0 s1 x7 p99 n99 c99 A1)))) (AN (E8 + 1) ∧ Nk R q0 s1 x7 (aD b87 o87) n9 c9 p99 n99 c99 (E8 + 1) Ab))))))) (wO R q0 s1 x7 Jn n12 c12 σ)) : Nk R q0 s1 x7 p9 n9 c9 Jn n12 c12 E8 σ := M.of h ok rfl
theorem pB (h : Al σ fun wc => Spec prog 183 #[(.pointer (aD wc 0)), .int .i64 x7] (Hp.set σ wc (.cells #[.pointer q0, .string s1, .int .i64 0, .int .i64 0, .int .i64 0, .int .i64 0] 146 (0, 0))) (AB R (fun z y => z = (.tuple #[]) ∧ R (.returned (.tuple #[(.pointer (aD wc 0)), .slice Jn n12 c12, .int .i64 0])) y))) : wO R q0 s1 x7 Jn n12 c12 σ := M.of h ok rfl
end Gc
namespace MT
variable {En x1 : Int} {HB : Option Addr} {GI HC : Nat} {v2 : Value}
def M : Fw := ⟨prog, 100, f100, [54, 117, 186, 187], [3, 6], false, [], [], []⟩
theorem ok : M.Ok := ⟨.cons call54 (.cons call117 (.cons call186 (.cons call187 (AK.nil)))), mixed, func100, by kernel_rfl⟩
theorem start (h : ∀ b3 : Nat, ∀ b6 : Nat, Spec prog 54 #[.agg #[.int .u64 En, .slice HB GI HC]] σ (AB R (CI .i64 fun Ed y => Br (Ed ≠ 0) (R (.returned (.tuple #[.agg #[.int .u64 0, .slice none 0 0], .int .i64 130])) y) (Br (En = 18446744073709551615) (R (.returned (.tuple #[.agg #[.int .u64 0, .slice none 0 0], .int .i64 130])) y) (Spec prog 117 #[.int .i64 x1] y (AB R (CB fun t20 AI => Bn t20 (R (.returned (.tuple #[.agg #[.int .u64 0, .slice none 0 0], .int .i64 130])) AI) (Spec prog 186 #[.agg #[.int .u64 En, .slice HB GI HC]] AI (AB R (fun z Ab => ∃ E9 ABc ABd ABe, z = (.agg #[.int .u64 E9, .slice ABc ABd ABe]) ∧ Al Ab fun b8 => AJ prog (Instr.storeAt 41 (.pointer (aD b8 0)) (.agg #[.int .u64 E9, .slice ABc ABd ABe])) (Hp.set Ab b8 (.cells #[.int .u64 0, .slice none 0 0] 41 (0, 0))) (fun _ A1 => LI .u64 A1 b8 0 fun Lr => Df (IntKind.u64.wrap (Lr + 1)) fun Gm => AJ prog (Instr.storeAt 23 (.pointer (aD b8 0)) (.int .u64 Gm)) A1 (fun _ DD => Spec prog 187 #[.agg #[.int .u64 En, .slice HB GI HC], .int .i64 x1] DD (AB R (CI .i64 fun Zk EA => ∃ (f36 : Nat) (sc sd : Array Value), v2 = .func (.func f36) sc sd ∧ Enters prog f36 ∧ Spec prog f36 (sc ++ #[(.agg #[(.pointer (aD b8 0)), .int .i64 x1, .int .i64 Zk])] ++ sd) EA (AB R (CI .i64 fun x36 Jo => Br (x36 ≠ 0) (R (.returned (.tuple #[.agg #[.int .u64 0, .slice none 0 0], .int .i64 x36])) Jo) (∃ jf jg jh ji, Dz Jo b8 0 [.int .u64 jf, .slice jg jh ji] ∧ R (.returned (.tuple #[.agg #[.int .u64 jf, .slice jg jh ji], .int .i64 0])) Jo))))))))))))))))) : Spec prog 100 #[.agg #[.int .u64 En, .slice HB GI HC], .int .i64 x1, v2] σ R := M.Ln h ok [(0, .G [.I .u64 En, .L HB GI HC]), (1, .o (.I .i64 x1)), (2, .o (.V v2))] rfl rfl (by kernel_rfl)
end MT
namespace Ce
variable {b0 b1 : Nat}
def M : Fw := ⟨prog, 136, f136, [132, 134, 137, 138], [], false, [(0, 8, false), (2, 10, false), (3, 7, true), (5, 12, false), (6, 8, true)], [], [(14, [(0, wA)]), (480, [(0, wA)])]⟩
theorem ok : M.Ok := ⟨.cons call132 (.cons call134 (.cons call137 (.cons call138 (AK.nil)))), mixed, func136, by kernel_rfl⟩
def JZ := M.pt 0
def Kt := M.pt 1
theorem start (h : LQ σ b0 0 fun q2 => LQ σ b0 0 fun q3 => LQ σ b0 0 fun q4 => Pq q4 fun b5 o5 => LI .i64 σ b5 (o5 + 4) fun x7 => LS σ b1 0 fun p9 n9 c9 => Spec prog 134 #[.pointer q3, (.string (ByteArray.mk #[99])), .int .i64 x7] σ (AB R (CT fun s8 y => Kp [b1, b0] σ y ∧ Spec prog 137 #[.pointer q2, .string s8, .slice p9 n9 c9] y (AB R (fun z AI => z = (.tuple #[]) ∧ LQ AI b0 0 fun pC => Pq pC fun O2 QK => LI .i64 AI O2 (QK + 2) fun FF => Br (0 < FF) (LQ AI b0 0 fun Ud => Pq Ud fun R3 eT => LQ AI R3 eT fun q19 => LQ AI b0 0 fun q20 => LQ AI b0 0 fun zu => Pq zu fun Nf WR => LI .i64 AI Nf (WR + 2) fun Ks => Spec prog 134 #[.pointer q20, (.string (ByteArray.mk #[99])), .int .i64 Ks] AI (AB R (CT fun s25 Ab => Kp [R3, b0] AI Ab ∧ Spec prog 138 #[.pointer q19, .string s25] Ab (AB R (CI .i64 fun HA A1 => Spec prog 132 #[.int .i64 HA] A1 (AB R (fun z DD => z = (.tuple #[]) ∧ JZ R b0 DD))))))) (JZ R b0 AI)))))) : Spec prog 136 #[(.pointer (aD b0 0)), (.pointer (aD b1 0))] σ R := M.start h ok
theorem CP (h : LQ σ b0 0 fun q28 => LQ σ b0 0 fun q29 => Pq q29 fun TJ Yl => LI .i64 σ TJ (Yl + 4) fun se => Pq q28 fun Ym we => AJ prog (Instr.storeAt 3 (.pointer (aD Ym (we + 2))) (.int .i64 se)) σ (fun _ y => Kt R b0 y)) : JZ R b0 σ := M.of h ok rfl
theorem HQ (h : LQ σ b0 0 fun q35 => Pq q35 fun pD pE => LS σ pD (pE + 3) fun nN n38 nO => Br (0 < (n38 : Int)) (LQ σ b0 0 fun q41 => Pq q41 fun iC jd => LQ σ iC jd fun q44 => LQ σ b0 0 fun q45 => LQ σ b0 0 fun wM => Pq wM fun cI jj => LS σ cI (jj + 3) fun WV n49 c49 => Pq WV fun b50 o50 => In 0 (n49 : Int) ∧ LI .i64 σ b50 o50 fun Yk => Spec prog 134 #[.pointer q45, (.string (ByteArray.mk #[115])), .int .i64 Yk] σ (AB R (CT fun s52 y => Kp [iC, b0] σ y ∧ Spec prog 138 #[.pointer q44, .string s52] y (AB R (CI .i64 fun O4 AI => Spec prog 132 #[.int .i64 O4] AI (AB R (fun z Ab => z = (.tuple #[]) ∧ LQ Ab b0 0 fun q55 => LQ Ab b0 0 fun q56 => Pq q56 fun VU VV => LS Ab VU (VV + 3) fun p59 n59 c59 => ((0 : Int) ≤ 1 ∧ 1 ≤ (n59 : Int)) ∧ Pq q55 fun b61 o61 => AJ prog (Instr.storeAt 26 (.pointer (aD b61 (o61 + 3))) (.slice (Dp p59 (1) c59 1) (n59 - 1) (c59 - 1))) Ab (fun _ A1 => Kt R b0 A1)))))))) (LQ σ b0 0 fun q63 => Pq q63 fun b64 o64 => LI .i64 σ b64 (o64 + 4) fun x66 => AN (x66 + 1) ∧ AJ prog (Instr.storeAt 3 (.pointer (aD b64 (o64 + 4))) (.int .i64 (x66 + 1))) σ (fun _ y => LQ y b0 0 fun q70 => Pq q70 fun b71 o71 => AJ prog (Instr.storeAt 3 (.pointer (aD b71 (o71 + 5))) (.int .i64 0)) y (fun _ AI => R (.returned (.tuple #[])) AI)))) : Kt R b0 σ := M.of h ok rfl
end Ce
namespace J2
variable {q0 : Option Addr} {s1 : ByteArray}
def M : Fw := ⟨prog, 144, f144, [236, 237, 238, 240], [], false, [(8, 16, true)], [], []⟩
theorem ok : M.Ok := ⟨.cons call236 (.cons call237 (.cons call238 (.cons call240 (AK.nil)))), mixed, func144, by kernel_rfl⟩
theorem start (h : Spec prog 236 #[.pointer q0, .string s1, .bool true] σ (AB R (CI .i64 fun Dc y => Br (Dc ≠ 0) (R (.returned (.int .i64 Dc)) y) (Spec prog 238 #[.pointer q0] y (AB R (CB fun t15 AI => Bo t15 (Pq q0 fun PU Yn => LI .i64 AI PU (Yn + 4) fun Ja => Spec prog 240 #[(.pointer (aD PU Yn)), .int .i64 Ja] AI (AB R (fun z Ab => z = (.tuple #[]) ∧ R (.returned (.int .i64 60)) Ab))) (Spec prog 237 #[.pointer q0, .string s1] AI (AB R (fun z Ab => ∃ E9 ea, z = (.tuple #[.int .i64 E9, .bool ea]) ∧ Pq q0 fun Kd TI => LS Ab Kd TI fun p31 n31 c31 => LS Ab Kd TI fun Ue n36 WW => Pq Ue fun b38 o38 => In E9 (n36 : Int) ∧ LS Ab b38 ((o38 + Int.toNat E9 * 3) + 1) fun OF n40 c40 => Pq p31 fun iC jd => In E9 (n31 : Int) ∧ AJ prog (Instr.storeAt 3 (.pointer (aD iC ((jd + Int.toNat E9 * 3) + 2))) (.int .i64 (n40 : Int))) Ab (fun _ A1 => R (.returned (.int .i64 0)) A1)))))))))) : Spec prog 144 #[.pointer q0, .string s1] σ R := M.start h ok
end J2
namespace OH
variable {En Iw Hg : Int} {t0d : Bool}
def M : Fw := ⟨prog, 192, f192, [], [], false, [], [], []⟩
theorem ok : M.Ok := ⟨AK.nil, mixed, func192, by kernel_rfl⟩
theorem start (h : Al σ fun b1 => Al (Hp.set σ b1 (.cells #[.int .i64 En, .int .i64 Iw, .int .i64 Hg, .bool t0d] 28 (0, 0))) fun b4 => R (.returned (.slice (aD b4 0) 2 2)) (Hp.set (Hp.set σ b1 (.cells #[.int .i64 En, .int .i64 Iw, .int .i64 Hg, .bool t0d] 28 (0, 0))) b4 (.cells #[(.func (.func 266) #[] #[(.pointer (aD b1 0))]), (.func (.func 268) #[] #[])] 268 (0, 0)))) : Spec prog 192 #[.agg #[.int .i64 En, .int .i64 Iw, .int .i64 Hg, .bool t0d]] σ R := M.start h ok
end OH
namespace LK
variable {p0 p1 : Option Addr} {n0 c0 n1 c1 : Nat}
def M : Fw := ⟨prog, 194, f194, [269], [], false, [], [], []⟩
theorem ok : M.Ok := ⟨.cons call269 (AK.nil), mixed, func194, by kernel_rfl⟩
theorem start (h : Al σ fun b3 => Spec prog 269 #[.slice p0 n0 c0, (.func (.func 270) #[] #[(.pointer (aD b3 0))])] (Hp.set σ b3 (.cells #[.slice p1 n1 c1] 97 (0, 0))) (AB R (CS fun p7 n7 c7 y => R (.returned (.slice p7 n7 c7)) y))) : Spec prog 194 #[.slice p0 n0 c0, .slice p1 n1 c1] σ R := M.start h ok
end LK
namespace Dr
variable {x0 : Int}
def M : Fw := ⟨prog, 213, f213, [], [], false, [], [], []⟩
theorem ok : M.Ok := ⟨AK.nil, mixed, func213, by kernel_rfl⟩
theorem start (h : R (.returned (.bool (decide (x0 ≠ x0)))) σ) : Spec prog 213 #[.int .u32 x0] σ R := M.start h ok
end Dr
namespace ID
variable {b0 b1 : Nat}
def M : Fw := ⟨prog, 224, f224, [], [], false, [], [], []⟩
theorem ok : M.Ok := ⟨AK.nil, mixed, func224, by kernel_rfl⟩
theorem start (h : LQ σ b0 0 fun q3 => Pq q3 fun b4 o4 => LM σ b4 o4 fun m6 => LT σ b1 0 fun s7 => AJ prog (Instr.lookup 186 (.map m6) (.string s7) false) σ (CQ fun q8 y => Pq q8 fun D7 GQ => LS y D7 GQ fun OI n13 O5 => AJ prog (Instr.storeAt 3 (.pointer (aD D7 (GQ + 1))) (.int .i64 (n13 : Int))) y (fun _ AI => R (.returned (.tuple #[])) AI))) : Spec prog 224 #[(.pointer (aD b0 0)), (.pointer (aD b1 0))] σ R := M.start h ok
end ID
namespace DE
variable {b0 b1 b2 : Nat} {q3 : Option Addr}
def M : Fw := ⟨prog, 227, f227, [], [], false, [(3, 6, true), (4, 9, false)], [], [(7, [(2, wA), (3, wQ)])]⟩
theorem ok : M.Ok := ⟨AK.nil, mixed, func227, by kernel_rfl⟩
def A5 := M.pt 0
theorem start (h : LQ σ b0 0 fun q4 => Pq q4 fun b5 o5 => LM σ b5 o5 fun m7 => LT σ b1 0 fun s8 => AJ prog (Instr.lookup 186 (.map m7) (.string s8) false) σ (CQ fun q9 y => Bo (Option.isNone q9) (Al y fun IE => LQ (Hp.set y IE (.cells #[.slice none 0 0, .int .i64 0] 300 (0, 0))) b0 0 fun eb => Pq eb fun bw nQ => LM (Hp.set y IE (.cells #[.slice none 0 0, .int .i64 0] 300 (0, 0))) bw nQ fun m17 => LT (Hp.set y IE (.cells #[.slice none 0 0, .int .i64 0] 300 (0, 0))) b1 0 fun s18 => AJ prog (Instr.mapUpdate 186 (.map m17) (.string s18) (.pointer (aD IE 0))) (Hp.set y IE (.cells #[.slice none 0 0, .int .i64 0] 300 (0, 0))) (fun _ AI => A5 R b2 (aD IE 0) AI)) (A5 R b2 q9 y))) : Spec prog 227 #[(.pointer (aD b0 0)), (.pointer (aD b1 0)), (.pointer (aD b2 0))] σ R := M.start h ok
theorem AW (h : Pq q3 fun Nf WR => LS σ Nf WR fun WI n24 c24 => LS σ b2 0 fun OJ n25 ND => AJ prog (Builtin.append_ #[84, 84] 84 #[.slice WI n24 c24, .slice OJ n25 ND]) σ (CS fun WU n26 TH y => AJ prog (Instr.storeAt 84 (.pointer (aD Nf WR)) (.slice WU n26 TH)) y (fun _ AI => R (.returned (.tuple #[])) AI))) : A5 R b2 q3 σ := M.of h ok rfl
end DE
namespace Gq
variable {b0 b1 : Nat}
def M : Fw := ⟨prog, 233, f233, [], [], false, [(0, 5, true)], [], []⟩
theorem ok : M.Ok := ⟨AK.nil, mixed, func233, by kernel_rfl⟩
theorem start (h : LQ σ b0 0 fun q2 => Pq q2 fun b3 o3 => LM σ b3 o3 fun m5 => LT σ b1 0 fun s6 => AJ prog (Builtin.delete_ #[186, 9] 0 #[.map m5, .string s6]) σ (fun _ y => R (.returned (.tuple #[])) y)) : Spec prog 233 #[(.pointer (aD b0 0)), (.pointer (aD b1 0))] σ R := M.start h ok
end Gq
namespace GB
variable {q0 : Option Addr} {s1 : ByteArray} {t2 : Bool}
def M : Fw := ⟨prog, 236, f236, [178, 237], [], false, [], [], []⟩
theorem ok : M.Ok := ⟨.cons call178 (.cons call237 (AK.nil)), mixed, func236, by kernel_rfl⟩
theorem start (h : Pq q0 fun D7 GQ => LB σ D7 (GQ + 1) fun t13 => Bo t13 (R (.returned (.int .i64 60)) σ) (Spec prog 178 #[.string s1] σ (AB R (CB fun t16 y => Bn t16 (R (.returned (.int .i64 61)) y) (Spec prog 237 #[(.pointer (aD D7 GQ)), .string s1] y (AB R (fun z AI => ∃ Uf WX, z = (.tuple #[.int .i64 Uf, .bool WX]) ∧ Bo t2 (Bn WX (R (.returned (.int .i64 62)) AI) (R (.returned (.int .i64 0)) AI)) (R (.returned (.int .i64 0)) AI)))))))) : Spec prog 236 #[.pointer q0, .string s1, .bool t2] σ R := M.start h ok
end GB
namespace J3
variable {q0 : Option Addr}
def M : Fw := ⟨prog, 238, f238, [], [], false, [], [], []⟩
theorem ok : M.Ok := ⟨AK.nil, mixed, func238, by kernel_rfl⟩
theorem start (h : Pq q0 fun b4 o4 => LI .u64 σ b4 (o4 + 5) fun x6 => Df (IntKind.u64.wrap (x6 + 1)) fun x7 => AJ prog (Instr.storeAt 23 (.pointer (aD b4 (o4 + 5))) (.int .u64 x7)) σ (fun _ y => LB y b4 (o4 + 2) fun t13 => Bn t13 (R (.returned (.bool false)) y) (LI .i64 y b4 (o4 + 3) fun Fe => Br (0 < Fe) (LI .i64 y b4 (o4 + 3) fun QL => AN (QL - 1) ∧ AJ prog (Instr.storeAt 3 (.pointer (aD b4 (o4 + 3))) (.int .i64 (QL - 1))) y (fun _ AI => R (.returned (.bool false)) AI)) (R (.returned (.bool true)) y)))) : Spec prog 238 #[.pointer q0] σ R := M.start h ok
end J3
namespace FR
variable {s0 : ByteArray} {x3 : Int}
def M : Fw := ⟨prog, 306, f306, [], [], false, [], [], [(464, [(0, wT), (3, wI)])]⟩
theorem ok : M.Ok := ⟨AK.nil, mixed, func306, by kernel_rfl⟩
def As := M.pt 0
theorem start (h : Bo ((ByteArray.toList s0 == ByteArray.toList (ByteArray.mk #[]))) (R (.returned (.bool false)) σ) (Br ((64 : Int) < ((ByteArray.size s0 : Nat) : Int)) (R (.returned (.bool false)) σ) (∃ Au : UInt8, (0 : Int) ≤ 0 ∧ (ByteArray.data s0)[Int.toNat 0]? = some Au ∧ Br ((48 : Int) ≤ ((UInt8.toNat Au : Nat) : Int)) (∃ u18 : UInt8, (0 : Int) ≤ 0 ∧ (ByteArray.data s0)[Int.toNat 0]? = some u18 ∧ Br ((((UInt8.toNat u18 : Nat) : Int) : Int) ≤ 57) (R (.returned (.bool false)) σ) (As R s0 0 σ)) (As R s0 0 σ)))) : Spec prog 306 #[.string s0] σ R := M.start h ok
theorem BO (h : Br (x3 < ((ByteArray.size s0 : Nat) : Int)) (∃ Yo : UInt8, 0 ≤ x3 ∧ (ByteArray.data s0)[Int.toNat x3]? = some Yo ∧ Br ((((UInt8.toNat Yo : Nat) : Int) : Int) ≠ 95) (Br ((((UInt8.toNat Yo : Nat) : Int) : Int) < 48) (Br ((((UInt8.toNat Yo : Nat) : Int) : Int) < 65) (Br ((((UInt8.toNat Yo : Nat) : Int) : Int) < 97) (R (.returned (.bool false)) σ) (Br ((122 : Int) < ((UInt8.toNat Yo : Nat) : Int)) (R (.returned (.bool false)) σ) (AN (x3 + 1) ∧ As R s0 (x3 + 1) σ))) (Br ((90 : Int) < ((UInt8.toNat Yo : Nat) : Int)) (Br ((((UInt8.toNat Yo : Nat) : Int) : Int) < 97) (R (.returned (.bool false)) σ) (Br ((122 : Int) < ((UInt8.toNat Yo : Nat) : Int)) (R (.returned (.bool false)) σ) (AN (x3 + 1) ∧ As R s0 (x3 + 1) σ))) (AN (x3 + 1) ∧ As R s0 (x3 + 1) σ))) (Br ((57 : Int) < ((UInt8.toNat Yo : Nat) : Int)) (Br ((((UInt8.toNat Yo : Nat) : Int) : Int) < 65) (Br ((((UInt8.toNat Yo : Nat) : Int) : Int) < 97) (R (.returned (.bool false)) σ) (Br ((122 : Int) < ((UInt8.toNat Yo : Nat) : Int)) (R (.returned (.bool false)) σ) (AN (x3 + 1) ∧ As R s0 (x3 + 1) σ))) (Br ((90 : Int) < ((UInt8.toNat Yo : Nat) : Int)) (Br ((((UInt8.toNat Yo : Nat) : Int) : Int) < 97) (R (.returned (.bool false)) σ) (Br ((122 : Int) < ((UInt8.toNat Yo : Nat) : Int)) (R (.returned (.bool false)) σ) (AN (x3 + 1) ∧ As R s0 (x3 + 1) σ))) (AN (x3 + 1) ∧ As R s0 (x3 + 1) σ))) (AN (x3 + 1) ∧ As R s0 (x3 + 1) σ))) (AN (x3 + 1) ∧ As R s0 (x3 + 1) σ)) (R (.returned (.bool true)) σ)) : As R s0 x3 σ := M.of h ok rfl
end FR
end TwW
end
end
section
set_option maxRecDepth 100000
noncomputable section
namespace TwW
open Go Tw Go.Proofs.Tryz
variable [Ht] {R : Rr} {σ : Hp}

namespace DS
def K0 := f23.body.getD .skip
def K1 := cl K0
def K2 := cr K0
def K3 := cl K2
def K4 := cl K3
def K5 := cr K3
def K6 := cl K5
def K7 := cl K6
def K8 := cr K6
def K9 := cr K5
def Lp := cr K2
def TD := cl Lp
def MS := cr Lp
def QM := cl MS
def Zl := cl QM
def eP := cr QM
def TE := cl eP
def OE := cl TE
def Yf := cr TE
def UX := cl Yf
def TF := cl UX
def hY := cl TF
def bz := cr TF
def Yg := cl bz
def eQ := cr bz
def WL := cr UX
def WM := cl WL
def WN := cr WL
def WO := cl WN
def WQ := cl WO
def jW := cr WO
def hZ := cr WN
def Yh := cr MS
def cA := cl Yh
def iA := cr Yh
def iB : Code := .ret
abbrev gl (R : Rr) : Gl := Gl.fn prog 23 38 R
def As (R : Rr) (l : Nat) (r0 : Loop) (b5 b6 b7 b8 : Nat) (Ks : Int) (σ : Hp) : Prop := ∀ (J : Env), At (Gl.round prog 23 38 l R) [.code OE, .beginRound, .code Yf] (Ge J [(5, (.pointer (some ⟨b5, 0, none⟩))), (6, (.pointer (some ⟨b6, 0, none⟩))), (7, (.pointer (some ⟨b7, 0, none⟩))), (8, (.pointer (some ⟨b8, 0, none⟩))), (24, (.int .i64 Ks))]) [] σ
def pF (R : Rr) (l : Nat) (r0 : Loop) (b5 b6 b7 b8 : Nat) (σ : Hp) : Prop := ∀ (J : Env), At (Gl.round prog 23 38 l R) [.code WM, .code WN, .inBlock 1] (Ge J [(5, (.pointer (some ⟨b5, 0, none⟩))), (6, (.pointer (some ⟨b6, 0, none⟩))), (7, (.pointer (some ⟨b7, 0, none⟩))), (8, (.pointer (some ⟨b8, 0, none⟩)))]) [] σ
theorem start {R : Rr} {En x1 x2 : Int} {HB : Option Addr} {GI HC : Nat} {σ : Hp} (h : ∀ b5 : Nat, σ b5 = none → ∀ b6 : Nat, (Hp.set σ b5 (.cells #[(.int .i64 x2)] 3 (0, 0))) b6 = none → ∀ b7 : Nat, (Hp.set (Hp.set σ b5 (.cells #[(.int .i64 x2)] 3 (0, 0))) b6 (.cells #[(.slice none 0 0)] 26 (0, 0))) b7 = none → Spec prog 54 #[(.agg #[(.int .u64 En), (.slice HB GI HC)])] (Hp.set (Hp.set (Hp.set σ b5 (.cells #[(.int .i64 x2)] 3 (0, 0))) b6 (.cells #[(.slice none 0 0)] 26 (0, 0))) b7 (.cells #[(.int .i64 0)] 67 (0, 0))) (AB R (fun v σ1 => ∃ Ed : Int, v = (.int .i64 Ed) ∧ ((Ed : Int) ≠ 0 → AJ prog (Instr.storeAt 26 (.pointer (some ⟨b6, 0, none⟩)) (.slice none 0 0)) σ1 (fun _ Az => AJ prog (Instr.storeAt 67 (.pointer (some ⟨b7, 0, none⟩)) (.int .i64 130)) Az (fun _ A0 => ∃ Rf : Option Addr, ∃ Rg : Nat, ∃ Rh : Nat, ∃ Ri : Int, Hp.ld A0 ⟨b6, 0, none⟩ = some (.slice Rf Rg Rh) ∧ Hp.ld A0 ⟨b7, 0, none⟩ = some (.int .i64 Ri) ∧ R (.returned (.tuple #[(.slice Rf Rg Rh), (.int .i64 Ri)])) A0))) ∧ (¬ ((Ed : Int) ≠ 0) → ∃ FF : Int, Hp.ld σ1 ⟨b5, 0, none⟩ = some (.int .i64 FF) ∧ ((FF : Int) < 1 → AJ prog (Instr.storeAt 26 (.pointer (some ⟨b6, 0, none⟩)) (.slice none 0 0)) σ1 (fun _ Az => AJ prog (Instr.storeAt 67 (.pointer (some ⟨b7, 0, none⟩)) (.int .i64 130)) Az (fun _ A0 => ∃ Rf : Option Addr, ∃ Rg : Nat, ∃ Rh : Nat, ∃ Ri : Int, Hp.ld A0 ⟨b6, 0, none⟩ = some (.slice Rf Rg Rh) ∧ Hp.ld A0 ⟨b7, 0, none⟩ = some (.int .i64 Ri) ∧ R (.returned (.tuple #[(.slice Rf Rg Rh), (.int .i64 Ri)])) A0))) ∧ (¬ ((FF : Int) < 1) → ∃ Fe : Int, Hp.ld σ1 ⟨b5, 0, none⟩ = some (.int .i64 Fe) ∧ ((5 : Int) < Fe → AJ prog (Instr.storeAt 26 (.pointer (some ⟨b6, 0, none⟩)) (.slice none 0 0)) σ1 (fun _ Az => AJ prog (Instr.storeAt 67 (.pointer (some ⟨b7, 0, none⟩)) (.int .i64 130)) Az (fun _ A0 => ∃ Rf : Option Addr, ∃ Rg : Nat, ∃ Rh : Nat, ∃ Ri : Int, Hp.ld A0 ⟨b6, 0, none⟩ = some (.slice Rf Rg Rh) ∧ Hp.ld A0 ⟨b7, 0, none⟩ = some (.int .i64 Ri) ∧ R (.returned (.tuple #[(.slice Rf Rg Rh), (.int .i64 Ri)])) A0))) ∧ (¬ ((5 : Int) < Fe) → ∀ b8 : Nat, σ1 b8 = none → Spec prog 55 #[(.agg #[(.int .u64 En), (.slice HB GI HC)]), (.int .u32 x1)] (Hp.set σ1 b8 (.cells #[(.slice none 0 0)] 26 (0, 0))) (AB R (fun MU Az => ∃ v23 : Value, v23 = MU ∧ ∃ (gf : Nat) (lb : Array Value), v23 = .func (.func gf) #[] lb ∧ Enters prog gf ∧ ∀ (Zn Zo : Nat) (QR : Loop), Zn ≠ Zo → Az Zn = none → Az Zo = none → (∀ (R2 : Rr) (σ2 : Hp) (pG : Int), σ2 Zo = some (.loop (lp QR .ready none)) → As R2 Zo QR b5 b6 b7 b8 pG σ2 → Hz prog Zo #[(.int .i64 pG)] σ2 R2) → Spec prog gf (#[.func (.yield Zo) #[] #[]] ++ lb) (Hp.set (Hp.set Az Zn (.deferred (some []))) Zo (.loop (lp QR .ready none))) (fun en A0 => ∃ (v : Value) (s : LoopState) (p : Option Code), en = .returned v ∧ A0 Zo = some (.loop (lp QR s p)) ∧ s ≠ .busy ∧ ((p = none ∧ AJ prog (Instr.storeAt 26 (.pointer (some ⟨b6, 0, none⟩)) (.slice none 0 0)) (Hp.set A0 Zo (.loop (lp QR .exhausted none))) (fun _ OK => AJ prog (Instr.storeAt 67 (.pointer (some ⟨b7, 0, none⟩)) (.int .i64 133)) OK (fun _ WY => ∃ Rf : Option Addr, ∃ Rg : Nat, ∃ Rh : Nat, ∃ Ri : Int, WY Zn = some (.deferred (some [])) ∧ Hp.ld (Hp.set WY Zn (.deferred none)) ⟨b6, 0, none⟩ = some (.slice Rf Rg Rh) ∧ Hp.ld (Hp.set WY Zn (.deferred none)) ⟨b7, 0, none⟩ = some (.int .i64 Ri) ∧ R (.returned (.tuple #[(.slice Rf Rg Rh), (.int .i64 Ri)])) (Hp.set WY Zn (.deferred none))))) ∨ (p = (some .ret) ∧ ∃ cJ : Option Addr, ∃ cK : Nat, ∃ cL : Nat, ∃ cM : Int, (Hp.set A0 Zo (.loop (lp QR .exhausted (some .ret)))) Zn = some (.deferred (some [])) ∧ Hp.ld (Hp.set (Hp.set A0 Zo (.loop (lp QR .exhausted (some .ret)))) Zn (.deferred none)) ⟨b6, 0, none⟩ = some (.slice cJ cK cL) ∧ Hp.ld (Hp.set (Hp.set A0 Zo (.loop (lp QR .exhausted (some .ret)))) Zn (.deferred none)) ⟨b7, 0, none⟩ = some (.int .i64 cM) ∧ R (.returned (.tuple #[(.slice cJ cK cL), (.int .i64 cM)])) (Hp.set (Hp.set A0 Zo (.loop (lp QR .exhausted (some .ret)))) Zn (.deferred none))))))))))))) : Spec prog 23 #[(.agg #[(.int .u64 En), (.slice HB GI HC)]), (.int .u32 x1), (.int .i64 x2)] σ R := by
 refine Spec.Jp (fn := f23) (c := K0) func23 (by kernel_rfl) (Nat.le_of_ble_eq_true (by kernel_rfl)) (fun e he => ?_)
 refine At.oG (l := [(0, (.agg #[(.int .u64 En), (.slice HB GI HC)])), (1, (.int .u32 x1)), (2, (.int .i64 x2))]) ⟨he 0, he 1, he 2, trivial⟩ (fun J => ?_)
 show At (gl R) _ _ _ _
 refine At.s K1 K2 ?_
 refine At.rg 0 [0, 1, 2, 3] ?_
 refine Seq.o ?_
 refine AV.box (T := 41) (d := (some 3)) (ty := 0) (x := (.tmp 0)) (gd := none) (cs := #[(.int .u64 En), (.slice HB GI HC)]) (by kernel_rfl) rfl rfl rfl (fun b3 => ?_)
 refine Seq.o ?_
 refine AV.AAm (T := 3) (d := (some 5)) (ty := 0) (x := (.tmp 2)) (gd := none) (cs := #[(.int .i64 x2)]) (by kernel_rfl) rfl rfl rfl (fun b5 hn => ?_)
 replace h := h b5 hn
 refine Seq.o ?_
 refine AV.Ty (T := 26) (d := (some 6)) (ty := 0)  (gd := none) (cs := #[(.slice none 0 0)]) (by kernel_rfl) rfl rfl zeroValue26 rfl (fun b6 hn => ?_)
 replace h := h b6 hn
 refine Seq.o ?_
 refine AV.Ty (T := 67) (d := (some 7)) (ty := 0)  (gd := none) (cs := #[(.int .i64 0)]) (by kernel_rfl) rfl rfl zeroValue67 rfl (fun b7 hn => ?_)
 replace h := h b7 hn
 refine Seq.done ?_
 refine At.s K3 Lp (At.s K4 K5 ?_)
 refine At.rg 1 [0, 1, 2, 3, 4, 5, 6, 7, 8, 9, 10] ?_
 refine Seq.z 10 (.load 41 (.tmp 3)) 41 (.agg #[(.int .u64 En), (.slice HB GI HC)]) (Y.vJ (vs := [(.int .u64 En), (.slice HB GI HC)]) isAgg41 sizeOf41 rfl rfl (List.mem_cons_self ..) rfl) ?_
 refine Seq.o ?_
 refine AV.cl (some 11) call54 (h.cont fun v σ1 h2 => ?_); replace h := h2; clear h2
 obtain ⟨Ed, rfl, h⟩ := h
 refine Seq.us [(12, .bool (decide ((Ed : Int) ≠ 0))), (13, .bool (decide ((Ed : Int) ≠ 0)))] ?_
 cases hb : (decide ((Ed : Int) ≠ 0)) with
 | true =>
   replace h := h.1 (of_decide_eq_true hb)
   refine Seq.n 14 ?_
   refine Seq.n 15 ?_
   refine Seq.us [(16, .bool true), (17, .bool true)] ?_
   refine Seq.n 18 ?_
   refine Seq.n 19 ?_
   refine Seq.u 20 (.bool true) (Seq.done ?_)
   refine At.cT 20 K6 K9 ?_
   refine At.s K7 K8 ?_
   refine At.rg 2 [0, 1] ?_
   refine Seq.o ?_
   refine AV.store (T := 26) (ty := 0) (x := (.tmp 6)) (y := (.const (.slice none 0 0))) (p := (.pointer (some ⟨b6, 0, none⟩))) (v := (.slice none 0 0)) (gd := none) (by kernel_rfl) rfl rfl rfl (h.mono (fun _ Az h2 => ?_)); replace h := h2; clear h2
   refine Seq.o ?_
   refine AV.store (T := 67) (ty := 0) (x := (.tmp 7)) (y := (.const (.int .i64 130))) (p := (.pointer (some ⟨b7, 0, none⟩))) (v := (.int .i64 130)) (gd := none) (by kernel_rfl) rfl rfl rfl (h.mono (fun _ A0 h2 => ?_)); replace h := h2; clear h2
   refine Seq.done ?_
   obtain ⟨Rf, Rg, Rh, Ri, wg, Yp, h⟩ := h
   exact At.rt [.cell 6 26, .cell 7 67] [(.slice Rf Rg Rh), (.int .i64 Ri)] func23 ⟨_, _, rfl, ⟨_, rfl, FZ isAgg26 wg⟩, ⟨_, _, rfl, ⟨_, rfl, FZ isAgg67 Yp⟩, rfl⟩⟩ h
 | false =>
   replace h := h.2 (of_decide_eq_false hb)
   obtain ⟨FF, hl, h⟩ := h
   refine Seq.zg 14 (.load 3 (.tmp 5)) 3 (3, false) (.int .i64 FF) (Y.ld isAgg3 rfl hl) ?_
   refine Seq.us [(15, .bool (decide ((FF : Int) < 1))), (16, .bool (decide ((FF : Int) < 1))), (17, .bool (decide ((FF : Int) < 1)))] ?_
   cases hb : (decide ((FF : Int) < 1)) with
   | true =>
     replace h := h.1 (of_decide_eq_true hb)
     refine Seq.n 18 ?_
     refine Seq.n 19 ?_
     refine Seq.u 20 (.bool true) (Seq.done ?_)
     refine At.cT 20 K6 K9 ?_
     refine At.s K7 K8 ?_
     refine At.rg 2 [0, 1] ?_
     refine Seq.o ?_
     refine AV.store (T := 26) (ty := 0) (x := (.tmp 6)) (y := (.const (.slice none 0 0))) (p := (.pointer (some ⟨b6, 0, none⟩))) (v := (.slice none 0 0)) (gd := none) (by kernel_rfl) rfl rfl rfl (h.mono (fun _ Az h2 => ?_)); replace h := h2; clear h2
     refine Seq.o ?_
     refine AV.store (T := 67) (ty := 0) (x := (.tmp 7)) (y := (.const (.int .i64 130))) (p := (.pointer (some ⟨b7, 0, none⟩))) (v := (.int .i64 130)) (gd := none) (by kernel_rfl) rfl rfl rfl (h.mono (fun _ A0 h2 => ?_)); replace h := h2; clear h2
     refine Seq.done ?_
     obtain ⟨Rf, Rg, Rh, Ri, wg, Yp, h⟩ := h
     exact At.rt [.cell 6 26, .cell 7 67] [(.slice Rf Rg Rh), (.int .i64 Ri)] func23 ⟨_, _, rfl, ⟨_, rfl, FZ isAgg26 wg⟩, ⟨_, _, rfl, ⟨_, rfl, FZ isAgg67 Yp⟩, rfl⟩⟩ h
   | false =>
     replace h := h.2 (of_decide_eq_false hb)
     obtain ⟨Fe, hl, h⟩ := h
     refine Seq.zg 18 (.load 3 (.tmp 5)) 3 (7, false) (.int .i64 Fe) (Y.ld isAgg3 rfl hl) ?_
     refine Seq.us [(19, .bool (decide ((5 : Int) < Fe))), (20, .bool (decide ((5 : Int) < Fe)))] (Seq.done ?_)
     cases hb : (decide ((5 : Int) < Fe)) with
     | true =>
       replace h := h.1 (of_decide_eq_true hb)
       refine At.cT 20 K6 K9 ?_
       refine At.s K7 K8 ?_
       refine At.rg 2 [0, 1] ?_
       refine Seq.o ?_
       refine AV.store (T := 26) (ty := 0) (x := (.tmp 6)) (y := (.const (.slice none 0 0))) (p := (.pointer (some ⟨b6, 0, none⟩))) (v := (.slice none 0 0)) (gd := none) (by kernel_rfl) rfl rfl rfl (h.mono (fun _ Az h2 => ?_)); replace h := h2; clear h2
       refine Seq.o ?_
       refine AV.store (T := 67) (ty := 0) (x := (.tmp 7)) (y := (.const (.int .i64 130))) (p := (.pointer (some ⟨b7, 0, none⟩))) (v := (.int .i64 130)) (gd := none) (by kernel_rfl) rfl rfl rfl (h.mono (fun _ A0 h2 => ?_)); replace h := h2; clear h2
       refine Seq.done ?_
       obtain ⟨Rf, Rg, Rh, Ri, wg, Yp, h⟩ := h
       exact At.rt [.cell 6 26, .cell 7 67] [(.slice Rf Rg Rh), (.int .i64 Ri)] func23 ⟨_, _, rfl, ⟨_, rfl, FZ isAgg26 wg⟩, ⟨_, _, rfl, ⟨_, rfl, FZ isAgg67 Yp⟩, rfl⟩⟩ h
     | false =>
       replace h := h.2 (of_decide_eq_false hb)
       refine At.cF 20 K6 K9 ?_
       refine At.skip ?_
       refine At.s TD MS ?_
       refine At.rg 3 [0] ?_
       refine Seq.o ?_
       refine AV.Ty (T := 26) (d := (some 8)) (ty := 0)  (gd := none) (cs := #[(.slice none 0 0)]) (by kernel_rfl) rfl rfl zeroValue26 rfl (fun b8 hn => ?_)
       replace h := h b8 hn
       refine Seq.done ?_
       refine At.s QM Yh (At.s Zl eP ?_)
       refine At.rg 4 [0, 1, 2] ?_
       refine Seq.z 21 (.load 41 (.tmp 3)) 41 (.agg #[(.int .u64 En), (.slice HB GI HC)]) (Y.vJ (vs := [(.int .u64 En), (.slice HB GI HC)]) isAgg41 sizeOf41 rfl rfl (List.mem_cons_self ..) rfl) ?_
       refine Seq.u 22 (.int .u32 x1) ?_
       refine Seq.o ?_
       refine AV.cl (some 23) call55 (h.cont fun MU Az h2 => ?_); replace h := h2; clear h2
       obtain ⟨v23, rfl, h⟩ := h
       refine Seq.done ?_
       refine At.b 0 TE ?_
       obtain ⟨gf, lb, hgv, Jr, h⟩ := h
       refine At.range (gop := (.tmp 23)) (ps := #[24]) (assign := OE) (body := Yf) (gf := gf) (lb := lb) (by kernel_rfl) rfl rfl hgv Jr (fun Zn Zo QR hDl hD hl hrf hrp hra hrb hrs cN => ?_)
       refine (h Zn Zo QR hDl hD hl (fun R2 σ2 pG Zp hp => Hz.Jp (n := 38) Zp hrp hrs (by decide) cN (fn := f23) (by rw [hrf]; exact func23) ?_)).mono (fun en A0 h => ?_)
       · rw [hrf, hra, hrb]
         exact At.v [(5, (.pointer (some ⟨b5, 0, none⟩))), (6, (.pointer (some ⟨b6, 0, none⟩))), (7, (.pointer (some ⟨b7, 0, none⟩))), (8, (.pointer (some ⟨b8, 0, none⟩))), (24, (.int .i64 pG))] (hp _)
       obtain ⟨v, s, p, he, vP, hs, h⟩ := h
       refine ⟨v, s, p, he, vP, hs, ?_⟩
       rcases h with h | h
       · obtain ⟨rfl, h⟩ := h
         show At (Gl.behind prog 23 38 Zn R) [.inBlock 0, .code Yh] _ _ _
         refine At.inBlock ?_
         refine At.s cA iA ?_
         refine At.rg 10 [0, 1] ?_
         refine Seq.o ?_
         refine AV.store (T := 26) (ty := 0) (x := (.tmp 6)) (y := (.const (.slice none 0 0))) (p := (.pointer (some ⟨b6, 0, none⟩))) (v := (.slice none 0 0)) (gd := none) (by kernel_rfl) rfl rfl rfl (h.mono (fun _ OK h2 => ?_)); replace h := h2; clear h2
         refine Seq.o ?_
         refine AV.store (T := 67) (ty := 0) (x := (.tmp 7)) (y := (.const (.int .i64 133))) (p := (.pointer (some ⟨b7, 0, none⟩))) (v := (.int .i64 133)) (gd := none) (by kernel_rfl) rfl rfl rfl (h.mono (fun _ WY h2 => ?_)); replace h := h2; clear h2
         refine Seq.done ?_
         refine At.L [(6, (.pointer (some ⟨b6, 0, none⟩))), (7, (.pointer (some ⟨b7, 0, none⟩)))] fun J => ?_
         obtain ⟨Rf, Rg, Rh, Ri, vx, wg, Yp, h⟩ := h
         exact At.T0 (rs := [.cell 6 26, .cell 7 67]) (vs := [(.slice Rf Rg Rh), (.int .i64 Ri)]) (by kernel_rfl) func23 (by kernel_rfl) ⟨_, _, rfl, ⟨_, rfl, FZ isAgg26 wg⟩, ⟨_, _, rfl, ⟨_, rfl, FZ isAgg67 Yp⟩, rfl⟩⟩ h rfl (ig vx)
       · obtain ⟨rfl, h⟩ := h
         show At (Gl.behind prog 23 38 Zn R) [.code iB, .inBlock 0, .code Yh] _ _ _
         obtain ⟨cJ, cK, cL, cM, vx, ABi, ABj, h⟩ := h
         exact At.T0 (rs := [.cell 6 26, .cell 7 67]) (vs := [(.slice cJ cK cL), (.int .i64 cM)]) (by kernel_rfl) func23 (by kernel_rfl) ⟨_, _, rfl, ⟨_, rfl, FZ isAgg26 ABi⟩, ⟨_, _, rfl, ⟨_, rfl, FZ isAgg67 ABj⟩, rfl⟩⟩ h rfl (ig vx)
theorem BO {R : Rr} {l b5 b6 b7 b8 : Nat} {r0 : Loop} {Ks : Int} {σ : Hp} (h : σ l = some (.loop (lp r0 .ready none)) ∧ ∃ OJ : Option Addr, ∃ n25 : Nat, ∃ ND : Nat, Hp.ld (Hp.set σ l (.loop (lp r0 .busy none))) ⟨b8, 0, none⟩ = some (.slice OJ n25 ND) ∧ Spec prog 50 #[(.slice OJ n25 ND), (.int .i64 Ks)] (Hp.set σ l (.loop (lp r0 .busy none))) (AB (NP R) (fun v σ1 => ∃ t27 : Bool, v = (.bool t27) ∧ (t27 = false → ∃ eN : Option Addr, ∃ n29 : Nat, ∃ eO : Nat, Hp.ld σ1 ⟨b8, 0, none⟩ = some (.slice eN n29 eO) ∧ ∀ Jm : Nat, σ1 Jm = none → AJ prog (Builtin.append_ #[26, 26] 26 #[(.slice eN n29 eO), (.slice (some ⟨Jm, 0, none⟩) 1 1)]) (Hp.set σ1 Jm (.cells #[(.int .i64 Ks)] 3 (0, 0))) (fun MU Az => ∃ zv : Option Addr, ∃ n32 : Nat, ∃ wh : Nat, MU = (.slice zv n32 wh) ∧ AJ prog (Instr.storeAt 26 (.pointer (some ⟨b8, 0, none⟩)) (.slice zv n32 wh)) Az (fun _ A0 => pF R l r0 b5 b6 b7 b8 A0))) ∧ (t27 = true → pF R l r0 b5 b6 b7 b8 σ1)))) : As R l r0 b5 b6 b7 b8 Ks σ := by
 intro J
 show At (Gl.round prog 23 38 l R) _ _ _ _
 refine At.rg 5 [0] ?_
 refine Seq.u 9 (.int .i64 Ks) (Seq.done ?_)
 obtain ⟨bN, h⟩ := h
 refine At.beginRound rfl bN ?_
 refine At.b 1 UX ?_
 refine At.s TF WL (At.s hY bz ?_)
 refine At.rg 6 [0, 1, 2, 3] ?_
 obtain ⟨OJ, n25, ND, hl, h⟩ := h
 refine Seq.z 25 (.load 26 (.tmp 8)) 26 (.slice OJ n25 ND) (Y.ld isAgg26 rfl hl) ?_
 refine Seq.u 26 (.int .i64 Ks) ?_
 refine Seq.o ?_
 refine AV.cl (some 27) call50 (h.cont fun v σ1 h2 => ?_); replace h := h2; clear h2
 obtain ⟨t27, rfl, h⟩ := h
 refine Seq.u 28 (.bool (!t27)) (Seq.done ?_)
 cases hb : (!t27) with
 | true =>
  replace h := h.1 (Tw.nt hb)
  refine At.cT 28 Yg eQ ?_
  refine At.rg 7 [0, 1, 2, 3, 4] ?_
  obtain ⟨eN, n29, eO, hl, h⟩ := h
  refine Seq.z 29 (.load 26 (.tmp 8)) 26 (.slice eN n29 eO) (Y.ld isAgg26 rfl hl) ?_
  refine Seq.u 30 (.int .i64 Ks) ?_
  refine Seq.o ?_
  refine AV.Js (T := 26) (E := 3) (m := 1) (ps := #[(0, (.tmp 30))]) (d := (some 31)) (ty := 26) (gd := none) (vs := [(0, (.int .i64 Ks))]) (cs := #[(.int .i64 Ks)]) underlying26 (by kernel_rfl) rfl rfl rfl (by kernel_rfl) (fun Jm hn => ?_)
  replace h := h Jm hn
  refine Seq.o ?_
  refine AV.Tz (d := (some 32)) (op := (.call { callee := .builtin .append, args := #[(.tmp 29), (.tmp 31)], argTypes := #[26, 26] })) (ty := 26) (gd := none) (by kernel_rfl) rfl rfl (Builtin.append_ #[26, 26] 26 #[(.slice eN n29 eO), (.slice (some ⟨Jm, 0, none⟩) 1 1)]) (fun o ho ht => ED rfl rfl o ho ht) (h.mono (fun MU Az h2 => ?_)); replace h := h2; clear h2
  obtain ⟨zv, n32, wh, rfl, h⟩ := h
  refine Seq.o ?_
  refine AV.store (T := 26) (ty := 0) (x := (.tmp 8)) (y := (.tmp 32)) (p := (.pointer (some ⟨b8, 0, none⟩))) (v := (.slice zv n32 wh)) (gd := none) (by kernel_rfl) rfl rfl rfl (h.mono (fun _ A0 h2 => ?_)); replace h := h2; clear h2
  refine Seq.done ?_
  refine At.s WM WN ?_
  exact At.v [(5, (.pointer (some ⟨b5, 0, none⟩))), (6, (.pointer (some ⟨b6, 0, none⟩))), (7, (.pointer (some ⟨b7, 0, none⟩))), (8, (.pointer (some ⟨b8, 0, none⟩)))] (h _)
 | false =>
  replace h := h.2 (Tw.nf hb)
  refine At.cF 28 Yg eQ ?_
  refine At.skip ?_
  refine At.s WM WN ?_
  exact At.v [(5, (.pointer (some ⟨b5, 0, none⟩))), (6, (.pointer (some ⟨b6, 0, none⟩))), (7, (.pointer (some ⟨b7, 0, none⟩))), (8, (.pointer (some ⟨b8, 0, none⟩)))] (h _)
theorem pH {R : Rr} {l b5 b6 b7 b8 : Nat} {r0 : Loop} {σ : Hp} (h : ∃ jb : Option Addr, ∃ n33 : Nat, ∃ jc : Nat, Hp.ld σ ⟨b8, 0, none⟩ = some (.slice jb n33 jc) ∧ ∃ Rj : Int, Hp.ld σ ⟨b5, 0, none⟩ = some (.int .i64 Rj) ∧ (((n33 : Int) : Int) = Rj → ∃ Rk : Option Addr, ∃ n37 : Nat, ∃ c37 : Nat, Hp.ld σ ⟨b8, 0, none⟩ = some (.slice Rk n37 c37) ∧ AJ prog (Instr.storeAt 26 (.pointer (some ⟨b6, 0, none⟩)) (.slice Rk n37 c37)) σ (fun _ σ1 => AJ prog (Instr.storeAt 67 (.pointer (some ⟨b7, 0, none⟩)) (.int .i64 0)) σ1 (fun _ Az => Az l = some (.loop (lp r0 .busy none)) ∧ R (.returned (.bool false)) (Hp.set Az l (.loop (lp r0 .done (some .ret))))))) ∧ (¬ (((n33 : Int) : Int) = Rj) → σ l = some (.loop (lp r0 .busy none)) ∧ R (.returned (.bool true)) (Hp.set σ l (.loop (lp r0 .ready none))))) : pF R l r0 b5 b6 b7 b8 σ := by
 intro J
 show At (Gl.round prog 23 38 l R) _ _ _ _
 refine At.rg 8 [0, 1, 2, 3] ?_
 obtain ⟨jb, n33, jc, hl, h⟩ := h
 refine Seq.z 33 (.load 26 (.tmp 8)) 26 (.slice jb n33 jc) (Y.ld isAgg26 rfl hl) ?_
 refine Seq.z 34 (.call { callee := .builtin .len, args := #[(.tmp 33)], argTypes := #[26] }) 3 (.int .i64 (n33 : Int)) (Y.Y4 underlying26 rfl rfl) ?_
 obtain ⟨Rj, hl, h⟩ := h
 refine Seq.z 35 (.load 3 (.tmp 5)) 3 (.int .i64 Rj) (Y.ld isAgg3 rfl hl) ?_
 refine Seq.u 36 (.bool (decide (((n33 : Int) : Int) = Rj))) (Seq.done ?_)
 cases hb : (decide (((n33 : Int) : Int) = Rj)) with
 | true =>
  replace h := h.1 (of_decide_eq_true hb)
  refine At.cT 36 WO hZ ?_
  refine At.s WQ jW ?_
  refine At.rg 9 [0, 1, 2] ?_
  obtain ⟨Rk, n37, c37, hl, h⟩ := h
  refine Seq.z 37 (.load 26 (.tmp 8)) 26 (.slice Rk n37 c37) (Y.ld isAgg26 rfl hl) ?_
  refine Seq.o ?_
  refine AV.store (T := 26) (ty := 0) (x := (.tmp 6)) (y := (.tmp 37)) (p := (.pointer (some ⟨b6, 0, none⟩))) (v := (.slice Rk n37 c37)) (gd := none) (by kernel_rfl) rfl rfl rfl (h.mono (fun _ σ1 h2 => ?_)); replace h := h2; clear h2
  refine Seq.o ?_
  refine AV.store (T := 67) (ty := 0) (x := (.tmp 7)) (y := (.const (.int .i64 0))) (p := (.pointer (some ⟨b7, 0, none⟩))) (v := (.int .i64 0)) (gd := none) (by kernel_rfl) rfl rfl rfl (h.mono (fun _ Az h2 => ?_)); replace h := h2; clear h2
  refine Seq.done ?_
  exact At.iS (by kernel_rfl) rfl h.1 h.2
 | false =>
  replace h := h.2 (of_decide_eq_false hb)
  refine At.cF 36 WO hZ ?_
  refine At.skip ?_
  refine At.inBlock ?_
  exact At.iR rfl h.1 h.2
end DS
namespace Dt
variable {p0 p6 : Option Addr} {n0 c0 n6 c6 : Nat} {x3 x7 x8 : Int}
def M : Fw := ⟨prog, 56, f56, [], [], false, [], [], [(232, [(3, br), (6, wL), (7, wI), (8, wI)])]⟩
theorem ok : M.Ok := ⟨AK.nil, mixed, func56, by kernel_rfl⟩
def A5 := M.pt 0
theorem start (h : A5 R 2166136261 p0 n0 c0 (n0 : Int) 0 σ) : Spec prog 56 #[.slice p0 n0 c0] σ R := M.start h ok
theorem AW (h : Br (x8 < x7) (Pq p6 fun D8 LL => In x8 (n6 : Int) ∧ LI .u8 σ D8 (LL + Int.toNat x8 * 1) fun Ed => Df (IntKind.u32.wrap Ed) fun FF => Df (Go.bits .xor .u32 x3 FF) fun MQ => Df (IntKind.u32.wrap (MQ * 16777619)) fun Nc => AN (x8 + 1) ∧ A5 R Nc (aD D8 LL) n6 c6 x7 (x8 + 1) σ) (R (.returned (.int .u32 x3)) σ)) : A5 R x3 p6 n6 c6 x7 x8 σ := M.of h ok rfl
end Dt
namespace Ew
variable {p0 p3 O1 : Option Addr} {n0 c0 n3 c3 n10 Hf : Nat} {Ed Cd : Int}
def M : Fw := ⟨prog, 57, f57, [60, 99], [5], false, [], [], [(232, [(3, wL), (10, wL), (11, wI), (12, wI)])]⟩
theorem ok : M.Ok := ⟨.cons call60 (.cons call99 (AK.nil)), mixed, func57, by kernel_rfl⟩
def A5 := M.pt 0
theorem start (h : Df (IntKind.u64.wrap (n0 : Int)) fun x8 => Spec prog 99 #[.slice none 0 0, .int .u64 x8] σ (AB R (CS fun p9 n9 c9 y => A5 R p9 n9 c9 p0 n0 c0 (n0 : Int) 0 y))) : Spec prog 57 #[.slice p0 n0 c0] σ R := M.start h ok
theorem AW (h : Br (Cd < Ed) (Pq O1 fun Jl MD => In Cd (n10 : Int) ∧ ∃ jk ABk, Dz σ Jl (MD + Int.toNat Cd * 2) [.string jk, .string ABk] ∧ ∀ b5 : Nat, Spec prog 60 #[.slice p3 n3 c3, .string jk] σ (AB R (CS fun J4 n19 Ke y => Spec prog 60 #[.slice J4 n19 Ke, .string ABk] y (AB R (CS fun p22 n22 c22 AI => AN (Cd + 1) ∧ A5 R p22 n22 c22 (aD Jl MD) n10 Hf Ed (Cd + 1) AI))))) (R (.returned (.slice p3 n3 c3)) σ)) : A5 R p3 n3 c3 O1 n10 Hf Ed Cd σ := M.of h ok rfl
end Ew
namespace LN
variable {p0 : Option Addr} {n0 c0 : Nat} {s1 : ByteArray}
def M : Fw := ⟨prog, 60, f60, [99], [], false, [], [], []⟩
theorem ok : M.Ok := ⟨.cons call99 (AK.nil), mixed, func60, by kernel_rfl⟩
theorem start (h : Df (IntKind.u64.wrap ((ByteArray.size s1 : Nat) : Int)) fun x8 => Spec prog 99 #[.slice p0 n0 c0, .int .u64 x8] σ (AB R (CS fun p9 n9 c9 y => AJ prog (Builtin.append_ #[84, 9] 84 #[.slice p9 n9 c9, .string s1]) y (CS fun WK n11 Zj AI => R (.returned (.slice WK n11 Zj)) AI)))) : Spec prog 60 #[.slice p0 n0 c0, .string s1] σ R := M.start h ok
end LN
namespace MV
variable {q0 : Option Addr}
def M : Fw := ⟨prog, 91, f91, [], [], false, [], [], []⟩
theorem ok : M.Ok := ⟨AK.nil, mixed, func91, by kernel_rfl⟩
theorem start (h : Pq q0 fun b4 o4 => LB σ b4 (o4 + 1) fun t6 => R (.returned (.bool t6)) σ) : Spec prog 91 #[.pointer q0] σ R := M.start h ok
end MV
namespace Fq
variable {sf : Option Addr} {Iw Hg : Int}
def M : Fw := ⟨prog, 102, f102, [190], [1], false, [], [], []⟩
theorem ok : M.Ok := ⟨.cons call190 (AK.nil), mixed, func102, by kernel_rfl⟩
theorem start (h : ∀ b1 : Nat, Spec prog 190 #[.agg #[.pointer sf, .int .i64 Iw, .int .i64 Hg], .int .i64 1, .int .i64 2] σ (AB R (CI .i64 fun x4 y => R (.returned (.int .i64 x4)) y))) : Spec prog 102 #[.agg #[.pointer sf, .int .i64 Iw, .int .i64 Hg]] σ R := M.start h ok
end Fq
namespace Ax
variable {b0 b1 b2 cP cQ n49 c49 : Nat} {Nh Rl Yk : Int} {cR WV : Option Addr}
def M : Fw := ⟨prog, 107, f107, [23, 24, 39, 53, 108, 109], [7, 10], false, [(7, 14, false), (16, 19, false)], [], [(4072, [(1, wA), (2, wA), (7, .X 41 [.I .u64, .L]), (49, wL), (50, wI), (51, wI)])]⟩
theorem ok : M.Ok := ⟨.cons call23 (.cons call24 (.cons call39 (.cons call53 (.cons call108 (.cons call109 (AK.nil)))))), mixed, func107, by kernel_rfl⟩
def MW := M.pt 0
theorem start (h : LQ σ b0 0 fun ed => Bo (Option.isNone ed) (R (.returned (.int .i64 5)) σ) (LQ σ b0 0 fun Ud => Spec prog 39 #[.pointer Ud, (.string (ByteArray.mk #[114, 105, 110, 103]))] σ (AB R (fun z y => ∃ Ls Lt Lu J5 Ku, z = (.tuple #[.slice Ls Lt Lu, .int .u64 J5, .int .i64 Ku]) ∧ Spec prog 108 #[.slice Ls Lt Lu] y (AB R (fun z AI => ∃ jl si sj sk jm, z = (.tuple #[.agg #[.int .u64 jl, .slice si sj sk], .int .i64 jm]) ∧ ∀ b7 : Nat, Br (Ku ≠ 0) (R (.returned (.int .i64 5)) AI) (Br (jm ≠ 0) (R (.returned (.int .i64 5)) AI) (LQ AI b2 0 fun q32 => LQ AI b1 0 fun q35 => Pq q35 fun pD pE => LI .i64 AI pD (pE + 1) fun eU => 2 ≠ (0 : Int) ∧ Df (IntKind.i64.wrap (Int.tdiv eU 2)) fun PW => AN (PW + 1) ∧ Al AI fun F8 => Pq q32 fun WT Yj => AJ prog (Instr.storeAt 43 (.pointer (aD WT (Yj + 5))) (.pointer (aD F8 0))) (Hp.set AI F8 (.cells #[.int .u64 jl, (.int .i64 (PW + 1)), .slice none 0 0] 126 (0, 0))) (fun _ Ab => LQ Ab b2 0 fun wM => Pq wM fun cI jj => LS Ab cI (jj + 3) fun WV n49 c49 => MW R b1 b2 jl si sj sk WV n49 c49 (n49 : Int) 0 Ab))))))))) : Spec prog 107 #[(.pointer (aD b0 0)), (.pointer (aD b1 0)), (.pointer (aD b2 0))] σ R := M.start h ok
theorem Iy (h : Br (Yk < Rl) (Pq WV fun sn so => In Yk (n49 : Int) ∧ ∃ ABl ABm ABn ABo ABp, Dz σ sn (so + Int.toNat Yk * 3) [.slice ABl ABm ABn, .int .i64 ABo, .int .u64 ABp] ∧ ∀ D8 : Nat, Spec prog 53 #[.agg #[.slice ABl ABm ABn, .int .i64 ABo, .int .u64 ABp]] σ (AB R (fun z y => ∃ pI pJ pK WZ ABq, z = (.agg #[.slice pI pJ pK, .int .i64 WZ, .int .u64 ABq]) ∧ Spec prog 109 #[.int .u64 ABq] y (AB R (CI .u64 fun wi AI => LQ AI b1 0 fun q66 => Pq q66 fun b67 o67 => LI .i64 AI b67 (o67 + 1) fun wj => Spec prog 24 #[.slice pI pJ pK] AI (AB R (CI .u32 fun zw Ab => Kp [b67, b1] AI Ab ∧ Spec prog 23 #[.agg #[.int .u64 Nh, .slice cR cP cQ], .int .u32 zw, .int .i64 wj] Ab (AB R (fun z A1 => ∃ wk wm wo ABr, z = (.tuple #[.slice wk wm wo, .int .i64 ABr]) ∧ Br (ABr ≠ 0) (R (.returned (.int .i64 5)) A1) (LQ A1 b2 0 fun q76 => Pq q76 fun b77 o77 => LQ A1 b77 (o77 + 5) fun q79 => LQ A1 b2 0 fun q80 => Pq q80 fun b81 o81 => LQ A1 b81 (o81 + 5) fun q83 => Pq q83 fun b84 o84 => LS A1 b84 (o84 + 2) fun p86 n86 c86 => AJ prog (Instr.makeMap 127 none) A1 (fun z DD => ∃ m89, z = (.map (some m89)) ∧ Kp [b84, b81, b2, b77, b2] A1 DD ∧ Al DD fun b91 => AJ prog (Builtin.append_ #[124, 124] 124 #[.slice p86 n86 c86, (.slice (aD b91 0) 1 1)]) (Hp.set DD b91 (.cells #[.slice pI pJ pK, .int .i64 WZ, .int .u64 wi, .slice wk wm wo, (.map (some m89))] 129 (0, 0))) (CS fun p92 n92 c92 EA => Kp [b77, b2] (Hp.set DD b91 (.cells #[.slice pI pJ pK, .int .i64 WZ, .int .u64 wi, .slice wk wm wo, (.map (some m89))] 129 (0, 0))) EA ∧ Pq q79 fun b93 o93 => AJ prog (Instr.storeAt 124 (.pointer (aD b93 (o93 + 2))) (.slice p92 n92 c92)) EA (fun _ Jo => AN (Yk + 1) ∧ MW R b1 b2 Nh cR cP cQ (aD sn so) n49 c49 Rl (Yk + 1) Jo))))))))))))) (R (.returned (.int .i64 0)) σ)) : MW R b1 b2 Nh cR cP cQ WV n49 c49 Rl Yk σ := M.Yb h ok rfl fun _ => by kernel_rfl
end Ax
namespace LO
def K0 := f109.body.getD .skip
def K1 := cl K0
def K2 := cr K0
def K3 := cl K2
def K4 := cl K3
def K5 := cr K3
def K6 := cl K5
def K7 := cl K6
def K8 := cr K6
def K9 := cr K5
def Lp := cr K2
def TD := cl Lp
def MS := cr Lp
abbrev gl (R : Rr) : Gl := Gl.fn prog 109 11 R
theorem start {R : Rr} {x0 : Int} {σ : Hp} (h : ((x0 : Int) ≠ 9218868437227405314 → ∃ v7 : Value, YN prog 198 #[(.int .u64 x0)] σ v7 ∧ Spec prog 197 #[v7] σ (AB R (fun MU Az => ∃ t8 : Bool, MU = (.bool t8) ∧ (t8 = true → R (.returned (.int .u64 9221120237041090560)) Az) ∧ (t8 = false → R (.returned (.int .u64 x0)) Az)))) ∧ (¬ ((x0 : Int) ≠ 9218868437227405314) → R (.returned (.int .u64 x0)) σ)) : Spec prog 109 #[(.int .u64 x0)] σ R := by
 refine Spec.Jp (fn := f109) (c := K0) func109 (by kernel_rfl) (Nat.le_of_ble_eq_true (by kernel_rfl)) (fun e he => ?_)
 refine At.oG (l := [(0, (.int .u64 x0))]) ⟨he 0, trivial⟩ (fun J => ?_)
 show At (gl R) _ _ _ _
 refine At.s K1 K2 ?_
 refine At.rg 0 [0] ?_
 refine Seq.u 2 (.int .u64 0) (Seq.done ?_)
 refine At.s K3 Lp (At.s K4 K5 ?_)
 refine At.rg 1 [0, 1, 2, 3, 4, 5, 6] ?_
 refine Seq.us [(3, .int .u64 x0), (4, .bool (decide ((x0 : Int) ≠ 9218868437227405314))), (5, .bool (decide ((x0 : Int) ≠ 9218868437227405314)))] ?_
 cases hb : (decide ((x0 : Int) ≠ 9218868437227405314)) with
 | true =>
  replace h := h.1 (of_decide_eq_true hb)
  refine Seq.u 6 (.int .u64 x0) ?_
  obtain ⟨v7, hy, h⟩ := h
  refine Seq.yg (d := (some 7)) (op := (.call { callee := .value (.func 198), args := #[(.tmp 6)], argTypes := #[23] })) (ty := 272) (gd := (some (2, true))) (v := v7) (by kernel_rfl) rfl rfl (Yd.ext (f := 198) (args := #[(.int .u64 x0)]) rfl rfl hy) ?_
  refine Seq.o ?_
  refine AV.cl (some 8) call197 (h.cont fun MU Az h2 => ?_); replace h := h2; clear h2
  obtain ⟨t8, rfl, h⟩ := h
  refine Seq.u 9 (.bool t8) (Seq.done ?_)
  cases hb : t8 with
  | true =>
   replace h := h.1 hb
   refine At.cT 9 K6 K9 ?_
   refine At.s K7 K8 ?_
   refine At.rg 2 [0] ?_
   refine Seq.u 2 (.int .u64 9221120237041090560) (Seq.done ?_)
   exact At.rt [.tmp 2] [(.int .u64 9221120237041090560)] func109 ⟨_, rfl, rfl⟩ h
  | false =>
   replace h := h.2 hb
   refine At.cF 9 K6 K9 ?_
   refine At.skip ?_
   refine At.s TD MS ?_
   refine At.rg 3 [0, 1] ?_
   refine Seq.us [(10, .int .u64 x0), (2, .int .u64 x0)] (Seq.done ?_)
   exact At.rt [.tmp 2] [(.int .u64 x0)] func109 ⟨_, rfl, rfl⟩ h
 | false =>
  replace h := h.2 (of_decide_eq_false hb)
  refine Seq.n 6 ?_
  refine Seq.n 7 ?_
  refine Seq.n 8 ?_
  refine Seq.u 9 (.bool false) (Seq.done ?_)
  refine At.cF 9 K6 K9 ?_
  refine At.skip ?_
  refine At.s TD MS ?_
  refine At.rg 3 [0, 1] ?_
  refine Seq.us [(10, .int .u64 x0), (2, .int .u64 x0)] (Seq.done ?_)
  exact At.rt [.tmp 2] [(.int .u64 x0)] func109 ⟨_, rfl, rfl⟩ h
end LO
namespace QS
variable {p0 : Option Addr} {n0 c0 : Nat} {x1 : Int}
def M : Fw := ⟨prog, 115, f115, [177], [], false, [], [], []⟩
theorem ok : M.Ok := ⟨.cons call177 (AK.nil), mixed, func115, by kernel_rfl⟩
theorem start (h : Spec prog 177 #[.slice p0 n0 c0, .int .i64 x1] σ (AB R (fun z y => ∃ Ug HE Nl, z = (.tuple #[.int .u64 Ug, .int .i64 HE, .int .i64 Nl]) ∧ Br (Nl ≠ 0) (R (.returned (.tuple #[(.string (ByteArray.mk #[])), .int .i64 0, .int .i64 Nl])) y) (AN ((n0 : Int) - HE) ∧ Df (IntKind.u64.wrap ((n0 : Int) - HE)) fun NA => Br (NA < Ug) (R (.returned (.tuple #[(.string (ByteArray.mk #[])), .int .i64 0, .int .i64 20])) y) (Df (IntKind.i64.wrap Ug) fun HP => AN (HE + HP) ∧ (0 ≤ HE ∧ HE ≤ (HE + HP) ∧ (HE + HP) ≤ (c0 : Int)) ∧ AJ prog (convert 84 9 (.slice (Dp p0 (Int.toNat HE) c0 1) (Int.toNat (HE + HP) - Int.toNat HE) (c0 - Int.toNat HE))) y (CT fun s34 AI => Df (IntKind.i64.wrap Ug) fun J6 => AN (HE + J6) ∧ R (.returned (.tuple #[.string s34, (.int .i64 (HE + J6)), .int .i64 0])) AI)))))) : Spec prog 115 #[.slice p0 n0 c0, .int .i64 x1] σ R := M.start h ok
end QS
namespace DN
variable {p0 : Option Addr} {n0 c0 : Nat} {x3 : Int}
def M : Fw := ⟨prog, 119, f119, [], [], false, [(4, 10, true)], [], [(208, [(0, wL), (3, wI)])]⟩
theorem ok : M.Ok := ⟨AK.nil, mixed, func119, by kernel_rfl⟩
def JZ := M.pt 0
theorem start (h : JZ R p0 n0 c0 1 σ) : Spec prog 119 #[.slice p0 n0 c0] σ R := M.start h ok
theorem CP (h : Br (x3 < (n0 : Int)) (Pq p0 fun O2 QK => In x3 (n0 : Int) ∧ LI .i64 σ O2 (QK + Int.toNat x3 * 1) fun E8 => AN (x3 - 1) ∧ In (x3 - 1) (n0 : Int) ∧ LI .i64 σ O2 (QK + Int.toNat (x3 - 1) * 1) fun Fe => Br (E8 ≤ Fe) (R (.returned (.bool false)) σ) (AN (x3 + 1) ∧ JZ R (aD O2 QK) n0 c0 (x3 + 1) σ)) (R (.returned (.bool true)) σ)) : JZ R p0 n0 c0 x3 σ := M.of h ok rfl
end DN
namespace MX
variable {q0 : Option Addr} {s1 : ByteArray} {x2 : Int}
def M : Fw := ⟨prog, 134, f134, [226], [], false, [], [], []⟩
theorem ok : M.Ok := ⟨.cons call226 (AK.nil), mixed, func134, by kernel_rfl⟩
theorem start (h : Pq q0 fun b8 o8 => LT σ b8 (o8 + 1) fun cS => (ByteArray.size cS + ByteArray.size (ByteArray.mk #[47]) ≤ 9223372036854775807) ∧ (ByteArray.size (cS ++ (ByteArray.mk #[47])) + ByteArray.size s1 ≤ 9223372036854775807) ∧ Df (IntKind.u64.wrap x2) fun MQ => Spec prog 226 #[.int .u64 MQ, .int .i64 8] σ (AB R (CT fun s16 y => Kp [b8] σ y ∧ (ByteArray.size ((cS ++ (ByteArray.mk #[47])) ++ s1) + ByteArray.size s16 ≤ 9223372036854775807) ∧ R (.returned (.string (((cS ++ (ByteArray.mk #[47])) ++ s1) ++ s16))) y))) : Spec prog 134 #[.pointer q0, .string s1, .int .i64 x2] σ R := M.start h ok
end MX
namespace Gr
variable {q0 p5 : Option Addr} {s1 : ByteArray} {n5 c5 : Nat} {x6 : Int}
def M : Fw := ⟨prog, 149, f149, [], [], false, [], [], [(464, [(0, wQ), (1, wT), (5, wL), (6, wI)]), (467, [(0, wQ), (1, wT), (5, wL), (6, wI)])]⟩
theorem ok : M.Ok := ⟨AK.nil, mixed, func149, by kernel_rfl⟩
def CC := M.pt 0
def GR := M.pt 1
theorem start (h : CC R q0 s1 none 0 0 0 σ) : Spec prog 149 #[.pointer q0, .string s1] σ R := M.start h ok
theorem BS (h : Pq q0 fun D8 LL => LS σ D8 LL fun Jn n12 c12 => Br (x6 < (n12 : Int)) (LS σ D8 LL fun sq n20 c20 => Pq sq fun Nf WR => In x6 (n20 : Int) ∧ LT σ Nf (WR + Int.toNat x6 * 3) fun s24 => LB σ D8 (LL + 1) fun t28 => Bn t28 (Br ((((ByteArray.size s1 : Nat) : Int) : Int) ≤ ((ByteArray.size s24 : Nat) : Int)) (∃ s41, YF prog (Instr.sliceAt 9 (.string s24) none (some (.int .i64 ((ByteArray.size s1 : Nat) : Int))) none) σ (.string s41) ∧ Bo (ByteArray.toList s41 == ByteArray.toList s1) (Al σ fun cI => AJ prog (Builtin.append_ #[97, 97] 97 #[.slice p5 n5 c5, (.slice (aD cI 0) 1 1)]) (Hp.set σ cI (.cells #[.string s24] 9 (0, 0))) (CS fun p48 n48 c48 y => GR R (aD D8 LL) s1 p48 n48 c48 x6 y)) (GR R (aD D8 LL) s1 p5 n5 c5 x6 σ)) (GR R (aD D8 LL) s1 p5 n5 c5 x6 σ)) (GR R (aD D8 LL) s1 p5 n5 c5 x6 σ)) (R (.returned (.slice p5 n5 c5)) σ)) : CC R q0 s1 p5 n5 c5 x6 σ := M.of h ok rfl
end Gr
namespace BI
variable {q0 p3 cU : Option Addr} {n3 c3 n46 c46 : Nat} {R4 JF : Int}
def M : Fw := ⟨prog, 175, f175, [134, 258], [], false, [], [], [(60, [(0, wQ), (3, wL)]), (488, [(0, wQ), (3, wL), (46, wL), (47, wI), (48, wI)]), (62, [(3, wL)]), (7542, [(3, wL)])]⟩
theorem ok : M.Ok := ⟨.cons call134 (.cons call258 (AK.nil)), mixed, func175, by kernel_rfl⟩
def MW := M.pt 0
def QO := M.pt 1
def pL := M.pt 2
def GR := M.pt 3
theorem start (h : Pq q0 fun D7 GQ => LI .i64 σ D7 (GQ + 2) fun E8 => Br (0 < E8) (LI .i64 σ D7 (GQ + 2) fun H9 => LS σ D7 (GQ + 3) fun WU n26 TH => Spec prog 134 #[(.pointer (aD D7 GQ)), (.string (ByteArray.mk #[99])), .int .i64 H9] σ (AB R (CT fun nI y => Kp [D7] σ y ∧ Spec prog 258 #[(.pointer (aD D7 GQ)), .string nI, .slice WU n26 TH] y (AB R (fun z AI => ∃ pM jn pN ABv, z = (.tuple #[.slice pM jn pN, .bool ABv]) ∧ Bn ABv (AJ prog (Instr.storeAt 26 (.pointer (aD D7 (GQ + 3))) (.slice none 0 0)) AI (fun _ Ab => Br ((jn : Int) = 0) (AJ prog (Instr.storeAt 3 (.pointer (aD D7 (GQ + 2))) (.int .i64 0)) Ab (fun _ A1 => GR R pM jn pN A1)) (GR R pM jn pN Ab))) (MW R (aD D7 GQ) pM jn pN AI)))))) (MW R (aD D7 GQ) none 0 0 σ)) : Spec prog 175 #[.pointer q0] σ R := M.start h ok
theorem Iy (h : Pq q0 fun WT Yj => LS σ WT (Yj + 3) fun cU n46 c46 => QO R (aD WT Yj) p3 n3 c3 cU n46 c46 (n46 : Int) 0 σ) : MW R q0 p3 n3 c3 σ := M.of h ok rfl
theorem PT (h : Br (JF < R4) (Pq cU fun Zq Zr => In JF (n46 : Int) ∧ LI .i64 σ Zq (Zr + Int.toNat JF * 1) fun TK => Pq q0 fun jo nR => LS σ jo (nR + 3) fun wq n61 sr => AN (JF + 1) ∧ ((0 : Int) ≤ (JF + 1) ∧ (JF + 1) ≤ (n61 : Int)) ∧ Spec prog 134 #[(.pointer (aD jo nR)), (.string (ByteArray.mk #[115])), .int .i64 TK] σ (AB R (CT fun s57 y => Kp [jo] σ y ∧ Spec prog 258 #[(.pointer (aD jo nR)), .string s57, (.slice (Dp wq (Int.toNat (JF + 1)) sr 1) (n61 - Int.toNat (JF + 1)) (sr - Int.toNat (JF + 1)))] y (AB R (fun z AI => ∃ ABw wu ABx ABy, z = (.tuple #[.slice ABw wu ABx, .bool ABy]) ∧ AJ prog (Builtin.append_ #[165, 165] 165 #[.slice p3 n3 c3, .slice ABw wu ABx]) AI (CS fun nS nT c70 Ab => Bo ABy (AN (JF + 1) ∧ QO R (aD jo nR) nS nT c70 (aD Zq Zr) n46 c46 R4 (JF + 1) Ab) (LS Ab jo (nR + 3) fun p76 n76 c76 => AN (JF + 1) ∧ ((0 : Int) ≤ (JF + 1) ∧ (JF + 1) ≤ (c76 : Int)) ∧ AJ prog (Instr.storeAt 26 (.pointer (aD jo (nR + 3))) (.slice p76 (Int.toNat (JF + 1)) c76)) Ab (fun _ A1 => Br ((wu : Int) = 0) (LS A1 jo (nR + 3) fun p89 n89 c89 => (0 ≤ JF ∧ JF ≤ (c89 : Int)) ∧ AJ prog (Instr.storeAt 26 (.pointer (aD jo (nR + 3))) (.slice p89 (Int.toNat JF) c89)) A1 (fun _ DD => pL R nS nT c70 DD)) (pL R nS nT c70 A1))))))))) (pL R p3 n3 c3 σ)) : QO R q0 p3 n3 c3 cU n46 c46 R4 JF σ := M.of h ok rfl
theorem Uh (h : R (.returned (.slice p3 n3 c3)) σ) : pL R p3 n3 c3 σ := M.of h ok rfl
end BI
namespace Ft
variable {x0 x4 : Int} {p3 : Option Addr} {n3 c3 : Nat}
def M : Fw := ⟨prog, 189, f189, [56, 99, 264, 265], [], false, [], [], [(464, [(0, wI), (3, wL), (4, wU)])]⟩
theorem ok : M.Ok := ⟨.cons call56 (.cons call99 (.cons call264 (.cons call265 (AK.nil)))), mixed, func189, by kernel_rfl⟩
def CC := M.pt 0
theorem start (h : CC R x0 none 0 0 0 σ) : Spec prog 189 #[.int .i64 x0] σ R := M.start h ok
theorem BS (h : Br (x4 < 4) (Df (IntKind.u64.wrap x0) fun Ed => Spec prog 99 #[.slice none 0 0, .int .u64 Ed] σ (AB R (CS fun Jn n12 c12 y => Spec prog 99 #[.slice Jn n12 c12, .int .u64 x4] y (AB R (CS fun wv n14 wx AI => Spec prog 56 #[.slice wv n14 wx] AI (AB R (CI .u32 fun MQ Ab => Al Ab fun Kc => AJ prog (Builtin.append_ #[194, 194] 194 #[.slice p3 n3 c3, (.slice (aD Kc 0) 1 1)]) (Hp.set Ab Kc (.cells #[.int .u32 MQ] 70 (0, 0))) (CS fun ow n17 ox A1 => Df (IntKind.u64.wrap (x4 + 1)) fun x8 => CC R x0 ow n17 ox x8 A1)))))))) (Spec prog 264 #[.slice p3 n3 c3] σ (AB R (fun z y => z = (.tuple #[]) ∧ Spec prog 265 #[.slice p3 n3 c3] y (AB R (CS fun p21 n21 c21 AI => R (.returned (.slice p21 n21 c21)) AI)))))) : CC R x0 p3 n3 c3 x4 σ := M.of h ok rfl
end Ft
namespace Iz
variable {jq : Option Addr} {ef jr b1 b2 b3 b4 : Nat} {Iw Hg : Int} {s6 s7 : ByteArray}
def M : Fw := ⟨prog, 193, f193, [21], [5], false, [], [], [(15, [(4, wA), (6, wT), (7, wT)])]⟩
theorem ok : M.Ok := ⟨.cons call21 (AK.nil), mixed, func193, by kernel_rfl⟩
def A5 := M.pt 0
theorem start (h : ∀ b5 : Nat, Spec prog 21 #[.slice jq ef jr, (.string (ByteArray.mk #[99, 108, 117, 115, 116, 101, 114]))] σ (AB R (CT fun cS y => Spec prog 21 #[.slice jq ef jr, (.string (ByteArray.mk #[114, 101, 112, 108, 105, 99, 97]))] y (AB R (CT fun s13 AI => LB AI b1 0 fun t14 => Bn t14 (Bn ((ByteArray.toList s13 == ByteArray.toList (ByteArray.mk #[]))) (AJ prog (Instr.storeAt 9 (.pointer (aD b2 0)) (.string cS)) AI (fun _ Ab => AJ prog (Instr.storeAt 9 (.pointer (aD b3 0)) (.string s13)) Ab (fun _ A1 => AJ prog (Instr.storeAt 4 (.pointer (aD b1 0)) (.bool true)) A1 (fun _ DD => A5 R b4 cS s13 DD)))) (A5 R b4 cS s13 AI)) (A5 R b4 cS s13 AI)))))) : Spec prog 193 #[.agg #[.slice jq ef jr, .int .i64 Iw, .int .u64 Hg], (.pointer (aD b1 0)), (.pointer (aD b2 0)), (.pointer (aD b3 0)), (.pointer (aD b4 0))] σ R := M.start h ok
theorem AW (h : LB σ b4 0 fun t22 => Bo t22 (Bn ((ByteArray.toList s6 == ByteArray.toList (ByteArray.mk #[]))) (AJ prog (Instr.storeAt 4 (.pointer (aD b4 0)) (.bool (!(ByteArray.toList s7 == ByteArray.toList (ByteArray.mk #[]))))) σ (fun _ y => R (.returned (.tuple #[])) y)) (AJ prog (Instr.storeAt 4 (.pointer (aD b4 0)) (.bool false)) σ (fun _ y => R (.returned (.tuple #[])) y))) (AJ prog (Instr.storeAt 4 (.pointer (aD b4 0)) (.bool false)) σ (fun _ y => R (.returned (.tuple #[])) y))) : A5 R b4 s6 s7 σ := M.of h ok rfl
end Iz
namespace IF
variable {b0 b1 : Nat}
def M : Fw := ⟨prog, 222, f222, [223], [], false, [], [], []⟩
theorem ok : M.Ok := ⟨.cons call223 (AK.nil), mixed, func222, by kernel_rfl⟩
theorem start (h : LQ σ b0 0 fun q3 => LT σ b1 0 fun s4 => Spec prog 223 #[.pointer q3, .string s4] σ (AB R (CI .i64 fun x5 y => R (.returned (.int .i64 x5)) y))) : Spec prog 222 #[(.pointer (aD b0 0)), (.pointer (aD b1 0))] σ R := M.start h ok
end IF
namespace QT
variable {x0 x1 : Int}
def M : Fw := ⟨prog, 226, f226, [58, 291], [], false, [], [], []⟩
theorem ok : M.Ok := ⟨.cons call58 (.cons call291 (AK.nil)), mixed, func226, by kernel_rfl⟩
theorem start (h : Spec prog 58 #[.int .u64 x0, .int .i64 10] σ (AB R (CT fun s6 y => Spec prog 291 #[.string s6, .int .i64 x1] y (AB R (CT fun s8 AI => R (.returned (.string s8)) AI))))) : Spec prog 226 #[.int .u64 x0, .int .i64 x1] σ R := M.start h ok
end QT
namespace EI
variable {p0 : Option Addr} {n0 c0 : Nat} {x3 x4 x5 : Int}
def M : Fw := ⟨prog, 235, f235, [], [], false, [], [], [(464, [(0, wL), (3, br), (4, wI)]), (59696, [(0, wL), (3, br), (4, wI), (5, wI)]), (59699, [(0, wL), (3, br), (4, wI), (5, wI)])]⟩
theorem ok : M.Ok := ⟨AK.nil, mixed, func235, by kernel_rfl⟩
def CC := M.pt 0
def Ui := M.pt 1
def pO := M.pt 2
theorem start (h : CC R p0 n0 c0 4294967295 0 σ) : Spec prog 235 #[.slice p0 n0 c0] σ R := M.start h ok
theorem BS (h : Br (x4 < (n0 : Int)) (Pq p0 fun Kc UZ => In x4 (n0 : Int) ∧ LI .u8 σ Kc (UZ + Int.toNat x4 * 1) fun Ix => Df (IntKind.u32.wrap Ix) fun Fe => Df (Go.bits .xor .u32 x3 Fe) fun OD => Ui R (aD Kc UZ) n0 c0 OD x4 0 σ) (Df (Go.bits .xor .u32 x3 4294967295) fun su => R (.returned (.int .u32 su)) σ)) : CC R p0 n0 c0 x3 x4 σ := M.of h ok rfl
theorem MY (h : Br (x5 < 8) (Df (Go.bits .and .u32 x3 1) fun NA => ((0 : Int) ≤ 1 ∧ 1 ≤ ((IntKind.bits .u32 : Nat) : Int)) ∧ Df (x3 / 2 ^ Int.toNat 1) fun Gm => Br (NA = 1) (Df (Go.bits .xor .u32 Gm 3988292384) fun HP => pO R p0 n0 c0 HP x4 x5 σ) (pO R p0 n0 c0 Gm x4 x5 σ)) (AN (x4 + 1) ∧ CC R p0 n0 c0 x3 (x4 + 1) σ)) : Ui R p0 n0 c0 x3 x4 x5 σ := M.of h ok rfl
theorem pP (h : AN (x5 + 1) ∧ Ui R p0 n0 c0 x3 x4 (x5 + 1) σ) : pO R p0 n0 c0 x3 x4 x5 σ := M.of h ok rfl
end EI
namespace Cu
variable {q0 : Option Addr} {s1 : ByteArray} {x6 : Int}
def M : Fw := ⟨prog, 237, f237, [], [], false, [(4, 22, true)], [], [(224, [(0, wQ), (1, wT), (6, wI)])]⟩
theorem ok : M.Ok := ⟨AK.nil, mixed, func237, by kernel_rfl⟩
def JZ := M.pt 0
theorem start (h : JZ R q0 s1 0 σ) : Spec prog 237 #[.pointer q0, .string s1] σ R := M.start h ok
theorem CP (h : Pq q0 fun b9 o9 => LS σ b9 o9 fun WK n11 Zj => Br (x6 < (n11 : Int)) (LS σ b9 o9 fun QJ n18 TB => Pq QJ fun BG cG => In x6 (n18 : Int) ∧ LT σ BG (cG + Int.toNat x6 * 3) fun nI => ∃ t24, YF prog ((do eqGuard .lss 9 (.tmp 22) (.tmp 23) (.string nI) (.string s1); binOp .lss 9 (.string nI) (.string s1))) σ (.bool t24) ∧ Bo t24 (AN (x6 + 1) ∧ JZ R (aD b9 o9) s1 (x6 + 1) σ) (LS σ b9 o9 fun jb n33 jc => Br (x6 < (n33 : Int)) (LS σ b9 o9 fun OF n40 c40 => Pq OF fun iC jd => In x6 (n40 : Int) ∧ LT σ iC (jd + Int.toNat x6 * 3) fun eS => R (.returned (.tuple #[.int .i64 x6, (.bool (ByteArray.toList eS == ByteArray.toList s1))])) σ) (R (.returned (.tuple #[.int .i64 x6, .bool false])) σ))) (LS σ b9 o9 fun jb n33 jc => Br (x6 < (n33 : Int)) (LS σ b9 o9 fun OF n40 c40 => Pq OF fun iC jd => In x6 (n40 : Int) ∧ LT σ iC (jd + Int.toNat x6 * 3) fun eS => R (.returned (.tuple #[.int .i64 x6, (.bool (ByteArray.toList eS == ByteArray.toList s1))])) σ) (R (.returned (.tuple #[.int .i64 x6, .bool false])) σ))) : JZ R q0 s1 x6 σ := M.of h ok rfl
end Cu
namespace AY
variable {p0 p4 : Option Addr} {n0 c0 n4 c4 : Nat} {x3 x5 : Int}
def M : Fw := ⟨prog, 265, f265, [], [], false, [(6, 10, true), (11, 10, true)], [], [(464, [(0, wL), (3, wI)]), (477520, [(0, wL), (3, wI), (4, wL), (5, wI)]), (477523, [(0, wL), (3, wI), (4, wL), (5, wI)])]⟩
theorem ok : M.Ok := ⟨AK.nil, mixed, func265, by kernel_rfl⟩
def As := M.pt 0
def Wa := M.pt 1
def pQ := M.pt 2
theorem start (h : Br ((n0 : Int) < 2) (R (.returned (.slice p0 n0 c0)) σ) (As R p0 n0 c0 1 σ)) : Spec prog 265 #[.slice p0 n0 c0] σ R := M.start h ok
theorem BO (h : Br (x3 < (n0 : Int)) (Pq p0 fun PU Yn => In x3 (n0 : Int) ∧ LI .u32 σ PU (Yn + Int.toNat x3 * 1) fun OD => AN (x3 - 1) ∧ In (x3 - 1) (n0 : Int) ∧ LI .u32 σ PU (Yn + Int.toNat (x3 - 1) * 1) fun Ks => Br (OD = Ks) ((0 ≤ x3 ∧ x3 ≤ (n0 : Int)) ∧ Wa R (aD PU Yn) n0 c0 x3 ((Dp (aD PU Yn) (Int.toNat x3) c0 1)) (n0 - Int.toNat x3) (c0 - Int.toNat x3) 1 σ) (AN (x3 + 1) ∧ As R (aD PU Yn) n0 c0 (x3 + 1) σ)) (R (.returned (.slice p0 n0 c0)) σ)) : As R p0 n0 c0 x3 σ := M.of h ok rfl
theorem I0 (h : Br (x5 < (n4 : Int)) (Pq p4 fun Hr js => In x5 (n4 : Int) ∧ LI .u32 σ Hr (js + Int.toNat x5 * 1) fun NF => AN (x5 - 1) ∧ In (x5 - 1) (n4 : Int) ∧ LI .u32 σ Hr (js + Int.toNat (x5 - 1) * 1) fun wy => Br (NF ≠ wy) (In x5 (n4 : Int) ∧ LI .u32 σ Hr (js + Int.toNat x5 * 1) fun Rl => Pq p0 fun Zq Zr => In x3 (n0 : Int) ∧ AJ prog (Instr.storeAt 70 (.pointer (aD Zq (Zr + Int.toNat x3 * 1))) (.int .u32 Rl)) σ (fun _ y => AN (x3 + 1) ∧ pQ R (aD Zq Zr) n0 c0 (x3 + 1) (aD Hr js) n4 c4 x5 y)) (pQ R p0 n0 c0 x3 (aD Hr js) n4 c4 x5 σ)) ((0 ≤ x3 ∧ x3 ≤ (n0 : Int)) ∧ AJ prog (Builtin.clear_ #[194] 0 #[(.slice (Dp p0 (Int.toNat x3) c0 1) (n0 - Int.toNat x3) (c0 - Int.toNat x3))]) σ (fun _ y => (0 ≤ x3 ∧ x3 ≤ (c0 : Int)) ∧ R (.returned (.slice p0 (Int.toNat x3) c0)) y))) : Wa R p0 n0 c0 x3 p4 n4 c4 x5 σ := M.of h ok rfl
theorem cV (h : AN (x5 + 1) ∧ Wa R p0 n0 c0 x3 p4 n4 c4 (x5 + 1) σ) : pQ R p0 n0 c0 x3 p4 n4 c4 x5 σ := M.of h ok rfl
end AY
namespace LP
variable {jq : Option Addr} {ef jr b1 : Nat} {Iw Hg : Int}
def M : Fw := ⟨prog, 266, f266, [267], [2], false, [], [], []⟩
theorem ok : M.Ok := ⟨.cons call267 (AK.nil), mixed, func266, by kernel_rfl⟩
theorem start (h : ∀ b2 : Nat, Spec prog 267 #[.slice jq ef jr] σ (AB R (CI .i64 fun x6 y => Br (x6 ≠ 0) (R (.returned (.int .i64 152)) y) (Br ((ef : Int) = 0) (R (.returned (.int .i64 152)) y) (LI .i64 y b1 1 fun OD => Br (OD < (ef : Int)) (R (.returned (.int .i64 152)) y) (R (.returned (.int .i64 0)) y)))))) : Spec prog 266 #[.agg #[.slice jq ef jr, .int .i64 Iw, .int .u64 Hg], (.pointer (aD b1 0))] σ R := M.start h ok
end LP
namespace DT
variable {q0 q5 : Option Addr} {x1 x6 : Int} {v11 : Value}
def M : Fw := ⟨prog, 290, f290, [], [], false, [(5, 14, true), (6, 14, true)], [(11, 186)], [(40, [(0, wQ), (1, wI), (11, wV)]), (2670, [(0, wQ), (1, wI), (5, wQ), (6, wI), (11, wV)])]⟩
theorem ok : M.Ok := ⟨AK.nil, mixed, func290, by kernel_rfl⟩
def Zm := M.pt 0
def Wb := M.pt 1
theorem start (h : Pq q0 fun b8 o8 => LM σ b8 o8 fun m10 => AJ prog (Instr.range 186 (.map m10)) σ (fun z y => ∃ v11, v11 = z ∧ Zm R (aD b8 o8) x1 v11 y)) : Spec prog 290 #[.pointer q0, .int .i64 x1] σ R := M.start h ok
theorem Lq (h : AJ prog (Instr.next v11 false 0) σ (fun v y => (v = (.tuple #[.bool false]) ∧ Pq q0 fun VW wz => AJ prog (Instr.storeAt 4 (.pointer (aD VW (wz + 1))) (.bool false)) y (fun _ AI => AJ prog (Instr.storeAt 4 (.pointer (aD VW (wz + 2))) (.bool false)) AI (fun _ Ab => R (.returned (.tuple #[])) Ab))) ∨ (∃ WS AIx, v = (.tuple #[.bool true, .string WS, .pointer AIx]) ∧ AJ prog (Instr.entry v11) y (fun z AI => ∃ eh w4, z = (.tuple #[.string eh, .pointer w4]) ∧ Br (0 ≤ x1) (Pq w4 fun BG cG => LS AI BG cG fun p22 n22 c22 => LI .i64 AI BG (cG + 1) fun Lr => AN ((n22 : Int) - Lr) ∧ AN (((n22 : Int) - Lr) + 1) ∧ (((n22 : Int) - Lr) + 1) ≠ (0 : Int) ∧ Df (Int.tmod x1 (((n22 : Int) - Lr) + 1)) fun nB => Wb R q0 x1 (aD BG cG) nB v11 AI) (Wb R q0 x1 w4 0 v11 AI))))) : Zm R q0 x1 v11 σ := M.of h ok rfl
theorem Uj (h : Pq q5 fun Ym we => LS σ Ym we fun p35 n35 c35 => LI .i64 σ Ym (we + 1) fun eU => AN (eU + x6) ∧ ((0 : Int) ≤ (eU + x6) ∧ (eU + x6) ≤ (c35 : Int)) ∧ AJ prog (Instr.storeAt 84 (.pointer (aD Ym we)) (.slice p35 (Int.toNat (eU + x6)) c35)) σ (fun _ y => LS y Ym we fun WV n49 c49 => AJ prog (Instr.storeAt 3 (.pointer (aD Ym (we + 1))) (.int .i64 (n49 : Int))) y (fun _ AI => Zm R q0 x1 v11 AI))) : Wb R q0 x1 q5 x6 v11 σ := M.of h ok rfl
end DT
end TwW
end
end
