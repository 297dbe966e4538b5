/-
  Part 2 of the proof that the law DistributorRoutesCardSaid of the given program answers true for every input of the given statement; the input reads behind the call as it did. (The texts: packed from 8 texts. Names are shortened by the packing program, for the bound on size.)
-/
import Derived.Test.YtaaincfenibojaaGreatDoorA1
set_option linter.all false
section
namespace Tw
open Go
variable [Iq]
structure Vl.Le (v w : Vl) : Prop where
 le : v.le w
 ln : v.ρ.length ≤ w.ρ.length ∧ v.β.length ≤ w.β.length ∧ v.δ.length ≤ w.δ.length
theorem Vl.Le.refl (v : Vl) : v.Le v := ⟨.refl v, Nat.le_refl _, Nat.le_refl _, Nat.le_refl _⟩
theorem Vl.Le.trans {u v w : Vl} (h : u.Le v) (g : v.Le w) : u.Le w := ⟨h.le.trans g.le h.ln, by have := h.ln; have := g.ln; omega⟩
theorem Vl.bV (v : Vl) (p : Option Addr) : v.Le (v.jH p) := ⟨v.oW p, by simp [Vl.jH]⟩
theorem Vl.bW (v : Vl) (k : BK) : v.Le (v.Yy k) := ⟨v.bT k, by simp [Vl.Yy]⟩
def exA (P : Program) (t : TypeId) (vl : Vl) (k : CW → Vl → Prop) : Prop := match P.underlying t with
 | some (.int kd) => ∃ x : Int, k (.int kd x) vl
 | some .bool => ∃ b : Bool, k (.bs vl.β.length false) (vl.Yy (.var b))
 | some (.slice _) => ∃ p : Option Addr, ∃ n : Nat, ∃ c : Nat, k (.sl (.var vl.ρ.length) n c) (vl.jH p)
 | some .string => ∃ w : ByteArray, k (.str w) vl
 | some (.pointer _) => ∃ q : Option Addr, k (.pt (.var vl.ρ.length)) (vl.jH q)
 | some (.map _ _) => ∃ m : Option Nat, k (.mp m) vl
 | _ => ∃ v : Value, k (.raw v) vl
def vp (P : Program) : List TypeId → Vl → (List CW → Vl → Prop) → Prop
 | [], vl, k => k [] vl
 | t :: l, vl, k => exA P t vl fun a vl => vp P l vl fun r vl => k (a :: r) vl
def jL (P : Program) : Nat → TypeId → List TypeId
 | 0, t => [t]
 | f + 1, t => match P.underlying t with
   | some (.struct fs) => (fs.toList.map fun fd => jL P f fd.type).flatten
   | some (.array n e) => (List.replicate n (jL P f e)).flatten
   | _ => [t]
def small (P : Program) (t : TypeId) : Bool := match Y0 P t, YJ P t with
 | some true, some n => Nat.ble n 24
 | _, _ => false
def nH (P : Program) (t : TypeId) (vl : Vl) (k : Gd → Vl → Prop) : Prop := match small P t with
 | true => vp P (jL P 40 t) vl fun l vl => k (.agg l) vl
 | false => exA P t vl fun a vl => k (.a a) vl
def vq (P : Program) : List TypeId → Vl → (List Gd → Vl → Prop) → Prop
 | [], vl, k => k [] vl
 | t :: l, vl, k => nH P t vl fun a vl => vq P l vl fun r vl => k (a :: r) vl
def jM (P : Program) (t : TypeId) (vl : Vl) (k : SV → Vl → Prop) : Prop := match P.underlying t with
 | some (.tuple ts) => vq P ts.toList vl fun l vl => k (.SN l) vl
 | _ => nH P t vl fun a vl => k (.v a) vl
section
variable {P : Program}
theorem SZ {t : TypeId} {vl : Vl} {k : CW → Vl → Prop} (h : exA P t vl k) : ∃ a w, vl.Le w ∧ k a w := by
 unfold exA at h
 split at h
 · obtain ⟨x, h⟩ := h; exact ⟨_, _, .refl _, h⟩
 · obtain ⟨x, h⟩ := h; exact ⟨_, _, Vl.bW _ _, h⟩
 · obtain ⟨p, n, c, h⟩ := h; exact ⟨_, _, Vl.bV _ _, h⟩
 · obtain ⟨x, h⟩ := h; exact ⟨_, _, .refl _, h⟩
 · obtain ⟨x, h⟩ := h; exact ⟨_, _, Vl.bV _ _, h⟩
 · obtain ⟨x, h⟩ := h; exact ⟨_, _, .refl _, h⟩
 · obtain ⟨x, h⟩ := h; exact ⟨_, _, .refl _, h⟩
theorem Pv : ∀ {l : List TypeId} {vl : Vl} {k : List CW → Vl → Prop}, vp P l vl k → ∃ a w, vl.Le w ∧ k a w
 | [], vl, k, h => ⟨_, _, .refl _, h⟩
 | t :: l, vl, k, h => by
   obtain ⟨a, w, h1, h⟩ := SZ h
   obtain ⟨r, w2, h2, h⟩ := Pv h
   exact ⟨_, _, h1.trans h2, h⟩
theorem Ea {t : TypeId} {vl : Vl} {k : Gd → Vl → Prop} (h : nH P t vl k) : ∃ a w, vl.Le w ∧ k a w := by
 unfold nH at h
 split at h
 · obtain ⟨a, w, h1, h⟩ := Pv h; exact ⟨_, _, h1, h⟩
 · obtain ⟨a, w, h1, h⟩ := SZ h; exact ⟨_, _, h1, h⟩
theorem Pw : ∀ {l : List TypeId} {vl : Vl} {k : List Gd → Vl → Prop}, vq P l vl k → ∃ a w, vl.Le w ∧ k a w
 | [], vl, k, h => ⟨_, _, .refl _, h⟩
 | t :: l, vl, k, h => by
   obtain ⟨a, w, h1, h⟩ := Ea h
   obtain ⟨r, w2, h2, h⟩ := Pw h
   exact ⟨_, _, h1.trans h2, h⟩
theorem Sa {t : TypeId} {vl : Vl} {k : SV → Vl → Prop} (h : jM P t vl k) : ∃ a w, vl.Le w ∧ k a w := by
 unfold jM at h
 split at h
 · obtain ⟨a, w, h1, h⟩ := Pw h; exact ⟨_, _, h1, h⟩
 · obtain ⟨a, w, h1, h⟩ := Ea h; exact ⟨_, _, h1, h⟩
end
def S.ex (s : S) (P : Program) (t : TypeId) (K : SV → S → Prop) : Prop := match s.ok with
 | true => jM P t s.vl fun v vl => K v (s.w vl)
 | false => False
theorem S.Px {s : S} {P : Program} {t : TypeId} {K : SV → S → Prop} (h : s.ex P t K) : ∃ v s', s.Same s' ∧ K v s' := by
 unfold S.ex at h
 cases hs : s.ok with
 | false => rw [hs] at h; cases h
 | true =>
   rw [hs] at h
   obtain ⟨v, w, h1, h⟩ := Sa h
   exact ⟨v, _, S.Pp hs h1.le, h⟩
def eqV (x : SV) (vl : Vl) (v : Value) (F : Prop) : Prop := match x with
 | .v (.a (.raw u)) => u = v ∧ F
 | x => v = x.den vl ∧ F
theorem eC {x : SV} {vl : Vl} {v : Value} {F : Prop} (h : eqV x vl v F) : v = x.den vl ∧ F := by
 unfold eqV at h
 split at h
 · exact ⟨h.1.symm, h.2⟩
 · exact h
def Vs : List FL → Nat → Option (TypeId × List CW)
 | [], _ => none
 | (i, t, cs) :: l, j => bif Nat.beq i j then some (t, cs) else Vs l j
theorem J0 {vl : Vl} : ∀ {l : List FL} {j : Nat} {t : TypeId} {cs : List CW}, Vs l j = some (t, cs) → (nth 0 vl.δ j, Obj.cells (BY vl cs).toArray t (0, 0)) ∈ Es vl l
 | (i, u, ds) :: l, j, t, cs, h => by
   simp only [Vs] at h
   cases hi : Nat.beq i j with
   | true =>
     rw [hi] at h; simp only [cond_true, Option.some.injEq, Prod.mk.injEq] at h
     obtain ⟨rfl, rfl⟩ := h
     have := Nat.eq_of_beq_eq_true hi
     subst this
     exact List.mem_cons_self ..
   | false =>
     rw [hi] at h; simp only [cond_false] at h
     exact List.mem_cons_of_mem _ (J0 h)
def ldV (P : Program) (T : TypeId) (x : Operand) (s : S) (K : Option Nat → SV → S → Prop) : Prop := match jI (s.op x) with
 | some (.bx i o) => match Vs s.bx i, Y0 P T with
   | some (_, cs), some true => match YJ P T with
     | some n => match decide (((cs.drop o).take n).length = n) with
       | true => K none (.v (.agg ((cs.drop o).take n))) s
       | false => False
     | none => False
   | some (_, cs), some false => match A8 cs o with
     | some u => K none (.at u) s
     | none => False
   | _, _ => False
 | some (.at b o) => match Y0 P T, YJ P T with
   | some true, some n => s.ex P T fun v s => match v with
     | .v (.agg l) => match decide (l.length = n) with
       | true => Dn s.σ b o (BY s.vl l) ∧ K (some b) v s
       | false => False
     | _ => False
   | some false, some _ => s.ex P T fun v s => Hp.ld s.σ ⟨b, o, none⟩ = some (v.den s.vl) ∧ K (some b) v s
   | _, _ => False
 | _ => False
theorem Hp.jN {σ : Hp} {b o : Nat} {v : Value} (h : Hp.ld σ ⟨b, o, none⟩ = some v) : Hp.ld (fun x => if x = b then σ x else none) ⟨b, o, none⟩ = some v := by
 unfold Hp.ld at *
 simpa using h
theorem Dn.lim {σ : Hp} {b : Nat} : ∀ {l : List Value} {o : Nat}, Dn σ b o l → Dn (fun x => if x = b then σ x else none) b o l
 | [], _, _ => trivial
 | v :: l, o, h => ⟨Hp.jN h.1, Dn.lim h.2⟩
theorem Sb {P : Program} {T ty : TypeId} {x : Operand} {s : S} {K : Option Nat → SV → S → Prop} (h : ldV P T x s K) :
   ∃ m v s', s.Same s' ∧ K m v s' ∧ ∀ J, match m with
     | none => ∀ σ, Yd P (s.e J) s.b σ (.load T x) ty (v.den s'.vl)
     | some b => Yd P (s.e J) s.b (fun x => if x = b then s.σ x else none) (.load T x) ty (v.den s'.vl) := by
 unfold ldV at h
 split at h
 · rename_i i o hp
   obtain ⟨u, e1, e2⟩ := Eu hp
   have hx : ∀ J, AE (s.e J) x = .pointer (some ⟨nth 0 s.vl.δ i, o, none⟩) := fun J => by rw [ev e1, e2]; rfl
   split at h
   · rename_i t cs hb ha
     split at h
     · rename_i n hn
       split at h
       · rename_i hd
         have hd := of_decide_eq_true hd
         refine ⟨none, _, s, .refl s, h, fun J σ => ?_⟩
         have := Y.vK (P := P) (e := s.e J) (bx := s.b) (σ := σ) (ty := ty) (vs := BY s.vl ((cs.drop o).take n)) (Fj ha) (DZ hn) (by rw [Dg]; exact hd) (hx J) (J0 hb) (by simp [Pt])
         exact this
       · cases h
     · cases h
   · rename_i t cs hb ha
     split at h
     · rename_i u hu
       exact ⟨none, _, s, .refl s, h, fun J σ => Y.iu (Fj ha) (hx J) (J0 hb) (by simpa [SV.den, Gd.den] using NL hu)⟩
     · cases h
   · cases h
 · rename_i b o hp
   obtain ⟨u, e1, e2⟩ := Eu hp
   have hx : ∀ J, AE (s.e J) x = .pointer (some ⟨b, o, none⟩) := fun J => by rw [ev e1, e2]; rfl
   split at h
   · rename_i n ha hn
     obtain ⟨v, s', h1, h⟩ := S.Px h
     split at h
     · rename_i l
       split at h
       · rename_i hd
         have hd := of_decide_eq_true hd
         refine ⟨some b, _, s', h1, h.2, fun J => ?_⟩
         have hl := h.1
         rw [h1.σ] at hl
         exact Y.lda (Fj ha) (DZ hn) (by rw [Dg]; exact hd) (hx J) hl.lim
       · cases h
     · cases h
   · rename_i n ha hn
     obtain ⟨v, s', h1, h⟩ := S.Px h
     have hl := h.1
     rw [h1.σ] at hl
     exact ⟨some b, _, s', h1, h.2, fun J => Y.ld (Fj ha) (hx J) (Hp.jN hl)⟩
   · cases h
 · cases h
def yv (P : Program) (wr : Bool) (op : Op) (s : S) (K : SV → S → Prop) : Prop := match op with
 | .move x => s.val x K
 | .assign x => s.val x K
 | .pick z x y => sO x y z s K
 | .binOp b T x y _ => ve P wr b T x y s K
 | .unOp u _ x => match u with
   | .not => vf x s K
   | .neg => vg x s K
   | _ => False
 | .convert T T' x => jJ P T T' x s K
 | .fieldAddr T x f => vh P T x f s K
 | .field T x f => Y3 P T x f s K
 | .extract x i => vi x i s K
 | .indexAddr T x y => vj P T x y s K
 | .index T x y => jK P T x y s K
 | .nilCheck x => vk x s K
 | .makeFunc fn xs ys => vm fn xs ys s K
 | .build T ps => ZH P T ps s K
 | .makeInterface T x => Y4 P T x s K
 | .slice T x lo hi mx => match mx with
   | none => ZE P T x lo hi s K
   | some _ => False
 | .call c => match c.callee, c.args.toList with
   | .builtin .len, [x] => vn P x c.argTypes s K
   | .builtin .cap, [x] => vo P x c.argTypes s K
   | .builtin .min, [x, y] => match I1 (s.op x), I1 (s.op y) with
     | some (k, a), some (_, b) => K (.at (.int k (if (b : Int) < a then b else a))) s
     | _, _ => False
   | .builtin .max, [x, y] => match I1 (s.op x), I1 (s.op y) with
     | some (k, a), some (_, b) => K (.at (.int k (if (a : Int) < b then b else a))) s
     | _, _ => False
   | _, _ => False
 | _ => False
theorem Vt {P : Program} {wr : Bool} {op : Op} {ty : TypeId} {s : S} {K : SV → S → Prop} (h : yv P wr op s K) : YP P op ty s K := by
 unfold yv at h
 split at h
 · exact SS h fun v J σ hv => Y.move hv
 · exact SS h fun v J σ hv => Y.assign hv
 · exact Vo h
 · exact Y2 h
 · split at h
   · exact Y5 h
   · exact Y6 h
   · cases h
 · exact Vp h
 · exact Y7 h
 · exact UC h
 · exact Y8 h
 · exact Y9 h
 · exact Vq h
 · exact ZA h
 · exact ZB h
 · exact UF h
 · exact UD h
 · split at h
   · exact UE h
   · cases h
 · rename_i c
   obtain ⟨ce, AUR, ts⟩ := c
   split at h
   · rename_i x h1 h2
     simp only at h1 h2 h
     have : AUR = #[x] := by rw [← Array.toList_inj]; simpa using h2
     subst this h1
     exact ZC h
   · rename_i x h1 h2
     simp only at h1 h2 h
     have : AUR = #[x] := by rw [← Array.toList_inj]; simpa using h2
     subst this h1
     exact ZD h
   · rename_i x y h1 h2
     simp only at h1 h2 h
     have : AUR = #[x, y] := by rw [← Array.toList_inj]; simpa using h2
     subst this h1
     split at h
     · rename_i k a k' b hx hy
       obtain ⟨u, e1, e2⟩ := Cp hx
       obtain ⟨v, e3, e4⟩ := Cp hy
       exact CN h fun J σ => Y.min2 (by rw [ev e1, e2]) (by rw [ev e3, e4])
     · cases h
   · rename_i x y h1 h2
     simp only at h1 h2 h
     have : AUR = #[x, y] := by rw [← Array.toList_inj]; simpa using h2
     subst this h1
     split at h
     · rename_i k a k' b hx hy
       obtain ⟨u, e1, e2⟩ := Cp hx
       obtain ⟨v, e3, e4⟩ := Cp hy
       exact CN h fun J σ => Y.max2 (by rw [ev e1, e2]) (by rw [ev e3, e4])
     · cases h
   · cases h
 · cases h
end Tw
end
section
namespace Tw
open Go
variable [Iq]
def jO : List Nat → Nat → Bool
 | [], _ => false
 | x :: l, n => Nat.beq x n || jO l n
theorem Vu : ∀ {l : List Nat} {n : Nat}, jO l n = true → n ∈ l
 | x :: l, n, h => by
   simp only [jO, Bool.or_eq_true] at h
   rcases h with h | h
   · exact (Nat.eq_of_beq_eq_true h) ▸ List.mem_cons_self ..
   · exact List.mem_cons_of_mem _ (Vu h)
def AK (P : Program) (l : List Nat) : Prop := ∀ f ∈ l, Enters P f
theorem AK.nil {P : Program} : AK P [] := fun f h => by cases h
theorem AK.cons {P : Program} {f : Nat} {l : List Nat} (h : Enters P f) (hl : AK P l) : AK P (f :: l) := fun x hx => by
 rcases List.mem_cons.1 hx with rfl | hx
 · exact h
 · exact hl x hx
abbrev KP := Hp → Hp → Prop → Prop
def NN (gen : Vl → (SV → Vl → Prop) → Prop) (dst : Option Nat) (s : S) (σ0 : Hp) (v : Value) (kp : KP) (K : S → Prop) : Prop := match dst with
 | none => kp σ0 s.σ (K s)
 | some d => match s.ok with
   | true => gen s.vl fun x vl => eqV x vl v (kp σ0 s.σ (K ((s.w vl).put (some d) x)))
   | false => False
def Sc (gen : Vl → (SV → Vl → Prop) → Prop) : Prop := ∀ vl k, gen vl k → ∃ a w, vl.Le w ∧ k a w
theorem ZJ {P : Program} {t : TypeId} : Sc (jM P t) := fun _ _ h => Sa h
def jP : Vl → (SV → Vl → Prop) → Prop := fun vl k => ∃ m : Nat, k (.at (.mp (some m))) vl
theorem eD : Sc jP := fun vl k ⟨m, h⟩ => ⟨_, _, .refl _, h⟩
def jQ : Vl → (SV → Vl → Prop) → Prop := fun vl k => ∃ v : Value, k (.at (.raw v)) vl
theorem eE : Sc jQ := fun vl k ⟨m, h⟩ => ⟨_, _, .refl _, h⟩
def PI (P : Program) (t : TypeId) (two : Bool) : Vl → (SV → Vl → Prop) → Prop := fun vl k => match two with
 | false => nH P t vl fun a vl => k (.v a) vl
 | true => nH P t vl fun a vl => ∃ b : Bool, k (.SN [a, .a (.bs vl.β.length false)]) (vl.Yy (.var b))
theorem ZK {P : Program} {t : TypeId} {two : Bool} : Sc (PI P t two) := fun vl k h => by
 cases two with
 | false => unfold PI at h; obtain ⟨a, w, h1, h⟩ := Ea h; exact ⟨_, _, h1, h⟩
 | true => unfold PI at h; obtain ⟨a, w, h1, b, h⟩ := Ea h; exact ⟨_, _, h1.trans (Vl.bW _ _), h⟩
def jR (P : Program) (t u : TypeId) : Vl → (SV → Vl → Prop) → Prop := fun vl k => nH P t vl fun a vl => nH P u vl fun b vl => k (.SN [a, b]) vl
theorem eF {P : Program} {t u : TypeId} : Sc (jR P t u) := fun vl k h => by
 obtain ⟨a, w, h1, h⟩ := Ea h
 obtain ⟨b, w2, h2, h⟩ := Ea h
 exact ⟨_, _, h1.trans h2, h⟩
def vr (J : Env) (s : S) (kq : Hp → Hp → Prop) (K : S → Prop) : Env → Bx → Hp → Prop := fun e' GK σ' => ∃ s', e' = s'.e J ∧ GK = s'.b ∧ σ' = s'.σ ∧ kq s.σ σ' ∧ (∀ p ∈ s.b, p ∈ GK) ∧ K s'
theorem CE {gen : Vl → (SV → Vl → Prop) → Prop} (hg : Sc gen) {dst : Option Nat} {s : S} {σ1 : Hp} {v : Value} {kp : KP} {kq : Hp → Hp → Prop} {K : S → Prop} (KV : ∀ σ0 σ1 F, kp σ0 σ1 F → F ∧ kq σ0 σ1)
   (h : NN gen dst (s.hp σ1) s.σ v kp K) (J : Env) : vr J s kq K (put (s.e J) dst v) s.b σ1 := by
 cases dst with
 | none =>
   obtain ⟨h1, h2⟩ := KV _ _ _ h
   exact ⟨s.hp σ1, rfl, rfl, rfl, h2, fun _ h => h, h1⟩
 | some d =>
   simp only [NN] at h
   cases hs : (s.hp σ1).ok with
   | false => rw [hs] at h; cases h
   | true =>
     rw [hs] at h
     obtain ⟨x, w, hle, h⟩ := hg _ _ h
     obtain ⟨hv, h⟩ := eC h
     obtain ⟨h1, h2⟩ := KV _ _ _ h
     have J1 := S.Pp hs hle.le
     refine ⟨_, ?_, ?_, ?_, h2, fun _ h => h, h1⟩
     · rw [S.IA, J1.e J, hv]; rfl
     · rw [S.IB, J1.b]; rfl
     · rw [S.FM]; rfl
def S.boxed (s : S) (d : Option Nat) (b : Nat) (T : TypeId) (cs : List CW) : S :=
 S.put ⟨s.env, (s.vl.δ.length, T, cs) :: s.bx, s.vl.oV b, s.σ⟩ d (.at (.pt (.bx s.vl.δ.length 0)))
def oa (hid : Bool) (d : Option Nat) (T : TypeId) (cs : List CW) (s : S) (K : S → Prop) : Prop := match hid with
 | true => match s.ok && vX s.vl cs with
   | true => ∀ b : Nat, K (s.boxed d b T cs)
   | false => False
 | false => ∀ b : Nat, s.σ b = none → K ((s.hp (Hp.set s.σ b (.cells (BY s.vl cs).toArray T (0, 0)))).put d (.at (.pt (.at b 0))))
def jS (P : Program) (T : TypeId) : Option Value := match P.info? T with
 | some it => it.zero
 | none => none
theorem Se {P : Program} {T : TypeId} {z : Value} (h : jS P T = some z) : ∀ w, (zeroValue T).run P w = .ok z w := fun w => by
 unfold jS at h
 split at h
 · rename_i it hi
   simp [zeroValue, typeInfo, hi, h]
 · cases h
structure ZL where
 P : Program
 R : Rr
 Cd : List Nat
 hid : List Nat
 wr : Bool
def ZL.bX (c : ZL) (d : Option Nat) : Bool := match d with
 | some d => jO c.hid d
 | none => false
def jT (c : ZL) (dst : Option Nat) (x : Operand) (xs : List Operand) (ty : TypeId) (s : S) (kp : KP) (K : S → Prop) : Prop := match s.op x, s.Vn xs with
 | some (.v (.a (.fn f a b))), some vs => match jO c.Cd f with
   | true => Spec c.P f (a.toList ++ (Fk s.vl vs ++ b.toList)).toArray s.σ (AB c.R fun v σ1 => NN (jM c.P ty) dst (s.hp σ1) s.σ v kp K)
   | false => False
 | some (.v (.a (.raw u))), some vs => ∃ (f : Nat) (fst cap : Array Value), u = .func (.func f) fst cap ∧ Enters c.P f ∧ Spec c.P f (fst ++ (Fk s.vl vs).toArray ++ cap) s.σ (AB c.R fun v σ1 => NN (jM c.P ty) dst (s.hp σ1) s.σ v kp K)
 | _, _ => False
def biV (c : ZL) (dst : Option Nat) (b : Builtin) (xs : List Operand) (ts : Array TypeId) (ty : TypeId) (s : S) (kp : KP) (K : S → Prop) : Prop := match s.Vn xs with
 | none => False
 | some vs => match b, xs with
   | .append, [_, _] => AJ c.P (Builtin.append_ ts ty (Fk s.vl vs).toArray) s.σ (fun v σ1 => NN (jM c.P ty) dst (s.hp σ1) s.σ v kp K)
   | .copy, [_, _] => AJ c.P (Builtin.copy_ ts ty (Fk s.vl vs).toArray) s.σ (fun v σ1 => NN (jM c.P ty) dst (s.hp σ1) s.σ v kp K)
   | .delete, [_, _] => AJ c.P (Builtin.delete_ ts ty (Fk s.vl vs).toArray) s.σ (fun v σ1 => NN (jM c.P ty) dst (s.hp σ1) s.σ v kp K)
   | .clear, [_] => AJ c.P (Builtin.clear_ ts ty (Fk s.vl vs).toArray) s.σ (fun v σ1 => NN (jM c.P ty) dst (s.hp σ1) s.σ v kp K)
   | _, _ => False
def eG (c : ZL) (dst : Option Nat) (op : Op) (ty : TypeId) (s : S) (kp : KP) (K : S → Prop) : Prop := match op with
 | .call cl => match cl.callee with
   | .value x => jT c dst x cl.args.toList ty s kp K
   | .builtin b => biV c dst b cl.args.toList cl.argTypes ty s kp K
   | _ => False
 | .box T x => match s.op x with
   | some v => match v.flat with
     | some cs => oa (c.bX dst) dst T cs s K
     | none => False
   | none => False
 | .alloc T => match jS c.P T with
   | some z => oa (c.bX dst) dst T (N1 z.cells.toList) s K
   | none => False
 | .buildSlice T m ps => match c.P.underlying T, s.parts ps.toList with
   | some (.slice E), some vs => match Program.Jv c.P E m (Lh s.vl vs) with
     | some cs => ∀ b : Nat, s.σ b = none → K ((s.hp (Hp.set s.σ b (.cells cs E (0, 0)))).put dst (.at (.sl (.at b 0) m m)))
     | none => False
   | _, _ => False
 | .store T x y => match dst, jI (s.op x), s.op y with
   | none, some (.at b o), some v => AJ c.P (Instr.storeAt T (.pointer (some ⟨b, o, none⟩)) (v.den s.vl)) s.σ (fun _ σ1 => kp s.σ σ1 (K (s.hp σ1)))
   | _, _, _ => False
 | .convert T T' x => match s.op x with
   | some v => AJ c.P (convert T T' (v.den s.vl)) s.σ (fun v σ1 => NN (jM c.P ty) dst (s.hp σ1) s.σ v kp K)
   | none => False
 | .makeMap T none => AJ c.P (Instr.makeMap T none) s.σ (fun v σ1 => NN jP dst (s.hp σ1) s.σ v kp K)
 | .lookup T x y two => match c.P.underlying T, s.op x, s.op y with
   | some (.map _ t), some u, some v => AJ c.P (Instr.lookup T (u.den s.vl) (v.den s.vl) two) s.σ (fun v σ1 => NN (PI c.P t two) dst (s.hp σ1) s.σ v kp K)
   | _, _, _ => False
 | .range T x => match s.op x with
   | some v => AJ c.P (Instr.range T (v.den s.vl)) s.σ (fun v σ1 => NN jQ dst (s.hp σ1) s.σ v kp K)
   | none => False
 | _ => False
section
variable {g : Gl} {ops : Array Oper} {i : Nat} {J : Env} {dst : Option Nat} {op : Op} {ty : TypeId} {gd : Option (Nat × Bool)} {s : S} {kp : KP} {kq : Hp → Hp → Prop} {K : S → Prop} {c : ZL}
theorem Vv {x : Operand} {xs : Array Operand} {ts : Array TypeId} (hP : c.P = g.P) (hR : c.R = g.R) (hE : AK g.P c.Cd) (KV : ∀ σ0 σ1 F, kp σ0 σ1 F → F ∧ kq σ0 σ1)
   (hs : sig ops i = some (dst, .call { callee := .value x, args := xs, argTypes := ts }, ty, gd)) (hw : Ac ops (s.e J) gd = true) (hd : HM dst g.n = true) (h : jT c dst x xs.toList ty s kp K) : AV g ops i (s.e J) s.b s.σ (vr J s kq K) := by
 unfold jT at h
 rw [hP, hR] at h
 split at h
 · rename_i f a b vs hx sP
   split at h
   · rename_i hm
     refine AV.call hs hw hd (fun o ho _ w => NG (hE f (Vu hm)) (fst := a) (cap := b) (vs := (Fk s.vl vs).toArray) (by rw [ev hx]; rfl) (by simpa using FO sP) ?_ o ho w) (h.mono fun e σ1 hr => ?_)
     · rw [← Array.toList_inj]; simp
     · cases e with
       | returned v => exact CE ZJ KV hr J
       | panicked ch => exact hr
       | outgrown => exact hr
   · cases h
 · rename_i u vs hx sP
   obtain ⟨f, fst, cap, hu, Ju, h⟩ := h
   refine AV.AAl hs hw hd (u := u) (vs := (Fk s.vl vs).toArray) (by rw [ev hx]; rfl) (by simpa using FO sP) hu Ju (h.mono fun e σ1 hr => ?_)
   cases e with
   | returned v => exact CE ZJ KV hr J
   | panicked ch => exact hr
   | outgrown => exact hr
 · cases h
theorem Vw {T : TypeId} {cs : List CW} {hid : Bool} (NO : ∀ σ0 σ1, Ext σ0 σ1 → kq σ0 σ1) (h : oa hid dst T cs s K) :
   (hid = true → ∀ b, vr J s kq K (put (s.e J) dst (.pointer (some ⟨b, 0, none⟩))) ((b, .cells (BY s.vl cs).toArray T (0, 0)) :: s.b) s.σ) ∧
   (hid = false → ∀ b, s.σ b = none → vr J s kq K (put (s.e J) dst (.pointer (some ⟨b, 0, none⟩))) s.b (s.σ.set b (.cells (BY s.vl cs).toArray T (0, 0)))) := by
 unfold oa at h
 constructor
 · rintro rfl b
   simp only at h
   cases hs : s.ok && vX s.vl cs with
   | false => rw [hs] at h; cases h
   | true =>
     rw [hs] at h
     simp only [Bool.and_eq_true] at hs
     have h := h b
     have hle := Vl.oX s.vl b
     have J1 := S.Pp hs.1 hle
     have hb : (S.boxed s dst b T cs).b = (b, Obj.cells (BY s.vl cs).toArray T (0, 0)) :: s.b := by
       unfold S.boxed
       rw [S.IB]
       simp only [S.b, Es]
       have hbv : Es (s.vl.oV b) s.bx = Es s.vl s.bx := J1.b
       rw [PH hle hs.2, hbv]
       show (nth 0 (s.vl.δ ++ [b]) s.vl.δ.length, _) :: _ = _
       rw [KU]
     refine ⟨_, ?_, hb.symm, ?_, NO _ _ (Ext.refl _), fun _ h => List.mem_cons_of_mem _ h, h⟩
     · unfold S.boxed
       rw [S.IA]
       have := J1.e J
       show put (s.e J) dst _ = put ((s.w (s.vl.oV b)).e J) dst (.pointer (some ⟨nth 0 (s.vl.δ ++ [b]) s.vl.δ.length, 0, none⟩))
       rw [this, KU]
     · unfold S.boxed; rw [S.FM]
 · rintro rfl b hb
   have h := h b hb
   refine ⟨_, ?_, ?_, ?_, NO _ _ (.set hb), fun _ h => h, h⟩
   · rw [S.IA]; rfl
   · rw [S.IB]; rfl
   · rw [S.FM]; rfl
theorem eH {b : Builtin} {xs : Array Operand} {ts : Array TypeId} (hP : c.P = g.P) (KV : ∀ σ0 σ1 F, kp σ0 σ1 F → F ∧ kq σ0 σ1)
   (hs : sig ops i = some (dst, .call { callee := .builtin b, args := xs, argTypes := ts }, ty, gd)) (hw : Ac ops (s.e J) gd = true) (hd : HM dst g.n = true) (h : biV c dst b xs.toList ts ty s kp K) : AV g ops i (s.e J) s.b s.σ (vr J s kq K) := by
 unfold biV at h
 rw [hP] at h
 split at h
 · cases h
 · rename_i vs sP
   have two : ∀ {x y : Operand}, xs.toList = [x, y] → xs = #[x, y] ∧ Fk s.vl vs = [AE (s.e J) x, AE (s.e J) y] := fun hx => by
     refine ⟨by rw [← Array.toList_inj]; simpa using hx, ?_⟩
     rw [← FO (J := J) sP, hx]; rfl
   have one : ∀ {x : Operand}, xs.toList = [x] → xs = #[x] ∧ Fk s.vl vs = [AE (s.e J) x] := fun hx => by
     refine ⟨by rw [← Array.toList_inj]; simpa using hx, ?_⟩
     rw [← FO (J := J) sP, hx]; rfl
   split at h
   · rename_i x y hx
     obtain ⟨rfl, e⟩ := two hx
     rw [e] at h
     exact AV.Tp hs hw hd _ (fun o ho ht => ED rfl rfl o ho ht) (h.mono fun v σ1 hr => CE ZJ KV hr J)
   · rename_i x y hx
     obtain ⟨rfl, e⟩ := two hx
     rw [e] at h
     exact AV.Tp hs hw hd _ (fun o ho ht => EX rfl rfl o ho ht) (h.mono fun v σ1 hr => CE ZJ KV hr J)
   · rename_i x y hx
     obtain ⟨rfl, e⟩ := two hx
     rw [e] at h
     exact AV.Tp hs hw hd _ (fun o ho ht => Rk rfl rfl o ho ht) (h.mono fun v σ1 hr => CE ZJ KV hr J)
   · rename_i x hx
     obtain ⟨rfl, e⟩ := one hx
     rw [e] at h
     exact AV.Tp hs hw hd _ (fun o ho ht => Tu rfl o ho ht) (h.mono fun v σ1 hr => CE ZJ KV hr J)
   · cases h
theorem Py (hP : c.P = g.P) (hR : c.R = g.R) (hE : AK g.P c.Cd) (KV : ∀ σ0 σ1 F, kp σ0 σ1 F → F ∧ kq σ0 σ1) (NO : ∀ σ0 σ1, Ext σ0 σ1 → kq σ0 σ1)
   (hs : sig ops i = some (dst, op, ty, gd)) (hw : Ac ops (s.e J) gd = true) (hd : HM dst g.n = true) (h : eG c dst op ty s kp K) : AV g ops i (s.e J) s.b s.σ (vr J s kq K) := by
 unfold eG at h
 split at h
 · rename_i cl
   obtain ⟨ce, xs, ts⟩ := cl
   split at h
   · rename_i x hx
     simp only at hx h
     subst hx
     exact Vv hP hR hE KV hs hw hd h
   · rename_i b hx
     simp only at hx h
     subst hx
     exact eH hP KV hs hw hd h
   · cases h
 · rename_i T x
   split at h
   · rename_i v hv
     split at h
     · rename_i cs hc
       obtain ⟨h1, h2⟩ := Vw (J := J) NO h
       have hx : (AE (s.e J) x).cells = (BY s.vl cs).toArray := by rw [ev hv, Vr hc]
       cases hh : c.bX dst with
       | true => exact AV.box hs hw hd hx (h1 hh)
       | false => exact AV.AAg hs hw hd hx (h2 hh)
     · cases h
   · cases h
 · rename_i T
   split at h
   · rename_i z hz
     obtain ⟨h1, h2⟩ := Vw (J := J) NO h
     have hx : z.cells = (BY s.vl (N1 z.cells.toList)).toArray := by rw [IC]
     rw [hP] at hz
     cases hh : c.bX dst with
     | true => exact AV.alloc hs hw hd (Se hz) hx (h1 hh)
     | false => exact AV.To hs hw hd (Se hz) hx (h2 hh)
   · cases h
 · rename_i T m ps
   rw [hP] at h
   split at h
   · rename_i E vs hT sP
     split at h
     · rename_i cs hc
       refine AV.Jv hT hs hw hd (Li sP) hc fun b hb => ?_
       refine ⟨_, ?_, ?_, ?_, NO _ _ (.set hb), fun _ h => h, h b hb⟩
       · rw [S.IA]; rfl
       · rw [S.IB]; rfl
       · rw [S.FM]; rfl
     · cases h
   · cases h
 · rename_i T x y
   split at h
   · rename_i b o v hx hy
     obtain ⟨u, e1, e2⟩ := Eu hx
     rw [hP] at h
     refine AV.store hs hw (p := .pointer (some ⟨b, o, none⟩)) (by rw [ev e1, e2]; rfl) (ev hy) (h.mono fun _ σ1 hr => ?_)
     obtain ⟨h1, h2⟩ := KV _ _ _ hr
     exact ⟨s.hp σ1, rfl, rfl, rfl, h2, fun _ h => h, h1⟩
   · cases h
 · rename_i T T' x
   split at h
   · rename_i v hv
     rw [hP] at h
     exact AV.Tp hs hw hd _ (fun o ho ht => by simp only [execOp, ho]; rw [ev hv]) (h.mono fun v σ1 hr => CE ZJ KV hr J)
   · cases h
 · rename_i T
   rw [hP] at h
   exact AV.Tp hs hw hd _ (fun o ho ht => by simp only [execOp, ho]; rfl) (h.mono fun v σ1 hr => CE eD KV hr J)
 · rename_i T x y two
   rw [hP] at h
   split at h
   · rename_i a t u v hT hu hv
     exact AV.Tp hs hw hd _ (fun o ho ht => by simp only [execOp, ho]; rw [ev hu, ev hv]) (h.mono fun v σ1 hr => CE ZK KV hr J)
   · cases h
 · rename_i T x
   split at h
   · rename_i v hv
     rw [hP] at h
     exact AV.Tp hs hw hd _ (fun o ho ht => by simp only [execOp, ho]; rw [ev hv]) (h.mono fun v σ1 hr => CE eE KV hr J)
   · cases h
 · cases h
end
end Tw
end
section
namespace Tw
open Go
variable [Iq]
def jU (P : Program) : Op → Bool
 | .call c => match c.callee with
   | .builtin .len => false
   | .builtin .cap => false
   | .builtin .min => false
   | .builtin .max => false
   | _ => true
 | .convert T T' _ => match P.underlying T, P.underlying T' with
   | some (.int _), some (.int _) => false
   | _, _ => true
 | .box .. => true
 | .alloc .. => true
 | .store .. => true
 | .buildSlice .. => true
 | .makeSlice .. => true
 | .mapUpdate .. => true
 | .makeMap .. => true
 | .insert .. => true
 | .range .. => true
 | .next .. => true
 | .lookup .. => true
 | .entryStore .. => true
 | .mapEntry .. => true
 | .makeChan .. => true
 | _ => false
def eI (s : S) : Option Operand → Option (Option Value)
 | none => some none
 | some x => match s.op x with
   | some v => some (some (v.den s.vl))
   | none => none
def oc (P : Program) (b : BinOp) (T : TypeId) (x y : Option SV) : Bool := match I1 x, I1 y with
 | some _, some _ => true
 | _, _ => match P.underlying T with
   | some .string => match b with
     | .eql => true
     | .neq => true
     | .add => true
     | _ => false
   | some (.pointer _) => true
   | some .bool => true
   | _ => false
def AIF : Option SV → Bool
 | some (.v (.a (.sl _ _ _))) => true
 | _ => false
def anyM (P : Program) (op : Op) (ty : TypeId) (s : S) : Option (Sem Value) := match op with
 | .slice T x lo hi mx => match AIF (s.op x) && mx.isNone with
   | true => none
   | false => match s.op x, eI s lo, eI s hi, eI s mx with
     | some w, some l, some h, some m => some (Instr.sliceAt T (w.den s.vl) l h m)
     | _, _, _, _ => none
 | .unOp u _ x => match u, s.op x with
   | .not, _ => none
   | .neg, v => match I1 v, v with
     | some _, _ => none
     | none, some v => some (Op.unary .neg (v.den s.vl))
     | none, none => none
   | u, some v => some (Op.unary u (v.den s.vl))
   | _, none => none
 | .binOp b T x y _ => match oc P b T (s.op x) (s.op y) with
   | true => none
   | false => match s.op x, s.op y with
     | some u, some v => some (do eqGuard b T x y (u.den s.vl) (v.den s.vl); binOp b T (u.den s.vl) (v.den s.vl))
     | _, _ => none
 | .call c => match c.callee, c.args.toList, c.argTypes.toList with
   | .builtin .len, [x], [T] => match s.op x with
     | some (.v (.a (.mp m))) => some (Builtin.len_ #[T] ty #[.map m])
     | _ => none
   | _, _, _ => none
 | _ => none
theorem NQ {s : S} {J : Env} {x : Option Operand} {v : Option Value} (h : eI s x = some v) : x.map (AE (s.e J)) = v := by
 cases x with
 | none => simp only [eI, Option.some.injEq] at h; subst h; rfl
 | some x =>
   simp only [eI] at h
   split at h
   · rename_i u hu
     cases h
     simp only [Option.map_some]
     rw [ev hu]
   · cases h
theorem eJ {P : Program} {op : Op} {ty : TypeId} {s : S} {m : Sem Value} (h : anyM P op ty s = some m) (J : Env) : ∀ o : Oper, o.op = op → o.type = ty → execOp (AE (s.e J)) o = (do pure (Next.value (← m))) := fun o ho ht => by
 unfold anyM at h
 split at h
 · rename_i T x lo hi mx
   split at h
   · cases h
   · split at h
     · rename_i w l hh mm h1 h2 h3 h4
       cases h
       simp only [execOp, ho, NQ h2, NQ h3, NQ h4, ev h1]
     · cases h
 · rename_i u T x
   split at h
   · cases h
   · split at h
     · cases h
     · rename_i hv
       cases h
       simp only [execOp, ho, ev hv]
     · cases h
   · rename_i hv
     cases h
     simp only [execOp, ho, ev hv]
   · cases h
 · rename_i b T x y T'
   split at h
   · cases h
   · split at h
     · rename_i u v hu hv
       cases h
       simp only [execOp, ho, ev hu, ev hv]
     · cases h
 · rename_i c
   obtain ⟨ce, AUR, ts⟩ := c
   split at h
   · rename_i x T h1 h2 h3
     simp only at h1 h2 h3
     have e1 : AUR = #[x] := by rw [← Array.toList_inj]; simpa using h2
     have e2 : ts = #[T] := by rw [← Array.toList_inj]; simpa using h3
     subst h1 e1 e2
     split at h
     · rename_i mm hx
       cases h
       exact Yx (by rw [ev hx]; rfl) o ho ht
     · cases h
   · cases h
 · cases h
def vt (P : Program) (ty : TypeId) (m : Sem Value) (s : S) (K : SV → S → Prop) : Prop := s.ex P ty fun v s => YF P m s.σ (v.den s.vl) ∧ K v s
theorem Pz {P : Program} {op : Op} {ty : TypeId} {s : S} {m : Sem Value} {K : SV → S → Prop} (hm : anyM P op ty s = some m) (h : vt P ty m s K) : ∃ v s', s.Same s' ∧ (∀ J, Yd P (s.e J) s.b s.σ op ty (v.den s'.vl)) ∧ K v s' := by
 obtain ⟨v, s', h1, hy, hk⟩ := S.Px h
 rw [h1.σ] at hy
 exact ⟨v, s', h1, fun J => Yd.any (eJ hm J) hy, hk⟩
def P0 (ops : Array Oper) (gd : Option (Nat × Bool)) (s : S) (K : Bool → S → Prop) : Prop := match gd with
 | none => K true s
 | some (j, want) => match (ops[j]?).bind (·.dst) with
   | none => False
   | some d => match UA s.env d with
     | some (.v (.a .un)) => K false s
     | v => s.oY v fun t s => K (t == want) s
theorem I2 {ops : Array Oper} {gd : Option (Nat × Bool)} {s : S} {K : Bool → S → Prop} (h : P0 ops gd s K) : ∃ b s', s.Same s' ∧ (∀ J, Ac ops (s.e J) gd = b) ∧ K b s' := by
 unfold P0 at h
 split at h
 · exact ⟨true, s, .refl s, fun _ => rfl, h⟩
 · rename_i j want
   split at h
   · cases h
   · rename_i d hd
     split at h
     · rename_i hv
       refine ⟨false, s, .refl s, fun J => ?_, h⟩
       have : s.e J d = undef := EZ hv
       simp only [Ac, hd, this]
       rfl
     · obtain ⟨t, s', x, h1, h2, h3, h4, h⟩ := S.FN h
       refine ⟨_, s', h1, fun J => ?_, h⟩
       have : s.e J d = .bool t := (EZ h3).trans h4
       simp only [Ac, hd, this]
       cases t <;> cases want <;> rfl
def bY (J : Env) (K : S → Prop) : Env → Bx → Hp → Prop := fun e bx σ => ∃ s, e = s.e J ∧ bx = s.b ∧ σ = s.σ ∧ K s
structure Cx extends ZL where
 n : Nat
 rng : List (Nat × TypeId) := []
structure Cx.Ok (c : Cx) (g : Gl) : Prop where
 P : c.P = g.P
 R : c.R = g.R
 E : AK g.P c.Cd
 n : c.n = g.n
 Gf : g.Gf = none
 ds : g.ds = []
def kp0 : KP := fun _ _ F => F
def eK (l : List FL) (i : Nat) (o : Nat) (xs : List CW) : List FL := match l with
 | [] => []
 | (j, t, cs) :: l => bif Nat.beq j i then (j, t, ZF cs o xs) :: l else (j, t, cs) :: eK l i o xs
def P1 {α : Type} : List α → Nat
 | [] => 0
 | _ :: l => P1 l + 1
theorem PJ {α : Type} : ∀ l : List α, P1 l = l.length
 | [] => rfl
 | _ :: l => by simp only [P1, List.length_cons]; rw [PJ l]
def NR : List CW → List Value
 | [] => []
 | .raw v :: l => v :: NR l
 | .un :: l => undef :: NR l
 | _ :: l => NR l
def vu (F : Prop) : List Value → Prop
 | [] => F
 | [v] => (Value.oneCell' v = true) ∧ F
 | l => vv l ∧ F
where
 vv : List Value → Prop
   | [] => True
   | [v] => Value.oneCell' v = true
   | v :: l => Value.oneCell' v = true ∧ vv l
def SV.ZM : SV → Option (List CW)
 | .v (.a x) => some [x]
 | .v (.agg l) => some l
 | .SN _ => none
def mapOf (P : Program) (l : List (Nat × TypeId)) (x : Operand) : Option (TypeId × TypeId) := match x with
 | .tmp t => match l.find? fun p => Nat.beq p.1 t with
   | some p => match P.underlying p.2 with
     | some (.map k v) => some (k, v)
     | _ => none
   | none => none
 | _ => none
def jV (c : Cx) (dst : Option Nat) (x : Operand) (ty : TypeId) (s : S) (K : S → Prop) : Prop := match dst, s.op x, mapOf c.P c.rng x with
 | some d, some u, some (tk, tv) => AJ c.P (Instr.next (u.den s.vl) false ty) s.σ (fun v σ1 => (v = (.tuple #[(.bool false)]) ∧ K ((s.hp σ1).put (some d) (.SN [.a (.bl false)]))) ∨
     (match s.ok with
       | true => nH c.P tk s.vl fun a vl => nH c.P tv vl fun b vl => v = (SV.SN [.a (.bl true), a, b]).den vl ∧ K (((s.hp σ1).w vl).put (some d) (.SN [.a (.bl true), a, b]))
       | false => False))
 | _, _, _ => False
def vw (c : Cx) (T : TypeId) (i o : Nat) (v : SV) (s : S) (K : S → Prop) : Prop := match v.ZM, YJ c.P T with
 | some l, some n => match Vs s.bx i with
   | some (t, cs) => match Nat.beq (P1 l) n && Nat.ble (o + P1 l) (P1 cs) with
     | true => vu (K ⟨s.env, eK s.bx i o l, s.vl, s.σ⟩) (NR l)
     | false => False
   | none => False
 | _, _ => False
def jW (c : Cx) (ops : Array Oper) (i : Nat) (s : S) (K : S → Prop) : Prop := match ops[i]? with
 | none => False
 | some o => match HM o.dst c.n with
   | false => False
   | true => P0 ops o.guard s fun b s => match b with
     | false => K (s.put o.dst (.at .un))
     | true => match o.op with
       | .load T x => ldV c.P T x s fun _ v s => K (s.put o.dst v)
       | .mapUpdate T m k v => match o.dst, s.op m, s.op k, s.op v with
         | none, some m, some k, some v => AJ c.P (Instr.mapUpdate T (m.den s.vl) (k.den s.vl) (v.den s.vl)) s.σ (fun _ σ1 => K (s.hp σ1))
         | _, _, _, _ => False
       | .next x false => jV c o.dst x o.type s K
       | .entry x => match s.op x, mapOf c.P c.rng x with
         | some u, some (tk, tv) => AJ c.P (Instr.entry (u.den s.vl)) s.σ (fun v σ1 => NN (jR c.P tk tv) o.dst (s.hp σ1) s.σ v kp0 K)
         | _, _ => False
       | .panic x => match s.op x with
         | some (.v (.a (.raw (.iface T u)))) => c.R (.panicked [{ v := .iface T u, recovered := false }]) s.σ
         | _ => False
       | .store T x y => match o.dst, jI (s.op x), s.op y with
         | none, some (.bx i b), some v => vw c T i b v s K
         | _, _, _ => eG c.toZL o.dst (.store T x y) o.type s kp0 K
       | op => match jU c.P op, anyM c.P op o.type s with
         | true, _ => eG c.toZL o.dst op o.type s kp0 K
         | false, some m => vt c.P o.type m s fun v s => K (s.put o.dst v)
         | false, none => yv c.P c.wr op s fun v s => K (s.put o.dst v)
def od (c : Cx) (ops : Array Oper) : List Nat → S → (S → Prop) → Prop
 | [], s, K => K s
 | i :: is, s, K => jW c ops i s fun s => od c ops is s K
section
variable {g : Gl} {ops : Array Oper} {i : Nat} {J : Env} {s : S} {K : S → Prop} {c : Cx}
theorem bZ {s s' : S} {K : Env → Bx → Hp → Prop} (h : s.Same s') (hk : AV g ops i (s'.e J) s'.b s'.σ K) : AV g ops i (s.e J) s.b s.σ K := by
 rw [← h.e J, ← h.b, ← h.σ]; exact hk
theorem AA3 {s : S} {o : Oper} {K : SV → S → Prop} {K' : Env → Bx → Hp → Prop} (ho : ops[i]? = some o) (hw : Ac ops (s.e J) o.guard = true) (hd : HM o.dst g.n = true) (h : YP g.P o.op o.type s K) (hk : ∀ v s', s.Same s' → K v s' → K' ((s'.put o.dst v).e J) s'.b s'.σ) :
   AV g ops i (s.e J) s.b s.σ K' := by
 obtain ⟨v, s', h1, h2, h3⟩ := h
 have := hk v s' h1 h3
 rw [S.IA, h1.e J, h1.b, h1.σ] at this
 exact AV.y (D6 ho) hw hd (h2 J _) this
theorem Yd.up {P : Program} {e : Env} {bx : Bx} {σ : Hp} {b : Nat} {op : Op} {ty : TypeId} {v : Value} (h : Yd P e bx (fun x => if x = b then σ x else none) op ty v) : Yd P e bx σ op ty v := fun o ho ht w hs hb => h o ho ht w (fun k u hk => by
 simp only at hk
 split at hk
 · exact hs k u hk
 · cases hk) hb
theorem AV.mono {e : Env} {bx : Bx} {σ : Hp} {K K' : Env → Bx → Hp → Prop} (h : AV g ops i e bx σ K) (hk : ∀ e bx σ, K e bx σ → K' e bx σ) : AV g ops i e bx σ K' := fun w0 F a w st => wpOpIn_mono (fun a' w' ⟨e', b', σ', L1, h'⟩ => ⟨e', b', σ', L1, hk _ _ _ h'⟩) (h w0 F a w st)
theorem AA4 {dst : Option Nat} {op : Op} {ty : TypeId} {gd : Option (Nat × Bool)} (hc : c.Ok g) (hs : sig ops i = some (dst, op, ty, gd)) (hw : Ac ops (s.e J) gd = true) (hd : HM dst g.n = true) (h : eG c.toZL dst op ty s kp0 K) : AV g ops i (s.e J) s.b s.σ (bY J K) := by
 have := Py (c := c.toZL) (kq := fun _ _ => True) (J := J) hc.P hc.R hc.E (fun _ _ F h => ⟨h, trivial⟩) (fun _ _ _ => trivial) hs hw hd h
 intro w0 F a w st
 refine wpOpIn_mono ?_ (this w0 F a w st)
 rintro a' w' ⟨e', GK, σ', L1, s', rfl, rfl, rfl, _, _, hk⟩
 exact ⟨_, _, _, L1, s', rfl, rfl, rfl, hk⟩
theorem Vx {dst : Option Nat} {x : Operand} {ty : TypeId} {gd : Option (Nat × Bool)} (hc : c.Ok g) (hs : sig ops i = some (dst, .next x false, ty, gd)) (hw : Ac ops (s.e J) gd = true) (hd : HM dst g.n = true) (h : jV c dst x ty s K) : AV g ops i (s.e J) s.b s.σ (bY J K) := by
 unfold jV at h
 split at h
 · rename_i d u tk tv hu hm
   rw [hc.P] at h
   refine AV.Tp hs hw hd (Instr.next (u.den s.vl) false ty) (fun o ho ht => by simp only [execOp, ho, ht]; rw [ev hu]) (h.mono fun v σ1 hr => ?_)
   rcases hr with ⟨rfl, hk⟩ | hr
   · exact ⟨_, (S.IA (s := s.hp σ1) (x := .SN [.a (.bl false)])).symm, (S.IB (s := s.hp σ1) (x := .SN [.a (.bl false)])).symm, (S.FM (s := s.hp σ1) (x := .SN [.a (.bl false)])).symm, hk⟩
   · split at hr
     · rename_i Aq
       obtain ⟨a, w1, h1, hr⟩ := Ea hr
       obtain ⟨b, w2, h2, hr⟩ := Ea hr
       obtain ⟨hv, hk⟩ := hr
       have J1 := S.Pp (s := s.hp σ1) Aq (h1.trans h2).le
       refine ⟨_, ?_, ?_, ?_, hk⟩
       · rw [S.IA, J1.e J, hv]; rfl
       · rw [S.IB, J1.b]; rfl
       · rw [S.FM]; rfl
     · cases hr
 · cases h
theorem Vy {vl : Vl} {i o : Nat} {l : List CW} : ∀ {bx : List FL} {t : TypeId} {cs : List CW}, Vs bx i = some (t, cs) → ∃ j, (Es vl bx)[j]? = some (nth 0 vl.δ i, .cells (BY vl cs).toArray t (0, 0)) ∧ Es vl (eK bx i o l) = (Es vl bx).set j (nth 0 vl.δ i, .cells (BY vl (ZF cs o l)).toArray t (0, 0))
 | (k, u, ds) :: r, t, cs, h => by
   simp only [Vs] at h
   cases hk : Nat.beq k i with
   | true =>
     rw [hk] at h; simp only [cond_true, Option.some.injEq, Prod.mk.injEq] at h
     obtain ⟨rfl, rfl⟩ := h
     have := Nat.eq_of_beq_eq_true hk
     subst this
     exact ⟨0, rfl, by simp only [eK, hk, cond_true, Es, List.set_cons_zero]⟩
   | false =>
     rw [hk] at h; simp only [cond_false] at h
     obtain ⟨j, h1, h2⟩ := Vy (vl := vl) (o := o) (l := l) h
     exact ⟨j + 1, by simpa only [Es, List.getElem?_cons_succ] using h1, by simp only [eK, hk, cond_false, Es, List.set_cons_succ, h2]⟩
theorem ZN {F : Prop} {l : List Value} (h : vu F l) : F ∧ ∀ v ∈ l, Value.oneCell' v = true := by
 have cj : ∀ {l : List Value}, vu.vv l → ∀ v ∈ l, Value.oneCell' v = true := fun {l} => by
   induction l with
   | nil => intro _ v hv; cases hv
   | cons a l ih =>
     intro h v hv
     cases l with
     | nil => simp at hv; subst hv; exact h
     | cons b l =>
       rcases List.mem_cons.1 hv with rfl | hv
       · exact h.1
       · exact ih h.2 v hv
 match l, h with
 | [], h => exact ⟨h, fun v hv => by cases hv⟩
 | [v], h => exact ⟨h.2, fun u hu => by simp at hu; subst hu; exact h.1⟩
 | a :: b :: l, h => exact ⟨h.2, cj h.1⟩
theorem P2 {vl : Vl} : ∀ {l : List CW}, (∀ v ∈ NR l, Value.oneCell' v = true) → ∀ u ∈ BY vl l, Value.oneCell' u = true
 | [], _, u, hu => by cases hu
 | x :: l, h, u, hu => by
   have tl : ∀ v ∈ NR l, Value.oneCell' v = true := fun v hv => h v (by cases x <;> first | exact hv | exact List.mem_cons_of_mem _ hv)
   rcases List.mem_cons.1 hu with rfl | hu
   · cases x <;> try rfl
     case bs i n => cases n <;> rfl
     case raw v => exact h v (List.mem_cons_self ..)
     case un => exact h undef (List.mem_cons_self ..)
   · exact P2 tl u hu
theorem ZO {vl : Vl} {v : SV} {l : List CW} (h : v.ZM = some l) (ho : ∀ u ∈ BY vl l, Value.oneCell' u = true) : (v.den vl).cells = (BY vl l).toArray := by
 unfold SV.ZM at h
 split at h
 · rename_i x
   cases h
   have := ho (x.den vl) (List.mem_cons_self ..)
   simp only [SV.den, Gd.den, BY]
   cases hx : x.den vl <;> first | rfl | (rw [hx] at this; cases this)
 · cases h; rfl
 · cases h
theorem ZP {T ty : TypeId} {x y : Operand} {gd : Option (Nat × Bool)} {k b : Nat} {v : SV} (hc : c.Ok g) (hs : sig ops i = some (none, .store T x y, ty, gd)) (hw : Ac ops (s.e J) gd = true) (hx : jI (s.op x) = some (.bx k b)) (hy : s.op y = some v) (h : vw c T k b v s K) : AV g ops i (s.e J) s.b s.σ (bY J K) := by
 unfold vw at h
 split at h
 · rename_i l n hl hz
   split at h
   · rename_i t cs hg
     split at h
     · rename_i hd
       simp only [Bool.and_eq_true, PJ] at hd
       obtain ⟨hk, ho⟩ := ZN h
       have Fm := P2 (vl := s.vl) ho
       have jX := ZO (vl := s.vl) hl Fm
       obtain ⟨u, e1, e2⟩ := Eu hx
       obtain ⟨j, h1, h2⟩ := Vy (vl := s.vl) (o := b) (l := l) hg
       rw [hc.P] at hz
       refine AV.vL (b := nth 0 s.vl.δ k) (o := b) (c := (BY s.vl cs).toArray) (c' := (BY s.vl (ZF cs b l)).toArray) (t := t) (j := j) hs hw (DZ hz) (by rw [ev e1, e2]; rfl) (ev hy) h1 ?_ ?_ ?_ ?_ ?_
       · rw [jX]; simp [Dg]; exact Nat.eq_of_beq_eq_true hd.1
       · have := Nat.eq_of_beq_eq_true hd.1
         have h3 := Nat.le_of_ble_eq_true hd.2
         exact Nat.ble_eq_true_of_le (by simp [Dg]; omega)
       · rw [jX]; exact List.all_eq_true.2 fun u hu => Fm u (by simpa using hu)
       · rw [jX, Pu]
       · exact ⟨⟨s.env, eK s.bx k b l, s.vl, s.σ⟩, rfl, h2.symm, rfl, hk⟩
     · cases h
   · cases h
 · cases h
theorem Vz (hc : c.Ok g) (h : jW c ops i s K) : AV g ops i (s.e J) s.b s.σ (bY J K) := by
 unfold jW at h
 split at h
 · cases h
 · rename_i o ho
   split at h
   · cases h
   · rename_i hd
     rw [hc.n] at hd
     obtain ⟨b, s1, h1, hw, h⟩ := I2 h
     have hw := hw J
     rw [← h1.e J] at hw
     refine bZ h1 ?_
     cases b with
     | false => exact AV.no (D6 ho) hw hd ⟨_, (S.IA (x := .at .un)).symm, S.IB.symm, S.FM.symm, h⟩
     | true =>
       simp only at h
       split at h
       · rename_i T x SG
         obtain ⟨m, v, s2, h2, hk, hy⟩ := Sb (ty := o.type) h
         have hs := D6 ho
         rw [SG] at hs
         refine AV.y (v := v.den s2.vl) hs hw hd ?_ ⟨s2.put o.dst v, by rw [S.IA, h2.e J], by rw [S.IB, h2.b], by rw [S.FM, h2.σ], hk⟩
         have hy := hy J
         rw [hc.P] at hy
         cases m with
         | none => exact hy _
         | some b => exact Yd.up hy
       · rename_i T m k v SG
         split at h
         · rename_i um uk uv NF hm hk hv
           have hs := D6 ho
           rw [SG, NF] at hs
           rw [hc.P] at h
           exact AV.AAh hs hw rfl _ (fun o ho ht => by simp only [execOp, ho]; rw [ev hm, ev hk, ev hv]) (h.mono fun _ σ1 hr => ⟨s1.hp σ1, rfl, rfl, rfl, hr⟩)
         · cases h
       · have SG := ‹o.op = Op.next _ false›
         have hs := D6 ho
         rw [SG] at hs
         exact Vx hc hs hw hd h
       · have SG := ‹o.op = Op.entry _›
         have hs := D6 ho
         rw [SG] at hs
         split at h
         · rename_i u tk tv hu hm
           rw [hc.P] at h
           have := AV.Tp (K := vr J s1 (fun _ _ => True) K) hs hw hd (Instr.entry (u.den s1.vl)) (fun o ho ht => by simp only [execOp, ho]; rw [ev hu]) (h.mono fun v σ1 hr => CE (kq := fun _ _ => True) eF (fun _ _ F h => ⟨h, trivial⟩) hr J)
           exact this.mono fun e bx σ ⟨s', e1, e2, e3, _, _, hk⟩ => ⟨s', e1, e2, e3, hk⟩
         · cases h
       · have SG := ‹o.op = Op.panic _›
         split at h
         · rename_i T u hx
           have hs := D6 ho
           rw [SG] at hs
           rw [hc.R] at h
           exact AV.panic hs hw (by rw [ev hx]; rfl) hc.Gf hc.ds h
         · cases h
       · have SG := ‹o.op = Op.store _ _ _›
         have hs := D6 ho
         rw [SG] at hs
         split at h
         · rename_i i' b v NF hx hy
           rw [NF] at hs
           exact ZP hc hs hw hx hy h
         · exact AA4 hc hs hw hd h
       · split at h
         · exact AA4 hc (D6 ho) hw hd h
         · rename_i m _ hm
           rw [hc.P] at h hm
           obtain ⟨v, s2, h2, hy, hk⟩ := Pz hm h
           exact AV.y (v := v.den s2.vl) (D6 ho) hw hd (hy J) ⟨s2.put o.dst v, by rw [S.IA, h2.e J], by rw [S.IB, h2.b], by rw [S.FM, h2.σ], hk⟩
         · rw [hc.P] at h
           exact AA3 ho hw hd (Vt h) fun v s' Ky hk => ⟨s'.put o.dst v, rfl, S.IB.symm, S.FM.symm, hk⟩
theorem Lj (hc : c.Ok g) : ∀ {is : List Nat} {s : S}, od c ops is s K → Seq g ops is (s.e J) s.b s.σ (bY J K)
 | [], s, h => ⟨s, rfl, rfl, rfl, h⟩
 | i :: is, s, h => (Vz hc h).mono fun e bx σ ⟨s', h1, h2, h3, h4⟩ => by subst h1 h2 h3; exact Lj hc h4
theorem P3 {K K' : Env → Bx → Hp → Prop} (hk : ∀ e bx σ, K e bx σ → K' e bx σ) : ∀ {is : List Nat} {e : Env} {bx : Bx} {σ : Hp}, Seq g ops is e bx σ K → Seq g ops is e bx σ K'
 | [], _, _, _, h => hk _ _ _ h
 | i :: is, e, bx, σ, h => AV.mono h fun _ _ _ h => P3 hk h
theorem I3 {K K' : Env → Bx → Hp → Prop} (hk : ∀ e bx σ, K e bx σ → K' e bx σ) : ∀ {p : Ord} {q : Ir} {e : Env} {bx : Bx} {σ : Hp}, Jz g ops p q e bx σ K → Jz g ops p q e bx σ K'
 | .done, _, _, _, _, h => hk _ _ _ h
 | .yes i r, q, e, bx, σ, ⟨own, o, v, h1, h2, h3, h4, h5⟩ => ⟨own, o, v, h1, h2, h3, h4, I3 hk h5⟩
 | .alt i r t, q, e, bx, σ, ⟨h1, h2⟩ => ⟨AV.mono h1 fun _ _ _ ⟨h3, h4⟩ => ⟨h3, I3 hk h4⟩, I3 hk h2⟩
 | .no, _, _, _, _, _ => trivial
def P4 : Ord → List Nat
 | .done => []
 | .yes _ r => P4 r
 | .alt i r _ => i :: P4 r
 | .no => []
def AA5 (ops : Array Oper) (i : Nat) : Nat → Nat → Option (List Nat)
 | 0, _ => none
 | f + 1, t => match H0 ops t i with
   | true => some [t]
   | false => (List.range t).findSome? fun u => match Nat.blt i u && H0 ops t u with
     | true => match AA5 ops i f u with
       | some p => some (t :: p)
       | none => none
     | false => none
def waits (ops : Array Oper) (i : Nat) : List Nat → List (List Nat)
 | [] => []
 | t :: l => match AA5 ops i 40 t with
   | some p => p :: waits ops i l
   | none => waits ops i l
def kpL (L : Ir) : KP := fun σ0 σ1 F => match L with
 | none => Ext σ0 σ1 ∧ F
 | some [] => F
 | some (x :: l) => Kp ((x :: l).map Prod.fst) σ0 σ1 ∧ F
def Fo (c : Cx) (ops : Array Oper) : Ord → Ir → S → (S → Prop) → Prop
 | .done, _, s, K => K s
 | .yes i r, L, s, K => match ops[i]? with
   | none => False
   | some o => match HM o.dst c.n && L.ok i with
     | false => False
     | true => P0 ops o.guard s fun b s => match b with
       | false => Fo c ops r L (s.put o.dst (.at .un)) K
       | true => match o.op with
         | .load T x => ldV c.P T x s fun m v s => match m, L with
           | none, _ => Fo c ops r L (s.put o.dst v) K
           | some _, none => Fo c ops r L (s.put o.dst v) K
           | some b, some l => match (Lc (some l) (some (b, waits ops i (P4 r)))).ok i && Pc ops i (some (b, waits ops i (P4 r))) with
             | true => Fo c ops r (Lc (some l) (some (b, waits ops i (P4 r)))) (s.put o.dst v) K
             | false => False
         | op => match jU c.P op, anyM c.P op o.type s, L with
           | true, _, _ => False
           | false, some m, none => vt c.P o.type m s fun v s => Fo c ops r none (s.put o.dst v) K
           | false, some _, some _ => False
           | false, none, L => yv c.P c.wr op s fun v s => Fo c ops r L (s.put o.dst v) K
 | .alt i r t, L, s, K =>
   match t with
   | .no => V0 c ops i L s fun s => Fo c ops r (Fh L i) s K
   | t => (V0 c ops i L s fun s => Fo c ops r (Fh L i) s K) ∧ Fo c ops t L s K
 | .no, _, _, _ => True
where
 V0 (c : Cx) (ops : Array Oper) (i : Nat) (L : Ir) (s : S) (K : S → Prop) : Prop := match ops[i]? with
   | none => False
   | some o => match HM o.dst c.n with
     | false => False
     | true => P0 ops o.guard s fun b s => match b with
       | false => K (s.put o.dst (.at .un))
       | true => eG c.toZL o.dst o.op o.type s (kpL (Fh L i)) K
def kqL (q : Ir) (σ σ' : Hp) : Prop := match q with
 | none => ∀ b o, σ b = some o → σ' b = some o
 | some L => ∀ x ∈ L, ∀ o, σ x.1 = some o → σ' x.1 = some o
theorem vx {q : Ir} {bx GK : Bx} {σ σ' : Hp} (h : kqL q σ σ') (hb : ∀ p ∈ bx, p ∈ GK) : Jt q bx σ GK σ' := ⟨hb, h⟩
theorem eL {L : Ir} {σ0 σ1 : Hp} {F : Prop} (h : kpL L σ0 σ1 F) : F ∧ kqL L σ0 σ1 := by
 unfold kpL at h
 split at h
 · exact ⟨h.2, h.1⟩
 · exact ⟨h, fun x hx => by cases hx⟩
 · exact ⟨h.2, fun y hy o ho => h.1 y.1 (List.mem_map.2 ⟨y, hy, rfl⟩) o ho⟩
theorem oe {L : Ir} {σ0 σ1 : Hp} (h : Ext σ0 σ1) : kqL L σ0 σ1 := by
 cases L with
 | none => exact h
 | some l => exact fun x _ o ho => h _ _ ho
theorem V1 {L : Ir} (hc : c.Ok g) (h : Fo.V0 c ops i L s K) : AV g ops i (s.e J) s.b s.σ fun e' GK σ' => Jt (Fh L i) s.b s.σ GK σ' ∧ bY J K e' GK σ' := by
 unfold Fo.V0 at h
 split at h
 · cases h
 · rename_i o ho
   split at h
   · cases h
   · rename_i hd
     rw [hc.n] at hd
     obtain ⟨b, s1, h1, hw, h⟩ := I2 h
     have hw := hw J
     rw [← h1.e J] at hw
     have key : AV g ops i (s1.e J) s1.b s1.σ fun e' GK σ' => Jt (Fh L i) s1.b s1.σ GK σ' ∧ bY J K e' GK σ' := by
       cases b with
       | false => exact AV.no (D6 ho) hw hd ⟨Jt.refl _ _ _, _, (S.IA (x := .at .un)).symm, S.IB.symm, S.FM.symm, h⟩
       | true =>
         have := Py (c := c.toZL) (kq := kqL (Fh L i)) (J := J) hc.P hc.R hc.E (fun _ _ F h => eL h) (fun _ _ h => oe h) (D6 ho) hw hd h
         exact this.mono fun e' GK σ' ⟨s', e1, e2, e3, hq, hb, hk⟩ => ⟨vx hq hb, s', e1, e2, e3, hk⟩
     have := bZ (K := fun e' GK σ' => Jt (Fh L i) s1.b s1.σ GK σ' ∧ bY J K e' GK σ') h1 key
     rw [h1.b, h1.σ] at this
     exact this
theorem Dh (hc : c.Ok g) : ∀ {p : Ord} {q : Ir} {s : S}, Fo c ops p q s K → Jz g ops p q (s.e J) s.b s.σ (bY J K)
 | .done, q, s, h => ⟨s, rfl, rfl, rfl, h⟩
 | .yes i r, q, s, h => by
   simp only [Fo] at h
   split at h
   · cases h
   · rename_i o ho
     split at h
     · cases h
     · rename_i hd
       simp only [Bool.and_eq_true] at hd
       obtain ⟨hd, hq⟩ := hd
       rw [hc.n] at hd
       obtain ⟨b, s1, h1, hw, h⟩ := I2 h
       have hw := hw J
       rw [← h1.e J] at hw
       rw [← h1.e J, ← h1.b, ← h1.σ]
       have go : ∀ {v : SV} {s2 : S} {own : Option (Nat × List (List Nat))}, s1.Same s2 → ((Lc q own).ok i && Pc ops i own) = true → Yd g.P (s1.e J) s1.b (NC q own s1.σ) o.op o.type (v.den s2.vl) → Ac ops (s1.e J) o.guard = true → Fo c ops r (Lc q own) (s2.put o.dst v) K → Jz g ops (.yes i r) q (s1.e J) s1.b s1.σ (bY J K) := fun {v s2 own} h2 Aq hy hw hk => by
         have := Dh hc hk
         rw [S.IA, S.IB, S.FM, h2.e J, h2.b, h2.σ] at this
         exact ⟨own, o, v.den s2.vl, Aq, ho, .inl ⟨hw, hy⟩, HM.lt hd, this⟩
       cases b with
       | false =>
         have := Dh hc h
         rw [S.IA, S.IB, S.FM] at this
         exact ⟨none, o, undef, ok_none hq, ho, .inr ⟨hw, rfl⟩, HM.lt hd, by rw [FJ]; exact this⟩
       | true =>
         simp only at h
         split at h
         · rename_i T x SG
           obtain ⟨m, v, s2, h2, hk, hy⟩ := Sb (ty := o.type) h
           have hy := hy J
           rw [hc.P, ← SG] at hy
           split at hk
           · exact go (own := none) h2 (ok_none hq) (hy _) hw (by rw [FJ]; exact hk)
           · exact go (own := none) h2 (ok_none hq) (Yd.up hy) hw (by rw [FJ]; exact hk)
           · rename_i b l
             split at hk
             · rename_i Aq
               exact go h2 Aq hy hw hk
             · cases hk
         · split at h
           · cases h
           · have hm := ‹anyM c.P o.op o.type s1 = some _›
             rw [hc.P] at h hm
             obtain ⟨v, s2, h2, hy, hk⟩ := Pz hm h
             exact go (own := none) h2 (ok_none hq) (hy J) hw hk
           · cases h
           · rw [hc.P] at h
             obtain ⟨v, s2, h2, hy, hk⟩ := Vt (ty := o.type) h
             exact go (own := none) h2 (ok_none hq) (hy J _) hw (by rw [FJ]; exact hk)
 | .alt i r t, q, s, h => by
   have key : ∀ {t : Ord}, (Fo.V0 c ops i q s fun s => Fo c ops r (Fh q i) s K) → Jz g ops t q (s.e J) s.b s.σ (bY J K) → Jz g ops (.alt i r t) q (s.e J) s.b s.σ (bY J K) := fun {t} h1 h2 =>
     ⟨(V1 hc h1).mono fun e bx σ ⟨hk, s', e1, e2, e3, h3⟩ => ⟨hk, by subst e1 e2 e3; exact Dh hc h3⟩, h2⟩
   cases t with
   | no => exact key h trivial
   | done => exact key h.1 (Dh hc h.2)
   | yes j u => exact key h.1 (Dh hc h.2)
   | alt j u w => exact key h.1 (Dh hc h.2)
 | .no, q, s, h => trivial
def bc (P : Program) (ops : Array Oper) (m : Nat) : Nat → Array Bool → Ord
 | 0, _ => .no
 | f + 1, listed => match (List.range m).all fun i => listed.getD i false with
   | true => .done
   | false => match (Region.ready .any ops listed).find? fun j => Nat.blt j m && match ops[j]? with | some o => !jU P o.op | none => false with
     | some j => .yes j (bc P ops m f (listed.setIfInBounds j true))
     | none => (Region.ready .any ops listed).foldr (fun j acc => .alt j (bc P ops m f (listed.setIfInBounds j true)) acc) .no
def UG (c : Cx) (ops : Array Oper) (draw : Bool) (m : Nat) (q : Ir) (s : S) (K : S → Prop) : Prop := match draw with
 | false => od c ops (List.range ops.size) s K
 | true => match T7 ops m (bc c.P ops m (ops.size + 1) (Array.replicate ops.size false)) (List.range' m (ops.size - m)) with
   | true => Fo c ops (bc c.P ops m (ops.size + 1) (Array.replicate ops.size false)) q s fun s => od c ops (List.range' m (ops.size - m)) s K
   | false => False
theorem ZQ {k : List Item} {id m : Nat} {draw : Bool} {q : Ir} (hc : c.Ok g) (hm : g.P.follows .mixedOrders = true) (h : UG c ops draw m q s K) (hk : ∀ s, K s → At g k (s.e J) s.b s.σ) : At g (.code (.region id ops draw) :: k) (s.e J) s.b s.σ := by
 have fin : ∀ e bx σ, bY J K e bx σ → At g k e bx σ := fun e bx σ ⟨s', e1, e2, e3, h⟩ => by subst e1 e2 e3; exact hk s' h
 cases draw with
 | false =>
   refine At.region rfl rfl ?_
   have : Seq g ops (List.range ops.size) (s.e J) s.b s.σ (bY J K) := Lj hc h
   exact P3 fin this
 | true =>
   simp only [UG] at h
   split at h
   · rename_i hp
     refine At.AAx hm rfl hp (q := q) ?_
     have := Dh (J := J) hc h
     refine I3 (fun e bx σ ⟨s', e1, e2, e3, h⟩ => ?_) this
     subst e1 e2 e3
     exact P3 fin (Lj hc h)
   · cases h
end
end Tw
end
section
namespace Tw
open Go
variable [Iq]
def node (body : Code) : List Bool → Code
 | [] => body
 | false :: p => cl (node body p)
 | true :: p => cr (node body p)
inductive It where
 | c (p : List Bool)
 | DL (i : Nat)
 | lp (p : List Bool)
def It.den (body : Code) : It → Item
 | .c p => .code (node body p)
 | .DL i => .inBlock i
 | .lp p => .inLoop (node body p)
def I4 (body : Code) : List It → List Item
 | [] => []
 | x :: l => x.den body :: I4 body l
def P5 : List Bool → List Bool → Bool
 | [], [] => true
 | a :: p, b :: q => (bif a then b else !b) && P5 p q
 | _, _ => false
theorem Sf : ∀ {p q : List Bool}, P5 p q = true → p = q
 | [], [], _ => rfl
 | a :: p, b :: q, h => by
   simp only [P5, Bool.and_eq_true] at h
   rw [Sf h.2]
   cases a <;> cases b <;> simp at h <;> rfl
 | [], _ :: _, h => by cases h
 | _ :: _, [], h => by cases h
def It.eq : It → It → Bool
 | .c p, .c q => P5 p q
 | .DL i, .DL j => Nat.beq i j
 | .lp p, .lp q => P5 p q
 | _, _ => false
def bf : List It → List It → Bool
 | [], [] => true
 | x :: l, y :: m => x.eq y && bf l m
 | _, _ => false
theorem V2 : ∀ {l m : List It}, bf l m = true → l = m
 | [], [], _ => rfl
 | x :: l, y :: m, h => by
   simp only [bf, Bool.and_eq_true] at h
   rw [V2 h.2]
   have : x = y := by
     cases x <;> cases y <;> simp only [It.eq] at h <;> first
       | (rw [Sf h.1])
       | (rw [Nat.eq_of_beq_eq_true h.1])
       | (exact absurd h.1 (by simp))
   rw [this]
 | [], _ :: _, h => by cases h
 | _ :: _, [], h => by cases h
structure Cut where
 todo : List It
 f : S → Prop
def Cut.Ok (g : Gl) (body : Code) (k : Cut) : Prop := ∀ s J, k.f s → At g (I4 body k.todo) (s.e J) s.b s.σ
def og : List Cut → List It → Option (S → Prop)
 | [], _ => none
 | k :: l, t => match bf k.todo t with
   | true => some k.f
   | false => og l t
theorem bg {g : Gl} {body : Code} : ∀ {l : List Cut} {t : List It} {f : S → Prop}, (∀ k ∈ l, k.Ok g body) → og l t = some f → ∀ s J, f s → At g (I4 body t) (s.e J) s.b s.σ
 | k :: l, t, f, hl, h => by
   simp only [og] at h
   split at h
   · rename_i he
     cases h
     rw [← V2 he]
     exact hl k (List.mem_cons_self ..)
   · exact bg (fun k hk => hl k (List.mem_cons_of_mem _ hk)) h
def P6 (i : Nat) : List It → Option (List It)
 | [] => none
 | .DL j :: r => match Nat.beq i j with
   | true => some r
   | false => P6 i r
 | _ :: r => P6 i r
structure Fx extends Cx where
 body : Code
 res : List ResultVar
 reg : List (Nat × Nat × Bool)
def jY : List (Nat × Nat × Bool) → Nat → Nat → Nat × Ir
 | [], _, m => (m, some [])
 | (i, m, b) :: l, id, z => match Nat.beq i id with
   | true => (m, bif b then none else some [])
   | false => jY l id z
def ZR (c : Fx) (s : S) : List ResultVar → Option (List SV)
 | [] => some []
 | .tmp t :: r => match UA s.env t, ZR c s r with
   | some v, some l => some (v :: l)
   | _, _ => none
 | .cell p T :: r => match jI (UA s.env p), ZR c s r with
   | some (.bx i 0), some l => match Vs s.bx i, Y0 c.P T with
     | some (_, cs), some true => match YJ c.P T with
       | some n => match decide (cs.length = n) with
         | true => some (.v (.agg cs) :: l)
         | false => none
       | none => none
     | some (_, x :: _), some false => some (.at x :: l)
     | _, _ => none
   | _, _ => none
def Tq (c : Fx) (s : S) : Prop := match ZR c s c.res with
 | some l => c.R (.returned (Pg (Fk s.vl l))) s.σ
 | none => False
def FC (c : Fx) (cuts : List Cut) : Nat → Bool → List It → S → Prop
 | 0, _, _, _ => False
 | f + 1, first, todo, s => match (bif first then none else og cuts todo) with
   | some k => k s
   | none => match todo with
     | [] => Tq c s
     | .DL _ :: r => FC c cuts f false r s
     | .lp p :: r => FC c cuts f false (.c p :: .lp p :: r) s
     | .c p :: r => match node c.body p with
       | .skip => FC c cuts f false r s
       | .seq _ _ => FC c cuts f false (.c (false :: p) :: .c (true :: p) :: r) s
       | .block i _ => FC c cuts f false (.c (false :: p) :: .DL i :: r) s
       | .loop _ => FC c cuts f false (.c (false :: p) :: .lp (false :: p) :: r) s
       | .exit i => match P6 i r with
         | some r => FC c cuts f false r s
         | none => False
       | .cond x _ _ => s.oY (s.op x) fun t s => FC c cuts f false (.c ((!t) :: p) :: r) s
       | .ret => Tq c s
       | .region id ops draw => UG c.toCx ops draw (jY c.reg id ops.size).1 (jY c.reg id ops.size).2 s fun s => FC c cuts f false r s
       | _ => False
structure Fx.Ok (c : Fx) (g : Gl) (fn : Func) : Prop where
 cx : c.toCx.Ok g
 mixed : g.P.follows .mixedOrders = true
 fnc : g.P.funcs[g.f]? = some fn
 res : fn.results = c.res.toArray
 Gf : g.Gf = none
 ds : g.ds = []
section
variable {g : Gl} {c : Fx} {fn : Func} {cuts : List Cut} {J : Env}
theorem Gn (hP : c.P = g.P) {s : S} : ∀ {rs : List ResultVar} {l : List SV}, ZR c s rs = some l → HN g.P (s.e J) s.b s.σ rs (Fk s.vl l)
 | [], l, h => by simp only [ZR, Option.some.injEq] at h; subst h; rfl
 | .tmp t :: r, l, h => by
   simp only [ZR] at h
   split at h
   · rename_i v l' h1 h2
     cases h
     refine ⟨_, ?_, Gn hP h2⟩
     rw [show s.e J t = v.den s.vl from EZ h1]; rfl
   · cases h
 | .cell p T :: r, l, h => by
   simp only [ZR] at h
   split at h
   · rename_i i l' h1 h2
     obtain ⟨u, e1, e2⟩ := Eu h1
     have hp : s.e J p = .pointer (some ⟨nth 0 s.vl.δ i, 0, none⟩) := (EZ e1).trans (e2 _)
     split at h
     · rename_i t cs hb ha
       split at h
       · rename_i n hn
         split at h
         · rename_i hd
           have hd := of_decide_eq_true hd
           cases h
           rw [hP] at ha hn
           exact ⟨_, _, rfl, ⟨_, hp, ix (Fj ha) (DZ hn) (by simp [Dg]; exact hd) (J0 hb)⟩, Gn hP h2⟩
         · cases h
       · cases h
     · rename_i t x cs hb ha
       cases h
       rw [hP] at ha
       exact ⟨_, _, rfl, ⟨_, hp, oN (Fj ha) (J0 hb) rfl⟩, Gn hP h2⟩
     · cases h
   · cases h
theorem KW {body : Code} {i : Nat} : ∀ {r r' : List It}, P6 i r = some r' → exitTo i (I4 body r) = some (I4 body r')
 | .DL j :: r, r', h => by
   simp only [P6] at h
   split at h
   · rename_i he
     cases h
     have := Nat.eq_of_beq_eq_true he
     subst this
     simp [I4, It.den, exitTo]
   · rename_i he
     have Ae : i ≠ j := fun e => by subst e; rw [Nat.beq_refl] at he; cases he
     simp only [I4, It.den, exitTo]
     rw [if_neg (by simpa using Ne.symm Ae)]
     exact KW h
 | .c p :: r, r', h => by simp only [P6] at h; simp only [I4, It.den, exitTo]; exact KW h
 | .lp p :: r, r', h => by simp only [P6] at h; simp only [I4, It.den, exitTo]; exact KW h
theorem Bl (hc : c.Ok g fn) (hk : ∀ k ∈ cuts, k.Ok g c.body) : ∀ {f : Nat} {first : Bool} {todo : List It} {s : S}, FC c cuts f first todo s → At g (I4 c.body todo) (s.e J) s.b s.σ
 | 0, _, _, _, h => h.elim
 | f + 1, first, todo, s, h => by
   have hl : ∀ σ, left g.ds σ = σ := fun σ => by rw [hc.ds]; rfl
   have vy : Marks g.ds s.σ := by rw [hc.ds]; trivial
   simp only [FC] at h
   split at h
   · rename_i k AA8
     cases first with
     | true => cases AA8
     | false => exact bg hk AA8 s J h
   · split at h
     · unfold Tq at h
       split at h
       · rename_i l Si
         rw [hc.cx.R] at h
         exact At.sI hc.fnc hc.res (by rw [hl]; exact Gn hc.cx.P Si) (by rw [hl]; exact h) hc.Gf vy
       · cases h
     · exact At.inBlock (Bl hc hk h)
     · exact At.inLoop (Bl hc hk h)
     · rename_i p r _
       have e : I4 c.body (.c p :: r) = .code (node c.body p) :: I4 c.body r := rfl
       rw [e]
       split at h
       · rename_i hn; rw [hn]; exact At.skip (Bl hc hk h)
       · rename_i a b hn
         refine At.seq hn ?_
         have := Bl hc hk h
         simp only [I4, It.den, node, hn, cl, cr] at this
         exact this
       · rename_i i a hn
         refine At.block hn ?_
         have := Bl hc hk h
         simp only [I4, It.den, node, hn, cl] at this
         exact this
       · rename_i a hn
         refine At.loop hn ?_
         have := Bl hc hk h
         simp only [I4, It.den, node, hn, cl] at this
         exact this
       · rename_i i hn
         split at h
         · rename_i r' hr
           exact At.exit hn (KW hr) (Bl hc hk h)
         · cases h
       · rename_i x a b hn
         obtain ⟨t, s', v, h1, h2, h3, h4, h⟩ := S.FN h
         have hx : AE (s.e J) x = .bool t := by rw [ev h3, h4]
         have := Bl hc hk h
         rw [h1.e J, h1.b, h1.σ] at this
         cases t with
         | true =>
           refine At.sE hn hx ?_
           simp only [I4, It.den, node, hn, cl, Bool.not_true] at this
           exact this
         | false =>
           refine At.sF hn hx ?_
           simp only [I4, It.den, node, hn, cr, Bool.not_false] at this
           exact this
       · rename_i hn
         unfold Tq at h
         split at h
         · rename_i l Si
           rw [hc.cx.R] at h
           exact At.Tq hn hc.fnc hc.res (by rw [hl]; exact Gn hc.cx.P Si) (by rw [hl]; exact h) hc.Gf vy
         · cases h
       · rename_i id ops draw hn
         rw [hn]
         exact ZQ hc.cx hc.mixed h fun s' h' => Bl hc hk h'
       · cases h
end
def S.eM (s : S) : List Nat → Option (List Value)
 | [] => some []
 | t :: l => match UA s.env t, s.eM l with
   | some v, some r => some (v.den s.vl :: r)
   | _, _ => none
theorem Sj {s : S} {J : Env} : ∀ {l : List Nat} {vs : List Value}, s.eM l = some vs → Live (s.e J) (l.zip vs)
 | [], vs, h => by simp only [S.eM, Option.some.injEq] at h; subst h; trivial
 | t :: l, vs, h => by
   simp only [S.eM] at h
   split at h
   · rename_i v r h1 h2
     cases h
     exact ⟨EZ h1, Sj h2⟩
   · cases h
def bh (i : Nat) : List FL → Option (FL × List FL)
 | [] => none
 | x :: l => match Nat.beq x.1 i with
   | true => some (x, l)
   | false => bh i l
def sQ : Option SV → Option Nat
 | some (.v (.a (.pt (.bx i 0)))) => some i
 | _ => none
def S.UH (s : S) : List Nat → List FL → Option (List FL)
 | [], _ => some []
 | t :: l, bx => match sQ (UA s.env t) with
   | some i => match bh i bx with
     | some (x, r) => match s.UH l r with
       | some m => some (x :: m)
       | none => none
     | none => none
   | none => none
def P7 (vl : Vl) : List Nat → List FL → List (Nat × Value)
 | t :: l, x :: r => (t, .pointer (some ⟨nth 0 vl.δ x.1, 0, none⟩)) :: P7 vl l r
 | _, _ => []
theorem Sk {vl : Vl} {i : Nat} : ∀ {l r : List FL} {x : FL}, bh i l = some (x, r) → x.1 = i ∧ ∀ m : List FL, (Es vl m).Sublist (Es vl r) → (Es vl (x :: m)).Sublist (Es vl l)
 | y :: l, r, x, h => by
   simp only [bh] at h
   split at h
   · rename_i he
     cases h
     exact ⟨Nat.eq_of_beq_eq_true he, fun m hm => List.Sublist.cons_cons _ hm⟩
   · obtain ⟨h1, h2⟩ := Sk (vl := vl) h
     exact ⟨h1, fun m hm => List.Sublist.cons _ (h2 m hm)⟩
theorem V3 {s : S} {J : Env} : ∀ {l : List Nat} {bx B : List FL}, s.UH l bx = some B → (Es s.vl B).Sublist (Es s.vl bx) ∧ Live (s.e J) (P7 s.vl l B)
 | [], bx, B, h => by simp only [S.UH, Option.some.injEq] at h; subst h; exact ⟨List.nil_sublist _, trivial⟩
 | t :: l, bx, B, h => by
   simp only [S.UH] at h
   split at h
   · rename_i i hi
     split at h
     · rename_i x r hx
       split at h
       · rename_i m hm
         cases h
         obtain ⟨h1, h2⟩ := Sk (vl := s.vl) hx
         obtain ⟨h3, h4⟩ := V3 (s := s) (J := J) hm
         refine ⟨h2 m h3, ?_, h4⟩
         unfold sQ at hi
         split at hi
         · rename_i hg
           cases hi
           rw [h1]
           exact EZ hg
         · cases hi
       · cases h
     · cases h
   · cases h
theorem Live.app {e : Env} : ∀ {l m : List (Nat × Value)}, Live e l → Live e m → Live e (l ++ m)
 | [], _, _, h => h
 | (_, _) :: _, _, h, g => ⟨h.1, Live.app h.2 g⟩
theorem At.AA9 {g : Gl} {k : List Item} {s : S} {J : Env} {l bl : List Nat} {vs : List Value} {B : List FL} (h : s.eM l = some vs) (hb : s.UH bl s.bx = some B) (hk : ∀ J, At g k (Gg J (P7 s.vl bl B ++ l.zip vs)) (Es s.vl B) s.σ) : At g k (s.e J) s.b s.σ := by
 obtain ⟨h1, h2⟩ := V3 (J := J) hb
 exact At.sub h1 (At.live (h2.app (Sj h)) (hk _))
def P8 : Nat → List Value → List (Nat × Value)
 | _, [] => []
 | k, v :: l => (k, v) :: P8 (k + 1) l
theorem P9 {e : Env} : ∀ {l : List Value} {k : Nat}, (∀ j v, l[j]? = some v → e (k + j) = v) → Live e (P8 k l)
 | [], _, _ => trivial
 | v :: l, k, h => ⟨h 0 v rfl, P9 fun j u hj => by rw [show k + 1 + j = k + (j + 1) by omega]; exact h (j + 1) u (by simpa using hj)⟩
theorem Spec.walk {P : Program} {f : FuncId} {fn : Func} {R : Rr} {args : Array Value} {n fuel : Nat} (c : Fx) (cuts : List Cut) (s : S) (hc : c.Ok (Gl.fn P f n R) fn) (hb : fn.body = some c.body) (hnt : fn.ntmps = n) (hn : Nat.ble args.size n = true)
   (hk : ∀ k ∈ cuts, k.Ok (Gl.fn P f n R) c.body) (he : HE s.vl s.env = P8 0 args.toList) (hbx : s.bx = []) (h : FC c cuts fuel true [.c []] s) : Spec P f args s.σ R := by
 subst hnt
 refine Spec.Js hc.fnc hb (Nat.le_of_ble_eq_true hn) fun e hee => ?_
 have hl : Live e (HE s.vl s.env) := by
   rw [he]
   refine P9 fun j v hj => ?_
   rw [Nat.zero_add, hee]
   simp only [Array.getD_eq_getD_getElem?]
   rw [← Array.getElem?_toList, hj]; rfl
 have := Bl (J := e) hc hk h
 have HD : s.b = [] := by rw [S.b, hbx]; rfl
 rw [HD] at this
 exact At.live hl this
end Tw
end
section
namespace Tw
open Go
variable [Iq]
inductive Dv where
 | I (k : IntKind) (x : Int)
 | B (t : Bool)
 | T (x : ByteArray)
 | L (p : Option Addr) (n c : Nat)
 | Q (p : Option Addr)
 | A (b : Nat)
 | M (x : Option Nat)
 | V (x : Value)
def Dv.den : Dv → Value
 | .I k x => .int k x
 | .B t => .bool t
 | .T x => .string x
 | .L p n c => .slice p n c
 | .Q p => .pointer p
 | .A b => .pointer (some ⟨b, 0, none⟩)
 | .M x => .map x
 | .V x => x
def V4 : List Dv → List Value
 | [] => []
 | x :: l => x.den :: V4 l
inductive Dw where
 | o (x : Dv)
 | G (l : List Dv)
 | U (l : List Dv)
 | X (T : TypeId) (l : List Dv)
def Dw.den : Dw → Value
 | .o x => x.den
 | .G l => .agg (V4 l).toArray
 | .U l => .tuple (V4 l).toArray
 | .X _ _ => undef
structure Nm where
 ρ : List (Option Addr)
 β : List BK
structure Nm.le (n : Nm) (v : Vl) : Prop where
 ρ : ∀ i, i < n.ρ.length → nth none v.ρ i = nth none n.ρ i
 β : ∀ i, i < n.β.length → nth (.var false) v.β i = nth (.var false) n.β i
def Dv.sym : Dv → Nm → CW × Nm
 | .I k x, n => (.int k x, n)
 | .B t, n => (.bs (P1 n.β) false, ⟨n.ρ, n.β ++ [.var t]⟩)
 | .T x, n => (.str x, n)
 | .L p k c, n => (.sl (.var (P1 n.ρ)) k c, ⟨n.ρ ++ [p], n.β⟩)
 | .Q p, n => (.pt (.var (P1 n.ρ)), ⟨n.ρ ++ [p], n.β⟩)
 | .A b, n => (.pt (.at b 0), n)
 | .M x, n => (.mp x, n)
 | .V x, n => (.raw x, n)
theorem Nm.ABA {n : Nm} {v : Vl} {p : Option Addr} (h : Nm.le ⟨n.ρ ++ [p], n.β⟩ v) : n.le v ∧ nth none v.ρ (P1 n.ρ) = p := by
 refine ⟨⟨fun i hi => (h.ρ i (by simp only [List.length_append]; omega)).trans (KT hi), h.β⟩, ?_⟩
 rw [PJ, h.ρ _ (by simp)]; exact KU
theorem Nm.AII {n : Nm} {v : Vl} {p : BK} (h : Nm.le ⟨n.ρ, n.β ++ [p]⟩ v) : n.le v ∧ nth (.var false) v.β (P1 n.β) = p := by
 refine ⟨⟨h.ρ, fun i hi => (h.β i (by simp only [List.length_append]; omega)).trans (KT hi)⟩, ?_⟩
 rw [PJ, h.β _ (by simp)]; exact KU
theorem Dv.NS {x : Dv} {n : Nm} {v : Vl} (h : (x.sym n).2.le v) : (x.sym n).1.den v = x.den ∧ n.le v := by
 cases x with
 | B t => obtain ⟨h1, h2⟩ := Nm.AII h; exact ⟨by simp only [Dv.sym, CW.den, h2]; rfl, h1⟩
 | L p k c => obtain ⟨h1, h2⟩ := Nm.ABA h; exact ⟨by simp only [Dv.sym, CW.den, PV.den, h2]; rfl, h1⟩
 | Q p => obtain ⟨h1, h2⟩ := Nm.ABA h; exact ⟨by simp only [Dv.sym, CW.den, PV.den, h2]; rfl, h1⟩
 | _ => exact ⟨rfl, h⟩
def V5 : List Dv → Nm → List CW × Nm
 | [], n => ([], n)
 | x :: l, n => match x.sym n with
   | (a, n) => match V5 l n with
     | (r, n) => (a :: r, n)
theorem PK {v : Vl} : ∀ {l : List Dv} {n : Nm}, (V5 l n).2.le v → BY v (V5 l n).1 = V4 l ∧ n.le v
 | [], n, h => ⟨rfl, h⟩
 | x :: l, n, h => by
   obtain ⟨h1, h2⟩ := PK (l := l) (n := (x.sym n).2) h
   obtain ⟨h3, h4⟩ := Dv.NS h2
   exact ⟨by simp only [V5, BY, V4, h3]; rw [← h1], h4⟩
def atoms : List CW → List Gd
 | [] => []
 | x :: l => .a x :: atoms l
theorem Sl {v : Vl} : ∀ l, HS v (atoms l) = BY v l
 | [] => rfl
 | x :: l => by simp only [atoms, HS, BY]; rw [Sl l]; rfl
def Dw.sym : Dw → Nm → SV × Nm
 | .o x, n => match x.sym n with | (a, n) => (.v (.a a), n)
 | .G l, n => match V5 l n with | (a, n) => (.v (.agg a), n)
 | .U l, n => match V5 l n with | (a, n) => (.SN (atoms a), n)
 | .X _ _, n => (.v (.a .un), n)
theorem Dw.NS {x : Dw} {n : Nm} {v : Vl} (h : (x.sym n).2.le v) : (x.sym n).1.den v = x.den ∧ n.le v := by
 cases x with
 | o x => exact Dv.NS (x := x) h
 | G l => obtain ⟨h1, h2⟩ := PK (l := l) h; exact ⟨by simp only [Dw.sym, SV.den, Gd.den, Dw.den]; rw [← h1], h2⟩
 | U l => obtain ⟨h1, h2⟩ := PK (l := l) h; exact ⟨by simp only [Dw.sym, SV.den, Dw.den]; rw [Sl, ← h1], h2⟩
 | X T l => exact ⟨rfl, h⟩
abbrev Bv := Nat × TypeId × List Dv
def Ot : List (Nat × Dw) → List (Nat × Value)
 | [] => []
 | (_, .X _ _) :: l => Ot l
 | (t, x) :: l => (t, x.den) :: Ot l
def NT : List (Nat × Dw) → Nm → List (Nat × SV) × Nm
 | [], n => ([], n)
 | (_, .X _ _) :: l, n => NT l n
 | (t, x) :: l, n => match x.sym n with
   | (a, n) => match NT l n with
     | (r, n) => ((t, a) :: r, n)
theorem KX {v : Vl} : ∀ {l : List (Nat × Dw)} {n : Nm}, (NT l n).2.le v → HE v (NT l n).1 = Ot l ∧ n.le v
 | [], n, h => ⟨rfl, h⟩
 | (t, .o x) :: l, n, h => by
   obtain ⟨h1, h2⟩ := KX (l := l) (n := ((Dw.o x).sym n).2) h
   obtain ⟨h3, h4⟩ := Dw.NS h2
   exact ⟨by simp only [NT, HE, Ot, h3]; rw [← h1], h4⟩
 | (t, .G x) :: l, n, h => by
   obtain ⟨h1, h2⟩ := KX (l := l) (n := ((Dw.G x).sym n).2) h
   obtain ⟨h3, h4⟩ := Dw.NS h2
   exact ⟨by simp only [NT, HE, Ot, h3]; rw [← h1], h4⟩
 | (t, .U x) :: l, n, h => by
   obtain ⟨h1, h2⟩ := KX (l := l) (n := ((Dw.U x).sym n).2) h
   obtain ⟨h3, h4⟩ := Dw.NS h2
   exact ⟨by simp only [NT, HE, Ot, h3]; rw [← h1], h4⟩
 | (_, .X T x) :: l, n, h => KX (l := l) (n := n) h
def J2 : List (Nat × Dw) → List Bv → List Bv
 | [], r => r
 | (t, .X T l) :: m, r => J2 m ((t, T, l) :: r)
 | _ :: m, r => J2 m r
def V6 : List Bv → Nat → Nm → List FL × Nm
 | [], _, n => ([], n)
 | (_, T, l) :: m, j, n => match V5 l n with
   | (a, n) => match V6 m (j + 1) n with
     | (r, n) => ((j, T, a) :: r, n)
def oh : List Bv → Nat → List (Nat × SV)
 | [], _ => []
 | (t, _, _) :: m, j => (t, .v (.a (.pt (.bx j 0)))) :: oh m (j + 1)
abbrev Bw := Nat × TypeId × List Value
def Rn : List Bv → List Bw
 | [] => []
 | (t, T, l) :: m => (t, T, V4 l) :: Rn m
def ZS : List Bw → List Nat → List (Nat × Value)
 | (t, _, _) :: m, b :: δ => (t, .pointer (some ⟨b, 0, none⟩)) :: ZS m δ
 | _, _ => []
def vz : List Bw → List Nat → Bx
 | (_, T, l) :: m, b :: δ => (b, .cells l.toArray T (0, 0)) :: vz m δ
 | _, _ => []
def PB : List Bw → (List Nat → Prop) → Prop
 | [], K => K []
 | _ :: m, K => ∀ b : Nat, PB m fun δ => K (b :: δ)
theorem jZ : ∀ {l : List Bw} {K : List Nat → Prop}, PB l K → ∀ δ, δ.length = l.length → K δ
 | [], K, h, [], _ => h
 | _ :: m, K, h, b :: δ, hl => jZ (h b) δ (by simpa using hl)
theorem ja : ∀ {l : List Bw} {K : List Nat → Prop}, (∀ δ, δ.length = l.length → K δ) → PB l K
 | [], K, h => h [] rfl
 | _ :: m, K, h => fun b => ja fun δ hl => h (b :: δ) (by simp [hl])
def PTv (g : Gl) (td : List Item) (bs : List Bw) (ts : List (Nat × Value)) (σ : Hp) : Prop :=
 ∀ J : Env, PB bs fun δ => At g td (Gg J (ZS bs δ ++ ts)) (vz bs δ) σ
theorem bj {δ0 : List Nat} {v : Vl} : ∀ {m : List Bv} {j : Nat} {n : Nm} {δ : List Nat}, δ.length = m.length → (∀ i, i < δ.length → nth 0 v.δ (j + i) = nth 0 δ i) → (V6 m j n).2.le v →
   Es v (V6 m j n).1 = vz (Rn m) δ ∧ HE v (oh m j) = ZS (Rn m) δ ∧ n.le v
 | [], j, n, [], _, _, h => ⟨rfl, rfl, h⟩
 | (t, T, l) :: m, j, n, b :: δ, hl, hd, h => by
   obtain ⟨h1, h2, h3⟩ := bj (δ0 := δ0) (m := m) (j := j + 1) (n := (V5 l n).2) (δ := δ) (by simpa using hl) (fun i hi => by
     have := hd (i + 1) (by simpa using hi)
     rw [show j + 1 + i = j + (i + 1) by omega]; exact this) h
   obtain ⟨h4, h5⟩ := PK h3
   have hb : nth 0 v.δ j = b := hd 0 (by simp)
   refine ⟨?_, ?_, h5⟩
   · simp only [V6, Es, Rn, vz, hb, h4]; rw [← h1]
   · simp only [oh, HE, Rn, ZS, SV.den, Gd.den, CW.den, PV.den, hb]; rw [h2]
def iF (D : List (Nat × Dw)) (δ : List Nat) (σ : Hp) : S := match NT D ⟨[], []⟩ with
 | (e, n) => match J2 D [] with
   | bs => match V6 bs 0 n with
     | (x, n) => ⟨oh bs 0 ++ e, x, ⟨n.ρ, n.β, δ⟩, σ⟩
theorem V7 {v : Vl} : ∀ {l m : List (Nat × SV)}, HE v (l ++ m) = HE v l ++ HE v m
 | [], _ => rfl
 | (t, x) :: l, m => by simp only [List.cons_append, HE]; rw [V7]
theorem v8 {D : List (Nat × Dw)} {δ : List Nat} {σ : Hp} {J : Env} (hl : δ.length = (J2 D []).length) :
   (iF D δ σ).e J = Gg J (ZS (Rn (J2 D [])) δ ++ Ot D) ∧ (iF D δ σ).b = vz (Rn (J2 D [])) δ := by
 have hle : (V6 (J2 D []) 0 (NT D ⟨[], []⟩).2).2.le ⟨(V6 (J2 D []) 0 (NT D ⟨[], []⟩).2).2.ρ, (V6 (J2 D []) 0 (NT D ⟨[], []⟩).2).2.β, δ⟩ := ⟨fun _ _ => rfl, fun _ _ => rfl⟩
 obtain ⟨h1, h2, h3⟩ := bj (δ0 := []) (δ := δ) hl (fun i _ => by rw [Nat.zero_add]) hle
 obtain ⟨h4, _⟩ := KX h3
 exact ⟨by simp only [iF, S.e, V7]; rw [h2, h4], h1⟩
def ABB : Nat → Nat → List Bool
 | 0, _ => []
 | f + 1, n => match Nat.ble n 1 with
   | true => []
   | false => Nat.beq (n % 2) 1 :: ABB f (n / 2)
def pth (n : Nat) : List Bool := ABB 400 n
def NU (body : Code) : List Bool → List It
 | [] => []
 | t :: p => match node body p with
   | .seq _ _ => bif t then NU body p else .c (true :: p) :: NU body p
   | .block i _ => .DL i :: NU body p
   | .loop _ => .lp (false :: p) :: NU body p
   | _ => NU body p
def sR (body : Code) (n : Nat) : List It := .c (pth n) :: NU body (pth n)
inductive Sh where
 | I (k : IntKind) | B | T | L | Q | A | M | V
inductive Sw where
 | o (x : Sh)
 | G (l : List Sh)
 | U (l : List Sh)
 | X (T : TypeId) (l : List Sh)
abbrev ArS : Sh → Type → Type
 | .I _, C => Int → C
 | .B, C => Bool → C
 | .T, C => ByteArray → C
 | .L, C => Option Addr → Nat → Nat → C
 | .Q, C => Option Addr → C
 | .A, C => Nat → C
 | .M, C => Option Nat → C
 | .V, C => Value → C
def ABC {C : Type} : (x : Sh) → (Dv → C) → ArS x C
 | .I k, K => fun x => K (.I k x)
 | .B, K => fun x => K (.B x)
 | .T, K => fun x => K (.T x)
 | .L, K => fun p n c => K (.L p n c)
 | .Q, K => fun x => K (.Q x)
 | .A, K => fun x => K (.A x)
 | .M, K => fun x => K (.M x)
 | .V, K => fun x => K (.V x)
abbrev ArL : List Sh → Type → Type
 | [], A => A
 | x :: l, A => ArS x (ArL l A)
def om {A : Type} : (l : List Sh) → (List Dv → A) → ArL l A
 | [], K => K []
 | x :: l, K => ABC x fun d => om l fun r => K (d :: r)
abbrev ArW : Sw → Type → Type
 | .o x, C => ArS x C
 | .G l, C => ArL l C
 | .U l, C => ArL l C
 | .X _ l, C => ArL l C
def AIK {A : Type} : (x : Sw) → (Dw → A) → ArW x A
 | .o x, K => ABC x fun d => K (.o d)
 | .G l, K => om l fun d => K (.G d)
 | .U l, K => om l fun d => K (.U d)
 | .X T l, K => om l fun d => K (.X T d)
abbrev Ar : List (Nat × Sw) → Type → Type
 | [], A => A
 | (_, x) :: l, A => ArW x (Ar l A)
def cur {A : Type} : (l : List (Nat × Sw)) → (List (Nat × Dw) → A) → Ar l A
 | [], K => K []
 | (t, x) :: l, K => AIK x fun d => cur l fun r => K ((t, d) :: r)
structure Fw where
 P : Program
 f : Nat
 fn : Func
 Cd : List Nat
 hid : List Nat
 wr : Bool
 reg : List (Nat × Nat × Bool)
 rng : List (Nat × TypeId)
 cuts : List (Nat × List (Nat × Sw))
def Fw.K (M : Fw) : Code := M.fn.body.getD .skip
def Fw.gl (M : Fw) (R : Rr) : Gl := Gl.fn M.P M.f M.fn.ntmps R
def Fw.cx (M : Fw) (R : Rr) : Fx := { P := M.P, R := R, Cd := M.Cd, hid := M.hid, wr := M.wr, n := M.fn.ntmps, body := M.K, res := M.fn.results.toList, reg := M.reg, rng := M.rng }
def V8 (vl : Vl) : List Nat → List FL → List Bw
 | t :: l, x :: r => (t, x.2.1, BY vl x.2.2) :: V8 vl l r
 | _, _ => []
def tmps : List (Nat × Sw) → List Nat
 | [] => []
 | (_, .X _ _) :: l => tmps l
 | (t, _) :: l => t :: tmps l
def jb : List (Nat × Sw) → List Nat → List Nat
 | [], r => r
 | (t, .X _ _) :: l, r => jb l (t :: r)
 | _ :: l, r => jb l r
def Fw.cut (M : Fw) (R : Rr) (c : Nat × List (Nat × Sw)) : Cut := ⟨sR M.K c.1, fun s => match s.eM (tmps c.2), s.UH (jb c.2 []) s.bx with
 | some vs, some B => PTv (M.gl R) (I4 M.K (sR M.K c.1)) (V8 s.vl (jb c.2 []) B) ((tmps c.2).zip vs) s.σ
 | _, _ => False⟩
def UI (M : Fw) (R : Rr) : List (Nat × List (Nat × Sw)) → List Cut
 | [] => []
 | c :: l => M.cut R c :: UI M R l
def Fw.zm (M : Fw) (at_ : Nat) (R : Rr) (D : List (Nat × Dw)) (σ : Hp) : Prop := PTv (M.gl R) (I4 M.K (sR M.K at_)) (Rn (J2 D [])) (Ot D) σ
noncomputable def Fw.pt (M : Fw) (i : Nat) (R : Rr) : Ar (nth (0, []) M.cuts i).2 (Hp → Prop) := cur (nth (0, []) M.cuts i).2 (M.zm (nth (0, []) M.cuts i).1 R)
structure Fw.Ok (M : Fw) : Prop where
 E : AK M.P M.Cd
 mixed : M.P.follows .mixedOrders = true
 fnc : M.P.funcs[M.f]? = some M.fn
 body : M.fn.body.isSome = true
theorem Fw.sS {M : Fw} {R : Rr} (h : M.Ok) : (M.cx R).Ok (M.gl R) M.fn := ⟨⟨rfl, rfl, h.E, rfl, rfl, rfl⟩, h.mixed, h.fnc, rfl, rfl, rfl⟩
theorem V9 {vl : Vl} : ∀ {l : List Nat} {B : List FL}, ∃ δ : List Nat, δ.length = (V8 vl l B).length ∧ ZS (V8 vl l B) δ = P7 vl l B ∧ (l.length = B.length → vz (V8 vl l B) δ = Es vl B)
 | [], [] => ⟨[], rfl, rfl, fun _ => rfl⟩
 | [], _ :: _ => ⟨[], rfl, rfl, fun h => by simp at h⟩
 | _ :: _, [] => ⟨[], rfl, rfl, fun h => by simp at h⟩
 | t :: l, (i, T, cs) :: B => by
   obtain ⟨δ, h1, h2, h3⟩ := V9 (vl := vl) (l := l) (B := B)
   exact ⟨nth 0 vl.δ i :: δ, by simp [V8, h1], by simp only [V8, ZS, P7]; rw [h2], fun h => by simp only [V8, vz, Es]; rw [h3 (by simpa using h)]⟩
theorem WA {s : S} : ∀ {l : List Nat} {bx B : List FL}, s.UH l bx = some B → l.length = B.length
 | [], bx, B, h => by simp only [S.UH, Option.some.injEq] at h; subst h; rfl
 | t :: l, bx, B, h => by
   simp only [S.UH] at h
   split at h
   · split at h
     · split at h
       · rename_i m hm
         cases h
         simp [WA hm]
       · cases h
     · cases h
   · cases h
theorem Fw.wC (M : Fw) (R : Rr) (c : Nat × List (Nat × Sw)) : (M.cut R c).Ok (M.gl R) M.K := fun s J h => by
 simp only [Fw.cut] at h
 split at h
 · rename_i vs B h1 h2
   obtain ⟨δ, e1, e2, e3⟩ := V9 (vl := s.vl) (l := jb c.2 []) (B := B)
   refine At.AA9 h1 h2 fun J => ?_
   have := jZ (h J) δ e1
   rw [e2, e3 (WA h2)] at this
   exact this
 · cases h
theorem UJ {M : Fw} {R : Rr} : ∀ {l : List (Nat × List (Nat × Sw))}, ∀ k ∈ UI M R l, k.Ok (M.gl R) M.K
 | c :: l, k, hk => by
   rcases List.mem_cons.1 hk with rfl | hk
   · exact M.wC R c
   · exact UJ k hk
theorem WB : ∀ {l : List Bv}, (Rn l).length = l.length
 | [] => rfl
 | _ :: m => by simp only [Rn, List.length_cons]; rw [WB]
def PX (F : Prop) : List Bv → (List Nat → Prop) → Prop
 | [], K => F = K []
 | _ :: m, K => ∀ b : Nat, PX F m fun δ => K (b :: δ)
theorem jc {F : Prop} (h : F) : ∀ {l : List Bv} {K : List Nat → Prop}, PX F l K → ∀ δ, δ.length = l.length → K δ
 | [], K, e, [], _ => e ▸ h
 | _ :: m, K, e, b :: δ, hl => jc h (e b) δ (by simpa using hl)
theorem Fw.ofB {M : Fw} {R : Rr} {at_ : Nat} {D : List (Nat × Dw)} {σ : Hp} {F : Prop} (h : F) (ok : M.Ok) (e : PX F (J2 D []) fun δ => FC (M.cx R) (UI M R M.cuts) 4000 true (sR M.K at_) (iF D δ σ)) : M.zm at_ R D σ := fun J => by
 refine ja fun δ hl => ?_
 rw [WB] at hl
 have := Bl (J := J) (Fw.sS ok) UJ (jc h e δ hl)
 obtain ⟨e1, e2⟩ := v8 (D := D) (σ := σ) (J := J) hl
 rw [e1, e2] at this
 exact this
theorem Fw.of {M : Fw} {R : Rr} {at_ : Nat} {D : List (Nat × Dw)} {σ : Hp} {F : Prop} (h : F) (ok : M.Ok) (hb : J2 D [] = []) (e : F = FC (M.cx R) (UI M R M.cuts) 4000 true (sR M.K at_) (iF D [] σ) := by kernel_rfl) : M.zm at_ R D σ :=
 M.ofB h ok (by rw [hb]; exact e)
theorem Fw.bm {M : Fw} {R : Rr} {at_ : Nat} {D : List (Nat × Dw)} {σ : Hp} {F : Prop} {x1 : Bv} (h : F) (ok : M.Ok) (hb : J2 D [] = [x1]) (e : ∀ b1 : Nat, F = FC (M.cx R) (UI M R M.cuts) 4000 true (sR M.K at_) (iF D [b1] σ)) : M.zm at_ R D σ :=
 M.ofB h ok (by rw [hb]; exact e)
theorem Fw.zn {M : Fw} {R : Rr} {at_ : Nat} {D : List (Nat × Dw)} {σ : Hp} {F : Prop} {x1 x2 : Bv} (h : F) (ok : M.Ok) (hb : J2 D [] = [x1, x2]) (e : ∀ b1 b2 : Nat, F = FC (M.cx R) (UI M R M.cuts) 4000 true (sR M.K at_) (iF D [b1, b2] σ)) : M.zm at_ R D σ :=
 M.ofB h ok (by rw [hb]; exact e)
theorem Fw.of3 {M : Fw} {R : Rr} {at_ : Nat} {D : List (Nat × Dw)} {σ : Hp} {F : Prop} {x1 x2 x3 : Bv} (h : F) (ok : M.Ok) (hb : J2 D [] = [x1, x2, x3]) (e : ∀ b1 b2 b3 : Nat, F = FC (M.cx R) (UI M R M.cuts) 4000 true (sR M.K at_) (iF D [b1, b2, b3] σ)) : M.zm at_ R D σ :=
 M.ofB h ok (by rw [hb]; exact e)
def wD : Value → Dv
 | .int k x => .I k x
 | .bool t => .B t
 | .string x => .T x
 | .slice p n c => .L p n c
 | .pointer p => .Q p
 | .map x => .M x
 | x => .V x
theorem WC (x : Value) : (wD x).den = x := by cases x <;> rfl
def bo : List Value → List Dv
 | [] => []
 | x :: l => wD x :: bo l
theorem Sn : ∀ l : List Value, V4 (bo l) = l
 | [] => rfl
 | x :: l => by simp only [bo, V4]; rw [WC, Sn]
def eN : Value → Dw
 | .agg cs => .G (bo cs.toList)
 | x => .o (wD x)
theorem jd (x : Value) : (eN x).den = x := by
 cases x
 case agg cs => simp only [eN, Dw.den, Sn]
 all_goals (simp only [eN, Dw.den]; exact WC _)
def je : Value → Dw
 | .pointer (some ⟨b, 0, none⟩) => .o (.A b)
 | x => .o (.V x)
theorem jf (x : Value) : (je x).den = x := by
 unfold je; split <;> rfl
def eO (np : Nat) : Nat → List Value → List (Nat × Dw)
 | _, [] => []
 | k, x :: l => match Nat.blt k np with
   | true => (k, eN x) :: eO np (k + 1) l
   | false => (k, je x) :: eO np (k + 1) l
theorem jg (x : Value) : (∃ y, eN x = .o y) ∨ ∃ y, eN x = .G y := by cases x <;> first | exact .inr ⟨_, rfl⟩ | exact .inl ⟨_, rfl⟩
theorem jh (x : Value) : ∃ y, je x = .o y := by unfold je; split <;> exact ⟨_, rfl⟩
theorem UK {np : Nat} : ∀ {l : List Value} {k : Nat}, Ot (eO np k l) = P8 k l ∧ J2 (eO np k l) [] = []
 | [], _ => ⟨rfl, rfl⟩
 | x :: l, k => by
   obtain ⟨h1, h2⟩ := UK (np := np) (l := l) (k := k + 1)
   simp only [eO]
   split
   · have hd := jd x
     rcases jg x with ⟨y, hy⟩ | ⟨y, hy⟩ <;> rw [hy] at hd ⊢ <;> exact ⟨by simp only [Ot, P8]; rw [hd, h1], h2⟩
   · have hd := jf x
     obtain ⟨y, hy⟩ := jh x
     rw [hy] at hd ⊢
     exact ⟨by simp only [Ot, P8]; rw [hd, h1], h2⟩
def Fw.run (M : Fw) (R : Rr) (k : Nat) (D : List (Nat × Dw)) (σ : Hp) : Prop := match Nat.ble k M.fn.ntmps with
 | true => FC (M.cx R) (UI M R M.cuts) 4000 true [.c []] (iF D [] σ)
 | false => False
theorem Fw.Lk {M : Fw} {R : Rr} {args : Array Value} {σ : Hp} {F : Prop} (h : F) (ok : M.Ok) (D : List (Nat × Dw)) (hx : J2 D [] = []) (hD : Ot D = P8 0 args.toList) (e : F = M.run R args.size D σ) : Spec M.P M.f args σ R := by
 subst e
 unfold Fw.run at h
 split at h
 case h_2 => exact h.elim
 rename_i hn
 obtain ⟨fb, hb⟩ := Option.isSome_iff_exists.1 ok.body
 refine Spec.walk (c := M.cx R) (cuts := UI M R M.cuts) (s := iF D [] σ) (fuel := 4000) (Fw.sS ok) ?_ rfl hn UJ ?_ ?_ h
 · show M.fn.body = some (M.fn.body.getD .skip)
   rw [hb]; rfl
 · obtain ⟨h4, _⟩ := KX (l := D) (n := ⟨[], []⟩) (v := ⟨(NT D ⟨[], []⟩).2.ρ, (NT D ⟨[], []⟩).2.β, []⟩) ⟨fun _ _ => rfl, fun _ _ => rfl⟩
   rw [hD] at h4
   simp only [iF, hx]
   exact h4
 · simp only [iF, hx]; rfl
theorem Fw.start {M : Fw} {R : Rr} {args : Array Value} {σ : Hp} {F : Prop} (h : F) (ok : M.Ok) (e : F = M.run R args.size (eO M.fn.params.size 0 args.toList) σ := by kernel_rfl) : Spec M.P M.f args σ R :=
 M.Lk h ok _ UK.2 UK.1 e
abbrev wI : Sw := .o (.I .i64)
abbrev wU : Sw := .o (.I .u64)
abbrev bp : Sw := .o (.I .u32)
abbrev wB : Sw := .o .B
abbrev wT : Sw := .o .T
abbrev wL : Sw := .o .L
abbrev wQ : Sw := .o .Q
abbrev wA : Sw := .o .A
abbrev wV : Sw := .o .V
abbrev aD (b o : Nat) : Option Addr := some ⟨b, o, none⟩
theorem MI {p : Option Addr} {b o : Nat} (h : p = some ⟨b, o, none⟩) : aD b o = p := h.symm
abbrev Br (p A B : Prop) : Prop := (p → A) ∧ (¬ p → B)
abbrev Bm (p A B : Prop) : Prop := (¬ p → A) ∧ (p → B)
abbrev Bo (t : Bool) (A B : Prop) : Prop := (t = true → A) ∧ (t = false → B)
abbrev Bn (t : Bool) (A B : Prop) : Prop := (t = false → A) ∧ (t = true → B)
abbrev Pq (p : Option Addr) (K : Nat → Nat → Prop) : Prop := ∃ b o : Nat, p = some ⟨b, o, none⟩ ∧ K b o
abbrev In (x n : Int) : Prop := (0 : Int) ≤ x ∧ x < n
abbrev Df (r : Int) (K : Int → Prop) : Prop := ∀ x : Int, x = r → K x
abbrev Al (σ : Hp) (K : Nat → Prop) : Prop := ∀ b : Nat, σ b = none → K b
abbrev LI (k : IntKind) (σ : Hp) (b o : Nat) (K : Int → Prop) : Prop := ∃ x : Int, Hp.ld σ ⟨b, o, none⟩ = some (.int k x) ∧ K x
abbrev LB (σ : Hp) (b o : Nat) (K : Bool → Prop) : Prop := ∃ x : Bool, Hp.ld σ ⟨b, o, none⟩ = some (.bool x) ∧ K x
abbrev LT (σ : Hp) (b o : Nat) (K : ByteArray → Prop) : Prop := ∃ x : ByteArray, Hp.ld σ ⟨b, o, none⟩ = some (.string x) ∧ K x
abbrev LQ (σ : Hp) (b o : Nat) (K : Option Addr → Prop) : Prop := ∃ x : Option Addr, Hp.ld σ ⟨b, o, none⟩ = some (.pointer x) ∧ K x
abbrev LM (σ : Hp) (b o : Nat) (K : Option Nat → Prop) : Prop := ∃ x : Option Nat, Hp.ld σ ⟨b, o, none⟩ = some (.map x) ∧ K x
abbrev LS (σ : Hp) (b o : Nat) (K : Option Addr → Nat → Nat → Prop) : Prop := ∃ p : Option Addr, ∃ n : Nat, ∃ c : Nat, Hp.ld σ ⟨b, o, none⟩ = some (.slice p n c) ∧ K p n c
abbrev CI (k : IntKind) (K : Int → Hp → Prop) : Value → Hp → Prop := fun v σ => ∃ x : Int, v = .int k x ∧ K x σ
abbrev CB (K : Bool → Hp → Prop) : Value → Hp → Prop := fun v σ => ∃ x : Bool, v = .bool x ∧ K x σ
abbrev CT (K : ByteArray → Hp → Prop) : Value → Hp → Prop := fun v σ => ∃ x : ByteArray, v = .string x ∧ K x σ
abbrev CQ (K : Option Addr → Hp → Prop) : Value → Hp → Prop := fun v σ => ∃ x : Option Addr, v = .pointer x ∧ K x σ
abbrev CS (K : Option Addr → Nat → Nat → Hp → Prop) : Value → Hp → Prop := fun v σ => ∃ p : Option Addr, ∃ n : Nat, ∃ c : Nat, v = .slice p n c ∧ K p n c σ
end Tw
end
section
set_option maxRecDepth 100000
noncomputable section
namespace TwW
open Go Tw Go.Proofs.Tryz
variable [Iq] {R : Rr} {σ : Hp}

namespace MJ
variable {x0 x1 x2 : Int}
def M : Fw := ⟨prog, 7, f7, [8], [6], false, [], [], []⟩
theorem ok : M.Ok := ⟨.cons call8 (AK.nil), mixed, func7, by kernel_rfl⟩
theorem start (h : ∀ b6 : Nat, Al σ fun b7 => Spec prog 8 #[.int .i64 x0] (Hp.set σ b7 (.cells #[.int .i64 1, .int .i64 3, .int .i64 5] 3 (0, 0))) (AB R (CI .i64 fun x9 y => 3 ≠ (0 : Int) ∧ Df (Int.tmod x9 3) fun Db => In Db 3 ∧ LI .i64 y b7 (0 + Int.toNat Db * 1) fun DU => R (.returned (.agg #[.int .i64 0, .int .i64 DU, .int .i64 0, .int .i64 0, .int .i64 x2, .int .i64 x1, .int .i64 0, .int .i64 100, .int .i64 16, .int .i64 100, .bool true])) y))) : Spec prog 7 #[.int .i64 x0, .int .i64 x1, .int .i64 x2] σ R := M.start h ok
end MJ
namespace Cq
variable {p0 p1 : Option Addr} {n0 c0 n1 c1 : Nat} {x5 : Int}
def M : Fw := ⟨prog, 18, f18, [], [], false, [(6, 9, true)], [], [(464, [(0, wL), (1, wL), (5, wI)])]⟩
theorem ok : M.Ok := ⟨AK.nil, mixed, func18, by kernel_rfl⟩
def Am := M.pt 0
theorem start (h : Br ((n0 : Int) ≠ (n1 : Int)) (R (.returned (.bool false)) σ) (Am R p0 n0 c0 p1 n1 c1 0 σ)) : Spec prog 18 #[.slice p0 n0 c0, .slice p1 n1 c1] σ R := M.start h ok
theorem BB (h : Br (x5 < (n0 : Int)) (Pq p0 fun UL iG => In x5 (n0 : Int) ∧ LB σ UL (iG + Int.toNat x5 * 1) fun t20 => Pq p1 fun VK iH => In x5 (n1 : Int) ∧ LB σ VK (iH + Int.toNat x5 * 1) fun t24 => Bo t20 (Bo t24 (AN (x5 + 1) ∧ Am R (aD UL iG) n0 c0 (aD VK iH) n1 c1 (x5 + 1) σ) (R (.returned (.bool false)) σ)) (Bo t24 (R (.returned (.bool false)) σ) (AN (x5 + 1) ∧ Am R (aD UL iG) n0 c0 (aD VK iH) n1 c1 (x5 + 1) σ))) (R (.returned (.bool true)) σ)) : Am R p0 n0 c0 p1 n1 c1 x5 σ := M.of h ok rfl
end Cq
namespace DM
variable {p0 p1 : Option Addr} {n0 c0 n1 c1 : Nat} {x5 : Int}
def M : Fw := ⟨prog, 26, f26, [], [], false, [(6, 9, true)], [], [(464, [(0, wL), (1, wL), (5, wI)])]⟩
theorem ok : M.Ok := ⟨AK.nil, mixed, func26, by kernel_rfl⟩
def Am := M.pt 0
theorem start (h : Br ((n0 : Int) ≠ (n1 : Int)) (R (.returned (.bool false)) σ) (Am R p0 n0 c0 p1 n1 c1 0 σ)) : Spec prog 26 #[.slice p0 n0 c0, .slice p1 n1 c1] σ R := M.start h ok
theorem BB (h : Br (x5 < (n0 : Int)) (Pq p0 fun UL iG => In x5 (n0 : Int) ∧ ∃ ji wE, Dn σ UL (iG + Int.toNat x5 * 2) [.string ji, .string wE] ∧ Pq p1 fun VK iH => In x5 (n1 : Int) ∧ ∃ wF wG, Dn σ VK (iH + Int.toNat x5 * 2) [.string wF, .string wG] ∧ ∃ t25, YF prog ((do eqGuard .neq 61 (.tmp 20) (.tmp 24) (.agg #[.string ji, .string wE]) (.agg #[.string wF, .string wG]); binOp .neq 61 (.agg #[.string ji, .string wE]) (.agg #[.string wF, .string wG]))) σ (.bool t25) ∧ Bo t25 (R (.returned (.bool false)) σ) (AN (x5 + 1) ∧ Am R (aD UL iG) n0 c0 (aD VK iH) n1 c1 (x5 + 1) σ)) (R (.returned (.bool true)) σ)) : Am R p0 n0 c0 p1 n1 c1 x5 σ := M.of h ok rfl
end DM
namespace MK
variable {q0 q7 bq : Option Addr} {n24 c24 : Nat} {M4 Hw : Int}
def M : Fw := ⟨prog, 41, f41, [95, 96], [], false, [], [], [(1000, [(7, wQ), (24, wL), (25, wI), (26, wI)])]⟩
theorem ok : M.Ok := ⟨.cons call95 (.cons call96 (AK.nil)), mixed, func41, by kernel_rfl⟩
def NV := M.pt 0
theorem start (h : Spec prog 95 #[.pointer q0, (.string (ByteArray.mk #[107, 118]))] σ (AB R (fun z y => ∃ ZT ABE wH ABF UM, z = (.tuple #[.pointer ZT, .slice ABE wH ABF, .int .i64 UM]) ∧ Br (UM ≠ 0) (R (.returned (.tuple #[.pointer none, .int .i64 UM])) y) (AJ prog (Instr.makeMap 159 none) y (fun z AI => ∃ m21, z = (.map (some m21)) ∧ Al AI fun VK => NV R (aD VK 0) ABE wH ABF (wH : Int) 0 (Hp.set AI VK (.cells #[.pointer ZT, .pointer q0, (.map (some m21))] 161 (0, 0)))))))) : Spec prog 41 #[.pointer q0] σ R := M.start h ok
theorem I5 (h : Br (Hw < M4) (Pq bq fun QA br => In Hw (n24 : Int) ∧ LS σ QA (br + Int.toNat Hw * 1) fun eP n29 eQ => Spec prog 96 #[.pointer q7, .slice eP n29 eQ] σ (AB R (CB fun t32 y => Bn t32 (R (.returned (.tuple #[.pointer none, .int .i64 71])) y) (AN (Hw + 1) ∧ NV R q7 (aD QA br) n24 c24 M4 (Hw + 1) y)))) (R (.returned (.tuple #[.pointer q7, .int .i64 0])) σ)) : NV R q7 bq n24 c24 M4 Hw σ := M.of h ok rfl
end MK
namespace slices_Compact_int
variable {p0 p4 : Option Addr} {n0 c0 n4 c4 : Nat} {x3 x5 : Int}
end slices_Compact_int
namespace WD
variable {s0 : ByteArray}
def M : Fw := ⟨prog, 94, f94, [], [], false, [], [], []⟩
theorem ok : M.Ok := ⟨AK.nil, mixed, func94, by kernel_rfl⟩
theorem start (h : Bn ((ByteArray.toList s0 == ByteArray.toList (ByteArray.mk #[]))) (R (.returned (.bool (decide ((((ByteArray.size s0 : Nat) : Int) : Int) ≤ 64)))) σ) (R (.returned (.bool false)) σ)) : Spec prog 94 #[.string s0] σ R := M.start h ok
end WD
namespace EG
variable {p0 p5 : Option Addr} {n0 c0 n5 c5 : Nat} {x1 : Int}
def M : Fw := ⟨prog, 99, f99, [], [], false, [], [], [(224, [(1, wU), (5, wL)])]⟩
theorem ok : M.Ok := ⟨AK.nil, mixed, func99, by kernel_rfl⟩
def Jh := M.pt 0
theorem start (h : Al σ fun b6 => AJ prog (Builtin.append_ #[84, 84] 84 #[(.slice (aD b6 0) 0 0), .slice p0 n0 c0]) (Hp.set σ b6 (.cells #[] 5 (0, 0))) (CS fun p8 n8 c8 y => Jh R x1 p8 n8 c8 y)) : Spec prog 99 #[.slice p0 n0 c0, .int .u64 x1] σ R := M.start h ok
theorem CU (h : Br (127 < x1) (Df (IntKind.u8.wrap x1) fun Hh => Df (Go.bits .or .u8 Hh 128) fun Hi => Al σ fun Ro => AJ prog (Builtin.append_ #[84, 84] 84 #[.slice p5 n5 c5, (.slice (aD Ro 0) 1 1)]) (Hp.set σ Ro (.cells #[.int .u8 Hi] 5 (0, 0))) (CS fun eR n18 nI y => ((0 : Int) ≤ 7 ∧ 7 ≤ ((IntKind.bits .u64 : Nat) : Int)) ∧ Df (x1 / 2 ^ Int.toNat 7) fun DU => Jh R DU eR n18 nI y)) (Df (IntKind.u8.wrap x1) fun IE => Al σ fun NW => AJ prog (Builtin.append_ #[84, 84] 84 #[.slice p5 n5 c5, (.slice (aD NW 0) 1 1)]) (Hp.set σ NW (.cells #[.int .u8 IE] 5 (0, 0))) (CS fun oq n23 ot y => R (.returned (.slice oq n23 ot)) y))) : Jh R x1 p5 n5 c5 σ := M.of h ok rfl
end EG
namespace bt
variable {x0 : Int}
def M : Fw := ⟨prog, 117, f117, [], [], false, [], [], []⟩
theorem ok : M.Ok := ⟨AK.nil, mixed, func117, by kernel_rfl⟩
theorem start (h : Br (0 ≤ x0) (R (.returned (.bool (decide (x0 < 16)))) σ) (R (.returned (.bool false)) σ)) : Spec prog 117 #[.int .i64 x0] σ R := M.start h ok
end bt
namespace Kz
variable {En I6 x1a YK : Int}
def M : Fw := ⟨prog, 121, f121, [122, 123, 124], [2, 3], false, [], [], []⟩
theorem ok : M.Ok := ⟨.cons call122 (.cons call123 (.cons call124 (AK.nil))), mixed, func121, by kernel_rfl⟩
theorem start (h : ∀ b2 : Nat, ∀ b3 : Nat, Spec prog 123 #[.int .u32 En, .int .u32 x1a] σ (AB R (CI .i64 fun x9 y => Spec prog 124 #[.int .i64 I6, .int .i64 YK] y (AB R (CI .i64 fun FD AI => Al AI fun bu => Spec prog 122 #[(.slice (aD bu 0) 2 2)] (Hp.set AI bu (.cells #[.int .i64 x9, .int .i64 FD] 3 (0, 0))) (AB R (CI .i64 fun Hi AZ => R (.returned (.int .i64 Hi)) AZ))))))) : Spec prog 121 #[.agg #[.int .u32 En, .int .i64 I6], .agg #[.int .u32 x1a, .int .i64 YK]] σ R := M.start h ok
end Kz
namespace IF
variable {q0 : Option Addr} {x1 : Int}
def M : Fw := ⟨prog, 141, f141, [147], [], false, [], [], []⟩
theorem ok : M.Ok := ⟨.cons call147 (AK.nil), mixed, func141, by kernel_rfl⟩
theorem start (h : Pq q0 fun b6 o6 => LT σ b6 (o6 + 1) fun s8 => (ByteArray.size s8 + ByteArray.size (ByteArray.mk #[47, 115]) ≤ 9223372036854775807) ∧ Spec prog 147 #[.int .i64 x1] σ (AB R (CT fun nJ y => Kp [b6] σ y ∧ (ByteArray.size (s8 ++ (ByteArray.mk #[47, 115])) + ByteArray.size nJ ≤ 9223372036854775807) ∧ R (.returned (.string ((s8 ++ (ByteArray.mk #[47, 115])) ++ nJ))) y))) : Spec prog 141 #[.pointer q0, .int .i64 x1] σ R := M.start h ok
end IF
namespace ML
variable {p0 : Option Addr} {n0 c0 : Nat} {s1 : ByteArray}
def M : Fw := ⟨prog, 142, f142, [143], [], false, [], [], []⟩
theorem ok : M.Ok := ⟨.cons call143 (AK.nil), mixed, func142, by kernel_rfl⟩
theorem start (h : Df (IntKind.u64.wrap ((ByteArray.size s1 : Nat) : Int)) fun x8 => Spec prog 143 #[.slice p0 n0 c0, .int .u64 x8] σ (AB R (CS fun p9 n9 c9 y => AJ prog (Builtin.append_ #[84, 9] 84 #[.slice p9 n9 c9, .string s1]) y (CS fun WE n11 ZU AI => R (.returned (.slice WE n11 ZU)) AI)))) : Spec prog 142 #[.slice p0 n0 c0, .string s1] σ R := M.start h ok
end ML
namespace EH
variable {s0 : ByteArray} {x3 : Int}
def M : Fw := ⟨prog, 191, f191, [], [], false, [], [], [(464, [(0, wT), (3, wI)])]⟩
theorem ok : M.Ok := ⟨AK.nil, mixed, func191, by kernel_rfl⟩
def Am := M.pt 0
theorem start (h : Bo ((ByteArray.toList s0 == ByteArray.toList (ByteArray.mk #[]))) (R (.returned (.bool false)) σ) (Br ((32 : Int) < ((ByteArray.size s0 : Nat) : Int)) (R (.returned (.bool false)) σ) (Am R s0 0 σ))) : Spec prog 191 #[.string s0] σ R := M.start h ok
theorem BB (h : Br (x3 < ((ByteArray.size s0 : Nat) : Int)) (∃ Ll : UInt8, 0 ≤ x3 ∧ (ByteArray.data s0)[Int.toNat x3]? = some Ll ∧ Br ((((UInt8.toNat Ll : Nat) : Int) : Int) < 97) (Br ((((UInt8.toNat Ll : Nat) : Int) : Int) < 48) (Br ((((UInt8.toNat Ll : Nat) : Int) : Int) ≠ 45) (R (.returned (.bool false)) σ) (AN (x3 + 1) ∧ Am R s0 (x3 + 1) σ)) (Br ((57 : Int) < ((UInt8.toNat Ll : Nat) : Int)) (Br ((((UInt8.toNat Ll : Nat) : Int) : Int) ≠ 45) (R (.returned (.bool false)) σ) (AN (x3 + 1) ∧ Am R s0 (x3 + 1) σ)) (AN (x3 + 1) ∧ Am R s0 (x3 + 1) σ))) (Br ((122 : Int) < ((UInt8.toNat Ll : Nat) : Int)) (Br ((((UInt8.toNat Ll : Nat) : Int) : Int) < 48) (Br ((((UInt8.toNat Ll : Nat) : Int) : Int) ≠ 45) (R (.returned (.bool false)) σ) (AN (x3 + 1) ∧ Am R s0 (x3 + 1) σ)) (Br ((57 : Int) < ((UInt8.toNat Ll : Nat) : Int)) (Br ((((UInt8.toNat Ll : Nat) : Int) : Int) ≠ 45) (R (.returned (.bool false)) σ) (AN (x3 + 1) ∧ Am R s0 (x3 + 1) σ)) (AN (x3 + 1) ∧ Am R s0 (x3 + 1) σ))) (AN (x3 + 1) ∧ Am R s0 (x3 + 1) σ))) (R (.returned (.bool true)) σ)) : Am R s0 x3 σ := M.of h ok rfl
end EH
namespace LA
variable {x0 : Int} {b1 b2 b3 : Nat}
def M : Fw := ⟨prog, 195, f195, [177], [], false, [], [], []⟩
theorem ok : M.Ok := ⟨.cons call177 (AK.nil), mixed, func195, by kernel_rfl⟩
theorem start (h : LS σ b1 0 fun Ou n10 Hj => LI .i64 σ b2 0 fun Eb => Spec prog 177 #[.slice Ou n10 Hj, .int .i64 Eb] σ (AB R (fun z y => ∃ UN NX UM, z = (.tuple #[.int .u64 UN, .int .i64 NX, .int .i64 UM]) ∧ LB y b3 0 fun t16 => Bo t16 (AJ prog (Instr.storeAt 4 (.pointer (aD b3 0)) (.bool true)) y (fun _ AI => LB AI b3 0 fun t26 => Bo t26 (R (.returned (.int .u64 0)) AI) (AJ prog (Instr.storeAt 3 (.pointer (aD b2 0)) (.int .i64 NX)) AI (fun _ AZ => R (.returned (.int .u64 UN)) AZ)))) (Br (UM ≠ 0) (AJ prog (Instr.storeAt 4 (.pointer (aD b3 0)) (.bool true)) y (fun _ AI => LB AI b3 0 fun t26 => Bo t26 (R (.returned (.int .u64 0)) AI) (AJ prog (Instr.storeAt 3 (.pointer (aD b2 0)) (.int .i64 NX)) AI (fun _ AZ => R (.returned (.int .u64 UN)) AZ)))) (AJ prog (Instr.storeAt 4 (.pointer (aD b3 0)) (.bool (decide (x0 < UN)))) y (fun _ AI => LB AI b3 0 fun t26 => Bo t26 (R (.returned (.int .u64 0)) AI) (AJ prog (Instr.storeAt 3 (.pointer (aD b2 0)) (.int .i64 NX)) AI (fun _ AZ => R (.returned (.int .u64 UN)) AZ)))))))) : Spec prog 195 #[.int .u64 x0, (.pointer (aD b1 0)), (.pointer (aD b2 0)), (.pointer (aD b3 0))] σ R := M.start h ok
end LA
namespace IG
variable {p0 p8 : Option Addr} {n0 c0 b3 n8 c8 : Nat} {x4 x9 Db : Int}
def M : Fw := ⟨prog, 219, f219, [289], [], false, [], [], [(488, [(3, wA), (4, bp), (8, wL), (9, wI), (10, wI)])]⟩
theorem ok : M.Ok := ⟨.cons call289 (AK.nil), mixed, func219, by kernel_rfl⟩
def Gp := M.pt 0
theorem start (h : Spec prog 289 #[] σ (AB R (fun z y => ∃ JL N4 eS eT eU eV eW eX eY eZ x7k x7l x7m x7n x7o x7p, z = (.agg #[.int .u32 JL, .int .u32 N4, .int .u32 eS, .int .u32 eT, .int .u32 eU, .int .u32 eV, .int .u32 eW, .int .u32 eX, .int .u32 eY, .int .u32 eZ, .int .u32 x7k, .int .u32 x7l, .int .u32 x7m, .int .u32 x7n, .int .u32 x7o, .int .u32 x7p]) ∧ Al y fun b3 => AJ prog (Instr.storeAt 338 (.pointer (aD b3 0)) (.agg #[.int .u32 JL, .int .u32 N4, .int .u32 eS, .int .u32 eT, .int .u32 eU, .int .u32 eV, .int .u32 eW, .int .u32 eX, .int .u32 eY, .int .u32 eZ, .int .u32 x7k, .int .u32 x7l, .int .u32 x7m, .int .u32 x7n, .int .u32 x7o, .int .u32 x7p])) (Hp.set y b3 (.cells #[.int .u32 0, .int .u32 0, .int .u32 0, .int .u32 0, .int .u32 0, .int .u32 0, .int .u32 0, .int .u32 0, .int .u32 0, .int .u32 0, .int .u32 0, .int .u32 0, .int .u32 0, .int .u32 0, .int .u32 0, .int .u32 0] 338 (0, 0))) (fun _ AI => Gp R b3 4294967295 p0 n0 c0 (n0 : Int) 0 AI)))) : Spec prog 219 #[.slice p0 n0 c0] σ R := M.start h ok
theorem Fb (h : Br (Db < x9) (Pq p8 fun Ov QB => In Db (n8 : Int) ∧ LI .u8 σ Ov (QB + Int.toNat Db * 1) fun E7 => Df (IntKind.u32.wrap E7) fun Hi => Df (Go.bits .xor .u32 x4 Hi) fun I7 => ((0 : Int) ≤ 4 ∧ 4 ≤ ((IntKind.bits .u32 : Nat) : Int)) ∧ Df (I7 / 2 ^ Int.toNat 4) fun Iu => Df (Go.bits .and .u32 I7 15) fun IE => In IE 16 ∧ LI .u32 σ b3 (0 + Int.toNat IE * 1) fun Sp => Df (Go.bits .xor .u32 Iu Sp) fun Kk => ((0 : Int) ≤ 4 ∧ 4 ≤ ((IntKind.bits .u32 : Nat) : Int)) ∧ Df (Kk / 2 ^ Int.toNat 4) fun Hw => Df (Go.bits .and .u32 Kk 15) fun Gq => In Gq 16 ∧ LI .u32 σ b3 (0 + Int.toNat Gq * 1) fun bw => Df (Go.bits .xor .u32 Hw bw) fun Fp => AN (Db + 1) ∧ Gp R b3 Fp (aD Ov QB) n8 c8 x9 (Db + 1) σ) (∃ ea, YF prog (Op.unary .xor (.int .u32 x4)) σ (.int .u32 ea) ∧ R (.returned (.int .u32 ea)) σ)) : Gp R b3 x4 p8 n8 c8 x9 Db σ := M.of h ok rfl
end IG
namespace Gr
variable {b0 b1 : Nat}
def M : Fw := ⟨prog, 232, f232, [223], [], false, [], [], []⟩
theorem ok : M.Ok := ⟨.cons call223 (AK.nil), mixed, func232, by kernel_rfl⟩
theorem start (h : LQ σ b0 0 fun q3 => LT σ b1 0 fun s4 => Spec prog 223 #[.pointer q3, .string s4] σ (AB R (CI .i64 fun x5 y => R (.returned (.int .i64 x5)) y))) : Spec prog 232 #[(.pointer (aD b0 0)), (.pointer (aD b1 0))] σ R := M.start h ok
end Gr
namespace Sr
variable {x0 : Int}
def M : Fw := ⟨prog, 234, f234, [], [], false, [], [], []⟩
theorem ok : M.Ok := ⟨AK.nil, mixed, func234, by kernel_rfl⟩
theorem start (h : ((0 : Int) ≤ 24 ∧ 24 ≤ ((IntKind.bits .u32 : Nat) : Int)) ∧ Df (x0 / 2 ^ Int.toNat 24) fun x4 => Df (IntKind.u8.wrap x4) fun x5 => ((0 : Int) ≤ 16 ∧ 16 ≤ ((IntKind.bits .u32 : Nat) : Int)) ∧ Df (x0 / 2 ^ Int.toNat 16) fun x7 => Df (IntKind.u8.wrap x7) fun x8 => ((0 : Int) ≤ 8 ∧ 8 ≤ ((IntKind.bits .u32 : Nat) : Int)) ∧ Df (x0 / 2 ^ Int.toNat 8) fun Db => Df (IntKind.u8.wrap Db) fun Eb => Df (IntKind.u8.wrap x0) fun E7 => Al σ fun Hk => R (.returned (.slice (aD Hk 0) 4 4)) (Hp.set σ Hk (.cells #[.int .u8 x5, .int .u8 x8, .int .u8 Eb, .int .u8 E7] 5 (0, 0)))) : Spec prog 234 #[.int .u32 x0] σ R := M.start h ok
end Sr
namespace BO
def K0 := f307.body.getD .skip
def K1 := cl K0
def K2 := cr K0
def K3 := cl K2
def K4 := cl K3
def K5 := cr K3
def K6 := cl K5
def K7 := cr K5
def K8 := cl K7
def K9 := cr K7
def Lm := cl K9
def Ss := cl Lm
def MM := cr Lm
def QC := cl MM
def ZV := cl QC
def eb := cr QC
def Su := cr MM
def N5 := cr K9
def YL := cl N5
def UO := cr N5
def Sv := cl UO
def iI := cl Sv
def bz := cr Sv
def YM := cl bz
def ed := cl YM
def WG := cr YM
def WH := cl WG
def WI := cl WH
def WJ := cr WH
def WK := cr WG
def jj := cl WK
def iJ := cr WK
def YO := cl iJ
def cA := cr iJ
def iK := cl cA
def iL := cr cA
def nK := cl iL
def K37 := cl nK
def sT := cr nK
def K39 := cl sT
def sU := cr sT
def sV := cl sU
def sW := cr sU
def zo := cl sW
def ou := cr sW
def wJ := cl ou
def sX := cr ou
def nL := cr iL
def sY := cl nL
def sZ := cr nL
def YQ := cl sZ
def wK := cl YQ
def nM := cr YQ
def zp := cl nM
def nN := cr nM
def nO := cl nN
def cB := cr nN
def zq := cl cB
def sa := cr cB
def sc := cl sa
def sd := cr sa
def cC := cr sZ
def se := cl cC
def sf := cr cC
def K64 := cr UO
def Sx := cl K64
def RV := cr K64
def K67 := cl RV
def K68 := cr RV
def K69 := cl K68
def K70 := cl K69
def K71 := cr K69
def K72 := cl K71
def K73 := cr K71
def K74 := cr K68
def K75 := cl K74
def K76 := cl K75
def K77 := cr K75
def zr := cl K77
def K79 := cl zr
def K80 := cr zr
def K81 := cr K77
def K82 := cr K74
def K83 := cl K82
def K84 := cr K82
def K85 := cl K84
def K86 := cr K84
def K87 := cl K86
def K88 := cr K86
abbrev gl (R : Rr) : Gl := Gl.fn prog 307 75 R
def Bu (R : Rr) (s0 : ByteArray) (x3 : Int) (σ : Hp) : Prop := ∀ (J : Env), At (gl R) [.code Ss, .code MM, .code N5, .inScope K3] (Gg J [(0, (.string s0)), (3, (.int .i64 x3))]) [] σ
def Ev (R : Rr) (s0 : ByteArray) (x3 x4 x5 x6 : Int) (σ : Hp) : Prop := ∀ (J : Env), At (gl R) [.code Sx, .code RV, .inScope K3] (Gg J [(0, (.string s0)), (3, (.int .i64 x3)), (4, (.int .i64 x4)), (5, (.int .u8 x5)), (6, (.int .u8 x6))]) [] σ
def ov (R : Rr) (s0 : ByteArray) (x3 x4 x5 x6 : Int) (σ : Hp) : Prop := ∀ (J : Env), At (gl R) [.code K70, .code K71, .code K74, .inScope K3] (Gg J [(0, (.string s0)), (3, (.int .i64 x3)), (4, (.int .i64 x4)), (5, (.int .u8 x5)), (6, (.int .u8 x6))]) [] σ
theorem start {R : Rr} {s0 : ByteArray} {σ : Hp} (h : Bu R s0 0 σ) : Spec prog 307 #[(.string s0)] σ R := by
 refine Spec.Js (fn := f307) (c := K0) func307 (by kernel_rfl) (Nat.le_of_ble_eq_true (by kernel_rfl)) (fun e he => ?_)
 refine At.oO (l := [(0, (.string s0))]) ⟨he 0, trivial⟩ (fun J => ?_)
 show At (gl R) _ _ _ _
 refine At.s K1 K2 ?_
 refine At.rg 0 [0] ?_
 refine Seq.u 2 (.bool false) (Seq.done ?_)
 refine At.scope (x := K3) (by kernel_rfl) ?_
 refine At.s K4 K5 ?_
 refine At.rg 1 [0, 1] ?_
 refine Seq.us [(3, .int .i64 0), (4, .int .i64 0)] (Seq.done ?_)
 refine At.s K6 K7 ?_
 refine At.rg 2 [0, 1] ?_
 refine Seq.us [(5, .int .u8 128), (6, .int .u8 191)] (Seq.done ?_)
 refine At.s K8 K9 ?_
 refine At.label (l := 0) ?_
 refine At.s Lm N5 (At.s Ss MM ?_)
 exact At.v [(0, (.string s0)), (3, (.int .i64 0))] (h _)
theorem BF {R : Rr} {s0 : ByteArray} {x3 : Int} {σ : Hp} (h : ((x3 : Int) = ((ByteArray.size s0 : Nat) : Int) → R (.returned (.bool true)) σ) ∧ (¬ ((x3 : Int) = ((ByteArray.size s0 : Nat) : Int)) → ∃ Au : UInt8, (0 : Int) ≤ x3 ∧ (ByteArray.data s0)[Int.toNat x3]? = some Au ∧ ((((UInt8.toNat Au : Nat) : Int) : Int) < 128 → AN (x3 + 1) ∧ Bu R s0 ((x3 + 1)) σ) ∧ (¬ ((((UInt8.toNat Au : Nat) : Int) : Int) < 128) → ((194 : Int) ≤ ((UInt8.toNat Au : Nat) : Int) → ((((UInt8.toNat Au : Nat) : Int) : Int) ≤ 223 → Ev R s0 x3 1 128 191 σ) ∧ (¬ ((((UInt8.toNat Au : Nat) : Int) : Int) ≤ 223) → ((224 : Int) ≤ ((UInt8.toNat Au : Nat) : Int) → ((((UInt8.toNat Au : Nat) : Int) : Int) ≤ 239 → ((((UInt8.toNat Au : Nat) : Int) : Int) = 224 → Ev R s0 x3 2 160 191 σ) ∧ (¬ ((((UInt8.toNat Au : Nat) : Int) : Int) = 224) → ((((UInt8.toNat Au : Nat) : Int) : Int) = 237 → Ev R s0 x3 2 128 159 σ) ∧ (¬ ((((UInt8.toNat Au : Nat) : Int) : Int) = 237) → Ev R s0 x3 2 128 191 σ))) ∧ (¬ ((((UInt8.toNat Au : Nat) : Int) : Int) ≤ 239) → ((240 : Int) ≤ ((UInt8.toNat Au : Nat) : Int) → ((((UInt8.toNat Au : Nat) : Int) : Int) ≤ 244 → ((((UInt8.toNat Au : Nat) : Int) : Int) = 240 → Ev R s0 x3 3 144 191 σ) ∧ (¬ ((((UInt8.toNat Au : Nat) : Int) : Int) = 240) → ((((UInt8.toNat Au : Nat) : Int) : Int) = 244 → Ev R s0 x3 3 128 143 σ) ∧ (¬ ((((UInt8.toNat Au : Nat) : Int) : Int) = 244) → Ev R s0 x3 3 128 191 σ))) ∧ (¬ ((((UInt8.toNat Au : Nat) : Int) : Int) ≤ 244) → R (.returned (.bool false)) σ)) ∧ (¬ ((240 : Int) ≤ ((UInt8.toNat Au : Nat) : Int)) → R (.returned (.bool false)) σ))) ∧ (¬ ((224 : Int) ≤ ((UInt8.toNat Au : Nat) : Int)) → ((240 : Int) ≤ ((UInt8.toNat Au : Nat) : Int) → ((((UInt8.toNat Au : Nat) : Int) : Int) ≤ 244 → ((((UInt8.toNat Au : Nat) : Int) : Int) = 240 → Ev R s0 x3 3 144 191 σ) ∧ (¬ ((((UInt8.toNat Au : Nat) : Int) : Int) = 240) → ((((UInt8.toNat Au : Nat) : Int) : Int) = 244 → Ev R s0 x3 3 128 143 σ) ∧ (¬ ((((UInt8.toNat Au : Nat) : Int) : Int) = 244) → Ev R s0 x3 3 128 191 σ))) ∧ (¬ ((((UInt8.toNat Au : Nat) : Int) : Int) ≤ 244) → R (.returned (.bool false)) σ)) ∧ (¬ ((240 : Int) ≤ ((UInt8.toNat Au : Nat) : Int)) → R (.returned (.bool false)) σ)))) ∧ (¬ ((194 : Int) ≤ ((UInt8.toNat Au : Nat) : Int)) → ((224 : Int) ≤ ((UInt8.toNat Au : Nat) : Int) → ((((UInt8.toNat Au : Nat) : Int) : Int) ≤ 239 → ((((UInt8.toNat Au : Nat) : Int) : Int) = 224 → Ev R s0 x3 2 160 191 σ) ∧ (¬ ((((UInt8.toNat Au : Nat) : Int) : Int) = 224) → ((((UInt8.toNat Au : Nat) : Int) : Int) = 237 → Ev R s0 x3 2 128 159 σ) ∧ (¬ ((((UInt8.toNat Au : Nat) : Int) : Int) = 237) → Ev R s0 x3 2 128 191 σ))) ∧ (¬ ((((UInt8.toNat Au : Nat) : Int) : Int) ≤ 239) → ((240 : Int) ≤ ((UInt8.toNat Au : Nat) : Int) → ((((UInt8.toNat Au : Nat) : Int) : Int) ≤ 244 → ((((UInt8.toNat Au : Nat) : Int) : Int) = 240 → Ev R s0 x3 3 144 191 σ) ∧ (¬ ((((UInt8.toNat Au : Nat) : Int) : Int) = 240) → ((((UInt8.toNat Au : Nat) : Int) : Int) = 244 → Ev R s0 x3 3 128 143 σ) ∧ (¬ ((((UInt8.toNat Au : Nat) : Int) : Int) = 244) → Ev R s0 x3 3 128 191 σ))) ∧ (¬ ((((UInt8.toNat Au : Nat) : Int) : Int) ≤ 244) → R (.returned (.bool false)) σ)) ∧ (¬ ((240 : Int) ≤ ((UInt8.toNat Au : Nat) : Int)) → R (.returned (.bool false)) σ))) ∧ (¬ ((224 : Int) ≤ ((UInt8.toNat Au : Nat) : Int)) → ((240 : Int) ≤ ((UInt8.toNat Au : Nat) : Int) → ((((UInt8.toNat Au : Nat) : Int) : Int) ≤ 244 → ((((UInt8.toNat Au : Nat) : Int) : Int) = 240 → Ev R s0 x3 3 144 191 σ) ∧ (¬ ((((UInt8.toNat Au : Nat) : Int) : Int) = 240) → ((((UInt8.toNat Au : Nat) : Int) : Int) = 244 → Ev R s0 x3 3 128 143 σ) ∧ (¬ ((((UInt8.toNat Au : Nat) : Int) : Int) = 244) → Ev R s0 x3 3 128 191 σ))) ∧ (¬ ((((UInt8.toNat Au : Nat) : Int) : Int) ≤ 244) → R (.returned (.bool false)) σ)) ∧ (¬ ((240 : Int) ≤ ((UInt8.toNat Au : Nat) : Int)) → R (.returned (.bool false)) σ)))))) : Bu R s0 x3 σ := by
 intro J
 show At (gl R) _ _ _ _
 refine At.rg 3 [0, 1, 2, 3] ?_
 refine Seq.us [(8, .int .i64 x3), (9, .string s0)] ?_
 refine Seq.z 10 (.call { callee := .builtin .len, args := #[(.tmp 9)], argTypes := #[9] }) 3 (.int .i64 ((ByteArray.size s0 : Nat) : Int)) (Y.Yq underlying9 rfl rfl) ?_
 refine Seq.u 11 (.bool (decide ((x3 : Int) = ((ByteArray.size s0 : Nat) : Int)))) (Seq.done ?_)
 cases hb : (decide ((x3 : Int) = ((ByteArray.size s0 : Nat) : Int))) with
 | true =>
  replace h := h.1 (of_decide_eq_true hb)
  refine At.cT 11 QC Su ?_
  refine At.s ZV eb ?_
  refine At.rg 4 [0] ?_
  refine Seq.u 2 (.bool true) (Seq.done ?_)
  exact At.rt [.tmp 2] [(.bool true)] func307 ⟨_, rfl, rfl⟩ h
 | false =>
  replace h := h.2 (of_decide_eq_false hb)
  refine At.cF 11 QC Su ?_
  refine At.skip ?_
  refine At.s YL UO ?_
  refine At.rg 5 [0, 1] ?_
  refine Seq.us [(5, .int .u8 128), (6, .int .u8 191)] (Seq.done ?_)
  refine At.s Sv K64 (At.s iI bz ?_)
  refine At.rg 6 [0, 1, 2, 3] ?_
  refine Seq.us [(12, .string s0), (13, .int .i64 x3)] ?_
  obtain ⟨Au, h0, hv, h⟩ := h
  refine Seq.z 14 (.index 9 (.tmp 12) (.tmp 13)) 5 (.int .u8 (Au.toNat : Int)) (Y.Tn underlying9 rfl rfl h0 hv) ?_
  refine Seq.u 7 (.int .u8 (Au.toNat : Int)) (Seq.done ?_)
  refine At.b 0 YM ?_
  refine At.s ed WG ?_
  refine At.rg 8 [0, 1, 2] ?_
  refine Seq.us [(16, .int .u8 (Au.toNat : Int)), (17, .bool (decide (((Au.toNat : Int) : Int) < 128))), (15, .bool (decide (((Au.toNat : Int) : Int) < 128)))] (Seq.done ?_)
  cases hb : (decide (((Au.toNat : Int) : Int) < 128)) with
  | true =>
   replace h := h.1 (of_decide_eq_true hb)
   refine At.cT 15 WH WK ?_
   refine At.s WI WJ ?_
   refine At.rg 9 [0, 1, 2] ?_
   refine Seq.u 18 (.int .i64 x3) ?_
   obtain ⟨hi, h⟩ := h
   refine Seq.z 19 (.binOp .add 3 (.tmp 18) (.const (.int .i64 1)) 3) 3 (.int .i64 (x3 + 1)) (Y.Pe hi rfl rfl) ?_
   refine Seq.u 3 (.int .i64 (x3 + 1)) (Seq.done ?_)
   refine At.goto (i := 0) (k' := [.code (.seq .skip K9), .inScope K3]) (by kernel_rfl) (by kernel_rfl) ?_
   refine At.s .skip K9 (At.skip ?_)
   refine At.s Lm N5 (At.s Ss MM ?_)
   exact At.v [(0, (.string s0)), (3, (.int .i64 (x3 + 1)))] (h _)
  | false =>
   replace h := h.2 (of_decide_eq_false hb)
   refine At.cF 15 WH WK ?_
   refine At.s jj iJ ?_
   refine At.rg 10 [0, 1, 2, 3, 4, 5, 6] ?_
   refine Seq.us [(21, .int .u8 (Au.toNat : Int)), (22, .bool (decide ((194 : Int) ≤ (Au.toNat : Int)))), (23, .bool (decide ((194 : Int) ≤ (Au.toNat : Int))))] ?_
   cases hb : (decide ((194 : Int) ≤ (Au.toNat : Int))) with
   | true =>
    replace h := h.1 (of_decide_eq_true hb)
    refine Seq.us [(24, .int .u8 (Au.toNat : Int)), (25, .bool (decide (((Au.toNat : Int) : Int) ≤ 223))), (26, .bool (decide (((Au.toNat : Int) : Int) ≤ 223))), (20, .bool (decide (((Au.toNat : Int) : Int) ≤ 223)))] (Seq.done ?_)
    cases hb : (decide (((Au.toNat : Int) : Int) ≤ 223)) with
    | true =>
     replace h := h.1 (of_decide_eq_true hb)
     refine At.cT 20 YO cA ?_
     refine At.rg 11 [0] ?_
     refine Seq.u 4 (.int .i64 1) (Seq.done ?_)
     refine At.inBlock ?_
     refine At.s Sx RV ?_
     exact At.v [(0, (.string s0)), (3, (.int .i64 x3)), (4, (.int .i64 1)), (5, (.int .u8 128)), (6, (.int .u8 191))] (h _)
    | false =>
     replace h := h.2 (of_decide_eq_false hb)
     refine At.cF 20 YO cA ?_
     refine At.s iK iL ?_
     refine At.rg 12 [0, 1, 2, 3, 4, 5, 6] ?_
     refine Seq.us [(28, .int .u8 (Au.toNat : Int)), (29, .bool (decide ((224 : Int) ≤ (Au.toNat : Int)))), (30, .bool (decide ((224 : Int) ≤ (Au.toNat : Int))))] ?_
     cases hb : (decide ((224 : Int) ≤ (Au.toNat : Int))) with
     | true =>
      replace h := h.1 (of_decide_eq_true hb)
      refine Seq.us [(31, .int .u8 (Au.toNat : Int)), (32, .bool (decide (((Au.toNat : Int) : Int) ≤ 239))), (33, .bool (decide (((Au.toNat : Int) : Int) ≤ 239))), (27, .bool (decide (((Au.toNat : Int) : Int) ≤ 239)))] (Seq.done ?_)
      cases hb : (decide (((Au.toNat : Int) : Int) ≤ 239)) with
      | true =>
       replace h := h.1 (of_decide_eq_true hb)
       refine At.cT 27 nK nL ?_
       refine At.s K37 sT ?_
       refine At.rg 13 [0] ?_
       refine Seq.u 4 (.int .i64 2) (Seq.done ?_)
       refine At.s K39 sU ?_
       refine At.rg 14 [0, 1] ?_
       refine Seq.us [(34, .int .u8 (Au.toNat : Int)), (35, .bool (decide (((Au.toNat : Int) : Int) = 224)))] (Seq.done ?_)
       refine At.L [(0, (.string s0)), (3, (.int .i64 x3)), (4, (.int .i64 2)), (5, (.int .u8 128)), (6, (.int .u8 191)), (7, (.int .u8 (Au.toNat : Int))), (35, (.bool (decide (((Au.toNat : Int) : Int) = 224))))] fun J => ?_
       cases hb : (decide (((Au.toNat : Int) : Int) = 224)) with
       | true =>
        replace h := h.1 (of_decide_eq_true hb)
        refine At.cT 35 sV sW ?_
        refine At.rg 15 [0] ?_
        refine Seq.u 5 (.int .u8 160) (Seq.done ?_)
        refine At.inBlock ?_
        refine At.s Sx RV ?_
        exact At.v [(0, (.string s0)), (3, (.int .i64 x3)), (4, (.int .i64 2)), (5, (.int .u8 160)), (6, (.int .u8 191))] (h _)
       | false =>
        replace h := h.2 (of_decide_eq_false hb)
        refine At.cF 35 sV sW ?_
        refine At.s zo ou ?_
        refine At.rg 16 [0, 1] ?_
        refine Seq.us [(36, .int .u8 (Au.toNat : Int)), (37, .bool (decide (((Au.toNat : Int) : Int) = 237)))] (Seq.done ?_)
        cases hb : (decide (((Au.toNat : Int) : Int) = 237)) with
        | true =>
         replace h := h.1 (of_decide_eq_true hb)
         refine At.cT 37 wJ sX ?_
         refine At.rg 17 [0] ?_
         refine Seq.u 6 (.int .u8 159) (Seq.done ?_)
         refine At.inBlock ?_
         refine At.s Sx RV ?_
         exact At.v [(0, (.string s0)), (3, (.int .i64 x3)), (4, (.int .i64 2)), (5, (.int .u8 128)), (6, (.int .u8 159))] (h _)
        | false =>
         replace h := h.2 (of_decide_eq_false hb)
         refine At.cF 37 wJ sX ?_
         refine At.skip ?_
         refine At.inBlock ?_
         refine At.s Sx RV ?_
         exact At.v [(0, (.string s0)), (3, (.int .i64 x3)), (4, (.int .i64 2)), (5, (.int .u8 128)), (6, (.int .u8 191))] (h _)
      | false =>
       replace h := h.2 (of_decide_eq_false hb)
       refine At.cF 27 nK nL ?_
       refine At.s sY sZ ?_
       refine At.rg 18 [0, 1, 2, 3, 4, 5, 6] ?_
       refine Seq.us [(39, .int .u8 (Au.toNat : Int)), (40, .bool (decide ((240 : Int) ≤ (Au.toNat : Int)))), (41, .bool (decide ((240 : Int) ≤ (Au.toNat : Int))))] ?_
       cases hb : (decide ((240 : Int) ≤ (Au.toNat : Int))) with
       | true =>
        replace h := h.1 (of_decide_eq_true hb)
        refine Seq.us [(42, .int .u8 (Au.toNat : Int)), (43, .bool (decide (((Au.toNat : Int) : Int) ≤ 244))), (44, .bool (decide (((Au.toNat : Int) : Int) ≤ 244))), (38, .bool (decide (((Au.toNat : Int) : Int) ≤ 244)))] (Seq.done ?_)
        cases hb : (decide (((Au.toNat : Int) : Int) ≤ 244)) with
        | true =>
         replace h := h.1 (of_decide_eq_true hb)
         refine At.cT 38 YQ cC ?_
         refine At.s wK nM ?_
         refine At.rg 19 [0] ?_
         refine Seq.u 4 (.int .i64 3) (Seq.done ?_)
         refine At.s zp nN ?_
         refine At.rg 20 [0, 1] ?_
         refine Seq.us [(45, .int .u8 (Au.toNat : Int)), (46, .bool (decide (((Au.toNat : Int) : Int) = 240)))] (Seq.done ?_)
         cases hb : (decide (((Au.toNat : Int) : Int) = 240)) with
         | true =>
          replace h := h.1 (of_decide_eq_true hb)
          refine At.cT 46 nO cB ?_
          refine At.rg 21 [0] ?_
          refine Seq.u 5 (.int .u8 144) (Seq.done ?_)
          refine At.inBlock ?_
          refine At.s Sx RV ?_
          exact At.v [(0, (.string s0)), (3, (.int .i64 x3)), (4, (.int .i64 3)), (5, (.int .u8 144)), (6, (.int .u8 191))] (h _)
         | false =>
          replace h := h.2 (of_decide_eq_false hb)
          refine At.cF 46 nO cB ?_
          refine At.s zq sa ?_
          refine At.rg 22 [0, 1] ?_
          refine Seq.us [(47, .int .u8 (Au.toNat : Int)), (48, .bool (decide (((Au.toNat : Int) : Int) = 244)))] (Seq.done ?_)
          cases hb : (decide (((Au.toNat : Int) : Int) = 244)) with
          | true =>
           replace h := h.1 (of_decide_eq_true hb)
           refine At.cT 48 sc sd ?_
           refine At.rg 23 [0] ?_
           refine Seq.u 6 (.int .u8 143) (Seq.done ?_)
           refine At.inBlock ?_
           refine At.s Sx RV ?_
           exact At.v [(0, (.string s0)), (3, (.int .i64 x3)), (4, (.int .i64 3)), (5, (.int .u8 128)), (6, (.int .u8 143))] (h _)
          | false =>
           replace h := h.2 (of_decide_eq_false hb)
           refine At.cF 48 sc sd ?_
           refine At.skip ?_
           refine At.inBlock ?_
           refine At.s Sx RV ?_
           exact At.v [(0, (.string s0)), (3, (.int .i64 x3)), (4, (.int .i64 3)), (5, (.int .u8 128)), (6, (.int .u8 191))] (h _)
        | false =>
         replace h := h.2 (of_decide_eq_false hb)
         refine At.cF 38 YQ cC ?_
         refine At.s se sf ?_
         refine At.rg 7 [0] ?_
         refine Seq.u 2 (.bool false) (Seq.done ?_)
         exact At.rt [.tmp 2] [(.bool false)] func307 ⟨_, rfl, rfl⟩ h
       | false =>
        replace h := h.2 (of_decide_eq_false hb)
        refine Seq.n 42 ?_
        refine Seq.n 43 ?_
        refine Seq.us [(44, .bool false), (38, .bool false)] (Seq.done ?_)
        refine At.cF 38 YQ cC ?_
        refine At.s se sf ?_
        refine At.rg 7 [0] ?_
        refine Seq.u 2 (.bool false) (Seq.done ?_)
        exact At.rt [.tmp 2] [(.bool false)] func307 ⟨_, rfl, rfl⟩ h
     | false =>
      replace h := h.2 (of_decide_eq_false hb)
      refine Seq.n 31 ?_
      refine Seq.n 32 ?_
      refine Seq.us [(33, .bool false), (27, .bool false)] (Seq.done ?_)
      refine At.cF 27 nK nL ?_
      refine At.s sY sZ ?_
      refine At.rg 18 [0, 1, 2, 3, 4, 5, 6] ?_
      refine Seq.us [(39, .int .u8 (Au.toNat : Int)), (40, .bool (decide ((240 : Int) ≤ (Au.toNat : Int)))), (41, .bool (decide ((240 : Int) ≤ (Au.toNat : Int))))] ?_
      cases hb : (decide ((240 : Int) ≤ (Au.toNat : Int))) with
      | true =>
       replace h := h.1 (of_decide_eq_true hb)
       refine Seq.us [(42, .int .u8 (Au.toNat : Int)), (43, .bool (decide (((Au.toNat : Int) : Int) ≤ 244))), (44, .bool (decide (((Au.toNat : Int) : Int) ≤ 244))), (38, .bool (decide (((Au.toNat : Int) : Int) ≤ 244)))] (Seq.done ?_)
       refine At.L [(0, (.string s0)), (3, (.int .i64 x3)), (5, (.int .u8 128)), (6, (.int .u8 191)), (7, (.int .u8 (Au.toNat : Int))), (38, (.bool (decide (((Au.toNat : Int) : Int) ≤ 244))))] fun J => ?_
       cases hb : (decide (((Au.toNat : Int) : Int) ≤ 244)) with
       | true =>
        replace h := h.1 (of_decide_eq_true hb)
        refine At.cT 38 YQ cC ?_
        refine At.s wK nM ?_
        refine At.rg 19 [0] ?_
        refine Seq.u 4 (.int .i64 3) (Seq.done ?_)
        refine At.s zp nN ?_
        refine At.rg 20 [0, 1] ?_
        refine Seq.us [(45, .int .u8 (Au.toNat : Int)), (46, .bool (decide (((Au.toNat : Int) : Int) = 240)))] (Seq.done ?_)
        cases hb : (decide (((Au.toNat : Int) : Int) = 240)) with
        | true =>
         replace h := h.1 (of_decide_eq_true hb)
         refine At.cT 46 nO cB ?_
         refine At.rg 21 [0] ?_
         refine Seq.u 5 (.int .u8 144) (Seq.done ?_)
         refine At.inBlock ?_
         refine At.s Sx RV ?_
         exact At.v [(0, (.string s0)), (3, (.int .i64 x3)), (4, (.int .i64 3)), (5, (.int .u8 144)), (6, (.int .u8 191))] (h _)
        | false =>
         replace h := h.2 (of_decide_eq_false hb)
         refine At.cF 46 nO cB ?_
         refine At.s zq sa ?_
         refine At.rg 22 [0, 1] ?_
         refine Seq.us [(47, .int .u8 (Au.toNat : Int)), (48, .bool (decide (((Au.toNat : Int) : Int) = 244)))] (Seq.done ?_)
         cases hb : (decide (((Au.toNat : Int) : Int) = 244)) with
         | true =>
          replace h := h.1 (of_decide_eq_true hb)
          refine At.cT 48 sc sd ?_
          refine At.rg 23 [0] ?_
          refine Seq.u 6 (.int .u8 143) (Seq.done ?_)
          refine At.inBlock ?_
          refine At.s Sx RV ?_
          exact At.v [(0, (.string s0)), (3, (.int .i64 x3)), (4, (.int .i64 3)), (5, (.int .u8 128)), (6, (.int .u8 143))] (h _)
         | false =>
          replace h := h.2 (of_decide_eq_false hb)
          refine At.cF 48 sc sd ?_
          refine At.skip ?_
          refine At.inBlock ?_
          refine At.s Sx RV ?_
          exact At.v [(0, (.string s0)), (3, (.int .i64 x3)), (4, (.int .i64 3)), (5, (.int .u8 128)), (6, (.int .u8 191))] (h _)
       | false =>
        replace h := h.2 (of_decide_eq_false hb)
        refine At.cF 38 YQ cC ?_
        refine At.s se sf ?_
        refine At.rg 7 [0] ?_
        refine Seq.u 2 (.bool false) (Seq.done ?_)
        exact At.rt [.tmp 2] [(.bool false)] func307 ⟨_, rfl, rfl⟩ h
      | false =>
       replace h := h.2 (of_decide_eq_false hb)
       refine Seq.n 42 ?_
       refine Seq.n 43 ?_
       refine Seq.us [(44, .bool false), (38, .bool false)] (Seq.done ?_)
       refine At.cF 38 YQ cC ?_
       refine At.s se sf ?_
       refine At.rg 7 [0] ?_
       refine Seq.u 2 (.bool false) (Seq.done ?_)
       exact At.rt [.tmp 2] [(.bool false)] func307 ⟨_, rfl, rfl⟩ h
   | false =>
    replace h := h.2 (of_decide_eq_false hb)
    refine Seq.n 24 ?_
    refine Seq.n 25 ?_
    refine Seq.us [(26, .bool false), (20, .bool false)] (Seq.done ?_)
    refine At.cF 20 YO cA ?_
    refine At.s iK iL ?_
    refine At.rg 12 [0, 1, 2, 3, 4, 5, 6] ?_
    refine Seq.us [(28, .int .u8 (Au.toNat : Int)), (29, .bool (decide ((224 : Int) ≤ (Au.toNat : Int)))), (30, .bool (decide ((224 : Int) ≤ (Au.toNat : Int))))] ?_
    cases hb : (decide ((224 : Int) ≤ (Au.toNat : Int))) with
    | true =>
     replace h := h.1 (of_decide_eq_true hb)
     refine Seq.us [(31, .int .u8 (Au.toNat : Int)), (32, .bool (decide (((Au.toNat : Int) : Int) ≤ 239))), (33, .bool (decide (((Au.toNat : Int) : Int) ≤ 239))), (27, .bool (decide (((Au.toNat : Int) : Int) ≤ 239)))] (Seq.done ?_)
     cases hb : (decide (((Au.toNat : Int) : Int) ≤ 239)) with
     | true =>
      replace h := h.1 (of_decide_eq_true hb)
      refine At.cT 27 nK nL ?_
      refine At.s K37 sT ?_
      refine At.rg 13 [0] ?_
      refine Seq.u 4 (.int .i64 2) (Seq.done ?_)
      refine At.s K39 sU ?_
      refine At.rg 14 [0, 1] ?_
      refine Seq.us [(34, .int .u8 (Au.toNat : Int)), (35, .bool (decide (((Au.toNat : Int) : Int) = 224)))] (Seq.done ?_)
      cases hb : (decide (((Au.toNat : Int) : Int) = 224)) with
      | true =>
       replace h := h.1 (of_decide_eq_true hb)
       refine At.cT 35 sV sW ?_
       refine At.rg 15 [0] ?_
       refine Seq.u 5 (.int .u8 160) (Seq.done ?_)
       refine At.inBlock ?_
       refine At.s Sx RV ?_
       exact At.v [(0, (.string s0)), (3, (.int .i64 x3)), (4, (.int .i64 2)), (5, (.int .u8 160)), (6, (.int .u8 191))] (h _)
      | false =>
       replace h := h.2 (of_decide_eq_false hb)
       refine At.cF 35 sV sW ?_
       refine At.s zo ou ?_
       refine At.rg 16 [0, 1] ?_
       refine Seq.us [(36, .int .u8 (Au.toNat : Int)), (37, .bool (decide (((Au.toNat : Int) : Int) = 237)))] (Seq.done ?_)
       cases hb : (decide (((Au.toNat : Int) : Int) = 237)) with
       | true =>
        replace h := h.1 (of_decide_eq_true hb)
        refine At.cT 37 wJ sX ?_
        refine At.rg 17 [0] ?_
        refine Seq.u 6 (.int .u8 159) (Seq.done ?_)
        refine At.L [(0, (.string s0)), (3, (.int .i64 x3)), (4, (.int .i64 2)), (5, (.int .u8 128)), (6, (.int .u8 159))] fun J => ?_
        refine At.inBlock ?_
        refine At.s Sx RV ?_
        exact At.v [(0, (.string s0)), (3, (.int .i64 x3)), (4, (.int .i64 2)), (5, (.int .u8 128)), (6, (.int .u8 159))] (h _)
       | false =>
        replace h := h.2 (of_decide_eq_false hb)
        refine At.cF 37 wJ sX ?_
        refine At.skip ?_
        refine At.inBlock ?_
        refine At.s Sx RV ?_
        exact At.v [(0, (.string s0)), (3, (.int .i64 x3)), (4, (.int .i64 2)), (5, (.int .u8 128)), (6, (.int .u8 191))] (h _)
     | false =>
      replace h := h.2 (of_decide_eq_false hb)
      refine At.cF 27 nK nL ?_
      refine At.s sY sZ ?_
      refine At.rg 18 [0, 1, 2, 3, 4, 5, 6] ?_
      refine Seq.us [(39, .int .u8 (Au.toNat : Int)), (40, .bool (decide ((240 : Int) ≤ (Au.toNat : Int)))), (41, .bool (decide ((240 : Int) ≤ (Au.toNat : Int))))] ?_
      cases hb : (decide ((240 : Int) ≤ (Au.toNat : Int))) with
      | true =>
       replace h := h.1 (of_decide_eq_true hb)
       refine Seq.us [(42, .int .u8 (Au.toNat : Int)), (43, .bool (decide (((Au.toNat : Int) : Int) ≤ 244))), (44, .bool (decide (((Au.toNat : Int) : Int) ≤ 244))), (38, .bool (decide (((Au.toNat : Int) : Int) ≤ 244)))] (Seq.done ?_)
       cases hb : (decide (((Au.toNat : Int) : Int) ≤ 244)) with
       | true =>
        replace h := h.1 (of_decide_eq_true hb)
        refine At.cT 38 YQ cC ?_
        refine At.s wK nM ?_
        refine At.rg 19 [0] ?_
        refine Seq.u 4 (.int .i64 3) (Seq.done ?_)
        refine At.s zp nN ?_
        refine At.rg 20 [0, 1] ?_
        refine Seq.us [(45, .int .u8 (Au.toNat : Int)), (46, .bool (decide (((Au.toNat : Int) : Int) = 240)))] (Seq.done ?_)
        cases hb : (decide (((Au.toNat : Int) : Int) = 240)) with
        | true =>
         replace h := h.1 (of_decide_eq_true hb)
         refine At.cT 46 nO cB ?_
         refine At.rg 21 [0] ?_
         refine Seq.u 5 (.int .u8 144) (Seq.done ?_)
         refine At.inBlock ?_
         refine At.s Sx RV ?_
         exact At.v [(0, (.string s0)), (3, (.int .i64 x3)), (4, (.int .i64 3)), (5, (.int .u8 144)), (6, (.int .u8 191))] (h _)
        | false =>
         replace h := h.2 (of_decide_eq_false hb)
         refine At.cF 46 nO cB ?_
         refine At.s zq sa ?_
         refine At.rg 22 [0, 1] ?_
         refine Seq.us [(47, .int .u8 (Au.toNat : Int)), (48, .bool (decide (((Au.toNat : Int) : Int) = 244)))] (Seq.done ?_)
         cases hb : (decide (((Au.toNat : Int) : Int) = 244)) with
         | true =>
          replace h := h.1 (of_decide_eq_true hb)
          refine At.cT 48 sc sd ?_
          refine At.rg 23 [0] ?_
          refine Seq.u 6 (.int .u8 143) (Seq.done ?_)
          refine At.inBlock ?_
          refine At.s Sx RV ?_
          exact At.v [(0, (.string s0)), (3, (.int .i64 x3)), (4, (.int .i64 3)), (5, (.int .u8 128)), (6, (.int .u8 143))] (h _)
         | false =>
          replace h := h.2 (of_decide_eq_false hb)
          refine At.cF 48 sc sd ?_
          refine At.skip ?_
          refine At.inBlock ?_
          refine At.s Sx RV ?_
          exact At.v [(0, (.string s0)), (3, (.int .i64 x3)), (4, (.int .i64 3)), (5, (.int .u8 128)), (6, (.int .u8 191))] (h _)
       | false =>
        replace h := h.2 (of_decide_eq_false hb)
        refine At.cF 38 YQ cC ?_
        refine At.s se sf ?_
        refine At.rg 7 [0] ?_
        refine Seq.u 2 (.bool false) (Seq.done ?_)
        exact At.rt [.tmp 2] [(.bool false)] func307 ⟨_, rfl, rfl⟩ h
      | false =>
       replace h := h.2 (of_decide_eq_false hb)
       refine Seq.n 42 ?_
       refine Seq.n 43 ?_
       refine Seq.us [(44, .bool false), (38, .bool false)] (Seq.done ?_)
       refine At.cF 38 YQ cC ?_
       refine At.s se sf ?_
       refine At.rg 7 [0] ?_
       refine Seq.u 2 (.bool false) (Seq.done ?_)
       exact At.rt [.tmp 2] [(.bool false)] func307 ⟨_, rfl, rfl⟩ h
    | false =>
     replace h := h.2 (of_decide_eq_false hb)
     refine Seq.n 31 ?_
     refine Seq.n 32 ?_
     refine Seq.us [(33, .bool false), (27, .bool false)] (Seq.done ?_)
     refine At.cF 27 nK nL ?_
     refine At.s sY sZ ?_
     refine At.rg 18 [0, 1, 2, 3, 4, 5, 6] ?_
     refine Seq.us [(39, .int .u8 (Au.toNat : Int)), (40, .bool (decide ((240 : Int) ≤ (Au.toNat : Int)))), (41, .bool (decide ((240 : Int) ≤ (Au.toNat : Int))))] ?_
     cases hb : (decide ((240 : Int) ≤ (Au.toNat : Int))) with
     | true =>
      replace h := h.1 (of_decide_eq_true hb)
      refine Seq.us [(42, .int .u8 (Au.toNat : Int)), (43, .bool (decide (((Au.toNat : Int) : Int) ≤ 244))), (44, .bool (decide (((Au.toNat : Int) : Int) ≤ 244))), (38, .bool (decide (((Au.toNat : Int) : Int) ≤ 244)))] (Seq.done ?_)
      cases hb : (decide (((Au.toNat : Int) : Int) ≤ 244)) with
      | true =>
       replace h := h.1 (of_decide_eq_true hb)
       refine At.cT 38 YQ cC ?_
       refine At.s wK nM ?_
       refine At.rg 19 [0] ?_
       refine Seq.u 4 (.int .i64 3) (Seq.done ?_)
       refine At.s zp nN ?_
       refine At.rg 20 [0, 1] ?_
       refine Seq.us [(45, .int .u8 (Au.toNat : Int)), (46, .bool (decide (((Au.toNat : Int) : Int) = 240)))] (Seq.done ?_)
       refine At.L [(0, (.string s0)), (3, (.int .i64 x3)), (4, (.int .i64 3)), (5, (.int .u8 128)), (6, (.int .u8 191)), (7, (.int .u8 (Au.toNat : Int))), (46, (.bool (decide (((Au.toNat : Int) : Int) = 240))))] fun J => ?_
       cases hb : (decide (((Au.toNat : Int) : Int) = 240)) with
       | true =>
        replace h := h.1 (of_decide_eq_true hb)
        refine At.cT 46 nO cB ?_
        refine At.rg 21 [0] ?_
        refine Seq.u 5 (.int .u8 144) (Seq.done ?_)
        refine At.inBlock ?_
        refine At.s Sx RV ?_
        exact At.v [(0, (.string s0)), (3, (.int .i64 x3)), (4, (.int .i64 3)), (5, (.int .u8 144)), (6, (.int .u8 191))] (h _)
       | false =>
        replace h := h.2 (of_decide_eq_false hb)
        refine At.cF 46 nO cB ?_
        refine At.s zq sa ?_
        refine At.rg 22 [0, 1] ?_
        refine Seq.us [(47, .int .u8 (Au.toNat : Int)), (48, .bool (decide (((Au.toNat : Int) : Int) = 244)))] (Seq.done ?_)
        cases hb : (decide (((Au.toNat : Int) : Int) = 244)) with
        | true =>
         replace h := h.1 (of_decide_eq_true hb)
         refine At.cT 48 sc sd ?_
         refine At.rg 23 [0] ?_
         refine Seq.u 6 (.int .u8 143) (Seq.done ?_)
         refine At.inBlock ?_
         refine At.s Sx RV ?_
         exact At.v [(0, (.string s0)), (3, (.int .i64 x3)), (4, (.int .i64 3)), (5, (.int .u8 128)), (6, (.int .u8 143))] (h _)
        | false =>
         replace h := h.2 (of_decide_eq_false hb)
         refine At.cF 48 sc sd ?_
         refine At.skip ?_
         refine At.inBlock ?_
         refine At.s Sx RV ?_
         exact At.v [(0, (.string s0)), (3, (.int .i64 x3)), (4, (.int .i64 3)), (5, (.int .u8 128)), (6, (.int .u8 191))] (h _)
      | false =>
       replace h := h.2 (of_decide_eq_false hb)
       refine At.cF 38 YQ cC ?_
       refine At.s se sf ?_
       refine At.rg 7 [0] ?_
       refine Seq.u 2 (.bool false) (Seq.done ?_)
       exact At.rt [.tmp 2] [(.bool false)] func307 ⟨_, rfl, rfl⟩ h
     | false =>
      replace h := h.2 (of_decide_eq_false hb)
      refine Seq.n 42 ?_
      refine Seq.n 43 ?_
      refine Seq.us [(44, .bool false), (38, .bool false)] (Seq.done ?_)
      refine At.cF 38 YQ cC ?_
      refine At.s se sf ?_
      refine At.rg 7 [0] ?_
      refine Seq.u 2 (.bool false) (Seq.done ?_)
      exact At.rt [.tmp 2] [(.bool false)] func307 ⟨_, rfl, rfl⟩ h
theorem ow {R : Rr} {s0 : ByteArray} {x3 x4 x5 x6 : Int} {σ : Hp} (h : AN (x3 + 1) ∧ ov R s0 ((x3 + 1)) x4 x5 x6 σ) : Ev R s0 x3 x4 x5 x6 σ := by
 intro J
 show At (gl R) _ _ _ _
 refine At.rg 24 [0, 1, 2] ?_
 refine Seq.u 49 (.int .i64 x3) ?_
 obtain ⟨hi, h⟩ := h
 refine Seq.z 50 (.binOp .add 3 (.tmp 49) (.const (.int .i64 1)) 3) 3 (.int .i64 (x3 + 1)) (Y.Pe hi rfl rfl) ?_
 refine Seq.u 3 (.int .i64 (x3 + 1)) (Seq.done ?_)
 refine At.s K67 K68 ?_
 refine At.label (l := 1) ?_
 refine At.s K69 K74 (At.s K70 K71 ?_)
 exact At.v [(0, (.string s0)), (3, (.int .i64 (x3 + 1))), (4, (.int .i64 x4)), (5, (.int .u8 x5)), (6, (.int .u8 x6))] (h _)
theorem cD {R : Rr} {s0 : ByteArray} {x3 x4 x5 x6 : Int} {σ : Hp} (h : ((x4 : Int) = 0 → Bu R s0 x3 σ) ∧ (¬ ((x4 : Int) = 0) → ((x3 : Int) = ((ByteArray.size s0 : Nat) : Int) → R (.returned (.bool false)) σ) ∧ (¬ ((x3 : Int) = ((ByteArray.size s0 : Nat) : Int)) → ∃ ox : UInt8, (0 : Int) ≤ x3 ∧ (ByteArray.data s0)[Int.toNat x3]? = some ox ∧ ((((UInt8.toNat ox : Nat) : Int) : Int) < x5 → R (.returned (.bool false)) σ) ∧ (¬ ((((UInt8.toNat ox : Nat) : Int) : Int) < x5) → ∃ oy : UInt8, (0 : Int) ≤ x3 ∧ (ByteArray.data s0)[Int.toNat x3]? = some oy ∧ ((x6 : Int) < ((UInt8.toNat oy : Nat) : Int) → R (.returned (.bool false)) σ) ∧ (¬ ((x6 : Int) < ((UInt8.toNat oy : Nat) : Int)) → AN (x4 - 1) ∧ AN (x3 + 1) ∧ ov R s0 ((x3 + 1)) ((x4 - 1)) 128 191 σ))))) : ov R s0 x3 x4 x5 x6 σ := by
 intro J
 show At (gl R) _ _ _ _
 refine At.rg 25 [0, 1] ?_
 refine Seq.us [(51, .int .i64 x4), (52, .bool (decide ((x4 : Int) = 0)))] (Seq.done ?_)
 cases hb : (decide ((x4 : Int) = 0)) with
 | true =>
  replace h := h.1 (of_decide_eq_true hb)
  refine At.cT 52 K72 K73 ?_
  refine At.goto (i := 0) (k' := [.code (.seq .skip K9), .inScope K3]) (by kernel_rfl) (by kernel_rfl) ?_
  refine At.s .skip K9 (At.skip ?_)
  refine At.s Lm N5 (At.s Ss MM ?_)
  exact At.v [(0, (.string s0)), (3, (.int .i64 x3))] (h _)
 | false =>
  replace h := h.2 (of_decide_eq_false hb)
  refine At.cF 52 K72 K73 ?_
  refine At.skip ?_
  refine At.s K75 K82 (At.s K76 K77 ?_)
  refine At.rg 26 [0, 1, 2, 3, 4, 5, 6, 7, 8, 9, 10, 11, 12, 13, 14, 15, 16, 17] ?_
  refine Seq.us [(53, .int .i64 x3), (54, .string s0)] ?_
  refine Seq.z 55 (.call { callee := .builtin .len, args := #[(.tmp 54)], argTypes := #[9] }) 3 (.int .i64 ((ByteArray.size s0 : Nat) : Int)) (Y.Yq underlying9 rfl rfl) ?_
  refine Seq.us [(56, .bool (decide ((x3 : Int) = ((ByteArray.size s0 : Nat) : Int)))), (57, .bool (decide ((x3 : Int) = ((ByteArray.size s0 : Nat) : Int))))] ?_
  cases hb : (decide ((x3 : Int) = ((ByteArray.size s0 : Nat) : Int))) with
  | true =>
   replace h := h.1 (of_decide_eq_true hb)
   refine Seq.n 58 ?_
   refine Seq.n 59 ?_
   refine Seq.n 60 ?_
   refine Seq.n 61 ?_
   refine Seq.n 62 ?_
   refine Seq.us [(63, .bool true), (64, .bool true)] ?_
   refine Seq.n 65 ?_
   refine Seq.n 66 ?_
   refine Seq.n 67 ?_
   refine Seq.n 68 ?_
   refine Seq.n 69 ?_
   refine Seq.u 70 (.bool true) (Seq.done ?_)
   refine At.cT 70 zr K81 ?_
   refine At.s K79 K80 ?_
   refine At.rg 27 [0] ?_
   refine Seq.u 2 (.bool false) (Seq.done ?_)
   exact At.rt [.tmp 2] [(.bool false)] func307 ⟨_, rfl, rfl⟩ h
  | false =>
   replace h := h.2 (of_decide_eq_false hb)
   refine Seq.us [(58, .string s0), (59, .int .i64 x3)] ?_
   obtain ⟨ox, h0, hv, h⟩ := h
   refine Seq.zg 60 (.index 9 (.tmp 58) (.tmp 59)) 5 (4, false) (.int .u8 (ox.toNat : Int)) (Y.Tn underlying9 rfl rfl h0 hv) ?_
   refine Seq.us [(61, .int .u8 x5), (62, .bool (decide (((ox.toNat : Int) : Int) < x5))), (63, .bool (decide (((ox.toNat : Int) : Int) < x5))), (64, .bool (decide (((ox.toNat : Int) : Int) < x5)))] ?_
   cases hb : (decide (((ox.toNat : Int) : Int) < x5)) with
   | true =>
    replace h := h.1 (of_decide_eq_true hb)
    refine Seq.n 65 ?_
    refine Seq.n 66 ?_
    refine Seq.n 67 ?_
    refine Seq.n 68 ?_
    refine Seq.n 69 ?_
    refine Seq.u 70 (.bool true) (Seq.done ?_)
    refine At.cT 70 zr K81 ?_
    refine At.s K79 K80 ?_
    refine At.rg 27 [0] ?_
    refine Seq.u 2 (.bool false) (Seq.done ?_)
    exact At.rt [.tmp 2] [(.bool false)] func307 ⟨_, rfl, rfl⟩ h
   | false =>
    replace h := h.2 (of_decide_eq_false hb)
    refine Seq.us [(65, .string s0), (66, .int .i64 x3)] ?_
    obtain ⟨oy, h0, hv, h⟩ := h
    refine Seq.zg 67 (.index 9 (.tmp 65) (.tmp 66)) 5 (11, false) (.int .u8 (oy.toNat : Int)) (Y.Tn underlying9 rfl rfl h0 hv) ?_
    refine Seq.us [(68, .int .u8 x6), (69, .bool (decide ((x6 : Int) < (oy.toNat : Int)))), (70, .bool (decide ((x6 : Int) < (oy.toNat : Int))))] (Seq.done ?_)
    refine At.L [(0, (.string s0)), (3, (.int .i64 x3)), (4, (.int .i64 x4)), (70, (.bool (decide ((x6 : Int) < (oy.toNat : Int)))))] fun J => ?_
    cases hb : (decide ((x6 : Int) < (oy.toNat : Int))) with
    | true =>
     replace h := h.1 (of_decide_eq_true hb)
     refine At.cT 70 zr K81 ?_
     refine At.s K79 K80 ?_
     refine At.rg 27 [0] ?_
     refine Seq.u 2 (.bool false) (Seq.done ?_)
     exact At.rt [.tmp 2] [(.bool false)] func307 ⟨_, rfl, rfl⟩ h
    | false =>
     replace h := h.2 (of_decide_eq_false hb)
     refine At.cF 70 zr K81 ?_
     refine At.skip ?_
     refine At.s K83 K84 ?_
     refine At.rg 28 [0, 1] ?_
     refine Seq.us [(5, .int .u8 128), (6, .int .u8 191)] (Seq.done ?_)
     refine At.s K85 K86 ?_
     refine At.rg 29 [0, 1, 2] ?_
     refine Seq.u 71 (.int .i64 x4) ?_
     obtain ⟨hi, h⟩ := h
     refine Seq.z 72 (.binOp .sub 3 (.tmp 71) (.const (.int .i64 1)) 3) 3 (.int .i64 (x4 - 1)) (Y.oK hi rfl rfl) ?_
     refine Seq.u 4 (.int .i64 (x4 - 1)) (Seq.done ?_)
     refine At.s K87 K88 ?_
     refine At.rg 30 [0, 1, 2] ?_
     refine Seq.u 73 (.int .i64 x3) ?_
     obtain ⟨hi, h⟩ := h
     refine Seq.z 74 (.binOp .add 3 (.tmp 73) (.const (.int .i64 1)) 3) 3 (.int .i64 (x3 + 1)) (Y.Pe hi rfl rfl) ?_
     refine Seq.u 3 (.int .i64 (x3 + 1)) (Seq.done ?_)
     refine At.goto (i := 1) (k' := [.code (.seq .skip K68), .inScope K3]) (by kernel_rfl) (by kernel_rfl) ?_
     refine At.s .skip K68 (At.skip ?_)
     refine At.s K69 K74 (At.s K70 K71 ?_)
     exact At.v [(0, (.string s0)), (3, (.int .i64 (x3 + 1))), (4, (.int .i64 (x4 - 1))), (5, (.int .u8 128)), (6, (.int .u8 191))] (h _)
end BO
namespace Cr
variable {s0 s1 : ByteArray}
def M : Fw := ⟨prog, 317, f317, [169], [], false, [], [], []⟩
theorem ok : M.Ok := ⟨.cons call169 (AK.nil), mixed, func317, by kernel_rfl⟩
theorem start (h : Spec prog 169 #[.string s0, .string s1] σ (AB R (CB fun t8 y => Bn t8 (R (.returned (.tuple #[.string s0, .bool false])) y) (∃ cE, YF prog (Instr.sliceAt 9 (.string s0) (some (.int .i64 ((ByteArray.size s1 : Nat) : Int))) none none) y (.string cE) ∧ R (.returned (.tuple #[.string cE, .bool true])) y)))) : Spec prog 317 #[.string s0, .string s1] σ R := M.start h ok
end Cr
namespace AL
variable {p0 : Option Addr} {n0 c0 : Nat} {x1 x2 x6 x7 : Int}
def M : Fw := ⟨prog, 322, f322, [328], [], false, [(6, 17, false)], [], [(48, [(0, wL), (1, wI), (2, wI), (6, wI)]), (3216, [(0, wL), (1, wI), (2, wI), (6, wI), (7, wI)])]⟩
theorem ok : M.Ok := ⟨.cons call328 (AK.nil), mixed, func322, by kernel_rfl⟩
def ZW := M.pt 0
def GR := M.pt 1
theorem start (h : AN (x1 + 1) ∧ ZW R p0 n0 c0 x1 x2 (x1 + 1) σ) : Spec prog 322 #[.slice p0 n0 c0, .int .i64 x1, .int .i64 x2] σ R := M.start h ok
theorem Ln (h : Br (x6 < x2) (GR R p0 n0 c0 x1 x2 x6 x6 σ) (R (.returned (.tuple #[])) σ)) : ZW R p0 n0 c0 x1 x2 x6 σ := M.of h ok rfl
theorem GS (h : Br (x1 < x7) (Pq p0 fun NW WL => In x7 (n0 : Int) ∧ LI .u32 σ NW (WL + Int.toNat x7 * 1) fun Sp => AN (x7 - 1) ∧ In (x7 - 1) (n0 : Int) ∧ LI .u32 σ NW (WL + Int.toNat (x7 - 1) * 1) fun Gq => Spec prog 328 #[.int .u32 Sp, .int .u32 Gq] σ (AB R (CB fun t29 y => Bo t29 (AN (x7 - 1) ∧ AN (x7 - 1) ∧ In (x7 - 1) (n0 : Int) ∧ LI .u32 y NW (WL + Int.toNat (x7 - 1) * 1) fun x42 => In x7 (n0 : Int) ∧ LI .u32 y NW (WL + Int.toNat x7 * 1) fun ef => In x7 (n0 : Int) ∧ AJ prog (Instr.storeAt 70 (.pointer (aD NW (WL + Int.toNat x7 * 1))) (.int .u32 x42)) y (fun _ AI => In (x7 - 1) (n0 : Int) ∧ AJ prog (Instr.storeAt 70 (.pointer (aD NW (WL + Int.toNat (x7 - 1) * 1))) (.int .u32 ef)) AI (fun _ AZ => AN (x7 - 1) ∧ GR R (aD NW WL) n0 c0 x1 x2 x6 (x7 - 1) AZ))) (AN (x6 + 1) ∧ ZW R (aD NW WL) n0 c0 x1 x2 (x6 + 1) y)))) (AN (x6 + 1) ∧ ZW R p0 n0 c0 x1 x2 (x6 + 1) σ)) : GR R p0 n0 c0 x1 x2 x6 x7 σ := M.of h ok rfl
end AL
end TwW
end
end
section
set_option maxRecDepth 100000
noncomputable section
namespace TwW
open Go Tw Go.Proofs.Tryz
variable [Iq] {R : Rr} {σ : Hp}

namespace IH
variable {p0 p7 : Option Addr} {n0 c0 n7 c7 : Nat} {s1 : ByteArray} {x8 x9 : Int}
def M : Fw := ⟨prog, 21, f21, [], [6], false, [], [], [(104, [(1, wT), (7, wL), (8, wI), (9, wI)])]⟩
theorem ok : M.Ok := ⟨AK.nil, mixed, func21, by kernel_rfl⟩
def NY := M.pt 0
theorem start (h : NY R s1 p0 n0 c0 (n0 : Int) 0 σ) : Spec prog 21 #[.slice p0 n0 c0, .string s1] σ R := M.start h ok
theorem D7 (h : Br (x9 < x8) (Pq p7 fun EB GU => In x9 (n7 : Int) ∧ ∃ WM ABK, Dn σ EB (GU + Int.toNat x9 * 2) [.string WM, .string ABK] ∧ ∀ b6 : Nat, Bo (ByteArray.toList WM == ByteArray.toList s1) (R (.returned (.string ABK)) σ) (AN (x9 + 1) ∧ NY R s1 (aD EB GU) n7 c7 x8 (x9 + 1) σ)) (R (.returned (.string (ByteArray.mk #[]))) σ)) : NY R s1 p7 n7 c7 x8 x9 σ := M.of h ok rfl
end IH
namespace QD
variable {p0 : Option Addr} {n0 c0 : Nat}
def M : Fw := ⟨prog, 24, f24, [56, 57], [], false, [], [], []⟩
theorem ok : M.Ok := ⟨.cons call56 (.cons call57 (AK.nil)), mixed, func24, by kernel_rfl⟩
theorem start (h : Spec prog 57 #[.slice p0 n0 c0] σ (AB R (CS fun p4 n4 c4 y => Spec prog 56 #[.slice p4 n4 c4] y (AB R (CI .u32 fun x5 AI => R (.returned (.int .u32 x5)) AI))))) : Spec prog 24 #[.slice p0 n0 c0] σ R := M.start h ok
end QD
namespace LC
variable {En x1 : Int} {HF : Option Addr} {GL HG : Nat}
def M : Fw := ⟨prog, 46, f46, [100], [2, 4], false, [], [], []⟩
theorem ok : M.Ok := ⟨.cons call100 (AK.nil), mixed, func46, by kernel_rfl⟩
theorem start (h : ∀ b2 : Nat, ∀ b4 : Nat, Spec prog 100 #[.agg #[.int .u64 En, .slice HF GL HG], .int .i64 x1, (.func (.func 102) #[] #[])] σ (AB R (fun z y => ∃ jk jl jm jn x8b, z = (.tuple #[.agg #[.int .u64 jk, .slice jl jm jn], .int .i64 x8b]) ∧ R (.returned (.tuple #[.agg #[.int .u64 jk, .slice jl jm jn], .int .i64 x8b])) y))) : Spec prog 46 #[.agg #[.int .u64 En, .slice HF GL HG], .int .i64 x1] σ R := M.start h ok
end LC
namespace slices_Contains_int
variable {p0 : Option Addr} {n0 c0 : Nat} {x1 : Int}
def M : Fw := ⟨prog, 50, f50, [114], [], false, [], [], []⟩
theorem ok : M.Ok := ⟨.cons call114 (AK.nil), mixed, func50, by kernel_rfl⟩
theorem start (h : Spec prog 114 #[.slice p0 n0 c0, .int .i64 x1] σ (AB R (CI .i64 fun x7 y => R (.returned (.bool (decide (0 ≤ x7)))) y))) : Spec prog 50 #[.slice p0 n0 c0, .int .i64 x1] σ R := M.start h ok
end slices_Contains_int
namespace Gs
variable {En x8 x9 : Int} {HF p3 p7 : Option Addr} {GL HG n3 c3 n7 c7 : Nat}
def M : Fw := ⟨prog, 54, f54, [117, 118, 119], [1, 5], false, [], [], [(232, [(3, wL), (7, wL), (8, wI), (9, wI)])]⟩
theorem ok : M.Ok := ⟨.cons call117 (.cons call118 (.cons call119 (AK.nil))), mixed, func54, by kernel_rfl⟩
def A4 := M.pt 0
theorem start (h : ∀ b1 : Nat, A4 R none 0 0 HF GL HG (GL : Int) 0 σ) : Spec prog 54 #[.agg #[.int .u64 En, .slice HF GL HG]] σ R := M.start h ok
theorem AW (h : Br (x9 < x8) (Pq p7 fun EB GU => In x9 (n7 : Int) ∧ ∃ UN NX ABM oz ABN, Dn σ EB (GU + Int.toNat x9 * 3) [.int .i64 UN, .int .i64 NX, .slice ABM oz ABN] ∧ ∀ b5 : Nat, Al σ fun KY => AJ prog (Builtin.append_ #[26, 26] 26 #[.slice p3 n3 c3, (.slice (aD KY 0) 1 1)]) (Hp.set σ KY (.cells #[.int .i64 UN] 3 (0, 0))) (CS fun VL n17 VM y => Spec prog 117 #[.int .i64 UN] y (AB R (CB fun t20 AI => Bn t20 (R (.returned (.int .i64 130)) AI) (Br (NX < 1) (R (.returned (.int .i64 130)) AI) (Br (3 < NX) (R (.returned (.int .i64 130)) AI) (Br ((oz : Int) = 0) (R (.returned (.int .i64 130)) AI) (Br (64 < (oz : Int)) (R (.returned (.int .i64 130)) AI) (Spec prog 118 #[.slice ABM oz ABN] AI (AB R (CB fun t47 AZ => Bn t47 (R (.returned (.int .i64 130)) AZ) (AN (x9 + 1) ∧ A4 R VL n17 VM (aD EB GU) n7 c7 x8 (x9 + 1) AZ)))))))))))) (Spec prog 119 #[.slice p3 n3 c3] σ (AB R (CB fun t52 y => Bn t52 (R (.returned (.int .i64 130)) y) (R (.returned (.int .i64 0)) y))))) : A4 R p3 n3 c3 p7 n7 c7 x8 x9 σ := M.of h ok rfl
end Gs
namespace FP
variable {q0 : Option Addr} {s1 : ByteArray} {x6 : Int}
def M : Fw := ⟨prog, 62, f62, [], [], false, [(4, 22, true)], [], [(224, [(0, wQ), (1, wT), (6, wI)])]⟩
theorem ok : M.Ok := ⟨AK.nil, mixed, func62, by kernel_rfl⟩
def Jh := M.pt 0
theorem start (h : Jh R q0 s1 0 σ) : Spec prog 62 #[.pointer q0, .string s1] σ R := M.start h ok
theorem CU (h : Pq q0 fun b9 o9 => LS σ b9 (o9 + 1) fun WE n11 ZU => Br (x6 < (n11 : Int)) (LS σ b9 (o9 + 1) fun eR n18 nI => Pq eR fun BI cG => In x6 (n18 : Int) ∧ LT σ BI (cG + Int.toNat x6 * 3) fun nP => ∃ t24, YF prog ((do eqGuard .lss 9 (.tmp 22) (.tmp 23) (.string nP) (.string s1); binOp .lss 9 (.string nP) (.string s1))) σ (.bool t24) ∧ Bo t24 (AN (x6 + 1) ∧ Jh R (aD b9 o9) s1 (x6 + 1) σ) (LS σ b9 (o9 + 1) fun jo n33 jq => Br (x6 < (n33 : Int)) (LS σ b9 (o9 + 1) fun N6 n40 c40 => Pq N6 fun iM jr => In x6 (n40 : Int) ∧ LT σ iM (jr + Int.toNat x6 * 3) fun eh => R (.returned (.tuple #[.int .i64 x6, (.bool (ByteArray.toList eh == ByteArray.toList s1))])) σ) (R (.returned (.tuple #[.int .i64 x6, .bool false])) σ))) (LS σ b9 (o9 + 1) fun jo n33 jq => Br (x6 < (n33 : Int)) (LS σ b9 (o9 + 1) fun N6 n40 c40 => Pq N6 fun iM jr => In x6 (n40 : Int) ∧ LT σ iM (jr + Int.toNat x6 * 3) fun eh => R (.returned (.tuple #[.int .i64 x6, (.bool (ByteArray.toList eh == ByteArray.toList s1))])) σ) (R (.returned (.tuple #[.int .i64 x6, .bool false])) σ))) : Jh R q0 s1 x6 σ := M.of h ok rfl
end FP
namespace J3
variable {q0 p1 : Option Addr} {n1 c1 : Nat}
def M : Fw := ⟨prog, 63, f63, [128, 129], [], false, [], [], []⟩
theorem ok : M.Ok := ⟨.cons call128 (.cons call129 (AK.nil)), mixed, func63, by kernel_rfl⟩
theorem start (h : Al σ fun b2 => Spec prog 128 #[.slice p1 n1 c1] (Hp.set σ b2 (.cells #[.pointer q0] 158 (0, 0))) (AB R (fun z y => ∃ p9a n9a c9a wM, z = (.tuple #[.slice p9a n9a c9a, .int .i64 wM]) ∧ Al y fun b5 => AJ prog (Instr.storeAt 84 (.pointer (aD b5 0)) (.slice p9a n9a c9a)) (Hp.set y b5 (.cells #[.slice none 0 0] 84 (0, 0))) (fun _ AI => Br (wM ≠ 0) (R (.returned (.int .i64 70)) AI) (Spec prog 129 #[(.func (.func 130) #[] #[(.pointer (aD b2 0)), (.pointer (aD b5 0))])] AI (AB R (CI .i64 fun Hh AZ => R (.returned (.int .i64 Hh)) AZ))))))) : Spec prog 63 #[.pointer q0, .slice p1 n1 c1] σ R := M.start h ok
end J3
namespace GB
variable {q0 p1 p5 : Option Addr} {n1 c1 n5 c5 : Nat}
def M : Fw := ⟨prog, 69, f69, [71, 139, 140, 141], [], false, [], [], [(124, [(0, wQ), (5, wL)])]⟩
theorem ok : M.Ok := ⟨.cons call71 (.cons call139 (.cons call140 (.cons call141 (AK.nil)))), mixed, func69, by kernel_rfl⟩
def QE := M.pt 0
theorem start (h : Spec prog 139 #[.slice p1 n1 c1] σ (AB R (fun z y => ∃ wN wO wP ABO, z = (.tuple #[.slice wN wO wP, .int .i64 ABO]) ∧ Br (ABO ≠ 0) (R (.returned (.int .i64 70)) y) (Pq q0 fun Ro ei => LI .i64 y Ro (ei + 3) fun Iu => Br (4096 ≤ Iu) (Spec prog 71 #[(.pointer (aD Ro ei))] y (AB R (CI .i64 fun js AI => Br (js ≠ 0) (R (.returned (.int .i64 js)) AI) (LI .i64 AI Ro (ei + 2) fun UP => AN (UP + 1) ∧ AJ prog (Instr.storeAt 3 (.pointer (aD Ro (ei + 2))) (.int .i64 (UP + 1))) AI (fun _ AZ => AJ prog (Instr.storeAt 3 (.pointer (aD Ro (ei + 3))) (.int .i64 (-1))) AZ (fun _ Av => LI .i64 Av Ro (ei + 5) fun ej => AN (ej + 1) ∧ AJ prog (Instr.storeAt 3 (.pointer (aD Ro (ei + 5))) (.int .i64 (ej + 1))) Av (fun _ Cg => QE R (aD Ro ei) wN wO wP Cg))))))) (QE R (aD Ro ei) wN wO wP y))))) : Spec prog 69 #[.pointer q0, .slice p1 n1 c1] σ R := M.start h ok
theorem PL (h : Pq q0 fun WN YR => LQ σ WN YR fun wR => LI .i64 σ WN (YR + 2) fun YS => Spec prog 141 #[(.pointer (aD WN YR)), .int .i64 YS] σ (AB R (CT fun s52 y => Kp [WN] σ y ∧ Spec prog 140 #[.pointer wR, .string s52, .slice p5 n5 c5] y (AB R (CI .i64 fun ek AI => Br (ek ≠ 0) (R (.returned (.int .i64 ek)) AI) (LI .i64 AI WN (YR + 3) fun wS => AN ((if wS < 0 then 0 else wS) + (n5 : Int)) ∧ AJ prog (Instr.storeAt 3 (.pointer (aD WN (YR + 3))) (.int .i64 ((if wS < 0 then 0 else wS) + (n5 : Int)))) AI (fun _ AZ => R (.returned (.int .i64 0)) AZ))))))) : QE R q0 p5 n5 c5 σ := M.of h ok rfl
end GB
namespace JM
variable {q0 nQ : Option Addr} {eo : ByteArray} {nR nS : Nat} {ep : Int}
def M : Fw := ⟨prog, 72, f72, [62], [3], false, [(3, 7, true), (5, 16, false)], [], []⟩
theorem ok : M.Ok := ⟨.cons call62 (AK.nil), mixed, func72, by kernel_rfl⟩
theorem start (h : ∀ b3 : Nat, Spec prog 62 #[.pointer q0, .string eo] σ (AB R (fun z y => ∃ NZ ABP, z = (.tuple #[.int .i64 NZ, .bool ABP]) ∧ Bo ABP (Pq q0 fun KY UQ => LS y KY (UQ + 1) fun eR n18 nI => Pq eR fun nT o0 => In NZ (n18 : Int) ∧ AJ prog (Instr.storeAt 154 (.pointer (aD nT (o0 + Int.toNat NZ * 3))) (.agg #[.string eo, .slice nQ nR nS, .int .u64 ep])) y (fun _ AI => R (.returned (.tuple #[])) AI)) (Al y fun NW => Pq q0 fun M5 cH => LS (Hp.set y NW (.cells #[] 154 (0, 0))) M5 (cH + 1) fun WO n26 Sz => (0 ≤ NZ ∧ NZ ≤ (n26 : Int)) ∧ AJ prog (Builtin.append_ #[148, 148] 148 #[(.slice (aD NW 0) 0 0), (.slice (Dp WO (Int.toNat NZ) Sz 3) (n26 - Int.toNat NZ) (Sz - Int.toNat NZ))]) (Hp.set y NW (.cells #[] 154 (0, 0))) (CS fun eP n29 eQ AI => LS AI M5 (cH + 1) fun p35 n35 c35 => (0 ≤ NZ ∧ NZ ≤ (c35 : Int)) ∧ (Al AI fun Jp => (AJ prog (Builtin.append_ #[148, 148] 148 #[(.slice (aD Jp 0) 0 0), (.slice p35 (Int.toNat NZ) c35)]) (Hp.set AI Jp (.cells #[] 154 (0, 0))) (CS fun nU n38 nV AZ => Al AZ fun N7 => AJ prog (Builtin.append_ #[148, 148] 148 #[.slice nU n38 nV, (.slice (aD N7 0) 1 1)]) (Hp.set AZ N7 (.cells #[.string eo, .slice nQ nR nS, .int .u64 ep] 154 (0, 0))) (CS fun pA n41 nW Av => AJ prog (Builtin.append_ #[148, 148] 148 #[.slice pA n41 nW, .slice eP n29 eQ]) Av (CS fun UR n43 VN Cg => AJ prog (Instr.storeAt 148 (.pointer (aD M5 (cH + 1))) (.slice UR n43 VN)) Cg (fun _ FE => R (.returned (.tuple #[])) FE))))) ∧ (Al (Hp.set AI Jp (.cells #[] 154 (0, 0))) fun N7 => AJ prog (Builtin.append_ #[148, 148] 148 #[(.slice (aD Jp 0) 0 0), (.slice p35 (Int.toNat NZ) c35)]) (Hp.set (Hp.set AI Jp (.cells #[] 154 (0, 0))) N7 (.cells #[.string eo, .slice nQ nR nS, .int .u64 ep] 154 (0, 0))) (CS fun nU n38 nV AZ => AJ prog (Builtin.append_ #[148, 148] 148 #[.slice nU n38 nV, (.slice (aD N7 0) 1 1)]) AZ (CS fun pA n41 nW Av => AJ prog (Builtin.append_ #[148, 148] 148 #[.slice pA n41 nW, .slice eP n29 eQ]) Av (CS fun UR n43 VN Cg => AJ prog (Instr.storeAt 148 (.pointer (aD M5 (cH + 1))) (.slice UR n43 VN)) Cg (fun _ FE => R (.returned (.tuple #[])) FE)))))) ∧ (Al AI fun N7 => Al (Hp.set AI N7 (.cells #[.string eo, .slice nQ nR nS, .int .u64 ep] 154 (0, 0))) fun Jp => AJ prog (Builtin.append_ #[148, 148] 148 #[(.slice (aD Jp 0) 0 0), (.slice p35 (Int.toNat NZ) c35)]) (Hp.set (Hp.set AI N7 (.cells #[.string eo, .slice nQ nR nS, .int .u64 ep] 154 (0, 0))) Jp (.cells #[] 154 (0, 0))) (CS fun nU n38 nV AZ => AJ prog (Builtin.append_ #[148, 148] 148 #[.slice nU n38 nV, (.slice (aD N7 0) 1 1)]) AZ (CS fun pA n41 nW Av => AJ prog (Builtin.append_ #[148, 148] 148 #[.slice pA n41 nW, .slice eP n29 eQ]) Av (CS fun UR n43 VN Cg => AJ prog (Instr.storeAt 148 (.pointer (aD M5 (cH + 1))) (.slice UR n43 VN)) Cg (fun _ FE => R (.returned (.tuple #[])) FE)))))))))) : Spec prog 72 #[.pointer q0, .agg #[.string eo, .slice nQ nR nS, .int .u64 ep]] σ R := M.start h ok
end JM
namespace Ge
variable {q0 p9 Ou Jq : Option Addr} {s1 : ByteArray} {x7 Eb E7 : Int} {n9 c9 n10 Hj n12 c12 : Nat}
def M : Fw := ⟨prog, 97, f97, [147, 149, 150, 178, 179, 180, 181, 182, 183], [], false, [], [], [(510, [(0, wQ), (1, wT), (7, wI), (9, wL)]), (32720, [(0, wQ), (1, wT), (7, wI), (9, wL), (10, wL), (11, wI)]), (131024, [(0, wQ), (1, wT), (7, wI), (9, wL), (12, wL), (13, wI)]), (8190, [(0, wQ), (1, wT), (7, wI), (12, wL)]), (32723, [(0, wQ), (1, wT), (7, wI), (9, wL), (10, wL), (11, wI)])]⟩
theorem ok : M.Ok := ⟨.cons call147 (.cons call149 (.cons call150 (.cons call178 (.cons call179 (.cons call180 (.cons call181 (.cons call182 (.cons call183 (AK.nil))))))))), mixed, func97, by kernel_rfl⟩
def QF := M.pt 0
def ABQ := M.pt 1
def wW := M.pt 2
def wX := M.pt 3
def QG := M.pt 4
theorem start (h : Br ((32 : Int) < ((ByteArray.size s1 : Nat) : Int)) (R (.returned (.tuple #[.pointer none, .slice none 0 0, .int .i64 71])) σ) (Spec prog 178 #[.string s1] σ (AB R (CB fun t25 y => Bn t25 (R (.returned (.tuple #[.pointer none, .slice none 0 0, .int .i64 71])) y) (Pq q0 fun JN S4 => LB y JN (S4 + 1) fun t31 => Bo t31 (R (.returned (.tuple #[.pointer none, .slice none 0 0, .int .i64 60])) y) (Spec prog 179 #[(.pointer (aD JN S4)), .string s1] y (AB R (fun z AI => ∃ jt wY, z = (.tuple #[.int .i64 jt, .int .i64 wY]) ∧ Br (wY ≠ 0) (R (.returned (.tuple #[.pointer none, .slice none 0 0, .int .i64 wY])) AI) (Br (0 < jt) ((ByteArray.size s1 + ByteArray.size (ByteArray.mk #[47, 99]) ≤ 9223372036854775807) ∧ Spec prog 147 #[.int .i64 jt] AI (AB R (CT fun wZ AZ => (ByteArray.size (s1 ++ (ByteArray.mk #[47, 99])) + ByteArray.size wZ ≤ 9223372036854775807) ∧ Al AZ fun M6 => AJ prog (Builtin.append_ #[97, 97] 97 #[.slice none 0 0, (.slice (aD M6 0) 1 1)]) (Hp.set AZ M6 (.cells #[(.string ((s1 ++ (ByteArray.mk #[47, 99])) ++ wZ))] 9 (0, 0))) (CS fun Rp n50 S5 Av => QF R (aD JN S4) s1 jt Rp n50 S5 Av)))) (QF R (aD JN S4) s1 jt none 0 0 AI)))))))))) : Spec prog 97 #[.pointer q0, .string s1] σ R := M.start h ok
theorem US (h : (ByteArray.size s1 + ByteArray.size (ByteArray.mk #[47, 115]) ≤ 9223372036854775807) ∧ Spec prog 149 #[.pointer q0, (.string (s1 ++ (ByteArray.mk #[47, 115])))] σ (AB R (CS fun p54 n54 c54 y => ABQ R q0 s1 x7 p9 n9 c9 p54 n54 c54 0 y))) : QF R q0 s1 x7 p9 n9 c9 σ := M.of h ok rfl
theorem pB (h : Br (Eb < (n10 : Int)) (Pq Ou fun wc we => In Eb (n10 : Int) ∧ LT σ wc (we + Int.toNat Eb * 1) fun s64 => (ByteArray.size s1 + ByteArray.size (ByteArray.mk #[47, 115]) ≤ 9223372036854775807) ∧ Spec prog 150 #[.string s64, (.string (s1 ++ (ByteArray.mk #[47, 115])))] σ (AB R (CI .i64 fun x67 y => Br (x7 < x67) (In Eb (n10 : Int) ∧ LT y wc (we + Int.toNat Eb * 1) fun s74 => Al y fun b75 => AJ prog (Builtin.append_ #[97, 97] 97 #[.slice p9 n9 c9, (.slice (aD b75 0) 1 1)]) (Hp.set y b75 (.cells #[.string s74] 9 (0, 0))) (CS fun p76 n76 c76 AI => QG R q0 s1 x7 p76 n76 c76 (aD wc we) n10 Hj Eb AI)) (QG R q0 s1 x7 p9 n9 c9 (aD wc we) n10 Hj Eb y)))) (wW R q0 s1 x7 p9 n9 c9 none 0 0 0 σ)) : ABQ R q0 s1 x7 p9 n9 c9 Ou n10 Hj Eb σ := M.of h ok rfl
theorem pC (h : Br (E7 < (n9 : Int)) (Pq p9 fun b87 o87 => In E7 (n9 : Int) ∧ LT σ b87 (o87 + Int.toNat E7 * 1) fun s88 => Spec prog 180 #[.pointer q0, .string s88] σ (AB R (fun z y => ∃ ABS ABT ABU AIX, z = (.tuple #[.slice ABS ABT ABU, .int .i64 AIX]) ∧ Spec prog 181 #[.slice ABS ABT ABU] y (AB R (fun z AI => ∃ wg wh wi ABV, z = (.tuple #[.slice wg wh wi, .bool ABV]) ∧ AJ prog (Builtin.append_ #[165, 165] 165 #[.slice Jq n12 c12, .slice wg wh wi]) AI (CS fun p99 n99 c99 AZ => Bo ABV (In E7 (n9 : Int) ∧ LT AZ b87 (o87 + Int.toNat E7 * 1) fun AIY => AN (E7 + 1) ∧ ((0 : Int) ≤ (E7 + 1) ∧ (E7 + 1) ≤ (n9 : Int)) ∧ Spec prog 182 #[.pointer q0, .string s1, .string AIY, (.slice (Dp (aD b87 o87) (Int.toNat (E7 + 1)) c9 1) (n9 - Int.toNat (E7 + 1)) (c9 - Int.toNat (E7 + 1))), .slice wg wh wi] AZ (AB R (CI .i64 fun ABW Av => Br (ABW ≠ 0) (R (.returned (.tuple #[.pointer none, .slice none 0 0, .int .i64 ABW])) Av) (wX R q0 s1 x7 p99 n99 c99 Av)))) (AN (E7 + 1) ∧ wW R q0 s1 x7 (aD b87 o87) n9 c9 p99 n99 c99 (E7 + 1) AZ))))))) (wX R q0 s1 x7 Jq n12 c12 σ)) : wW R q0 s1 x7 p9 n9 c9 Jq n12 c12 E7 σ := M.of h ok rfl
theorem pD (h : Al σ fun wj => Spec prog 183 #[(.pointer (aD wj 0)), .int .i64 x7] (Hp.set σ wj (.cells #[.pointer q0, .string s1, .int .i64 0, .int .i64 0, .int .i64 0, .int .i64 0] 146 (0, 0))) (AB R (fun z y => z = (.tuple #[]) ∧ R (.returned (.tuple #[(.pointer (aD wj 0)), .slice Jq n12 c12, .int .i64 0])) y))) : wX R q0 s1 x7 Jq n12 c12 σ := M.of h ok rfl
end Ge
namespace MN
variable {En x1 : Int} {HF : Option Addr} {GL HG : Nat} {v2 : Value}
def M : Fw := ⟨prog, 100, f100, [54, 117, 186, 187], [3, 6], false, [], [], []⟩
theorem ok : M.Ok := ⟨.cons call54 (.cons call117 (.cons call186 (.cons call187 (AK.nil)))), mixed, func100, by kernel_rfl⟩
theorem start (h : ∀ b3 : Nat, ∀ b6 : Nat, Spec prog 54 #[.agg #[.int .u64 En, .slice HF GL HG]] σ (AB R (CI .i64 fun Eb y => Br (Eb ≠ 0) (R (.returned (.tuple #[.agg #[.int .u64 0, .slice none 0 0], .int .i64 130])) y) (Br (En = 18446744073709551615) (R (.returned (.tuple #[.agg #[.int .u64 0, .slice none 0 0], .int .i64 130])) y) (Spec prog 117 #[.int .i64 x1] y (AB R (CB fun t20 AI => Bn t20 (R (.returned (.tuple #[.agg #[.int .u64 0, .slice none 0 0], .int .i64 130])) AI) (Spec prog 186 #[.agg #[.int .u64 En, .slice HF GL HG]] AI (AB R (fun z AZ => ∃ E8 ABX ABY ABZ, z = (.agg #[.int .u64 E8, .slice ABX ABY ABZ]) ∧ Al AZ fun b8 => AJ prog (Instr.storeAt 41 (.pointer (aD b8 0)) (.agg #[.int .u64 E8, .slice ABX ABY ABZ])) (Hp.set AZ b8 (.cells #[.int .u64 0, .slice none 0 0] 41 (0, 0))) (fun _ Av => LI .u64 Av b8 0 fun Kl => Df (IntKind.u64.wrap (Kl + 1)) fun Gq => AJ prog (Instr.storeAt 23 (.pointer (aD b8 0)) (.int .u64 Gq)) Av (fun _ Cg => Spec prog 187 #[.agg #[.int .u64 En, .slice HF GL HG], .int .i64 x1] Cg (AB R (CI .i64 fun ea FE => ∃ (f36 : Nat) (si sj : Array Value), v2 = .func (.func f36) si sj ∧ Enters prog f36 ∧ Spec prog f36 (si ++ #[(.agg #[(.pointer (aD b8 0)), .int .i64 x1, .int .i64 ea])] ++ sj) FE (AB R (CI .i64 fun x36 Ek => Br (x36 ≠ 0) (R (.returned (.tuple #[.agg #[.int .u64 0, .slice none 0 0], .int .i64 x36])) Ek) (∃ ABa ABb ABc ABd, Dn Ek b8 0 [.int .u64 ABa, .slice ABb ABc ABd] ∧ R (.returned (.tuple #[.agg #[.int .u64 ABa, .slice ABb ABc ABd], .int .i64 0])) Ek))))))))))))))))) : Spec prog 100 #[.agg #[.int .u64 En, .slice HF GL HG], .int .i64 x1, v2] σ R := M.Lk h ok [(0, .G [.I .u64 En, .L HF GL HG]), (1, .o (.I .i64 x1)), (2, .o (.V v2))] rfl rfl (by kernel_rfl)
end MN
namespace Cb
variable {b0 b1 : Nat}
def M : Fw := ⟨prog, 136, f136, [132, 134, 137, 138], [], false, [(0, 8, false), (2, 10, false), (3, 7, true), (5, 12, false), (6, 8, true)], [], [(14, [(0, wA)]), (480, [(0, wA)])]⟩
theorem ok : M.Ok := ⟨.cons call132 (.cons call134 (.cons call137 (.cons call138 (AK.nil)))), mixed, func136, by kernel_rfl⟩
def Jh := M.pt 0
def Km := M.pt 1
theorem start (h : LQ σ b0 0 fun q2 => LQ σ b0 0 fun q3 => LQ σ b0 0 fun q4 => Pq q4 fun b5 o5 => LI .i64 σ b5 (o5 + 4) fun x7 => LS σ b1 0 fun p9 n9 c9 => Spec prog 134 #[.pointer q3, (.string (ByteArray.mk #[99])), .int .i64 x7] σ (AB R (CT fun s8 y => Kp [b1, b0] σ y ∧ Spec prog 137 #[.pointer q2, .string s8, .slice p9 n9 c9] y (AB R (fun z AI => z = (.tuple #[]) ∧ LQ AI b0 0 fun pE => Pq pE fun Ov QB => LI .i64 AI Ov (QB + 2) fun FD => Br (0 < FD) (LQ AI b0 0 fun wk => Pq wk fun Ro ei => LQ AI Ro ei fun q19 => LQ AI b0 0 fun q20 => LQ AI b0 0 fun zt => Pq zt fun NW WL => LI .i64 AI NW (WL + 2) fun Kk => Spec prog 134 #[.pointer q20, (.string (ByteArray.mk #[99])), .int .i64 Kk] AI (AB R (CT fun s25 AZ => Kp [Ro, b0] AI AZ ∧ Spec prog 138 #[.pointer q19, .string s25] AZ (AB R (CI .i64 fun Hw Av => Spec prog 132 #[.int .i64 Hw] Av (AB R (fun z Cg => z = (.tuple #[]) ∧ Jh R b0 Cg))))))) (Jh R b0 AI)))))) : Spec prog 136 #[(.pointer (aD b0 0)), (.pointer (aD b1 0))] σ R := M.start h ok
theorem CU (h : LQ σ b0 0 fun q28 => LQ σ b0 0 fun q29 => Pq q29 fun S6 YT => LI .i64 σ S6 (YT + 4) fun sk => Pq q28 fun YU wm => AJ prog (Instr.storeAt 3 (.pointer (aD YU (wm + 2))) (.int .i64 sk)) σ (fun _ y => Km R b0 y)) : Jh R b0 σ := M.of h ok rfl
theorem HT (h : LQ σ b0 0 fun iN => Pq iN fun pF pG => LS σ pF (pG + 3) fun nU n38 nV => Br (0 < (n38 : Int)) (LQ σ b0 0 fun q41 => Pq q41 fun iM jr => LQ σ iM jr fun q44 => LQ σ b0 0 fun q45 => LQ σ b0 0 fun wR => Pq wR fun cI ju => LS σ cI (ju + 3) fun WQ n49 c49 => Pq WQ fun b50 o50 => In 0 (n49 : Int) ∧ LI .i64 σ b50 o50 fun YS => Spec prog 134 #[.pointer q45, (.string (ByteArray.mk #[115])), .int .i64 YS] σ (AB R (CT fun s52 y => Kp [iM, b0] σ y ∧ Spec prog 138 #[.pointer q44, .string s52] y (AB R (CI .i64 fun Ow AI => Spec prog 132 #[.int .i64 Ow] AI (AB R (fun z AZ => z = (.tuple #[]) ∧ LQ AZ b0 0 fun q55 => LQ AZ b0 0 fun q56 => Pq q56 fun VO VP => LS AZ VO (VP + 3) fun p59 n59 c59 => ((0 : Int) ≤ 1 ∧ 1 ≤ (n59 : Int)) ∧ Pq q55 fun b61 o61 => AJ prog (Instr.storeAt 26 (.pointer (aD b61 (o61 + 3))) (.slice (Dp p59 (1) c59 1) (n59 - 1) (c59 - 1))) AZ (fun _ Av => Km R b0 Av)))))))) (LQ σ b0 0 fun q63 => Pq q63 fun b64 o64 => LI .i64 σ b64 (o64 + 4) fun x66 => AN (x66 + 1) ∧ AJ prog (Instr.storeAt 3 (.pointer (aD b64 (o64 + 4))) (.int .i64 (x66 + 1))) σ (fun _ y => LQ y b0 0 fun q70 => Pq q70 fun b71 o71 => AJ prog (Instr.storeAt 3 (.pointer (aD b71 (o71 + 5))) (.int .i64 0)) y (fun _ AI => R (.returned (.tuple #[])) AI)))) : Km R b0 σ := M.of h ok rfl
end Cb
namespace J4
variable {q0 : Option Addr} {s1 : ByteArray}
def M : Fw := ⟨prog, 144, f144, [236, 237, 238, 240], [], false, [(8, 16, true)], [], []⟩
theorem ok : M.Ok := ⟨.cons call236 (.cons call237 (.cons call238 (.cons call240 (AK.nil)))), mixed, func144, by kernel_rfl⟩
theorem start (h : Spec prog 236 #[.pointer q0, .string s1, .bool true] σ (AB R (CI .i64 fun Db y => Br (Db ≠ 0) (R (.returned (.int .i64 Db)) y) (Spec prog 238 #[.pointer q0] y (AB R (CB fun t15 AI => Bo t15 (Pq q0 fun PM YV => LI .i64 AI PM (YV + 4) fun Jr => Spec prog 240 #[(.pointer (aD PM YV)), .int .i64 Jr] AI (AB R (fun z AZ => z = (.tuple #[]) ∧ R (.returned (.int .i64 60)) AZ))) (Spec prog 237 #[.pointer q0, .string s1] AI (AB R (fun z AZ => ∃ E8 er, z = (.tuple #[.int .i64 E8, .bool er]) ∧ Pq q0 fun JN S4 => LS AZ JN S4 fun p31 n31 c31 => LS AZ JN S4 fun UT n36 WR => Pq UT fun b38 o38 => In E8 (n36 : Int) ∧ LS AZ b38 ((o38 + Int.toNat E8 * 3) + 1) fun N6 n40 c40 => Pq p31 fun iM jr => In E8 (n31 : Int) ∧ AJ prog (Instr.storeAt 3 (.pointer (aD iM ((jr + Int.toNat E8 * 3) + 2))) (.int .i64 (n40 : Int))) AZ (fun _ Av => R (.returned (.int .i64 0)) Av)))))))))) : Spec prog 144 #[.pointer q0, .string s1] σ R := M.start h ok
end J4
namespace N8
variable {En I6 Hl : Int} {t0d : Bool}
def M : Fw := ⟨prog, 192, f192, [], [], false, [], [], []⟩
theorem ok : M.Ok := ⟨AK.nil, mixed, func192, by kernel_rfl⟩
theorem start (h : Al σ fun b1 => Al (Hp.set σ b1 (.cells #[.int .i64 En, .int .i64 I6, .int .i64 Hl, .bool t0d] 28 (0, 0))) fun b4 => R (.returned (.slice (aD b4 0) 2 2)) (Hp.set (Hp.set σ b1 (.cells #[.int .i64 En, .int .i64 I6, .int .i64 Hl, .bool t0d] 28 (0, 0))) b4 (.cells #[(.func (.func 266) #[] #[(.pointer (aD b1 0))]), (.func (.func 268) #[] #[])] 268 (0, 0)))) : Spec prog 192 #[.agg #[.int .i64 En, .int .i64 I6, .int .i64 Hl, .bool t0d]] σ R := M.start h ok
end N8
namespace LD
variable {p0 p1 : Option Addr} {n0 c0 n1 c1 : Nat}
def M : Fw := ⟨prog, 194, f194, [269], [], false, [], [], []⟩
theorem ok : M.Ok := ⟨.cons call269 (AK.nil), mixed, func194, by kernel_rfl⟩
theorem start (h : Al σ fun b3 => Spec prog 269 #[.slice p0 n0 c0, (.func (.func 270) #[] #[(.pointer (aD b3 0))])] (Hp.set σ b3 (.cells #[.slice p1 n1 c1] 97 (0, 0))) (AB R (CS fun p7 n7 c7 y => R (.returned (.slice p7 n7 c7)) y))) : Spec prog 194 #[.slice p0 n0 c0, .slice p1 n1 c1] σ R := M.start h ok
end LD
namespace Du
variable {x0 : Int}
def M : Fw := ⟨prog, 213, f213, [], [], false, [], [], []⟩
theorem ok : M.Ok := ⟨AK.nil, mixed, func213, by kernel_rfl⟩
theorem start (h : R (.returned (.bool (decide (x0 ≠ x0)))) σ) : Spec prog 213 #[.int .u32 x0] σ R := M.start h ok
end Du
namespace II
variable {b0 b1 : Nat}
def M : Fw := ⟨prog, 224, f224, [], [], false, [], [], []⟩
theorem ok : M.Ok := ⟨AK.nil, mixed, func224, by kernel_rfl⟩
theorem start (h : LQ σ b0 0 fun q3 => Pq q3 fun b4 o4 => LM σ b4 o4 fun m6 => LT σ b1 0 fun s7 => AJ prog (Instr.lookup 186 (.map m6) (.string s7) false) σ (CQ fun q8 y => Pq q8 fun EB GU => LS y EB GU fun N9 n13 Ox => AJ prog (Instr.storeAt 3 (.pointer (aD EB (GU + 1))) (.int .i64 (n13 : Int))) y (fun _ AI => R (.returned (.tuple #[])) AI))) : Spec prog 224 #[(.pointer (aD b0 0)), (.pointer (aD b1 0))] σ R := M.start h ok
end II
namespace DD
variable {b0 b1 b2 : Nat} {q3 : Option Addr}
def M : Fw := ⟨prog, 227, f227, [], [], false, [(3, 6, true), (4, 9, false)], [], [(7, [(2, wA), (3, wQ)])]⟩
theorem ok : M.Ok := ⟨AK.nil, mixed, func227, by kernel_rfl⟩
def A4 := M.pt 0
theorem start (h : LQ σ b0 0 fun q4 => Pq q4 fun b5 o5 => LM σ b5 o5 fun m7 => LT σ b1 0 fun s8 => AJ prog (Instr.lookup 186 (.map m7) (.string s8) false) σ (CQ fun q9 y => Bo (Option.isNone q9) (Al y fun IJ => LQ (Hp.set y IJ (.cells #[.slice none 0 0, .int .i64 0] 300 (0, 0))) b0 0 fun et => Pq et fun bu nX => LM (Hp.set y IJ (.cells #[.slice none 0 0, .int .i64 0] 300 (0, 0))) bu nX fun m17 => LT (Hp.set y IJ (.cells #[.slice none 0 0, .int .i64 0] 300 (0, 0))) b1 0 fun s18 => AJ prog (Instr.mapUpdate 186 (.map m17) (.string s18) (.pointer (aD IJ 0))) (Hp.set y IJ (.cells #[.slice none 0 0, .int .i64 0] 300 (0, 0))) (fun _ AI => A4 R b2 (aD IJ 0) AI)) (A4 R b2 q9 y))) : Spec prog 227 #[(.pointer (aD b0 0)), (.pointer (aD b1 0)), (.pointer (aD b2 0))] σ R := M.start h ok
theorem AW (h : Pq q3 fun NW WL => LS σ NW WL fun bq n24 c24 => LS σ b2 0 fun OA n25 M7 => AJ prog (Builtin.append_ #[84, 84] 84 #[.slice bq n24 c24, .slice OA n25 M7]) σ (CS fun WO n26 Sz y => AJ prog (Instr.storeAt 84 (.pointer (aD NW WL)) (.slice WO n26 Sz)) y (fun _ AI => R (.returned (.tuple #[])) AI))) : A4 R b2 q3 σ := M.of h ok rfl
end DD
namespace Gt
variable {b0 b1 : Nat}
def M : Fw := ⟨prog, 233, f233, [], [], false, [(0, 5, true)], [], []⟩
theorem ok : M.Ok := ⟨AK.nil, mixed, func233, by kernel_rfl⟩
theorem start (h : LQ σ b0 0 fun q2 => Pq q2 fun b3 o3 => LM σ b3 o3 fun m5 => LT σ b1 0 fun s6 => AJ prog (Builtin.delete_ #[186, 9] 0 #[.map m5, .string s6]) σ (fun _ y => R (.returned (.tuple #[])) y)) : Spec prog 233 #[(.pointer (aD b0 0)), (.pointer (aD b1 0))] σ R := M.start h ok
end Gt
namespace GC
variable {q0 : Option Addr} {s1 : ByteArray} {t2 : Bool}
def M : Fw := ⟨prog, 236, f236, [178, 237], [], false, [], [], []⟩
theorem ok : M.Ok := ⟨.cons call178 (.cons call237 (AK.nil)), mixed, func236, by kernel_rfl⟩
theorem start (h : Pq q0 fun EB GU => LB σ EB (GU + 1) fun t13 => Bo t13 (R (.returned (.int .i64 60)) σ) (Spec prog 178 #[.string s1] σ (AB R (CB fun t16 y => Bn t16 (R (.returned (.int .i64 61)) y) (Spec prog 237 #[(.pointer (aD EB GU)), .string s1] y (AB R (fun z AI => ∃ UU WS, z = (.tuple #[.int .i64 UU, .bool WS]) ∧ Bo t2 (Bn WS (R (.returned (.int .i64 62)) AI) (R (.returned (.int .i64 0)) AI)) (R (.returned (.int .i64 0)) AI)))))))) : Spec prog 236 #[.pointer q0, .string s1, .bool t2] σ R := M.start h ok
end GC
namespace J5
variable {q0 : Option Addr}
def M : Fw := ⟨prog, 238, f238, [], [], false, [], [], []⟩
theorem ok : M.Ok := ⟨AK.nil, mixed, func238, by kernel_rfl⟩
theorem start (h : Pq q0 fun b4 o4 => LI .u64 σ b4 (o4 + 5) fun x6 => Df (IntKind.u64.wrap (x6 + 1)) fun x7 => AJ prog (Instr.storeAt 23 (.pointer (aD b4 (o4 + 5))) (.int .u64 x7)) σ (fun _ y => LB y b4 (o4 + 2) fun t13 => Bn t13 (R (.returned (.bool false)) y) (LI .i64 y b4 (o4 + 3) fun Fc => Br (0 < Fc) (LI .i64 y b4 (o4 + 3) fun Sp => AN (Sp - 1) ∧ AJ prog (Instr.storeAt 3 (.pointer (aD b4 (o4 + 3))) (.int .i64 (Sp - 1))) y (fun _ AI => R (.returned (.bool false)) AI)) (R (.returned (.bool true)) y)))) : Spec prog 238 #[.pointer q0] σ R := M.start h ok
end J5
namespace FQ
variable {s0 : ByteArray} {x3 : Int}
def M : Fw := ⟨prog, 306, f306, [], [], false, [], [], [(464, [(0, wT), (3, wI)])]⟩
theorem ok : M.Ok := ⟨AK.nil, mixed, func306, by kernel_rfl⟩
def Am := M.pt 0
theorem start (h : Bo ((ByteArray.toList s0 == ByteArray.toList (ByteArray.mk #[]))) (R (.returned (.bool false)) σ) (Br ((64 : Int) < ((ByteArray.size s0 : Nat) : Int)) (R (.returned (.bool false)) σ) (∃ Au : UInt8, (0 : Int) ≤ 0 ∧ (ByteArray.data s0)[Int.toNat 0]? = some Au ∧ Br ((48 : Int) ≤ ((UInt8.toNat Au : Nat) : Int)) (∃ u18 : UInt8, (0 : Int) ≤ 0 ∧ (ByteArray.data s0)[Int.toNat 0]? = some u18 ∧ Br ((((UInt8.toNat u18 : Nat) : Int) : Int) ≤ 57) (R (.returned (.bool false)) σ) (Am R s0 0 σ)) (Am R s0 0 σ)))) : Spec prog 306 #[.string s0] σ R := M.start h ok
theorem BB (h : Br (x3 < ((ByteArray.size s0 : Nat) : Int)) (∃ YW : UInt8, 0 ≤ x3 ∧ (ByteArray.data s0)[Int.toNat x3]? = some YW ∧ Br ((((UInt8.toNat YW : Nat) : Int) : Int) ≠ 95) (Br ((((UInt8.toNat YW : Nat) : Int) : Int) < 48) (Br ((((UInt8.toNat YW : Nat) : Int) : Int) < 65) (Br ((((UInt8.toNat YW : Nat) : Int) : Int) < 97) (R (.returned (.bool false)) σ) (Br ((122 : Int) < ((UInt8.toNat YW : Nat) : Int)) (R (.returned (.bool false)) σ) (AN (x3 + 1) ∧ Am R s0 (x3 + 1) σ))) (Br ((90 : Int) < ((UInt8.toNat YW : Nat) : Int)) (Br ((((UInt8.toNat YW : Nat) : Int) : Int) < 97) (R (.returned (.bool false)) σ) (Br ((122 : Int) < ((UInt8.toNat YW : Nat) : Int)) (R (.returned (.bool false)) σ) (AN (x3 + 1) ∧ Am R s0 (x3 + 1) σ))) (AN (x3 + 1) ∧ Am R s0 (x3 + 1) σ))) (Br ((57 : Int) < ((UInt8.toNat YW : Nat) : Int)) (Br ((((UInt8.toNat YW : Nat) : Int) : Int) < 65) (Br ((((UInt8.toNat YW : Nat) : Int) : Int) < 97) (R (.returned (.bool false)) σ) (Br ((122 : Int) < ((UInt8.toNat YW : Nat) : Int)) (R (.returned (.bool false)) σ) (AN (x3 + 1) ∧ Am R s0 (x3 + 1) σ))) (Br ((90 : Int) < ((UInt8.toNat YW : Nat) : Int)) (Br ((((UInt8.toNat YW : Nat) : Int) : Int) < 97) (R (.returned (.bool false)) σ) (Br ((122 : Int) < ((UInt8.toNat YW : Nat) : Int)) (R (.returned (.bool false)) σ) (AN (x3 + 1) ∧ Am R s0 (x3 + 1) σ))) (AN (x3 + 1) ∧ Am R s0 (x3 + 1) σ))) (AN (x3 + 1) ∧ Am R s0 (x3 + 1) σ))) (AN (x3 + 1) ∧ Am R s0 (x3 + 1) σ)) (R (.returned (.bool true)) σ)) : Am R s0 x3 σ := M.of h ok rfl
end FQ
end TwW
end
end
section
set_option maxRecDepth 100000
noncomputable section
namespace TwW
open Go Tw Go.Proofs.Tryz
variable [Iq] {R : Rr} {σ : Hp}

namespace DR
def K0 := f23.body.getD .skip
def K1 := cl K0
def K2 := cr K0
def K3 := cl K2
def K4 := cl K3
def K5 := cr K3
def K6 := cl K5
def K7 := cl K6
def K8 := cr K6
def K9 := cr K5
def Lm := cr K2
def Ss := cl Lm
def MM := cr Lm
def QC := cl MM
def ZV := cl QC
def eb := cr QC
def Su := cl eb
def N5 := cl Su
def YL := cr Su
def UO := cl YL
def Sv := cl UO
def iI := cl Sv
def bz := cr Sv
def YM := cl bz
def ed := cr bz
def WG := cr UO
def WH := cl WG
def WI := cr WG
def WJ := cl WI
def WK := cl WJ
def jj := cr WJ
def iJ := cr WI
def YO := cr MM
def cA := cl YO
def iK := cr YO
def iL : Code := .ret
abbrev gl (R : Rr) : Gl := Gl.fn prog 23 38 R
def Am (R : Rr) (l : Nat) (r0 : Loop) (b5 b6 b7 b8 : Nat) (Kk : Int) (σ : Hp) : Prop := ∀ (J : Env), At (Gl.round prog 23 38 l R) [.code N5, .beginRound, .code YL] (Gg J [(5, (.pointer (some ⟨b5, 0, none⟩))), (6, (.pointer (some ⟨b6, 0, none⟩))), (7, (.pointer (some ⟨b7, 0, none⟩))), (8, (.pointer (some ⟨b8, 0, none⟩))), (24, (.int .i64 Kk))]) [] σ
def pH (R : Rr) (l : Nat) (r0 : Loop) (b5 b6 b7 b8 : Nat) (σ : Hp) : Prop := ∀ (J : Env), At (Gl.round prog 23 38 l R) [.code WH, .code WI, .inBlock 1] (Gg J [(5, (.pointer (some ⟨b5, 0, none⟩))), (6, (.pointer (some ⟨b6, 0, none⟩))), (7, (.pointer (some ⟨b7, 0, none⟩))), (8, (.pointer (some ⟨b8, 0, none⟩)))]) [] σ
theorem start {R : Rr} {En x1 x2 : Int} {HF : Option Addr} {GL HG : Nat} {σ : Hp} (h : ∀ b5 : Nat, σ b5 = none → ∀ b6 : Nat, (Hp.set σ b5 (.cells #[(.int .i64 x2)] 3 (0, 0))) b6 = none → ∀ b7 : Nat, (Hp.set (Hp.set σ b5 (.cells #[(.int .i64 x2)] 3 (0, 0))) b6 (.cells #[(.slice none 0 0)] 26 (0, 0))) b7 = none → Spec prog 54 #[(.agg #[(.int .u64 En), (.slice HF GL HG)])] (Hp.set (Hp.set (Hp.set σ b5 (.cells #[(.int .i64 x2)] 3 (0, 0))) b6 (.cells #[(.slice none 0 0)] 26 (0, 0))) b7 (.cells #[(.int .i64 0)] 67 (0, 0))) (AB R (fun v σ1 => ∃ Eb : Int, v = (.int .i64 Eb) ∧ ((Eb : Int) ≠ 0 → AJ prog (Instr.storeAt 26 (.pointer (some ⟨b6, 0, none⟩)) (.slice none 0 0)) σ1 (fun _ Az => AJ prog (Instr.storeAt 67 (.pointer (some ⟨b7, 0, none⟩)) (.int .i64 130)) Az (fun _ A0 => ∃ RW : Option Addr, ∃ RX : Nat, ∃ RY : Nat, ∃ RZ : Int, Hp.ld A0 ⟨b6, 0, none⟩ = some (.slice RW RX RY) ∧ Hp.ld A0 ⟨b7, 0, none⟩ = some (.int .i64 RZ) ∧ R (.returned (.tuple #[(.slice RW RX RY), (.int .i64 RZ)])) A0))) ∧ (¬ ((Eb : Int) ≠ 0) → ∃ FD : Int, Hp.ld σ1 ⟨b5, 0, none⟩ = some (.int .i64 FD) ∧ ((FD : Int) < 1 → AJ prog (Instr.storeAt 26 (.pointer (some ⟨b6, 0, none⟩)) (.slice none 0 0)) σ1 (fun _ Az => AJ prog (Instr.storeAt 67 (.pointer (some ⟨b7, 0, none⟩)) (.int .i64 130)) Az (fun _ A0 => ∃ RW : Option Addr, ∃ RX : Nat, ∃ RY : Nat, ∃ RZ : Int, Hp.ld A0 ⟨b6, 0, none⟩ = some (.slice RW RX RY) ∧ Hp.ld A0 ⟨b7, 0, none⟩ = some (.int .i64 RZ) ∧ R (.returned (.tuple #[(.slice RW RX RY), (.int .i64 RZ)])) A0))) ∧ (¬ ((FD : Int) < 1) → ∃ Fc : Int, Hp.ld σ1 ⟨b5, 0, none⟩ = some (.int .i64 Fc) ∧ ((5 : Int) < Fc → AJ prog (Instr.storeAt 26 (.pointer (some ⟨b6, 0, none⟩)) (.slice none 0 0)) σ1 (fun _ Az => AJ prog (Instr.storeAt 67 (.pointer (some ⟨b7, 0, none⟩)) (.int .i64 130)) Az (fun _ A0 => ∃ RW : Option Addr, ∃ RX : Nat, ∃ RY : Nat, ∃ RZ : Int, Hp.ld A0 ⟨b6, 0, none⟩ = some (.slice RW RX RY) ∧ Hp.ld A0 ⟨b7, 0, none⟩ = some (.int .i64 RZ) ∧ R (.returned (.tuple #[(.slice RW RX RY), (.int .i64 RZ)])) A0))) ∧ (¬ ((5 : Int) < Fc) → ∀ b8 : Nat, σ1 b8 = none → Spec prog 55 #[(.agg #[(.int .u64 En), (.slice HF GL HG)]), (.int .u32 x1)] (Hp.set σ1 b8 (.cells #[(.slice none 0 0)] 26 (0, 0))) (AB R (fun MO Az => ∃ v23 : Value, v23 = MO ∧ ∃ (gf : Nat) (lb : Array Value), v23 = .func (.func gf) #[] lb ∧ Enters prog gf ∧ ∀ (ZX ZY : Nat) (QH : Loop), ZX ≠ ZY → Az ZX = none → Az ZY = none → (∀ (R2 : Rr) (σ2 : Hp) (pI : Int), σ2 ZY = some (.loop (lp QH .ready none)) → Am R2 ZY QH b5 b6 b7 b8 pI σ2 → H8 prog ZY #[(.int .i64 pI)] σ2 R2) → Spec prog gf (#[.func (.yield ZY) #[] #[]] ++ lb) (Hp.set (Hp.set Az ZX (.deferred (some []))) ZY (.loop (lp QH .ready none))) (fun en A0 => ∃ (v : Value) (s : LoopState) (p : Option Code), en = .returned v ∧ A0 ZY = some (.loop (lp QH s p)) ∧ s ≠ .busy ∧ ((p = none ∧ AJ prog (Instr.storeAt 26 (.pointer (some ⟨b6, 0, none⟩)) (.slice none 0 0)) (Hp.set A0 ZY (.loop (lp QH .exhausted none))) (fun _ OB => AJ prog (Instr.storeAt 67 (.pointer (some ⟨b7, 0, none⟩)) (.int .i64 133)) OB (fun _ WT => ∃ RW : Option Addr, ∃ RX : Nat, ∃ RY : Nat, ∃ RZ : Int, WT ZX = some (.deferred (some [])) ∧ Hp.ld (Hp.set WT ZX (.deferred none)) ⟨b6, 0, none⟩ = some (.slice RW RX RY) ∧ Hp.ld (Hp.set WT ZX (.deferred none)) ⟨b7, 0, none⟩ = some (.int .i64 RZ) ∧ R (.returned (.tuple #[(.slice RW RX RY), (.int .i64 RZ)])) (Hp.set WT ZX (.deferred none))))) ∨ (p = (some .ret) ∧ ∃ cJ : Option Addr, ∃ cK : Nat, ∃ cL : Nat, ∃ cM : Int, (Hp.set A0 ZY (.loop (lp QH .exhausted (some .ret)))) ZX = some (.deferred (some [])) ∧ Hp.ld (Hp.set (Hp.set A0 ZY (.loop (lp QH .exhausted (some .ret)))) ZX (.deferred none)) ⟨b6, 0, none⟩ = some (.slice cJ cK cL) ∧ Hp.ld (Hp.set (Hp.set A0 ZY (.loop (lp QH .exhausted (some .ret)))) ZX (.deferred none)) ⟨b7, 0, none⟩ = some (.int .i64 cM) ∧ R (.returned (.tuple #[(.slice cJ cK cL), (.int .i64 cM)])) (Hp.set (Hp.set A0 ZY (.loop (lp QH .exhausted (some .ret)))) ZX (.deferred none))))))))))))) : Spec prog 23 #[(.agg #[(.int .u64 En), (.slice HF GL HG)]), (.int .u32 x1), (.int .i64 x2)] σ R := by
 refine Spec.Js (fn := f23) (c := K0) func23 (by kernel_rfl) (Nat.le_of_ble_eq_true (by kernel_rfl)) (fun e he => ?_)
 refine At.oO (l := [(0, (.agg #[(.int .u64 En), (.slice HF GL HG)])), (1, (.int .u32 x1)), (2, (.int .i64 x2))]) ⟨he 0, he 1, he 2, trivial⟩ (fun J => ?_)
 show At (gl R) _ _ _ _
 refine At.s K1 K2 ?_
 refine At.rg 0 [0, 1, 2, 3] ?_
 refine Seq.o ?_
 refine AV.box (T := 41) (d := (some 3)) (ty := 0) (x := (.tmp 0)) (gd := none) (cs := #[(.int .u64 En), (.slice HF GL HG)]) (by kernel_rfl) rfl rfl rfl (fun b3 => ?_)
 refine Seq.o ?_
 refine AV.AAg (T := 3) (d := (some 5)) (ty := 0) (x := (.tmp 2)) (gd := none) (cs := #[(.int .i64 x2)]) (by kernel_rfl) rfl rfl rfl (fun b5 hn => ?_)
 replace h := h b5 hn
 refine Seq.o ?_
 refine AV.To (T := 26) (d := (some 6)) (ty := 0)  (gd := none) (cs := #[(.slice none 0 0)]) (by kernel_rfl) rfl rfl zeroValue26 rfl (fun b6 hn => ?_)
 replace h := h b6 hn
 refine Seq.o ?_
 refine AV.To (T := 67) (d := (some 7)) (ty := 0)  (gd := none) (cs := #[(.int .i64 0)]) (by kernel_rfl) rfl rfl zeroValue67 rfl (fun b7 hn => ?_)
 replace h := h b7 hn
 refine Seq.done ?_
 refine At.s K3 Lm (At.s K4 K5 ?_)
 refine At.rg 1 [0, 1, 2, 3, 4, 5, 6, 7, 8, 9, 10] ?_
 refine Seq.z 10 (.load 41 (.tmp 3)) 41 (.agg #[(.int .u64 En), (.slice HF GL HG)]) (Y.vK (vs := [(.int .u64 En), (.slice HF GL HG)]) isAgg41 sizeOf41 rfl rfl (List.mem_cons_self ..) rfl) ?_
 refine Seq.o ?_
 refine AV.cl (some 11) call54 (h.cont fun v σ1 h2 => ?_); replace h := h2; clear h2
 obtain ⟨Eb, rfl, h⟩ := h
 refine Seq.us [(12, .bool (decide ((Eb : Int) ≠ 0))), (13, .bool (decide ((Eb : Int) ≠ 0)))] ?_
 cases hb : (decide ((Eb : Int) ≠ 0)) with
 | true =>
   replace h := h.1 (of_decide_eq_true hb)
   refine Seq.n 14 ?_
   refine Seq.n 15 ?_
   refine Seq.us [(16, .bool true), (17, .bool true)] ?_
   refine Seq.n 18 ?_
   refine Seq.n 19 ?_
   refine Seq.u 20 (.bool true) (Seq.done ?_)
   refine At.cT 20 K6 K9 ?_
   refine At.s K7 K8 ?_
   refine At.rg 2 [0, 1] ?_
   refine Seq.o ?_
   refine AV.store (T := 26) (ty := 0) (x := (.tmp 6)) (y := (.const (.slice none 0 0))) (p := (.pointer (some ⟨b6, 0, none⟩))) (v := (.slice none 0 0)) (gd := none) (by kernel_rfl) rfl rfl rfl (h.mono (fun _ Az h2 => ?_)); replace h := h2; clear h2
   refine Seq.o ?_
   refine AV.store (T := 67) (ty := 0) (x := (.tmp 7)) (y := (.const (.int .i64 130))) (p := (.pointer (some ⟨b7, 0, none⟩))) (v := (.int .i64 130)) (gd := none) (by kernel_rfl) rfl rfl rfl (h.mono (fun _ A0 h2 => ?_)); replace h := h2; clear h2
   refine Seq.done ?_
   obtain ⟨RW, RX, RY, RZ, wo, VQ, h⟩ := h
   exact At.rt [.cell 6 26, .cell 7 67] [(.slice RW RX RY), (.int .i64 RZ)] func23 ⟨_, _, rfl, ⟨_, rfl, FZ isAgg26 wo⟩, ⟨_, _, rfl, ⟨_, rfl, FZ isAgg67 VQ⟩, rfl⟩⟩ h
 | false =>
   replace h := h.2 (of_decide_eq_false hb)
   obtain ⟨FD, hl, h⟩ := h
   refine Seq.zg 14 (.load 3 (.tmp 5)) 3 (3, false) (.int .i64 FD) (Y.ld isAgg3 rfl hl) ?_
   refine Seq.us [(15, .bool (decide ((FD : Int) < 1))), (16, .bool (decide ((FD : Int) < 1))), (17, .bool (decide ((FD : Int) < 1)))] ?_
   cases hb : (decide ((FD : Int) < 1)) with
   | true =>
     replace h := h.1 (of_decide_eq_true hb)
     refine Seq.n 18 ?_
     refine Seq.n 19 ?_
     refine Seq.u 20 (.bool true) (Seq.done ?_)
     refine At.cT 20 K6 K9 ?_
     refine At.s K7 K8 ?_
     refine At.rg 2 [0, 1] ?_
     refine Seq.o ?_
     refine AV.store (T := 26) (ty := 0) (x := (.tmp 6)) (y := (.const (.slice none 0 0))) (p := (.pointer (some ⟨b6, 0, none⟩))) (v := (.slice none 0 0)) (gd := none) (by kernel_rfl) rfl rfl rfl (h.mono (fun _ Az h2 => ?_)); replace h := h2; clear h2
     refine Seq.o ?_
     refine AV.store (T := 67) (ty := 0) (x := (.tmp 7)) (y := (.const (.int .i64 130))) (p := (.pointer (some ⟨b7, 0, none⟩))) (v := (.int .i64 130)) (gd := none) (by kernel_rfl) rfl rfl rfl (h.mono (fun _ A0 h2 => ?_)); replace h := h2; clear h2
     refine Seq.done ?_
     obtain ⟨RW, RX, RY, RZ, wo, VQ, h⟩ := h
     exact At.rt [.cell 6 26, .cell 7 67] [(.slice RW RX RY), (.int .i64 RZ)] func23 ⟨_, _, rfl, ⟨_, rfl, FZ isAgg26 wo⟩, ⟨_, _, rfl, ⟨_, rfl, FZ isAgg67 VQ⟩, rfl⟩⟩ h
   | false =>
     replace h := h.2 (of_decide_eq_false hb)
     obtain ⟨Fc, hl, h⟩ := h
     refine Seq.zg 18 (.load 3 (.tmp 5)) 3 (7, false) (.int .i64 Fc) (Y.ld isAgg3 rfl hl) ?_
     refine Seq.us [(19, .bool (decide ((5 : Int) < Fc))), (20, .bool (decide ((5 : Int) < Fc)))] (Seq.done ?_)
     cases hb : (decide ((5 : Int) < Fc)) with
     | true =>
       replace h := h.1 (of_decide_eq_true hb)
       refine At.cT 20 K6 K9 ?_
       refine At.s K7 K8 ?_
       refine At.rg 2 [0, 1] ?_
       refine Seq.o ?_
       refine AV.store (T := 26) (ty := 0) (x := (.tmp 6)) (y := (.const (.slice none 0 0))) (p := (.pointer (some ⟨b6, 0, none⟩))) (v := (.slice none 0 0)) (gd := none) (by kernel_rfl) rfl rfl rfl (h.mono (fun _ Az h2 => ?_)); replace h := h2; clear h2
       refine Seq.o ?_
       refine AV.store (T := 67) (ty := 0) (x := (.tmp 7)) (y := (.const (.int .i64 130))) (p := (.pointer (some ⟨b7, 0, none⟩))) (v := (.int .i64 130)) (gd := none) (by kernel_rfl) rfl rfl rfl (h.mono (fun _ A0 h2 => ?_)); replace h := h2; clear h2
       refine Seq.done ?_
       obtain ⟨RW, RX, RY, RZ, wo, VQ, h⟩ := h
       exact At.rt [.cell 6 26, .cell 7 67] [(.slice RW RX RY), (.int .i64 RZ)] func23 ⟨_, _, rfl, ⟨_, rfl, FZ isAgg26 wo⟩, ⟨_, _, rfl, ⟨_, rfl, FZ isAgg67 VQ⟩, rfl⟩⟩ h
     | false =>
       replace h := h.2 (of_decide_eq_false hb)
       refine At.cF 20 K6 K9 ?_
       refine At.skip ?_
       refine At.s Ss MM ?_
       refine At.rg 3 [0] ?_
       refine Seq.o ?_
       refine AV.To (T := 26) (d := (some 8)) (ty := 0)  (gd := none) (cs := #[(.slice none 0 0)]) (by kernel_rfl) rfl rfl zeroValue26 rfl (fun b8 hn => ?_)
       replace h := h b8 hn
       refine Seq.done ?_
       refine At.s QC YO (At.s ZV eb ?_)
       refine At.rg 4 [0, 1, 2] ?_
       refine Seq.z 21 (.load 41 (.tmp 3)) 41 (.agg #[(.int .u64 En), (.slice HF GL HG)]) (Y.vK (vs := [(.int .u64 En), (.slice HF GL HG)]) isAgg41 sizeOf41 rfl rfl (List.mem_cons_self ..) rfl) ?_
       refine Seq.u 22 (.int .u32 x1) ?_
       refine Seq.o ?_
       refine AV.cl (some 23) call55 (h.cont fun MO Az h2 => ?_); replace h := h2; clear h2
       obtain ⟨v23, rfl, h⟩ := h
       refine Seq.done ?_
       refine At.b 0 Su ?_
       obtain ⟨gf, lb, hgv, Ju, h⟩ := h
       refine At.range (gop := (.tmp 23)) (ps := #[24]) (assign := N5) (body := YL) (gf := gf) (lb := lb) (by kernel_rfl) rfl rfl hgv Ju (fun ZX ZY QH hDl hD hl hrf hrp hra hrb hrs cN => ?_)
       refine (h ZX ZY QH hDl hD hl (fun R2 σ2 pI ZZ hp => H8.Js (n := 38) ZZ hrp hrs (by decide) cN (fn := f23) (by rw [hrf]; exact func23) ?_)).mono (fun en A0 h => ?_)
       · rw [hrf, hra, hrb]
         exact At.v [(5, (.pointer (some ⟨b5, 0, none⟩))), (6, (.pointer (some ⟨b6, 0, none⟩))), (7, (.pointer (some ⟨b7, 0, none⟩))), (8, (.pointer (some ⟨b8, 0, none⟩))), (24, (.int .i64 pI))] (hp _)
       obtain ⟨v, s, p, he, vQ, hs, h⟩ := h
       refine ⟨v, s, p, he, vQ, hs, ?_⟩
       rcases h with h | h
       · obtain ⟨rfl, h⟩ := h
         show At (Gl.behind prog 23 38 ZX R) [.inBlock 0, .code YO] _ _ _
         refine At.inBlock ?_
         refine At.s cA iK ?_
         refine At.rg 10 [0, 1] ?_
         refine Seq.o ?_
         refine AV.store (T := 26) (ty := 0) (x := (.tmp 6)) (y := (.const (.slice none 0 0))) (p := (.pointer (some ⟨b6, 0, none⟩))) (v := (.slice none 0 0)) (gd := none) (by kernel_rfl) rfl rfl rfl (h.mono (fun _ OB h2 => ?_)); replace h := h2; clear h2
         refine Seq.o ?_
         refine AV.store (T := 67) (ty := 0) (x := (.tmp 7)) (y := (.const (.int .i64 133))) (p := (.pointer (some ⟨b7, 0, none⟩))) (v := (.int .i64 133)) (gd := none) (by kernel_rfl) rfl rfl rfl (h.mono (fun _ WT h2 => ?_)); replace h := h2; clear h2
         refine Seq.done ?_
         refine At.L [(6, (.pointer (some ⟨b6, 0, none⟩))), (7, (.pointer (some ⟨b7, 0, none⟩)))] fun J => ?_
         obtain ⟨RW, RX, RY, RZ, vy, wo, VQ, h⟩ := h
         exact At.Tq (rs := [.cell 6 26, .cell 7 67]) (vs := [(.slice RW RX RY), (.int .i64 RZ)]) (by kernel_rfl) func23 (by kernel_rfl) ⟨_, _, rfl, ⟨_, rfl, FZ isAgg26 wo⟩, ⟨_, _, rfl, ⟨_, rfl, FZ isAgg67 VQ⟩, rfl⟩⟩ h rfl (jC vy)
       · obtain ⟨rfl, h⟩ := h
         show At (Gl.behind prog 23 38 ZX R) [.code iL, .inBlock 0, .code YO] _ _ _
         obtain ⟨cJ, cK, cL, cM, vy, ABh, ABi, h⟩ := h
         exact At.Tq (rs := [.cell 6 26, .cell 7 67]) (vs := [(.slice cJ cK cL), (.int .i64 cM)]) (by kernel_rfl) func23 (by kernel_rfl) ⟨_, _, rfl, ⟨_, rfl, FZ isAgg26 ABh⟩, ⟨_, _, rfl, ⟨_, rfl, FZ isAgg67 ABi⟩, rfl⟩⟩ h rfl (jC vy)
theorem BB {R : Rr} {l b5 b6 b7 b8 : Nat} {r0 : Loop} {Kk : Int} {σ : Hp} (h : σ l = some (.loop (lp r0 .ready none)) ∧ ∃ OA : Option Addr, ∃ n25 : Nat, ∃ M7 : Nat, Hp.ld (Hp.set σ l (.loop (lp r0 .busy none))) ⟨b8, 0, none⟩ = some (.slice OA n25 M7) ∧ Spec prog 50 #[(.slice OA n25 M7), (.int .i64 Kk)] (Hp.set σ l (.loop (lp r0 .busy none))) (AB (NP R) (fun v σ1 => ∃ t27 : Bool, v = (.bool t27) ∧ (t27 = false → ∃ eP : Option Addr, ∃ n29 : Nat, ∃ eQ : Nat, Hp.ld σ1 ⟨b8, 0, none⟩ = some (.slice eP n29 eQ) ∧ ∀ Jp : Nat, σ1 Jp = none → AJ prog (Builtin.append_ #[26, 26] 26 #[(.slice eP n29 eQ), (.slice (some ⟨Jp, 0, none⟩) 1 1)]) (Hp.set σ1 Jp (.cells #[(.int .i64 Kk)] 3 (0, 0))) (fun MO Az => ∃ zu : Option Addr, ∃ n32 : Nat, ∃ wq : Nat, MO = (.slice zu n32 wq) ∧ AJ prog (Instr.storeAt 26 (.pointer (some ⟨b8, 0, none⟩)) (.slice zu n32 wq)) Az (fun _ A0 => pH R l r0 b5 b6 b7 b8 A0))) ∧ (t27 = true → pH R l r0 b5 b6 b7 b8 σ1)))) : Am R l r0 b5 b6 b7 b8 Kk σ := by
 intro J
 show At (Gl.round prog 23 38 l R) _ _ _ _
 refine At.rg 5 [0] ?_
 refine Seq.u 9 (.int .i64 Kk) (Seq.done ?_)
 obtain ⟨bJ, h⟩ := h
 refine At.beginRound rfl bJ ?_
 refine At.b 1 UO ?_
 refine At.s Sv WG (At.s iI bz ?_)
 refine At.rg 6 [0, 1, 2, 3] ?_
 obtain ⟨OA, n25, M7, hl, h⟩ := h
 refine Seq.z 25 (.load 26 (.tmp 8)) 26 (.slice OA n25 M7) (Y.ld isAgg26 rfl hl) ?_
 refine Seq.u 26 (.int .i64 Kk) ?_
 refine Seq.o ?_
 refine AV.cl (some 27) call50 (h.cont fun v σ1 h2 => ?_); replace h := h2; clear h2
 obtain ⟨t27, rfl, h⟩ := h
 refine Seq.u 28 (.bool (!t27)) (Seq.done ?_)
 cases hb : (!t27) with
 | true =>
  replace h := h.1 (Tw.nt hb)
  refine At.cT 28 YM ed ?_
  refine At.rg 7 [0, 1, 2, 3, 4] ?_
  obtain ⟨eP, n29, eQ, hl, h⟩ := h
  refine Seq.z 29 (.load 26 (.tmp 8)) 26 (.slice eP n29 eQ) (Y.ld isAgg26 rfl hl) ?_
  refine Seq.u 30 (.int .i64 Kk) ?_
  refine Seq.o ?_
  refine AV.Jv (T := 26) (E := 3) (m := 1) (ps := #[(0, (.tmp 30))]) (d := (some 31)) (ty := 26) (gd := none) (vs := [(0, (.int .i64 Kk))]) (cs := #[(.int .i64 Kk)]) underlying26 (by kernel_rfl) rfl rfl rfl (by kernel_rfl) (fun Jp hn => ?_)
  replace h := h Jp hn
  refine Seq.o ?_
  refine AV.Tp (d := (some 32)) (op := (.call { callee := .builtin .append, args := #[(.tmp 29), (.tmp 31)], argTypes := #[26, 26] })) (ty := 26) (gd := none) (by kernel_rfl) rfl rfl (Builtin.append_ #[26, 26] 26 #[(.slice eP n29 eQ), (.slice (some ⟨Jp, 0, none⟩) 1 1)]) (fun o ho ht => ED rfl rfl o ho ht) (h.mono (fun MO Az h2 => ?_)); replace h := h2; clear h2
  obtain ⟨zu, n32, wq, rfl, h⟩ := h
  refine Seq.o ?_
  refine AV.store (T := 26) (ty := 0) (x := (.tmp 8)) (y := (.tmp 32)) (p := (.pointer (some ⟨b8, 0, none⟩))) (v := (.slice zu n32 wq)) (gd := none) (by kernel_rfl) rfl rfl rfl (h.mono (fun _ A0 h2 => ?_)); replace h := h2; clear h2
  refine Seq.done ?_
  refine At.s WH WI ?_
  exact At.v [(5, (.pointer (some ⟨b5, 0, none⟩))), (6, (.pointer (some ⟨b6, 0, none⟩))), (7, (.pointer (some ⟨b7, 0, none⟩))), (8, (.pointer (some ⟨b8, 0, none⟩)))] (h _)
 | false =>
  replace h := h.2 (Tw.nf hb)
  refine At.cF 28 YM ed ?_
  refine At.skip ?_
  refine At.s WH WI ?_
  exact At.v [(5, (.pointer (some ⟨b5, 0, none⟩))), (6, (.pointer (some ⟨b6, 0, none⟩))), (7, (.pointer (some ⟨b7, 0, none⟩))), (8, (.pointer (some ⟨b8, 0, none⟩)))] (h _)
theorem pJ {R : Rr} {l b5 b6 b7 b8 : Nat} {r0 : Loop} {σ : Hp} (h : ∃ jo : Option Addr, ∃ n33 : Nat, ∃ jq : Nat, Hp.ld σ ⟨b8, 0, none⟩ = some (.slice jo n33 jq) ∧ ∃ Za : Int, Hp.ld σ ⟨b5, 0, none⟩ = some (.int .i64 Za) ∧ (((n33 : Int) : Int) = Za → ∃ Ra : Option Addr, ∃ n37 : Nat, ∃ c37 : Nat, Hp.ld σ ⟨b8, 0, none⟩ = some (.slice Ra n37 c37) ∧ AJ prog (Instr.storeAt 26 (.pointer (some ⟨b6, 0, none⟩)) (.slice Ra n37 c37)) σ (fun _ σ1 => AJ prog (Instr.storeAt 67 (.pointer (some ⟨b7, 0, none⟩)) (.int .i64 0)) σ1 (fun _ Az => Az l = some (.loop (lp r0 .busy none)) ∧ R (.returned (.bool false)) (Hp.set Az l (.loop (lp r0 .done (some .ret))))))) ∧ (¬ (((n33 : Int) : Int) = Za) → σ l = some (.loop (lp r0 .busy none)) ∧ R (.returned (.bool true)) (Hp.set σ l (.loop (lp r0 .ready none))))) : pH R l r0 b5 b6 b7 b8 σ := by
 intro J
 show At (Gl.round prog 23 38 l R) _ _ _ _
 refine At.rg 8 [0, 1, 2, 3] ?_
 obtain ⟨jo, n33, jq, hl, h⟩ := h
 refine Seq.z 33 (.load 26 (.tmp 8)) 26 (.slice jo n33 jq) (Y.ld isAgg26 rfl hl) ?_
 refine Seq.z 34 (.call { callee := .builtin .len, args := #[(.tmp 33)], argTypes := #[26] }) 3 (.int .i64 (n33 : Int)) (Y.Yp underlying26 rfl rfl) ?_
 obtain ⟨Za, hl, h⟩ := h
 refine Seq.z 35 (.load 3 (.tmp 5)) 3 (.int .i64 Za) (Y.ld isAgg3 rfl hl) ?_
 refine Seq.u 36 (.bool (decide (((n33 : Int) : Int) = Za))) (Seq.done ?_)
 cases hb : (decide (((n33 : Int) : Int) = Za)) with
 | true =>
  replace h := h.1 (of_decide_eq_true hb)
  refine At.cT 36 WJ iJ ?_
  refine At.s WK jj ?_
  refine At.rg 9 [0, 1, 2] ?_
  obtain ⟨Ra, n37, c37, hl, h⟩ := h
  refine Seq.z 37 (.load 26 (.tmp 8)) 26 (.slice Ra n37 c37) (Y.ld isAgg26 rfl hl) ?_
  refine Seq.o ?_
  refine AV.store (T := 26) (ty := 0) (x := (.tmp 6)) (y := (.tmp 37)) (p := (.pointer (some ⟨b6, 0, none⟩))) (v := (.slice Ra n37 c37)) (gd := none) (by kernel_rfl) rfl rfl rfl (h.mono (fun _ σ1 h2 => ?_)); replace h := h2; clear h2
  refine Seq.o ?_
  refine AV.store (T := 67) (ty := 0) (x := (.tmp 7)) (y := (.const (.int .i64 0))) (p := (.pointer (some ⟨b7, 0, none⟩))) (v := (.int .i64 0)) (gd := none) (by kernel_rfl) rfl rfl rfl (h.mono (fun _ Az h2 => ?_)); replace h := h2; clear h2
  refine Seq.done ?_
  exact At.il (by kernel_rfl) rfl h.1 h.2
 | false =>
  replace h := h.2 (of_decide_eq_false hb)
  refine At.cF 36 WJ iJ ?_
  refine At.skip ?_
  refine At.inBlock ?_
  exact At.ij rfl h.1 h.2
end DR
namespace Dx
variable {p0 p6 : Option Addr} {n0 c0 n6 c6 : Nat} {x3 x7 x8 : Int}
def M : Fw := ⟨prog, 56, f56, [], [], false, [], [], [(232, [(3, bp), (6, wL), (7, wI), (8, wI)])]⟩
theorem ok : M.Ok := ⟨AK.nil, mixed, func56, by kernel_rfl⟩
def A4 := M.pt 0
theorem start (h : A4 R 2166136261 p0 n0 c0 (n0 : Int) 0 σ) : Spec prog 56 #[.slice p0 n0 c0] σ R := M.start h ok
theorem AW (h : Br (x8 < x7) (Pq p6 fun D8 LF => In x8 (n6 : Int) ∧ LI .u8 σ D8 (LF + Int.toNat x8 * 1) fun Eb => Df (IntKind.u32.wrap Eb) fun FD => Df (Go.bits .xor .u32 x3 FD) fun Hh => Df (IntKind.u32.wrap (Hh * 16777619)) fun Hi => AN (x8 + 1) ∧ A4 R Hi (aD D8 LF) n6 c6 x7 (x8 + 1) σ) (R (.returned (.int .u32 x3)) σ)) : A4 R x3 p6 n6 c6 x7 x8 σ := M.of h ok rfl
end Dx
namespace Ew
variable {p0 p3 Ou : Option Addr} {n0 c0 n3 c3 n10 Hj : Nat} {Eb DU : Int}
def M : Fw := ⟨prog, 57, f57, [60, 99], [5], false, [], [], [(232, [(3, wL), (10, wL), (11, wI), (12, wI)])]⟩
theorem ok : M.Ok := ⟨.cons call60 (.cons call99 (AK.nil)), mixed, func57, by kernel_rfl⟩
def A4 := M.pt 0
theorem start (h : Df (IntKind.u64.wrap (n0 : Int)) fun x8 => Spec prog 99 #[.slice none 0 0, .int .u64 x8] σ (AB R (CS fun p9 n9 c9 y => A4 R p9 n9 c9 p0 n0 c0 (n0 : Int) 0 y))) : Spec prog 57 #[.slice p0 n0 c0] σ R := M.start h ok
theorem AW (h : Br (DU < Eb) (Pq Ou fun Hk J6 => In DU (n10 : Int) ∧ ∃ jv ABj, Dn σ Hk (J6 + Int.toNat DU * 2) [.string jv, .string ABj] ∧ ∀ b5 : Nat, Spec prog 60 #[.slice p3 n3 c3, .string jv] σ (AB R (CS fun Zb n19 YX y => Spec prog 60 #[.slice Zb n19 YX, .string ABj] y (AB R (CS fun p22 n22 c22 AI => AN (DU + 1) ∧ A4 R p22 n22 c22 (aD Hk J6) n10 Hj Eb (DU + 1) AI))))) (R (.returned (.slice p3 n3 c3)) σ)) : A4 R p3 n3 c3 Ou n10 Hj Eb DU σ := M.of h ok rfl
end Ew
namespace LG
variable {p0 : Option Addr} {n0 c0 : Nat} {s1 : ByteArray}
def M : Fw := ⟨prog, 60, f60, [99], [], false, [], [], []⟩
theorem ok : M.Ok := ⟨.cons call99 (AK.nil), mixed, func60, by kernel_rfl⟩
theorem start (h : Df (IntKind.u64.wrap ((ByteArray.size s1 : Nat) : Int)) fun x8 => Spec prog 99 #[.slice p0 n0 c0, .int .u64 x8] σ (AB R (CS fun p9 n9 c9 y => AJ prog (Builtin.append_ #[84, 9] 84 #[.slice p9 n9 c9, .string s1]) y (CS fun WE n11 ZU AI => R (.returned (.slice WE n11 ZU)) AI)))) : Spec prog 60 #[.slice p0 n0 c0, .string s1] σ R := M.start h ok
end LG
namespace MP
variable {q0 : Option Addr}
def M : Fw := ⟨prog, 91, f91, [], [], false, [], [], []⟩
theorem ok : M.Ok := ⟨AK.nil, mixed, func91, by kernel_rfl⟩
theorem start (h : Pq q0 fun b4 o4 => LB σ b4 (o4 + 1) fun t6 => R (.returned (.bool t6)) σ) : Spec prog 91 #[.pointer q0] σ R := M.start h ok
end MP
namespace Fq
variable {sn : Option Addr} {I6 Hl : Int}
def M : Fw := ⟨prog, 102, f102, [190], [1], false, [], [], []⟩
theorem ok : M.Ok := ⟨.cons call190 (AK.nil), mixed, func102, by kernel_rfl⟩
theorem start (h : ∀ b1 : Nat, Spec prog 190 #[.agg #[.pointer sn, .int .i64 I6, .int .i64 Hl], .int .i64 1, .int .i64 2] σ (AB R (CI .i64 fun x4 y => R (.returned (.int .i64 x4)) y))) : Spec prog 102 #[.agg #[.pointer sn, .int .i64 I6, .int .i64 Hl]] σ R := M.start h ok
end Fq
namespace Ax
variable {b0 b1 b2 cP cQ n49 c49 : Nat} {JL Rb YS : Int} {cR WQ : Option Addr}
def M : Fw := ⟨prog, 107, f107, [23, 24, 39, 53, 108, 109], [7, 10], false, [(7, 14, false), (16, 19, false)], [], [(4072, [(1, wA), (2, wA), (7, .X 41 [.I .u64, .L]), (49, wL), (50, wI), (51, wI)])]⟩
theorem ok : M.Ok := ⟨.cons call23 (.cons call24 (.cons call39 (.cons call53 (.cons call108 (.cons call109 (AK.nil)))))), mixed, func107, by kernel_rfl⟩
def MQ := M.pt 0
theorem start (h : LQ σ b0 0 fun eu => Bo (Option.isNone eu) (R (.returned (.int .i64 5)) σ) (LQ σ b0 0 fun wk => Spec prog 39 #[.pointer wk, (.string (ByteArray.mk #[114, 105, 110, 103]))] σ (AB R (fun z y => ∃ Lo Lp Lq J7 Kn, z = (.tuple #[.slice Lo Lp Lq, .int .u64 J7, .int .i64 Kn]) ∧ Spec prog 108 #[.slice Lo Lp Lq] y (AB R (fun z AI => ∃ jw so sq sr jx, z = (.tuple #[.agg #[.int .u64 jw, .slice so sq sr], .int .i64 jx]) ∧ ∀ b7 : Nat, Br (Kn ≠ 0) (R (.returned (.int .i64 5)) AI) (Br (jx ≠ 0) (R (.returned (.int .i64 5)) AI) (LQ AI b2 0 fun q32 => LQ AI b1 0 fun iN => Pq iN fun pF pG => LI .i64 AI pF (pG + 1) fun ej => 2 ≠ (0 : Int) ∧ Df (IntKind.i64.wrap (Int.tdiv ej 2)) fun PN => AN (PN + 1) ∧ Al AI fun F9 => Pq q32 fun WN YR => AJ prog (Instr.storeAt 43 (.pointer (aD WN (YR + 5))) (.pointer (aD F9 0))) (Hp.set AI F9 (.cells #[.int .u64 jw, (.int .i64 (PN + 1)), .slice none 0 0] 126 (0, 0))) (fun _ AZ => LQ AZ b2 0 fun wR => Pq wR fun cI ju => LS AZ cI (ju + 3) fun WQ n49 c49 => MQ R b1 b2 jw so sq sr WQ n49 c49 (n49 : Int) 0 AZ))))))))) : Spec prog 107 #[(.pointer (aD b0 0)), (.pointer (aD b1 0)), (.pointer (aD b2 0))] σ R := M.start h ok
theorem I8 (h : Br (YS < Rb) (Pq WQ fun su sv => In YS (n49 : Int) ∧ ∃ ABk ABl ABm ABn ABo, Dn σ su (sv + Int.toNat YS * 3) [.slice ABk ABl ABm, .int .i64 ABn, .int .u64 ABo] ∧ ∀ D8 : Nat, Spec prog 53 #[.agg #[.slice ABk ABl ABm, .int .i64 ABn, .int .u64 ABo]] σ (AB R (fun z y => ∃ pK pL pM wu ABp, z = (.agg #[.slice pK pL pM, .int .i64 wu, .int .u64 ABp]) ∧ Spec prog 109 #[.int .u64 ABp] y (AB R (CI .u64 fun wv AI => LQ AI b1 0 fun q66 => Pq q66 fun b67 o67 => LI .i64 AI b67 (o67 + 1) fun wx => Spec prog 24 #[.slice pK pL pM] AI (AB R (CI .u32 fun zv AZ => Kp [b67, b1] AI AZ ∧ Spec prog 23 #[.agg #[.int .u64 JL, .slice cR cP cQ], .int .u32 zv, .int .i64 wx] AZ (AB R (fun z Av => ∃ wy wz w4 ABq, z = (.tuple #[.slice wy wz w4, .int .i64 ABq]) ∧ Br (ABq ≠ 0) (R (.returned (.int .i64 5)) Av) (LQ Av b2 0 fun q76 => Pq q76 fun b77 o77 => LQ Av b77 (o77 + 5) fun q79 => LQ Av b2 0 fun q80 => Pq q80 fun b81 o81 => LQ Av b81 (o81 + 5) fun q83 => Pq q83 fun b84 o84 => LS Av b84 (o84 + 2) fun p86 n86 c86 => AJ prog (Instr.makeMap 127 none) Av (fun z Cg => ∃ m89, z = (.map (some m89)) ∧ Kp [b84, b81, b2, b77, b2] Av Cg ∧ Al Cg fun b91 => AJ prog (Builtin.append_ #[124, 124] 124 #[.slice p86 n86 c86, (.slice (aD b91 0) 1 1)]) (Hp.set Cg b91 (.cells #[.slice pK pL pM, .int .i64 wu, .int .u64 wv, .slice wy wz w4, (.map (some m89))] 129 (0, 0))) (CS fun p92 n92 c92 FE => Kp [b77, b2] (Hp.set Cg b91 (.cells #[.slice pK pL pM, .int .i64 wu, .int .u64 wv, .slice wy wz w4, (.map (some m89))] 129 (0, 0))) FE ∧ Pq q79 fun b93 o93 => AJ prog (Instr.storeAt 124 (.pointer (aD b93 (o93 + 2))) (.slice p92 n92 c92)) FE (fun _ Ek => AN (YS + 1) ∧ MQ R b1 b2 JL cR cP cQ (aD su sv) n49 c49 Rb (YS + 1) Ek))))))))))))) (R (.returned (.int .i64 0)) σ)) : MQ R b1 b2 JL cR cP cQ WQ n49 c49 Rb YS σ := M.bm h ok rfl fun _ => by kernel_rfl
end Ax
namespace LH
def K0 := f109.body.getD .skip
def K1 := cl K0
def K2 := cr K0
def K3 := cl K2
def K4 := cl K3
def K5 := cr K3
def K6 := cl K5
def K7 := cl K6
def K8 := cr K6
def K9 := cr K5
def Lm := cr K2
def Ss := cl Lm
def MM := cr Lm
abbrev gl (R : Rr) : Gl := Gl.fn prog 109 11 R
theorem start {R : Rr} {x0 : Int} {σ : Hp} (h : ((x0 : Int) ≠ 9218868437227405314 → ∃ v7 : Value, YN prog 198 #[(.int .u64 x0)] σ v7 ∧ Spec prog 197 #[v7] σ (AB R (fun MO Az => ∃ t8 : Bool, MO = (.bool t8) ∧ (t8 = true → R (.returned (.int .u64 9221120237041090560)) Az) ∧ (t8 = false → R (.returned (.int .u64 x0)) Az)))) ∧ (¬ ((x0 : Int) ≠ 9218868437227405314) → R (.returned (.int .u64 x0)) σ)) : Spec prog 109 #[(.int .u64 x0)] σ R := by
 refine Spec.Js (fn := f109) (c := K0) func109 (by kernel_rfl) (Nat.le_of_ble_eq_true (by kernel_rfl)) (fun e he => ?_)
 refine At.oO (l := [(0, (.int .u64 x0))]) ⟨he 0, trivial⟩ (fun J => ?_)
 show At (gl R) _ _ _ _
 refine At.s K1 K2 ?_
 refine At.rg 0 [0] ?_
 refine Seq.u 2 (.int .u64 0) (Seq.done ?_)
 refine At.s K3 Lm (At.s K4 K5 ?_)
 refine At.rg 1 [0, 1, 2, 3, 4, 5, 6] ?_
 refine Seq.us [(3, .int .u64 x0), (4, .bool (decide ((x0 : Int) ≠ 9218868437227405314))), (5, .bool (decide ((x0 : Int) ≠ 9218868437227405314)))] ?_
 cases hb : (decide ((x0 : Int) ≠ 9218868437227405314)) with
 | true =>
  replace h := h.1 (of_decide_eq_true hb)
  refine Seq.u 6 (.int .u64 x0) ?_
  obtain ⟨v7, hy, h⟩ := h
  refine Seq.yg (d := (some 7)) (op := (.call { callee := .value (.func 198), args := #[(.tmp 6)], argTypes := #[23] })) (ty := 272) (gd := (some (2, true))) (v := v7) (by kernel_rfl) rfl rfl (Yd.ext (f := 198) (args := #[(.int .u64 x0)]) rfl rfl hy) ?_
  refine Seq.o ?_
  refine AV.cl (some 8) call197 (h.cont fun MO Az h2 => ?_); replace h := h2; clear h2
  obtain ⟨t8, rfl, h⟩ := h
  refine Seq.u 9 (.bool t8) (Seq.done ?_)
  cases hb : t8 with
  | true =>
   replace h := h.1 hb
   refine At.cT 9 K6 K9 ?_
   refine At.s K7 K8 ?_
   refine At.rg 2 [0] ?_
   refine Seq.u 2 (.int .u64 9221120237041090560) (Seq.done ?_)
   exact At.rt [.tmp 2] [(.int .u64 9221120237041090560)] func109 ⟨_, rfl, rfl⟩ h
  | false =>
   replace h := h.2 hb
   refine At.cF 9 K6 K9 ?_
   refine At.skip ?_
   refine At.s Ss MM ?_
   refine At.rg 3 [0, 1] ?_
   refine Seq.us [(10, .int .u64 x0), (2, .int .u64 x0)] (Seq.done ?_)
   exact At.rt [.tmp 2] [(.int .u64 x0)] func109 ⟨_, rfl, rfl⟩ h
 | false =>
  replace h := h.2 (of_decide_eq_false hb)
  refine Seq.n 6 ?_
  refine Seq.n 7 ?_
  refine Seq.n 8 ?_
  refine Seq.u 9 (.bool false) (Seq.done ?_)
  refine At.cF 9 K6 K9 ?_
  refine At.skip ?_
  refine At.s Ss MM ?_
  refine At.rg 3 [0, 1] ?_
  refine Seq.us [(10, .int .u64 x0), (2, .int .u64 x0)] (Seq.done ?_)
  exact At.rt [.tmp 2] [(.int .u64 x0)] func109 ⟨_, rfl, rfl⟩ h
end LH
namespace QI
variable {p0 : Option Addr} {n0 c0 : Nat} {x1 : Int}
def M : Fw := ⟨prog, 115, f115, [177], [], false, [], [], []⟩
theorem ok : M.Ok := ⟨.cons call177 (AK.nil), mixed, func115, by kernel_rfl⟩
theorem start (h : Spec prog 177 #[.slice p0 n0 c0, .int .i64 x1] σ (AB R (fun z y => ∃ UW HH Na, z = (.tuple #[.int .u64 UW, .int .i64 HH, .int .i64 Na]) ∧ Br (Na ≠ 0) (R (.returned (.tuple #[(.string (ByteArray.mk #[])), .int .i64 0, .int .i64 Na])) y) (AN ((n0 : Int) - HH) ∧ Df (IntKind.u64.wrap ((n0 : Int) - HH)) fun M4 => Br (M4 < UW) (R (.returned (.tuple #[(.string (ByteArray.mk #[])), .int .i64 0, .int .i64 20])) y) (Df (IntKind.i64.wrap UW) fun Fp => AN (HH + Fp) ∧ (0 ≤ HH ∧ HH ≤ (HH + Fp) ∧ (HH + Fp) ≤ (c0 : Int)) ∧ AJ prog (convert 84 9 (.slice (Dp p0 (Int.toNat HH) c0 1) (Int.toNat (HH + Fp) - Int.toNat HH) (c0 - Int.toNat HH))) y (CT fun s34 AI => Df (IntKind.i64.wrap UW) fun J8 => AN (HH + J8) ∧ R (.returned (.tuple #[.string s34, (.int .i64 (HH + J8)), .int .i64 0])) AI)))))) : Spec prog 115 #[.slice p0 n0 c0, .int .i64 x1] σ R := M.start h ok
end QI
namespace DN
variable {p0 : Option Addr} {n0 c0 : Nat} {x3 : Int}
def M : Fw := ⟨prog, 119, f119, [], [], false, [(4, 10, true)], [], [(208, [(0, wL), (3, wI)])]⟩
theorem ok : M.Ok := ⟨AK.nil, mixed, func119, by kernel_rfl⟩
def Jh := M.pt 0
theorem start (h : Jh R p0 n0 c0 1 σ) : Spec prog 119 #[.slice p0 n0 c0] σ R := M.start h ok
theorem CU (h : Br (x3 < (n0 : Int)) (Pq p0 fun Ov QB => In x3 (n0 : Int) ∧ LI .i64 σ Ov (QB + Int.toNat x3 * 1) fun E7 => AN (x3 - 1) ∧ In (x3 - 1) (n0 : Int) ∧ LI .i64 σ Ov (QB + Int.toNat (x3 - 1) * 1) fun Fc => Br (E7 ≤ Fc) (R (.returned (.bool false)) σ) (AN (x3 + 1) ∧ Jh R (aD Ov QB) n0 c0 (x3 + 1) σ)) (R (.returned (.bool true)) σ)) : Jh R p0 n0 c0 x3 σ := M.of h ok rfl
end DN
namespace MR
variable {q0 : Option Addr} {s1 : ByteArray} {x2 : Int}
def M : Fw := ⟨prog, 134, f134, [226], [], false, [], [], []⟩
theorem ok : M.Ok := ⟨.cons call226 (AK.nil), mixed, func134, by kernel_rfl⟩
theorem start (h : Pq q0 fun b8 o8 => LT σ b8 (o8 + 1) fun cS => (ByteArray.size cS + ByteArray.size (ByteArray.mk #[47]) ≤ 9223372036854775807) ∧ (ByteArray.size (cS ++ (ByteArray.mk #[47])) + ByteArray.size s1 ≤ 9223372036854775807) ∧ Df (IntKind.u64.wrap x2) fun Hh => Spec prog 226 #[.int .u64 Hh, .int .i64 8] σ (AB R (CT fun s16 y => Kp [b8] σ y ∧ (ByteArray.size ((cS ++ (ByteArray.mk #[47])) ++ s1) + ByteArray.size s16 ≤ 9223372036854775807) ∧ R (.returned (.string (((cS ++ (ByteArray.mk #[47])) ++ s1) ++ s16))) y))) : Spec prog 134 #[.pointer q0, .string s1, .int .i64 x2] σ R := M.start h ok
end MR
namespace Gu
variable {q0 p5 : Option Addr} {s1 : ByteArray} {n5 c5 : Nat} {x6 : Int}
def M : Fw := ⟨prog, 149, f149, [], [], false, [], [], [(464, [(0, wQ), (1, wT), (5, wL), (6, wI)]), (467, [(0, wQ), (1, wT), (5, wL), (6, wI)])]⟩
theorem ok : M.Ok := ⟨AK.nil, mixed, func149, by kernel_rfl⟩
def Bu := M.pt 0
def GV := M.pt 1
theorem start (h : Bu R q0 s1 none 0 0 0 σ) : Spec prog 149 #[.pointer q0, .string s1] σ R := M.start h ok
theorem BF (h : Pq q0 fun D8 LF => LS σ D8 LF fun Jq n12 c12 => Br (x6 < (n12 : Int)) (LS σ D8 LF fun sw n20 c20 => Pq sw fun NW WL => In x6 (n20 : Int) ∧ LT σ NW (WL + Int.toNat x6 * 3) fun s24 => LB σ D8 (LF + 1) fun t28 => Bn t28 (Br ((((ByteArray.size s1 : Nat) : Int) : Int) ≤ ((ByteArray.size s24 : Nat) : Int)) (∃ s41, YF prog (Instr.sliceAt 9 (.string s24) none (some (.int .i64 ((ByteArray.size s1 : Nat) : Int))) none) σ (.string s41) ∧ Bo (ByteArray.toList s41 == ByteArray.toList s1) (Al σ fun cI => AJ prog (Builtin.append_ #[97, 97] 97 #[.slice p5 n5 c5, (.slice (aD cI 0) 1 1)]) (Hp.set σ cI (.cells #[.string s24] 9 (0, 0))) (CS fun p48 n48 c48 y => GV R (aD D8 LF) s1 p48 n48 c48 x6 y)) (GV R (aD D8 LF) s1 p5 n5 c5 x6 σ)) (GV R (aD D8 LF) s1 p5 n5 c5 x6 σ)) (GV R (aD D8 LF) s1 p5 n5 c5 x6 σ)) (R (.returned (.slice p5 n5 c5)) σ)) : Bu R q0 s1 p5 n5 c5 x6 σ := M.of h ok rfl
end Gu
namespace BJ
variable {q0 p3 cU : Option Addr} {n3 c3 n46 c46 : Nat} {Rq JO : Int}
def M : Fw := ⟨prog, 175, f175, [134, 258], [], false, [], [], [(60, [(0, wQ), (3, wL)]), (488, [(0, wQ), (3, wL), (46, wL), (47, wI), (48, wI)]), (62, [(3, wL)]), (7542, [(3, wL)])]⟩
theorem ok : M.Ok := ⟨.cons call134 (.cons call258 (AK.nil)), mixed, func175, by kernel_rfl⟩
def MQ := M.pt 0
def QE := M.pt 1
def pN := M.pt 2
def GV := M.pt 3
theorem start (h : Pq q0 fun EB GU => LI .i64 σ EB (GU + 2) fun E7 => Br (0 < E7) (LI .i64 σ EB (GU + 2) fun IE => LS σ EB (GU + 3) fun WO n26 Sz => Spec prog 134 #[(.pointer (aD EB GU)), (.string (ByteArray.mk #[99])), .int .i64 IE] σ (AB R (CT fun nP y => Kp [EB] σ y ∧ Spec prog 258 #[(.pointer (aD EB GU)), .string nP, .slice WO n26 Sz] y (AB R (fun z AI => ∃ pO jy pP ABu, z = (.tuple #[.slice pO jy pP, .bool ABu]) ∧ Bn ABu (AJ prog (Instr.storeAt 26 (.pointer (aD EB (GU + 3))) (.slice none 0 0)) AI (fun _ AZ => Br ((jy : Int) = 0) (AJ prog (Instr.storeAt 3 (.pointer (aD EB (GU + 2))) (.int .i64 0)) AZ (fun _ Av => GV R pO jy pP Av)) (GV R pO jy pP AZ))) (MQ R (aD EB GU) pO jy pP AI)))))) (MQ R (aD EB GU) none 0 0 σ)) : Spec prog 175 #[.pointer q0] σ R := M.start h ok
theorem I8 (h : Pq q0 fun WN YR => LS σ WN (YR + 3) fun cU n46 c46 => QE R (aD WN YR) p3 n3 c3 cU n46 c46 (n46 : Int) 0 σ) : MQ R q0 p3 n3 c3 σ := M.of h ok rfl
theorem PL (h : Br (JO < Rq) (Pq cU fun Zc Zd => In JO (n46 : Int) ∧ LI .i64 σ Zc (Zd + Int.toNat JO * 1) fun S7 => Pq q0 fun jz nY => LS σ jz (nY + 3) fun w5 n61 sx => AN (JO + 1) ∧ ((0 : Int) ≤ (JO + 1) ∧ (JO + 1) ≤ (n61 : Int)) ∧ Spec prog 134 #[(.pointer (aD jz nY)), (.string (ByteArray.mk #[115])), .int .i64 S7] σ (AB R (CT fun s57 y => Kp [jz] σ y ∧ Spec prog 258 #[(.pointer (aD jz nY)), .string s57, (.slice (Dp w5 (Int.toNat (JO + 1)) sx 1) (n61 - Int.toNat (JO + 1)) (sx - Int.toNat (JO + 1)))] y (AB R (fun z AI => ∃ ABv w6 ABw ABx, z = (.tuple #[.slice ABv w6 ABw, .bool ABx]) ∧ AJ prog (Builtin.append_ #[165, 165] 165 #[.slice p3 n3 c3, .slice ABv w6 ABw]) AI (CS fun nZ na c70 AZ => Bo ABx (AN (JO + 1) ∧ QE R (aD jz nY) nZ na c70 (aD Zc Zd) n46 c46 Rq (JO + 1) AZ) (LS AZ jz (nY + 3) fun p76 n76 c76 => AN (JO + 1) ∧ ((0 : Int) ≤ (JO + 1) ∧ (JO + 1) ≤ (c76 : Int)) ∧ AJ prog (Instr.storeAt 26 (.pointer (aD jz (nY + 3))) (.slice p76 (Int.toNat (JO + 1)) c76)) AZ (fun _ Av => Br ((w6 : Int) = 0) (LS Av jz (nY + 3) fun p89 n89 c89 => (0 ≤ JO ∧ JO ≤ (c89 : Int)) ∧ AJ prog (Instr.storeAt 26 (.pointer (aD jz (nY + 3))) (.slice p89 (Int.toNat JO) c89)) Av (fun _ Cg => pN R nZ na c70 Cg)) (pN R nZ na c70 Av))))))))) (pN R p3 n3 c3 σ)) : QE R q0 p3 n3 c3 cU n46 c46 Rq JO σ := M.of h ok rfl
theorem UX (h : R (.returned (.slice p3 n3 c3)) σ) : pN R p3 n3 c3 σ := M.of h ok rfl
end BJ
namespace Ft
variable {x0 x4 : Int} {p3 : Option Addr} {n3 c3 : Nat}
def M : Fw := ⟨prog, 189, f189, [56, 99, 264, 265], [], false, [], [], [(464, [(0, wI), (3, wL), (4, wU)])]⟩
theorem ok : M.Ok := ⟨.cons call56 (.cons call99 (.cons call264 (.cons call265 (AK.nil)))), mixed, func189, by kernel_rfl⟩
def Bu := M.pt 0
theorem start (h : Bu R x0 none 0 0 0 σ) : Spec prog 189 #[.int .i64 x0] σ R := M.start h ok
theorem BF (h : Br (x4 < 4) (Df (IntKind.u64.wrap x0) fun Eb => Spec prog 99 #[.slice none 0 0, .int .u64 Eb] σ (AB R (CS fun Jq n12 c12 y => Spec prog 99 #[.slice Jq n12 c12, .int .u64 x4] y (AB R (CS fun UY n14 UZ AI => Spec prog 56 #[.slice UY n14 UZ] AI (AB R (CI .u32 fun Hh AZ => Al AZ fun KY => AJ prog (Builtin.append_ #[194, 194] 194 #[.slice p3 n3 c3, (.slice (aD KY 0) 1 1)]) (Hp.set AZ KY (.cells #[.int .u32 Hh] 70 (0, 0))) (CS fun VL n17 VM Av => Df (IntKind.u64.wrap (x4 + 1)) fun x8 => Bu R x0 VL n17 VM x8 Av)))))))) (Spec prog 264 #[.slice p3 n3 c3] σ (AB R (fun z y => z = (.tuple #[]) ∧ Spec prog 265 #[.slice p3 n3 c3] y (AB R (CS fun p21 n21 c21 AI => R (.returned (.slice p21 n21 c21)) AI)))))) : Bu R x0 p3 n3 c3 x4 σ := M.of h ok rfl
end Ft
namespace I9
variable {j0 : Option Addr} {ew j7 b1 b2 b3 b4 : Nat} {I6 Hl : Int} {s6 s7 : ByteArray}
def M : Fw := ⟨prog, 193, f193, [21], [5], false, [], [], [(15, [(4, wA), (6, wT), (7, wT)])]⟩
theorem ok : M.Ok := ⟨.cons call21 (AK.nil), mixed, func193, by kernel_rfl⟩
def A4 := M.pt 0
theorem start (h : ∀ b5 : Nat, Spec prog 21 #[.slice j0 ew j7, (.string (ByteArray.mk #[99, 108, 117, 115, 116, 101, 114]))] σ (AB R (CT fun cS y => Spec prog 21 #[.slice j0 ew j7, (.string (ByteArray.mk #[114, 101, 112, 108, 105, 99, 97]))] y (AB R (CT fun s13 AI => LB AI b1 0 fun t14 => Bn t14 (Bn ((ByteArray.toList s13 == ByteArray.toList (ByteArray.mk #[]))) (AJ prog (Instr.storeAt 9 (.pointer (aD b2 0)) (.string cS)) AI (fun _ AZ => AJ prog (Instr.storeAt 9 (.pointer (aD b3 0)) (.string s13)) AZ (fun _ Av => AJ prog (Instr.storeAt 4 (.pointer (aD b1 0)) (.bool true)) Av (fun _ Cg => A4 R b4 cS s13 Cg)))) (A4 R b4 cS s13 AI)) (A4 R b4 cS s13 AI)))))) : Spec prog 193 #[.agg #[.slice j0 ew j7, .int .i64 I6, .int .u64 Hl], (.pointer (aD b1 0)), (.pointer (aD b2 0)), (.pointer (aD b3 0)), (.pointer (aD b4 0))] σ R := M.start h ok
theorem AW (h : LB σ b4 0 fun t22 => Bo t22 (Bn ((ByteArray.toList s6 == ByteArray.toList (ByteArray.mk #[]))) (AJ prog (Instr.storeAt 4 (.pointer (aD b4 0)) (.bool (!(ByteArray.toList s7 == ByteArray.toList (ByteArray.mk #[]))))) σ (fun _ y => R (.returned (.tuple #[])) y)) (AJ prog (Instr.storeAt 4 (.pointer (aD b4 0)) (.bool false)) σ (fun _ y => R (.returned (.tuple #[])) y))) (AJ prog (Instr.storeAt 4 (.pointer (aD b4 0)) (.bool false)) σ (fun _ y => R (.returned (.tuple #[])) y))) : A4 R b4 s6 s7 σ := M.of h ok rfl
end I9
namespace IK
variable {b0 b1 : Nat}
def M : Fw := ⟨prog, 222, f222, [223], [], false, [], [], []⟩
theorem ok : M.Ok := ⟨.cons call223 (AK.nil), mixed, func222, by kernel_rfl⟩
theorem start (h : LQ σ b0 0 fun q3 => LT σ b1 0 fun s4 => Spec prog 223 #[.pointer q3, .string s4] σ (AB R (CI .i64 fun x5 y => R (.returned (.int .i64 x5)) y))) : Spec prog 222 #[(.pointer (aD b0 0)), (.pointer (aD b1 0))] σ R := M.start h ok
end IK
namespace QJ
variable {x0 x1 : Int}
def M : Fw := ⟨prog, 226, f226, [58, 291], [], false, [], [], []⟩
theorem ok : M.Ok := ⟨.cons call58 (.cons call291 (AK.nil)), mixed, func226, by kernel_rfl⟩
theorem start (h : Spec prog 58 #[.int .u64 x0, .int .i64 10] σ (AB R (CT fun s6 y => Spec prog 291 #[.string s6, .int .i64 x1] y (AB R (CT fun s8 AI => R (.returned (.string s8)) AI))))) : Spec prog 226 #[.int .u64 x0, .int .i64 x1] σ R := M.start h ok
end QJ
namespace EI
variable {p0 : Option Addr} {n0 c0 : Nat} {x3 x4 x5 : Int}
def M : Fw := ⟨prog, 235, f235, [], [], false, [], [], [(464, [(0, wL), (3, bp), (4, wI)]), (59696, [(0, wL), (3, bp), (4, wI), (5, wI)]), (59699, [(0, wL), (3, bp), (4, wI), (5, wI)])]⟩
theorem ok : M.Ok := ⟨AK.nil, mixed, func235, by kernel_rfl⟩
def Bu := M.pt 0
def Ua := M.pt 1
def pQ := M.pt 2
theorem start (h : Bu R p0 n0 c0 4294967295 0 σ) : Spec prog 235 #[.slice p0 n0 c0] σ R := M.start h ok
theorem BF (h : Br (x4 < (n0 : Int)) (Pq p0 fun KY UQ => In x4 (n0 : Int) ∧ LI .u8 σ KY (UQ + Int.toNat x4 * 1) fun I7 => Df (IntKind.u32.wrap I7) fun Fc => Df (Go.bits .xor .u32 x3 Fc) fun Iu => Ua R (aD KY UQ) n0 c0 Iu x4 0 σ) (Df (Go.bits .xor .u32 x3 4294967295) fun sy => R (.returned (.int .u32 sy)) σ)) : Bu R p0 n0 c0 x3 x4 σ := M.of h ok rfl
theorem MS (h : Br (x5 < 8) (Df (Go.bits .and .u32 x3 1) fun M4 => ((0 : Int) ≤ 1 ∧ 1 ≤ ((IntKind.bits .u32 : Nat) : Int)) ∧ Df (x3 / 2 ^ Int.toNat 1) fun Gq => Br (M4 = 1) (Df (Go.bits .xor .u32 Gq 3988292384) fun Fp => pQ R p0 n0 c0 Fp x4 x5 σ) (pQ R p0 n0 c0 Gq x4 x5 σ)) (AN (x4 + 1) ∧ Bu R p0 n0 c0 x3 (x4 + 1) σ)) : Ua R p0 n0 c0 x3 x4 x5 σ := M.of h ok rfl
theorem pR (h : AN (x5 + 1) ∧ Ua R p0 n0 c0 x3 x4 (x5 + 1) σ) : pQ R p0 n0 c0 x3 x4 x5 σ := M.of h ok rfl
end EI
namespace Cs
variable {q0 : Option Addr} {s1 : ByteArray} {x6 : Int}
def M : Fw := ⟨prog, 237, f237, [], [], false, [(4, 22, true)], [], [(224, [(0, wQ), (1, wT), (6, wI)])]⟩
theorem ok : M.Ok := ⟨AK.nil, mixed, func237, by kernel_rfl⟩
def Jh := M.pt 0
theorem start (h : Jh R q0 s1 0 σ) : Spec prog 237 #[.pointer q0, .string s1] σ R := M.start h ok
theorem CU (h : Pq q0 fun b9 o9 => LS σ b9 o9 fun WE n11 ZU => Br (x6 < (n11 : Int)) (LS σ b9 o9 fun eR n18 nI => Pq eR fun BI cG => In x6 (n18 : Int) ∧ LT σ BI (cG + Int.toNat x6 * 3) fun nP => ∃ t24, YF prog ((do eqGuard .lss 9 (.tmp 22) (.tmp 23) (.string nP) (.string s1); binOp .lss 9 (.string nP) (.string s1))) σ (.bool t24) ∧ Bo t24 (AN (x6 + 1) ∧ Jh R (aD b9 o9) s1 (x6 + 1) σ) (LS σ b9 o9 fun jo n33 jq => Br (x6 < (n33 : Int)) (LS σ b9 o9 fun N6 n40 c40 => Pq N6 fun iM jr => In x6 (n40 : Int) ∧ LT σ iM (jr + Int.toNat x6 * 3) fun eh => R (.returned (.tuple #[.int .i64 x6, (.bool (ByteArray.toList eh == ByteArray.toList s1))])) σ) (R (.returned (.tuple #[.int .i64 x6, .bool false])) σ))) (LS σ b9 o9 fun jo n33 jq => Br (x6 < (n33 : Int)) (LS σ b9 o9 fun N6 n40 c40 => Pq N6 fun iM jr => In x6 (n40 : Int) ∧ LT σ iM (jr + Int.toNat x6 * 3) fun eh => R (.returned (.tuple #[.int .i64 x6, (.bool (ByteArray.toList eh == ByteArray.toList s1))])) σ) (R (.returned (.tuple #[.int .i64 x6, .bool false])) σ))) : Jh R q0 s1 x6 σ := M.of h ok rfl
end Cs
namespace Ab
variable {p0 p4 : Option Addr} {n0 c0 n4 c4 : Nat} {x3 x5 : Int}
def M : Fw := ⟨prog, 265, f265, [], [], false, [(6, 10, true), (11, 10, true)], [], [(464, [(0, wL), (3, wI)]), (477520, [(0, wL), (3, wI), (4, wL), (5, wI)]), (477523, [(0, wL), (3, wI), (4, wL), (5, wI)])]⟩
theorem ok : M.Ok := ⟨AK.nil, mixed, func265, by kernel_rfl⟩
def Am := M.pt 0
def WU := M.pt 1
def pS := M.pt 2
theorem start (h : Br ((n0 : Int) < 2) (R (.returned (.slice p0 n0 c0)) σ) (Am R p0 n0 c0 1 σ)) : Spec prog 265 #[.slice p0 n0 c0] σ R := M.start h ok
theorem BB (h : Br (x3 < (n0 : Int)) (Pq p0 fun PM YV => In x3 (n0 : Int) ∧ LI .u32 σ PM (YV + Int.toNat x3 * 1) fun Iu => AN (x3 - 1) ∧ In (x3 - 1) (n0 : Int) ∧ LI .u32 σ PM (YV + Int.toNat (x3 - 1) * 1) fun Kk => Br (Iu = Kk) ((0 ≤ x3 ∧ x3 ≤ (n0 : Int)) ∧ WU R (aD PM YV) n0 c0 x3 ((Dp (aD PM YV) (Int.toNat x3) c0 1)) (n0 - Int.toNat x3) (c0 - Int.toNat x3) 1 σ) (AN (x3 + 1) ∧ Am R (aD PM YV) n0 c0 (x3 + 1) σ)) (R (.returned (.slice p0 n0 c0)) σ)) : Am R p0 n0 c0 x3 σ := M.of h ok rfl
theorem JA (h : Br (x5 < (n4 : Int)) (Pq p4 fun Hx j8 => In x5 (n4 : Int) ∧ LI .u32 σ Hx (j8 + Int.toNat x5 * 1) fun M8 => AN (x5 - 1) ∧ In (x5 - 1) (n4 : Int) ∧ LI .u32 σ Hx (j8 + Int.toNat (x5 - 1) * 1) fun w7 => Br (M8 ≠ w7) (In x5 (n4 : Int) ∧ LI .u32 σ Hx (j8 + Int.toNat x5 * 1) fun Rb => Pq p0 fun Zc Zd => In x3 (n0 : Int) ∧ AJ prog (Instr.storeAt 70 (.pointer (aD Zc (Zd + Int.toNat x3 * 1))) (.int .u32 Rb)) σ (fun _ y => AN (x3 + 1) ∧ pS R (aD Zc Zd) n0 c0 (x3 + 1) (aD Hx j8) n4 c4 x5 y)) (pS R p0 n0 c0 x3 (aD Hx j8) n4 c4 x5 σ)) ((0 ≤ x3 ∧ x3 ≤ (n0 : Int)) ∧ AJ prog (Builtin.clear_ #[194] 0 #[(.slice (Dp p0 (Int.toNat x3) c0 1) (n0 - Int.toNat x3) (c0 - Int.toNat x3))]) σ (fun _ y => (0 ≤ x3 ∧ x3 ≤ (c0 : Int)) ∧ R (.returned (.slice p0 (Int.toNat x3) c0)) y))) : WU R p0 n0 c0 x3 p4 n4 c4 x5 σ := M.of h ok rfl
theorem cV (h : AN (x5 + 1) ∧ WU R p0 n0 c0 x3 p4 n4 c4 (x5 + 1) σ) : pS R p0 n0 c0 x3 p4 n4 c4 x5 σ := M.of h ok rfl
end Ab
namespace LJ
variable {j0 : Option Addr} {ew j7 b1 : Nat} {I6 Hl : Int}
def M : Fw := ⟨prog, 266, f266, [267], [2], false, [], [], []⟩
theorem ok : M.Ok := ⟨.cons call267 (AK.nil), mixed, func266, by kernel_rfl⟩
theorem start (h : ∀ b2 : Nat, Spec prog 267 #[.slice j0 ew j7] σ (AB R (CI .i64 fun x6 y => Br (x6 ≠ 0) (R (.returned (.int .i64 152)) y) (Br ((ew : Int) = 0) (R (.returned (.int .i64 152)) y) (LI .i64 y b1 1 fun Iu => Br (Iu < (ew : Int)) (R (.returned (.int .i64 152)) y) (R (.returned (.int .i64 0)) y)))))) : Spec prog 266 #[.agg #[.slice j0 ew j7, .int .i64 I6, .int .u64 Hl], (.pointer (aD b1 0))] σ R := M.start h ok
end LJ
namespace DS
variable {q0 q5 : Option Addr} {x1 x6 : Int} {v11 : Value}
def M : Fw := ⟨prog, 290, f290, [], [], false, [(5, 14, true), (6, 14, true)], [(11, 186)], [(40, [(0, wQ), (1, wI), (11, wV)]), (2670, [(0, wQ), (1, wI), (5, wQ), (6, wI), (11, wV)])]⟩
theorem ok : M.Ok := ⟨AK.nil, mixed, func290, by kernel_rfl⟩
def ZW := M.pt 0
def WV := M.pt 1
theorem start (h : Pq q0 fun b8 o8 => LM σ b8 o8 fun m10 => AJ prog (Instr.range 186 (.map m10)) σ (fun z y => ∃ v11, v11 = z ∧ ZW R (aD b8 o8) x1 v11 y)) : Spec prog 290 #[.pointer q0, .int .i64 x1] σ R := M.start h ok
theorem Ln (h : AJ prog (Instr.next v11 false 0) σ (fun v y => (v = (.tuple #[.bool false]) ∧ Pq q0 fun VR w8 => AJ prog (Instr.storeAt 4 (.pointer (aD VR (w8 + 1))) (.bool false)) y (fun _ AI => AJ prog (Instr.storeAt 4 (.pointer (aD VR (w8 + 2))) (.bool false)) AI (fun _ AZ => R (.returned (.tuple #[])) AZ))) ∨ (∃ WM AIo, v = (.tuple #[.bool true, .string WM, .pointer AIo]) ∧ AJ prog (Instr.entry v11) y (fun z AI => ∃ ey w9, z = (.tuple #[.string ey, .pointer w9]) ∧ Br (0 ≤ x1) (Pq w9 fun BI cG => LS AI BI cG fun p22 n22 c22 => LI .i64 AI BI (cG + 1) fun Kl => AN ((n22 : Int) - Kl) ∧ AN (((n22 : Int) - Kl) + 1) ∧ (((n22 : Int) - Kl) + 1) ≠ (0 : Int) ∧ Df (Int.tmod x1 (((n22 : Int) - Kl) + 1)) fun bw => WV R q0 x1 (aD BI cG) bw v11 AI) (WV R q0 x1 w9 0 v11 AI))))) : ZW R q0 x1 v11 σ := M.of h ok rfl
theorem Ub (h : Pq q5 fun YU wm => LS σ YU wm fun p35 n35 c35 => LI .i64 σ YU (wm + 1) fun ej => AN (ej + x6) ∧ ((0 : Int) ≤ (ej + x6) ∧ (ej + x6) ≤ (c35 : Int)) ∧ AJ prog (Instr.storeAt 84 (.pointer (aD YU wm)) (.slice p35 (Int.toNat (ej + x6)) c35)) σ (fun _ y => LS y YU wm fun WQ n49 c49 => AJ prog (Instr.storeAt 3 (.pointer (aD YU (wm + 1))) (.int .i64 (n49 : Int))) y (fun _ AI => ZW R q0 x1 v11 AI))) : WV R q0 x1 q5 x6 v11 σ := M.of h ok rfl
end DS
end TwW
end
end
