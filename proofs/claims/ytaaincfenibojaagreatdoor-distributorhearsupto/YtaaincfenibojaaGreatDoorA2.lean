/-
  Part 2 of the proof that the law DistributorHearsUptoCardSaid of the given program answers true for every input of the given statement; the input reads behind the call as it did. (The texts: packed from 9 texts. Names are shortened by the packing program, for the bound on size.)
-/
import Derived.Test.YtaaincfenibojaaGreatDoorA1
set_option linter.all false
section
namespace Tw
open Go
variable [I7]
def eQ : List Nat → Nat → Bool
 | [], _ => false
 | x :: l, n => Nat.beq x n || eQ l n
theorem WI : ∀ {l : List Nat} {n : Nat}, eQ l n = true → n ∈ l
 | x :: l, n, h => by
   simp only [eQ, Bool.or_eq_true] at h
   rcases h with h | h
   · exact (Nat.eq_of_beq_eq_true h) ▸ List.mem_cons_self ..
   · exact List.mem_cons_of_mem _ (WI h)
def AM (P : Program) (l : List Nat) : Prop := ∀ f ∈ l, Enters P f
theorem AM.nil {P : Program} : AM P [] := fun f h => by cases h
theorem AM.cons {P : Program} {f : Nat} {l : List Nat} (h : Enters P f) (hl : AM P l) : AM P (f :: l) := fun x hx => by
 rcases List.mem_cons.1 hx with rfl | hx
 · exact h
 · exact hl x hx
abbrev KP := Hp → Hp → Prop → Prop
def L8 (gen : Vl → (SV → Vl → Prop) → Prop) (dst : Option Nat) (s : S) (σ0 : Hp) (v : Value) (kp : KP) (K : S → Prop) : Prop := match dst with
 | none => kp σ0 s.σ (K s)
 | some d => match s.ok with
   | true => gen s.vl fun x vl => eqV x vl v (kp σ0 s.σ (K ((s.w vl).put (some d) x)))
   | false => False
def TH (gen : Vl → (SV → Vl → Prop) → Prop) : Prop := ∀ vl k, gen vl k → ∃ a w, vl.Le w ∧ k a w
theorem Uh {P : Program} {t : TypeId} : TH (eO P t) := fun _ _ h => TF h
def je : Vl → (SV → Vl → Prop) → Prop := fun vl k => ∃ m : Nat, k (.at (.mp (some m))) vl
theorem eR : TH je := fun vl k ⟨m, h⟩ => ⟨_, _, .refl _, h⟩
def jf : Vl → (SV → Vl → Prop) → Prop := fun vl k => ∃ v : Value, k (.at (.raw v)) vl
theorem eS : TH jf := fun vl k ⟨m, h⟩ => ⟨_, _, .refl _, h⟩
def Pg (P : Program) (t : TypeId) (two : Bool) : Vl → (SV → Vl → Prop) → Prop := fun vl k => match two with
 | false => oB P t vl fun a vl => k (.v a) vl
 | true => oB P t vl fun a vl => ∃ b : Bool, k (.S4 [a, .a (.bs vl.β.length false)]) (vl.ZM (.var b))
theorem Zh {P : Program} {t : TypeId} {two : Bool} : TH (Pg P t two) := fun vl k h => by
 cases two with
 | false => unfold Pg at h; obtain ⟨a, w, h1, h⟩ := Es h; exact ⟨_, _, h1, h⟩
 | true => unfold Pg at h; obtain ⟨a, w, h1, b, h⟩ := Es h; exact ⟨_, _, h1.trans (Vl.bw _ _), h⟩
def jg (P : Program) (t u : TypeId) : Vl → (SV → Vl → Prop) → Prop := fun vl k => oB P t vl fun a vl => oB P u vl fun b vl => k (.S4 [a, b]) vl
theorem eT {P : Program} {t u : TypeId} : TH (jg P t u) := fun vl k h => by
 obtain ⟨a, w, h1, h⟩ := Es h
 obtain ⟨b, w2, h2, h⟩ := Es h
 exact ⟨_, _, h1.trans h2, h⟩
def wv (J : Env) (s : S) (kq : Hp → Hp → Prop) (K : S → Prop) : Env → Bx → Hp → Prop := fun e' Gc σ' => ∃ s', e' = s'.e J ∧ Gc = s'.b ∧ σ' = s'.σ ∧ kq s.σ σ' ∧ (∀ p ∈ s.b, p ∈ Gc) ∧ K s'
theorem Bg {gen : Vl → (SV → Vl → Prop) → Prop} (hg : TH gen) {dst : Option Nat} {s : S} {σ1 : Hp} {v : Value} {kp : KP} {kq : Hp → Hp → Prop} {K : S → Prop} (J3 : ∀ σ0 σ1 F, kp σ0 σ1 F → F ∧ kq σ0 σ1)
   (h : L8 gen dst (s.hp σ1) s.σ v kp K) (J : Env) : wv J s kq K (put (s.e J) dst v) s.b σ1 := by
 cases dst with
 | none =>
   obtain ⟨h1, h2⟩ := J3 _ _ _ h
   exact ⟨s.hp σ1, rfl, rfl, rfl, h2, fun _ h => h, h1⟩
 | some d =>
   simp only [L8] at h
   cases hs : (s.hp σ1).ok with
   | false => rw [hs] at h; cases h
   | true =>
     rw [hs] at h
     obtain ⟨x, w, hle, h⟩ := hg _ _ h
     obtain ⟨hv, h⟩ := eP h
     obtain ⟨h1, h2⟩ := J3 _ _ _ h
     have KF := S.P8 hs hle.le
     refine ⟨_, ?_, ?_, ?_, h2, fun _ h => h, h1⟩
     · rw [S.IV, KF.e J, hv]; rfl
     · rw [S.IW, KF.b]; rfl
     · rw [S.Fm]; rfl
def S.boxed (s : S) (d : Option Nat) (b : Nat) (T : TypeId) (cs : List CZ) : S :=
 S.put ⟨s.env, (s.vl.δ.length, T, cs) :: s.bx, s.vl.pK b, s.σ⟩ d (.at (.pt (.bx s.vl.δ.length 0)))
def pP (hid : Bool) (d : Option Nat) (T : TypeId) (cs : List CZ) (s : S) (K : S → Prop) : Prop := match hid with
 | true => match s.ok && wR s.vl cs with
   | true => ∀ b : Nat, K (s.boxed d b T cs)
   | false => False
 | false => ∀ b : Nat, s.σ b = none → K ((s.hp (Hp.set s.σ b (.cells (Ba s.vl cs).toArray T (0, 0)))).put d (.at (.pt (.at b 0))))
def jh (P : Program) (T : TypeId) : Option Value := match P.info? T with
 | some it => it.zero
 | none => none
theorem TI {P : Program} {T : TypeId} {z : Value} (h : jh P T = some z) : ∀ w, (zeroValue T).run P w = .ok z w := fun w => by
 unfold jh at h
 split at h
 · rename_i it hi
   simp [zeroValue, typeInfo, hi, h]
 · cases h
structure Zi where
 P : Program
 R : Rr
 CY : List Nat
 hid : List Nat
 wr : Bool
def Zi.bz (c : Zi) (d : Option Nat) : Bool := match d with
 | some d => eQ c.hid d
 | none => false
def ji (c : Zi) (dst : Option Nat) (x : Operand) (xs : List Operand) (ty : TypeId) (s : S) (kp : KP) (K : S → Prop) : Prop := match s.op x, s.WA xs with
 | some (.v (.a (.fn f a b))), some vs => match eQ c.CY f with
   | true => Spec c.P f (a.toList ++ (Er s.vl vs ++ b.toList)).toArray s.σ (AB c.R fun v σ1 => L8 (eO c.P ty) dst (s.hp σ1) s.σ v kp K)
   | false => match Nat.beq (a.size + b.size) 0 with
     | true => ∃ v, YN c.P f (Er s.vl vs).toArray s.σ v ∧ L8 (eO c.P ty) dst (s.hp s.σ) s.σ v kp K
     | false => False
 | some (.v (.a (.raw u))), some vs => match eQ c.hid 100000 with
   | true => ∃ l : Nat, u = .func (.yield l) #[] #[] ∧ J9 c.P l (Er s.vl vs).toArray s.σ (AB c.R fun v σ1 => L8 (eO c.P ty) dst (s.hp σ1) s.σ v kp K)
   | false => ∃ (f : Nat) (fst cap : Array Value), u = .func (.func f) fst cap ∧ Enters c.P f ∧ Spec c.P f (fst ++ (Er s.vl vs).toArray ++ cap) s.σ (AB c.R fun v σ1 => L8 (eO c.P ty) dst (s.hp σ1) s.σ v kp K)
 | _, _ => False
def biV (c : Zi) (dst : Option Nat) (b : Builtin) (xs : List Operand) (ts : Array TypeId) (ty : TypeId) (s : S) (kp : KP) (K : S → Prop) : Prop := match s.WA xs with
 | none => False
 | some vs => match b, xs with
   | .append, [_, _] => AJ c.P (Builtin.append_ ts ty (Er s.vl vs).toArray) s.σ (fun v σ1 => L8 (eO c.P ty) dst (s.hp σ1) s.σ v kp K)
   | .copy, [_, _] => AJ c.P (Builtin.copy_ ts ty (Er s.vl vs).toArray) s.σ (fun v σ1 => L8 (eO c.P ty) dst (s.hp σ1) s.σ v kp K)
   | .delete, [_, _] => AJ c.P (Builtin.delete_ ts ty (Er s.vl vs).toArray) s.σ (fun v σ1 => L8 (eO c.P ty) dst (s.hp σ1) s.σ v kp K)
   | .clear, [_] => AJ c.P (Builtin.clear_ ts ty (Er s.vl vs).toArray) s.σ (fun v σ1 => L8 (eO c.P ty) dst (s.hp σ1) s.σ v kp K)
   | _, _ => False
def eU (c : Zi) (dst : Option Nat) (op : Op) (ty : TypeId) (s : S) (kp : KP) (K : S → Prop) : Prop := match op with
 | .call cl => match cl.callee with
   | .value x => ji c dst x cl.args.toList ty s kp K
   | .builtin b => biV c dst b cl.args.toList cl.argTypes ty s kp K
   | _ => False
 | .box T x => match s.op x with
   | some v => match v.flat with
     | some cs => pP (c.bz dst) dst T cs s K
     | none => False
   | none => False
 | .alloc T => match jh c.P T with
   | some z => pP (c.bz dst) dst T (OL z.cells.toList) s K
   | none => False
 | .buildSlice T m ps => match c.P.underlying T, s.parts ps.toList with
   | some (.slice E), some vs => match Program.Ly c.P E m (L1 s.vl vs) with
     | some cs => ∀ b : Nat, s.σ b = none → K ((s.hp (Hp.set s.σ b (.cells cs E (0, 0)))).put dst (.at (.sl (.at b 0) m m)))
     | none => False
   | _, _ => False
 | .store T x y => match dst, jZ (s.op x), s.op y with
   | none, some (.at b o), some v => AJ c.P (Instr.storeAt T (.pointer (some ⟨b, o, none⟩)) (v.den s.vl)) s.σ (fun _ σ1 => kp s.σ σ1 (K (s.hp σ1)))
   | _, _, _ => False
 | .convert T T' x => match s.op x with
   | some v => AJ c.P (convert T T' (v.den s.vl)) s.σ (fun v σ1 => L8 (eO c.P ty) dst (s.hp σ1) s.σ v kp K)
   | none => False
 | .makeMap T none => AJ c.P (Instr.makeMap T none) s.σ (fun v σ1 => L8 je dst (s.hp σ1) s.σ v kp K)
 | .lookup T x y two => match c.P.underlying T, s.op x, s.op y with
   | some (.map _ t), some u, some v => AJ c.P (Instr.lookup T (u.den s.vl) (v.den s.vl) two) s.σ (fun v σ1 => L8 (Pg c.P t two) dst (s.hp σ1) s.σ v kp K)
   | _, _, _ => False
 | .range T x => match s.op x with
   | some v => AJ c.P (Instr.range T (v.den s.vl)) s.σ (fun v σ1 => L8 jf dst (s.hp σ1) s.σ v kp K)
   | none => False
 | _ => False
section
variable {g : Gl} {ops : Array Oper} {i : Nat} {J : Env} {dst : Option Nat} {op : Op} {ty : TypeId} {gd : Option (Nat × Bool)} {s : S} {kp : KP} {kq : Hp → Hp → Prop} {K : S → Prop} {c : Zi}
theorem WJ {x : Operand} {xs : Array Operand} {ts : Array TypeId} (hP : c.P = g.P) (hR : c.R = g.R) (hE : AM g.P c.CY) (J3 : ∀ σ0 σ1 F, kp σ0 σ1 F → F ∧ kq σ0 σ1)
   (hs : sig ops i = some (dst, .call { callee := .value x, args := xs, argTypes := ts }, ty, gd)) (hw : Ab ops (s.e J) gd = true) (hd : IG dst g.n = true) (h : ji c dst x xs.toList ty s kp K) : AY g ops i (s.e J) s.b s.σ (wv J s kq K) := by
 unfold ji at h
 rw [hP, hR] at h
 split at h
 · rename_i f a b vs hx oC
   split at h
   · rename_i hm
     refine AY.call hs hw hd (fun o ho _ w => NZ (hE f (WI hm)) (fst := a) (cap := b) (vs := (Er s.vl vs).toArray) (by rw [ev hx]; rfl) (by simpa using D7 oC) ?_ o ho w) (h.mono fun e σ1 hr => ?_)
     · rw [← Array.toList_inj]; simp
     · cases e with
       | returned v => exact Bg Uh J3 hr J
       | panicked ch => exact hr
       | outgrown => exact hr
   · split at h
     · rename_i hz
       have hz := Nat.eq_of_beq_eq_true hz
       obtain ⟨v, hy, h⟩ := h
       exact AY.y hs hw hd (Yd.ext (by rw [ev hx, show a = #[] from Array.eq_empty_of_size_eq_zero (by omega), show b = #[] from Array.eq_empty_of_size_eq_zero (by omega)]; rfl) (by simpa using D7 oC) hy) (Bg Uh J3 h J)
     · cases h
 · rename_i u vs hx oC
   split at h
   · obtain ⟨l, hu, h⟩ := h
     refine AY.yield hs hw hd (u := u) (vs := (Er s.vl vs).toArray) (by rw [ev hx]; rfl) (by simpa using D7 oC) hu (h.mono fun e σ1 hr => ?_)
     cases e with
     | returned v => exact Bg Uh J3 hr J
     | panicked ch => exact hr
     | outgrown => exact hr
   · obtain ⟨f, fst, cap, hu, J8, h⟩ := h
     refine AY.AA8 hs hw hd (u := u) (vs := (Er s.vl vs).toArray) (by rw [ev hx]; rfl) (by simpa using D7 oC) hu J8 (h.mono fun e σ1 hr => ?_)
     cases e with
     | returned v => exact Bg Uh J3 hr J
     | panicked ch => exact hr
     | outgrown => exact hr
 · cases h
theorem WK {T : TypeId} {cs : List CZ} {hid : Bool} (Nj : ∀ σ0 σ1, Ext σ0 σ1 → kq σ0 σ1) (h : pP hid dst T cs s K) :
   (hid = true → ∀ b, wv J s kq K (put (s.e J) dst (.pointer (some ⟨b, 0, none⟩))) ((b, .cells (Ba s.vl cs).toArray T (0, 0)) :: s.b) s.σ) ∧
   (hid = false → ∀ b, s.σ b = none → wv J s kq K (put (s.e J) dst (.pointer (some ⟨b, 0, none⟩))) s.b (s.σ.set b (.cells (Ba s.vl cs).toArray T (0, 0)))) := by
 unfold pP at h
 constructor
 · rintro rfl b
   simp only at h
   cases hs : s.ok && wR s.vl cs with
   | false => rw [hs] at h; cases h
   | true =>
     rw [hs] at h
     simp only [Bool.and_eq_true] at hs
     have h := h b
     have hle := Vl.pM s.vl b
     have KF := S.P8 hs.1 hle
     have hb : (S.boxed s dst b T cs).b = (b, Obj.cells (Ba s.vl cs).toArray T (0, 0)) :: s.b := by
       unfold S.boxed
       rw [S.IW]
       simp only [S.b, FC]
       have hbv : FC (s.vl.pK b) s.bx = FC s.vl s.bx := KF.b
       rw [Pf hle hs.2, hbv]
       show (nth 0 (s.vl.δ ++ [b]) s.vl.δ.length, _) :: _ = _
       rw [Kk]
     refine ⟨_, ?_, hb.symm, ?_, Nj _ _ (Ext.refl _), fun _ h => List.mem_cons_of_mem _ h, h⟩
     · unfold S.boxed
       rw [S.IV]
       have := KF.e J
       show put (s.e J) dst _ = put ((s.w (s.vl.pK b)).e J) dst (.pointer (some ⟨nth 0 (s.vl.δ ++ [b]) s.vl.δ.length, 0, none⟩))
       rw [this, Kk]
     · unfold S.boxed; rw [S.Fm]
 · rintro rfl b hb
   have h := h b hb
   refine ⟨_, ?_, ?_, ?_, Nj _ _ (.set hb), fun _ h => h, h⟩
   · rw [S.IV]; rfl
   · rw [S.IW]; rfl
   · rw [S.Fm]; rfl
theorem eV {b : Builtin} {xs : Array Operand} {ts : Array TypeId} (hP : c.P = g.P) (J3 : ∀ σ0 σ1 F, kp σ0 σ1 F → F ∧ kq σ0 σ1)
   (hs : sig ops i = some (dst, .call { callee := .builtin b, args := xs, argTypes := ts }, ty, gd)) (hw : Ab ops (s.e J) gd = true) (hd : IG dst g.n = true) (h : biV c dst b xs.toList ts ty s kp K) : AY g ops i (s.e J) s.b s.σ (wv J s kq K) := by
 unfold biV at h
 rw [hP] at h
 split at h
 · cases h
 · rename_i vs oC
   have two : ∀ {x y : Operand}, xs.toList = [x, y] → xs = #[x, y] ∧ Er s.vl vs = [AE (s.e J) x, AE (s.e J) y] := fun hx => by
     refine ⟨by rw [← Array.toList_inj]; simpa using hx, ?_⟩
     rw [← D7 (J := J) oC, hx]; rfl
   have one : ∀ {x : Operand}, xs.toList = [x] → xs = #[x] ∧ Er s.vl vs = [AE (s.e J) x] := fun hx => by
     refine ⟨by rw [← Array.toList_inj]; simpa using hx, ?_⟩
     rw [← D7 (J := J) oC, hx]; rfl
   split at h
   · rename_i x y hx
     obtain ⟨rfl, e⟩ := two hx
     rw [e] at h
     exact AY.jO hs hw hd _ (fun o ho ht => LZ rfl rfl o ho ht) (h.mono fun v σ1 hr => Bg Uh J3 hr J)
   · rename_i x y hx
     obtain ⟨rfl, e⟩ := two hx
     rw [e] at h
     exact AY.jO hs hw hd _ (fun o ho ht => Vz rfl rfl o ho ht) (h.mono fun v σ1 hr => Bg Uh J3 hr J)
   · rename_i x y hx
     obtain ⟨rfl, e⟩ := two hx
     rw [e] at h
     exact AY.jO hs hw hd _ (fun o ho ht => SE rfl rfl o ho ht) (h.mono fun v σ1 hr => Bg Uh J3 hr J)
   · rename_i x hx
     obtain ⟨rfl, e⟩ := one hx
     rw [e] at h
     exact AY.jO hs hw hd _ (fun o ho ht => UP rfl o ho ht) (h.mono fun v σ1 hr => Bg Uh J3 hr J)
   · cases h
theorem QG (hP : c.P = g.P) (hR : c.R = g.R) (hE : AM g.P c.CY) (J3 : ∀ σ0 σ1 F, kp σ0 σ1 F → F ∧ kq σ0 σ1) (Nj : ∀ σ0 σ1, Ext σ0 σ1 → kq σ0 σ1)
   (hs : sig ops i = some (dst, op, ty, gd)) (hw : Ab ops (s.e J) gd = true) (hd : IG dst g.n = true) (h : eU c dst op ty s kp K) : AY g ops i (s.e J) s.b s.σ (wv J s kq K) := by
 unfold eU at h
 split at h
 · rename_i cl
   obtain ⟨ce, xs, ts⟩ := cl
   split at h
   · rename_i x hx
     simp only at hx h
     subst hx
     exact WJ hP hR hE J3 hs hw hd h
   · rename_i b hx
     simp only at hx h
     subst hx
     exact eV hP J3 hs hw hd h
   · cases h
 · rename_i T x
   split at h
   · rename_i v hv
     split at h
     · rename_i cs hc
       obtain ⟨h1, h2⟩ := WK (J := J) Nj h
       have hx : (AE (s.e J) x).cells = (Ba s.vl cs).toArray := by rw [ev hv, WE hc]
       cases hh : c.bz dst with
       | true => exact AY.box hs hw hd hx (h1 hh)
       | false => exact AY.AA2 hs hw hd hx (h2 hh)
     · cases h
   · cases h
 · rename_i T
   split at h
   · rename_i z hz
     obtain ⟨h1, h2⟩ := WK (J := J) Nj h
     have hx : z.cells = (Ba s.vl (OL z.cells.toList)).toArray := by rw [IX]
     rw [hP] at hz
     cases hh : c.bz dst with
     | true => exact AY.alloc hs hw hd (TI hz) hx (h1 hh)
     | false => exact AY.UN hs hw hd (TI hz) hx (h2 hh)
   · cases h
 · rename_i T m ps
   rw [hP] at h
   split at h
   · rename_i E vs hT oC
     split at h
     · rename_i cs hc
       refine AY.Ly hT hs hw hd (L5 oC) hc fun b hb => ?_
       refine ⟨_, ?_, ?_, ?_, Nj _ _ (.set hb), fun _ h => h, h b hb⟩
       · rw [S.IV]; rfl
       · rw [S.IW]; rfl
       · rw [S.Fm]; rfl
     · cases h
   · cases h
 · rename_i T x y
   split at h
   · rename_i b o v hx hy
     obtain ⟨u, e1, e2⟩ := FD hx
     rw [hP] at h
     refine AY.store hs hw (p := .pointer (some ⟨b, o, none⟩)) (by rw [ev e1, e2]; rfl) (ev hy) (h.mono fun _ σ1 hr => ?_)
     obtain ⟨h1, h2⟩ := J3 _ _ _ hr
     exact ⟨s.hp σ1, rfl, rfl, rfl, h2, fun _ h => h, h1⟩
   · cases h
 · rename_i T T' x
   split at h
   · rename_i v hv
     rw [hP] at h
     exact AY.jO hs hw hd _ (fun o ho ht => by simp only [execOp, ho]; rw [ev hv]) (h.mono fun v σ1 hr => Bg Uh J3 hr J)
   · cases h
 · rename_i T
   rw [hP] at h
   exact AY.jO hs hw hd _ (fun o ho ht => by simp only [execOp, ho]; rfl) (h.mono fun v σ1 hr => Bg eR J3 hr J)
 · rename_i T x y two
   rw [hP] at h
   split at h
   · rename_i a t u v hT hu hv
     exact AY.jO hs hw hd _ (fun o ho ht => by simp only [execOp, ho]; rw [ev hu, ev hv]) (h.mono fun v σ1 hr => Bg Zh J3 hr J)
   · cases h
 · rename_i T x
   split at h
   · rename_i v hv
     rw [hP] at h
     exact AY.jO hs hw hd _ (fun o ho ht => by simp only [execOp, ho]; rw [ev hv]) (h.mono fun v σ1 hr => Bg eS J3 hr J)
   · cases h
 · cases h
end
end Tw
end
section
namespace Tw
open Go
variable [I7]
def jj (P : Program) : Op → Bool
 | .call c => match c.callee with
   | .builtin .len => false
   | .builtin .cap => false
   | .builtin .min => false
   | .builtin .max => false
   | _ => true
 | .convert T T' _ => match P.underlying T, P.underlying T' with
   | some (.int _), some (.int _) => false
   | _, _ => true
 | .box .. => true
 | .alloc .. => true
 | .store .. => true
 | .buildSlice .. => true
 | .makeSlice .. => true
 | .mapUpdate .. => true
 | .makeMap .. => true
 | .insert .. => true
 | .range .. => true
 | .next .. => true
 | .lookup .. => true
 | .entryStore .. => true
 | .mapEntry .. => true
 | .makeChan .. => true
 | _ => false
def eW (s : S) : Option Operand → Option (Option Value)
 | none => some none
 | some x => match s.op x with
   | some v => some (some (v.den s.vl))
   | none => none
def pQ (P : Program) (b : BinOp) (T : TypeId) (x y : Option SV) : Bool := match JI x, JI y with
 | some _, some _ => true
 | _, _ => match P.underlying T with
   | some .string => match b with
     | .eql => true
     | .neq => true
     | .add => true
     | _ => false
   | some (.pointer _) => true
   | some .bool => true
   | _ => false
def AJO : Option SV → Bool
 | some (.v (.a (.sl _ _ _))) => true
 | _ => false
def anyM (P : Program) (op : Op) (ty : TypeId) (s : S) : Option (Sem Value) := match op with
 | .slice T x lo hi mx => match AJO (s.op x) && mx.isNone with
   | true => none
   | false => match s.op x, eW s lo, eW s hi, eW s mx with
     | some w, some l, some h, some m => some (Instr.sliceAt T (w.den s.vl) l h m)
     | _, _, _, _ => none
 | .unOp u _ x => match u, s.op x with
   | .not, _ => none
   | .neg, v => match JI v, v with
     | some _, _ => none
     | none, some v => some (Op.unary .neg (v.den s.vl))
     | none, none => none
   | u, some v => some (Op.unary u (v.den s.vl))
   | _, none => none
 | .binOp b T x y _ => match pQ P b T (s.op x) (s.op y) with
   | true => none
   | false => match s.op x, s.op y with
     | some u, some v => some (do eqGuard b T x y (u.den s.vl) (v.den s.vl); binOp b T (u.den s.vl) (v.den s.vl))
     | _, _ => none
 | .call c => match c.callee, c.args.toList, c.argTypes.toList with
   | .builtin .len, [x], [T] => match s.op x with
     | some (.v (.a (.mp m))) => some (Builtin.len_ #[T] ty #[.map m])
     | _ => none
   | _, _, _ => none
 | _ => none
theorem Nk {s : S} {J : Env} {x : Option Operand} {v : Option Value} (h : eW s x = some v) : x.map (AE (s.e J)) = v := by
 cases x with
 | none => simp only [eW, Option.some.injEq] at h; subst h; rfl
 | some x =>
   simp only [eW] at h
   split at h
   · rename_i u hu
     cases h
     simp only [Option.map_some]
     rw [ev hu]
   · cases h
theorem eX {P : Program} {op : Op} {ty : TypeId} {s : S} {m : Sem Value} (h : anyM P op ty s = some m) (J : Env) : ∀ o : Oper, o.op = op → o.type = ty → execOp (AE (s.e J)) o = (do pure (Next.value (← m))) := fun o ho ht => by
 unfold anyM at h
 split at h
 · rename_i T x lo hi mx
   split at h
   · cases h
   · split at h
     · rename_i w l hh mm h1 h2 h3 h4
       cases h
       simp only [execOp, ho, Nk h2, Nk h3, Nk h4, ev h1]
     · cases h
 · rename_i u T x
   split at h
   · cases h
   · split at h
     · cases h
     · rename_i hv
       cases h
       simp only [execOp, ho, ev hv]
     · cases h
   · rename_i hv
     cases h
     simp only [execOp, ho, ev hv]
   · cases h
 · rename_i b T x y T'
   split at h
   · cases h
   · split at h
     · rename_i u v hu hv
       cases h
       simp only [execOp, ho, ev hu, ev hv]
     · cases h
 · rename_i c
   obtain ⟨ce, AWR, ts⟩ := c
   split at h
   · rename_i x T h1 h2 h3
     simp only at h1 h2 h3
     have e1 : AWR = #[x] := by rw [← Array.toList_inj]; simpa using h2
     have e2 : ts = #[T] := by rw [← Array.toList_inj]; simpa using h3
     subst h1 e1 e2
     split at h
     · rename_i mm hx
       cases h
       exact ZK (by rw [ev hx]; rfl) o ho ht
     · cases h
   · cases h
 · cases h
def wx (P : Program) (ty : TypeId) (m : Sem Value) (s : S) (K : SV → S → Prop) : Prop := s.ex P ty fun v s => YF P m s.σ (v.den s.vl) ∧ K v s
theorem QH {P : Program} {op : Op} {ty : TypeId} {s : S} {m : Sem Value} {K : SV → S → Prop} (hm : anyM P op ty s = some m) (h : wx P ty m s K) : ∃ v s', s.Same s' ∧ (∀ J, Yd P (s.e J) s.b s.σ op ty (v.den s'.vl)) ∧ K v s' := by
 obtain ⟨v, s', h1, hy, hk⟩ := S.QF h
 rw [h1.σ] at hy
 exact ⟨v, s', h1, fun J => Yd.any (eX hm J) hy, hk⟩
def QI (ops : Array Oper) (gd : Option (Nat × Bool)) (s : S) (K : Bool → S → Prop) : Prop := match gd with
 | none => K true s
 | some (j, want) => match (ops[j]?).bind (·.dst) with
   | none => False
   | some d => match Ub s.env d with
     | some (.v (.a .un)) => K false s
     | v => s.pN v fun t s => K (t == want) s
theorem JJ {ops : Array Oper} {gd : Option (Nat × Bool)} {s : S} {K : Bool → S → Prop} (h : QI ops gd s K) : ∃ b s', s.Same s' ∧ (∀ J, Ab ops (s.e J) gd = b) ∧ K b s' := by
 unfold QI at h
 split at h
 · exact ⟨true, s, .refl s, fun _ => rfl, h⟩
 · rename_i j want
   split at h
   · cases h
   · rename_i d hd
     split at h
     · rename_i hv
       refine ⟨false, s, .refl s, fun J => ?_, h⟩
       have : s.e J d = undef := Ep hv
       simp only [Ab, hd, this]
       rfl
     · obtain ⟨t, s', x, h1, h2, h3, h4, h⟩ := S.Fo h
       refine ⟨_, s', h1, fun J => ?_, h⟩
       have : s.e J d = .bool t := (Ep h3).trans h4
       simp only [Ab, hd, this]
       cases t <;> cases want <;> rfl
def cA (J : Env) (K : S → Prop) : Env → Bx → Hp → Prop := fun e bx σ => ∃ s, e = s.e J ∧ bx = s.b ∧ σ = s.σ ∧ K s
structure Cx extends Zi where
 n : Nat
 rng : List (Nat × TypeId) := []
structure Cx.Ok (c : Cx) (g : Gl) : Prop where
 P : c.P = g.P
 R : c.R = g.R
 E : AM g.P c.CY
 n : c.n = g.n
 Gz : g.Gz = none
 ds : g.ds = []
def kp0 : KP := fun _ _ F => F
def eY (l : List Fk) (i : Nat) (o : Nat) (xs : List CZ) : List Fk := match l with
 | [] => []
 | (j, t, cs) :: l => bif Nat.beq j i then (j, t, Zd cs o xs) :: l else (j, t, cs) :: eY l i o xs
def QJ {α : Type} : List α → Nat
 | [] => 0
 | _ :: l => QJ l + 1
theorem Ph {α : Type} : ∀ l : List α, QJ l = l.length
 | [] => rfl
 | _ :: l => by simp only [QJ, List.length_cons]; rw [Ph l]
def Nl : List CZ → List Value
 | [] => []
 | .raw v :: l => v :: Nl l
 | .un :: l => undef :: Nl l
 | _ :: l => Nl l
def wy (F : Prop) : List Value → Prop
 | [] => F
 | [v] => (Value.oneCell' v = true) ∧ F
 | l => wz l ∧ F
where
 wz : List Value → Prop
   | [] => True
   | [v] => Value.oneCell' v = true
   | v :: l => Value.oneCell' v = true ∧ wz l
def SV.Zj : SV → Option (List CZ)
 | .v (.a x) => some [x]
 | .v (.agg l) => some l
 | .S4 _ => none
def mapOf (P : Program) (l : List (Nat × TypeId)) (x : Operand) : Option (TypeId × TypeId) := match x with
 | .tmp t => match l.find? fun p => Nat.beq p.1 t with
   | some p => match P.underlying p.2 with
     | some (.map k v) => some (k, v)
     | _ => none
   | none => none
 | _ => none
def jk (c : Cx) (dst : Option Nat) (x : Operand) (ty : TypeId) (s : S) (K : S → Prop) : Prop := match dst, s.op x, mapOf c.P c.rng x with
 | some d, some u, some (tk, tv) => AJ c.P (Instr.next (u.den s.vl) false ty) s.σ (fun v σ1 => (v = (.tuple #[(.bool false)]) ∧ K ((s.hp σ1).put (some d) (.S4 [.a (.bl false)]))) ∨
     (match s.ok with
       | true => oB c.P tk s.vl fun a vl => oB c.P tv vl fun b vl => v = (SV.S4 [.a (.bl true), a, b]).den vl ∧ K (((s.hp σ1).w vl).put (some d) (.S4 [.a (.bl true), a, b]))
       | false => False))
 | _, _, _ => False
def w5 (c : Cx) (T : TypeId) (i o : Nat) (v : SV) (s : S) (K : S → Prop) : Prop := match v.Zj, Yp c.P T with
 | some l, some n => match WG s.bx i with
   | some (t, cs) => match Nat.beq (QJ l) n && Nat.ble (o + QJ l) (QJ cs) with
     | true => wy (K ⟨s.env, eY s.bx i o l, s.vl, s.σ⟩) (Nl l)
     | false => False
   | none => False
 | _, _ => False
def jl (c : Cx) (ops : Array Oper) (i : Nat) (s : S) (K : S → Prop) : Prop := match ops[i]? with
 | none => False
 | some o => match IG o.dst c.n with
   | false => False
   | true => QI ops o.guard s fun b s => match b with
     | false => K (s.put o.dst (.at .un))
     | true => match o.op with
       | .load T x => ldV c.P T x s fun _ v s => K (s.put o.dst v)
       | .mapUpdate T m k v => match o.dst, s.op m, s.op k, s.op v with
         | none, some m, some k, some v => AJ c.P (Instr.mapUpdate T (m.den s.vl) (k.den s.vl) (v.den s.vl)) s.σ (fun _ σ1 => K (s.hp σ1))
         | _, _, _, _ => False
       | .next x false => jk c o.dst x o.type s K
       | .entry x => match s.op x, mapOf c.P c.rng x with
         | some u, some (tk, tv) => AJ c.P (Instr.entry (u.den s.vl)) s.σ (fun v σ1 => L8 (jg c.P tk tv) o.dst (s.hp σ1) s.σ v kp0 K)
         | _, _ => False
       | .panic x => match s.op x with
         | some (.v (.a (.raw (.iface T u)))) => c.R (.panicked [{ v := .iface T u, recovered := false }]) s.σ
         | _ => False
       | .store T x y => match o.dst, jZ (s.op x), s.op y with
         | none, some (.bx i b), some v => w5 c T i b v s K
         | _, _, _ => eU c.toZi o.dst (.store T x y) o.type s kp0 K
       | op => match jj c.P op, anyM c.P op o.type s with
         | true, _ => eU c.toZi o.dst op o.type s kp0 K
         | false, some m => wx c.P o.type m s fun v s => K (s.put o.dst v)
         | false, none => yv c.P c.wr op s fun v s => K (s.put o.dst v)
def pR (c : Cx) (ops : Array Oper) : List Nat → S → (S → Prop) → Prop
 | [], s, K => K s
 | i :: is, s, K => jl c ops i s fun s => pR c ops is s K
section
variable {g : Gl} {ops : Array Oper} {i : Nat} {J : Env} {s : S} {K : S → Prop} {c : Cx}
theorem cB {s s' : S} {K : Env → Bx → Hp → Prop} (h : s.Same s') (hk : AY g ops i (s'.e J) s'.b s'.σ K) : AY g ops i (s.e J) s.b s.σ K := by
 rw [← h.e J, ← h.b, ← h.σ]; exact hk
theorem ABP {s : S} {o : Oper} {K : SV → S → Prop} {K' : Env → Bx → Hp → Prop} (ho : ops[i]? = some o) (hw : Ab ops (s.e J) o.guard = true) (hd : IG o.dst g.n = true) (h : YP g.P o.op o.type s K) (hk : ∀ v s', s.Same s' → K v s' → K' ((s'.put o.dst v).e J) s'.b s'.σ) :
   AY g ops i (s.e J) s.b s.σ K' := by
 obtain ⟨v, s', h1, h2, h3⟩ := h
 have := hk v s' h1 h3
 rw [S.IV, h1.e J, h1.b, h1.σ] at this
 exact AY.y (EI ho) hw hd (h2 J _) this
theorem Yd.up {P : Program} {e : Env} {bx : Bx} {σ : Hp} {b : Nat} {op : Op} {ty : TypeId} {v : Value} (h : Yd P e bx (fun x => if x = b then σ x else none) op ty v) : Yd P e bx σ op ty v := fun o ho ht w hs hb => h o ho ht w (fun k u hk => by
 simp only at hk
 split at hk
 · exact hs k u hk
 · cases hk) hb
theorem AY.mono {e : Env} {bx : Bx} {σ : Hp} {K K' : Env → Bx → Hp → Prop} (h : AY g ops i e bx σ K) (hk : ∀ e bx σ, K e bx σ → K' e bx σ) : AY g ops i e bx σ K' := fun w0 F a w st => wpOpIn_mono (fun a' w' ⟨e', b', σ', MQ, h'⟩ => ⟨e', b', σ', MQ, hk _ _ _ h'⟩) (h w0 F a w st)
theorem ABQ {dst : Option Nat} {op : Op} {ty : TypeId} {gd : Option (Nat × Bool)} (hc : c.Ok g) (hs : sig ops i = some (dst, op, ty, gd)) (hw : Ab ops (s.e J) gd = true) (hd : IG dst g.n = true) (h : eU c.toZi dst op ty s kp0 K) : AY g ops i (s.e J) s.b s.σ (cA J K) := by
 have := QG (c := c.toZi) (kq := fun _ _ => True) (J := J) hc.P hc.R hc.E (fun _ _ F h => ⟨h, trivial⟩) (fun _ _ _ => trivial) hs hw hd h
 intro w0 F a w st
 refine wpOpIn_mono ?_ (this w0 F a w st)
 rintro a' w' ⟨e', Gc, σ', MQ, s', rfl, rfl, rfl, _, _, hk⟩
 exact ⟨_, _, _, MQ, s', rfl, rfl, rfl, hk⟩
theorem WL {dst : Option Nat} {x : Operand} {ty : TypeId} {gd : Option (Nat × Bool)} (hc : c.Ok g) (hs : sig ops i = some (dst, .next x false, ty, gd)) (hw : Ab ops (s.e J) gd = true) (hd : IG dst g.n = true) (h : jk c dst x ty s K) : AY g ops i (s.e J) s.b s.σ (cA J K) := by
 unfold jk at h
 split at h
 · rename_i d u tk tv hu hm
   rw [hc.P] at h
   refine AY.jO hs hw hd (Instr.next (u.den s.vl) false ty) (fun o ho ht => by simp only [execOp, ho, ht]; rw [ev hu]) (h.mono fun v σ1 hr => ?_)
   rcases hr with ⟨rfl, hk⟩ | hr
   · exact ⟨_, (S.IV (s := s.hp σ1) (x := .S4 [.a (.bl false)])).symm, (S.IW (s := s.hp σ1) (x := .S4 [.a (.bl false)])).symm, (S.Fm (s := s.hp σ1) (x := .S4 [.a (.bl false)])).symm, hk⟩
   · split at hr
     · rename_i Au
       obtain ⟨a, w1, h1, hr⟩ := Es hr
       obtain ⟨b, w2, h2, hr⟩ := Es hr
       obtain ⟨hv, hk⟩ := hr
       have KF := S.P8 (s := s.hp σ1) Au (h1.trans h2).le
       refine ⟨_, ?_, ?_, ?_, hk⟩
       · rw [S.IV, KF.e J, hv]; rfl
       · rw [S.IW, KF.b]; rfl
       · rw [S.Fm]; rfl
     · cases hr
 · cases h
theorem WM {vl : Vl} {i o : Nat} {l : List CZ} : ∀ {bx : List Fk} {t : TypeId} {cs : List CZ}, WG bx i = some (t, cs) → ∃ j, (FC vl bx)[j]? = some (nth 0 vl.δ i, .cells (Ba vl cs).toArray t (0, 0)) ∧ FC vl (eY bx i o l) = (FC vl bx).set j (nth 0 vl.δ i, .cells (Ba vl (Zd cs o l)).toArray t (0, 0))
 | (k, u, ds) :: r, t, cs, h => by
   simp only [WG] at h
   cases hk : Nat.beq k i with
   | true =>
     rw [hk] at h; simp only [cond_true, Option.some.injEq, Prod.mk.injEq] at h
     obtain ⟨rfl, rfl⟩ := h
     have := Nat.eq_of_beq_eq_true hk
     subst this
     exact ⟨0, rfl, by simp only [eY, hk, cond_true, FC, List.set_cons_zero]⟩
   | false =>
     rw [hk] at h; simp only [cond_false] at h
     obtain ⟨j, h1, h2⟩ := WM (vl := vl) (o := o) (l := l) h
     exact ⟨j + 1, by simpa only [FC, List.getElem?_cons_succ] using h1, by simp only [eY, hk, cond_false, FC, List.set_cons_succ, h2]⟩
theorem Zk {F : Prop} {l : List Value} (h : wy F l) : F ∧ ∀ v ∈ l, Value.oneCell' v = true := by
 have cj : ∀ {l : List Value}, wy.wz l → ∀ v ∈ l, Value.oneCell' v = true := fun {l} => by
   induction l with
   | nil => intro _ v hv; cases hv
   | cons a l ih =>
     intro h v hv
     cases l with
     | nil => simp at hv; subst hv; exact h
     | cons b l =>
       rcases List.mem_cons.1 hv with rfl | hv
       · exact h.1
       · exact ih h.2 v hv
 match l, h with
 | [], h => exact ⟨h, fun v hv => by cases hv⟩
 | [v], h => exact ⟨h.2, fun u hu => by simp at hu; subst hu; exact h.1⟩
 | a :: b :: l, h => exact ⟨h.2, cj h.1⟩
theorem QK {vl : Vl} : ∀ {l : List CZ}, (∀ v ∈ Nl l, Value.oneCell' v = true) → ∀ u ∈ Ba vl l, Value.oneCell' u = true
 | [], _, u, hu => by cases hu
 | x :: l, h, u, hu => by
   have tl : ∀ v ∈ Nl l, Value.oneCell' v = true := fun v hv => h v (by cases x <;> first | exact hv | exact List.mem_cons_of_mem _ hv)
   rcases List.mem_cons.1 hu with rfl | hu
   · cases x <;> try rfl
     case bs i n => cases n <;> rfl
     case raw v => exact h v (List.mem_cons_self ..)
     case un => exact h undef (List.mem_cons_self ..)
   · exact QK tl u hu
theorem Zl {vl : Vl} {v : SV} {l : List CZ} (h : v.Zj = some l) (ho : ∀ u ∈ Ba vl l, Value.oneCell' u = true) : (v.den vl).cells = (Ba vl l).toArray := by
 unfold SV.Zj at h
 split at h
 · rename_i x
   cases h
   have := ho (x.den vl) (List.mem_cons_self ..)
   simp only [SV.den, Gw.den, Ba]
   cases hx : x.den vl <;> first | rfl | (rw [hx] at this; cases this)
 · cases h; rfl
 · cases h
theorem Zm {T ty : TypeId} {x y : Operand} {gd : Option (Nat × Bool)} {k b : Nat} {v : SV} (hc : c.Ok g) (hs : sig ops i = some (none, .store T x y, ty, gd)) (hw : Ab ops (s.e J) gd = true) (hx : jZ (s.op x) = some (.bx k b)) (hy : s.op y = some v) (h : w5 c T k b v s K) : AY g ops i (s.e J) s.b s.σ (cA J K) := by
 unfold w5 at h
 split at h
 · rename_i l n hl hz
   split at h
   · rename_i t cs hg
     split at h
     · rename_i hd
       simp only [Bool.and_eq_true, Ph] at hd
       obtain ⟨hk, ho⟩ := Zk h
       have Ff := QK (vl := s.vl) ho
       have eZ := Zl (vl := s.vl) hl Ff
       obtain ⟨u, e1, e2⟩ := FD hx
       obtain ⟨j, h1, h2⟩ := WM (vl := s.vl) (o := b) (l := l) hg
       rw [hc.P] at hz
       refine AY.wE (b := nth 0 s.vl.δ k) (o := b) (c := (Ba s.vl cs).toArray) (c' := (Ba s.vl (Zd cs b l)).toArray) (t := t) (j := j) hs hw (Dd hz) (by rw [ev e1, e2]; rfl) (ev hy) h1 ?_ ?_ ?_ ?_ ?_
       · rw [eZ]; simp [Dr]; exact Nat.eq_of_beq_eq_true hd.1
       · have := Nat.eq_of_beq_eq_true hd.1
         have h3 := Nat.le_of_ble_eq_true hd.2
         exact Nat.ble_eq_true_of_le (by simp [Dr]; omega)
       · rw [eZ]; exact List.all_eq_true.2 fun u hu => Ff u (by simpa using hu)
       · rw [eZ, QC]
       · exact ⟨⟨s.env, eY s.bx k b l, s.vl, s.σ⟩, rfl, h2.symm, rfl, hk⟩
     · cases h
   · cases h
 · cases h
theorem WN (hc : c.Ok g) (h : jl c ops i s K) : AY g ops i (s.e J) s.b s.σ (cA J K) := by
 unfold jl at h
 split at h
 · cases h
 · rename_i o ho
   split at h
   · cases h
   · rename_i hd
     rw [hc.n] at hd
     obtain ⟨b, s1, h1, hw, h⟩ := JJ h
     have hw := hw J
     rw [← h1.e J] at hw
     refine cB h1 ?_
     cases b with
     | false => exact AY.no (EI ho) hw hd ⟨_, (S.IV (x := .at .un)).symm, S.IW.symm, S.Fm.symm, h⟩
     | true =>
       simp only at h
       split at h
       · rename_i T x Ss
         obtain ⟨m, v, s2, h2, hk, hy⟩ := TG (ty := o.type) h
         have hs := EI ho
         rw [Ss] at hs
         refine AY.y (v := v.den s2.vl) hs hw hd ?_ ⟨s2.put o.dst v, by rw [S.IV, h2.e J], by rw [S.IW, h2.b], by rw [S.Fm, h2.σ], hk⟩
         have hy := hy J
         rw [hc.P] at hy
         cases m with
         | none => exact hy _
         | some b => exact Yd.up hy
       · rename_i T m k v Ss
         split at h
         · rename_i um uk uv NY hm hk hv
           have hs := EI ho
           rw [Ss, NY] at hs
           rw [hc.P] at h
           exact AY.AA3 hs hw rfl _ (fun o ho ht => by simp only [execOp, ho]; rw [ev hm, ev hk, ev hv]) (h.mono fun _ σ1 hr => ⟨s1.hp σ1, rfl, rfl, rfl, hr⟩)
         · cases h
       · have Ss := ‹o.op = Op.next _ false›
         have hs := EI ho
         rw [Ss] at hs
         exact WL hc hs hw hd h
       · have Ss := ‹o.op = Op.entry _›
         have hs := EI ho
         rw [Ss] at hs
         split at h
         · rename_i u tk tv hu hm
           rw [hc.P] at h
           have := AY.jO (K := wv J s1 (fun _ _ => True) K) hs hw hd (Instr.entry (u.den s1.vl)) (fun o ho ht => by simp only [execOp, ho]; rw [ev hu]) (h.mono fun v σ1 hr => Bg (kq := fun _ _ => True) eT (fun _ _ F h => ⟨h, trivial⟩) hr J)
           exact this.mono fun e bx σ ⟨s', e1, e2, e3, _, _, hk⟩ => ⟨s', e1, e2, e3, hk⟩
         · cases h
       · have Ss := ‹o.op = Op.panic _›
         split at h
         · rename_i T u hx
           have hs := EI ho
           rw [Ss] at hs
           rw [hc.R] at h
           exact AY.panic hs hw (by rw [ev hx]; rfl) hc.Gz hc.ds h
         · cases h
       · have Ss := ‹o.op = Op.store _ _ _›
         have hs := EI ho
         rw [Ss] at hs
         split at h
         · rename_i i' b v NY hx hy
           rw [NY] at hs
           exact Zm hc hs hw hx hy h
         · exact ABQ hc hs hw hd h
       · split at h
         · exact ABQ hc (EI ho) hw hd h
         · rename_i m _ hm
           rw [hc.P] at h hm
           obtain ⟨v, s2, h2, hy, hk⟩ := QH hm h
           exact AY.y (v := v.den s2.vl) (EI ho) hw hd (hy J) ⟨s2.put o.dst v, by rw [S.IV, h2.e J], by rw [S.IW, h2.b], by rw [S.Fm, h2.σ], hk⟩
         · rw [hc.P] at h
           exact ABP ho hw hd (WH h) fun v s' MR hk => ⟨s'.put o.dst v, rfl, S.IW.symm, S.Fm.symm, hk⟩
theorem L9 (hc : c.Ok g) : ∀ {is : List Nat} {s : S}, pR c ops is s K → Seq g ops is (s.e J) s.b s.σ (cA J K)
 | [], s, h => ⟨s, rfl, rfl, rfl, h⟩
 | i :: is, s, h => (WN hc h).mono fun e bx σ ⟨s', h1, h2, h3, h4⟩ => by subst h1 h2 h3; exact L9 hc h4
theorem QL {K K' : Env → Bx → Hp → Prop} (hk : ∀ e bx σ, K e bx σ → K' e bx σ) : ∀ {is : List Nat} {e : Env} {bx : Bx} {σ : Hp}, Seq g ops is e bx σ K → Seq g ops is e bx σ K'
 | [], _, _, _, h => hk _ _ _ h
 | i :: is, e, bx, σ, h => AY.mono h fun _ _ _ h => QL hk h
theorem JK {K K' : Env → Bx → Hp → Prop} (hk : ∀ e bx σ, K e bx σ → K' e bx σ) : ∀ {p : Ord} {q : I8} {e : Env} {bx : Bx} {σ : Hp}, KD g ops p q e bx σ K → KD g ops p q e bx σ K'
 | .done, _, _, _, _, h => hk _ _ _ h
 | .yes i r, q, e, bx, σ, ⟨own, o, v, h1, h2, h3, h4, h5⟩ => ⟨own, o, v, h1, h2, h3, h4, JK hk h5⟩
 | .alt i r t, q, e, bx, σ, ⟨h1, h2⟩ => ⟨AY.mono h1 fun _ _ _ ⟨h3, h4⟩ => ⟨h3, JK hk h4⟩, JK hk h2⟩
 | .no, _, _, _, _, _ => trivial
def QM : Ord → List Nat
 | .done => []
 | .yes _ r => QM r
 | .alt i r _ => i :: QM r
 | .no => []
def ABR (ops : Array Oper) (i : Nat) : Nat → Nat → Option (List Nat)
 | 0, _ => none
 | f + 1, t => match IN ops t i with
   | true => some [t]
   | false => (List.range t).findSome? fun u => match Nat.blt i u && IN ops t u with
     | true => match ABR ops i f u with
       | some p => some (t :: p)
       | none => none
     | false => none
def waits (ops : Array Oper) (i : Nat) : List Nat → List (List Nat)
 | [] => []
 | t :: l => match ABR ops i 40 t with
   | some p => p :: waits ops i l
   | none => waits ops i l
def kpL (L : I8) : KP := fun σ0 σ1 F => match L with
 | none => Ext σ0 σ1 ∧ F
 | some [] => F
 | some (x :: l) => Kp ((x :: l).map Prod.fst) σ0 σ1 ∧ F
def GA (c : Cx) (ops : Array Oper) : Ord → I8 → S → (S → Prop) → Prop
 | .done, _, s, K => K s
 | .yes i r, L, s, K => match ops[i]? with
   | none => False
   | some o => match IG o.dst c.n && L.ok i with
     | false => False
     | true => QI ops o.guard s fun b s => match b with
       | false => GA c ops r L (s.put o.dst (.at .un)) K
       | true => match o.op with
         | .load T x => ldV c.P T x s fun m v s => match m, L with
           | none, _ => GA c ops r L (s.put o.dst v) K
           | some _, none => GA c ops r L (s.put o.dst v) K
           | some b, some l => match (MU (some l) (some (b, waits ops i (QM r)))).ok i && Sn ops i (some (b, waits ops i (QM r))) with
             | true => GA c ops r (MU (some l) (some (b, waits ops i (QM r)))) (s.put o.dst v) K
             | false => False
         | op => match jj c.P op, anyM c.P op o.type s, L with
           | true, _, _ => False
           | false, some m, none => wx c.P o.type m s fun v s => GA c ops r none (s.put o.dst v) K
           | false, some _, some _ => False
           | false, none, L => yv c.P c.wr op s fun v s => GA c ops r L (s.put o.dst v) K
 | .alt i r t, L, s, K =>
   match t with
   | .no => WO c ops i L s fun s => GA c ops r (F7 L i) s K
   | t => (WO c ops i L s fun s => GA c ops r (F7 L i) s K) ∧ GA c ops t L s K
 | .no, _, _, _ => True
where
 WO (c : Cx) (ops : Array Oper) (i : Nat) (L : I8) (s : S) (K : S → Prop) : Prop := match ops[i]? with
   | none => False
   | some o => match IG o.dst c.n with
     | false => False
     | true => QI ops o.guard s fun b s => match b with
       | false => K (s.put o.dst (.at .un))
       | true => eU c.toZi o.dst o.op o.type s (kpL (F7 L i)) K
def kqL (q : I8) (σ σ' : Hp) : Prop := match q with
 | none => ∀ b o, σ b = some o → σ' b = some o
 | some L => ∀ x ∈ L, ∀ o, σ x.1 = some o → σ' x.1 = some o
theorem w6 {q : I8} {bx Gc : Bx} {σ σ' : Hp} (h : kqL q σ σ') (hb : ∀ p ∈ bx, p ∈ Gc) : J7 q bx σ Gc σ' := ⟨hb, h⟩
theorem ea {L : I8} {σ0 σ1 : Hp} {F : Prop} (h : kpL L σ0 σ1 F) : F ∧ kqL L σ0 σ1 := by
 unfold kpL at h
 split at h
 · exact ⟨h.2, h.1⟩
 · exact ⟨h, fun x hx => by cases hx⟩
 · exact ⟨h.2, fun y hy o ho => h.1 y.1 (List.mem_map.2 ⟨y, hy, rfl⟩) o ho⟩
theorem pS {L : I8} {σ0 σ1 : Hp} (h : Ext σ0 σ1) : kqL L σ0 σ1 := by
 cases L with
 | none => exact h
 | some l => exact fun x _ o ho => h _ _ ho
theorem WQ {L : I8} (hc : c.Ok g) (h : GA.WO c ops i L s K) : AY g ops i (s.e J) s.b s.σ fun e' Gc σ' => J7 (F7 L i) s.b s.σ Gc σ' ∧ cA J K e' Gc σ' := by
 unfold GA.WO at h
 split at h
 · cases h
 · rename_i o ho
   split at h
   · cases h
   · rename_i hd
     rw [hc.n] at hd
     obtain ⟨b, s1, h1, hw, h⟩ := JJ h
     have hw := hw J
     rw [← h1.e J] at hw
     have key : AY g ops i (s1.e J) s1.b s1.σ fun e' Gc σ' => J7 (F7 L i) s1.b s1.σ Gc σ' ∧ cA J K e' Gc σ' := by
       cases b with
       | false => exact AY.no (EI ho) hw hd ⟨J7.refl _ _ _, _, (S.IV (x := .at .un)).symm, S.IW.symm, S.Fm.symm, h⟩
       | true =>
         have := QG (c := c.toZi) (kq := kqL (F7 L i)) (J := J) hc.P hc.R hc.E (fun _ _ F h => ea h) (fun _ _ h => pS h) (EI ho) hw hd h
         exact this.mono fun e' Gc σ' ⟨s', e1, e2, e3, hq, hb, hk⟩ => ⟨w6 hq hb, s', e1, e2, e3, hk⟩
     have := cB (K := fun e' Gc σ' => J7 (F7 L i) s1.b s1.σ Gc σ' ∧ cA J K e' Gc σ') h1 key
     rw [h1.b, h1.σ] at this
     exact this
theorem Ds (hc : c.Ok g) : ∀ {p : Ord} {q : I8} {s : S}, GA c ops p q s K → KD g ops p q (s.e J) s.b s.σ (cA J K)
 | .done, q, s, h => ⟨s, rfl, rfl, rfl, h⟩
 | .yes i r, q, s, h => by
   simp only [GA] at h
   split at h
   · cases h
   · rename_i o ho
     split at h
     · cases h
     · rename_i hd
       simp only [Bool.and_eq_true] at hd
       obtain ⟨hd, hq⟩ := hd
       rw [hc.n] at hd
       obtain ⟨b, s1, h1, hw, h⟩ := JJ h
       have hw := hw J
       rw [← h1.e J] at hw
       rw [← h1.e J, ← h1.b, ← h1.σ]
       have go : ∀ {v : SV} {s2 : S} {own : Option (Nat × List (List Nat))}, s1.Same s2 → ((MU q own).ok i && Sn ops i own) = true → Yd g.P (s1.e J) s1.b (SC q own s1.σ) o.op o.type (v.den s2.vl) → Ab ops (s1.e J) o.guard = true → GA c ops r (MU q own) (s2.put o.dst v) K → KD g ops (.yes i r) q (s1.e J) s1.b s1.σ (cA J K) := fun {v s2 own} h2 Au hy hw hk => by
         have := Ds hc hk
         rw [S.IV, S.IW, S.Fm, h2.e J, h2.b, h2.σ] at this
         exact ⟨own, o, v.den s2.vl, Au, ho, .inl ⟨hw, hy⟩, IG.lt hd, this⟩
       cases b with
       | false =>
         have := Ds hc h
         rw [S.IV, S.IW, S.Fm] at this
         exact ⟨none, o, undef, ok_none hq, ho, .inr ⟨hw, rfl⟩, IG.lt hd, by rw [Fj]; exact this⟩
       | true =>
         simp only at h
         split at h
         · rename_i T x Ss
           obtain ⟨m, v, s2, h2, hk, hy⟩ := TG (ty := o.type) h
           have hy := hy J
           rw [hc.P, ← Ss] at hy
           split at hk
           · exact go (own := none) h2 (ok_none hq) (hy _) hw (by rw [Fj]; exact hk)
           · exact go (own := none) h2 (ok_none hq) (Yd.up hy) hw (by rw [Fj]; exact hk)
           · rename_i b l
             split at hk
             · rename_i Au
               exact go h2 Au hy hw hk
             · cases hk
         · split at h
           · cases h
           · have hm := ‹anyM c.P o.op o.type s1 = some _›
             rw [hc.P] at h hm
             obtain ⟨v, s2, h2, hy, hk⟩ := QH hm h
             exact go (own := none) h2 (ok_none hq) (hy J) hw hk
           · cases h
           · rw [hc.P] at h
             obtain ⟨v, s2, h2, hy, hk⟩ := WH (ty := o.type) h
             exact go (own := none) h2 (ok_none hq) (hy J _) hw (by rw [Fj]; exact hk)
 | .alt i r t, q, s, h => by
   have key : ∀ {t : Ord}, (GA.WO c ops i q s fun s => GA c ops r (F7 q i) s K) → KD g ops t q (s.e J) s.b s.σ (cA J K) → KD g ops (.alt i r t) q (s.e J) s.b s.σ (cA J K) := fun {t} h1 h2 =>
     ⟨(WQ hc h1).mono fun e bx σ ⟨hk, s', e1, e2, e3, h3⟩ => ⟨hk, by subst e1 e2 e3; exact Ds hc h3⟩, h2⟩
   cases t with
   | no => exact key h trivial
   | done => exact key h.1 (Ds hc h.2)
   | yes j u => exact key h.1 (Ds hc h.2)
   | alt j u w => exact key h.1 (Ds hc h.2)
 | .no, q, s, h => trivial
def cC (P : Program) (ops : Array Oper) (m : Nat) : Nat → Array Bool → Ord
 | 0, _ => .no
 | f + 1, listed => match (List.range m).all fun i => listed.getD i false with
   | true => .done
   | false => match (Region.ready .any ops listed).find? fun j => Nat.blt j m && match ops[j]? with | some o => !jj P o.op | none => false with
     | some j => .yes j (cC P ops m f (listed.setIfInBounds j true))
     | none => (Region.ready .any ops listed).foldr (fun j acc => .alt j (cC P ops m f (listed.setIfInBounds j true)) acc) .no
def Ui (c : Cx) (ops : Array Oper) (draw : Bool) (m : Nat) (q : I8) (s : S) (K : S → Prop) : Prop := match draw with
 | false => pR c ops (List.range ops.size) s K
 | true => match UZ ops m (cC c.P ops m (ops.size + 1) (Array.replicate ops.size false)) (List.range' m (ops.size - m)) with
   | true => GA c ops (cC c.P ops m (ops.size + 1) (Array.replicate ops.size false)) q s fun s => pR c ops (List.range' m (ops.size - m)) s K
   | false => False
theorem Zn {k : List Item} {id m : Nat} {draw : Bool} {q : I8} (hc : c.Ok g) (hm : g.P.follows .mixedOrders = true) (h : Ui c ops draw m q s K) (hk : ∀ s, K s → At g k (s.e J) s.b s.σ) : At g (.code (.region id ops draw) :: k) (s.e J) s.b s.σ := by
 have fin : ∀ e bx σ, cA J K e bx σ → At g k e bx σ := fun e bx σ ⟨s', e1, e2, e3, h⟩ => by subst e1 e2 e3; exact hk s' h
 cases draw with
 | false =>
   refine At.region rfl rfl ?_
   have : Seq g ops (List.range ops.size) (s.e J) s.b s.σ (cA J K) := L9 hc h
   exact QL fin this
 | true =>
   simp only [Ui] at h
   split at h
   · rename_i hp
     refine At.ABJ hm rfl hp (q := q) ?_
     have := Ds (J := J) hc h
     refine JK (fun e bx σ ⟨s', e1, e2, e3, h⟩ => ?_) this
     subst e1 e2 e3
     exact QL fin (L9 hc h)
   · cases h
end
end Tw
end
section
namespace Tw
open Go
variable [I7]
def node (body : Code) : List Bool → Code
 | [] => body
 | false :: p => cl (node body p)
 | true :: p => cr (node body p)
inductive It where
 | c (p : List Bool)
 | DJ (i : Nat)
 | lp (p : List Bool)
 | sc (p : List Bool)
def It.den (body : Code) : It → Item
 | .c p => .code (node body p)
 | .DJ i => .inBlock i
 | .lp p => .inLoop (node body p)
 | .sc p => .inScope (node body p)
def Dt (body : Code) : List It → List Item
 | [] => []
 | x :: l => x.den body :: Dt body l
def Nn : List Bool → List Bool → Bool
 | [], [] => true
 | a :: p, b :: q => (bif a then b else !b) && Nn p q
 | _, _ => false
theorem TJ : ∀ {p q : List Bool}, Nn p q = true → p = q
 | [], [], _ => rfl
 | a :: p, b :: q, h => by
   simp only [Nn, Bool.and_eq_true] at h
   rw [TJ h.2]
   cases a <;> cases b <;> simp at h <;> rfl
 | [], _ :: _, h => by cases h
 | _ :: _, [], h => by cases h
def It.eq : It → It → Bool
 | .c p, .c q => Nn p q
 | .DJ i, .DJ j => Nat.beq i j
 | .lp p, .lp q => Nn p q
 | .sc p, .sc q => Nn p q
 | _, _ => false
def cD : List It → List It → Bool
 | [], [] => true
 | x :: l, y :: m => x.eq y && cD l m
 | _, _ => false
theorem WR : ∀ {l m : List It}, cD l m = true → l = m
 | [], [], _ => rfl
 | x :: l, y :: m, h => by
   simp only [cD, Bool.and_eq_true] at h
   rw [WR h.2]
   have : x = y := by
     cases x <;> cases y <;> simp only [It.eq] at h <;> first
       | (rw [TJ h.1])
       | (rw [Nat.eq_of_beq_eq_true h.1])
       | (exact absurd h.1 (by simp))
   rw [this]
 | [], _ :: _, h => by cases h
 | _ :: _, [], h => by cases h
structure Cut where
 todo : List It
 f : S → Prop
def Cut.Ok (g : Gl) (body : Code) (k : Cut) : Prop := ∀ s J, k.f s → At g (Dt body k.todo) (s.e J) s.b s.σ
def pT : List Cut → List It → Option (S → Prop)
 | [], _ => none
 | k :: l, t => match cD k.todo t with
   | true => some k.f
   | false => pT l t
theorem cE {g : Gl} {body : Code} : ∀ {l : List Cut} {t : List It} {f : S → Prop}, (∀ k ∈ l, k.Ok g body) → pT l t = some f → ∀ s J, f s → At g (Dt body t) (s.e J) s.b s.σ
 | k :: l, t, f, hl, h => by
   simp only [pT] at h
   split at h
   · rename_i he
     cases h
     rw [← WR he]
     exact hl k (List.mem_cons_self ..)
   · exact cE (fun k hk => hl k (List.mem_cons_of_mem _ hk)) h
def ON (i : Nat) : List It → Option (List It)
 | [] => none
 | .DJ j :: r => match Nat.beq i j with
   | true => some r
   | false => ON i r
 | _ :: r => ON i r
def Uj (l : Nat) : Code → List Bool → Option (List It)
 | .seq a b, p => match Uj l a (false :: p) with
   | some r => some (r ++ [.c (true :: p)])
   | none => Uj l b (true :: p)
 | .label j, _ => match Nat.beq j l with
   | true => some []
   | false => none
 | _, _ => none
def OO (body : Code) (l : Nat) : List It → Option (List It)
 | [] => none
 | .sc p :: r => match Uj l (node body p) p with
   | some m => some (m ++ (.sc p :: r))
   | none => OO body l r
 | _ :: r => OO body l r
structure Fx extends Cx where
 body : Code
 res : List ResultVar
 oD : List (Nat × Nat × Bool)
def jm : List (Nat × Nat × Bool) → Nat → Nat → Nat × I8
 | [], _, m => (m, some [])
 | (i, m, b) :: l, id, z => match Nat.beq i id with
   | true => (m, bif b then none else some [])
   | false => jm l id z
def Zo (c : Fx) (s : S) : List ResultVar → Option (List SV)
 | [] => some []
 | .tmp t :: r => match Ub s.env t, Zo c s r with
   | some v, some l => some (v :: l)
   | _, _ => none
 | .cell p T :: r => match jZ (Ub s.env p), Zo c s r with
   | some (.bx i 0), some l => match WG s.bx i, ZO c.P T with
     | some (_, cs), some true => match Yp c.P T with
       | some n => match decide (cs.length = n) with
         | true => some (.v (.agg cs) :: l)
         | false => none
       | none => none
     | some (_, x :: _), some false => some (.at x :: l)
     | _, _ => none
   | _, _ => none
def UO (c : Fx) (s : S) : Prop := match Zo c s c.res with
 | some l => c.R (.returned (P3 (Er s.vl l))) s.σ
 | none => False
def EG (c : Fx) (cuts : List Cut) : Nat → Bool → List It → S → Prop
 | 0, _, _, _ => False
 | f + 1, first, todo, s => match (bif first then none else pT cuts todo) with
   | some k => k s
   | none => match todo with
     | [] => UO c s
     | .DJ _ :: r => EG c cuts f false r s
     | .lp p :: r => EG c cuts f false (.c p :: .lp p :: r) s
     | .sc _ :: r => EG c cuts f false r s
     | .c p :: r => match node c.body p with
       | .skip => EG c cuts f false r s
       | .seq _ _ => EG c cuts f false (.c (false :: p) :: .c (true :: p) :: r) s
       | .block i _ => EG c cuts f false (.c (false :: p) :: .DJ i :: r) s
       | .loop _ => EG c cuts f false (.c (false :: p) :: .lp (false :: p) :: r) s
       | .exit i => match ON i r with
         | some r => EG c cuts f false r s
         | none => False
       | .scope _ => EG c cuts f false (.c (false :: p) :: .sc (false :: p) :: r) s
       | .label _ => EG c cuts f false r s
       | .goto l => match OO c.body l r with
         | some r => EG c cuts f false r s
         | none => False
       | .cond x _ _ => s.pN (s.op x) fun t s => EG c cuts f false (.c ((!t) :: p) :: r) s
       | .ret => UO c s
       | .region id ops draw => Ui c.toCx ops draw (jm c.oD id ops.size).1 (jm c.oD id ops.size).2 s fun s => EG c cuts f false r s
       | _ => False
structure Fx.Ok (c : Fx) (g : Gl) (fn : Func) : Prop where
 cx : c.toCx.Ok g
 mixed : g.P.follows .mixedOrders = true
 fnc : g.P.funcs[g.f]? = some fn
 res : fn.results = c.res.toArray
 Gz : g.Gz = none
 ds : g.ds = []
section
variable {g : Gl} {c : Fx} {fn : Func} {cuts : List Cut} {J : Env}
theorem G4 (hP : c.P = g.P) {s : S} : ∀ {rs : List ResultVar} {l : List SV}, Zo c s rs = some l → Hc g.P (s.e J) s.b s.σ rs (Er s.vl l)
 | [], l, h => by simp only [Zo, Option.some.injEq] at h; subst h; rfl
 | .tmp t :: r, l, h => by
   simp only [Zo] at h
   split at h
   · rename_i v l' h1 h2
     cases h
     refine ⟨_, ?_, G4 hP h2⟩
     rw [show s.e J t = v.den s.vl from Ep h1]; rfl
   · cases h
 | .cell p T :: r, l, h => by
   simp only [Zo] at h
   split at h
   · rename_i i l' h1 h2
     obtain ⟨u, e1, e2⟩ := FD h1
     have hp : s.e J p = .pointer (some ⟨nth 0 s.vl.δ i, 0, none⟩) := (Ep e1).trans (e2 _)
     split at h
     · rename_i t cs hb ha
       split at h
       · rename_i n hn
         split at h
         · rename_i hd
           have hd := of_decide_eq_true hd
           cases h
           rw [hP] at ha hn
           exact ⟨_, _, rfl, ⟨_, hp, jP (F9 ha) (Dd hn) (by simp [Dr]; exact hd) (KE hb)⟩, G4 hP h2⟩
         · cases h
       · cases h
     · rename_i t x cs hb ha
       cases h
       rw [hP] at ha
       exact ⟨_, _, rfl, ⟨_, hp, oz (F9 ha) (KE hb) rfl⟩, G4 hP h2⟩
     · cases h
   · cases h
theorem IZ {body : Code} {i : Nat} : ∀ {r r' : List It}, ON i r = some r' → exitTo i (Dt body r) = some (Dt body r')
 | .DJ j :: r, r', h => by
   simp only [ON] at h
   split at h
   · rename_i he
     cases h
     have := Nat.eq_of_beq_eq_true he
     subst this
     simp [Dt, It.den, exitTo]
   · rename_i he
     have Ad : i ≠ j := fun e => by subst e; rw [Nat.beq_refl] at he; cases he
     simp only [Dt, It.den, exitTo]
     rw [if_neg (by simpa using Ne.symm Ad)]
     exact IZ h
 | .c p :: r, r', h => by simp only [ON] at h; simp only [Dt, It.den, exitTo]; exact IZ h
 | .lp p :: r, r', h => by simp only [ON] at h; simp only [Dt, It.den, exitTo]; exact IZ h
 | .sc p :: r, r', h => by simp only [ON] at h; simp only [Dt, It.den, exitTo]; exact IZ h
theorem QN {body : Code} : ∀ {l m : List It}, Dt body (l ++ m) = Dt body l ++ Dt body m
 | [], _ => rfl
 | x :: l, m => by simp only [List.cons_append, Dt, QN]
theorem Kl {l : Nat} : ∀ {x : Code} {p : List Bool}, Uj l x p = none → findLabel x l = none
 | .seq a b, p, h => by
   simp only [Uj] at h
   split at h
   · cases h
   · rename_i h1
     simp only [findLabel, Kl h1, Kl h]
 | .label j, p, h => by
   simp only [Uj] at h
   split at h
   · cases h
   · rename_i h1
     have : j ≠ l := fun e => by subst e; rw [Nat.beq_refl] at h1; cases h1
     simp [findLabel, this]
 | .skip, p, h => rfl
 | .region .., p, h => rfl
 | .cond .., p, h => rfl
 | .block .., p, h => rfl
 | .loop .., p, h => rfl
 | .rangeFunc .., p, h => rfl
 | .exit .., p, h => rfl
 | .scope .., p, h => rfl
 | .goto .., p, h => rfl
 | .ret, p, h => rfl
 | .refuse .., p, h => rfl
theorem QO {l : Nat} {body : Code} : ∀ {x : Code} {p : List Bool} {m : List It}, node body p = x → Uj l x p = some m → ∃ rest, findLabel x l = some rest ∧ ∀ {k : List Item} {e : Env} {bx : Bx} {σ : Hp}, At g (Dt body m ++ k) e bx σ → At g (.code rest :: k) e bx σ
 | .seq a b, p, m, hx, h => by
   simp only [Uj] at h
   split at h
   · rename_i r h1
     cases h
     obtain ⟨rest, e1, e2⟩ := QO (body := body) (x := a) (p := false :: p) (by simp only [node, hx, cl]) h1
     refine ⟨.seq rest b, by simp only [findLabel, e1], fun h => At.seq rfl (e2 ?_)⟩
     rw [QN, List.append_assoc] at h
     simp only [Dt, It.den, node, hx, cr, List.cons_append, List.nil_append] at h
     exact h
   · rename_i h1
     obtain ⟨rest, e1, e2⟩ := QO (body := body) (x := b) (p := true :: p) (by simp only [node, hx, cr]) h
     exact ⟨rest, by simp only [findLabel, Kl h1, e1], e2⟩
 | .label j, p, m, hx, h => by
   simp only [Uj] at h
   split at h
   · rename_i h1
     cases h
     have := Nat.eq_of_beq_eq_true h1
     subst this
     exact ⟨.skip, by simp [findLabel], fun h => At.skip h⟩
   · cases h
theorem Ia {l : Nat} {body : Code} : ∀ {r r' : List It}, OO body l r = some r' → ∃ k', gotoIn l (Dt body r) = some k' ∧ ∀ {e : Env} {bx : Bx} {σ : Hp}, At g (Dt body r') e bx σ → At g k' e bx σ
 | .sc p :: r, r', h => by
   simp only [OO] at h
   split at h
   · rename_i m h1
     cases h
     obtain ⟨rest, e1, e2⟩ := QO (g := g) rfl h1
     refine ⟨.code rest :: .inScope (node body p) :: Dt body r, by simp only [Dt, It.den, gotoIn, e1], fun h => e2 ?_⟩
     rw [QN] at h
     exact h
   · rename_i h1
     obtain ⟨k', e1, e2⟩ := Ia h
     exact ⟨k', by simp only [Dt, It.den, gotoIn, Kl h1, e1], e2⟩
 | .c p :: r, r', h => by simp only [OO] at h; simp only [Dt, It.den, gotoIn]; exact Ia h
 | .lp p :: r, r', h => by simp only [OO] at h; simp only [Dt, It.den, gotoIn]; exact Ia h
 | .DJ p :: r, r', h => by simp only [OO] at h; simp only [Dt, It.den, gotoIn]; exact Ia h
theorem A7 (hc : c.Ok g fn) (hk : ∀ k ∈ cuts, k.Ok g c.body) : ∀ {f : Nat} {first : Bool} {todo : List It} {s : S}, EG c cuts f first todo s → At g (Dt c.body todo) (s.e J) s.b s.σ
 | 0, _, _, _, h => h.elim
 | f + 1, first, todo, s, h => by
   have hl : ∀ σ, left g.ds σ = σ := fun σ => by rw [hc.ds]; rfl
   have w7 : Marks g.ds s.σ := by rw [hc.ds]; trivial
   simp only [EG] at h
   split at h
   · rename_i k ABT
     cases first with
     | true => cases ABT
     | false => exact cE hk ABT s J h
   · split at h
     · unfold UO at h
       split at h
       · rename_i l TK
         rw [hc.cx.R] at h
         exact At.AA5 hc.fnc hc.res (by rw [hl]; exact G4 hc.cx.P TK) (by rw [hl]; exact h) hc.Gz w7
       · cases h
     · exact At.inBlock (A7 hc hk h)
     · exact At.inLoop (A7 hc hk h)
     · exact At.inScope (A7 hc hk h)
     · rename_i p r _
       have e : Dt c.body (.c p :: r) = .code (node c.body p) :: Dt c.body r := rfl
       rw [e]
       split at h
       · rename_i hn; rw [hn]; exact At.skip (A7 hc hk h)
       · rename_i a b hn
         refine At.seq hn ?_
         have := A7 hc hk h
         simp only [Dt, It.den, node, hn, cl, cr] at this
         exact this
       · rename_i i a hn
         refine At.block hn ?_
         have := A7 hc hk h
         simp only [Dt, It.den, node, hn, cl] at this
         exact this
       · rename_i a hn
         refine At.loop hn ?_
         have := A7 hc hk h
         simp only [Dt, It.den, node, hn, cl] at this
         exact this
       · rename_i i hn
         split at h
         · rename_i r' hr
           exact At.exit hn (IZ hr) (A7 hc hk h)
         · cases h
       · rename_i a hn
         refine At.scope hn ?_
         have := A7 hc hk h
         simp only [Dt, It.den, node, hn, cl] at this
         exact this
       · rename_i l hn; rw [hn]; exact At.label (A7 hc hk h)
       · rename_i l hn
         split at h
         · rename_i r' hr
           obtain ⟨k', e1, e2⟩ := Ia (g := g) hr
           exact At.goto hn e1 (e2 (A7 hc hk h))
         · cases h
       · rename_i x a b hn
         obtain ⟨t, s', v, h1, h2, h3, h4, h⟩ := S.Fo h
         have hx : AE (s.e J) x = .bool t := by rw [ev h3, h4]
         have := A7 hc hk h
         rw [h1.e J, h1.b, h1.σ] at this
         cases t with
         | true =>
           refine At.tE hn hx ?_
           simp only [Dt, It.den, node, hn, cl, Bool.not_true] at this
           exact this
         | false =>
           refine At.tF hn hx ?_
           simp only [Dt, It.den, node, hn, cr, Bool.not_false] at this
           exact this
       · rename_i hn
         unfold UO at h
         split at h
         · rename_i l TK
           rw [hc.cx.R] at h
           exact At.UO hn hc.fnc hc.res (by rw [hl]; exact G4 hc.cx.P TK) (by rw [hl]; exact h) hc.Gz w7
         · cases h
       · rename_i id ops draw hn
         rw [hn]
         exact Zn hc.cx hc.mixed h fun s' h' => A7 hc hk h'
       · cases h
end
def S.eb (s : S) : List Nat → Option (List Value)
 | [] => some []
 | t :: l => match Ub s.env t, s.eb l with
   | some v, some r => some (v.den s.vl :: r)
   | _, _ => none
theorem TL {s : S} {J : Env} : ∀ {l : List Nat} {vs : List Value}, s.eb l = some vs → Live (s.e J) (l.zip vs)
 | [], vs, h => by simp only [S.eb, Option.some.injEq] at h; subst h; trivial
 | t :: l, vs, h => by
   simp only [S.eb] at h
   split at h
   · rename_i v r h1 h2
     cases h
     exact ⟨Ep h1, TL h2⟩
   · cases h
def cG (i : Nat) : List Fk → Option (Fk × List Fk)
 | [] => none
 | x :: l => match Nat.beq x.1 i with
   | true => some (x, l)
   | false => cG i l
def tN : Option SV → Option Nat
 | some (.v (.a (.pt (.bx i 0)))) => some i
 | _ => none
def S.Uk (s : S) : List Nat → List Fk → Option (List Fk)
 | [], _ => some []
 | t :: l, bx => match tN (Ub s.env t) with
   | some i => match cG i bx with
     | some (x, r) => match s.Uk l r with
       | some m => some (x :: m)
       | none => none
     | none => none
   | none => none
def QP (vl : Vl) : List Nat → List Fk → List (Nat × Value)
 | t :: l, x :: r => (t, .pointer (some ⟨nth 0 vl.δ x.1, 0, none⟩)) :: QP vl l r
 | _, _ => []
theorem TM {vl : Vl} {i : Nat} : ∀ {l r : List Fk} {x : Fk}, cG i l = some (x, r) → x.1 = i ∧ ∀ m : List Fk, (FC vl m).Sublist (FC vl r) → (FC vl (x :: m)).Sublist (FC vl l)
 | y :: l, r, x, h => by
   simp only [cG] at h
   split at h
   · rename_i he
     cases h
     exact ⟨Nat.eq_of_beq_eq_true he, fun m hm => List.Sublist.cons_cons _ hm⟩
   · obtain ⟨h1, h2⟩ := TM (vl := vl) h
     exact ⟨h1, fun m hm => List.Sublist.cons _ (h2 m hm)⟩
theorem WS {s : S} {J : Env} : ∀ {l : List Nat} {bx B : List Fk}, s.Uk l bx = some B → (FC s.vl B).Sublist (FC s.vl bx) ∧ Live (s.e J) (QP s.vl l B)
 | [], bx, B, h => by simp only [S.Uk, Option.some.injEq] at h; subst h; exact ⟨List.nil_sublist _, trivial⟩
 | t :: l, bx, B, h => by
   simp only [S.Uk] at h
   split at h
   · rename_i i hi
     split at h
     · rename_i x r hx
       split at h
       · rename_i m hm
         cases h
         obtain ⟨h1, h2⟩ := TM (vl := s.vl) hx
         obtain ⟨h3, h4⟩ := WS (s := s) (J := J) hm
         refine ⟨h2 m h3, ?_, h4⟩
         unfold tN at hi
         split at hi
         · rename_i hg
           cases hi
           rw [h1]
           exact Ep hg
         · cases hi
       · cases h
     · cases h
   · cases h
theorem Live.app {e : Env} : ∀ {l m : List (Nat × Value)}, Live e l → Live e m → Live e (l ++ m)
 | [], _, _, h => h
 | (_, _) :: _, _, h, g => ⟨h.1, Live.app h.2 g⟩
theorem At.ABU {g : Gl} {k : List Item} {s : S} {J : Env} {l bl : List Nat} {vs : List Value} {B : List Fk} (h : s.eb l = some vs) (hb : s.Uk bl s.bx = some B) (hk : ∀ J, At g k (LD J (QP s.vl bl B ++ l.zip vs)) (FC s.vl B) s.σ) : At g k (s.e J) s.b s.σ := by
 obtain ⟨h1, h2⟩ := WS (J := J) hb
 exact At.sub h1 (At.live (h2.app (TL h)) (hk _))
def QQ : Nat → List Value → List (Nat × Value)
 | _, [] => []
 | k, v :: l => (k, v) :: QQ (k + 1) l
theorem QR {e : Env} : ∀ {l : List Value} {k : Nat}, (∀ j v, l[j]? = some v → e (k + j) = v) → Live e (QQ k l)
 | [], _, _ => trivial
 | v :: l, k, h => ⟨h 0 v rfl, QR fun j u hj => by rw [show k + 1 + j = k + (j + 1) by omega]; exact h (j + 1) u (by simpa using hj)⟩
theorem Spec.walk {P : Program} {f : FuncId} {fn : Func} {R : Rr} {args : Array Value} {n fuel : Nat} (c : Fx) (cuts : List Cut) (s : S) (hc : c.Ok (Gl.fn P f n R) fn) (hb : fn.body = some c.body) (hnt : fn.ntmps = n) (hn : Nat.ble args.size n = true)
   (hk : ∀ k ∈ cuts, k.Ok (Gl.fn P f n R) c.body) (he : HW s.vl s.env = QQ 0 args.toList) (hbx : s.bx = []) (h : EG c cuts fuel true [.c []] s) : Spec P f args s.σ R := by
 subst hnt
 refine Spec.Vv hc.fnc hb (Nat.le_of_ble_eq_true hn) fun e hee => ?_
 have hl : Live e (HW s.vl s.env) := by
   rw [he]
   refine QR fun j v hj => ?_
   rw [Nat.zero_add, hee]
   simp only [Array.getD_eq_getD_getElem?]
   rw [← Array.getElem?_toList, hj]; rfl
 have := A7 (J := e) hc hk h
 have HV : s.b = [] := by rw [S.b, hbx]; rfl
 rw [HV] at this
 exact At.live hl this
end Tw
end
section
namespace Tw
open Go
variable [I7]
inductive Dv where
 | I (k : IntKind) (x : Int)
 | B (t : Bool)
 | T (x : ByteArray)
 | L (p : Option Addr) (n c : Nat)
 | Q (p : Option Addr)
 | A (b : Nat)
 | M (x : Option Nat)
 | V (x : Value)
def Dv.den : Dv → Value
 | .I k x => .int k x
 | .B t => .bool t
 | .T x => .string x
 | .L p n c => .slice p n c
 | .Q p => .pointer p
 | .A b => .pointer (some ⟨b, 0, none⟩)
 | .M x => .map x
 | .V x => x
def WT : List Dv → List Value
 | [] => []
 | x :: l => x.den :: WT l
inductive Dw where
 | o (x : Dv)
 | G (l : List Dv)
 | U (l : List Dv)
 | X (T : TypeId) (l : List Dv)
def Dw.den : Dw → Value
 | .o x => x.den
 | .G l => .agg (WT l).toArray
 | .U l => .tuple (WT l).toArray
 | .X _ _ => undef
structure Nm where
 ρ : List (Option Addr)
 β : List BK
structure Nm.le (n : Nm) (v : Vl) : Prop where
 ρ : ∀ i, i < n.ρ.length → nth none v.ρ i = nth none n.ρ i
 β : ∀ i, i < n.β.length → nth (.var false) v.β i = nth (.var false) n.β i
def Dv.sym : Dv → Nm → CZ × Nm
 | .I k x, n => (.int k x, n)
 | .B t, n => (.bs (QJ n.β) false, ⟨n.ρ, n.β ++ [.var t]⟩)
 | .T x, n => (.str x, n)
 | .L p k c, n => (.sl (.var (QJ n.ρ)) k c, ⟨n.ρ ++ [p], n.β⟩)
 | .Q p, n => (.pt (.var (QJ n.ρ)), ⟨n.ρ ++ [p], n.β⟩)
 | .A b, n => (.pt (.at b 0), n)
 | .M x, n => (.mp x, n)
 | .V x, n => (.raw x, n)
theorem Nm.ABV {n : Nm} {v : Vl} {p : Option Addr} (h : Nm.le ⟨n.ρ ++ [p], n.β⟩ v) : n.le v ∧ nth none v.ρ (QJ n.ρ) = p := by
 refine ⟨⟨fun i hi => (h.ρ i (by simp only [List.length_append]; omega)).trans (Kj hi), h.β⟩, ?_⟩
 rw [Ph, h.ρ _ (by simp)]; exact Kk
theorem Nm.AJQ {n : Nm} {v : Vl} {p : BK} (h : Nm.le ⟨n.ρ, n.β ++ [p]⟩ v) : n.le v ∧ nth (.var false) v.β (QJ n.β) = p := by
 refine ⟨⟨h.ρ, fun i hi => (h.β i (by simp only [List.length_append]; omega)).trans (Kj hi)⟩, ?_⟩
 rw [Ph, h.β _ (by simp)]; exact Kk
theorem Dv.No {x : Dv} {n : Nm} {v : Vl} (h : (x.sym n).2.le v) : (x.sym n).1.den v = x.den ∧ n.le v := by
 cases x with
 | B t => obtain ⟨h1, h2⟩ := Nm.AJQ h; exact ⟨by simp only [Dv.sym, CZ.den, h2]; rfl, h1⟩
 | L p k c => obtain ⟨h1, h2⟩ := Nm.ABV h; exact ⟨by simp only [Dv.sym, CZ.den, PV.den, h2]; rfl, h1⟩
 | Q p => obtain ⟨h1, h2⟩ := Nm.ABV h; exact ⟨by simp only [Dv.sym, CZ.den, PV.den, h2]; rfl, h1⟩
 | _ => exact ⟨rfl, h⟩
def WU : List Dv → Nm → List CZ × Nm
 | [], n => ([], n)
 | x :: l, n => match x.sym n with
   | (a, n) => match WU l n with
     | (r, n) => (a :: r, n)
theorem Pj {v : Vl} : ∀ {l : List Dv} {n : Nm}, (WU l n).2.le v → Ba v (WU l n).1 = WT l ∧ n.le v
 | [], n, h => ⟨rfl, h⟩
 | x :: l, n, h => by
   obtain ⟨h1, h2⟩ := Pj (l := l) (n := (x.sym n).2) h
   obtain ⟨h3, h4⟩ := Dv.No h2
   exact ⟨by simp only [WU, Ba, WT, h3]; rw [← h1], h4⟩
def atoms : List CZ → List Gw
 | [] => []
 | x :: l => .a x :: atoms l
theorem TN {v : Vl} : ∀ l, Hi v (atoms l) = Ba v l
 | [] => rfl
 | x :: l => by simp only [atoms, Hi, Ba]; rw [TN l]; rfl
def Dw.sym : Dw → Nm → SV × Nm
 | .o x, n => match x.sym n with | (a, n) => (.v (.a a), n)
 | .G l, n => match WU l n with | (a, n) => (.v (.agg a), n)
 | .U l, n => match WU l n with | (a, n) => (.S4 (atoms a), n)
 | .X _ _, n => (.v (.a .un), n)
theorem Dw.No {x : Dw} {n : Nm} {v : Vl} (h : (x.sym n).2.le v) : (x.sym n).1.den v = x.den ∧ n.le v := by
 cases x with
 | o x => exact Dv.No (x := x) h
 | G l => obtain ⟨h1, h2⟩ := Pj (l := l) h; exact ⟨by simp only [Dw.sym, SV.den, Gw.den, Dw.den]; rw [← h1], h2⟩
 | U l => obtain ⟨h1, h2⟩ := Pj (l := l) h; exact ⟨by simp only [Dw.sym, SV.den, Dw.den]; rw [TN, ← h1], h2⟩
 | X T l => exact ⟨rfl, h⟩
abbrev Bv := Nat × TypeId × List Dv
def PE : List (Nat × Dw) → List (Nat × Value)
 | [] => []
 | (_, .X _ _) :: l => PE l
 | (t, x) :: l => (t, x.den) :: PE l
def Np : List (Nat × Dw) → Nm → List (Nat × SV) × Nm
 | [], n => ([], n)
 | (_, .X _ _) :: l, n => Np l n
 | (t, x) :: l, n => match x.sym n with
   | (a, n) => match Np l n with
     | (r, n) => ((t, a) :: r, n)
theorem Km {v : Vl} : ∀ {l : List (Nat × Dw)} {n : Nm}, (Np l n).2.le v → HW v (Np l n).1 = PE l ∧ n.le v
 | [], n, h => ⟨rfl, h⟩
 | (t, .o x) :: l, n, h => by
   obtain ⟨h1, h2⟩ := Km (l := l) (n := ((Dw.o x).sym n).2) h
   obtain ⟨h3, h4⟩ := Dw.No h2
   exact ⟨by simp only [Np, HW, PE, h3]; rw [← h1], h4⟩
 | (t, .G x) :: l, n, h => by
   obtain ⟨h1, h2⟩ := Km (l := l) (n := ((Dw.G x).sym n).2) h
   obtain ⟨h3, h4⟩ := Dw.No h2
   exact ⟨by simp only [Np, HW, PE, h3]; rw [← h1], h4⟩
 | (t, .U x) :: l, n, h => by
   obtain ⟨h1, h2⟩ := Km (l := l) (n := ((Dw.U x).sym n).2) h
   obtain ⟨h3, h4⟩ := Dw.No h2
   exact ⟨by simp only [Np, HW, PE, h3]; rw [← h1], h4⟩
 | (_, .X T x) :: l, n, h => Km (l := l) (n := n) h
def KG : List (Nat × Dw) → List Bv → List Bv
 | [], r => r
 | (t, .X T l) :: m, r => KG m ((t, T, l) :: r)
 | _ :: m, r => KG m r
def WV : List Bv → Nat → Nm → List Fk × Nm
 | [], _, n => ([], n)
 | (_, T, l) :: m, j, n => match WU l n with
   | (a, n) => match WV m (j + 1) n with
     | (r, n) => ((j, T, a) :: r, n)
def pU : List Bv → Nat → List (Nat × SV)
 | [], _ => []
 | (t, _, _) :: m, j => (t, .v (.a (.pt (.bx j 0)))) :: pU m (j + 1)
abbrev Bw := Nat × TypeId × List Value
def SH : List Bv → List Bw
 | [] => []
 | (t, T, l) :: m => (t, T, WT l) :: SH m
def Zp : List Bw → List Nat → List (Nat × Value)
 | (t, _, _) :: m, b :: δ => (t, .pointer (some ⟨b, 0, none⟩)) :: Zp m δ
 | _, _ => []
def w9 : List Bw → List Nat → Bx
 | (_, T, l) :: m, b :: δ => (b, .cells l.toArray T (0, 0)) :: w9 m δ
 | _, _ => []
def PB : List Bw → (List Nat → Prop) → Prop
 | [], K => K []
 | _ :: m, K => ∀ b : Nat, PB m fun δ => K (b :: δ)
theorem jn : ∀ {l : List Bw} {K : List Nat → Prop}, PB l K → ∀ δ, δ.length = l.length → K δ
 | [], K, h, [], _ => h
 | _ :: m, K, h, b :: δ, hl => jn (h b) δ (by simpa using hl)
theorem jo : ∀ {l : List Bw} {K : List Nat → Prop}, (∀ δ, δ.length = l.length → K δ) → PB l K
 | [], K, h => h [] rfl
 | _ :: m, K, h => fun b => jo fun δ hl => h (b :: δ) (by simp [hl])
def PTv (g : Gl) (td : List Item) (bs : List Bw) (ts : List (Nat × Value)) (σ : Hp) : Prop :=
 ∀ J : Env, PB bs fun δ => At g td (LD J (Zp bs δ ++ ts)) (w9 bs δ) σ
theorem cH {δ0 : List Nat} {v : Vl} : ∀ {m : List Bv} {j : Nat} {n : Nm} {δ : List Nat}, δ.length = m.length → (∀ i, i < δ.length → nth 0 v.δ (j + i) = nth 0 δ i) → (WV m j n).2.le v →
   FC v (WV m j n).1 = w9 (SH m) δ ∧ HW v (pU m j) = Zp (SH m) δ ∧ n.le v
 | [], j, n, [], _, _, h => ⟨rfl, rfl, h⟩
 | (t, T, l) :: m, j, n, b :: δ, hl, hd, h => by
   obtain ⟨h1, h2, h3⟩ := cH (δ0 := δ0) (m := m) (j := j + 1) (n := (WU l n).2) (δ := δ) (by simpa using hl) (fun i hi => by
     have := hd (i + 1) (by simpa using hi)
     rw [show j + 1 + i = j + (i + 1) by omega]; exact this) h
   obtain ⟨h4, h5⟩ := Pj h3
   have hb : nth 0 v.δ j = b := hd 0 (by simp)
   refine ⟨?_, ?_, h5⟩
   · simp only [WV, FC, SH, w9, hb, h4]; rw [← h1]
   · simp only [pU, HW, SH, Zp, SV.den, Gw.den, CZ.den, PV.den, hb]; rw [h2]
def iS (D : List (Nat × Dw)) (δ : List Nat) (σ : Hp) : S := match Np D ⟨[], []⟩ with
 | (e, n) => match KG D [] with
   | bs => match WV bs 0 n with
     | (x, n) => ⟨pU bs 0 ++ e, x, ⟨n.ρ, n.β, δ⟩, σ⟩
theorem WW {v : Vl} : ∀ {l m : List (Nat × SV)}, HW v (l ++ m) = HW v l ++ HW v m
 | [], _ => rfl
 | (t, x) :: l, m => by simp only [List.cons_append, HW]; rw [WW]
theorem xA {D : List (Nat × Dw)} {δ : List Nat} {σ : Hp} {J : Env} (hl : δ.length = (KG D []).length) :
   (iS D δ σ).e J = LD J (Zp (SH (KG D [])) δ ++ PE D) ∧ (iS D δ σ).b = w9 (SH (KG D [])) δ := by
 have hle : (WV (KG D []) 0 (Np D ⟨[], []⟩).2).2.le ⟨(WV (KG D []) 0 (Np D ⟨[], []⟩).2).2.ρ, (WV (KG D []) 0 (Np D ⟨[], []⟩).2).2.β, δ⟩ := ⟨fun _ _ => rfl, fun _ _ => rfl⟩
 obtain ⟨h1, h2, h3⟩ := cH (δ0 := []) (δ := δ) hl (fun i _ => by rw [Nat.zero_add]) hle
 obtain ⟨h4, _⟩ := Km h3
 exact ⟨by simp only [iS, S.e, WW]; rw [h2, h4], h1⟩
def ABW : Nat → Nat → List Bool
 | 0, _ => []
 | f + 1, n => match Nat.ble n 1 with
   | true => []
   | false => Nat.beq (n % 2) 1 :: ABW f (n / 2)
def pth (n : Nat) : List Bool := ABW 400 n
def MA (body : Code) : List Bool → List It
 | [] => []
 | t :: p => match node body p with
   | .seq _ _ => bif t then MA body p else .c (true :: p) :: MA body p
   | .block i _ => .DJ i :: MA body p
   | .loop _ => .lp (false :: p) :: MA body p
   | .scope _ => .sc (false :: p) :: MA body p
   | _ => MA body p
def tO (body : Code) (n : Nat) : List It := .c (pth n) :: MA body (pth n)
inductive Sh where
 | I (k : IntKind) | B | T | L | Q | A | M | V
inductive Sw where
 | o (x : Sh)
 | G (l : List Sh)
 | U (l : List Sh)
 | X (T : TypeId) (l : List Sh)
abbrev ArS : Sh → Type → Type
 | .I _, C => Int → C
 | .B, C => Bool → C
 | .T, C => ByteArray → C
 | .L, C => Option Addr → Nat → Nat → C
 | .Q, C => Option Addr → C
 | .A, C => Nat → C
 | .M, C => Option Nat → C
 | .V, C => Value → C
def ABX {C : Type} : (x : Sh) → (Dv → C) → ArS x C
 | .I k, K => fun x => K (.I k x)
 | .B, K => fun x => K (.B x)
 | .T, K => fun x => K (.T x)
 | .L, K => fun p n c => K (.L p n c)
 | .Q, K => fun x => K (.Q x)
 | .A, K => fun x => K (.A x)
 | .M, K => fun x => K (.M x)
 | .V, K => fun x => K (.V x)
abbrev ArL : List Sh → Type → Type
 | [], A => A
 | x :: l, A => ArS x (ArL l A)
def pV {A : Type} : (l : List Sh) → (List Dv → A) → ArL l A
 | [], K => K []
 | x :: l, K => ABX x fun d => pV l fun r => K (d :: r)
abbrev ArW : Sw → Type → Type
 | .o x, C => ArS x C
 | .G l, C => ArL l C
 | .U l, C => ArL l C
 | .X _ l, C => ArL l C
def AJS {A : Type} : (x : Sw) → (Dw → A) → ArW x A
 | .o x, K => ABX x fun d => K (.o d)
 | .G l, K => pV l fun d => K (.G d)
 | .U l, K => pV l fun d => K (.U d)
 | .X T l, K => pV l fun d => K (.X T d)
abbrev Ar : List (Nat × Sw) → Type → Type
 | [], A => A
 | (_, x) :: l, A => ArW x (Ar l A)
def cur {A : Type} : (l : List (Nat × Sw)) → (List (Nat × Dw) → A) → Ar l A
 | [], K => K []
 | (t, x) :: l, K => AJS x fun d => cur l fun r => K ((t, d) :: r)
structure Fw where
 P : Program
 f : Nat
 fn : Func
 CY : List Nat
 hid : List Nat
 wr : Bool
 oD : List (Nat × Nat × Bool)
 rng : List (Nat × TypeId)
 cuts : List (Nat × List (Nat × Sw))
def Fw.K (M : Fw) : Code := M.fn.body.getD .skip
def Fw.gl (M : Fw) (R : Rr) : Gl := Gl.fn M.P M.f M.fn.ntmps R
def Fw.cx (M : Fw) (R : Rr) : Fx := { P := M.P, R := R, CY := M.CY, hid := M.hid, wr := M.wr, n := M.fn.ntmps, body := M.K, res := M.fn.results.toList, oD := M.oD, rng := M.rng }
def WX (vl : Vl) : List Nat → List Fk → List Bw
 | t :: l, x :: r => (t, x.2.1, Ba vl x.2.2) :: WX vl l r
 | _, _ => []
def tmps : List (Nat × Sw) → List Nat
 | [] => []
 | (_, .X _ _) :: l => tmps l
 | (t, _) :: l => t :: tmps l
def jq : List (Nat × Sw) → List Nat → List Nat
 | [], r => r
 | (t, .X _ _) :: l, r => jq l (t :: r)
 | _ :: l, r => jq l r
def Fw.cut (M : Fw) (R : Rr) (c : Nat × List (Nat × Sw)) : Cut := ⟨tO M.K c.1, fun s => match s.eb (tmps c.2), s.Uk (jq c.2 []) s.bx with
 | some vs, some B => PTv (M.gl R) (Dt M.K (tO M.K c.1)) (WX s.vl (jq c.2 []) B) ((tmps c.2).zip vs) s.σ
 | _, _ => False⟩
def Ul (M : Fw) (R : Rr) : List (Nat × List (Nat × Sw)) → List Cut
 | [] => []
 | c :: l => M.cut R c :: Ul M R l
def Fw.ptD (M : Fw) (at_ : Nat) (R : Rr) (D : List (Nat × Dw)) (σ : Hp) : Prop := PTv (M.gl R) (Dt M.K (tO M.K at_)) (SH (KG D [])) (PE D) σ
noncomputable def Fw.pt (M : Fw) (i : Nat) (R : Rr) : Ar (nth (0, []) M.cuts i).2 (Hp → Prop) := cur (nth (0, []) M.cuts i).2 (M.ptD (nth (0, []) M.cuts i).1 R)
structure Fw.Ok (M : Fw) : Prop where
 E : AM M.P M.CY
 mixed : M.P.follows .mixedOrders = true
 fnc : M.P.funcs[M.f]? = some M.fn
 body : M.fn.body.isSome = true
theorem Fw.tP {M : Fw} {R : Rr} (h : M.Ok) : (M.cx R).Ok (M.gl R) M.fn := ⟨⟨rfl, rfl, h.E, rfl, rfl, rfl⟩, h.mixed, h.fnc, rfl, rfl, rfl⟩
theorem WY {vl : Vl} : ∀ {l : List Nat} {B : List Fk}, ∃ δ : List Nat, δ.length = (WX vl l B).length ∧ Zp (WX vl l B) δ = QP vl l B ∧ (l.length = B.length → w9 (WX vl l B) δ = FC vl B)
 | [], [] => ⟨[], rfl, rfl, fun _ => rfl⟩
 | [], _ :: _ => ⟨[], rfl, rfl, fun h => by simp at h⟩
 | _ :: _, [] => ⟨[], rfl, rfl, fun h => by simp at h⟩
 | t :: l, (i, T, cs) :: B => by
   obtain ⟨δ, h1, h2, h3⟩ := WY (vl := vl) (l := l) (B := B)
   exact ⟨nth 0 vl.δ i :: δ, by simp [WX, h1], by simp only [WX, Zp, QP]; rw [h2], fun h => by simp only [WX, w9, FC]; rw [h3 (by simpa using h)]⟩
theorem WZ {s : S} : ∀ {l : List Nat} {bx B : List Fk}, s.Uk l bx = some B → l.length = B.length
 | [], bx, B, h => by simp only [S.Uk, Option.some.injEq] at h; subst h; rfl
 | t :: l, bx, B, h => by
   simp only [S.Uk] at h
   split at h
   · split at h
     · split at h
       · rename_i m hm
         cases h
         simp [WZ hm]
       · cases h
     · cases h
   · cases h
theorem Fw.xB (M : Fw) (R : Rr) (c : Nat × List (Nat × Sw)) : (M.cut R c).Ok (M.gl R) M.K := fun s J h => by
 simp only [Fw.cut] at h
 split at h
 · rename_i vs B h1 h2
   obtain ⟨δ, e1, e2, e3⟩ := WY (vl := s.vl) (l := jq c.2 []) (B := B)
   refine At.ABU h1 h2 fun J => ?_
   have := jn (h J) δ e1
   rw [e2, e3 (WZ h2)] at this
   exact this
 · cases h
theorem Um {M : Fw} {R : Rr} : ∀ {l : List (Nat × List (Nat × Sw))}, ∀ k ∈ Ul M R l, k.Ok (M.gl R) M.K
 | c :: l, k, hk => by
   rcases List.mem_cons.1 hk with rfl | hk
   · exact M.xB R c
   · exact Um k hk
theorem Wa : ∀ {l : List Bv}, (SH l).length = l.length
 | [] => rfl
 | _ :: m => by simp only [SH, List.length_cons]; rw [Wa]
def PX (F : Prop) : List Bv → (List Nat → Prop) → Prop
 | [], K => F = K []
 | _ :: m, K => ∀ b : Nat, PX F m fun δ => K (b :: δ)
theorem jr {F : Prop} (h : F) : ∀ {l : List Bv} {K : List Nat → Prop}, PX F l K → ∀ δ, δ.length = l.length → K δ
 | [], K, e, [], _ => e ▸ h
 | _ :: m, K, e, b :: δ, hl => jr h (e b) δ (by simpa using hl)
theorem Fw.ofB {M : Fw} {R : Rr} {at_ : Nat} {D : List (Nat × Dw)} {σ : Hp} {F : Prop} (h : F) (ok : M.Ok) (e : PX F (KG D []) fun δ => EG (M.cx R) (Ul M R M.cuts) 4000 true (tO M.K at_) (iS D δ σ)) : M.ptD at_ R D σ := fun J => by
 refine jo fun δ hl => ?_
 rw [Wa] at hl
 have := A7 (J := J) (Fw.tP ok) Um (jr h e δ hl)
 obtain ⟨e1, e2⟩ := xA (D := D) (σ := σ) (J := J) hl
 rw [e1, e2] at this
 exact this
theorem Fw.of {M : Fw} {R : Rr} {at_ : Nat} {D : List (Nat × Dw)} {σ : Hp} {F : Prop} (h : F) (ok : M.Ok) (hb : KG D [] = []) (e : F = EG (M.cx R) (Ul M R M.cuts) 4000 true (tO M.K at_) (iS D [] σ) := by kernel_rfl) : M.ptD at_ R D σ :=
 M.ofB h ok (by rw [hb]; exact e)
theorem Fw.SI {M : Fw} {R : Rr} {at_ : Nat} {D : List (Nat × Dw)} {σ : Hp} {F : Prop} {x1 : Bv} (h : F) (ok : M.Ok) (hb : KG D [] = [x1]) (e : ∀ b1 : Nat, F = EG (M.cx R) (Ul M R M.cuts) 4000 true (tO M.K at_) (iS D [b1] σ)) : M.ptD at_ R D σ :=
 M.ofB h ok (by rw [hb]; exact e)
theorem Fw.of2 {M : Fw} {R : Rr} {at_ : Nat} {D : List (Nat × Dw)} {σ : Hp} {F : Prop} {x1 x2 : Bv} (h : F) (ok : M.Ok) (hb : KG D [] = [x1, x2]) (e : ∀ b1 b2 : Nat, F = EG (M.cx R) (Ul M R M.cuts) 4000 true (tO M.K at_) (iS D [b1, b2] σ)) : M.ptD at_ R D σ :=
 M.ofB h ok (by rw [hb]; exact e)
theorem Fw.of3 {M : Fw} {R : Rr} {at_ : Nat} {D : List (Nat × Dw)} {σ : Hp} {F : Prop} {x1 x2 x3 : Bv} (h : F) (ok : M.Ok) (hb : KG D [] = [x1, x2, x3]) (e : ∀ b1 b2 b3 : Nat, F = EG (M.cx R) (Ul M R M.cuts) 4000 true (tO M.K at_) (iS D [b1, b2, b3] σ)) : M.ptD at_ R D σ :=
 M.ofB h ok (by rw [hb]; exact e)
def xC : Value → Dv
 | .int k x => .I k x
 | .bool t => .B t
 | .string x => .T x
 | .slice p n c => .L p n c
 | .pointer p => .Q p
 | .map x => .M x
 | x => .V x
theorem Wb (x : Value) : (xC x).den = x := by cases x <;> rfl
def cI : List Value → List Dv
 | [] => []
 | x :: l => xC x :: cI l
theorem TO : ∀ l : List Value, WT (cI l) = l
 | [] => rfl
 | x :: l => by simp only [cI, WT]; rw [Wb, TO]
def ed : Value → Dw
 | .agg cs => .G (cI cs.toList)
 | x => .o (xC x)
theorem js (x : Value) : (ed x).den = x := by
 cases x
 case agg cs => simp only [ed, Dw.den, TO]
 all_goals (simp only [ed, Dw.den]; exact Wb _)
def jt : Value → Dw
 | .pointer (some ⟨b, 0, none⟩) => .o (.A b)
 | x => .o (.V x)
theorem ju (x : Value) : (jt x).den = x := by
 unfold jt; split <;> rfl
def ef (np : Nat) : Nat → List Value → List (Nat × Dw)
 | _, [] => []
 | k, x :: l => match Nat.blt k np with
   | true => (k, ed x) :: ef np (k + 1) l
   | false => (k, jt x) :: ef np (k + 1) l
theorem jv (x : Value) : (∃ y, ed x = .o y) ∨ ∃ y, ed x = .G y := by cases x <;> first | exact .inr ⟨_, rfl⟩ | exact .inl ⟨_, rfl⟩
theorem jw (x : Value) : ∃ y, jt x = .o y := by unfold jt; split <;> exact ⟨_, rfl⟩
theorem Un {np : Nat} : ∀ {l : List Value} {k : Nat}, PE (ef np k l) = QQ k l ∧ KG (ef np k l) [] = []
 | [], _ => ⟨rfl, rfl⟩
 | x :: l, k => by
   obtain ⟨h1, h2⟩ := Un (np := np) (l := l) (k := k + 1)
   simp only [ef]
   split
   · have hd := js x
     rcases jv x with ⟨y, hy⟩ | ⟨y, hy⟩ <;> rw [hy] at hd ⊢ <;> exact ⟨by simp only [PE, QQ]; rw [hd, h1], h2⟩
   · have hd := ju x
     obtain ⟨y, hy⟩ := jw x
     rw [hy] at hd ⊢
     exact ⟨by simp only [PE, QQ]; rw [hd, h1], h2⟩
def Fw.run (M : Fw) (R : Rr) (k : Nat) (D : List (Nat × Dw)) (σ : Hp) : Prop := match Nat.ble k M.fn.ntmps with
 | true => EG (M.cx R) (Ul M R M.cuts) 4000 true [.c []] (iS D [] σ)
 | false => False
theorem Fw.KH {M : Fw} {R : Rr} {args : Array Value} {σ : Hp} {F : Prop} (h : F) (ok : M.Ok) (D : List (Nat × Dw)) (hx : KG D [] = []) (hD : PE D = QQ 0 args.toList) (e : F = M.run R args.size D σ) : Spec M.P M.f args σ R := by
 subst e
 unfold Fw.run at h
 split at h
 case h_2 => exact h.elim
 rename_i hn
 obtain ⟨fb, hb⟩ := Option.isSome_iff_exists.1 ok.body
 refine Spec.walk (c := M.cx R) (cuts := Ul M R M.cuts) (s := iS D [] σ) (fuel := 4000) (Fw.tP ok) ?_ rfl hn Um ?_ ?_ h
 · show M.fn.body = some (M.fn.body.getD .skip)
   rw [hb]; rfl
 · obtain ⟨h4, _⟩ := Km (l := D) (n := ⟨[], []⟩) (v := ⟨(Np D ⟨[], []⟩).2.ρ, (Np D ⟨[], []⟩).2.β, []⟩) ⟨fun _ _ => rfl, fun _ _ => rfl⟩
   rw [hD] at h4
   simp only [iS, hx]
   exact h4
 · simp only [iS, hx]; rfl
theorem Fw.start {M : Fw} {R : Rr} {args : Array Value} {σ : Hp} {F : Prop} (h : F) (ok : M.Ok) (e : F = M.run R args.size (ef M.fn.params.size 0 args.toList) σ := by kernel_rfl) : Spec M.P M.f args σ R :=
 M.KH h ok _ Un.2 Un.1 e
abbrev wI : Sw := .o (.I .i64)
abbrev wU : Sw := .o (.I .u64)
abbrev w8 : Sw := .o (.I .u8)
abbrev cJ : Sw := .o (.I .u32)
abbrev wB : Sw := .o .B
abbrev wT : Sw := .o .T
abbrev wL : Sw := .o .L
abbrev wQ : Sw := .o .Q
abbrev wA : Sw := .o .A
abbrev wV : Sw := .o .V
abbrev aD (b o : Nat) : Option Addr := some ⟨b, o, none⟩
theorem Mc {p : Option Addr} {b o : Nat} (h : p = some ⟨b, o, none⟩) : aD b o = p := h.symm
abbrev Br (p A B : Prop) : Prop := (p → A) ∧ (¬ p → B)
abbrev Bm (p A B : Prop) : Prop := (¬ p → A) ∧ (p → B)
abbrev Bo (t : Bool) (A B : Prop) : Prop := (t = true → A) ∧ (t = false → B)
abbrev Bn (t : Bool) (A B : Prop) : Prop := (t = false → A) ∧ (t = true → B)
abbrev Pq (p : Option Addr) (K : Nat → Nat → Prop) : Prop := ∃ b o : Nat, p = some ⟨b, o, none⟩ ∧ K b o
abbrev In (x n : Int) : Prop := (0 : Int) ≤ x ∧ x < n
abbrev Df (r : Int) (K : Int → Prop) : Prop := ∀ x : Int, x = r → K x
abbrev Al (σ : Hp) (K : Nat → Prop) : Prop := ∀ b : Nat, σ b = none → K b
abbrev LI (k : IntKind) (σ : Hp) (b o : Nat) (K : Int → Prop) : Prop := ∃ x : Int, Hp.ld σ ⟨b, o, none⟩ = some (.int k x) ∧ K x
abbrev LB (σ : Hp) (b o : Nat) (K : Bool → Prop) : Prop := ∃ x : Bool, Hp.ld σ ⟨b, o, none⟩ = some (.bool x) ∧ K x
abbrev LT (σ : Hp) (b o : Nat) (K : ByteArray → Prop) : Prop := ∃ x : ByteArray, Hp.ld σ ⟨b, o, none⟩ = some (.string x) ∧ K x
abbrev LQ (σ : Hp) (b o : Nat) (K : Option Addr → Prop) : Prop := ∃ x : Option Addr, Hp.ld σ ⟨b, o, none⟩ = some (.pointer x) ∧ K x
abbrev LM (σ : Hp) (b o : Nat) (K : Option Nat → Prop) : Prop := ∃ x : Option Nat, Hp.ld σ ⟨b, o, none⟩ = some (.map x) ∧ K x
abbrev LS (σ : Hp) (b o : Nat) (K : Option Addr → Nat → Nat → Prop) : Prop := ∃ p : Option Addr, ∃ n : Nat, ∃ c : Nat, Hp.ld σ ⟨b, o, none⟩ = some (.slice p n c) ∧ K p n c
abbrev CI (k : IntKind) (K : Int → Hp → Prop) : Value → Hp → Prop := fun v σ => ∃ x : Int, v = .int k x ∧ K x σ
abbrev CB (K : Bool → Hp → Prop) : Value → Hp → Prop := fun v σ => ∃ x : Bool, v = .bool x ∧ K x σ
abbrev CT (K : ByteArray → Hp → Prop) : Value → Hp → Prop := fun v σ => ∃ x : ByteArray, v = .string x ∧ K x σ
abbrev CQ (K : Option Addr → Hp → Prop) : Value → Hp → Prop := fun v σ => ∃ x : Option Addr, v = .pointer x ∧ K x σ
abbrev CS (K : Option Addr → Nat → Nat → Hp → Prop) : Value → Hp → Prop := fun v σ => ∃ p : Option Addr, ∃ n : Nat, ∃ c : Nat, v = .slice p n c ∧ K p n c σ
end Tw
end
section
set_option maxRecDepth 100000
noncomputable section
namespace TwW
open Go Tw Go.Proofs.Tryz
variable [I7] {R : Rr} {σ : Hp}

namespace DU
def K0 := f23.body.getD .skip
def K1 := cl K0
def K2 := cr K0
def K3 := cl K2
def K4 := cl K3
def K5 := cr K3
def K6 := cl K5
def K7 := cl K6
def K8 := cr K6
def K9 := cr K5
def K10 := cr K2
def K11 := cl K10
def K12 := cr K10
def K13 := cl K12
def K14 := cl K13
def K15 := cr K13
def K16 := cl K15
def K17 := cl K16
def K18 := cr K16
def K19 := cl K18
def K20 := cl K19
def K21 := cl K20
def K22 := cr K20
def K23 := cl K22
def K24 := cr K22
def K25 := cr K19
def K26 := cl K25
def K27 := cr K25
def K28 := cl K27
def K29 := cl K28
def K30 := cr K28
def K31 := cr K27
def K32 := cr K12
def K33 := cl K32
def K34 := cr K32
def K35 : Code := .ret
abbrev gl (R : Rr) : Gl := Gl.fn prog 23 38 R
def Ap (R : Rr) (l : Nat) (r0 : Loop) (b5 b6 b7 b8 : Nat) (J4 : Int) (σ : Hp) : Prop := ∀ (J : Env), At (Gl.round prog 23 38 l R) [.code K17, .beginRound, .code K18] (LD J [(5, (.pointer (some ⟨b5, 0, none⟩))), (6, (.pointer (some ⟨b6, 0, none⟩))), (7, (.pointer (some ⟨b7, 0, none⟩))), (8, (.pointer (some ⟨b8, 0, none⟩))), (24, (.int .i64 J4))]) [] σ
def pW (R : Rr) (l : Nat) (r0 : Loop) (b5 b6 b7 b8 : Nat) (σ : Hp) : Prop := ∀ (J : Env), At (Gl.round prog 23 38 l R) [.code K26, .code K27, .inBlock 1] (LD J [(5, (.pointer (some ⟨b5, 0, none⟩))), (6, (.pointer (some ⟨b6, 0, none⟩))), (7, (.pointer (some ⟨b7, 0, none⟩))), (8, (.pointer (some ⟨b8, 0, none⟩)))]) [] σ
theorem start {R : Rr} {E6 x1 x2 : Int} {HX : Option Addr} {Gd HY : Nat} {σ : Hp} (h : ∀ b5 : Nat, σ b5 = none → ∀ b6 : Nat, (Hp.set σ b5 (.cells #[(.int .i64 x2)] 3 (0, 0))) b6 = none → ∀ b7 : Nat, (Hp.set (Hp.set σ b5 (.cells #[(.int .i64 x2)] 3 (0, 0))) b6 (.cells #[(.slice none 0 0)] 26 (0, 0))) b7 = none → Spec prog 54 #[(.agg #[(.int .u64 E6), (.slice HX Gd HY)])] (Hp.set (Hp.set (Hp.set σ b5 (.cells #[(.int .i64 x2)] 3 (0, 0))) b6 (.cells #[(.slice none 0 0)] 26 (0, 0))) b7 (.cells #[(.int .i64 0)] 67 (0, 0))) (AB R (fun v σ1 => ∃ Eg : Int, v = (.int .i64 Eg) ∧ ((Eg : Int) ≠ 0 → AJ prog (Instr.storeAt 26 (.pointer (some ⟨b6, 0, none⟩)) (.slice none 0 0)) σ1 (fun _ Bb => AJ prog (Instr.storeAt 67 (.pointer (some ⟨b7, 0, none⟩)) (.int .i64 130)) Bb (fun _ BE => ∃ Rv : Option Addr, ∃ Rx : Nat, ∃ Ry : Nat, ∃ Rz : Int, Hp.ld BE ⟨b6, 0, none⟩ = some (.slice Rv Rx Ry) ∧ Hp.ld BE ⟨b7, 0, none⟩ = some (.int .i64 Rz) ∧ R (.returned (.tuple #[(.slice Rv Rx Ry), (.int .i64 Rz)])) BE))) ∧ (¬ ((Eg : Int) ≠ 0) → ∃ E7 : Int, Hp.ld σ1 ⟨b5, 0, none⟩ = some (.int .i64 E7) ∧ ((E7 : Int) < 1 → AJ prog (Instr.storeAt 26 (.pointer (some ⟨b6, 0, none⟩)) (.slice none 0 0)) σ1 (fun _ Bb => AJ prog (Instr.storeAt 67 (.pointer (some ⟨b7, 0, none⟩)) (.int .i64 130)) Bb (fun _ BE => ∃ Rv : Option Addr, ∃ Rx : Nat, ∃ Ry : Nat, ∃ Rz : Int, Hp.ld BE ⟨b6, 0, none⟩ = some (.slice Rv Rx Ry) ∧ Hp.ld BE ⟨b7, 0, none⟩ = some (.int .i64 Rz) ∧ R (.returned (.tuple #[(.slice Rv Rx Ry), (.int .i64 Rz)])) BE))) ∧ (¬ ((E7 : Int) < 1) → ∃ FT : Int, Hp.ld σ1 ⟨b5, 0, none⟩ = some (.int .i64 FT) ∧ ((5 : Int) < FT → AJ prog (Instr.storeAt 26 (.pointer (some ⟨b6, 0, none⟩)) (.slice none 0 0)) σ1 (fun _ Bb => AJ prog (Instr.storeAt 67 (.pointer (some ⟨b7, 0, none⟩)) (.int .i64 130)) Bb (fun _ BE => ∃ Rv : Option Addr, ∃ Rx : Nat, ∃ Ry : Nat, ∃ Rz : Int, Hp.ld BE ⟨b6, 0, none⟩ = some (.slice Rv Rx Ry) ∧ Hp.ld BE ⟨b7, 0, none⟩ = some (.int .i64 Rz) ∧ R (.returned (.tuple #[(.slice Rv Rx Ry), (.int .i64 Rz)])) BE))) ∧ (¬ ((5 : Int) < FT) → ∀ b8 : Nat, σ1 b8 = none → Spec prog 55 #[(.agg #[(.int .u64 E6), (.slice HX Gd HY)]), (.int .u32 x1)] (Hp.set σ1 b8 (.cells #[(.slice none 0 0)] 26 (0, 0))) (AB R (fun cK Bb => ∃ v23 : Value, v23 = cK ∧ ∃ (gf : Nat) (lb : Array Value), v23 = .func (.func gf) #[] lb ∧ Enters prog gf ∧ ∀ (Zq Zr : Nat) (QS : Loop), Zq ≠ Zr → Bb Zq = none → Bb Zr = none → (∀ (R2 : Rr) (σ2 : Hp) (pX : Int), σ2 Zr = some (.loop (lp QS .ready none)) → Ap R2 Zr QS b5 b6 b7 b8 pX σ2 → J9 prog Zr #[(.int .i64 pX)] σ2 R2) → Spec prog gf (#[.func (.yield Zr) #[] #[]] ++ lb) (Hp.set (Hp.set Bb Zq (.deferred (some []))) Zr (.loop (lp QS .ready none))) (fun en BE => ∃ (v : Value) (s : LoopState) (p : Option Code), en = .returned v ∧ BE Zr = some (.loop (lp QS s p)) ∧ s ≠ .busy ∧ ((p = none ∧ AJ prog (Instr.storeAt 26 (.pointer (some ⟨b6, 0, none⟩)) (.slice none 0 0)) (Hp.set BE Zr (.loop (lp QS .exhausted none))) (fun _ OP => AJ prog (Instr.storeAt 67 (.pointer (some ⟨b7, 0, none⟩)) (.int .i64 133)) OP (fun _ Wc => ∃ Rv : Option Addr, ∃ Rx : Nat, ∃ Ry : Nat, ∃ Rz : Int, Wc Zq = some (.deferred (some [])) ∧ Hp.ld (Hp.set Wc Zq (.deferred none)) ⟨b6, 0, none⟩ = some (.slice Rv Rx Ry) ∧ Hp.ld (Hp.set Wc Zq (.deferred none)) ⟨b7, 0, none⟩ = some (.int .i64 Rz) ∧ R (.returned (.tuple #[(.slice Rv Rx Ry), (.int .i64 Rz)])) (Hp.set Wc Zq (.deferred none))))) ∨ (p = (some .ret) ∧ ∃ cL : Option Addr, ∃ cM : Nat, ∃ cN : Nat, ∃ cP : Int, (Hp.set BE Zr (.loop (lp QS .exhausted (some .ret)))) Zq = some (.deferred (some [])) ∧ Hp.ld (Hp.set (Hp.set BE Zr (.loop (lp QS .exhausted (some .ret)))) Zq (.deferred none)) ⟨b6, 0, none⟩ = some (.slice cL cM cN) ∧ Hp.ld (Hp.set (Hp.set BE Zr (.loop (lp QS .exhausted (some .ret)))) Zq (.deferred none)) ⟨b7, 0, none⟩ = some (.int .i64 cP) ∧ R (.returned (.tuple #[(.slice cL cM cN), (.int .i64 cP)])) (Hp.set (Hp.set BE Zr (.loop (lp QS .exhausted (some .ret)))) Zq (.deferred none))))))))))))) : Spec prog 23 #[(.agg #[(.int .u64 E6), (.slice HX Gd HY)]), (.int .u32 x1), (.int .i64 x2)] σ R := by
 refine Spec.Vv (fn := f23) (c := K0) func23 (by kernel_rfl) (Nat.le_of_ble_eq_true (by kernel_rfl)) (fun e he => ?_)
 refine At.ofL (l := [(0, (.agg #[(.int .u64 E6), (.slice HX Gd HY)])), (1, (.int .u32 x1)), (2, (.int .i64 x2))]) ⟨he 0, he 1, he 2, trivial⟩ (fun J => ?_)
 show At (gl R) _ _ _ _
 refine At.s K1 K2 ?_
 refine At.rg 0 [0, 1, 2, 3] ?_
 refine Seq.o ?_
 refine AY.box (T := 41) (d := (some 3)) (ty := 0) (x := (.tmp 0)) (gd := none) (cs := #[(.int .u64 E6), (.slice HX Gd HY)]) (by kernel_rfl) rfl rfl rfl (fun b3 => ?_)
 refine Seq.o ?_
 refine AY.AA2 (T := 3) (d := (some 5)) (ty := 0) (x := (.tmp 2)) (gd := none) (cs := #[(.int .i64 x2)]) (by kernel_rfl) rfl rfl rfl (fun b5 hn => ?_)
 replace h := h b5 hn
 refine Seq.o ?_
 refine AY.UN (T := 26) (d := (some 6)) (ty := 0)  (gd := none) (cs := #[(.slice none 0 0)]) (by kernel_rfl) rfl rfl zeroValue26 rfl (fun b6 hn => ?_)
 replace h := h b6 hn
 refine Seq.o ?_
 refine AY.UN (T := 67) (d := (some 7)) (ty := 0)  (gd := none) (cs := #[(.int .i64 0)]) (by kernel_rfl) rfl rfl zeroValue67 rfl (fun b7 hn => ?_)
 replace h := h b7 hn
 refine Seq.done ?_
 refine At.s K3 K10 (At.s K4 K5 ?_)
 refine At.rg 1 [0, 1, 2, 3, 4, 5, 6, 7, 8, 9, 10] ?_
 refine Seq.z 10 (.load 41 (.tmp 3)) 41 (.agg #[(.int .u64 E6), (.slice HX Gd HY)]) (Y.wD (vs := [(.int .u64 E6), (.slice HX Gd HY)]) isAgg41 sizeOf41 rfl rfl (List.mem_cons_self ..) rfl) ?_
 refine Seq.o ?_
 refine AY.cl (some 11) call54 (h.cont fun v σ1 h2 => ?_); replace h := h2; clear h2
 obtain ⟨Eg, rfl, h⟩ := h
 refine Seq.us [(12, .bool (decide ((Eg : Int) ≠ 0))), (13, .bool (decide ((Eg : Int) ≠ 0)))] ?_
 cases hb : (decide ((Eg : Int) ≠ 0)) with
 | true =>
   replace h := h.1 (of_decide_eq_true hb)
   refine Seq.n 14 ?_
   refine Seq.n 15 ?_
   refine Seq.us [(16, .bool true), (17, .bool true)] ?_
   refine Seq.n 18 ?_
   refine Seq.n 19 ?_
   refine Seq.u 20 (.bool true) (Seq.done ?_)
   refine At.cT 20 K6 K9 ?_
   refine At.s K7 K8 ?_
   refine At.rg 2 [0, 1] ?_
   refine Seq.o ?_
   refine AY.store (T := 26) (ty := 0) (x := (.tmp 6)) (y := (.const (.slice none 0 0))) (p := (.pointer (some ⟨b6, 0, none⟩))) (v := (.slice none 0 0)) (gd := none) (by kernel_rfl) rfl rfl rfl (h.mono (fun _ Bb h2 => ?_)); replace h := h2; clear h2
   refine Seq.o ?_
   refine AY.store (T := 67) (ty := 0) (x := (.tmp 7)) (y := (.const (.int .i64 130))) (p := (.pointer (some ⟨b7, 0, none⟩))) (v := (.int .i64 130)) (gd := none) (by kernel_rfl) rfl rfl rfl (h.mono (fun _ BE h2 => ?_)); replace h := h2; clear h2
   refine Seq.done ?_
   obtain ⟨Rv, Rx, Ry, Rz, xD, Yq, h⟩ := h
   exact At.rt [.cell 6 26, .cell 7 67] [(.slice Rv Rx Ry), (.int .i64 Rz)] func23 ⟨_, _, rfl, ⟨_, rfl, F3 isAgg26 xD⟩, ⟨_, _, rfl, ⟨_, rfl, F3 isAgg67 Yq⟩, rfl⟩⟩ h
 | false =>
   replace h := h.2 (of_decide_eq_false hb)
   obtain ⟨E7, hl, h⟩ := h
   refine Seq.zg 14 (.load 3 (.tmp 5)) 3 (3, false) (.int .i64 E7) (Y.ld isAgg3 rfl hl) ?_
   refine Seq.us [(15, .bool (decide ((E7 : Int) < 1))), (16, .bool (decide ((E7 : Int) < 1))), (17, .bool (decide ((E7 : Int) < 1)))] ?_
   cases hb : (decide ((E7 : Int) < 1)) with
   | true =>
     replace h := h.1 (of_decide_eq_true hb)
     refine Seq.n 18 ?_
     refine Seq.n 19 ?_
     refine Seq.u 20 (.bool true) (Seq.done ?_)
     refine At.cT 20 K6 K9 ?_
     refine At.s K7 K8 ?_
     refine At.rg 2 [0, 1] ?_
     refine Seq.o ?_
     refine AY.store (T := 26) (ty := 0) (x := (.tmp 6)) (y := (.const (.slice none 0 0))) (p := (.pointer (some ⟨b6, 0, none⟩))) (v := (.slice none 0 0)) (gd := none) (by kernel_rfl) rfl rfl rfl (h.mono (fun _ Bb h2 => ?_)); replace h := h2; clear h2
     refine Seq.o ?_
     refine AY.store (T := 67) (ty := 0) (x := (.tmp 7)) (y := (.const (.int .i64 130))) (p := (.pointer (some ⟨b7, 0, none⟩))) (v := (.int .i64 130)) (gd := none) (by kernel_rfl) rfl rfl rfl (h.mono (fun _ BE h2 => ?_)); replace h := h2; clear h2
     refine Seq.done ?_
     obtain ⟨Rv, Rx, Ry, Rz, xD, Yq, h⟩ := h
     exact At.rt [.cell 6 26, .cell 7 67] [(.slice Rv Rx Ry), (.int .i64 Rz)] func23 ⟨_, _, rfl, ⟨_, rfl, F3 isAgg26 xD⟩, ⟨_, _, rfl, ⟨_, rfl, F3 isAgg67 Yq⟩, rfl⟩⟩ h
   | false =>
     replace h := h.2 (of_decide_eq_false hb)
     obtain ⟨FT, hl, h⟩ := h
     refine Seq.zg 18 (.load 3 (.tmp 5)) 3 (7, false) (.int .i64 FT) (Y.ld isAgg3 rfl hl) ?_
     refine Seq.us [(19, .bool (decide ((5 : Int) < FT))), (20, .bool (decide ((5 : Int) < FT)))] (Seq.done ?_)
     cases hb : (decide ((5 : Int) < FT)) with
     | true =>
       replace h := h.1 (of_decide_eq_true hb)
       refine At.cT 20 K6 K9 ?_
       refine At.s K7 K8 ?_
       refine At.rg 2 [0, 1] ?_
       refine Seq.o ?_
       refine AY.store (T := 26) (ty := 0) (x := (.tmp 6)) (y := (.const (.slice none 0 0))) (p := (.pointer (some ⟨b6, 0, none⟩))) (v := (.slice none 0 0)) (gd := none) (by kernel_rfl) rfl rfl rfl (h.mono (fun _ Bb h2 => ?_)); replace h := h2; clear h2
       refine Seq.o ?_
       refine AY.store (T := 67) (ty := 0) (x := (.tmp 7)) (y := (.const (.int .i64 130))) (p := (.pointer (some ⟨b7, 0, none⟩))) (v := (.int .i64 130)) (gd := none) (by kernel_rfl) rfl rfl rfl (h.mono (fun _ BE h2 => ?_)); replace h := h2; clear h2
       refine Seq.done ?_
       obtain ⟨Rv, Rx, Ry, Rz, xD, Yq, h⟩ := h
       exact At.rt [.cell 6 26, .cell 7 67] [(.slice Rv Rx Ry), (.int .i64 Rz)] func23 ⟨_, _, rfl, ⟨_, rfl, F3 isAgg26 xD⟩, ⟨_, _, rfl, ⟨_, rfl, F3 isAgg67 Yq⟩, rfl⟩⟩ h
     | false =>
       replace h := h.2 (of_decide_eq_false hb)
       refine At.cF 20 K6 K9 ?_
       refine At.skip ?_
       refine At.s K11 K12 ?_
       refine At.rg 3 [0] ?_
       refine Seq.o ?_
       refine AY.UN (T := 26) (d := (some 8)) (ty := 0)  (gd := none) (cs := #[(.slice none 0 0)]) (by kernel_rfl) rfl rfl zeroValue26 rfl (fun b8 hn => ?_)
       replace h := h b8 hn
       refine Seq.done ?_
       refine At.s K13 K32 (At.s K14 K15 ?_)
       refine At.rg 4 [0, 1, 2] ?_
       refine Seq.z 21 (.load 41 (.tmp 3)) 41 (.agg #[(.int .u64 E6), (.slice HX Gd HY)]) (Y.wD (vs := [(.int .u64 E6), (.slice HX Gd HY)]) isAgg41 sizeOf41 rfl rfl (List.mem_cons_self ..) rfl) ?_
       refine Seq.u 22 (.int .u32 x1) ?_
       refine Seq.o ?_
       refine AY.cl (some 23) call55 (h.cont fun cK Bb h2 => ?_); replace h := h2; clear h2
       obtain ⟨v23, rfl, h⟩ := h
       refine Seq.done ?_
       refine At.b 0 K16 ?_
       obtain ⟨gf, lb, hgv, J8, h⟩ := h
       refine At.range (gop := (.tmp 23)) (ps := #[24]) (assign := K17) (body := K18) (gf := gf) (lb := lb) (by kernel_rfl) rfl rfl hgv J8 (fun Zq Zr QS hDl hD hl hrf hrp hra hrb hrs Vh => ?_)
       refine (h Zq Zr QS hDl hD hl (fun R2 σ2 pX Zs hp => J9.Vv (n := 38) Zs hrp hrs (by decide) Vh (fn := f23) (by rw [hrf]; exact func23) ?_)).mono (fun en BE h => ?_)
       · rw [hrf, hra, hrb]
         exact At.v [(5, (.pointer (some ⟨b5, 0, none⟩))), (6, (.pointer (some ⟨b6, 0, none⟩))), (7, (.pointer (some ⟨b7, 0, none⟩))), (8, (.pointer (some ⟨b8, 0, none⟩))), (24, (.int .i64 pX))] (hp _)
       obtain ⟨v, s, p, he, wJ, hs, h⟩ := h
       refine ⟨v, s, p, he, wJ, hs, ?_⟩
       rcases h with h | h
       · obtain ⟨rfl, h⟩ := h
         show At (Gl.behind prog 23 38 Zq R) [.inBlock 0, .code K32] _ _ _
         refine At.inBlock ?_
         refine At.s K33 K34 ?_
         refine At.rg 10 [0, 1] ?_
         refine Seq.o ?_
         refine AY.store (T := 26) (ty := 0) (x := (.tmp 6)) (y := (.const (.slice none 0 0))) (p := (.pointer (some ⟨b6, 0, none⟩))) (v := (.slice none 0 0)) (gd := none) (by kernel_rfl) rfl rfl rfl (h.mono (fun _ OP h2 => ?_)); replace h := h2; clear h2
         refine Seq.o ?_
         refine AY.store (T := 67) (ty := 0) (x := (.tmp 7)) (y := (.const (.int .i64 133))) (p := (.pointer (some ⟨b7, 0, none⟩))) (v := (.int .i64 133)) (gd := none) (by kernel_rfl) rfl rfl rfl (h.mono (fun _ Wc h2 => ?_)); replace h := h2; clear h2
         refine Seq.done ?_
         refine At.L [(6, (.pointer (some ⟨b6, 0, none⟩))), (7, (.pointer (some ⟨b7, 0, none⟩)))] fun J => ?_
         obtain ⟨Rv, Rx, Ry, Rz, w7, xD, Yq, h⟩ := h
         exact At.UO (rs := [.cell 6 26, .cell 7 67]) (vs := [(.slice Rv Rx Ry), (.int .i64 Rz)]) (by kernel_rfl) func23 (by kernel_rfl) ⟨_, _, rfl, ⟨_, rfl, F3 isAgg26 xD⟩, ⟨_, _, rfl, ⟨_, rfl, F3 isAgg67 Yq⟩, rfl⟩⟩ h rfl (jT w7)
       · obtain ⟨rfl, h⟩ := h
         show At (Gl.behind prog 23 38 Zq R) [.code K35, .inBlock 0, .code K32] _ _ _
         obtain ⟨cL, cM, cN, cP, w7, ABd, ABe, h⟩ := h
         exact At.UO (rs := [.cell 6 26, .cell 7 67]) (vs := [(.slice cL cM cN), (.int .i64 cP)]) (by kernel_rfl) func23 (by kernel_rfl) ⟨_, _, rfl, ⟨_, rfl, F3 isAgg26 ABd⟩, ⟨_, _, rfl, ⟨_, rfl, F3 isAgg67 ABe⟩, rfl⟩⟩ h rfl (jT w7)
theorem BI {R : Rr} {l b5 b6 b7 b8 : Nat} {r0 : Loop} {J4 : Int} {σ : Hp} (h : σ l = some (.loop (lp r0 .ready none)) ∧ ∃ R0 : Option Addr, ∃ n25 : Nat, ∃ Pk : Nat, Hp.ld (Hp.set σ l (.loop (lp r0 .busy none))) ⟨b8, 0, none⟩ = some (.slice R0 n25 Pk) ∧ Spec prog 50 #[(.slice R0 n25 Pk), (.int .i64 J4)] (Hp.set σ l (.loop (lp r0 .busy none))) (AB (NP R) (fun v σ1 => ∃ t27 : Bool, v = (.bool t27) ∧ (t27 = false → ∃ eh : Option Addr, ∃ n29 : Nat, ∃ ei : Nat, Hp.ld σ1 ⟨b8, 0, none⟩ = some (.slice eh n29 ei) ∧ ∀ J5 : Nat, σ1 J5 = none → AJ prog (Builtin.append_ #[26, 26] 26 #[(.slice eh n29 ei), (.slice (some ⟨J5, 0, none⟩) 1 1)]) (Hp.set σ1 J5 (.cells #[(.int .i64 J4)] 3 (0, 0))) (fun cK Bb => ∃ p32 : Option Addr, ∃ n32 : Nat, ∃ xE : Nat, cK = (.slice p32 n32 xE) ∧ AJ prog (Instr.storeAt 26 (.pointer (some ⟨b8, 0, none⟩)) (.slice p32 n32 xE)) Bb (fun _ BE => pW R l r0 b5 b6 b7 b8 BE))) ∧ (t27 = true → pW R l r0 b5 b6 b7 b8 σ1)))) : Ap R l r0 b5 b6 b7 b8 J4 σ := by
 intro J
 show At (Gl.round prog 23 38 l R) _ _ _ _
 refine At.rg 5 [0] ?_
 refine Seq.u 9 (.int .i64 J4) (Seq.done ?_)
 obtain ⟨bY, h⟩ := h
 refine At.beginRound rfl bY ?_
 refine At.b 1 K19 ?_
 refine At.s K20 K25 (At.s K21 K22 ?_)
 refine At.rg 6 [0, 1, 2, 3] ?_
 obtain ⟨R0, n25, Pk, hl, h⟩ := h
 refine Seq.z 25 (.load 26 (.tmp 8)) 26 (.slice R0 n25 Pk) (Y.ld isAgg26 rfl hl) ?_
 refine Seq.u 26 (.int .i64 J4) ?_
 refine Seq.o ?_
 refine AY.cl (some 27) call50 (h.cont fun v σ1 h2 => ?_); replace h := h2; clear h2
 obtain ⟨t27, rfl, h⟩ := h
 refine Seq.u 28 (.bool (!t27)) (Seq.done ?_)
 cases hb : (!t27) with
 | true =>
  replace h := h.1 (Tw.nt hb)
  refine At.cT 28 K23 K24 ?_
  refine At.rg 7 [0, 1, 2, 3, 4] ?_
  obtain ⟨eh, n29, ei, hl, h⟩ := h
  refine Seq.z 29 (.load 26 (.tmp 8)) 26 (.slice eh n29 ei) (Y.ld isAgg26 rfl hl) ?_
  refine Seq.u 30 (.int .i64 J4) ?_
  refine Seq.o ?_
  refine AY.Ly (T := 26) (E := 3) (m := 1) (ps := #[(0, (.tmp 30))]) (d := (some 31)) (ty := 26) (gd := none) (vs := [(0, (.int .i64 J4))]) (cs := #[(.int .i64 J4)]) underlying26 (by kernel_rfl) rfl rfl rfl (by kernel_rfl) (fun J5 hn => ?_)
  replace h := h J5 hn
  refine Seq.o ?_
  refine AY.jO (d := (some 32)) (op := (.call { callee := .builtin .append, args := #[(.tmp 29), (.tmp 31)], argTypes := #[26, 26] })) (ty := 26) (gd := none) (by kernel_rfl) rfl rfl (Builtin.append_ #[26, 26] 26 #[(.slice eh n29 ei), (.slice (some ⟨J5, 0, none⟩) 1 1)]) (fun o ho ht => LZ rfl rfl o ho ht) (h.mono (fun cK Bb h2 => ?_)); replace h := h2; clear h2
  obtain ⟨p32, n32, xE, rfl, h⟩ := h
  refine Seq.o ?_
  refine AY.store (T := 26) (ty := 0) (x := (.tmp 8)) (y := (.tmp 32)) (p := (.pointer (some ⟨b8, 0, none⟩))) (v := (.slice p32 n32 xE)) (gd := none) (by kernel_rfl) rfl rfl rfl (h.mono (fun _ BE h2 => ?_)); replace h := h2; clear h2
  refine Seq.done ?_
  refine At.s K26 K27 ?_
  exact At.v [(5, (.pointer (some ⟨b5, 0, none⟩))), (6, (.pointer (some ⟨b6, 0, none⟩))), (7, (.pointer (some ⟨b7, 0, none⟩))), (8, (.pointer (some ⟨b8, 0, none⟩)))] (h _)
 | false =>
  replace h := h.2 (Tw.nf hb)
  refine At.cF 28 K23 K24 ?_
  refine At.skip ?_
  refine At.s K26 K27 ?_
  exact At.v [(5, (.pointer (some ⟨b5, 0, none⟩))), (6, (.pointer (some ⟨b6, 0, none⟩))), (7, (.pointer (some ⟨b7, 0, none⟩))), (8, (.pointer (some ⟨b8, 0, none⟩)))] (h _)
theorem pY {R : Rr} {l b5 b6 b7 b8 : Nat} {r0 : Loop} {σ : Hp} (h : ∃ jx : Option Addr, ∃ n33 : Nat, ∃ jy : Nat, Hp.ld σ ⟨b8, 0, none⟩ = some (.slice jx n33 jy) ∧ ∃ Zt : Int, Hp.ld σ ⟨b5, 0, none⟩ = some (.int .i64 Zt) ∧ (((n33 : Int) : Int) = Zt → ∃ R1 : Option Addr, ∃ n37 : Nat, ∃ c37 : Nat, Hp.ld σ ⟨b8, 0, none⟩ = some (.slice R1 n37 c37) ∧ AJ prog (Instr.storeAt 26 (.pointer (some ⟨b6, 0, none⟩)) (.slice R1 n37 c37)) σ (fun _ σ1 => AJ prog (Instr.storeAt 67 (.pointer (some ⟨b7, 0, none⟩)) (.int .i64 0)) σ1 (fun _ Bb => Bb l = some (.loop (lp r0 .busy none)) ∧ R (.returned (.bool false)) (Hp.set Bb l (.loop (lp r0 .done (some .ret))))))) ∧ (¬ (((n33 : Int) : Int) = Zt) → σ l = some (.loop (lp r0 .busy none)) ∧ R (.returned (.bool true)) (Hp.set σ l (.loop (lp r0 .ready none))))) : pW R l r0 b5 b6 b7 b8 σ := by
 intro J
 show At (Gl.round prog 23 38 l R) _ _ _ _
 refine At.rg 8 [0, 1, 2, 3] ?_
 obtain ⟨jx, n33, jy, hl, h⟩ := h
 refine Seq.z 33 (.load 26 (.tmp 8)) 26 (.slice jx n33 jy) (Y.ld isAgg26 rfl hl) ?_
 refine Seq.z 34 (.call { callee := .builtin .len, args := #[(.tmp 33)], argTypes := #[26] }) 3 (.int .i64 (n33 : Int)) (Y.AA1 underlying26 rfl rfl) ?_
 obtain ⟨Zt, hl, h⟩ := h
 refine Seq.z 35 (.load 3 (.tmp 5)) 3 (.int .i64 Zt) (Y.ld isAgg3 rfl hl) ?_
 refine Seq.u 36 (.bool (decide (((n33 : Int) : Int) = Zt))) (Seq.done ?_)
 cases hb : (decide (((n33 : Int) : Int) = Zt)) with
 | true =>
  replace h := h.1 (of_decide_eq_true hb)
  refine At.cT 36 K28 K31 ?_
  refine At.s K29 K30 ?_
  refine At.rg 9 [0, 1, 2] ?_
  obtain ⟨R1, n37, c37, hl, h⟩ := h
  refine Seq.z 37 (.load 26 (.tmp 8)) 26 (.slice R1 n37 c37) (Y.ld isAgg26 rfl hl) ?_
  refine Seq.o ?_
  refine AY.store (T := 26) (ty := 0) (x := (.tmp 6)) (y := (.tmp 37)) (p := (.pointer (some ⟨b6, 0, none⟩))) (v := (.slice R1 n37 c37)) (gd := none) (by kernel_rfl) rfl rfl rfl (h.mono (fun _ σ1 h2 => ?_)); replace h := h2; clear h2
  refine Seq.o ?_
  refine AY.store (T := 67) (ty := 0) (x := (.tmp 7)) (y := (.const (.int .i64 0))) (p := (.pointer (some ⟨b7, 0, none⟩))) (v := (.int .i64 0)) (gd := none) (by kernel_rfl) rfl rfl rfl (h.mono (fun _ Bb h2 => ?_)); replace h := h2; clear h2
  refine Seq.done ?_
  exact At.jI (by kernel_rfl) rfl h.1 h.2
 | false =>
  replace h := h.2 (of_decide_eq_false hb)
  refine At.cF 36 K28 K31 ?_
  refine At.skip ?_
  refine At.inBlock ?_
  exact At.jH rfl h.1 h.2
end DU
namespace Md
variable {q0 : Option Addr} {s1 : ByteArray}
def M : Fw := ⟨prog, 39, f39, [91, 94], [7], false, [], [], []⟩
theorem ok : M.Ok := ⟨.cons call91 (.cons call94 (AM.nil)), mixed, func39, by kernel_rfl⟩
theorem start (h : Spec prog 94 #[.string s1] σ (AB R (CB fun t10 y => Bn t10 (R (.returned (.tuple #[.slice none 0 0, .int .u64 0, .int .i64 120])) y) (Pq q0 fun LG Nq => LQ y LG (Nq + 1) fun xF => Spec prog 91 #[.pointer xF] y (AB R (CB fun t17 AI => Bn t17 (R (.returned (.tuple #[.slice none 0 0, .int .u64 0, .int .i64 60])) AI) (LM AI LG (Nq + 2) fun m22 => AJ prog (Instr.lookup 159 (.map m22) (.string s1) false) AI (fun z AV => ∃ ABf ABg ABh ABi, z = (.agg #[.slice ABf ABg ABh, .int .u64 ABi]) ∧ ∀ b7 : Nat, Al AV fun pZ => AJ prog (Builtin.append_ #[84, 84] 84 #[(.slice (aD pZ 0) 0 0), .slice ABf ABg ABh]) (Hp.set AV pZ (.cells #[] 5 (0, 0))) (CS fun xG n28 c28 Ay => R (.returned (.tuple #[.slice xG n28 c28, .int .u64 ABi, .int .i64 0])) Ay))))))))) : Spec prog 39 #[.pointer q0, .string s1] σ R := M.start h ok
end Md
namespace MB
variable {q0 p5 q7 : Option Addr} {n5 c5 : Nat} {x8 : Int}
def M : Fw := ⟨prog, 43, f43, [72, 97, 98], [9], false, [], [], [(2000, [(5, wL), (7, wQ), (8, wI)])]⟩
theorem ok : M.Ok := ⟨.cons call72 (.cons call97 (.cons call98 (AM.nil))), mixed, func43, by kernel_rfl⟩
def Wd := M.pt 0
theorem start (h : Spec prog 97 #[.pointer q0, (.string (ByteArray.mk #[107, 118]))] σ (AB R (fun z y => ∃ ABj pa pc pd LH, z = (.tuple #[.pointer ABj, .slice pa pc pd, .int .i64 LH]) ∧ Br (LH ≠ 0) (R (.returned (.tuple #[.pointer none, .int .i64 LH])) y) (Al y fun Nr => Wd R pa pc pd (aD Nr 0) 0 (Hp.set y Nr (.cells #[.pointer ABj, .slice none 0 0] 150 (0, 0))))))) : Spec prog 43 #[.pointer q0] σ R := M.start h ok
theorem Uo (h : Br (x8 < (n5 : Int)) (Pq p5 fun jz j0 => In x8 (n5 : Int) ∧ LS σ jz (j0 + Int.toNat x8 * 1) fun jx n33 jy => Spec prog 98 #[.slice jx n33 jy] σ (AB R (fun z y => ∃ tQ tS tT tU tV ABk, z = (.tuple #[.agg #[.string tQ, .slice tS tT tU, .int .u64 tV], .bool ABk]) ∧ ∀ b9 : Nat, Bn ABk (R (.returned (.tuple #[.pointer none, .int .i64 71])) y) (Spec prog 72 #[.pointer q7, .agg #[.string tQ, .slice tS tT tU, .int .u64 tV]] y (AB R (fun z AI => z = (.tuple #[]) ∧ AO (x8 + 1) ∧ Wd R (aD jz j0) n5 c5 q7 (x8 + 1) AI)))))) (R (.returned (.tuple #[.pointer q7, .int .i64 0])) σ)) : Wd R p5 n5 c5 q7 x8 σ := M.of h ok rfl
end MB
namespace FE
variable {p0 p3 PF : Option Addr} {n0 c0 n3 c3 n10 H6 : Nat} {Eg Du : Int}
def M : Fw := ⟨prog, 57, f57, [60, 99], [5], false, [], [], [(232, [(3, wL), (10, wL), (11, wI), (12, wI)])]⟩
theorem ok : M.Ok := ⟨.cons call60 (.cons call99 (AM.nil)), mixed, func57, by kernel_rfl⟩
def A1 := M.pt 0
theorem start (h : Df (IntKind.u64.wrap (n0 : Int)) fun x8 => Spec prog 99 #[.slice none 0 0, .int .u64 x8] σ (AB R (CS fun p9 n9 c9 y => A1 R p9 n9 c9 p0 n0 c0 (n0 : Int) 0 y))) : Spec prog 57 #[.slice p0 n0 c0] σ R := M.start h ok
theorem AW (h : Br (Du < Eg) (Pq PF fun LG Nq => In Du (n10 : Int) ∧ ∃ j7 ABl, EF σ LG (Nq + Int.toNat Du * 2) [.string j7, .string ABl] ∧ ∀ b5 : Nat, Spec prog 60 #[.slice p3 n3 c3, .string j7] σ (AB R (CS fun Zu n19 Yr y => Spec prog 60 #[.slice Zu n19 Yr, .string ABl] y (AB R (CS fun p22 n22 c22 AI => AO (Du + 1) ∧ A1 R p22 n22 c22 (aD LG Nq) n10 H6 Eg (Du + 1) AI))))) (R (.returned (.slice p3 n3 c3)) σ)) : A1 R p3 n3 c3 PF n10 H6 Eg Du σ := M.of h ok rfl
end FE
namespace G5
variable {x0 x1 : Int}
def M : Fw := ⟨prog, 58, f58, [126], [], false, [], [], []⟩
theorem ok : M.Ok := ⟨.cons call126 (AM.nil), mixed, func58, by kernel_rfl⟩
theorem start (h : Spec prog 126 #[.int .u64 x0, .int .i64 x1] σ (AB R (CT fun s7 y => R (.returned (.string s7)) y))) : Spec prog 58 #[.int .u64 x0, .int .i64 x1] σ R := M.start h ok
end G5
namespace Fp
variable {q0 : Option Addr} {s1 : ByteArray} {x6 : Int}
def M : Fw := ⟨prog, 62, f62, [], [], false, [(4, 22, true)], [], [(224, [(0, wQ), (1, wT), (6, wI)])]⟩
theorem ok : M.Ok := ⟨AM.nil, mixed, func62, by kernel_rfl⟩
def La := M.pt 0
theorem start (h : La R q0 s1 0 σ) : Spec prog 62 #[.pointer q0, .string s1] σ R := M.start h ok
theorem DF (h : Pq q0 fun b9 o9 => LS σ b9 (o9 + 1) fun cQ n11 iT => Br (x6 < (n11 : Int)) (LS σ b9 (o9 + 1) fun ej n18 oE => Pq ej fun BA cR => In x6 (n18 : Int) ∧ LT σ BA (cR + Int.toNat x6 * 3) fun oF => ∃ t24, YF prog ((do eqGuard .lss 9 (.tmp 22) (.tmp 23) (.string oF) (.string s1); binOp .lss 9 (.string oF) (.string s1))) σ (.bool t24) ∧ Bo t24 (AO (x6 + 1) ∧ La R (aD b9 o9) s1 (x6 + 1) σ) (LS σ b9 (o9 + 1) fun jx n33 jy => Br (x6 < (n33 : Int)) (LS σ b9 (o9 + 1) fun ek n40 c40 => Pq ek fun iU j8 => In x6 (n40 : Int) ∧ LT σ iU (j8 + Int.toNat x6 * 3) fun ep => R (.returned (.tuple #[.int .i64 x6, (.bool (ByteArray.toList ep == ByteArray.toList s1))])) σ) (R (.returned (.tuple #[.int .i64 x6, .bool false])) σ))) (LS σ b9 (o9 + 1) fun jx n33 jy => Br (x6 < (n33 : Int)) (LS σ b9 (o9 + 1) fun ek n40 c40 => Pq ek fun iU j8 => In x6 (n40 : Int) ∧ LT σ iU (j8 + Int.toNat x6 * 3) fun ep => R (.returned (.tuple #[.int .i64 x6, (.bool (ByteArray.toList ep == ByteArray.toList s1))])) σ) (R (.returned (.tuple #[.int .i64 x6, .bool false])) σ))) : La R q0 s1 x6 σ := M.of h ok rfl
end Fp
namespace GB
variable {q0 p1 p7 : Option Addr} {n1 c1 b2 b3 n7 c7 : Nat} {x8 x9 : Int}
def M : Fw := ⟨prog, 67, f67, [129], [], false, [], [], [(104, [(2, wA), (3, wA), (7, wL), (8, wI), (9, wI)])]⟩
theorem ok : M.Ok := ⟨.cons call129 (AM.nil), mixed, func67, by kernel_rfl⟩
def Ns := M.pt 0
theorem start (h : Al σ fun b2 => Al (Hp.set σ b2 (.cells #[.pointer q0] 158 (0, 0))) fun b3 => LS (Hp.set (Hp.set σ b2 (.cells #[.pointer q0] 158 (0, 0))) b3 (.cells #[.slice p1 n1 c1] 165 (0, 0))) b3 0 fun p7 n7 c7 => Ns R b2 b3 p7 n7 c7 (n7 : Int) 0 (Hp.set (Hp.set σ b2 (.cells #[.pointer q0] 158 (0, 0))) b3 (.cells #[.slice p1 n1 c1] 165 (0, 0)))) : Spec prog 67 #[.pointer q0, .slice p1 n1 c1] σ R := M.start h ok
theorem EJ (h : Br (x9 < x8) (Pq p7 fun EH Gk => In x9 (n7 : Int) ∧ LS σ EH (Gk + Int.toNat x9 * 1) fun J6 n12 c12 => Br (65536 < (n12 : Int)) (R (.returned (.int .i64 70)) σ) (AO (x9 + 1) ∧ Ns R b2 b3 (aD EH Gk) n7 c7 x8 (x9 + 1) σ)) (Spec prog 129 #[(.func (.func 136) #[] #[(.pointer (aD b2 0)), (.pointer (aD b3 0))])] σ (AB R (CI .i64 fun FT y => R (.returned (.int .i64 FT)) y)))) : Ns R b2 b3 p7 n7 c7 x8 x9 σ := M.of h ok rfl
end GB
namespace We
variable {q0 : Option Addr} {s1 : ByteArray}
def M : Fw := ⟨prog, 95, f95, [91, 129, 171], [], false, [(10, 5, true)], [], []⟩
theorem ok : M.Ok := ⟨.cons call91 (.cons call129 (.cons call171 (AM.nil))), mixed, func95, by kernel_rfl⟩
theorem start (h : Al σ fun b2 => Al (Hp.set σ b2 (.cells #[.pointer q0] 106 (0, 0))) fun b3 => LT (Hp.set (Hp.set σ b2 (.cells #[.pointer q0] 106 (0, 0))) b3 (.cells #[.string s1] 9 (0, 0))) b3 0 fun Ys => Br ((32 : Int) < ((ByteArray.size Ys : Nat) : Int)) (R (.returned (.tuple #[.pointer none, .slice none 0 0, .int .i64 71])) (Hp.set (Hp.set σ b2 (.cells #[.pointer q0] 106 (0, 0))) b3 (.cells #[.string s1] 9 (0, 0)))) (LT (Hp.set (Hp.set σ b2 (.cells #[.pointer q0] 106 (0, 0))) b3 (.cells #[.string s1] 9 (0, 0))) b3 0 fun cS => Spec prog 171 #[.string cS] (Hp.set (Hp.set σ b2 (.cells #[.pointer q0] 106 (0, 0))) b3 (.cells #[.string s1] 9 (0, 0))) (AB R (CB fun t15 y => Bn t15 (R (.returned (.tuple #[.pointer none, .slice none 0 0, .int .i64 71])) y) (LQ y b2 0 fun q18 => Spec prog 91 #[.pointer q18] y (AB R (CB fun t19 AI => Bn t19 (R (.returned (.tuple #[.pointer none, .slice none 0 0, .int .i64 60])) AI) (LQ AI b2 0 fun er => LT AI b3 0 fun oF => Al AI fun NN => Al (Hp.set AI NN (.cells #[.pointer er, .string oF, .int .i64 0, .slice none 0 0, .int .i64 0, .int .i64 0] 225 (0, 0))) fun b7 => AJ prog (Instr.storeAt 158 (.pointer (aD b7 0)) (.pointer (aD NN 0))) (Hp.set (Hp.set AI NN (.cells #[.pointer er, .string oF, .int .i64 0, .slice none 0 0, .int .i64 0, .int .i64 0] 225 (0, 0))) b7 (.cells #[.pointer none] 158 (0, 0))) (fun _ AV => Al AV fun b8 => Spec prog 129 #[(.func (.func 172) #[] #[(.pointer (aD b7 0)), (.pointer (aD b2 0)), (.pointer (aD b3 0)), (.pointer (aD b8 0))])] (Hp.set AV b8 (.cells #[.slice none 0 0] 165 (0, 0))) (AB R (CI .i64 fun IK Ay => Br (IK ≠ 0) (R (.returned (.tuple #[.pointer none, .slice none 0 0, .int .i64 IK])) Ay) (LQ Ay b7 0 fun q30 => LS Ay b8 0 fun p31 n31 c31 => R (.returned (.tuple #[.pointer q30, .slice p31 n31 c31, .int .i64 0])) Ay)))))))))))) : Spec prog 95 #[.pointer q0, .string s1] σ R := M.start h ok
end We
namespace BB
variable {q0 q1 : Option Addr} {s2 s3 ABn : ByteArray} {x4 EK Eh Ei : Int} {ABo : Bool}
def M : Fw := ⟨prog, 111, f111, [28, 30, 199, 200], [11, 13], false, [(2, 14, true), (6, 16, true), (15, 9, true)], [], [(60, [(0, wQ), (1, wQ), (2, wT), (3, wT), (4, wI), (11, .X 275 [.B, .T, .I .i64, .I .u64, .I .i64])])]⟩
theorem ok : M.Ok := ⟨.cons call28 (.cons call30 (.cons call199 (.cons call200 (AM.nil)))), mixed, func111, by kernel_rfl⟩
def JL := M.pt 0
theorem start (h : Pq q0 fun Nt TP => LM σ Nt (TP + 11) fun m20 => AJ prog (Instr.lookup 101 (.map m20) (.string s2) true) σ (fun z y => ∃ tW tX tY tZ cU ABp, z = (.tuple #[.agg #[.bool tW, .string tX, .int .i64 tY, .int .u64 tZ, .int .i64 cU], .bool ABp]) ∧ ∀ EH : Nat, Bn ABp (Spec prog 199 #[(.pointer (aD Nt TP)), .pointer q1, .string s2, .int .i64 x4] y (AB R (fun z AI => ∃ Wf Wg Wh Wi Wj j9, z = (.tuple #[.agg #[.bool Wf, .string Wg, .int .i64 Wh, .int .u64 Wi, .int .i64 Wj], .bool j9]) ∧ Bn j9 (R (.returned (.int .i64 5)) AI) (JL R (aD Nt TP) q1 s2 s3 x4 Wf Wg Wh Wi Wj AI)))) (AO (x4 - cU) ∧ LI .i64 y Nt (TP + 5) fun x36 => Br (x36 ≤ (x4 - cU)) (Spec prog 199 #[(.pointer (aD Nt TP)), .pointer q1, .string s2, .int .i64 x4] y (AB R (fun z AI => ∃ Wf Wg Wh Wi Wj j9, z = (.tuple #[.agg #[.bool Wf, .string Wg, .int .i64 Wh, .int .u64 Wi, .int .i64 Wj], .bool j9]) ∧ Bn j9 (R (.returned (.int .i64 5)) AI) (JL R (aD Nt TP) q1 s2 s3 x4 Wf Wg Wh Wi Wj AI)))) (JL R (aD Nt TP) q1 s2 s3 x4 tW tX tY tZ cU y)))) : Spec prog 111 #[.pointer q0, .pointer q1, .string s2, .string s3, .int .i64 x4] σ R := M.start h ok
theorem Gm (h : Pq q0 fun b56 o56 => LI .i64 σ b56 (o56 + 5) fun pe => LI .i64 σ b56 (o56 + 4) fun x64 => Spec prog 200 #[.bool ABo, .agg #[.string ABn, .int .i64 EK], .string s3, .int .i64 x4, .int .i64 pe, .int .i64 x64] σ (AB R (CI .i64 fun pg y => Br (pg = 0) (R (.returned (.int .i64 0)) y) (Br (pg = 3) (R (.returned (.int .i64 2)) y) (∀ H7 : Nat, Spec prog 28 #[.agg #[.string s3, .int .i64 x4]] y (AB R (CS fun p77 n77 c77 AI => Spec prog 30 #[.pointer q1, .string s2, .slice p77 n77 c77, .int .u64 Eh] AI (AB R (fun z AV => ∃ ABt xH, z = (.tuple #[.int .u64 ABt, .int .i64 xH]) ∧ Br (xH = 0) (LM AV b56 (o56 + 11) fun m89 => AJ prog (Instr.mapUpdate 101 (.map m89) (.string s2) (.agg #[.bool true, .string s3, .int .i64 x4, .int .u64 ABt, .int .i64 x4])) AV (fun _ Ay => R (.returned (.int .i64 0)) Ay)) (Br (xH = 121) (Spec prog 199 #[(.pointer (aD b56 o56)), .pointer q1, .string s2, .int .i64 x4] AV (AB R (fun z Ay => ∃ kA kB xI xJ xK ta, z = (.tuple #[.agg #[.bool kA, .string kB, .int .i64 xI, .int .u64 xJ, .int .i64 xK], .bool ta]) ∧ Bn ta (R (.returned (.int .i64 5)) Ay) (Bo kA (Bo (ByteArray.toList kB == ByteArray.toList s3) (R (.returned (.int .i64 0)) Ay) (R (.returned (.int .i64 2)) Ay)) (R (.returned (.int .i64 2)) Ay))))) (LM AV b56 (o56 + 11) fun AJf => AJ prog (Builtin.delete_ #[101, 9] 0 #[.map AJf, .string s2]) AV (fun _ Ay => R (.returned (.int .i64 5)) Ay)))))))))))) : JL R q0 q1 s2 s3 x4 ABo ABn EK Eh Ei σ := M.SI h ok rfl fun _ => by kernel_rfl
end BB
namespace Lc
variable {E6 IL x1a R3 : Int}
def M : Fw := ⟨prog, 121, f121, [122, 123, 124], [2, 3], false, [], [], []⟩
theorem ok : M.Ok := ⟨.cons call122 (.cons call123 (.cons call124 (AM.nil))), mixed, func121, by kernel_rfl⟩
theorem start (h : ∀ b2 : Nat, ∀ b3 : Nat, Spec prog 123 #[.int .u32 E6, .int .u32 x1a] σ (AB R (CI .i64 fun x9 y => Spec prog 124 #[.int .i64 IL, .int .i64 R3] y (AB R (CI .i64 fun E7 AI => Al AI fun cV => Spec prog 122 #[(.slice (aD cV 0) 2 2)] (Hp.set AI cV (.cells #[.int .i64 x9, .int .i64 E7] 3 (0, 0))) (AB R (CI .i64 fun FF AV => R (.returned (.int .i64 FF)) AV))))))) : Spec prog 121 #[.agg #[.int .u32 E6, .int .i64 IL], .agg #[.int .u32 x1a, .int .i64 R3]] σ R := M.start h ok
end Lc
namespace G6
variable {p0 p6 : Option Addr} {n0 c0 n6 c6 : Nat} {x3 x7 x8 : Int}
def M : Fw := ⟨prog, 122, f122, [], [], false, [], [], [(232, [(3, wI), (6, wL), (7, wI), (8, wI)])]⟩
theorem ok : M.Ok := ⟨AM.nil, mixed, func122, by kernel_rfl⟩
def A1 := M.pt 0
theorem start (h : A1 R 0 p0 n0 c0 (n0 : Int) 0 σ) : Spec prog 122 #[.slice p0 n0 c0] σ R := M.start h ok
theorem AW (h : Br (x8 < x7) (Pq p6 fun EL Ld => In x8 (n6 : Int) ∧ LI .i64 σ EL (Ld + Int.toNat x8 * 1) fun Eg => Br (Eg ≠ x3) (R (.returned (.int .i64 Eg)) σ) (AO (x8 + 1) ∧ A1 R x3 (aD EL Ld) n6 c6 x7 (x8 + 1) σ)) (R (.returned (.int .i64 x3)) σ)) : A1 R x3 p6 n6 c6 x7 x8 σ := M.of h ok rfl
end G6
namespace cmp_Compare_int
variable {x0 x1 : Int}
def M : Fw := ⟨prog, 124, f124, [214], [], false, [], [], []⟩
theorem ok : M.Ok := ⟨.cons call214 (AM.nil), mixed, func124, by kernel_rfl⟩
theorem start (h : Spec prog 214 #[.int .i64 x0] σ (AB R (CB fun t8 y => Spec prog 214 #[.int .i64 x1] y (AB R (CB fun t10 AI => Bo t8 (Bo t10 (R (.returned (.int .i64 0)) AI) (R (.returned (.int .i64 (-1))) AI)) (Bo t10 (R (.returned (.int .i64 1)) AI) (Br (x0 < x1) (R (.returned (.int .i64 (-1))) AI) (Br (x1 < x0) (R (.returned (.int .i64 1)) AI) (R (.returned (.int .i64 0)) AI))))))))) : Spec prog 124 #[.int .i64 x0, .int .i64 x1] σ R := M.start h ok
end cmp_Compare_int
namespace De
variable {x0 x1 : Int}
def M : Fw := ⟨prog, 126, f126, [215, 216, 217, 218], [], false, [], [], []⟩
theorem ok : M.Ok := ⟨.cons call215 (.cons call216 (.cons call217 (.cons call218 (AM.nil)))), mixed, func126, by kernel_rfl⟩
theorem start (h : Br (x1 = 10) (Br (x0 < 100) (Df (IntKind.i64.wrap x0) fun E7 => Spec prog 215 #[.int .i64 E7] σ (AB R (CT fun et y => R (.returned (.string et)) y))) (Al σ fun b5 => Spec prog 216 #[.int .u64 x0] (Hp.set σ b5 (.cells #[.int .u8 0, .int .u8 0, .int .u8 0, .int .u8 0, .int .u8 0, .int .u8 0, .int .u8 0, .int .u8 0, .int .u8 0, .int .u8 0, .int .u8 0, .int .u8 0, .int .u8 0, .int .u8 0, .int .u8 0, .int .u8 0, .int .u8 0, .int .u8 0, .int .u8 0, .int .u8 0, .int .u8 0, .int .u8 0, .int .u8 0, .int .u8 0] 290 (0, 0))) (AB R (CI .i64 fun D8 y => ∃ Zu n19 Yr, YF prog (Instr.sliceAt 290 (.pointer (aD b5 0)) none (some (.int .i64 D8)) none) y (.slice Zu n19 Yr) ∧ Spec prog 217 #[.slice Zu n19 Yr, .int .u64 x0] y (AB R (fun z AI => z = (.tuple #[]) ∧ ∃ ph n23 pj, YF prog (Instr.sliceAt 290 (.pointer (aD b5 0)) none (some (.int .i64 D8)) none) AI (.slice ph n23 pj) ∧ AJ prog (convert 84 9 (.slice ph n23 pj)) AI (CT fun s24 AV => R (.returned (.string s24)) AV))))))) (Spec prog 218 #[.slice none 0 0, .int .u64 x0, .int .i64 x1, .bool false, .bool false] σ (AB R (fun z y => ∃ AJg AJh AJi ABw, z = (.tuple #[.slice AJg AJh AJi, .string ABw]) ∧ R (.returned (.string ABw)) y)))) : Spec prog 126 #[.int .u64 x0, .int .i64 x1] σ R := M.start h ok
end De
namespace GC
variable {x0 x4 : Int} {s3 : ByteArray}
def M : Fw := ⟨prog, 147, f147, [], [], false, [], [], [(464, [(0, wI), (3, wT), (4, wI)])]⟩
theorem ok : M.Ok := ⟨AM.nil, mixed, func147, by kernel_rfl⟩
def CF := M.pt 0
theorem start (h : CF R x0 (ByteArray.mk #[]) 0 σ) : Spec prog 147 #[.int .i64 x0] σ R := M.start h ok
theorem BX (h : Br (x4 < 8) (10 ≠ (0 : Int) ∧ Df (Int.tmod x0 10) fun Di => AO (48 + Di) ∧ Df (IntKind.u8.wrap (48 + Di)) fun Du => Al σ fun H7 => AJ prog (convert 84 9 (.slice (aD H7 0) 1 1)) (Hp.set σ H7 (.cells #[.int .u8 Du] 5 (0, 0))) (CT fun cS y => (ByteArray.size cS + ByteArray.size s3 ≤ 9223372036854775807) ∧ 10 ≠ (0 : Int) ∧ Df (IntKind.i64.wrap (Int.tdiv x0 10)) fun FT => AO (x4 + 1) ∧ CF R FT (cS ++ s3) (x4 + 1) y)) (R (.returned (.string s3)) σ)) : CF R x0 s3 x4 σ := M.of h ok rfl
end GC
namespace Cy
variable {s0 s1 : ByteArray}
def M : Fw := ⟨prog, 169, f169, [], [], false, [], [], []⟩
theorem ok : M.Ok := ⟨AM.nil, mixed, func169, by kernel_rfl⟩
theorem start (h : Br ((((ByteArray.size s1 : Nat) : Int) : Int) ≤ ((ByteArray.size s0 : Nat) : Int)) (∃ cS, YF prog (Instr.sliceAt 9 (.string s0) none (some (.int .i64 ((ByteArray.size s1 : Nat) : Int))) none) σ (.string cS) ∧ R (.returned (.bool (ByteArray.toList cS == ByteArray.toList s1))) σ) (R (.returned (.bool false)) σ)) : Spec prog 169 #[.string s0, .string s1] σ R := M.start h ok
end Cy
namespace BM
variable {q0 p3 cW : Option Addr} {n3 c3 n46 c46 : Nat} {SJ JZ : Int}
def M : Fw := ⟨prog, 175, f175, [134, 258], [], false, [], [], [(60, [(0, wQ), (3, wL)]), (488, [(0, wQ), (3, wL), (46, wL), (47, wI), (48, wI)]), (62, [(3, wL)]), (7542, [(3, wL)])]⟩
theorem ok : M.Ok := ⟨.cons call134 (.cons call258 (AM.nil)), mixed, func175, by kernel_rfl⟩
def Me := M.pt 0
def QT := M.pt 1
def pk := M.pt 2
def Gn := M.pt 3
theorem start (h : Pq q0 fun EH Gk => LI .i64 σ EH (Gk + 2) fun FU => Br (0 < FU) (LI .i64 σ EH (Gk + 2) fun Hj => LS σ EH (Gk + 3) fun Wk n26 TQ => Spec prog 134 #[(.pointer (aD EH Gk)), (.string (ByteArray.mk #[99])), .int .i64 Hj] σ (AB R (CT fun oF y => Kp [EH] σ y ∧ Spec prog 258 #[(.pointer (aD EH Gk)), .string oF, .slice Wk n26 TQ] y (AB R (fun z AI => ∃ pn kD po ABx, z = (.tuple #[.slice pn kD po, .bool ABx]) ∧ Bn ABx (AJ prog (Instr.storeAt 26 (.pointer (aD EH (Gk + 3))) (.slice none 0 0)) AI (fun _ AV => Br ((kD : Int) = 0) (AJ prog (Instr.storeAt 3 (.pointer (aD EH (Gk + 2))) (.int .i64 0)) AV (fun _ Ay => Gn R pn kD po Ay)) (Gn R pn kD po AV))) (Me R (aD EH Gk) pn kD po AI)))))) (Me R (aD EH Gk) none 0 0 σ)) : Spec prog 175 #[.pointer q0] σ R := M.start h ok
theorem JM (h : Pq q0 fun Wm Yt => LS σ Wm (Yt + 3) fun cW n46 c46 => QT R (aD Wm Yt) p3 n3 c3 cW n46 c46 (n46 : Int) 0 σ) : Me R q0 p3 n3 c3 σ := M.of h ok rfl
theorem Pm (h : Br (JZ < SJ) (Pq cW fun Zv Zw => In JZ (n46 : Int) ∧ LI .i64 σ Zv (Zw + Int.toNat JZ * 1) fun TR => Pq q0 fun kE oG => LS σ kE (oG + 3) fun xL n61 tc => AO (JZ + 1) ∧ ((0 : Int) ≤ (JZ + 1) ∧ (JZ + 1) ≤ (n61 : Int)) ∧ Spec prog 134 #[(.pointer (aD kE oG)), (.string (ByteArray.mk #[115])), .int .i64 TR] σ (AB R (CT fun s57 y => Kp [kE] σ y ∧ Spec prog 258 #[(.pointer (aD kE oG)), .string s57, (.slice (GP xL (Int.toNat (JZ + 1)) tc 1) (n61 - Int.toNat (JZ + 1)) (tc - Int.toNat (JZ + 1)))] y (AB R (fun z AI => ∃ ABy xM ABz AB0, z = (.tuple #[.slice ABy xM ABz, .bool AB0]) ∧ AJ prog (Builtin.append_ #[165, 165] 165 #[.slice p3 n3 c3, .slice ABy xM ABz]) AI (CS fun oH oI c70 AV => Bo AB0 (AO (JZ + 1) ∧ QT R (aD kE oG) oH oI c70 (aD Zv Zw) n46 c46 SJ (JZ + 1) AV) (LS AV kE (oG + 3) fun p76 n76 c76 => AO (JZ + 1) ∧ ((0 : Int) ≤ (JZ + 1) ∧ (JZ + 1) ≤ (c76 : Int)) ∧ AJ prog (Instr.storeAt 26 (.pointer (aD kE (oG + 3))) (.slice p76 (Int.toNat (JZ + 1)) c76)) AV (fun _ Ay => Br ((xM : Int) = 0) (LS Ay kE (oG + 3) fun p89 n89 c89 => (0 ≤ JZ ∧ JZ ≤ (c89 : Int)) ∧ AJ prog (Instr.storeAt 26 (.pointer (aD kE (oG + 3))) (.slice p89 (Int.toNat JZ) c89)) Ay (fun _ Dj => pk R oH oI c70 Dj)) (pk R oH oI c70 Ay))))))))) (pk R p3 n3 c3 σ)) : QT R q0 p3 n3 c3 cW n46 c46 SJ JZ σ := M.of h ok rfl
theorem Up (h : R (.returned (.slice p3 n3 c3)) σ) : pk R p3 n3 c3 σ := M.of h ok rfl
end BM
namespace cmp_isNaN_int
variable {x0 : Int}
def M : Fw := ⟨prog, 214, f214, [], [], false, [], [], []⟩
theorem ok : M.Ok := ⟨AM.nil, mixed, func214, by kernel_rfl⟩
theorem start (h : R (.returned (.bool (decide (x0 ≠ x0)))) σ) : Spec prog 214 #[.int .i64 x0] σ R := M.start h ok
end cmp_isNaN_int
namespace Ib
variable {b0 b1 : Nat}
def M : Fw := ⟨prog, 222, f222, [223], [], false, [], [], []⟩
theorem ok : M.Ok := ⟨.cons call223 (AM.nil), mixed, func222, by kernel_rfl⟩
theorem start (h : LQ σ b0 0 fun q3 => LT σ b1 0 fun s4 => Spec prog 223 #[.pointer q3, .string s4] σ (AB R (CI .i64 fun x5 y => R (.returned (.int .i64 x5)) y))) : Spec prog 222 #[(.pointer (aD b0 0)), (.pointer (aD b1 0))] σ R := M.start h ok
end Ib
namespace Ja
variable {q0 : Option Addr} {s1 : ByteArray}
def M : Fw := ⟨prog, 223, f223, [171], [], false, [], [], []⟩
theorem ok : M.Ok := ⟨.cons call171 (AM.nil), mixed, func223, by kernel_rfl⟩
theorem start (h : Spec prog 171 #[.string s1] σ (AB R (CB fun t6 y => Bn t6 (R (.returned (.int .i64 61)) y) (Pq q0 fun b9 o9 => LM y b9 o9 fun m11 => AJ prog (Instr.lookup 186 (.map m11) (.string s1) false) y (CQ fun H8 AI => Bo (Option.isNone H8) (R (.returned (.int .i64 62)) AI) (R (.returned (.int .i64 0)) AI)))))) : Spec prog 223 #[.pointer q0, .string s1] σ R := M.start h ok
end Ja
namespace TS
variable {x0 : Int}
def M : Fw := ⟨prog, 234, f234, [], [], false, [], [], []⟩
theorem ok : M.Ok := ⟨AM.nil, mixed, func234, by kernel_rfl⟩
theorem start (h : ((0 : Int) ≤ 24 ∧ 24 ≤ ((IntKind.bits .u32 : Nat) : Int)) ∧ Df (x0 / 2 ^ Int.toNat 24) fun x4 => Df (IntKind.u8.wrap x4) fun x5 => ((0 : Int) ≤ 16 ∧ 16 ≤ ((IntKind.bits .u32 : Nat) : Int)) ∧ Df (x0 / 2 ^ Int.toNat 16) fun x7 => Df (IntKind.u8.wrap x7) fun x8 => ((0 : Int) ≤ 8 ∧ 8 ≤ ((IntKind.bits .u32 : Nat) : Int)) ∧ Df (x0 / 2 ^ Int.toNat 8) fun Di => Df (IntKind.u8.wrap Di) fun Eg => Df (IntKind.u8.wrap x0) fun FU => Al σ fun LG => R (.returned (.slice (aD LG 0) 4 4)) (Hp.set σ LG (.cells #[.int .u8 x5, .int .u8 x8, .int .u8 Eg, .int .u8 FU] 5 (0, 0)))) : Spec prog 234 #[.int .u32 x0] σ R := M.start h ok
end TS
namespace EA
variable {q0 p2 PF : Option Addr} {s1 : ByteArray} {n2 c2 n10 H6 : Nat} {Du : Int}
def M : Fw := ⟨prog, 258, f258, [132, 134, 137, 138, 176, 302], [], false, [(9, 10, false)], [], [(4048, [(0, wQ), (1, wT), (2, wL), (10, wL), (12, wI)]), (510, [(10, wL)])]⟩
theorem ok : M.Ok := ⟨.cons call132 (.cons call134 (.cons call137 (.cons call138 (.cons call176 (.cons call302 (AM.nil)))))), mixed, func258, by kernel_rfl⟩
def Wn := M.pt 0
def Zx := M.pt 1
theorem start (h : Pq q0 fun cV oJ => LQ σ cV oJ fun q17 => Spec prog 176 #[.pointer q17, .string s1] σ (AB R (fun z y => ∃ kF kG kI PG, z = (.tuple #[.slice kF kG kI, .int .i64 PG]) ∧ Spec prog 132 #[.int .i64 PG] y (AB R (fun z AI => z = (.tuple #[]) ∧ Spec prog 302 #[.slice kF kG kI] AI (AB R (fun z AV => ∃ xN xO xP AB2, z = (.tuple #[.slice xN xO xP, .bool AB2]) ∧ Bn AB2 (R (.returned (.tuple #[.slice xN xO xP, .bool true])) AV) (AO ((n2 : Int) - 1) ∧ Wn R (aD cV oJ) s1 p2 n2 c2 xN xO xP (((n2 : Int) - 1)) AV)))))))) : Spec prog 258 #[.pointer q0, .string s1, .slice p2 n2 c2] σ R := M.start h ok
theorem Uq (h : Br (0 ≤ Du) (Pq q0 fun OQ eu => LQ σ OQ eu fun q42 => Pq p2 fun JA o46 => In Du (n2 : Int) ∧ LI .i64 σ JA (o46 + Int.toNat Du * 1) fun SJ => Spec prog 134 #[(.pointer (aD OQ eu)), (.string (ByteArray.mk #[115])), .int .i64 SJ] σ (AB R (CT fun s48 y => Kp [OQ] σ y ∧ Spec prog 138 #[.pointer q42, .string s48] y (AB R (CI .i64 fun Wo AI => Spec prog 132 #[.int .i64 Wo] AI (AB R (fun z AV => z = (.tuple #[]) ∧ AO (Du - 1) ∧ Wn R (aD OQ eu) s1 (aD JA o46) n2 c2 PF n10 H6 (Du - 1) AV))))))) (Br (0 < (n10 : Int)) (Spec prog 137 #[.pointer q0, .string s1, .slice PF n10 H6] σ (AB R (fun z y => z = (.tuple #[]) ∧ Zx R PF n10 H6 y))) (Pq q0 fun kE oG => LQ σ kE oG fun q61 => Spec prog 138 #[.pointer q61, .string s1] σ (AB R (CI .i64 fun x63 y => Spec prog 132 #[.int .i64 x63] y (AB R (fun z AI => z = (.tuple #[]) ∧ Zx R PF n10 H6 AI))))))) : Wn R q0 s1 p2 n2 c2 PF n10 H6 Du σ := M.of h ok rfl
theorem Mf (h : R (.returned (.tuple #[.slice PF n10 H6, .bool false])) σ) : Zx R PF n10 H6 σ := M.of h ok rfl
end EA
namespace Lf
variable {kJ : Option Addr} {ew kK : Nat} {IL H9 : Int}
def M : Fw := ⟨prog, 268, f268, [], [1], false, [], [], []⟩
theorem ok : M.Ok := ⟨AM.nil, mixed, func268, by kernel_rfl⟩
theorem start (h : ∀ b1 : Nat, Br (IL < (-1099511627776)) (R (.returned (.int .i64 153)) σ) (Br (1099511627776 < IL) (R (.returned (.int .i64 153)) σ) (R (.returned (.int .i64 0)) σ))) : Spec prog 268 #[.agg #[.slice kJ ew kK, .int .i64 IL, .int .u64 H9]] σ R := M.start h ok
end Lf
namespace DV
variable {q0 q5 : Option Addr} {x1 x6 : Int} {v11 : Value}
def M : Fw := ⟨prog, 290, f290, [], [], false, [(5, 14, true), (6, 14, true)], [(11, 186)], [(40, [(0, wQ), (1, wI), (11, wV)]), (2670, [(0, wQ), (1, wI), (5, wQ), (6, wI), (11, wV)])]⟩
theorem ok : M.Ok := ⟨AM.nil, mixed, func290, by kernel_rfl⟩
def Zy := M.pt 0
def Wn := M.pt 1
theorem start (h : Pq q0 fun b8 o8 => LM σ b8 o8 fun m10 => AJ prog (Instr.range 186 (.map m10)) σ (fun z y => ∃ v11, v11 = z ∧ Zy R (aD b8 o8) x1 v11 y)) : Spec prog 290 #[.pointer q0, .int .i64 x1] σ R := M.start h ok
theorem MC (h : AJ prog (Instr.next v11 false 0) σ (fun v y => (v = (.tuple #[.bool false]) ∧ Pq q0 fun Vi xQ => AJ prog (Instr.storeAt 4 (.pointer (aD Vi (xQ + 1))) (.bool false)) y (fun _ AI => AJ prog (Instr.storeAt 4 (.pointer (aD Vi (xQ + 2))) (.bool false)) AI (fun _ AV => R (.returned (.tuple #[])) AV))) ∨ (∃ Wp AJl, v = (.tuple #[.bool true, .string Wp, .pointer AJl]) ∧ AJ prog (Instr.entry v11) y (fun z AI => ∃ ey xR, z = (.tuple #[.string ey, .pointer xR]) ∧ Br (0 ≤ x1) (Pq xR fun BA cR => LS AI BA cR fun p22 n22 c22 => LI .i64 AI BA (cR + 1) fun JB => AO ((n22 : Int) - JB) ∧ AO (((n22 : Int) - JB) + 1) ∧ (((n22 : Int) - JB) + 1) ≠ (0 : Int) ∧ Df (Int.tmod x1 (((n22 : Int) - JB) + 1)) fun oK => Wn R q0 x1 (aD BA cR) oK v11 AI) (Wn R q0 x1 xR 0 v11 AI))))) : Zy R q0 x1 v11 σ := M.of h ok rfl
theorem Uq (h : Pq q5 fun Yu xS => LS σ Yu xS fun p35 n35 c35 => LI .i64 σ Yu (xS + 1) fun ez => AO (ez + x6) ∧ ((0 : Int) ≤ (ez + x6) ∧ (ez + x6) ≤ (c35 : Int)) ∧ AJ prog (Instr.storeAt 84 (.pointer (aD Yu xS)) (.slice p35 (Int.toNat (ez + x6)) c35)) σ (fun _ y => LS y Yu xS fun Wq n49 c49 => AJ prog (Instr.storeAt 3 (.pointer (aD Yu (xS + 1))) (.int .i64 (n49 : Int))) y (fun _ AI => Zy R q0 x1 v11 AI))) : Wn R q0 x1 q5 x6 v11 σ := M.of h ok rfl
end DV
namespace Jb
variable {x0 x1 : Int}
def M : Fw := ⟨prog, 328, f328, [213], [], false, [], [], []⟩
theorem ok : M.Ok := ⟨.cons call213 (AM.nil), mixed, func328, by kernel_rfl⟩
theorem start (h : Spec prog 213 #[.int .u32 x0] σ (AB R (CB fun t6 y => Bo t6 (Spec prog 213 #[.int .u32 x1] y (AB R (CB fun t9 AI => Bn t9 (R (.returned (.bool true)) AI) (R (.returned (.bool (decide (x0 < x1)))) AI)))) (R (.returned (.bool (decide (x0 < x1)))) y)))) : Spec prog 328 #[.int .u32 x0, .int .u32 x1] σ R := M.start h ok
end Jb
namespace QU
variable {v0 v1 : Value}
def M : Fw := ⟨prog, 342, f342, [], [], false, [], [], []⟩
theorem ok : M.Ok := ⟨AM.nil, mixed, func342, by kernel_rfl⟩
theorem start (h : ∃ (f10 : Nat) (te tf : Array Value), v0 = .func (.func f10) te tf ∧ Enters prog f10 ∧ Spec prog f10 (te ++ #[] ++ tf) σ (AB R (fun z y => ∃ AB5 SK, z = (.tuple #[.int .i64 AB5, .int .i64 SK]) ∧ Br (SK ≠ 0) (R (.returned (.tuple #[.slice none 0 0, .int .i64 SK])) y) (∃ (f18 : Nat) (tg th : Array Value), v1 = .func (.func f18) tg th ∧ Enters prog f18 ∧ Spec prog f18 (tg ++ #[.int .i64 AB5] ++ th) y (AB R (fun z AI => ∃ AB6 AB7 AB8 Zz, z = (.tuple #[.slice AB6 AB7 AB8, .int .i64 Zz]) ∧ R (.returned (.tuple #[.slice AB6 AB7 AB8, .int .i64 Zz])) AI)))))) : Spec prog 342 #[v0, v1] σ R := M.KH h ok [(0, .o (.V v0)), (1, .o (.V v1))] rfl rfl (by kernel_rfl)
end QU
end TwW
end
end
section
set_option maxRecDepth 100000
noncomputable section
namespace TwW
open Go Tw Go.Proofs.Tryz
variable [I7] {R : Rr} {σ : Hp}

namespace BY
variable {q0 p3 p9 : Option Addr} {n3 c3 n9 c9 : Nat} {Di Eg : Int}
def M : Fw := ⟨prog, 14, f14, [48, 49], [5], false, [], [], [(232, [(3, wL), (9, wL), (10, wI), (11, wI)])]⟩
theorem ok : M.Ok := ⟨.cons call48 (.cons call49 (AM.nil)), mixed, func14, by kernel_rfl⟩
def A1 := M.pt 0
theorem start (h : Pq q0 fun b7 o7 => LS σ b7 (o7 + 2) fun p9 n9 c9 => A1 R none 0 0 p9 n9 c9 (n9 : Int) 0 σ) : Spec prog 14 #[.pointer q0] σ R := M.start h ok
theorem AW (h : Br (Eg < Di) (Pq p9 fun H7 kL => In Eg (n9 : Int) ∧ ∃ xT pw xU xV AJm AB9 ACA ACB AJn, EF σ H7 (kL + Int.toNat Eg * 5) [.slice xT pw xU, .int .i64 xV, .int .u64 AJm, .slice AB9 ACA ACB, .map AJn] ∧ ∀ b5 : Nat, AJ prog (Builtin.append_ #[26, 26] 26 #[.slice p3 n3 c3, .slice AB9 ACA ACB]) σ (CS fun ej n18 oE y => AO (Eg + 1) ∧ A1 R ej n18 oE (aD H7 kL) n9 c9 Di (Eg + 1) y)) (Spec prog 48 #[.slice p3 n3 c3] σ (AB R (fun z y => z = (.tuple #[]) ∧ Spec prog 49 #[.slice p3 n3 c3] y (AB R (CS fun ph n23 pj AI => R (.returned (.slice ph n23 pj)) AI)))))) : A1 R p3 n3 c3 p9 n9 c9 Di Eg σ := M.of h ok rfl
end BY
namespace Ak
variable {q0 p2 R0 : Option Addr} {x1 x8 IK JB : Int} {n2 c2 n25 Pk : Nat}
def M : Fw := ⟨prog, 15, f15, [20, 50, 51], [10], false, [(8, 7, true)], [], [(120, [(1, wI), (2, wL), (8, wI), (25, wL), (26, wI), (27, wI)]), (487, [(1, wI), (2, wL), (8, wI), (25, wL), (26, wI), (27, wI)]), (7783, [(1, wI), (2, wL), (8, wI), (25, wL), (26, wI), (27, wI)])]⟩
theorem ok : M.Ok := ⟨.cons call20 (.cons call50 (.cons call51 (AM.nil))), mixed, func15, by kernel_rfl⟩
def LJ := M.pt 0
def QV := M.pt 1
def xW := M.pt 2
theorem start (h : Spec prog 20 #[.pointer q0, .int .i64 x1] σ (AB R (fun z y => ∃ xT pw xU xV, z = (.tuple #[.slice xT pw xU, .int .u64 xV]) ∧ Br ((pw : Int) ≠ (n2 : Int)) (R (.returned (.tuple #[])) y) (Pq q0 fun Yv px => LS y Yv (px + 2) fun R0 n25 Pk => LJ R x1 p2 n2 c2 0 R0 n25 Pk (n25 : Int) 0 y)))) : Spec prog 15 #[.pointer q0, .int .i64 x1, .slice p2 n2 c2] σ R := M.start h ok
theorem Hk (h : Br (JB < IK) (Pq R0 fun Kn TT => In JB (n25 : Int) ∧ ∃ AJo AJp AJq py pz ACC ACD ACE xX, EF σ Kn (TT + Int.toNat JB * 5) [.slice AJo AJp AJq, .int .i64 py, .int .u64 pz, .slice ACC ACD ACE, .map xX] ∧ ∀ EL : Nat, Spec prog 50 #[.slice ACC ACD ACE, .int .i64 x1] σ (AB R (CB fun t34 y => Bn t34 (QV R x1 p2 n2 c2 x8 (aD Kn TT) n25 Pk IK JB y) (AJ prog (Instr.lookup 127 (.map xX) (.int .i64 x1) false) y (CI .i64 fun ez AI => Spec prog 51 #[.int .i64 ez] AI (AB R (CB fun t40 AV => Bn t40 (Pq p2 fun cX kM => In x8 (n2 : Int) ∧ LI .i64 AV cX (kM + Int.toNat x8 * 1) fun JZ => AJ prog (Instr.mapUpdate 127 (.map xX) (.int .i64 x1) (.int .i64 JZ)) AV (fun _ Ay => xW R x1 (aD cX kM) n2 c2 x8 (aD Kn TT) n25 Pk IK JB Ay)) (xW R x1 p2 n2 c2 x8 (aD Kn TT) n25 Pk IK JB AV)))))))) (R (.returned (.tuple #[])) σ)) : LJ R x1 p2 n2 c2 x8 R0 n25 Pk IK JB σ := M.of h ok rfl
theorem Ur (h : AO (JB + 1) ∧ LJ R x1 p2 n2 c2 x8 R0 n25 Pk IK (JB + 1) σ) : QV R x1 p2 n2 c2 x8 R0 n25 Pk IK JB σ := M.of h ok rfl
theorem cY (h : AO (x8 + 1) ∧ QV R x1 p2 n2 c2 (x8 + 1) R0 n25 Pk IK JB σ) : xW R x1 p2 n2 c2 x8 R0 n25 Pk IK JB σ := M.of h ok rfl
end Ak
namespace Ic
variable {p0 p7 : Option Addr} {n0 c0 n7 c7 : Nat} {s1 : ByteArray} {x8 x9 : Int}
def M : Fw := ⟨prog, 21, f21, [], [6], false, [], [], [(104, [(1, wT), (7, wL), (8, wI), (9, wI)])]⟩
theorem ok : M.Ok := ⟨AM.nil, mixed, func21, by kernel_rfl⟩
def Ns := M.pt 0
theorem start (h : Ns R s1 p0 n0 c0 (n0 : Int) 0 σ) : Spec prog 21 #[.slice p0 n0 c0, .string s1] σ R := M.start h ok
theorem EJ (h : Br (x9 < x8) (Pq p7 fun EH Gk => In x9 (n7 : Int) ∧ ∃ Wp ACF, EF σ EH (Gk + Int.toNat x9 * 2) [.string Wp, .string ACF] ∧ ∀ b6 : Nat, Bo (ByteArray.toList Wp == ByteArray.toList s1) (R (.returned (.string ACF)) σ) (AO (x9 + 1) ∧ Ns R s1 (aD EH Gk) n7 c7 x8 (x9 + 1) σ)) (R (.returned (.string (ByteArray.mk #[]))) σ)) : Ns R s1 p7 n7 c7 x8 x9 σ := M.of h ok rfl
end Ic
namespace slices_Contains_int
variable {p0 : Option Addr} {n0 c0 : Nat} {x1 : Int}
def M : Fw := ⟨prog, 50, f50, [114], [], false, [], [], []⟩
theorem ok : M.Ok := ⟨.cons call114 (AM.nil), mixed, func50, by kernel_rfl⟩
theorem start (h : Spec prog 114 #[.slice p0 n0 c0, .int .i64 x1] σ (AB R (CI .i64 fun x7 y => R (.returned (.bool (decide (0 ≤ x7)))) y))) : Spec prog 50 #[.slice p0 n0 c0, .int .i64 x1] σ R := M.start h ok
end slices_Contains_int
namespace BJ
variable {E6 x1 FU E7 Nu iV Ws Hj : Int} {HX J6 qA Zu : Option Addr} {Gd HY b5 n12 c12 EL oL qB n19 Yr : Nat}
def M : Fw := ⟨prog, 55, f55, [120], [2, 7], false, [], [], [(232, [(1, cJ), (5, wA), (12, wL), (13, wI), (14, wI)]), (2016, [(1, cJ), (5, wA), (10, wA)]), (59800, [(1, cJ), (5, wA), (7, .X 196 [.I .i64, .I .i64, .L]), (12, wL), (13, wI), (14, wI), (19, wL), (20, wI), (21, wI)]), (239207, [(1, cJ), (5, wA), (7, .X 196 [.I .i64, .I .i64, .L]), (12, wL), (13, wI), (14, wI), (19, wL), (20, wI), (21, wI)])]⟩
theorem ok : M.Ok := ⟨.cons call120 (AM.nil), mixed, func55, by kernel_rfl⟩
def A1 := M.pt 0
def G7 := M.pt 1
def Gn := M.pt 2
def Zx := M.pt 3
theorem start (h : ∀ b2 : Nat, Al σ fun b5 => A1 R x1 b5 HX Gd HY (Gd : Int) 0 (Hp.set σ b5 (.cells #[.slice none 0 0] 213 (0, 0)))) : Spec prog 55 #[.agg #[.int .u64 E6, .slice HX Gd HY], .int .u32 x1] σ R := M.start h ok
theorem AW (h : Br (E7 < FU) (Pq J6 fun Ko Us => In E7 (n12 : Int) ∧ ∃ ACG LK xY qC xZ, EF σ Ko (Us + Int.toNat E7 * 3) [.int .i64 ACG, .int .i64 LK, .slice xY qC xZ] ∧ ∀ b7 : Nat, Gn R x1 b5 ACG LK xY qC xZ (aD Ko Us) n12 c12 FU E7 xY qC xZ (qC : Int) 0 σ) (LS σ b5 0 fun R1 n37 c37 => Spec prog 120 #[.slice R1 n37 c37, (.func (.func 121) #[] #[])] σ (AB R (fun z y => z = (.tuple #[]) ∧ Al y fun EL => AJ prog (Instr.storeAt 3 (.pointer (aD EL 0)) (.int .i64 0)) (Hp.set y EL (.cells #[.int .i64 0] 3 (0, 0))) (fun _ AI => G7 R x1 b5 EL AI))))) : A1 R x1 b5 J6 n12 c12 FU E7 σ := M.of h ok rfl
theorem Pn (h : LI .i64 σ EL 0 fun ez => LS σ b5 0 fun ek n40 c40 => Br (ez < (n40 : Int)) (LS σ b5 0 fun Vj n44 Wt => LI .i64 σ EL 0 fun fA => Pq Vj fun JA o46 => In fA (n44 : Int) ∧ LI .u32 σ JA (o46 + Int.toNat fA * 2) fun JZ => Br (JZ < x1) (LI .i64 σ EL 0 fun TR => AO (TR + 1) ∧ AJ prog (Instr.storeAt 3 (.pointer (aD EL 0)) (.int .i64 (TR + 1))) σ (fun _ y => G7 R x1 b5 EL y)) (R (.returned (.func (.func 125) #[] #[(.pointer (aD b5 0)), (.pointer (aD EL 0))])) σ)) (R (.returned (.func (.func 125) #[] #[(.pointer (aD b5 0)), (.pointer (aD EL 0))])) σ)) : G7 R x1 b5 EL σ := M.of h ok rfl
theorem F4 (h : Br (Hj < Ws) (Pq Zu fun Yv px => In Hj (n19 : Int) ∧ LI .u32 σ Yv (px + Int.toNat Hj * 1) fun J4 => Br (iV = 2) (LS σ b5 0 fun xG n28 c28 => Al σ fun Yu => AJ prog (Builtin.append_ #[213, 213] 213 #[.slice xG n28 c28, (.slice (aD Yu 0) 1 1)]) (Hp.set σ Yu (.cells #[.int .u32 J4, .int .i64 Nu] 215 (0, 0))) (CS fun p34 n34 c34 y => AJ prog (Instr.storeAt 213 (.pointer (aD b5 0)) (.slice p34 n34 c34)) y (fun _ AI => Zx R x1 b5 Nu iV qA oL qB J6 n12 c12 FU E7 (aD Yv px) n19 Yr Ws Hj AI))) (Zx R x1 b5 Nu iV qA oL qB J6 n12 c12 FU E7 (aD Yv px) n19 Yr Ws Hj σ)) (AO (E7 + 1) ∧ A1 R x1 b5 J6 n12 c12 FU (E7 + 1) σ)) : Gn R x1 b5 Nu iV qA oL qB J6 n12 c12 FU E7 Zu n19 Yr Ws Hj σ := M.SI h ok rfl fun _ => by kernel_rfl
theorem Mf (h : AO (Hj + 1) ∧ Gn R x1 b5 Nu iV qA oL qB J6 n12 c12 FU E7 Zu n19 Yr Ws (Hj + 1) σ) : Zx R x1 b5 Nu iV qA oL qB J6 n12 c12 FU E7 Zu n19 Yr Ws Hj σ := M.SI h ok rfl fun _ => by kernel_rfl
end BJ
namespace TU
variable {s0 : ByteArray}
def M : Fw := ⟨prog, 61, f61, [], [], false, [], [], []⟩
theorem ok : M.Ok := ⟨AM.nil, mixed, func61, by kernel_rfl⟩
theorem start (h : Br ((1 : Int) ≤ ((ByteArray.size s0 : Nat) : Int)) (R (.returned (.bool (decide ((((ByteArray.size s0 : Nat) : Int) : Int) ≤ 64)))) σ) (R (.returned (.bool false)) σ)) : Spec prog 61 #[.string s0] σ R := M.start h ok
end TU
namespace KI
variable {q0 p1 : Option Addr} {n1 c1 : Nat}
def M : Fw := ⟨prog, 63, f63, [128, 129], [], false, [], [], []⟩
theorem ok : M.Ok := ⟨.cons call128 (.cons call129 (AM.nil)), mixed, func63, by kernel_rfl⟩
theorem start (h : Al σ fun b2 => Spec prog 128 #[.slice p1 n1 c1] (Hp.set σ b2 (.cells #[.pointer q0] 158 (0, 0))) (AB R (fun z y => ∃ p9a n9a c9a xa, z = (.tuple #[.slice p9a n9a c9a, .int .i64 xa]) ∧ Al y fun b5 => AJ prog (Instr.storeAt 84 (.pointer (aD b5 0)) (.slice p9a n9a c9a)) (Hp.set y b5 (.cells #[.slice none 0 0] 84 (0, 0))) (fun _ AI => Br (xa ≠ 0) (R (.returned (.int .i64 70)) AI) (Spec prog 129 #[(.func (.func 130) #[] #[(.pointer (aD b2 0)), (.pointer (aD b5 0))])] AI (AB R (CI .i64 fun Nv AV => R (.returned (.int .i64 Nv)) AV))))))) : Spec prog 63 #[.pointer q0, .slice p1 n1 c1] σ R := M.start h ok
end KI
namespace Ie
variable {q0 : Option Addr}
def M : Fw := ⟨prog, 66, f66, [], [], false, [], [], []⟩
theorem ok : M.Ok := ⟨AM.nil, mixed, func66, by kernel_rfl⟩
theorem start (h : Pq q0 fun b4 o4 => LS σ b4 (o4 + 3) fun p6 n6 c6 => R (.returned (.int .i64 (n6 : Int))) σ) : Spec prog 66 #[.pointer q0] σ R := M.start h ok
end Ie
namespace GD
variable {ti : Option Addr} {IL H9 : Int}
def M : Fw := ⟨prog, 102, f102, [190], [1], false, [], [], []⟩
theorem ok : M.Ok := ⟨.cons call190 (AM.nil), mixed, func102, by kernel_rfl⟩
theorem start (h : ∀ b1 : Nat, Spec prog 190 #[.agg #[.pointer ti, .int .i64 IL, .int .i64 H9], .int .i64 1, .int .i64 2] σ (AB R (CI .i64 fun x4 y => R (.returned (.int .i64 x4)) y))) : Spec prog 102 #[.agg #[.pointer ti, .int .i64 IL, .int .i64 H9]] σ R := M.start h ok
end GD
namespace CC
variable {s0 : ByteArray} {p1 p8 Ut xb Uu : Option Addr} {n1 c1 n8 c8 n36 Wu xc xd n43 Vk : Nat} {Z0 x2b x2c KJ NO x9 SK SL qD fA : Int} {t2d : Bool}
def M : Fw := ⟨prog, 104, f104, [191, 192], [5, 10], false, [], [], [(488, [(8, wL), (36, wL), (37, wI), (38, wI)]), (125336, [(8, wL), (9, wI), (10, .X 25 [.L, .I .i64, .I .u64]), (36, wL), (37, wI), (38, wI), (43, wL), (44, wI), (45, wI)])]⟩
theorem ok : M.Ok := ⟨.cons call191 (.cons call192 (AM.nil)), mixed, func104, by kernel_rfl⟩
def MD := M.pt 0
def Nw := M.pt 1
theorem start (h : ∀ b5 : Nat, Spec prog 191 #[.string s0] σ (AB R (CB fun t16 y => Bn t16 (R (.returned (.tuple #[.int .i64 0, .int .i64 150])) y) (Br ((n1 : Int) = 0) (R (.returned (.tuple #[.int .i64 0, .int .i64 151])) y) (Br (x2c < (n1 : Int)) (R (.returned (.tuple #[.int .i64 0, .int .i64 151])) y) (Br (256 < (n1 : Int)) (R (.returned (.tuple #[.int .i64 0, .int .i64 151])) y) (Spec prog 192 #[.agg #[.int .i64 Z0, .int .i64 x2b, .int .i64 x2c, .bool t2d]] y (AB R (CS fun p35 n35 c35 AI => MD R p35 n35 c35 p1 n1 c1 (n1 : Int) 0 AI))))))))) : Spec prog 104 #[.string s0, .slice p1 n1 c1, .agg #[.int .i64 Z0, .int .i64 x2b, .int .i64 x2c, .bool t2d]] σ R := M.start h ok
theorem Hl (h : Br (NO < KJ) (Pq Ut fun qE tj => In NO (n36 : Int) ∧ ∃ ACI ACJ ACK ACL ACN, EF σ qE (tj + Int.toNat NO * 3) [.slice ACI ACJ ACK, .int .i64 ACL, .int .u64 ACN] ∧ ∀ EL : Nat, Nw R p8 n8 c8 NO ACI ACJ ACK ACL ACN (aD qE tj) n36 Wu KJ NO p8 n8 c8 (n8 : Int) 0 σ) (R (.returned (.tuple #[.int .i64 0, .int .i64 0])) σ)) : MD R p8 n8 c8 Ut n36 Wu KJ NO σ := M.of h ok rfl
theorem JN (h : Br (fA < qD) (Pq Uu fun cX kM => In fA (n43 : Int) ∧ ∃ v48, Hp.ld σ ⟨cX, (kM + Int.toNat fA * 1), none⟩ = some v48 ∧ ∃ (f51 : Nat) (tm tn : Array Value), v48 = .func (.func f51) tm tn ∧ Enters prog f51 ∧ Spec prog f51 (tm ++ #[.agg #[.slice xb xc xd, .int .i64 SK, .int .u64 SL]] ++ tn) σ (AB R (CI .i64 fun Yw y => Br (Yw ≠ 0) (R (.returned (.tuple #[.int .i64 x9, .int .i64 Yw])) y) (AO (fA + 1) ∧ Nw R p8 n8 c8 x9 xb xc xd SK SL Ut n36 Wu KJ NO (aD cX kM) n43 Vk qD (fA + 1) y)))) (AO (NO + 1) ∧ MD R p8 n8 c8 Ut n36 Wu KJ (NO + 1) σ)) : Nw R p8 n8 c8 x9 xb xc xd SK SL Ut n36 Wu KJ NO Uu n43 Vk qD fA σ := M.SI h ok rfl fun _ => by kernel_rfl
end CC
namespace slices_Index_int
variable {p0 : Option Addr} {n0 c0 : Nat} {x1 x7 x8 : Int}
def M : Fw := ⟨prog, 114, f114, [], [], false, [], [], [(104, [(0, wL), (1, wI), (7, wI), (8, wI)])]⟩
theorem ok : M.Ok := ⟨AM.nil, mixed, func114, by kernel_rfl⟩
def Ns := M.pt 0
theorem start (h : Ns R p0 n0 c0 x1 (n0 : Int) 0 σ) : Spec prog 114 #[.slice p0 n0 c0, .int .i64 x1] σ R := M.start h ok
theorem EJ (h : Br (x8 < x7) (Pq p0 fun LG Nq => In x8 (n0 : Int) ∧ LI .i64 σ LG (Nq + Int.toNat x8 * 1) fun Nv => Br (x1 = Nv) (R (.returned (.int .i64 x8)) σ) (AO (x8 + 1) ∧ Ns R (aD LG Nq) n0 c0 x1 x7 (x8 + 1) σ)) (R (.returned (.int .i64 (-1))) σ)) : Ns R p0 n0 c0 x1 x7 x8 σ := M.of h ok rfl
end slices_Index_int
namespace ME
variable {p0 : Option Addr} {n0 c0 : Nat} {x1 : Int}
def M : Fw := ⟨prog, 115, f115, [177], [], false, [], [], []⟩
theorem ok : M.Ok := ⟨.cons call177 (AM.nil), mixed, func115, by kernel_rfl⟩
theorem start (h : Spec prog 177 #[.slice p0 n0 c0, .int .i64 x1] σ (AB R (fun z y => ∃ Nx GU LH, z = (.tuple #[.int .u64 Nx, .int .i64 GU, .int .i64 LH]) ∧ Br (LH ≠ 0) (R (.returned (.tuple #[(.string (ByteArray.mk #[])), .int .i64 0, .int .i64 LH])) y) (AO ((n0 : Int) - GU) ∧ Df (IntKind.u64.wrap ((n0 : Int) - GU)) fun NQ => Br (NQ < Nx) (R (.returned (.tuple #[(.string (ByteArray.mk #[])), .int .i64 0, .int .i64 20])) y) (Df (IntKind.i64.wrap Nx) fun Hm => AO (GU + Hm) ∧ (0 ≤ GU ∧ GU ≤ (GU + Hm) ∧ (GU + Hm) ≤ (c0 : Int)) ∧ AJ prog (convert 84 9 (.slice (GP p0 (Int.toNat GU) c0 1) (Int.toNat (GU + Hm) - Int.toNat GU) (c0 - Int.toNat GU))) y (CT fun s34 AI => Df (IntKind.i64.wrap Nx) fun KJ => AO (GU + KJ) ∧ R (.returned (.tuple #[.string s34, (.int .i64 (GU + KJ)), .int .i64 0])) AI)))))) : Spec prog 115 #[.slice p0 n0 c0, .int .i64 x1] σ R := M.start h ok
end ME
namespace KK
variable {q0 : Option Addr} {s1 : ByteArray}
def M : Fw := ⟨prog, 144, f144, [236, 237, 238, 240], [], false, [(8, 16, true)], [], []⟩
theorem ok : M.Ok := ⟨.cons call236 (.cons call237 (.cons call238 (.cons call240 (AM.nil)))), mixed, func144, by kernel_rfl⟩
theorem start (h : Spec prog 236 #[.pointer q0, .string s1, .bool true] σ (AB R (CI .i64 fun Di y => Br (Di ≠ 0) (R (.returned (.int .i64 Di)) y) (Spec prog 238 #[.pointer q0] y (AB R (CB fun t15 AI => Bo t15 (Pq q0 fun Nt TP => LI .i64 AI Nt (TP + 4) fun Ws => Spec prog 240 #[(.pointer (aD Nt TP)), .int .i64 Ws] AI (AB R (fun z AV => z = (.tuple #[]) ∧ R (.returned (.int .i64 60)) AV))) (Spec prog 237 #[.pointer q0, .string s1] AI (AB R (fun z AV => ∃ FV fB, z = (.tuple #[.int .i64 FV, .bool fB]) ∧ Pq q0 fun Kn TT => LS AV Kn TT fun p31 n31 c31 => LS AV Kn TT fun Ut n36 Wu => Pq Ut fun b38 o38 => In FV (n36 : Int) ∧ LS AV b38 ((o38 + Int.toNat FV * 3) + 1) fun ek n40 c40 => Pq p31 fun iU j8 => In FV (n31 : Int) ∧ AJ prog (Instr.storeAt 3 (.pointer (aD iU ((j8 + Int.toNat FV * 3) + 2))) (.int .i64 (n40 : Int))) AV (fun _ Ay => R (.returned (.int .i64 0)) Ay)))))))))) : Spec prog 144 #[.pointer q0, .string s1] σ R := M.start h ok
end KK
namespace FG
variable {q0 p5 : Option Addr} {s1 : ByteArray} {n5 c5 : Nat} {tp : Value}
def M : Fw := ⟨prog, 174, f174, [92, 93], [], false, [], [(16, 186)], [(488, [(1, wT), (5, wL), (16, wV)])]⟩
theorem ok : M.Ok := ⟨.cons call92 (.cons call93 (AM.nil)), mixed, func174, by kernel_rfl⟩
def Gp := M.pt 0
theorem start (h : Pq q0 fun b8 o8 => LB σ b8 (o8 + 1) fun t10 => Bn t10 (R (.returned (.slice none 0 0)) σ) (LM σ b8 o8 fun m15 => AJ prog (Instr.range 186 (.map m15)) σ (fun z y => ∃ tp, tp = z ∧ Gp R s1 none 0 0 tp y))) : Spec prog 174 #[.pointer q0, .string s1] σ R := M.start h ok
theorem Gq (h : AJ prog (Instr.next tp false 0) σ (fun v y => (v = (.tuple #[.bool false]) ∧ Spec prog 93 #[.slice p5 n5 c5] y (AB R (fun z AI => z = (.tuple #[]) ∧ R (.returned (.slice p5 n5 c5)) AI))) ∨ (∃ AJt xe, v = (.tuple #[.bool true, .string AJt, .pointer xe]) ∧ AJ prog (Instr.entry tp) y (fun z AI => ∃ fC AJu, z = (.tuple #[.string fC, .pointer AJu]) ∧ Spec prog 92 #[.string fC, .string s1] AI (AB R (CB fun t23 AV => Bo t23 (Al AV fun TV => AJ prog (Builtin.append_ #[97, 97] 97 #[.slice p5 n5 c5, (.slice (aD TV 0) 1 1)]) (Hp.set AV TV (.cells #[.string fC] 9 (0, 0))) (CS fun cZ n27 Wv Ay => Gp R s1 cZ n27 Wv tp Ay)) (Gp R s1 p5 n5 c5 tp AV))))))) : Gp R s1 p5 n5 c5 tp σ := M.of h ok rfl
end FG
namespace KL
variable {q0 : Option Addr} {s1 : ByteArray}
def M : Fw := ⟨prog, 176, f176, [223], [], false, [], [], []⟩
theorem ok : M.Ok := ⟨.cons call223 (AM.nil), mixed, func176, by kernel_rfl⟩
theorem start (h : Pq q0 fun b8 o8 => LB σ b8 (o8 + 1) fun t10 => Bn t10 (R (.returned (.tuple #[.slice none 0 0, .int .i64 60])) σ) (Spec prog 223 #[(.pointer (aD b8 o8)), .string s1] σ (AB R (CI .i64 fun E7 y => Br (E7 ≠ 0) (R (.returned (.tuple #[.slice none 0 0, .int .i64 E7])) y) (Al y fun Nt => LM (Hp.set y Nt (.cells #[] 5 (0, 0))) b8 o8 fun m22 => AJ prog (Instr.lookup 186 (.map m22) (.string s1) false) (Hp.set y Nt (.cells #[] 5 (0, 0))) (CQ fun q24 AI => Pq q24 fun pZ o25 => LS AI pZ o25 fun cZ n27 Wv => AJ prog (Builtin.append_ #[84, 84] 84 #[(.slice (aD Nt 0) 0 0), .slice cZ n27 Wv]) AI (CS fun xG n28 c28 AV => R (.returned (.tuple #[.slice xG n28 c28, .int .i64 0])) AV))))))) : Spec prog 176 #[.pointer q0, .string s1] σ R := M.start h ok
end KL
namespace Lg
variable {p0 p1 : Option Addr} {n0 c0 n1 c1 : Nat}
def M : Fw := ⟨prog, 194, f194, [269], [], false, [], [], []⟩
theorem ok : M.Ok := ⟨.cons call269 (AM.nil), mixed, func194, by kernel_rfl⟩
theorem start (h : Al σ fun b3 => Spec prog 269 #[.slice p0 n0 c0, (.func (.func 270) #[] #[(.pointer (aD b3 0))])] (Hp.set σ b3 (.cells #[.slice p1 n1 c1] 97 (0, 0))) (AB R (CS fun p7 n7 c7 y => R (.returned (.slice p7 n7 c7)) y))) : Spec prog 194 #[.slice p0 n0 c0, .slice p1 n1 c1] σ R := M.start h ok
end Lg
namespace QW
variable {x0 x1 : Int}
def M : Fw := ⟨prog, 226, f226, [58, 291], [], false, [], [], []⟩
theorem ok : M.Ok := ⟨.cons call58 (.cons call291 (AM.nil)), mixed, func226, by kernel_rfl⟩
theorem start (h : Spec prog 58 #[.int .u64 x0, .int .i64 10] σ (AB R (CT fun s6 y => Spec prog 291 #[.string s6, .int .i64 x1] y (AB R (CT fun s8 AI => R (.returned (.string s8)) AI))))) : Spec prog 226 #[.int .u64 x0, .int .i64 x1] σ R := M.start h ok
end QW
namespace DG
variable {b0 b1 b2 : Nat} {q3 : Option Addr}
def M : Fw := ⟨prog, 227, f227, [], [], false, [(3, 6, true), (4, 9, false)], [], [(7, [(2, wA), (3, wQ)])]⟩
theorem ok : M.Ok := ⟨AM.nil, mixed, func227, by kernel_rfl⟩
def A1 := M.pt 0
theorem start (h : LQ σ b0 0 fun q4 => Pq q4 fun b5 o5 => LM σ b5 o5 fun m7 => LT σ b1 0 fun s8 => AJ prog (Instr.lookup 186 (.map m7) (.string s8) false) σ (CQ fun q9 y => Bo (Option.isNone q9) (Al y fun H7 => LQ (Hp.set y H7 (.cells #[.slice none 0 0, .int .i64 0] 300 (0, 0))) b0 0 fun HZ => Pq HZ fun cV oJ => LM (Hp.set y H7 (.cells #[.slice none 0 0, .int .i64 0] 300 (0, 0))) cV oJ fun m17 => LT (Hp.set y H7 (.cells #[.slice none 0 0, .int .i64 0] 300 (0, 0))) b1 0 fun OR => AJ prog (Instr.mapUpdate 186 (.map m17) (.string OR) (.pointer (aD H7 0))) (Hp.set y H7 (.cells #[.slice none 0 0, .int .i64 0] 300 (0, 0))) (fun _ AI => A1 R b2 (aD H7 0) AI)) (A1 R b2 q9 y))) : Spec prog 227 #[(.pointer (aD b0 0)), (.pointer (aD b1 0)), (.pointer (aD b2 0))] σ R := M.start h ok
theorem AW (h : Pq q3 fun Nr Ww => LS σ Nr Ww fun ca n24 c24 => LS σ b2 0 fun R0 n25 Pk => AJ prog (Builtin.append_ #[84, 84] 84 #[.slice ca n24 c24, .slice R0 n25 Pk]) σ (CS fun Wk n26 TQ y => AJ prog (Instr.storeAt 84 (.pointer (aD Nr Ww)) (.slice Wk n26 TQ)) y (fun _ AI => R (.returned (.tuple #[])) AI))) : A1 R b2 q3 σ := M.of h ok rfl
end DG
namespace G8
variable {b0 b1 b2 : Nat}
def M : Fw := ⟨prog, 292, f292, [171, 223], [], false, [], [], []⟩
theorem ok : M.Ok := ⟨.cons call171 (.cons call223 (AM.nil)), mixed, func292, by kernel_rfl⟩
theorem start (h : LT σ b0 0 fun s4 => Spec prog 171 #[.string s4] σ (AB R (CB fun t5 y => Bn t5 (R (.returned (.int .i64 61)) y) (LQ y b1 0 fun q7 => LT y b2 0 fun s8 => Spec prog 223 #[.pointer q7, .string s8] y (AB R (CI .i64 fun x9 AI => R (.returned (.int .i64 x9)) AI)))))) : Spec prog 292 #[(.pointer (aD b0 0)), (.pointer (aD b1 0)), (.pointer (aD b2 0))] σ R := M.start h ok
end G8
namespace A2
variable {s0 : ByteArray} {x3 x4 x5 x6 : Int}
def M : Fw := ⟨prog, 307, f307, [], [], false, [], [], [(220, [(0, wT), (3, wI)]), (894, [(0, wT), (3, wI), (4, wI), (5, w8), (6, w8)]), (7164, [(0, wT), (3, wI), (4, wI), (5, w8), (6, w8)])]⟩
theorem ok : M.Ok := ⟨AM.nil, mixed, func307, by kernel_rfl⟩
def CF := M.pt 0
def DY := M.pt 1
def kN := M.pt 2
theorem start (h : CF R s0 0 σ) : Spec prog 307 #[.string s0] σ R := M.start h ok
theorem BX (h : Br (x3 = ((ByteArray.size s0 : Nat) : Int)) (R (.returned (.bool true)) σ) (∃ MF : UInt8, 0 ≤ x3 ∧ (ByteArray.data s0)[Int.toNat x3]? = some MF ∧ Br ((((UInt8.toNat MF : Nat) : Int) : Int) < 128) (AO (x3 + 1) ∧ CF R s0 (x3 + 1) σ) (Br ((194 : Int) ≤ ((UInt8.toNat MF : Nat) : Int)) (Br ((((UInt8.toNat MF : Nat) : Int) : Int) ≤ 223) (DY R s0 x3 1 128 191 σ) (Br ((224 : Int) ≤ ((UInt8.toNat MF : Nat) : Int)) (Br ((((UInt8.toNat MF : Nat) : Int) : Int) ≤ 239) (Br ((((UInt8.toNat MF : Nat) : Int) : Int) = 224) (DY R s0 x3 2 160 191 σ) (Br ((((UInt8.toNat MF : Nat) : Int) : Int) = 237) (DY R s0 x3 2 128 159 σ) (DY R s0 x3 2 128 191 σ))) (Br ((240 : Int) ≤ ((UInt8.toNat MF : Nat) : Int)) (Br ((((UInt8.toNat MF : Nat) : Int) : Int) ≤ 244) (Br ((((UInt8.toNat MF : Nat) : Int) : Int) = 240) (DY R s0 x3 3 144 191 σ) (Br ((((UInt8.toNat MF : Nat) : Int) : Int) = 244) (DY R s0 x3 3 128 143 σ) (DY R s0 x3 3 128 191 σ))) (R (.returned (.bool false)) σ)) (R (.returned (.bool false)) σ))) (Br ((240 : Int) ≤ ((UInt8.toNat MF : Nat) : Int)) (Br ((((UInt8.toNat MF : Nat) : Int) : Int) ≤ 244) (Br ((((UInt8.toNat MF : Nat) : Int) : Int) = 240) (DY R s0 x3 3 144 191 σ) (Br ((((UInt8.toNat MF : Nat) : Int) : Int) = 244) (DY R s0 x3 3 128 143 σ) (DY R s0 x3 3 128 191 σ))) (R (.returned (.bool false)) σ)) (R (.returned (.bool false)) σ)))) (Br ((224 : Int) ≤ ((UInt8.toNat MF : Nat) : Int)) (Br ((((UInt8.toNat MF : Nat) : Int) : Int) ≤ 239) (Br ((((UInt8.toNat MF : Nat) : Int) : Int) = 224) (DY R s0 x3 2 160 191 σ) (Br ((((UInt8.toNat MF : Nat) : Int) : Int) = 237) (DY R s0 x3 2 128 159 σ) (DY R s0 x3 2 128 191 σ))) (Br ((240 : Int) ≤ ((UInt8.toNat MF : Nat) : Int)) (Br ((((UInt8.toNat MF : Nat) : Int) : Int) ≤ 244) (Br ((((UInt8.toNat MF : Nat) : Int) : Int) = 240) (DY R s0 x3 3 144 191 σ) (Br ((((UInt8.toNat MF : Nat) : Int) : Int) = 244) (DY R s0 x3 3 128 143 σ) (DY R s0 x3 3 128 191 σ))) (R (.returned (.bool false)) σ)) (R (.returned (.bool false)) σ))) (Br ((240 : Int) ≤ ((UInt8.toNat MF : Nat) : Int)) (Br ((((UInt8.toNat MF : Nat) : Int) : Int) ≤ 244) (Br ((((UInt8.toNat MF : Nat) : Int) : Int) = 240) (DY R s0 x3 3 144 191 σ) (Br ((((UInt8.toNat MF : Nat) : Int) : Int) = 244) (DY R s0 x3 3 128 143 σ) (DY R s0 x3 3 128 191 σ))) (R (.returned (.bool false)) σ)) (R (.returned (.bool false)) σ)))))) : CF R s0 x3 σ := M.of h ok rfl
theorem Uv (h : AO (x3 + 1) ∧ kN R s0 (x3 + 1) x4 x5 x6 σ) : DY R s0 x3 x4 x5 x6 σ := M.of h ok rfl
theorem cb (h : Br (x4 = 0) (CF R s0 x3 σ) (Br (x3 = ((ByteArray.size s0 : Nat) : Int)) (R (.returned (.bool false)) σ) (∃ u60 : UInt8, 0 ≤ x3 ∧ (ByteArray.data s0)[Int.toNat x3]? = some u60 ∧ Br ((((UInt8.toNat u60 : Nat) : Int) : Int) < x5) (R (.returned (.bool false)) σ) (∃ u67 : UInt8, 0 ≤ x3 ∧ (ByteArray.data s0)[Int.toNat x3]? = some u67 ∧ Br (x6 < ((UInt8.toNat u67 : Nat) : Int)) (R (.returned (.bool false)) σ) (AO (x4 - 1) ∧ AO (x3 + 1) ∧ kN R s0 (x3 + 1) (x4 - 1) 128 191 σ))))) : kN R s0 x3 x4 x5 x6 σ := M.of h ok rfl
end A2
namespace AN
variable {p0 : Option Addr} {n0 c0 : Nat} {x1 x2 x6 x7 : Int}
def M : Fw := ⟨prog, 322, f322, [328], [], false, [(6, 17, false)], [], [(48, [(0, wL), (1, wI), (2, wI), (6, wI)]), (3216, [(0, wL), (1, wI), (2, wI), (6, wI), (7, wI)])]⟩
theorem ok : M.Ok := ⟨.cons call328 (AM.nil), mixed, func322, by kernel_rfl⟩
def Zy := M.pt 0
def Gp := M.pt 1
theorem start (h : AO (x1 + 1) ∧ Zy R p0 n0 c0 x1 x2 (x1 + 1) σ) : Spec prog 322 #[.slice p0 n0 c0, .int .i64 x1, .int .i64 x2] σ R := M.start h ok
theorem MC (h : Br (x6 < x2) (Gp R p0 n0 c0 x1 x2 x6 x6 σ) (R (.returned (.tuple #[])) σ)) : Zy R p0 n0 c0 x1 x2 x6 σ := M.of h ok rfl
theorem Gq (h : Br (x1 < x7) (Pq p0 fun Nr Ww => In x7 (n0 : Int) ∧ LI .u32 σ Nr (Ww + Int.toNat x7 * 1) fun Po => AO (x7 - 1) ∧ In (x7 - 1) (n0 : Int) ∧ LI .u32 σ Nr (Ww + Int.toNat (x7 - 1) * 1) fun G9 => Spec prog 328 #[.int .u32 Po, .int .u32 G9] σ (AB R (CB fun t29 y => Bo t29 (AO (x7 - 1) ∧ AO (x7 - 1) ∧ In (x7 - 1) (n0 : Int) ∧ LI .u32 y Nr (Ww + Int.toNat (x7 - 1) * 1) fun x42 => In x7 (n0 : Int) ∧ LI .u32 y Nr (Ww + Int.toNat x7 * 1) fun fD => In x7 (n0 : Int) ∧ AJ prog (Instr.storeAt 70 (.pointer (aD Nr (Ww + Int.toNat x7 * 1))) (.int .u32 x42)) y (fun _ AI => In (x7 - 1) (n0 : Int) ∧ AJ prog (Instr.storeAt 70 (.pointer (aD Nr (Ww + Int.toNat (x7 - 1) * 1))) (.int .u32 fD)) AI (fun _ AV => AO (x7 - 1) ∧ Gp R (aD Nr Ww) n0 c0 x1 x2 x6 (x7 - 1) AV))) (AO (x6 + 1) ∧ Zy R (aD Nr Ww) n0 c0 x1 x2 (x6 + 1) y)))) (AO (x6 + 1) ∧ Zy R p0 n0 c0 x1 x2 (x6 + 1) σ)) : Gp R p0 n0 c0 x1 x2 x6 x7 σ := M.of h ok rfl
end AN
end TwW
end
end
section
set_option maxRecDepth 100000
noncomputable section
namespace TwW
open Go Tw Go.Proofs.Tryz
variable [I7] {R : Rr} {σ : Hp}

namespace AK
variable {p0 p1 p2 Jv H8 HZ q19 er : Option Addr} {n0 c0 n1 c1 n2 c2 : Nat} {x3 x4 Cq EB EK Eh Ei FW FX FY FZ Fa FF D8 PH PI Mg : Int} {Fb : Bool} {OR kO QX : ByteArray}
def M : Fw := ⟨prog, 4, f4, [7, 9, 10, 11, 12, 13, 19, 20, 21], [11, 20, 23], false, [], [], [(8144, [(0, wL), (1, wL), (2, wL), (3, wI), (11, .X 30 [.I .i64, .I .i64, .I .i64, .I .i64, .I .i64, .I .i64, .I .i64, .I .i64, .I .i64, .I .i64, .B]), (12, wQ), (13, wQ), (14, wQ), (16, wI), (17, wI)]), (260686, [(0, wL), (1, wL), (2, wL), (3, wI), (11, .X 30 [.I .i64, .I .i64, .I .i64, .I .i64, .I .i64, .I .i64, .I .i64, .I .i64, .I .i64, .I .i64, .B]), (12, wQ), (13, wQ), (14, wQ), (16, wI), (17, wI), (18, wT)]), (1042750, [(0, wL), (1, wL), (2, wL), (3, wI), (11, .X 30 [.I .i64, .I .i64, .I .i64, .I .i64, .I .i64, .I .i64, .I .i64, .I .i64, .I .i64, .I .i64, .B]), (12, wQ), (13, wQ), (14, wQ), (16, wI), (17, wI), (18, wT), (19, wQ)]), (66736126, [(0, wL), (1, wL), (2, wL), (3, wI), (11, .X 30 [.I .i64, .I .i64, .I .i64, .I .i64, .I .i64, .I .i64, .I .i64, .I .i64, .I .i64, .I .i64, .B]), (12, wQ), (13, wQ), (14, wQ), (16, wI), (17, wI), (18, wT), (22, wI), (23, .X 58 [.T, .I .i64])]), (126, [(0, wL), (1, wL), (2, wL), (3, wI), (11, .X 30 [.I .i64, .I .i64, .I .i64, .I .i64, .I .i64, .I .i64, .I .i64, .I .i64, .I .i64, .I .i64, .B]), (12, wQ), (13, wQ), (14, wQ)]), (32584, [(0, wL), (1, wL), (2, wL), (3, wI), (11, .X 30 [.I .i64, .I .i64, .I .i64, .I .i64, .I .i64, .I .i64, .I .i64, .I .i64, .I .i64, .I .i64, .B]), (12, wQ), (13, wQ), (14, wQ), (16, wI), (17, wI)]), (33368060, [(0, wL), (1, wL), (2, wL), (3, wI), (11, .X 30 [.I .i64, .I .i64, .I .i64, .I .i64, .I .i64, .I .i64, .I .i64, .I .i64, .I .i64, .I .i64, .B]), (12, wQ), (13, wQ), (14, wQ), (16, wI), (17, wI), (18, wT), (20, .X 58 [.T, .I .i64]), (21, wQ), (22, wI), (23, .X 58 [.T, .I .i64])]), (66736124, [(0, wL), (1, wL), (2, wL), (3, wI), (11, .X 30 [.I .i64, .I .i64, .I .i64, .I .i64, .I .i64, .I .i64, .I .i64, .I .i64, .I .i64, .I .i64, .B]), (12, wQ), (13, wQ), (14, wQ), (16, wI), (17, wI), (18, wT), (21, wQ), (22, wI), (23, .X 58 [.T, .I .i64])]), (8147, [(0, wL), (1, wL), (2, wL), (3, wI), (11, .X 30 [.I .i64, .I .i64, .I .i64, .I .i64, .I .i64, .I .i64, .I .i64, .I .i64, .I .i64, .I .i64, .B]), (12, wQ), (13, wQ), (14, wQ), (16, wI), (17, wI)])]⟩
theorem ok : M.Ok := ⟨.cons call7 (.cons call9 (.cons call10 (.cons call11 (.cons call12 (.cons call13 (.cons call19 (.cons call20 (.cons call21 (AM.nil))))))))), mixed, func4, by kernel_rfl⟩
def MD := M.pt 0
def fE := M.pt 1
def qF := M.pt 2
def kP := M.pt 3
def Ap := M.pt 4
def ACP := M.pt 5
def DY := M.pt 6
def kQ := M.pt 7
def kR := M.pt 8
theorem start (h : Df (Go.bits .and .i64 x3 15) fun JB => Df (Go.bits .and .i64 x4 63) fun MG => AO (16 + MG) ∧ Spec prog 7 #[.int .i64 0, .int .i64 JB, (.int .i64 (16 + MG))] σ (AB R (fun z y => ∃ Wx Wy qG qH qI qJ qK qL qM qN qO, z = (.agg #[.int .i64 Wx, .int .i64 Wy, .int .i64 qG, .int .i64 qH, .int .i64 qI, .int .i64 qJ, .int .i64 qK, .int .i64 qL, .int .i64 qM, .int .i64 qN, .bool qO]) ∧ ∀ EH : Nat, Spec prog 9 #[.agg #[.int .i64 Wx, .int .i64 Wy, .int .i64 qG, .int .i64 qH, .int .i64 qI, .int .i64 qJ, .int .i64 qK, .int .i64 qL, .int .i64 qM, .int .i64 qN, .bool qO]] y (AB R (CQ fun q33 AI => Spec prog 9 #[.agg #[.int .i64 Wx, .int .i64 Wy, .int .i64 qG, .int .i64 qH, .int .i64 qI, .int .i64 qJ, .int .i64 qK, .int .i64 qL, .int .i64 qM, .int .i64 qN, .bool qO]] AI (AB R (CQ fun q35 AV => Spec prog 11 #[.int .i64 1] AV (AB R (fun z Ay => ∃ qP ACQ ACR ACS, z = (.agg #[.int .u64 qP, .slice ACQ ACR ACS]) ∧ Spec prog 10 #[.agg #[.int .u64 qP, .slice ACQ ACR ACS]] Ay (AB R (fun z Dj => ∃ xf AJx, z = (.tuple #[.pointer xf, .pointer AJx]) ∧ Bo (Option.isNone q33) (R (.returned (.bool false)) Dj) (Bo (Option.isNone q35) (R (.returned (.bool false)) Dj) (Bo (Option.isNone xf) (R (.returned (.bool false)) Dj) (Ap R p0 n0 c0 p1 n1 c1 p2 n2 c2 x3 Wx Wy qG qH qI qJ qK qL qM qN qO q33 q35 xf Dj)))))))))))))) : Spec prog 4 #[.slice p0 n0 c0, .slice p1 n1 c1, .slice p2 n2 c2, .int .i64 x3, .int .i64 x4] σ R := M.start h ok
theorem BI (h : MD R p0 n0 c0 p1 n1 c1 p2 n2 c2 x3 Cq EB EK Eh Ei FW FX FY FZ Fa Fb Jv H8 HZ 0 0 σ) : Ap R p0 n0 c0 p1 n1 c1 p2 n2 c2 x3 Cq EB EK Eh Ei FW FX FY FZ Fa Fb Jv H8 HZ σ := M.SI h ok rfl fun _ => by kernel_rfl
theorem Hl (h : Br (D8 < (n0 : Int)) (Br (D8 < (n1 : Int)) (Br (D8 < (n2 : Int)) (ACP R p0 n0 c0 p1 n1 c1 p2 n2 c2 x3 Cq EB EK Eh Ei FW FX FY FZ Fa Fb Jv H8 HZ FF D8 σ) (Spec prog 13 #[] σ (AB R (CB fun t185 y => R (.returned (.bool t185)) y)))) (Spec prog 13 #[] σ (AB R (CB fun t185 y => R (.returned (.bool t185)) y)))) (Spec prog 13 #[] σ (AB R (CB fun t185 y => R (.returned (.bool t185)) y)))) : MD R p0 n0 c0 p1 n1 c1 p2 n2 c2 x3 Cq EB EK Eh Ei FW FX FY FZ Fa Fb Jv H8 HZ FF D8 σ := M.SI h ok rfl fun _ => by kernel_rfl
theorem qQ (h : Pq p1 fun kS kU => In D8 (n1 : Int) ∧ LI .i64 σ kS (kU + Int.toNat D8 * 1) fun x73 => Df (Go.bits .and .i64 x73 31) fun xg => AO (FF + xg) ∧ Pq p0 fun Yx kV => In D8 (n0 : Int) ∧ LB σ Yx (kV + Int.toNat D8 * 1) fun t79 => Bo t79 (fE R (aD Yx kV) n0 c0 (aD kS kU) n1 c1 p2 n2 c2 x3 Cq EB EK Eh Ei FW FX FY FZ Fa Fb Jv H8 HZ (FF + xg) D8 (ByteArray.mk #[121]) σ) (fE R (aD Yx kV) n0 c0 (aD kS kU) n1 c1 p2 n2 c2 x3 Cq EB EK Eh Ei FW FX FY FZ Fa Fb Jv H8 HZ (FF + xg) D8 (ByteArray.mk #[120]) σ)) : ACP R p0 n0 c0 p1 n1 c1 p2 n2 c2 x3 Cq EB EK Eh Ei FW FX FY FZ Fa Fb Jv H8 HZ FF D8 σ := M.SI h ok rfl fun _ => by kernel_rfl
theorem qR (h : Pq p2 fun kW kX => In D8 (n2 : Int) ∧ LB σ kW (kX + Int.toNat D8 * 1) fun t84 => Bo t84 (qF R p0 n0 c0 p1 n1 c1 (aD kW kX) n2 c2 x3 Cq EB EK Eh Ei FW FX FY FZ Fa Fb Jv H8 HZ FF D8 OR H8 σ) (qF R p0 n0 c0 p1 n1 c1 (aD kW kX) n2 c2 x3 Cq EB EK Eh Ei FW FX FY FZ Fa Fb Jv H8 HZ FF D8 OR Jv σ)) : fE R p0 n0 c0 p1 n1 c1 p2 n2 c2 x3 Cq EB EK Eh Ei FW FX FY FZ Fa Fb Jv H8 HZ FF D8 OR σ := M.SI h ok rfl fun _ => by kernel_rfl
theorem qS (h : Spec prog 19 #[.pointer HZ] σ (AB R (fun z y => ∃ kY kZ, z = (.agg #[.string kY, .int .i64 kZ]) ∧ ∀ BA : Nat, Al y fun SM => Al (Hp.set y SM (.cells #[(.string (ByteArray.mk #[99, 108, 117, 115, 116, 101, 114])), (.string (ByteArray.mk #[99])), (.string (ByteArray.mk #[114, 101, 112, 108, 105, 99, 97])), .string OR] 61 (0, 0))) fun iW => Spec prog 12 #[.pointer q19, (.string (ByteArray.mk #[116])), (.slice (aD iW 0) 1 1), .int .i64 FF, .pointer HZ] (Hp.set (Hp.set y SM (.cells #[(.string (ByteArray.mk #[99, 108, 117, 115, 116, 101, 114])), (.string (ByteArray.mk #[99])), (.string (ByteArray.mk #[114, 101, 112, 108, 105, 99, 97])), .string OR] 61 (0, 0))) iW (.cells #[(.slice (aD SM 0) 2 2), .int .i64 FF, .int .u64 1] 25 (0, 0))) (AB R (fun z AI => ∃ Z1 QY, z = (.tuple #[.pointer Z1, .int .i64 QY]) ∧ Spec prog 19 #[.pointer HZ] AI (AB R (fun z AV => ∃ Wz W3, z = (.agg #[.string Wz, .int .i64 W3]) ∧ ∀ Yv : Nat, Br (QY ≠ 0) (Br (QY ≠ 2) (R (.returned (.bool false)) AV) (Bo (Option.isNone Z1) (Br (QY ≠ 0) (DY R p0 n0 c0 p1 n1 c1 p2 n2 c2 x3 Cq EB EK Eh Ei FW FX FY FZ Fa Fb Jv H8 HZ FF D8 OR kY kZ Z1 QY Wz W3 AV) (R (.returned (.bool false)) AV)) (Br (QY ≠ 0) (R (.returned (.bool false)) AV) (DY R p0 n0 c0 p1 n1 c1 p2 n2 c2 x3 Cq EB EK Eh Ei FW FX FY FZ Fa Fb Jv H8 HZ FF D8 OR kY kZ Z1 QY Wz W3 AV)))) (Bo (Option.isNone Z1) (Br (QY ≠ 0) (DY R p0 n0 c0 p1 n1 c1 p2 n2 c2 x3 Cq EB EK Eh Ei FW FX FY FZ Fa Fb Jv H8 HZ FF D8 OR kY kZ Z1 QY Wz W3 AV) (R (.returned (.bool false)) AV)) (Br (QY ≠ 0) (R (.returned (.bool false)) AV) (DY R p0 n0 c0 p1 n1 c1 p2 n2 c2 x3 Cq EB EK Eh Ei FW FX FY FZ Fa Fb Jv H8 HZ FF D8 OR kY kZ Z1 QY Wz W3 AV)))))))))) : qF R p0 n0 c0 p1 n1 c1 p2 n2 c2 x3 Cq EB EK Eh Ei FW FX FY FZ Fa Fb Jv H8 HZ FF D8 OR q19 σ := M.SI h ok rfl fun _ => by kernel_rfl
theorem Uv (h : Bn (ByteArray.toList QX == ByteArray.toList kO) (Br (PI ≠ 0) (R (.returned (.bool false)) σ) (Bn (ByteArray.toList QX == ByteArray.toList OR) (R (.returned (.bool false)) σ) (Bn ((ByteArray.toList kO == ByteArray.toList (ByteArray.mk #[]))) (AO (FF - PH) ∧ Br (((FF - PH) : Int) < Ei) (R (.returned (.bool false)) σ) (kQ R p0 n0 c0 p1 n1 c1 p2 n2 c2 x3 Cq EB EK Eh Ei FW FX FY FZ Fa Fb Jv H8 HZ FF D8 OR er PI QX Mg σ)) (kQ R p0 n0 c0 p1 n1 c1 p2 n2 c2 x3 Cq EB EK Eh Ei FW FX FY FZ Fa Fb Jv H8 HZ FF D8 OR er PI QX Mg σ)))) (kQ R p0 n0 c0 p1 n1 c1 p2 n2 c2 x3 Cq EB EK Eh Ei FW FX FY FZ Fa Fb Jv H8 HZ FF D8 OR er PI QX Mg σ)) : DY R p0 n0 c0 p1 n1 c1 p2 n2 c2 x3 Cq EB EK Eh Ei FW FX FY FZ Fa Fb Jv H8 HZ FF D8 OR kO PH er PI QX Mg σ := M.of3 h ok rfl fun _ _ _ => by kernel_rfl
theorem qT (h : Br (PI = 0) (Spec prog 20 #[.pointer er, .int .i64 0] σ (AB R (fun z y => ∃ tq cg ACT ACU, z = (.tuple #[.slice tq cg ACT, .int .u64 ACU]) ∧ Br ((cg : Int) ≠ 1) (R (.returned (.bool false)) y) (Pq tq fun ACV ACW => In 0 (cg : Int) ∧ LS y ACV ACW fun AJz n160 c160 => Spec prog 21 #[.slice AJz n160 c160, (.string (ByteArray.mk #[114, 101, 112, 108, 105, 99, 97]))] y (AB R (CT fun AJ0 AI => Bn ((ByteArray.toList AJ0 == ByteArray.toList (ByteArray.mk #[]))) (R (.returned (.bool false)) AI) (In 0 (cg : Int) ∧ LS AI ACV ACW fun AJ1 n168 c168 => Spec prog 21 #[.slice AJ1 n168 c168, (.string (ByteArray.mk #[99, 108, 117, 115, 116, 101, 114]))] AI (AB R (CT fun AJ2 AV => Bn ((ByteArray.toList AJ2 == ByteArray.toList (ByteArray.mk #[99]))) (R (.returned (.bool false)) AV) (kP R p0 n0 c0 p1 n1 c1 p2 n2 c2 x3 Cq EB EK Eh Ei FW FX FY FZ Fa Fb Jv H8 HZ FF D8 OR PI QX Mg AV)))))))))) (kP R p0 n0 c0 p1 n1 c1 p2 n2 c2 x3 Cq EB EK Eh Ei FW FX FY FZ Fa Fb Jv H8 HZ FF D8 OR PI QX Mg σ)) : kQ R p0 n0 c0 p1 n1 c1 p2 n2 c2 x3 Cq EB EK Eh Ei FW FX FY FZ Fa Fb Jv H8 HZ FF D8 OR er PI QX Mg σ := M.of2 h ok rfl fun _ _ => by kernel_rfl
theorem qU (h : Br (PI = 0) (Bn (ByteArray.toList QX == ByteArray.toList OR) (Df (Go.bits .and .i64 x3 15) fun ACX => Br (ACX = 0) (R (.returned (.bool false)) σ) (kR R p0 n0 c0 p1 n1 c1 p2 n2 c2 x3 Cq EB EK Eh Ei FW FX FY FZ Fa Fb Jv H8 HZ FF D8 σ)) (kR R p0 n0 c0 p1 n1 c1 p2 n2 c2 x3 Cq EB EK Eh Ei FW FX FY FZ Fa Fb Jv H8 HZ FF D8 σ)) (kR R p0 n0 c0 p1 n1 c1 p2 n2 c2 x3 Cq EB EK Eh Ei FW FX FY FZ Fa Fb Jv H8 HZ FF D8 σ)) : kP R p0 n0 c0 p1 n1 c1 p2 n2 c2 x3 Cq EB EK Eh Ei FW FX FY FZ Fa Fb Jv H8 HZ FF D8 OR PI QX Mg σ := M.of2 h ok rfl fun _ _ => by kernel_rfl
theorem qV (h : AO (D8 + 1) ∧ MD R p0 n0 c0 p1 n1 c1 p2 n2 c2 x3 Cq EB EK Eh Ei FW FX FY FZ Fa Fb Jv H8 HZ FF (D8 + 1) σ) : kR R p0 n0 c0 p1 n1 c1 p2 n2 c2 x3 Cq EB EK Eh Ei FW FX FY FZ Fa Fb Jv H8 HZ FF D8 σ := M.SI h ok rfl fun _ => by kernel_rfl
end AK
namespace Jc
variable {E6 IL H9 ka kb ke kf kg kh ki : Int} {t0k : Bool}
def M : Fw := ⟨prog, 9, f9, [], [1], false, [], [], []⟩
theorem ok : M.Ok := ⟨AM.nil, mixed, func9, by kernel_rfl⟩
theorem start (h : ∀ b1 : Nat, AJ prog (Instr.makeMap 101 none) σ (fun z y => ∃ m4, z = (.map (some m4)) ∧ Al y fun b6 => R (.returned (.pointer (aD b6 0))) (Hp.set y b6 (.cells #[.int .i64 E6, .int .i64 IL, .int .i64 H9, .int .i64 ka, .int .i64 kb, .int .i64 ke, .int .i64 kf, .int .i64 kg, .int .i64 kh, .int .i64 ki, .bool t0k, (.map (some m4))] 103 (0, 0))))) : Spec prog 9 #[.agg #[.int .i64 E6, .int .i64 IL, .int .i64 H9, .int .i64 ka, .int .i64 kb, .int .i64 ke, .int .i64 kf, .int .i64 kg, .int .i64 kh, .int .i64 ki, .bool t0k]] σ R := M.start h ok
end Jc
namespace GF
variable {x0 Z0 xh x4 : Int} {iX fF : Option Addr} {iY iZ fG fH : Nat}
def M : Fw := ⟨prog, 11, f11, [45, 46], [2, 3], false, [], [], [(464, [(0, wI), (2, .X 41 [.I .u64, .L]), (3, .X 41 [.I .u64, .L]), (4, wI)])]⟩
theorem ok : M.Ok := ⟨.cons call45 (.cons call46 (AM.nil)), mixed, func11, by kernel_rfl⟩
def CF := M.pt 0
theorem start (h : ∀ b2 : Nat, ∀ b3 : Nat, CF R x0 0 none 0 0 0 none 0 0 0 σ) : Spec prog 11 #[.int .i64 x0] σ R := M.start h ok
theorem BX (h : Br (x4 < x0) (Spec prog 45 #[.agg #[.int .u64 xh, .slice fF fG fH], .int .i64 x4] σ (AB R (fun z y => ∃ tr tu tw tx GU, z = (.tuple #[.agg #[.int .u64 tr, .slice tu tw tx], .int .i64 GU]) ∧ Spec prog 46 #[.agg #[.int .u64 tr, .slice tu tw tx], .int .i64 x4] y (AB R (fun z AI => ∃ tz uA uB uC PG, z = (.tuple #[.agg #[.int .u64 tz, .slice uA uB uC], .int .i64 PG]) ∧ AO (x4 + 1) ∧ CF R x0 Z0 iX iY iZ tz uA uB uC (x4 + 1) AI))))) (R (.returned (.agg #[.int .u64 xh, .slice fF fG fH])) σ)) : CF R x0 Z0 iX iY iZ xh fF fG fH x4 σ := M.of2 h ok rfl fun _ _ => by kernel_rfl
end GF
namespace Jd
variable {q0 : Option Addr} {s1 : ByteArray}
def M : Fw := ⟨prog, 29, f29, [61, 62], [], false, [], [], []⟩
theorem ok : M.Ok := ⟨.cons call61 (.cons call62 (AM.nil)), mixed, func29, by kernel_rfl⟩
theorem start (h : Spec prog 61 #[.string s1] σ (AB R (CB fun t10 y => Bn t10 (R (.returned (.tuple #[.slice none 0 0, .int .u64 0, .int .i64 120])) y) (Pq q0 fun H7 kL => LQ y H7 kL fun qW => Pq qW fun Ko Us => LQ y Ko Us fun q18 => Pq q18 fun Yy qX => LB y Yy (qX + 1) fun t21 => Bo t21 (R (.returned (.tuple #[.slice none 0 0, .int .u64 0, .int .i64 60])) y) (Spec prog 62 #[(.pointer (aD H7 kL)), .string s1] y (AB R (fun z AI => ∃ FV fB, z = (.tuple #[.int .i64 FV, .bool fB]) ∧ Bn fB (R (.returned (.tuple #[.slice none 0 0, .int .u64 0, .int .i64 0])) AI) (LS AI H7 (kL + 1) fun p34 n34 c34 => Pq p34 fun qY qZ => In FV (n34 : Int) ∧ LS AI qY ((qZ + Int.toNat FV * 3) + 1) fun oM n38 oN => LS AI H7 (kL + 1) fun Uu n43 Vk => Pq Uu fun W5 o45 => In FV (n43 : Int) ∧ LI .u64 AI W5 ((o45 + Int.toNat FV * 3) + 2) fun SJ => Al AI fun TW => AJ prog (Builtin.append_ #[84, 84] 84 #[(.slice (aD TW 0) 0 0), .slice oM n38 oN]) (Hp.set AI TW (.cells #[] 5 (0, 0))) (CS fun kj n39 SN AV => Kp [W5, H7] (Hp.set AI TW (.cells #[] 5 (0, 0))) AV ∧ R (.returned (.tuple #[.slice kj n39 SN, .int .u64 SJ, .int .i64 0])) AV))))))))) : Spec prog 29 #[.pointer q0, .string s1] σ R := M.start h ok
end Jd
namespace Bc
variable {E6 JB G9 Nu iV Pp Lh TR PJ : Int} {HX p5 Wk qA kj p51 : Option Addr} {Gd HY n5 c5 n26 TQ oL qB n39 SN n51 c51 : Nat}
def M : Fw := ⟨prog, 44, f44, [54, 99], [1, 7], false, [], [], [(488, [(5, wL), (26, wL), (27, wI), (28, wI)]), (250664, [(5, wL), (7, .X 196 [.I .i64, .I .i64, .L]), (26, wL), (27, wI), (28, wI), (39, wL), (40, wI), (41, wI)]), (250680, [(5, wL), (26, wL), (27, wI), (28, wI), (51, wL), (52, wI), (53, wI)])]⟩
theorem ok : M.Ok := ⟨.cons call54 (.cons call99 (AM.nil)), mixed, func44, by kernel_rfl⟩
def JL := M.pt 0
def W7 := M.pt 1
def qa := M.pt 2
theorem start (h : ∀ b1 : Nat, Spec prog 54 #[.agg #[.int .u64 E6, .slice HX Gd HY]] σ (AB R (CI .i64 fun FU y => Br (FU ≠ 0) (R (.returned (.tuple #[.slice none 0 0, .int .i64 FU])) y) (Df (IntKind.u64.wrap (Gd : Int)) fun Po => Spec prog 99 #[.slice none 0 0, .int .u64 E6] y (AB R (CS fun Zu n19 Yr AI => Spec prog 99 #[.slice Zu n19 Yr, .int .u64 Po] AI (AB R (CS fun ca n24 c24 AV => JL R ca n24 c24 HX Gd HY (Gd : Int) 0 AV)))))))) : Spec prog 44 #[.agg #[.int .u64 E6, .slice HX Gd HY]] σ R := M.start h ok
theorem Gm (h : Br (G9 < JB) (Pq Wk fun TW Yz => In G9 (n26 : Int) ∧ ∃ Wx Wy ACZ xi ACa, EF σ TW (Yz + Int.toNat G9 * 3) [.int .i64 Wx, .int .i64 Wy, .slice ACZ xi ACa] ∧ ∀ b7 : Nat, Al σ fun Ny => W7 R p5 n5 c5 Wx Wy ACZ xi ACa (aD TW Yz) n26 TQ JB G9 (aD Ny 0) 3 3 3 0 (Hp.set σ Ny (.cells #[.int .i64 Wx, .int .i64 Wy, (.int .i64 (xi : Int))] 3 (0, 0)))) (R (.returned (.tuple #[.slice p5 n5 c5, .int .i64 0])) σ)) : JL R p5 n5 c5 Wk n26 TQ JB G9 σ := M.of h ok rfl
theorem JO (h : Br (Lh < Pp) (Pq kj fun GQ Pr => In Lh (n39 : Int) ∧ LI .i64 σ GQ (Pr + Int.toNat Lh * 1) fun qD => Df (IntKind.u64.wrap qD) fun SJ => Spec prog 99 #[.slice p5 n5 c5, .int .u64 SJ] σ (AB R (CS fun p48 n48 c48 y => AO (Lh + 1) ∧ W7 R p48 n48 c48 Nu iV qA oL qB Wk n26 TQ JB G9 (aD GQ Pr) n39 SN Pp (Lh + 1) y))) (qa R p5 n5 c5 Wk n26 TQ JB G9 qA oL qB (oL : Int) 0 σ)) : W7 R p5 n5 c5 Nu iV qA oL qB Wk n26 TQ JB G9 kj n39 SN Pp Lh σ := M.SI h ok rfl fun _ => by kernel_rfl
theorem cn (h : Br (PJ < TR) (Pq p51 fun Vi xQ => In PJ (n51 : Int) ∧ LI .u32 σ Vi (xQ + Int.toNat PJ * 1) fun x56 => Df (IntKind.u64.wrap x56) fun pe => Spec prog 99 #[.slice p5 n5 c5, .int .u64 pe] σ (AB R (CS fun p60 n60 c60 y => AO (PJ + 1) ∧ qa R p60 n60 c60 Wk n26 TQ JB G9 (aD Vi xQ) n51 c51 TR (PJ + 1) y))) (AO (G9 + 1) ∧ JL R p5 n5 c5 Wk n26 TQ JB (G9 + 1) σ)) : qa R p5 n5 c5 Wk n26 TQ JB G9 p51 n51 c51 TR PJ σ := M.of h ok rfl
end Bc
namespace HA
variable {E6 x8 x9 : Int} {HX p3 p7 : Option Addr} {Gd HY n3 c3 n7 c7 : Nat}
def M : Fw := ⟨prog, 54, f54, [117, 118, 119], [1, 5], false, [], [], [(232, [(3, wL), (7, wL), (8, wI), (9, wI)])]⟩
theorem ok : M.Ok := ⟨.cons call117 (.cons call118 (.cons call119 (AM.nil))), mixed, func54, by kernel_rfl⟩
def A1 := M.pt 0
theorem start (h : ∀ b1 : Nat, A1 R none 0 0 HX Gd HY (Gd : Int) 0 σ) : Spec prog 54 #[.agg #[.int .u64 E6, .slice HX Gd HY]] σ R := M.start h ok
theorem AW (h : Br (x9 < x8) (Pq p7 fun EH Gk => In x9 (n7 : Int) ∧ ∃ Uw Nz ACb qb ACc, EF σ EH (Gk + Int.toNat x9 * 3) [.int .i64 Uw, .int .i64 Nz, .slice ACb qb ACc] ∧ ∀ b5 : Nat, Al σ fun Ko => AJ prog (Builtin.append_ #[26, 26] 26 #[.slice p3 n3 c3, (.slice (aD Ko 0) 1 1)]) (Hp.set σ Ko (.cells #[.int .i64 Uw] 3 (0, 0))) (CS fun qc n17 qe y => Spec prog 117 #[.int .i64 Uw] y (AB R (CB fun t20 AI => Bn t20 (R (.returned (.int .i64 130)) AI) (Br (Nz < 1) (R (.returned (.int .i64 130)) AI) (Br (3 < Nz) (R (.returned (.int .i64 130)) AI) (Br ((qb : Int) = 0) (R (.returned (.int .i64 130)) AI) (Br (64 < (qb : Int)) (R (.returned (.int .i64 130)) AI) (Spec prog 118 #[.slice ACb qb ACc] AI (AB R (CB fun t47 AV => Bn t47 (R (.returned (.int .i64 130)) AV) (AO (x9 + 1) ∧ A1 R qc n17 qe (aD EH Gk) n7 c7 x8 (x9 + 1) AV)))))))))))) (Spec prog 119 #[.slice p3 n3 c3] σ (AB R (CB fun t52 y => Bn t52 (R (.returned (.int .i64 130)) y) (R (.returned (.int .i64 0)) y))))) : A1 R p3 n3 c3 p7 n7 c7 x8 x9 σ := M.of h ok rfl
end HA
namespace GV
variable {q0 p1 p5 : Option Addr} {n1 c1 n5 c5 : Nat}
def M : Fw := ⟨prog, 69, f69, [71, 139, 140, 141], [], false, [], [], [(124, [(0, wQ), (5, wL)])]⟩
theorem ok : M.Ok := ⟨.cons call71 (.cons call139 (.cons call140 (.cons call141 (AM.nil)))), mixed, func69, by kernel_rfl⟩
def QT := M.pt 0
theorem start (h : Spec prog 139 #[.slice p1 n1 c1] σ (AB R (fun z y => ∃ fI fJ fK EB, z = (.tuple #[.slice fI fJ fK, .int .i64 EB]) ∧ Br (EB ≠ 0) (R (.returned (.int .i64 70)) y) (Pq q0 fun SO fL => LI .i64 y SO (fL + 3) fun MS => Br (4096 ≤ MS) (Spec prog 71 #[(.pointer (aD SO fL))] y (AB R (CI .i64 fun PI AI => Br (PI ≠ 0) (R (.returned (.int .i64 PI)) AI) (LI .i64 AI SO (fL + 2) fun MG => AO (MG + 1) ∧ AJ prog (Instr.storeAt 3 (.pointer (aD SO (fL + 2))) (.int .i64 (MG + 1))) AI (fun _ AV => AJ prog (Instr.storeAt 3 (.pointer (aD SO (fL + 3))) (.int .i64 (-1))) AV (fun _ Ay => LI .i64 Ay SO (fL + 5) fun ez => AO (ez + 1) ∧ AJ prog (Instr.storeAt 3 (.pointer (aD SO (fL + 5))) (.int .i64 (ez + 1))) Ay (fun _ Dj => QT R (aD SO fL) fI fJ fK Dj))))))) (QT R (aD SO fL) fI fJ fK y))))) : Spec prog 69 #[.pointer q0, .slice p1 n1 c1] σ R := M.start h ok
theorem Pm (h : Pq q0 fun Wm Yt => LQ σ Wm Yt fun xj => LI .i64 σ Wm (Yt + 2) fun Yw => Spec prog 141 #[(.pointer (aD Wm Yt)), .int .i64 Yw] σ (AB R (CT fun s52 y => Kp [Wm] σ y ∧ Spec prog 140 #[.pointer xj, .string s52, .slice p5 n5 c5] y (AB R (CI .i64 fun kk AI => Br (kk ≠ 0) (R (.returned (.int .i64 kk)) AI) (LI .i64 AI Wm (Yt + 3) fun xk => AO ((if xk < 0 then 0 else xk) + (n5 : Int)) ∧ AJ prog (Instr.storeAt 3 (.pointer (aD Wm (Yt + 3))) (.int .i64 ((if xk < 0 then 0 else xk) + (n5 : Int)))) AI (fun _ AV => R (.returned (.int .i64 0)) AV))))))) : QT R q0 p5 n5 c5 σ := M.of h ok rfl
end GV
namespace Li
variable {q0 : Option Addr}
def M : Fw := ⟨prog, 71, f71, [141, 144], [], false, [], [], []⟩
theorem ok : M.Ok := ⟨.cons call141 (.cons call144 (AM.nil)), mixed, func71, by kernel_rfl⟩
theorem start (h : Pq q0 fun b4 o4 => LI .i64 σ b4 (o4 + 3) fun x6 => Br (x6 < 0) (R (.returned (.int .i64 0)) σ) (LQ σ b4 o4 fun qf => LI .i64 σ b4 (o4 + 2) fun FF => Spec prog 141 #[(.pointer (aD b4 o4)), .int .i64 FF] σ (AB R (CT fun s17 y => Kp [b4] σ y ∧ Spec prog 144 #[.pointer qf, .string s17] y (AB R (CI .i64 fun FT AI => R (.returned (.int .i64 FT)) AI)))))) : Spec prog 71 #[.pointer q0] σ R := M.start h ok
end Li
namespace Gx
variable {q0 p9 PF J6 : Option Addr} {s1 : ByteArray} {x7 Eg FU : Int} {n9 c9 n10 H6 n12 c12 : Nat}
def M : Fw := ⟨prog, 97, f97, [147, 149, 150, 178, 179, 180, 181, 182, 183], [], false, [], [], [(510, [(0, wQ), (1, wT), (7, wI), (9, wL)]), (32720, [(0, wQ), (1, wT), (7, wI), (9, wL), (10, wL), (11, wI)]), (131024, [(0, wQ), (1, wT), (7, wI), (9, wL), (12, wL), (13, wI)]), (8190, [(0, wQ), (1, wT), (7, wI), (12, wL)]), (32723, [(0, wQ), (1, wT), (7, wI), (9, wL), (10, wL), (11, wI)])]⟩
theorem ok : M.Ok := ⟨.cons call147 (.cons call149 (.cons call150 (.cons call178 (.cons call179 (.cons call180 (.cons call181 (.cons call182 (.cons call183 (AM.nil))))))))), mixed, func97, by kernel_rfl⟩
def QV := M.pt 0
def ACe := M.pt 1
def xl := M.pt 2
def xm := M.pt 3
def QZ := M.pt 4
theorem start (h : Br ((32 : Int) < ((ByteArray.size s1 : Nat) : Int)) (R (.returned (.tuple #[.pointer none, .slice none 0 0, .int .i64 71])) σ) (Spec prog 178 #[.string s1] σ (AB R (CB fun t25 y => Bn t25 (R (.returned (.tuple #[.pointer none, .slice none 0 0, .int .i64 71])) y) (Pq q0 fun Kn TT => LB y Kn (TT + 1) fun t31 => Bo t31 (R (.returned (.tuple #[.pointer none, .slice none 0 0, .int .i64 60])) y) (Spec prog 179 #[(.pointer (aD Kn TT)), .string s1] y (AB R (fun z AI => ∃ kl xn, z = (.tuple #[.int .i64 kl, .int .i64 xn]) ∧ Br (xn ≠ 0) (R (.returned (.tuple #[.pointer none, .slice none 0 0, .int .i64 xn])) AI) (Br (0 < kl) ((ByteArray.size s1 + ByteArray.size (ByteArray.mk #[47, 99]) ≤ 9223372036854775807) ∧ Spec prog 147 #[.int .i64 kl] AI (AB R (CT fun xo AV => (ByteArray.size (s1 ++ (ByteArray.mk #[47, 99])) + ByteArray.size xo ≤ 9223372036854775807) ∧ Al AV fun NR => AJ prog (Builtin.append_ #[97, 97] 97 #[.slice none 0 0, (.slice (aD NR 0) 1 1)]) (Hp.set AV NR (.cells #[(.string ((s1 ++ (ByteArray.mk #[47, 99])) ++ xo))] 9 (0, 0))) (CS fun fM n50 fN Ay => QV R (aD Kn TT) s1 kl fM n50 fN Ay)))) (QV R (aD Kn TT) s1 kl none 0 0 AI)))))))))) : Spec prog 97 #[.pointer q0, .string s1] σ R := M.start h ok
theorem Ur (h : (ByteArray.size s1 + ByteArray.size (ByteArray.mk #[47, 115]) ≤ 9223372036854775807) ∧ Spec prog 149 #[.pointer q0, (.string (s1 ++ (ByteArray.mk #[47, 115])))] σ (AB R (CS fun p54 n54 c54 y => ACe R q0 s1 x7 p9 n9 c9 p54 n54 c54 0 y))) : QV R q0 s1 x7 p9 n9 c9 σ := M.of h ok rfl
theorem qg (h : Br (Eg < (n10 : Int)) (Pq PF fun xp xq => In Eg (n10 : Int) ∧ LT σ xp (xq + Int.toNat Eg * 1) fun s64 => (ByteArray.size s1 + ByteArray.size (ByteArray.mk #[47, 115]) ≤ 9223372036854775807) ∧ Spec prog 150 #[.string s64, (.string (s1 ++ (ByteArray.mk #[47, 115])))] σ (AB R (CI .i64 fun x67 y => Br (x7 < x67) (In Eg (n10 : Int) ∧ LT y xp (xq + Int.toNat Eg * 1) fun s74 => Al y fun b75 => AJ prog (Builtin.append_ #[97, 97] 97 #[.slice p9 n9 c9, (.slice (aD b75 0) 1 1)]) (Hp.set y b75 (.cells #[.string s74] 9 (0, 0))) (CS fun p76 n76 c76 AI => QZ R q0 s1 x7 p76 n76 c76 (aD xp xq) n10 H6 Eg AI)) (QZ R q0 s1 x7 p9 n9 c9 (aD xp xq) n10 H6 Eg y)))) (xl R q0 s1 x7 p9 n9 c9 none 0 0 0 σ)) : ACe R q0 s1 x7 p9 n9 c9 PF n10 H6 Eg σ := M.of h ok rfl
theorem qh (h : Br (FU < (n9 : Int)) (Pq p9 fun b87 o87 => In FU (n9 : Int) ∧ LT σ b87 (o87 + Int.toNat FU * 1) fun s88 => Spec prog 180 #[.pointer q0, .string s88] σ (AB R (fun z y => ∃ ACf ACg ACh AJ7, z = (.tuple #[.slice ACf ACg ACh, .int .i64 AJ7]) ∧ Spec prog 181 #[.slice ACf ACg ACh] y (AB R (fun z AI => ∃ xr xt xu ACi, z = (.tuple #[.slice xr xt xu, .bool ACi]) ∧ AJ prog (Builtin.append_ #[165, 165] 165 #[.slice J6 n12 c12, .slice xr xt xu]) AI (CS fun p99 n99 c99 AV => Bo ACi (In FU (n9 : Int) ∧ LT AV b87 (o87 + Int.toNat FU * 1) fun AJ8 => AO (FU + 1) ∧ ((0 : Int) ≤ (FU + 1) ∧ (FU + 1) ≤ (n9 : Int)) ∧ Spec prog 182 #[.pointer q0, .string s1, .string AJ8, (.slice (GP (aD b87 o87) (Int.toNat (FU + 1)) c9 1) (n9 - Int.toNat (FU + 1)) (c9 - Int.toNat (FU + 1))), .slice xr xt xu] AV (AB R (CI .i64 fun ACj Ay => Br (ACj ≠ 0) (R (.returned (.tuple #[.pointer none, .slice none 0 0, .int .i64 ACj])) Ay) (xm R q0 s1 x7 p99 n99 c99 Ay)))) (AO (FU + 1) ∧ xl R q0 s1 x7 (aD b87 o87) n9 c9 p99 n99 c99 (FU + 1) AV))))))) (xm R q0 s1 x7 J6 n12 c12 σ)) : xl R q0 s1 x7 p9 n9 c9 J6 n12 c12 FU σ := M.of h ok rfl
theorem qi (h : Al σ fun xv => Spec prog 183 #[(.pointer (aD xv 0)), .int .i64 x7] (Hp.set σ xv (.cells #[.pointer q0, .string s1, .int .i64 0, .int .i64 0, .int .i64 0, .int .i64 0] 146 (0, 0))) (AB R (fun z y => z = (.tuple #[]) ∧ R (.returned (.tuple #[(.pointer (aD xv 0)), .slice J6 n12 c12, .int .i64 0])) y))) : xm R q0 s1 x7 J6 n12 c12 σ := M.of h ok rfl
end Gx
namespace Az
variable {b0 b1 b2 cp cu n49 c49 : Nat} {Nu R4 Yw : Int} {cw Wq : Option Addr}
def M : Fw := ⟨prog, 107, f107, [23, 24, 39, 53, 108, 109], [7, 10], false, [(7, 14, false), (16, 19, false)], [], [(4072, [(1, wA), (2, wA), (7, .X 41 [.I .u64, .L]), (49, wL), (50, wI), (51, wI)])]⟩
theorem ok : M.Ok := ⟨.cons call23 (.cons call24 (.cons call39 (.cons call53 (.cons call108 (.cons call109 (AM.nil)))))), mixed, func107, by kernel_rfl⟩
def Me := M.pt 0
theorem start (h : LQ σ b0 0 fun H8 => Bo (Option.isNone H8) (R (.returned (.int .i64 5)) σ) (LQ σ b0 0 fun xF => Spec prog 39 #[.pointer xF, (.string (ByteArray.mk #[114, 105, 110, 103]))] σ (AB R (fun z y => ∃ Qa Qb Qc LK Qd, z = (.tuple #[.slice Qa Qb Qc, .int .u64 LK, .int .i64 Qd]) ∧ Spec prog 108 #[.slice Qa Qb Qc] y (AB R (fun z AI => ∃ km uD uE uF Mg, z = (.tuple #[.agg #[.int .u64 km, .slice uD uE uF], .int .i64 Mg]) ∧ ∀ b7 : Nat, Br (Qd ≠ 0) (R (.returned (.int .i64 5)) AI) (Br (Mg ≠ 0) (R (.returned (.int .i64 5)) AI) (LQ AI b2 0 fun q32 => LQ AI b1 0 fun q35 => Pq q35 fun qY qZ => LI .i64 AI qY (qZ + 1) fun ez => 2 ≠ (0 : Int) ∧ Df (IntKind.i64.wrap (Int.tdiv ez 2)) fun Pp => AO (Pp + 1) ∧ Al AI fun GQ => Pq q32 fun Wm Yt => AJ prog (Instr.storeAt 43 (.pointer (aD Wm (Yt + 5))) (.pointer (aD GQ 0))) (Hp.set AI GQ (.cells #[.int .u64 km, (.int .i64 (Pp + 1)), .slice none 0 0] 126 (0, 0))) (fun _ AV => LQ AV b2 0 fun xj => Pq xj fun cX kM => LS AV cX (kM + 3) fun Wq n49 c49 => Me R b1 b2 km uD uE uF Wq n49 c49 (n49 : Int) 0 AV))))))))) : Spec prog 107 #[(.pointer (aD b0 0)), (.pointer (aD b1 0)), (.pointer (aD b2 0))] σ R := M.start h ok
theorem JM (h : Br (Yw < R4) (Pq Wq fun uG uH => In Yw (n49 : Int) ∧ ∃ ACk ACl ACm ACn ACo, EF σ uG (uH + Int.toNat Yw * 3) [.slice ACk ACl ACm, .int .i64 ACn, .int .u64 ACo] ∧ ∀ EL : Nat, Spec prog 53 #[.agg #[.slice ACk ACl ACm, .int .i64 ACn, .int .u64 ACo]] σ (AB R (fun z y => ∃ qj ql qm xw ACp, z = (.agg #[.slice qj ql qm, .int .i64 xw, .int .u64 ACp]) ∧ Spec prog 109 #[.int .u64 ACp] y (AB R (CI .u64 fun pe AI => LQ AI b1 0 fun q66 => Pq q66 fun b67 o67 => LI .i64 AI b67 (o67 + 1) fun xx => Spec prog 24 #[.slice qj ql qm] AI (AB R (CI .u32 fun pg AV => Kp [b67, b1] AI AV ∧ Spec prog 23 #[.agg #[.int .u64 Nu, .slice cw cp cu], .int .u32 pg, .int .i64 xx] AV (AB R (fun z Ay => ∃ xy yA yB ACq, z = (.tuple #[.slice xy yA yB, .int .i64 ACq]) ∧ Br (ACq ≠ 0) (R (.returned (.int .i64 5)) Ay) (LQ Ay b2 0 fun q76 => Pq q76 fun b77 o77 => LQ Ay b77 (o77 + 5) fun q79 => LQ Ay b2 0 fun q80 => Pq q80 fun b81 o81 => LQ Ay b81 (o81 + 5) fun q83 => Pq q83 fun b84 o84 => LS Ay b84 (o84 + 2) fun p86 n86 c86 => AJ prog (Instr.makeMap 127 none) Ay (fun z Dj => ∃ m89, z = (.map (some m89)) ∧ Kp [b84, b81, b2, b77, b2] Ay Dj ∧ Al Dj fun b91 => AJ prog (Builtin.append_ #[124, 124] 124 #[.slice p86 n86 c86, (.slice (aD b91 0) 1 1)]) (Hp.set Dj b91 (.cells #[.slice qj ql qm, .int .i64 xw, .int .u64 pe, .slice xy yA yB, (.map (some m89))] 129 (0, 0))) (CS fun p92 n92 c92 Ge => Kp [b77, b2] (Hp.set Dj b91 (.cells #[.slice qj ql qm, .int .i64 xw, .int .u64 pe, .slice xy yA yB, (.map (some m89))] 129 (0, 0))) Ge ∧ Pq q79 fun SM o93 => AJ prog (Instr.storeAt 124 (.pointer (aD SM (o93 + 2))) (.slice p92 n92 c92)) Ge (fun _ Qe => AO (Yw + 1) ∧ Me R b1 b2 Nu cw cp cu (aD uG uH) n49 c49 R4 (Yw + 1) Qe))))))))))))) (R (.returned (.int .i64 0)) σ)) : Me R b1 b2 Nu cw cp cu Wq n49 c49 R4 Yw σ := M.SI h ok rfl fun _ => by kernel_rfl
end Az
namespace Lj
variable {x0 : Int}
def M : Fw := ⟨prog, 109, f109, [197], [], false, [], [], []⟩
theorem ok : M.Ok := ⟨.cons call197 (AM.nil), mixed, func109, by kernel_rfl⟩
theorem start (h : Br (x0 ≠ 9218868437227405314) (∃ ve, YN prog 198 #[.int .u64 x0] σ ve ∧ (fun z y => ∃ v7, v7 = z ∧ Spec prog 197 #[v7] σ (AB R (CB fun t8 AI => Bo t8 (R (.returned (.int .u64 9221120237041090560)) AI) (R (.returned (.int .u64 x0)) AI)))) ve σ) (R (.returned (.int .u64 x0)) σ)) : Spec prog 109 #[.int .u64 x0] σ R := M.start h ok
end Lj
namespace DN
variable {p0 : Option Addr} {n0 c0 : Nat} {x3 : Int}
def M : Fw := ⟨prog, 119, f119, [], [], false, [(4, 10, true)], [], [(208, [(0, wL), (3, wI)])]⟩
theorem ok : M.Ok := ⟨AM.nil, mixed, func119, by kernel_rfl⟩
def La := M.pt 0
theorem start (h : La R p0 n0 c0 1 σ) : Spec prog 119 #[.slice p0 n0 c0] σ R := M.start h ok
theorem DF (h : Br (x3 < (n0 : Int)) (Pq p0 fun PK Qf => In x3 (n0 : Int) ∧ LI .i64 σ PK (Qf + Int.toNat x3 * 1) fun FU => AO (x3 - 1) ∧ In (x3 - 1) (n0 : Int) ∧ LI .i64 σ PK (Qf + Int.toNat (x3 - 1) * 1) fun FT => Br (FU ≤ FT) (R (.returned (.bool false)) σ) (AO (x3 + 1) ∧ La R (aD PK Qf) n0 c0 (x3 + 1) σ)) (R (.returned (.bool true)) σ)) : La R p0 n0 c0 x3 σ := M.of h ok rfl
end DN
namespace HB
variable {x0 x1 : Int}
def M : Fw := ⟨prog, 123, f123, [213], [], false, [], [], []⟩
theorem ok : M.Ok := ⟨.cons call213 (AM.nil), mixed, func123, by kernel_rfl⟩
theorem start (h : Spec prog 213 #[.int .u32 x0] σ (AB R (CB fun t8 y => Spec prog 213 #[.int .u32 x1] y (AB R (CB fun t10 AI => Bo t8 (Bo t10 (R (.returned (.int .i64 0)) AI) (R (.returned (.int .i64 (-1))) AI)) (Bo t10 (R (.returned (.int .i64 1)) AI) (Br (x0 < x1) (R (.returned (.int .i64 (-1))) AI) (Br (x1 < x0) (R (.returned (.int .i64 1)) AI) (R (.returned (.int .i64 0)) AI))))))))) : Spec prog 123 #[.int .u32 x0, .int .u32 x1] σ R := M.start h ok
end HB
namespace EP
variable {v0 : Value} {b1 b2 : Nat} {x6 x7 : Int}
def M : Fw := ⟨prog, 125, f125, [], [100000], false, [], [], [(24, [(0, wV), (1, wA), (2, wA), (6, wI), (7, wI)])]⟩
theorem ok : M.Ok := ⟨AM.nil, mixed, func125, by kernel_rfl⟩
def pt5 := M.pt 0
theorem start (h : LS σ b1 0 fun p5 n5 c5 => pt5 R v0 b1 b2 (n5 : Int) 0 σ) : Spec prog 125 #[v0, (.pointer (aD b1 0)), (.pointer (aD b2 0))] σ R := M.KH h ok [(0, .o (.V v0)), (1, .o (.A b1)), (2, .o (.A b2))] rfl rfl (by kernel_rfl)
theorem kn (h : Br (x7 < x6) (LS σ b1 0 fun cQ n11 iT => LI .i64 σ b2 0 fun Du => AO (Du + x7) ∧ LS σ b1 0 fun p15 n15 c15 => (n15 : Int) ≠ (0 : Int) ∧ Df (Int.tmod (Du + x7) (n15 : Int)) fun D8 => Pq cQ fun Nt TP => In D8 (n11 : Int) ∧ LI .i64 σ Nt ((TP + Int.toNat D8 * 2) + 1) fun Ws => ∃ l21 : Nat, v0 = .func (.yield l21) #[] #[] ∧ J9 prog l21 #[.int .i64 Ws] σ (AB R (CB fun t21 y => Bn t21 (R (.returned (.tuple #[])) y) (AO (x7 + 1) ∧ pt5 R v0 b1 b2 x6 (x7 + 1) y)))) (R (.returned (.tuple #[])) σ)) : pt5 R v0 b1 b2 x6 x7 σ := M.of h ok rfl
end EP
namespace BP
variable {b0 b1 : Nat}
def M : Fw := ⟨prog, 130, f130, [131, 132, 133, 134, 135], [], false, [(1, 10, false), (4, 11, false), (6, 13, false), (7, 9, true)], [], [(6, [(0, wA), (1, wA)]), (15, [(0, wA), (1, wA)])]⟩
theorem ok : M.Ok := ⟨.cons call131 (.cons call132 (.cons call133 (.cons call134 (.cons call135 (AM.nil))))), mixed, func130, by kernel_rfl⟩
def CF := M.pt 0
def Gp := M.pt 1
theorem start (h : LQ σ b0 0 fun q2 => Spec prog 131 #[.pointer q2] σ (AB R (CB fun t3 y => Bo t3 (LQ y b0 0 fun q5 => Pq q5 fun b6 o6 => LI .i64 y b6 (o6 + 5) fun x8 => Br (4096 ≤ x8) (LQ y b0 0 fun qf => Pq qf fun PK Qf => LQ y PK Qf fun HZ => LQ y b0 0 fun qW => LQ y b0 0 fun xF => Pq xF fun SO fL => LI .i64 y SO (fL + 4) fun MS => Spec prog 134 #[.pointer qW, (.string (ByteArray.mk #[115])), .int .i64 MS] y (AB R (CT fun s20 AI => Kp [PK, b0] y AI ∧ Spec prog 133 #[.pointer HZ, .string s20] AI (AB R (CI .i64 fun Hj AV => Spec prog 132 #[.int .i64 Hj] AV (AB R (fun z Ay => z = (.tuple #[]) ∧ LQ Ay b0 0 fun q23 => Pq q23 fun NN cy => LI .i64 Ay NN (cy + 4) fun IK => AO (IK + 1) ∧ AJ prog (Instr.storeAt 3 (.pointer (aD NN (cy + 4))) (.int .i64 (IK + 1))) Ay (fun _ Dj => LQ Dj b0 0 fun q30 => Pq q30 fun J5 qn => AJ prog (Instr.storeAt 3 (.pointer (aD J5 (qn + 5))) (.int .i64 0)) Dj (fun _ Ge => CF R b0 b1 Ge))))))))) (CF R b0 b1 y)) (CF R b0 b1 y)))) : Spec prog 130 #[(.pointer (aD b0 0)), (.pointer (aD b1 0))] σ R := M.start h ok
theorem BX (h : LQ σ b0 0 fun q33 => Pq q33 fun b34 o34 => LQ σ b34 o34 fun q36 => LQ σ b0 0 fun q37 => LQ σ b0 0 fun q38 => Pq q38 fun Ny cz => LI .i64 σ Ny (cz + 4) fun Lh => LS σ b1 0 fun Uu n43 Vk => Spec prog 134 #[.pointer q37, (.string (ByteArray.mk #[115])), .int .i64 Lh] σ (AB R (CT fun s42 y => Kp [b1, b34, b0] σ y ∧ Spec prog 135 #[.pointer q36, .string s42, .slice Uu n43 Vk] y (AB R (CI .i64 fun qD AI => Spec prog 132 #[.int .i64 qD] AI (AB R (fun z AV => z = (.tuple #[]) ∧ LQ AV b0 0 fun xj => Spec prog 131 #[.pointer xj] AV (AB R (CB fun t47 Ay => Bn t47 (LQ Ay b0 0 fun q49 => LQ Ay b0 0 fun q50 => Pq q50 fun Zv Zw => LS Ay Zv (Zw + 3) fun p53 n53 c53 => LQ Ay b0 0 fun q54 => Pq q54 fun Vi xQ => LI .i64 Ay Vi (xQ + 4) fun x57 => Al Ay fun NS => AJ prog (Builtin.append_ #[26, 26] 26 #[.slice p53 n53 c53, (.slice (aD NS 0) 1 1)]) (Hp.set Ay NS (.cells #[.int .i64 x57] 3 (0, 0))) (CS fun p59 n59 c59 Dj => Kp [b0] (Hp.set Ay NS (.cells #[.int .i64 x57] 3 (0, 0))) Dj ∧ Pq q49 fun R5 o60 => AJ prog (Instr.storeAt 26 (.pointer (aD R5 (o60 + 3))) (.slice p59 n59 c59)) Dj (fun _ Ge => Gp R b0 b1 Ge))) (Gp R b0 b1 Ay)))))))))) : CF R b0 b1 σ := M.of h ok rfl
theorem Gq (h : LQ σ b0 0 fun q62 => Pq q62 fun xp xq => LI .i64 σ xp (xq + 5) fun pg => LS σ b1 0 fun p66 n66 c66 => AO (pg + (n66 : Int)) ∧ AJ prog (Instr.storeAt 3 (.pointer (aD xp (xq + 5))) (.int .i64 (pg + (n66 : Int)))) σ (fun _ y => R (.returned (.tuple #[])) y)) : Gp R b0 b1 σ := M.of h ok rfl
end BP
namespace bytes_Equal
variable {p0 p1 : Option Addr} {n0 c0 n1 c1 : Nat}
def M : Fw := ⟨prog, 196, f196, [], [], false, [], [], []⟩
theorem ok : M.Ok := ⟨AM.nil, mixed, func196, by kernel_rfl⟩
theorem start (h : AJ prog (convert 84 9 (.slice p0 n0 c0)) σ (CT fun s6 y => AJ prog (convert 84 9 (.slice p1 n1 c1)) y (CT fun s8 AI => R (.returned (.bool (ByteArray.toList s6 == ByteArray.toList s8))) AI))) : Spec prog 196 #[.slice p0 n0 c0, .slice p1 n1 c1] σ R := M.start h ok
end bytes_Equal
namespace Ig
variable {p0 p8 : Option Addr} {n0 c0 b3 n8 c8 : Nat} {x4 x9 Di : Int}
def M : Fw := ⟨prog, 219, f219, [289], [], false, [], [], [(488, [(3, wA), (4, cJ), (8, wL), (9, wI), (10, wI)])]⟩
theorem ok : M.Ok := ⟨.cons call289 (AM.nil), mixed, func219, by kernel_rfl⟩
def HC := M.pt 0
theorem start (h : Spec prog 289 #[] σ (AB R (fun z y => ∃ Nu iV x7c x7d x7e x7f x7g x7h x7i x7j x7k x7l x7m x7n x7o x7p, z = (.agg #[.int .u32 Nu, .int .u32 iV, .int .u32 x7c, .int .u32 x7d, .int .u32 x7e, .int .u32 x7f, .int .u32 x7g, .int .u32 x7h, .int .u32 x7i, .int .u32 x7j, .int .u32 x7k, .int .u32 x7l, .int .u32 x7m, .int .u32 x7n, .int .u32 x7o, .int .u32 x7p]) ∧ Al y fun b3 => AJ prog (Instr.storeAt 338 (.pointer (aD b3 0)) (.agg #[.int .u32 Nu, .int .u32 iV, .int .u32 x7c, .int .u32 x7d, .int .u32 x7e, .int .u32 x7f, .int .u32 x7g, .int .u32 x7h, .int .u32 x7i, .int .u32 x7j, .int .u32 x7k, .int .u32 x7l, .int .u32 x7m, .int .u32 x7n, .int .u32 x7o, .int .u32 x7p])) (Hp.set y b3 (.cells #[.int .u32 0, .int .u32 0, .int .u32 0, .int .u32 0, .int .u32 0, .int .u32 0, .int .u32 0, .int .u32 0, .int .u32 0, .int .u32 0, .int .u32 0, .int .u32 0, .int .u32 0, .int .u32 0, .int .u32 0, .int .u32 0] 338 (0, 0))) (fun _ AI => HC R b3 4294967295 p0 n0 c0 (n0 : Int) 0 AI)))) : Spec prog 219 #[.slice p0 n0 c0] σ R := M.start h ok
theorem F5 (h : Br (Di < x9) (Pq p8 fun PK Qf => In Di (n8 : Int) ∧ LI .u8 σ PK (Qf + Int.toNat Di * 1) fun FU => Df (IntKind.u32.wrap FU) fun FF => Df (Go.bits .xor .u32 x4 FF) fun D8 => ((0 : Int) ≤ 4 ∧ 4 ≤ ((IntKind.bits .u32 : Nat) : Int)) ∧ Df (D8 / 2 ^ Int.toNat 4) fun MS => Df (Go.bits .and .u32 D8 15) fun Hj => In Hj 16 ∧ LI .u32 σ b3 (0 + Int.toNat Hj * 1) fun Po => Df (Go.bits .xor .u32 MS Po) fun J4 => ((0 : Int) ≤ 4 ∧ 4 ≤ ((IntKind.bits .u32 : Nat) : Int)) ∧ Df (J4 / 2 ^ Int.toNat 4) fun IK => Df (Go.bits .and .u32 J4 15) fun G9 => In G9 16 ∧ LI .u32 σ b3 (0 + Int.toNat G9 * 1) fun oK => Df (Go.bits .xor .u32 IK oK) fun Hm => AO (Di + 1) ∧ HC R b3 Hm (aD PK Qf) n8 c8 x9 (Di + 1) σ) (∃ fO, YF prog (Op.unary .xor (.int .u32 x4)) σ (.int .u32 fO) ∧ R (.returned (.int .u32 fO)) σ)) : HC R b3 x4 p8 n8 c8 x9 Di σ := M.of h ok rfl
end Ig
namespace Ih
variable {q0 : Option Addr} {s1 s2 : ByteArray}
def M : Fw := ⟨prog, 231, f231, [221], [], false, [], [], []⟩
theorem ok : M.Ok := ⟨.cons call221 (AM.nil), mixed, func231, by kernel_rfl⟩
theorem start (h : Al σ fun b3 => Al (Hp.set σ b3 (.cells #[.pointer q0] 106 (0, 0))) fun b4 => Al (Hp.set (Hp.set σ b3 (.cells #[.pointer q0] 106 (0, 0))) b4 (.cells #[.string s1] 9 (0, 0))) fun b5 => LQ (Hp.set (Hp.set (Hp.set σ b3 (.cells #[.pointer q0] 106 (0, 0))) b4 (.cells #[.string s1] 9 (0, 0))) b5 (.cells #[.string s2] 9 (0, 0))) b3 0 fun q7 => Spec prog 221 #[.pointer q7, (.func (.func 292) #[] #[(.pointer (aD b5 0)), (.pointer (aD b3 0)), (.pointer (aD b4 0))]), (.func (.func 293) #[] #[(.pointer (aD b3 0)), (.pointer (aD b4 0)), (.pointer (aD b5 0))]), (.func (.func 225) #[] #[])] (Hp.set (Hp.set (Hp.set σ b3 (.cells #[.pointer q0] 106 (0, 0))) b4 (.cells #[.string s1] 9 (0, 0))) b5 (.cells #[.string s2] 9 (0, 0))) (AB R (CI .i64 fun Di y => R (.returned (.int .i64 Di)) y))) : Spec prog 231 #[.pointer q0, .string s1, .string s2] σ R := M.start h ok
end Ih
namespace Cz
variable {q0 : Option Addr} {s1 : ByteArray} {x6 : Int}
def M : Fw := ⟨prog, 237, f237, [], [], false, [(4, 22, true)], [], [(224, [(0, wQ), (1, wT), (6, wI)])]⟩
theorem ok : M.Ok := ⟨AM.nil, mixed, func237, by kernel_rfl⟩
def La := M.pt 0
theorem start (h : La R q0 s1 0 σ) : Spec prog 237 #[.pointer q0, .string s1] σ R := M.start h ok
theorem DF (h : Pq q0 fun b9 o9 => LS σ b9 o9 fun cQ n11 iT => Br (x6 < (n11 : Int)) (LS σ b9 o9 fun ej n18 oE => Pq ej fun BA cR => In x6 (n18 : Int) ∧ LT σ BA (cR + Int.toNat x6 * 3) fun oF => ∃ t24, YF prog ((do eqGuard .lss 9 (.tmp 22) (.tmp 23) (.string oF) (.string s1); binOp .lss 9 (.string oF) (.string s1))) σ (.bool t24) ∧ Bo t24 (AO (x6 + 1) ∧ La R (aD b9 o9) s1 (x6 + 1) σ) (LS σ b9 o9 fun jx n33 jy => Br (x6 < (n33 : Int)) (LS σ b9 o9 fun ek n40 c40 => Pq ek fun iU j8 => In x6 (n40 : Int) ∧ LT σ iU (j8 + Int.toNat x6 * 3) fun ep => R (.returned (.tuple #[.int .i64 x6, (.bool (ByteArray.toList ep == ByteArray.toList s1))])) σ) (R (.returned (.tuple #[.int .i64 x6, .bool false])) σ))) (LS σ b9 o9 fun jx n33 jy => Br (x6 < (n33 : Int)) (LS σ b9 o9 fun ek n40 c40 => Pq ek fun iU j8 => In x6 (n40 : Int) ∧ LT σ iU (j8 + Int.toNat x6 * 3) fun ep => R (.returned (.tuple #[.int .i64 x6, (.bool (ByteArray.toList ep == ByteArray.toList s1))])) σ) (R (.returned (.tuple #[.int .i64 x6, .bool false])) σ))) : La R q0 s1 x6 σ := M.of h ok rfl
end Cz
namespace HD
variable {p0 : Option Addr} {n0 c0 : Nat}
def M : Fw := ⟨prog, 264, f264, [113, 305], [], false, [], [], []⟩
theorem ok : M.Ok := ⟨.cons call113 (.cons call305 (AM.nil)), mixed, func264, by kernel_rfl⟩
theorem start (h : Df (IntKind.u64.wrap (n0 : Int)) fun x8 => Spec prog 113 #[.int .u64 x8] σ (AB R (CI .i64 fun x9 y => Spec prog 305 #[.slice p0 n0 c0, .int .i64 0, (.int .i64 (n0 : Int)), .int .i64 x9] y (AB R (fun z AI => z = (.tuple #[]) ∧ R (.returned (.tuple #[])) AI))))) : Spec prog 264 #[.slice p0 n0 c0] σ R := M.start h ok
end HD
namespace AZ
variable {p0 p4 : Option Addr} {n0 c0 n4 c4 : Nat} {x3 x5 : Int}
def M : Fw := ⟨prog, 265, f265, [], [], false, [(6, 10, true), (11, 10, true)], [], [(464, [(0, wL), (3, wI)]), (477520, [(0, wL), (3, wI), (4, wL), (5, wI)]), (477523, [(0, wL), (3, wI), (4, wL), (5, wI)])]⟩
theorem ok : M.Ok := ⟨AM.nil, mixed, func265, by kernel_rfl⟩
def Ap := M.pt 0
def W7 := M.pt 1
def qp := M.pt 2
theorem start (h : Br ((n0 : Int) < 2) (R (.returned (.slice p0 n0 c0)) σ) (Ap R p0 n0 c0 1 σ)) : Spec prog 265 #[.slice p0 n0 c0] σ R := M.start h ok
theorem BI (h : Br (x3 < (n0 : Int)) (Pq p0 fun Nt TP => In x3 (n0 : Int) ∧ LI .u32 σ Nt (TP + Int.toNat x3 * 1) fun MS => AO (x3 - 1) ∧ In (x3 - 1) (n0 : Int) ∧ LI .u32 σ Nt (TP + Int.toNat (x3 - 1) * 1) fun J4 => Br (MS = J4) ((0 ≤ x3 ∧ x3 ≤ (n0 : Int)) ∧ W7 R (aD Nt TP) n0 c0 x3 ((GP (aD Nt TP) (Int.toNat x3) c0 1)) (n0 - Int.toNat x3) (c0 - Int.toNat x3) 1 σ) (AO (x3 + 1) ∧ Ap R (aD Nt TP) n0 c0 (x3 + 1) σ)) (R (.returned (.slice p0 n0 c0)) σ)) : Ap R p0 n0 c0 x3 σ := M.of h ok rfl
theorem JO (h : Br (x5 < (n4 : Int)) (Pq p4 fun Hn fP => In x5 (n4 : Int) ∧ LI .u32 σ Hn (fP + Int.toNat x5 * 1) fun NO => AO (x5 - 1) ∧ In (x5 - 1) (n4 : Int) ∧ LI .u32 σ Hn (fP + Int.toNat (x5 - 1) * 1) fun yC => Br (NO ≠ yC) (In x5 (n4 : Int) ∧ LI .u32 σ Hn (fP + Int.toNat x5 * 1) fun R4 => Pq p0 fun Zv Zw => In x3 (n0 : Int) ∧ AJ prog (Instr.storeAt 70 (.pointer (aD Zv (Zw + Int.toNat x3 * 1))) (.int .u32 R4)) σ (fun _ y => AO (x3 + 1) ∧ qp R (aD Zv Zw) n0 c0 (x3 + 1) (aD Hn fP) n4 c4 x5 y)) (qp R p0 n0 c0 x3 (aD Hn fP) n4 c4 x5 σ)) ((0 ≤ x3 ∧ x3 ≤ (n0 : Int)) ∧ AJ prog (Builtin.clear_ #[194] 0 #[(.slice (GP p0 (Int.toNat x3) c0 1) (n0 - Int.toNat x3) (c0 - Int.toNat x3))]) σ (fun _ y => (0 ≤ x3 ∧ x3 ≤ (c0 : Int)) ∧ R (.returned (.slice p0 (Int.toNat x3) c0)) y))) : W7 R p0 n0 c0 x3 p4 n4 c4 x5 σ := M.of h ok rfl
theorem dA (h : AO (x5 + 1) ∧ W7 R p0 n0 c0 x3 p4 n4 c4 (x5 + 1) σ) : qp R p0 n0 c0 x3 p4 n4 c4 x5 σ := M.of h ok rfl
end AZ
namespace Je
variable {qq s0b : ByteArray} {b1 : Nat}
def M : Fw := ⟨prog, 270, f270, [271], [2], false, [], [], []⟩
theorem ok : M.Ok := ⟨.cons call271 (AM.nil), mixed, func270, by kernel_rfl⟩
theorem start (h : ∀ b2 : Nat, LS σ b1 0 fun p4 n4 c4 => Spec prog 271 #[.slice p4 n4 c4, .string qq] σ (AB R (CB fun t7 y => R (.returned (.bool (!t7))) y))) : Spec prog 270 #[.agg #[.string qq, .string s0b], (.pointer (aD b1 0))] σ R := M.start h ok
end Je
namespace HE
variable {p0 p4 : Option Addr} {n0 c0 n4 c4 : Nat} {x5 : Int}
def M : Fw := ⟨prog, 302, f302, [320], [], false, [], [], [(220, [(0, wL), (4, wL), (5, wI)])]⟩
theorem ok : M.Ok := ⟨.cons call320 (AM.nil), mixed, func302, by kernel_rfl⟩
def CF := M.pt 0
theorem start (h : CF R p0 n0 c0 none 0 0 0 σ) : Spec prog 302 #[.slice p0 n0 c0] σ R := M.start h ok
theorem BX (h : Br (x5 = (n0 : Int)) (R (.returned (.tuple #[.slice p4 n4 c4, .bool false])) σ) (Spec prog 320 #[.slice p0 n0 c0, .int .i64 x5] σ (AB R (fun z y => ∃ Qa Qb Qc LK Qd, z = (.tuple #[.slice Qa Qb Qc, .int .i64 LK, .int .i64 Qd]) ∧ Br (Qd ≠ 0) (R (.returned (.tuple #[.slice p4 n4 c4, .bool true])) y) (Al y fun TV => AJ prog (Builtin.append_ #[165, 165] 165 #[.slice p4 n4 c4, (.slice (aD TV 0) 1 1)]) (Hp.set y TV (.cells #[.slice Qa Qb Qc] 84 (0, 0))) (CS fun cZ n27 Wv AI => CF R p0 n0 c0 cZ n27 Wv LK AI)))))) : CF R p0 n0 c0 p4 n4 c4 x5 σ := M.of h ok rfl
end HE
end TwW
end
end
section
set_option maxRecDepth 100000
noncomputable section
namespace TwW
open Go Tw Go.Proofs.Tryz
variable [I7] {R : Rr} {σ : Hp}

namespace A8
variable {q0 p6 J6 : Option Addr} {x1 FU E7 : Int} {n6 c6 n12 c12 : Nat}
def M : Fw := ⟨prog, 20, f20, [50, 53], [8], false, [(8, 7, true)], [], [(232, [(0, wQ), (1, wI), (6, wL), (12, wL), (13, wI), (14, wI)]), (935, [(0, wQ), (1, wI), (6, wL), (12, wL), (13, wI), (14, wI)])]⟩
theorem ok : M.Ok := ⟨.cons call50 (.cons call53 (AM.nil)), mixed, func20, by kernel_rfl⟩
def A1 := M.pt 0
def Gn := M.pt 1
theorem start (h : Pq q0 fun EL Ld => LS σ EL (Ld + 2) fun J6 n12 c12 => A1 R (aD EL Ld) x1 none 0 0 J6 n12 c12 (n12 : Int) 0 σ) : Spec prog 20 #[.pointer q0, .int .i64 x1] σ R := M.start h ok
theorem AW (h : Br (E7 < FU) (Pq J6 fun Ko Us => In E7 (n12 : Int) ∧ ∃ Qa Qb Qc LK Qd ACt ACu ACv AKE, EF σ Ko (Us + Int.toNat E7 * 5) [.slice Qa Qb Qc, .int .i64 LK, .int .u64 Qd, .slice ACt ACu ACv, .map AKE] ∧ ∀ b8 : Nat, Spec prog 50 #[.slice ACt ACu ACv, .int .i64 x1] σ (AB R (CB fun t21 y => Bo t21 (Spec prog 53 #[.agg #[.slice Qa Qb Qc, .int .i64 LK, .int .u64 Qd]] y (AB R (fun z AI => ∃ ACw ACx ACy qt ACz, z = (.agg #[.slice ACw ACx ACy, .int .i64 qt, .int .u64 ACz]) ∧ Al AI fun TV => AJ prog (Builtin.append_ #[46, 46] 46 #[.slice p6 n6 c6, (.slice (aD TV 0) 1 1)]) (Hp.set AI TV (.cells #[.slice ACw ACx ACy, .int .i64 qt, .int .u64 ACz] 25 (0, 0))) (CS fun cZ n27 Wv AV => Gn R q0 x1 cZ n27 Wv (aD Ko Us) n12 c12 FU E7 AV)))) (Gn R q0 x1 p6 n6 c6 (aD Ko Us) n12 c12 FU E7 y)))) (Pq q0 fun J5 qn => LI .u64 σ J5 qn fun uI => R (.returned (.tuple #[.slice p6 n6 c6, .int .u64 uI])) σ)) : A1 R q0 x1 p6 n6 c6 J6 n12 c12 FU E7 σ := M.of h ok rfl
theorem F4 (h : AO (E7 + 1) ∧ A1 R q0 x1 p6 n6 c6 J6 n12 c12 FU (E7 + 1) σ) : Gn R q0 x1 p6 n6 c6 J6 n12 c12 FU E7 σ := M.of h ok rfl
end A8
namespace GW
variable {q0 p2 pa Y0 : Option Addr} {s1 Z2 : ByteArray} {n2 c2 pc pd n16 Z3 : Nat} {x3 LH D8 : Int}
def M : Fw := ⟨prog, 31, f31, [29, 69, 70, 71, 72, 73, 74], [13], false, [], [], [(2046, [(13, .X 154 [.T, .L, .I .u64])]), (523600, [(0, wQ), (13, .X 154 [.T, .L, .I .u64]), (16, wL), (17, wI)])]⟩
theorem ok : M.Ok := ⟨.cons call29 (.cons call69 (.cons call70 (.cons call71 (.cons call72 (.cons call73 (.cons call74 (AM.nil))))))), mixed, func31, by kernel_rfl⟩
def AC0 := M.pt 0
def AKF := M.pt 1
theorem start (h : Spec prog 29 #[.pointer q0, .string s1] σ (AB R (fun z y => ∃ qu qw qx fQ fR, z = (.tuple #[.slice qu qw qx, .int .u64 fQ, .int .i64 fR]) ∧ Br (fR ≠ 0) (R (.returned (.tuple #[.int .u64 0, .int .i64 fR])) y) (Br (fQ ≠ x3) (R (.returned (.tuple #[.int .u64 fQ, .int .i64 121])) y) (Al y fun b34 => AJ prog (Builtin.append_ #[84, 84] 84 #[(.slice (aD b34 0) 0 0), .slice p2 n2 c2]) (Hp.set y b34 (.cells #[] 5 (0, 0))) (CS fun Ut n36 Wu AI => Df (IntKind.u64.wrap (x3 + 1)) fun NO => ∀ H7 : Nat, Pq q0 fun qE tj => LQ AI qE tj fun q43 => Spec prog 70 #[.agg #[.string s1, .slice Ut n36 Wu, .int .u64 NO]] AI (AB R (CS fun yD n45 c45 AV => Kp [qE] AI AV ∧ Spec prog 69 #[.pointer q43, .slice yD n45 c45] AV (AB R (CI .i64 fun fD Ay => Br (fD ≠ 0) (R (.returned (.tuple #[.int .u64 0, .int .i64 fD])) Ay) (LQ Ay qE tj fun q53 => Spec prog 71 #[.pointer q53] Ay (AB R (CI .i64 fun kk Dj => Br (kk ≠ 0) (R (.returned (.tuple #[.int .u64 0, .int .i64 kk])) Dj) (Spec prog 72 #[(.pointer (aD qE tj)), .agg #[.string s1, .slice Ut n36 Wu, .int .u64 NO]] Dj (AB R (fun z Ge => z = (.tuple #[]) ∧ LQ Ge qE tj fun q64 => Spec prog 73 #[.pointer q64] Ge (AB R (CI .i64 fun pg Qe => Br (64 < pg) (AKF R (aD qE tj) s1 Ut n36 Wu NO none 0 0 0 Qe) (AC0 R s1 Ut n36 Wu NO Qe))))))))))))))))))) : Spec prog 31 #[.pointer q0, .string s1, .slice p2 n2 c2, .int .u64 x3] σ R := M.start h ok
theorem qy (h : R (.returned (.tuple #[.int .u64 LH, .int .i64 0])) σ) : AC0 R Z2 pa pc pd LH σ := M.SI h ok rfl fun _ => by kernel_rfl
end GW
namespace slices_Compact_int
variable {p0 p4 : Option Addr} {n0 c0 n4 c4 : Nat} {x3 x5 : Int}
end slices_Compact_int
namespace Jf
variable {kJ : Option Addr} {ew kK : Nat} {IL H9 : Int}
def M : Fw := ⟨prog, 53, f53, [], [1, 2], false, [], [], []⟩
theorem ok : M.Ok := ⟨AM.nil, mixed, func53, by kernel_rfl⟩
theorem start (h : ∀ b1 : Nat, ∀ b2 : Nat, Al σ fun b3 => AJ prog (Builtin.append_ #[22, 22] 22 #[(.slice (aD b3 0) 0 0), .slice kJ ew kK]) (Hp.set σ b3 (.cells #[] 61 (0, 0))) (CS fun p6 n6 c6 y => R (.returned (.agg #[.slice p6 n6 c6, .int .i64 IL, .int .u64 H9])) y)) : Spec prog 53 #[.agg #[.slice kJ ew kK, .int .i64 IL, .int .u64 H9]] σ R := M.start h ok
end Jf
namespace Mh
variable {p0 : Option Addr} {n0 c0 : Nat} {x1 : Int}
def M : Fw := ⟨prog, 59, f59, [99, 127], [], false, [], [], []⟩
theorem ok : M.Ok := ⟨.cons call99 (.cons call127 (AM.nil)), mixed, func59, by kernel_rfl⟩
theorem start (h : Spec prog 127 #[.int .i64 x1] σ (AB R (CI .u64 fun x7 y => Spec prog 99 #[.slice p0 n0 c0, .int .u64 x7] y (AB R (CS fun p8 n8 c8 AI => R (.returned (.slice p8 n8 c8)) AI))))) : Spec prog 59 #[.slice p0 n0 c0, .int .i64 x1] σ R := M.start h ok
end Mh
namespace Mi
variable {qq : ByteArray} {HX : Option Addr} {Gd HY : Nat} {H9 : Int}
def M : Fw := ⟨prog, 70, f70, [142, 143], [1], false, [], [], []⟩
theorem ok : M.Ok := ⟨.cons call142 (.cons call143 (AM.nil)), mixed, func70, by kernel_rfl⟩
theorem start (h : ∀ b1 : Nat, (Spec prog 142 #[.slice none 0 0, .string qq] σ (AB R (CS fun p5 n5 c5 y => (Spec prog 143 #[.slice p5 n5 c5, .int .u64 H9] y (AB R (CS fun p8 n8 c8 AI => AJ prog (convert 84 9 (.slice HX Gd HY)) AI (CT fun oO AV => Spec prog 142 #[.slice p8 n8 c8, .string oO] AV (AB R (CS fun J6 n12 c12 Ay => R (.returned (.slice J6 n12 c12)) Ay)))))) ∧ (AJ prog (convert 84 9 (.slice HX Gd HY)) y (CT fun oO AI => Spec prog 143 #[.slice p5 n5 c5, .int .u64 H9] AI (AB R (CS fun p8 n8 c8 AV => Spec prog 142 #[.slice p8 n8 c8, .string oO] AV (AB R (CS fun J6 n12 c12 Ay => R (.returned (.slice J6 n12 c12)) Ay))))))))) ∧ (AJ prog (convert 84 9 (.slice HX Gd HY)) σ (CT fun oO y => Spec prog 142 #[.slice none 0 0, .string qq] y (AB R (CS fun p5 n5 c5 AI => Spec prog 143 #[.slice p5 n5 c5, .int .u64 H9] AI (AB R (CS fun p8 n8 c8 AV => Spec prog 142 #[.slice p8 n8 c8, .string oO] AV (AB R (CS fun J6 n12 c12 Ay => R (.returned (.slice J6 n12 c12)) Ay))))))))) : Spec prog 70 #[.agg #[.string qq, .slice HX Gd HY, .int .u64 H9]] σ R := M.start h ok
end Mi
namespace strings_HasPrefix
variable {s0 s1 : ByteArray}
def M : Fw := ⟨prog, 92, f92, [169], [], false, [], [], []⟩
theorem ok : M.Ok := ⟨.cons call169 (AM.nil), mixed, func92, by kernel_rfl⟩
theorem start (h : Spec prog 169 #[.string s0, .string s1] σ (AB R (CB fun t7 y => R (.returned (.bool t7)) y))) : Spec prog 92 #[.string s0, .string s1] σ R := M.start h ok
end strings_HasPrefix
namespace C0
variable {b0 b1 : Nat}
def M : Fw := ⟨prog, 103, f103, [104], [], false, [], [], []⟩
theorem ok : M.Ok := ⟨.cons call104 (AM.nil), mixed, func103, by kernel_rfl⟩
theorem start (h : LQ σ b0 0 fun q6 => Pq q6 fun b7 o7 => LT σ b7 o7 fun s9 => LQ σ b0 0 fun q10 => Pq q10 fun EH Gk => LS σ EH (Gk + 3) fun OS n13 PL => LQ σ b1 0 fun HZ => Pq HZ fun cV oJ => ∃ AC2 Zz AC3 AC4, EF σ cV (oJ + 7) [.int .i64 AC2, .int .i64 Zz, .int .i64 AC3, .bool AC4] ∧ Spec prog 104 #[.string s9, .slice OS n13 PL, .agg #[.int .i64 AC2, .int .i64 Zz, .int .i64 AC3, .bool AC4]] σ (AB R (fun z y => ∃ AKI PG, z = (.tuple #[.int .i64 AKI, .int .i64 PG]) ∧ Br (PG = 0) (R (.returned (.int .i64 0)) y) (Br (PG = 151) (R (.returned (.int .i64 4)) y) (R (.returned (.int .i64 3)) y))))) : Spec prog 103 #[(.pointer (aD b0 0)), (.pointer (aD b1 0))] σ R := M.start h ok
end C0
namespace Lk
variable {x0 : Int}
def M : Fw := ⟨prog, 113, f113, [211], [], false, [], [], []⟩
theorem ok : M.Ok := ⟨.cons call211 (AM.nil), mixed, func113, by kernel_rfl⟩
theorem start (h : Spec prog 211 #[.int .u64 x0] σ (AB R (CI .i64 fun x7 y => R (.returned (.int .i64 x7)) y))) : Spec prog 113 #[.int .u64 x0] σ R := M.start h ok
end Lk
namespace dB
variable {x0 : Int}
def M : Fw := ⟨prog, 117, f117, [], [], false, [], [], []⟩
theorem ok : M.Ok := ⟨AM.nil, mixed, func117, by kernel_rfl⟩
theorem start (h : Br (0 ≤ x0) (R (.returned (.bool (decide (x0 < 16)))) σ) (R (.returned (.bool false)) σ)) : Spec prog 117 #[.int .i64 x0] σ R := M.start h ok
end dB
namespace KM
variable {q0 : Option Addr} {s1 : ByteArray}
def M : Fw := ⟨prog, 133, f133, [221], [], false, [], [], []⟩
theorem ok : M.Ok := ⟨.cons call221 (AM.nil), mixed, func133, by kernel_rfl⟩
theorem start (h : Al σ fun b2 => Al (Hp.set σ b2 (.cells #[.pointer q0] 106 (0, 0))) fun b3 => LQ (Hp.set (Hp.set σ b2 (.cells #[.pointer q0] 106 (0, 0))) b3 (.cells #[.string s1] 9 (0, 0))) b2 0 fun q5 => Spec prog 221 #[.pointer q5, (.func (.func 222) #[] #[(.pointer (aD b2 0)), (.pointer (aD b3 0))]), (.func (.func 224) #[] #[(.pointer (aD b2 0)), (.pointer (aD b3 0))]), (.func (.func 225) #[] #[])] (Hp.set (Hp.set σ b2 (.cells #[.pointer q0] 106 (0, 0))) b3 (.cells #[.string s1] 9 (0, 0))) (AB R (CI .i64 fun x8 y => R (.returned (.int .i64 x8)) y))) : Spec prog 133 #[.pointer q0, .string s1] σ R := M.start h ok
end KM
namespace Qg
variable {b0 b1 b2 b3 : Nat}
def M : Fw := ⟨prog, 172, f172, [132, 134, 173, 174, 175, 176], [], false, [(0, 5, false), (1, 8, true), (5, 11, true)], [], []⟩
theorem ok : M.Ok := ⟨.cons call132 (.cons call134 (.cons call173 (.cons call174 (.cons call175 (.cons call176 (AM.nil)))))), mixed, func172, by kernel_rfl⟩
theorem start (h : LQ σ b0 0 fun q7 => LQ σ b1 0 fun q8 => LT σ b2 0 fun s9 => (ByteArray.size s9 + ByteArray.size (ByteArray.mk #[47]) ≤ 9223372036854775807) ∧ Spec prog 174 #[.pointer q8, (.string (s9 ++ (ByteArray.mk #[47])))] σ (AB R (CS fun cQ n11 iT y => Kp [b0] σ y ∧ Spec prog 173 #[.pointer q7, .slice cQ n11 iT] y (AB R (fun z AI => z = (.tuple #[]) ∧ LQ AI b0 0 fun H8 => LQ AI b0 0 fun HZ => Pq HZ fun cV oJ => LI .i64 AI cV (oJ + 2) fun D8 => AO (D8 + 1) ∧ Pq H8 fun Yy qX => AJ prog (Instr.storeAt 3 (.pointer (aD Yy (qX + 4))) (.int .i64 (D8 + 1))) AI (fun _ AV => LQ AV b0 0 fun er => Spec prog 175 #[.pointer er] AV (AB R (CS fun p22 n22 c22 Ay => AJ prog (Instr.storeAt 165 (.pointer (aD b3 0)) (.slice p22 n22 c22)) Ay (fun _ Dj => LQ Dj b0 0 fun q23 => Pq q23 fun NN cy => LS Dj NN (cy + 3) fun Wk n26 TQ => Br (0 < (n26 : Int)) (LQ Dj b0 0 fun q30 => LQ Dj b0 0 fun q31 => Pq q31 fun jz j0 => LS Dj jz (j0 + 3) fun p34 n34 c34 => AO ((n26 : Int) - 1) ∧ Pq p34 fun Hn fP => In (((n26 : Int) - 1)) (n34 : Int) ∧ LI .i64 Dj Hn (fP + Int.toNat ((n26 : Int) - 1) * 1) fun NO => Pq q30 fun Ny cz => AJ prog (Instr.storeAt 3 (.pointer (aD Ny (cz + 4))) (.int .i64 NO)) Dj (fun _ Ge => LQ Ge b1 0 fun q42 => LQ Ge b0 0 fun q43 => LQ Ge b0 0 fun q44 => Pq q44 fun W5 o45 => LI .i64 Ge W5 (o45 + 4) fun SJ => Spec prog 134 #[.pointer q43, (.string (ByteArray.mk #[115])), .int .i64 SJ] Ge (AB R (CT fun s48 Qe => Kp [b1] Ge Qe ∧ Spec prog 176 #[.pointer q42, .string s48] Qe (AB R (fun z ko => ∃ AKK AC5 AKL AC6, z = (.tuple #[.slice AKK AC5 AKL, .int .i64 AC6]) ∧ Spec prog 132 #[.int .i64 AC6] ko (AB R (fun z kr => z = (.tuple #[]) ∧ LQ kr b0 0 fun q54 => Pq q54 fun Vm Vn => AJ prog (Instr.storeAt 3 (.pointer (aD Vm (Vn + 5))) (.int .i64 (AC5 : Int))) kr (fun _ kt => R (.returned (.tuple #[])) kt))))))))) (R (.returned (.tuple #[])) Dj)))))))))) : Spec prog 172 #[(.pointer (aD b0 0)), (.pointer (aD b1 0)), (.pointer (aD b2 0)), (.pointer (aD b3 0))] σ R := M.start h ok
end Qg
namespace Ii
variable {ti : Option Addr} {IL H9 x1 x2 : Int}
def M : Fw := ⟨prog, 190, f190, [], [3], false, [(3, 13, true), (5, 10, true)], [], []⟩
theorem ok : M.Ok := ⟨AM.nil, mixed, func190, by kernel_rfl⟩
theorem start (h : ∀ b3 : Nat, Br (H9 < 0) (R (.returned (.int .i64 131)) σ) (Pq ti fun LG Nq => LS σ LG (Nq + 1) fun Y0 n16 Z3 => Pq Y0 fun Yy qX => In H9 (n16 : Int) ∧ LI .i64 σ Yy ((qX + Int.toNat H9 * 3) + 1) fun Hj => Br (Hj ≠ x1) (R (.returned (.int .i64 132)) σ) (LS σ LG (Nq + 1) fun xG n28 c28 => Pq xG fun jz j0 => In H9 (n28 : Int) ∧ AJ prog (Instr.storeAt 3 (.pointer (aD jz ((j0 + Int.toNat H9 * 3) + 1))) (.int .i64 x2)) σ (fun _ y => R (.returned (.int .i64 0)) y)))) : Spec prog 190 #[.agg #[.pointer ti, .int .i64 IL, .int .i64 H9], .int .i64 x1, .int .i64 x2] σ R := M.start h ok
end Ii
namespace OT
variable {E6 IL H9 : Int} {t0d : Bool}
def M : Fw := ⟨prog, 192, f192, [], [], false, [], [], []⟩
theorem ok : M.Ok := ⟨AM.nil, mixed, func192, by kernel_rfl⟩
theorem start (h : Al σ fun b1 => Al (Hp.set σ b1 (.cells #[.int .i64 E6, .int .i64 IL, .int .i64 H9, .bool t0d] 28 (0, 0))) fun b4 => R (.returned (.slice (aD b4 0) 2 2)) (Hp.set (Hp.set σ b1 (.cells #[.int .i64 E6, .int .i64 IL, .int .i64 H9, .bool t0d] 28 (0, 0))) b4 (.cells #[(.func (.func 266) #[] #[(.pointer (aD b1 0))]), (.func (.func 268) #[] #[])] 268 (0, 0)))) : Spec prog 192 #[.agg #[.int .i64 E6, .int .i64 IL, .int .i64 H9, .bool t0d]] σ R := M.start h ok
end OT
namespace KN
variable {p0 p3 p8 : Option Addr} {n0 c0 n3 c3 n8 c8 : Nat} {x9 Di : Int}
def M : Fw := ⟨prog, 230, f230, [128], [], false, [], [], [(232, [(3, wL), (8, wL), (9, wI), (10, wI)])]⟩
theorem ok : M.Ok := ⟨.cons call128 (AM.nil), mixed, func230, by kernel_rfl⟩
def A1 := M.pt 0
theorem start (h : A1 R none 0 0 p0 n0 c0 (n0 : Int) 0 σ) : Spec prog 230 #[.slice p0 n0 c0] σ R := M.start h ok
theorem AW (h : Br (Di < x9) (Pq p8 fun PK Qf => In Di (n8 : Int) ∧ LS σ PK (Qf + Int.toNat Di * 1) fun OS n13 PL => Spec prog 128 #[.slice OS n13 PL] σ (AB R (fun z y => ∃ AC7 AC8 AC9 qz, z = (.tuple #[.slice AC7 AC8 AC9, .int .i64 qz]) ∧ AJ prog (Builtin.append_ #[84, 84] 84 #[.slice p3 n3 c3, .slice AC7 AC8 AC9]) y (CS fun p21 n21 c21 AI => AO (Di + 1) ∧ A1 R p21 n21 c21 (aD PK Qf) n8 c8 x9 (Di + 1) AI)))) (R (.returned (.slice p3 n3 c3)) σ)) : A1 R p3 n3 c3 p8 n8 c8 x9 Di σ := M.of h ok rfl
end KN
namespace IA
variable {q0 oP fF : Option Addr} {Vo s3a : ByteArray} {oQ oR fG fH : Nat} {fS x3c : Int}
def M : Fw := ⟨prog, 239, f239, [237, 241], [3], false, [(6, 16, false)], [], [(14, [(0, wQ), (3, .X 305 [.T, .L, .I .i64])])]⟩
theorem ok : M.Ok := ⟨.cons call237 (.cons call241 (AM.nil)), mixed, func239, by kernel_rfl⟩
def CF := M.pt 0
theorem start (h : ∀ b3 : Nat, Spec prog 237 #[.pointer q0, .string Vo] σ (AB R (fun z y => ∃ Nx ADB, z = (.tuple #[.int .i64 Nx, .bool ADB]) ∧ Bo ADB (Spec prog 241 #[.pointer q0, .string Vo] y (AB R (fun z AI => ∃ kO AKO AKP AKQ W8, z = (.agg #[.string kO, .slice AKO AKP AKQ, .int .i64 W8]) ∧ CF R q0 Vo oP oQ oR fS AI))) (CF R q0 Vo oP oQ oR fS y)))) : Spec prog 239 #[.pointer q0, .agg #[.string Vo, .slice oP oQ oR, .int .i64 fS]] σ R := M.start h ok
theorem BX (h : Spec prog 237 #[.pointer q0, .string s3a] σ (AB R (fun z y => ∃ FV fB, z = (.tuple #[.int .i64 FV, .bool fB]) ∧ Al y fun Qh => Pq q0 fun TW Yz => LS (Hp.set y Qh (.cells #[] 305 (0, 0))) TW Yz fun p32 n32 xE => (0 ≤ FV ∧ FV ≤ (n32 : Int)) ∧ AJ prog (Builtin.append_ #[111, 111] 111 #[(.slice (aD Qh 0) 0 0), (.slice (GP p32 (Int.toNat FV) xE 3) (n32 - Int.toNat FV) (xE - Int.toNat FV))]) (Hp.set y Qh (.cells #[] 305 (0, 0))) (CS fun p35 n35 c35 AI => LS AI TW Yz fun rA n41 oS => (0 ≤ FV ∧ FV ≤ (oS : Int)) ∧ (Al AI fun Hn => (AJ prog (Builtin.append_ #[111, 111] 111 #[(.slice (aD Hn 0) 0 0), (.slice rA (Int.toNat FV) oS)]) (Hp.set AI Hn (.cells #[] 305 (0, 0))) (CS fun Vj n44 Wt AV => Al AV fun JA => AJ prog (Builtin.append_ #[111, 111] 111 #[.slice Vj n44 Wt, (.slice (aD JA 0) 1 1)]) (Hp.set AV JA (.cells #[.string s3a, .slice fF fG fH, .int .i64 x3c] 305 (0, 0))) (CS fun yE n47 yF Ay => AJ prog (Builtin.append_ #[111, 111] 111 #[.slice yE n47 yF, .slice p35 n35 c35]) Ay (CS fun Wq n49 c49 Dj => AJ prog (Instr.storeAt 111 (.pointer (aD TW Yz)) (.slice Wq n49 c49)) Dj (fun _ Ge => R (.returned (.tuple #[])) Ge))))) ∧ (Al (Hp.set AI Hn (.cells #[] 305 (0, 0))) fun JA => AJ prog (Builtin.append_ #[111, 111] 111 #[(.slice (aD Hn 0) 0 0), (.slice rA (Int.toNat FV) oS)]) (Hp.set (Hp.set AI Hn (.cells #[] 305 (0, 0))) JA (.cells #[.string s3a, .slice fF fG fH, .int .i64 x3c] 305 (0, 0))) (CS fun Vj n44 Wt AV => AJ prog (Builtin.append_ #[111, 111] 111 #[.slice Vj n44 Wt, (.slice (aD JA 0) 1 1)]) AV (CS fun yE n47 yF Ay => AJ prog (Builtin.append_ #[111, 111] 111 #[.slice yE n47 yF, .slice p35 n35 c35]) Ay (CS fun Wq n49 c49 Dj => AJ prog (Instr.storeAt 111 (.pointer (aD TW Yz)) (.slice Wq n49 c49)) Dj (fun _ Ge => R (.returned (.tuple #[])) Ge)))))) ∧ (Al AI fun JA => Al (Hp.set AI JA (.cells #[.string s3a, .slice fF fG fH, .int .i64 x3c] 305 (0, 0))) fun Hn => AJ prog (Builtin.append_ #[111, 111] 111 #[(.slice (aD Hn 0) 0 0), (.slice rA (Int.toNat FV) oS)]) (Hp.set (Hp.set AI JA (.cells #[.string s3a, .slice fF fG fH, .int .i64 x3c] 305 (0, 0))) Hn (.cells #[] 305 (0, 0))) (CS fun Vj n44 Wt AV => AJ prog (Builtin.append_ #[111, 111] 111 #[.slice Vj n44 Wt, (.slice (aD JA 0) 1 1)]) AV (CS fun yE n47 yF Ay => AJ prog (Builtin.append_ #[111, 111] 111 #[.slice yE n47 yF, .slice p35 n35 c35]) Ay (CS fun Wq n49 c49 Dj => AJ prog (Instr.storeAt 111 (.pointer (aD TW Yz)) (.slice Wq n49 c49)) Dj (fun _ Ge => R (.returned (.tuple #[])) Ge))))))))) : CF R q0 s3a fF fG fH x3c σ := M.SI h ok rfl fun _ => by kernel_rfl
end IA
namespace slices_Contains_string
variable {p0 : Option Addr} {n0 c0 : Nat} {s1 : ByteArray}
def M : Fw := ⟨prog, 271, f271, [308], [], false, [], [], []⟩
theorem ok : M.Ok := ⟨.cons call308 (AM.nil), mixed, func271, by kernel_rfl⟩
theorem start (h : Spec prog 308 #[.slice p0 n0 c0, .string s1] σ (AB R (CI .i64 fun x7 y => R (.returned (.bool (decide (0 ≤ x7)))) y))) : Spec prog 271 #[.slice p0 n0 c0, .string s1] σ R := M.start h ok
end slices_Contains_string
namespace OU
variable {s0 : ByteArray} {x1 : Int}
def M : Fw := ⟨prog, 291, f291, [315], [], false, [], [], []⟩
theorem ok : M.Ok := ⟨.cons call315 (AM.nil), mixed, func291, by kernel_rfl⟩
theorem start (h : AO (x1 - ((ByteArray.size s0 : Nat) : Int)) ∧ Spec prog 315 #[(.string (ByteArray.mk #[48])), (.int .i64 (if ((x1 - ((ByteArray.size s0 : Nat) : Int)) : Int) < 0 then 0 else (x1 - ((ByteArray.size s0 : Nat) : Int))))] σ (AB R (CT fun Ys y => (ByteArray.size Ys + ByteArray.size s0 ≤ 9223372036854775807) ∧ R (.returned (.string (Ys ++ s0))) y))) : Spec prog 291 #[.string s0, .int .i64 x1] σ R := M.start h ok
end OU
end TwW
end
end
section
set_option maxRecDepth 100000
noncomputable section
namespace TwW
open Go Tw Go.Proofs.Tryz
variable [I7] {R : Rr} {σ : Hp}

namespace Mj
variable {E6 : Int} {HX : Option Addr} {Gd HY : Nat}
def M : Fw := ⟨prog, 10, f10, [30, 31, 41, 42, 43, 44], [1], false, [], [], []⟩
theorem ok : M.Ok := ⟨.cons call30 (.cons call31 (.cons call41 (.cons call42 (.cons call43 (.cons call44 (AM.nil)))))), mixed, func10, by kernel_rfl⟩
theorem start (h : ∀ b1 : Nat, Spec prog 42 #[] σ (AB R (CQ fun qf y => Spec prog 41 #[.pointer qf] y (AB R (fun z AI => ∃ Z4 Nz, z = (.tuple #[.pointer Z4, .int .i64 Nz]) ∧ Al AI fun SO => Spec prog 43 #[(.pointer (aD SO 0))] (Hp.set AI SO (.cells #[.slice none 0 0, .bool false, .bool false, .int .i64 0, .int .i64 0, .int .u64 0] 113 (0, 0))) (AB R (fun z AV => ∃ yG Zz, z = (.tuple #[.pointer yG, .int .i64 Zz]) ∧ Spec prog 44 #[.agg #[.int .u64 E6, .slice HX Gd HY]] AV (AB R (fun z Ay => ∃ yH yI yJ Mg, z = (.tuple #[.slice yH yI yJ, .int .i64 Mg]) ∧ Bo (Option.isNone Z4) (R (.returned (.tuple #[.pointer none, .pointer none])) Ay) (Br (Mg ≠ 0) (R (.returned (.tuple #[.pointer none, .pointer none])) Ay) (Spec prog 30 #[.pointer Z4, (.string (ByteArray.mk #[114, 105, 110, 103])), .slice yH yI yJ, .int .u64 0] Ay (AB R (fun z Dj => ∃ AKR AKS, z = (.tuple #[.int .u64 AKR, .int .i64 AKS]) ∧ Spec prog 31 #[.pointer yG, (.string (ByteArray.mk #[114, 105, 110, 103])), .slice yH yI yJ, .int .u64 0] Dj (AB R (fun z Ge => ∃ qP AKT, z = (.tuple #[.int .u64 qP, .int .i64 AKT]) ∧ R (.returned (.tuple #[.pointer Z4, .pointer yG])) Ge))))))))))))))) : Spec prog 10 #[.agg #[.int .u64 E6, .slice HX Gd HY]] σ R := M.start h ok
end Mj
namespace OV
def M : Fw := ⟨prog, 13, f13, [7, 9, 10, 11, 12, 14, 15, 17, 18, 20], [], false, [], [], []⟩
theorem ok : M.Ok := ⟨.cons call7 (.cons call9 (.cons call10 (.cons call11 (.cons call12 (.cons call14 (.cons call15 (.cons call17 (.cons call18 (.cons call20 (AM.nil)))))))))), mixed, func13, by kernel_rfl⟩
theorem start (h : Spec prog 7 #[.int .i64 1, .int .i64 5, .int .i64 30] σ (AB R (fun z y => ∃ Nx GU LH ADC ADD ADE ADF ADG ADH ADI ADJ, z = (.agg #[.int .i64 Nx, .int .i64 GU, .int .i64 LH, .int .i64 ADC, .int .i64 ADD, .int .i64 ADE, .int .i64 ADF, .int .i64 ADG, .int .i64 ADH, .int .i64 ADI, .bool ADJ]) ∧ Spec prog 9 #[.agg #[.int .i64 Nx, .int .i64 GU, .int .i64 LH, .int .i64 ADC, .int .i64 ADD, .int .i64 ADE, .int .i64 ADF, .int .i64 ADG, .int .i64 ADH, .int .i64 ADI, .bool ADJ]] y (AB R (CQ fun HZ AI => Spec prog 11 #[.int .i64 3] AI (AB R (fun z AV => ∃ fT ADK ADL ADM, z = (.agg #[.int .u64 fT, .slice ADK ADL ADM]) ∧ Spec prog 10 #[.agg #[.int .u64 fT, .slice ADK ADL ADM]] AV (AB R (fun z Ay => ∃ rB xe, z = (.tuple #[.pointer rB, .pointer xe]) ∧ Bo (Option.isNone HZ) (R (.returned (.bool false)) Ay) (Bo (Option.isNone rB) (R (.returned (.bool false)) Ay) (Al Ay fun Kn => Al (Hp.set Ay Kn (.cells #[(.string (ByteArray.mk #[97])), (.string (ByteArray.mk #[120]))] 61 (0, 0))) fun J5 => Spec prog 12 #[.pointer HZ, (.string (ByteArray.mk #[116])), (.slice (aD J5 0) 1 1), .int .i64 0, .pointer rB] (Hp.set (Hp.set Ay Kn (.cells #[(.string (ByteArray.mk #[97])), (.string (ByteArray.mk #[120]))] 61 (0, 0))) J5 (.cells #[(.slice (aD Kn 0) 1 1), .int .i64 5, .int .u64 1] 25 (0, 0))) (AB R (fun z Dj => ∃ XA ADN, z = (.tuple #[.pointer XA, .int .i64 ADN]) ∧ Br (ADN ≠ 0) (R (.returned (.bool false)) Dj) (Bo (Option.isNone XA) (R (.returned (.bool false)) Dj) (Spec prog 14 #[.pointer XA] Dj (AB R (CS fun Vj n44 Wt Ge => Br ((n44 : Int) ≠ 3) (R (.returned (.bool false)) Ge) (Spec prog 14 #[.pointer XA] Ge (AB R (CS fun Wq n49 c49 Qe => Pq Wq fun uG uH => In 0 (n49 : Int) ∧ LI .i64 Qe uG uH fun kk => Spec prog 20 #[.pointer XA, .int .i64 kk] Qe (AB R (fun z ko => ∃ AKU ADO AKV ADP, z = (.tuple #[.slice AKU ADO AKV, .int .u64 ADP]) ∧ In 0 (n49 : Int) ∧ LI .i64 ko uG uH fun x61 => Al ko fun b62 => Spec prog 15 #[.pointer XA, .int .i64 x61, (.slice (aD b62 0) 1 1)] (Hp.set ko b62 (.cells #[.int .i64 1] 3 (0, 0))) (AB R (fun z kr => z = (.tuple #[]) ∧ In 1 (n49 : Int) ∧ LI .i64 kr uG (uH + 1) fun x67 => Al kr fun ia => Spec prog 15 #[.pointer XA, .int .i64 x67, (.slice (aD ia 0) 1 1)] (Hp.set kr ia (.cells #[.int .i64 2] 3 (0, 0))) (AB R (fun z kt => z = (.tuple #[]) ∧ Spec prog 17 #[.pointer XA] kt (AB R (fun z AKW => ∃ ADQ ADR ADS ADT, z = (.tuple #[.int .i64 ADQ, .slice ADR ADS ADT]) ∧ Spec prog 12 #[.pointer HZ, (.string (ByteArray.mk #[116])), .slice none 0 0, .int .i64 0, .pointer rB] AKW (AB R (fun z ku => ∃ AKX ADU, z = (.tuple #[.pointer AKX, .int .i64 ADU]) ∧ Br ((ADO : Int) = 1) (Br (ADP = 6) (Br (ADQ = 1) (Al ku fun b94 => Spec prog 18 #[.slice ADR ADS ADT, (.slice (aD b94 0) 1 1)] (Hp.set ku b94 (.cells #[.bool true] 4 (0, 0))) (AB R (CB fun t95 ADV => Bo t95 (R (.returned (.bool (decide (ADU = 4)))) ADV) (R (.returned (.bool false)) ADV)))) (R (.returned (.bool false)) ku)) (R (.returned (.bool false)) ku)) (R (.returned (.bool false)) ku))))))))))))))))))))))))))))))) : Spec prog 13 #[] σ R := M.start h ok
end OV
namespace TX
variable {qq : ByteArray} {IL : Int}
def M : Fw := ⟨prog, 28, f28, [59, 60], [1], false, [], [], []⟩
theorem ok : M.Ok := ⟨.cons call59 (.cons call60 (AM.nil)), mixed, func28, by kernel_rfl⟩
theorem start (h : ∀ b1 : Nat, Spec prog 60 #[.slice none 0 0, .string qq] σ (AB R (CS fun p5 n5 c5 y => Spec prog 59 #[.slice p5 n5 c5, .int .i64 IL] y (AB R (CS fun p8 n8 c8 AI => R (.returned (.slice p8 n8 c8)) AI))))) : Spec prog 28 #[.agg #[.string qq, .int .i64 IL]] σ R := M.start h ok
end TX
namespace Gr
variable {q0 p2 AKZ : Option Addr} {s1 : ByteArray} {n2 c2 AKa AKb : Nat} {x3 GU : Int}
def M : Fw := ⟨prog, 30, f30, [39, 63, 64, 65, 66, 67, 68], [13], false, [(13, 6, true)], [], [(1022, [(13, .X 156 [.L, .I .u64])])]⟩
theorem ok : M.Ok := ⟨.cons call39 (.cons call63 (.cons call64 (.cons call65 (.cons call66 (.cons call67 (.cons call68 (AM.nil))))))), mixed, func30, by kernel_rfl⟩
def yK := M.pt 0
theorem start (h : Spec prog 39 #[.pointer q0, .string s1] σ (AB R (fun z y => ∃ AKc AKd AKe PH W8, z = (.tuple #[.slice AKc AKd AKe, .int .u64 PH, .int .i64 W8]) ∧ Br (W8 ≠ 0) (R (.returned (.tuple #[.int .u64 0, .int .i64 W8])) y) (Br (PH ≠ x3) (R (.returned (.tuple #[.int .u64 PH, .int .i64 121])) y) (Al y fun Yu => AJ prog (Builtin.append_ #[84, 84] 84 #[(.slice (aD Yu 0) 0 0), .slice p2 n2 c2]) (Hp.set y Yu (.cells #[] 5 (0, 0))) (CS fun p35 n35 c35 AI => Df (IntKind.u64.wrap (x3 + 1)) fun KJ => ∀ H7 : Nat, Pq q0 fun OQ eu => LQ AI OQ eu fun q42 => Spec prog 64 #[.string s1, .agg #[.slice p35 n35 c35, .int .u64 KJ]] AI (AB R (CS fun yD n45 c45 AV => Kp [OQ] AI AV ∧ Spec prog 63 #[.pointer q42, .slice yD n45 c45] AV (AB R (CI .i64 fun fD Ay => Br (fD ≠ 0) (R (.returned (.tuple #[.int .u64 0, .int .i64 fD])) Ay) (LQ Ay OQ eu fun q53 => Spec prog 65 #[.pointer q53] Ay (AB R (CI .i64 fun kk Dj => Br (kk ≠ 0) (R (.returned (.tuple #[.int .u64 0, .int .i64 kk])) Dj) (LM Dj OQ (eu + 2) fun m61 => AJ prog (Instr.mapUpdate 159 (.map m61) (.string s1) (.agg #[.slice p35 n35 c35, .int .u64 KJ])) Dj (fun _ Ge => LQ Ge OQ eu fun q67 => Spec prog 66 #[.pointer q67] Ge (AB R (CI .i64 fun x68 Qe => Br (64 < x68) (LQ Qe OQ eu fun q73 => Spec prog 68 #[(.pointer (aD OQ eu))] Qe (AB R (CS fun p75 n75 c75 ko => Kp [OQ] Qe ko ∧ Spec prog 67 #[.pointer q73, .slice p75 n75 c75] ko (AB R (CI .i64 fun x76 kr => Br (x76 ≠ 0) (R (.returned (.tuple #[.int .u64 0, .int .i64 x76])) kr) (yK R p35 n35 c35 KJ kr)))))) (yK R p35 n35 c35 KJ Qe)))))))))))))))))) : Spec prog 30 #[.pointer q0, .string s1, .slice p2 n2 c2, .int .u64 x3] σ R := M.start h ok
theorem dC (h : R (.returned (.tuple #[.int .u64 GU, .int .i64 0])) σ) : yK R AKZ AKa AKb GU σ := M.SI h ok rfl fun _ => by kernel_rfl
end Gr
namespace XB
def M : Fw := ⟨prog, 42, f42, [], [], false, [], [], []⟩
theorem ok : M.Ok := ⟨AM.nil, mixed, func42, by kernel_rfl⟩
theorem start (h : AJ prog (Instr.makeMap 186 none) σ (fun z y => ∃ m1, z = (.map (some m1)) ∧ Al y fun b3 => R (.returned (.pointer (aD b3 0))) (Hp.set y b3 (.cells #[(.map (some m1)), .bool true, .bool false, .int .i64 0, .int .i64 0, .int .u64 0] 188 (0, 0))))) : Spec prog 42 #[] σ R := M.start h ok
end XB
namespace Ll
variable {E6 x1 : Int} {HX : Option Addr} {Gd HY : Nat}
def M : Fw := ⟨prog, 46, f46, [100], [2, 4], false, [], [], []⟩
theorem ok : M.Ok := ⟨.cons call100 (AM.nil), mixed, func46, by kernel_rfl⟩
theorem start (h : ∀ b2 : Nat, ∀ b4 : Nat, Spec prog 100 #[.agg #[.int .u64 E6, .slice HX Gd HY], .int .i64 x1, (.func (.func 102) #[] #[])] σ (AB R (fun z y => ∃ kv kx ky kz x8b, z = (.tuple #[.agg #[.int .u64 kv, .slice kx ky kz], .int .i64 x8b]) ∧ R (.returned (.tuple #[.agg #[.int .u64 kv, .slice kx ky kz], .int .i64 x8b])) y))) : Spec prog 46 #[.agg #[.int .u64 E6, .slice HX Gd HY], .int .i64 x1] σ R := M.start h ok
end Ll
namespace Ca
variable {q0 p3 p5 ph : Option Addr} {n3 c3 n5 c5 n23 pj : Nat} {v12 : Value} {J4 NQ : Int}
def M : Fw := ⟨prog, 68, f68, [64, 93], [], false, [], [(12, 159)], [(232, [(0, wQ), (3, wL), (12, wV)]), (2024, [(0, wQ), (5, wL), (23, wL), (24, wI), (25, wI)])]⟩
theorem ok : M.Ok := ⟨.cons call64 (.cons call93 (AM.nil)), mixed, func68, by kernel_rfl⟩
def A1 := M.pt 0
def Qi := M.pt 1
theorem start (h : Pq q0 fun b9 o9 => LM σ b9 (o9 + 2) fun m11 => AJ prog (Instr.range 159 (.map m11)) σ (fun z y => ∃ v12, v12 = z ∧ A1 R (aD b9 o9) none 0 0 v12 y)) : Spec prog 68 #[.pointer q0] σ R := M.start h ok
theorem AW (h : AJ prog (Instr.next v12 false 0) σ (fun v y => (v = (.tuple #[.bool false]) ∧ Spec prog 93 #[.slice p3 n3 c3] y (AB R (fun z AI => z = (.tuple #[]) ∧ Qi R q0 none 0 0 p3 n3 c3 (n3 : Int) 0 AI))) ∨ (∃ Z2 ADX ADY ADZ ADa, v = (.tuple #[.bool true, .string Z2, .agg #[.slice ADX ADY ADZ, .int .u64 ADa]]) ∧ AJ prog (Instr.entry v12) y (fun z AI => ∃ j7 ADb ADc ADd ADe, z = (.tuple #[.string j7, .agg #[.slice ADb ADc ADd, .int .u64 ADe]]) ∧ Al AI fun Yy => AJ prog (Builtin.append_ #[97, 97] 97 #[.slice p3 n3 c3, (.slice (aD Yy 0) 1 1)]) (Hp.set AI Yy (.cells #[.string j7] 9 (0, 0))) (CS fun uJ n20 c20 AV => A1 R q0 uJ n20 c20 v12 AV))))) : A1 R q0 p3 n3 c3 v12 σ := M.of h ok rfl
theorem Ps (h : Br (NQ < J4) (Pq ph fun b27 o27 => In NQ (n23 : Int) ∧ LT σ b27 (o27 + Int.toNat NQ * 1) fun s28 => Pq q0 fun jz j0 => LM σ jz (j0 + 2) fun m34 => AJ prog (Instr.lookup 159 (.map m34) (.string s28) false) σ (fun z y => ∃ ADf ADg ADh ADi, z = (.agg #[.slice ADf ADg ADh, .int .u64 ADi]) ∧ Spec prog 64 #[.string s28, .agg #[.slice ADf ADg ADh, .int .u64 ADi]] y (AB R (CS fun R1 n37 c37 AI => Al AI fun b38 => AJ prog (Builtin.append_ #[165, 165] 165 #[.slice p5 n5 c5, (.slice (aD b38 0) 1 1)]) (Hp.set AI b38 (.cells #[.slice R1 n37 c37] 84 (0, 0))) (CS fun kj n39 SN AV => AO (NQ + 1) ∧ Qi R (aD jz j0) kj n39 SN (aD b27 o27) n23 pj J4 (NQ + 1) AV))))) (R (.returned (.slice p5 n5 c5)) σ)) : Qi R q0 p5 n5 c5 ph n23 pj J4 NQ σ := M.of h ok rfl
end Ca
namespace Mk
variable {q0 : Option Addr}
def M : Fw := ⟨prog, 91, f91, [], [], false, [], [], []⟩
theorem ok : M.Ok := ⟨AM.nil, mixed, func91, by kernel_rfl⟩
theorem start (h : Pq q0 fun b4 o4 => LB σ b4 (o4 + 1) fun t6 => R (.returned (.bool t6)) σ) : Spec prog 91 #[.pointer q0] σ R := M.start h ok
end Mk
namespace XC
variable {s0 : ByteArray}
def M : Fw := ⟨prog, 94, f94, [], [], false, [], [], []⟩
theorem ok : M.Ok := ⟨AM.nil, mixed, func94, by kernel_rfl⟩
theorem start (h : Bn ((ByteArray.toList s0 == ByteArray.toList (ByteArray.mk #[]))) (R (.returned (.bool (decide ((((ByteArray.size s0 : Nat) : Int) : Int) ≤ 64)))) σ) (R (.returned (.bool false)) σ)) : Spec prog 94 #[.string s0] σ R := M.start h ok
end XC
namespace CK
variable {p0 : Option Addr} {n0 c0 : Nat} {x3 : Int}
def M : Fw := ⟨prog, 118, f118, [], [], false, [(4, 10, true)], [], [(208, [(0, wL), (3, wI)])]⟩
theorem ok : M.Ok := ⟨AM.nil, mixed, func118, by kernel_rfl⟩
def La := M.pt 0
theorem start (h : La R p0 n0 c0 1 σ) : Spec prog 118 #[.slice p0 n0 c0] σ R := M.start h ok
theorem DF (h : Br (x3 < (n0 : Int)) (Pq p0 fun PK Qf => In x3 (n0 : Int) ∧ LI .u32 σ PK (Qf + Int.toNat x3 * 1) fun FU => AO (x3 - 1) ∧ In (x3 - 1) (n0 : Int) ∧ LI .u32 σ PK (Qf + Int.toNat (x3 - 1) * 1) fun FT => Br (FU ≤ FT) (R (.returned (.bool false)) σ) (AO (x3 + 1) ∧ La R (aD PK Qf) n0 c0 (x3 + 1) σ)) (R (.returned (.bool true)) σ)) : La R p0 n0 c0 x3 σ := M.of h ok rfl
end CK
namespace OW
variable {p0 : Option Addr} {n0 c0 : Nat}
def M : Fw := ⟨prog, 128, f128, [99, 219], [], false, [], [], []⟩
theorem ok : M.Ok := ⟨.cons call99 (.cons call219 (AM.nil)), mixed, func128, by kernel_rfl⟩
theorem start (h : Br (65536 < (n0 : Int)) (R (.returned (.tuple #[.slice none 0 0, .int .i64 23])) σ) (Spec prog 219 #[.slice p0 n0 c0] σ (AB R (CI .u32 fun Di y => Df (IntKind.u64.wrap (n0 : Int)) fun FU => Spec prog 99 #[.slice none 0 0, .int .u64 FU] y (AB R (CS fun yL n14 yM AI => ((0 : Int) ≤ 24 ∧ 24 ≤ ((IntKind.bits .u32 : Nat) : Int)) ∧ Df (Di / 2 ^ Int.toNat 24) fun FF => Df (IntKind.u8.wrap FF) fun D8 => ((0 : Int) ≤ 16 ∧ 16 ≤ ((IntKind.bits .u32 : Nat) : Int)) ∧ Df (Di / 2 ^ Int.toNat 16) fun MS => Df (IntKind.u8.wrap MS) fun Ws => ((0 : Int) ≤ 8 ∧ 8 ≤ ((IntKind.bits .u32 : Nat) : Int)) ∧ Df (Di / 2 ^ Int.toNat 8) fun PI => Df (IntKind.u8.wrap PI) fun Po => Df (IntKind.u8.wrap Di) fun NQ => Al AI fun TV => AJ prog (Builtin.append_ #[84, 84] 84 #[.slice yL n14 yM, (.slice (aD TV 0) 4 4)]) (Hp.set AI TV (.cells #[.int .u8 D8, .int .u8 Ws, .int .u8 Po, .int .u8 NQ] 5 (0, 0))) (CS fun cZ n27 Wv AV => AJ prog (Builtin.append_ #[84, 84] 84 #[.slice cZ n27 Wv, .slice p0 n0 c0]) AV (CS fun p30 n30 c30 Ay => R (.returned (.tuple #[.slice p30 n30 c30, .int .i64 0])) Ay)))))))) : Spec prog 128 #[.slice p0 n0 c0] σ R := M.start h ok
end OW
namespace OX
variable {q0 : Option Addr}
def M : Fw := ⟨prog, 131, f131, [], [], false, [(1, 26, true)], [], []⟩
theorem ok : M.Ok := ⟨AM.nil, mixed, func131, by kernel_rfl⟩
theorem start (h : Pq q0 fun b4 o4 => LS σ b4 (o4 + 3) fun p6 n6 c6 => Br (0 < (n6 : Int)) (LS σ b4 (o4 + 3) fun OS n13 PL => LS σ b4 (o4 + 3) fun qc n17 qe => AO ((n17 : Int) - 1) ∧ Pq OS fun BA cR => In (((n17 : Int) - 1)) (n13 : Int) ∧ LI .i64 σ BA (cR + Int.toNat ((n17 : Int) - 1) * 1) fun Hj => LI .i64 σ b4 (o4 + 4) fun NQ => R (.returned (.bool (decide (Hj = NQ)))) σ) (R (.returned (.bool false)) σ)) : Spec prog 131 #[.pointer q0] σ R := M.start h ok
end OX
namespace Ij
variable {q0 : Option Addr} {s1 : ByteArray}
def M : Fw := ⟨prog, 138, f138, [221], [], false, [], [], []⟩
theorem ok : M.Ok := ⟨.cons call221 (AM.nil), mixed, func138, by kernel_rfl⟩
theorem start (h : Al σ fun b2 => Al (Hp.set σ b2 (.cells #[.pointer q0] 106 (0, 0))) fun b3 => LQ (Hp.set (Hp.set σ b2 (.cells #[.pointer q0] 106 (0, 0))) b3 (.cells #[.string s1] 9 (0, 0))) b2 0 fun q5 => Spec prog 221 #[.pointer q5, (.func (.func 232) #[] #[(.pointer (aD b2 0)), (.pointer (aD b3 0))]), (.func (.func 233) #[] #[(.pointer (aD b2 0)), (.pointer (aD b3 0))]), (.func (.func 225) #[] #[])] (Hp.set (Hp.set σ b2 (.cells #[.pointer q0] 106 (0, 0))) b3 (.cells #[.string s1] 9 (0, 0))) (AB R (CI .i64 fun x8 y => R (.returned (.int .i64 x8)) y))) : Spec prog 138 #[.pointer q0, .string s1] σ R := M.start h ok
end Ij
namespace Qj
variable {p0 : Option Addr} {n0 c0 : Nat}
def M : Fw := ⟨prog, 139, f139, [143, 234, 235], [], false, [], [], []⟩
theorem ok : M.Ok := ⟨.cons call143 (.cons call234 (.cons call235 (AM.nil))), mixed, func139, by kernel_rfl⟩
theorem start (h : Br (65536 < (n0 : Int)) (R (.returned (.tuple #[.slice none 0 0, .int .i64 23])) σ) (Df (IntKind.u64.wrap (n0 : Int)) fun x9 => Spec prog 143 #[.slice none 0 0, .int .u64 x9] σ (AB R (CS fun PF n10 H6 y => Spec prog 235 #[.slice p0 n0 c0] y (AB R (CI .u32 fun Du AI => Spec prog 234 #[.int .u32 Du] AI (AB R (CS fun OS n13 PL AV => AJ prog (Builtin.append_ #[84, 84] 84 #[.slice PF n10 H6, .slice OS n13 PL]) AV (CS fun yL n14 yM Ay => AJ prog (Builtin.append_ #[84, 84] 84 #[.slice yL n14 yM, .slice p0 n0 c0]) Ay (CS fun Y0 n16 Z3 Dj => R (.returned (.tuple #[.slice Y0 n16 Z3, .int .i64 0])) Dj)))))))))) : Spec prog 139 #[.slice p0 n0 c0] σ R := M.start h ok
end Qj
namespace Ik
variable {q0 : Option Addr} {x1 : Int}
def M : Fw := ⟨prog, 141, f141, [147], [], false, [], [], []⟩
theorem ok : M.Ok := ⟨.cons call147 (AM.nil), mixed, func141, by kernel_rfl⟩
theorem start (h : Pq q0 fun b6 o6 => LT σ b6 (o6 + 1) fun s8 => (ByteArray.size s8 + ByteArray.size (ByteArray.mk #[47, 115]) ≤ 9223372036854775807) ∧ Spec prog 147 #[.int .i64 x1] σ (AB R (CT fun oO y => Kp [b6] σ y ∧ (ByteArray.size (s8 ++ (ByteArray.mk #[47, 115])) + ByteArray.size oO ≤ 9223372036854775807) ∧ R (.returned (.string ((s8 ++ (ByteArray.mk #[47, 115])) ++ oO))) y))) : Spec prog 141 #[.pointer q0, .int .i64 x1] σ R := M.start h ok
end Ik
namespace Il
variable {E6 Z0 xh Eg Du : Int} {HX iX fF PF : Option Addr} {Gd HY iY iZ fG fH n10 H6 : Nat}
def M : Fw := ⟨prog, 186, f186, [], [1, 2, 3, 5], false, [], [], [(232, [(2, .X 41 [.I .u64, .L]), (3, .X 41 [.I .u64, .L]), (10, wL), (11, wI), (12, wI)])]⟩
theorem ok : M.Ok := ⟨AM.nil, mixed, func186, by kernel_rfl⟩
def A1 := M.pt 0
theorem start (h : ∀ b1 : Nat, ∀ b2 : Nat, ∀ b3 : Nat, A1 R 0 none 0 0 E6 none 0 0 HX Gd HY (Gd : Int) 0 σ) : Spec prog 186 #[.agg #[.int .u64 E6, .slice HX Gd HY]] σ R := M.start h ok
theorem AW (h : Br (Du < Eg) (Pq PF fun LG Nq => In Du (n10 : Int) ∧ ∃ k7 XD k8 lA lB, EF σ LG (Nq + Int.toNat Du * 3) [.int .i64 k7, .int .i64 XD, .slice k8 lA lB] ∧ ∀ b5 : Nat, Al σ fun Ko => AJ prog (Builtin.append_ #[194, 194] 194 #[(.slice (aD Ko 0) 0 0), .slice k8 lA lB]) (Hp.set σ Ko (.cells #[] 70 (0, 0))) (CS fun Zu n19 Yr y => Al y fun NN => AJ prog (Builtin.append_ #[39, 39] 39 #[.slice fF fG fH, (.slice (aD NN 0) 1 1)]) (Hp.set y NN (.cells #[.int .i64 k7, .int .i64 XD, .slice Zu n19 Yr] 196 (0, 0))) (CS fun R0 n25 Pk AI => AO (Du + 1) ∧ A1 R Z0 iX iY iZ xh R0 n25 Pk (aD LG Nq) n10 H6 Eg (Du + 1) AI))) (R (.returned (.agg #[.int .u64 xh, .slice fF fG fH])) σ)) : A1 R Z0 iX iY iZ xh fF fG fH PF n10 H6 Eg Du σ := M.of2 h ok rfl fun _ _ => by kernel_rfl
end Il
namespace GG
variable {x0 x4 : Int} {p3 : Option Addr} {n3 c3 : Nat}
def M : Fw := ⟨prog, 189, f189, [56, 99, 264, 265], [], false, [], [], [(464, [(0, wI), (3, wL), (4, wU)])]⟩
theorem ok : M.Ok := ⟨.cons call56 (.cons call99 (.cons call264 (.cons call265 (AM.nil)))), mixed, func189, by kernel_rfl⟩
def CF := M.pt 0
theorem start (h : CF R x0 none 0 0 0 σ) : Spec prog 189 #[.int .i64 x0] σ R := M.start h ok
theorem BX (h : Br (x4 < 4) (Df (IntKind.u64.wrap x0) fun Eg => Spec prog 99 #[.slice none 0 0, .int .u64 Eg] σ (AB R (CS fun J6 n12 c12 y => Spec prog 99 #[.slice J6 n12 c12, .int .u64 x4] y (AB R (CS fun yL n14 yM AI => Spec prog 56 #[.slice yL n14 yM] AI (AB R (CI .u32 fun Nv AV => Al AV fun Ko => AJ prog (Builtin.append_ #[194, 194] 194 #[.slice p3 n3 c3, (.slice (aD Ko 0) 1 1)]) (Hp.set AV Ko (.cells #[.int .u32 Nv] 70 (0, 0))) (CS fun qc n17 qe Ay => Df (IntKind.u64.wrap (x4 + 1)) fun x8 => CF R x0 qc n17 qe x8 Ay)))))))) (Spec prog 264 #[.slice p3 n3 c3] σ (AB R (fun z y => z = (.tuple #[]) ∧ Spec prog 265 #[.slice p3 n3 c3] y (AB R (CS fun p21 n21 c21 AI => R (.returned (.slice p21 n21 c21)) AI)))))) : CF R x0 p3 n3 c3 x4 σ := M.of h ok rfl
end GG
namespace ER
variable {s0 : ByteArray} {x3 : Int}
def M : Fw := ⟨prog, 191, f191, [], [], false, [], [], [(464, [(0, wT), (3, wI)])]⟩
theorem ok : M.Ok := ⟨AM.nil, mixed, func191, by kernel_rfl⟩
def Ap := M.pt 0
theorem start (h : Bo ((ByteArray.toList s0 == ByteArray.toList (ByteArray.mk #[]))) (R (.returned (.bool false)) σ) (Br ((32 : Int) < ((ByteArray.size s0 : Nat) : Int)) (R (.returned (.bool false)) σ) (Ap R s0 0 σ))) : Spec prog 191 #[.string s0] σ R := M.start h ok
theorem BI (h : Br (x3 < ((ByteArray.size s0 : Nat) : Int)) (∃ MH : UInt8, 0 ≤ x3 ∧ (ByteArray.data s0)[Int.toNat x3]? = some MH ∧ Br ((((UInt8.toNat MH : Nat) : Int) : Int) < 97) (Br ((((UInt8.toNat MH : Nat) : Int) : Int) < 48) (Br ((((UInt8.toNat MH : Nat) : Int) : Int) ≠ 45) (R (.returned (.bool false)) σ) (AO (x3 + 1) ∧ Ap R s0 (x3 + 1) σ)) (Br ((57 : Int) < ((UInt8.toNat MH : Nat) : Int)) (Br ((((UInt8.toNat MH : Nat) : Int) : Int) ≠ 45) (R (.returned (.bool false)) σ) (AO (x3 + 1) ∧ Ap R s0 (x3 + 1) σ)) (AO (x3 + 1) ∧ Ap R s0 (x3 + 1) σ))) (Br ((122 : Int) < ((UInt8.toNat MH : Nat) : Int)) (Br ((((UInt8.toNat MH : Nat) : Int) : Int) < 48) (Br ((((UInt8.toNat MH : Nat) : Int) : Int) ≠ 45) (R (.returned (.bool false)) σ) (AO (x3 + 1) ∧ Ap R s0 (x3 + 1) σ)) (Br ((57 : Int) < ((UInt8.toNat MH : Nat) : Int)) (Br ((((UInt8.toNat MH : Nat) : Int) : Int) ≠ 45) (R (.returned (.bool false)) σ) (AO (x3 + 1) ∧ Ap R s0 (x3 + 1) σ)) (AO (x3 + 1) ∧ Ap R s0 (x3 + 1) σ))) (AO (x3 + 1) ∧ Ap R s0 (x3 + 1) σ))) (R (.returned (.bool true)) σ)) : Ap R s0 x3 σ := M.of h ok rfl
end ER
namespace DO
variable {q0 q1 : Option Addr} {s2 : ByteArray} {x3 : Int}
def M : Fw := ⟨prog, 199, f199, [39, 52], [8, 13], false, [(6, 6, true)], [], []⟩
theorem ok : M.Ok := ⟨.cons call39 (.cons call52 (AM.nil)), mixed, func199, by kernel_rfl⟩
theorem start (h : ∀ b8 : Nat, Spec prog 39 #[.pointer q1, .string s2] σ (AB R (fun z y => ∃ Qa Qb Qc LK Qd, z = (.tuple #[.slice Qa Qb Qc, .int .u64 LK, .int .i64 Qd]) ∧ Br (Qd ≠ 0) (R (.returned (.tuple #[(.agg #[.bool false, (.string (ByteArray.mk #[])), .int .i64 0, .int .u64 0, .int .i64 0]), .bool false])) y) (∀ H7 : Nat, Spec prog 52 #[.slice Qa Qb Qc] y (AB R (fun z AI => ∃ lC lD Z5, z = (.tuple #[.agg #[.string lC, .int .i64 lD], .int .i64 Z5]) ∧ Pq q0 fun Hn fP => LM AI Hn (fP + 11) fun m39 => AJ prog (Instr.mapUpdate 101 (.map m39) (.string s2) (.agg #[(.bool (decide (0 < LK))), .string lC, .int .i64 lD, .int .u64 LK, .int .i64 x3])) AI (fun _ AV => R (.returned (.tuple #[(.agg #[(.bool (decide (0 < LK))), .string lC, .int .i64 lD, .int .u64 LK, .int .i64 x3]), .bool true])) AV))))))) : Spec prog 199 #[.pointer q0, .pointer q1, .string s2, .int .i64 x3] σ R := M.start h ok
end DO
namespace Jg
variable {q0 : Option Addr} {v1 v2 v3 : Value}
def M : Fw := ⟨prog, 221, f221, [290], [], true, [], [], []⟩
theorem ok : M.Ok := ⟨.cons call290 (AM.nil), mixed, func221, by kernel_rfl⟩
theorem start (h : Pq q0 fun EH Gk => LB σ EH (Gk + 1) fun t13 => Bn t13 (R (.returned (.int .i64 60)) σ) (∃ (f16 : Nat) (OY OZ : Array Value), v1 = .func (.func f16) OY OZ ∧ Enters prog f16 ∧ Spec prog f16 (OY ++ #[] ++ OZ) σ (AB R (CI .i64 fun FF y => Br (FF ≠ 0) (R (.returned (.int .i64 FF)) y) (LI .u64 y EH (Gk + 5) fun Po => Df (IntKind.u64.wrap (Po + 1)) fun J4 => AJ prog (Instr.storeAt 23 (.pointer (aD EH (Gk + 5))) (.int .u64 J4)) y (fun _ AI => LB AI EH (Gk + 2) fun t30 => Bo t30 (LI .i64 AI EH (Gk + 3) fun Zt => Br (Zt = 0) (∃ (f39 : Nat) (uK uL : Array Value), v3 = .func (.func f39) uK uL ∧ Enters prog f39 ∧ Spec prog f39 (uK ++ #[] ++ uL) AI (AB R (fun z AV => z = (.tuple #[]) ∧ LI .i64 AV EH (Gk + 4) fun qD => Spec prog 290 #[(.pointer (aD EH Gk)), .int .i64 qD] AV (AB R (fun z Ay => z = (.tuple #[]) ∧ R (.returned (.int .i64 60)) Ay))))) (LI .i64 AI EH (Gk + 3) fun Wo => Df (IntKind.i64.wrap (Wo - 1)) fun R4 => AJ prog (Instr.storeAt 3 (.pointer (aD EH (Gk + 3))) (.int .i64 R4)) AI (fun _ AV => ∃ (f54 : Nat) (Oa Ob : Array Value), v2 = .func (.func f54) Oa Ob ∧ Enters prog f54 ∧ Spec prog f54 (Oa ++ #[] ++ Ob) AV (AB R (fun z Ay => z = (.tuple #[]) ∧ R (.returned (.int .i64 0)) Ay))))) (LI .i64 AI EH (Gk + 3) fun Wo => Df (IntKind.i64.wrap (Wo - 1)) fun R4 => AJ prog (Instr.storeAt 3 (.pointer (aD EH (Gk + 3))) (.int .i64 R4)) AI (fun _ AV => ∃ (f54 : Nat) (Oa Ob : Array Value), v2 = .func (.func f54) Oa Ob ∧ Enters prog f54 ∧ Spec prog f54 (Oa ++ #[] ++ Ob) AV (AB R (fun z Ay => z = (.tuple #[]) ∧ R (.returned (.int .i64 0)) Ay)))))))))) : Spec prog 221 #[.pointer q0, v1, v2, v3] σ R := M.KH h ok [(0, .o (.Q q0)), (1, .o (.V v1)), (2, .o (.V v2)), (3, .o (.V v3))] rfl rfl (by kernel_rfl)
end Jg
namespace Lm
variable {q0 : Option Addr}
def M : Fw := ⟨prog, 229, f229, [], [], false, [], [], []⟩
theorem ok : M.Ok := ⟨AM.nil, mixed, func229, by kernel_rfl⟩
theorem start (h : Pq q0 fun b4 o4 => LT σ b4 (o4 + 1) fun s6 => (ByteArray.size s6 + ByteArray.size (ByteArray.mk #[47, 110, 101, 119]) ≤ 9223372036854775807) ∧ R (.returned (.string (s6 ++ (ByteArray.mk #[47, 110, 101, 119])))) σ) : Spec prog 229 #[.pointer q0] σ R := M.start h ok
end Lm
namespace C1
variable {q0 : Option Addr} {s1 s2 s7 : ByteArray} {x9 : Int}
def M : Fw := ⟨prog, 257, f257, [300, 301], [], false, [], [], [(976, [(7, wT), (9, wI)])]⟩
theorem ok : M.Ok := ⟨.cons call300 (.cons call301 (AM.nil)), mixed, func257, by kernel_rfl⟩
def LL := M.pt 0
theorem start (h : Pq q0 fun cV oJ => LT σ cV (oJ + 1) fun s17 => (ByteArray.size s17 + ByteArray.size (ByteArray.mk #[47]) ≤ 9223372036854775807) ∧ (ByteArray.size (s17 ++ (ByteArray.mk #[47])) + ByteArray.size s1 ≤ 9223372036854775807) ∧ Spec prog 300 #[.string s2, (.string ((s17 ++ (ByteArray.mk #[47])) ++ s1))] σ (AB R (fun z y => ∃ yN XE, z = (.tuple #[.string yN, .bool XE]) ∧ Bn XE (R (.returned (.int .i64 0)) y) (Br ((((ByteArray.size yN : Nat) : Int) : Int) ≠ 8) (R (.returned (.int .i64 0)) y) (LL R yN 0 y))))) : Spec prog 257 #[.pointer q0, .string s1, .string s2] σ R := M.start h ok
theorem Pt (h : Br (x9 < 8) (∃ u37 : UInt8, 0 ≤ x9 ∧ (ByteArray.data s7)[Int.toNat x9]? = some u37 ∧ Br ((((UInt8.toNat u37 : Nat) : Int) : Int) < 48) (R (.returned (.int .i64 0)) σ) (∃ u42 : UInt8, 0 ≤ x9 ∧ (ByteArray.data s7)[Int.toNat x9]? = some u42 ∧ Br ((57 : Int) < ((UInt8.toNat u42 : Nat) : Int)) (R (.returned (.int .i64 0)) σ) (AO (x9 + 1) ∧ LL R s7 (x9 + 1) σ))) (Spec prog 301 #[.string s7] σ (AB R (fun z y => ∃ ADj AKh, z = (.tuple #[.int .i64 ADj, AKh]) ∧ R (.returned (.int .i64 ADj)) y)))) : LL R s7 x9 σ := M.of h ok rfl
end C1
namespace Bu
variable {E6 IL H9 ka kb ke kf kg kh ki uM uN uO uP uQ uR x5 x2 x3 x4 : Int} {b1 : Nat}
def M : Fw := ⟨prog, 289, f289, [], [0], false, [], [], [(232, [(0, .X 338 [.I .u32, .I .u32, .I .u32, .I .u32, .I .u32, .I .u32, .I .u32, .I .u32, .I .u32, .I .u32, .I .u32, .I .u32, .I .u32, .I .u32, .I .u32, .I .u32]), (1, wA), (5, wI)]), (478416, [(0, .X 338 [.I .u32, .I .u32, .I .u32, .I .u32, .I .u32, .I .u32, .I .u32, .I .u32, .I .u32, .I .u32, .I .u32, .I .u32, .I .u32, .I .u32, .I .u32, .I .u32]), (1, wA), (2, wI), (3, cJ), (4, wI), (5, wI)]), (478419, [(0, .X 338 [.I .u32, .I .u32, .I .u32, .I .u32, .I .u32, .I .u32, .I .u32, .I .u32, .I .u32, .I .u32, .I .u32, .I .u32, .I .u32, .I .u32, .I .u32, .I .u32]), (1, wA), (2, wI), (3, cJ), (4, wI), (5, wI)])]⟩
theorem ok : M.Ok := ⟨AM.nil, mixed, func289, by kernel_rfl⟩
def A1 := M.pt 0
def SP := M.pt 1
def Nw := M.pt 2
theorem start (h : ∀ b0 : Nat, Al σ fun b1 => A1 R 0 0 0 0 0 0 0 0 0 0 0 0 0 0 0 0 b1 0 (Hp.set σ b1 (.cells #[.int .u32 0, .int .u32 0, .int .u32 0, .int .u32 0, .int .u32 0, .int .u32 0, .int .u32 0, .int .u32 0, .int .u32 0, .int .u32 0, .int .u32 0, .int .u32 0, .int .u32 0, .int .u32 0, .int .u32 0, .int .u32 0] 338 (0, 0)))) : Spec prog 289 #[] σ R := M.start h ok
theorem AW (h : Br (x5 < 16) (Df (IntKind.u32.wrap x5) fun x9 => SP R E6 IL H9 ka kb ke kf kg kh ki uM uN uO uP uQ uR b1 x5 x9 0 x5 σ) (∃ ADk ADl ADm ADn ADo ADp ADq ADr ADs ADt ADu ADv ADw ADx ADy ADz, EF σ b1 0 [.int .u32 ADk, .int .u32 ADl, .int .u32 ADm, .int .u32 ADn, .int .u32 ADo, .int .u32 ADp, .int .u32 ADq, .int .u32 ADr, .int .u32 ADs, .int .u32 ADt, .int .u32 ADu, .int .u32 ADv, .int .u32 ADw, .int .u32 ADx, .int .u32 ADy, .int .u32 ADz] ∧ R (.returned (.agg #[.int .u32 ADk, .int .u32 ADl, .int .u32 ADm, .int .u32 ADn, .int .u32 ADo, .int .u32 ADp, .int .u32 ADq, .int .u32 ADr, .int .u32 ADs, .int .u32 ADt, .int .u32 ADu, .int .u32 ADv, .int .u32 ADw, .int .u32 ADx, .int .u32 ADy, .int .u32 ADz])) σ)) : A1 R E6 IL H9 ka kb ke kf kg kh ki uM uN uO uP uQ uR b1 x5 σ := M.SI h ok rfl fun _ => by kernel_rfl
theorem Ml (h : Br (x4 < 4) (Df (Go.bits .and .u32 x3 1) fun Nv => Br (Nv = 0) (((0 : Int) ≤ 1 ∧ 1 ≤ ((IntKind.bits .u32 : Nat) : Int)) ∧ Df (x3 / 2 ^ Int.toNat 1) fun FT => Nw R E6 IL H9 ka kb ke kf kg kh ki uM uN uO uP uQ uR b1 x2 FT x4 x5 σ) (((0 : Int) ≤ 1 ∧ 1 ≤ ((IntKind.bits .u32 : Nat) : Int)) ∧ Df (x3 / 2 ^ Int.toNat 1) fun Ws => Df (Go.bits .xor .u32 Ws 3988292384) fun Hj => Nw R E6 IL H9 ka kb ke kf kg kh ki uM uN uO uP uQ uR b1 x2 Hj x4 x5 σ)) (In x2 16 ∧ AJ prog (Instr.storeAt 70 (.pointer (aD b1 (0 + Int.toNat x2 * 1))) (.int .u32 x3)) σ (fun _ y => AO (x5 + 1) ∧ A1 R E6 IL H9 ka kb ke kf kg kh ki uM uN uO uP uQ uR b1 (x5 + 1) y))) : SP R E6 IL H9 ka kb ke kf kg kh ki uM uN uO uP uQ uR b1 x2 x3 x4 x5 σ := M.SI h ok rfl fun _ => by kernel_rfl
theorem JN (h : AO (x4 + 1) ∧ SP R E6 IL H9 ka kb ke kf kg kh ki uM uN uO uP uQ uR b1 x2 x3 (x4 + 1) x5 σ) : Nw R E6 IL H9 ka kb ke kf kg kh ki uM uN uO uP uQ uR b1 x2 x3 x4 x5 σ := M.SI h ok rfl fun _ => by kernel_rfl
end Bu
namespace Gf
variable {q0 : Option Addr}
def M : Fw := ⟨prog, 343, f343, [177], [], false, [], [], []⟩
theorem ok : M.Ok := ⟨.cons call177 (AM.nil), mixed, func343, by kernel_rfl⟩
theorem start (h : Pq q0 fun b9 o9 => LS σ b9 o9 fun cQ n11 iT => LI .i64 σ b9 (o9 + 1) fun Nv => Spec prog 177 #[.slice cQ n11 iT, .int .i64 Nv] σ (AB R (fun z y => ∃ fT qz yO, z = (.tuple #[.int .u64 fT, .int .i64 qz, .int .i64 yO]) ∧ AJ prog (Instr.storeAt 3 (.pointer (aD b9 (o9 + 1))) (.int .i64 qz)) y (fun _ AI => Br (yO ≠ 0) (R (.returned (.tuple #[.int .i64 0, .int .i64 yO])) AI) (Br (65536 < fT) (R (.returned (.tuple #[.int .i64 0, .int .i64 23])) AI) (Df (IntKind.i64.wrap fT) fun uS => R (.returned (.tuple #[.int .i64 uS, .int .i64 0])) AI)))))) : Spec prog 343 #[.pointer q0] σ R := M.start h ok
end Gf
end TwW
end
end
