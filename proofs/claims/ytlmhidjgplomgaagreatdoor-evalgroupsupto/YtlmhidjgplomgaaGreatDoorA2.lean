/-
  Part 2 of the proof that the law EvalGroupsUptoCardSaid of the given program answers true for every input of the given statement; the input reads behind the call as it did. (The texts: packed from 7 texts. Names are shortened by the packing program, for the bound on size.)
-/
import Derived.Test.YtlmhidjgplomgaaGreatDoorA1
set_option linter.all false
section
namespace Tw
open Go
variable [Ev]
def jM (P : Program) : Op → Bool
 | .call c => match c.callee with
   | .builtin .len => false
   | .builtin .cap => false
   | .builtin .min => false
   | .builtin .max => false
   | .builtin .real => false
   | .builtin .imag => false
   | .builtin .complex => false
   | _ => true
 | .convert T T' _ => match P.underlying T, P.underlying T' with
   | some (.int _), some (.int _) => false
   | _, _ => true
 | .box .. => true
 | .alloc .. => true
 | .store .. => true
 | .buildSlice .. => true
 | .makeSlice .. => true
 | .mapUpdate .. => true
 | .makeMap .. => true
 | .insert .. => true
 | .range .. => true
 | .next .. => true
 | .lookup .. => true
 | .entryStore .. => true
 | .mapEntry .. => true
 | .makeChan .. => true
 | .binOp b T _ _ _ => flB b && AIJ P T
 | _ => false
def ej (s : S) : Option Operand → Option (Option Value)
 | none => some none
 | some x => match s.op x with
   | some v => some (some (v.den s.vl))
   | none => none
def pB (P : Program) (b : BinOp) (T : TypeId) (x y : Option SV) : Bool := match V1 x, V1 y with
 | some _, some _ => true
 | _, _ => match P.underlying T with
   | some .string => match b with
     | .eql => true
     | .neq => true
     | .add => true
     | _ => false
   | some (.pointer _) => true
   | some .bool => true
   | _ => false
def AIK : Option SV → Bool
 | some (.v (.a (.sl _ _ _))) => true
 | _ => false
def anyM (P : Program) (op : Op) (ty : TypeId) (s : S) : Option (Sem Value) := match op with
 | .slice T x lo hi mx => match AIK (s.op x) && mx.isNone with
   | true => none
   | false => match s.op x, ej s lo, ej s hi, ej s mx with
     | some w, some l, some h, some m => some (Instr.sliceAt T (w.den s.vl) l h m)
     | _, _, _, _ => none
 | .unOp u _ x => match u, s.op x with
   | .not, _ => none
   | .neg, v => match V1 v, v with
     | some _, _ => none
     | none, some v => some (Op.unary .neg (v.den s.vl))
     | none, none => none
   | u, some v => some (Op.unary u (v.den s.vl))
   | _, none => none
 | .binOp b T x y _ => match pB P b T (s.op x) (s.op y) with
   | true => none
   | false => match s.op x, s.op y with
     | some u, some v => some (do eqGuard b T x y (u.den s.vl) (v.den s.vl); binOp b T (u.den s.vl) (v.den s.vl))
     | _, _ => none
 | .call c => match c.callee, c.args.toList, c.argTypes.toList with
   | .builtin .len, [x], [T] => match s.op x with
     | some (.v (.a (.mp m))) => some (Builtin.len_ #[T] ty #[.map m])
     | _ => none
   | .builtin .real, [x], _ => match s.op x with
     | some v => some (Builtin.real_ c.argTypes ty #[v.den s.vl])
     | none => none
   | .builtin .imag, [x], _ => match s.op x with
     | some v => some (Builtin.imag_ c.argTypes ty #[v.den s.vl])
     | none => none
   | .builtin .complex, [x, y], _ => match s.op x, s.op y with
     | some u, some v => some (Builtin.complex_ c.argTypes ty #[u.den s.vl, v.den s.vl])
     | _, _ => none
   | _, _, _ => none
 | _ => none
theorem N8 {s : S} {J : Env} {x : Option Operand} {v : Option Value} (h : ej s x = some v) : x.map (AD (s.e J)) = v := by
 cases x with
 | none => simp only [ej, Option.some.injEq] at h; subst h; rfl
 | some x =>
   simp only [ej] at h
   split at h
   · rename_i u hu
     cases h
     simp only [Option.map_some]
     rw [ev hu]
   · cases h
theorem ek {P : Program} {op : Op} {ty : TypeId} {s : S} {m : Sem Value} (h : anyM P op ty s = some m) (J : Env) : ∀ o : Oper, o.op = op → o.type = ty → execOp (AD (s.e J)) o = (do pure (Next.value (← m))) := fun o ho ht => by
 unfold anyM at h
 split at h
 · rename_i T x lo hi mx
   split at h
   · cases h
   · split at h
     · rename_i w l hh mm h1 h2 h3 h4
       cases h
       simp only [execOp, ho, N8 h2, N8 h3, N8 h4, ev h1]
     · cases h
 · rename_i u T x
   split at h
   · cases h
   · split at h
     · cases h
     · rename_i hv
       cases h
       simp only [execOp, ho, ev hv]
     · cases h
   · rename_i hv
     cases h
     simp only [execOp, ho, ev hv]
   · cases h
 · rename_i b T x y T'
   split at h
   · cases h
   · split at h
     · rename_i u v hu hv
       cases h
       simp only [execOp, ho, ev hu, ev hv]
     · cases h
 · rename_i c
   obtain ⟨ce, ATL, ts⟩ := c
   split at h
   · rename_i x T h1 h2 h3
     simp only at h1 h2 h3
     have e1 : ATL = #[x] := by rw [← Array.toList_inj]; simpa using h2
     have e2 : ts = #[T] := by rw [← Array.toList_inj]; simpa using h3
     subst h1 e1 e2
     split at h
     · rename_i mm hx
       cases h
       exact ZX (by rw [ev hx]; rfl) o ho ht
     · cases h
   · rename_i x h1 h2
     simp only at h1 h2 h
     have e1 : ATL = #[x] := by rw [← Array.toList_inj]; simpa using h2
     subst h1 e1
     split at h
     · rename_i v hv
       cases h
       exact Ou (ev hv) o ho ht
     · cases h
   · rename_i x h1 h2
     simp only at h1 h2 h
     have e1 : ATL = #[x] := by rw [← Array.toList_inj]; simpa using h2
     subst h1 e1
     split at h
     · rename_i v hv
       cases h
       exact Ov (ev hv) o ho ht
     · cases h
   · rename_i x y h1 h2
     simp only at h1 h2 h
     have e1 : ATL = #[x, y] := by rw [← Array.toList_inj]; simpa using h2
     subst h1 e1
     split at h
     · rename_i u v hu hv
       cases h
       exact Jc (ev hu) (ev hv) o ho ht
     · cases h
   · cases h
 · cases h
def vz (P : Program) (ty : TypeId) (m : Sem Value) (s : S) (K : SV → S → Prop) : Prop := s.ex P ty fun v s => YF P m s.σ (v.den s.vl) ∧ K v s
theorem Qf {P : Program} {op : Op} {ty : TypeId} {s : S} {m : Sem Value} {K : SV → S → Prop} (hm : anyM P op ty s = some m) (h : vz P ty m s K) : ∃ v s', s.Hx s' ∧ (∀ J, Yd P (s.e J) s.b s.σ op ty (v.den s'.vl)) ∧ K v s' := by
 obtain ⟨v, s', h1, hy, hk⟩ := S.Qd h
 rw [h1.σ] at hy
 exact ⟨v, s', h1, fun J => Yd.any (ek hm J) hy, hk⟩
def Qg (ops : Array Oper) (gd : Option (Nat × Bool)) (s : S) (K : Bool → S → Prop) : Prop := match gd with
 | none => K true s
 | some (j, want) => match (ops[j]?).bind (·.dst) with
   | none => False
   | some d => match Uo s.env d with
     | some (.v (.a .un)) => K false s
     | v => s.oz v fun t s => K (t == want) s
theorem IV {ops : Array Oper} {gd : Option (Nat × Bool)} {s : S} {K : Bool → S → Prop} (h : Qg ops gd s K) : ∃ b s', s.Hx s' ∧ (∀ J, AP ops (s.e J) gd = b) ∧ K b s' := by
 unfold Qg at h
 split at h
 · exact ⟨true, s, .refl s, fun _ => rfl, h⟩
 · rename_i j want
   split at h
   · cases h
   · rename_i d hd
     split at h
     · rename_i hv
       refine ⟨false, s, .refl s, fun J => ?_, h⟩
       have : s.e J d = undef := EA hv
       simp only [AP, hd, this]
       rfl
     · obtain ⟨t, s', x, h1, h2, h3, h4, h⟩ := S.FE h
       refine ⟨_, s', h1, fun J => ?_, h⟩
       have : s.e J d = .bool t := (EA h3).trans h4
       simp only [AP, hd, this]
       cases t <;> cases want <;> rfl
def cR (J : Env) (K : S → Prop) : Env → Bx → Hp → Prop := fun e bx σ => ∃ s, e = s.e J ∧ bx = s.b ∧ σ = s.σ ∧ K s
structure Cx extends Zt where
 n : Nat
 N9 : List (Nat × TypeId) := []
structure Cx.Ok (c : Cx) (g : Gl) : Prop where
 P : c.P = g.P
 R : c.R = g.R
 E : AG g.P c.Mu
 n : c.n = g.n
 Gd : g.Gd = none
 ds : g.ds = []
def kp0 : KP := fun _ _ F => F
def eo (l : List FC) (i : Nat) (o : Nat) (xs : List Bc) : List FC := match l with
 | [] => []
 | (j, t, cs) :: l => bif Nat.beq j i then (j, t, Zo cs o xs) :: l else (j, t, cs) :: eo l i o xs
def Qh {α : Type} : List α → Nat
 | [] => 0
 | _ :: l => Qh l + 1
theorem P6 {α : Type} : ∀ l : List α, Qh l = l.length
 | [] => rfl
 | _ :: l => by simp only [Qh, List.length_cons]; rw [P6 l]
def OA : List Bc → List Value
 | [] => []
 | .raw v :: l => v :: OA l
 | .un :: l => undef :: OA l
 | _ :: l => OA l
def v7 (F : Prop) : List Value → Prop
 | [] => F
 | [v] => (Value.oneCell' v = true) ∧ F
 | l => wC l ∧ F
where
 wC : List Value → Prop
   | [] => True
   | [v] => Value.oneCell' v = true
   | v :: l => Value.oneCell' v = true ∧ wC l
def SV.Zu : SV → Option (List Bc)
 | .v (.a x) => some [x]
 | .v (.agg l) => some l
 | .Te _ => none
def mapOf (P : Program) (l : List (Nat × TypeId)) (x : Operand) : Option (TypeId × TypeId) := match x with
 | .tmp t => match l.find? fun p => Nat.beq p.1 t with
   | some p => match P.underlying p.2 with
     | some (.map k v) => some (k, v)
     | _ => none
   | none => none
 | _ => none
def jN (c : Cx) (dst : Option Nat) (x : Operand) (ty : TypeId) (s : S) (K : S → Prop) : Prop := match dst, s.op x, mapOf c.P c.N9 x with
 | some d, some u, some (tk, tv) => AJ c.P (Instr.next (u.den s.vl) false ty) s.σ (fun v σ1 => (v = (.tuple #[(.bool false)]) ∧ K ((s.hp σ1).put (some d) (.Te [.a (.bl false)]))) ∨
     (match s.ok with
       | true => nu c.P tk s.vl fun a vl => nu c.P tv vl fun b vl => v = (SV.Te [.a (.bl true), a, b]).den vl ∧ K (((s.hp σ1).w vl).put (some d) (.Te [.a (.bl true), a, b]))
       | false => False))
 | _, _, _ => False
def wD (c : Cx) (T : TypeId) (i o : Nat) (v : SV) (s : S) (K : S → Prop) : Prop := match v.Zu, WN c.P T with
 | some l, some n => match WX s.bx i with
   | some (t, cs) => match Nat.beq (Qh l) n && Nat.ble (o + Qh l) (Qh cs) with
     | true => v7 (K ⟨s.env, eo s.bx i o l, s.vl, s.σ⟩) (OA l)
     | false => False
   | none => False
 | _, _ => False
def jO (c : Cx) (ops : Array Oper) (i : Nat) (s : S) (K : S → Prop) : Prop := match ops[i]? with
 | none => False
 | some o => match Gy o.dst c.n with
   | false => False
   | true => Qg ops o.guard s fun b s => match b with
     | false => K (s.put o.dst (.at .un))
     | true => match o.op with
       | .load T x => ldV c.P T x s fun _ v s => K (s.put o.dst v)
       | .mapUpdate T m k v => match o.dst, s.op m, s.op k, s.op v with
         | none, some m, some k, some v => AJ c.P (Instr.mapUpdate T (m.den s.vl) (k.den s.vl) (v.den s.vl)) s.σ (fun _ σ1 => K (s.hp σ1))
         | _, _, _, _ => False
       | .insert T m k v => match o.dst, s.op m, s.op k, s.op v with
         | none, some m, some k, some v => AJ c.P (Instr.mapUpdate T (m.den s.vl) (k.den s.vl) (v.den s.vl)) s.σ (fun _ σ1 => K (s.hp σ1))
         | _, _, _, _ => False
       | .next x false => jN c o.dst x o.type s K
       | .entry x => match s.op x, mapOf c.P c.N9 x with
         | some u, some (tk, tv) => AJ c.P (Instr.entry (u.den s.vl)) s.σ (fun v σ1 => HZ (jJ c.P tk tv) o.dst (s.hp σ1) s.σ v kp0 K)
         | _, _ => False
       | .panic x => match s.op x with
         | some (.v (.a (.raw (.iface T u)))) => c.R (.panicked [{ v := .iface T u, recovered := false }]) s.σ
         | _ => False
       | .store T x y => match o.dst, jC (s.op x), s.op y with
         | none, some (.bx i b), some v => wD c T i b v s K
         | _, _, _ => eh c.toZt o.dst (.store T x y) o.type s kp0 K
       | op => match jM c.P op, anyM c.P op o.type s with
         | true, _ => eh c.toZt o.dst op o.type s kp0 K
         | false, some m => vz c.P o.type m s fun v s => K (s.put o.dst v)
         | false, none => yv c.P c.wr op s fun v s => K (s.put o.dst v)
def pC (c : Cx) (ops : Array Oper) : List Nat → S → (S → Prop) → Prop
 | [], s, K => K s
 | i :: is, s, K => jO c ops i s fun s => pC c ops is s K
section
variable {g : Gl} {ops : Array Oper} {i : Nat} {J : Env} {s : S} {K : S → Prop} {c : Cx}
theorem cS {s s' : S} {K : Env → Bx → Hp → Prop} (h : s.Hx s') (hk : AK g ops i (s'.e J) s'.b s'.σ K) : AK g ops i (s.e J) s.b s.σ K := by
 rw [← h.e J, ← h.b, ← h.σ]; exact hk
theorem ABI {s : S} {o : Oper} {K : SV → S → Prop} {K' : Env → Bx → Hp → Prop} (ho : ops[i]? = some o) (hw : AP ops (s.e J) o.guard = true) (hd : Gy o.dst g.n = true) (h : YP g.P o.op o.type s K) (hk : ∀ v s', s.Hx s' → K v s' → K' ((s'.put o.dst v).e J) s'.b s'.σ) :
   AK g ops i (s.e J) s.b s.σ K' := by
 obtain ⟨v, s', h1, h2, h3⟩ := h
 have := hk v s' h1 h3
 rw [S.Hu, h1.e J, h1.b, h1.σ] at this
 exact AK.y (C0 ho) hw hd (h2 J _) this
theorem Yd.up {P : Program} {e : Env} {bx : Bx} {σ : Hp} {b : Nat} {op : Op} {ty : TypeId} {v : Value} (h : Yd P e bx (fun x => if x = b then σ x else none) op ty v) : Yd P e bx σ op ty v := fun o ho ht w hs hb => h o ho ht w (fun k u hk => by
 simp only at hk
 split at hk
 · exact hs k u hk
 · cases hk) hb
theorem AK.mono {e : Env} {bx : Bx} {σ : Hp} {K K' : Env → Bx → Hp → Prop} (h : AK g ops i e bx σ K) (hk : ∀ e bx σ, K e bx σ → K' e bx σ) : AK g ops i e bx σ K' := fun w0 F a w st => wpOpIn_mono (fun a' w' ⟨e', b', σ', Mj, h'⟩ => ⟨e', b', σ', Mj, hk _ _ _ h'⟩) (h w0 F a w st)
theorem ABJ {dst : Option Nat} {op : Op} {ty : TypeId} {gd : Option (Nat × Bool)} (hc : c.Ok g) (hs : sig ops i = some (dst, op, ty, gd)) (hw : AP ops (s.e J) gd = true) (hd : Gy dst g.n = true) (h : eh c.toZt dst op ty s kp0 K) : AK g ops i (s.e J) s.b s.σ (cR J K) := by
 have := Qe (c := c.toZt) (kq := fun _ _ => True) (J := J) hc.P hc.R hc.E (fun _ _ F h => ⟨h, trivial⟩) (fun _ _ _ => trivial) hs hw hd h
 intro w0 F a w st
 refine wpOpIn_mono ?_ (this w0 F a w st)
 rintro a' w' ⟨e', F7, σ', Mj, s', rfl, rfl, rfl, _, _, hk⟩
 exact ⟨_, _, _, Mj, s', rfl, rfl, rfl, hk⟩
theorem Wc {dst : Option Nat} {x : Operand} {ty : TypeId} {gd : Option (Nat × Bool)} (hc : c.Ok g) (hs : sig ops i = some (dst, .next x false, ty, gd)) (hw : AP ops (s.e J) gd = true) (hd : Gy dst g.n = true) (h : jN c dst x ty s K) : AK g ops i (s.e J) s.b s.σ (cR J K) := by
 unfold jN at h
 split at h
 · rename_i d u tk tv hu hm
   rw [hc.P] at h
   refine AK.TB hs hw hd (Instr.next (u.den s.vl) false ty) (fun o ho ht => by simp only [execOp, ho, ht]; rw [ev hu]) (h.mono fun v σ1 hr => ?_)
   rcases hr with ⟨rfl, hk⟩ | hr
   · exact ⟨_, (S.Hu (s := s.hp σ1) (x := .Te [.a (.bl false)])).symm, (S.Hv (s := s.hp σ1) (x := .Te [.a (.bl false)])).symm, (S.FD (s := s.hp σ1) (x := .Te [.a (.bl false)])).symm, hk⟩
   · split at hr
     · rename_i Di
       obtain ⟨a, w1, h1, hr⟩ := EB hr
       obtain ⟨b, w2, h2, hr⟩ := EB hr
       obtain ⟨hv, hk⟩ := hr
       have Ot := S.QW (s := s.hp σ1) Di (h1.trans h2).le
       refine ⟨_, ?_, ?_, ?_, hk⟩
       · rw [S.Hu, Ot.e J, hv]; rfl
       · rw [S.Hv, Ot.b]; rfl
       · rw [S.FD]; rfl
     · cases hr
 · cases h
theorem Wd {vl : Vl} {i o : Nat} {l : List Bc} : ∀ {bx : List FC} {t : TypeId} {cs : List Bc}, WX bx i = some (t, cs) → ∃ j, (ET vl bx)[j]? = some (nth 0 vl.δ i, .cells (A1 vl cs).toArray t (0, 0)) ∧ ET vl (eo bx i o l) = (ET vl bx).set j (nth 0 vl.δ i, .cells (A1 vl (Zo cs o l)).toArray t (0, 0))
 | (k, u, ds) :: r, t, cs, h => by
   simp only [WX] at h
   cases hk : Nat.beq k i with
   | true =>
     rw [hk] at h; simp only [cond_true, Option.some.injEq, Prod.mk.injEq] at h
     obtain ⟨rfl, rfl⟩ := h
     have := Nat.eq_of_beq_eq_true hk
     subst this
     exact ⟨0, rfl, by simp only [eo, hk, cond_true, ET, List.set_cons_zero]⟩
   | false =>
     rw [hk] at h; simp only [cond_false] at h
     obtain ⟨j, h1, h2⟩ := Wd (vl := vl) (o := o) (l := l) h
     exact ⟨j + 1, by simpa only [ET, List.getElem?_cons_succ] using h1, by simp only [eo, hk, cond_false, ET, List.set_cons_succ, h2]⟩
theorem Zv {F : Prop} {l : List Value} (h : v7 F l) : F ∧ ∀ v ∈ l, Value.oneCell' v = true := by
 have cj : ∀ {l : List Value}, v7.wC l → ∀ v ∈ l, Value.oneCell' v = true := fun {l} => by
   induction l with
   | nil => intro _ v hv; cases hv
   | cons a l ih =>
     intro h v hv
     cases l with
     | nil => simp at hv; subst hv; exact h
     | cons b l =>
       rcases List.mem_cons.1 hv with rfl | hv
       · exact h.1
       · exact ih h.2 v hv
 match l, h with
 | [], h => exact ⟨h, fun v hv => by cases hv⟩
 | [v], h => exact ⟨h.2, fun u hu => by simp at hu; subst hu; exact h.1⟩
 | a :: b :: l, h => exact ⟨h.2, cj h.1⟩
theorem Qi {vl : Vl} : ∀ {l : List Bc}, (∀ v ∈ OA l, Value.oneCell' v = true) → ∀ u ∈ A1 vl l, Value.oneCell' u = true
 | [], _, u, hu => by cases hu
 | x :: l, h, u, hu => by
   have tl : ∀ v ∈ OA l, Value.oneCell' v = true := fun v hv => h v (by cases x <;> first | exact hv | exact List.mem_cons_of_mem _ hv)
   rcases List.mem_cons.1 hu with rfl | hu
   · cases x <;> try rfl
     case bs i n => cases n <;> rfl
     case raw v => exact h v (List.mem_cons_self ..)
     case un => exact h undef (List.mem_cons_self ..)
   · exact Qi tl u hu
theorem Zw {vl : Vl} {v : SV} {l : List Bc} (h : v.Zu = some l) (ho : ∀ u ∈ A1 vl l, Value.oneCell' u = true) : (v.den vl).cells = (A1 vl l).toArray := by
 unfold SV.Zu at h
 split at h
 · rename_i x
   cases h
   have := ho (x.den vl) (List.mem_cons_self ..)
   simp only [SV.den, GQ.den, A1]
   cases hx : x.den vl <;> first | rfl | (rw [hx] at this; cases this)
 · cases h; rfl
 · cases h
theorem Zx {T ty : TypeId} {x y : Operand} {gd : Option (Nat × Bool)} {k b : Nat} {v : SV} (hc : c.Ok g) (hs : sig ops i = some (none, .store T x y, ty, gd)) (hw : AP ops (s.e J) gd = true) (hx : jC (s.op x) = some (.bx k b)) (hy : s.op y = some v) (h : wD c T k b v s K) : AK g ops i (s.e J) s.b s.σ (cR J K) := by
 unfold wD at h
 split at h
 · rename_i l n hl hz
   split at h
   · rename_i t cs hg
     split at h
     · rename_i hd
       simp only [Bool.and_eq_true, P6] at hd
       obtain ⟨hk, ho⟩ := Zv h
       have Zy := Qi (vl := s.vl) ho
       have Zz := Zw (vl := s.vl) hl Zy
       obtain ⟨u, e1, e2⟩ := EV hx
       obtain ⟨j, h1, h2⟩ := Wd (vl := s.vl) (o := b) (l := l) hg
       rw [hc.P] at hz
       refine AK.vJ (b := nth 0 s.vl.δ k) (o := b) (c := (A1 s.vl cs).toArray) (c' := (A1 s.vl (Zo cs b l)).toArray) (t := t) (j := j) hs hw (CK hz) (by rw [ev e1, e2]; rfl) (ev hy) h1 ?_ ?_ ?_ ?_ ?_
       · rw [Zz]; simp [C1]; exact Nat.eq_of_beq_eq_true hd.1
       · have := Nat.eq_of_beq_eq_true hd.1
         have h3 := Nat.le_of_ble_eq_true hd.2
         exact Nat.ble_eq_true_of_le (by simp [C1]; omega)
       · rw [Zz]; exact List.all_eq_true.2 fun u hu => Zy u (by simpa using hu)
       · rw [Zz, Qa]
       · exact ⟨⟨s.env, eo s.bx k b l, s.vl, s.σ⟩, rfl, h2.symm, rfl, hk⟩
     · cases h
   · cases h
 · cases h
theorem We (hc : c.Ok g) (h : jO c ops i s K) : AK g ops i (s.e J) s.b s.σ (cR J K) := by
 unfold jO at h
 split at h
 · cases h
 · rename_i o ho
   split at h
   · cases h
   · rename_i hd
     rw [hc.n] at hd
     obtain ⟨b, s1, h1, hw, h⟩ := IV h
     have hw := hw J
     rw [← h1.e J] at hw
     refine cS h1 ?_
     cases b with
     | false => exact AK.no (C0 ho) hw hd ⟨_, (S.Hu (x := .at .un)).symm, S.Hv.symm, S.FD.symm, h⟩
     | true =>
       simp only at h
       split at h
       · rename_i T x IJ
         obtain ⟨m, v, s2, h2, hk, hy⟩ := Tq (ty := o.type) h
         have hs := C0 ho
         rw [IJ] at hs
         refine AK.y (v := v.den s2.vl) hs hw hd ?_ ⟨s2.put o.dst v, by rw [S.Hu, h2.e J], by rw [S.Hv, h2.b], by rw [S.FD, h2.σ], hk⟩
         have hy := hy J
         rw [hc.P] at hy
         cases m with
         | none => exact hy _
         | some b => exact Yd.up hy
       · rename_i T m k v IJ
         split at h
         · rename_i um uk uv MG hm hk hv
           have hs := C0 ho
           rw [IJ, MG] at hs
           rw [hc.P] at h
           exact AK.oa hs hw rfl _ (fun o ho ht => by simp only [execOp, ho]; rw [ev hm, ev hk, ev hv]) (h.mono fun _ σ1 hr => ⟨s1.hp σ1, rfl, rfl, rfl, hr⟩)
         · cases h
       · rename_i T m k v IJ
         split at h
         · rename_i um uk uv MG hm hk hv
           have hs := C0 ho
           rw [IJ, MG] at hs
           rw [hc.P] at h
           exact AK.oa hs hw rfl _ (fun o ho ht => by simp only [execOp, ho]; rw [ev hm, ev hk, ev hv]) (h.mono fun _ σ1 hr => ⟨s1.hp σ1, rfl, rfl, rfl, hr⟩)
         · cases h
       · have IJ := ‹o.op = Op.next _ false›
         have hs := C0 ho
         rw [IJ] at hs
         exact Wc hc hs hw hd h
       · have IJ := ‹o.op = Op.entry _›
         have hs := C0 ho
         rw [IJ] at hs
         split at h
         · rename_i u tk tv hu hm
           rw [hc.P] at h
           have := AK.TB (K := vy J s1 (fun _ _ => True) K) hs hw hd (Instr.entry (u.den s1.vl)) (fun o ho ht => by simp only [execOp, ho]; rw [ev hu]) (h.mono fun v σ1 hr => Ad (kq := fun _ _ => True) ed (fun _ _ F h => ⟨h, trivial⟩) hr J)
           exact this.mono fun e bx σ ⟨s', e1, e2, e3, _, _, hk⟩ => ⟨s', e1, e2, e3, hk⟩
         · cases h
       · have IJ := ‹o.op = Op.panic _›
         split at h
         · rename_i T u hx
           have hs := C0 ho
           rw [IJ] at hs
           rw [hc.R] at h
           exact AK.panic hs hw (by rw [ev hx]; rfl) hc.Gd hc.ds h
         · cases h
       · have IJ := ‹o.op = Op.store _ _ _›
         have hs := C0 ho
         rw [IJ] at hs
         split at h
         · rename_i i' b v MG hx hy
           rw [MG] at hs
           exact Zx hc hs hw hx hy h
         · exact ABJ hc hs hw hd h
       · split at h
         · exact ABJ hc (C0 ho) hw hd h
         · rename_i m _ hm
           rw [hc.P] at h hm
           obtain ⟨v, s2, h2, hy, hk⟩ := Qf hm h
           exact AK.y (v := v.den s2.vl) (C0 ho) hw hd (hy J) ⟨s2.put o.dst v, by rw [S.Hu, h2.e J], by rw [S.Hv, h2.b], by rw [S.FD, h2.σ], hk⟩
         · rw [hc.P] at h
           exact ABI ho hw hd (WY h) fun v s' hZ hk => ⟨s'.put o.dst v, rfl, S.Hv.symm, S.FD.symm, hk⟩
theorem ML (hc : c.Ok g) : ∀ {is : List Nat} {s : S}, pC c ops is s K → Seq g ops is (s.e J) s.b s.σ (cR J K)
 | [], s, h => ⟨s, rfl, rfl, rfl, h⟩
 | i :: is, s, h => (We hc h).mono fun e bx σ ⟨s', h1, h2, h3, h4⟩ => by subst h1 h2 h3; exact ML hc h4
theorem Qj {K K' : Env → Bx → Hp → Prop} (hk : ∀ e bx σ, K e bx σ → K' e bx σ) : ∀ {is : List Nat} {e : Env} {bx : Bx} {σ : Hp}, Seq g ops is e bx σ K → Seq g ops is e bx σ K'
 | [], _, _, _, h => hk _ _ _ h
 | i :: is, e, bx, σ, h => AK.mono h fun _ _ _ h => Qj hk h
theorem IW {K K' : Env → Bx → Hp → Prop} (hk : ∀ e bx σ, K e bx σ → K' e bx σ) : ∀ {p : Ord} {q : II} {e : Env} {bx : Bx} {σ : Hp}, Ja g ops p q e bx σ K → Ja g ops p q e bx σ K'
 | .done, _, _, _, _, h => hk _ _ _ h
 | .yes i r, q, e, bx, σ, ⟨own, o, v, h1, h2, h3, h4, h5⟩ => ⟨own, o, v, h1, h2, h3, h4, IW hk h5⟩
 | .alt i r t, q, e, bx, σ, ⟨h1, h2⟩ => ⟨AK.mono h1 fun _ _ _ ⟨h3, h4⟩ => ⟨h3, IW hk h4⟩, IW hk h2⟩
 | .no, _, _, _, _, _ => trivial
def Qk : Ord → List Nat
 | .done => []
 | .yes _ r => Qk r
 | .alt i r _ => i :: Qk r
 | .no => []
def ABK (ops : Array Oper) (i : Nat) : Nat → Nat → Option (List Nat)
 | 0, _ => none
 | f + 1, t => match Hr ops t i with
   | true => some [t]
   | false => (List.range t).findSome? fun u => match Nat.blt i u && Hr ops t u with
     | true => match ABK ops i f u with
       | some p => some (t :: p)
       | none => none
     | false => none
def waits (ops : Array Oper) (i : Nat) : List Nat → List (List Nat)
 | [] => []
 | t :: l => match ABK ops i 40 t with
   | some p => p :: waits ops i l
   | none => waits ops i l
def sS (L : II) : KP := fun σ0 σ1 F => match L with
 | none => Ext σ0 σ1 ∧ F
 | some [] => F
 | some (x :: l) => Kp ((x :: l).map Prod.fst) σ0 σ1 ∧ F
def FY (c : Cx) (ops : Array Oper) : Ord → II → S → (S → Prop) → Prop
 | .done, _, s, K => K s
 | .yes i r, L, s, K => match ops[i]? with
   | none => False
   | some o => match Gy o.dst c.n && L.ok i with
     | false => False
     | true => Qg ops o.guard s fun b s => match b with
       | false => FY c ops r L (s.put o.dst (.at .un)) K
       | true => match o.op with
         | .load T x => ldV c.P T x s fun m v s => match m, L with
           | none, _ => FY c ops r L (s.put o.dst v) K
           | some _, none => FY c ops r L (s.put o.dst v) K
           | some b, some l => match (MD (some l) (some (b, waits ops i (Qk r)))).ok i && QQ ops i (some (b, waits ops i (Qk r))) with
             | true => FY c ops r (MD (some l) (some (b, waits ops i (Qk r)))) (s.put o.dst v) K
             | false => False
         | op => match jM c.P op, anyM c.P op o.type s, L with
           | true, _, _ => False
           | false, some m, none => vz c.P o.type m s fun v s => FY c ops r none (s.put o.dst v) K
           | false, some _, some _ => False
           | false, none, L => yv c.P c.wr op s fun v s => FY c ops r L (s.put o.dst v) K
 | .alt i r t, L, s, K =>
   match t with
   | .no => Wf c ops i L s fun s => FY c ops r (FW L i) s K
   | t => (Wf c ops i L s fun s => FY c ops r (FW L i) s K) ∧ FY c ops t L s K
 | .no, _, _, _ => True
where
 Wf (c : Cx) (ops : Array Oper) (i : Nat) (L : II) (s : S) (K : S → Prop) : Prop := match ops[i]? with
   | none => False
   | some o => match Gy o.dst c.n with
     | false => False
     | true => Qg ops o.guard s fun b s => match b with
       | false => K (s.put o.dst (.at .un))
       | true => eh c.toZt o.dst o.op o.type s (sS (FW L i)) K
def kqL (q : II) (σ σ' : Hp) : Prop := match q with
 | none => ∀ b o, σ b = some o → σ' b = some o
 | some L => ∀ x ∈ L, ∀ o, σ x.1 = some o → σ' x.1 = some o
theorem wE {q : II} {bx F7 : Bx} {σ σ' : Hp} (h : kqL q σ σ') (hb : ∀ p ∈ bx, p ∈ F7) : JW q bx σ F7 σ' := ⟨hb, h⟩
theorem et {L : II} {σ0 σ1 : Hp} {F : Prop} (h : sS L σ0 σ1 F) : F ∧ kqL L σ0 σ1 := by
 unfold sS at h
 split at h
 · exact ⟨h.2, h.1⟩
 · exact ⟨h, fun x hx => by cases hx⟩
 · exact ⟨h.2, fun y hy o ho => h.1 y.1 (List.mem_map.2 ⟨y, hy, rfl⟩) o ho⟩
theorem pD {L : II} {σ0 σ1 : Hp} (h : Ext σ0 σ1) : kqL L σ0 σ1 := by
 cases L with
 | none => exact h
 | some l => exact fun x _ o ho => h _ _ ho
theorem Wg {L : II} (hc : c.Ok g) (h : FY.Wf c ops i L s K) : AK g ops i (s.e J) s.b s.σ fun e' F7 σ' => JW (FW L i) s.b s.σ F7 σ' ∧ cR J K e' F7 σ' := by
 unfold FY.Wf at h
 split at h
 · cases h
 · rename_i o ho
   split at h
   · cases h
   · rename_i hd
     rw [hc.n] at hd
     obtain ⟨b, s1, h1, hw, h⟩ := IV h
     have hw := hw J
     rw [← h1.e J] at hw
     have key : AK g ops i (s1.e J) s1.b s1.σ fun e' F7 σ' => JW (FW L i) s1.b s1.σ F7 σ' ∧ cR J K e' F7 σ' := by
       cases b with
       | false => exact AK.no (C0 ho) hw hd ⟨JW.refl _ _ _, _, (S.Hu (x := .at .un)).symm, S.Hv.symm, S.FD.symm, h⟩
       | true =>
         have := Qe (c := c.toZt) (kq := kqL (FW L i)) (J := J) hc.P hc.R hc.E (fun _ _ F h => et h) (fun _ _ h => pD h) (C0 ho) hw hd h
         exact this.mono fun e' F7 σ' ⟨s', e1, e2, e3, hq, hb, hk⟩ => ⟨wE hq hb, s', e1, e2, e3, hk⟩
     have := cS (K := fun e' F7 σ' => JW (FW L i) s1.b s1.σ F7 σ' ∧ cR J K e' F7 σ') h1 key
     rw [h1.b, h1.σ] at this
     exact this
theorem C2 (hc : c.Ok g) : ∀ {p : Ord} {q : II} {s : S}, FY c ops p q s K → Ja g ops p q (s.e J) s.b s.σ (cR J K)
 | .done, q, s, h => ⟨s, rfl, rfl, rfl, h⟩
 | .yes i r, q, s, h => by
   simp only [FY] at h
   split at h
   · cases h
   · rename_i o ho
     split at h
     · cases h
     · rename_i hd
       simp only [Bool.and_eq_true] at hd
       obtain ⟨hd, hq⟩ := hd
       rw [hc.n] at hd
       obtain ⟨b, s1, h1, hw, h⟩ := IV h
       have hw := hw J
       rw [← h1.e J] at hw
       rw [← h1.e J, ← h1.b, ← h1.σ]
       have go : ∀ {v : SV} {s2 : S} {own : Option (Nat × List (List Nat))}, s1.Hx s2 → ((MD q own).ok i && QQ ops i own) = true → Yd g.P (s1.e J) s1.b (Ny q own s1.σ) o.op o.type (v.den s2.vl) → AP ops (s1.e J) o.guard = true → FY c ops r (MD q own) (s2.put o.dst v) K → Ja g ops (.yes i r) q (s1.e J) s1.b s1.σ (cR J K) := fun {v s2 own} h2 Di hy hw hk => by
         have := C2 hc hk
         rw [S.Hu, S.Hv, S.FD, h2.e J, h2.b, h2.σ] at this
         exact ⟨own, o, v.den s2.vl, Di, ho, .inl ⟨hw, hy⟩, Gy.lt hd, this⟩
       cases b with
       | false =>
         have := C2 hc h
         rw [S.Hu, S.Hv, S.FD] at this
         exact ⟨none, o, undef, ok_none hq, ho, .inr ⟨hw, rfl⟩, Gy.lt hd, by rw [FB]; exact this⟩
       | true =>
         simp only at h
         split at h
         · rename_i T x IJ
           obtain ⟨m, v, s2, h2, hk, hy⟩ := Tq (ty := o.type) h
           have hy := hy J
           rw [hc.P, ← IJ] at hy
           split at hk
           · exact go (own := none) h2 (ok_none hq) (hy _) hw (by rw [FB]; exact hk)
           · exact go (own := none) h2 (ok_none hq) (Yd.up hy) hw (by rw [FB]; exact hk)
           · rename_i b l
             split at hk
             · rename_i Di
               exact go h2 Di hy hw hk
             · cases hk
         · split at h
           · cases h
           · have hm := ‹anyM c.P o.op o.type s1 = some _›
             rw [hc.P] at h hm
             obtain ⟨v, s2, h2, hy, hk⟩ := Qf hm h
             exact go (own := none) h2 (ok_none hq) (hy J) hw hk
           · cases h
           · rw [hc.P] at h
             obtain ⟨v, s2, h2, hy, hk⟩ := WY (ty := o.type) h
             exact go (own := none) h2 (ok_none hq) (hy J _) hw (by rw [FB]; exact hk)
 | .alt i r t, q, s, h => by
   have key : ∀ {t : Ord}, (FY.Wf c ops i q s fun s => FY c ops r (FW q i) s K) → Ja g ops t q (s.e J) s.b s.σ (cR J K) → Ja g ops (.alt i r t) q (s.e J) s.b s.σ (cR J K) := fun {t} h1 h2 =>
     ⟨(Wg hc h1).mono fun e bx σ ⟨hk, s', e1, e2, e3, h3⟩ => ⟨hk, by subst e1 e2 e3; exact C2 hc h3⟩, h2⟩
   cases t with
   | no => exact key h trivial
   | done => exact key h.1 (C2 hc h.2)
   | yes j u => exact key h.1 (C2 hc h.2)
   | alt j u w => exact key h.1 (C2 hc h.2)
 | .no, q, s, h => trivial
def cU (P : Program) (ops : Array Oper) (m : Nat) : Nat → Array Bool → Ord
 | 0, _ => .no
 | f + 1, listed => match (List.range m).all fun i => listed.getD i false with
   | true => .done
   | false => match (Region.ready .any ops listed).find? fun j => Nat.blt j m && match ops[j]? with | some o => !jM P o.op | none => false with
     | some j => .yes j (cU P ops m f (listed.setIfInBounds j true))
     | none => (Region.ready .any ops listed).foldr (fun j acc => .alt j (cU P ops m f (listed.setIfInBounds j true)) acc) .no
def wF (c : Cx) (ops : Array Oper) (draw : Bool) (m : Nat) (q : II) (s : S) (K : S → Prop) : Prop := match draw with
 | false => pC c ops (List.range ops.size) s K
 | true => match Um ops m (cU c.P ops m (ops.size + 1) (Array.replicate ops.size false)) (List.range' m (ops.size - m)) with
   | true => FY c ops (cU c.P ops m (ops.size + 1) (Array.replicate ops.size false)) q s fun s => pC c ops (List.range' m (ops.size - m)) s K
   | false => False
theorem Z0 {k : List Item} {id m : Nat} {draw : Bool} {q : II} (hc : c.Ok g) (hm : g.P.follows .mixedOrders = true) (h : wF c ops draw m q s K) (hk : ∀ s, K s → At g k (s.e J) s.b s.σ) : At g (.code (.region id ops draw) :: k) (s.e J) s.b s.σ := by
 have fin : ∀ e bx σ, cR J K e bx σ → At g k e bx σ := fun e bx σ ⟨s', e1, e2, e3, h⟩ => by subst e1 e2 e3; exact hk s' h
 cases draw with
 | false =>
   refine At.region rfl rfl ?_
   have : Seq g ops (List.range ops.size) (s.e J) s.b s.σ (cR J K) := ML hc h
   exact Qj fin this
 | true =>
   simp only [wF] at h
   split at h
   · rename_i hp
     refine At.ABE hm rfl hp (q := q) ?_
     have := C2 (J := J) hc h
     refine IW (fun e bx σ ⟨s', e1, e2, e3, h⟩ => ?_) this
     subst e1 e2 e3
     exact Qj fin (ML hc h)
   · cases h
end
end Tw
end
section
namespace Tw
open Go
variable [Ev]
def node (body : Code) : List Bool → Code
 | [] => body
 | false :: p => cl (node body p)
 | true :: p => cr (node body p)
inductive It where
 | c (p : List Bool)
 | QX (i : Nat)
 | lp (p : List Bool)
 | sc (p : List Bool)
def It.den (body : Code) : It → Item
 | .c p => .code (node body p)
 | .QX i => .inBlock i
 | .lp p => .inLoop (node body p)
 | .sc p => .inScope (node body p)
def C3 (body : Code) : List It → List Item
 | [] => []
 | x :: l => x.den body :: C3 body l
def OB : List Bool → List Bool → Bool
 | [], [] => true
 | a :: p, b :: q => (bif a then b else !b) && OB p q
 | _, _ => false
theorem Tu : ∀ {p q : List Bool}, OB p q = true → p = q
 | [], [], _ => rfl
 | a :: p, b :: q, h => by
   simp only [OB, Bool.and_eq_true] at h
   rw [Tu h.2]
   cases a <;> cases b <;> simp at h <;> rfl
 | [], _ :: _, h => by cases h
 | _ :: _, [], h => by cases h
def It.eq : It → It → Bool
 | .c p, .c q => OB p q
 | .QX i, .QX j => Nat.beq i j
 | .lp p, .lp q => OB p q
 | .sc p, .sc q => OB p q
 | _, _ => false
def cV : List It → List It → Bool
 | [], [] => true
 | x :: l, y :: m => x.eq y && cV l m
 | _, _ => false
theorem Wh : ∀ {l m : List It}, cV l m = true → l = m
 | [], [], _ => rfl
 | x :: l, y :: m, h => by
   simp only [cV, Bool.and_eq_true] at h
   rw [Wh h.2]
   have : x = y := by
     cases x <;> cases y <;> simp only [It.eq] at h <;> first
       | (rw [Tu h.1])
       | (rw [Nat.eq_of_beq_eq_true h.1])
       | (exact absurd h.1 (by simp))
   rw [this]
 | [], _ :: _, h => by cases h
 | _ :: _, [], h => by cases h
structure Cut where
 todo : List It
 f : S → Prop
def Cut.Ok (g : Gl) (body : Code) (k : Cut) : Prop := ∀ s J, k.f s → At g (C3 body k.todo) (s.e J) s.b s.σ
def pE : List Cut → List It → Option (S → Prop)
 | [], _ => none
 | k :: l, t => match cV k.todo t with
   | true => some k.f
   | false => pE l t
theorem cW {g : Gl} {body : Code} : ∀ {l : List Cut} {t : List It} {f : S → Prop}, (∀ k ∈ l, k.Ok g body) → pE l t = some f → ∀ s J, f s → At g (C3 body t) (s.e J) s.b s.σ
 | k :: l, t, f, hl, h => by
   simp only [pE] at h
   split at h
   · rename_i he
     cases h
     rw [← Wh he]
     exact hl k (List.mem_cons_self ..)
   · exact cW (fun k hk => hl k (List.mem_cons_of_mem _ hk)) h
def Ow (i : Nat) : List It → Option (List It)
 | [] => none
 | .QX j :: r => match Nat.beq i j with
   | true => some r
   | false => Ow i r
 | _ :: r => Ow i r
def Uu (l : Nat) : Code → List Bool → Option (List It)
 | .seq a b, p => match Uu l a (false :: p) with
   | some r => some (r ++ [.c (true :: p)])
   | none => Uu l b (true :: p)
 | .label j, _ => match Nat.beq j l with
   | true => some []
   | false => none
 | _, _ => none
def Ox (body : Code) (l : Nat) : List It → Option (List It)
 | [] => none
 | .sc p :: r => match Uu l (node body p) p with
   | some m => some (m ++ (.sc p :: r))
   | none => Ox body l r
 | _ :: r => Ox body l r
structure Fx extends Cx where
 body : Code
 res : List ResultVar
 reg : List (Nat × Nat × Bool)
def jP : List (Nat × Nat × Bool) → Nat → Nat → Nat × II
 | [], _, m => (m, some [])
 | (i, m, b) :: l, id, z => match Nat.beq i id with
   | true => (m, bif b then none else some [])
   | false => jP l id z
def Z1 (c : Fx) (s : S) : List ResultVar → Option (List SV)
 | [] => some []
 | .tmp t :: r => match Uo s.env t, Z1 c s r with
   | some v, some l => some (v :: l)
   | _, _ => none
 | .cell p T :: r => match jC (Uo s.env p), Z1 c s r with
   | some (.bx i 0), some l => match WX s.bx i, WO c.P T with
     | some (_, cs), some true => match WN c.P T with
       | some n => match decide (cs.length = n) with
         | true => some (.v (.agg cs) :: l)
         | false => none
       | none => none
     | some (_, x :: _), some false => some (.at x :: l)
     | _, _ => none
   | _, _ => none
def Uj (c : Fx) (s : S) : Prop := match Z1 c s c.res with
 | some l => c.R (.returned (QR (Cq s.vl l))) s.σ
 | none => False
def C4 (c : Fx) (cuts : List Cut) : Nat → Bool → List It → S → Prop
 | 0, _, _, _ => False
 | f + 1, first, todo, s => match (bif first then none else pE cuts todo) with
   | some k => k s
   | none => match todo with
     | [] => Uj c s
     | .QX _ :: r => C4 c cuts f false r s
     | .lp p :: r => C4 c cuts f false (.c p :: .lp p :: r) s
     | .sc _ :: r => C4 c cuts f false r s
     | .c p :: r => match node c.body p with
       | .skip => C4 c cuts f false r s
       | .seq _ _ => C4 c cuts f false (.c (false :: p) :: .c (true :: p) :: r) s
       | .block i _ => C4 c cuts f false (.c (false :: p) :: .QX i :: r) s
       | .loop _ => C4 c cuts f false (.c (false :: p) :: .lp (false :: p) :: r) s
       | .exit i => match Ow i r with
         | some r => C4 c cuts f false r s
         | none => False
       | .scope _ => C4 c cuts f false (.c (false :: p) :: .sc (false :: p) :: r) s
       | .label _ => C4 c cuts f false r s
       | .goto l => match Ox c.body l r with
         | some r => C4 c cuts f false r s
         | none => False
       | .cond x _ _ => s.oz (s.op x) fun t s => C4 c cuts f false (.c ((!t) :: p) :: r) s
       | .ret => Uj c s
       | .region id ops draw => wF c.toCx ops draw (jP c.reg id ops.size).1 (jP c.reg id ops.size).2 s fun s => C4 c cuts f false r s
       | _ => False
structure Fx.Ok (c : Fx) (g : Gl) (fn : Func) : Prop where
 cx : c.toCx.Ok g
 mixed : g.P.follows .mixedOrders = true
 fnc : g.P.funcs[g.f]? = some fn
 res : fn.results = c.res.toArray
 Gd : g.Gd = none
 ds : g.ds = []
section
variable {g : Gl} {c : Fx} {fn : Func} {cuts : List Cut} {J : Env}
theorem Gh (hP : c.P = g.P) {s : S} : ∀ {rs : List ResultVar} {l : List SV}, Z1 c s rs = some l → G9 g.P (s.e J) s.b s.σ rs (Cq s.vl l)
 | [], l, h => by simp only [Z1, Option.some.injEq] at h; subst h; rfl
 | .tmp t :: r, l, h => by
   simp only [Z1] at h
   split at h
   · rename_i v l' h1 h2
     cases h
     refine ⟨_, ?_, Gh hP h2⟩
     rw [show s.e J t = v.den s.vl from EA h1]; rfl
   · cases h
 | .cell p T :: r, l, h => by
   simp only [Z1] at h
   split at h
   · rename_i i l' h1 h2
     obtain ⟨u, e1, e2⟩ := EV h1
     have hp : s.e J p = .pointer (some ⟨nth 0 s.vl.δ i, 0, none⟩) := (EA e1).trans (e2 _)
     split at h
     · rename_i t cs hb ha
       split at h
       · rename_i n hn
         split at h
         · rename_i hd
           have hd := of_decide_eq_true hd
           cases h
           rw [hP] at ha hn
           exact ⟨_, _, rfl, ⟨_, hp, iY (EU ha) (CK hn) (by simp [C1]; exact hd) (Jb hb)⟩, Gh hP h2⟩
         · cases h
       · cases h
     · rename_i t x cs hb ha
       cases h
       rw [hP] at ha
       exact ⟨_, _, rfl, ⟨_, hp, od (EU ha) (Jb hb) rfl⟩, Gh hP h2⟩
     · cases h
   · cases h
theorem Hz {body : Code} {i : Nat} : ∀ {r r' : List It}, Ow i r = some r' → exitTo i (C3 body r) = some (C3 body r')
 | .QX j :: r, r', h => by
   simp only [Ow] at h
   split at h
   · rename_i he
     cases h
     have := Nat.eq_of_beq_eq_true he
     subst this
     simp [C3, It.den, exitTo]
   · rename_i he
     have A4 : i ≠ j := fun e => by subst e; rw [Nat.beq_refl] at he; cases he
     simp only [C3, It.den, exitTo]
     rw [if_neg (by simpa using Ne.symm A4)]
     exact Hz h
 | .c p :: r, r', h => by simp only [Ow] at h; simp only [C3, It.den, exitTo]; exact Hz h
 | .lp p :: r, r', h => by simp only [Ow] at h; simp only [C3, It.den, exitTo]; exact Hz h
 | .sc p :: r, r', h => by simp only [Ow] at h; simp only [C3, It.den, exitTo]; exact Hz h
theorem Ql {body : Code} : ∀ {l m : List It}, C3 body (l ++ m) = C3 body l ++ C3 body m
 | [], _ => rfl
 | x :: l, m => by simp only [List.cons_append, C3, Ql]
theorem Ky {l : Nat} : ∀ {x : Code} {p : List Bool}, Uu l x p = none → findLabel x l = none
 | .seq a b, p, h => by
   simp only [Uu] at h
   split at h
   · cases h
   · rename_i h1
     simp only [findLabel, Ky h1, Ky h]
 | .label j, p, h => by
   simp only [Uu] at h
   split at h
   · cases h
   · rename_i h1
     have : j ≠ l := fun e => by subst e; rw [Nat.beq_refl] at h1; cases h1
     simp [findLabel, this]
 | .skip, p, h => rfl
 | .region .., p, h => rfl
 | .cond .., p, h => rfl
 | .block .., p, h => rfl
 | .loop .., p, h => rfl
 | .rangeFunc .., p, h => rfl
 | .exit .., p, h => rfl
 | .scope .., p, h => rfl
 | .goto .., p, h => rfl
 | .ret, p, h => rfl
 | .refuse .., p, h => rfl
theorem Qm {l : Nat} {body : Code} : ∀ {x : Code} {p : List Bool} {m : List It}, node body p = x → Uu l x p = some m → ∃ rest, findLabel x l = some rest ∧ ∀ {k : List Item} {e : Env} {bx : Bx} {σ : Hp}, At g (C3 body m ++ k) e bx σ → At g (.code rest :: k) e bx σ
 | .seq a b, p, m, hx, h => by
   simp only [Uu] at h
   split at h
   · rename_i r h1
     cases h
     obtain ⟨rest, e1, e2⟩ := Qm (body := body) (x := a) (p := false :: p) (by simp only [node, hx, cl]) h1
     refine ⟨.seq rest b, by simp only [findLabel, e1], fun h => At.seq rfl (e2 ?_)⟩
     rw [Ql, List.append_assoc] at h
     simp only [C3, It.den, node, hx, cr, List.cons_append, List.nil_append] at h
     exact h
   · rename_i h1
     obtain ⟨rest, e1, e2⟩ := Qm (body := body) (x := b) (p := true :: p) (by simp only [node, hx, cr]) h
     exact ⟨rest, by simp only [findLabel, Ky h1, e1], e2⟩
 | .label j, p, m, hx, h => by
   simp only [Uu] at h
   split at h
   · rename_i h1
     cases h
     have := Nat.eq_of_beq_eq_true h1
     subst this
     exact ⟨.skip, by simp [findLabel], fun h => At.skip h⟩
   · cases h
theorem H0 {l : Nat} {body : Code} : ∀ {r r' : List It}, Ox body l r = some r' → ∃ k', gotoIn l (C3 body r) = some k' ∧ ∀ {e : Env} {bx : Bx} {σ : Hp}, At g (C3 body r') e bx σ → At g k' e bx σ
 | .sc p :: r, r', h => by
   simp only [Ox] at h
   split at h
   · rename_i m h1
     cases h
     obtain ⟨rest, e1, e2⟩ := Qm (g := g) rfl h1
     refine ⟨.code rest :: .inScope (node body p) :: C3 body r, by simp only [C3, It.den, gotoIn, e1], fun h => e2 ?_⟩
     rw [Ql] at h
     exact h
   · rename_i h1
     obtain ⟨k', e1, e2⟩ := H0 h
     exact ⟨k', by simp only [C3, It.den, gotoIn, Ky h1, e1], e2⟩
 | .c p :: r, r', h => by simp only [Ox] at h; simp only [C3, It.den, gotoIn]; exact H0 h
 | .lp p :: r, r', h => by simp only [Ox] at h; simp only [C3, It.den, gotoIn]; exact H0 h
 | .QX p :: r, r', h => by simp only [Ox] at h; simp only [C3, It.den, gotoIn]; exact H0 h
theorem Am (hc : c.Ok g fn) (hk : ∀ k ∈ cuts, k.Ok g c.body) : ∀ {f : Nat} {first : Bool} {todo : List It} {s : S}, C4 c cuts f first todo s → At g (C3 c.body todo) (s.e J) s.b s.σ
 | 0, _, _, _, h => h.elim
 | f + 1, first, todo, s, h => by
   have hl : ∀ σ, left g.ds σ = σ := fun σ => by rw [hc.ds]; rfl
   have iA : Marks g.ds s.σ := by rw [hc.ds]; trivial
   simp only [C4] at h
   split at h
   · rename_i k ABN
     cases first with
     | true => cases ABN
     | false => exact cW hk ABN s J h
   · split at h
     · unfold Uj at h
       split at h
       · rename_i l cX
         rw [hc.cx.R] at h
         exact At.AA2 hc.fnc hc.res (by rw [hl]; exact Gh hc.cx.P cX) (by rw [hl]; exact h) hc.Gd iA
       · cases h
     · exact At.inBlock (Am hc hk h)
     · exact At.inLoop (Am hc hk h)
     · exact At.inScope (Am hc hk h)
     · rename_i p r _
       have e : C3 c.body (.c p :: r) = .code (node c.body p) :: C3 c.body r := rfl
       rw [e]
       split at h
       · rename_i hn; rw [hn]; exact At.skip (Am hc hk h)
       · rename_i a b hn
         refine At.seq hn ?_
         have := Am hc hk h
         simp only [C3, It.den, node, hn, cl, cr] at this
         exact this
       · rename_i i a hn
         refine At.block hn ?_
         have := Am hc hk h
         simp only [C3, It.den, node, hn, cl] at this
         exact this
       · rename_i a hn
         refine At.loop hn ?_
         have := Am hc hk h
         simp only [C3, It.den, node, hn, cl] at this
         exact this
       · rename_i i hn
         split at h
         · rename_i r' hr
           exact At.exit hn (Hz hr) (Am hc hk h)
         · cases h
       · rename_i a hn
         refine At.scope hn ?_
         have := Am hc hk h
         simp only [C3, It.den, node, hn, cl] at this
         exact this
       · rename_i l hn; rw [hn]; exact At.label (Am hc hk h)
       · rename_i l hn
         split at h
         · rename_i r' hr
           obtain ⟨k', e1, e2⟩ := H0 (g := g) hr
           exact At.goto hn e1 (e2 (Am hc hk h))
         · cases h
       · rename_i x a b hn
         obtain ⟨t, s', v, h1, h2, h3, h4, h⟩ := S.FE h
         have hx : AD (s.e J) x = .bool t := by rw [ev h3, h4]
         have := Am hc hk h
         rw [h1.e J, h1.b, h1.σ] at this
         cases t with
         | true =>
           refine At.sG hn hx ?_
           simp only [C3, It.den, node, hn, cl, Bool.not_true] at this
           exact this
         | false =>
           refine At.sH hn hx ?_
           simp only [C3, It.den, node, hn, cr, Bool.not_false] at this
           exact this
       · rename_i hn
         unfold Uj at h
         split at h
         · rename_i l cX
           rw [hc.cx.R] at h
           exact At.Uj hn hc.fnc hc.res (by rw [hl]; exact Gh hc.cx.P cX) (by rw [hl]; exact h) hc.Gd iA
         · cases h
       · rename_i id ops draw hn
         rw [hn]
         exact Z0 hc.cx hc.mixed h fun s' h' => Am hc hk h'
       · cases h
end
def S.eu (s : S) : List Nat → Option (List Value)
 | [] => some []
 | t :: l => match Uo s.env t, s.eu l with
   | some v, some r => some (v.den s.vl :: r)
   | _, _ => none
theorem Tv {s : S} {J : Env} : ∀ {l : List Nat} {vs : List Value}, s.eu l = some vs → Live (s.e J) (l.zip vs)
 | [], vs, h => by simp only [S.eu, Option.some.injEq] at h; subst h; trivial
 | t :: l, vs, h => by
   simp only [S.eu] at h
   split at h
   · rename_i v r h1 h2
     cases h
     exact ⟨EA h1, Tv h2⟩
   · cases h
def cY (i : Nat) : List FC → Option (FC × List FC)
 | [] => none
 | x :: l => match Nat.beq x.1 i with
   | true => some (x, l)
   | false => cY i l
def sT : Option SV → Option Nat
 | some (.v (.a (.pt (.bx i 0)))) => some i
 | _ => none
def S.Uv (s : S) : List Nat → List FC → Option (List FC)
 | [], _ => some []
 | t :: l, bx => match sT (Uo s.env t) with
   | some i => match cY i bx with
     | some (x, r) => match s.Uv l r with
       | some m => some (x :: m)
       | none => none
     | none => none
   | none => none
def Qo (vl : Vl) : List Nat → List FC → List (Nat × Value)
 | t :: l, x :: r => (t, .pointer (some ⟨nth 0 vl.δ x.1, 0, none⟩)) :: Qo vl l r
 | _, _ => []
theorem Tx {vl : Vl} {i : Nat} : ∀ {l r : List FC} {x : FC}, cY i l = some (x, r) → x.1 = i ∧ ∀ m : List FC, (ET vl m).Sublist (ET vl r) → (ET vl (x :: m)).Sublist (ET vl l)
 | y :: l, r, x, h => by
   simp only [cY] at h
   split at h
   · rename_i he
     cases h
     exact ⟨Nat.eq_of_beq_eq_true he, fun m hm => List.Sublist.cons_cons _ hm⟩
   · obtain ⟨h1, h2⟩ := Tx (vl := vl) h
     exact ⟨h1, fun m hm => List.Sublist.cons _ (h2 m hm)⟩
theorem Wi {s : S} {J : Env} : ∀ {l : List Nat} {bx B : List FC}, s.Uv l bx = some B → (ET s.vl B).Sublist (ET s.vl bx) ∧ Live (s.e J) (Qo s.vl l B)
 | [], bx, B, h => by simp only [S.Uv, Option.some.injEq] at h; subst h; exact ⟨List.nil_sublist _, trivial⟩
 | t :: l, bx, B, h => by
   simp only [S.Uv] at h
   split at h
   · rename_i i hi
     split at h
     · rename_i x r hx
       split at h
       · rename_i m hm
         cases h
         obtain ⟨h1, h2⟩ := Tx (vl := s.vl) hx
         obtain ⟨h3, h4⟩ := Wi (s := s) (J := J) hm
         refine ⟨h2 m h3, ?_, h4⟩
         unfold sT at hi
         split at hi
         · rename_i hg
           cases hi
           rw [h1]
           exact EA hg
         · cases hi
       · cases h
     · cases h
   · cases h
theorem Live.app {e : Env} : ∀ {l m : List (Nat × Value)}, Live e l → Live e m → Live e (l ++ m)
 | [], _, _, h => h
 | (_, _) :: _, _, h, g => ⟨h.1, Live.app h.2 g⟩
theorem At.ABO {g : Gl} {k : List Item} {s : S} {J : Env} {l bl : List Nat} {vs : List Value} {B : List FC} (h : s.eu l = some vs) (hb : s.Uv bl s.bx = some B) (hk : ∀ J, At g k (JV J (Qo s.vl bl B ++ l.zip vs)) (ET s.vl B) s.σ) : At g k (s.e J) s.b s.σ := by
 obtain ⟨h1, h2⟩ := Wi (J := J) hb
 exact At.sub h1 (At.live (h2.app (Tv h)) (hk _))
def Qp : Nat → List Value → List (Nat × Value)
 | _, [] => []
 | k, v :: l => (k, v) :: Qp (k + 1) l
theorem Qq {e : Env} : ∀ {l : List Value} {k : Nat}, (∀ j v, l[j]? = some v → e (k + j) = v) → Live e (Qp k l)
 | [], _, _ => trivial
 | v :: l, k, h => ⟨h 0 v rfl, Qq fun j u hj => by rw [show k + 1 + j = k + (j + 1) by omega]; exact h (j + 1) u (by simpa using hj)⟩
theorem Spec.walk {P : Program} {f : FuncId} {fn : Func} {R : Rr} {args : Array Value} {n fuel : Nat} (c : Fx) (cuts : List Cut) (s : S) (hc : c.Ok (Gl.fn P f n R) fn) (hb : fn.body = some c.body) (hnt : fn.ntmps = n) (hn : Nat.ble args.size n = true)
   (hk : ∀ k ∈ cuts, k.Ok (Gl.fn P f n R) c.body) (he : G0 s.vl s.env = Qp 0 args.toList) (hbx : s.bx = []) (h : C4 c cuts fuel true [.c []] s) : Spec P f args s.σ R := by
 subst hnt
 refine Spec.br hc.fnc hb (Nat.le_of_ble_eq_true hn) fun e hee => ?_
 have hl : Live e (G0 s.vl s.env) := by
   rw [he]
   refine Qq fun j v hj => ?_
   rw [Nat.zero_add, hee]
   simp only [Array.getD_eq_getD_getElem?]
   rw [← Array.getElem?_toList, hj]; rfl
 have := Am (J := e) hc hk h
 have PY : s.b = [] := by rw [S.b, hbx]; rfl
 rw [PY] at this
 exact At.live hl this
end Tw
end
section
namespace Tw
open Go
variable [Ev]
inductive Dv where
 | I (k : IntKind) (x : Int)
 | B (t : Bool)
 | T (x : ByteArray)
 | L (p : Option Addr) (n c : Nat)
 | Q (p : Option Addr)
 | A (b : Nat)
 | M (x : Option Nat)
 | V (x : Value)
def Dv.den : Dv → Value
 | .I k x => .int k x
 | .B t => .bool t
 | .T x => .string x
 | .L p n c => .slice p n c
 | .Q p => .pointer p
 | .A b => .pointer (some ⟨b, 0, none⟩)
 | .M x => .map x
 | .V x => x
def Wj : List Dv → List Value
 | [] => []
 | x :: l => x.den :: Wj l
inductive Dw where
 | o (x : Dv)
 | G (l : List Dv)
 | U (l : List Dv)
 | X (T : TypeId) (l : List Dv)
def Dw.den : Dw → Value
 | .o x => x.den
 | .G l => .agg (Wj l).toArray
 | .U l => .tuple (Wj l).toArray
 | .X _ _ => undef
structure Nm where
 ρ : List (Option Addr)
 β : List BK
structure Nm.le (n : Nm) (v : Vl) : Prop where
 ρ : ∀ i, i < n.ρ.length → nth none v.ρ i = nth none n.ρ i
 β : ∀ i, i < n.β.length → nth (.var false) v.β i = nth (.var false) n.β i
def Dv.sym : Dv → Nm → Bc × Nm
 | .I k x, n => (.int k x, n)
 | .B t, n => (.bs (Qh n.β) false, ⟨n.ρ, n.β ++ [.var t]⟩)
 | .T x, n => (.str x, n)
 | .L p k c, n => (.sl (.var (Qh n.ρ)) k c, ⟨n.ρ ++ [p], n.β⟩)
 | .Q p, n => (.pt (.var (Qh n.ρ)), ⟨n.ρ ++ [p], n.β⟩)
 | .A b, n => (.pt (.at b 0), n)
 | .M x, n => (.mp x, n)
 | .V x, n => (.raw x, n)
theorem Nm.ABP {n : Nm} {v : Vl} {p : Option Addr} (h : Nm.le ⟨n.ρ ++ [p], n.β⟩ v) : n.le v ∧ nth none v.ρ (Qh n.ρ) = p := by
 refine ⟨⟨fun i hi => (h.ρ i (by simp only [List.length_append]; omega)).trans (Kw hi), h.β⟩, ?_⟩
 rw [P6, h.ρ _ (by simp)]; exact Kx
theorem Nm.AIL {n : Nm} {v : Vl} {p : BK} (h : Nm.le ⟨n.ρ, n.β ++ [p]⟩ v) : n.le v ∧ nth (.var false) v.β (Qh n.β) = p := by
 refine ⟨⟨h.ρ, fun i hi => (h.β i (by simp only [List.length_append]; omega)).trans (Kw hi)⟩, ?_⟩
 rw [P6, h.β _ (by simp)]; exact Kx
theorem Dv.OC {x : Dv} {n : Nm} {v : Vl} (h : (x.sym n).2.le v) : (x.sym n).1.den v = x.den ∧ n.le v := by
 cases x with
 | B t => obtain ⟨h1, h2⟩ := Nm.AIL h; exact ⟨by simp only [Dv.sym, Bc.den, h2]; rfl, h1⟩
 | L p k c => obtain ⟨h1, h2⟩ := Nm.ABP h; exact ⟨by simp only [Dv.sym, Bc.den, PV.den, h2]; rfl, h1⟩
 | Q p => obtain ⟨h1, h2⟩ := Nm.ABP h; exact ⟨by simp only [Dv.sym, Bc.den, PV.den, h2]; rfl, h1⟩
 | _ => exact ⟨rfl, h⟩
def Wk : List Dv → Nm → List Bc × Nm
 | [], n => ([], n)
 | x :: l, n => match x.sym n with
   | (a, n) => match Wk l n with
     | (r, n) => (a :: r, n)
theorem P7 {v : Vl} : ∀ {l : List Dv} {n : Nm}, (Wk l n).2.le v → A1 v (Wk l n).1 = Wj l ∧ n.le v
 | [], n, h => ⟨rfl, h⟩
 | x :: l, n, h => by
   obtain ⟨h1, h2⟩ := P7 (l := l) (n := (x.sym n).2) h
   obtain ⟨h3, h4⟩ := Dv.OC h2
   exact ⟨by simp only [Wk, A1, Wj, h3]; rw [← h1], h4⟩
def atoms : List Bc → List GQ
 | [] => []
 | x :: l => .a x :: atoms l
theorem Ty {v : Vl} : ∀ l, HE v (atoms l) = A1 v l
 | [] => rfl
 | x :: l => by simp only [atoms, HE, A1]; rw [Ty l]; rfl
def Dw.sym : Dw → Nm → SV × Nm
 | .o x, n => match x.sym n with | (a, n) => (.v (.a a), n)
 | .G l, n => match Wk l n with | (a, n) => (.v (.agg a), n)
 | .U l, n => match Wk l n with | (a, n) => (.Te (atoms a), n)
 | .X _ _, n => (.v (.a .un), n)
theorem Dw.OC {x : Dw} {n : Nm} {v : Vl} (h : (x.sym n).2.le v) : (x.sym n).1.den v = x.den ∧ n.le v := by
 cases x with
 | o x => exact Dv.OC (x := x) h
 | G l => obtain ⟨h1, h2⟩ := P7 (l := l) h; exact ⟨by simp only [Dw.sym, SV.den, GQ.den, Dw.den]; rw [← h1], h2⟩
 | U l => obtain ⟨h1, h2⟩ := P7 (l := l) h; exact ⟨by simp only [Dw.sym, SV.den, Dw.den]; rw [Ty, ← h1], h2⟩
 | X T l => exact ⟨rfl, h⟩
abbrev Bv := Nat × TypeId × List Dv
def PZ : List (Nat × Dw) → List (Nat × Value)
 | [] => []
 | (_, .X _ _) :: l => PZ l
 | (t, x) :: l => (t, x.den) :: PZ l
def OD : List (Nat × Dw) → Nm → List (Nat × SV) × Nm
 | [], n => ([], n)
 | (_, .X _ _) :: l, n => OD l n
 | (t, x) :: l, n => match x.sym n with
   | (a, n) => match OD l n with
     | (r, n) => ((t, a) :: r, n)
theorem Kz {v : Vl} : ∀ {l : List (Nat × Dw)} {n : Nm}, (OD l n).2.le v → G0 v (OD l n).1 = PZ l ∧ n.le v
 | [], n, h => ⟨rfl, h⟩
 | (t, .o x) :: l, n, h => by
   obtain ⟨h1, h2⟩ := Kz (l := l) (n := ((Dw.o x).sym n).2) h
   obtain ⟨h3, h4⟩ := Dw.OC h2
   exact ⟨by simp only [OD, G0, PZ, h3]; rw [← h1], h4⟩
 | (t, .G x) :: l, n, h => by
   obtain ⟨h1, h2⟩ := Kz (l := l) (n := ((Dw.G x).sym n).2) h
   obtain ⟨h3, h4⟩ := Dw.OC h2
   exact ⟨by simp only [OD, G0, PZ, h3]; rw [← h1], h4⟩
 | (t, .U x) :: l, n, h => by
   obtain ⟨h1, h2⟩ := Kz (l := l) (n := ((Dw.U x).sym n).2) h
   obtain ⟨h3, h4⟩ := Dw.OC h2
   exact ⟨by simp only [OD, G0, PZ, h3]; rw [← h1], h4⟩
 | (_, .X T x) :: l, n, h => Kz (l := l) (n := n) h
def JQ : List (Nat × Dw) → List Bv → List Bv
 | [], r => r
 | (t, .X T l) :: m, r => JQ m ((t, T, l) :: r)
 | _ :: m, r => JQ m r
def Wl : List Bv → Nat → Nm → List FC × Nm
 | [], _, n => ([], n)
 | (_, T, l) :: m, j, n => match Wk l n with
   | (a, n) => match Wl m (j + 1) n with
     | (r, n) => ((j, T, a) :: r, n)
def pF : List Bv → Nat → List (Nat × SV)
 | [], _ => []
 | (t, _, _) :: m, j => (t, .v (.a (.pt (.bx j 0)))) :: pF m (j + 1)
abbrev Bw := Nat × TypeId × List Value
def TF : List Bv → List Bw
 | [] => []
 | (t, T, l) :: m => (t, T, Wj l) :: TF m
def Z2 : List Bw → List Nat → List (Nat × Value)
 | (t, _, _) :: m, b :: δ => (t, .pointer (some ⟨b, 0, none⟩)) :: Z2 m δ
 | _, _ => []
def wG : List Bw → List Nat → Bx
 | (_, T, l) :: m, b :: δ => (b, .cells l.toArray T (0, 0)) :: wG m δ
 | _, _ => []
def PB : List Bw → (List Nat → Prop) → Prop
 | [], K => K []
 | _ :: m, K => ∀ b : Nat, PB m fun δ => K (b :: δ)
theorem jQ : ∀ {l : List Bw} {K : List Nat → Prop}, PB l K → ∀ δ, δ.length = l.length → K δ
 | [], K, h, [], _ => h
 | _ :: m, K, h, b :: δ, hl => jQ (h b) δ (by simpa using hl)
theorem jR : ∀ {l : List Bw} {K : List Nat → Prop}, (∀ δ, δ.length = l.length → K δ) → PB l K
 | [], K, h => h [] rfl
 | _ :: m, K, h => fun b => jR fun δ hl => h (b :: δ) (by simp [hl])
def PTv (g : Gl) (td : List Item) (bs : List Bw) (ts : List (Nat × Value)) (σ : Hp) : Prop :=
 ∀ J : Env, PB bs fun δ => At g td (JV J (Z2 bs δ ++ ts)) (wG bs δ) σ
theorem cZ {δ0 : List Nat} {v : Vl} : ∀ {m : List Bv} {j : Nat} {n : Nm} {δ : List Nat}, δ.length = m.length → (∀ i, i < δ.length → nth 0 v.δ (j + i) = nth 0 δ i) → (Wl m j n).2.le v →
   ET v (Wl m j n).1 = wG (TF m) δ ∧ G0 v (pF m j) = Z2 (TF m) δ ∧ n.le v
 | [], j, n, [], _, _, h => ⟨rfl, rfl, h⟩
 | (t, T, l) :: m, j, n, b :: δ, hl, hd, h => by
   obtain ⟨h1, h2, h3⟩ := cZ (δ0 := δ0) (m := m) (j := j + 1) (n := (Wk l n).2) (δ := δ) (by simpa using hl) (fun i hi => by
     have := hd (i + 1) (by simpa using hi)
     rw [show j + 1 + i = j + (i + 1) by omega]; exact this) h
   obtain ⟨h4, h5⟩ := P7 h3
   have hb : nth 0 v.δ j = b := hd 0 (by simp)
   refine ⟨?_, ?_, h5⟩
   · simp only [Wl, ET, TF, wG, hb, h4]; rw [← h1]
   · simp only [pF, G0, TF, Z2, SV.den, GQ.den, Bc.den, PV.den, hb]; rw [h2]
def ew (D : List (Nat × Dw)) (δ : List Nat) (σ : Hp) : S := match OD D ⟨[], []⟩ with
 | (e, n) => match JQ D [] with
   | bs => match Wl bs 0 n with
     | (x, n) => ⟨pF bs 0 ++ e, x, ⟨n.ρ, n.β, δ⟩, σ⟩
theorem Wm {v : Vl} : ∀ {l m : List (Nat × SV)}, G0 v (l ++ m) = G0 v l ++ G0 v m
 | [], _ => rfl
 | (t, x) :: l, m => by simp only [List.cons_append, G0]; rw [Wm]
theorem wH {D : List (Nat × Dw)} {δ : List Nat} {σ : Hp} {J : Env} (hl : δ.length = (JQ D []).length) :
   (ew D δ σ).e J = JV J (Z2 (TF (JQ D [])) δ ++ PZ D) ∧ (ew D δ σ).b = wG (TF (JQ D [])) δ := by
 have hle : (Wl (JQ D []) 0 (OD D ⟨[], []⟩).2).2.le ⟨(Wl (JQ D []) 0 (OD D ⟨[], []⟩).2).2.ρ, (Wl (JQ D []) 0 (OD D ⟨[], []⟩).2).2.β, δ⟩ := ⟨fun _ _ => rfl, fun _ _ => rfl⟩
 obtain ⟨h1, h2, h3⟩ := cZ (δ0 := []) (δ := δ) hl (fun i _ => by rw [Nat.zero_add]) hle
 obtain ⟨h4, _⟩ := Kz h3
 exact ⟨by simp only [ew, S.e, Wm]; rw [h2, h4], h1⟩
def ABQ : Nat → Nat → List Bool
 | 0, _ => []
 | f + 1, n => match Nat.ble n 1 with
   | true => []
   | false => Nat.beq (n % 2) 1 :: ABQ f (n / 2)
def pth (n : Nat) : List Bool := ABQ 400 n
def MM (body : Code) : List Bool → List It
 | [] => []
 | t :: p => match node body p with
   | .seq _ _ => bif t then MM body p else .c (true :: p) :: MM body p
   | .block i _ => .QX i :: MM body p
   | .loop _ => .lp (false :: p) :: MM body p
   | .scope _ => .sc (false :: p) :: MM body p
   | _ => MM body p
def pG (body : Code) (n : Nat) : List It := .c (pth n) :: MM body (pth n)
inductive Sh where
 | I (k : IntKind) | B | T | L | Q | A | M | V
inductive Sw where
 | o (x : Sh)
 | G (l : List Sh)
 | U (l : List Sh)
 | X (T : TypeId) (l : List Sh)
abbrev ArS : Sh → Type → Type
 | .I _, C => Int → C
 | .B, C => Bool → C
 | .T, C => ByteArray → C
 | .L, C => Option Addr → Nat → Nat → C
 | .Q, C => Option Addr → C
 | .A, C => Nat → C
 | .M, C => Option Nat → C
 | .V, C => Value → C
def ABR {C : Type} : (x : Sh) → (Dv → C) → ArS x C
 | .I k, K => fun x => K (.I k x)
 | .B, K => fun x => K (.B x)
 | .T, K => fun x => K (.T x)
 | .L, K => fun p n c => K (.L p n c)
 | .Q, K => fun x => K (.Q x)
 | .A, K => fun x => K (.A x)
 | .M, K => fun x => K (.M x)
 | .V, K => fun x => K (.V x)
abbrev ArL : List Sh → Type → Type
 | [], A => A
 | x :: l, A => ArS x (ArL l A)
def pH {A : Type} : (l : List Sh) → (List Dv → A) → ArL l A
 | [], K => K []
 | x :: l, K => ABR x fun d => pH l fun r => K (d :: r)
abbrev ArW : Sw → Type → Type
 | .o x, C => ArS x C
 | .G l, C => ArL l C
 | .U l, C => ArL l C
 | .X _ l, C => ArL l C
def AIN {A : Type} : (x : Sw) → (Dw → A) → ArW x A
 | .o x, K => ABR x fun d => K (.o d)
 | .G l, K => pH l fun d => K (.G d)
 | .U l, K => pH l fun d => K (.U d)
 | .X T l, K => pH l fun d => K (.X T d)
abbrev Ar : List (Nat × Sw) → Type → Type
 | [], A => A
 | (_, x) :: l, A => ArW x (Ar l A)
def cur {A : Type} : (l : List (Nat × Sw)) → (List (Nat × Dw) → A) → Ar l A
 | [], K => K []
 | (t, x) :: l, K => AIN x fun d => cur l fun r => K ((t, d) :: r)
structure Fw where
 P : Program
 f : Nat
 fn : Func
 Mu : List Nat
 hid : List Nat
 wr : Bool
 reg : List (Nat × Nat × Bool)
 N9 : List (Nat × TypeId)
 cuts : List (Nat × List (Nat × Sw))
def Fw.K (M : Fw) : Code := M.fn.body.getD .skip
def Fw.gl (M : Fw) (R : Rr) : Gl := Gl.fn M.P M.f M.fn.ntmps R
def Fw.cx (M : Fw) (R : Rr) : Fx := { P := M.P, R := R, Mu := M.Mu, hid := M.hid, wr := M.wr, n := M.fn.ntmps, body := M.K, res := M.fn.results.toList, reg := M.reg, N9 := M.N9 }
def Wn (vl : Vl) : List Nat → List FC → List Bw
 | t :: l, x :: r => (t, x.2.1, A1 vl x.2.2) :: Wn vl l r
 | _, _ => []
def tmps : List (Nat × Sw) → List Nat
 | [] => []
 | (_, .X _ _) :: l => tmps l
 | (t, _) :: l => t :: tmps l
def jS : List (Nat × Sw) → List Nat → List Nat
 | [], r => r
 | (t, .X _ _) :: l, r => jS l (t :: r)
 | _ :: l, r => jS l r
def Fw.cut (M : Fw) (R : Rr) (c : Nat × List (Nat × Sw)) : Cut := ⟨pG M.K c.1, fun s => match s.eu (tmps c.2), s.Uv (jS c.2 []) s.bx with
 | some vs, some B => PTv (M.gl R) (C3 M.K (pG M.K c.1)) (Wn s.vl (jS c.2 []) B) ((tmps c.2).zip vs) s.σ
 | _, _ => False⟩
def TG (M : Fw) (R : Rr) : List (Nat × List (Nat × Sw)) → List Cut
 | [] => []
 | c :: l => M.cut R c :: TG M R l
def Fw.wJ (M : Fw) (at_ : Nat) (R : Rr) (D : List (Nat × Dw)) (σ : Hp) : Prop := PTv (M.gl R) (C3 M.K (pG M.K at_)) (TF (JQ D [])) (PZ D) σ
noncomputable def Fw.pt (M : Fw) (i : Nat) (R : Rr) : Ar (nth (0, []) M.cuts i).2 (Hp → Prop) := cur (nth (0, []) M.cuts i).2 (M.wJ (nth (0, []) M.cuts i).1 R)
structure Fw.Ok (M : Fw) : Prop where
 E : AG M.P M.Mu
 mixed : M.P.follows .mixedOrders = true
 fnc : M.P.funcs[M.f]? = some M.fn
 body : M.fn.body.isSome = true
theorem Fw.sU {M : Fw} {R : Rr} (h : M.Ok) : (M.cx R).Ok (M.gl R) M.fn := ⟨⟨rfl, rfl, h.E, rfl, rfl, rfl⟩, h.mixed, h.fnc, rfl, rfl, rfl⟩
theorem Wo {vl : Vl} : ∀ {l : List Nat} {B : List FC}, ∃ δ : List Nat, δ.length = (Wn vl l B).length ∧ Z2 (Wn vl l B) δ = Qo vl l B ∧ (l.length = B.length → wG (Wn vl l B) δ = ET vl B)
 | [], [] => ⟨[], rfl, rfl, fun _ => rfl⟩
 | [], _ :: _ => ⟨[], rfl, rfl, fun h => by simp at h⟩
 | _ :: _, [] => ⟨[], rfl, rfl, fun h => by simp at h⟩
 | t :: l, (i, T, cs) :: B => by
   obtain ⟨δ, h1, h2, h3⟩ := Wo (vl := vl) (l := l) (B := B)
   exact ⟨nth 0 vl.δ i :: δ, by simp [Wn, h1], by simp only [Wn, Z2, Qo]; rw [h2], fun h => by simp only [Wn, wG, ET]; rw [h3 (by simpa using h)]⟩
theorem Wp {s : S} : ∀ {l : List Nat} {bx B : List FC}, s.Uv l bx = some B → l.length = B.length
 | [], bx, B, h => by simp only [S.Uv, Option.some.injEq] at h; subst h; rfl
 | t :: l, bx, B, h => by
   simp only [S.Uv] at h
   split at h
   · split at h
     · split at h
       · rename_i m hm
         cases h
         simp [Wp hm]
       · cases h
     · cases h
   · cases h
theorem Fw.wK (M : Fw) (R : Rr) (c : Nat × List (Nat × Sw)) : (M.cut R c).Ok (M.gl R) M.K := fun s J h => by
 simp only [Fw.cut] at h
 split at h
 · rename_i vs B h1 h2
   obtain ⟨δ, e1, e2, e3⟩ := Wo (vl := s.vl) (l := jS c.2 []) (B := B)
   refine At.ABO h1 h2 fun J => ?_
   have := jQ (h J) δ e1
   rw [e2, e3 (Wp h2)] at this
   exact this
 · cases h
theorem Uw {M : Fw} {R : Rr} : ∀ {l : List (Nat × List (Nat × Sw))}, ∀ k ∈ TG M R l, k.Ok (M.gl R) M.K
 | c :: l, k, hk => by
   rcases List.mem_cons.1 hk with rfl | hk
   · exact M.wK R c
   · exact Uw k hk
theorem Wq : ∀ {l : List Bv}, (TF l).length = l.length
 | [] => rfl
 | _ :: m => by simp only [TF, List.length_cons]; rw [Wq]
def PX (F : Prop) : List Bv → (List Nat → Prop) → Prop
 | [], K => F = K []
 | _ :: m, K => ∀ b : Nat, PX F m fun δ => K (b :: δ)
theorem jT {F : Prop} (h : F) : ∀ {l : List Bv} {K : List Nat → Prop}, PX F l K → ∀ δ, δ.length = l.length → K δ
 | [], K, e, [], _ => e ▸ h
 | _ :: m, K, e, b :: δ, hl => jT h (e b) δ (by simpa using hl)
theorem Fw.ofB {M : Fw} {R : Rr} {at_ : Nat} {D : List (Nat × Dw)} {σ : Hp} {F : Prop} (h : F) (ok : M.Ok) (e : PX F (JQ D []) fun δ => C4 (M.cx R) (TG M R M.cuts) 4000 true (pG M.K at_) (ew D δ σ)) : M.wJ at_ R D σ := fun J => by
 refine jR fun δ hl => ?_
 rw [Wq] at hl
 have := Am (J := J) (Fw.sU ok) Uw (jT h e δ hl)
 obtain ⟨e1, e2⟩ := wH (D := D) (σ := σ) (J := J) hl
 rw [e1, e2] at this
 exact this
theorem Fw.of {M : Fw} {R : Rr} {at_ : Nat} {D : List (Nat × Dw)} {σ : Hp} {F : Prop} (h : F) (ok : M.Ok) (hb : JQ D [] = []) (e : F = C4 (M.cx R) (TG M R M.cuts) 4000 true (pG M.K at_) (ew D [] σ) := by kernel_rfl) : M.wJ at_ R D σ :=
 M.ofB h ok (by rw [hb]; exact e)
theorem Fw.iB {M : Fw} {R : Rr} {at_ : Nat} {D : List (Nat × Dw)} {σ : Hp} {F : Prop} {x1 : Bv} (h : F) (ok : M.Ok) (hb : JQ D [] = [x1]) (e : ∀ b1 : Nat, F = C4 (M.cx R) (TG M R M.cuts) 4000 true (pG M.K at_) (ew D [b1] σ)) : M.wJ at_ R D σ :=
 M.ofB h ok (by rw [hb]; exact e)
theorem Fw.ey {M : Fw} {R : Rr} {at_ : Nat} {D : List (Nat × Dw)} {σ : Hp} {F : Prop} {x1 x2 : Bv} (h : F) (ok : M.Ok) (hb : JQ D [] = [x1, x2]) (e : ∀ b1 b2 : Nat, F = C4 (M.cx R) (TG M R M.cuts) 4000 true (pG M.K at_) (ew D [b1, b2] σ)) : M.wJ at_ R D σ :=
 M.ofB h ok (by rw [hb]; exact e)
theorem Fw.of3 {M : Fw} {R : Rr} {at_ : Nat} {D : List (Nat × Dw)} {σ : Hp} {F : Prop} {x1 x2 x3 : Bv} (h : F) (ok : M.Ok) (hb : JQ D [] = [x1, x2, x3]) (e : ∀ b1 b2 b3 : Nat, F = C4 (M.cx R) (TG M R M.cuts) 4000 true (pG M.K at_) (ew D [b1, b2, b3] σ)) : M.wJ at_ R D σ :=
 M.ofB h ok (by rw [hb]; exact e)
theorem Fw.of4 {M : Fw} {R : Rr} {at_ : Nat} {D : List (Nat × Dw)} {σ : Hp} {F : Prop} {x1 x2 x3 x4 : Bv} (h : F) (ok : M.Ok) (hb : JQ D [] = [x1, x2, x3, x4]) (e : ∀ b1 b2 b3 b4 : Nat, F = C4 (M.cx R) (TG M R M.cuts) 4000 true (pG M.K at_) (ew D [b1, b2, b3, b4] σ)) : M.wJ at_ R D σ :=
 M.ofB h ok (by rw [hb]; exact e)
def wN : Value → Dv
 | .int k x => .I k x
 | .bool t => .B t
 | .string x => .T x
 | .slice p n c => .L p n c
 | .pointer p => .Q p
 | .map x => .M x
 | x => .V x
theorem Wr (x : Value) : (wN x).den = x := by cases x <;> rfl
def ca : List Value → List Dv
 | [] => []
 | x :: l => wN x :: ca l
theorem Tz : ∀ l : List Value, Wj (ca l) = l
 | [] => rfl
 | x :: l => by simp only [ca, Wj]; rw [Wr, Tz]
def e9 : Value → Dw
 | .agg cs => .G (ca cs.toList)
 | x => .o (wN x)
theorem jU (x : Value) : (e9 x).den = x := by
 cases x
 case agg cs => simp only [e9, Dw.den, Tz]
 all_goals (simp only [e9, Dw.den]; exact Wr _)
def jV : Value → Dw
 | .pointer (some ⟨b, 0, none⟩) => .o (.A b)
 | x => .o (.V x)
theorem jW (x : Value) : (jV x).den = x := by
 unfold jV; split <;> rfl
def fA (np : Nat) : Nat → List Value → List (Nat × Dw)
 | _, [] => []
 | k, x :: l => match Nat.blt k np with
   | true => (k, e9 x) :: fA np (k + 1) l
   | false => (k, jV x) :: fA np (k + 1) l
theorem jX (x : Value) : (∃ y, e9 x = .o y) ∨ ∃ y, e9 x = .G y := by cases x <;> first | exact .inr ⟨_, rfl⟩ | exact .inl ⟨_, rfl⟩
theorem jY (x : Value) : ∃ y, jV x = .o y := by unfold jV; split <;> exact ⟨_, rfl⟩
theorem Ux {np : Nat} : ∀ {l : List Value} {k : Nat}, PZ (fA np k l) = Qp k l ∧ JQ (fA np k l) [] = []
 | [], _ => ⟨rfl, rfl⟩
 | x :: l, k => by
   obtain ⟨h1, h2⟩ := Ux (np := np) (l := l) (k := k + 1)
   simp only [fA]
   split
   · have hd := jU x
     rcases jX x with ⟨y, hy⟩ | ⟨y, hy⟩ <;> rw [hy] at hd ⊢ <;> exact ⟨by simp only [PZ, Qp]; rw [hd, h1], h2⟩
   · have hd := jW x
     obtain ⟨y, hy⟩ := jY x
     rw [hy] at hd ⊢
     exact ⟨by simp only [PZ, Qp]; rw [hd, h1], h2⟩
def Fw.run (M : Fw) (R : Rr) (k : Nat) (D : List (Nat × Dw)) (σ : Hp) : Prop := match Nat.ble k M.fn.ntmps with
 | true => C4 (M.cx R) (TG M R M.cuts) 4000 true [.c []] (ew D [] σ)
 | false => False
theorem Fw.D2 {M : Fw} {R : Rr} {args : Array Value} {σ : Hp} {F : Prop} (h : F) (ok : M.Ok) (D : List (Nat × Dw)) (hx : JQ D [] = []) (hD : PZ D = Qp 0 args.toList) (e : F = M.run R args.size D σ) : Spec M.P M.f args σ R := by
 subst e
 unfold Fw.run at h
 split at h
 case h_2 => exact h.elim
 rename_i hn
 obtain ⟨fb, hb⟩ := Option.isSome_iff_exists.1 ok.body
 refine Spec.walk (c := M.cx R) (cuts := TG M R M.cuts) (s := ew D [] σ) (fuel := 4000) (Fw.sU ok) ?_ rfl hn Uw ?_ ?_ h
 · show M.fn.body = some (M.fn.body.getD .skip)
   rw [hb]; rfl
 · obtain ⟨h4, _⟩ := Kz (l := D) (n := ⟨[], []⟩) (v := ⟨(OD D ⟨[], []⟩).2.ρ, (OD D ⟨[], []⟩).2.β, []⟩) ⟨fun _ _ => rfl, fun _ _ => rfl⟩
   rw [hD] at h4
   simp only [ew, hx]
   exact h4
 · simp only [ew, hx]; rfl
theorem Fw.start {M : Fw} {R : Rr} {args : Array Value} {σ : Hp} {F : Prop} (h : F) (ok : M.Ok) (e : F = M.run R args.size (fA M.fn.params.size 0 args.toList) σ := by kernel_rfl) : Spec M.P M.f args σ R :=
 M.D2 h ok _ Ux.2 Ux.1 e
abbrev wI : Sw := .o (.I .i64)
abbrev wU : Sw := .o (.I .u64)
abbrev w8 : Sw := .o (.I .u8)
abbrev wB : Sw := .o .B
abbrev wT : Sw := .o .T
abbrev wL : Sw := .o .L
abbrev wQ : Sw := .o .Q
abbrev wA : Sw := .o .A
abbrev wM : Sw := .o .M
abbrev wV : Sw := .o .V
abbrev aD (b o : Nat) : Option Addr := some ⟨b, o, none⟩
abbrev Br (p A B : Prop) : Prop := (p → A) ∧ (¬ p → B)
abbrev Bm (p A B : Prop) : Prop := (¬ p → A) ∧ (p → B)
abbrev Bo (t : Bool) (A B : Prop) : Prop := (t = true → A) ∧ (t = false → B)
abbrev Bn (t : Bool) (A B : Prop) : Prop := (t = false → A) ∧ (t = true → B)
abbrev Pq (p : Option Addr) (K : Nat → Nat → Prop) : Prop := ∃ b o : Nat, p = some ⟨b, o, none⟩ ∧ K b o
abbrev In (x n : Int) : Prop := (0 : Int) ≤ x ∧ x < n
abbrev Df (r : Int) (K : Int → Prop) : Prop := ∀ x : Int, x = r → K x
abbrev Al (σ : Hp) (K : Nat → Prop) : Prop := ∀ b : Nat, σ b = none → K b
abbrev LI (k : IntKind) (σ : Hp) (b o : Nat) (K : Int → Prop) : Prop := ∃ x : Int, Hp.ld σ ⟨b, o, none⟩ = some (.int k x) ∧ K x
abbrev LB (σ : Hp) (b o : Nat) (K : Bool → Prop) : Prop := ∃ x : Bool, Hp.ld σ ⟨b, o, none⟩ = some (.bool x) ∧ K x
abbrev LT (σ : Hp) (b o : Nat) (K : ByteArray → Prop) : Prop := ∃ x : ByteArray, Hp.ld σ ⟨b, o, none⟩ = some (.string x) ∧ K x
abbrev LQ (σ : Hp) (b o : Nat) (K : Option Addr → Prop) : Prop := ∃ x : Option Addr, Hp.ld σ ⟨b, o, none⟩ = some (.pointer x) ∧ K x
abbrev LS (σ : Hp) (b o : Nat) (K : Option Addr → Nat → Nat → Prop) : Prop := ∃ p : Option Addr, ∃ n : Nat, ∃ c : Nat, Hp.ld σ ⟨b, o, none⟩ = some (.slice p n c) ∧ K p n c
abbrev CI (k : IntKind) (K : Int → Hp → Prop) : Value → Hp → Prop := fun v σ => ∃ x : Int, v = .int k x ∧ K x σ
abbrev CB (K : Bool → Hp → Prop) : Value → Hp → Prop := fun v σ => ∃ x : Bool, v = .bool x ∧ K x σ
abbrev CT (K : ByteArray → Hp → Prop) : Value → Hp → Prop := fun v σ => ∃ x : ByteArray, v = .string x ∧ K x σ
abbrev CQ (K : Option Addr → Hp → Prop) : Value → Hp → Prop := fun v σ => ∃ x : Option Addr, v = .pointer x ∧ K x σ
abbrev CS (K : Option Addr → Nat → Nat → Hp → Prop) : Value → Hp → Prop := fun v σ => ∃ p : Option Addr, ∃ n : Nat, ∃ c : Nat, v = .slice p n c ∧ K p n c σ
end Tw
end
section
set_option maxRecDepth 100000
noncomputable section
namespace TwW
open Go Tw Go.Proofs.Tryz
variable [Ev] {R : Rr} {σ : Hp}

namespace CU
variable {p0 p3 : Option Addr} {n0 c0 n3 c3 : Nat} {x4 : Int}
def M : Fw := ⟨prog, 13, f13, [33, 34], [], false, [], [], [(464, [(0, wL), (3, wL), (4, wI)])]⟩
theorem ok : M.Ok := ⟨.cons call33 (.cons call34 (AG.nil)), mixed, func13, by kernel_rfl⟩
def CL := M.pt 0
theorem start (h : CL R p0 n0 c0 none 0 0 0 σ) : Spec prog 13 #[.slice p0 n0 c0] σ R := M.start h ok
theorem BF (h : Br (x4 < (n0 : Int)) (Pq p0 fun BP P8 => In x4 (n0 : Int) ∧ LS σ BP (P8 + Int.toNat x4 * 2) fun cb n16 Ws => In x4 (n0 : Int) ∧ LS σ BP ((P8 + Int.toNat x4 * 2) + 1) fun T1 n22 S7 => Spec prog 33 #[.slice cb n16 Ws] σ (AA R (CS fun p17 n17 c17 y => Kp [BP] σ y ∧ Spec prog 34 #[.slice T1 n22 S7] y (AA R (CS fun nw n23 nz AF => Al AF fun LA => AJ prog (Builtin.append_ #[23, 23] 23 #[.slice p3 n3 c3, (.slice (aD LA 0) 1 1)]) (Hp.set AF LA (.cells #[.slice p17 n17 c17, .slice nw n23 nz] 40 (0, 0))) (CS fun p26 n26 c26 AH => AN (x4 + 1) ∧ CL R (aD BP P8) n0 c0 p26 n26 c26 (x4 + 1) AH)))))) (R (.returned (.slice p3 n3 c3)) σ)) : CL R p0 n0 c0 p3 n3 c3 x4 σ := M.of h ok rfl
end CU
namespace I9
variable {p0 : Option Addr} {n0 c0 : Nat}
def M : Fw := ⟨prog, 34, f34, [], [], false, [], [], []⟩
theorem ok : M.Ok := ⟨AG.nil, mixed, func34, by kernel_rfl⟩
theorem start (h : Al σ fun b3 => AJ prog (Builtin.append_ #[38, 38] 38 #[(.slice (aD b3 0) 0 0), .slice p0 n0 c0]) (Hp.set σ b3 (.cells #[] 50 (0, 0))) (CS fun p5 n5 c5 y => R (.returned (.slice p5 n5 c5)) y)) : Spec prog 34 #[.slice p0 n0 c0] σ R := M.start h ok
end I9
namespace Bp
def K0 := f35.body.getD .skip
def K1 := cl K0
def K2 := cr K0
def K3 := cl K2
def K4 := cl K3
def K5 := cr K3
def K6 := cl K5
def K7 := cr K5
def K8 := cl K7
def K9 := cl K8
def K10 := cr K8
def K11 := cr K7
def K12 := cr K2
def K13 := cl K12
def K14 := cl K13
def K15 := cr K13
def wO := cl K15
def K17 := cl wO
def K18 := cr wO
def K19 := cr K15
def K20 := cr K12
def K21 := cl K20
def K22 := cl K21
def K23 := cr K21
def K24 := cl K23
def K25 := cl K24
def K26 := cr K24
def K27 := cr K23
def K28 := cr K20
def K29 := cl K28
def K30 := cr K28
def K31 := cl K30
def K32 := cr K30
def K33 := cl K32
def K34 := cl K33
def K35 := cr K33
def K36 := cl K35
def K37 := cl K36
def K38 := cr K36
def K39 := cl K38
def K40 := cl K39
def K41 := cr K39
def K42 := cl K41
def K43 := cl K42
def K44 := cr K42
def K45 := cl K44
def K46 := cl K45
def K47 := cr K45
def K48 := cr K44
def K49 := cr K41
def K50 := cl K49
def K51 := cr K49
def K52 := cl K51
def K53 := cl K52
def K54 := cl K53
def K55 := cr K53
def K56 := cl K55
def K57 := cl K56
def K58 := cr K56
def K59 := cr K55
def K60 := cl K59
def K61 := cl K60
def K62 := cl K61
def K63 := cr K61
def K64 := cl K63
def K65 := cr K63
def K66 := cl K65
def K67 := cl K66
def K68 := cr K66
def K69 := cl K68
def K70 := cl K69
def K71 := cr K69
def K72 := cl K71
def K73 := cr K71
def K74 := cr K68
def K75 := cr K65
def K76 := cr K59
def K77 := cr K32
def K78 := cl K77
def K79 := cr K77
def K80 := cl K79
def K81 := cr K79
def K82 : Code := .ret
abbrev gl (R : Rr) : Gl := Gl.fn prog 35 117 R
def Jd (R : Rr) (l : Nat) (r0 : Loop) (b5 b6 Cd BA DF BP : Nat) (sV : Int) (σ : Hp) : Prop := ∀ (J : Env), At (Gl.round prog 35 117 l R) [.code K37, .beginRound, .code K38] (JV J [(5, (.pointer (some ⟨b5, 0, none⟩))), (6, (.pointer (some ⟨b6, 0, none⟩))), (10, (.pointer (some ⟨Cd, 0, none⟩))), (11, (.pointer (some ⟨BA, 0, none⟩))), (13, (.pointer (some ⟨DF, 0, none⟩))), (14, (.pointer (some ⟨BP, 0, none⟩))), (56, (.int .i64 sV))]) [] σ
def Pa (R : Rr) (l : Nat) (r0 : Loop) (DF BP : Nat) (x15 : Int) (iC : Option Addr) (Wt Y4 : Nat) (Mv Pb : Int) (σ : Hp) : Prop := ∀ (J : Env), At (Gl.round prog 35 117 l R) [.code K54, .code K55, .inLoop K53, .inBlock 2, .inBlock 1] (JV J [(13, (.pointer (some ⟨DF, 0, none⟩))), (14, (.pointer (some ⟨BP, 0, none⟩))), (15, (.int .i64 x15)), (67, (.slice iC Wt Y4)), (68, (.int .i64 Mv)), (69, (.int .i64 Pb))]) [] σ
def pI (R : Rr) (l : Nat) (r0 : Loop) (DF BP : Nat) (x15 : Int) (CV : Nat) (Ha : Int) (iC : Option Addr) (Wt Y4 : Nat) (Mv Pb : Int) (σ : Hp) : Prop := ∀ (J : Env), At (Gl.round prog 35 117 l R) [.code K75, .inBlock 3, .code K76, .inLoop K53, .inBlock 2, .inBlock 1] (JV J [(13, (.pointer (some ⟨DF, 0, none⟩))), (14, (.pointer (some ⟨BP, 0, none⟩))), (15, (.int .i64 x15)), (19, (.pointer (some ⟨CV, 0, none⟩))), (20, (.int .i64 Ha)), (67, (.slice iC Wt Y4)), (68, (.int .i64 Mv)), (69, (.int .i64 Pb))]) [] σ
theorem start {R : Rr} {p0 p1 : Option Addr} {n0 c0 n1 c1 : Nat} {x2 x3 x4 : Int} {σ : Hp} (h : ∀ b5 : Nat, σ b5 = none → ∀ b6 : Nat, (Hp.set σ b5 (.cells #[(.slice p0 n0 c0)] 22 (0, 0))) b6 = none → ∀ Cd : Nat, (Hp.set (Hp.set σ b5 (.cells #[(.slice p0 n0 c0)] 22 (0, 0))) b6 (.cells #[(.slice p1 n1 c1)] 23 (0, 0))) Cd = none → ∀ BA : Nat, (Hp.set (Hp.set (Hp.set σ b5 (.cells #[(.slice p0 n0 c0)] 22 (0, 0))) b6 (.cells #[(.slice p1 n1 c1)] 23 (0, 0))) Cd (.cells #[(.slice none 0 0)] 23 (0, 0))) BA = none → ∃ T1 : Option Addr, ∃ n22 : Nat, ∃ S7 : Nat, Hp.ld (Hp.set (Hp.set (Hp.set (Hp.set σ b5 (.cells #[(.slice p0 n0 c0)] 22 (0, 0))) b6 (.cells #[(.slice p1 n1 c1)] 23 (0, 0))) Cd (.cells #[(.slice none 0 0)] 23 (0, 0))) BA (.cells #[(.int .i64 0)] 24 (0, 0))) ⟨b5, 0, none⟩ = some (.slice T1 n22 S7) ∧ ∃ nw : Option Addr, ∃ n23 : Nat, ∃ nz : Nat, Hp.ld (Hp.set (Hp.set (Hp.set (Hp.set σ b5 (.cells #[(.slice p0 n0 c0)] 22 (0, 0))) b6 (.cells #[(.slice p1 n1 c1)] 23 (0, 0))) Cd (.cells #[(.slice none 0 0)] 23 (0, 0))) BA (.cells #[(.int .i64 0)] 24 (0, 0))) ⟨b6, 0, none⟩ = some (.slice nw n23 nz) ∧ Spec prog 28 #[(.slice T1 n22 S7), (.slice nw n23 nz)] (Hp.set (Hp.set (Hp.set (Hp.set σ b5 (.cells #[(.slice p0 n0 c0)] 22 (0, 0))) b6 (.cells #[(.slice p1 n1 c1)] 23 (0, 0))) Cd (.cells #[(.slice none 0 0)] 23 (0, 0))) BA (.cells #[(.int .i64 0)] 24 (0, 0))) (AA R (fun v σ1 => ∃ JA : Int, v = (.int .i64 JA) ∧ ((JA : Int) ≠ 0 → AJ prog (Instr.storeAt 23 (.pointer (some ⟨Cd, 0, none⟩)) (.slice none 0 0)) σ1 (fun _ GA => AJ prog (Instr.storeAt 24 (.pointer (some ⟨BA, 0, none⟩)) (.int .i64 JA)) GA (fun _ CE => ∃ Ck : Option Addr, ∃ Cm : Nat, ∃ Cn : Nat, ∃ Co : Int, Hp.ld CE ⟨Cd, 0, none⟩ = some (.slice Ck Cm Cn) ∧ Hp.ld CE ⟨BA, 0, none⟩ = some (.int .i64 Co) ∧ R (.returned (.tuple #[(.slice Ck Cm Cn), (.int .i64 Co)])) CE))) ∧ (¬ ((JA : Int) ≠ 0) → Spec prog 29 #[(.int .i64 x2)] σ1 (AA R (fun v_2 GA => ∃ t29 : Bool, v_2 = (.bool t29) ∧ (t29 = false → AJ prog (Instr.storeAt 23 (.pointer (some ⟨Cd, 0, none⟩)) (.slice none 0 0)) GA (fun _ CE => AJ prog (Instr.storeAt 24 (.pointer (some ⟨BA, 0, none⟩)) (.int .i64 221)) CE (fun _ Cr => ∃ Ck : Option Addr, ∃ Cm : Nat, ∃ Cn : Nat, ∃ Co : Int, Hp.ld Cr ⟨Cd, 0, none⟩ = some (.slice Ck Cm Cn) ∧ Hp.ld Cr ⟨BA, 0, none⟩ = some (.int .i64 Co) ∧ R (.returned (.tuple #[(.slice Ck Cm Cn), (.int .i64 Co)])) Cr))) ∧ (t29 = true → Spec prog 29 #[(.int .i64 x3)] GA (AA R (fun v_3 CE => ∃ t33 : Bool, v_3 = (.bool t33) ∧ (t33 = false → AJ prog (Instr.storeAt 23 (.pointer (some ⟨Cd, 0, none⟩)) (.slice none 0 0)) CE (fun _ Cr => AJ prog (Instr.storeAt 24 (.pointer (some ⟨BA, 0, none⟩)) (.int .i64 221)) Cr (fun _ BZ => ∃ Ck : Option Addr, ∃ Cm : Nat, ∃ Cn : Nat, ∃ Co : Int, Hp.ld BZ ⟨Cd, 0, none⟩ = some (.slice Ck Cm Cn) ∧ Hp.ld BZ ⟨BA, 0, none⟩ = some (.int .i64 Co) ∧ R (.returned (.tuple #[(.slice Ck Cm Cn), (.int .i64 Co)])) BZ))) ∧ (t33 = true → ((x3 : Int) < x2 → AJ prog (Instr.storeAt 23 (.pointer (some ⟨Cd, 0, none⟩)) (.slice none 0 0)) CE (fun _ Cr => AJ prog (Instr.storeAt 24 (.pointer (some ⟨BA, 0, none⟩)) (.int .i64 221)) Cr (fun _ BZ => ∃ Ck : Option Addr, ∃ Cm : Nat, ∃ Cn : Nat, ∃ Co : Int, Hp.ld BZ ⟨Cd, 0, none⟩ = some (.slice Ck Cm Cn) ∧ Hp.ld BZ ⟨BA, 0, none⟩ = some (.int .i64 Co) ∧ R (.returned (.tuple #[(.slice Ck Cm Cn), (.int .i64 Co)])) BZ))) ∧ (¬ ((x3 : Int) < x2) → ((x4 : Int) < 1 → AJ prog (Instr.storeAt 23 (.pointer (some ⟨Cd, 0, none⟩)) (.slice none 0 0)) CE (fun _ Cr => AJ prog (Instr.storeAt 24 (.pointer (some ⟨BA, 0, none⟩)) (.int .i64 221)) Cr (fun _ BZ => ∃ Ck : Option Addr, ∃ Cm : Nat, ∃ Cn : Nat, ∃ Co : Int, Hp.ld BZ ⟨Cd, 0, none⟩ = some (.slice Ck Cm Cn) ∧ Hp.ld BZ ⟨BA, 0, none⟩ = some (.int .i64 Co) ∧ R (.returned (.tuple #[(.slice Ck Cm Cn), (.int .i64 Co)])) BZ))) ∧ (¬ ((x4 : Int) < 1) → AN (x3 - x2) ∧ x4 ≠ (0 : Int) ∧ ∀ Qr : Int, Qr = IntKind.i64.wrap (Int.tdiv (x3 - x2) x4) → ((512 : Int) ≤ Qr → AJ prog (Instr.storeAt 23 (.pointer (some ⟨Cd, 0, none⟩)) (.slice none 0 0)) CE (fun _ Cr => AJ prog (Instr.storeAt 24 (.pointer (some ⟨BA, 0, none⟩)) (.int .i64 222)) Cr (fun _ BZ => ∃ Ck : Option Addr, ∃ Cm : Nat, ∃ Cn : Nat, ∃ Co : Int, Hp.ld BZ ⟨Cd, 0, none⟩ = some (.slice Ck Cm Cn) ∧ Hp.ld BZ ⟨BA, 0, none⟩ = some (.int .i64 Co) ∧ R (.returned (.tuple #[(.slice Ck Cm Cn), (.int .i64 Co)])) BZ))) ∧ (¬ ((512 : Int) ≤ Qr) → AJ prog (Instr.makeMap 99 none) CE (fun v_4 Cr => ∃ m51 : Nat, v_4 = (.map (some m51)) ∧ ∀ DF : Nat, Cr DF = none → AJ prog (Instr.storeAt 99 (.pointer (some ⟨DF, 0, none⟩)) (.map (some m51))) (Hp.set Cr DF (.cells #[(.map none)] 99 (0, 0))) (fun _ BZ => ∀ BP : Nat, BZ BP = none → Spec prog 48 #[(.int .i64 x2), (.int .i64 x3), (.int .i64 x4)] (Hp.set BZ BP (.cells #[(.slice none 0 0)] 23 (0, 0))) (AA R (fun v_5 Mw => ∃ f55 : Fn, ∃ a55 : Array Value, ∃ c55 : Array Value, (Value.func f55 a55 c55) = v_5 ∧ ∃ (gf : Nat) (lb : Array Value), (Value.func f55 a55 c55) = .func (.func gf) #[] lb ∧ Enters prog gf ∧ ∀ (Z3 Y5 : Nat) (Pc : Loop), Z3 ≠ Y5 → Mw Z3 = none → Mw Y5 = none → (∀ (R2 : Rr) (σ2 : Hp) (pJ : Int), σ2 Y5 = some (.loop (lp Pc .ready none)) → Jd R2 Y5 Pc b5 b6 Cd BA DF BP pJ σ2 → Ht prog Y5 #[(.int .i64 pJ)] σ2 R2) → Spec prog gf (#[.func (.yield Y5) #[] #[]] ++ lb) (Hp.set (Hp.set Mw Z3 (.deferred (some []))) Y5 (.loop (lp Pc .ready none))) (fun en Je => ∃ (v : Value) (s : LoopState) (p : Option Code), en = .returned v ∧ Je Y5 = some (.loop (lp Pc s p)) ∧ s ≠ .busy ∧ ((p = none ∧ ∃ pK : Option Addr, ∃ n114 : Nat, ∃ pL : Nat, Hp.ld (Hp.set Je Y5 (.loop (lp Pc .exhausted none))) ⟨BP, 0, none⟩ = some (.slice pK n114 pL) ∧ Spec prog 50 #[(.slice pK n114 pL), (.func (.func 51) #[] #[])] (Hp.set Je Y5 (.loop (lp Pc .exhausted none))) (AA (NP R) (fun v_6 T3 => v_6 = (.tuple #[]) ∧ ∃ jZ : Option Addr, ∃ n116 : Nat, ∃ ja : Nat, Hp.ld T3 ⟨BP, 0, none⟩ = some (.slice jZ n116 ja) ∧ AJ prog (Instr.storeAt 23 (.pointer (some ⟨Cd, 0, none⟩)) (.slice jZ n116 ja)) T3 (fun _ sW => AJ prog (Instr.storeAt 24 (.pointer (some ⟨BA, 0, none⟩)) (.int .i64 0)) sW (fun _ Qt => ∃ Ck : Option Addr, ∃ Cm : Nat, ∃ Cn : Nat, ∃ Co : Int, Qt Z3 = some (.deferred (some [])) ∧ Hp.ld (Hp.set Qt Z3 (.deferred none)) ⟨Cd, 0, none⟩ = some (.slice Ck Cm Cn) ∧ Hp.ld (Hp.set Qt Z3 (.deferred none)) ⟨BA, 0, none⟩ = some (.int .i64 Co) ∧ R (.returned (.tuple #[(.slice Ck Cm Cn), (.int .i64 Co)])) (Hp.set Qt Z3 (.deferred none))))))) ∨ (p = (some .ret) ∧ ∃ Uy : Option Addr, ∃ Uz : Nat, ∃ U0 : Nat, ∃ U1 : Int, (Hp.set Je Y5 (.loop (lp Pc .exhausted (some .ret)))) Z3 = some (.deferred (some [])) ∧ Hp.ld (Hp.set (Hp.set Je Y5 (.loop (lp Pc .exhausted (some .ret)))) Z3 (.deferred none)) ⟨Cd, 0, none⟩ = some (.slice Uy Uz U0) ∧ Hp.ld (Hp.set (Hp.set Je Y5 (.loop (lp Pc .exhausted (some .ret)))) Z3 (.deferred none)) ⟨BA, 0, none⟩ = some (.int .i64 U1) ∧ R (.returned (.tuple #[(.slice Uy Uz U0), (.int .i64 U1)])) (Hp.set (Hp.set Je Y5 (.loop (lp Pc .exhausted (some .ret)))) Z3 (.deferred none)))))))))))))))))))))) : Spec prog 35 #[(.slice p0 n0 c0), (.slice p1 n1 c1), (.int .i64 x2), (.int .i64 x3), (.int .i64 x4)] σ R := by
 refine Spec.br (fn := f35) (c := K0) func35 (by kernel_rfl) (Nat.le_of_ble_eq_true (by kernel_rfl)) (fun e he => ?_)
 refine At.ofL (l := [(0, (.slice p0 n0 c0)), (1, (.slice p1 n1 c1)), (2, (.int .i64 x2)), (3, (.int .i64 x3)), (4, (.int .i64 x4))]) ⟨he 0, he 1, he 2, he 3, he 4, trivial⟩ (fun J => ?_)
 show At (gl R) _ _ _ _
 refine At.s K1 K2 ?_
 refine At.rg 0 [0, 1, 2, 3] ?_
 refine Seq.o ?_
 refine AK.vI (T := 22) (d := (some 5)) (ty := 0) (x := (.tmp 0)) (gd := none) (cs := #[(.slice p0 n0 c0)]) (by kernel_rfl) rfl rfl rfl (fun b5 hn => ?_)
 replace h := h b5 hn
 refine Seq.o ?_
 refine AK.vI (T := 23) (d := (some 6)) (ty := 0) (x := (.tmp 1)) (gd := none) (cs := #[(.slice p1 n1 c1)]) (by kernel_rfl) rfl rfl rfl (fun b6 hn => ?_)
 replace h := h b6 hn
 refine Seq.o ?_
 refine AK.N1 (T := 23) (d := (some 10)) (ty := 0)  (gd := none) (cs := #[(.slice none 0 0)]) (by kernel_rfl) rfl rfl zeroValue23 rfl (fun Cd hn => ?_)
 replace h := h Cd hn
 refine Seq.o ?_
 refine AK.N1 (T := 24) (d := (some 11)) (ty := 0)  (gd := none) (cs := #[(.int .i64 0)]) (by kernel_rfl) rfl rfl zeroValue24 rfl (fun BA hn => ?_)
 replace h := h BA hn
 refine Seq.done ?_
 refine At.s K3 K12 (At.s K4 K5 ?_)
 refine At.rg 1 [0, 1, 2, 3] ?_
 obtain ⟨T1, n22, S7, hl, h⟩ := h
 refine Seq.z 22 (.load 22 (.tmp 5)) 22 (.slice T1 n22 S7) (Y.ld isAgg22 rfl hl) ?_
 obtain ⟨nw, n23, nz, hl, h⟩ := h
 refine Seq.z 23 (.load 23 (.tmp 6)) 23 (.slice nw n23 nz) (Y.ld isAgg23 rfl hl) ?_
 refine Seq.o ?_
 refine AK.cl (some 24) call28 (h.cont fun v σ1 h2 => ?_); replace h := h2; clear h2
 obtain ⟨JA, rfl, h⟩ := h
 refine Seq.u 12 (.int .i64 JA) (Seq.done ?_)
 refine At.s K6 K7 ?_
 refine At.rg 2 [0, 1] ?_
 refine Seq.us [(25, .int .i64 JA), (26, .bool (decide ((JA : Int) ≠ 0)))] (Seq.done ?_)
 cases hb : (decide ((JA : Int) ≠ 0)) with
 | true =>
   replace h := h.1 (of_decide_eq_true hb)
   refine At.cT 26 K8 K11 ?_
   refine At.s K9 K10 ?_
   refine At.rg 3 [0, 1, 2] ?_
   refine Seq.u 27 (.int .i64 JA) ?_
   refine Seq.o ?_
   refine AK.store (T := 23) (ty := 0) (x := (.tmp 10)) (y := (.const (.slice none 0 0))) (p := (.pointer (some ⟨Cd, 0, none⟩))) (v := (.slice none 0 0)) (gd := none) (by kernel_rfl) rfl rfl rfl (h.mono (fun _ GA h2 => ?_)); replace h := h2; clear h2
   refine Seq.o ?_
   refine AK.store (T := 24) (ty := 0) (x := (.tmp 11)) (y := (.tmp 27)) (p := (.pointer (some ⟨BA, 0, none⟩))) (v := (.int .i64 JA)) (gd := none) (by kernel_rfl) rfl rfl rfl (h.mono (fun _ CE h2 => ?_)); replace h := h2; clear h2
   refine Seq.done ?_
   obtain ⟨Ck, Cm, Cn, Co, OE, OF, h⟩ := h
   exact At.rt [.cell 10 23, .cell 11 24] [(.slice Ck Cm Cn), (.int .i64 Co)] func35 ⟨_, _, rfl, ⟨_, rfl, Bt isAgg23 OE⟩, ⟨_, _, rfl, ⟨_, rfl, Bt isAgg24 OF⟩, rfl⟩⟩ h
 | false =>
   replace h := h.2 (of_decide_eq_false hb)
   refine At.cF 26 K8 K11 ?_
   refine At.skip ?_
   refine At.s K13 K20 (At.s K14 K15 ?_)
   refine At.rg 4 [0, 1, 2, 3, 4, 5, 6, 7, 8, 9, 10, 11, 12, 13, 14, 15, 16] ?_
   refine Seq.u 28 (.int .i64 x2) ?_
   refine Seq.o ?_
   refine AK.cl (some 29) call29 (h.cont fun v_2 GA h2 => ?_); replace h := h2; clear h2
   obtain ⟨t29, rfl, h⟩ := h
   refine Seq.us [(30, .bool (!t29)), (31, .bool (!t29))] ?_
   cases hb : (!t29) with
   | true =>
     replace h := h.1 (Tw.nt hb)
     refine Seq.n 32 ?_
     refine Seq.n 33 ?_
     refine Seq.n 34 ?_
     refine Seq.us [(35, .bool true), (36, .bool true)] ?_
     refine Seq.n 37 ?_
     refine Seq.n 38 ?_
     refine Seq.n 39 ?_
     refine Seq.us [(40, .bool true), (41, .bool true)] ?_
     refine Seq.n 42 ?_
     refine Seq.n 43 ?_
     refine Seq.u 44 (.bool true) (Seq.done ?_)
     refine At.cT 44 wO K19 ?_
     refine At.s K17 K18 ?_
     refine At.rg 5 [0, 1] ?_
     refine Seq.o ?_
     refine AK.store (T := 23) (ty := 0) (x := (.tmp 10)) (y := (.const (.slice none 0 0))) (p := (.pointer (some ⟨Cd, 0, none⟩))) (v := (.slice none 0 0)) (gd := none) (by kernel_rfl) rfl rfl rfl (h.mono (fun _ CE h2 => ?_)); replace h := h2; clear h2
     refine Seq.o ?_
     refine AK.store (T := 24) (ty := 0) (x := (.tmp 11)) (y := (.const (.int .i64 221))) (p := (.pointer (some ⟨BA, 0, none⟩))) (v := (.int .i64 221)) (gd := none) (by kernel_rfl) rfl rfl rfl (h.mono (fun _ Cr h2 => ?_)); replace h := h2; clear h2
     refine Seq.done ?_
     obtain ⟨Ck, Cm, Cn, Co, OE, OF, h⟩ := h
     exact At.rt [.cell 10 23, .cell 11 24] [(.slice Ck Cm Cn), (.int .i64 Co)] func35 ⟨_, _, rfl, ⟨_, rfl, Bt isAgg23 OE⟩, ⟨_, _, rfl, ⟨_, rfl, Bt isAgg24 OF⟩, rfl⟩⟩ h
   | false =>
     replace h := h.2 (Tw.nf hb)
     refine Seq.u 32 (.int .i64 x3) ?_
     refine Seq.o ?_
     refine AK.cl (some 33) call29 (h.cont fun v_3 CE h2 => ?_); replace h := h2; clear h2
     obtain ⟨t33, rfl, h⟩ := h
     refine Seq.us [(34, .bool (!t33)), (35, .bool (!t33)), (36, .bool (!t33))] ?_
     cases hb : (!t33) with
     | true =>
       replace h := h.1 (Tw.nt hb)
       refine Seq.n 37 ?_
       refine Seq.n 38 ?_
       refine Seq.n 39 ?_
       refine Seq.us [(40, .bool true), (41, .bool true)] ?_
       refine Seq.n 42 ?_
       refine Seq.n 43 ?_
       refine Seq.u 44 (.bool true) (Seq.done ?_)
       refine At.L [(2, (.int .i64 x2)), (3, (.int .i64 x3)), (4, (.int .i64 x4)), (5, (.pointer (some ⟨b5, 0, none⟩))), (6, (.pointer (some ⟨b6, 0, none⟩))), (10, (.pointer (some ⟨Cd, 0, none⟩))), (11, (.pointer (some ⟨BA, 0, none⟩))), (44, (.bool true))] fun J => ?_
       refine At.cT 44 wO K19 ?_
       refine At.s K17 K18 ?_
       refine At.rg 5 [0, 1] ?_
       refine Seq.o ?_
       refine AK.store (T := 23) (ty := 0) (x := (.tmp 10)) (y := (.const (.slice none 0 0))) (p := (.pointer (some ⟨Cd, 0, none⟩))) (v := (.slice none 0 0)) (gd := none) (by kernel_rfl) rfl rfl rfl (h.mono (fun _ Cr h2 => ?_)); replace h := h2; clear h2
       refine Seq.o ?_
       refine AK.store (T := 24) (ty := 0) (x := (.tmp 11)) (y := (.const (.int .i64 221))) (p := (.pointer (some ⟨BA, 0, none⟩))) (v := (.int .i64 221)) (gd := none) (by kernel_rfl) rfl rfl rfl (h.mono (fun _ BZ h2 => ?_)); replace h := h2; clear h2
       refine Seq.done ?_
       obtain ⟨Ck, Cm, Cn, Co, OE, OF, h⟩ := h
       exact At.rt [.cell 10 23, .cell 11 24] [(.slice Ck Cm Cn), (.int .i64 Co)] func35 ⟨_, _, rfl, ⟨_, rfl, Bt isAgg23 OE⟩, ⟨_, _, rfl, ⟨_, rfl, Bt isAgg24 OF⟩, rfl⟩⟩ h
     | false =>
       replace h := h.2 (Tw.nf hb)
       refine Seq.us [(37, .int .i64 x2), (38, .int .i64 x3), (39, .bool (decide ((x3 : Int) < x2))), (40, .bool (decide ((x3 : Int) < x2))), (41, .bool (decide ((x3 : Int) < x2)))] ?_
       cases hb : (decide ((x3 : Int) < x2)) with
       | true =>
         replace h := h.1 (of_decide_eq_true hb)
         refine Seq.n 42 ?_
         refine Seq.n 43 ?_
         refine Seq.u 44 (.bool true) (Seq.done ?_)
         refine At.cT 44 wO K19 ?_
         refine At.s K17 K18 ?_
         refine At.rg 5 [0, 1] ?_
         refine Seq.o ?_
         refine AK.store (T := 23) (ty := 0) (x := (.tmp 10)) (y := (.const (.slice none 0 0))) (p := (.pointer (some ⟨Cd, 0, none⟩))) (v := (.slice none 0 0)) (gd := none) (by kernel_rfl) rfl rfl rfl (h.mono (fun _ Cr h2 => ?_)); replace h := h2; clear h2
         refine Seq.o ?_
         refine AK.store (T := 24) (ty := 0) (x := (.tmp 11)) (y := (.const (.int .i64 221))) (p := (.pointer (some ⟨BA, 0, none⟩))) (v := (.int .i64 221)) (gd := none) (by kernel_rfl) rfl rfl rfl (h.mono (fun _ BZ h2 => ?_)); replace h := h2; clear h2
         refine Seq.done ?_
         obtain ⟨Ck, Cm, Cn, Co, OE, OF, h⟩ := h
         exact At.rt [.cell 10 23, .cell 11 24] [(.slice Ck Cm Cn), (.int .i64 Co)] func35 ⟨_, _, rfl, ⟨_, rfl, Bt isAgg23 OE⟩, ⟨_, _, rfl, ⟨_, rfl, Bt isAgg24 OF⟩, rfl⟩⟩ h
       | false =>
         replace h := h.2 (of_decide_eq_false hb)
         refine Seq.us [(42, .int .i64 x4), (43, .bool (decide ((x4 : Int) < 1))), (44, .bool (decide ((x4 : Int) < 1)))] (Seq.done ?_)
         cases hb : (decide ((x4 : Int) < 1)) with
         | true =>
           replace h := h.1 (of_decide_eq_true hb)
           refine At.cT 44 wO K19 ?_
           refine At.s K17 K18 ?_
           refine At.rg 5 [0, 1] ?_
           refine Seq.o ?_
           refine AK.store (T := 23) (ty := 0) (x := (.tmp 10)) (y := (.const (.slice none 0 0))) (p := (.pointer (some ⟨Cd, 0, none⟩))) (v := (.slice none 0 0)) (gd := none) (by kernel_rfl) rfl rfl rfl (h.mono (fun _ Cr h2 => ?_)); replace h := h2; clear h2
           refine Seq.o ?_
           refine AK.store (T := 24) (ty := 0) (x := (.tmp 11)) (y := (.const (.int .i64 221))) (p := (.pointer (some ⟨BA, 0, none⟩))) (v := (.int .i64 221)) (gd := none) (by kernel_rfl) rfl rfl rfl (h.mono (fun _ BZ h2 => ?_)); replace h := h2; clear h2
           refine Seq.done ?_
           obtain ⟨Ck, Cm, Cn, Co, OE, OF, h⟩ := h
           exact At.rt [.cell 10 23, .cell 11 24] [(.slice Ck Cm Cn), (.int .i64 Co)] func35 ⟨_, _, rfl, ⟨_, rfl, Bt isAgg23 OE⟩, ⟨_, _, rfl, ⟨_, rfl, Bt isAgg24 OF⟩, rfl⟩⟩ h
         | false =>
           replace h := h.2 (of_decide_eq_false hb)
           refine At.cF 44 wO K19 ?_
           refine At.skip ?_
           refine At.s K21 K28 (At.s K22 K23 ?_)
           refine At.rg 6 [0, 1, 2, 3, 4, 5] ?_
           refine Seq.us [(45, .int .i64 x3), (46, .int .i64 x2)] ?_
           obtain ⟨hi, h⟩ := h
           refine Seq.z 47 (.binOp .sub 2 (.tmp 45) (.tmp 46) 2) 2 (.int .i64 (x3 - x2)) (Y.AHm hi rfl rfl) ?_
           refine Seq.u 48 (.int .i64 x4) ?_
           obtain ⟨hc, h⟩ := h
           obtain ⟨Qr, sY⟩ : ∃ y, y = IntKind.i64.wrap (Int.tdiv (x3 - x2) x4) := ⟨_, rfl⟩
           replace h := h Qr sY
           refine Seq.y (d := (some 49)) (op := (.binOp .quo 2 (.tmp 47) (.tmp 48) 2)) (ty := 2) (v := (.int .i64 Qr)) (by kernel_rfl) rfl (sY ▸ Y.quo hc rfl rfl) ?_
           refine Seq.u 50 (.bool (decide ((512 : Int) ≤ Qr))) (Seq.done ?_)
           cases hb : (decide ((512 : Int) ≤ Qr)) with
           | true =>
             replace h := h.1 (of_decide_eq_true hb)
             refine At.cT 50 K24 K27 ?_
             refine At.s K25 K26 ?_
             refine At.rg 7 [0, 1] ?_
             refine Seq.o ?_
             refine AK.store (T := 23) (ty := 0) (x := (.tmp 10)) (y := (.const (.slice none 0 0))) (p := (.pointer (some ⟨Cd, 0, none⟩))) (v := (.slice none 0 0)) (gd := none) (by kernel_rfl) rfl rfl rfl (h.mono (fun _ Cr h2 => ?_)); replace h := h2; clear h2
             refine Seq.o ?_
             refine AK.store (T := 24) (ty := 0) (x := (.tmp 11)) (y := (.const (.int .i64 222))) (p := (.pointer (some ⟨BA, 0, none⟩))) (v := (.int .i64 222)) (gd := none) (by kernel_rfl) rfl rfl rfl (h.mono (fun _ BZ h2 => ?_)); replace h := h2; clear h2
             refine Seq.done ?_
             obtain ⟨Ck, Cm, Cn, Co, OE, OF, h⟩ := h
             exact At.rt [.cell 10 23, .cell 11 24] [(.slice Ck Cm Cn), (.int .i64 Co)] func35 ⟨_, _, rfl, ⟨_, rfl, Bt isAgg23 OE⟩, ⟨_, _, rfl, ⟨_, rfl, Bt isAgg24 OF⟩, rfl⟩⟩ h
           | false =>
             replace h := h.2 (of_decide_eq_false hb)
             refine At.cF 50 K24 K27 ?_
             refine At.skip ?_
             refine At.s K29 K30 ?_
             refine At.rg 8 [0, 1, 2] ?_
             refine Seq.o ?_
             refine AK.TB (d := (some 51)) (op := (.makeMap 99 none)) (ty := 99) (gd := none) (by kernel_rfl) rfl rfl (Instr.makeMap 99 none) (fun o ho ht => by simp only [execOp, ho]; rfl) (h.mono (fun v_4 Cr h2 => ?_)); replace h := h2; clear h2
             obtain ⟨m51, rfl, h⟩ := h
             refine Seq.o ?_
             refine AK.N1 (T := 99) (d := (some 13)) (ty := 0)  (gd := none) (cs := #[(.map none)]) (by kernel_rfl) rfl rfl zeroValue99 rfl (fun DF hn => ?_)
             replace h := h DF hn
             refine Seq.o ?_
             refine AK.store (T := 99) (ty := 0) (x := (.tmp 13)) (y := (.tmp 51)) (p := (.pointer (some ⟨DF, 0, none⟩))) (v := (.map (some m51))) (gd := none) (by kernel_rfl) rfl rfl rfl (h.mono (fun _ BZ h2 => ?_)); replace h := h2; clear h2
             refine Seq.done ?_
             refine At.s K31 K32 ?_
             refine At.rg 9 [0] ?_
             refine Seq.o ?_
             refine AK.N1 (T := 23) (d := (some 14)) (ty := 0)  (gd := none) (cs := #[(.slice none 0 0)]) (by kernel_rfl) rfl rfl zeroValue23 rfl (fun BP hn => ?_)
             replace h := h BP hn
             refine Seq.done ?_
             refine At.s K33 K77 (At.s K34 K35 ?_)
             refine At.rg 10 [0, 1, 2, 3] ?_
             refine Seq.us [(52, .int .i64 x2), (53, .int .i64 x3), (54, .int .i64 x4)] ?_
             refine Seq.o ?_
             refine AK.cl (some 55) call48 (h.cont fun v_5 Mw h2 => ?_); replace h := h2; clear h2
             obtain ⟨f55, a55, c55, rfl, h⟩ := h
             refine Seq.done ?_
             refine At.b 0 K36 ?_
             obtain ⟨gf, lb, hgv, N0, h⟩ := h
             refine At.range (gop := (.tmp 55)) (ps := #[56]) (assign := K37) (body := K38) (gf := gf) (lb := lb) (by kernel_rfl) rfl rfl hgv N0 (fun Z3 Y5 Pc hDl hD hl hrf Z4 hra hrb hrs hre => ?_)
             refine (h Z3 Y5 Pc hDl hD hl (fun R2 σ2 pJ wP hp => Ht.br (n := 117) wP Z4 hrs (by decide) hre (fn := f35) (by rw [hrf]; exact func35) ?_)).mono (fun en Je h => ?_)
             · rw [hrf, hra, hrb]
               exact At.v [(5, (.pointer (some ⟨b5, 0, none⟩))), (6, (.pointer (some ⟨b6, 0, none⟩))), (10, (.pointer (some ⟨Cd, 0, none⟩))), (11, (.pointer (some ⟨BA, 0, none⟩))), (13, (.pointer (some ⟨DF, 0, none⟩))), (14, (.pointer (some ⟨BP, 0, none⟩))), (56, (.int .i64 pJ))] (hp _)
             obtain ⟨v, s, p, he, vT, hs, h⟩ := h
             refine ⟨v, s, p, he, vT, hs, ?_⟩
             rcases h with h | h
             · obtain ⟨rfl, h⟩ := h
               show At (Gl.behind prog 35 117 Z3 R) [.inBlock 0, .code K77] _ _ _
               refine At.inBlock ?_
               refine At.s K78 K79 ?_
               refine At.rg 25 [0, 1] ?_
               obtain ⟨pK, n114, pL, hl, h⟩ := h
               refine Seq.z 114 (.load 23 (.tmp 14)) 23 (.slice pK n114 pL) (Y.ld isAgg23 rfl hl) ?_
               refine Seq.o ?_
               refine AK.cl (some 115) call50 (h.cont fun v_6 T3 h2 => ?_); replace h := h2; clear h2
               obtain ⟨rfl, h⟩ := h
               refine Seq.done ?_
               refine At.L [(10, (.pointer (some ⟨Cd, 0, none⟩))), (11, (.pointer (some ⟨BA, 0, none⟩))), (14, (.pointer (some ⟨BP, 0, none⟩)))] fun J => ?_
               refine At.s K80 K81 ?_
               refine At.rg 26 [0, 1, 2] ?_
               obtain ⟨jZ, n116, ja, hl, h⟩ := h
               refine Seq.z 116 (.load 23 (.tmp 14)) 23 (.slice jZ n116 ja) (Y.ld isAgg23 rfl hl) ?_
               refine Seq.o ?_
               refine AK.store (T := 23) (ty := 0) (x := (.tmp 10)) (y := (.tmp 116)) (p := (.pointer (some ⟨Cd, 0, none⟩))) (v := (.slice jZ n116 ja)) (gd := none) (by kernel_rfl) rfl rfl rfl (h.mono (fun _ sW h2 => ?_)); replace h := h2; clear h2
               refine Seq.o ?_
               refine AK.store (T := 24) (ty := 0) (x := (.tmp 11)) (y := (.const (.int .i64 0))) (p := (.pointer (some ⟨BA, 0, none⟩))) (v := (.int .i64 0)) (gd := none) (by kernel_rfl) rfl rfl rfl (h.mono (fun _ Qt h2 => ?_)); replace h := h2; clear h2
               refine Seq.done ?_
               obtain ⟨Ck, Cm, Cn, Co, iA, OE, OF, h⟩ := h
               exact At.Uj (rs := [.cell 10 23, .cell 11 24]) (vs := [(.slice Ck Cm Cn), (.int .i64 Co)]) (by kernel_rfl) func35 (by kernel_rfl) ⟨_, _, rfl, ⟨_, rfl, Bt isAgg23 OE⟩, ⟨_, _, rfl, ⟨_, rfl, Bt isAgg24 OF⟩, rfl⟩⟩ h rfl (ik iA)
             · obtain ⟨rfl, h⟩ := h
               show At (Gl.behind prog 35 117 Z3 R) [.code K82, .inBlock 0, .code K77] _ _ _
               obtain ⟨Uy, Uz, U0, U1, iA, wR, wS, h⟩ := h
               exact At.Uj (rs := [.cell 10 23, .cell 11 24]) (vs := [(.slice Uy Uz U0), (.int .i64 U1)]) (by kernel_rfl) func35 (by kernel_rfl) ⟨_, _, rfl, ⟨_, rfl, Bt isAgg23 wR⟩, ⟨_, _, rfl, ⟨_, rfl, Bt isAgg24 wS⟩, rfl⟩⟩ h rfl (ik iA)
theorem LC {R : Rr} {l b5 b6 Cd BA DF BP : Nat} {r0 : Loop} {sV : Int} {σ : Hp} (h : σ l = some (.loop (lp r0 .ready none)) ∧ ∃ sZ : Option Addr, ∃ oA : Nat, ∃ c58 : Nat, Hp.ld (Hp.set σ l (.loop (lp r0 .busy none))) ⟨b5, 0, none⟩ = some (.slice sZ oA c58) ∧ ∃ sa : Option Addr, ∃ n59 : Nat, ∃ sb : Nat, Hp.ld (Hp.set σ l (.loop (lp r0 .busy none))) ⟨b6, 0, none⟩ = some (.slice sa n59 sb) ∧ Spec prog 30 #[(.slice sZ oA c58), (.slice sa n59 sb), (.int .i64 sV)] (Hp.set σ l (.loop (lp r0 .busy none))) (AA (NP R) (fun v σ1 => ∃ Wu : Option Addr, ∃ Qu : Nat, ∃ Wv : Nat, ∃ OG : Int, v = (.tuple #[(.slice Wu Qu Wv), (.int .i64 OG)]) ∧ ((OG : Int) ≠ 0 → AJ prog (Instr.storeAt 23 (.pointer (some ⟨Cd, 0, none⟩)) (.slice none 0 0)) σ1 (fun _ GA => AJ prog (Instr.storeAt 24 (.pointer (some ⟨BA, 0, none⟩)) (.int .i64 OG)) GA (fun _ CE => CE l = some (.loop (lp r0 .busy none)) ∧ R (.returned (.bool false)) (Hp.set CE l (.loop (lp r0 .done (some .ret))))))) ∧ (¬ ((OG : Int) ≠ 0) → Pa R l r0 DF BP sV Wu Qu Wv ((Qu : Int)) 0 σ1)))) : Jd R l r0 b5 b6 Cd BA DF BP sV σ := by
 intro J
 show At (Gl.round prog 35 117 l R) _ _ _ _
 refine At.rg 11 [0] ?_
 refine Seq.u 15 (.int .i64 sV) (Seq.done ?_)
 obtain ⟨bp, h⟩ := h
 refine At.beginRound rfl bp ?_
 refine At.b 1 K39 ?_
 refine At.s K40 K41 ?_
 refine At.rg 12 [0, 1, 2, 3, 4, 5, 6, 7, 8] ?_
 obtain ⟨sZ, oA, c58, hl, h⟩ := h
 refine Seq.z 58 (.load 22 (.tmp 5)) 22 (.slice sZ oA c58) (Y.ld isAgg22 rfl hl) ?_
 obtain ⟨sa, n59, sb, hl, h⟩ := h
 refine Seq.z 59 (.load 23 (.tmp 6)) 23 (.slice sa n59 sb) (Y.ld isAgg23 rfl hl) ?_
 refine Seq.u 60 (.int .i64 sV) ?_
 refine Seq.o ?_
 refine AK.cl (some 61) call30 (h.cont fun v σ1 h2 => ?_); replace h := h2; clear h2
 obtain ⟨Wu, Qu, Wv, OG, rfl, h⟩ := h
 refine Seq.us [(57, .tuple #[(.slice Wu Qu Wv), (.int .i64 OG)]), (62, .slice Wu Qu Wv), (63, .int .i64 OG), (16, .slice Wu Qu Wv), (17, .int .i64 OG)] (Seq.done ?_)
 refine At.s K42 K49 (At.s K43 K44 ?_)
 refine At.rg 13 [0, 1] ?_
 refine Seq.us [(64, .int .i64 OG), (65, .bool (decide ((OG : Int) ≠ 0)))] (Seq.done ?_)
 cases hb : (decide ((OG : Int) ≠ 0)) with
 | true =>
  replace h := h.1 (of_decide_eq_true hb)
  refine At.cT 65 K45 K48 ?_
  refine At.s K46 K47 ?_
  refine At.rg 14 [0, 1, 2] ?_
  refine Seq.u 66 (.int .i64 OG) ?_
  refine Seq.o ?_
  refine AK.store (T := 23) (ty := 0) (x := (.tmp 10)) (y := (.const (.slice none 0 0))) (p := (.pointer (some ⟨Cd, 0, none⟩))) (v := (.slice none 0 0)) (gd := none) (by kernel_rfl) rfl rfl rfl (h.mono (fun _ GA h2 => ?_)); replace h := h2; clear h2
  refine Seq.o ?_
  refine AK.store (T := 24) (ty := 0) (x := (.tmp 11)) (y := (.tmp 66)) (p := (.pointer (some ⟨BA, 0, none⟩))) (v := (.int .i64 OG)) (gd := none) (by kernel_rfl) rfl rfl rfl (h.mono (fun _ CE h2 => ?_)); replace h := h2; clear h2
  refine Seq.done ?_
  exact At.iT (by kernel_rfl) rfl h.1 h.2
 | false =>
  replace h := h.2 (of_decide_eq_false hb)
  refine At.cF 65 K45 K48 ?_
  refine At.skip ?_
  refine At.s K50 K51 ?_
  refine At.rg 15 [0, 1, 2] ?_
  refine Seq.u 67 (.slice Wu Qu Wv) ?_
  refine Seq.z 68 (.call { callee := .builtin .len, args := #[(.tmp 67)], argTypes := #[67] }) 3 (.int .i64 (Qu : Int)) (Y.vC underlying67 rfl rfl) ?_
  refine Seq.u 69 (.int .i64 0) (Seq.done ?_)
  refine At.b 2 K52 ?_
  refine At.loop (x := K53) (by kernel_rfl) ?_
  refine At.s K54 K55 ?_
  exact At.v [(13, (.pointer (some ⟨DF, 0, none⟩))), (14, (.pointer (some ⟨BP, 0, none⟩))), (15, (.int .i64 sV)), (67, (.slice Wu Qu Wv)), (68, (.int .i64 (Qu : Int))), (69, (.int .i64 0))] (h _)
theorem P9 {R : Rr} {l DF BP Wt Y4 : Nat} {r0 : Loop} {x15 Mv Pb : Int} {iC : Option Addr} {σ : Hp} (h : ((Pb : Int) < Mv → ∃ (U2 jb : Nat), iC = some ⟨U2, jb, none⟩ ∧ ((0 : Int) ≤ Pb ∧ Pb < (Wt : Int)) ∧ ∃ jc : Option Addr, ∃ jd : Nat, ∃ je : Nat, ∃ Jf : Int, Aq σ U2 (jb + Int.toNat Pb * 2) [(.slice jc jd je), (.int .u64 Jf)] ∧ ∀ CV : Nat, σ CV = none → AJ prog (Instr.storeAt 71 (.pointer (some ⟨CV, 0, none⟩)) (.agg #[(.slice jc jd je), (.int .u64 Jf)])) (Hp.set σ CV (.cells #[(.slice none 0 0), (.int .u64 0)] 71 (0, 0))) (fun _ σ1 => ∃ Z5 : Option Nat, Hp.ld σ1 ⟨DF, 0, none⟩ = some (.map Z5) ∧ ∃ wX : Option Addr, ∃ wY : Nat, ∃ wZ : Nat, Hp.ld σ1 ⟨CV, 0, none⟩ = some (.slice wX wY wZ) ∧ Spec prog 49 #[(.slice wX wY wZ)] σ1 (AA (NP R) (fun v GA => ∃ s77 : ByteArray, v = (.string s77) ∧ Kp [DF] σ1 GA ∧ AJ prog (Instr.lookup 99 (.map Z5) (.string s77) true) GA (fun v_2 CE => ∃ Z6 : Int, ∃ TH : Bool, v_2 = (.tuple #[(.int .i64 Z6), (.bool TH)]) ∧ (TH = false → ∃ pM : Option Addr, ∃ Ww : Nat, ∃ pN : Nat, Hp.ld CE ⟨BP, 0, none⟩ = some (.slice pM Ww pN) ∧ ∃ m85 : Option Nat, Hp.ld CE ⟨DF, 0, none⟩ = some (.map m85) ∧ ∃ p87 : Option Addr, ∃ n87 : Nat, ∃ c87 : Nat, Hp.ld CE ⟨CV, 0, none⟩ = some (.slice p87 n87 c87) ∧ Spec prog 49 #[(.slice p87 n87 c87)] CE (AA (NP R) (fun v_3 Cr => ∃ s88 : ByteArray, v_3 = (.string s88) ∧ Kp [DF] CE Cr ∧ AJ prog (Instr.mapUpdate 99 (.map m85) (.string s88) (.int .i64 (Ww : Int))) Cr (fun _ BZ => ∃ p90 : Option Addr, ∃ n90 : Nat, ∃ c90 : Nat, Hp.ld BZ ⟨BP, 0, none⟩ = some (.slice p90 n90 c90) ∧ ∃ p93 : Option Addr, ∃ n93 : Nat, ∃ c93 : Nat, Hp.ld BZ ⟨CV, 0, none⟩ = some (.slice p93 n93 c93) ∧ ∀ iD : Nat, BZ iD = none → AJ prog (Builtin.append_ #[37, 37] 37 #[(.slice (some ⟨iD, 0, none⟩) 0 0), (.slice p93 n93 c93)]) (Hp.set BZ iD (.cells #[] 56 (0, 0))) (fun v_4 Mw => ∃ pP : Option Addr, ∃ pQ : Nat, ∃ pR : Nat, v_4 = (.slice pP pQ pR) ∧ Kp [BP] (Hp.set BZ iD (.cells #[] 56 (0, 0))) Mw ∧ ∀ pS : Nat, Mw pS = none → AJ prog (Builtin.append_ #[23, 23] 23 #[(.slice p90 n90 c90), (.slice (some ⟨pS, 0, none⟩) 1 1)]) (Hp.set Mw pS (.cells #[(.slice pP pQ pR), (.slice none 0 0)] 40 (0, 0))) (fun v_5 Je => ∃ p97 : Option Addr, ∃ n97 : Nat, ∃ c97 : Nat, v_5 = (.slice p97 n97 c97) ∧ AJ prog (Instr.storeAt 23 (.pointer (some ⟨BP, 0, none⟩)) (.slice p97 n97 c97)) Je (fun _ T3 => pI R l r0 DF BP x15 CV ((Ww : Int)) ((some ⟨U2, jb, none⟩)) Wt Y4 Mv Pb T3))))))) ∧ (TH = true → pI R l r0 DF BP x15 CV Z6 ((some ⟨U2, jb, none⟩)) Wt Y4 Mv Pb CE)))))) ∧ (¬ ((Pb : Int) < Mv) → σ l = some (.loop (lp r0 .busy none)) ∧ R (.returned (.bool true)) (Hp.set σ l (.loop (lp r0 .ready none))))) : Pa R l r0 DF BP x15 iC Wt Y4 Mv Pb σ := by
 intro J
 show At (Gl.round prog 35 117 l R) _ _ _ _
 refine At.rg 16 [0] ?_
 refine Seq.u 70 (.bool (decide ((Pb : Int) < Mv))) (Seq.done ?_)
 refine At.s K56 K59 ?_
 cases hb : (decide ((Pb : Int) < Mv)) with
 | true =>
  replace h := h.1 (of_decide_eq_true hb)
  refine At.cT 70 K57 K58 ?_
  refine At.skip ?_
  refine At.s K60 K76 ?_
  refine At.b 3 K61 ?_
  refine At.s K62 K63 ?_
  refine At.rg 17 [0, 1, 2, 3] ?_
  obtain ⟨U2, jb, hq, h⟩ := h
  subst hq
  obtain ⟨hi, h⟩ := h
  refine Seq.z 71 (.indexAddr 67 (.tmp 67) (.tmp 69)) 0 (.pointer (some ⟨U2, (jb + Int.toNat Pb * 2), none⟩)) (Y.idx underlying67 sizeOf71 rfl rfl hi rfl) ?_
  obtain ⟨jc, jd, je, Jf, hl, h⟩ := h
  refine Seq.z 72 (.load 71 (.tmp 71)) 71 (.agg #[(.slice jc jd je), (.int .u64 Jf)]) (Y.lda isAgg71 sizeOf71 rfl rfl hl) ?_
  refine Seq.o ?_
  refine AK.N1 (T := 71) (d := (some 19)) (ty := 0)  (gd := none) (cs := #[(.slice none 0 0), (.int .u64 0)]) (by kernel_rfl) rfl rfl zeroValue71 rfl (fun CV hn => ?_)
  replace h := h CV hn
  refine Seq.o ?_
  refine AK.store (T := 71) (ty := 0) (x := (.tmp 19)) (y := (.tmp 72)) (p := (.pointer (some ⟨CV, 0, none⟩))) (v := (.agg #[(.slice jc jd je), (.int .u64 Jf)])) (gd := none) (by kernel_rfl) rfl rfl rfl (h.mono (fun _ σ1 h2 => ?_)); replace h := h2; clear h2
  refine Seq.done ?_
  refine At.s K64 K65 ?_
  refine At.draw (id := 18) (ops := cO K64) (n := 10) (q := (some [])) (plan := [(0, true), (1, true), (2, true), (3, false), (4, false), (5, true), (6, true), (7, true), (8, true), (9, true)]) (tl := []) mixed (by kernel_rfl) (by kernel_rfl) ?_
  obtain ⟨Z5, hl, h⟩ := h
  refine Head.yl DF [[4]] rfl (by kernel_rfl) (d := (some 74)) (op := (.load 99 (.tmp 13))) (ty := 99) (v := (.map Z5)) (by kernel_rfl) rfl (Y.ld isAgg99 rfl (HU hl)) ?_
  refine Head.z 75 (.fieldAddr 71 (.tmp 19) 0) 0 (.pointer (some ⟨CV, 0, none⟩)) (Y.fieldAddr (fd := (Kt prog 71 0)) underlying71 (by kernel_rfl) sizeOf37 rfl rfl) ?_
  obtain ⟨wX, wY, wZ, hl, h⟩ := h
  refine Head.yl CV [[3], [4, 3]] rfl (by kernel_rfl) (d := (some 76)) (op := (.load 37 (.tmp 75))) (ty := 37) (v := (.slice wX wY wZ)) (by kernel_rfl) rfl (Y.ld isAgg37 rfl (HU hl)) ?_
  refine Head.o (q' := (some [(DF, [4])])) rfl ?_
  refine AK.cl (some 77) call49 (h.cont fun v GA h2 => ?_); replace h := h2; clear h2
  obtain ⟨s77, rfl, hk, h⟩ := h
  refine ⟨⟨fun _ h => h, WG (L := [(DF, [4])]) hk⟩, ?_⟩
  refine Head.o (q' := (some [])) rfl ?_
  refine AK.TB (d := (some 78)) (op := (.lookup 99 (.tmp 74) (.tmp 77) true)) (ty := 102) (gd := none) (by kernel_rfl) rfl rfl (Instr.lookup 99 (.map Z5) (.string s77) true) (fun o ho ht => by simp only [execOp, ho]; rfl) (h.mono (fun v_2 CE h2 => ?_)); replace h := h2; clear h2
  obtain ⟨Z6, TH, rfl, h⟩ := h
  refine ⟨⟨fun _ h => h, WG (L := []) Kp.nil⟩, ?_⟩
  refine Head.u 73 (.tuple #[(.int .i64 Z6), (.bool TH)]) ?_
  refine Head.u 79 (.int .i64 Z6) ?_
  refine Head.u 80 (.bool TH) ?_
  refine Head.u 20 (.int .i64 Z6) ?_
  refine Head.u 21 (.bool TH) ?_
  refine Head.done ?_
  refine Seq.done ?_
  refine At.s K66 K75 (At.s K67 K68 ?_)
  refine At.rg 19 [0, 1] ?_
  refine Seq.us [(81, .bool TH), (82, .bool (!TH))] (Seq.done ?_)
  cases hb : (!TH) with
  | true =>
   replace h := h.1 (Tw.nt hb)
   refine At.cT 82 K69 K74 ?_
   refine At.s K70 K71 ?_
   refine At.rg 20 [0, 1, 2] ?_
   obtain ⟨pM, Ww, pN, hl, h⟩ := h
   refine Seq.z 83 (.load 23 (.tmp 14)) 23 (.slice pM Ww pN) (Y.ld isAgg23 rfl hl) ?_
   refine Seq.z 84 (.call { callee := .builtin .len, args := #[(.tmp 83)], argTypes := #[23] }) 3 (.int .i64 (Ww : Int)) (Y.vC underlying23 rfl rfl) ?_
   refine Seq.u 20 (.int .i64 (Ww : Int)) (Seq.done ?_)
   refine At.s K72 K73 ?_
   refine At.draw (id := 21) (ops := cO K72) (n := 5) (q := (some [])) (plan := [(0, true), (1, true), (2, true), (4, true), (3, false)]) (tl := [5]) mixed (by kernel_rfl) (by kernel_rfl) ?_
   obtain ⟨m85, hl, h⟩ := h
   refine Head.yl DF [] rfl (by kernel_rfl) (d := (some 85)) (op := (.load 99 (.tmp 13))) (ty := 99) (v := (.map m85)) (by kernel_rfl) rfl (Y.ld isAgg99 rfl (HU hl)) ?_
   refine Head.z 86 (.fieldAddr 71 (.tmp 19) 0) 0 (.pointer (some ⟨CV, 0, none⟩)) (Y.fieldAddr (fd := (Kt prog 71 0)) underlying71 (by kernel_rfl) sizeOf37 rfl rfl) ?_
   obtain ⟨p87, n87, c87, hl, h⟩ := h
   refine Head.yl CV [[3]] rfl (by kernel_rfl) (d := (some 87)) (op := (.load 37 (.tmp 86))) (ty := 37) (v := (.slice p87 n87 c87)) (by kernel_rfl) rfl (Y.ld isAgg37 rfl (HU hl)) ?_
   refine Head.u 89 (.int .i64 (Ww : Int)) ?_
   refine Head.o (q' := (some [(DF, [])])) rfl ?_
   refine AK.cl (some 88) call49 (h.cont fun v_3 Cr h2 => ?_); replace h := h2; clear h2
   obtain ⟨s88, rfl, hk, h⟩ := h
   refine ⟨⟨fun _ h => h, WG (L := [(DF, [])]) hk⟩, ?_⟩
   refine Head.done ?_
   refine Seq.o ?_
   refine AK.oa (d := none) (op := (.mapUpdate 99 (.tmp 85) (.tmp 88) (.tmp 89))) (ty := 0) (gd := none) (by kernel_rfl) rfl rfl (Instr.mapUpdate 99 (.map m85) (.string s88) (.int .i64 (Ww : Int))) (fun o ho ht => by simp only [execOp, ho]; rfl) (h.mono (fun _ BZ h2 => ?_)); replace h := h2; clear h2
   refine Seq.done ?_
   refine At.draw (id := 22) (ops := cO K73) (n := 7) (q := (some [])) (plan := [(0, true), (2, true), (3, true), (1, false), (4, false), (5, true), (6, false)]) (tl := [7, 8]) mixed (by kernel_rfl) (by kernel_rfl) ?_
   obtain ⟨p90, n90, c90, hl, h⟩ := h
   refine Head.yl BP [] rfl (by kernel_rfl) (d := (some 90)) (op := (.load 23 (.tmp 14))) (ty := 23) (v := (.slice p90 n90 c90)) (by kernel_rfl) rfl (Y.ld isAgg23 rfl (HU hl)) ?_
   refine Head.z 92 (.fieldAddr 71 (.tmp 19) 0) 0 (.pointer (some ⟨CV, 0, none⟩)) (Y.fieldAddr (fd := (Kt prog 71 0)) underlying71 (by kernel_rfl) sizeOf37 rfl rfl) ?_
   obtain ⟨p93, n93, c93, hl, h⟩ := h
   refine Head.yl CV [[4], [6, 5, 4]] rfl (by kernel_rfl) (d := (some 93)) (op := (.load 37 (.tmp 92))) (ty := 37) (v := (.slice p93 n93 c93)) (by kernel_rfl) rfl (Y.ld isAgg37 rfl (HU hl)) ?_
   refine Head.o (q' := (some [(CV, [4, 6]), (BP, [])])) rfl ?_
   refine AK.IQ (T := 37) (E := 56) (m := 0) (ps := #[]) (d := (some 91)) (ty := 37) (gd := none) (vs := []) (cs := #[]) underlying37 (by kernel_rfl) rfl rfl rfl (by kernel_rfl) (fun iD hn => ?_)
   refine ⟨⟨fun _ h => h, WG (Kp.HT (Ext.set hn))⟩, ?_⟩
   replace h := h iD hn
   refine Head.o (q' := (some [(BP, [])])) rfl ?_
   refine AK.TB (d := (some 94)) (op := (.call { callee := .builtin .append, args := #[(.tmp 91), (.tmp 93)], argTypes := #[37, 37] })) (ty := 37) (gd := none) (by kernel_rfl) rfl rfl (Builtin.append_ #[37, 37] 37 #[(.slice (some ⟨iD, 0, none⟩) 0 0), (.slice p93 n93 c93)]) (fun o ho ht => FR rfl rfl o ho ht) (h.mono (fun v_4 Mw h2 => ?_)); replace h := h2; clear h2
   obtain ⟨pP, pQ, pR, rfl, hk, h⟩ := h
   refine ⟨⟨fun _ h => h, WG (L := [(BP, [])]) hk⟩, ?_⟩
   refine Head.z 95 (.build 40 #[(0, (.tmp 94))]) 40 (.agg #[(.slice pP pQ pR), (.slice none 0 0)]) (Y.build (vs := [(0, (.slice pP pQ pR))]) rfl (by kernel_rfl)) ?_
   refine Head.o (q' := (some [(BP, [])])) rfl ?_
   refine AK.IQ (T := 23) (E := 40) (m := 1) (ps := #[(0, (.tmp 95))]) (d := (some 96)) (ty := 23) (gd := none) (vs := [(0, (.agg #[(.slice pP pQ pR), (.slice none 0 0)]))]) (cs := #[(.slice pP pQ pR), (.slice none 0 0)]) underlying23 (by kernel_rfl) rfl rfl rfl (by kernel_rfl) (fun pS hn => ?_)
   refine ⟨⟨fun _ h => h, WG (Kp.HT (Ext.set hn))⟩, ?_⟩
   replace h := h pS hn
   refine Head.done ?_
   refine Seq.o ?_
   refine AK.TB (d := (some 97)) (op := (.call { callee := .builtin .append, args := #[(.tmp 90), (.tmp 96)], argTypes := #[23, 23] })) (ty := 23) (gd := none) (by kernel_rfl) rfl rfl (Builtin.append_ #[23, 23] 23 #[(.slice p90 n90 c90), (.slice (some ⟨pS, 0, none⟩) 1 1)]) (fun o ho ht => FR rfl rfl o ho ht) (h.mono (fun v_5 Je h2 => ?_)); replace h := h2; clear h2
   obtain ⟨p97, n97, c97, rfl, h⟩ := h
   refine Seq.o ?_
   refine AK.store (T := 23) (ty := 0) (x := (.tmp 14)) (y := (.tmp 97)) (p := (.pointer (some ⟨BP, 0, none⟩))) (v := (.slice p97 n97 c97)) (gd := none) (by kernel_rfl) rfl rfl rfl (h.mono (fun _ T3 h2 => ?_)); replace h := h2; clear h2
   refine Seq.done ?_
   refine At.L [(13, (.pointer (some ⟨DF, 0, none⟩))), (14, (.pointer (some ⟨BP, 0, none⟩))), (15, (.int .i64 x15)), (19, (.pointer (some ⟨CV, 0, none⟩))), (20, (.int .i64 (Ww : Int))), (67, (.slice (some ⟨U2, jb, none⟩) Wt Y4)), (68, (.int .i64 Mv)), (69, (.int .i64 Pb))] fun J => ?_
   exact At.v [(13, (.pointer (some ⟨DF, 0, none⟩))), (14, (.pointer (some ⟨BP, 0, none⟩))), (15, (.int .i64 x15)), (19, (.pointer (some ⟨CV, 0, none⟩))), (20, (.int .i64 (Ww : Int))), (67, (.slice (some ⟨U2, jb, none⟩) Wt Y4)), (68, (.int .i64 Mv)), (69, (.int .i64 Pb))] (h _)
  | false =>
   replace h := h.2 (Tw.nf hb)
   refine At.cF 82 K69 K74 ?_
   refine At.skip ?_
   exact At.v [(13, (.pointer (some ⟨DF, 0, none⟩))), (14, (.pointer (some ⟨BP, 0, none⟩))), (15, (.int .i64 x15)), (19, (.pointer (some ⟨CV, 0, none⟩))), (20, (.int .i64 Z6)), (67, (.slice (some ⟨U2, jb, none⟩) Wt Y4)), (68, (.int .i64 Mv)), (69, (.int .i64 Pb))] (h _)
 | false =>
  replace h := h.2 (of_decide_eq_false hb)
  refine At.cF 70 K57 K58 ?_
  refine At.x 2 [.inBlock 1] ?_
  refine At.inBlock ?_
  exact At.iS rfl h.1 h.2
theorem pT {R : Rr} {l DF BP CV Wt Y4 : Nat} {r0 : Loop} {x15 Ha Mv Pb : Int} {iC : Option Addr} {σ : Hp} (h : ∃ p98 : Option Addr, ∃ n98 : Nat, ∃ c98 : Nat, Hp.ld σ ⟨BP, 0, none⟩ = some (.slice p98 n98 c98) ∧ ∃ pU : Option Addr, ∃ n100 : Nat, ∃ wa : Nat, Hp.ld σ ⟨BP, 0, none⟩ = some (.slice pU n100 wa) ∧ ∃ (Z7 jf : Nat), pU = some ⟨Z7, jf, none⟩ ∧ ((0 : Int) ≤ Ha ∧ Ha < (n100 : Int)) ∧ ∃ jg : Option Addr, ∃ n104 : Nat, ∃ jh : Nat, Hp.ld σ ⟨Z7, ((jf + Int.toNat Ha * 2) + 1), none⟩ = some (.slice jg n104 jh) ∧ ∃ U3 : Int, Hp.ld σ ⟨CV, 1, none⟩ = some (.int .u64 U3) ∧ ∀ OH : Nat, σ OH = none → AJ prog (Builtin.append_ #[38, 38] 38 #[(.slice jg n104 jh), (.slice (some ⟨OH, 0, none⟩) 1 1)]) (Hp.set σ OH (.cells #[(.int .i64 x15), (.int .u64 U3)] 50 (0, 0))) (fun v σ1 => ∃ pV : Option Addr, ∃ n110 : Nat, ∃ pW : Nat, v = (.slice pV n110 pW) ∧ Kp [BP] (Hp.set σ OH (.cells #[(.int .i64 x15), (.int .u64 U3)] 50 (0, 0))) σ1 ∧ ∃ (fB fC : Nat), p98 = some ⟨fB, fC, none⟩ ∧ ((0 : Int) ≤ Ha ∧ Ha < (n98 : Int)) ∧ AJ prog (Instr.storeAt 38 (.pointer (some ⟨fB, ((fC + Int.toNat Ha * 2) + 1), none⟩)) (.slice pV n110 pW)) σ1 (fun _ GA => AN (Pb + 1) ∧ Pa R l r0 DF BP x15 iC Wt Y4 Mv ((Pb + 1)) GA))) : pI R l r0 DF BP x15 CV Ha iC Wt Y4 Mv Pb σ := by
 intro J
 show At (Gl.round prog 35 117 l R) _ _ _ _
 refine At.draw (id := 23) (ops := cO K75) (n := 15) (q := (some [])) (plan := [(0, true), (1, true), (2, true), (3, true), (4, true), (5, true), (6, true), (7, true), (8, true), (9, true), (10, true), (11, false), (12, false), (13, true), (14, true)]) (tl := [15]) mixed (by kernel_rfl) (by kernel_rfl) ?_
 obtain ⟨p98, n98, c98, hl, h⟩ := h
 refine Head.yl BP [] rfl (by kernel_rfl) (d := (some 98)) (op := (.load 23 (.tmp 14))) (ty := 23) (v := (.slice p98 n98 c98)) (by kernel_rfl) rfl (Y.ld isAgg23 rfl (HU hl)) ?_
 refine Head.u 99 (.int .i64 Ha) ?_
 obtain ⟨pU, n100, wa, hl, h⟩ := h
 refine Head.yl BP [[12, 6, 5, 4]] rfl (by kernel_rfl) (d := (some 100)) (op := (.load 23 (.tmp 14))) (ty := 23) (v := (.slice pU n100 wa)) (by kernel_rfl) rfl (Y.ld isAgg23 rfl (HU hl)) ?_
 refine Head.u 101 (.int .i64 Ha) ?_
 obtain ⟨Z7, jf, hq, h⟩ := h
 subst hq
 obtain ⟨hi, h⟩ := h
 refine Head.z 102 (.indexAddr 23 (.tmp 100) (.tmp 101)) 0 (.pointer (some ⟨Z7, (jf + Int.toNat Ha * 2), none⟩)) (Y.idx underlying23 sizeOf40 rfl rfl hi rfl) ?_
 refine Head.z 103 (.fieldAddr 40 (.tmp 102) 1) 0 (.pointer (some ⟨Z7, ((jf + Int.toNat Ha * 2) + 1), none⟩)) (Y.fieldAddr (fd := (Kt prog 40 1)) underlying40 (by kernel_rfl) sizeOf38 rfl rfl) ?_
 obtain ⟨jg, n104, jh, hl, h⟩ := h
 refine Head.yl Z7 [[12]] rfl (by kernel_rfl) (d := (some 104)) (op := (.load 38 (.tmp 103))) (ty := 38) (v := (.slice jg n104 jh)) (by kernel_rfl) rfl (Y.ld isAgg38 rfl (HU hl)) ?_
 refine Head.u 105 (.int .i64 x15) ?_
 refine Head.z 106 (.fieldAddr 71 (.tmp 19) 1) 0 (.pointer (some ⟨CV, 1, none⟩)) (Y.fieldAddr (fd := (Kt prog 71 1)) underlying71 (by kernel_rfl) sizeOf48 rfl rfl) ?_
 obtain ⟨U3, hl, h⟩ := h
 refine Head.yl CV [[11, 10], [12, 11, 10]] rfl (by kernel_rfl) (d := (some 107)) (op := (.load 48 (.tmp 106))) (ty := 48) (v := (.int .u64 U3)) (by kernel_rfl) rfl (Y.ld isAgg48 rfl (HU hl)) ?_
 refine Head.z 108 (.build 50 #[(0, (.tmp 105)), (1, (.tmp 107))]) 50 (.agg #[(.int .i64 x15), (.int .u64 U3)]) (Y.build (vs := [(0, (.int .i64 x15)), (1, (.int .u64 U3))]) rfl (by kernel_rfl)) ?_
 refine Head.o (q' := (some [(Z7, [12]), (BP, [12]), (BP, [])])) rfl ?_
 refine AK.IQ (T := 38) (E := 50) (m := 1) (ps := #[(0, (.tmp 108))]) (d := (some 109)) (ty := 38) (gd := none) (vs := [(0, (.agg #[(.int .i64 x15), (.int .u64 U3)]))]) (cs := #[(.int .i64 x15), (.int .u64 U3)]) underlying38 (by kernel_rfl) rfl rfl rfl (by kernel_rfl) (fun OH hn => ?_)
 refine ⟨⟨fun _ h => h, WG (Kp.HT (Ext.set hn))⟩, ?_⟩
 replace h := h OH hn
 refine Head.o (q' := (some [(BP, [])])) rfl ?_
 refine AK.TB (d := (some 110)) (op := (.call { callee := .builtin .append, args := #[(.tmp 104), (.tmp 109)], argTypes := #[38, 38] })) (ty := 38) (gd := none) (by kernel_rfl) rfl rfl (Builtin.append_ #[38, 38] 38 #[(.slice jg n104 jh), (.slice (some ⟨OH, 0, none⟩) 1 1)]) (fun o ho ht => FR rfl rfl o ho ht) (h.mono (fun v σ1 h2 => ?_)); replace h := h2; clear h2
 obtain ⟨pV, n110, pW, rfl, hk, h⟩ := h
 refine ⟨⟨fun _ h => h, WG (L := [(BP, [])]) hk⟩, ?_⟩
 obtain ⟨fB, fC, hq, h⟩ := h
 subst hq
 obtain ⟨hi, h⟩ := h
 refine Head.z 111 (.indexAddr 23 (.tmp 98) (.tmp 99)) 0 (.pointer (some ⟨fB, (fC + Int.toNat Ha * 2), none⟩)) (Y.idx underlying23 sizeOf40 rfl rfl hi rfl) ?_
 refine Head.z 112 (.fieldAddr 40 (.tmp 111) 1) 0 (.pointer (some ⟨fB, ((fC + Int.toNat Ha * 2) + 1), none⟩)) (Y.fieldAddr (fd := (Kt prog 40 1)) underlying40 (by kernel_rfl) sizeOf38 rfl rfl) ?_
 refine Head.done ?_
 refine Seq.o ?_
 refine AK.store (T := 38) (ty := 0) (x := (.tmp 112)) (y := (.tmp 110)) (p := (.pointer (some ⟨fB, ((fC + Int.toNat Ha * 2) + 1), none⟩))) (v := (.slice pV n110 pW)) (gd := none) (by kernel_rfl) rfl rfl rfl (h.mono (fun _ GA h2 => ?_)); replace h := h2; clear h2
 refine Seq.done ?_
 refine At.inBlock ?_
 refine At.rg 24 [0, 1] ?_
 obtain ⟨hi, h⟩ := h
 refine Seq.z 113 (.binOp .add 3 (.tmp 69) (.const (.int .i64 1)) 3) 3 (.int .i64 (Pb + 1)) (Y.AHl hi rfl rfl) ?_
 refine Seq.u 69 (.int .i64 (Pb + 1)) (Seq.done ?_)
 refine At.inLoop ?_
 refine At.s K54 K55 ?_
 exact At.v [(13, (.pointer (some ⟨DF, 0, none⟩))), (14, (.pointer (some ⟨BP, 0, none⟩))), (15, (.int .i64 x15)), (67, (.slice iC Wt Y4)), (68, (.int .i64 Mv)), (69, (.int .i64 (Pb + 1)))] (h _)
end Bp
namespace FZ
variable {p0 q5 LD : Option Addr} {n0 c0 n11 LF : Nat} {x12 E8 : Int}
def M : Fw := ⟨prog, 37, f37, [53], [7], false, [], [], [(232, [(0, wL), (5, wQ), (11, wL), (12, wI), (13, wI)])]⟩
theorem ok : M.Ok := ⟨.cons call53 (AG.nil), mixed, func37, by kernel_rfl⟩
def A2 := M.pt 0
theorem start (h : Al σ fun Cd => A2 R p0 n0 c0 (aD Cd 0) p0 n0 c0 (n0 : Int) 0 (Hp.set σ Cd (.cells #[.slice none 0 0] 110 (0, 0)))) : Spec prog 37 #[.slice p0 n0 c0] σ R := M.start h ok
theorem AY (h : Br (E8 < x12) (Pq LD fun Lm U4 => In E8 (n11 : Int) ∧ ∃ Qv Wx ji fD fE fF ABm ABn ABo ABp ABq ABr ABs ABt, Aq σ Lm (U4 + Int.toNat E8 * 10) [.int .i64 Qv, .int .i64 Wx, .string ji, .slice fD fE fF, .int .i64 ABm, .int .i64 ABn, .int .i64 ABo, .slice ABp ABq ABr, .bool ABs, .int .i64 ABt] ∧ ∀ b7 : Nat, Spec prog 53 #[.pointer q5, .agg #[.int .i64 Qv, .int .i64 Wx, .string ji, .slice fD fE fF, .int .i64 ABm, .int .i64 ABn, .int .i64 ABo, .slice ABp ABq ABr, .bool ABs, .int .i64 ABt]] σ (AA R (CI .i64 fun Ha y => Br (Ha ≠ 0) (R (.returned (.tuple #[.int .i64 0, .int .i64 E8, .int .i64 Ha])) y) (AN (E8 + 1) ∧ A2 R p0 n0 c0 q5 (aD Lm U4) n11 LF x12 (E8 + 1) y)))) (Pq q5 fun Wy pX => LS σ Wy pX fun p29 n29 c29 => Br ((n29 : Int) ≠ 1) (R (.returned (.tuple #[.int .i64 0, (.int .i64 (n0 : Int)), .int .i64 190])) σ) (Br (4096 < (n0 : Int)) (R (.returned (.tuple #[.int .i64 0, (.int .i64 (n0 : Int)), .int .i64 190])) σ) (LS σ Wy pX fun p42 n42 c42 => Pq p42 fun cd o43 => In 0 (n42 : Int) ∧ LI .i64 σ cd o43 fun x45 => R (.returned (.tuple #[.int .i64 x45, .int .i64 0, .int .i64 0])) σ)))) : A2 R p0 n0 c0 q5 LD n11 LF x12 E8 σ := M.of h ok rfl
end FZ
namespace CW
variable {p0 p1 : Option Addr} {n0 c0 n1 c1 : Nat} {x5 : Int}
def M : Fw := ⟨prog, 41, f41, [], [], false, [(6, 9, true)], [], [(464, [(0, wL), (1, wL), (5, wI)])]⟩
theorem ok : M.Ok := ⟨AG.nil, mixed, func41, by kernel_rfl⟩
def DG := M.pt 0
theorem start (h : Br ((n0 : Int) ≠ (n1 : Int)) (R (.returned (.bool false)) σ) (DG R p0 n0 c0 p1 n1 c1 0 σ)) : Spec prog 41 #[.slice p0 n0 c0, .slice p1 n1 c1] σ R := M.start h ok
theorem Cs (h : Br (x5 < (n0 : Int)) (Pq p0 fun CV V3 => In x5 (n0 : Int) ∧ ∃ wc we, Aq σ CV (V3 + Int.toNat x5 * 2) [.string wc, .string we] ∧ Pq p1 fun Ns cg => In x5 (n1 : Int) ∧ ∃ wg wh, Aq σ Ns (cg + Int.toNat x5 * 2) [.string wg, .string wh] ∧ ∃ t25, YF prog ((do eqGuard .neq 56 (.tmp 20) (.tmp 24) (.agg #[.string wc, .string we]) (.agg #[.string wg, .string wh]); binOp .neq 56 (.agg #[.string wc, .string we]) (.agg #[.string wg, .string wh]))) σ (.bool t25) ∧ Bo t25 (R (.returned (.bool false)) σ) (AN (x5 + 1) ∧ DG R (aD CV V3) n0 c0 (aD Ns cg) n1 c1 (x5 + 1) σ)) (R (.returned (.bool true)) σ)) : DG R p0 n0 c0 p1 n1 c1 x5 σ := M.of h ok rfl
end CW
namespace EC
variable {p0 p8 : Option Addr} {n0 c0 n8 c8 : Nat} {x9 x10 : Int}
def M : Fw := ⟨prog, 68, f68, [98, 99], [4], false, [(10, 14, true)], [], [(232, [(0, wL), (8, wL), (9, wI), (10, wI)])]⟩
theorem ok : M.Ok := ⟨.cons call98 (.cons call99 (AG.nil)), mixed, func68, by kernel_rfl⟩
def LY := M.pt 0
theorem start (h : Br (16 < (n0 : Int)) (R (.returned (.int .i64 30)) σ) (LY R p0 n0 c0 p0 n0 c0 (n0 : Int) 0 σ)) : Spec prog 68 #[.slice p0 n0 c0] σ R := M.start h ok
theorem IX (h : Br (x10 < x9) (Pq p8 fun DF iE => In x10 (n8 : Int) ∧ ∃ pY Z8, Aq σ DF (iE + Int.toNat x10 * 2) [.string pY, .string Z8] ∧ ∀ b4 : Nat, Spec prog 98 #[.string pY] σ (AA R (CB fun t18 y => Bn t18 (R (.returned (.int .i64 31)) y) (Bo ((ByteArray.toList Z8 == ByteArray.toList (ByteArray.mk #[]))) (R (.returned (.int .i64 32)) y) (Br ((256 : Int) < ((ByteArray.size Z8 : Nat) : Int)) (R (.returned (.int .i64 32)) y) (Spec prog 99 #[.string Z8] y (AA R (CB fun t33 AF => Bn t33 (R (.returned (.int .i64 32)) AF) (Br (0 < x10) (AN (x10 - 1) ∧ Pq p0 fun iF iG => In (x10 - 1) (n0 : Int) ∧ LT AF iF (iG + Int.toNat (x10 - 1) * 2) fun s47 => ∃ t48, YF prog ((do eqGuard .leq 9 (.tmp 41) (.tmp 47) (.string pY) (.string s47); binOp .leq 9 (.string pY) (.string s47))) AF (.bool t48) ∧ Bo t48 (R (.returned (.int .i64 33)) AF) (AN (x10 + 1) ∧ LY R (aD iF iG) n0 c0 (aD DF iE) n8 c8 x9 (x10 + 1) AF)) (AN (x10 + 1) ∧ LY R p0 n0 c0 (aD DF iE) n8 c8 x9 (x10 + 1) AF)))))))))) (R (.returned (.int .i64 0)) σ)) : LY R p0 n0 c0 p8 n8 c8 x9 x10 σ := M.of h ok rfl
end EC
namespace Av
variable {p0 p1 LD : Option Addr} {n0 c0 n1 c1 n11 LF : Nat} {v2 : Value} {x12 E8 : Int}
def M : Fw := ⟨prog, 75, f75, [], [8, 9], false, [], [], [(104, [(0, wL), (1, wL), (2, wV), (11, wL), (12, wI), (13, wI)])]⟩
theorem ok : M.Ok := ⟨AG.nil, mixed, func75, by kernel_rfl⟩
def Hg := M.pt 0
theorem start (h : Hg R p0 n0 c0 p1 n1 c1 v2 p0 n0 c0 (n0 : Int) 0 σ) : Spec prog 75 #[.slice p0 n0 c0, .slice p1 n1 c1, v2] σ R := M.D2 h ok [(0, .o (.L p0 n0 c0)), (1, .o (.L p1 n1 c1)), (2, .o (.V v2))] rfl rfl (by kernel_rfl)
theorem Bd (h : Br (E8 < x12) (Pq LD fun Lm U4 => In E8 (n11 : Int) ∧ ∃ ABu ABv, Aq σ Lm (U4 + Int.toNat E8 * 2) [.string ABu, .string ABv] ∧ ∀ b8 : Nat, Br ((n1 : Int) ≤ E8) (R (.returned (.int .i64 1)) σ) (Pq p1 fun pZ o24 => In E8 (n1 : Int) ∧ ∃ ABw ABx, Aq σ pZ (o24 + Int.toNat E8 * 2) [.string ABw, .string ABx] ∧ ∀ b9 : Nat, ∃ (f29 : Nat) (sd se : Array Value), v2 = .func (.func f29) sd se ∧ Enters prog f29 ∧ Spec prog f29 (sd ++ #[.agg #[.string ABu, .string ABv], .agg #[.string ABw, .string ABx]] ++ se) σ (AA R (CI .i64 fun x29 y => Br (x29 ≠ 0) (R (.returned (.int .i64 x29)) y) (AN (E8 + 1) ∧ Hg R p0 n0 c0 (aD pZ o24) n1 c1 v2 (aD Lm U4) n11 LF x12 (E8 + 1) y))))) (Br ((n0 : Int) < (n1 : Int)) (R (.returned (.int .i64 (-1))) σ) (R (.returned (.int .i64 0)) σ))) : Hg R p0 n0 c0 p1 n1 c1 v2 LD n11 LF x12 E8 σ := M.of h ok rfl
end Av
end TwW
end
end
section
set_option maxRecDepth 100000
noncomputable section
namespace TwW
open Go Tw Go.Proofs.Tryz
variable [Ev] {R : Rr} {σ : Hp}

namespace DH
variable {q0 : Option Addr}
def M : Fw := ⟨prog, 96, f96, [95], [], false, [], [], []⟩
theorem ok : M.Ok := ⟨.cons call95 (AG.nil), mixed, func96, by kernel_rfl⟩
theorem start (h : Spec prog 95 #[.pointer q0, (.func (.func 139) #[.pointer q0] #[]), .int .i64 11, .int .i64 13] σ (AA R (fun z y => z = (.tuple #[]) ∧ R (.returned (.tuple #[])) y))) : Spec prog 96 #[.pointer q0] σ R := M.start h ok
end DH
namespace Jg
variable {x0 : Int}
def M : Fw := ⟨prog, 124, f124, [], [], false, [], [], []⟩
theorem ok : M.Ok := ⟨AG.nil, mixed, func124, by kernel_rfl⟩
theorem start (h : Br (5 ≤ x0) (R (.returned (.bool (decide (x0 ≤ 10)))) σ) (R (.returned (.bool false)) σ)) : Spec prog 124 #[.int .i64 x0] σ R := M.start h ok
end Jg
namespace Oy
variable {s0 : ByteArray}
def M : Fw := ⟨prog, 140, f140, [172, 173, 174], [], false, [], [], []⟩
theorem ok : M.Ok := ⟨.cons call172 (.cons call173 (.cons call174 (AG.nil))), mixed, func140, by kernel_rfl⟩
theorem start (h : Spec prog 172 #[.string s0] σ (AA R (CB fun t7 y => Bn t7 (R (.returned (.tuple #[.int .u64 0, .bool false])) y) (Spec prog 173 #[.string s0, .int .i64 64] y (AA R (fun z AF => ∃ fG fH, z = (.tuple #[fG, fH]) ∧ Spec prog 174 #[fG] AF (AA R (CI .u64 fun x15 AH => R (.returned (.tuple #[.int .u64 x15, .bool true])) AH)))))))) : Spec prog 140 #[.string s0] σ R := M.start h ok
end Oy
namespace Qw
variable {p0 p1 : Option Addr} {n0 c0 n1 c1 : Nat}
def M : Fw := ⟨prog, 149, f149, [197], [], false, [], [], []⟩
theorem ok : M.Ok := ⟨.cons call197 (AG.nil), mixed, func149, by kernel_rfl⟩
theorem start (h : Al σ fun b3 => Spec prog 197 #[.slice p0 n0 c0, (.func (.func 198) #[] #[(.pointer (aD b3 0))])] (Hp.set σ b3 (.cells #[.slice p1 n1 c1] 34 (0, 0))) (AA R (CS fun p7 n7 c7 y => R (.returned (.slice p7 n7 c7)) y))) : Spec prog 149 #[.slice p0 n0 c0, .slice p1 n1 c1] σ R := M.start h ok
end Qw
namespace Dm
variable {p0 : Option Addr} {n0 c0 : Nat}
def M : Fw := ⟨prog, 153, f153, [202], [], false, [], [], []⟩
theorem ok : M.Ok := ⟨.cons call202 (AG.nil), mixed, func153, by kernel_rfl⟩
theorem start (h : Spec prog 202 #[.int .i64 9, .slice p0 n0 c0] σ (AA R (CI .u64 fun x4 y => R (.returned (.int .u64 x4)) y))) : Spec prog 153 #[.slice p0 n0 c0] σ R := M.start h ok
end Dm
namespace DI
variable {x0 : Int} {b1 b2 : Nat}
def M : Fw := ⟨prog, 159, f159, [156], [], false, [], [], []⟩
theorem ok : M.Ok := ⟨.cons call156 (AG.nil), mixed, func159, by kernel_rfl⟩
theorem start (h : ∃ Fv Fy s6c Fz F0 F2 x6e x6f x6g p6h n6h c6h t6i x6j, Aq σ b1 0 [.int .i64 Fv, .int .i64 Fy, .string s6c, .slice Fz F0 F2, .int .i64 x6e, .int .i64 x6f, .int .i64 x6g, .slice p6h n6h c6h, .bool t6i, .int .i64 x6j] ∧ LI .u64 σ b2 1 fun x9 => Spec prog 156 #[.agg #[.int .i64 Fv, .int .i64 Fy, .string s6c, .slice Fz F0 F2, .int .i64 x6e, .int .i64 x6f, .int .i64 x6g, .slice p6h n6h c6h, .bool t6i, .int .i64 x6j], .int .u64 x0, .int .u64 x9] σ (AA R (fun z y => ∃ IY Qy, z = (.tuple #[.int .u64 IY, .bool Qy]) ∧ R (.returned (.tuple #[.int .u64 IY, .bool Qy])) y))) : Spec prog 159 #[.int .u64 x0, (.pointer (aD b1 0)), (.pointer (aD b2 0))] σ R := M.start h ok
end DI
namespace Oz
variable {s0 : ByteArray}
def M : Fw := ⟨prog, 172, f172, [213], [], false, [], [], []⟩
theorem ok : M.Ok := ⟨.cons call213 (AG.nil), mixed, func172, by kernel_rfl⟩
theorem start (h : Spec prog 213 #[.string s0] σ (AA R (CI .i64 fun x6 y => Br (x6 = 0) (R (.returned (.bool false)) y) (Br (1 < x6) (∃ LG : UInt8, (0 : Int) ≤ 0 ∧ (ByteArray.data s0)[Int.toNat 0]? = some LG ∧ Br ((((UInt8.toNat LG : Nat) : Int) : Int) = 48) (R (.returned (.bool false)) y) (Br (x6 = ((ByteArray.size s0 : Nat) : Int)) (R (.returned (.bool (decide (x6 ≤ 15)))) y) (AN (x6 + 1) ∧ ∃ sf, YF prog (Instr.sliceAt 9 (.string s0) (some (.int .i64 (x6 + 1))) none none) y (.string sf) ∧ Spec prog 213 #[.string sf] y (AA R (CI .i64 fun Wz AF => ∃ si : UInt8, 0 ≤ x6 ∧ (ByteArray.data s0)[Int.toNat x6]? = some si ∧ Br ((((UInt8.toNat si : Nat) : Int) : Int) = 46) (Br (0 < Wz) (AN (x6 + 1) ∧ AN ((x6 + 1) + Wz) ∧ Br ((((x6 + 1) + Wz) : Int) = ((ByteArray.size s0 : Nat) : Int)) (AN (x6 + Wz) ∧ R (.returned (.bool (decide (((x6 + Wz) : Int) ≤ 15)))) AF) (R (.returned (.bool false)) AF)) (R (.returned (.bool false)) AF)) (R (.returned (.bool false)) AF)))))) (Br (x6 = ((ByteArray.size s0 : Nat) : Int)) (R (.returned (.bool (decide (x6 ≤ 15)))) y) (AN (x6 + 1) ∧ ∃ sf, YF prog (Instr.sliceAt 9 (.string s0) (some (.int .i64 (x6 + 1))) none none) y (.string sf) ∧ Spec prog 213 #[.string sf] y (AA R (CI .i64 fun Wz AF => ∃ si : UInt8, 0 ≤ x6 ∧ (ByteArray.data s0)[Int.toNat x6]? = some si ∧ Br ((((UInt8.toNat si : Nat) : Int) : Int) = 46) (Br (0 < Wz) (AN (x6 + 1) ∧ AN ((x6 + 1) + Wz) ∧ Br ((((x6 + 1) + Wz) : Int) = ((ByteArray.size s0 : Nat) : Int)) (AN (x6 + Wz) ∧ R (.returned (.bool (decide (((x6 + Wz) : Int) ≤ 15)))) AF) (R (.returned (.bool false)) AF)) (R (.returned (.bool false)) AF)) (R (.returned (.bool false)) AF))))))))) : Spec prog 172 #[.string s0] σ R := M.start h ok
end Oz
namespace ck
variable {x0 : Int}
def M : Fw := ⟨prog, 182, f182, [], [], false, [], [], []⟩
theorem ok : M.Ok := ⟨AG.nil, mixed, func182, by kernel_rfl⟩
theorem start (h : EN prog 22 #[.int .u64 x0] σ (fun z y => ∃ x4, (Value.float .f64 x4) = z ∧ R (.returned (Value.float .f64 x4)) y)) : Spec prog 182 #[.int .u64 x0] σ R := M.start h ok
end ck
namespace Mx
variable {f0 : Fn} {a0 c0 : Array Value}
def M : Fw := ⟨prog, 188, f188, [], [], false, [], [], []⟩
theorem ok : M.Ok := ⟨AG.nil, mixed, func188, by kernel_rfl⟩
theorem start (h : Al σ fun b1 => R (.returned (.func (.func 226) #[] #[(.pointer (aD b1 0))])) (Hp.set σ b1 (.cells #[(Value.func f0 a0 c0)] 232 (0, 0)))) : Spec prog 188 #[(Value.func f0 a0 c0)] σ R := M.D2 h ok [(0, .o (.V (Value.func f0 a0 c0)))] rfl rfl (by kernel_rfl)
end Mx
namespace CM
variable {p0 p5 p8 : Option Addr} {n0 c0 n5 c5 n8 c8 : Nat} {v1 : Value} {x9 x10 : Int}
def M : Fw := ⟨prog, 197, f197, [], [7], false, [], [], [(232, [(1, wV), (5, wL), (8, wL), (9, wI), (10, wI)]), (935, [(1, wV), (5, wL), (8, wL), (9, wI), (10, wI)])]⟩
theorem ok : M.Ok := ⟨AG.nil, mixed, func197, by kernel_rfl⟩
def A2 := M.pt 0
def W0 := M.pt 1
theorem start (h : A2 R v1 none 0 0 p0 n0 c0 (n0 : Int) 0 σ) : Spec prog 197 #[.slice p0 n0 c0, v1] σ R := M.D2 h ok [(0, .o (.L p0 n0 c0)), (1, .o (.V v1))] rfl rfl (by kernel_rfl)
theorem AY (h : Br (x10 < x9) (Pq p8 fun O0 Pd => In x10 (n8 : Int) ∧ ∃ wj fI, Aq σ O0 (Pd + Int.toNat x10 * 2) [.string wj, .string fI] ∧ ∀ b7 : Nat, ∃ (f16 : Nat) (sj sk : Array Value), v1 = .func (.func f16) sj sk ∧ Enters prog f16 ∧ Spec prog f16 (sj ++ #[.agg #[.string wj, .string fI]] ++ sk) σ (AA R (CB fun t16 y => Bo t16 (Al y fun CV => AJ prog (Builtin.append_ #[37, 37] 37 #[.slice p5 n5 c5, (.slice (aD CV 0) 1 1)]) (Hp.set y CV (.cells #[.string wj, .string fI] 56 (0, 0))) (CS fun p20 n20 c20 AF => W0 R v1 p20 n20 c20 (aD O0 Pd) n8 c8 x9 x10 AF)) (W0 R v1 p5 n5 c5 (aD O0 Pd) n8 c8 x9 x10 y)))) (R (.returned (.slice p5 n5 c5)) σ)) : A2 R v1 p5 n5 c5 p8 n8 c8 x9 x10 σ := M.of h ok rfl
theorem QA (h : AN (x10 + 1) ∧ A2 R v1 p5 n5 c5 p8 n8 c8 x9 (x10 + 1) σ) : W0 R v1 p5 n5 c5 p8 n8 c8 x9 x10 σ := M.of h ok rfl
end CM
namespace BI
variable {p0 : Option Addr} {n0 c0 : Nat} {s1 : ByteArray} {x7 x8 : Int}
def M : Fw := ⟨prog, 228, f228, [], [], false, [], [], [(104, [(0, wL), (1, wT), (7, wI), (8, wI)])]⟩
theorem ok : M.Ok := ⟨AG.nil, mixed, func228, by kernel_rfl⟩
def Hg := M.pt 0
theorem start (h : Hg R p0 n0 c0 s1 (n0 : Int) 0 σ) : Spec prog 228 #[.slice p0 n0 c0, .string s1] σ R := M.start h ok
theorem Bd (h : Br (x8 < x7) (Pq p0 fun BP P8 => In x8 (n0 : Int) ∧ LT σ BP (P8 + Int.toNat x8 * 1) fun s15 => Bo (ByteArray.toList s1 == ByteArray.toList s15) (R (.returned (.int .i64 x8)) σ) (AN (x8 + 1) ∧ Hg R (aD BP P8) n0 c0 s1 x7 (x8 + 1) σ)) (R (.returned (.int .i64 (-1))) σ)) : Hg R p0 n0 c0 s1 x7 x8 σ := M.of h ok rfl
end BI
namespace BS
variable {q0 : Option Addr}
def M : Fw := ⟨prog, 230, f230, [136, 138, 250, 251], [], false, [], [], []⟩
theorem ok : M.Ok := ⟨.cons call136 (.cons call138 (.cons call250 (.cons call251 (AG.nil)))), mixed, func230, by kernel_rfl⟩
theorem start (h : Spec prog 136 #[.pointer q0, .int .i64 5, (.string (ByteArray.mk #[45]))] σ (AA R (CB fun t3 y => Bn t3 (Spec prog 250 #[.pointer q0] y (AA R (fun z AF => z = (.tuple #[]) ∧ R (.returned (.tuple #[])) AF))) (Spec prog 251 #[.pointer q0, (.func (.func 230) #[.pointer q0] #[])] y (AA R (fun z AF => z = (.tuple #[]) ∧ Spec prog 138 #[.pointer q0, (.agg #[.int .i64 7, .int .i64 0, (.string (ByteArray.mk #[])), .slice none 0 0, .int .i64 0, .int .i64 0, .int .i64 0, .slice none 0 0, .bool false, .int .i64 1])] AF (AA R (fun z AH => z = (.tuple #[]) ∧ R (.returned (.tuple #[])) AH)))))))) : Spec prog 230 #[.pointer q0] σ R := M.start h ok
end BS
namespace Ba
variable {s0 : ByteArray} {x1 : Int}
def M : Fw := ⟨prog, 231, f231, [252, 253], [], false, [], [], []⟩
theorem ok : M.Ok := ⟨.cons call252 (.cons call253 (AG.nil)), mixed, func231, by kernel_rfl⟩
theorem start (h : Br (x1 = 32) (Spec prog 252 #[.string s0] σ (AA R (fun z y => ∃ AB7 TI AB8, z = (.tuple #[AB7, .int .i64 TI, AB8]) ∧ AJ prog (convert 280 51 AB7) y (fun z AF => ∃ Dn, (Value.float .f64 Dn) = z ∧ R (.returned (.tuple #[(Value.float .f64 Dn), .int .i64 TI, AB8])) AF)))) (Spec prog 253 #[.string s0] σ (AA R (fun z y => ∃ AB9 fJ ACA, z = (.tuple #[AB9, .int .i64 fJ, ACA]) ∧ R (.returned (.tuple #[AB9, .int .i64 fJ, ACA])) y)))) : Spec prog 231 #[.string s0, .int .i64 x1] σ R := M.start h ok
end Ba
namespace HF
variable {s0 s1 : ByteArray}
def M : Fw := ⟨prog, 285, f285, [315], [], false, [], [], []⟩
theorem ok : M.Ok := ⟨.cons call315 (AG.nil), mixed, func285, by kernel_rfl⟩
theorem start (h : Spec prog 315 #[.string s0, .string s1] σ (AA R (CB fun t7 y => R (.returned (.bool t7)) y))) : Spec prog 285 #[.string s0, .string s1] σ R := M.start h ok
end HF
namespace BL
variable {b0 : Nat}
def M : Fw := ⟨prog, 294, f294, [65, 210], [], false, [], [], []⟩
theorem ok : M.Ok := ⟨.cons call65 (.cons call210 (AG.nil)), mixed, func294, by kernel_rfl⟩
theorem start (h : LQ σ b0 0 fun q1 => Spec prog 65 #[.pointer q1] σ (AA R (fun z y => z = (.tuple #[]) ∧ LQ y b0 0 fun q3 => Spec prog 210 #[.pointer q3, (.string (ByteArray.mk #[41]))] y (AA R (fun z AF => z = (.tuple #[]) ∧ R (.returned (.tuple #[])) AF))))) : Spec prog 294 #[(.pointer (aD b0 0))] σ R := M.start h ok
end BL
end TwW
end
end
section
set_option maxRecDepth 100000
noncomputable section
namespace TwW
open Go Tw Go.Proofs.Tryz
variable [Ev] {R : Rr} {σ : Hp}

namespace CX
variable {p0 p1 : Option Addr} {n0 c0 n1 c1 : Nat} {x5 : Int}
def M : Fw := ⟨prog, 18, f18, [36, 41], [], false, [], [], [(464, [(0, wL), (1, wL), (5, wI)])]⟩
theorem ok : M.Ok := ⟨.cons call36 (.cons call41 (AG.nil)), mixed, func18, by kernel_rfl⟩
def DG := M.pt 0
theorem start (h : Br ((n0 : Int) ≠ (n1 : Int)) (R (.returned (.bool false)) σ) (DG R p0 n0 c0 p1 n1 c1 0 σ)) : Spec prog 18 #[.slice p0 n0 c0, .slice p1 n1 c1] σ R := M.start h ok
theorem Cs (h : Br (x5 < (n0 : Int)) (Pq p0 fun CV V3 => In x5 (n0 : Int) ∧ LS σ CV (V3 + Int.toNat x5 * 2) fun My n21 LZ => Pq p1 fun pZ o24 => In x5 (n1 : Int) ∧ LS σ pZ (o24 + Int.toNat x5 * 2) fun p26 n26 c26 => Spec prog 41 #[.slice My n21 LZ, .slice p26 n26 c26] σ (AA R (CB fun t27 y => Bn t27 (R (.returned (.bool false)) y) (In x5 (n0 : Int) ∧ LS y CV ((V3 + Int.toNat x5 * 2) + 1) fun p34 n34 c34 => In x5 (n1 : Int) ∧ LS y pZ ((o24 + Int.toNat x5 * 2) + 1) fun p39 n39 c39 => Spec prog 36 #[.slice p34 n34 c34, .slice p39 n39 c39] y (AA R (CB fun t40 AF => Bn t40 (R (.returned (.bool false)) AF) (AN (x5 + 1) ∧ DG R (aD CV V3) n0 c0 (aD pZ o24) n1 c1 (x5 + 1) AF))))))) (R (.returned (.bool true)) σ)) : DG R p0 n0 c0 p1 n1 c1 x5 σ := M.of h ok rfl
end CX
namespace W1
variable {p0 : Option Addr} {n0 c0 : Nat}
def M : Fw := ⟨prog, 49, f49, [72], [], false, [], [], []⟩
theorem ok : M.Ok := ⟨.cons call72 (AG.nil), mixed, func49, by kernel_rfl⟩
theorem start (h : Spec prog 72 #[.slice p0 n0 c0] σ (AA R (CS fun p4 n4 c4 y => AJ prog (convert 90 9 (.slice p4 n4 c4)) y (CT fun s5 AF => R (.returned (.string s5)) AF)))) : Spec prog 49 #[.slice p0 n0 c0] σ R := M.start h ok
end W1
namespace O1
def M : Fw := ⟨prog, 61, f61, [], [], false, [], [], []⟩
theorem ok : M.Ok := ⟨AG.nil, mixed, func61, by kernel_rfl⟩
theorem start (h : Al σ fun b1 => R (.returned (.slice (aD b1 0) 12 12)) (Hp.set σ b1 (.cells #[(.string (ByteArray.mk #[114, 97, 116, 101])), (.string (ByteArray.mk #[105, 110, 99, 114, 101, 97, 115, 101])), (.string (ByteArray.mk #[100, 101, 108, 116, 97])), (.string (ByteArray.mk #[115, 117, 109, 95, 111, 118, 101, 114, 95, 116, 105, 109, 101])), (.string (ByteArray.mk #[97, 118, 103, 95, 111, 118, 101, 114, 95, 116, 105, 109, 101])), (.string (ByteArray.mk #[109, 105, 110, 95, 111, 118, 101, 114, 95, 116, 105, 109, 101])), (.string (ByteArray.mk #[109, 97, 120, 95, 111, 118, 101, 114, 95, 116, 105, 109, 101])), (.string (ByteArray.mk #[99, 111, 117, 110, 116, 95, 111, 118, 101, 114, 95, 116, 105, 109, 101])), (.string (ByteArray.mk #[108, 97, 115, 116, 95, 111, 118, 101, 114, 95, 116, 105, 109, 101])), (.string (ByteArray.mk #[119, 97, 118, 101])), (.string (ByteArray.mk #[97, 98, 115])), (.string (ByteArray.mk #[102, 108, 111, 111, 114]))] 9 (0, 0)))) : Spec prog 61 #[] σ R := M.start h ok
end O1
namespace JB
variable {q0 : Option Addr}
def M : Fw := ⟨prog, 65, f65, [95], [], false, [], [], []⟩
theorem ok : M.Ok := ⟨.cons call95 (AG.nil), mixed, func65, by kernel_rfl⟩
theorem start (h : Spec prog 95 #[.pointer q0, (.func (.func 96) #[.pointer q0] #[]), .int .i64 12, .int .i64 12] σ (AA R (fun z y => z = (.tuple #[]) ∧ R (.returned (.tuple #[])) y))) : Spec prog 65 #[.pointer q0] σ R := M.start h ok
end JB
namespace H3
variable {q0 : Option Addr}
def M : Fw := ⟨prog, 66, f66, [], [2], false, [], [], []⟩
theorem ok : M.Ok := ⟨AG.nil, mixed, func66, by kernel_rfl⟩
theorem start (h : ∀ b2 : Nat, Pq q0 fun b4 o4 => LS σ b4 o4 fun p6 n6 c6 => Pq p6 fun b7 o7 => In 0 (n6 : Int) ∧ ∃ D3 ED s8c x8d, Aq σ b7 o7 [.int .i64 D3, .int .i64 ED, .string s8c, .int .i64 x8d] ∧ R (.returned (.agg #[.int .i64 D3, .int .i64 ED, .string s8c, .int .i64 x8d])) σ) : Spec prog 66 #[.pointer q0] σ R := M.start h ok
end H3
namespace Qz
def M : Fw := ⟨prog, 70, f70, [], [], false, [], [], []⟩
theorem ok : M.Ok := ⟨AG.nil, mixed, func70, by kernel_rfl⟩
theorem start (h : Al σ fun b1 => R (.returned (.slice (aD b1 0) 8 8)) (Hp.set σ b1 (.cells #[.nilFunc, (.func (.func 100) #[] #[]), (.func (.func 101) #[] #[]), (.func (.func 102) #[] #[]), (.func (.func 103) #[] #[]), (.func (.func 104) #[] #[]), (.func (.func 105) #[] #[]), (.func (.func 106) #[] #[])] 137 (0, 0)))) : Spec prog 70 #[] σ R := M.start h ok
end Qz
namespace Q0
variable {E1 EW Pe Mz Hh JC : Int} {Pf : ByteArray} {T5 Q1 : Option Addr} {TJ T6 QB Q2 : Nat} {MN : Bool}
def M : Fw := ⟨prog, 79, f79, [94, 120, 121, 122, 123, 124], [1], false, [], [], []⟩
theorem ok : M.Ok := ⟨.cons call94 (.cons call120 (.cons call121 (.cons call122 (.cons call123 (.cons call124 (AG.nil)))))), mixed, func79, by kernel_rfl⟩
theorem start (h : ∀ b1 : Nat, Spec prog 121 #[.agg #[.int .i64 E1, .int .i64 EW, .string Pf, .slice T5 TJ T6, .int .i64 Pe, .int .i64 Mz, .int .i64 Hh, .slice Q1 QB Q2, .bool MN, .int .i64 JC]] σ (AA R (fun z y => ∃ IZ G1 Ia Ib Ic Ie Ig Ih Ii Ij Ik Il Jh Im, z = (.agg #[.int .i64 IZ, .int .i64 G1, .string Ia, .slice Ib Ic Ie, .int .i64 Ig, .int .i64 Ih, .int .i64 Ii, .slice Ij Ik Il, .bool Jh, .int .i64 Im]) ∧ Spec prog 120 #[.agg #[.int .i64 E1, .int .i64 EW, .string Pf, .slice T5 TJ T6, .int .i64 Pe, .int .i64 Mz, .int .i64 Hh, .slice Q1 QB Q2, .bool MN, .int .i64 JC], .agg #[.int .i64 IZ, .int .i64 G1, .string Ia, .slice Ib Ic Ie, .int .i64 Ig, .int .i64 Ih, .int .i64 Ii, .slice Ij Ik Il, .bool Jh, .int .i64 Im]] y (AA R (CB fun t6 AF => Bn t6 (R (.returned (.bool false)) AF) (Spec prog 122 #[.agg #[.int .i64 E1, .int .i64 EW, .string Pf, .slice T5 TJ T6, .int .i64 Pe, .int .i64 Mz, .int .i64 Hh, .slice Q1 QB Q2, .bool MN, .int .i64 JC]] AF (AA R (CB fun t10 AH => Bn t10 (R (.returned (.bool false)) AH) (Br (0 < (TJ : Int)) (Br (E1 ≠ 2) (Br (E1 ≠ 3) (R (.returned (.bool false)) AH) (Br (E1 = 1) (Spec prog 94 #[.string Pf] AH (AA R (CB fun t35 AZ => R (.returned (.bool t35)) AZ))) (Br (E1 = 2) (Spec prog 123 #[.int .i64 Mz, .int .i64 0] AH (AA R (CB fun t40 AZ => R (.returned (.bool t40)) AZ))) (Br (E1 = 3) (Spec prog 123 #[.int .i64 Pe, .int .i64 1] AH (AA R (CB fun t45 AZ => Bo t45 (Spec prog 123 #[.int .i64 Mz, .int .i64 0] AZ (AA R (CB fun t49 D4 => R (.returned (.bool t49)) D4))) (R (.returned (.bool false)) AZ)))) (Br (E1 = 4) (Br (JC = 1) (Br (1 ≤ EW) (R (.returned (.bool (decide (EW ≤ 12)))) AH) (R (.returned (.bool false)) AH)) (R (.returned (.bool false)) AH)) (Br (E1 = 5) (Br (JC = 1) (Br (1 ≤ EW) (Br (EW ≤ 5) (Br (Hh = 0) (R (.returned (.bool true)) AH) (Br (Hh = 1) (R (.returned (.bool true)) AH) (R (.returned (.bool (decide (Hh = 2)))) AH))) (R (.returned (.bool false)) AH)) (R (.returned (.bool false)) AH)) (R (.returned (.bool false)) AH)) (Br (E1 = 6) (Br (JC = 2) (Br (1 ≤ EW) (Br (EW ≤ 13) (Br (Hh = 0) (Bn MN (R (.returned (.bool true)) AH) (Spec prog 124 #[.int .i64 EW] AH (AA R (CB fun t133 AZ => R (.returned (.bool t133)) AZ)))) (Br (Hh = 3) (Bn MN (R (.returned (.bool true)) AH) (Spec prog 124 #[.int .i64 EW] AH (AA R (CB fun t133 AZ => R (.returned (.bool t133)) AZ)))) (Br (Hh = 4) (Bn MN (R (.returned (.bool true)) AH) (Spec prog 124 #[.int .i64 EW] AH (AA R (CB fun t133 AZ => R (.returned (.bool t133)) AZ)))) (R (.returned (.bool false)) AH)))) (R (.returned (.bool false)) AH)) (R (.returned (.bool false)) AH)) (R (.returned (.bool false)) AH)) (Br (E1 = 7) (R (.returned (.bool (decide (JC = 1)))) AH) (R (.returned (.bool false)) AH))))))))) (Br (E1 = 1) (Spec prog 94 #[.string Pf] AH (AA R (CB fun t35 AZ => R (.returned (.bool t35)) AZ))) (Br (E1 = 2) (Spec prog 123 #[.int .i64 Mz, .int .i64 0] AH (AA R (CB fun t40 AZ => R (.returned (.bool t40)) AZ))) (Br (E1 = 3) (Spec prog 123 #[.int .i64 Pe, .int .i64 1] AH (AA R (CB fun t45 AZ => Bo t45 (Spec prog 123 #[.int .i64 Mz, .int .i64 0] AZ (AA R (CB fun t49 D4 => R (.returned (.bool t49)) D4))) (R (.returned (.bool false)) AZ)))) (Br (E1 = 4) (Br (JC = 1) (Br (1 ≤ EW) (R (.returned (.bool (decide (EW ≤ 12)))) AH) (R (.returned (.bool false)) AH)) (R (.returned (.bool false)) AH)) (Br (E1 = 5) (Br (JC = 1) (Br (1 ≤ EW) (Br (EW ≤ 5) (Br (Hh = 0) (R (.returned (.bool true)) AH) (Br (Hh = 1) (R (.returned (.bool true)) AH) (R (.returned (.bool (decide (Hh = 2)))) AH))) (R (.returned (.bool false)) AH)) (R (.returned (.bool false)) AH)) (R (.returned (.bool false)) AH)) (Br (E1 = 6) (Br (JC = 2) (Br (1 ≤ EW) (Br (EW ≤ 13) (Br (Hh = 0) (Bn MN (R (.returned (.bool true)) AH) (Spec prog 124 #[.int .i64 EW] AH (AA R (CB fun t133 AZ => R (.returned (.bool t133)) AZ)))) (Br (Hh = 3) (Bn MN (R (.returned (.bool true)) AH) (Spec prog 124 #[.int .i64 EW] AH (AA R (CB fun t133 AZ => R (.returned (.bool t133)) AZ)))) (Br (Hh = 4) (Bn MN (R (.returned (.bool true)) AH) (Spec prog 124 #[.int .i64 EW] AH (AA R (CB fun t133 AZ => R (.returned (.bool t133)) AZ)))) (R (.returned (.bool false)) AH)))) (R (.returned (.bool false)) AH)) (R (.returned (.bool false)) AH)) (R (.returned (.bool false)) AH)) (Br (E1 = 7) (R (.returned (.bool (decide (JC = 1)))) AH) (R (.returned (.bool false)) AH))))))))) (Br (E1 = 1) (Spec prog 94 #[.string Pf] AH (AA R (CB fun t35 AZ => R (.returned (.bool t35)) AZ))) (Br (E1 = 2) (Spec prog 123 #[.int .i64 Mz, .int .i64 0] AH (AA R (CB fun t40 AZ => R (.returned (.bool t40)) AZ))) (Br (E1 = 3) (Spec prog 123 #[.int .i64 Pe, .int .i64 1] AH (AA R (CB fun t45 AZ => Bo t45 (Spec prog 123 #[.int .i64 Mz, .int .i64 0] AZ (AA R (CB fun t49 D4 => R (.returned (.bool t49)) D4))) (R (.returned (.bool false)) AZ)))) (Br (E1 = 4) (Br (JC = 1) (Br (1 ≤ EW) (R (.returned (.bool (decide (EW ≤ 12)))) AH) (R (.returned (.bool false)) AH)) (R (.returned (.bool false)) AH)) (Br (E1 = 5) (Br (JC = 1) (Br (1 ≤ EW) (Br (EW ≤ 5) (Br (Hh = 0) (R (.returned (.bool true)) AH) (Br (Hh = 1) (R (.returned (.bool true)) AH) (R (.returned (.bool (decide (Hh = 2)))) AH))) (R (.returned (.bool false)) AH)) (R (.returned (.bool false)) AH)) (R (.returned (.bool false)) AH)) (Br (E1 = 6) (Br (JC = 2) (Br (1 ≤ EW) (Br (EW ≤ 13) (Br (Hh = 0) (Bn MN (R (.returned (.bool true)) AH) (Spec prog 124 #[.int .i64 EW] AH (AA R (CB fun t133 AZ => R (.returned (.bool t133)) AZ)))) (Br (Hh = 3) (Bn MN (R (.returned (.bool true)) AH) (Spec prog 124 #[.int .i64 EW] AH (AA R (CB fun t133 AZ => R (.returned (.bool t133)) AZ)))) (Br (Hh = 4) (Bn MN (R (.returned (.bool true)) AH) (Spec prog 124 #[.int .i64 EW] AH (AA R (CB fun t133 AZ => R (.returned (.bool t133)) AZ)))) (R (.returned (.bool false)) AH)))) (R (.returned (.bool false)) AH)) (R (.returned (.bool false)) AH)) (R (.returned (.bool false)) AH)) (Br (E1 = 7) (R (.returned (.bool (decide (JC = 1)))) AH) (R (.returned (.bool false)) AH))))))))))))))))) : Spec prog 79 #[.agg #[.int .i64 E1, .int .i64 EW, .string Pf, .slice T5 TJ T6, .int .i64 Pe, .int .i64 Mz, .int .i64 Hh, .slice Q1 QB Q2, .bool MN, .int .i64 JC]] σ R := M.start h ok
end Q0
namespace EX
variable {q0 Dc Dp p2 : Option Addr} {DY CN DZ Dd C5 CY : Int} {Da : ByteArray} {De Dg Dh Dq n2 c2 : Nat} {C6 : Bool}
def M : Fw := ⟨prog, 83, f83, [], [4], false, [], [], []⟩
theorem ok : M.Ok := ⟨AG.nil, mixed, func83, by kernel_rfl⟩
theorem start (h : ∀ b4 : Nat, Pq p2 fun b9 o9 => In 0 (n2 : Int) ∧ LI .i64 σ b9 o9 fun x11 => Br (x11 ≠ 2) (R (.returned (.tuple #[.int .i64 0, .int .i64 191])) σ) (R (.returned (.tuple #[.int .i64 2, .int .i64 0])) σ)) : Spec prog 83 #[.pointer q0, .agg #[.int .i64 DY, .int .i64 CN, .string Da, .slice Dc De Dg, .int .i64 DZ, .int .i64 Dd, .int .i64 C5, .slice Dp Dh Dq, .bool C6, .int .i64 CY], .slice p2 n2 c2] σ R := M.start h ok
end EX
namespace Ln
variable {p0 : Option Addr} {n0 c0 : Nat} {s1 : ByteArray}
def M : Fw := ⟨prog, 108, f108, [107], [], false, [], [], []⟩
theorem ok : M.Ok := ⟨.cons call107 (AG.nil), mixed, func108, by kernel_rfl⟩
theorem start (h : Df (IntKind.u64.wrap ((ByteArray.size s1 : Nat) : Int)) fun x8 => Spec prog 107 #[.slice p0 n0 c0, .int .u64 x8] σ (AA R (CS fun p9 n9 c9 y => AJ prog (Builtin.append_ #[90, 9] 90 #[.slice p9 n9 c9, .string s1]) y (CS fun LD n11 LF AF => R (.returned (.slice LD n11 LF)) AF)))) : Spec prog 108 #[.slice p0 n0 c0, .string s1] σ R := M.start h ok
end Ln
namespace By
variable {s0 s1 : ByteArray}
def M : Fw := ⟨prog, 119, f119, [], [], false, [], [], []⟩
theorem ok : M.Ok := ⟨AG.nil, mixed, func119, by kernel_rfl⟩
theorem start (h : EN prog 168 #[.string s0, .string s1] σ (CI .i64 fun x7 y => R (.returned (.int .i64 x7)) y)) : Spec prog 119 #[.string s0, .string s1] σ R := M.start h ok
end By
namespace O2
variable {E1 EW Pe Mz Hh JC DY CN DZ Dd C5 CY : Int} {Pf Da : ByteArray} {T5 Q1 Dc Dp : Option Addr} {TJ T6 QB Q2 De Dg Dh Dq : Nat} {MN C6 : Bool}
def M : Fw := ⟨prog, 120, f120, [], [2, 3], false, [], [], []⟩
theorem ok : M.Ok := ⟨AG.nil, mixed, func120, by kernel_rfl⟩
theorem start (h : ∀ b2 : Nat, ∀ b3 : Nat, Br (E1 = DY) (Br (EW = CN) (Bo (ByteArray.toList Pf == ByteArray.toList Da) (Br (Pe = DZ) (Br (Mz = Dd) (Br (Hh = C5) (Bo MN (Bo C6 (R (.returned (.bool (decide (JC = CY)))) σ) (R (.returned (.bool false)) σ)) (Bo C6 (R (.returned (.bool false)) σ) (R (.returned (.bool (decide (JC = CY)))) σ))) (R (.returned (.bool false)) σ)) (R (.returned (.bool false)) σ)) (R (.returned (.bool false)) σ)) (R (.returned (.bool false)) σ)) (R (.returned (.bool false)) σ)) (R (.returned (.bool false)) σ)) : Spec prog 120 #[.agg #[.int .i64 E1, .int .i64 EW, .string Pf, .slice T5 TJ T6, .int .i64 Pe, .int .i64 Mz, .int .i64 Hh, .slice Q1 QB Q2, .bool MN, .int .i64 JC], .agg #[.int .i64 DY, .int .i64 CN, .string Da, .slice Dc De Dg, .int .i64 DZ, .int .i64 Dd, .int .i64 C5, .slice Dp Dh Dq, .bool C6, .int .i64 CY]] σ R := M.start h ok
end O2
namespace Q3
variable {x0 : Int}
def M : Fw := ⟨prog, 125, f125, [], [], false, [], [], []⟩
theorem ok : M.Ok := ⟨AG.nil, mixed, func125, by kernel_rfl⟩
theorem start (h : Br (1 ≤ x0) (R (.returned (.bool (decide (x0 ≤ 4)))) σ) (R (.returned (.bool false)) σ)) : Spec prog 125 #[.int .i64 x0] σ R := M.start h ok
end Q3
namespace T7
def M : Fw := ⟨prog, 134, f134, [], [], false, [], [], []⟩
theorem ok : M.Ok := ⟨AG.nil, mixed, func134, by kernel_rfl⟩
theorem start (h : Al σ fun b1 => R (.returned (.slice (aD b1 0) 14 14)) (Hp.set σ b1 (.cells #[(.string (ByteArray.mk #[])), (.string (ByteArray.mk #[43])), (.string (ByteArray.mk #[45])), (.string (ByteArray.mk #[42])), (.string (ByteArray.mk #[47])), (.string (ByteArray.mk #[61, 61])), (.string (ByteArray.mk #[33, 61])), (.string (ByteArray.mk #[60])), (.string (ByteArray.mk #[60, 61])), (.string (ByteArray.mk #[62])), (.string (ByteArray.mk #[62, 61])), (.string (ByteArray.mk #[97, 110, 100])), (.string (ByteArray.mk #[111, 114])), (.string (ByteArray.mk #[117, 110, 108, 101, 115, 115]))] 9 (0, 0)))) : Spec prog 134 #[] σ R := M.start h ok
end T7
namespace Ae
variable {q0 q1 : Option Addr} {s2a s2b wk wm : ByteArray} {x3a x3b x11 : Int} {b7 : Nat}
def M : Fw := ⟨prog, 137, f137, [135, 136, 170], [6], false, [(6, 12, false)], [], [(56, [(0, wQ), (1, wQ), (7, wA), (10, .G [.T, .T]), (11, wI)])]⟩
theorem ok : M.Ok := ⟨.cons call135 (.cons call136 (.cons call170 (AG.nil))), mixed, func137, by kernel_rfl⟩
def oB := M.pt 0
theorem start (h : ∀ b6 : Nat, Al σ fun b7 => oB R q0 q1 b7 s2a s2b 0 (Hp.set σ b7 (.cells #[.int .i64 x3a, .int .i64 x3b] 182 (0, 0)))) : Spec prog 137 #[.pointer q0, .pointer q1, .agg #[.string s2a, .string s2b], .agg #[.int .i64 x3a, .int .i64 x3b]] σ R := M.start h ok
theorem Q4 (h : Br (x11 < 2) (In x11 2 ∧ ∃ s14 : ByteArray, [wk, wm][Int.toNat x11]? = some s14 ∧ Spec prog 136 #[.pointer q0, .int .i64 3, .string s14] σ (AA R (CB fun t17 y => Bo t17 (Spec prog 135 #[.pointer q0] y (AA R (fun z AF => ∃ Ji OI U5 wo, z = (.agg #[.int .i64 Ji, .int .i64 OI, .string U5, .int .i64 wo]) ∧ In x11 2 ∧ LI .i64 AF b7 (0 + Int.toNat x11 * 1) fun JA => Spec prog 170 #[.pointer q0] AF (AA R (CS fun p26 n26 c26 AH => Kp [b7] AF AH ∧ Pq q1 fun Wy pX => AJ prog (Instr.storeAt 3 (.pointer (aD Wy (pX + 6))) (.int .i64 JA)) AH (fun _ AZ => AJ prog (Instr.storeAt 34 (.pointer (aD Wy (pX + 7))) (.slice p26 n26 c26)) AZ (fun _ D4 => R (.returned (.tuple #[])) D4))))))) (AN (x11 + 1) ∧ oB R q0 q1 b7 wk wm (x11 + 1) y)))) (R (.returned (.tuple #[])) σ)) : oB R q0 q1 b7 wk wm x11 σ := M.of h ok rfl
end Ae
namespace Gi
variable {p0 : Option Addr} {n0 c0 : Nat}
def M : Fw := ⟨prog, 155, f155, [143], [], false, [], [], []⟩
theorem ok : M.Ok := ⟨.cons call143 (AG.nil), mixed, func155, by kernel_rfl⟩
theorem start (h : Spec prog 143 #[(.int .i64 (n0 : Int))] σ (AA R (CI .u64 fun x5 y => R (.returned (.int .u64 x5)) y))) : Spec prog 155 #[.slice p0 n0 c0] σ R := M.start h ok
end Gi
namespace An
variable {q0 Dc Dp p2 p3 Ib Ij Ew E2 JD sn : Option Addr} {DY CN DZ Dd C5 CY IZ G1 Ig Ih Ii Im D3 ED W2 cp : Int} {Da Ia : ByteArray} {De Dg Dh Dq n2 c2 n3 c3 Ic Ie Ik Il Ex Ey E3 E4 n14 HG n41 iH : Nat} {C6 Jh : Bool} {m12 : Option Nat}
def M : Fw := ⟨prog, 161, f161, [49, 124, 148, 156, 206, 207], [5, 8, 16, 18], false, [], [], [(2024, [(5, .X 36 [.I .i64, .I .i64, .T, .L, .I .i64, .I .i64, .I .i64, .L, .B, .I .i64]), (8, .X 93 [.I .i64, .I .u64, .L, .L]), (12, wM), (14, wL), (41, wL), (42, wI), (43, wI)]), (8103, [(5, .X 36 [.I .i64, .I .i64, .T, .L, .I .i64, .I .i64, .I .i64, .L, .B, .I .i64]), (8, .X 93 [.I .i64, .I .u64, .L, .L]), (12, wM), (14, wL), (41, wL), (42, wI), (43, wI)])]⟩
theorem ok : M.Ok := ⟨.cons call49 (.cons call124 (.cons call148 (.cons call156 (.cons call206 (.cons call207 (AG.nil)))))), mixed, func161, by kernel_rfl⟩
def U6 := M.pt 0
def M0 := M.pt 1
theorem start (h : ∀ b5 : Nat, ∀ b8 : Nat, Spec prog 206 #[.agg #[.int .i64 DY, .int .i64 CN, .string Da, .slice Dc De Dg, .int .i64 DZ, .int .i64 Dd, .int .i64 C5, .slice Dp Dh Dq, .bool C6, .int .i64 CY], .slice p2 n2 c2] σ (AA R (fun z y => ∃ AI0 jj, z = (.tuple #[.map AI0, .bool jj]) ∧ Spec prog 206 #[.agg #[.int .i64 DY, .int .i64 CN, .string Da, .slice Dc De Dg, .int .i64 DZ, .int .i64 Dd, .int .i64 C5, .slice Dp Dh Dq, .bool C6, .int .i64 CY], .slice p3 n3 c3] y (AA R (fun z AF => ∃ ACH ACI, z = (.tuple #[.map ACH, .bool ACI]) ∧ Bn jj (R (.returned (.tuple #[.agg #[.int .i64 0, .int .u64 0, .slice none 0 0, .slice none 0 0], .int .i64 223])) AF) (Bn ACI (R (.returned (.tuple #[.agg #[.int .i64 0, .int .u64 0, .slice none 0 0, .slice none 0 0], .int .i64 223])) AF) (U6 R DY CN Da Dc De Dg DZ Dd C5 Dp Dh Dq C6 CY 0 0 none 0 0 none 0 0 ACH none 0 0 p2 n2 c2 (n2 : Int) 0 AF))))))) : Spec prog 161 #[.pointer q0, .agg #[.int .i64 DY, .int .i64 CN, .string Da, .slice Dc De Dg, .int .i64 DZ, .int .i64 Dd, .int .i64 C5, .slice Dp Dh Dq, .bool C6, .int .i64 CY], .slice p2 n2 c2, .slice p3 n3 c3] σ R := M.start h ok
theorem QC (h : Br (cp < W2) (Pq sn fun iF iG => In cp (n41 : Int) ∧ ∃ wq wu wv wx, Aq σ iF (iG + Int.toNat cp * 2) [.slice wq wu wv, .int .u64 wx] ∧ ∀ Lm : Nat, Spec prog 207 #[.agg #[.int .i64 IZ, .int .i64 G1, .string Ia, .slice Ib Ic Ie, .int .i64 Ig, .int .i64 Ih, .int .i64 Ii, .slice Ij Ik Il, .bool Jh, .int .i64 Im], .slice wq wu wv] σ (AA R (CS fun Z9 n50 aA y => Spec prog 49 #[.slice Z9 n50 aA] y (AA R (CT fun s54 AF => AJ prog (Instr.lookup 243 (.map m12) (.string s54) true) AF (fun z AH => ∃ ACJ ACK ACL so ACN, z = (.tuple #[.agg #[.slice ACJ ACK ACL, .int .u64 so], .bool ACN]) ∧ ∀ T8 : Nat, Bn ACN (M0 R IZ G1 Ia Ib Ic Ie Ig Ih Ii Ij Ik Il Jh Im D3 ED Ew Ex Ey E2 E3 E4 m12 JD n14 HG (aD iF iG) n41 iH W2 cp AH) (Spec prog 156 #[.agg #[.int .i64 IZ, .int .i64 G1, .string Ia, .slice Ib Ic Ie, .int .i64 Ig, .int .i64 Ih, .int .i64 Ii, .slice Ij Ik Il, .bool Jh, .int .i64 Im], .int .u64 wx, .int .u64 so] AH (AA R (fun z AZ => ∃ wy ACO, z = (.tuple #[.int .u64 wy, .bool ACO]) ∧ Spec prog 124 #[.int .i64 G1] AZ (AA R (CB fun t72 D4 => Bn t72 (Al D4 fun sq => AJ prog (Builtin.append_ #[67, 67] 67 #[.slice JD n14 HG, (.slice (aD sq 0) 1 1)]) (Hp.set D4 sq (.cells #[.slice Z9 n50 aA, .int .u64 wy] 71 (0, 0))) (CS fun pM Ww pN CR => M0 R IZ G1 Ia Ib Ic Ie Ig Ih Ii Ij Ik Il Jh Im D3 ED Ew Ex Ey E2 E3 E4 m12 pM Ww pN (aD iF iG) n41 iH W2 cp CR)) (Bo Jh (Al D4 fun sq => AJ prog (Builtin.append_ #[67, 67] 67 #[.slice JD n14 HG, (.slice (aD sq 0) 1 1)]) (Hp.set D4 sq (.cells #[.slice Z9 n50 aA, .int .u64 wy] 71 (0, 0))) (CS fun pM Ww pN CR => M0 R IZ G1 Ia Ib Ic Ie Ig Ih Ii Ij Ik Il true Im D3 ED Ew Ex Ey E2 E3 E4 m12 pM Ww pN (aD iF iG) n41 iH W2 cp CR)) (Bo ACO (Al D4 fun b88 => AJ prog (Builtin.append_ #[67, 67] 67 #[.slice JD n14 HG, (.slice (aD b88 0) 1 1)]) (Hp.set D4 b88 (.cells #[.slice wq wu wv, .int .u64 wx] 71 (0, 0))) (CS fun p89 n89 c89 CR => M0 R IZ G1 Ia Ib Ic Ie Ig Ih Ii Ij Ik Il false Im D3 ED Ew Ex Ey E2 E3 E4 m12 p89 n89 c89 (aD iF iG) n41 iH W2 cp CR)) (M0 R IZ G1 Ia Ib Ic Ie Ig Ih Ii Ij Ik Il false Im D3 ED Ew Ex Ey E2 E3 E4 m12 JD n14 HG (aD iF iG) n41 iH W2 cp D4)))))))))))))) (Spec prog 148 #[.slice JD n14 HG] σ (AA R (fun z y => ∃ sr su sv tA tB tC tD tE ACP, z = (.tuple #[.agg #[.int .i64 sr, .int .u64 su, .slice sv tA tB, .slice tC tD tE], .int .i64 ACP]) ∧ R (.returned (.tuple #[.agg #[.int .i64 sr, .int .u64 su, .slice sv tA tB, .slice tC tD tE], .int .i64 ACP])) y)))) : U6 R IZ G1 Ia Ib Ic Ie Ig Ih Ii Ij Ik Il Jh Im D3 ED Ew Ex Ey E2 E3 E4 m12 JD n14 HG sn n41 iH W2 cp σ := M.ey h ok rfl fun _ _ => by kernel_rfl
theorem U7 (h : AN (cp + 1) ∧ U6 R IZ G1 Ia Ib Ic Ie Ig Ih Ii Ij Ik Il Jh Im D3 ED Ew Ex Ey E2 E3 E4 m12 JD n14 HG sn n41 iH W2 (cp + 1) σ) : M0 R IZ G1 Ia Ib Ic Ie Ig Ih Ii Ij Ik Il Jh Im D3 ED Ew Ex Ey E2 E3 E4 m12 JD n14 HG sn n41 iH W2 cp σ := M.ey h ok rfl fun _ _ => by kernel_rfl
end An
namespace W3
variable {v0 : Value}
def M : Fw := ⟨prog, 181, f181, [], [], false, [], [], []⟩
theorem ok : M.Ok := ⟨AG.nil, mixed, func181, by kernel_rfl⟩
theorem start (h : EN prog 45 #[v0] σ (CI .u64 fun x4 y => Df (Go.bits .andNot .u64 x4 9223372036854775808) fun x5 => EN prog 22 #[.int .u64 x5] y (fun z AF => ∃ x6, (Value.float .f64 x6) = z ∧ R (.returned (Value.float .f64 x6)) AF))) : Spec prog 181 #[v0] σ R := M.D2 h ok [(0, .o (.V v0))] rfl rfl (by kernel_rfl)
end W3
namespace CF
variable {f0 : Fn} {a0 c0 : Array Value}
def M : Fw := ⟨prog, 184, f184, [], [], false, [], [], []⟩
theorem ok : M.Ok := ⟨AG.nil, mixed, func184, by kernel_rfl⟩
theorem start (h : Al σ fun b1 => R (.returned (.func (.func 224) #[] #[(.pointer (aD b1 0))])) (Hp.set σ b1 (.cells #[(Value.func f0 a0 c0)] 201 (0, 0)))) : Spec prog 184 #[(Value.func f0 a0 c0)] σ R := M.D2 h ok [(0, .o (.V (Value.func f0 a0 c0)))] rfl rfl (by kernel_rfl)
end CF
namespace BN
variable {p0 : Option Addr} {n0 c0 : Nat} {x3 : Int}
def M : Fw := ⟨prog, 187, f187, [225], [], false, [], [], [(224, [(0, wL), (3, wI)])]⟩
theorem ok : M.Ok := ⟨.cons call225 (AG.nil), mixed, func187, by kernel_rfl⟩
def Hi := M.pt 0
theorem start (h : Hi R p0 n0 c0 8 σ) : Spec prog 187 #[.slice p0 n0 c0] σ R := M.start h ok
theorem BD (h : Br ((n0 : Int) < x3) (2 ≠ (0 : Int) ∧ Df (IntKind.i64.wrap (Int.tdiv x3 2)) fun x11 => Hi R p0 n0 c0 x11 σ) (AN ((n0 : Int) - x3) ∧ ((0 : Int) ≤ ((n0 : Int) - x3) ∧ ((n0 : Int) - x3) ≤ (n0 : Int)) ∧ Spec prog 225 #[(.slice (IK p0 (Int.toNat ((n0 : Int) - x3)) c0 1) (n0 - Int.toNat ((n0 : Int) - x3)) (c0 - Int.toNat ((n0 : Int) - x3)))] σ (AA R (fun z y => ∃ Ji OI, z = (.tuple #[.int .u64 Ji, .int .i64 OI]) ∧ R (.returned (.int .u64 Ji)) y)))) : Hi R p0 n0 c0 x3 σ := M.of h ok rfl
end BN
namespace Q5
variable {v0 : Value}
def M : Fw := ⟨prog, 216, f216, [], [], false, [], [], []⟩
theorem ok : M.Ok := ⟨AG.nil, mixed, func216, by kernel_rfl⟩
theorem start (h : ∃ t5, YF prog ((do eqGuard .neq 51 (.tmp 3) (.tmp 4) v0 v0; binOp .neq 51 v0 v0)) σ (.bool t5) ∧ R (.returned (.bool t5)) σ) : Spec prog 216 #[v0] σ R := M.D2 h ok [(0, .o (.V v0))] rfl rfl (by kernel_rfl)
end Q5
namespace Io
variable {p0 Dc Dp p2 : Option Addr} {n0 c0 De Dg Dh Dq n2 c2 b3 : Nat} {DY CN DZ Dd C5 CY : Int} {Da : ByteArray} {C6 : Bool}
def M : Fw := ⟨prog, 226, f226, [], [5], false, [], [], []⟩
theorem ok : M.Ok := ⟨AG.nil, mixed, func226, by kernel_rfl⟩
theorem start (h : ∀ b5 : Nat, Br ((n0 : Int) < 2) (R (.returned (.tuple #[.int .u64 0, .bool false])) σ) (∃ v12, Hp.ld σ ⟨b3, 0, none⟩ = some v12 ∧ ∃ (f15 : Nat) (tF tG : Array Value), v12 = .func (.func f15) tF tG ∧ Enters prog f15 ∧ Spec prog f15 (tF ++ #[.slice p0 n0 c0, .slice p2 n2 c2] ++ tG) σ (AA R (CI .u64 fun x15 y => R (.returned (.tuple #[.int .u64 x15, .bool true])) y)))) : Spec prog 226 #[.slice p0 n0 c0, .agg #[.int .i64 DY, .int .i64 CN, .string Da, .slice Dc De Dg, .int .i64 DZ, .int .i64 Dd, .int .i64 C5, .slice Dp Dh Dq, .bool C6, .int .i64 CY], .slice p2 n2 c2, (.pointer (aD b3 0))] σ R := M.start h ok
end Io
namespace C7
variable {TL oC : Option Addr} {Lo Q6 jl oD : Nat} {s1 : ByteArray} {x65 tH : Int}
def M : Fw := ⟨prog, 257, f257, [260, 285, 286], [2], false, [(1, 14, true)], [], [(2024, [(1, wT), (64, wL), (65, wI), (66, wI)])]⟩
theorem ok : M.Ok := ⟨.cons call260 (.cons call285 (.cons call286 (AG.nil))), mixed, func257, by kernel_rfl⟩
def La := M.pt 0
theorem start (h : ∀ b2 : Nat, Pq TL fun O0 Pd => In 0 (Lo : Int) ∧ LT σ O0 Pd fun wz => AN ((Lo : Int) - 1) ∧ In (((Lo : Int) - 1)) (Lo : Int) ∧ LT σ O0 (Pd + Int.toNat ((Lo : Int) - 1) * 1) fun w6 => Br ((Lo : Int) = 1) (R (.returned (.bool (ByteArray.toList s1 == ByteArray.toList wz))) σ) (AN (((ByteArray.size wz : Nat) : Int) + ((ByteArray.size w6 : Nat) : Int)) ∧ Br ((((ByteArray.size s1 : Nat) : Int) : Int) < (((ByteArray.size wz : Nat) : Int) + ((ByteArray.size w6 : Nat) : Int))) (R (.returned (.bool false)) σ) (Spec prog 285 #[.string s1, .string wz] σ (AA R (CB fun t40 y => Bn t40 (R (.returned (.bool false)) y) (Spec prog 286 #[.string s1, .string w6] y (AA R (CB fun t46 AF => Bn t46 (R (.returned (.bool false)) AF) (AN (((ByteArray.size s1 : Nat) : Int) - ((ByteArray.size w6 : Nat) : Int)) ∧ ∃ s57, YF prog (Instr.sliceAt 9 (.string s1) (some (.int .i64 ((ByteArray.size wz : Nat) : Int))) (some (.int .i64 (((ByteArray.size s1 : Nat) : Int) - ((ByteArray.size w6 : Nat) : Int)))) none) AF (.string s57) ∧ AN ((Lo : Int) - 1) ∧ ((0 : Int) ≤ 1 ∧ 1 ≤ ((Lo : Int) - 1) ∧ ((Lo : Int) - 1) ≤ (Q6 : Int)) ∧ La R s57 ((IK (aD O0 Pd) (1) Q6 1)) ((Int.toNat ((Lo : Int) - 1) - 1)) (Q6 - 1) ((((Int.toNat ((Lo : Int) - 1) - 1) : Nat) : Int)) 0 AF))))))))) : Spec prog 257 #[.agg #[.slice TL Lo Q6], .string s1] σ R := M.start h ok
theorem Ip (h : Br (tH < x65) (Pq oC fun b68 o68 => In tH (jl : Int) ∧ LT σ b68 (o68 + Int.toNat tH * 1) fun s69 => Spec prog 260 #[.string s1, .string s69] σ (AA R (CI .i64 fun x72 y => Br (x72 < 0) (R (.returned (.bool false)) y) (AN (x72 + ((ByteArray.size s69 : Nat) : Int)) ∧ ∃ s80, YF prog (Instr.sliceAt 9 (.string s1) (some (.int .i64 (x72 + ((ByteArray.size s69 : Nat) : Int)))) none none) y (.string s80) ∧ AN (tH + 1) ∧ La R s80 (aD b68 o68) jl oD x65 (tH + 1) y)))) (R (.returned (.bool true)) σ)) : La R s1 oC jl oD x65 tH σ := M.of h ok rfl
end C7
namespace EY
variable {q0 : Option Addr}
def M : Fw := ⟨prog, 298, f298, [66, 67, 135], [], false, [], [], [(14, [(0, wQ)])]⟩
theorem ok : M.Ok := ⟨.cons call66 (.cons call67 (.cons call135 (AG.nil))), mixed, func298, by kernel_rfl⟩
def Hi := M.pt 0
theorem start (h : Spec prog 66 #[.pointer q0] σ (AA R (fun z y => ∃ Fu Fa HH x4d, z = (.agg #[.int .i64 Fu, .int .i64 Fa, .string HH, .int .i64 x4d]) ∧ Br (Fu ≠ 2) (Spec prog 67 #[.pointer q0] y (AA R (fun z AF => z = (.tuple #[]) ∧ Hi R q0 AF))) (Hi R q0 y)))) : Spec prog 298 #[.pointer q0] σ R := M.start h ok
theorem BD (h : Spec prog 135 #[.pointer q0] σ (AA R (fun z y => ∃ IY w7 AI7 ACR, z = (.agg #[.int .i64 IY, .int .i64 w7, .string AI7, .int .i64 ACR]) ∧ R (.returned (.int .i64 ACR)) y))) : Hi R q0 σ := M.of h ok rfl
end EY
end TwW
end
end
section
set_option maxRecDepth 100000
noncomputable section
namespace TwW
open Go Tw Go.Proofs.Tryz
variable [Ev] {R : Rr} {σ : Hp}

namespace Fb
variable {s0 : ByteArray} {x3 : Int}
def M : Fw := ⟨prog, 19, f19, [42], [], false, [], [], [(208, [(0, wT), (3, wI)])]⟩
theorem ok : M.Ok := ⟨.cons call42 (AG.nil), mixed, func19, by kernel_rfl⟩
def Hi := M.pt 0
theorem start (h : Hi R s0 0 σ) : Spec prog 19 #[.string s0] σ R := M.start h ok
theorem BD (h : Br (x3 < ((ByteArray.size s0 : Nat) : Int)) (∃ tI : UInt8, 0 ≤ x3 ∧ (ByteArray.data s0)[Int.toNat x3]? = some tI ∧ Br ((((UInt8.toNat tI : Nat) : Int) : Int) < 97) (R (.returned (.bool false)) σ) (∃ u17 : UInt8, 0 ≤ x3 ∧ (ByteArray.data s0)[Int.toNat x3]? = some u17 ∧ Br ((122 : Int) < ((UInt8.toNat u17 : Nat) : Int)) (R (.returned (.bool false)) σ) (AN (x3 + 1) ∧ Hi R s0 (x3 + 1) σ))) (Bn ((ByteArray.toList s0 == ByteArray.toList (ByteArray.mk #[]))) (Br ((((ByteArray.size s0 : Nat) : Int) : Int) < 60) (Spec prog 42 #[.string s0] σ (AA R (CB fun t29 y => R (.returned (.bool (!t29))) y))) (R (.returned (.bool false)) σ)) (R (.returned (.bool false)) σ))) : Hi R s0 x3 σ := M.of h ok rfl
end Fb
namespace Fc
variable {p0 p1 Ew E2 : Option Addr} {n0 c0 n1 c1 Ex Ey E3 E4 : Nat} {x2 D3 ED x9 : Int}
def M : Fw := ⟨prog, 30, f30, [47], [8], false, [], [], [(30, [(8, .X 93 [.I .i64, .I .u64, .L, .L]), (9, wI)])]⟩
theorem ok : M.Ok := ⟨.cons call47 (AG.nil), mixed, func30, by kernel_rfl⟩
def CL := M.pt 0
theorem start (h : Al σ fun BP => Spec prog 47 #[(.pointer (aD BP 0)), .slice p0 n0 c0] (Hp.set σ BP (.cells #[.slice p1 n1 c1, .int .i64 x2] 97 (0, 0))) (AA R (fun z y => ∃ ct cu tJ tK tL jm jn jo w9, z = (.tuple #[.agg #[.int .i64 ct, .int .u64 cu, .slice tJ tK tL, .slice jm jn jo], .int .i64 w9]) ∧ ∀ b8 : Nat, Br (ct = 1) (Al y fun LA => CL R ct cu (aD LA 0) 1 1 jm jn jo w9 (Hp.set y LA (.cells #[.slice none 0 0, .int .u64 cu] 71 (0, 0)))) (CL R ct cu tJ tK tL jm jn jo w9 y)))) : Spec prog 30 #[.slice p0 n0 c0, .slice p1 n1 c1, .int .i64 x2] σ R := M.start h ok
theorem BF (h : R (.returned (.tuple #[.slice Ew Ex Ey, .int .i64 x9])) σ) : CL R D3 ED Ew Ex Ey E2 E3 E4 x9 σ := M.iB h ok rfl fun _ => by kernel_rfl
end Fc
namespace M1
variable {x0 x1 x2 : Int}
def M : Fw := ⟨prog, 48, f48, [], [], false, [], [], []⟩
theorem ok : M.Ok := ⟨AG.nil, mixed, func48, by kernel_rfl⟩
theorem start (h : Al σ fun b3 => Al (Hp.set σ b3 (.cells #[.int .i64 x0] 2 (0, 0))) fun b4 => Al (Hp.set (Hp.set σ b3 (.cells #[.int .i64 x0] 2 (0, 0))) b4 (.cells #[.int .i64 x1] 2 (0, 0))) fun b5 => R (.returned (.func (.func 71) #[] #[(.pointer (aD b3 0)), (.pointer (aD b5 0)), (.pointer (aD b4 0))])) (Hp.set (Hp.set (Hp.set σ b3 (.cells #[.int .i64 x0] 2 (0, 0))) b4 (.cells #[.int .i64 x1] 2 (0, 0))) b5 (.cells #[.int .i64 x2] 2 (0, 0)))) : Spec prog 48 #[.int .i64 x0, .int .i64 x1, .int .i64 x2] σ R := M.start h ok
end M1
namespace JE
variable {q0 Dc Dp : Option Addr} {DY CN DZ Dd C5 CY : Int} {Da : ByteArray} {De Dg Dh Dq : Nat} {C6 : Bool}
def M : Fw := ⟨prog, 53, f53, [79, 80, 81], [3], false, [(6, 9, true)], [], []⟩
theorem ok : M.Ok := ⟨.cons call79 (.cons call80 (.cons call81 (AG.nil))), mixed, func53, by kernel_rfl⟩
theorem start (h : ∀ b3 : Nat, Spec prog 79 #[.agg #[.int .i64 DY, .int .i64 CN, .string Da, .slice Dc De Dg, .int .i64 DZ, .int .i64 Dd, .int .i64 C5, .slice Dp Dh Dq, .bool C6, .int .i64 CY]] σ (AA R (CB fun t10 y => Bn t10 (R (.returned (.int .i64 190)) y) (Pq q0 fun Lm U4 => LS y Lm U4 fun p18 n18 c18 => Br ((n18 : Int) < CY) (R (.returned (.int .i64 190)) y) (Spec prog 80 #[.slice Dc De Dg] y (AA R (CI .i64 fun JA AF => Br (JA ≠ 0) (R (.returned (.int .i64 193)) AF) (AJ prog (Instr.makeMap 150 none) AF (fun z AH => ∃ pa, z = (.map (some pa)) ∧ Spec prog 81 #[.int .i64 1] AH (AA R (fun z AZ => ∃ f27 a27 c27, (Value.func f27 a27 c27) = z ∧ AJ prog (Instr.mapUpdate 150 (.map (some pa)) (.int .i64 1) (Value.func f27 a27 c27)) AZ (fun _ D4 => Spec prog 81 #[.int .i64 2] D4 (AA R (fun z CR => ∃ f28 a28 c28, (Value.func f28 a28 c28) = z ∧ AJ prog (Instr.mapUpdate 150 (.map (some pa)) (.int .i64 2) (Value.func f28 a28 c28)) CR (fun _ EM => Spec prog 81 #[.int .i64 3] EM (AA R (fun z Lc => ∃ f29 a29 c29, (Value.func f29 a29 c29) = z ∧ AJ prog (Instr.mapUpdate 150 (.map (some pa)) (.int .i64 3) (Value.func f29 a29 c29)) Lc (fun _ Q7 => AJ prog (Instr.mapUpdate 150 (.map (some pa)) (.int .i64 4) (.func (.func 82) #[(.pointer (aD Lm U4))] #[])) Q7 (fun _ Hb => AJ prog (Instr.mapUpdate 150 (.map (some pa)) (.int .i64 5) (.func (.func 83) #[(.pointer (aD Lm U4))] #[])) Hb (fun _ aB => AJ prog (Instr.mapUpdate 150 (.map (some pa)) (.int .i64 6) (.func (.func 84) #[(.pointer (aD Lm U4))] #[])) aB (fun _ AI8 => AJ prog (Instr.mapUpdate 150 (.map (some pa)) (.int .i64 7) (.func (.func 85) #[(.pointer (aD Lm U4))] #[])) AI8 (fun _ pc => LS pc Lm U4 fun p42 n42 c42 => AN ((n42 : Int) - CY) ∧ LS pc Lm U4 fun p56 n56 c56 => ((0 : Int) ≤ ((n42 : Int) - CY) ∧ ((n42 : Int) - CY) ≤ (n56 : Int)) ∧ AJ prog (Instr.lookup 150 (.map (some pa)) (.int .i64 DY) false) pc (fun z ACT => ∃ v51, v51 = z ∧ Kp [Lm] pc ACT ∧ ∃ (f59 : Nat) (tM tN : Array Value), v51 = .func (.func f59) tM tN ∧ Enters prog f59 ∧ Spec prog f59 (tM ++ #[.agg #[.int .i64 DY, .int .i64 CN, .string Da, .slice Dc De Dg, .int .i64 DZ, .int .i64 Dd, .int .i64 C5, .slice Dp Dh Dq, .bool C6, .int .i64 CY], (.slice (IK p56 (Int.toNat ((n42 : Int) - CY)) c56 1) (n56 - Int.toNat ((n42 : Int) - CY)) (c56 - Int.toNat ((n42 : Int) - CY)))] ++ tN) ACT (AA R (fun z aC => ∃ U8 Hc, z = (.tuple #[.int .i64 U8, .int .i64 Hc]) ∧ LS aC Lm U4 fun oE jq cw => ((0 : Int) ≤ ((n42 : Int) - CY) ∧ ((n42 : Int) - CY) ≤ (cw : Int)) ∧ Al aC fun U2 => AJ prog (Builtin.append_ #[108, 108] 108 #[(.slice oE (Int.toNat ((n42 : Int) - CY)) cw), (.slice (aD U2 0) 1 1)]) (Hp.set aC U2 (.cells #[.int .i64 U8] 113 (0, 0))) (CS fun p72 n72 c72 xA => AJ prog (Instr.storeAt 108 (.pointer (aD Lm U4)) (.slice p72 n72 c72)) xA (fun _ xB => R (.returned (.int .i64 Hc)) xB))))))))))))))))))))))))))) : Spec prog 53 #[.pointer q0, .agg #[.int .i64 DY, .int .i64 CN, .string Da, .slice Dc De Dg, .int .i64 DZ, .int .i64 Dd, .int .i64 C5, .slice Dp Dh Dq, .bool C6, .int .i64 CY]] σ R := M.start h ok
end JE
namespace Dr
variable {p0 : Option Addr} {n0 c0 : Nat} {x3 : Int}
def M : Fw := ⟨prog, 69, f69, [], [], false, [(4, 12, true)], [], [(208, [(0, wL), (3, wI)])]⟩
theorem ok : M.Ok := ⟨AG.nil, mixed, func69, by kernel_rfl⟩
def Hi := M.pt 0
theorem start (h : Hi R p0 n0 c0 1 σ) : Spec prog 69 #[.slice p0 n0 c0] σ R := M.start h ok
theorem BD (h : Br (x3 < (n0 : Int)) (Pq p0 fun O0 Pd => In x3 (n0 : Int) ∧ LI .i64 σ O0 (Pd + Int.toNat x3 * 2) fun Y6 => AN (x3 - 1) ∧ In (x3 - 1) (n0 : Int) ∧ LI .i64 σ O0 (Pd + Int.toNat (x3 - 1) * 2) fun Ha => Br (Y6 ≤ Ha) (R (.returned (.bool false)) σ) (AN (x3 + 1) ∧ Hi R (aD O0 Pd) n0 c0 (x3 + 1) σ)) (R (.returned (.bool (decide (0 < (n0 : Int))))) σ)) : Hi R p0 n0 c0 x3 σ := M.of h ok rfl
end Dr
namespace HI
variable {s0 : ByteArray} {x1 : Int}
def M : Fw := ⟨prog, 130, f130, [169], [], false, [], [], []⟩
theorem ok : M.Ok := ⟨.cons call169 (AG.nil), mixed, func130, by kernel_rfl⟩
theorem start (h : Spec prog 169 #[.string s0, .int .u8 x1] σ (AA R (CI .i64 fun x7 y => R (.returned (.int .i64 x7)) y))) : Spec prog 130 #[.string s0, .int .u8 x1] σ R := M.start h ok
end HI
namespace M3
variable {s0 : ByteArray}
def M : Fw := ⟨prog, 132, f132, [], [], false, [], [], []⟩
theorem ok : M.Ok := ⟨AG.nil, mixed, func132, by kernel_rfl⟩
theorem start (h : Br ((1 : Int) < ((ByteArray.size s0 : Nat) : Int)) (∃ u8 : UInt8, (0 : Int) ≤ 0 ∧ (ByteArray.data s0)[Int.toNat 0]? = some u8 ∧ R (.returned (.bool (decide ((((UInt8.toNat u8 : Nat) : Int) : Int) = 48)))) σ) (R (.returned (.bool false)) σ)) : Spec prog 132 #[.string s0] σ R := M.start h ok
end M3
namespace O3
variable {p0 : Option Addr} {n0 c0 : Nat} {x1 x2 : Int}
def M : Fw := ⟨prog, 141, f141, [175], [], false, [], [], []⟩
theorem ok : M.Ok := ⟨.cons call175 (AG.nil), mixed, func141, by kernel_rfl⟩
theorem start (h : Spec prog 175 #[.slice p0 n0 c0, .int .i64 x1, (.func (.func 176) #[] #[])] σ (AA R (fun z y => ∃ GH AJC, z = (.tuple #[.int .i64 GH, .bool AJC]) ∧ Spec prog 175 #[.slice p0 n0 c0, .int .i64 x2, (.func (.func 177) #[] #[])] y (AA R (fun z AF => ∃ H4 AJD, z = (.tuple #[.int .i64 H4, .bool AJD]) ∧ ((0 : Int) ≤ (if H4 < GH then H4 else GH) ∧ (if H4 < GH then H4 else GH) ≤ H4 ∧ H4 ≤ (c0 : Int)) ∧ R (.returned (.slice (IK p0 (Int.toNat (if H4 < GH then H4 else GH)) c0 2) (Int.toNat H4 - Int.toNat (if H4 < GH then H4 else GH)) (c0 - Int.toNat (if H4 < GH then H4 else GH)))) AF))))) : Spec prog 141 #[.slice p0 n0 c0, .int .i64 x1, .int .i64 x2] σ R := M.start h ok
end O3
namespace Iq
variable {x0 : Int}
def M : Fw := ⟨prog, 145, f145, [174, 182, 183], [], false, [], [], []⟩
theorem ok : M.Ok := ⟨.cons call174 (.cons call182 (.cons call183 (AG.nil))), mixed, func145, by kernel_rfl⟩
theorem start (h : Spec prog 182 #[.int .u64 x0] σ (AA R (fun z y => ∃ x4, (Value.float .f64 x4) = z ∧ Spec prog 183 #[(Value.float .f64 x4)] y (AA R (fun z AF => ∃ x5, (Value.float .f64 x5) = z ∧ Spec prog 174 #[(Value.float .f64 x5)] AF (AA R (CI .u64 fun x6 AH => R (.returned (.int .u64 x6)) AH))))))) : Spec prog 145 #[.int .u64 x0] σ R := M.start h ok
end Iq
namespace Ay
variable {q0 Dc Dp p2 Ib Ij Ew E2 Y7 cz : Option Addr} {DY CN DZ Dd C5 CY IZ G1 Ig Ih Ii Im D3 ED x16 x17 : Int} {Da Ia : ByteArray} {De Dg Dh Dq n2 c2 Ic Ie Ik Il Ex Ey E3 E4 n10 TM n15 W4 : Nat} {C6 Jh : Bool} {v3 : Value}
def M : Fw := ⟨prog, 157, f157, [124, 146, 148], [5, 8, 12], false, [], [], [(232, [(3, wV), (5, .X 36 [.I .i64, .I .i64, .T, .L, .I .i64, .I .i64, .I .i64, .L, .B, .I .i64]), (8, .X 93 [.I .i64, .I .u64, .L, .L]), (10, wL), (15, wL), (16, wI), (17, wI)]), (935, [(3, wV), (5, .X 36 [.I .i64, .I .i64, .T, .L, .I .i64, .I .i64, .I .i64, .L, .B, .I .i64]), (8, .X 93 [.I .i64, .I .u64, .L, .L]), (10, wL), (15, wL), (16, wI), (17, wI)])]⟩
theorem ok : M.Ok := ⟨.cons call124 (.cons call146 (.cons call148 (AG.nil))), mixed, func157, by kernel_rfl⟩
def A2 := M.pt 0
def G2 := M.pt 1
theorem start (h : ∀ b5 : Nat, ∀ b8 : Nat, A2 R v3 DY CN Da Dc De Dg DZ Dd C5 Dp Dh Dq C6 CY 0 0 none 0 0 none 0 0 none 0 0 p2 n2 c2 (n2 : Int) 0 σ) : Spec prog 157 #[.pointer q0, .agg #[.int .i64 DY, .int .i64 CN, .string Da, .slice Dc De Dg, .int .i64 DZ, .int .i64 Dd, .int .i64 C5, .slice Dp Dh Dq, .bool C6, .int .i64 CY], .slice p2 n2 c2, v3] σ R := M.D2 h ok [(0, .o (.Q q0)), (1, .G [.I .i64 DY, .I .i64 CN, .T Da, .L Dc De Dg, .I .i64 DZ, .I .i64 Dd, .I .i64 C5, .L Dp Dh Dq, .B C6, .I .i64 CY]), (2, .o (.L p2 n2 c2)), (3, .o (.V v3))] rfl rfl (by kernel_rfl)
theorem AY (h : Br (x17 < x16) (Pq cz fun CV V3 => In x17 (n15 : Int) ∧ ∃ pd pe pf U9, Aq σ CV (V3 + Int.toNat x17 * 2) [.slice pd pe pf, .int .u64 U9] ∧ ∀ O0 : Nat, ∃ (f25 : Nat) (tO tP : Array Value), v3 = .func (.func f25) tO tP ∧ Enters prog f25 ∧ Spec prog f25 (tO ++ #[.int .u64 U9] ++ tP) σ (AA R (fun z y => ∃ xC jj, z = (.tuple #[.int .u64 xC, .bool jj]) ∧ Spec prog 124 #[.int .i64 G1] y (AA R (CB fun t31 AF => Bn t31 (Spec prog 146 #[.slice pd pe pf] AF (AA R (CS fun xD n40 xE AH => Al AH fun cd => AJ prog (Builtin.append_ #[67, 67] 67 #[.slice Y7 n10 TM, (.slice (aD cd 0) 1 1)]) (Hp.set AH cd (.cells #[.slice xD n40 xE, .int .u64 xC] 71 (0, 0))) (CS fun xF n44 xG AZ => G2 R v3 IZ G1 Ia Ib Ic Ie Ig Ih Ii Ij Ik Il Jh Im D3 ED Ew Ex Ey E2 E3 E4 xF n44 xG (aD CV V3) n15 W4 x16 x17 AZ)))) (Bo Jh (Spec prog 146 #[.slice pd pe pf] AF (AA R (CS fun xD n40 xE AH => Al AH fun cd => AJ prog (Builtin.append_ #[67, 67] 67 #[.slice Y7 n10 TM, (.slice (aD cd 0) 1 1)]) (Hp.set AH cd (.cells #[.slice xD n40 xE, .int .u64 xC] 71 (0, 0))) (CS fun xF n44 xG AZ => G2 R v3 IZ G1 Ia Ib Ic Ie Ig Ih Ii Ij Ik Il true Im D3 ED Ew Ex Ey E2 E3 E4 xF n44 xG (aD CV V3) n15 W4 x16 x17 AZ)))) (Bo jj (Al AF fun T9 => AJ prog (Builtin.append_ #[67, 67] 67 #[.slice Y7 n10 TM, (.slice (aD T9 0) 1 1)]) (Hp.set AF T9 (.cells #[.slice pd pe pf, .int .u64 U9] 71 (0, 0))) (CS fun Z9 n50 aA AH => G2 R v3 IZ G1 Ia Ib Ic Ie Ig Ih Ii Ij Ik Il false Im D3 ED Ew Ex Ey E2 E3 E4 Z9 n50 aA (aD CV V3) n15 W4 x16 x17 AH)) (G2 R v3 IZ G1 Ia Ib Ic Ie Ig Ih Ii Ij Ik Il false Im D3 ED Ew Ex Ey E2 E3 E4 Y7 n10 TM (aD CV V3) n15 W4 x16 x17 AF)))))))) (Spec prog 148 #[.slice Y7 n10 TM] σ (AA R (fun z y => ∃ W5 W6 W7 W8 W9 XA XB XC jr, z = (.tuple #[.agg #[.int .i64 W5, .int .u64 W6, .slice W7 W8 W9, .slice XA XB XC], .int .i64 jr]) ∧ R (.returned (.tuple #[.agg #[.int .i64 W5, .int .u64 W6, .slice W7 W8 W9, .slice XA XB XC], .int .i64 jr])) y)))) : A2 R v3 IZ G1 Ia Ib Ic Ie Ig Ih Ii Ij Ik Il Jh Im D3 ED Ew Ex Ey E2 E3 E4 Y7 n10 TM cz n15 W4 x16 x17 σ := M.ey h ok rfl fun _ _ => by kernel_rfl
theorem Ir (h : AN (x17 + 1) ∧ A2 R v3 IZ G1 Ia Ib Ic Ie Ig Ih Ii Ij Ik Il Jh Im D3 ED Ew Ex Ey E2 E3 E4 Y7 n10 TM cz n15 W4 x16 (x17 + 1) σ) : G2 R v3 IZ G1 Ia Ib Ic Ie Ig Ih Ii Ij Ik Il Jh Im D3 ED Ew Ex Ey E2 E3 E4 Y7 n10 TM cz n15 W4 x16 x17 σ := M.ey h ok rfl fun _ _ => by kernel_rfl
end Ay
namespace O4
def M : Fw := ⟨prog, 178, f178, [], [], false, [], [], []⟩
theorem ok : M.Ok := ⟨AG.nil, mixed, func178, by kernel_rfl⟩
theorem start (h : Al σ fun b1 => R (.returned (.slice (aD b1 0) 5 5)) (Hp.set σ b1 (.cells #[.nilFunc, (.func (.func 217) #[] #[]), (.func (.func 218) #[] #[]), (.func (.func 219) #[] #[]), (.func (.func 220) #[] #[])] 221 (0, 0)))) : Spec prog 178 #[] σ R := M.start h ok
end O4
namespace Dt
variable {s0 : ByteArray} {p2 p3 p7 : Option Addr} {n2 c2 n3 c3 n7 c7 : Nat} {x8 x9 : Int}
def M : Fw := ⟨prog, 179, f179, [221], [2, 3], false, [(5, 8, false)], [], [(232, [(2, .X 224 [.L]), (3, .X 224 [.L]), (7, wL), (8, wI), (9, wI)])]⟩
theorem ok : M.Ok := ⟨.cons call221 (AG.nil), mixed, func179, by kernel_rfl⟩
def A2 := M.pt 0
theorem start (h : ∀ b2 : Nat, ∀ b3 : Nat, Spec prog 221 #[.string s0, (.string (ByteArray.mk #[124]))] σ (AA R (CS fun p7 n7 c7 y => A2 R none 0 0 none 0 0 p7 n7 c7 (n7 : Int) 0 y))) : Spec prog 179 #[.string s0] σ R := M.start h ok
theorem AY (h : Br (x9 < x8) (Pq p7 fun BA iI => In x9 (n7 : Int) ∧ LT σ BA (iI + Int.toNat x9 * 1) fun s12 => Spec prog 221 #[.string s12, (.string (ByteArray.mk #[42]))] σ (AA R (CS fun cb n16 Ws y => Al y fun T8 => AJ prog (Builtin.append_ #[222, 222] 222 #[.slice p3 n3 c3, (.slice (aD T8 0) 1 1)]) (Hp.set y T8 (.cells #[.slice cb n16 Ws] 257 (0, 0))) (CS fun p19 n19 c19 AF => AN (x9 + 1) ∧ A2 R p2 n2 c2 p19 n19 c19 (aD BA iI) n7 c7 x8 (x9 + 1) AF)))) (R (.returned (.agg #[.slice p3 n3 c3])) σ)) : A2 R p2 n2 c2 p3 n3 c3 p7 n7 c7 x8 x9 σ := M.ey h ok rfl fun _ _ => by kernel_rfl
end Dt
namespace O5
variable {x0 : Int}
def M : Fw := ⟨prog, 186, f186, [174, 182], [], false, [], [], []⟩
theorem ok : M.Ok := ⟨.cons call174 (.cons call182 (AG.nil)), mixed, func186, by kernel_rfl⟩
theorem start (h : Spec prog 182 #[.int .u64 x0] σ (AA R (fun z y => ∃ x4, (Value.float .f64 x4) = z ∧ Spec prog 174 #[(Value.float .f64 x4)] y (AA R (CI .u64 fun x5 AF => R (.returned (.int .u64 x5)) AF))))) : Spec prog 186 #[.int .u64 x0] σ R := M.start h ok
end O5
namespace XD
variable {x0 x1 : Int}
def M : Fw := ⟨prog, 194, f194, [203], [], false, [], [], []⟩
theorem ok : M.Ok := ⟨.cons call203 (AG.nil), mixed, func194, by kernel_rfl⟩
theorem start (h : Spec prog 203 #[.int .i64 4, .int .u64 x0, .int .u64 x1] σ (AA R (fun z y => ∃ IY Qy, z = (.tuple #[.int .u64 IY, .bool Qy]) ∧ R (.returned (.int .u64 IY)) y))) : Spec prog 194 #[.int .u64 x0, .int .u64 x1] σ R := M.start h ok
end XD
namespace Lp
variable {TL p1a : Option Addr} {Lo Q6 n1a c1a : Nat} {EW CN : Int}
def M : Fw := ⟨prog, 196, f196, [52], [2, 3], false, [], [], []⟩
theorem ok : M.Ok := ⟨.cons call52 (AG.nil), mixed, func196, by kernel_rfl⟩
theorem start (h : ∀ b2 : Nat, ∀ b3 : Nat, Spec prog 52 #[.slice TL Lo Q6, .slice p1a n1a c1a] σ (AA R (CI .i64 fun x9 y => R (.returned (.int .i64 x9)) y))) : Spec prog 196 #[.agg #[.slice TL Lo Q6, .int .u64 EW], .agg #[.slice p1a n1a c1a, .int .u64 CN]] σ R := M.start h ok
end Lp
namespace EZ
variable {p0 : Option Addr} {n0 c0 : Nat} {s1 : ByteArray}
def M : Fw := ⟨prog, 199, f199, [228], [], false, [], [], []⟩
theorem ok : M.Ok := ⟨.cons call228 (AG.nil), mixed, func199, by kernel_rfl⟩
theorem start (h : Spec prog 228 #[.slice p0 n0 c0, .string s1] σ (AA R (CI .i64 fun x7 y => R (.returned (.bool (decide (0 ≤ x7)))) y))) : Spec prog 199 #[.slice p0 n0 c0, .string s1] σ R := M.start h ok
end EZ
namespace FG
variable {x0 x5 x15 x16 : Int} {p1 JD : Option Addr} {n1 c1 n14 HG : Nat}
def M : Fw := ⟨prog, 202, f202, [186, 204, 229], [], false, [], [], [(232, [(0, wI), (5, wU), (14, wL), (15, wI), (16, wI)]), (935, [(0, wI), (5, wU), (14, wL), (15, wI), (16, wI)])]⟩
theorem ok : M.Ok := ⟨.cons call186 (.cons call204 (.cons call229 (AG.nil))), mixed, func202, by kernel_rfl⟩
def A2 := M.pt 0
def js := M.pt 1
theorem start (h : Pq p1 fun BA iI => In 0 (n1 : Int) ∧ LI .u64 σ BA iI fun x12 => ((0 : Int) ≤ 1 ∧ 1 ≤ (n1 : Int)) ∧ A2 R x0 x12 ((IK (aD BA iI) (1) c1 1)) (n1 - 1) (c1 - 1) ((((n1 - 1) : Nat) : Int)) 0 σ) : Spec prog 202 #[.int .i64 x0, .slice p1 n1 c1] σ R := M.start h ok
theorem AY (h : Br (x16 < x15) (Pq JD fun T8 aF => In x16 (n14 : Int) ∧ LI .u64 σ T8 (aF + Int.toNat x16 * 1) fun Dn => Spec prog 204 #[.int .i64 x0, .int .u64 Dn, .int .u64 x5] σ (AA R (fun z y => ∃ ACZ AJE, z = (.tuple #[.bool ACZ, .bool AJE]) ∧ Bo ACZ (js R x0 Dn (aD T8 aF) n14 HG x15 x16 y) (Spec prog 229 #[.int .u64 x5] y (AA R (CB fun t30 AF => Bo t30 (js R x0 Dn (aD T8 aF) n14 HG x15 x16 AF) (js R x0 x5 (aD T8 aF) n14 HG x15 x16 AF))))))) (Spec prog 186 #[.int .u64 x5] σ (AA R (CI .u64 fun V4 y => R (.returned (.int .u64 V4)) y)))) : A2 R x0 x5 JD n14 HG x15 x16 σ := M.of h ok rfl
theorem pg (h : AN (x16 + 1) ∧ A2 R x0 x5 JD n14 HG x15 (x16 + 1) σ) : js R x0 x5 JD n14 HG x15 x16 σ := M.of h ok rfl
end FG
namespace XE
variable {x0 : Int}
def M : Fw := ⟨prog, 229, f229, [186], [], false, [], [], []⟩
theorem ok : M.Ok := ⟨.cons call186 (AG.nil), mixed, func229, by kernel_rfl⟩
theorem start (h : Spec prog 186 #[.int .u64 x0] σ (AA R (CI .u64 fun x4 y => R (.returned (.bool (decide (x4 = 9221120237041090560)))) y))) : Spec prog 229 #[.int .u64 x0] σ R := M.start h ok
end XE
namespace BT
variable {TL p8 : Option Addr} {Lo Q6 n8 c8 : Nat} {s1 : ByteArray} {x9 x10 : Int}
def M : Fw := ⟨prog, 236, f236, [257], [2, 6], false, [], [], [(104, [(1, wT), (8, wL), (9, wI), (10, wI)])]⟩
theorem ok : M.Ok := ⟨.cons call257 (AG.nil), mixed, func236, by kernel_rfl⟩
def Hg := M.pt 0
theorem start (h : ∀ b2 : Nat, Hg R s1 TL Lo Q6 (Lo : Int) 0 σ) : Spec prog 236 #[.agg #[.slice TL Lo Q6], .string s1] σ R := M.start h ok
theorem Bd (h : Br (x10 < x9) (Pq p8 fun O0 Pd => In x10 (n8 : Int) ∧ ∃ jt ju jv, Aq σ O0 (Pd + Int.toNat x10 * 1) [.slice jt ju jv] ∧ ∀ b6 : Nat, Spec prog 257 #[.agg #[.slice jt ju jv], .string s1] σ (AA R (CB fun t16 y => Bo t16 (R (.returned (.bool true)) y) (AN (x10 + 1) ∧ Hg R s1 (aD O0 Pd) n8 c8 x9 (x10 + 1) y)))) (R (.returned (.bool false)) σ)) : Hg R s1 p8 n8 c8 x9 x10 σ := M.of h ok rfl
end BT
namespace EE
variable {s0 : ByteArray} {x3 x8 x9 x16 : Int} {v4 v2 : Value} {t11 : Bool}
def M : Fw := ⟨prog, 253, f253, [271, 272, 273, 278, 279, 280, 282, 283], [], false, [], [], [(254, [(0, wT), (3, wI), (4, wV)]), (8190, [(2, wV), (3, wI), (4, wV)]), (32446, [(0, wT), (3, wI), (4, wV), (8, wU), (9, wI), (11, wB), (16, wU)])]⟩
theorem ok : M.Ok := ⟨.cons call271 (.cons call272 (.cons call273 (.cons call278 (.cons call279 (.cons call280 (.cons call282 (.cons call283 (AG.nil)))))))), mixed, func253, by kernel_rfl⟩
def AJF := M.pt 0
def ACa := M.pt 2
theorem start (h : Spec prog 271 #[.string s0] σ (AA R (fun z y => ∃ ACb Q8 ACc, z = (.tuple #[ACb, .int .i64 Q8, .bool ACc]) ∧ Bo ACc (R (.returned (.tuple #[ACb, .int .i64 Q8, .nilIface])) y) (Spec prog 272 #[.string s0] y (AA R (fun z AF => ∃ fK aG ph xH ACd Q9 ACe, z = (.tuple #[.int .u64 fK, .int .i64 aG, .bool ph, .bool xH, .bool ACd, .int .i64 Q9, .bool ACe]) ∧ Bn ACe (R (.returned (.tuple #[.float .f64 0, .int .i64 Q9, (.iface 264 (.int .i64 2))])) AF) (Bo ACd (∃ s53, YF prog (Instr.sliceAt 9 (.string s0) none (some (.int .i64 Q9)) none) AF (.string s53) ∧ Spec prog 273 #[.string s53, (.pointer (aD 6 0)), .int .u64 fK, .int .i64 aG, .bool ph, .bool xH] AF (AA R (fun z AH => ∃ ACf ACg, z = (.tuple #[ACf, ACg]) ∧ R (.returned (.tuple #[ACf, .int .i64 Q9, ACg])) AH))) (LB AF 5 0 fun t64 => Bo t64 (Spec prog 280 #[.bool ph] AF (AA R (CI .u64 fun tH AH => ((0 : Int) ≤ 63 ∧ 63 ≤ ((IntKind.bits .u64 : Nat) : Int)) ∧ Df (IntKind.u64.wrap (tH * 2 ^ Int.toNat 63)) fun aH => Br (fK = 0) (Df (Go.bits .or .u64 aH 0) fun x71 => EN prog 281 #[.int .u64 x71] AH (fun z AZ => ∃ x72, (Value.float .f64 x72) = z ∧ R (.returned (.tuple #[(Value.float .f64 x72), .int .i64 Q9, .nilIface])) AZ)) (Br (310 < aG) (Df (Go.bits .or .u64 aH 9218868437227405312) fun x77 => EN prog 281 #[.int .u64 x77] AH (fun z AZ => ∃ x78, (Value.float .f64 x78) = z ∧ R (.returned (.tuple #[(Value.float .f64 x78), .int .i64 Q9, (.iface 264 (.int .i64 1))])) AZ)) (Br (aG < (-345)) (Df (Go.bits .or .u64 aH 0) fun x84 => EN prog 281 #[.int .u64 x84] AH (fun z AZ => ∃ x85, (Value.float .f64 x85) = z ∧ R (.returned (.tuple #[(Value.float .f64 x85), .int .i64 Q9, .nilIface])) AZ)) (Bn xH (Spec prog 282 #[.int .u64 fK, .int .i64 aG, .bool ph] AH (AA R (fun z AZ => ∃ ACi ACj, z = (.tuple #[ACi, .bool ACj]) ∧ Bo ACj (R (.returned (.tuple #[ACi, .int .i64 Q9, .nilIface])) AZ) (ACa R s0 Q9 .nilIface fK aG false aH AZ)))) (ACa R s0 Q9 .nilIface fK aG true aH AH))))))) (AJF R s0 Q9 .nilIface AF))))))))) : Spec prog 253 #[.string s0] σ R := M.start h ok
end EE
namespace Ag
variable {s0 : ByteArray} {x5 x6 x12 x7 : Int} {t13 t16 t19 : Bool}
def M : Fw := ⟨prog, 271, f271, [299, 300, 301], [], false, [], [], [(128001, [(0, wT), (5, wI), (6, wI), (12, w8), (13, wB)]), (256005, [(0, wT), (5, wI), (6, wI), (12, w8), (16, wB)]), (8004, [(0, wT), (5, wI), (6, wI)]), (256007, [(0, wT), (19, wB)]), (126, []), (32022, [(5, wI), (6, wI), (7, wI)]), (32006, [(0, wT), (5, wI)])]⟩
theorem ok : M.Ok := ⟨.cons call299 (.cons call300 (.cons call301 (AG.nil))), mixed, func271, by kernel_rfl⟩
def FH := M.pt 0
def xI := M.pt 1
def AJG := M.pt 2
def XF := M.pt 3
def xJ := M.pt 4
def ACk := M.pt 6
theorem start (h : Br ((((ByteArray.size s0 : Nat) : Int) : Int) = 0) (R (.returned (.tuple #[.float .f64 0, .int .i64 0, .bool false])) σ) (∃ tI : UInt8, (0 : Int) ≤ 0 ∧ (ByteArray.data s0)[Int.toNat 0]? = some tI ∧ Br ((((UInt8.toNat tI : Nat) : Int) : Int) = 43) (FH R s0 1 0 (((UInt8.toNat tI : Nat) : Int)) true σ) (FH R s0 1 0 (((UInt8.toNat tI : Nat) : Int)) ((decide ((((UInt8.toNat tI : Nat) : Int) : Int) = 45))) σ))) : Spec prog 271 #[.string s0] σ R := M.start h ok
theorem VA (h : Bo t13 (∃ u23 : UInt8, (0 : Int) ≤ 0 ∧ (ByteArray.data s0)[Int.toNat 0]? = some u23 ∧ Br ((((UInt8.toNat u23 : Nat) : Int) : Int) = 45) (ACk R s0 (-1) σ) (ACk R s0 x5 σ)) (Br (x12 = 105) (xI R s0 x5 x6 x12 true σ) (xI R s0 x5 x6 x12 ((decide (x12 = 73))) σ))) : FH R s0 x5 x6 x12 t13 σ := M.of h ok rfl
theorem pj (h : Bo t16 (AJG R s0 x5 x6 σ) (Br (x12 = 110) (XF R s0 true σ) (XF R s0 ((decide (x12 = 78))) σ))) : xI R s0 x5 x6 x12 t16 σ := M.of h ok rfl
theorem VB (h : Bo t19 (Spec prog 299 #[.string s0, (.string (ByteArray.mk #[110, 97, 110]))] σ (AA R (CI .i64 fun jw y => Br (jw = 3) (Spec prog 301 #[] y (AA R (fun z AF => ∃ Qr, (Value.float .f64 Qr) = z ∧ R (.returned (.tuple #[(Value.float .f64 Qr), .int .i64 3, .bool true])) AF))) (xJ R y)))) (xJ R σ)) : XF R s0 t19 σ := M.of h ok rfl
theorem pk (h : R (.returned (.tuple #[.float .f64 0, .int .i64 0, .bool false])) σ) : xJ R  σ := M.of h ok rfl
end Ag
namespace CG
variable {t0 : Bool}
def M : Fw := ⟨prog, 280, f280, [], [], false, [], [], []⟩
theorem ok : M.Ok := ⟨AG.nil, mixed, func280, by kernel_rfl⟩
theorem start (h : Bo t0 (R (.returned (.int .u64 1)) σ) (R (.returned (.int .u64 0)) σ)) : Spec prog 280 #[.bool t0] σ R := M.start h ok
end CG
namespace HJ
variable {s0 s1 : ByteArray}
def M : Fw := ⟨prog, 286, f286, [316], [], false, [], [], []⟩
theorem ok : M.Ok := ⟨.cons call316 (AG.nil), mixed, func286, by kernel_rfl⟩
theorem start (h : Spec prog 316 #[.string s0, .string s1] σ (AA R (CB fun t7 y => R (.returned (.bool t7)) y))) : Spec prog 286 #[.string s0, .string s1] σ R := M.start h ok
end HJ
namespace Bz
variable {s0 s1 : ByteArray}
def M : Fw := ⟨prog, 316, f316, [], [], false, [], [], []⟩
theorem ok : M.Ok := ⟨AG.nil, mixed, func316, by kernel_rfl⟩
theorem start (h : Br ((((ByteArray.size s1 : Nat) : Int) : Int) ≤ ((ByteArray.size s0 : Nat) : Int)) (AN (((ByteArray.size s0 : Nat) : Int) - ((ByteArray.size s1 : Nat) : Int)) ∧ ∃ s17, YF prog (Instr.sliceAt 9 (.string s0) (some (.int .i64 (((ByteArray.size s0 : Nat) : Int) - ((ByteArray.size s1 : Nat) : Int)))) none none) σ (.string s17) ∧ R (.returned (.bool (ByteArray.toList s17 == ByteArray.toList s1))) σ) (R (.returned (.bool false)) σ)) : Spec prog 316 #[.string s0, .string s1] σ R := M.start h ok
end Bz
end TwW
end
end
section
set_option maxRecDepth 100000
noncomputable section
namespace TwW
open Go Tw Go.Proofs.Tryz
variable [Ev] {R : Rr} {σ : Hp}

namespace Ah
variable {p0 : Option Addr} {n0 c0 : Nat} {x1 x7 x8 : Int} {s2 : ByteArray}
def M : Fw := ⟨prog, 6, f6, [14, 18, 19, 20], [], false, [], [], [(464, [(0, wL), (1, wI), (2, wT), (7, wI)]), (29840, [(0, wL), (1, wI), (2, wT), (7, wI), (8, wI)])]⟩
theorem ok : M.Ok := ⟨.cons call14 (.cons call18 (.cons call19 (.cons call20 (AG.nil)))), mixed, func6, by kernel_rfl⟩
def DG := M.pt 0
def aI := M.pt 1
theorem start (h : Spec prog 19 #[.string s2] σ (AA R (CB fun t23 y => Bn t23 (Spec prog 14 #[] y (AA R (CB fun t25 AF => R (.returned (.bool t25)) AF))) (DG R p0 n0 c0 x1 s2 0 y)))) : Spec prog 6 #[.slice p0 n0 c0, .int .i64 x1, .string s2] σ R := M.start h ok
theorem Cs (h : Br (x7 < (n0 : Int)) (aI R p0 n0 c0 x1 s2 x7 0 σ) ((ByteArray.size (ByteArray.mk #[115, 117, 109, 40]) + ByteArray.size s2 ≤ 9223372036854775807) ∧ (ByteArray.size ((ByteArray.mk #[115, 117, 109, 40]) ++ s2) + ByteArray.size (ByteArray.mk #[41]) ≤ 9223372036854775807) ∧ Spec prog 20 #[(.string (((ByteArray.mk #[115, 117, 109, 40]) ++ s2) ++ (ByteArray.mk #[41]))), .slice p0 n0 c0, .int .i64 x1] σ (AA R (fun z y => ∃ ACl ACm ACn aJ, z = (.tuple #[.slice ACl ACm ACn, .int .i64 aJ]) ∧ (ByteArray.size (ByteArray.mk #[115, 117, 109, 32, 98, 121, 32, 40, 41, 32, 40]) + ByteArray.size s2 ≤ 9223372036854775807) ∧ (ByteArray.size ((ByteArray.mk #[115, 117, 109, 32, 98, 121, 32, 40, 41, 32, 40]) ++ s2) + ByteArray.size (ByteArray.mk #[41]) ≤ 9223372036854775807) ∧ Spec prog 20 #[(.string (((ByteArray.mk #[115, 117, 109, 32, 98, 121, 32, 40, 41, 32, 40]) ++ s2) ++ (ByteArray.mk #[41]))), .slice p0 n0 c0, .int .i64 x1] y (AA R (fun z AF => ∃ xK xL xM MO, z = (.tuple #[.slice xK xL xM, .int .i64 MO]) ∧ (ByteArray.size (ByteArray.mk #[115, 117, 109, 32, 119, 105, 116, 104, 111, 117, 116, 32, 40, 97, 44, 32, 98, 41, 32, 40]) + ByteArray.size s2 ≤ 9223372036854775807) ∧ (ByteArray.size ((ByteArray.mk #[115, 117, 109, 32, 119, 105, 116, 104, 111, 117, 116, 32, 40, 97, 44, 32, 98, 41, 32, 40]) ++ s2) + ByteArray.size (ByteArray.mk #[41]) ≤ 9223372036854775807) ∧ Spec prog 20 #[(.string (((ByteArray.mk #[115, 117, 109, 32, 119, 105, 116, 104, 111, 117, 116, 32, 40, 97, 44, 32, 98, 41, 32, 40]) ++ s2) ++ (ByteArray.mk #[41]))), .slice p0 n0 c0, .int .i64 x1] AF (AA R (fun z AH => ∃ ACo ACp ACq Pg, z = (.tuple #[.slice ACo ACp ACq, .int .i64 Pg]) ∧ (ByteArray.size (ByteArray.mk #[109, 97, 120, 32, 98, 121, 32, 40, 97, 44, 32, 98, 41, 32, 40]) + ByteArray.size s2 ≤ 9223372036854775807) ∧ (ByteArray.size ((ByteArray.mk #[109, 97, 120, 32, 98, 121, 32, 40, 97, 44, 32, 98, 41, 32, 40]) ++ s2) + ByteArray.size (ByteArray.mk #[41]) ≤ 9223372036854775807) ∧ Spec prog 20 #[(.string (((ByteArray.mk #[109, 97, 120, 32, 98, 121, 32, 40, 97, 44, 32, 98, 41, 32, 40]) ++ s2) ++ (ByteArray.mk #[41]))), .slice p0 n0 c0, .int .i64 x1] AH (AA R (fun z AZ => ∃ xN xO xP MP, z = (.tuple #[.slice xN xO xP, .int .i64 MP]) ∧ (ByteArray.size (ByteArray.mk #[109, 97, 120, 32, 119, 105, 116, 104, 111, 117, 116, 32, 40, 41, 32, 40]) + ByteArray.size s2 ≤ 9223372036854775807) ∧ (ByteArray.size ((ByteArray.mk #[109, 97, 120, 32, 119, 105, 116, 104, 111, 117, 116, 32, 40, 41, 32, 40]) ++ s2) + ByteArray.size (ByteArray.mk #[41]) ≤ 9223372036854775807) ∧ Spec prog 20 #[(.string (((ByteArray.mk #[109, 97, 120, 32, 119, 105, 116, 104, 111, 117, 116, 32, 40, 41, 32, 40]) ++ s2) ++ (ByteArray.mk #[41]))), .slice p0 n0 c0, .int .i64 x1] AZ (AA R (fun z D4 => ∃ tQ tR tS RA, z = (.tuple #[.slice tQ tR tS, .int .i64 RA]) ∧ (ByteArray.size s2 + ByteArray.size (ByteArray.mk #[32, 42, 32, 49]) ≤ 9223372036854775807) ∧ Spec prog 20 #[(.string (s2 ++ (ByteArray.mk #[32, 42, 32, 49]))), .slice p0 n0 c0, .int .i64 x1] D4 (AA R (fun z CR => ∃ tT tU tV tW, z = (.tuple #[.slice tT tU tV, .int .i64 tW]) ∧ Br (aJ ≠ 0) (Br (aJ = MO) (Br (MO = Pg) (Br (Pg = MP) (Br (MP = RA) (Spec prog 14 #[] CR (AA R (CB fun t152 EM => R (.returned (.bool t152)) EM))) (R (.returned (.bool false)) CR)) (R (.returned (.bool false)) CR)) (R (.returned (.bool false)) CR)) (R (.returned (.bool false)) CR)) (Br (MO ≠ 0) (Br (aJ = MO) (Br (MO = Pg) (Br (Pg = MP) (Br (MP = RA) (Spec prog 14 #[] CR (AA R (CB fun t152 EM => R (.returned (.bool t152)) EM))) (R (.returned (.bool false)) CR)) (R (.returned (.bool false)) CR)) (R (.returned (.bool false)) CR)) (R (.returned (.bool false)) CR)) (Br (Pg ≠ 0) (Br (aJ = MO) (Br (MO = Pg) (Br (Pg = MP) (Br (MP = RA) (Spec prog 14 #[] CR (AA R (CB fun t152 EM => R (.returned (.bool t152)) EM))) (R (.returned (.bool false)) CR)) (R (.returned (.bool false)) CR)) (R (.returned (.bool false)) CR)) (R (.returned (.bool false)) CR)) (Br (MP ≠ 0) (Br (aJ = MO) (Br (MO = Pg) (Br (Pg = MP) (Br (MP = RA) (Spec prog 14 #[] CR (AA R (CB fun t152 EM => R (.returned (.bool t152)) EM))) (R (.returned (.bool false)) CR)) (R (.returned (.bool false)) CR)) (R (.returned (.bool false)) CR)) (R (.returned (.bool false)) CR)) (Br (RA ≠ 0) (Br (aJ = MO) (Br (MO = Pg) (Br (Pg = MP) (Br (MP = RA) (Spec prog 14 #[] CR (AA R (CB fun t152 EM => R (.returned (.bool t152)) EM))) (R (.returned (.bool false)) CR)) (R (.returned (.bool false)) CR)) (R (.returned (.bool false)) CR)) (R (.returned (.bool false)) CR)) (Spec prog 18 #[.slice ACl ACm ACn, .slice xK xL xM] CR (AA R (CB fun t156 EM => Bo t156 (Spec prog 18 #[.slice xK xL xM, .slice ACo ACp ACq] EM (AA R (CB fun t160 Lc => Bo t160 (Spec prog 18 #[.slice xN xO xP, .slice tQ tR tS] Lc (AA R (CB fun t165 Q7 => Bo t165 (Br (tW ≠ 0) (Spec prog 14 #[] Q7 (AA R (CB fun t177 Hb => R (.returned (.bool t177)) Hb))) (Spec prog 18 #[.slice xN xO xP, .slice tT tU tV] Q7 (AA R (CB fun t173 Hb => Bo t173 (Spec prog 14 #[] Hb (AA R (CB fun t177 aB => R (.returned (.bool t177)) aB))) (R (.returned (.bool false)) Hb))))) (R (.returned (.bool false)) Q7)))) (R (.returned (.bool false)) Lc)))) (R (.returned (.bool false)) EM)))))))))))))))))))))) : DG R p0 n0 c0 x1 s2 x7 σ := M.of h ok rfl
theorem dA (h : Pq p0 fun tX tY => In x7 (n0 : Int) ∧ LS σ tX (tY + Int.toNat x7 * 2) fun TN n37 TO => Br (x8 < (n37 : Int)) (In x7 (n0 : Int) ∧ LS σ tX (tY + Int.toNat x7 * 2) fun oF n46 oG => Pq oF fun OJ o48 => In x8 (n46 : Int) ∧ LT σ OJ (o48 + Int.toNat x8 * 2) fun s50 => Bn ((ByteArray.toList s50 == ByteArray.toList (ByteArray.mk #[95, 95, 110, 97, 109, 101, 95, 95]))) (Bn ((ByteArray.toList s50 == ByteArray.toList (ByteArray.mk #[97]))) (Bn ((ByteArray.toList s50 == ByteArray.toList (ByteArray.mk #[98]))) (Spec prog 14 #[] σ (AA R (CB fun t61 y => R (.returned (.bool t61)) y))) (AN (x8 + 1) ∧ aI R (aD tX tY) n0 c0 x1 s2 x7 (x8 + 1) σ)) (AN (x8 + 1) ∧ aI R (aD tX tY) n0 c0 x1 s2 x7 (x8 + 1) σ)) (AN (x8 + 1) ∧ aI R (aD tX tY) n0 c0 x1 s2 x7 (x8 + 1) σ)) (AN (x7 + 1) ∧ DG R (aD tX tY) n0 c0 x1 s2 (x7 + 1) σ)) : aI R p0 n0 c0 x1 s2 x7 x8 σ := M.of h ok rfl
end Ah
namespace DJ
variable {p0 p1 LD p33 : Option Addr} {n0 c0 n1 c1 n11 LF n33 c33 : Nat} {x2 xQ V4 : Int}
def M : Fw := ⟨prog, 11, f11, [28, 29, 30], [13], false, [], [], [(4072, [(2, wI), (11, wL), (33, wL), (34, wI), (35, wI)])]⟩
theorem ok : M.Ok := ⟨.cons call28 (.cons call29 (.cons call30 (AG.nil))), mixed, func11, by kernel_rfl⟩
def Ph := M.pt 0
theorem start (h : Spec prog 28 #[.slice p0 n0 c0, .slice p1 n1 c1] σ (AA R (CI .i64 fun x16 y => Br (x16 ≠ 0) (R (.returned (.tuple #[.slice none 0 0, .int .i64 x16])) y) (Spec prog 29 #[.int .i64 x2] y (AA R (CB fun t21 AF => Bn t21 (R (.returned (.tuple #[.slice none 0 0, .int .i64 221])) AF) (Spec prog 30 #[.slice p0 n0 c0, .slice p1 n1 c1, .int .i64 x2] AF (AA R (fun z AH => ∃ MQ Ld MR XG, z = (.tuple #[.slice MQ Ld MR, .int .i64 XG]) ∧ Br (XG ≠ 0) (R (.returned (.tuple #[.slice none 0 0, .int .i64 XG])) AH) (Ph R x2 none 0 0 MQ Ld MR (Ld : Int) 0 AH)))))))))) : Spec prog 11 #[.slice p0 n0 c0, .slice p1 n1 c1, .int .i64 x2] σ R := M.start h ok
theorem QD (h : Br (V4 < xQ) (Pq p33 fun b37 o37 => In V4 (n33 : Int) ∧ ∃ po pq pr G3, Aq σ b37 (o37 + Int.toNat V4 * 2) [.slice po pq pr, .int .u64 G3] ∧ ∀ DF : Nat, (Al σ fun V5 => (AJ prog (Builtin.append_ #[37, 37] 37 #[(.slice (aD V5 0) 0 0), .slice po pq pr]) (Hp.set σ V5 (.cells #[] 56 (0, 0))) (CS fun iJ n43 iK y => Al y fun OJ => Al (Hp.set y OJ (.cells #[.int .i64 x2, .int .u64 G3] 50 (0, 0))) fun VC => AJ prog (Builtin.append_ #[23, 23] 23 #[.slice LD n11 LF, (.slice (aD VC 0) 1 1)]) (Hp.set (Hp.set y OJ (.cells #[.int .i64 x2, .int .u64 G3] 50 (0, 0))) VC (.cells #[.slice iJ n43 iK, (.slice (aD OJ 0) 1 1)] 40 (0, 0))) (CS fun p51 n51 c51 AF => AN (V4 + 1) ∧ Ph R x2 p51 n51 c51 (aD b37 o37) n33 c33 xQ (V4 + 1) AF))) ∧ (Al (Hp.set σ V5 (.cells #[] 56 (0, 0))) fun OJ => AJ prog (Builtin.append_ #[37, 37] 37 #[(.slice (aD V5 0) 0 0), .slice po pq pr]) (Hp.set (Hp.set σ V5 (.cells #[] 56 (0, 0))) OJ (.cells #[.int .i64 x2, .int .u64 G3] 50 (0, 0))) (CS fun iJ n43 iK y => Al y fun VC => AJ prog (Builtin.append_ #[23, 23] 23 #[.slice LD n11 LF, (.slice (aD VC 0) 1 1)]) (Hp.set y VC (.cells #[.slice iJ n43 iK, (.slice (aD OJ 0) 1 1)] 40 (0, 0))) (CS fun p51 n51 c51 AF => AN (V4 + 1) ∧ Ph R x2 p51 n51 c51 (aD b37 o37) n33 c33 xQ (V4 + 1) AF)))) ∧ (Al σ fun OJ => Al (Hp.set σ OJ (.cells #[.int .i64 x2, .int .u64 G3] 50 (0, 0))) fun V5 => AJ prog (Builtin.append_ #[37, 37] 37 #[(.slice (aD V5 0) 0 0), .slice po pq pr]) (Hp.set (Hp.set σ OJ (.cells #[.int .i64 x2, .int .u64 G3] 50 (0, 0))) V5 (.cells #[] 56 (0, 0))) (CS fun iJ n43 iK y => Al y fun VC => AJ prog (Builtin.append_ #[23, 23] 23 #[.slice LD n11 LF, (.slice (aD VC 0) 1 1)]) (Hp.set y VC (.cells #[.slice iJ n43 iK, (.slice (aD OJ 0) 1 1)] 40 (0, 0))) (CS fun p51 n51 c51 AF => AN (V4 + 1) ∧ Ph R x2 p51 n51 c51 (aD b37 o37) n33 c33 xQ (V4 + 1) AF)))) (R (.returned (.tuple #[.slice LD n11 LF, .int .i64 0])) σ)) : Ph R x2 LD n11 LF p33 n33 c33 xQ V4 σ := M.of h ok rfl
end DJ
namespace RB
variable {s0 : ByteArray}
def M : Fw := ⟨prog, 42, f42, [60, 61, 62], [], false, [], [], []⟩
theorem ok : M.Ok := ⟨.cons call60 (.cons call61 (.cons call62 (AG.nil))), mixed, func42, by kernel_rfl⟩
theorem start (h : Spec prog 61 #[] σ (AA R (CS fun p3 n3 c3 y => Spec prog 60 #[.slice p3 n3 c3, .string s0] y (AA R (CI .i64 fun x5 AF => Br (0 ≤ x5) (R (.returned (.bool true)) AF) (Spec prog 62 #[] AF (AA R (CS fun p8 n8 c8 AH => Spec prog 60 #[.slice p8 n8 c8, .string s0] AH (AA R (CI .i64 fun x10 AZ => Br (0 ≤ x10) (R (.returned (.bool true)) AZ) (Al AZ fun BP => Spec prog 60 #[(.slice (aD BP 0) 9 9), .string s0] (Hp.set AZ BP (.cells #[(.string (ByteArray.mk #[111, 114])), (.string (ByteArray.mk #[97, 110, 100])), (.string (ByteArray.mk #[117, 110, 108, 101, 115, 115])), (.string (ByteArray.mk #[98, 111, 111, 108])), (.string (ByteArray.mk #[111, 110])), (.string (ByteArray.mk #[105, 103, 110, 111, 114, 105, 110, 103])), (.string (ByteArray.mk #[98, 121])), (.string (ByteArray.mk #[119, 105, 116, 104, 111, 117, 116])), (.string (ByteArray.mk #[111, 102, 102, 115, 101, 116]))] 9 (0, 0))) (AA R (CI .i64 fun x16 D4 => R (.returned (.bool (decide (0 ≤ x16)))) D4))))))))))))) : Spec prog 42 #[.string s0] σ R := M.start h ok
end RB
namespace B4
variable {q0 p1 p4c GU p6 p7 JD : Option Addr} {n1 c1 n4c c4c GV GX n6 c6 n7 c7 n14 HG : Nat} {Fu Fa x15 x16 : Int}
def M : Fw := ⟨prog, 47, f47, [70], [4, 9], false, [], [], [(488, [(0, wQ), (4, .X 93 [.I .i64, .I .u64, .L, .L]), (6, wL), (7, wL), (14, wL), (15, wI), (16, wI)])]⟩
theorem ok : M.Ok := ⟨.cons call70 (AG.nil), mixed, func47, by kernel_rfl⟩
def E5 := M.pt 0
theorem start (h : ∀ b4 : Nat, Spec prog 70 #[] σ (AA R (CS fun p13 n13 c13 y => E5 R q0 0 0 none 0 0 none 0 0 p13 n13 c13 none 0 0 p1 n1 c1 (n1 : Int) 0 y))) : Spec prog 47 #[.pointer q0, .slice p1 n1 c1] σ R := M.start h ok
theorem FT (h : Br (x16 < x15) (Pq JD fun T8 aF => In x16 (n14 : Int) ∧ ∃ Ji OI U5 jx jy jz j0 j1 j2 j3 j4 j5 j6 Ea, Aq σ T8 (aF + Int.toNat x16 * 10) [.int .i64 Ji, .int .i64 OI, .string U5, .slice jx jy jz, .int .i64 j0, .int .i64 j1, .int .i64 j2, .slice j3 j4 j5, .bool j6, .int .i64 Ea] ∧ ∀ b9 : Nat, AN ((n7 : Int) - Ea) ∧ Pq p6 fun XH dB => In Ji (n6 : Int) ∧ ∃ v30, Hp.ld σ ⟨XH, (dB + Int.toNat Ji * 1), none⟩ = some v30 ∧ ((0 : Int) ≤ ((n7 : Int) - Ea) ∧ ((n7 : Int) - Ea) ≤ (n7 : Int)) ∧ (Al σ fun dC => (AJ prog (Builtin.append_ #[136, 136] 136 #[(.slice (aD dC 0) 0 0), (.slice (IK p7 (Int.toNat ((n7 : Int) - Ea)) c7 4) (n7 - Int.toNat ((n7 : Int) - Ea)) (c7 - Int.toNat ((n7 : Int) - Ea)))]) (Hp.set σ dC (.cells #[] 93 (0, 0))) (CS fun TN n37 TO y => Kp [XH] (Hp.set σ dC (.cells #[] 93 (0, 0))) y ∧ (∃ (f38 : Nat) (HK HL : Array Value), v30 = .func (.func f38) HK HL ∧ Enters prog f38 ∧ Spec prog f38 (HK ++ #[.pointer q0, .agg #[.int .i64 Ji, .int .i64 OI, .string U5, .slice jx jy jz, .int .i64 j0, .int .i64 j1, .int .i64 j2, .slice j3 j4 j5, .bool j6, .int .i64 Ea], .slice TN n37 TO] ++ HL) y (AA R (fun z AF => ∃ Jj Jk Jl Jm Jn Jo Jp Jq G3, z = (.tuple #[.agg #[.int .i64 Jj, .int .u64 Jk, .slice Jl Jm Jn, .slice Jo Jp Jq], .int .i64 G3]) ∧ Al AF fun BA => AJ prog (Instr.storeAt 93 (.pointer (aD BA 0)) (.agg #[.int .i64 Jj, .int .u64 Jk, .slice Jl Jm Jn, .slice Jo Jp Jq])) (Hp.set AF BA (.cells #[.int .i64 0, .int .u64 0, .slice none 0 0, .slice none 0 0] 93 (0, 0))) (fun _ AH => Br (G3 ≠ 0) (R (.returned (.tuple #[.agg #[.int .i64 0, .int .u64 0, .slice none 0 0, .slice none 0 0], .int .i64 G3])) AH) (((0 : Int) ≤ ((n7 : Int) - Ea) ∧ ((n7 : Int) - Ea) ≤ (c7 : Int)) ∧ ∃ M4 M5 M6 M7 M8 M9 NA NB, Aq AH BA 0 [.int .i64 M4, .int .u64 M5, .slice M6 M7 M8, .slice M9 NA NB] ∧ Al AH fun T9 => AJ prog (Builtin.append_ #[136, 136] 136 #[(.slice p7 (Int.toNat ((n7 : Int) - Ea)) c7), (.slice (aD T9 0) 1 1)]) (Hp.set AH T9 (.cells #[.int .i64 M4, .int .u64 M5, .slice M6 M7 M8, .slice M9 NA NB] 93 (0, 0))) (CS fun Z9 n50 aA AZ => AN (x16 + 1) ∧ E5 R q0 Fu Fa p4c n4c c4c GU GV GX (aD XH dB) n6 c6 Z9 n50 aA (aD T8 aF) n14 HG x15 (x16 + 1) AZ)))))) ∧ (Al y fun BA => ∃ (f38 : Nat) (HK HL : Array Value), v30 = .func (.func f38) HK HL ∧ Enters prog f38 ∧ Spec prog f38 (HK ++ #[.pointer q0, .agg #[.int .i64 Ji, .int .i64 OI, .string U5, .slice jx jy jz, .int .i64 j0, .int .i64 j1, .int .i64 j2, .slice j3 j4 j5, .bool j6, .int .i64 Ea], .slice TN n37 TO] ++ HL) (Hp.set y BA (.cells #[.int .i64 0, .int .u64 0, .slice none 0 0, .slice none 0 0] 93 (0, 0))) (AA R (fun z AF => ∃ Jj Jk Jl Jm Jn Jo Jp Jq G3, z = (.tuple #[.agg #[.int .i64 Jj, .int .u64 Jk, .slice Jl Jm Jn, .slice Jo Jp Jq], .int .i64 G3]) ∧ AJ prog (Instr.storeAt 93 (.pointer (aD BA 0)) (.agg #[.int .i64 Jj, .int .u64 Jk, .slice Jl Jm Jn, .slice Jo Jp Jq])) AF (fun _ AH => Br (G3 ≠ 0) (R (.returned (.tuple #[.agg #[.int .i64 0, .int .u64 0, .slice none 0 0, .slice none 0 0], .int .i64 G3])) AH) (((0 : Int) ≤ ((n7 : Int) - Ea) ∧ ((n7 : Int) - Ea) ≤ (c7 : Int)) ∧ ∃ M4 M5 M6 M7 M8 M9 NA NB, Aq AH BA 0 [.int .i64 M4, .int .u64 M5, .slice M6 M7 M8, .slice M9 NA NB] ∧ Al AH fun T9 => AJ prog (Builtin.append_ #[136, 136] 136 #[(.slice p7 (Int.toNat ((n7 : Int) - Ea)) c7), (.slice (aD T9 0) 1 1)]) (Hp.set AH T9 (.cells #[.int .i64 M4, .int .u64 M5, .slice M6 M7 M8, .slice M9 NA NB] 93 (0, 0))) (CS fun Z9 n50 aA AZ => AN (x16 + 1) ∧ E5 R q0 Fu Fa p4c n4c c4c GU GV GX (aD XH dB) n6 c6 Z9 n50 aA (aD T8 aF) n14 HG x15 (x16 + 1) AZ)))))))) ∧ (Al (Hp.set σ dC (.cells #[] 93 (0, 0))) fun BA => AJ prog (Builtin.append_ #[136, 136] 136 #[(.slice (aD dC 0) 0 0), (.slice (IK p7 (Int.toNat ((n7 : Int) - Ea)) c7 4) (n7 - Int.toNat ((n7 : Int) - Ea)) (c7 - Int.toNat ((n7 : Int) - Ea)))]) (Hp.set (Hp.set σ dC (.cells #[] 93 (0, 0))) BA (.cells #[.int .i64 0, .int .u64 0, .slice none 0 0, .slice none 0 0] 93 (0, 0))) (CS fun TN n37 TO y => Kp [XH] (Hp.set (Hp.set σ dC (.cells #[] 93 (0, 0))) BA (.cells #[.int .i64 0, .int .u64 0, .slice none 0 0, .slice none 0 0] 93 (0, 0))) y ∧ ∃ (f38 : Nat) (HK HL : Array Value), v30 = .func (.func f38) HK HL ∧ Enters prog f38 ∧ Spec prog f38 (HK ++ #[.pointer q0, .agg #[.int .i64 Ji, .int .i64 OI, .string U5, .slice jx jy jz, .int .i64 j0, .int .i64 j1, .int .i64 j2, .slice j3 j4 j5, .bool j6, .int .i64 Ea], .slice TN n37 TO] ++ HL) y (AA R (fun z AF => ∃ Jj Jk Jl Jm Jn Jo Jp Jq G3, z = (.tuple #[.agg #[.int .i64 Jj, .int .u64 Jk, .slice Jl Jm Jn, .slice Jo Jp Jq], .int .i64 G3]) ∧ AJ prog (Instr.storeAt 93 (.pointer (aD BA 0)) (.agg #[.int .i64 Jj, .int .u64 Jk, .slice Jl Jm Jn, .slice Jo Jp Jq])) AF (fun _ AH => Br (G3 ≠ 0) (R (.returned (.tuple #[.agg #[.int .i64 0, .int .u64 0, .slice none 0 0, .slice none 0 0], .int .i64 G3])) AH) (((0 : Int) ≤ ((n7 : Int) - Ea) ∧ ((n7 : Int) - Ea) ≤ (c7 : Int)) ∧ ∃ M4 M5 M6 M7 M8 M9 NA NB, Aq AH BA 0 [.int .i64 M4, .int .u64 M5, .slice M6 M7 M8, .slice M9 NA NB] ∧ Al AH fun T9 => AJ prog (Builtin.append_ #[136, 136] 136 #[(.slice p7 (Int.toNat ((n7 : Int) - Ea)) c7), (.slice (aD T9 0) 1 1)]) (Hp.set AH T9 (.cells #[.int .i64 M4, .int .u64 M5, .slice M6 M7 M8, .slice M9 NA NB] 93 (0, 0))) (CS fun Z9 n50 aA AZ => AN (x16 + 1) ∧ E5 R q0 Fu Fa p4c n4c c4c GU GV GX (aD XH dB) n6 c6 Z9 n50 aA (aD T8 aF) n14 HG x15 (x16 + 1) AZ)))))))) ∧ (Al σ fun BA => Al (Hp.set σ BA (.cells #[.int .i64 0, .int .u64 0, .slice none 0 0, .slice none 0 0] 93 (0, 0))) fun dC => AJ prog (Builtin.append_ #[136, 136] 136 #[(.slice (aD dC 0) 0 0), (.slice (IK p7 (Int.toNat ((n7 : Int) - Ea)) c7 4) (n7 - Int.toNat ((n7 : Int) - Ea)) (c7 - Int.toNat ((n7 : Int) - Ea)))]) (Hp.set (Hp.set σ BA (.cells #[.int .i64 0, .int .u64 0, .slice none 0 0, .slice none 0 0] 93 (0, 0))) dC (.cells #[] 93 (0, 0))) (CS fun TN n37 TO y => Kp [XH] (Hp.set (Hp.set σ BA (.cells #[.int .i64 0, .int .u64 0, .slice none 0 0, .slice none 0 0] 93 (0, 0))) dC (.cells #[] 93 (0, 0))) y ∧ ∃ (f38 : Nat) (HK HL : Array Value), v30 = .func (.func f38) HK HL ∧ Enters prog f38 ∧ Spec prog f38 (HK ++ #[.pointer q0, .agg #[.int .i64 Ji, .int .i64 OI, .string U5, .slice jx jy jz, .int .i64 j0, .int .i64 j1, .int .i64 j2, .slice j3 j4 j5, .bool j6, .int .i64 Ea], .slice TN n37 TO] ++ HL) y (AA R (fun z AF => ∃ Jj Jk Jl Jm Jn Jo Jp Jq G3, z = (.tuple #[.agg #[.int .i64 Jj, .int .u64 Jk, .slice Jl Jm Jn, .slice Jo Jp Jq], .int .i64 G3]) ∧ AJ prog (Instr.storeAt 93 (.pointer (aD BA 0)) (.agg #[.int .i64 Jj, .int .u64 Jk, .slice Jl Jm Jn, .slice Jo Jp Jq])) AF (fun _ AH => Br (G3 ≠ 0) (R (.returned (.tuple #[.agg #[.int .i64 0, .int .u64 0, .slice none 0 0, .slice none 0 0], .int .i64 G3])) AH) (((0 : Int) ≤ ((n7 : Int) - Ea) ∧ ((n7 : Int) - Ea) ≤ (c7 : Int)) ∧ ∃ M4 M5 M6 M7 M8 M9 NA NB, Aq AH BA 0 [.int .i64 M4, .int .u64 M5, .slice M6 M7 M8, .slice M9 NA NB] ∧ Al AH fun T9 => AJ prog (Builtin.append_ #[136, 136] 136 #[(.slice p7 (Int.toNat ((n7 : Int) - Ea)) c7), (.slice (aD T9 0) 1 1)]) (Hp.set AH T9 (.cells #[.int .i64 M4, .int .u64 M5, .slice M6 M7 M8, .slice M9 NA NB] 93 (0, 0))) (CS fun Z9 n50 aA AZ => AN (x16 + 1) ∧ E5 R q0 Fu Fa p4c n4c c4c GU GV GX (aD XH dB) n6 c6 Z9 n50 aA (aD T8 aF) n14 HG x15 (x16 + 1) AZ)))))))) (Pq p7 fun OK o53 => In 0 (n7 : Int) ∧ ∃ XI XJ ACw ACx ACy XK XL XM, Aq σ OK o53 [.int .i64 XI, .int .u64 XJ, .slice ACw ACx ACy, .slice XK XL XM] ∧ R (.returned (.tuple #[.agg #[.int .i64 XI, .int .u64 XJ, .slice ACw ACx ACy, .slice XK XL XM], .int .i64 0])) σ)) : E5 R q0 Fu Fa p4c n4c c4c GU GV GX p6 n6 c6 p7 n7 c7 JD n14 HG x15 x16 σ := M.iB h ok rfl fun _ => by kernel_rfl
end B4
namespace JF
variable {tZ Y8 s1a s1b : ByteArray}
def M : Fw := ⟨prog, 76, f76, [77, 78], [2, 3], false, [], [], []⟩
theorem ok : M.Ok := ⟨.cons call77 (.cons call78 (AG.nil)), mixed, func76, by kernel_rfl⟩
theorem start (h : ∀ b2 : Nat, ∀ b3 : Nat, Spec prog 78 #[.string tZ, .string s1a] σ (AA R (CI .i64 fun x9 y => Spec prog 78 #[.string Y8, .string s1b] y (AA R (CI .i64 fun Y6 AF => Al AF fun b15 => Spec prog 77 #[(.slice (aD b15 0) 2 2)] (Hp.set AF b15 (.cells #[.int .i64 x9, .int .i64 Y6] 3 (0, 0))) (AA R (CI .i64 fun x16 AH => R (.returned (.int .i64 x16)) AH))))))) : Spec prog 76 #[.agg #[.string tZ, .string Y8], .agg #[.string s1a, .string s1b]] σ R := M.start h ok
end JF
namespace JG
variable {s0 s1 : ByteArray}
def M : Fw := ⟨prog, 78, f78, [119], [], false, [], [], []⟩
theorem ok : M.Ok := ⟨.cons call119 (AG.nil), mixed, func78, by kernel_rfl⟩
theorem start (h : Spec prog 119 #[.string s0, .string s1] σ (AA R (CI .i64 fun x7 y => R (.returned (.int .i64 x7)) y))) : Spec prog 78 #[.string s0, .string s1] σ R := M.start h ok
end JG
namespace Fe
variable {p0 p8 : Option Addr} {n0 c0 n8 c8 : Nat} {x9 x10 : Int}
def M : Fw := ⟨prog, 80, f80, [125, 126], [4], false, [], [], [(232, [(8, wL), (9, wI), (10, wI)])]⟩
theorem ok : M.Ok := ⟨.cons call125 (.cons call126 (AG.nil)), mixed, func80, by kernel_rfl⟩
def LY := M.pt 0
theorem start (h : Br (8 < (n0 : Int)) (R (.returned (.int .i64 41)) σ) (LY R p0 n0 c0 (n0 : Int) 0 σ)) : Spec prog 80 #[.slice p0 n0 c0] σ R := M.start h ok
theorem IX (h : Br (x10 < x9) (Pq p8 fun O0 Pd => In x10 (n8 : Int) ∧ ∃ j7 fI AC0, Aq σ O0 (Pd + Int.toNat x10 * 3) [.int .i64 j7, .string fI, .string AC0] ∧ ∀ b4 : Nat, Spec prog 125 #[.int .i64 j7] σ (AA R (CB fun t16 y => Bn t16 (R (.returned (.int .i64 40)) y) (Spec prog 126 #[.string fI] y (AA R (CB fun t21 AF => Bn t21 (R (.returned (.int .i64 40)) AF) (Br ((256 : Int) < ((ByteArray.size AC0 : Nat) : Int)) (R (.returned (.int .i64 40)) AF) (AN (x10 + 1) ∧ LY R (aD O0 Pd) n8 c8 x9 (x10 + 1) AF)))))))) (R (.returned (.int .i64 0)) σ)) : LY R p8 n8 c8 x9 x10 σ := M.of h ok rfl
end Fe
namespace Bh
variable {q0 Dc Dp p2 : Option Addr} {DY CN DZ Dd C5 CY x8 : Int} {Da : ByteArray} {De Dg Dh Dq n2 c2 : Nat} {C6 : Bool}
def M : Fw := ⟨prog, 82, f82, [], [4], false, [], [], [(60, [(2, wL), (8, wI)])]⟩
theorem ok : M.Ok := ⟨AG.nil, mixed, func82, by kernel_rfl⟩
def E5 := M.pt 0
theorem start (h : ∀ b4 : Nat, Br (CN = 11) (E5 R p2 n2 c2 2 σ) (Br (CN = 12) (E5 R p2 n2 c2 2 σ) (E5 R p2 n2 c2 3 σ))) : Spec prog 82 #[.pointer q0, .agg #[.int .i64 DY, .int .i64 CN, .string Da, .slice Dc De Dg, .int .i64 DZ, .int .i64 Dd, .int .i64 C5, .slice Dp Dh Dq, .bool C6, .int .i64 CY], .slice p2 n2 c2] σ R := M.start h ok
theorem FT (h : Pq p2 fun T8 aF => In 0 (n2 : Int) ∧ LI .i64 σ T8 aF fun Ha => Br (Ha ≠ x8) (R (.returned (.tuple #[.int .i64 0, .int .i64 191])) σ) (R (.returned (.tuple #[.int .i64 2, .int .i64 0])) σ)) : E5 R p2 n2 c2 x8 σ := M.of h ok rfl
end Bh
namespace Gj
variable {s0 : ByteArray} {x3 x4 x5 : Int}
def M : Fw := ⟨prog, 93, f93, [131], [], false, [], [], [(2000, [(0, wT), (3, wI), (4, wI), (5, wI)]), (508, [(4, wI)])]⟩
theorem ok : M.Ok := ⟨.cons call131 (AG.nil), mixed, func93, by kernel_rfl⟩
def pw := M.pt 0
def Pa := M.pt 1
theorem start (h : Spec prog 131 #[.string s0] σ (AA R (CI .i64 fun x7 y => Br (x7 = 0) (R (.returned (.int .i64 0)) y) (Br (10 < x7) (R (.returned (.int .i64 0)) y) (∃ u16 : UInt8, (0 : Int) ≤ 0 ∧ (ByteArray.data s0)[Int.toNat 0]? = some u16 ∧ Br ((((UInt8.toNat u16 : Nat) : Int) : Int) = 48) (R (.returned (.int .i64 0)) y) (AN (x7 + 1) ∧ Br (((x7 + 1) : Int) ≠ ((ByteArray.size s0 : Nat) : Int)) (R (.returned (.int .i64 0)) y) (pw R s0 x7 0 0 y))))))) : Spec prog 93 #[.string s0] σ R := M.start h ok
theorem dD (h : Br (x5 < x3) (AN (10 * x4) ∧ ∃ u35 : UInt8, 0 ≤ x5 ∧ (ByteArray.data s0)[Int.toNat x5]? = some u35 ∧ Df (IntKind.u8.wrap (((UInt8.toNat u35 : Nat) : Int) - 48)) fun Y9 => Df (IntKind.i64.wrap Y9) fun Pj => AN ((10 * x4) + Pj) ∧ AN (x5 + 1) ∧ pw R s0 x3 (((10 * x4) + Pj)) (x5 + 1) σ) (∃ u41 : UInt8, 0 ≤ x3 ∧ (ByteArray.data s0)[Int.toNat x3]? = some u41 ∧ Br ((((UInt8.toNat u41 : Nat) : Int) : Int) = 115) (Pa R x4 σ) (Br ((((UInt8.toNat u41 : Nat) : Int) : Int) = 109) (AN (x4 * 60) ∧ Pa R (x4 * 60) σ) (Br ((((UInt8.toNat u41 : Nat) : Int) : Int) = 104) (AN (x4 * 3600) ∧ Pa R (x4 * 3600) σ) (Br ((((UInt8.toNat u41 : Nat) : Int) : Int) = 100) (AN (x4 * 86400) ∧ Pa R (x4 * 86400) σ) (R (.returned (.int .i64 0)) σ)))))) : pw R s0 x3 x4 x5 σ := M.of h ok rfl
theorem P9 (h : Br (2147483648 ≤ x4) (R (.returned (.int .i64 0)) σ) (R (.returned (.int .i64 x4)) σ)) : Pa R x4 σ := M.of h ok rfl
end Gj
namespace FI
variable {s0 : ByteArray} {x3 : Int}
def M : Fw := ⟨prog, 98, f98, [], [], false, [], [], [(464, [(0, wT), (3, wI)])]⟩
theorem ok : M.Ok := ⟨AG.nil, mixed, func98, by kernel_rfl⟩
def DG := M.pt 0
theorem start (h : Bo ((ByteArray.toList s0 == ByteArray.toList (ByteArray.mk #[]))) (R (.returned (.bool false)) σ) (Br ((64 : Int) < ((ByteArray.size s0 : Nat) : Int)) (R (.returned (.bool false)) σ) (∃ LG : UInt8, (0 : Int) ≤ 0 ∧ (ByteArray.data s0)[Int.toNat 0]? = some LG ∧ Br ((48 : Int) ≤ ((UInt8.toNat LG : Nat) : Int)) (∃ u18 : UInt8, (0 : Int) ≤ 0 ∧ (ByteArray.data s0)[Int.toNat 0]? = some u18 ∧ Br ((((UInt8.toNat u18 : Nat) : Int) : Int) ≤ 57) (R (.returned (.bool false)) σ) (DG R s0 0 σ)) (DG R s0 0 σ)))) : Spec prog 98 #[.string s0] σ R := M.start h ok
theorem Cs (h : Br (x3 < ((ByteArray.size s0 : Nat) : Int)) (∃ ZA : UInt8, 0 ≤ x3 ∧ (ByteArray.data s0)[Int.toNat x3]? = some ZA ∧ Br ((((UInt8.toNat ZA : Nat) : Int) : Int) ≠ 95) (Br ((((UInt8.toNat ZA : Nat) : Int) : Int) < 48) (Br ((((UInt8.toNat ZA : Nat) : Int) : Int) < 65) (Br ((((UInt8.toNat ZA : Nat) : Int) : Int) < 97) (R (.returned (.bool false)) σ) (Br ((122 : Int) < ((UInt8.toNat ZA : Nat) : Int)) (R (.returned (.bool false)) σ) (AN (x3 + 1) ∧ DG R s0 (x3 + 1) σ))) (Br ((90 : Int) < ((UInt8.toNat ZA : Nat) : Int)) (Br ((((UInt8.toNat ZA : Nat) : Int) : Int) < 97) (R (.returned (.bool false)) σ) (Br ((122 : Int) < ((UInt8.toNat ZA : Nat) : Int)) (R (.returned (.bool false)) σ) (AN (x3 + 1) ∧ DG R s0 (x3 + 1) σ))) (AN (x3 + 1) ∧ DG R s0 (x3 + 1) σ))) (Br ((57 : Int) < ((UInt8.toNat ZA : Nat) : Int)) (Br ((((UInt8.toNat ZA : Nat) : Int) : Int) < 65) (Br ((((UInt8.toNat ZA : Nat) : Int) : Int) < 97) (R (.returned (.bool false)) σ) (Br ((122 : Int) < ((UInt8.toNat ZA : Nat) : Int)) (R (.returned (.bool false)) σ) (AN (x3 + 1) ∧ DG R s0 (x3 + 1) σ))) (Br ((90 : Int) < ((UInt8.toNat ZA : Nat) : Int)) (Br ((((UInt8.toNat ZA : Nat) : Int) : Int) < 97) (R (.returned (.bool false)) σ) (Br ((122 : Int) < ((UInt8.toNat ZA : Nat) : Int)) (R (.returned (.bool false)) σ) (AN (x3 + 1) ∧ DG R s0 (x3 + 1) σ))) (AN (x3 + 1) ∧ DG R s0 (x3 + 1) σ))) (AN (x3 + 1) ∧ DG R s0 (x3 + 1) σ))) (AN (x3 + 1) ∧ DG R s0 (x3 + 1) σ)) (R (.returned (.bool true)) σ)) : DG R s0 x3 σ := M.of h ok rfl
end FI
namespace Ai
variable {s0 : ByteArray} {x3 x4 x5 x6 : Int}
def M : Fw := ⟨prog, 99, f99, [], [], false, [], [], [(220, [(0, wT), (3, wI)]), (894, [(0, wT), (3, wI), (4, wI), (5, w8), (6, w8)]), (7164, [(0, wT), (3, wI), (4, wI), (5, w8), (6, w8)])]⟩
theorem ok : M.Ok := ⟨AG.nil, mixed, func99, by kernel_rfl⟩
def CL := M.pt 0
def G4 := M.pt 1
def j8 := M.pt 2
theorem start (h : CL R s0 0 σ) : Spec prog 99 #[.string s0] σ R := M.start h ok
theorem BF (h : Br (x3 = ((ByteArray.size s0 : Nat) : Int)) (R (.returned (.bool true)) σ) (∃ LG : UInt8, 0 ≤ x3 ∧ (ByteArray.data s0)[Int.toNat x3]? = some LG ∧ Br ((((UInt8.toNat LG : Nat) : Int) : Int) < 128) (AN (x3 + 1) ∧ CL R s0 (x3 + 1) σ) (Br ((194 : Int) ≤ ((UInt8.toNat LG : Nat) : Int)) (Br ((((UInt8.toNat LG : Nat) : Int) : Int) ≤ 223) (G4 R s0 x3 1 128 191 σ) (Br ((224 : Int) ≤ ((UInt8.toNat LG : Nat) : Int)) (Br ((((UInt8.toNat LG : Nat) : Int) : Int) ≤ 239) (Br ((((UInt8.toNat LG : Nat) : Int) : Int) = 224) (G4 R s0 x3 2 160 191 σ) (Br ((((UInt8.toNat LG : Nat) : Int) : Int) = 237) (G4 R s0 x3 2 128 159 σ) (G4 R s0 x3 2 128 191 σ))) (Br ((240 : Int) ≤ ((UInt8.toNat LG : Nat) : Int)) (Br ((((UInt8.toNat LG : Nat) : Int) : Int) ≤ 244) (Br ((((UInt8.toNat LG : Nat) : Int) : Int) = 240) (G4 R s0 x3 3 144 191 σ) (Br ((((UInt8.toNat LG : Nat) : Int) : Int) = 244) (G4 R s0 x3 3 128 143 σ) (G4 R s0 x3 3 128 191 σ))) (R (.returned (.bool false)) σ)) (R (.returned (.bool false)) σ))) (Br ((240 : Int) ≤ ((UInt8.toNat LG : Nat) : Int)) (Br ((((UInt8.toNat LG : Nat) : Int) : Int) ≤ 244) (Br ((((UInt8.toNat LG : Nat) : Int) : Int) = 240) (G4 R s0 x3 3 144 191 σ) (Br ((((UInt8.toNat LG : Nat) : Int) : Int) = 244) (G4 R s0 x3 3 128 143 σ) (G4 R s0 x3 3 128 191 σ))) (R (.returned (.bool false)) σ)) (R (.returned (.bool false)) σ)))) (Br ((224 : Int) ≤ ((UInt8.toNat LG : Nat) : Int)) (Br ((((UInt8.toNat LG : Nat) : Int) : Int) ≤ 239) (Br ((((UInt8.toNat LG : Nat) : Int) : Int) = 224) (G4 R s0 x3 2 160 191 σ) (Br ((((UInt8.toNat LG : Nat) : Int) : Int) = 237) (G4 R s0 x3 2 128 159 σ) (G4 R s0 x3 2 128 191 σ))) (Br ((240 : Int) ≤ ((UInt8.toNat LG : Nat) : Int)) (Br ((((UInt8.toNat LG : Nat) : Int) : Int) ≤ 244) (Br ((((UInt8.toNat LG : Nat) : Int) : Int) = 240) (G4 R s0 x3 3 144 191 σ) (Br ((((UInt8.toNat LG : Nat) : Int) : Int) = 244) (G4 R s0 x3 3 128 143 σ) (G4 R s0 x3 3 128 191 σ))) (R (.returned (.bool false)) σ)) (R (.returned (.bool false)) σ))) (Br ((240 : Int) ≤ ((UInt8.toNat LG : Nat) : Int)) (Br ((((UInt8.toNat LG : Nat) : Int) : Int) ≤ 244) (Br ((((UInt8.toNat LG : Nat) : Int) : Int) = 240) (G4 R s0 x3 3 144 191 σ) (Br ((((UInt8.toNat LG : Nat) : Int) : Int) = 244) (G4 R s0 x3 3 128 143 σ) (G4 R s0 x3 3 128 191 σ))) (R (.returned (.bool false)) σ)) (R (.returned (.bool false)) σ)))))) : CL R s0 x3 σ := M.of h ok rfl
theorem qA (h : AN (x3 + 1) ∧ j8 R s0 (x3 + 1) x4 x5 x6 σ) : G4 R s0 x3 x4 x5 x6 σ := M.of h ok rfl
theorem dE (h : Br (x4 = 0) (CL R s0 x3 σ) (Br (x3 = ((ByteArray.size s0 : Nat) : Int)) (R (.returned (.bool false)) σ) (∃ u60 : UInt8, 0 ≤ x3 ∧ (ByteArray.data s0)[Int.toNat x3]? = some u60 ∧ Br ((((UInt8.toNat u60 : Nat) : Int) : Int) < x5) (R (.returned (.bool false)) σ) (∃ u67 : UInt8, 0 ≤ x3 ∧ (ByteArray.data s0)[Int.toNat x3]? = some u67 ∧ Br (x6 < ((UInt8.toNat u67 : Nat) : Int)) (R (.returned (.bool false)) σ) (AN (x4 - 1) ∧ AN (x3 + 1) ∧ j8 R s0 (x3 + 1) (x4 - 1) 128 191 σ))))) : j8 R s0 x3 x4 x5 x6 σ := M.of h ok rfl
end Ai
namespace C8
variable {q0 Dc Dp p2 : Option Addr} {DY CN DZ Dd C5 CY : Int} {Da : ByteArray} {De Dg Dh Dq n2 c2 : Nat} {C6 : Bool}
def M : Fw := ⟨prog, 105, f105, [128, 156, 157, 160, 161], [6], false, [(1, 9, false)], [], []⟩
theorem ok : M.Ok := ⟨.cons call128 (.cons call156 (.cons call157 (.cons call160 (.cons call161 (AG.nil))))), mixed, func105, by kernel_rfl⟩
theorem start (h : Al σ fun b4 => ∀ b6 : Nat, Pq p2 fun DF iE => In 0 (n2 : Int) ∧ ∃ GH TI xR xS xT xU xV xW, Aq (Hp.set σ b4 (.cells #[.int .i64 DY, .int .i64 CN, .string Da, .slice Dc De Dg, .int .i64 DZ, .int .i64 Dd, .int .i64 C5, .slice Dp Dh Dq, .bool C6, .int .i64 CY] 36 (0, 0))) DF iE [.int .i64 GH, .int .u64 TI, .slice xR xS xT, .slice xU xV xW] ∧ In 1 (n2 : Int) ∧ ∃ Qv Wx xX xY xZ fD fE fF, Aq (Hp.set σ b4 (.cells #[.int .i64 DY, .int .i64 CN, .string Da, .slice Dc De Dg, .int .i64 DZ, .int .i64 Dd, .int .i64 C5, .slice Dp Dh Dq, .bool C6, .int .i64 CY] 36 (0, 0))) DF (iE + 4) [.int .i64 Qv, .int .u64 Wx, .slice xX xY xZ, .slice fD fE fF] ∧ (Al (Hp.set σ b4 (.cells #[.int .i64 DY, .int .i64 CN, .string Da, .slice Dc De Dg, .int .i64 DZ, .int .i64 Dd, .int .i64 C5, .slice Dp Dh Dq, .bool C6, .int .i64 CY] 36 (0, 0))) fun b8 => Al (Hp.set (Hp.set σ b4 (.cells #[.int .i64 DY, .int .i64 CN, .string Da, .slice Dc De Dg, .int .i64 DZ, .int .i64 Dd, .int .i64 C5, .slice Dp Dh Dq, .bool C6, .int .i64 CY] 36 (0, 0))) b8 (.cells #[.int .i64 0, .int .u64 0, .slice none 0 0, .slice none 0 0] 93 (0, 0))) fun b9 => AJ prog (Instr.storeAt 93 (.pointer (aD b8 0)) (.agg #[.int .i64 GH, .int .u64 TI, .slice xR xS xT, .slice xU xV xW])) (Hp.set (Hp.set (Hp.set σ b4 (.cells #[.int .i64 DY, .int .i64 CN, .string Da, .slice Dc De Dg, .int .i64 DZ, .int .i64 Dd, .int .i64 C5, .slice Dp Dh Dq, .bool C6, .int .i64 CY] 36 (0, 0))) b8 (.cells #[.int .i64 0, .int .u64 0, .slice none 0 0, .slice none 0 0] 93 (0, 0))) b9 (.cells #[.int .i64 0, .int .u64 0, .slice none 0 0, .slice none 0 0] 93 (0, 0))) (fun _ y => Kp [DF] (Hp.set (Hp.set (Hp.set σ b4 (.cells #[.int .i64 DY, .int .i64 CN, .string Da, .slice Dc De Dg, .int .i64 DZ, .int .i64 Dd, .int .i64 C5, .slice Dp Dh Dq, .bool C6, .int .i64 CY] 36 (0, 0))) b8 (.cells #[.int .i64 0, .int .u64 0, .slice none 0 0, .slice none 0 0] 93 (0, 0))) b9 (.cells #[.int .i64 0, .int .u64 0, .slice none 0 0, .slice none 0 0] 93 (0, 0))) y ∧ AJ prog (Instr.storeAt 93 (.pointer (aD b9 0)) (.agg #[.int .i64 Qv, .int .u64 Wx, .slice xX xY xZ, .slice fD fE fF])) y (fun _ AF => LI .i64 AF b8 0 fun Ha => Br (Ha = 1) (LI .i64 AF b9 0 fun JA => Br (JA = 1) (∃ XN Q8 j9 kC kD kE kF kG kH kI kJ kK kL kM, Aq AF b4 0 [.int .i64 XN, .int .i64 Q8, .string j9, .slice kC kD kE, .int .i64 kF, .int .i64 kG, .int .i64 kH, .slice kI kJ kK, .bool kL, .int .i64 kM] ∧ LI .u64 AF b8 1 fun UA => LI .u64 AF b9 1 fun kN => Spec prog 156 #[.agg #[.int .i64 XN, .int .i64 Q8, .string j9, .slice kC kD kE, .int .i64 kF, .int .i64 kG, .int .i64 kH, .slice kI kJ kK, .bool kL, .int .i64 kM], .int .u64 UA, .int .u64 kN] AF (AA R (fun z AH => ∃ XO kO, z = (.tuple #[.int .u64 XO, .bool kO]) ∧ R (.returned (.tuple #[.agg #[.int .i64 1, .int .u64 XO, .slice none 0 0, .slice none 0 0], .int .i64 0])) AH))) (LI .i64 AF b8 0 fun oH => Br (oH = 1) (∃ OL Lf OM RC RD RE RF RG RH RI RJ RL RM RN, Aq AF b4 0 [.int .i64 OL, .int .i64 Lf, .string OM, .slice RC RD RE, .int .i64 RF, .int .i64 RG, .int .i64 RH, .slice RI RJ RL, .bool RM, .int .i64 RN] ∧ LS AF b9 2 fun xd n45 xe => Spec prog 157 #[.pointer q0, .agg #[.int .i64 OL, .int .i64 Lf, .string OM, .slice RC RD RE, .int .i64 RF, .int .i64 RG, .int .i64 RH, .slice RI RJ RL, .bool RM, .int .i64 RN], .slice xd n45 xe, (.func (.func 158) #[] #[(.pointer (aD b4 0)), (.pointer (aD b8 0))])] AF (AA R (fun z AH => ∃ Jr Js Jt Ju Jv Jw Jx Jy RO, z = (.tuple #[.agg #[.int .i64 Jr, .int .u64 Js, .slice Jt Ju Jv, .slice Jw Jx Jy], .int .i64 RO]) ∧ R (.returned (.tuple #[.agg #[.int .i64 Jr, .int .u64 Js, .slice Jt Ju Jv, .slice Jw Jx Jy], .int .i64 RO])) AH))) (LI .i64 AF b9 0 fun qB => Br (qB = 1) (∃ RP RQ RR RS RT RU RV RW RX RY RZ Ra Rb Rc, Aq AF b4 0 [.int .i64 RP, .int .i64 RQ, .string RR, .slice RS RT RU, .int .i64 RV, .int .i64 RW, .int .i64 RX, .slice RY RZ Ra, .bool Rb, .int .i64 Rc] ∧ LS AF b8 2 fun xf n57 xg => Spec prog 157 #[.pointer q0, .agg #[.int .i64 RP, .int .i64 RQ, .string RR, .slice RS RT RU, .int .i64 RV, .int .i64 RW, .int .i64 RX, .slice RY RZ Ra, .bool Rb, .int .i64 Rc], .slice xf n57 xg, (.func (.func 159) #[] #[(.pointer (aD b4 0)), (.pointer (aD b9 0))])] AF (AA R (fun z AH => ∃ Jz J0 J1 J2 J3 J4 J5 J6 Hc, z = (.tuple #[.agg #[.int .i64 Jz, .int .u64 J0, .slice J1 J2 J3, .slice J4 J5 J6], .int .i64 Hc]) ∧ R (.returned (.tuple #[.agg #[.int .i64 Jz, .int .u64 J0, .slice J1 J2 J3, .slice J4 J5 J6], .int .i64 Hc])) AH))) (LI .i64 AF b4 1 fun xh => Spec prog 128 #[.int .i64 xh] AF (AA R (CB fun t65 AH => Bo t65 (∃ J7 J8 J9 KA KB KC KD KE KF KG KH KI KJ KK, Aq AH b4 0 [.int .i64 J7, .int .i64 J8, .string J9, .slice KA KB KC, .int .i64 KD, .int .i64 KE, .int .i64 KF, .slice KG KH KI, .bool KJ, .int .i64 KK] ∧ LS AH b8 2 fun qC n69 qD => LS AH b9 2 fun xi xj xk => Spec prog 160 #[.pointer q0, .agg #[.int .i64 J7, .int .i64 J8, .string J9, .slice KA KB KC, .int .i64 KD, .int .i64 KE, .int .i64 KF, .slice KG KH KI, .bool KJ, .int .i64 KK], .slice qC n69 qD, .slice xi xj xk] AH (AA R (fun z AZ => ∃ KL KM KN KO KQ KR KS KT Jf, z = (.tuple #[.agg #[.int .i64 KL, .int .u64 KM, .slice KN KO KQ, .slice KR KS KT], .int .i64 Jf]) ∧ R (.returned (.tuple #[.agg #[.int .i64 KL, .int .u64 KM, .slice KN KO KQ, .slice KR KS KT], .int .i64 Jf])) AZ))) (∃ Re Rf Rh Ri Rj Rk Rl Rm Rn Ro Rp Rq Rt Ru, Aq AH b4 0 [.int .i64 Re, .int .i64 Rf, .string Rh, .slice Ri Rj Rk, .int .i64 Rl, .int .i64 Rm, .int .i64 Rn, .slice Ro Rp Rq, .bool Rt, .int .i64 Ru] ∧ LS AH b8 2 fun oI kP oJ => LS AH b9 2 fun xl xn xo => Spec prog 161 #[.pointer q0, .agg #[.int .i64 Re, .int .i64 Rf, .string Rh, .slice Ri Rj Rk, .int .i64 Rl, .int .i64 Rm, .int .i64 Rn, .slice Ro Rp Rq, .bool Rt, .int .i64 Ru], .slice oI kP oJ, .slice xl xn xo] AH (AA R (fun z AZ => ∃ KU KV KW KX KY KZ Ka Kb Rv, z = (.tuple #[.agg #[.int .i64 KU, .int .u64 KV, .slice KW KX KY, .slice KZ Ka Kb], .int .i64 Rv]) ∧ R (.returned (.tuple #[.agg #[.int .i64 KU, .int .u64 KV, .slice KW KX KY, .slice KZ Ka Kb], .int .i64 Rv])) AZ))))))))) (LI .i64 AF b8 0 fun oH => Br (oH = 1) (∃ OL Lf OM RC RD RE RF RG RH RI RJ RL RM RN, Aq AF b4 0 [.int .i64 OL, .int .i64 Lf, .string OM, .slice RC RD RE, .int .i64 RF, .int .i64 RG, .int .i64 RH, .slice RI RJ RL, .bool RM, .int .i64 RN] ∧ LS AF b9 2 fun xd n45 xe => Spec prog 157 #[.pointer q0, .agg #[.int .i64 OL, .int .i64 Lf, .string OM, .slice RC RD RE, .int .i64 RF, .int .i64 RG, .int .i64 RH, .slice RI RJ RL, .bool RM, .int .i64 RN], .slice xd n45 xe, (.func (.func 158) #[] #[(.pointer (aD b4 0)), (.pointer (aD b8 0))])] AF (AA R (fun z AH => ∃ Jr Js Jt Ju Jv Jw Jx Jy RO, z = (.tuple #[.agg #[.int .i64 Jr, .int .u64 Js, .slice Jt Ju Jv, .slice Jw Jx Jy], .int .i64 RO]) ∧ R (.returned (.tuple #[.agg #[.int .i64 Jr, .int .u64 Js, .slice Jt Ju Jv, .slice Jw Jx Jy], .int .i64 RO])) AH))) (LI .i64 AF b9 0 fun qB => Br (qB = 1) (∃ RP RQ RR RS RT RU RV RW RX RY RZ Ra Rb Rc, Aq AF b4 0 [.int .i64 RP, .int .i64 RQ, .string RR, .slice RS RT RU, .int .i64 RV, .int .i64 RW, .int .i64 RX, .slice RY RZ Ra, .bool Rb, .int .i64 Rc] ∧ LS AF b8 2 fun xf n57 xg => Spec prog 157 #[.pointer q0, .agg #[.int .i64 RP, .int .i64 RQ, .string RR, .slice RS RT RU, .int .i64 RV, .int .i64 RW, .int .i64 RX, .slice RY RZ Ra, .bool Rb, .int .i64 Rc], .slice xf n57 xg, (.func (.func 159) #[] #[(.pointer (aD b4 0)), (.pointer (aD b9 0))])] AF (AA R (fun z AH => ∃ Jz J0 J1 J2 J3 J4 J5 J6 Hc, z = (.tuple #[.agg #[.int .i64 Jz, .int .u64 J0, .slice J1 J2 J3, .slice J4 J5 J6], .int .i64 Hc]) ∧ R (.returned (.tuple #[.agg #[.int .i64 Jz, .int .u64 J0, .slice J1 J2 J3, .slice J4 J5 J6], .int .i64 Hc])) AH))) (LI .i64 AF b4 1 fun xh => Spec prog 128 #[.int .i64 xh] AF (AA R (CB fun t65 AH => Bo t65 (∃ J7 J8 J9 KA KB KC KD KE KF KG KH KI KJ KK, Aq AH b4 0 [.int .i64 J7, .int .i64 J8, .string J9, .slice KA KB KC, .int .i64 KD, .int .i64 KE, .int .i64 KF, .slice KG KH KI, .bool KJ, .int .i64 KK] ∧ LS AH b8 2 fun qC n69 qD => LS AH b9 2 fun xi xj xk => Spec prog 160 #[.pointer q0, .agg #[.int .i64 J7, .int .i64 J8, .string J9, .slice KA KB KC, .int .i64 KD, .int .i64 KE, .int .i64 KF, .slice KG KH KI, .bool KJ, .int .i64 KK], .slice qC n69 qD, .slice xi xj xk] AH (AA R (fun z AZ => ∃ KL KM KN KO KQ KR KS KT Jf, z = (.tuple #[.agg #[.int .i64 KL, .int .u64 KM, .slice KN KO KQ, .slice KR KS KT], .int .i64 Jf]) ∧ R (.returned (.tuple #[.agg #[.int .i64 KL, .int .u64 KM, .slice KN KO KQ, .slice KR KS KT], .int .i64 Jf])) AZ))) (∃ Re Rf Rh Ri Rj Rk Rl Rm Rn Ro Rp Rq Rt Ru, Aq AH b4 0 [.int .i64 Re, .int .i64 Rf, .string Rh, .slice Ri Rj Rk, .int .i64 Rl, .int .i64 Rm, .int .i64 Rn, .slice Ro Rp Rq, .bool Rt, .int .i64 Ru] ∧ LS AH b8 2 fun oI kP oJ => LS AH b9 2 fun xl xn xo => Spec prog 161 #[.pointer q0, .agg #[.int .i64 Re, .int .i64 Rf, .string Rh, .slice Ri Rj Rk, .int .i64 Rl, .int .i64 Rm, .int .i64 Rn, .slice Ro Rp Rq, .bool Rt, .int .i64 Ru], .slice oI kP oJ, .slice xl xn xo] AH (AA R (fun z AZ => ∃ KU KV KW KX KY KZ Ka Kb Rv, z = (.tuple #[.agg #[.int .i64 KU, .int .u64 KV, .slice KW KX KY, .slice KZ Ka Kb], .int .i64 Rv]) ∧ R (.returned (.tuple #[.agg #[.int .i64 KU, .int .u64 KV, .slice KW KX KY, .slice KZ Ka Kb], .int .i64 Rv])) AZ))))))))))) ∧ (Al (Hp.set σ b4 (.cells #[.int .i64 DY, .int .i64 CN, .string Da, .slice Dc De Dg, .int .i64 DZ, .int .i64 Dd, .int .i64 C5, .slice Dp Dh Dq, .bool C6, .int .i64 CY] 36 (0, 0))) fun b9 => Al (Hp.set (Hp.set σ b4 (.cells #[.int .i64 DY, .int .i64 CN, .string Da, .slice Dc De Dg, .int .i64 DZ, .int .i64 Dd, .int .i64 C5, .slice Dp Dh Dq, .bool C6, .int .i64 CY] 36 (0, 0))) b9 (.cells #[.int .i64 0, .int .u64 0, .slice none 0 0, .slice none 0 0] 93 (0, 0))) fun b8 => AJ prog (Instr.storeAt 93 (.pointer (aD b8 0)) (.agg #[.int .i64 GH, .int .u64 TI, .slice xR xS xT, .slice xU xV xW])) (Hp.set (Hp.set (Hp.set σ b4 (.cells #[.int .i64 DY, .int .i64 CN, .string Da, .slice Dc De Dg, .int .i64 DZ, .int .i64 Dd, .int .i64 C5, .slice Dp Dh Dq, .bool C6, .int .i64 CY] 36 (0, 0))) b9 (.cells #[.int .i64 0, .int .u64 0, .slice none 0 0, .slice none 0 0] 93 (0, 0))) b8 (.cells #[.int .i64 0, .int .u64 0, .slice none 0 0, .slice none 0 0] 93 (0, 0))) (fun _ y => Kp [DF] (Hp.set (Hp.set (Hp.set σ b4 (.cells #[.int .i64 DY, .int .i64 CN, .string Da, .slice Dc De Dg, .int .i64 DZ, .int .i64 Dd, .int .i64 C5, .slice Dp Dh Dq, .bool C6, .int .i64 CY] 36 (0, 0))) b9 (.cells #[.int .i64 0, .int .u64 0, .slice none 0 0, .slice none 0 0] 93 (0, 0))) b8 (.cells #[.int .i64 0, .int .u64 0, .slice none 0 0, .slice none 0 0] 93 (0, 0))) y ∧ AJ prog (Instr.storeAt 93 (.pointer (aD b9 0)) (.agg #[.int .i64 Qv, .int .u64 Wx, .slice xX xY xZ, .slice fD fE fF])) y (fun _ AF => LI .i64 AF b8 0 fun Ha => Br (Ha = 1) (LI .i64 AF b9 0 fun JA => Br (JA = 1) (∃ XN Q8 j9 kC kD kE kF kG kH kI kJ kK kL kM, Aq AF b4 0 [.int .i64 XN, .int .i64 Q8, .string j9, .slice kC kD kE, .int .i64 kF, .int .i64 kG, .int .i64 kH, .slice kI kJ kK, .bool kL, .int .i64 kM] ∧ LI .u64 AF b8 1 fun UA => LI .u64 AF b9 1 fun kN => Spec prog 156 #[.agg #[.int .i64 XN, .int .i64 Q8, .string j9, .slice kC kD kE, .int .i64 kF, .int .i64 kG, .int .i64 kH, .slice kI kJ kK, .bool kL, .int .i64 kM], .int .u64 UA, .int .u64 kN] AF (AA R (fun z AH => ∃ XO kO, z = (.tuple #[.int .u64 XO, .bool kO]) ∧ R (.returned (.tuple #[.agg #[.int .i64 1, .int .u64 XO, .slice none 0 0, .slice none 0 0], .int .i64 0])) AH))) (LI .i64 AF b8 0 fun oH => Br (oH = 1) (∃ OL Lf OM RC RD RE RF RG RH RI RJ RL RM RN, Aq AF b4 0 [.int .i64 OL, .int .i64 Lf, .string OM, .slice RC RD RE, .int .i64 RF, .int .i64 RG, .int .i64 RH, .slice RI RJ RL, .bool RM, .int .i64 RN] ∧ LS AF b9 2 fun xd n45 xe => Spec prog 157 #[.pointer q0, .agg #[.int .i64 OL, .int .i64 Lf, .string OM, .slice RC RD RE, .int .i64 RF, .int .i64 RG, .int .i64 RH, .slice RI RJ RL, .bool RM, .int .i64 RN], .slice xd n45 xe, (.func (.func 158) #[] #[(.pointer (aD b4 0)), (.pointer (aD b8 0))])] AF (AA R (fun z AH => ∃ Jr Js Jt Ju Jv Jw Jx Jy RO, z = (.tuple #[.agg #[.int .i64 Jr, .int .u64 Js, .slice Jt Ju Jv, .slice Jw Jx Jy], .int .i64 RO]) ∧ R (.returned (.tuple #[.agg #[.int .i64 Jr, .int .u64 Js, .slice Jt Ju Jv, .slice Jw Jx Jy], .int .i64 RO])) AH))) (LI .i64 AF b9 0 fun qB => Br (qB = 1) (∃ RP RQ RR RS RT RU RV RW RX RY RZ Ra Rb Rc, Aq AF b4 0 [.int .i64 RP, .int .i64 RQ, .string RR, .slice RS RT RU, .int .i64 RV, .int .i64 RW, .int .i64 RX, .slice RY RZ Ra, .bool Rb, .int .i64 Rc] ∧ LS AF b8 2 fun xf n57 xg => Spec prog 157 #[.pointer q0, .agg #[.int .i64 RP, .int .i64 RQ, .string RR, .slice RS RT RU, .int .i64 RV, .int .i64 RW, .int .i64 RX, .slice RY RZ Ra, .bool Rb, .int .i64 Rc], .slice xf n57 xg, (.func (.func 159) #[] #[(.pointer (aD b4 0)), (.pointer (aD b9 0))])] AF (AA R (fun z AH => ∃ Jz J0 J1 J2 J3 J4 J5 J6 Hc, z = (.tuple #[.agg #[.int .i64 Jz, .int .u64 J0, .slice J1 J2 J3, .slice J4 J5 J6], .int .i64 Hc]) ∧ R (.returned (.tuple #[.agg #[.int .i64 Jz, .int .u64 J0, .slice J1 J2 J3, .slice J4 J5 J6], .int .i64 Hc])) AH))) (LI .i64 AF b4 1 fun xh => Spec prog 128 #[.int .i64 xh] AF (AA R (CB fun t65 AH => Bo t65 (∃ J7 J8 J9 KA KB KC KD KE KF KG KH KI KJ KK, Aq AH b4 0 [.int .i64 J7, .int .i64 J8, .string J9, .slice KA KB KC, .int .i64 KD, .int .i64 KE, .int .i64 KF, .slice KG KH KI, .bool KJ, .int .i64 KK] ∧ LS AH b8 2 fun qC n69 qD => LS AH b9 2 fun xi xj xk => Spec prog 160 #[.pointer q0, .agg #[.int .i64 J7, .int .i64 J8, .string J9, .slice KA KB KC, .int .i64 KD, .int .i64 KE, .int .i64 KF, .slice KG KH KI, .bool KJ, .int .i64 KK], .slice qC n69 qD, .slice xi xj xk] AH (AA R (fun z AZ => ∃ KL KM KN KO KQ KR KS KT Jf, z = (.tuple #[.agg #[.int .i64 KL, .int .u64 KM, .slice KN KO KQ, .slice KR KS KT], .int .i64 Jf]) ∧ R (.returned (.tuple #[.agg #[.int .i64 KL, .int .u64 KM, .slice KN KO KQ, .slice KR KS KT], .int .i64 Jf])) AZ))) (∃ Re Rf Rh Ri Rj Rk Rl Rm Rn Ro Rp Rq Rt Ru, Aq AH b4 0 [.int .i64 Re, .int .i64 Rf, .string Rh, .slice Ri Rj Rk, .int .i64 Rl, .int .i64 Rm, .int .i64 Rn, .slice Ro Rp Rq, .bool Rt, .int .i64 Ru] ∧ LS AH b8 2 fun oI kP oJ => LS AH b9 2 fun xl xn xo => Spec prog 161 #[.pointer q0, .agg #[.int .i64 Re, .int .i64 Rf, .string Rh, .slice Ri Rj Rk, .int .i64 Rl, .int .i64 Rm, .int .i64 Rn, .slice Ro Rp Rq, .bool Rt, .int .i64 Ru], .slice oI kP oJ, .slice xl xn xo] AH (AA R (fun z AZ => ∃ KU KV KW KX KY KZ Ka Kb Rv, z = (.tuple #[.agg #[.int .i64 KU, .int .u64 KV, .slice KW KX KY, .slice KZ Ka Kb], .int .i64 Rv]) ∧ R (.returned (.tuple #[.agg #[.int .i64 KU, .int .u64 KV, .slice KW KX KY, .slice KZ Ka Kb], .int .i64 Rv])) AZ))))))))) (LI .i64 AF b8 0 fun oH => Br (oH = 1) (∃ OL Lf OM RC RD RE RF RG RH RI RJ RL RM RN, Aq AF b4 0 [.int .i64 OL, .int .i64 Lf, .string OM, .slice RC RD RE, .int .i64 RF, .int .i64 RG, .int .i64 RH, .slice RI RJ RL, .bool RM, .int .i64 RN] ∧ LS AF b9 2 fun xd n45 xe => Spec prog 157 #[.pointer q0, .agg #[.int .i64 OL, .int .i64 Lf, .string OM, .slice RC RD RE, .int .i64 RF, .int .i64 RG, .int .i64 RH, .slice RI RJ RL, .bool RM, .int .i64 RN], .slice xd n45 xe, (.func (.func 158) #[] #[(.pointer (aD b4 0)), (.pointer (aD b8 0))])] AF (AA R (fun z AH => ∃ Jr Js Jt Ju Jv Jw Jx Jy RO, z = (.tuple #[.agg #[.int .i64 Jr, .int .u64 Js, .slice Jt Ju Jv, .slice Jw Jx Jy], .int .i64 RO]) ∧ R (.returned (.tuple #[.agg #[.int .i64 Jr, .int .u64 Js, .slice Jt Ju Jv, .slice Jw Jx Jy], .int .i64 RO])) AH))) (LI .i64 AF b9 0 fun qB => Br (qB = 1) (∃ RP RQ RR RS RT RU RV RW RX RY RZ Ra Rb Rc, Aq AF b4 0 [.int .i64 RP, .int .i64 RQ, .string RR, .slice RS RT RU, .int .i64 RV, .int .i64 RW, .int .i64 RX, .slice RY RZ Ra, .bool Rb, .int .i64 Rc] ∧ LS AF b8 2 fun xf n57 xg => Spec prog 157 #[.pointer q0, .agg #[.int .i64 RP, .int .i64 RQ, .string RR, .slice RS RT RU, .int .i64 RV, .int .i64 RW, .int .i64 RX, .slice RY RZ Ra, .bool Rb, .int .i64 Rc], .slice xf n57 xg, (.func (.func 159) #[] #[(.pointer (aD b4 0)), (.pointer (aD b9 0))])] AF (AA R (fun z AH => ∃ Jz J0 J1 J2 J3 J4 J5 J6 Hc, z = (.tuple #[.agg #[.int .i64 Jz, .int .u64 J0, .slice J1 J2 J3, .slice J4 J5 J6], .int .i64 Hc]) ∧ R (.returned (.tuple #[.agg #[.int .i64 Jz, .int .u64 J0, .slice J1 J2 J3, .slice J4 J5 J6], .int .i64 Hc])) AH))) (LI .i64 AF b4 1 fun xh => Spec prog 128 #[.int .i64 xh] AF (AA R (CB fun t65 AH => Bo t65 (∃ J7 J8 J9 KA KB KC KD KE KF KG KH KI KJ KK, Aq AH b4 0 [.int .i64 J7, .int .i64 J8, .string J9, .slice KA KB KC, .int .i64 KD, .int .i64 KE, .int .i64 KF, .slice KG KH KI, .bool KJ, .int .i64 KK] ∧ LS AH b8 2 fun qC n69 qD => LS AH b9 2 fun xi xj xk => Spec prog 160 #[.pointer q0, .agg #[.int .i64 J7, .int .i64 J8, .string J9, .slice KA KB KC, .int .i64 KD, .int .i64 KE, .int .i64 KF, .slice KG KH KI, .bool KJ, .int .i64 KK], .slice qC n69 qD, .slice xi xj xk] AH (AA R (fun z AZ => ∃ KL KM KN KO KQ KR KS KT Jf, z = (.tuple #[.agg #[.int .i64 KL, .int .u64 KM, .slice KN KO KQ, .slice KR KS KT], .int .i64 Jf]) ∧ R (.returned (.tuple #[.agg #[.int .i64 KL, .int .u64 KM, .slice KN KO KQ, .slice KR KS KT], .int .i64 Jf])) AZ))) (∃ Re Rf Rh Ri Rj Rk Rl Rm Rn Ro Rp Rq Rt Ru, Aq AH b4 0 [.int .i64 Re, .int .i64 Rf, .string Rh, .slice Ri Rj Rk, .int .i64 Rl, .int .i64 Rm, .int .i64 Rn, .slice Ro Rp Rq, .bool Rt, .int .i64 Ru] ∧ LS AH b8 2 fun oI kP oJ => LS AH b9 2 fun xl xn xo => Spec prog 161 #[.pointer q0, .agg #[.int .i64 Re, .int .i64 Rf, .string Rh, .slice Ri Rj Rk, .int .i64 Rl, .int .i64 Rm, .int .i64 Rn, .slice Ro Rp Rq, .bool Rt, .int .i64 Ru], .slice oI kP oJ, .slice xl xn xo] AH (AA R (fun z AZ => ∃ KU KV KW KX KY KZ Ka Kb Rv, z = (.tuple #[.agg #[.int .i64 KU, .int .u64 KV, .slice KW KX KY, .slice KZ Ka Kb], .int .i64 Rv]) ∧ R (.returned (.tuple #[.agg #[.int .i64 KU, .int .u64 KV, .slice KW KX KY, .slice KZ Ka Kb], .int .i64 Rv])) AZ)))))))))))) : Spec prog 105 #[.pointer q0, .agg #[.int .i64 DY, .int .i64 CN, .string Da, .slice Dc De Dg, .int .i64 DZ, .int .i64 Dd, .int .i64 C5, .slice Dp Dh Dq, .bool C6, .int .i64 CY], .slice p2 n2 c2] σ R := M.start h ok
end C8
namespace Gk
variable {s0 : ByteArray} {x3 : Int}
def M : Fw := ⟨prog, 131, f131, [90], [], false, [], [], [(224, [(0, wT), (3, wI)])]⟩
theorem ok : M.Ok := ⟨.cons call90 (AG.nil), mixed, func131, by kernel_rfl⟩
def Hi := M.pt 0
theorem start (h : Hi R s0 0 σ) : Spec prog 131 #[.string s0] σ R := M.start h ok
theorem BD (h : Br (x3 < ((ByteArray.size s0 : Nat) : Int)) (∃ u11 : UInt8, 0 ≤ x3 ∧ (ByteArray.data s0)[Int.toNat x3]? = some u11 ∧ Spec prog 90 #[(.int .u8 ((UInt8.toNat u11 : Nat) : Int))] σ (AA R (CB fun t12 y => Bo t12 (AN (x3 + 1) ∧ Hi R s0 (x3 + 1) y) (R (.returned (.int .i64 x3)) y)))) (R (.returned (.int .i64 x3)) σ)) : Hi R s0 x3 σ := M.of h ok rfl
end Gk
namespace DK
variable {q0 : Option Addr}
def M : Fw := ⟨prog, 139, f139, [95], [], false, [], [], []⟩
theorem ok : M.Ok := ⟨.cons call95 (AG.nil), mixed, func139, by kernel_rfl⟩
theorem start (h : Spec prog 95 #[.pointer q0, (.func (.func 171) #[.pointer q0] #[]), .int .i64 5, .int .i64 10] σ (AA R (fun z y => z = (.tuple #[]) ∧ R (.returned (.tuple #[])) y))) : Spec prog 139 #[.pointer q0] σ R := M.start h ok
end DK
namespace B8
variable {s0 : ByteArray} {x1 : Int}
def M : Fw := ⟨prog, 169, f169, [], [], false, [], [], []⟩
theorem ok : M.Ok := ⟨AG.nil, mixed, func169, by kernel_rfl⟩
theorem start (h : EN prog 209 #[.string s0, .int .u8 x1] σ (CI .i64 fun x7 y => R (.returned (.int .i64 x7)) y)) : Spec prog 169 #[.string s0, .int .u8 x1] σ R := M.start h ok
end B8
namespace BB
variable {q0 p3 : Option Addr} {n3 c3 : Nat}
def M : Fw := ⟨prog, 170, f170, [135, 136, 210, 211], [], false, [], [], [(480, [(0, wQ), (3, wL)]), (965, [(0, wQ), (3, wL)])]⟩
theorem ok : M.Ok := ⟨.cons call135 (.cons call136 (.cons call210 (.cons call211 (AG.nil)))), mixed, func170, by kernel_rfl⟩
def CL := M.pt 0
def U6 := M.pt 1
theorem start (h : Spec prog 210 #[.pointer q0, (.string (ByteArray.mk #[40]))] σ (AA R (fun z y => z = (.tuple #[]) ∧ CL R q0 none 0 0 y))) : Spec prog 170 #[.pointer q0] σ R := M.start h ok
theorem BF (h : Spec prog 136 #[.pointer q0, .int .i64 5, (.string (ByteArray.mk #[41]))] σ (AA R (CB fun t7 y => Bn t7 (Br (0 < (n3 : Int)) (Spec prog 210 #[.pointer q0, (.string (ByteArray.mk #[44]))] y (AA R (fun z AF => z = (.tuple #[]) ∧ U6 R q0 p3 n3 c3 AF))) (U6 R q0 p3 n3 c3 y)) (Spec prog 135 #[.pointer q0] y (AA R (fun z AF => ∃ H4 U9 AJI AJJ, z = (.agg #[.int .i64 H4, .int .i64 U9, .string AJI, .int .i64 AJJ]) ∧ R (.returned (.slice p3 n3 c3)) AF)))))) : CL R q0 p3 n3 c3 σ := M.of h ok rfl
theorem QC (h : Spec prog 211 #[.pointer q0] σ (AA R (CT fun s16 y => Al y fun b17 => AJ prog (Builtin.append_ #[34, 34] 34 #[.slice p3 n3 c3, (.slice (aD b17 0) 1 1)]) (Hp.set y b17 (.cells #[.string s16] 9 (0, 0))) (CS fun p18 n18 c18 AF => CL R q0 p18 n18 c18 AF)))) : U6 R q0 p3 n3 c3 σ := M.of h ok rfl
end BB
namespace DL
variable {p0 : Option Addr} {n0 c0 : Nat}
def M : Fw := ⟨prog, 185, f185, [186], [], false, [], [], []⟩
theorem ok : M.Ok := ⟨.cons call186 (AG.nil), mixed, func185, by kernel_rfl⟩
theorem start (h : AN ((n0 : Int) - 1) ∧ Pq p0 fun b7 o7 => In (((n0 : Int) - 1)) (n0 : Int) ∧ LI .u64 σ b7 (o7 + Int.toNat ((n0 : Int) - 1) * 1) fun x8 => Spec prog 186 #[.int .u64 x8] σ (AA R (CI .u64 fun x9 y => R (.returned (.int .u64 x9)) y))) : Spec prog 185 #[.slice p0 n0 c0] σ R := M.start h ok
end DL
namespace DM
variable {p0 p1 : Option Addr} {n0 c0 n1 c1 : Nat}
def M : Fw := ⟨prog, 189, f189, [190], [], false, [], [], []⟩
theorem ok : M.Ok := ⟨.cons call190 (AG.nil), mixed, func189, by kernel_rfl⟩
theorem start (h : AN ((n0 : Int) - 1) ∧ Pq p0 fun b9 o9 => In (((n0 : Int) - 1)) (n0 : Int) ∧ LI .u64 σ b9 (o9 + Int.toNat ((n0 : Int) - 1) * 1) fun x10 => In 0 (n0 : Int) ∧ LI .u64 σ b9 o9 fun E8 => Spec prog 190 #[.int .u64 x10, .int .u64 E8] σ (AA R (CI .u64 fun Y6 y => R (.returned (.int .u64 Y6)) y))) : Spec prog 189 #[.slice p0 n0 c0, .slice p1 n1 c1] σ R := M.start h ok
end DM
end TwW
end
end
section
set_option maxRecDepth 100000
noncomputable section
namespace TwW
open Go Tw Go.Proofs.Tryz
variable [Ev] {R : Rr} {σ : Hp}

namespace dF
variable {E1 EW Pe Mz Hh JC : Int} {Pf : ByteArray} {T5 Q1 p1 : Option Addr} {TJ T6 QB Q2 n1 c1 : Nat} {MN : Bool}
def M : Fw := ⟨prog, 207, f207, [146, 149, 150], [2], false, [], [], []⟩
theorem ok : M.Ok := ⟨.cons call146 (.cons call149 (.cons call150 (AG.nil))), mixed, func207, by kernel_rfl⟩
theorem start (h : ∀ b2 : Nat, Br (Hh = 3) (Spec prog 149 #[.slice p1 n1 c1, .slice Q1 QB Q2] σ (AA R (CS fun LD n11 LF y => R (.returned (.slice LD n11 LF)) y))) (Spec prog 150 #[.slice p1 n1 c1, .slice Q1 QB Q2] σ (AA R (CS fun cz n15 W4 y => Spec prog 146 #[.slice cz n15 W4] y (AA R (CS fun cb n16 Ws AF => R (.returned (.slice cb n16 Ws)) AF)))))) : Spec prog 207 #[.agg #[.int .i64 E1, .int .i64 EW, .string Pf, .slice T5 TJ T6, .int .i64 Pe, .int .i64 Mz, .int .i64 Hh, .slice Q1 QB Q2, .bool MN, .int .i64 JC], .slice p1 n1 c1] σ R := M.start h ok
end dF
namespace Eb
variable {q0 : Option Addr}
def M : Fw := ⟨prog, 211, f211, [66, 67, 126, 135], [], false, [], [], [(14, [(0, wQ)])]⟩
theorem ok : M.Ok := ⟨.cons call66 (.cons call67 (.cons call126 (.cons call135 (AG.nil)))), mixed, func211, by kernel_rfl⟩
def Hi := M.pt 0
theorem start (h : Spec prog 66 #[.pointer q0] σ (AA R (fun z y => ∃ Fu Fa HH x4d, z = (.agg #[.int .i64 Fu, .int .i64 Fa, .string HH, .int .i64 x4d]) ∧ Br (Fu ≠ 3) (Spec prog 67 #[.pointer q0] y (AA R (fun z AF => z = (.tuple #[]) ∧ Hi R q0 AF))) (Spec prog 66 #[.pointer q0] y (AA R (fun z AF => ∃ x9a x9b s9c x9d, z = (.agg #[.int .i64 x9a, .int .i64 x9b, .string s9c, .int .i64 x9d]) ∧ Spec prog 126 #[.string s9c] AF (AA R (CB fun t11 AH => Bn t11 (Spec prog 67 #[.pointer q0] AH (AA R (fun z AZ => z = (.tuple #[]) ∧ Hi R q0 AZ))) (Hi R q0 AH))))))))) : Spec prog 211 #[.pointer q0] σ R := M.start h ok
theorem BD (h : Spec prog 135 #[.pointer q0] σ (AA R (fun z y => ∃ Qv Wx ji AJK, z = (.agg #[.int .i64 Qv, .int .i64 Wx, .string ji, .int .i64 AJK]) ∧ R (.returned (.string ji)) y))) : Hi R q0 σ := M.of h ok rfl
end Eb
namespace strings_Split
variable {s0 s1 : ByteArray}
end strings_Split
namespace FU
variable {p0 Dc Dp p2 : Option Addr} {n0 c0 De Dg Dh Dq n2 c2 b3 : Nat} {DY CN DZ Dd C5 CY : Int} {Da : ByteArray} {C6 : Bool}
def M : Fw := ⟨prog, 224, f224, [], [5], false, [], [], []⟩
theorem ok : M.Ok := ⟨AG.nil, mixed, func224, by kernel_rfl⟩
theorem start (h : ∀ b5 : Nat, ∃ v9, Hp.ld σ ⟨b3, 0, none⟩ = some v9 ∧ ∃ (f11 : Nat) (XP XQ : Array Value), v9 = .func (.func f11) XP XQ ∧ Enters prog f11 ∧ Spec prog f11 (XP ++ #[.slice p0 n0 c0] ++ XQ) σ (AA R (CI .u64 fun x11 y => R (.returned (.tuple #[.int .u64 x11, .bool true])) y))) : Spec prog 224 #[.slice p0 n0 c0, .agg #[.int .i64 DY, .int .i64 CN, .string Da, .slice Dc De Dg, .int .i64 DZ, .int .i64 Dd, .int .i64 C5, .slice Dp Dh Dq, .bool C6, .int .i64 CY], .slice p2 n2 c2, (.pointer (aD b3 0))] σ R := M.start h ok
end FU
namespace Ec
variable {q0 : Option Addr} {v1 : Value}
def M : Fw := ⟨prog, 251, f251, [66, 97, 135], [], false, [], [], [(6, [(0, wQ), (1, wV)])]⟩
theorem ok : M.Ok := ⟨.cons call66 (.cons call97 (.cons call135 (AG.nil))), mixed, func251, by kernel_rfl⟩
def oB := M.pt 0
theorem start (h : Pq q0 fun b5 o5 => LI .i64 σ b5 (o5 + 1) fun x7 => Br (x7 = 64) (Spec prog 66 #[(.pointer (aD b5 o5))] σ (AA R (fun z y => ∃ fL Pk fM qE, z = (.agg #[.int .i64 fL, .int .i64 Pk, .string fM, .int .i64 qE]) ∧ Spec prog 97 #[(.pointer (aD b5 o5)), .int .i64 182, .agg #[.int .i64 fL, .int .i64 Pk, .string fM, .int .i64 qE]] y (AA R (fun z AF => z = (.tuple #[]) ∧ oB R (aD b5 o5) v1 AF))))) (oB R (aD b5 o5) v1 σ)) : Spec prog 251 #[.pointer q0, v1] σ R := M.D2 h ok [(0, .o (.Q q0)), (1, .o (.V v1))] rfl rfl (by kernel_rfl)
theorem Q4 (h : Pq q0 fun BP P8 => LI .i64 σ BP (P8 + 1) fun x16 => AN (x16 + 1) ∧ AJ prog (Instr.storeAt 3 (.pointer (aD BP (P8 + 1))) (.int .i64 (x16 + 1))) σ (fun _ y => Spec prog 135 #[(.pointer (aD BP P8))] y (AA R (fun z AF => ∃ AJL AJM AJN AJO, z = (.agg #[.int .i64 AJL, .int .i64 AJM, .string AJN, .int .i64 AJO]) ∧ ∃ (f23 : Nat) (ta tc : Array Value), v1 = .func (.func f23) ta tc ∧ Enters prog f23 ∧ Spec prog f23 (ta ++ #[] ++ tc) AF (AA R (fun z AH => z = (.tuple #[]) ∧ LI .i64 AH BP (P8 + 1) fun JU => AN (JU - 1) ∧ AJ prog (Instr.storeAt 3 (.pointer (aD BP (P8 + 1))) (.int .i64 (JU - 1))) AH (fun _ AZ => R (.returned (.tuple #[])) AZ))))))) : oB R q0 v1 σ := M.of h ok rfl
end Ec
namespace Ed
variable {x0 : Int}
def M : Fw := ⟨prog, 302, f302, [], [], false, [], [], []⟩
theorem ok : M.Ok := ⟨AG.nil, mixed, func302, by kernel_rfl⟩
theorem start (h : Df (Go.bits .or .u8 x0 32) fun x4 => R (.returned (.int .u8 x4)) σ) : Spec prog 302 #[.int .u8 x0] σ R := M.start h ok
end Ed
namespace B9
variable {s0 s1 : ByteArray}
def M : Fw := ⟨prog, 315, f315, [], [], false, [], [], []⟩
theorem ok : M.Ok := ⟨AG.nil, mixed, func315, by kernel_rfl⟩
theorem start (h : Br ((((ByteArray.size s1 : Nat) : Int) : Int) ≤ ((ByteArray.size s0 : Nat) : Int)) (∃ s14, YF prog (Instr.sliceAt 9 (.string s0) none (some (.int .i64 ((ByteArray.size s1 : Nat) : Int))) none) σ (.string s14) ∧ R (.returned (.bool (ByteArray.toList s14 == ByteArray.toList s1))) σ) (R (.returned (.bool false)) σ)) : Spec prog 315 #[.string s0, .string s1] σ R := M.start h ok
end B9
end TwW
end
end
